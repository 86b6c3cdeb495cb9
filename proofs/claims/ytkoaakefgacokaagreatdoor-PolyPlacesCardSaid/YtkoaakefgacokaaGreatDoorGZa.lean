/- A region that draws its order: operations whose order is free are met once each, under an invariant that says what is known of those that are done. -/
import Derived.Test.YtkoaakefgacokaaGreatDoorGQo
import Derived.Test.YtkoaakefgacokaaGreatDoorGJa
set_option linter.unusedVariables false
set_option linter.unusedSimpArgs false
set_option maxRecDepth 100000
set_option maxHeartbeats 64000000
namespace Go.Proofs.YtkoaakefgacokaaGreatDoor
open Go
section
variable {P:Program} {md:Region.Mode} {ops:Array Oper} {Q:Exit→Act→World→Prop} {S:World→Prop}
def upD (D:Nat→Bool) (i k:Nat):Bool:=match Nat.beq k i with|true=>true|false=>D k
def upX (x:Nat→Value) (i:Nat) (v:Value) (k:Nat):Value:=match Nat.beq k i with|true=>v|false=>x k
def dstOf (ops:Array Oper) (i:Nat):Option Tmp:=(ops[i]?).bind (·.dst)
def puts (ops:Array Oper) (x:Nat→Value):List Nat→Act→Act
 | [],a=>a
 | i :: r,a=>puts ops x r (a.put (dstOf ops i) (x i))
def apartB (ops:Array Oper):List Nat→Bool
 | []=>true
 | i :: r=>r.all (fun j=>(j != i) && (match dstOf ops i with|some d=>dstOf ops j != some d|none=>true)) && apartB ops r
theorem upD_self (D:Nat→Bool) (i:Nat):upD D i i=true:=by simp [upD]
theorem beq_ne {i k:Nat} (h:k≠i):Nat.beq k i=false:=by cases hb:Nat.beq k i with|false=>rfl|true=>exact absurd (Nat.eq_of_beq_eq_true hb) h
theorem upD_ne (D:Nat→Bool) {i k:Nat} (h:k≠i):upD D i k=D k:=by simp only [upD,beq_ne h]
theorem upX_self (x:Nat→Value) (i:Nat) (v:Value):upX x i v i=v:=by simp [upX]
theorem upX_ne (x:Nat→Value) {i k:Nat} (v:Value) (h:k≠i):upX x i v k=x k:=by simp only [upX,beq_ne h]
theorem put_put (a:Act) (d:Option Tmp) (v u:Value):(a.put d v).put d u=a.put d u:=by
 cases d with
 | none=>rfl
 | some d=>simp [Act.put,Array.setIfInBounds_setIfInBounds]
theorem puts_put {x:Nat→Value} {v:Value} {d:Option Tmp}:∀(r:List Nat) (b:Act),(∀j ∈ r,∀e,d=some e→dstOf ops j≠some e)→(puts ops x r b).put d v=puts ops x r (b.put d v)
 | [],_,_=>rfl
 | j :: r,b,h=>by
  show (puts ops x r (b.put (dstOf ops j) (x j))).put d v=puts ops x r ((b.put d v).put (dstOf ops j) (x j))
  rw [puts_put r _ (fun k hk=>h k (List.mem_cons_of_mem _ hk)),←Act.put_comm b v (x j) (h j (List.mem_cons_self ..))]
theorem puts_upX {x:Nat→Value} {i:Nat} {v:Value}:∀(r:List Nat) (b:Act),i ∉ r→puts ops (upX x i v) r b=puts ops x r b
 | [],_,_=>rfl
 | j :: r,b,h=>by
  show puts ops (upX x i v) r (b.put (dstOf ops j) (upX x i v j))=puts ops x r (b.put (dstOf ops j) (x j))
  rw [puts_upX r _ (fun hh=>h (List.mem_cons_of_mem _ hh)),upX_ne x v (fun e=>h (by rw [e];exact List.mem_cons_self ..))]
theorem puts_step {x:Nat→Value} {i:Nat} {v:Value}:∀(E:List Nat) (a:Act),apartB ops E=true→i ∈ E→(puts ops x E a).put (dstOf ops i) v=puts ops (upX x i v) E a
 | [],_,_,h=>by cases h
 | j :: r,a,hp,h=>by
  simp only [apartB,Bool.and_eq_true,List.all_eq_true] at hp
  show (puts ops x r (a.put (dstOf ops j) (x j))).put (dstOf ops i) v=puts ops (upX x i v) r (a.put (dstOf ops j) (upX x i v j))
  by_cases hji:j=i
  ·subst hji
   have hn:j ∉ r:=fun hh=>by have:=(hp.1 j hh).1;simp at this
   rw [puts_put r _ (fun k hk e he=>by have:=(hp.1 k hk).2;rw [he] at this;simpa using this),put_put,puts_upX r _ hn,upX_self]
  ·rcases List.mem_cons.1 h with rfl|h
   ·exact absurd rfl hji
   ·rw [upX_ne x v hji];exact puts_step r _ hp.2 h
def ownX (ops:Array Oper) (a:Act) (i:Nat):Value:=match dstOf ops i with|some d=>a.tmps.getD d undef|none=>undef
theorem put_own (a:Act) (i:Nat):a.put (dstOf ops i) (ownX ops a i)=a:=by
 unfold ownX
 cases dstOf ops i with
 | none=>rfl
 | some d=>
  cases a with
  | mk t df=>
   simp only [Act.put,Act.mk.injEq,and_true]
   apply Array.ext_getElem?
   intro k
   by_cases hk:d=k
   ·subst hk
    by_cases hd:d<t.size
    ·simp [hd]
    ·simp [hd]
   ·simp [Array.getElem?_setIfInBounds_ne hk]
theorem puts_own:∀(E:List Nat) (a:Act),puts ops (ownX ops a) E a=a
 | [],_=>rfl
 | i :: r,a=>by
  show puts ops (ownX ops a) r (a.put (dstOf ops i) (ownX ops a i))=a
  rw [put_own];exact puts_own r a
def bindsOn (md:Region.Mode) (o:Oper) (j:Nat):Bool:=o.after.any fun e=>Region.binds md e && decide (e.on=j)
def forced (md:Region.Mode) (ops:Array Oper) (E:List Nat):Nat→Nat→Nat→Bool
 | 0,_,_=>false
 | n+1,k,j=>match ops[k]? with|some o=>bindsOn md o j || E.any (fun i=>bindsOn md o i && forced md ops E n i j)|none=>false
theorem forced_on {l:Array Bool} {E:List Nat} (hcl:∀i ∈ E,l.getD i true=true→∀o,ops[i]?=some o→∀e ∈ o.after,Region.binds md e=true→l.getD e.on false=true):∀(n k j:Nat),(∀o,ops[k]?=some o→∀e ∈ o.after,Region.binds md e=true→l.getD e.on false=true)→forced md ops E n k j=true→l.getD j false=true
 | 0,_,_,_,h=>by cases h
 | n+1,k,j,hk,h=>by
  unfold forced at h
  cases ho:ops[k]? with
  | none=>rw [ho] at h;cases h
  | some o=>
   rw [ho] at h
   have hb:∀i,bindsOn md o i=true→l.getD i false=true:=fun i hi=>by
    obtain⟨e,he,h2⟩:=Array.any_eq_true'.1 hi;rw [Bool.and_eq_true,decide_eq_true_eq] at h2;rw [←h2.2];exact hk o ho e he h2.1
   rw [Bool.or_eq_true] at h
   rcases h with h|h
   ·exact hb j h
   ·obtain⟨i,hi,h2⟩:=List.any_eq_true.1 h
    rw [Bool.and_eq_true] at h2;have h3:=hb i h2.1;refine forced_on hcl n i j (hcl i hi ?_) h2.2
    have hlt:i<l.size:=by
     rcases Nat.lt_or_ge i l.size with h'|h'
     ·exact h'
     ·simp [Array.getElem?_eq_none h'] at h3
    simp [hlt] at h3 ⊢;exact h3
def freeB (md:Region.Mode) (ops:Array Oper) (l0:Array Bool) (E:List Nat):Bool:=
 decide (l0.size=ops.size) && apartB ops E && (E.all fun i=>decide (i<ops.size) && !(l0.getD i true)) &&
 ((List.range ops.size).all fun k=>E.contains k || l0.getD k true || match ops[k]? with|some o=>(E.all fun j=>forced md ops E (E.length+1) k j) || o.after.any (fun e=>Region.binds md e && !(E.contains e.on) && !(l0.getD e.on false))|none=>true) &&
 (E.all fun i=>match ops[i]? with|some o=>o.after.all (fun e=>!(Region.binds md e) || l0.getD e.on false || (E.contains e.on && decide (e.on<i)))|none=>false)
def allOf (E:List Nat) (l0:Array Bool):Array Bool:=E.foldl (fun l i=>l.setIfInBounds i true) l0
theorem allOf_size (E:List Nat):∀l0,(allOf E l0).size=l0.size:=by
 induction E with
 | nil=>intro l0;rfl
 | cons i r ih=>intro l0;show (allOf r (l0.setIfInBounds i true)).size=_;rw [ih];simp
theorem allOf_get (E:List Nat):∀(l0:Array Bool) (k:Nat),k<l0.size→(allOf E l0)[k]?=if k ∈ E then some true else l0[k]?:=by
 induction E with
 | nil=>intro l0 k _;rfl
 | cons i r ih=>
  intro l0 k hk
  show (allOf r (l0.setIfInBounds i true))[k]?=_
  rw [ih _ k (by simpa using hk)]
  by_cases hr:k ∈ r
  ·simp [hr]
  ·by_cases hi:k=i
   ·subst hi;simp [hr,hk]
   ·simp [hr,hi,Array.getElem?_setIfInBounds_ne (Ne.symm hi)]
def Met (P:Program) (md:Region.Mode) (ops:Array Oper) (Q:Exit→Act→World→Prop) (S:World→Prop) (J:(Nat→Bool)→(Nat→Value)→World→Prop) (E:List Nat) (a0:Act) (i:Nat):Prop:=
 ∀(D:Nat→Bool) (x:Nat→Value) (w:World),S w→J D x w→D i=false→(∀o,ops[i]?=some o→∀e ∈ o.after,Region.binds md e=true→e.on ∈ E→D e.on=true)→wpOp P ops Q i (fun a' w'=>S w'∧∃v,a'=(puts ops x E a0).put (dstOf ops i) v∧J (upD D i) (upX x i v) w') (puts ops x E a0) w
theorem Met.mk {J:(Nat→Bool)→(Nat→Value)→World→Prop} {E:List Nat} {a0:Act} {i:Nat} {o:Oper} (ds:List Nat) (d:Option Tmp) (ho:ops[i]?=some o) (hd:o.dst=d) (hds:(ds.all fun j=>E.contains j && bindsOn md o j)=true) (h:∀(D:Nat→Bool) (x:Nat→Value) (w:World),S w→J D x w→D i=false→(∀j ∈ ds,D j=true)→∀K':Act→World→Prop,Shut (∀v a' w',a'=(puts ops x E a0).put d v→S w'→(S w'→J (upD D i) (upX x i v) w')→K' a' w')→if Region.wanted o (yielded ops (puts ops x E a0).tmps)=true then Oper.wp P o (puts ops x E a0) w K' Q else K' ((puts ops x E a0).put d undef) w):Met P md ops Q S J E a0 i:=by
 subst hd;intro D x w hS hJ hD hdeps;refine wpOp_step ho (fun K' hK=>h D x w hS hJ hD (fun j hj=>?_) K' (fun v a' w' ha hS' hJ'=>hK a' w' ⟨hS',v,by rw [ha];simp [dstOf,ho],hJ' hS'⟩));have h1:=List.all_eq_true.1 hds j hj;rw [Bool.and_eq_true] at h1;obtain⟨e,he,h2⟩:=Array.any_eq_true'.1 h1.2;rw [Bool.and_eq_true] at h2;have h3:e.on=j:=of_decide_eq_true h2.2;rw [←h3];exact hdeps o ho e he h2.1 (by rw [h3];simpa using h1.1)
theorem cnt_pos {p:Nat→Bool} {E:List Nat} {n:Nat} (h:(E.filter p).length=n+1):∃i ∈ E,p i=true:=by
 cases hf:E.filter p with
 | nil=>rw [hf] at h;cases h
 | cons i r=>
  have:i ∈ E.filter p:=by rw [hf];exact List.mem_cons_self ..
  exact⟨i,(List.mem_filter.1 this).1,(List.mem_filter.1 this).2⟩
theorem count_set {l:Array Bool} {i:Nat}:∀ {E:List Nat} {n:Nat},apartB ops E=true→i ∈ E→i<l.size→l.getD i true=false→(E.filter fun k=>!(l.getD k true)).length=n+1→(E.filter fun k=>!((l.setIfInBounds i true).getD k true)).length=n:=by
 intro E
 induction E with
 | nil=>intro n _ h;cases h
 | cons j r ih=>
  intro n hp hi hsz hl hc
  simp only [apartB,Bool.and_eq_true,List.all_eq_true] at hp
  by_cases hji:j=i
  ·subst hji
   have hn:∀k ∈ r,k≠j:=fun k hk e=>by have:=(hp.1 k hk).1;simp [e] at this
   have e1:(r.filter fun k=>!((l.setIfInBounds j true).getD k true))=r.filter fun k=>!(l.getD k true):=
    List.filter_congr fun k hk=>by rw [Go.getD_set_ne true (Ne.symm (hn k hk))]
   rw [List.filter_cons_of_neg (by simp [hsz]),e1];rw [List.filter_cons_of_pos (by simp [hl])] at hc
   simpa using hc
  ·rcases List.mem_cons.1 hi with rfl|hi
   ·exact absurd rfl hji
   by_cases hj:l.getD j true=true
   ·rw [List.filter_cons_of_neg (by simp [hj])] at hc
    rw [List.filter_cons_of_neg (by rw [Go.getD_set_ne true (Ne.symm hji)];simp [hj])];exact ih hp.2 hi hsz hl hc
   ·have hj':l.getD j true=false:=by simpa using hj
    rw [List.filter_cons_of_pos (by simp [hj'])] at hc;rw [List.filter_cons_of_pos (by rw [Go.getD_set_ne true (Ne.symm hji)];simp [hj'])]
    cases n with
    | zero=>
     have h0:(r.filter fun k=>!(l.getD k true))=[]:=List.eq_nil_of_length_eq_zero (by simpa using hc)
     have:i ∈ r.filter fun k=>!(l.getD k true):=List.mem_filter.2 ⟨hi,by simp [hl]⟩
     rw [h0] at this;cases this
    | succ n=>
     have h9:=ih (n:=n) hp.2 hi hsz hl (by simpa using hc);rw [List.length_cons,h9]
theorem inv_go {J:(Nat→Bool)→(Nat→Value)→World→Prop} {E:List Nat} {a0:Act} {l0:Array Bool} {m:Nat} (hE:freeB md ops l0 E=true) (hm:∀i ∈ E,Met P md ops Q S J E a0 i) (hf:∀(D:Nat→Bool) (x:Nat→Value) (w:World),(∀i ∈ E,D i=true)→S w→J D x w→wpAnyH P md ops Q S m (allOf E l0) (puts ops x E a0) w):∀(n:Nat) (l:Array Bool) (x:Nat→Value) (w:World),l.size=ops.size→(∀k,k ∉ E→l[k]?=l0[k]?)→(E.filter fun k=>!(l.getD k true)).length=n→(∀i ∈ E,l.getD i true=true→∀o,ops[i]?=some o→∀e ∈ o.after,Region.binds md e=true→l.getD e.on false=true)→S w→J (fun k=>l.getD k false) x w→wpAnyH P md ops Q S (m+n) l (puts ops x E a0) w:=by
 simp only [freeB,Bool.and_eq_true,decide_eq_true_eq,List.all_eq_true] at hE
 obtain⟨⟨⟨⟨hsz0,hap⟩,hin⟩,hout⟩,hord⟩:=hE;intro n
 induction n with
 | zero=>
  intro l x w hsz hag hc hcl hS hJ
  have hall:∀i ∈ E,l.getD i true=true:=by
   intro i hi;have h0:=List.eq_nil_of_length_eq_zero hc;have h1:i ∉ E.filter fun k=>!(l.getD k true):=by rw [h0];simp
   rw [List.mem_filter] at h1
   simpa [hi] using h1
  have hl:∀i ∈ E,l[i]?=some true:=by
   intro i hi;have h1:i<l.size:=by rw [hsz];exact(hin i hi).1
   have h2:=hall i hi
   simp [h1] at h2 ⊢
   exact h2
  have he:l=allOf E l0:=by
   apply Array.ext_getElem?
   intro k
   by_cases hk:k<l0.size
   ·rw [allOf_get E l0 k hk]
    by_cases hkE:k ∈ E
    ·rw [if_pos hkE];exact hl k hkE
    ·rw [if_neg hkE];exact hag k hkE
   ·rw [Array.getElem?_eq_none (by rw [hsz,←hsz0];omega),Array.getElem?_eq_none (by rw [allOf_size];omega)]
  have h:=hf (fun k=>l.getD k false) x w (fun i hi=>by simp [hl i hi]) hS hJ;rw [←he] at h;exact h
 | succ n ih=>
  intro l x w hsz hag hc hcl hS hJ;refine⟨fun h0=>?_,fun i hi=>?_⟩
  ·exfalso
   obtain⟨i,hi,hiu⟩:=cnt_pos hc;have hiu':l.getD i true=false:=by simpa using hiu
   clear hc hiu
   induction i using Nat.strongRecOn with
   | _ i hrec=>
    have ho:=hord i hi
    cases hoi:ops[i]? with
    | none=>rw [hoi] at ho;cases ho
    | some o=>
     rw [hoi] at ho
     have hready:i ∈ Region.ready md ops l:=by
      rw [mem_ready];refine⟨hiu',o,hoi,fun e he hb=>?_⟩;rw [Array.all_eq_true_iff_forall_mem] at ho;have h1:=ho e he;rw [hb] at h1
      simp only [Bool.not_true,Bool.false_or,Bool.or_eq_true,Bool.and_eq_true,decide_eq_true_eq] at h1
      rcases h1 with h1|⟨h1,h2⟩
      ·by_cases hkE:e.on ∈ E
       ·have:=(hin _ hkE).2
        have h3:e.on<l0.size:=by rw [hsz0];exact(hin _ hkE).1
        simp [h3] at this h1
        rw [h1] at this;cases this
       ·have:=hag _ hkE
        simp only [Array.getD_eq_getD_getElem?] at h1 ⊢
        rw [this];exact h1
      ·have hkE:e.on ∈ E:=by simpa using h1
       rcases Bool.eq_false_or_eq_true (l.getD e.on true) with h4|h4
       ·have h3:e.on<l.size:=by rw [hsz];exact(hin _ hkE).1
        simp [h3] at h4 ⊢;exact h4
       ·exact(hrec e.on h2 hkE h4).elim
     rw [h0] at hready;cases hready
  ·obtain⟨hiu,o,hoi,hall⟩:=mem_ready.1 hi
   have hiE:i ∈ E:=by
    by_cases hiE:i ∈ E
    ·exact hiE
    exfalso
    have hlt:i<ops.size:=(Array.getElem?_eq_some_iff.1 hoi).1;have h1:=hout i (List.mem_range.2 hlt)
    have h0:l0.getD i true=false:=by
     have:=hag i hiE
     simp only [Array.getD_eq_getD_getElem?] at hiu ⊢
     rw [←this];exact hiu
    rw [h0,hoi] at h1
    simp only [Bool.or_false,Bool.or_eq_true,List.contains_iff_mem] at h1
    rcases h1 with h1|h1|h1
    ·exact hiE h1
    ·obtain⟨j,hj,hju⟩:=cnt_pos hc
     have h2:=List.all_eq_true.1 h1 j hj;have h4:=forced_on hcl _ _ _ (fun o' ho' e he hb=>by rw [hoi] at ho';cases ho';exact hall e he hb) h2;have h5:j<l.size:=by rw [hsz];exact(hin _ hj).1
     simp [h5] at h4 hju
     rw [h4] at hju;cases hju
    ·obtain⟨e,he,h3⟩:=Array.any_eq_true'.1 h1
     simp only [Bool.and_eq_true,Bool.not_eq_true'] at h3
     have h4:=hall e he h3.1.1;have h5:e.on ∉ E:=by simpa using h3.1.2
     have:=hag _ h5
     have h6:=h3.2
     simp only [Array.getD_eq_getD_getElem?] at h4 h6
     rw [this,h6] at h4;cases h4
   have hlt:i<l.size:=by rw [hsz];exact(hin _ hiE).1
   have hD:l.getD i false=false:=by simp [hlt] at hiu ⊢;exact hiu
   refine wpOp_mono ?_ (hm i hiE (fun k=>l.getD k false) x w hS hJ hD (fun o' ho' e he hb _=>by rw [hoi] at ho';cases ho';exact hall e he hb));rintro a' w' ⟨hS',v,rfl,hJ'⟩;refine⟨hS',?_⟩;rw [puts_step E a0 hap hiE];refine ih _ _ _ (by simpa using hsz) (fun k hk=>?_) (count_set hap hiE hlt hiu hc) (fun k hk hlk o' ho' e he hb=>?_) hS' ?_
   ·rw [Array.getElem?_setIfInBounds_ne (fun e=>hk (by rw [←e];exact hiE))];exact hag k hk
   ·by_cases hki:k=i
    ·subst hki
     rw [hoi] at ho';cases ho';exact getD_set_true (hall e he hb)
    ·rw [Go.getD_set_ne true (Ne.symm hki)] at hlk
     exact getD_set_true (hcl k hk hlk o' ho' e he hb)
   ·have:(fun k=>(l.setIfInBounds i true).getD k false)=upD (fun k=>l.getD k false) i:=by
     funext k
     by_cases hk:k=i
     ·subst hk;rw [upD_self];simp [hlt]
     ·rw [upD_ne _ hk,Go.getD_set_ne false (Ne.symm hk)]
    rw [this];exact hJ'
theorem free_p {J:(Nat→Bool)→(Nat→Value)→World→Prop} (E:List Nat) (m:Nat) {n:Nat} {a0:Act} {l0:Array Bool} {w:World} (hn:n=m+E.length) (hE:freeB md ops l0 E=true) (hS:S w) (h0:∀(D:Nat→Bool) (x:Nat→Value),(∀i ∈ E,D i=false)→J D x w) (hm:∀i ∈ E,Met P md ops Q S J E a0 i) (hf:∀(D:Nat→Bool) (x:Nat→Value) (w:World),(∀i ∈ E,D i=true)→S w→J D x w→wpAnyH P md ops Q S m (allOf E l0) (puts ops x E a0) w):wpAnyH P md ops Q S n l0 a0 w:=by
 have hE':=hE
 simp only [freeB,Bool.and_eq_true,decide_eq_true_eq,List.all_eq_true] at hE'
 obtain⟨⟨⟨⟨hsz0,hap⟩,hin⟩,hout⟩,hord⟩:=hE';have hin':∀i ∈ E,l0.getD i true=false:=fun i hi=>by have:=(hin i hi).2;simpa using this
 have h:=inv_go (m:=m) hE hm hf (E.filter fun k=>!(l0.getD k true)).length l0 (ownX ops a0) w hsz0 (fun _ _=>rfl) rfl (fun i hi hl=>by rw [hin' i hi] at hl;cases hl) hS (h0 _ _ (fun i hi=>by
  have h1:=hin' i hi;have h2:i<l0.size:=by rw [hsz0];exact(hin i hi).1
  simp [h2] at h1 ⊢;exact h1))
 rw [puts_own,List.filter_eq_self.2 (fun i hi=>by simp [hin' i hi])] at h;rw [hn];exact h
theorem met_nil {J:(Nat→Bool)→(Nat→Value)→World→Prop} {E:List Nat} {a0:Act}:∀i ∈ ([]:List Nat),Met P md ops Q S J E a0 i:=fun _ h=>by cases h
theorem met_cons {J:(Nat→Bool)→(Nat→Value)→World→Prop} {E:List Nat} {a0:Act} {i:Nat} {r:List Nat} (h:Met P md ops Q S J E a0 i) (hr:∀i ∈ r,Met P md ops Q S J E a0 i):∀j ∈ i :: r,Met P md ops Q S J E a0 j:=fun j hj=>by
 rcases List.mem_cons.1 hj with rfl|hj
 ·exact h
 ·exact hr j hj
def putsL (x:Nat→Value):List (Nat × Tmp)→Act→Act
 | [],a=>a
 |(i,d) :: r,a=>putsL x r (a.put (some d) (x i))
def slotsB (ops:Array Oper) (F:List (Nat × Tmp)):Bool:=F.all fun p=>match dstOf ops p.1 with|some d=>decide (d=p.2)|none=>false
theorem puts_of {x:Nat→Value}:∀(F:List (Nat × Tmp)) (a:Act),slotsB ops F=true→puts ops x (F.map (·.1)) a=putsL x F a
 | [],_,_=>rfl
 |(i,d) :: r,a,h=>by
  simp only [slotsB,List.all_cons,Bool.and_eq_true] at h
  have h1:dstOf ops i=some d:=by
   have:=h.1
   cases hd:dstOf ops i with
   | none=>rw [hd] at this;cases this
   | some e=>rw [hd] at this;simp only [decide_eq_true_eq] at this;rw [this]
  show puts ops x (r.map (·.1)) (a.put (dstOf ops i) (x i))=putsL x r (a.put (some d) (x i))
  rw [h1];exact puts_of r _ h.2
def Fc (b:Bool) (p:Prop):Prop:=b=true→p
theorem Fc.off {b:Bool} {p:Prop} (h:b=false):Fc b p:=fun e=>by rw [h] at e;cases e
theorem Fc.on {b:Bool} {p:Prop} (h:p):Fc b p:=fun _=>h
theorem Fc.map {b:Bool} {p q:Prop} (f:p→q) (h:Fc b p):Fc b q:=fun e=>f (h e)
theorem Fc.get {b:Bool} {p:Prop} (h:Fc b p) (e:b=true):p:=h e
theorem free_q {J:(Nat→Bool)→(Nat→Value)→World→Prop} (F:List (Nat × Tmp)) (m:Nat) {n:Nat} {a0:Act} {l0:Array Bool} {w:World} (hn:n=m+(F.map (·.1)).length) (hE:freeB md ops l0 (F.map (·.1))=true) (hF:slotsB ops F=true) (hS:S w) (h0:∀(D:Nat→Bool) (x:Nat→Value),(∀i ∈ F.map (·.1),D i=false)→J D x w) (hm:∀i ∈ F.map (·.1),Met P md ops Q S J (F.map (·.1)) a0 i) (hf:∀(D:Nat→Bool) (x:Nat→Value) (w:World),(∀i ∈ F.map (·.1),D i=true)→S w→J D x w→wpAnyH P md ops Q S m (allOf (F.map (·.1)) l0) (putsL x F a0) w):wpAnyH P md ops Q S n l0 a0 w:=
 free_p (F.map (·.1)) m hn hE hS h0 hm (fun D x w h1 h2 h3=>by rw [puts_of F a0 hF];exact hf D x w h1 h2 h3)
theorem Met.mq {J:(Nat→Bool)→(Nat→Value)→World→Prop} {F:List (Nat × Tmp)} {a0:Act} {i:Nat} {o:Oper} (ds:List Nat) (d:Tmp) (ho:ops[i]?=some o) (hd:o.dst=some d) (hF:slotsB ops F=true) (hds:(ds.all fun j=>(F.map (·.1)).contains j && bindsOn md o j)=true) (h:∀(D:Nat→Bool) (x:Nat→Value) (w:World),S w→J D x w→D i=false→(∀j ∈ ds,D j=true)→∀K':Act→World→Prop,Shut (∀v a' w',a'=(putsL x F a0).put (some d) v→S w'→(S w'→J (upD D i) (upX x i v) w')→K' a' w')→if Region.wanted o (yielded ops (putsL x F a0).tmps)=true then Oper.wp P o (putsL x F a0) w K' Q else K' ((putsL x F a0).put (some d) undef) w):Met P md ops Q S J (F.map (·.1)) a0 i:=by
 refine Met.mk ds (some d) ho hd hds (fun D x w h1 h2 h3 h4 K' h5=>?_);rw [puts_of F a0 hF] at h5 ⊢;exact h D x w h1 h2 h3 h4 K' h5
end
end Go.Proofs.YtkoaakefgacokaaGreatDoor
namespace Go.Proofs.YtkoaakefgacokaaGreatDoor
theorem int_ne {D:Int} (h:D≠0):(D:Rat)≠0:=fun e=>h (Rat.intCast_inj.1 (e.trans Rat.intCast_zero.symm))
theorem den_num (q:Rat):q*(q.den:Rat)=(q.num:Rat):=by
 have h4:(q.den:Rat)≠0:=fun e=>q.den_nz (Rat.natCast_eq_zero_iff.1 e);have h5:=Rat.mul_inv_cancel (q.den:Rat) h4;have h:=Rat.num_divInt_den q;rw [Rat.divInt_eq_div,Rat.div_def,Rat.intCast_natCast] at h;have h7:q*(q.den:Rat)=((q.num:Rat)*(q.den:Rat)⁻¹)*(q.den:Rat):=congrArg (·*(q.den:Rat)) h.symm;rw [h7];grind
theorem bq_of_mul {a:Nat} {q:Rat} {D n:Int} (hD:D≠0) (h:q*(D:Rat)=(n:Rat)) (h1:D.natAbs<2 ^ a) (h2:n.natAbs<2 ^ a):Bq a q:=by
 have e:q.num*D=n*(q.den:Int):=by
  have h3:=den_num q
  apply Rat.intCast_inj.1
  rw [Rat.intCast_mul,Rat.intCast_mul,←h3,←h,Rat.intCast_natCast]
  grind
 have hc:Nat.Coprime q.num.natAbs q.den:=q.reduced
 have e2:q.num.natAbs*D.natAbs=n.natAbs*q.den:=by
  have:=congrArg Int.natAbs e
  rwa [Int.natAbs_mul,Int.natAbs_mul,Int.natAbs_natCast] at this
 have hd:q.den ∣ D.natAbs:=hc.symm.dvd_of_dvd_mul_left ⟨n.natAbs,by rw [e2,Nat.mul_comm]⟩;have hn:q.num.natAbs ∣ n.natAbs:=hc.dvd_of_dvd_mul_right ⟨D.natAbs,by rw [e2]⟩;refine⟨?_,Nat.lt_of_le_of_lt (Nat.le_of_dvd (by omega) hd) h1⟩
 rcases Nat.eq_zero_or_pos n.natAbs with h0|h0
 ·rw [h0,Nat.zero_mul] at e2
  rcases Nat.mul_eq_zero.1 e2 with h3|h3
  ·rw [h3];omega
  ·omega
 ·exact Nat.lt_of_le_of_lt (Nat.le_of_dvd h0 hn) h2
theorem HF.bq {a:Nat} {p:List Rat} (h:HF a p):∀x ∈ p,Bq a x:=by
 obtain⟨D,n,h0,h1,h2⟩:=h;intro x hx;obtain⟨i,hi⟩:=List.getElem?_of_mem hx;have e:co p i=x:=by unfold co;rw [hi];rfl
 rw [←e];exact bq_of_mul h0 (h2 i).1 h1 (h2 i).2
theorem HF.sm {a M:Nat} {p:List Rat} (h:HF a p) (k:a≤M):smB M p=true:=of_sm fun x hx=>(h.bq x hx).mono k
theorem HF.nil {a:Nat} (h:0<a):HF a []:=⟨1,fun _=>0,by decide,Nat.one_lt_two_pow (by omega),fun i=>⟨by show (0:Rat)*1=0;grind,Nat.pow_pos (by decide)⟩⟩
theorem HF.eqv {a:Nat} {p q:List Rat} (h:HF a p) (e:∀i,co q i=co p i):HF a q:=by
 obtain⟨D,n,h0,h1,h2⟩:=h;exact⟨D,n,h0,h1,fun i=>by rw [e];exact h2 i⟩
theorem HF.pos {a:Nat} {p:List Rat} (h:HF a p):0<a:=by
 obtain⟨D,n,h0,h1,-⟩:=h
 rcases Nat.eq_zero_or_pos a with e|e
 ·rw [e] at h1;omega
 ·exact e
theorem HF.cons {a M:Nat} {p:List Rat} {c:Rat} (h:HF a p) (hc:Bq M c):HF (a+M) (c :: p):=by
 obtain⟨D,n,h0,h1,h2⟩:=h;have hp:2 ^ (a+M)=2 ^ a*2 ^ M:=Nat.pow_add ..;have hden:0<c.den:=Nat.pos_of_ne_zero c.den_nz;have h3:=den_num c;refine⟨D*c.den,fun i=>match i with|0=>c.num*D|i+1=>n i*c.den,Int.mul_ne_zero h0 (by omega),?_,fun i=>?_⟩
 ·rw [Int.natAbs_mul,hp,Int.natAbs_natCast]
  exact Nat.mul_lt_mul'' h1 hc.2
 ·match i with
  | 0=>
   refine⟨?_,?_⟩
   ·show c*((D*c.den:Int):Rat)=((c.num*D:Int):Rat)
    rw [Rat.intCast_mul,Rat.intCast_mul,←h3,Rat.intCast_natCast];grind
   ·show (c.num*D).natAbs<_
    rw [Int.natAbs_mul,hp,Nat.mul_comm (2 ^ a)];exact Nat.mul_lt_mul'' hc.1 h1
  | i+1=>
   refine⟨?_,?_⟩
   ·show co p i*((D*c.den:Int):Rat)=((n i*c.den:Int):Rat)
    rw [Rat.intCast_mul,Rat.intCast_mul,←(h2 i).1];grind
   ·show (n i*(c.den:Int)).natAbs<_
    rw [Int.natAbs_mul,hp,Int.natAbs_natCast];exact Nat.mul_lt_mul'' (h2 i).2 hc.2
theorem hf_of_bq {M:Nat}:∀p:List Rat,(∀c ∈ p,Bq M c)→HF (p.length*M+1) p
 | [],_=>HF.nil (by omega)
 | c :: p,h=>by
  have h1:=(hf_of_bq p fun c hc=>h c (List.mem_cons_of_mem _ hc)).cons (h c (List.mem_cons_self ..));exact h1.mono (by rw [List.length_cons,Nat.add_mul];omega)
theorem HF.trim {a:Nat} {p:List Rat} (h:HF a p):HF a (trimF p):=h.eqv (co_trim p)
theorem HF.monic {a:Nat} {p:List Rat} (h:HF a p):HF a (monicF p):=by
 rcases Nat.eq_zero_or_pos (dgF p) with h3|h3
 ·rw [mon_nil h3];exact HF.nil h.pos
 obtain⟨D,n,h0,h1,h2⟩:=h;have ht:=dg_top h3;have hn:=(h2 (dgF p - 1)).1
 have hn0:n (dgF p - 1)≠0:=fun e=>by
  rw [e] at hn
  rcases Rat.mul_eq_zero.1 hn with h4|h4
  ·exact ht h4
  ·exact int_ne h0 h4
 refine⟨n (dgF p - 1),n,hn0,(h2 _).2,fun i=>⟨?_,(h2 i).2⟩⟩
 have e:co (monicF p) i=co p i*(1 / topF (trimF p)):=by
  unfold monicF;rw [if_neg (trim_ne h3)];unfold scaleF;rw [co_trim,co_map,co_trim]
 have e2:topF (trimF p)=co p (dgF p - 1):=by rw [top_eq (trim_trim p),dg_trim,co_trim]
 rw [e,e2,←hn,←(h2 i).1]
 have:=inv_ne ht
 grind
def HD (A:Nat) (D:Int) (p:List Rat):Prop:=∀i,∃n:Int,co p i*(D:Rat)=(n:Rat)∧n.natAbs<2 ^ A
theorem HF.hd {a:Nat} {p:List Rat} (h:HF a p):∃D:Int,D≠0∧D.natAbs<2 ^ a∧HD a D p:=by
 obtain⟨D,n,h0,h1,h2⟩:=h;exact⟨D,h0,h1,fun i=>⟨n i,h2 i⟩⟩
theorem HD.hf {a A:Nat} {D:Int} {p:List Rat} (h:HD A D p) (h0:D≠0) (h1:D.natAbs<2 ^ a) (k:a≤A):HF A p:=by
 refine⟨D,fun i=>(h i).choose,h0,Nat.lt_of_lt_of_le h1 (Nat.pow_le_pow_right (by decide) k),fun i=>(h i).choose_spec⟩
theorem HD.next {A b:Nat} {D E:Int} {rest q:List Rat} (h:HD A D rest) (k:HD b E q) (hE:E≠0) (hl:q.length≤rest.length) (h0:0<q.length) (ht:topF q≠0):∃m:Int,m≠0∧m.natAbs<2 ^ b∧HD (A+b+1) (D*m) (nextR rest q)∧∀quo:List Rat,HD A D quo→E.natAbs<2 ^ b→HD (A+b+1) (D*m) (quo.set (rest.length - q.length) (topF rest / topF q)):=by
 obtain⟨m,hm,hmb⟩:=k (q.length - 1);obtain⟨t,hT,htb⟩:=h (rest.length - 1)
 have hm0:m≠0:=fun e=>by
  rw [e] at hm
  rcases Rat.mul_eq_zero.1 hm with h4|h4
  ·exact ht h4
  ·exact int_ne hE h4
 have hp:2 ^ (A+b)=2 ^ A*2 ^ b:=Nat.pow_add ..;have hp1:2 ^ (A+b+1)=2 ^ A*2 ^ b*2:=by rw [Nat.pow_succ,hp]
 have hc:topF rest / topF q*(D:Rat)*(m:Rat)=(t:Rat)*(E:Rat):=by
  rw [←hm,←hT]
  show topF rest / topF q*_*(topF q*_)=topF rest*_*_
  rw [Rat.div_def]
  have:=Rat.mul_inv_cancel (topF q) ht
  grind
 refine⟨m,hm0,hmb,fun i=>?_,fun quo hq hEb i=>?_⟩
 ·obtain⟨n,hn,hnb⟩:=h i
  have e:co (nextR rest q) i=co rest i+co (List.replicate (rest.length - q.length) 0 ++ q) i*(-(topF rest / topF q)):=by
   unfold nextR;rw [co_trim];exact co_les rest q (by omega) _ i
  rw [co_shift] at e
  by_cases hi:i<rest.length - q.length
  ·rw [if_pos hi] at e
   refine⟨n*m,?_,?_⟩
   ·rw [e,Rat.intCast_mul,Rat.intCast_mul,←hn];grind
   ·rw [Int.natAbs_mul,hp1]
    have:=Nat.mul_lt_mul'' hnb hmb
    omega
  ·rw [if_neg hi] at e
   obtain⟨u,hu,hub⟩:=k (i - (rest.length - q.length));refine⟨n*m - u*t,?_,?_⟩
   ·rw [e,Rat.intCast_sub,Rat.intCast_mul,Rat.intCast_mul,Rat.intCast_mul,←hn]
    have h5:co q (i - (rest.length - q.length))*(topF rest / topF q*(D:Rat)*(m:Rat))=(u:Rat)*(t:Rat):=by
     rw [hc,←hu];grind
    grind
   ·have h6:=Nat.mul_lt_mul'' hnb hmb
    have h7:=Nat.mul_lt_mul'' hub htb;have h8:=Int.natAbs_sub_le (n*m) (u*t);rw [Int.natAbs_mul,Int.natAbs_mul] at h8;rw [Nat.mul_comm (2 ^ b)] at h7;rw [hp1];omega
 ·rcases Nat.lt_or_ge (rest.length - q.length) quo.length with hk|hk
  ·by_cases hi:i=rest.length - q.length
   ·subst hi
    have e:co (quo.set (rest.length - q.length) (topF rest / topF q)) (rest.length - q.length)=topF rest / topF q:=by
     show ((quo.set (rest.length - q.length) (topF rest / topF q))[rest.length - q.length]?).getD 0=_
     rw [List.getElem?_set_self hk];rfl
    refine⟨t*E,?_,?_⟩
    ·rw [e,Rat.intCast_mul,Rat.intCast_mul,←hc];grind
    ·rw [Int.natAbs_mul,hp1]
     have:=Nat.mul_lt_mul'' htb hEb
     omega
   ·obtain⟨n,hn,hnb⟩:=hq i
    have e:co (quo.set (rest.length - q.length) (topF rest / topF q)) i=co quo i:=by
     show ((quo.set (rest.length - q.length) (topF rest / topF q))[i]?).getD 0=_
     rw [List.getElem?_set_ne (by omega)];rfl
    refine⟨n*m,?_,?_⟩
    ·rw [e,Rat.intCast_mul,Rat.intCast_mul,←hn];grind
    ·rw [Int.natAbs_mul,hp1]
     have:=Nat.mul_lt_mul'' hnb hmb
     omega
  ·obtain⟨n,hn,hnb⟩:=hq i
   rw [List.set_eq_of_length_le hk];refine⟨n*m,?_,?_⟩
   ·rw [Rat.intCast_mul,Rat.intCast_mul,←hn];grind
   ·rw [Int.natAbs_mul,hp1]
    have:=Nat.mul_lt_mul'' hnb hmb
    omega
theorem divU_hd {b:Nat} {E:Int} {q:List Rat} (k:HD b E q) (hE:E≠0) (hEb:E.natAbs<2 ^ b) (h0:0<q.length) (ht:topF q≠0) (M:Nat):∀(n:Nat) (rest quo:List Rat) (A:Nat) (D:Int),rest.length<n→D≠0→D.natAbs<2 ^ A→HD A D rest→HD A D quo→A+rest.length*(b+1)≤M→divB M n rest q=true∧HF M (divU n quo rest q).1∧HF M (divU n quo rest q).2
 | 0,rest,quo,A,D,hn,_,_,_,_,_=>by omega
 | n+1,rest,quo,A,D,hn,hD,hDb,hr,hq,hM=>by
  show (if rest.length<q.length then true else smB M rest && divB M n (nextR rest q) q)=true∧HF M (if rest.length<q.length then (quo,rest) else divU n (quo.set (rest.length - q.length) (topF rest / topF q)) (nextR rest q) q).1∧HF M (if rest.length<q.length then (quo,rest) else divU n (quo.set (rest.length - q.length) (topF rest / topF q)) (nextR rest q) q).2
  by_cases h:rest.length<q.length
  ·rw [if_pos h,if_pos h]
   exact⟨rfl,(hq.hf hD hDb (Nat.le_refl _)).mono (by omega),(hr.hf hD hDb (Nat.le_refl _)).mono (by omega)⟩
  ·rw [if_neg h,if_neg h]
   obtain⟨m,hm0,hmb,h1,h2⟩:=hr.next k hE (by omega) h0 ht;have h3:=next_len rest q (by omega) h0 ht
   have h4:(D*m).natAbs<2 ^ (A+b+1):=by
    rw [Int.natAbs_mul,Nat.pow_succ,Nat.pow_add]
    have:=Nat.mul_lt_mul'' hDb hmb
    omega
   have h5:A+b+1+(nextR rest q).length*(b+1)≤M:=by
    have:((nextR rest q).length+1)*(b+1)≤rest.length*(b+1):=Nat.mul_le_mul_right _ h3
    rw [Nat.add_mul,Nat.one_mul] at this;omega
   obtain⟨i1,i2⟩:=divU_hd k hE hEb h0 ht M n (nextR rest q) _ (A+b+1) (D*m) (by omega) (Int.mul_ne_zero hD hm0) h4 h1 (h2 quo hq hEb) h5;refine⟨?_,i2⟩;rw [i1,(hr.hf hD hDb (Nat.le_refl _)).sm (by omega:A≤M)];rfl
theorem div_hf {a b M N:Nat} {p q:List Rat} (hp:HF a p) (hq:HF b q) (h0:0<dgF q) (hN:dgF p≤N) (hM:a+N*(b+1)≤M) (hb:b≤M):divOk M p q=true∧HF M (divF p q).1∧HF M (divF p q).2:=by
 obtain⟨D,d0,d1,d2⟩:=hp.trim.hd;obtain⟨E,e0,e1,e2⟩:=hq.trim.hd;have h1:(trimF p).length*(b+1)≤N*(b+1):=Nat.mul_le_mul_right _ hN;obtain⟨k1,k2,k3⟩:=divU_hd e2 e0 e1 h0 (top_trim_ne (trim_ne h0)) M ((trimF p).length+1) (trimF p) (List.replicate ((trimF p).length+1 - (trimF q).length) 0) a D (by omega) d0 d1 d2 (fun i=>⟨0,by rw [show co (List.replicate ((trimF p).length+1 - (trimF q).length) 0) i=0 by unfold co;rw [List.getElem?_replicate];split <;> rfl];grind,Nat.pow_pos (by decide)⟩) (by omega);refine⟨?_,k2.trim,k3⟩;unfold divOk;rw [k1,hp.sm (by omega),hq.sm hb];rfl
theorem Tr.snoc {p q x y:List Rat} (h:Tr p q x y) (hy:0<dgF y):Tr p q y (monicF (divF x y).2):=by
 induction h with
 | one u v hv=>exact .more u v _ _ hv (.one _ _ hy)
 | more u v x y hv _ ih=>exact .more u v _ _ hv (ih hy)
def InC (p q u v:List Rat):Prop:=(u=p∧v=q)∨Tr p q u v
theorem InC.next {p q u v:List Rat} (h:InC p q u v) (hv:0<dgF v):InC p q v (monicF (divF u v).2):=by
 rcases h with ⟨rfl,rfl⟩|h
 ·exact .inr (.one _ _ hv)
 ·exact .inr (h.snoc hv)
theorem hf_mo {H:Nat} {p q u v:List Rat} {a w:Nat} (h:InC p q u v) (hp:HF a p) (hq:HF a q) (hw:dgF p+dgF q+2≤2 ^ w) (hH:(a+w+2)*(dgF p+dgF q+2)≤H):HF H v:=by
 have ha:a≤H:=by
  have:(a+w+2)*1≤(a+w+2)*(dgF p+dgF q+2):=Nat.mul_le_mul_left _ (by omega)
  omega
 rcases h with ⟨rfl,rfl⟩|h
 ·exact hq.mono ha
 ·rcases Nat.eq_zero_or_pos (dgF v) with h0|h0
  ·have:=h.dg.2.2.len
   rw [h0] at this;rw [List.length_eq_zero_iff.1 this.symm];exact HF.nil (by have:=hp.pos;omega)
  ·exact(h.small hp hq h0 hw).mono hH
theorem comB_hf {H M N:Nat} {p q:List Rat} {a w:Nat} (mp:Mo p) (mq:Mo q) (hp:HF a p) (hq:HF a q) (hw:dgF p+dgF q+2≤2 ^ w) (hH:(a+w+2)*(dgF p+dgF q+2)≤H) (hN:dgF p≤N) (hN2:dgF q≤N) (hM:H+N*(H+1)≤M):∀(n:Nat) (u v:List Rat),v.length<n→InC p q u v→HF H u→Mo v→dgF u≤N→comB M n u v=true∧HF H (comU n u v)
 | 0,u,v,h,_,_,_,_=>by omega
 | n+1,u,v,hn,hi,hu,hv,hNu=>by
  show (v.isEmpty || (divOk M u v && smB M (divF u v).2 && comB M n v (monicF (divF u v).2)))=true∧HF H (if v=[] then u else comU n v (monicF (divF u v).2))
  by_cases h0:v=[]
  ·subst h0
   exact⟨rfl,hu⟩
  ·rw [if_neg h0]
   have hv0:0<dgF v:=by rw [hv.len];exact List.length_pos_iff.2 h0
   have hHv:=hf_mo hi hp hq hw hH;have hd:=div_dg u v hv0
   have hle:dgF v≤N:=by
    rcases hi with ⟨rfl,rfl⟩|h
    ·exact hN2
    ·have:=h.dg;omega
   obtain⟨k1,-,k3⟩:=div_hf hu hHv hv0 hNu hM (by omega);have hml:=monic_len (divF u v).2;obtain⟨-,hl,-⟩:=div_ev u v hv0;rw [hv.len] at hl;obtain⟨i1,i2⟩:=comB_hf mp mq hp hq hw hH hN hN2 hM n v (monicF (divF u v).2) (by omega) (hi.next hv0) hHv (mo_mon _) hle;refine⟨?_,i2⟩;rw [k1,k3.sm (Nat.le_refl _),i1];simp
theorem com_hf {a w N H M:Nat} {p q:List Rat} (hp:HF a p) (hq:HF a q) (hN:dgF p≤N) (hN2:dgF q≤N) (hw:2*N+2≤2 ^ w) (hH:(a+w+2)*(2*N+2)≤H) (hM:H+N*(H+1)≤M):comOk M p q=true∧HF H (commonF p q):=by
 have h1:dgF (monicF p)+dgF (monicF q)+2≤2*N+2:=by rw [dg_mon,dg_mon];omega
 have h2:(a+w+2)*(dgF (monicF p)+dgF (monicF q)+2)≤(a+w+2)*(2*N+2):=Nat.mul_le_mul_left _ h1
 have ha:a≤H:=by
  have:(a+w+2)*1≤(a+w+2)*(2*N+2):=Nat.mul_le_mul_left _ (by omega)
  omega
 have hml:=monic_len q;obtain⟨k1,k2⟩:=comB_hf (mo_mon p) (mo_mon q) hp.monic hq.monic (by omega) (Nat.le_trans h2 hH) (by rw [dg_mon];exact hN) (by rw [dg_mon];exact hN2) hM (q.length+1) (monicF p) (monicF q) (by omega) (.inl ⟨rfl,rfl⟩) (hp.monic.mono ha) (mo_mon q) (by rw [dg_mon];exact hN);refine⟨?_,k2⟩;unfold comOk;rw [k1,hp.sm (by omega),hq.sm (by omega)];rfl
end Go.Proofs.YtkoaakefgacokaaGreatDoor
