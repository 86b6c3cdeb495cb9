/- A region that draws its order: operations whose order is free are met once each, under an invariant that says what is known of those that are done. A polynomial with small values at many whole numbers has small numbers; so a factor has. -/
import Derived.Test.YtaaoleakkaloeaaGreatDoorGQo
import Derived.Test.YtaaoleakkaloeaaGreatDoorGHj
set_option linter.unusedVariables false
set_option maxRecDepth 100000
set_option maxHeartbeats 64000000
namespace Go.Proofs.YtaaoleakkaloeaaGreatDoor
open Go
section
variable {P:Program} {md:Region.Mode} {ops:Array Oper} {Q:Exit→Act→World→Prop} {S:World→Prop}
def upD (D:Nat→Bool) (i k:Nat):Bool:=match Nat.beq k i with|true=>true|false=>D k
def upX (x:Nat→Value) (i:Nat) (v:Value) (k:Nat):Value:=match Nat.beq k i with|true=>v|false=>x k
def dstOf (ops:Array Oper) (i:Nat):Option Tmp:=(ops[i]?).bind (·.dst)
def puts (ops:Array Oper) (x:Nat→Value):List Nat→Act→Act
 | [],a=>a
 | i :: r,a=>puts ops x r (a.put (dstOf ops i) (x i))
def apartB (ops:Array Oper):List Nat→Bool
 | []=>true
 | i :: r=>r.all (fun j=>(j != i) && (match dstOf ops i with|some d=>dstOf ops j != some d|none=>true)) && apartB ops r
theorem upD_self (D:Nat→Bool) (i:Nat):upD D i i=true:=by simp [upD]
theorem beq_ne {i k:Nat} (h:k≠i):Nat.beq k i=false:=by cases hb:Nat.beq k i with|false=>rfl|true=>exact absurd (Nat.eq_of_beq_eq_true hb) h
theorem upD_ne (D:Nat→Bool) {i k:Nat} (h:k≠i):upD D i k=D k:=by simp only [upD,beq_ne h]
theorem upX_self (x:Nat→Value) (i:Nat) (v:Value):upX x i v i=v:=by simp [upX]
theorem upX_ne (x:Nat→Value) {i k:Nat} (v:Value) (h:k≠i):upX x i v k=x k:=by simp only [upX,beq_ne h]
theorem put_put (a:Act) (d:Option Tmp) (v u:Value):(a.put d v).put d u=a.put d u:=by
 cases d with
 | none=>rfl
 | some d=>simp [Act.put,Array.setIfInBounds_setIfInBounds]
theorem puts_put {x:Nat→Value} {v:Value} {d:Option Tmp}:∀(r:List Nat) (b:Act),(∀j ∈ r,∀e,d=some e→dstOf ops j≠some e)→(puts ops x r b).put d v=puts ops x r (b.put d v)
 | [],_,_=>rfl
 | j :: r,b,h=>by
  show (puts ops x r (b.put (dstOf ops j) (x j))).put d v=puts ops x r ((b.put d v).put (dstOf ops j) (x j))
  rw [puts_put r _ (fun k hk=>h k (List.mem_cons_of_mem _ hk)),←Act.put_comm b v (x j) (h j (List.mem_cons_self ..))]
theorem puts_upX {x:Nat→Value} {i:Nat} {v:Value}:∀(r:List Nat) (b:Act),i ∉ r→puts ops (upX x i v) r b=puts ops x r b
 | [],_,_=>rfl
 | j :: r,b,h=>by
  show puts ops (upX x i v) r (b.put (dstOf ops j) (upX x i v j))=puts ops x r (b.put (dstOf ops j) (x j))
  rw [puts_upX r _ (fun hh=>h (List.mem_cons_of_mem _ hh)),upX_ne x v (fun e=>h (by rw [e];exact List.mem_cons_self ..))]
theorem puts_step {x:Nat→Value} {i:Nat} {v:Value}:∀(E:List Nat) (a:Act),apartB ops E=true→i ∈ E→(puts ops x E a).put (dstOf ops i) v=puts ops (upX x i v) E a
 | [],_,_,h=>by cases h
 | j :: r,a,hp,h=>by
  simp only [apartB,Bool.and_eq_true,List.all_eq_true] at hp
  show (puts ops x r (a.put (dstOf ops j) (x j))).put (dstOf ops i) v=puts ops (upX x i v) r (a.put (dstOf ops j) (upX x i v j))
  by_cases hji:j=i
  ·subst hji
   have hn:j ∉ r:=fun hh=>by have:=(hp.1 j hh).1;simp at this
   rw [puts_put r _ (fun k hk e he=>by have:=(hp.1 k hk).2;rw [he] at this;simpa using this),put_put,puts_upX r _ hn,upX_self]
  ·rcases List.mem_cons.1 h with rfl|h
   ·exact absurd rfl hji
   ·rw [upX_ne x v hji];exact puts_step r _ hp.2 h
def ownX (ops:Array Oper) (a:Act) (i:Nat):Value:=match dstOf ops i with|some d=>a.tmps.getD d undef|none=>undef
theorem put_own (a:Act) (i:Nat):a.put (dstOf ops i) (ownX ops a i)=a:=by
 unfold ownX
 cases dstOf ops i with
 | none=>rfl
 | some d=>
  cases a with
  | mk t df=>
   simp only [Act.put,Act.mk.injEq,and_true]
   apply Array.ext_getElem?
   intro k
   by_cases hk:d=k
   ·subst hk
    by_cases hd:d<t.size
    ·simp [hd]
    ·simp [hd]
   ·simp [Array.getElem?_setIfInBounds_ne hk]
theorem puts_own:∀(E:List Nat) (a:Act),puts ops (ownX ops a) E a=a
 | [],_=>rfl
 | i :: r,a=>by
  show puts ops (ownX ops a) r (a.put (dstOf ops i) (ownX ops a i))=a
  rw [put_own];exact puts_own r a
def bindsOn (md:Region.Mode) (o:Oper) (j:Nat):Bool:=o.after.any fun e=>Region.binds md e && decide (e.on=j)
def forced (md:Region.Mode) (ops:Array Oper) (E:List Nat):Nat→Nat→Nat→Bool
 | 0,_,_=>false
 | n+1,k,j=>match ops[k]? with|some o=>bindsOn md o j || E.any (fun i=>bindsOn md o i && forced md ops E n i j)|none=>false
theorem forced_on {l:Array Bool} {E:List Nat} (hcl:∀i ∈ E,l.getD i true=true→∀o,ops[i]?=some o→∀e ∈ o.after,Region.binds md e=true→l.getD e.on false=true):∀(n k j:Nat),(∀o,ops[k]?=some o→∀e ∈ o.after,Region.binds md e=true→l.getD e.on false=true)→forced md ops E n k j=true→l.getD j false=true
 | 0,_,_,_,h=>by cases h
 | n+1,k,j,hk,h=>by
  unfold forced at h
  cases ho:ops[k]? with
  | none=>rw [ho] at h;cases h
  | some o=>
   rw [ho] at h
   have hb:∀i,bindsOn md o i=true→l.getD i false=true:=fun i hi=>by
    obtain⟨e,he,h2⟩:=Array.any_eq_true'.1 hi;rw [Bool.and_eq_true,decide_eq_true_eq] at h2;rw [←h2.2];exact hk o ho e he h2.1
   rw [Bool.or_eq_true] at h
   rcases h with h|h
   ·exact hb j h
   ·obtain⟨i,hi,h2⟩:=List.any_eq_true.1 h
    rw [Bool.and_eq_true] at h2;have h3:=hb i h2.1;refine forced_on hcl n i j (hcl i hi ?_) h2.2
    have hlt:i<l.size:=by
     rcases Nat.lt_or_ge i l.size with h'|h'
     ·exact h'
     ·simp [Array.getElem?_eq_none h'] at h3
    simp [hlt] at h3 ⊢;exact h3
def freeB (md:Region.Mode) (ops:Array Oper) (l0:Array Bool) (E:List Nat):Bool:=
 decide (l0.size=ops.size) && apartB ops E && (E.all fun i=>decide (i<ops.size) && !(l0.getD i true)) &&
 ((List.range ops.size).all fun k=>E.contains k || l0.getD k true || match ops[k]? with|some o=>(E.all fun j=>forced md ops E (E.length+1) k j) || o.after.any (fun e=>Region.binds md e && !(E.contains e.on) && !(l0.getD e.on false))|none=>true) &&
 (E.all fun i=>match ops[i]? with|some o=>o.after.all (fun e=>!(Region.binds md e) || l0.getD e.on false || (E.contains e.on && decide (e.on<i)))|none=>false)
def allOf (E:List Nat) (l0:Array Bool):Array Bool:=E.foldl (fun l i=>l.setIfInBounds i true) l0
theorem allOf_size (E:List Nat):∀l0,(allOf E l0).size=l0.size:=by
 induction E with
 | nil=>intro l0;rfl
 | cons i r ih=>intro l0;show (allOf r (l0.setIfInBounds i true)).size=_;rw [ih];simp
theorem allOf_get (E:List Nat):∀(l0:Array Bool) (k:Nat),k<l0.size→(allOf E l0)[k]?=if k ∈ E then some true else l0[k]?:=by
 induction E with
 | nil=>intro l0 k _;rfl
 | cons i r ih=>
  intro l0 k hk
  show (allOf r (l0.setIfInBounds i true))[k]?=_
  rw [ih _ k (by simpa using hk)]
  by_cases hr:k ∈ r
  ·simp [hr]
  ·by_cases hi:k=i
   ·subst hi;simp [hr,hk]
   ·simp [hr,hi,Array.getElem?_setIfInBounds_ne (Ne.symm hi)]
def Met (P:Program) (md:Region.Mode) (ops:Array Oper) (Q:Exit→Act→World→Prop) (S:World→Prop) (J:(Nat→Bool)→(Nat→Value)→World→Prop) (E:List Nat) (a0:Act) (i:Nat):Prop:=
 ∀(D:Nat→Bool) (x:Nat→Value) (w:World),S w→J D x w→D i=false→(∀o,ops[i]?=some o→∀e ∈ o.after,Region.binds md e=true→e.on ∈ E→D e.on=true)→wpOp P ops Q i (fun a' w'=>S w'∧∃v,a'=(puts ops x E a0).put (dstOf ops i) v∧J (upD D i) (upX x i v) w') (puts ops x E a0) w
theorem Met.mk {J:(Nat→Bool)→(Nat→Value)→World→Prop} {E:List Nat} {a0:Act} {i:Nat} {o:Oper} (ds:List Nat) (d:Option Tmp) (ho:ops[i]?=some o) (hd:o.dst=d) (hds:(ds.all fun j=>E.contains j && bindsOn md o j)=true) (h:∀(D:Nat→Bool) (x:Nat→Value) (w:World),S w→J D x w→D i=false→(∀j ∈ ds,D j=true)→∀K':Act→World→Prop,Shut (∀v a' w',a'=(puts ops x E a0).put d v→S w'→(S w'→J (upD D i) (upX x i v) w')→K' a' w')→if Region.wanted o (yielded ops (puts ops x E a0).tmps)=true then Oper.wp P o (puts ops x E a0) w K' Q else K' ((puts ops x E a0).put d undef) w):Met P md ops Q S J E a0 i:=by
 subst hd;intro D x w hS hJ hD hdeps;refine wpOp_step ho (fun K' hK=>h D x w hS hJ hD (fun j hj=>?_) K' (fun v a' w' ha hS' hJ'=>hK a' w' ⟨hS',v,by rw [ha];simp [dstOf,ho],hJ' hS'⟩));have h1:=List.all_eq_true.1 hds j hj;rw [Bool.and_eq_true] at h1;obtain⟨e,he,h2⟩:=Array.any_eq_true'.1 h1.2;rw [Bool.and_eq_true] at h2;have h3:e.on=j:=of_decide_eq_true h2.2;rw [←h3];exact hdeps o ho e he h2.1 (by rw [h3];simpa using h1.1)
theorem cnt_pos {p:Nat→Bool} {E:List Nat} {n:Nat} (h:(E.filter p).length=n+1):∃i ∈ E,p i=true:=by
 cases hf:E.filter p with
 | nil=>rw [hf] at h;cases h
 | cons i r=>
  have:i ∈ E.filter p:=by rw [hf];exact List.mem_cons_self ..
  exact⟨i,(List.mem_filter.1 this).1,(List.mem_filter.1 this).2⟩
theorem count_set {l:Array Bool} {i:Nat}:∀ {E:List Nat} {n:Nat},apartB ops E=true→i ∈ E→i<l.size→l.getD i true=false→(E.filter fun k=>!(l.getD k true)).length=n+1→(E.filter fun k=>!((l.setIfInBounds i true).getD k true)).length=n:=by
 intro E
 induction E with
 | nil=>intro n _ h;cases h
 | cons j r ih=>
  intro n hp hi hsz hl hc
  simp only [apartB,Bool.and_eq_true,List.all_eq_true] at hp
  by_cases hji:j=i
  ·subst hji
   have hn:∀k ∈ r,k≠j:=fun k hk e=>by have:=(hp.1 k hk).1;simp [e] at this
   have e1:(r.filter fun k=>!((l.setIfInBounds j true).getD k true))=r.filter fun k=>!(l.getD k true):=
    List.filter_congr fun k hk=>by rw [Go.getD_set_ne true (Ne.symm (hn k hk))]
   rw [List.filter_cons_of_neg (by simp [hsz]),e1];rw [List.filter_cons_of_pos (by simp [hl])] at hc
   simpa using hc
  ·rcases List.mem_cons.1 hi with rfl|hi
   ·exact absurd rfl hji
   by_cases hj:l.getD j true=true
   ·rw [List.filter_cons_of_neg (by simp [hj])] at hc
    rw [List.filter_cons_of_neg (by rw [Go.getD_set_ne true (Ne.symm hji)];simp [hj])];exact ih hp.2 hi hsz hl hc
   ·have hj':l.getD j true=false:=by simpa using hj
    rw [List.filter_cons_of_pos (by simp [hj'])] at hc;rw [List.filter_cons_of_pos (by rw [Go.getD_set_ne true (Ne.symm hji)];simp [hj'])]
    cases n with
    | zero=>
     have h0:(r.filter fun k=>!(l.getD k true))=[]:=List.eq_nil_of_length_eq_zero (by simpa using hc)
     have:i ∈ r.filter fun k=>!(l.getD k true):=List.mem_filter.2 ⟨hi,by simp [hl]⟩
     rw [h0] at this;cases this
    | succ n=>
     have h9:=ih (n:=n) hp.2 hi hsz hl (by simpa using hc);rw [List.length_cons,h9]
theorem inv_go {J:(Nat→Bool)→(Nat→Value)→World→Prop} {E:List Nat} {a0:Act} {l0:Array Bool} {m:Nat} (hE:freeB md ops l0 E=true) (hm:∀i ∈ E,Met P md ops Q S J E a0 i) (hf:∀(D:Nat→Bool) (x:Nat→Value) (w:World),(∀i ∈ E,D i=true)→S w→J D x w→wpAnyH P md ops Q S m (allOf E l0) (puts ops x E a0) w):∀(n:Nat) (l:Array Bool) (x:Nat→Value) (w:World),l.size=ops.size→(∀k,k ∉ E→l[k]?=l0[k]?)→(E.filter fun k=>!(l.getD k true)).length=n→(∀i ∈ E,l.getD i true=true→∀o,ops[i]?=some o→∀e ∈ o.after,Region.binds md e=true→l.getD e.on false=true)→S w→J (fun k=>l.getD k false) x w→wpAnyH P md ops Q S (m+n) l (puts ops x E a0) w:=by
 simp only [freeB,Bool.and_eq_true,decide_eq_true_eq,List.all_eq_true] at hE
 obtain⟨⟨⟨⟨hsz0,hap⟩,hin⟩,hout⟩,hord⟩:=hE;intro n
 induction n with
 | zero=>
  intro l x w hsz hag hc hcl hS hJ
  have hall:∀i ∈ E,l.getD i true=true:=by
   intro i hi;have h0:=List.eq_nil_of_length_eq_zero hc;have h1:i ∉ E.filter fun k=>!(l.getD k true):=by rw [h0];simp
   rw [List.mem_filter] at h1
   simpa [hi] using h1
  have hl:∀i ∈ E,l[i]?=some true:=by
   intro i hi;have h1:i<l.size:=by rw [hsz];exact(hin i hi).1
   have h2:=hall i hi
   simp [h1] at h2 ⊢
   exact h2
  have he:l=allOf E l0:=by
   apply Array.ext_getElem?
   intro k
   by_cases hk:k<l0.size
   ·rw [allOf_get E l0 k hk]
    by_cases hkE:k ∈ E
    ·rw [if_pos hkE];exact hl k hkE
    ·rw [if_neg hkE];exact hag k hkE
   ·rw [Array.getElem?_eq_none (by rw [hsz,←hsz0];omega),Array.getElem?_eq_none (by rw [allOf_size];omega)]
  have h:=hf (fun k=>l.getD k false) x w (fun i hi=>by simp [hl i hi]) hS hJ;rw [←he] at h;exact h
 | succ n ih=>
  intro l x w hsz hag hc hcl hS hJ;refine⟨fun h0=>?_,fun i hi=>?_⟩
  ·exfalso
   obtain⟨i,hi,hiu⟩:=cnt_pos hc;have hiu':l.getD i true=false:=by simpa using hiu
   clear hc hiu
   induction i using Nat.strongRecOn with
   | _ i hrec=>
    have ho:=hord i hi
    cases hoi:ops[i]? with
    | none=>rw [hoi] at ho;cases ho
    | some o=>
     rw [hoi] at ho
     have hready:i ∈ Region.ready md ops l:=by
      rw [mem_ready];refine⟨hiu',o,hoi,fun e he hb=>?_⟩;rw [Array.all_eq_true_iff_forall_mem] at ho;have h1:=ho e he;rw [hb] at h1
      simp only [Bool.not_true,Bool.false_or,Bool.or_eq_true,Bool.and_eq_true,decide_eq_true_eq] at h1
      rcases h1 with h1|⟨h1,h2⟩
      ·by_cases hkE:e.on ∈ E
       ·have:=(hin _ hkE).2
        have h3:e.on<l0.size:=by rw [hsz0];exact(hin _ hkE).1
        simp [h3] at this h1
        rw [h1] at this;cases this
       ·have:=hag _ hkE
        simp only [Array.getD_eq_getD_getElem?] at h1 ⊢
        rw [this];exact h1
      ·have hkE:e.on ∈ E:=by simpa using h1
       rcases Bool.eq_false_or_eq_true (l.getD e.on true) with h4|h4
       ·have h3:e.on<l.size:=by rw [hsz];exact(hin _ hkE).1
        simp [h3] at h4 ⊢;exact h4
       ·exact(hrec e.on h2 hkE h4).elim
     rw [h0] at hready;cases hready
  ·obtain⟨hiu,o,hoi,hall⟩:=mem_ready.1 hi
   have hiE:i ∈ E:=by
    by_cases hiE:i ∈ E
    ·exact hiE
    exfalso
    have hlt:i<ops.size:=(Array.getElem?_eq_some_iff.1 hoi).1;have h1:=hout i (List.mem_range.2 hlt)
    have h0:l0.getD i true=false:=by
     have:=hag i hiE
     simp only [Array.getD_eq_getD_getElem?] at hiu ⊢
     rw [←this];exact hiu
    rw [h0,hoi] at h1
    simp only [Bool.or_false,Bool.or_eq_true,List.contains_iff_mem] at h1
    rcases h1 with h1|h1|h1
    ·exact hiE h1
    ·obtain⟨j,hj,hju⟩:=cnt_pos hc
     have h2:=List.all_eq_true.1 h1 j hj;have h4:=forced_on hcl _ _ _ (fun o' ho' e he hb=>by rw [hoi] at ho';cases ho';exact hall e he hb) h2;have h5:j<l.size:=by rw [hsz];exact(hin _ hj).1
     simp [h5] at h4 hju
     rw [h4] at hju;cases hju
    ·obtain⟨e,he,h3⟩:=Array.any_eq_true'.1 h1
     simp only [Bool.and_eq_true,Bool.not_eq_true'] at h3
     have h4:=hall e he h3.1.1;have h5:e.on ∉ E:=by simpa using h3.1.2
     have:=hag _ h5
     have h6:=h3.2
     simp only [Array.getD_eq_getD_getElem?] at h4 h6
     rw [this,h6] at h4;cases h4
   have hlt:i<l.size:=by rw [hsz];exact(hin _ hiE).1
   have hD:l.getD i false=false:=by simp [hlt] at hiu ⊢;exact hiu
   refine wpOp_mono ?_ (hm i hiE (fun k=>l.getD k false) x w hS hJ hD (fun o' ho' e he hb _=>by rw [hoi] at ho';cases ho';exact hall e he hb));rintro a' w' ⟨hS',v,rfl,hJ'⟩;refine⟨hS',?_⟩;rw [puts_step E a0 hap hiE];refine ih _ _ _ (by simpa using hsz) (fun k hk=>?_) (count_set hap hiE hlt hiu hc) (fun k hk hlk o' ho' e he hb=>?_) hS' ?_
   ·rw [Array.getElem?_setIfInBounds_ne (fun e=>hk (by rw [←e];exact hiE))];exact hag k hk
   ·by_cases hki:k=i
    ·subst hki
     rw [hoi] at ho';cases ho';exact getD_set_true (hall e he hb)
    ·rw [Go.getD_set_ne true (Ne.symm hki)] at hlk
     exact getD_set_true (hcl k hk hlk o' ho' e he hb)
   ·have:(fun k=>(l.setIfInBounds i true).getD k false)=upD (fun k=>l.getD k false) i:=by
     funext k
     by_cases hk:k=i
     ·subst hk;rw [upD_self];simp [hlt]
     ·rw [upD_ne _ hk,Go.getD_set_ne false (Ne.symm hk)]
    rw [this];exact hJ'
theorem free_p {J:(Nat→Bool)→(Nat→Value)→World→Prop} (E:List Nat) (m:Nat) {n:Nat} {a0:Act} {l0:Array Bool} {w:World} (hn:n=m+E.length) (hE:freeB md ops l0 E=true) (hS:S w) (h0:∀(D:Nat→Bool) (x:Nat→Value),(∀i ∈ E,D i=false)→J D x w) (hm:∀i ∈ E,Met P md ops Q S J E a0 i) (hf:∀(D:Nat→Bool) (x:Nat→Value) (w:World),(∀i ∈ E,D i=true)→S w→J D x w→wpAnyH P md ops Q S m (allOf E l0) (puts ops x E a0) w):wpAnyH P md ops Q S n l0 a0 w:=by
 have hE':=hE
 simp only [freeB,Bool.and_eq_true,decide_eq_true_eq,List.all_eq_true] at hE'
 obtain⟨⟨⟨⟨hsz0,hap⟩,hin⟩,hout⟩,hord⟩:=hE';have hin':∀i ∈ E,l0.getD i true=false:=fun i hi=>by have:=(hin i hi).2;simpa using this
 have h:=inv_go (m:=m) hE hm hf (E.filter fun k=>!(l0.getD k true)).length l0 (ownX ops a0) w hsz0 (fun _ _=>rfl) rfl (fun i hi hl=>by rw [hin' i hi] at hl;cases hl) hS (h0 _ _ (fun i hi=>by
  have h1:=hin' i hi;have h2:i<l0.size:=by rw [hsz0];exact(hin i hi).1
  simp [h2] at h1 ⊢;exact h1))
 rw [puts_own,List.filter_eq_self.2 (fun i hi=>by simp [hin' i hi])] at h;rw [hn];exact h
theorem met_nil {J:(Nat→Bool)→(Nat→Value)→World→Prop} {E:List Nat} {a0:Act}:∀i ∈ ([]:List Nat),Met P md ops Q S J E a0 i:=fun _ h=>by cases h
theorem met_cons {J:(Nat→Bool)→(Nat→Value)→World→Prop} {E:List Nat} {a0:Act} {i:Nat} {r:List Nat} (h:Met P md ops Q S J E a0 i) (hr:∀i ∈ r,Met P md ops Q S J E a0 i):∀j ∈ i :: r,Met P md ops Q S J E a0 j:=fun j hj=>by
 rcases List.mem_cons.1 hj with rfl|hj
 ·exact h
 ·exact hr j hj
def putsL (x:Nat→Value):List (Nat × Tmp)→Act→Act
 | [],a=>a
 |(i,d) :: r,a=>putsL x r (a.put (some d) (x i))
def slotsB (ops:Array Oper) (F:List (Nat × Tmp)):Bool:=F.all fun p=>match dstOf ops p.1 with|some d=>decide (d=p.2)|none=>false
theorem puts_of {x:Nat→Value}:∀(F:List (Nat × Tmp)) (a:Act),slotsB ops F=true→puts ops x (F.map (·.1)) a=putsL x F a
 | [],_,_=>rfl
 |(i,d) :: r,a,h=>by
  simp only [slotsB,List.all_cons,Bool.and_eq_true] at h
  have h1:dstOf ops i=some d:=by
   have:=h.1
   cases hd:dstOf ops i with
   | none=>rw [hd] at this;cases this
   | some e=>rw [hd] at this;simp only [decide_eq_true_eq] at this;rw [this]
  show puts ops x (r.map (·.1)) (a.put (dstOf ops i) (x i))=putsL x r (a.put (some d) (x i))
  rw [h1];exact puts_of r _ h.2
def Fc (b:Bool) (p:Prop):Prop:=b=true→p
theorem Fc.off {b:Bool} {p:Prop} (h:b=false):Fc b p:=fun e=>by rw [h] at e;cases e
theorem Fc.on {b:Bool} {p:Prop} (h:p):Fc b p:=fun _=>h
theorem Fc.map {b:Bool} {p q:Prop} (f:p→q) (h:Fc b p):Fc b q:=fun e=>f (h e)
theorem Fc.get {b:Bool} {p:Prop} (h:Fc b p) (e:b=true):p:=h e
theorem free_q {J:(Nat→Bool)→(Nat→Value)→World→Prop} (F:List (Nat × Tmp)) (m:Nat) {n:Nat} {a0:Act} {l0:Array Bool} {w:World} (hn:n=m+(F.map (·.1)).length) (hE:freeB md ops l0 (F.map (·.1))=true) (hF:slotsB ops F=true) (hS:S w) (h0:∀(D:Nat→Bool) (x:Nat→Value),(∀i ∈ F.map (·.1),D i=false)→J D x w) (hm:∀i ∈ F.map (·.1),Met P md ops Q S J (F.map (·.1)) a0 i) (hf:∀(D:Nat→Bool) (x:Nat→Value) (w:World),(∀i ∈ F.map (·.1),D i=true)→S w→J D x w→wpAnyH P md ops Q S m (allOf (F.map (·.1)) l0) (putsL x F a0) w):wpAnyH P md ops Q S n l0 a0 w:=
 free_p (F.map (·.1)) m hn hE hS h0 hm (fun D x w h1 h2 h3=>by rw [puts_of F a0 hF];exact hf D x w h1 h2 h3)
theorem Met.mq {J:(Nat→Bool)→(Nat→Value)→World→Prop} {F:List (Nat × Tmp)} {a0:Act} {i:Nat} {o:Oper} (ds:List Nat) (d:Tmp) (ho:ops[i]?=some o) (hd:o.dst=some d) (hF:slotsB ops F=true) (hds:(ds.all fun j=>(F.map (·.1)).contains j && bindsOn md o j)=true) (h:∀(D:Nat→Bool) (x:Nat→Value) (w:World),S w→J D x w→D i=false→(∀j ∈ ds,D j=true)→∀K':Act→World→Prop,Shut (∀v a' w',a'=(putsL x F a0).put (some d) v→S w'→(S w'→J (upD D i) (upX x i v) w')→K' a' w')→if Region.wanted o (yielded ops (putsL x F a0).tmps)=true then Oper.wp P o (putsL x F a0) w K' Q else K' ((putsL x F a0).put (some d) undef) w):Met P md ops Q S J (F.map (·.1)) a0 i:=by
 refine Met.mk ds (some d) ho hd hds (fun D x w h1 h2 h3 h4 K' h5=>?_);rw [puts_of F a0 hF] at h5 ⊢;exact h D x w h1 h2 h3 h4 K' h5
end
end Go.Proofs.YtaaoleakkaloeaaGreatDoor
set_option linter.unusedVariables false
set_option maxRecDepth 100000
set_option maxHeartbeats 64000000
namespace Go.Proofs.YtaaoleakkaloeaaGreatDoor
set_option linter.unusedSimpArgs false
def evI:List Int→Int→Int
 | [],_=>0
 | a :: t,x=>evI t x*x+a
def synI (s:Int):List Int→List Int
 | []=>[]
 | [_]=>[]
 | _ :: b :: t=>evI (b :: t) s :: synI s (b :: t)
theorem synI_len (s:Int):∀p:List Int,(synI s p).length=p.length - 1
 | []=>rfl
 | [_]=>rfl
 | _ :: b :: t=>by
  show (synI s (b :: t)).length+1=_
  rw [synI_len s (b :: t)];simp
theorem evI_syn (s x:Int):∀p:List Int,evI p x=evI p s+(x - s)*evI (synI s p) x
 | []=>by show (0:Int)=0+(x - s)*0;grind
 | [a]=>by show (0*x+a:Int)=(0*s+a)+(x - s)*0;grind
 | a :: b :: t=>by
  have h:=evI_syn s x (b :: t)
  show evI (b :: t) x*x+a=(evI (b :: t) s*s+a)+(x - s)*(evI (synI s (b :: t)) x*x+evI (b :: t) s)
  generalize evI (b :: t) x=u at *;generalize evI (b :: t) s=v at *;generalize evI (synI s (b :: t)) x=z at *
  grind
theorem ci_syn0 (s a:Int) (t:List Int):ci (a :: t) 0=evI (a :: t) s - s*ci (synI s (a :: t)) 0:=by
 cases t with
 | nil=>show a=0*s+a - s*0;grind
 | cons b t=>show a=evI (b :: t) s*s+a - s*evI (b :: t) s;grind
theorem ci_syn (s:Int):∀(p:List Int) (i:Nat),ci p (i+1)=ci (synI s p) i - s*ci (synI s p) (i+1)
 | [],i=>by show (0:Int)=0 - s*0;grind
 | [a],i=>by show (0:Int)=0 - s*0;grind
 | a :: b :: t,0=>by
  show b=evI (b :: t) s - s*ci (synI s (b :: t)) 0
  have:=ci_syn0 s b t
  exact this
 | a :: b :: t,i+1=>ci_syn s (b :: t) i
theorem sub_abs {a b:Int} {A B:Nat} (ha:a.natAbs≤A) (hb:b.natAbs≤B):(a - b).natAbs≤A+B:=by
 have:=Int.natAbs_sub_le a b
 omega
theorem interp (X:Nat):∀(pts:List Nat) (p:List Int) (V:Nat),p.length≤pts.length→pts.Nodup→(∀x ∈ pts,x≤X)→(∀x ∈ pts,(evI p (x:Int)).natAbs≤V)→∀i,(ci p i).natAbs≤V*(2*X+3) ^ pts.length
 | [],p,V,hl,_,_,_,i=>by
  have:p=[]:=List.length_eq_zero_iff.1 (Nat.le_zero.1 hl)
  subst this;exact Nat.zero_le _
 | s :: pts,p,V,hl,hd,hX,hV,i=>by
  have hd':=List.nodup_cons.1 hd;have hs:=hV s (List.mem_cons_self ..);have hsX:=hX s (List.mem_cons_self ..)
  have ih:=interp X pts (synI (s:Int) p) (2*V) (by rw [synI_len];simp at hl;omega) hd'.2 (fun x hx=>hX x (List.mem_cons_of_mem _ hx)) (fun x hx=>by
   have h1:=hV x (List.mem_cons_of_mem _ hx);have h2:=evI_syn (s:Int) (x:Int) p;have h3:((x:Int) - (s:Int))*evI (synI (s:Int) p) (x:Int)=evI p (x:Int) - evI p (s:Int):=by omega
   have h4:=congrArg Int.natAbs h3;rw [Int.natAbs_mul] at h4;have h5:=sub_abs h1 hs
   have h6:0<((x:Int) - (s:Int)).natAbs:=by
    have:x≠s:=fun e=>hd'.1 (e ▸ hx)
    omega
   have h7:=Nat.le_mul_of_pos_left (evI (synI (s:Int) p) (x:Int)).natAbs h6
   omega)
  generalize hK:(2*X+3) ^ pts.length=K at ih;have hK1:1≤K:=by rw [←hK];exact Nat.pow_pos (by omega)
  have hVK:V≤V*K:=Nat.le_mul_of_pos_right V hK1
  have e:V*(2*X+3) ^ (s :: pts).length=2*(X*(V*K))+3*(V*K):=by
   rw [List.length_cons,Nat.pow_succ,hK];grind
  have hsm:∀z:Int,z.natAbs≤2*V*K→((s:Int)*z).natAbs≤2*(X*(V*K)):=fun z hz=>by
   rw [Int.natAbs_mul,Int.natAbs_natCast];have h1:=Nat.mul_le_mul hsX hz;have h2:X*(2*V*K)=2*(X*(V*K)):=by grind
   omega
  have e2:2*V*K=2*(V*K):=Nat.mul_assoc ..;rw [e]
  cases i with
  | zero=>
   cases p with
   | nil=>exact Nat.zero_le _
   | cons a t=>
    rw [ci_syn0 (s:Int) a t]
    have:=sub_abs hs (hsm _ (ih 0))
    omega
  | succ i=>
   rw [ci_syn (s:Int) p i]
   have:=sub_abs (ih i) (hsm _ (ih (i+1)))
   omega
theorem evI_le (A X x:Nat) (hx:x≤X):∀p:List Int,(∀i,(ci p i).natAbs≤A)→(evI p (x:Int)).natAbs≤A*(X+1) ^ p.length
 | [],_=>Nat.zero_le _
 | a :: t,h=>by
  have ih:=evI_le A X x hx t fun i=>h (i+1);have h0:a.natAbs≤A:=h 0
  show (evI t (x:Int)*(x:Int)+a).natAbs≤A*(X+1) ^ (t.length+1)
  have h1:=Int.natAbs_add_le (evI t (x:Int)*(x:Int)) a;rw [Int.natAbs_mul,Int.natAbs_natCast] at h1;generalize hK:(X+1) ^ t.length=K at ih;have hK1:1≤K:=by rw [←hK];exact Nat.pow_pos (by omega)
  have h2:=Nat.mul_le_mul ih hx;have h3:A≤A*K:=Nat.le_mul_of_pos_right A hK1;have e:A*(X+1) ^ (t.length+1)=A*K*X+A*K:=by rw [Nat.pow_succ,hK];grind
  omega
theorem filt_two {α:Type} (f:α→Bool):∀l:List α,l.length=(l.filter f).length+(l.filter fun a=>!f a).length
 | []=>rfl
 | a :: l=>by
  have ih:=filt_two f l;rw [List.filter_cons,List.filter_cons]
  cases f a
  ·simp only [Bool.not_false,if_true,List.length_cons]
   simp only [Bool.false_eq_true,if_false]
   omega
  ·simp only [if_true,List.length_cons,Bool.not_true,Bool.false_eq_true,if_false]
   omega
theorem evI_toR (x:Int):∀p:List Int,evR (toR p) (x:Rat)=(evI p x:Rat)
 | []=>Rat.intCast_zero.symm
 | a :: t=>by
  show evR (toR t) (x:Rat)*(x:Rat)+(a:Rat)=((evI t x*x+a:Int):Rat)
  rw [evI_toR x t,Rat.intCast_add,Rat.intCast_mul]
theorem co_rg (n:Nat→Int) (f:List Rat) (D:Nat) (h:∀i,co f i*(D:Rat)=(n i:Rat)):∀i,ci ((List.range f.length).map n) i=n i:=fun i=>by
 unfold ci;rw [List.getElem?_map]
 rcases Nat.lt_or_ge i f.length with k|k
 ·rw [List.getElem?_range k];rfl
 ·rw [List.getElem?_eq_none (by simpa using k)]
  have h1:=h i;rw [co_ge k] at h1;have h2:n i=0:=Rat.intCast_inj.1 (h1.symm.trans (by rw [Rat.intCast_zero];grind));rw [h2];rfl
theorem ev_rg {n:Nat→Int} {f:List Rat} {D:Nat} (h:∀i,co f i*(D:Rat)=(n i:Rat)) (x:Nat):(evI ((List.range f.length).map n) (x:Int):Rat)=evR f (x:Rat)*(D:Rat):=by
 rw [←evI_toR,Rat.intCast_natCast,←ev_map];refine ev_co (fun i=>?_) _;rw [co_toR,co_rg n f D h,co_map,h]
theorem factor_hf {a L:Nat} {f h p:List Rat} (hp:HF a p) (e:∀x,evR p x=evR f x*evR h x) (hf:Mo f) (hh:Mo h) (hp0:0<dgF p) (hL:dgF p≤L) (h63:L≤63):HF (2*a+23*L) f:=by
 obtain⟨hf0,hh0⟩:=dg_parts e hp0;have hdg:=dg_mul e hf0 hh0;obtain⟨D,n,D0,D1,D2⟩:=hp.nat;obtain⟨m,hm⟩:=factor_int e hh hh0 D0 fun i=>(D2 i).1;obtain⟨k,hk⟩:=factor_int (f:=h) (h:=f) (p:=p) (fun x=>by rw [e];grind) hf hf0 D0 fun i=>(D2 i).1;have tn:∀i,co (trimF p) i*(D:Rat)=(n i:Rat):=fun i=>by rw [co_trim];exact(D2 i).1
 have eP:∀x:Nat,(evI ((List.range (trimF p).length).map n) (x:Int):Rat)=evR p (x:Rat)*(D:Rat):=fun x=>by rw [ev_rg tn,ev_trim]
 have eF:=fun x:Nat=>ev_rg hm x;have eK:=fun x:Nat=>ev_rg hk x;have cP:=co_rg n (trimF p) D tn;have cF:=co_rg m f D hm;have lP:((List.range (trimF p).length).map n).length≤L:=by rw [List.length_map,List.length_range];exact hL
 have lF:((List.range f.length).map m).length≤L:=by
  have:=hf.len
  rw [List.length_map,List.length_range];omega
 generalize (List.range (trimF p).length).map n=P at eP cP lP;generalize (List.range f.length).map m=F at eF cF lF;generalize (List.range h.length).map k=K at eK
 have hfk:∀x:Nat,evI F (x:Int)*evI K (x:Int)=(D:Int)*evI P (x:Int):=fun x=>by
  apply Rat.intCast_inj.1
  rw [Rat.intCast_mul,Rat.intCast_mul,eF,eK,eP,e,Rat.intCast_natCast];grind
 have hroot:((List.range (2*L)).filter fun x=>decide (evI P ((x:Nat):Int)=0)).length<L:=by
  rcases Nat.lt_or_ge ((List.range (2*L)).filter fun x=>decide (evI P ((x:Nat):Int)=0)).length L with h1|h1
  ·exact h1
  ·exfalso
   have h2:=interp (2*L) _ P 0 (Nat.le_trans lP h1) (List.nodup_range.filter _) (fun x hx=>by
    have:=List.mem_range.1 (List.mem_filter.1 hx).1
    omega) (fun x hx=>by
    have:=of_decide_eq_true (List.mem_filter.1 hx).2
    rw [this];exact Nat.le_refl _) (dgF p - 1)
   rw [cP,Nat.zero_mul] at h2;have h3:=(D2 (dgF p - 1)).1;have h4:n (dgF p - 1)=0:=by omega
   rw [h4] at h3
   rcases Rat.mul_eq_zero.1 h3 with h5|h5
   ·exact dg_top hp0 h5
   ·have:=Rat.natCast_eq_zero_iff.1 h5
    omega
 have htwo:=filt_two (fun x:Nat=>decide (evI P (x:Int)=0)) (List.range (2*L));rw [List.length_range] at htwo;have hPv:∀x:Nat,x≤2*L→(evI P (x:Int)).natAbs≤2 ^ a*(2*L+1) ^ P.length:=fun x hx=>evI_le (2 ^ a) (2*L) x hx P fun i=>by rw [cP];exact Nat.le_of_lt (D2 i).2
 have hb:=interp (2*L) ((List.range (2*L)).filter fun x=>!decide (evI P ((x:Nat):Int)=0)) F (2 ^ a*(2 ^ a*(2*L+1) ^ L)) (by omega) (List.nodup_range.filter _) (fun x hx=>by
  have:=List.mem_range.1 (List.mem_filter.1 hx).1
  omega) (fun x hx=>by
  have h1:=List.mem_range.1 (List.mem_filter.1 hx).1;have h2:¬ evI P (x:Int)=0:=by simpa using (List.mem_filter.1 hx).2
  have h3:=congrArg Int.natAbs (hfk x);rw [Int.natAbs_mul,Int.natAbs_mul,Int.natAbs_natCast] at h3
  have h4:0<(evI K (x:Int)).natAbs:=by
   refine Nat.pos_of_ne_zero fun e0=>?_;rw [e0,Nat.mul_zero] at h3
   rcases Nat.mul_eq_zero.1 h3.symm with h5|h5
   ·omega
   ·omega
  have h5:=Nat.le_mul_of_pos_right (evI F (x:Int)).natAbs h4;have h6:=hPv x (by omega);have h7:(2*L+1) ^ P.length≤(2*L+1) ^ L:=Nat.pow_le_pow_right (by omega) lP;have h8:=Nat.mul_le_mul (Nat.le_of_lt D1) (Nat.le_trans h6 (Nat.mul_le_mul_left (2 ^ a) h7))
  omega)
 have hlen:((List.range (2*L)).filter fun x=>!decide (evI P ((x:Nat):Int)=0)).length≤2*L:=by omega
 have hpow:2 ^ a*(2 ^ a*(2*L+1) ^ L)*(2*(2*L)+3) ^ ((List.range (2*L)).filter fun x=>!decide (evI P ((x:Nat):Int)=0)).length<2 ^ (2*a+23*L):=by
  have L0:0<L:=by omega
  have h1:(2*(2*L)+3) ^ ((List.range (2*L)).filter fun x=>!decide (evI P ((x:Nat):Int)=0)).length≤(2 ^ 8) ^ (2*L):=
   Nat.le_trans (Nat.pow_le_pow_left (by omega) _) (Nat.pow_le_pow_right (by decide) hlen)
  have h2:(2*L+1) ^ L<(2 ^ 7) ^ L:=Nat.pow_lt_pow_left (by omega) (by omega)
  have e1:2 ^ (2*a+23*L)=2 ^ a*(2 ^ a*(2 ^ 7) ^ L)*(2 ^ 8) ^ (2*L):=by
   rw [←Nat.pow_mul,←Nat.pow_mul,←Nat.pow_add,←Nat.pow_add,←Nat.pow_add]
   congr 1;omega
  rw [e1];have h3:2 ^ a*(2 ^ a*(2*L+1) ^ L)<2 ^ a*(2 ^ a*(2 ^ 7) ^ L):=Nat.mul_lt_mul_of_pos_left (Nat.mul_lt_mul_of_pos_left h2 (Nat.pow_pos (by decide))) (Nat.pow_pos (by decide));exact Nat.lt_of_le_of_lt (Nat.mul_le_mul_left _ h1) (Nat.mul_lt_mul_of_pos_right h3 (Nat.pow_pos (Nat.pow_pos (by decide))))
 refine⟨(D:Int),m,by omega,?_,fun i=>⟨?_,?_⟩⟩
 ·rw [Int.natAbs_natCast]
  exact Nat.lt_of_lt_of_le D1 (Nat.pow_le_pow_right (by decide) (by omega))
 ·rw [←hm i,Rat.intCast_natCast]
 ·have:=hb i
  rw [cF] at this;exact Nat.lt_of_le_of_lt this hpow
theorem HF.sub {a b:Nat} {p q:List Rat} (hp:HF a p) (hq:HF b q):HF (a+b+1) (subF p q):=by
 obtain⟨D,n,D0,D1,D2⟩:=hp;obtain⟨E,m,E0,E1,E2⟩:=hq;have hw:2 ^ (a+b+1)=2 ^ a*2 ^ b*2:=by rw [Nat.pow_succ,Nat.pow_add]
 refine⟨D*E,fun i=>n i*E - m i*D,Int.mul_ne_zero D0 E0,?_,fun i=>⟨?_,?_⟩⟩
 ·rw [Int.natAbs_mul]
  have:=Nat.mul_lt_mul'' D1 E1
  omega
 ·rw [ev_inj (q:=zipA p (q.map (·*(-1)))) (fun x=>by rw [ev_subF,ev_zip,ev_map];grind),co_zip,co_map,Rat.intCast_sub,Rat.intCast_mul,Rat.intCast_mul,Rat.intCast_mul,←(D2 i).1,←(E2 i).1]
  grind
 ·show (n i*E - m i*D).natAbs<_
  have h1:=Int.natAbs_sub_le (n i*E) (m i*D);rw [Int.natAbs_mul,Int.natAbs_mul] at h1;have h2:=Nat.mul_lt_mul'' (D2 i).2 E1;have h3:=Nat.mul_lt_mul'' (E2 i).2 D1;rw [Nat.mul_comm (2 ^ b)] at h3;omega
theorem HF.deriv {a v:Nat} {p:List Rat} (hp:HF a p) (hv:dgF p≤2 ^ v):HF (a+v) (derivF p):=by
 obtain⟨D,n,D0,D1,D2⟩:=hp;have hw:2 ^ (a+v)=2 ^ a*2 ^ v:=Nat.pow_add ..;refine⟨D,fun i=>if i+1<dgF p then n (i+1)*((i+1:Nat):Int) else 0,D0,Nat.lt_of_lt_of_le D1 (Nat.pow_le_pow_right (by decide) (by omega)),fun i=>⟨?_,?_⟩⟩
 ·rw [co_deriv]
  show co p (i+1)*((i+1:Nat):Rat)*_=((if i+1<dgF p then n (i+1)*((i+1:Nat):Int) else 0:Int):Rat)
  split
  ·rw [Rat.intCast_mul,←(D2 _).1,Rat.intCast_natCast];grind
  ·rw [dg_ge (by omega),Rat.intCast_zero];grind
 ·show (if i+1<dgF p then n (i+1)*((i+1:Nat):Int) else 0).natAbs<_
  split
  ·rw [Int.natAbs_mul,Int.natAbs_natCast,hw]
   exact Nat.mul_lt_mul'' (D2 _).2 (by omega)
  ·exact Nat.pow_pos (by decide)
theorem HF.scale {a M:Nat} {p:List Rat} {c:Rat} (hp:HF a p) (hc:Bq M c):HF (a+M) (scaleF p c):=by
 obtain⟨D,n,D0,D1,D2⟩:=hp;have hw:2 ^ (a+M)=2 ^ a*2 ^ M:=Nat.pow_add ..;have hden:0<c.den:=Nat.pos_of_ne_zero c.den_nz;refine⟨D*c.den,fun i=>n i*c.num,Int.mul_ne_zero D0 (by omega),?_,fun i=>⟨?_,?_⟩⟩
 ·rw [Int.natAbs_mul,Int.natAbs_natCast,hw]
  exact Nat.mul_lt_mul'' D1 hc.2
 ·rw [co_scaleF,Rat.intCast_mul,Rat.intCast_mul,←(D2 i).1,←den_num c,Rat.intCast_natCast];grind
 ·rw [Int.natAbs_mul,hw]
  exact Nat.mul_lt_mul'' (D2 i).2 hc.1
theorem HF.mul {a b v:Nat} {p q:List Rat} (hp:HF a p) (hq:HF b q) (hv:p.length≤2 ^ v):HF (a+b+v+1) (mulF p q):=by
 obtain⟨D,n,D0,D1,D2⟩:=hp;obtain⟨E,m,E0,E1,E2⟩:=hq
 have hw:2 ^ (a+b+v+1)=2 ^ v*(2 ^ a*2 ^ b)*2:=by
  rw [Nat.pow_succ,Nat.mul_comm (2 ^ v),←Nat.pow_add,←Nat.pow_add]
 have hv1:1≤2 ^ v:=Nat.pow_pos (by decide);refine⟨D*E,fun i=>ipc n m p.length i,Int.mul_ne_zero D0 E0,?_,fun i=>⟨?_,?_⟩⟩
 ·rw [Int.natAbs_mul]
  have h1:=Nat.mul_lt_mul'' D1 E1;have h2:1*(2 ^ a*2 ^ b)≤2 ^ v*(2 ^ a*2 ^ b):=Nat.mul_le_mul_right _ hv1;omega
 ·have e:=co_prod (z:=n) (n:=m) (P:=q.map (·*(E:Rat))) (fun i=>by rw [co_map];exact(E2 i).1) p.length i
  rw [←e,ev_inj (p:=mulF ((List.range p.length).map fun j=>(n j:Rat)) (q.map (·*(E:Rat)))) (q:=(mulF p q).map (·*((D:Rat)*(E:Rat)))) (fun x=>?_),co_map,Rat.intCast_mul];rw [ev_mulF,ev_map,ev_map,ev_mulF]
  have e2:evR ((List.range p.length).map fun j=>(n j:Rat)) x=evR p x*(D:Rat):=by
   rw [←ev_map];refine ev_co (fun i=>?_) x;rw [co_list,co_map,(D2 i).1]
   split
   ·rfl
   ·rw [←(D2 i).1,co_ge (by omega)];grind
  rw [e2];grind
 ·show (ipc n m p.length i).natAbs<_
  have h1:=ipc_bound (f:=n) (g:=m) (K:=2 ^ a) (A:=2 ^ b) (fun j=>Nat.le_of_lt (D2 j).2) (fun j=>Nat.le_of_lt (E2 j).2) i p.length
  have h2:p.length*2 ^ a*2 ^ b≤2 ^ v*(2 ^ a*2 ^ b):=by
   rw [Nat.mul_assoc];exact Nat.mul_le_mul_right _ hv
  have h3:0<2 ^ v*(2 ^ a*2 ^ b):=Nat.mul_pos hv1 (Nat.mul_pos (Nat.pow_pos (by decide)) (Nat.pow_pos (by decide)));omega
end Go.Proofs.YtaaoleakkaloeaaGreatDoor
