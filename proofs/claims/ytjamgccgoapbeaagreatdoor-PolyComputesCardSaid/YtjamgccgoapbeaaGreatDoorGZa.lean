/- A region that draws its order: operations whose order is free are met once each, under an invariant that says what is known of those that are done. Slices of the call's own whose block holds cells of one kind only: append. -/
import Derived.Test.YtjamgccgoapbeaaGreatDoorGQo
import Derived.Test.YtjamgccgoapbeaaGreatDoorGQx
import Derived.Test.YtjamgccgoapbeaaGreatDoorGQt
set_option linter.unusedVariables false
set_option maxRecDepth 100000
set_option maxHeartbeats 64000000
namespace Go.Proofs.YtjamgccgoapbeaaGreatDoor
open Go
section
variable {P:Program} {md:Region.Mode} {ops:Array Oper} {Q:Exit→Act→World→Prop} {S:World→Prop}
def upD (D:Nat→Bool) (i k:Nat):Bool:=match Nat.beq k i with|true=>true|false=>D k
def upX (x:Nat→Value) (i:Nat) (v:Value) (k:Nat):Value:=match Nat.beq k i with|true=>v|false=>x k
def dstOf (ops:Array Oper) (i:Nat):Option Tmp:=(ops[i]?).bind (·.dst)
def puts (ops:Array Oper) (x:Nat→Value):List Nat→Act→Act
 | [],a=>a
 | i :: r,a=>puts ops x r (a.put (dstOf ops i) (x i))
def apartB (ops:Array Oper):List Nat→Bool
 | []=>true
 | i :: r=>r.all (fun j=>(j != i) && (match dstOf ops i with|some d=>dstOf ops j != some d|none=>true)) && apartB ops r
theorem upD_self (D:Nat→Bool) (i:Nat):upD D i i=true:=by simp [upD]
theorem beq_ne {i k:Nat} (h:k≠i):Nat.beq k i=false:=by cases hb:Nat.beq k i with|false=>rfl|true=>exact absurd (Nat.eq_of_beq_eq_true hb) h
theorem upD_ne (D:Nat→Bool) {i k:Nat} (h:k≠i):upD D i k=D k:=by simp only [upD,beq_ne h]
theorem upX_self (x:Nat→Value) (i:Nat) (v:Value):upX x i v i=v:=by simp [upX]
theorem upX_ne (x:Nat→Value) {i k:Nat} (v:Value) (h:k≠i):upX x i v k=x k:=by simp only [upX,beq_ne h]
theorem put_put (a:Act) (d:Option Tmp) (v u:Value):(a.put d v).put d u=a.put d u:=by
 cases d with
 | none=>rfl
 | some d=>simp [Act.put,Array.setIfInBounds_setIfInBounds]
theorem puts_put {x:Nat→Value} {v:Value} {d:Option Tmp}:∀(r:List Nat) (b:Act),(∀j ∈ r,∀e,d=some e→dstOf ops j≠some e)→(puts ops x r b).put d v=puts ops x r (b.put d v)
 | [],_,_=>rfl
 | j :: r,b,h=>by
  show (puts ops x r (b.put (dstOf ops j) (x j))).put d v=puts ops x r ((b.put d v).put (dstOf ops j) (x j))
  rw [puts_put r _ (fun k hk=>h k (List.mem_cons_of_mem _ hk)),←Act.put_comm b v (x j) (h j (List.mem_cons_self ..))]
theorem puts_upX {x:Nat→Value} {i:Nat} {v:Value}:∀(r:List Nat) (b:Act),i ∉ r→puts ops (upX x i v) r b=puts ops x r b
 | [],_,_=>rfl
 | j :: r,b,h=>by
  show puts ops (upX x i v) r (b.put (dstOf ops j) (upX x i v j))=puts ops x r (b.put (dstOf ops j) (x j))
  rw [puts_upX r _ (fun hh=>h (List.mem_cons_of_mem _ hh)),upX_ne x v (fun e=>h (by rw [e];exact List.mem_cons_self ..))]
theorem puts_step {x:Nat→Value} {i:Nat} {v:Value}:∀(E:List Nat) (a:Act),apartB ops E=true→i ∈ E→(puts ops x E a).put (dstOf ops i) v=puts ops (upX x i v) E a
 | [],_,_,h=>by cases h
 | j :: r,a,hp,h=>by
  simp only [apartB,Bool.and_eq_true,List.all_eq_true] at hp
  show (puts ops x r (a.put (dstOf ops j) (x j))).put (dstOf ops i) v=puts ops (upX x i v) r (a.put (dstOf ops j) (upX x i v j))
  by_cases hji:j=i
  ·subst hji
   have hn:j ∉ r:=fun hh=>by have:=(hp.1 j hh).1;simp at this
   rw [puts_put r _ (fun k hk e he=>by have:=(hp.1 k hk).2;rw [he] at this;simpa using this),put_put,puts_upX r _ hn,upX_self]
  ·rcases List.mem_cons.1 h with rfl|h
   ·exact absurd rfl hji
   ·rw [upX_ne x v hji];exact puts_step r _ hp.2 h
def ownX (ops:Array Oper) (a:Act) (i:Nat):Value:=match dstOf ops i with|some d=>a.tmps.getD d undef|none=>undef
theorem put_own (a:Act) (i:Nat):a.put (dstOf ops i) (ownX ops a i)=a:=by
 unfold ownX
 cases dstOf ops i with
 | none=>rfl
 | some d=>
  cases a with
  | mk t df=>
   simp only [Act.put,Act.mk.injEq,and_true]
   apply Array.ext_getElem?
   intro k
   by_cases hk:d=k
   ·subst hk
    by_cases hd:d<t.size
    ·simp [hd]
    ·simp [hd]
   ·simp [Array.getElem?_setIfInBounds_ne hk]
theorem puts_own:∀(E:List Nat) (a:Act),puts ops (ownX ops a) E a=a
 | [],_=>rfl
 | i :: r,a=>by
  show puts ops (ownX ops a) r (a.put (dstOf ops i) (ownX ops a i))=a
  rw [put_own];exact puts_own r a
def bindsOn (md:Region.Mode) (o:Oper) (j:Nat):Bool:=o.after.any fun e=>Region.binds md e && decide (e.on=j)
def forced (md:Region.Mode) (ops:Array Oper) (E:List Nat):Nat→Nat→Nat→Bool
 | 0,_,_=>false
 | n+1,k,j=>match ops[k]? with|some o=>bindsOn md o j || E.any (fun i=>bindsOn md o i && forced md ops E n i j)|none=>false
theorem forced_on {l:Array Bool} {E:List Nat} (hcl:∀i ∈ E,l.getD i true=true→∀o,ops[i]?=some o→∀e ∈ o.after,Region.binds md e=true→l.getD e.on false=true):∀(n k j:Nat),(∀o,ops[k]?=some o→∀e ∈ o.after,Region.binds md e=true→l.getD e.on false=true)→forced md ops E n k j=true→l.getD j false=true
 | 0,_,_,_,h=>by cases h
 | n+1,k,j,hk,h=>by
  unfold forced at h
  cases ho:ops[k]? with
  | none=>rw [ho] at h;cases h
  | some o=>
   rw [ho] at h
   have hb:∀i,bindsOn md o i=true→l.getD i false=true:=fun i hi=>by
    obtain⟨e,he,h2⟩:=Array.any_eq_true'.1 hi;rw [Bool.and_eq_true,decide_eq_true_eq] at h2;rw [←h2.2];exact hk o ho e he h2.1
   rw [Bool.or_eq_true] at h
   rcases h with h|h
   ·exact hb j h
   ·obtain⟨i,hi,h2⟩:=List.any_eq_true.1 h
    rw [Bool.and_eq_true] at h2;have h3:=hb i h2.1;refine forced_on hcl n i j (hcl i hi ?_) h2.2
    have hlt:i<l.size:=by
     rcases Nat.lt_or_ge i l.size with h'|h'
     ·exact h'
     ·simp [Array.getElem?_eq_none h'] at h3
    simp [hlt] at h3 ⊢;exact h3
def freeB (md:Region.Mode) (ops:Array Oper) (l0:Array Bool) (E:List Nat):Bool:=
 decide (l0.size=ops.size) && apartB ops E && (E.all fun i=>decide (i<ops.size) && !(l0.getD i true)) &&
 ((List.range ops.size).all fun k=>E.contains k || l0.getD k true || match ops[k]? with|some o=>(E.all fun j=>forced md ops E (E.length+1) k j) || o.after.any (fun e=>Region.binds md e && !(E.contains e.on) && !(l0.getD e.on false))|none=>true) &&
 (E.all fun i=>match ops[i]? with|some o=>o.after.all (fun e=>!(Region.binds md e) || l0.getD e.on false || (E.contains e.on && decide (e.on<i)))|none=>false)
def allOf (E:List Nat) (l0:Array Bool):Array Bool:=E.foldl (fun l i=>l.setIfInBounds i true) l0
theorem allOf_size (E:List Nat):∀l0,(allOf E l0).size=l0.size:=by
 induction E with
 | nil=>intro l0;rfl
 | cons i r ih=>intro l0;show (allOf r (l0.setIfInBounds i true)).size=_;rw [ih];simp
theorem allOf_get (E:List Nat):∀(l0:Array Bool) (k:Nat),k<l0.size→(allOf E l0)[k]?=if k ∈ E then some true else l0[k]?:=by
 induction E with
 | nil=>intro l0 k _;rfl
 | cons i r ih=>
  intro l0 k hk
  show (allOf r (l0.setIfInBounds i true))[k]?=_
  rw [ih _ k (by simpa using hk)]
  by_cases hr:k ∈ r
  ·simp [hr]
  ·by_cases hi:k=i
   ·subst hi;simp [hr,hk]
   ·simp [hr,hi,Array.getElem?_setIfInBounds_ne (Ne.symm hi)]
def Met (P:Program) (md:Region.Mode) (ops:Array Oper) (Q:Exit→Act→World→Prop) (S:World→Prop) (J:(Nat→Bool)→(Nat→Value)→World→Prop) (E:List Nat) (a0:Act) (i:Nat):Prop:=
 ∀(D:Nat→Bool) (x:Nat→Value) (w:World),S w→J D x w→D i=false→(∀o,ops[i]?=some o→∀e ∈ o.after,Region.binds md e=true→e.on ∈ E→D e.on=true)→wpOp P ops Q i (fun a' w'=>S w'∧∃v,a'=(puts ops x E a0).put (dstOf ops i) v∧J (upD D i) (upX x i v) w') (puts ops x E a0) w
theorem Met.mk {J:(Nat→Bool)→(Nat→Value)→World→Prop} {E:List Nat} {a0:Act} {i:Nat} {o:Oper} (ds:List Nat) (d:Option Tmp) (ho:ops[i]?=some o) (hd:o.dst=d) (hds:(ds.all fun j=>E.contains j && bindsOn md o j)=true) (h:∀(D:Nat→Bool) (x:Nat→Value) (w:World),S w→J D x w→D i=false→(∀j ∈ ds,D j=true)→∀K':Act→World→Prop,Shut (∀v a' w',a'=(puts ops x E a0).put d v→S w'→(S w'→J (upD D i) (upX x i v) w')→K' a' w')→if Region.wanted o (yielded ops (puts ops x E a0).tmps)=true then Oper.wp P o (puts ops x E a0) w K' Q else K' ((puts ops x E a0).put d undef) w):Met P md ops Q S J E a0 i:=by
 subst hd;intro D x w hS hJ hD hdeps;refine wpOp_step ho (fun K' hK=>h D x w hS hJ hD (fun j hj=>?_) K' (fun v a' w' ha hS' hJ'=>hK a' w' ⟨hS',v,by rw [ha];simp [dstOf,ho],hJ' hS'⟩));have h1:=List.all_eq_true.1 hds j hj;rw [Bool.and_eq_true] at h1;obtain⟨e,he,h2⟩:=Array.any_eq_true'.1 h1.2;rw [Bool.and_eq_true] at h2;have h3:e.on=j:=of_decide_eq_true h2.2;rw [←h3];exact hdeps o ho e he h2.1 (by rw [h3];simpa using h1.1)
theorem count_pos {p:Nat→Bool} {E:List Nat} {n:Nat} (h:(E.filter p).length=n+1):∃i ∈ E,p i=true:=by
 cases hf:E.filter p with
 | nil=>rw [hf] at h;cases h
 | cons i r=>
  have:i ∈ E.filter p:=by rw [hf];exact List.mem_cons_self ..
  exact⟨i,(List.mem_filter.1 this).1,(List.mem_filter.1 this).2⟩
theorem count_set {l:Array Bool} {i:Nat}:∀ {E:List Nat} {n:Nat},apartB ops E=true→i ∈ E→i<l.size→l.getD i true=false→(E.filter fun k=>!(l.getD k true)).length=n+1→(E.filter fun k=>!((l.setIfInBounds i true).getD k true)).length=n:=by
 intro E
 induction E with
 | nil=>intro n _ h;cases h
 | cons j r ih=>
  intro n hp hi hsz hl hc
  simp only [apartB,Bool.and_eq_true,List.all_eq_true] at hp
  by_cases hji:j=i
  ·subst hji
   have hn:∀k ∈ r,k≠j:=fun k hk e=>by have:=(hp.1 k hk).1;simp [e] at this
   have e1:(r.filter fun k=>!((l.setIfInBounds j true).getD k true))=r.filter fun k=>!(l.getD k true):=
    List.filter_congr fun k hk=>by rw [Go.getD_set_ne true (Ne.symm (hn k hk))]
   rw [List.filter_cons_of_neg (by simp [hsz]),e1];rw [List.filter_cons_of_pos (by simp [hl])] at hc
   simpa using hc
  ·rcases List.mem_cons.1 hi with rfl|hi
   ·exact absurd rfl hji
   by_cases hj:l.getD j true=true
   ·rw [List.filter_cons_of_neg (by simp [hj])] at hc
    rw [List.filter_cons_of_neg (by rw [Go.getD_set_ne true (Ne.symm hji)];simp [hj])];exact ih hp.2 hi hsz hl hc
   ·have hj':l.getD j true=false:=by simpa using hj
    rw [List.filter_cons_of_pos (by simp [hj'])] at hc;rw [List.filter_cons_of_pos (by rw [Go.getD_set_ne true (Ne.symm hji)];simp [hj'])]
    cases n with
    | zero=>
     have h0:(r.filter fun k=>!(l.getD k true))=[]:=List.eq_nil_of_length_eq_zero (by simpa using hc)
     have:i ∈ r.filter fun k=>!(l.getD k true):=List.mem_filter.2 ⟨hi,by simp [hl]⟩
     rw [h0] at this;cases this
    | succ n=>
     have h9:=ih (n:=n) hp.2 hi hsz hl (by simpa using hc);rw [List.length_cons,h9]
theorem inv_go {J:(Nat→Bool)→(Nat→Value)→World→Prop} {E:List Nat} {a0:Act} {l0:Array Bool} {m:Nat} (hE:freeB md ops l0 E=true) (hm:∀i ∈ E,Met P md ops Q S J E a0 i) (hf:∀(D:Nat→Bool) (x:Nat→Value) (w:World),(∀i ∈ E,D i=true)→S w→J D x w→wpAnyH P md ops Q S m (allOf E l0) (puts ops x E a0) w):∀(n:Nat) (l:Array Bool) (x:Nat→Value) (w:World),l.size=ops.size→(∀k,k ∉ E→l[k]?=l0[k]?)→(E.filter fun k=>!(l.getD k true)).length=n→(∀i ∈ E,l.getD i true=true→∀o,ops[i]?=some o→∀e ∈ o.after,Region.binds md e=true→l.getD e.on false=true)→S w→J (fun k=>l.getD k false) x w→wpAnyH P md ops Q S (m+n) l (puts ops x E a0) w:=by
 simp only [freeB,Bool.and_eq_true,decide_eq_true_eq,List.all_eq_true] at hE
 obtain⟨⟨⟨⟨hsz0,hap⟩,hin⟩,hout⟩,hord⟩:=hE;intro n
 induction n with
 | zero=>
  intro l x w hsz hag hc hcl hS hJ
  have hall:∀i ∈ E,l.getD i true=true:=by
   intro i hi;have h0:=List.eq_nil_of_length_eq_zero hc;have h1:i ∉ E.filter fun k=>!(l.getD k true):=by rw [h0];simp
   rw [List.mem_filter] at h1
   simpa [hi] using h1
  have hl:∀i ∈ E,l[i]?=some true:=by
   intro i hi;have h1:i<l.size:=by rw [hsz];exact(hin i hi).1
   have h2:=hall i hi
   simp [h1] at h2 ⊢
   exact h2
  have he:l=allOf E l0:=by
   apply Array.ext_getElem?
   intro k
   by_cases hk:k<l0.size
   ·rw [allOf_get E l0 k hk]
    by_cases hkE:k ∈ E
    ·rw [if_pos hkE];exact hl k hkE
    ·rw [if_neg hkE];exact hag k hkE
   ·rw [Array.getElem?_eq_none (by rw [hsz,←hsz0];omega),Array.getElem?_eq_none (by rw [allOf_size];omega)]
  have h:=hf (fun k=>l.getD k false) x w (fun i hi=>by simp [hl i hi]) hS hJ;rw [←he] at h;exact h
 | succ n ih=>
  intro l x w hsz hag hc hcl hS hJ;refine⟨fun h0=>?_,fun i hi=>?_⟩
  ·exfalso
   obtain⟨i,hi,hiu⟩:=count_pos hc;have hiu':l.getD i true=false:=by simpa using hiu
   clear hc hiu
   induction i using Nat.strongRecOn with
   | _ i hrec=>
    have ho:=hord i hi
    cases hoi:ops[i]? with
    | none=>rw [hoi] at ho;cases ho
    | some o=>
     rw [hoi] at ho
     have hready:i ∈ Region.ready md ops l:=by
      rw [mem_ready];refine⟨hiu',o,hoi,fun e he hb=>?_⟩;rw [Array.all_eq_true_iff_forall_mem] at ho;have h1:=ho e he;rw [hb] at h1
      simp only [Bool.not_true,Bool.false_or,Bool.or_eq_true,Bool.and_eq_true,decide_eq_true_eq] at h1
      rcases h1 with h1|⟨h1,h2⟩
      ·by_cases hkE:e.on ∈ E
       ·have:=(hin _ hkE).2
        have h3:e.on<l0.size:=by rw [hsz0];exact(hin _ hkE).1
        simp [h3] at this h1
        rw [h1] at this;cases this
       ·have:=hag _ hkE
        simp only [Array.getD_eq_getD_getElem?] at h1 ⊢
        rw [this];exact h1
      ·have hkE:e.on ∈ E:=by simpa using h1
       rcases Bool.eq_false_or_eq_true (l.getD e.on true) with h4|h4
       ·have h3:e.on<l.size:=by rw [hsz];exact(hin _ hkE).1
        simp [h3] at h4 ⊢;exact h4
       ·exact(hrec e.on h2 hkE h4).elim
     rw [h0] at hready;cases hready
  ·obtain⟨hiu,o,hoi,hall⟩:=mem_ready.1 hi
   have hiE:i ∈ E:=by
    by_cases hiE:i ∈ E
    ·exact hiE
    exfalso
    have hlt:i<ops.size:=(Array.getElem?_eq_some_iff.1 hoi).1;have h1:=hout i (List.mem_range.2 hlt)
    have h0:l0.getD i true=false:=by
     have:=hag i hiE
     simp only [Array.getD_eq_getD_getElem?] at hiu ⊢
     rw [←this];exact hiu
    rw [h0,hoi] at h1
    simp only [Bool.or_false,Bool.or_eq_true,List.contains_iff_mem] at h1
    rcases h1 with h1|h1|h1
    ·exact hiE h1
    ·obtain⟨j,hj,hju⟩:=count_pos hc
     have h2:=List.all_eq_true.1 h1 j hj;have h4:=forced_on hcl _ _ _ (fun o' ho' e he hb=>by rw [hoi] at ho';cases ho';exact hall e he hb) h2;have h5:j<l.size:=by rw [hsz];exact(hin _ hj).1
     simp [h5] at h4 hju
     rw [h4] at hju;cases hju
    ·obtain⟨e,he,h3⟩:=Array.any_eq_true'.1 h1
     simp only [Bool.and_eq_true,Bool.not_eq_true'] at h3
     have h4:=hall e he h3.1.1;have h5:e.on ∉ E:=by simpa using h3.1.2
     have:=hag _ h5
     have h6:=h3.2
     simp only [Array.getD_eq_getD_getElem?] at h4 h6
     rw [this,h6] at h4;cases h4
   have hlt:i<l.size:=by rw [hsz];exact(hin _ hiE).1
   have hD:l.getD i false=false:=by simp [hlt] at hiu ⊢;exact hiu
   refine wpOp_mono ?_ (hm i hiE (fun k=>l.getD k false) x w hS hJ hD (fun o' ho' e he hb _=>by rw [hoi] at ho';cases ho';exact hall e he hb));rintro a' w' ⟨hS',v,rfl,hJ'⟩;refine⟨hS',?_⟩;rw [puts_step E a0 hap hiE];refine ih _ _ _ (by simpa using hsz) (fun k hk=>?_) (count_set hap hiE hlt hiu hc) (fun k hk hlk o' ho' e he hb=>?_) hS' ?_
   ·rw [Array.getElem?_setIfInBounds_ne (fun e=>hk (by rw [←e];exact hiE))];exact hag k hk
   ·by_cases hki:k=i
    ·subst hki
     rw [hoi] at ho';cases ho';exact getD_set_true (hall e he hb)
    ·rw [Go.getD_set_ne true (Ne.symm hki)] at hlk
     exact getD_set_true (hcl k hk hlk o' ho' e he hb)
   ·have:(fun k=>(l.setIfInBounds i true).getD k false)=upD (fun k=>l.getD k false) i:=by
     funext k
     by_cases hk:k=i
     ·subst hk;rw [upD_self];simp [hlt]
     ·rw [upD_ne _ hk,Go.getD_set_ne false (Ne.symm hk)]
    rw [this];exact hJ'
theorem free_p {J:(Nat→Bool)→(Nat→Value)→World→Prop} (E:List Nat) (m:Nat) {n:Nat} {a0:Act} {l0:Array Bool} {w:World} (hn:n=m+E.length) (hE:freeB md ops l0 E=true) (hS:S w) (h0:∀(D:Nat→Bool) (x:Nat→Value),(∀i ∈ E,D i=false)→J D x w) (hm:∀i ∈ E,Met P md ops Q S J E a0 i) (hf:∀(D:Nat→Bool) (x:Nat→Value) (w:World),(∀i ∈ E,D i=true)→S w→J D x w→wpAnyH P md ops Q S m (allOf E l0) (puts ops x E a0) w):wpAnyH P md ops Q S n l0 a0 w:=by
 have hE':=hE
 simp only [freeB,Bool.and_eq_true,decide_eq_true_eq,List.all_eq_true] at hE'
 obtain⟨⟨⟨⟨hsz0,hap⟩,hin⟩,hout⟩,hord⟩:=hE';have hin':∀i ∈ E,l0.getD i true=false:=fun i hi=>by have:=(hin i hi).2;simpa using this
 have h:=inv_go (m:=m) hE hm hf (E.filter fun k=>!(l0.getD k true)).length l0 (ownX ops a0) w hsz0 (fun _ _=>rfl) rfl (fun i hi hl=>by rw [hin' i hi] at hl;cases hl) hS (h0 _ _ (fun i hi=>by
  have h1:=hin' i hi;have h2:i<l0.size:=by rw [hsz0];exact(hin i hi).1
  simp [h2] at h1 ⊢;exact h1))
 rw [puts_own,List.filter_eq_self.2 (fun i hi=>by simp [hin' i hi])] at h;rw [hn];exact h
theorem met_nil {J:(Nat→Bool)→(Nat→Value)→World→Prop} {E:List Nat} {a0:Act}:∀i ∈ ([]:List Nat),Met P md ops Q S J E a0 i:=fun _ h=>by cases h
theorem met_cons {J:(Nat→Bool)→(Nat→Value)→World→Prop} {E:List Nat} {a0:Act} {i:Nat} {r:List Nat} (h:Met P md ops Q S J E a0 i) (hr:∀i ∈ r,Met P md ops Q S J E a0 i):∀j ∈ i :: r,Met P md ops Q S J E a0 j:=fun j hj=>by
 rcases List.mem_cons.1 hj with rfl|hj
 ·exact h
 ·exact hr j hj
def putsL (x:Nat→Value):List (Nat × Tmp)→Act→Act
 | [],a=>a
 |(i,d) :: r,a=>putsL x r (a.put (some d) (x i))
def slotsB (ops:Array Oper) (F:List (Nat × Tmp)):Bool:=F.all fun p=>match dstOf ops p.1 with|some d=>decide (d=p.2)|none=>false
theorem puts_of {x:Nat→Value}:∀(F:List (Nat × Tmp)) (a:Act),slotsB ops F=true→puts ops x (F.map (·.1)) a=putsL x F a
 | [],_,_=>rfl
 |(i,d) :: r,a,h=>by
  simp only [slotsB,List.all_cons,Bool.and_eq_true] at h
  have h1:dstOf ops i=some d:=by
   have:=h.1
   cases hd:dstOf ops i with
   | none=>rw [hd] at this;cases this
   | some e=>rw [hd] at this;simp only [decide_eq_true_eq] at this;rw [this]
  show puts ops x (r.map (·.1)) (a.put (dstOf ops i) (x i))=putsL x r (a.put (some d) (x i))
  rw [h1];exact puts_of r _ h.2
def Fc (b:Bool) (p:Prop):Prop:=b=true→p
theorem Fc.off {b:Bool} {p:Prop} (h:b=false):Fc b p:=fun e=>by rw [h] at e;cases e
theorem Fc.on {b:Bool} {p:Prop} (h:p):Fc b p:=fun _=>h
theorem Fc.map {b:Bool} {p q:Prop} (f:p→q) (h:Fc b p):Fc b q:=fun e=>f (h e)
theorem Fc.get {b:Bool} {p:Prop} (h:Fc b p) (e:b=true):p:=h e
theorem free_q {J:(Nat→Bool)→(Nat→Value)→World→Prop} (F:List (Nat × Tmp)) (m:Nat) {n:Nat} {a0:Act} {l0:Array Bool} {w:World} (hn:n=m+(F.map (·.1)).length) (hE:freeB md ops l0 (F.map (·.1))=true) (hF:slotsB ops F=true) (hS:S w) (h0:∀(D:Nat→Bool) (x:Nat→Value),(∀i ∈ F.map (·.1),D i=false)→J D x w) (hm:∀i ∈ F.map (·.1),Met P md ops Q S J (F.map (·.1)) a0 i) (hf:∀(D:Nat→Bool) (x:Nat→Value) (w:World),(∀i ∈ F.map (·.1),D i=true)→S w→J D x w→wpAnyH P md ops Q S m (allOf (F.map (·.1)) l0) (putsL x F a0) w):wpAnyH P md ops Q S n l0 a0 w:=
 free_p (F.map (·.1)) m hn hE hS h0 hm (fun D x w h1 h2 h3=>by rw [puts_of F a0 hF];exact hf D x w h1 h2 h3)
theorem Met.mq {J:(Nat→Bool)→(Nat→Value)→World→Prop} {F:List (Nat × Tmp)} {a0:Act} {i:Nat} {o:Oper} (ds:List Nat) (d:Tmp) (ho:ops[i]?=some o) (hd:o.dst=some d) (hF:slotsB ops F=true) (hds:(ds.all fun j=>(F.map (·.1)).contains j && bindsOn md o j)=true) (h:∀(D:Nat→Bool) (x:Nat→Value) (w:World),S w→J D x w→D i=false→(∀j ∈ ds,D j=true)→∀K':Act→World→Prop,Shut (∀v a' w',a'=(putsL x F a0).put (some d) v→S w'→(S w'→J (upD D i) (upX x i v) w')→K' a' w')→if Region.wanted o (yielded ops (putsL x F a0).tmps)=true then Oper.wp P o (putsL x F a0) w K' Q else K' ((putsL x F a0).put (some d) undef) w):Met P md ops Q S J (F.map (·.1)) a0 i:=by
 refine Met.mk ds (some d) ho hd hds (fun D x w h1 h2 h3 h4 K' h5=>?_);rw [puts_of F a0 hF] at h5 ⊢;exact h D x w h1 h2 h3 h4 K' h5
end
end Go.Proofs.YtjamgccgoapbeaaGreatDoor
set_option linter.unusedVariables false
set_option maxRecDepth 100000
set_option maxHeartbeats 64000000
namespace Go.Proofs.YtjamgccgoapbeaaGreatDoor
open Go.RowKit
set_option linter.unusedSimpArgs false
structure ElT (P:Program) (S T:TypeId) (s bytes:Nat) (z:Value):Prop where
 und:P.underlying S=some (.slice T)
 inf:∃i,P.info? T=some i∧i.zero=some z∧i.size=s∧i.bytes=bytes
 sz:z.cells.size=s
 pos:0<s
def OwnG (w:World) (B:Nat) (T:TypeId) (s:Nat) (C:Value→Prop) (v:Value) (n:Nat) (xs:List Value):Prop:=
 xs.length=n*s∧((v=.slice none 0 0∧n=0)∨∃g cap cur,v=.slice (some ⟨g,0,none⟩) n cap∧B≤g∧w.heap[g]?=some (.cells cur T (0,0))∧n≤cap∧cap≤maxLen∧cur.size=cap*s∧cur.toList.take (n*s)=xs∧∀c ∈ cur.toList,C c)
theorem OwnG.nil (w:World) (B:Nat) (T:TypeId) (s:Nat) (C:Value→Prop):OwnG w B T s C (.slice none 0 0) 0 []:=⟨by simp,.inl ⟨rfl,rfl⟩⟩
theorem zero_kind {C:Value→Prop} {z:Array Value} (hz:∀c ∈ z.toList,C c) (h0:0<z.size) (n:Nat):∀c ∈ (Builtin.zeroCells z n).toList,C c:=by
 intro c hc;rw [Array.mem_toList_iff] at hc
 simp only [Builtin.zeroCells,Array.mem_map,Array.mem_range] at hc
 obtain⟨i,-,rfl⟩:=hc;have hlt:i % z.size<z.size:=Nat.mod_lt _ h0;rw [getElem!_pos z (i % z.size) hlt];exact hz _ (by simp)
theorem run_appendG2 {P:Program} {S T:TypeId} {s bytes:Nat} {z:Value} (E:ElT P S T s bytes z) {C:Value→Prop} (hC0:∀c ∈ z.cells.toList,C c) (w:World) (B:Nat) (ty:TypeId) (v:Value) (n:Nat) (xs:List Value) (hown:OwnG w B T s C v n xs) (a:Addr) (m c:Nat) (news:List Value) (hl:news.length=m*s) (hnews:∀j u,news[j]?=some u→w.cell? (a.add j)=some u) (h1:∀u ∈ news,u.oneCell'=true) (hu:∀u ∈ news,C u) (hm:0<m) (hn:(n+m)*bytes≤140737488355328) (h63:n+m≤maxLen) (hB:B≤w.heap.size):∃v' w',(Builtin.append_ #[S,S] ty #[v,.slice (some a) m c]).run P w=.ok v' w'∧OwnG w' B T s C v' (n+m) (xs ++ news)∧w.grownBy w' v.ownBlock∧(v'.ownBlock=v.ownBlock∨v'.ownBlock=some w.heap.size):=by
 obtain⟨i,hi,hz0,hz1,hz2⟩:=E.inf;have ht:=E.und;have hML:maxLen=9223372036854775807:=by unfold maxLen;rfl
 have grown:∀(old:Nat) (row:Option Nat),xs.length=n*s→(∀c ∈ xs,C c)→OwnG (w.drew.alloc (.cells (xs.toArray ++ news.toArray ++ Builtin.zeroCells z.cells (grownCap w (n+m) old T - (n+m))) T)) B T s C (.slice (some ⟨w.heap.size,0,none⟩) (n+m) (grownCap w (n+m) old T)) (n+m) (xs ++ news)∧w.grownBy (w.drew.alloc (.cells (xs.toArray ++ news.toArray ++ Builtin.zeroCells z.cells (grownCap w (n+m) old T - (n+m))) T)) row:=by
  intro old row hxl hxu;have hge:=grownCap_ge w (n+m) old T;have hcm:grownCap w (n+m) old T≤maxLen:=grownCap_le_maxLen w (n+m) old T h63;have hlen:(xs ++ news).length=(n+m)*s:=by rw [List.length_append,hxl,hl,Nat.add_mul]
  refine⟨⟨hlen,.inr ⟨w.heap.size,_,_,rfl,hB,heap_alloc_new w.drew _,hge,hcm,?_,?_,?_⟩⟩,⟨rfl,rfl,rfl,by simp,fun k hk _=>heap_alloc_old w.drew _ hk⟩⟩
  ·simp only [Array.size_append,List.size_toArray,size_zeroCells,hxl,hl,E.sz]
   rw [←Nat.add_mul,←Nat.add_mul]
   congr 1
   omega
  ·simp only [Array.toList_append,List.append_assoc]
   rw [←List.append_assoc,←hlen];exact List.take_left
  ·intro c hc
   simp only [Array.toList_append,List.mem_append] at hc
   rcases hc with (hc|hc)|hc
   ·exact hxu c hc
   ·exact hu c hc
   ·exact zero_kind hC0 (by rw [E.sz];exact E.pos) _ c hc
 obtain⟨hxl,h2⟩:=hown
 rcases h2 with ⟨rfl,rfl⟩|⟨g,cap,cur,rfl,hbg,hg,hnc,hcm,hcs,htake,hnu⟩
 ·have hx:xs=[]:=List.eq_nil_of_length_eq_zero (by simpa using hxl)
  subst hx;have hr:=run_append_nil (P:=P) w S ty T i z ht hi hz0 a m c news (by rw [hl,hz1]) hnews hm (by omega) (by rw [hz2];rw [Nat.zero_add] at hn;omega);have hgr:=grown 0 (Value.ownBlock (.slice none 0 0)) (by simp) (fun c hc=>by cases hc)
  simp only [Nat.zero_add,List.nil_append,Array.empty_append] at hgr ⊢
  exact⟨_,_,hr,hgr.1,hgr.2,.inr rfl⟩
 ·have hxu:∀c ∈ xs,C c:=fun c hc=>hnu c (List.mem_of_mem_take (by rw [htake];exact hc))
  by_cases hroom:n+m≤cap
  ·have hcap:(n+m)*s≤cap*s:=Nat.mul_le_mul_right _ hroom
   have hfit:n*i.size+news.length≤cur.size:=by rw [hl,hcs,hz1,←Nat.add_mul];exact hcap
   have hr:=run_append_room (P:=P) w S ty T i ht hi g n cap cur hg a m c news (by rw [hl,hz1]) hnews h1 hroom hfit;rw [hz1] at hr;refine⟨_,_,hr,⟨by rw [List.length_append,hxl,hl,Nat.add_mul],.inr ⟨g,cap,_,rfl,hbg,setRow_heap w g cur _ _ _ hg,hroom,hcm,?_,?_,?_⟩⟩,⟨rfl,rfl,rfl,by simp,fun k _ hk=>setRow_other w g k _ (fun e=>hk (by simp [Value.ownBlock,e]))⟩,.inl rfl⟩
   ·rw [Nat.add_mul] at hcap
    simp only [List.size_toArray,List.length_append,List.length_take,List.length_drop,Array.length_toList]
    omega
   ·rw [htake,show (n+m)*s=(xs ++ news).length by rw [List.length_append,hxl,hl,Nat.add_mul]]
    exact List.take_left
   ·intro c hc
    simp only [List.mem_append] at hc
    rcases hc with (hc|hc)|hc
    ·rw [htake] at hc;exact hxu c hc
    ·exact hu c hc
    ·exact hnu c (List.mem_of_mem_drop hc)
  ·have holds:∀j u,xs[j]?=some u→w.cell? ((⟨g,0,none⟩:Addr).add j)=some u:=fun j u hj=>by
    have hc:w.cell? ⟨g,j,none⟩=some u:=by
     rw [cell_of_row w g j _ _ _ hg];rw [←htake,List.getElem?_take] at hj
     split at hj
     ·simpa using hj
     ·cases hj
    by_cases h0:j=0
    ·subst h0;exact hc
    ·simpa [Addr.add,h0] using hc
   have hr:=run_append_grow (P:=P) w S ty T i z ht hi hz0 ⟨g,0,none⟩ n cap xs (by rw [hxl,hz1]) holds a m c news (by rw [hl,hz1]) hnews (by omega) (by omega) (growslice_fits (by omega) (by rw [hz2];exact hn));have hgr:=grown cap (Value.ownBlock (.slice (some ⟨g,0,none⟩) n cap)) hxl hxu;exact⟨_,_,hr,hgr.1,hgr.2,.inr rfl⟩
theorem run_appendG {P:Program} {S T:TypeId} {s bytes:Nat} {z:Value} (E:ElT P S T s bytes z) {C:Value→Prop} (hC0:∀c ∈ z.cells.toList,C c) (w:World) (B:Nat) (ty:TypeId) (v:Value) (n:Nat) (xs:List Value) (hown:OwnG w B T s C v n xs) (a:Addr) (m c:Nat) (news:List Value) (hl:news.length=m*s) (hnews:∀j u,news[j]?=some u→w.cell? (a.add j)=some u) (h1:∀u ∈ news,u.oneCell'=true) (hu:∀u ∈ news,C u) (hm:0<m) (hn:(n+m)*bytes≤140737488355328) (h63:n+m≤maxLen) (hB:B≤w.heap.size):∃v' w',(Builtin.append_ #[S,S] ty #[v,.slice (some a) m c]).run P w=.ok v' w'∧OwnG w' B T s C v' (n+m) (xs ++ news)∧w.grownBy w' v.ownBlock:=by
 obtain⟨v',w',h1',h2,h3,-⟩:=run_appendG2 E hC0 w B ty v n xs hown a m c news hl hnews h1 hu hm hn h63 hB;exact⟨v',w',h1',h2,h3⟩
theorem oper_appendG {P:Program} {o:Oper} {a:Act} {w w':World} {K:Act→World→Prop} {Q:Exit→Act→World→Prop} {T1 T2:TypeId} {ad:Addr} {m c:Nat} {v v':Value} (s x:Operand) (ho:o.op=.call { callee:=.builtin .append,args:=#[s,x],argTypes:=#[T1,T2] }) (hs:a.eval s=v) (hx:a.eval x=.slice (some ad) m c) (hr:(Builtin.append_ #[T1,T2] o.type #[v,.slice (some ad) m c]).run P w=.ok v' w') (hk:K (a.put o.dst v') w'):Oper.wp P o a w K Q:=by
 unfold Oper.wp execOp
 simp only [ho,resolve,invoke,builtin,Sem.run_bind,Sem.run_pure,Result.andThen_ok,List.map_toArray,List.map_cons,List.map_nil,hs,hx,hr]
 exact hk
theorem wpList_appendG2 {P:Program} {S T:TypeId} {sz bytes:Nat} {z:Value} (E:ElT P S T sz bytes z) {C:Value→Prop} (hC0:∀c ∈ z.cells.toList,C c) {ops:Array Oper} {rest:List Oper} {o:Oper} {a:Act} {w:World} {Q:Exit→Act→World→Prop} (hgd:o.guard=none) (s x:Operand) (ho:o.op=.call { callee:=.builtin .append,args:=#[s,x],argTypes:=#[S,S] }) (B:Nat) (v:Value) (n:Nat) (xs:List Value) (hs:a.eval s=v) (hown:OwnG w B T sz C v n xs) (ad:Addr) (m c:Nat) (news:List Value) (hx:a.eval x=.slice (some ad) m c) (hl:news.length=m*sz) (hnews:∀j u,news[j]?=some u→w.cell? (ad.add j)=some u) (h1:∀u ∈ news,u.oneCell'=true) (hu:∀u ∈ news,C u) (hm:0<m) (hn:(n+m)*bytes≤140737488355328) (h63:n+m≤maxLen) (hB:B≤w.heap.size) (h:∀v' w',OwnG w' B T sz C v' (n+m) (xs ++ news)→w.grownBy w' v.ownBlock→(v'.ownBlock=v.ownBlock∨v'.ownBlock=some w.heap.size)→wpList P ops Q rest (a.put o.dst v') w'):wpList P ops Q (o :: rest) a w:=by
 refine wpList_plain hgd fun K hK=>?_;obtain⟨v',w',hr,h2,h3,h4⟩:=run_appendG2 E hC0 w B o.type v n xs hown ad m c news hl hnews h1 hu hm hn h63 hB;exact oper_appendG s x ho hs hx hr (hK _ _ (h v' w' h2 h3 h4))
theorem OwnG.lt {w:World} {B:Nat} {T:TypeId} {s:Nat} {C:Value→Prop} {v:Value} {n:Nat} {xs:List Value} (h:OwnG w B T s C v n xs):∀k,v.ownBlock=some k→B≤k∧k<w.heap.size:=by
 intro k hk;obtain⟨-,h2⟩:=h
 rcases h2 with ⟨rfl,-⟩|⟨g,cap,cur,rfl,hb,hh,-⟩
 ·cases hk
 ·obtain rfl:g=k:=Option.some.inj hk
  exact⟨hb,lt_of_block hh⟩
theorem OwnG.mono {w w':World} {B:Nat} {T:TypeId} {s:Nat} {C:Value→Prop} {v:Value} {n:Nat} {xs:List Value} (h:OwnG w B T s C v n xs) (k:Ext w w'):OwnG w' B T s C v n xs:=by
 obtain⟨h1,h2⟩:=h;refine⟨h1,?_⟩
 rcases h2 with h2|⟨g,cap,cur,e,hb,hh,hr⟩
 ·exact .inl h2
 ·exact .inr ⟨g,cap,cur,e,hb,(k.block _ (lt_of_block hh)).trans hh,hr⟩
theorem OwnG.kind {w:World} {B:Nat} {T:TypeId} {s:Nat} {C:Value→Prop} {v:Value} {n:Nat} {xs:List Value} (h:OwnG w B T s C v n xs) {g j:Nat} (hg:v.ownBlock=some g) {c:Value} (hc:w.cell? ⟨g,j,none⟩=some c):C c:=by
 obtain⟨-,h2⟩:=h
 rcases h2 with ⟨rfl,-⟩|⟨g',cap,cur,rfl,-,hh,-,-,-,-,hnu⟩
 ·cases hg
 ·obtain rfl:g'=g:=Option.some.inj hg
  rw [cell_of_row w g' j _ _ _ hh] at hc;exact hnu _ (by rw [Array.mem_toList_iff];exact Array.mem_of_getElem? hc)
theorem ext_grownG {w0 w w':World} {u:Value} {T:TypeId} {s:Nat} {C:Value→Prop} {n:Nat} {xs:List Value} (h:Ext w0 w) (hown:OwnG w w0.heap.size T s C u n xs) (hg:w.grownBy w' u.ownBlock):Ext w0 w':=
 Below.grown h hg h.size (fun k hk=>(hown.lt k hk).1)
theorem OwnG.cells {w:World} {B:Nat} {T:TypeId} {s:Nat} {C:Value→Prop} {v:Value} {n:Nat} {xs:List Value} (h:OwnG w B T s C v n xs) (hn:0<n):∃g cap,v=.slice (some ⟨g,0,none⟩) n cap∧B≤g∧n≤cap∧∀j u,xs[j]?=some u→w.cell? ⟨g,j,none⟩=some u:=by
 obtain⟨-,h2⟩:=h
 rcases h2 with ⟨-,h0⟩|⟨g,cap,cur,rfl,hb,hg,hc,-,-,ht,-⟩
 ·omega
 ·refine⟨g,cap,rfl,hb,hc,fun j u hu=>?_⟩
  rw [cell_of_row w g j _ _ _ hg];rw [←ht,List.getElem?_take] at hu
  split at hu
  ·simpa using hu
  ·cases hu
theorem Nm.grownG {w w':World} {v u:Value} {q:Rat} {B:Nat} {T:TypeId} {s:Nat} {C:Value→Prop} {n:Nat} {xs:List Value} (h:Nm w v q) (hown:OwnG w B T s C u n xs) (hC:∀z,¬ C (.int .u64 z)) (hg:w.grownBy w' u.ownBlock):Nm w' v q:=by
 have key:∀ {vv:Value} {m:Nat},Wd w vv m→Wd w' vv m:=by
  intro vv m hw;obtain⟨A,cc,e,hc,hcl⟩:=hw;refine⟨A,cc,e,hc,?_⟩
  rcases Nat.eq_zero_or_pos (dg m).length with h0|h0
  ·left;rw [List.length_eq_zero_iff.1 h0];rfl
  ·obtain⟨bl,o,hA,hce⟩:=hcl.at_ (by simpa using h0)
   right
   refine⟨bl,o,hA,fun j hj=>hg.cell (hce j hj) fun hb=>?_⟩;have hj':j<(dg m).length:=by simpa using hj
   have h1:=hce j hj;rw [getD_map_u64 _ _ hj'] at h1;exact hC _ (hown.kind hb.symm h1)
 obtain⟨vn,vd,e,h1,h2⟩:=h;exact⟨vn,vd,e,key h1,key h2⟩
end Go.Proofs.YtjamgccgoapbeaaGreatDoor
