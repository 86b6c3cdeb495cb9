/- Plain facts on natural numbers as digits to a base. A region that draws its order and whose last operation stores over cells that it has loaded. What the values of the program and of the reference say: natural numbers as slices of words. -/
import Derived.Deep.RegionHeld3
import Derived.Test.YtjamgccgoapbeaaGreatDoorProg
import Derived.WalkKit
import Derived.OpenShut
import Derived.Handy
import Derived.Deep.QuietTactic
import Derived.BigQuiet
import Derived.WalkSpells
import Derived.WalkLawsBesides

set_option linter.unusedVariables false
set_option maxRecDepth 100000
set_option maxHeartbeats 64000000
namespace Go.Proofs.YtjamgccgoapbeaaGreatDoor
theorem ZZ {p:Prop} (h:p):RowKit.Hid p:=h
theorem lyA {α:Type _} {l:List α} {i:Nat} {a:α}:l.toArray.setIfInBounds i a=(l.set i a).toArray:=List.setIfInBounds_toArray ..
theorem lyB {α:Type _} {x b:α} {l:List α}:(x::l).set 0 b=b::l:=List.set_cons_zero
theorem lyC {α:Type _} {x b:α} {l:List α} {n:Nat}:(x::l).set (n+1) b=x::l.set n b:=List.set_cons_succ
def num (B:Nat):List Nat→Nat
 | []=>0
 | d :: l=>d+B*num B l
structure Norm (B:Nat) (l:List Nat):Prop where
 lt:∀d ∈ l,d<B
 last:l.getLast?≠some 0
@[simp] theorem num_nil (B):num B []=0:=rfl
@[simp] theorem num_cons (B d l):num B (d :: l)=d+B*num B l:=rfl
theorem num_append (B:Nat) (a b:List Nat):num B (a ++ b)=num B a+B ^ a.length*num B b:=by
 induction a with
 | nil=>simp
 | cons d a ih=>simp [ih,Nat.pow_succ,Nat.mul_add];grind
theorem num_lt (B:Nat) (l:List Nat) (h:∀d ∈ l,d<B):num B l<B ^ l.length:=by
 induction l with
 | nil=>simp
 | cons d l ih=>
  have h1:=h d (by simp);have h2:=ih (fun x hx=>h x (by simp [hx]))
  simp only [num_cons,List.length_cons,Nat.pow_succ]
  have:B*(num B l+1)≤B*B ^ l.length:=Nat.mul_le_mul_left _ h2
  rw [Nat.mul_comm (B ^ _)]
  grind
def dig (B n:Nat):List Nat:=
 if _h:n=0∨B<2 then [] else (n % B) :: dig B (n / B)
termination_by n
decreasing_by exact Nat.div_lt_self (by omega) (by omega)
theorem dig_zero (B:Nat):dig B 0=[]:=by rw [dig];simp
theorem dig_pos {B n:Nat} (hB:2≤B) (hn:0<n):dig B n=(n % B) :: dig B (n / B):=by
 rw [dig,dif_neg (by omega)]
theorem num_dig {B:Nat} (hB:2≤B) (n:Nat):num B (dig B n)=n:=by
 induction n using Nat.strongRecOn with
 | ind n ih=>
  rcases Nat.eq_zero_or_pos n with rfl|hn
  ·simp [dig_zero]
  ·rw [dig_pos hB hn,num_cons,ih _ (Nat.div_lt_self hn (by omega))]
   exact Nat.mod_add_div n B
theorem dig_lt {B:Nat} (hB:2≤B) (n:Nat):∀d ∈ dig B n,d<B:=by
 induction n using Nat.strongRecOn with
 | ind n ih=>
  rcases Nat.eq_zero_or_pos n with rfl|hn
  ·simp [dig_zero]
  ·rw [dig_pos hB hn]
   intro d hd
   rcases List.mem_cons.1 hd with rfl|hd
   ·exact Nat.mod_lt _ (by omega)
   ·exact ih _ (Nat.div_lt_self hn (by omega)) d hd
theorem dig_ne_nil {B n:Nat} (hB:2≤B) (hn:0<n):dig B n≠[]:=by rw [dig_pos hB hn];simp
theorem dig_eq_nil {B n:Nat} (hB:2≤B):dig B n=[]↔n=0:=by
 constructor
 ·intro h;rcases Nat.eq_zero_or_pos n with h0|h0
  ·exact h0
  ·exact absurd h (dig_ne_nil hB h0)
 ·rintro rfl;exact dig_zero B
theorem dig_last {B:Nat} (hB:2≤B) (n:Nat):(dig B n).getLast?≠some 0:=by
 induction n using Nat.strongRecOn with
 | ind n ih=>
  rcases Nat.eq_zero_or_pos n with rfl|hn
  ·simp [dig_zero]
  ·rw [dig_pos hB hn]
   by_cases h:n / B=0
   ·rw [h,dig_zero]
    have:n<B:=by
     rcases Nat.lt_or_ge n B with h1|h1
     ·exact h1
     ·exact absurd h (by have:=Nat.div_pos h1 (by omega);omega)
    rw [Nat.mod_eq_of_lt this];simp;omega
   ·rw [List.getLast?_cons_of_ne_nil (dig_ne_nil hB (Nat.pos_of_ne_zero h))]
    exact ih _ (Nat.div_lt_self hn (by omega))
theorem norm_dig {B:Nat} (hB:2≤B) (n:Nat):Norm B (dig B n):=⟨dig_lt hB n,dig_last hB n⟩
theorem Norm.tail {B d:Nat} {l:List Nat} (h:Norm B (d :: l)):Norm B l:=by
 refine⟨fun x hx=>h.lt x (by simp [hx]),fun e=>?_⟩
 cases l with
 | nil=>simp at e
 | cons c l=>exact h.last (by rw [List.getLast?_cons_of_ne_nil (by simp)];exact e)
theorem Norm.pos {B:Nat} {l:List Nat} (h:Norm B l) (hl:l≠[]):0<num B l:=by
 induction l with
 | nil=>exact absurd rfl hl
 | cons d l ih=>
  cases l with
  | nil=>
   have:=h.last
   simp at this ⊢;omega
  | cons c l=>
   have h1:=ih h.tail (by simp);have hB:0<B:=by have:=h.lt d (by simp);omega
   have:=Nat.mul_pos hB h1
   rw [num_cons];omega
theorem Norm.dig {B:Nat} (hB:2≤B) {l:List Nat} (h:Norm B l):dig B (num B l)=l:=by
 induction l with
 | nil=>simp [dig_zero]
 | cons d l ih=>
  have hd:=h.lt d (by simp);rw [dig_pos hB (h.pos (by simp)),num_cons]
  congr 1
  ·rw [Nat.add_mul_mod_self_left,Nat.mod_eq_of_lt hd]
  ·rw [Nat.add_mul_div_left _ _ (by omega),Nat.div_eq_of_lt hd,Nat.zero_add]
   exact ih h.tail
def cut:List Nat→List Nat
 | []=>[]
 | d :: l=>if cut l=[]∧d=0 then [] else d :: cut l
theorem num_cut (B:Nat) (l:List Nat):num B (cut l)=num B l:=by
 induction l with
 | nil=>rfl
 | cons d l ih=>
  unfold cut
  split
  ·rename_i h;rw [num_cons,←ih,h.1,h.2];simp
  ·simp [ih]
theorem cut_norm {B:Nat} {l:List Nat} (h:∀d ∈ l,d<B):Norm B (cut l):=by
 induction l with
 | nil=>exact⟨by simp [cut],by simp [cut]⟩
 | cons d l ih=>
  have ih:=ih (fun x hx=>h x (by simp [hx]));unfold cut
  split
  ·exact⟨by simp,by simp⟩
  ·rename_i hc
   refine⟨fun x hx=>?_,?_⟩
   ·rcases List.mem_cons.1 hx with rfl|hx
    ·exact h _ (by simp)
    ·exact ih.lt x hx
   ·by_cases e:cut l=[]
    ·rw [e];simp;intro h0;exact hc ⟨e,h0⟩
    ·rw [List.getLast?_cons_of_ne_nil e];exact ih.last
theorem cut_dig {B:Nat} (hB:2≤B) {l:List Nat} (h:∀d ∈ l,d<B):cut l=dig B (num B l):=by
 rw [←num_cut B l,(cut_norm h).dig hB]
theorem cut_snoc_zero (l:List Nat):cut (l ++ [0])=cut l:=by
 induction l with
 | nil=>simp [cut]
 | cons d l ih=>simp [cut,ih]
theorem cut_of_last {l:List Nat} (h:l.getLast?≠some 0):cut l=l:=by
 induction l with
 | nil=>rfl
 | cons d l ih=>
  unfold cut
  cases l with
  | nil=>simp at h;simp [cut,h]
  | cons c l=>
   rw [List.getLast?_cons_of_ne_nil (by simp)] at h;rw [ih h];simp
theorem num_snoc (B:Nat) (l:List Nat) (d:Nat):num B (l ++ [d])=num B l+B ^ l.length*d:=by
 rw [num_append];simp
theorem take_snoc_getD (l:List Nat) (i:Nat) (h:i<l.length):l.take (i+1)=l.take i ++ [l.getD i 0]:=by
 rw [List.take_succ_eq_append_getElem h,List.getD_eq_getElem?_getD,List.getElem?_eq_getElem h];rfl
theorem num_take_succ (B:Nat) (l:List Nat) (i:Nat) (h:i<l.length):num B (l.take (i+1))=num B (l.take i)+B ^ i*l.getD i 0:=by
 rw [take_snoc_getD l i h,num_snoc,List.length_take,Nat.min_eq_left (by omega)]
theorem num_take_all (B:Nat) (l:List Nat) {i:Nat} (h:l.length≤i):num B (l.take i)=num B l:=by
 rw [List.take_of_length_le h]
theorem num_drop (B:Nat) (l:List Nat) (i:Nat) (h:i≤l.length):num B l=num B (l.take i)+B ^ i*num B (l.drop i):=by
 have:=num_append B (l.take i) (l.drop i)
 rw [List.take_append_drop,List.length_take,Nat.min_eq_left h] at this;exact this
theorem getD_lt {B:Nat} {l:List Nat} (h:∀d ∈ l,d<B) (hB:0<B) (i:Nat):l.getD i 0<B:=by
 rw [List.getD_eq_getElem?_getD]
 by_cases hi:i<l.length
 ·rw [List.getElem?_eq_getElem hi];exact h _ (List.getElem_mem hi)
 ·rw [List.getElem?_eq_none (by omega)];simpa using hB
theorem num_replicate_zero (B n:Nat):num B (List.replicate n 0)=0:=by
 induction n with
 | zero=>rfl
 | succ n ih=>simp [List.replicate_succ,ih]
theorem Norm.lower {B:Nat} {l:List Nat} (h:Norm B l) (hl:l≠[]):B ^ (l.length - 1)≤num B l:=by
 induction l with
 | nil=>exact absurd rfl hl
 | cons d l ih=>
  cases l with
  | nil=>have:=h.pos (by simp);simp only [List.length_cons,List.length_nil,Nat.zero_add,Nat.sub_self,Nat.pow_zero];exact this
  | cons c l=>
   have h1:=ih h.tail (by simp)
   simp only [List.length_cons,Nat.add_sub_cancel] at h1 ⊢
   rw [num_cons,Nat.pow_succ,Nat.mul_comm]
   have:=Nat.mul_le_mul_left B h1
   omega
theorem num_lt_of_length {B:Nat} (hB:2≤B) {a b:List Nat} (ha:∀d ∈ a,d<B) (hb:Norm B b) (h:a.length<b.length):num B a<num B b:=by
 have h1:=num_lt B a ha;have h2:=hb.lower (by rintro rfl;simp at h);have h3:B ^ a.length≤B ^ (b.length - 1):=Nat.pow_le_pow_right (by omega) (by omega);omega
theorem num_lt_of_top {B:Nat} {a b:List Nat} (ha:∀d ∈ a,d<B) (hl:a.length=b.length) (i:Nat) (hi:i<a.length) (ht:a.drop (i+1)=b.drop (i+1)) (hd:a.getD i 0<b.getD i 0):num B a<num B b:=by
 rw [num_drop B a (i+1) (by omega),num_drop B b (i+1) (by omega),ht,num_take_succ B a i hi,num_take_succ B b i (by omega)];have h1:=num_lt B (a.take i) (fun d hm=>ha d (List.mem_of_mem_take hm));rw [List.length_take,Nat.min_eq_left (by omega)] at h1;have h2:B ^ i*(a.getD i 0+1)≤B ^ i*b.getD i 0:=Nat.mul_le_mul_left _ hd;rw [Nat.mul_add] at h2;omega
theorem drop_eq_of {a b:List Nat} {i:Nat} (ha:i<a.length) (hb:i<b.length) (h:a.drop (i+1)=b.drop (i+1)) (hd:a.getD i 0=b.getD i 0):a.drop i=b.drop i:=by
 rw [List.drop_eq_getElem_cons ha,List.drop_eq_getElem_cons hb,h]
 congr 1
 simpa [List.getD_eq_getElem?_getD,List.getElem?_eq_getElem,ha,hb] using hd
theorem dig_length_le {B:Nat} (hB:2≤B) {n k:Nat} (h:n<B ^ k):(dig B n).length≤k:=by
 rcases Nat.eq_zero_or_pos n with rfl|hn
 ·rw [dig_zero];simp
 ·have h1:=(norm_dig hB n).lower (dig_ne_nil hB hn)
  rw [num_dig hB] at h1
  rcases Nat.lt_or_ge k (dig B n).length with h2|h2
  ·have h3:B ^ k≤B ^ ((dig B n).length - 1):=Nat.pow_le_pow_right (by omega) (by omega)
   omega
  ·exact h2
theorem lt_dig_length {B:Nat} (hB:2≤B) (n:Nat):n<B ^ (dig B n).length:=by
 have:=num_lt B _ (dig_lt hB n)
 rwa [num_dig hB] at this
theorem dig_length_mono {B:Nat} (hB:2≤B) {m n:Nat} (h:m≤n):(dig B m).length≤(dig B n).length:=
 dig_length_le hB (Nat.lt_of_le_of_lt h (lt_dig_length hB n))
theorem dig_length_mul {B:Nat} (hB:2≤B) (m n:Nat):(dig B (m*n)).length≤(dig B m).length+(dig B n).length:=by
 apply dig_length_le hB
 rw [Nat.pow_add]
 rcases Nat.eq_zero_or_pos m with rfl|hm
 ·simpa using Nat.mul_pos (Nat.pow_pos (by omega)) (Nat.pow_pos (by omega))
 ·exact Nat.mul_lt_mul_of_lt_of_le (lt_dig_length hB m) (Nat.le_of_lt (lt_dig_length hB n)) (Nat.pow_pos (by omega))
end Go.Proofs.YtjamgccgoapbeaaGreatDoor
set_option linter.unusedVariables false
set_option maxRecDepth 100000
set_option maxHeartbeats 64000000
namespace Go.Proofs.YtjamgccgoapbeaaGreatDoor
open Go
section
variable {P:Program} {md:Region.Mode} {ops:Array Oper} {Q:Exit→Act→World→Prop} {S:World→Prop} {z:Nat}
def AnyL (P:Program) (md:Region.Mode) (ops:Array Oper) (Q:Exit→Act→World→Prop) (S:World→Prop) (z:Nat):Nat→Array Bool→Act→World→Prop
 | 0,listed,a,w=>Region.ready md ops listed=[]∧Q .normal a w
 | fuel+1,listed,a,w=>(Region.ready md ops listed=[]→Q .normal a w) ∧
  ∀i ∈ Region.ready md ops listed,wpOp P ops Q i (fun a' w'=>(i≠z→S w')∧AnyL P md ops Q S z fuel (listed.setIfInBounds i true) a' w') a w
theorem any_of_L:∀(fuel:Nat) (listed:Array Bool) (a:Act) (w:World),AnyL P md ops Q S z fuel listed a w→wpAny P md ops Q fuel listed a w
 | 0,_,_,_,h=>h
 | fuel+1,_,_,_,h=>⟨h.1,fun i hi=>wpOp_mono (fun a' w' h'=>any_of_L fuel _ a' w' h'.2) (h.2 i hi)⟩
def Clo (md:Region.Mode) (ops:Array Oper) (listed:Array Bool):Prop:=∀(k:Nat) (o:Oper),ops[k]?=some o→listed.getD k true=true→∀e ∈ o.after,Region.binds md e=true→listed.getD e.on false=true
def cloB (md:Region.Mode) (ops:Array Oper) (listed:Array Bool):Bool:=
 (List.range ops.size).all fun k=>!(listed.getD k true) || match ops[k]? with|some o=>o.after.all (fun e=>!(Region.binds md e) || listed.getD e.on false)|none=>true
theorem clo_of {listed:Array Bool} (h:cloB md ops listed=true):Clo md ops listed:=by
 intro k o ho hl e he hb;have hk:k<ops.size:=(Array.getElem?_eq_some_iff.1 ho).1;have h1:=List.all_eq_true.1 h k (List.mem_range.2 hk);rw [hl,ho] at h1
 simp only [Bool.not_true,Bool.false_or,Array.all_eq_true_iff_forall_mem,Bool.or_eq_true,Bool.not_eq_true'] at h1
 exact(h1 e he).resolve_left (by simp [hb])
theorem clo_set {listed:Array Bool} {j:Nat} (h:Clo md ops listed) (hj:j ∈ Region.ready md ops listed):Clo md ops (listed.setIfInBounds j true):=by
 intro k o ho hl e he hb
 by_cases hjk:j=k
 ·subst hjk
  obtain⟨-,o',ho',hall⟩:=mem_ready.1 hj;rw [ho] at ho';cases ho';exact getD_set_true (hall e he hb)
 ·rw [getD_set_ne true hjk] at hl
  exact getD_set_true (h k o ho hl e he hb)
def chainB (md:Region.Mode) (ops:Array Oper) (z:Nat):Bool:=
 (List.range ops.size).all fun i=>decide (i=z) || (List.range ops.size).any fun k=>decide (i<k) && match ops[k]? with|some o=>o.after.any (fun e=>Region.binds md e && decide (e.on=i))|none=>false
theorem last_z (h:chainB md ops z=true) {listed:Array Bool} (hc:Clo md ops listed) (hs:listed.size=ops.size):∀(n i:Nat),ops.size - i=n→listed.getD i true=false→i≠z→z ∉ Region.ready md ops listed:=by
 intro n
 induction n using Nat.strongRecOn with
 | _ n ih=>
  intro i hn hi hne
  have hk:i<ops.size:=by
   rcases Nat.lt_or_ge i ops.size with h'|h'
   ·exact h'
   ·rw [←hs] at h';simp [Nat.not_lt.2 h'] at hi
  have h1:=List.all_eq_true.1 h i (List.mem_range.2 hk);rw [Bool.or_eq_true] at h1;have h2:=h1.resolve_left (by simpa using hne);obtain⟨k,hkm,h3⟩:=List.any_eq_true.1 h2;rw [Bool.and_eq_true] at h3;obtain⟨h4,h5⟩:=h3;have hik:i<k:=of_decide_eq_true h4;have hkn:k<ops.size:=List.mem_range.1 hkm
  cases ho:ops[k]? with
  | none=>rw [ho] at h5;cases h5
  | some o=>
   rw [ho] at h5;obtain⟨e,he,h6⟩:=Array.any_eq_true'.1 h5;rw [Bool.and_eq_true] at h6;have hon:e.on=i:=of_decide_eq_true h6.2
   have nof:listed.getD e.on false≠true:=by
    rw [hon];have hlt:i<listed.size:=by rw [hs];exact hk
    simp [hlt] at hi ⊢
    exact hi
   by_cases hkz:k=z
   ·subst hkz
    intro hr;obtain⟨-,o',ho',hall⟩:=mem_ready.1 hr;rw [ho] at ho';cases ho';exact nof (hall e he h6.1)
   ·have hku:listed.getD k true=false:=by
     rcases Bool.eq_false_or_eq_true (listed.getD k true) with h7|h7
     ·exact absurd (hc k o ho h7 e he h6.1) nof
     ·exact h7
    exact ih (ops.size - k) (by omega) k rfl hku hkz
theorem first_L (hch:chainB md ops z=true) {i:Nat} {oi:Oper} {v:Value} (hi:ops[i]?=some oi) (hsel:∀(j:Nat) (o:Oper) cs b,ops[j]?=some o→o.op≠.select cs b) (hQ:∀c a w,Q (.panic c) (a.put oi.dst v) w→Q (.panic c) a w) (hiz:i≠z):∀(fuel:Nat) (listed:Array Bool) (a:Act) (w:World),Clo md ops listed→listed.size=ops.size→(∀j oj,ops[j]?=some oj→j≠i→listed.getD j true=false→(∀e ∈ oj.after,Region.binds md e=true→e.on≠i)→oi.apart ops oj=true)→i ∈ Region.ready md ops listed→YieldsIf P ops S oi v a→S w→AnyL P md ops Q S z fuel (listed.setIfInBounds i true) (a.put oi.dst v) w→AnyL P md ops Q S z (fuel+1) listed a w:=by
 intro fuel
 induction fuel with
 | zero=>
  intro listed a w hcl hsz _ hr hy hS H;refine⟨fun h=>(by rw [h] at hr;cases hr),fun j hj=>?_⟩
  by_cases hji:j=i
  ·subst hji;exact hy.wpOp hi hS ⟨fun _=>hS,H⟩
  ·have:=ready_mono hj hji
   rw [H.1] at this
   cases this
 | succ fuel ih=>
  intro listed a w hcl hsz hfree hr hy hS H;refine⟨fun h=>(by rw [h] at hr;cases hr),fun j hj=>?_⟩
  by_cases hji:j=i
  ·subst hji;exact hy.wpOp hi hS ⟨fun _=>hS,H⟩
  ·have hjz:j≠z:=fun e=>last_z hch hcl hsz _ i rfl (mem_ready.1 hr).1 hiz (e ▸ hj)
   have h1:=H.2 j (ready_mono hj hji);obtain⟨hjun,oj,hoj,hall⟩:=mem_ready.1 hj
   have hnot:∀e ∈ oj.after,Region.binds md e=true→e.on≠i:=fun e he hb heq=>by
    have h1:=hall e he hb;have h0:=(mem_ready.1 hr).1;rw [heq] at h1
    rcases Nat.lt_or_ge i listed.size with h'|h'
    ·simp [h'] at h0 h1;rw [h0] at h1;cases h1
    ·simp [Array.getElem?_eq_none h'] at h1
   have h2:=wpOp_putIf hoj (hfree j oj hoj hji hjun hnot) (fun cs b=>hsel i oi cs b hi) (fun cs b=>hsel j oj cs b hoj) hQ hy h1
   have hfree':∀k ok,ops[k]?=some ok→k≠i→(listed.setIfInBounds j true).getD k true=false→(∀e ∈ ok.after,Region.binds md e=true→e.on≠i)→oi.apart ops ok=true:=fun k ok hk hki hun hno=>by
    refine hfree k ok hk hki ?_ hno
    by_cases hjk:j=k
    ·subst hjk;exact hjun
    ·rw [getD_set_ne true hjk] at hun;exact hun
   refine wpOp_mono (fun a' w' h3=>⟨fun _=>h3.2.1 hjz,ih (listed.setIfInBounds j true) a' w' (clo_set hcl hj) (by simpa using hsz) hfree' (ready_mono hr (Ne.symm hji)) h3.1 (h3.2.1 hjz) ?_⟩) h2;rw [Array.setIfInBounds_comm _ _ hji];exact h3.2.2
theorem take_L {i:Nat} (d:Tmp) {oi:Oper} {v:Value} {fuel:Nat} {listed:Array Bool} {a:Act} {w:World} (hi:ops[i]?=some oi) (hd:oi.dst=some d) (hs:Region.noSelect ops=true) (hf:Region.free md ops listed i=true) (hr:(Region.ready md ops listed).contains i=true) (hch:(chainB md ops z && cloB md ops listed && decide (listed.size=ops.size) && decide (i≠z))=true) (hQ:∀c a w,Q (.panic c) (a.put (some d) v) w→Q (.panic c) a w) (hy:YieldsIf P ops S oi v a) (hS:S w) (h:AnyL P md ops Q S z fuel (listed.setIfInBounds i true) (a.put (some d) v) w):AnyL P md ops Q S z (fuel+1) listed a w:=by
 rw [←hd] at hQ h
 simp only [Bool.and_eq_true,decide_eq_true_eq] at hch
 exact first_L hch.1.1.1 hi (Region.noSelect_spec hs) hQ hch.2 fuel listed a w (clo_of hch.1.1.2) hch.1.2 (Region.free_spec hi hf) (by simpa using hr) hy hS h
theorem call_L {fuel:Nat} {listed:Array Bool} {a:Act} {w:World} {i:Nat} (d:Tmp) {o:Oper} (ho:ops[i]?=some o) (hd:o.dst=some d) (hr:Region.ready md ops listed=[i]) (h:∀K':Act→World→Prop,Shut (∀a w,S w→(S w→AnyL P md ops Q S z fuel (listed.setIfInBounds i true) a w)→K' a w)→if Region.wanted o (yielded ops a.tmps)=true then Oper.wp P o a w K' Q else K' (a.put (some d) undef) w):AnyL P md ops Q S z (fuel+1) listed a w:=by
 rw [←hd] at h;refine⟨fun h0=>by (rw [hr] at h0;cases h0),fun j hj=>?_⟩;rw [hr] at hj;obtain rfl:=List.mem_singleton.1 hj;exact wpOp_step ho (fun K' hK=>h K' (fun a w hS hW=>hK a w ⟨fun _=>hS,hW hS⟩))
theorem last_L {fuel:Nat} {listed:Array Bool} {a:Act} {w:World} {o:Oper} (ho:ops[z]?=some o) (hr:Region.ready md ops listed=[z]) (hr2:Region.ready md ops (listed.setIfInBounds z true)=[]) (h:∀K':Act→World→Prop,Shut (∀a w,Q .normal a w→K' a w)→if Region.wanted o (yielded ops a.tmps)=true then Oper.wp P o a w K' Q else K' (a.put o.dst undef) w):AnyL P md ops Q S z (fuel+1) listed a w:=by
 refine⟨fun h0=>by (rw [hr] at h0;cases h0),fun j hj=>?_⟩;rw [hr] at hj;obtain rfl:=List.mem_singleton.1 hj;refine wpOp_step ho (fun K' hK=>h K' (fun a w hq=>hK a w ⟨fun hne=>absurd rfl hne,?_⟩))
 cases fuel with
 | zero=>exact⟨hr2,hq⟩
 | succ n=>exact⟨fun _=>hq,by rw [hr2];simp⟩
theorem region_L {id:Nat} {a:Act} {w:World} (z:Nat) (hm:P.follows .mixedOrders=true) (hS:S w.drew) (h:S w.drew→AnyL P .any ops Q S z ops.size (Array.replicate ops.size false) a w.drew):(Code.region id ops true).wp P Q a w:=
 wp_region_any hm (any_of_L _ _ _ _ (h hS))
end
end Go.Proofs.YtjamgccgoapbeaaGreatDoor
set_option linter.unusedVariables false
set_option maxRecDepth 100000
set_option maxHeartbeats 64000000
namespace Go.Proofs.YtjamgccgoapbeaaGreatDoor
open Go.RowKit
def B64:Nat:=18446744073709551616
theorem B64_eq:B64=18446744073709551616:=rfl
theorem B64_two:2≤B64:=by rw [B64_eq];omega
def B30:Nat:=1073741824
theorem B30_eq:B30=1073741824:=rfl
theorem B30_two:2≤B30:=by rw [B30_eq];omega
def dg (n:Nat):List Nat:=dig B64 n
def dr (n:Nat):List Nat:=dig B30 n
theorem num_dg (n:Nat):num B64 (dg n)=n:=num_dig B64_two n
theorem num_dr (n:Nat):num B30 (dr n)=n:=num_dig B30_two n
theorem dg_norm (n:Nat):Norm B64 (dg n):=norm_dig B64_two n
theorem dr_norm (n:Nat):Norm B30 (dr n):=norm_dig B30_two n
abbrev Ext (w w':World):Prop:=Below w.heap.size w w'
theorem ae (w:World):Ext w w:=Below.refl _ _
theorem al {a b c:World} (h:Ext a b) (k:Ext b c):Ext a c:=h.trans (k.mono h.size)
theorem ay (w:World) (n:Nat):Ext w (w.drewN n):=⟨rfl,rfl,rfl,Nat.le_refl _,fun _ _=>rfl⟩
theorem ac (w:World):Ext w w.drew:=⟨rfl,rfl,rfl,Nat.le_refl _,fun _ _=>rfl⟩
theorem ab (w:World) (o:Obj):Ext w (w.alloc o):=(Below.refl _ _).alloc (Nat.le_refl _) _
theorem ap {w w':World} (h:Ext w w') {a:Addr} {v:Value} (hc:w.cell? a=some v):w'.cell? a=some v:=
 (h.cell (block_lt_of_cell hc)).trans hc
def Cl (w:World) (A:Option Addr) (xs:List Value):Prop:=
 xs=[]∨∃b o,A=some ⟨b,o,none⟩∧∀j,j<xs.length→w.cell? ⟨b,o+j,none⟩=some (xs.getD j undef)
theorem Cl.mono {w w':World} {A:Option Addr} {xs:List Value} (h:Cl w A xs) (k:Ext w w'):Cl w' A xs:=by
 rcases h with h|⟨b,o,h1,h2⟩
 ·exact .inl h
 ·exact .inr ⟨b,o,h1,fun j hj=>ap k (h2 j hj)⟩
theorem Cl.nil (w:World) (A:Option Addr):Cl w A []:=.inl rfl
theorem Cl.at_ {w:World} {A:Option Addr} {xs:List Value} (h:Cl w A xs) (hx:0<xs.length):∃b o,A=some ⟨b,o,none⟩∧∀j,j<xs.length→w.cell? ⟨b,o+j,none⟩=some (xs.getD j undef):=by
 rcases h with h|h
 ·rw [h] at hx;simp at hx
 ·exact h
def u64 (k:Nat):Value:=.int .u64 k
def i64n (k:Nat):Value:=.int .i64 k
theorem getD_map_u64 (l:List Nat) (j:Nat) (h:j<l.length):(l.map u64).getD j undef=.int .u64 ((l.getD j 0:Nat):Int):=by
 simp [List.getD_eq_getElem?_getD,h,u64]
theorem getD_map_i64 (l:List Nat) (j:Nat) (h:j<l.length):(l.map i64n).getD j undef=.int .i64 ((l.getD j 0:Nat):Int):=by
 simp [List.getD_eq_getElem?_getD,h,i64n]
theorem Cl.u {w:World} {A:Option Addr} {l:List Nat} (h:Cl w A (l.map u64)) (hx:0<l.length):∃b o,A=some ⟨b,o,none⟩∧∀j,j<l.length→w.cell? ⟨b,o+j,none⟩=some (.int .u64 ((l.getD j 0:Nat):Int)):=by
 obtain⟨b,o,h1,h2⟩:=h.at_ (by simpa using hx);exact⟨b,o,h1,fun j hj=>by rw [h2 j (by simpa using hj),getD_map_u64 l j hj]⟩
theorem Cl.i {w:World} {A:Option Addr} {l:List Nat} (h:Cl w A (l.map i64n)) (hx:0<l.length):∃b o,A=some ⟨b,o,none⟩∧∀j,j<l.length→w.cell? ⟨b,o+j,none⟩=some (.int .i64 ((l.getD j 0:Nat):Int)):=by
 obtain⟨b,o,h1,h2⟩:=h.at_ (by simpa using hx);exact⟨b,o,h1,fun j hj=>by rw [h2 j (by simpa using hj),getD_map_i64 l j hj]⟩
def Wd (w:World) (v:Value) (n:Nat):Prop:=∃A c,v=.slice A (dg n).length c∧(dg n).length≤c∧Cl w A ((dg n).map u64)
def Wr (w:World) (v:Value) (n:Nat):Prop:=∃A c,v=.slice A (dr n).length c∧(dr n).length≤c∧Cl w A ((dr n).map i64n)
theorem Wd.mono {w w':World} {v:Value} {n:Nat} (h:Wd w v n) (k:Ext w w'):Wd w' v n:=by
 obtain⟨A,c,h1,h2,h3⟩:=h;exact⟨A,c,h1,h2,h3.mono k⟩
theorem Wr.mono {w w':World} {v:Value} {n:Nat} (h:Wr w v n) (k:Ext w w'):Wr w' v n:=by
 obtain⟨A,c,h1,h2,h3⟩:=h;exact⟨A,c,h1,h2,h3.mono k⟩
theorem dg_zero:dg 0=[]:=dig_zero _
theorem dr_zero:dr 0=[]:=dig_zero _
theorem Wd.zero (w:World):Wd w (.slice none 0 0) 0:=⟨none,0,by rw [dg_zero];rfl,by rw [dg_zero];simp,by rw [dg_zero];exact .inl rfl⟩
theorem Wr.zero (w:World):Wr w (.slice none 0 0) 0:=⟨none,0,by rw [dr_zero];rfl,by rw [dr_zero];simp,by rw [dr_zero];exact .inl rfl⟩
def Sm (n:Nat):Prop:=(dg n).length≤1099511627776
def CmpR (a b:Nat) (e:Ending):Prop:=∃c:Int,e=.returned (.int .i64 c)∧(c<0↔a<b)∧(0<c↔b<a)
end Go.Proofs.YtjamgccgoapbeaaGreatDoor
