/- Plain facts on natural numbers as digits to a base. -/
import Derived.Test.YtkoaakefgacokaaGreatDoorProg
import Derived.WalkKit
import Derived.OpenShut
import Derived.Handy
import Derived.Deep.QuietTactic
import Derived.BigQuiet
import Derived.Deep.RegionHeld3
import Derived.WalkSpells
import Derived.WalkLawsBesides
set_option linter.unusedVariables false
set_option maxRecDepth 100000
set_option maxHeartbeats 64000000

namespace Go.Proofs.YtkoaakefgacokaaGreatDoor
theorem ZZ {p:Prop} (h:p):RowKit.Hid p:=h
theorem lyA {α:Type _} {l:List α} {i:Nat} {a:α}:l.toArray.setIfInBounds i a=(l.set i a).toArray:=List.setIfInBounds_toArray ..
theorem lyB {α:Type _} {x b:α} {l:List α}:(x::l).set 0 b=b::l:=List.set_cons_zero
theorem lyC {α:Type _} {x b:α} {l:List α} {n:Nat}:(x::l).set (n+1) b=x::l.set n b:=List.set_cons_succ
theorem lyD {α β:Type _} {f:α→β} {a:α} {l:List α}:(a::l).map f=f a::l.map f:=List.map_cons
theorem lyE {α β:Type _} {f:α→β}:([]:List α).map f=[]:=List.map_nil
theorem lyF {α β:Type _} {f:β→α→β} {b:β} {a:α} {l:List α}:(a::l).foldl f b=l.foldl f (f b a):=List.foldl_cons
theorem lyG {α β:Type _} {f:β→α→β} {b:β}:([]:List α).foldl f b=b:=List.foldl_nil
def num (B:Nat):List Nat→Nat
 | []=>0
 | d :: l=>d+B*num B l
structure Norm (B:Nat) (l:List Nat):Prop where
 lt:∀d ∈ l,d<B
 last:l.getLast?≠some 0
@[simp] theorem num_nil (B):num B []=0:=rfl
@[simp] theorem num_cons (B d l):num B (d :: l)=d+B*num B l:=rfl
theorem num_append (B:Nat) (a b:List Nat):num B (a ++ b)=num B a+B ^ a.length*num B b:=by
 induction a with
 | nil=>simp
 | cons d a ih=>simp [ih,Nat.pow_succ,Nat.mul_add];grind
theorem num_lt (B:Nat) (l:List Nat) (h:∀d ∈ l,d<B):num B l<B ^ l.length:=by
 induction l with
 | nil=>simp
 | cons d l ih=>
  have h1:=h d (by simp);have h2:=ih (fun x hx=>h x (by simp [hx]))
  simp only [num_cons,List.length_cons,Nat.pow_succ]
  have:B*(num B l+1)≤B*B ^ l.length:=Nat.mul_le_mul_left _ h2
  rw [Nat.mul_comm (B ^ _)]
  grind
def dig (B n:Nat):List Nat:=
 if _h:n=0∨B<2 then [] else (n % B) :: dig B (n / B)
termination_by n
decreasing_by exact Nat.div_lt_self (by omega) (by omega)
theorem dig_zero (B:Nat):dig B 0=[]:=by rw [dig];simp
theorem dig_pos {B n:Nat} (hB:2≤B) (hn:0<n):dig B n=(n % B) :: dig B (n / B):=by
 rw [dig,dif_neg (by omega)]
theorem num_dig {B:Nat} (hB:2≤B) (n:Nat):num B (dig B n)=n:=by
 induction n using Nat.strongRecOn with
 | ind n ih=>
  rcases Nat.eq_zero_or_pos n with rfl|hn
  ·simp [dig_zero]
  ·rw [dig_pos hB hn,num_cons,ih _ (Nat.div_lt_self hn (by omega))]
   exact Nat.mod_add_div n B
theorem dig_lt {B:Nat} (hB:2≤B) (n:Nat):∀d ∈ dig B n,d<B:=by
 induction n using Nat.strongRecOn with
 | ind n ih=>
  rcases Nat.eq_zero_or_pos n with rfl|hn
  ·simp [dig_zero]
  ·rw [dig_pos hB hn]
   intro d hd
   rcases List.mem_cons.1 hd with rfl|hd
   ·exact Nat.mod_lt _ (by omega)
   ·exact ih _ (Nat.div_lt_self hn (by omega)) d hd
theorem dig_ne_nil {B n:Nat} (hB:2≤B) (hn:0<n):dig B n≠[]:=by rw [dig_pos hB hn];simp
theorem dig_eq_nil {B n:Nat} (hB:2≤B):dig B n=[]↔n=0:=by
 constructor
 ·intro h;rcases Nat.eq_zero_or_pos n with h0|h0
  ·exact h0
  ·exact absurd h (dig_ne_nil hB h0)
 ·rintro rfl;exact dig_zero B
theorem dig_last {B:Nat} (hB:2≤B) (n:Nat):(dig B n).getLast?≠some 0:=by
 induction n using Nat.strongRecOn with
 | ind n ih=>
  rcases Nat.eq_zero_or_pos n with rfl|hn
  ·simp [dig_zero]
  ·rw [dig_pos hB hn]
   by_cases h:n / B=0
   ·rw [h,dig_zero]
    have:n<B:=by
     rcases Nat.lt_or_ge n B with h1|h1
     ·exact h1
     ·exact absurd h (by have:=Nat.div_pos h1 (by omega);omega)
    rw [Nat.mod_eq_of_lt this];simp;omega
   ·rw [List.getLast?_cons_of_ne_nil (dig_ne_nil hB (Nat.pos_of_ne_zero h))]
    exact ih _ (Nat.div_lt_self hn (by omega))
theorem norm_dig {B:Nat} (hB:2≤B) (n:Nat):Norm B (dig B n):=⟨dig_lt hB n,dig_last hB n⟩
theorem Norm.tail {B d:Nat} {l:List Nat} (h:Norm B (d :: l)):Norm B l:=by
 refine⟨fun x hx=>h.lt x (by simp [hx]),fun e=>?_⟩
 cases l with
 | nil=>simp at e
 | cons c l=>exact h.last (by rw [List.getLast?_cons_of_ne_nil (by simp)];exact e)
theorem Norm.pos {B:Nat} {l:List Nat} (h:Norm B l) (hl:l≠[]):0<num B l:=by
 induction l with
 | nil=>exact absurd rfl hl
 | cons d l ih=>
  cases l with
  | nil=>
   have:=h.last
   simp at this ⊢;omega
  | cons c l=>
   have h1:=ih h.tail (by simp);have hB:0<B:=by have:=h.lt d (by simp);omega
   have:=Nat.mul_pos hB h1
   rw [num_cons];omega
theorem Norm.dig {B:Nat} (hB:2≤B) {l:List Nat} (h:Norm B l):dig B (num B l)=l:=by
 induction l with
 | nil=>simp [dig_zero]
 | cons d l ih=>
  have hd:=h.lt d (by simp);rw [dig_pos hB (h.pos (by simp)),num_cons]
  congr 1
  ·rw [Nat.add_mul_mod_self_left,Nat.mod_eq_of_lt hd]
  ·rw [Nat.add_mul_div_left _ _ (by omega),Nat.div_eq_of_lt hd,Nat.zero_add]
   exact ih h.tail
def cut:List Nat→List Nat
 | []=>[]
 | d :: l=>if cut l=[]∧d=0 then [] else d :: cut l
theorem num_cut (B:Nat) (l:List Nat):num B (cut l)=num B l:=by
 induction l with
 | nil=>rfl
 | cons d l ih=>
  unfold cut
  split
  ·rename_i h;rw [num_cons,←ih,h.1,h.2];simp
  ·simp [ih]
theorem cut_norm {B:Nat} {l:List Nat} (h:∀d ∈ l,d<B):Norm B (cut l):=by
 induction l with
 | nil=>exact⟨by simp [cut],by simp [cut]⟩
 | cons d l ih=>
  have ih:=ih (fun x hx=>h x (by simp [hx]));unfold cut
  split
  ·exact⟨by simp,by simp⟩
  ·rename_i hc
   refine⟨fun x hx=>?_,?_⟩
   ·rcases List.mem_cons.1 hx with rfl|hx
    ·exact h _ (by simp)
    ·exact ih.lt x hx
   ·by_cases e:cut l=[]
    ·rw [e];simp;intro h0;exact hc ⟨e,h0⟩
    ·rw [List.getLast?_cons_of_ne_nil e];exact ih.last
theorem cut_dig {B:Nat} (hB:2≤B) {l:List Nat} (h:∀d ∈ l,d<B):cut l=dig B (num B l):=by
 rw [←num_cut B l,(cut_norm h).dig hB]
theorem cut_snoc_zero (l:List Nat):cut (l ++ [0])=cut l:=by
 induction l with
 | nil=>simp [cut]
 | cons d l ih=>simp [cut,ih]
theorem cut_of_last {l:List Nat} (h:l.getLast?≠some 0):cut l=l:=by
 induction l with
 | nil=>rfl
 | cons d l ih=>
  unfold cut
  cases l with
  | nil=>simp at h;simp [cut,h]
  | cons c l=>
   rw [List.getLast?_cons_of_ne_nil (by simp)] at h;rw [ih h];simp
theorem num_snoc (B:Nat) (l:List Nat) (d:Nat):num B (l ++ [d])=num B l+B ^ l.length*d:=by
 rw [num_append];simp
theorem take_snoc_getD (l:List Nat) (i:Nat) (h:i<l.length):l.take (i+1)=l.take i ++ [l.getD i 0]:=by
 rw [List.take_succ_eq_append_getElem h,List.getD_eq_getElem?_getD,List.getElem?_eq_getElem h];rfl
theorem num_take_succ (B:Nat) (l:List Nat) (i:Nat) (h:i<l.length):num B (l.take (i+1))=num B (l.take i)+B ^ i*l.getD i 0:=by
 rw [take_snoc_getD l i h,num_snoc,List.length_take,Nat.min_eq_left (by omega)]
theorem num_take_all (B:Nat) (l:List Nat) {i:Nat} (h:l.length≤i):num B (l.take i)=num B l:=by
 rw [List.take_of_length_le h]
theorem num_drop (B:Nat) (l:List Nat) (i:Nat) (h:i≤l.length):num B l=num B (l.take i)+B ^ i*num B (l.drop i):=by
 have:=num_append B (l.take i) (l.drop i)
 rw [List.take_append_drop,List.length_take,Nat.min_eq_left h] at this;exact this
theorem getD_lt {B:Nat} {l:List Nat} (h:∀d ∈ l,d<B) (hB:0<B) (i:Nat):l.getD i 0<B:=by
 rw [List.getD_eq_getElem?_getD]
 by_cases hi:i<l.length
 ·rw [List.getElem?_eq_getElem hi];exact h _ (List.getElem_mem hi)
 ·rw [List.getElem?_eq_none (by omega)];simpa using hB
theorem num_replicate_zero (B n:Nat):num B (List.replicate n 0)=0:=by
 induction n with
 | zero=>rfl
 | succ n ih=>simp [List.replicate_succ,ih]
theorem Norm.lower {B:Nat} {l:List Nat} (h:Norm B l) (hl:l≠[]):B ^ (l.length - 1)≤num B l:=by
 induction l with
 | nil=>exact absurd rfl hl
 | cons d l ih=>
  cases l with
  | nil=>have:=h.pos (by simp);simp only [List.length_cons,List.length_nil,Nat.zero_add,Nat.sub_self,Nat.pow_zero];exact this
  | cons c l=>
   have h1:=ih h.tail (by simp)
   simp only [List.length_cons,Nat.add_sub_cancel] at h1 ⊢
   rw [num_cons,Nat.pow_succ,Nat.mul_comm]
   have:=Nat.mul_le_mul_left B h1
   omega
theorem num_lt_of_length {B:Nat} (hB:2≤B) {a b:List Nat} (ha:∀d ∈ a,d<B) (hb:Norm B b) (h:a.length<b.length):num B a<num B b:=by
 have h1:=num_lt B a ha;have h2:=hb.lower (by rintro rfl;simp at h);have h3:B ^ a.length≤B ^ (b.length - 1):=Nat.pow_le_pow_right (by omega) (by omega);omega
theorem num_lt_of_top {B:Nat} {a b:List Nat} (ha:∀d ∈ a,d<B) (hl:a.length=b.length) (i:Nat) (hi:i<a.length) (ht:a.drop (i+1)=b.drop (i+1)) (hd:a.getD i 0<b.getD i 0):num B a<num B b:=by
 rw [num_drop B a (i+1) (by omega),num_drop B b (i+1) (by omega),ht,num_take_succ B a i hi,num_take_succ B b i (by omega)];have h1:=num_lt B (a.take i) (fun d hm=>ha d (List.mem_of_mem_take hm));rw [List.length_take,Nat.min_eq_left (by omega)] at h1;have h2:B ^ i*(a.getD i 0+1)≤B ^ i*b.getD i 0:=Nat.mul_le_mul_left _ hd;rw [Nat.mul_add] at h2;omega
theorem drop_eq_of {a b:List Nat} {i:Nat} (ha:i<a.length) (hb:i<b.length) (h:a.drop (i+1)=b.drop (i+1)) (hd:a.getD i 0=b.getD i 0):a.drop i=b.drop i:=by
 rw [List.drop_eq_getElem_cons ha,List.drop_eq_getElem_cons hb,h]
 congr 1
 simpa [List.getD_eq_getElem?_getD,List.getElem?_eq_getElem,ha,hb] using hd
theorem dig_length_le {B:Nat} (hB:2≤B) {n k:Nat} (h:n<B ^ k):(dig B n).length≤k:=by
 rcases Nat.eq_zero_or_pos n with rfl|hn
 ·rw [dig_zero];simp
 ·have h1:=(norm_dig hB n).lower (dig_ne_nil hB hn)
  rw [num_dig hB] at h1
  rcases Nat.lt_or_ge k (dig B n).length with h2|h2
  ·have h3:B ^ k≤B ^ ((dig B n).length - 1):=Nat.pow_le_pow_right (by omega) (by omega)
   omega
  ·exact h2
theorem lt_dig_length {B:Nat} (hB:2≤B) (n:Nat):n<B ^ (dig B n).length:=by
 have:=num_lt B _ (dig_lt hB n)
 rwa [num_dig hB] at this
theorem dig_length_mono {B:Nat} (hB:2≤B) {m n:Nat} (h:m≤n):(dig B m).length≤(dig B n).length:=
 dig_length_le hB (Nat.lt_of_le_of_lt h (lt_dig_length hB n))
theorem dig_length_mul {B:Nat} (hB:2≤B) (m n:Nat):(dig B (m*n)).length≤(dig B m).length+(dig B n).length:=by
 apply dig_length_le hB
 rw [Nat.pow_add]
 rcases Nat.eq_zero_or_pos m with rfl|hm
 ·simpa using Nat.mul_pos (Nat.pow_pos (by omega)) (Nat.pow_pos (by omega))
 ·exact Nat.mul_lt_mul_of_lt_of_le (lt_dig_length hB m) (Nat.le_of_lt (lt_dig_length hB n)) (Nat.pow_pos (by omega))
end Go.Proofs.YtkoaakefgacokaaGreatDoor
namespace Go.Proofs.YtkoaakefgacokaaGreatDoor
theorem num_inj {B:Nat}:∀ {a b:List Nat},a.length=b.length→(∀d ∈ a,d<B)→(∀d ∈ b,d<B)→num B a=num B b→a=b
 | [],[],_,_,_,_=>rfl
 | x :: a,y :: b,hl,ha,hb,h=>by
  have hx:=ha x (by simp);have hy:=hb y (by simp)
  simp only [num_cons] at h
  have h1:x=y:=by
   have:=congrArg (· % B) h
   simpa [Nat.add_mul_mod_self_left,Nat.mod_eq_of_lt hx,Nat.mod_eq_of_lt hy] using this
  subst h1;have h2:num B a=num B b:=Nat.eq_of_mul_eq_mul_left (show 0<B by omega) (by omega);rw [num_inj (by simpa using hl) (fun d hd=>ha d (by simp [hd])) (fun d hd=>hb d (by simp [hd])) h2]
theorem num_eq_zero {B:Nat} (hB:0<B):∀ {l:List Nat},num B l=0→∀d ∈ l,d=0
 | [],_,d,hd=>by simp at hd
 | x :: l,h,d,hd=>by
  simp only [num_cons] at h
  have hx:x=0:=by omega
  have hn:num B l=0:=by
   have:B*num B l=0:=by omega
   rcases Nat.mul_eq_zero.1 this with h|h
   ·omega
   ·exact h
  rcases List.mem_cons.1 hd with rfl|hd
  ·exact hx
  ·exact num_eq_zero hB hn d hd
theorem num_take_of_lt {B:Nat} (hB:0<B) {l:List Nat} {k:Nat} (hk:k≤l.length) (h:num B l<B ^ k):num B (l.take k)=num B l∧num B (l.drop k)=0:=by
 have e:=num_drop B l k hk;have hp:0<B ^ k:=Nat.pow_pos hB
 have h0:num B (l.drop k)=0:=by
  rcases Nat.eq_zero_or_pos (num B (l.drop k)) with h0|h0
  ·exact h0
  ·have:=Nat.mul_le_mul_left (B ^ k) h0
   omega
 rw [h0] at e;exact⟨by omega,h0⟩
theorem num_lt_of_same {B:Nat} (hB:0<B) {us us':List Nat} {k:Nat} (hk:k≤us.length) (hl:us'.length=us.length) (hd:∀d ∈ us',d<B) (h:num B us<B ^ k) (hs:∀i,k≤i→us'.getD i 0=us.getD i 0):num B us'<B ^ k:=by
 obtain⟨-,h0⟩:=num_take_of_lt hB hk h
 have he:us'.drop k=us.drop k:=by
  apply List.ext_getElem
  ·simp [hl]
  ·intro i h1 h2
   simp only [List.length_drop] at h1 h2
   have:=hs (k+i) (by omega)
   rw [List.getD_eq_getElem?_getD,List.getD_eq_getElem?_getD,List.getElem?_eq_getElem (by omega),List.getElem?_eq_getElem (by omega)] at this
   simpa using this
 have e:=num_drop B us' k (by omega);rw [he,h0] at e
 have:=num_lt B (us'.take k) (fun d hd'=>hd d (List.mem_of_mem_take hd'))
 rw [List.length_take,Nat.min_eq_left (by omega)] at this;omega
theorem round_take {B:Nat} (hB:0<B) {us us':List Nat} {j r t V:Nat} {b:Bool} (hk:j+r+1≤us.length) (hl:us'.length=us.length) (hd:∀d ∈ us',d<B) (hV:0<V) (hlt:num B us<B ^ (j+r+1)) (hs:∀i,i<j∨j+r<i→us'.getD i 0=us.getD i 0) (h:num B us'+B ^ j*(t*V)=num B us+B ^ (j+r+1)*(if b then 1 else 0)) (ht:num B us / (B ^ j*V)≤t):(b=true→num B us / (B ^ j*V)<t)∧(b=false→t=num B us / (B ^ j*V)∧num B us'=num B us % (B ^ j*V))∧num B us'<B ^ (j+r+1):=by
 have hlt':=num_lt_of_same hB hk hl hd hlt (fun i hi=>hs i (by omega));have hP:0<B ^ j*V:=Nat.mul_pos (Nat.pow_pos hB) hV;rw [show B ^ j*(t*V)=t*(B ^ j*V) by rw [Nat.mul_left_comm]] at h;generalize B ^ j*V=P at *;refine⟨fun hb=>?_,fun hb=>?_,hlt'⟩
 ·subst hb
  rw [if_pos rfl] at h
  apply Nat.lt_of_not_le
  intro hle
  have:t*P≤num B us:=by rw [←Nat.le_div_iff_mul_le hP];exact hle
  omega
 ·subst hb
  rw [if_neg (by decide)] at h;have h1:t≤num B us / P:=by rw [Nat.le_div_iff_mul_le hP];omega
  have h2:t=num B us / P:=Nat.le_antisymm h1 ht;refine⟨h2,?_⟩
  have:=Nat.div_add_mod (num B us) P
  rw [←h2,Nat.mul_comm] at this;omega
theorem round_give {B:Nat} (hB:0<B) {us us' us'':List Nat} {j r t V:Nat} {b:Bool} (hk:j+r+1≤us.length) (hl:us'.length=us.length) (hl':us''.length=us'.length) (hd0:∀d ∈ us,d<B) (hd:∀d ∈ us'',d<B) (hlt:num B us<B ^ (j+r+1)) (hlt':num B us'<B ^ (j+r+1)) (hs:∀i,i<j∨j+r<i→us''.getD i 0=us'.getD i 0) (h1:num B us'+B ^ j*(t*V)=num B us+B ^ (j+r+1)*(if true then 1 else 0)) (h:num B us''+B ^ (j+r+1)*(if b then 1 else 0)=num B us'+B ^ j*(t*V)):us''=us:=by
 have hlt'':=num_lt_of_same hB (by omega) hl' hd hlt' (fun i hi=>hs i (by omega));rw [if_pos rfl] at h1
 apply num_inj (by omega) hd hd0
 cases b
 ·rw [if_neg (by decide)] at h;omega
 ·rw [if_pos rfl] at h;omega
theorem guess_ge {B:Nat} (hB:0<B) {us vs:List Nat} {j q:Nat} (hu:j+q+2≤us.length) (hv:vs.length=q+1) (hd:∀d ∈ us,d<B) (hlt:num B us<B ^ (j+q+2)) (hp:0<vs.getD q 0):num B us / (B ^ j*num B vs)≤(us.getD (j+q+1) 0*B+us.getD (j+q) 0) / vs.getD q 0:=by
 obtain⟨e,-⟩:=num_take_of_lt hB hu hlt;rw [num_take_succ B us (j+q+1) (by omega),num_take_succ B us (j+q) (by omega)] at e
 have h1:num B vs=num B (vs.take q)+B ^ q*vs.getD q 0:=by
  have:=num_take_succ B vs q (by omega)
  rwa [num_take_all B vs (by omega)] at this
 have h2:=num_lt B (us.take (j+q)) (fun d hd'=>hd d (List.mem_of_mem_take hd'));rw [List.length_take,Nat.min_eq_left (by omega)] at h2;generalize us.getD (j+q+1) 0=a at *;generalize us.getD (j+q) 0=c at *;generalize vs.getD q 0=v at *;rw [Nat.le_div_iff_mul_le hp];have h3:=Nat.div_mul_le_self (num B us) (B ^ j*num B vs);generalize num B us / (B ^ j*num B vs)=D at *
 have h4:D*v*B ^ (j+q)≤num B us:=by
  refine Nat.le_trans ?_ h3;rw [h1,Nat.mul_add,Nat.mul_add,Nat.pow_add];refine Nat.le_trans (Nat.le_of_eq ?_) (Nat.le_add_left _ _)
  simp only [Nat.mul_assoc,Nat.mul_left_comm,Nat.mul_comm]
 have h5:num B us<(a*B+c+1)*B ^ (j+q):=by
  rw [←e,Nat.pow_succ]
  have:(a*B+c+1)*B ^ (j+q)=B ^ (j+q)*c+B ^ (j+q)*B*a+B ^ (j+q):=by
   grind
  omega
 have h6:D*v*B ^ (j+q)<(a*B+c+1)*B ^ (j+q):=Nat.lt_of_le_of_lt h4 h5
 have:=Nat.lt_of_mul_lt_mul_right h6
 omega
theorem scaled {B n q y R:Nat} {S S':Nat} (hS:B=S*S') (hn:n=R+B ^ q*y) (hR:R<B ^ q) (h1:y*S<B) (h2:B≤2*(y*S)) (hS0:0<S):n*S<B ^ (q+1)∧B ^ (q+1)≤2*(n*S):=by
 constructor
 ·have hy:y+1≤S':=by
   rw [hS,Nat.mul_comm S S'] at h1;exact Nat.lt_of_mul_lt_mul_right h1
  have h3:n<B ^ q*(y+1):=by rw [Nat.mul_add];omega
  have h4:n*S<B ^ q*(y+1)*S:=Nat.mul_lt_mul_of_pos_right h3 hS0;refine Nat.lt_of_lt_of_le h4 ?_;rw [Nat.pow_succ,Nat.mul_assoc,hS];refine Nat.mul_le_mul_left _ ?_;rw [Nat.mul_comm S S'];exact Nat.mul_le_mul_right _ hy
 ·rw [Nat.pow_succ]
  refine Nat.le_trans (Nat.mul_le_mul_left _ h2) ?_;rw [hn,Nat.add_mul,Nat.mul_add,Nat.mul_left_comm (B ^ q) 2,Nat.mul_assoc (B ^ q) y S];exact Nat.le_add_left _ _
theorem start_lt {B m M V p q S:Nat} (hq:q≤p) (hS:2*S≤B) (hm:m<B ^ p) (hM:M=m*S) (hS0:0<S) (hV:B ^ (q+1)≤2*V):M<B ^ (p - q)*V:=by
 have h1:M<B ^ p*S:=by rw [hM];exact Nat.mul_lt_mul_of_pos_right hm hS0
 have h2:B ^ (p - q)*B ^ (q+1)≤B ^ (p - q)*(2*V):=Nat.mul_le_mul_left _ hV;rw [←Nat.pow_add,show p - q+(q+1)=p+1 by omega,Nat.pow_succ,Nat.mul_left_comm] at h2;have h3:B ^ p*(2*S)≤B ^ p*B:=Nat.mul_le_mul_left _ hS;rw [Nat.mul_left_comm] at h3;omega
theorem outer_step {B V M N j D:Nat} {qs:List Nat} (hj:j<qs.length) (hinv:num B (qs.drop (j+1))*(B ^ (j+1)*V)+N=M) (hD:D=N / (B ^ j*V)):num B ((qs.set j D).drop j)*(B ^ j*V)+N % (B ^ j*V)=M:=by
 have h1:(qs.set j D).drop j=D :: qs.drop (j+1):=by
  rw [List.drop_eq_getElem_cons (by simpa using hj)]
  simp [List.drop_set]
 have h2:=Nat.div_add_mod N (B ^ j*V);rw [←hD] at h2;rw [h1,num_cons,Nat.add_mul,←hinv]
 have h3:B*num B (qs.drop (j+1))*(B ^ j*V)=num B (qs.drop (j+1))*(B ^ (j+1)*V):=by
  rw [Nat.pow_succ];simp only [Nat.mul_assoc,Nat.mul_left_comm,Nat.mul_comm]
 rw [h3,Nat.mul_comm D];omega
theorem long_end {m n S Q N:Nat} (hS:0<S) (hn:0<n) (h:Q*(n*S)+N=m*S) (hN:N<n*S):Q=m / n∧N / S=m % n:=by
 have h1:m*S / (n*S)=Q:=by
  rw [←h,Nat.add_comm,Nat.add_mul_div_right _ _ (Nat.mul_pos hn hS),Nat.div_eq_of_lt hN,Nat.zero_add]
 have h2:m*S % (n*S)=N:=by
  rw [←h,Nat.add_comm,Nat.add_mul_mod_self_right,Nat.mod_eq_of_lt hN]
 rw [Nat.mul_div_mul_right _ _ hS] at h1;rw [Nat.mul_mod_mul_right] at h2;exact⟨h1.symm,by rw [←h2,Nat.mul_div_cancel _ hS]⟩
theorem room {B:Nat} {l:List Nat} {p:Nat} (hB:0<B) (h1:p≤l.length) (h2:l.length≤p+1) (hd:∀d ∈ l,d<B):((l ++ [0,0]).take (p+1)).length=p+1∧num B ((l ++ [0,0]).take (p+1))=num B l∧∀d ∈ (l ++ [0,0]).take (p+1),d<B:=by
 refine⟨by simp;omega,?_,?_⟩
 ·rcases Nat.lt_or_ge p l.length with h|h
  ·rw [List.take_append_of_le_length (by omega),num_take_all B l (by omega)]
  ·have e:l.length=p:=by omega
   subst e;rw [List.take_append,List.take_of_length_le (by omega),show l.length+1 - l.length=1 by omega]
   show num B (l ++ [0])=_
   rw [num_snoc];simp
 ·intro d hd'
  have:=List.mem_of_mem_take hd'
  simp only [List.mem_append,List.mem_cons,List.not_mem_nil,or_false] at this
  rcases this with h|rfl|rfl
  ·exact hd d h
  ·exact hB
  ·exact hB
theorem cut_length (l:List Nat):(cut l).length≤l.length:=by
 induction l with
 | nil=>simp [cut]
 | cons d l ih=>unfold cut;split <;> simp;omega
theorem cut_take (l:List Nat):l.take (cut l).length=cut l:=by
 induction l with
 | nil=>simp [cut]
 | cons d l ih=>
  unfold cut
  split
  ·simp
  ·simp [ih]
open Go.RowKit
def B64:Nat:=18446744073709551616
theorem B64_eq:B64=18446744073709551616:=rfl
theorem B64_two:2≤B64:=by rw [B64_eq];omega
def B30:Nat:=1073741824
theorem B30_eq:B30=1073741824:=rfl
theorem B30_two:2≤B30:=by rw [B30_eq];omega
def dg (n:Nat):List Nat:=dig B64 n
def dr (n:Nat):List Nat:=dig B30 n
theorem num_dg (n:Nat):num B64 (dg n)=n:=num_dig B64_two n
theorem num_dr (n:Nat):num B30 (dr n)=n:=num_dig B30_two n
theorem dg_norm (n:Nat):Norm B64 (dg n):=norm_dig B64_two n
theorem dr_norm (n:Nat):Norm B30 (dr n):=norm_dig B30_two n
abbrev Ext (w w':World):Prop:=Below w.heap.size w w'
theorem ae (w:World):Ext w w:=Below.refl _ _
theorem al {a b c:World} (h:Ext a b) (k:Ext b c):Ext a c:=h.trans (k.mono h.size)
theorem av (w:World) (n:Nat):Ext w (w.drewN n):=⟨rfl,rfl,rfl,Nat.le_refl _,fun _ _=>rfl⟩
theorem ac (w:World):Ext w w.drew:=⟨rfl,rfl,rfl,Nat.le_refl _,fun _ _=>rfl⟩
theorem ab (w:World) (o:Obj):Ext w (w.alloc o):=(Below.refl _ _).alloc (Nat.le_refl _) _
theorem ao {w w':World} (h:Ext w w') {a:Addr} {v:Value} (hc:w.cell? a=some v):w'.cell? a=some v:=
 (h.cell (block_lt_of_cell hc)).trans hc
def Cl (w:World) (A:Option Addr) (xs:List Value):Prop:=
 xs=[]∨∃b o,A=some ⟨b,o,none⟩∧∀j,j<xs.length→w.cell? ⟨b,o+j,none⟩=some (xs.getD j undef)
theorem Cl.mono {w w':World} {A:Option Addr} {xs:List Value} (h:Cl w A xs) (k:Ext w w'):Cl w' A xs:=by
 rcases h with h|⟨b,o,h1,h2⟩
 ·exact .inl h
 ·exact .inr ⟨b,o,h1,fun j hj=>ao k (h2 j hj)⟩
theorem Cl.nil (w:World) (A:Option Addr):Cl w A []:=.inl rfl
theorem Cl.at_ {w:World} {A:Option Addr} {xs:List Value} (h:Cl w A xs) (hx:0<xs.length):∃b o,A=some ⟨b,o,none⟩∧∀j,j<xs.length→w.cell? ⟨b,o+j,none⟩=some (xs.getD j undef):=by
 rcases h with h|h
 ·rw [h] at hx;simp at hx
 ·exact h
def u64 (k:Nat):Value:=.int .u64 k
def i64n (k:Nat):Value:=.int .i64 k
theorem getD_map_u64 (l:List Nat) (j:Nat) (h:j<l.length):(l.map u64).getD j undef=.int .u64 ((l.getD j 0:Nat):Int):=by
 simp [List.getD_eq_getElem?_getD,h,u64]
theorem getD_map_i64 (l:List Nat) (j:Nat) (h:j<l.length):(l.map i64n).getD j undef=.int .i64 ((l.getD j 0:Nat):Int):=by
 simp [List.getD_eq_getElem?_getD,h,i64n]
theorem Cl.u {w:World} {A:Option Addr} {l:List Nat} (h:Cl w A (l.map u64)) (hx:0<l.length):∃b o,A=some ⟨b,o,none⟩∧∀j,j<l.length→w.cell? ⟨b,o+j,none⟩=some (.int .u64 ((l.getD j 0:Nat):Int)):=by
 obtain⟨b,o,h1,h2⟩:=h.at_ (by simpa using hx);exact⟨b,o,h1,fun j hj=>by rw [h2 j (by simpa using hj),getD_map_u64 l j hj]⟩
theorem Cl.i {w:World} {A:Option Addr} {l:List Nat} (h:Cl w A (l.map i64n)) (hx:0<l.length):∃b o,A=some ⟨b,o,none⟩∧∀j,j<l.length→w.cell? ⟨b,o+j,none⟩=some (.int .i64 ((l.getD j 0:Nat):Int)):=by
 obtain⟨b,o,h1,h2⟩:=h.at_ (by simpa using hx);exact⟨b,o,h1,fun j hj=>by rw [h2 j (by simpa using hj),getD_map_i64 l j hj]⟩
def Wd (w:World) (v:Value) (n:Nat):Prop:=∃A c,v=.slice A (dg n).length c∧(dg n).length≤c∧Cl w A ((dg n).map u64)
def Wr (w:World) (v:Value) (n:Nat):Prop:=∃A c,v=.slice A (dr n).length c∧(dr n).length≤c∧Cl w A ((dr n).map i64n)
theorem Wd.mono {w w':World} {v:Value} {n:Nat} (h:Wd w v n) (k:Ext w w'):Wd w' v n:=by
 obtain⟨A,c,h1,h2,h3⟩:=h;exact⟨A,c,h1,h2,h3.mono k⟩
theorem Wr.mono {w w':World} {v:Value} {n:Nat} (h:Wr w v n) (k:Ext w w'):Wr w' v n:=by
 obtain⟨A,c,h1,h2,h3⟩:=h;exact⟨A,c,h1,h2,h3.mono k⟩
theorem dg_zero:dg 0=[]:=dig_zero _
theorem dr_zero:dr 0=[]:=dig_zero _
theorem Wd.zero (w:World):Wd w (.slice none 0 0) 0:=⟨none,0,by rw [dg_zero];rfl,by rw [dg_zero];simp,by rw [dg_zero];exact .inl rfl⟩
theorem Wr.zero (w:World):Wr w (.slice none 0 0) 0:=⟨none,0,by rw [dr_zero];rfl,by rw [dr_zero];simp,by rw [dr_zero];exact .inl rfl⟩
def Sm (n:Nat):Prop:=(dg n).length≤1099511627776
def CmpR (a b:Nat) (e:Ending):Prop:=∃c:Int,e=.returned (.int .i64 c)∧(c<0↔a<b)∧(0<c↔b<a)
end Go.Proofs.YtkoaakefgacokaaGreatDoor
