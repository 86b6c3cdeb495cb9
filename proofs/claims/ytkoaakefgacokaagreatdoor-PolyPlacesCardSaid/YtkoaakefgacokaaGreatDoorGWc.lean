/- The program's natural numbers: products. -/
import Derived.Test.YtkoaakefgacokaaGreatDoorGWb
import Derived.Test.YtkoaakefgacokaaGreatDoorGShelf
import Derived.Test.YtkoaakefgacokaaGreatDoorGNat
import Derived.Deep.RegionHeld3
set_option linter.unusedVariables false
set_option maxRecDepth 100000
set_option maxHeartbeats 64000000
namespace Go.Proofs.YtkoaakefgacokaaGreatDoor
open Go.RowKit
theorem num_set (B:Nat) (l:List Nat) (i v:Nat) (h:i<l.length):num B (l.set i v)+B ^ i*l.getD i 0=num B l+B ^ i*v:=by
 induction l generalizing i with
 | nil=>simp at h
 | cons d l ih=>
  cases i with
  | zero=>simp;omega
  | succ i=>
   have:=ih i (by simpa using h)
   simp only [List.set_cons_succ,num_cons,List.getD_cons_succ,Nat.pow_succ]
   have h2:=congrArg (B*·) this
   simp only [Nat.mul_add] at h2
   grind
theorem getD_set_ne {l:List Nat} {i j v:Nat} (h:i≠j):(l.set i v).getD j 0=l.getD j 0:=by
 simp [List.getD_eq_getElem?_getD,List.getElem?_set_ne h]
theorem mul_bounds {B x y o cy hi lo s1 c1 s2 c2:Nat} (hx:x<B) (hy:y<B) (ho:o<B) (hcy:cy<B) (h0:hi*B+lo=x*y) (h1:s1+B*c1=lo+o+0) (h2:s2+B*c2=s1+cy+0):hi+c1<B∧hi+c1+c2<B∧s2+B*(hi+c1+c2)=x*y+o+cy:=by
 have e:s2+B*(hi+c1+c2)=x*y+o+cy:=by grind
 have hxy:x*y≤(B - 1)*(B - 1):=Nat.mul_le_mul (by omega) (by omega)
 have hb:hi+c1+c2<B:=by
  rcases Nat.lt_or_ge (hi+c1+c2) B with h|h
  ·exact h
  ·have h3:B*B≤B*(hi+c1+c2):=Nat.mul_le_mul_left _ h
   obtain⟨b,rfl⟩:∃b,B=b+1:=⟨B - 1,by omega⟩
   simp only [Nat.add_sub_cancel] at hxy
   have h4:(b+1)*(b+1)=b*b+2*b+1:=by grind
   omega
 exact⟨by omega,hb,e⟩
theorem mul_step {R A P Q B cy o s cy' L T x y:Nat} (h:R+P*Q*cy=A+P*x*T) (hs:s+B*cy'=x*y+o+cy) (L0:L+P*Q*o=R+P*Q*s):L+P*Q*B*cy'=A+P*x*(T+Q*y):=by
 have:P*Q*(s+B*cy')=P*Q*(x*y+o+cy):=by rw [hs]
 grind
theorem mul64_c (x y:Nat) (hx:x<B64) (hy:y<B64) (w:World):Calls Tryz.prog 106 #[.int .u64 x,.int .u64 y] w fun e w'=>(∃hi lo:Nat,e=.returned (.tuple #[.int .u64 hi,.int .u64 lo])∧hi*B64+lo=x*y∧hi<B64∧lo<B64)∧w=w':=by
 rw [B64_eq] at *;refine(Tryz.bits_Mul64 x y hx hy w).mono fun e w' ⟨he,hw⟩=>⟨⟨_,_,he,?_,?_,?_⟩,hw.symm⟩
 ·have:=Nat.div_add_mod (x*y) 18446744073709551616;omega
 ·rw [Nat.div_lt_iff_lt_mul (by omega)]
  exact Nat.mul_lt_mul_of_lt_of_lt hx hy
 ·exact Nat.mod_lt _ (by omega)
theorem mul_r (A B:Option Addr) (la lb:List Nat) (ca cb:Nat) (w:World) (n m:Nat) (hn:la.length=n) (hm:lb.length=m) (hA:Cl w A (la.map u64)) (hB:Cl w B (lb.map u64)) (hla:∀d ∈ la,d<B64) (hlb:∀d ∈ lb,d<B64) (hs:n+m≤2199023255552):Calls Tryz.prog 62 #[.slice A n ca,.slice B m cb] w fun e w'=>∃v,e=.returned v∧Wd w' v (num B64 la*num B64 lb)∧Ext w w':=by
 have Hn:Hid (la.length=n):=hn;have Hm:Hid (lb.length=m):=hm;have Hla:=ZZ hla;have Hlb:=ZZ hlb;have hmk:=mk_words (n+m) ((n:Int)+(m:Int)) (by omega) (by omega);clear hn hm hla hlb
 go_enter Tryz.func62,Tryz.ntmps62
 go_wp2
 go_loopw [22] (fun i wr=>∃(k:Nat) (r:List Nat),k≤n∧i=.int .i64 k∧r.length=n+m∧(∀d ∈ r,d<B64)∧BkU wr w.heap.size r∧Below w.heap.size w wr∧num B64 r=num B64 (la.take k)*num B64 lb∧∀j,k+m≤j→r.getD j 0=0) (fun i _=>n - (intOf i).toNat)
 case atStart=>exact⟨0,zs (n+m),Nat.zero_le _,rfl,zs_length _,zs_lt (by rw [B64_eq];omega) _,BkU.new _ _,ab _ _,by simp [zs,num_replicate_zero],fun j _=>by
   simp [zs,List.getD_eq_getElem?_getD,List.getElem?_replicate];split <;> rfl⟩
 case round=>
  obtain⟨k,r,hk,rfl,hr,hrl,hbk,hbel,hnum,hz⟩:=hrel;obtain⟨wo,rfl⟩:∃wo:World,wo=wr:=⟨_,rfl⟩;have Hr:Hid (r.length=n+m):=hr;have Hrl:=ZZ hrl;have Hbk:Hid (BkU wo w.heap.size r):=hbk;have Hnum:=ZZ hnum;have Hz:=ZZ hz;clear hr hrl hnum hbk hz
  by_cases hlt:k<n
  ·obtain⟨ba,oa,rfl,hca'⟩:=hA.u (by rw [Hn.out];omega)
   have ea:=ao hbel (hca' k (by rw [Hn.out];omega));have hxl:=getD_lt Hla.out (by rw [B64_eq];omega) k;have Htk:Hid (num B64 (la.take (k+1))=num B64 (la.take k)+B64 ^ k*la.getD k 0):=num_take_le _ _ _;clear hca' hA;generalize la.getD k 0=x at *
   go_wp2
   go_loopw [8,29] (fun c j wr=>∃(t cy:Nat) (r:List Nat),t≤m∧j=.int .i64 t∧c=.int .u64 cy∧cy<B64∧r.length=n+m∧(∀d ∈ r,d<B64)∧BkU wr w.heap.size r∧Below w.heap.size w wr∧num B64 r+B64 ^ k*B64 ^ t*cy=num B64 (la.take k)*num B64 lb+B64 ^ k*x*num B64 (lb.take t)∧∀j,k+m≤j→r.getD j 0=0) (fun _ j _=>m - (intOf j).toNat)
   case atStart=>exact⟨0,0,r,Nat.zero_le _,rfl,rfl,by rw [B64_eq];omega,Hr.out,Hrl.out,Hbk.out,hbel,by rw [Hnum.out];simp,Hz.out⟩
   case round=>
    clear Hr Hrl Hbk Hnum Hz hbel ea;obtain⟨t,cy,r,ht,rfl,rfl,hcy,hr,hrl,hbk,hbel,hnum,hz⟩:=hrel;have Hr:Hid (r.length=n+m):=hr;have Hrl:=ZZ hrl;have Hbk:Hid (BkU wr w.heap.size r):=hbk;have Hnum:=ZZ hnum;have Hz:=ZZ hz;clear hr hrl hnum hbk hz
    by_cases hltm:t<m
    ·obtain⟨bb,ob,rfl,hcb'⟩:=hB.u (by rw [Hm.out];omega)
     have eb:=ao hbel (hcb' t (by rw [Hm.out];omega));have hyl:=getD_lt Hlb.out (by rw [B64_eq];omega) t;have Htt:Hid (num B64 (lb.take (t+1))=num B64 (lb.take t)+B64 ^ t*lb.getD t 0):=num_take_le _ _ _;clear hcb' hB;generalize lb.getD t 0=y at *;have hci:=Hbk.out.cell (k+t) (by rw [Hr.out];omega);have hfi:=Hbk.out.frozen (k+t);have hol:=getD_lt Hrl.out (by rw [B64_eq];omega) (k+t);have hns:=fun s=>num_set B64 r (k+t) s (by rw [Hr.out];omega);have Hns:=ZZ hns;clear hns;generalize r.getD (k+t) 0=o at *;have Hol:=ZZ hol;have Hxl:=ZZ hxl;have Hyl:=ZZ hyl;have Hcy:=ZZ hcy;clear hol hxl hyl hcy;go_wp2_with fail;refine(mul64_c x y Hxl.out Hyl.out _).mono ?_;rintro e w1 ⟨⟨hi,lo,rfl,hhl,hhi,hlo⟩,rfl⟩;obtain⟨s1,c1,hs1,hc1,hsc1,hrun1⟩:=run_add lo o 0 (by omega) hlo Hol.out;obtain⟨s2,c2,hs2,hc2,hsc2,hrun2⟩:=run_add s1 cy 0 (by omega) hs1 Hcy.out;have hrun1':∀w,(callFunc 107 #[.int .u64 lo,.int .u64 o,.int .u64 0]).run Tryz.prog w=.ok (.value (.tuple #[.int .u64 s1,.int .u64 c1])) w:=hrun1;have hrun2':∀w,(callFunc 107 #[.int .u64 s1,.int .u64 cy,.int .u64 0]).run Tryz.prog w=.ok (.value (.tuple #[.int .u64 s2,.int .u64 c2])) w:=hrun2;obtain⟨b1,b2,b3⟩:=mul_bounds Hxl.out Hyl.out Hol.out Hcy.out hhl hsc1 hsc2;have B3:=ZZ b3;have B2:=ZZ b2;have Hs2:=ZZ hs2;obtain⟨h2,hh2⟩:∃z,z=hi+c1:=⟨_,rfl⟩;obtain⟨h3,hh3⟩:∃z,z=h2+c2:=⟨_,rfl⟩
     have hw1:IntKind.u64.wrap ((hi:Int)+(c1:Int))=((h2:Nat):Int):=by
      rw [IntWalk.u64_in _ (by rw [B64_eq] at b1;omega)];omega
     have hw2:IntKind.u64.wrap ((h2:Int)+(c2:Int))=((h3:Nat):Int):=by
      rw [IntWalk.u64_in _ (by rw [B64_eq] at b2;omega)];omega
     have Hh3:Hid (h3=hi+c1+c2):=by show _=_;omega
     clear hrun1 hrun2 hsc1 hsc2 b1 b2 b3 hh2 hh3 hs1 hs2 hhl hhi hlo hc1 hc2;have Hset:=ZZ (Hbk.out.set_ (k+t) s2)
     go_wp2
     go_roundw
     case rel=>
      refine⟨t+1,h3,r.set (k+t) s2,by omega,by go_num,rfl,by rw [Hh3.out];exact B2.out,by rw [List.length_set,Hr.out],set_lt Hrl.out Hs2.out _,Hset.out,hbel.setCell (Nat.le_refl _) _,?_,fun j hj=>by rw [getD_set_ne (by omega)];exact Hz.out j hj⟩;have h5:=Hns.out s2;rw [Nat.pow_add] at h5;rw [Htt.out,Nat.pow_succ,←Nat.mul_assoc];have h6:=B3.out;rw [←Hh3.out] at h6;exact mul_step Hnum.out h6 h5
     case measure=>simp [intOf];omega
    ·have htm:t=m:=by omega
     subst htm;have hci:=Hbk.out.cell (k+t) (by rw [Hr.out];omega);have hfi:=Hbk.out.frozen (k+t);have Hset:=ZZ (Hbk.out.set_ (k+t) cy);have Hcy:=ZZ hcy;clear hcy
     go_wp2
     go_roundw
     case rel=>
      refine⟨k+1,r.set (k+t) cy,by omega,by go_num,by rw [List.length_set,Hr.out],set_lt Hrl.out Hcy.out _,Hset.out,hbel.setCell (Nat.le_refl _) _,?_,fun j hj=>by rw [getD_set_ne (by omega)];exact Hz.out j (by omega)⟩;have h5:=num_set B64 r (k+t) cy (by rw [Hr.out];omega);rw [Hz.out (k+t) (Nat.le_refl _),Nat.mul_zero,Nat.add_zero,Nat.pow_add] at h5;rw [h5,Hnum.out,num_take_all B64 lb (by rw [Hm.out];omega),Htk.out,Nat.add_mul]
     case measure=>simp [intOf];omega
  ·have hkn:k=n:=by omega
   subst hkn;have Hc:=Hbk.out.cl;have HC:=ZZ Hc;clear Hc;go_wp2_with fail;refine(cut_c _ r _ _ HC.out (k+m) Hr.out (by omega) (by omega)).mono ?_;rintro e w2 ⟨rfl,rfl⟩;go_wp2_with fail;go_ret;refine⟨_,rfl,?_,hbel⟩
   have:=cut_w Hrl.out HC.out (c:=k+m) (by rw [Hr.out];omega)
   rw [Hnum.out,num_take_all B64 la (by rw [Hn.out];omega)] at this;exact this
theorem mul_c (va vb:Value) (m n:Nat) (w:World) (ha:Wd w va m) (hb:Wd w vb n) (sa:Sm m) (sb:Sm n):Calls Tryz.prog 62 #[va,vb] w fun e w'=>∃v,e=.returned v∧Wd w' v (m*n)∧Ext w w':=by
 obtain⟨A,ca,rfl,hca,hA⟩:=ha;obtain⟨B,cb,rfl,hcb,hB⟩:=hb;have h:=mul_r A B (dg m) (dg n) ca cb w _ _ rfl rfl hA hB (dg_lt m) (dg_lt n) (by unfold Sm at sa sb;omega)
 rwa [num_dg,num_dg] at h
end Go.Proofs.YtkoaakefgacokaaGreatDoor
namespace Go.Proofs.YtkoaakefgacokaaGreatDoor
open Go
section
variable {P:Program} {md:Region.Mode} {ops:Array Oper} {Q:Exit→Act→World→Prop} {S:World→Prop} {z:Nat}
def AnyL (P:Program) (md:Region.Mode) (ops:Array Oper) (Q:Exit→Act→World→Prop) (S:World→Prop) (z:Nat):Nat→Array Bool→Act→World→Prop
 | 0,listed,a,w=>Region.ready md ops listed=[]∧Q .normal a w
 | fuel+1,listed,a,w=>(Region.ready md ops listed=[]→Q .normal a w) ∧
  ∀i ∈ Region.ready md ops listed,wpOp P ops Q i (fun a' w'=>(i≠z→S w')∧AnyL P md ops Q S z fuel (listed.setIfInBounds i true) a' w') a w
theorem any_of_L:∀(fuel:Nat) (listed:Array Bool) (a:Act) (w:World),AnyL P md ops Q S z fuel listed a w→wpAny P md ops Q fuel listed a w
 | 0,_,_,_,h=>h
 | fuel+1,_,_,_,h=>⟨h.1,fun i hi=>wpOp_mono (fun a' w' h'=>any_of_L fuel _ a' w' h'.2) (h.2 i hi)⟩
def Clo (md:Region.Mode) (ops:Array Oper) (listed:Array Bool):Prop:=∀(k:Nat) (o:Oper),ops[k]?=some o→listed.getD k true=true→∀e ∈ o.after,Region.binds md e=true→listed.getD e.on false=true
def cloB (md:Region.Mode) (ops:Array Oper) (listed:Array Bool):Bool:=
 (List.range ops.size).all fun k=>!(listed.getD k true) || match ops[k]? with|some o=>o.after.all (fun e=>!(Region.binds md e) || listed.getD e.on false)|none=>true
theorem clo_of {listed:Array Bool} (h:cloB md ops listed=true):Clo md ops listed:=by
 intro k o ho hl e he hb;have hk:k<ops.size:=(Array.getElem?_eq_some_iff.1 ho).1;have h1:=List.all_eq_true.1 h k (List.mem_range.2 hk);rw [hl,ho] at h1
 simp only [Bool.not_true,Bool.false_or,Array.all_eq_true_iff_forall_mem,Bool.or_eq_true,Bool.not_eq_true'] at h1
 exact(h1 e he).resolve_left (by simp [hb])
theorem clo_set {listed:Array Bool} {j:Nat} (h:Clo md ops listed) (hj:j ∈ Region.ready md ops listed):Clo md ops (listed.setIfInBounds j true):=by
 intro k o ho hl e he hb
 by_cases hjk:j=k
 ·subst hjk
  obtain⟨-,o',ho',hall⟩:=mem_ready.1 hj;rw [ho] at ho';cases ho';exact getD_set_true (hall e he hb)
 ·rw [Go.getD_set_ne true hjk] at hl
  exact getD_set_true (h k o ho hl e he hb)
def chainB (md:Region.Mode) (ops:Array Oper) (z:Nat):Bool:=
 (List.range ops.size).all fun i=>decide (i=z) || (List.range ops.size).any fun k=>decide (i<k) && match ops[k]? with|some o=>o.after.any (fun e=>Region.binds md e && decide (e.on=i))|none=>false
theorem last_z (h:chainB md ops z=true) {listed:Array Bool} (hc:Clo md ops listed) (hs:listed.size=ops.size):∀(n i:Nat),ops.size - i=n→listed.getD i true=false→i≠z→z ∉ Region.ready md ops listed:=by
 intro n
 induction n using Nat.strongRecOn with
 | _ n ih=>
  intro i hn hi hne
  have hk:i<ops.size:=by
   rcases Nat.lt_or_ge i ops.size with h'|h'
   ·exact h'
   ·rw [←hs] at h';simp [Nat.not_lt.2 h'] at hi
  have h1:=List.all_eq_true.1 h i (List.mem_range.2 hk);rw [Bool.or_eq_true] at h1;have h2:=h1.resolve_left (by simpa using hne);obtain⟨k,hkm,h3⟩:=List.any_eq_true.1 h2;rw [Bool.and_eq_true] at h3;obtain⟨h4,h5⟩:=h3;have hik:i<k:=of_decide_eq_true h4;have hkn:k<ops.size:=List.mem_range.1 hkm
  cases ho:ops[k]? with
  | none=>rw [ho] at h5;cases h5
  | some o=>
   rw [ho] at h5;obtain⟨e,he,h6⟩:=Array.any_eq_true'.1 h5;rw [Bool.and_eq_true] at h6;have hon:e.on=i:=of_decide_eq_true h6.2
   have nof:listed.getD e.on false≠true:=by
    rw [hon];have hlt:i<listed.size:=by rw [hs];exact hk
    simp [hlt] at hi ⊢
    exact hi
   by_cases hkz:k=z
   ·subst hkz
    intro hr;obtain⟨-,o',ho',hall⟩:=mem_ready.1 hr;rw [ho] at ho';cases ho';exact nof (hall e he h6.1)
   ·have hku:listed.getD k true=false:=by
     rcases Bool.eq_false_or_eq_true (listed.getD k true) with h7|h7
     ·exact absurd (hc k o ho h7 e he h6.1) nof
     ·exact h7
    exact ih (ops.size - k) (by omega) k rfl hku hkz
theorem first_L (hch:chainB md ops z=true) {i:Nat} {oi:Oper} {v:Value} (hi:ops[i]?=some oi) (hsel:∀(j:Nat) (o:Oper) cs b,ops[j]?=some o→o.op≠.select cs b) (hQ:∀c a w,Q (.panic c) (a.put oi.dst v) w→Q (.panic c) a w) (hiz:i≠z):∀(fuel:Nat) (listed:Array Bool) (a:Act) (w:World),Clo md ops listed→listed.size=ops.size→(∀j oj,ops[j]?=some oj→j≠i→listed.getD j true=false→(∀e ∈ oj.after,Region.binds md e=true→e.on≠i)→oi.apart ops oj=true)→i ∈ Region.ready md ops listed→YieldsIf P ops S oi v a→S w→AnyL P md ops Q S z fuel (listed.setIfInBounds i true) (a.put oi.dst v) w→AnyL P md ops Q S z (fuel+1) listed a w:=by
 intro fuel
 induction fuel with
 | zero=>
  intro listed a w hcl hsz _ hr hy hS H;refine⟨fun h=>(by rw [h] at hr;cases hr),fun j hj=>?_⟩
  by_cases hji:j=i
  ·subst hji;exact hy.wpOp hi hS ⟨fun _=>hS,H⟩
  ·have:=ready_mono hj hji
   rw [H.1] at this
   cases this
 | succ fuel ih=>
  intro listed a w hcl hsz hfree hr hy hS H;refine⟨fun h=>(by rw [h] at hr;cases hr),fun j hj=>?_⟩
  by_cases hji:j=i
  ·subst hji;exact hy.wpOp hi hS ⟨fun _=>hS,H⟩
  ·have hjz:j≠z:=fun e=>last_z hch hcl hsz _ i rfl (mem_ready.1 hr).1 hiz (e ▸ hj)
   have h1:=H.2 j (ready_mono hj hji);obtain⟨hjun,oj,hoj,hall⟩:=mem_ready.1 hj
   have hnot:∀e ∈ oj.after,Region.binds md e=true→e.on≠i:=fun e he hb heq=>by
    have h1:=hall e he hb;have h0:=(mem_ready.1 hr).1;rw [heq] at h1
    rcases Nat.lt_or_ge i listed.size with h'|h'
    ·simp [h'] at h0 h1;rw [h0] at h1;cases h1
    ·simp [Array.getElem?_eq_none h'] at h1
   have h2:=wpOp_putIf hoj (hfree j oj hoj hji hjun hnot) (fun cs b=>hsel i oi cs b hi) (fun cs b=>hsel j oj cs b hoj) hQ hy h1
   have hfree':∀k ok,ops[k]?=some ok→k≠i→(listed.setIfInBounds j true).getD k true=false→(∀e ∈ ok.after,Region.binds md e=true→e.on≠i)→oi.apart ops ok=true:=fun k ok hk hki hun hno=>by
    refine hfree k ok hk hki ?_ hno
    by_cases hjk:j=k
    ·subst hjk;exact hjun
    ·rw [Go.getD_set_ne true hjk] at hun;exact hun
   refine wpOp_mono (fun a' w' h3=>⟨fun _=>h3.2.1 hjz,ih (listed.setIfInBounds j true) a' w' (clo_set hcl hj) (by simpa using hsz) hfree' (ready_mono hr (Ne.symm hji)) h3.1 (h3.2.1 hjz) ?_⟩) h2;rw [Array.setIfInBounds_comm _ _ hji];exact h3.2.2
theorem take_L {i:Nat} (d:Tmp) {oi:Oper} {v:Value} {fuel:Nat} {listed:Array Bool} {a:Act} {w:World} (hi:ops[i]?=some oi) (hd:oi.dst=some d) (hs:Region.noSelect ops=true) (hf:Region.free md ops listed i=true) (hr:(Region.ready md ops listed).contains i=true) (hch:(chainB md ops z && cloB md ops listed && decide (listed.size=ops.size) && decide (i≠z))=true) (hQ:∀c a w,Q (.panic c) (a.put (some d) v) w→Q (.panic c) a w) (hy:YieldsIf P ops S oi v a) (hS:S w) (h:AnyL P md ops Q S z fuel (listed.setIfInBounds i true) (a.put (some d) v) w):AnyL P md ops Q S z (fuel+1) listed a w:=by
 rw [←hd] at hQ h
 simp only [Bool.and_eq_true,decide_eq_true_eq] at hch
 exact first_L hch.1.1.1 hi (Region.noSelect_spec hs) hQ hch.2 fuel listed a w (clo_of hch.1.1.2) hch.1.2 (Region.free_spec hi hf) (by simpa using hr) hy hS h
theorem take_b (i:Nat) (d:Tmp) {oi:Oper} {v:Value} {fuel:Nat} {listed:Array Bool} {a a':Act} {w:World} (h:AnyL P md ops Q S z fuel (listed.setIfInBounds i true) a' w) (hi:ops[i]?=some oi:=by exact rfl) (hd:oi.dst=some d:=by exact rfl) (hs:Region.noSelect ops=true:=by kernel_rfl) (hf:Region.free md ops listed i=true:=by kernel_rfl) (hr:(Region.ready md ops listed).contains i=true:=by kernel_rfl) (hch:(chainB md ops z && cloB md ops listed && decide (listed.size=ops.size) && decide (i≠z))=true:=by kernel_rfl) (hQ:∀c a w,Q (.panic c) (a.put (some d) v) w→Q (.panic c) a w:=by exact fun _ _ _ h=>h) (hy:YieldsIf P ops S oi v a:=by refine Or.inl ⟨rfl,?_⟩;intro w hSw;(try dsimp only at hSw);go_simp;try with_reducible rfl) (hS:S w:=by assumption) (ha:a.put (some d) v=a':=by simp only [Act.put,List.setIfInBounds_toArray,List.set_cons_zero,List.set_cons_succ] <;> rfl):AnyL P md ops Q S z (fuel+1) listed a w:=by
 subst ha;exact take_L (i:=i) d hi hd hs hf hr hch hQ hy hS h
theorem call_L {fuel:Nat} {listed:Array Bool} {a:Act} {w:World} {i:Nat} (d:Tmp) {o:Oper} (ho:ops[i]?=some o) (hd:o.dst=some d) (hr:Region.ready md ops listed=[i]) (h:∀K':Act→World→Prop,Shut (∀a w,S w→(S w→AnyL P md ops Q S z fuel (listed.setIfInBounds i true) a w)→K' a w)→if Region.wanted o (yielded ops a.tmps)=true then Oper.wp P o a w K' Q else K' (a.put (some d) undef) w):AnyL P md ops Q S z (fuel+1) listed a w:=by
 rw [←hd] at h;refine⟨fun h0=>by (rw [hr] at h0;cases h0),fun j hj=>?_⟩;rw [hr] at hj;obtain rfl:=List.mem_singleton.1 hj;exact wpOp_step ho (fun K' hK=>h K' (fun a w hS hW=>hK a w ⟨fun _=>hS,hW hS⟩))
theorem last_L {fuel:Nat} {listed:Array Bool} {a:Act} {w:World} {o:Oper} (ho:ops[z]?=some o) (hr:Region.ready md ops listed=[z]) (hr2:Region.ready md ops (listed.setIfInBounds z true)=[]) (h:∀K':Act→World→Prop,Shut (∀a w,Q .normal a w→K' a w)→if Region.wanted o (yielded ops a.tmps)=true then Oper.wp P o a w K' Q else K' (a.put o.dst undef) w):AnyL P md ops Q S z (fuel+1) listed a w:=by
 refine⟨fun h0=>by (rw [hr] at h0;cases h0),fun j hj=>?_⟩;rw [hr] at hj;obtain rfl:=List.mem_singleton.1 hj;refine wpOp_step ho (fun K' hK=>h K' (fun a w hq=>hK a w ⟨fun hne=>absurd rfl hne,?_⟩))
 cases fuel with
 | zero=>exact⟨hr2,hq⟩
 | succ n=>exact⟨fun _=>hq,by rw [hr2];simp⟩
theorem region_L {id:Nat} {a:Act} {w:World} (z:Nat) (hm:P.follows .mixedOrders=true) (hS:S w.drew) (h:S w.drew→AnyL P .any ops Q S z ops.size (Array.replicate ops.size false) a w.drew):(Code.region id ops true).wp P Q a w:=
 wp_region_any hm (any_of_L _ _ _ _ (h hS))
end
end Go.Proofs.YtkoaakefgacokaaGreatDoor
