/- The program's natural numbers: division. A region that draws its order and whose last operation stores over cells that it has loaded. -/
import Derived.Test.YtjamgccgoapbeaaGreatDoorGWg
import Derived.Deep.RegionLawGrows
import Derived.Test.YtjamgccgoapbeaaGreatDoorGNat
import Derived.Deep.RegionHeld3
set_option linter.unusedVariables false
set_option maxRecDepth 100000
set_option maxHeartbeats 64000000
namespace Go.Proofs.YtjamgccgoapbeaaGreatDoor
open Go.RowKit
def DivR (m n:Nat) (w w':World) (e:Ending):Prop:=∃q r:Value,e=.returned (.tuple #[q,r])∧Wd w' q (m / n)∧Wd w' r (m % n)∧Ext w w'
theorem div_less (va vb:Value) (m n:Nat) (w:World) (ha:Wd w va m) (hb:Wd w vb n) (sa:Sm m) (sb:Sm n) (hlt:m<n):Calls Tryz.prog 108 #[va,vb] w fun e w'=>DivR m n w w' e:=by
 have Ha:=ZZ ha;have hc:=cmp_c va vb m n w ha hb sa sb;obtain⟨A,ca,rfl,hca,hA⟩:=ha;obtain⟨B,cb,rfl,hcb,hB⟩:=hb;unfold Sm at sa sb;generalize (dg m).length=p at *;generalize (dg n).length=q at *;have Hc:=ZZ hc;clear hA hB hc
 go_enter Tryz.func108,Tryz.ntmps108
 go_wp2_with fail;refine Hc.out.mono ?_
 rintro e w1 ⟨⟨c,rfl,h1,h2⟩,z,rfl⟩;have h3:c<0:=h1.2 hlt;clear h1 h2;go_wp2_with fail
 go_ret2
 refine⟨_,_,rfl,?_,?_,av _ _⟩
 ·rw [Nat.div_eq_of_lt hlt];exact Wd.zero _
 ·rw [Nat.mod_eq_of_lt hlt];exact Ha.out.mono (av _ _)
theorem div_one (va vb:Value) (m n:Nat) (w:World) (ha:Wd w va m) (hb:Wd w vb n) (sa:Sm m) (hle:n≤m) (h1:(dg n).length=1) (h0:0<n):Calls Tryz.prog 108 #[va,vb] w fun e w'=>DivR m n w w' e:=by
 have Ha:=ZZ ha;have hc:=cmp_c va vb m n w ha hb sa (by unfold Sm;omega)
 have e1:(dg n).getD 0 0=n:=by
  have e:=num_dg n
  match h:dg n,h1 with
  | [d],_=>rw [h] at e;simpa using e
 have hnB:n<B64:=by rw [←e1];exact getD_lt (dg_lt n) (by rw [B64_eq];omega) 0
 have Sa:=ZZ sa;obtain⟨A,ca,rfl,hca,hA⟩:=ha;obtain⟨B,cb,rfl,hcb,hB⟩:=hb;obtain⟨bb,ob,rfl,hcb'⟩:=hB.u (by omega)
 have hcell:w.cell? ⟨bb,ob,none⟩=some (.int .u64 (n:Int)):=by
  have:=hcb' 0 (by omega)
  rw [e1] at this;simpa using this
 unfold Sm at sa;rw [h1] at hcb hc ⊢;generalize (dg m).length=p at *;have Hc:=ZZ hc;have HnB:=ZZ hnB;clear hA hB hc hcb' e1 h1 hnB
 go_enter Tryz.func108,Tryz.ntmps108
 go_wp2_with fail;refine Hc.out.mono ?_
 rintro e w1 ⟨⟨c,rfl,h1,h2⟩,z,rfl⟩;have h3:¬ c<0:=fun h=>by have:=h1.1 h;omega
 clear h1 h2;go_wp2_with fail;refine(by1_c _ m n _ (Ha.out.mono (av _ _)) Sa.out h0 HnB.out).mono ?_;rintro e w2 ⟨⟨v,r,rfl,hr,hv⟩,hext⟩;have hext':=ak (av w z) hext;have Hv:=ZZ hv;have Hr:=ZZ hr;clear hv hr hext;go_wp2_with fail;refine(word_c r (by rw [Hr.out];exact Nat.lt_trans (Nat.mod_lt _ h0) HnB.out) _).mono ?_;rintro e w3 ⟨v3,rfl,hv3,hext3⟩;have hext'':=ak hext' hext3;go_wp2_with fail
 go_ret2
 refine⟨_,_,rfl,Hv.out.mono hext3,?_,hext''⟩;rw [←Hr.out];exact hv3
end Go.Proofs.YtjamgccgoapbeaaGreatDoor
set_option linter.unusedVariables false
set_option maxRecDepth 100000
set_option maxHeartbeats 64000000
namespace Go.Proofs.YtjamgccgoapbeaaGreatDoor
open Go
section
variable {P:Program} {md:Region.Mode} {ops:Array Oper} {Q:Exit→Act→World→Prop} {S:World→Prop} {z:Nat}
def AnyL (P:Program) (md:Region.Mode) (ops:Array Oper) (Q:Exit→Act→World→Prop) (S:World→Prop) (z:Nat):Nat→Array Bool→Act→World→Prop
 | 0,listed,a,w=>Region.ready md ops listed=[]∧Q .normal a w
 | fuel+1,listed,a,w=>(Region.ready md ops listed=[]→Q .normal a w) ∧
  ∀i ∈ Region.ready md ops listed,wpOp P ops Q i (fun a' w'=>(i≠z→S w')∧AnyL P md ops Q S z fuel (listed.setIfInBounds i true) a' w') a w
theorem any_of_L:∀(fuel:Nat) (listed:Array Bool) (a:Act) (w:World),AnyL P md ops Q S z fuel listed a w→wpAny P md ops Q fuel listed a w
 | 0,_,_,_,h=>h
 | fuel+1,_,_,_,h=>⟨h.1,fun i hi=>wpOp_mono (fun a' w' h'=>any_of_L fuel _ a' w' h'.2) (h.2 i hi)⟩
def Clo (md:Region.Mode) (ops:Array Oper) (listed:Array Bool):Prop:=∀(k:Nat) (o:Oper),ops[k]?=some o→listed.getD k true=true→∀e ∈ o.after,Region.binds md e=true→listed.getD e.on false=true
def cloB (md:Region.Mode) (ops:Array Oper) (listed:Array Bool):Bool:=
 (List.range ops.size).all fun k=>!(listed.getD k true) || match ops[k]? with|some o=>o.after.all (fun e=>!(Region.binds md e) || listed.getD e.on false)|none=>true
theorem clo_of {listed:Array Bool} (h:cloB md ops listed=true):Clo md ops listed:=by
 intro k o ho hl e he hb;have hk:k<ops.size:=(Array.getElem?_eq_some_iff.1 ho).1;have h1:=List.all_eq_true.1 h k (List.mem_range.2 hk);rw [hl,ho] at h1
 simp only [Bool.not_true,Bool.false_or,Array.all_eq_true_iff_forall_mem,Bool.or_eq_true,Bool.not_eq_true'] at h1
 exact(h1 e he).resolve_left (by simp [hb])
theorem clo_set {listed:Array Bool} {j:Nat} (h:Clo md ops listed) (hj:j ∈ Region.ready md ops listed):Clo md ops (listed.setIfInBounds j true):=by
 intro k o ho hl e he hb
 by_cases hjk:j=k
 ·subst hjk
  obtain⟨-,o',ho',hall⟩:=mem_ready.1 hj;rw [ho] at ho';cases ho';exact getD_set_true (hall e he hb)
 ·rw [Go.getD_set_ne true hjk] at hl
  exact getD_set_true (h k o ho hl e he hb)
def chainB (md:Region.Mode) (ops:Array Oper) (z:Nat):Bool:=
 (List.range ops.size).all fun i=>decide (i=z) || (List.range ops.size).any fun k=>decide (i<k) && match ops[k]? with|some o=>o.after.any (fun e=>Region.binds md e && decide (e.on=i))|none=>false
theorem last_z (h:chainB md ops z=true) {listed:Array Bool} (hc:Clo md ops listed) (hs:listed.size=ops.size):∀(n i:Nat),ops.size - i=n→listed.getD i true=false→i≠z→z ∉ Region.ready md ops listed:=by
 intro n
 induction n using Nat.strongRecOn with
 | _ n ih=>
  intro i hn hi hne
  have hk:i<ops.size:=by
   rcases Nat.lt_or_ge i ops.size with h'|h'
   ·exact h'
   ·rw [←hs] at h';simp [Nat.not_lt.2 h'] at hi
  have h1:=List.all_eq_true.1 h i (List.mem_range.2 hk);rw [Bool.or_eq_true] at h1;have h2:=h1.resolve_left (by simpa using hne);obtain⟨k,hkm,h3⟩:=List.any_eq_true.1 h2;rw [Bool.and_eq_true] at h3;obtain⟨h4,h5⟩:=h3;have hik:i<k:=of_decide_eq_true h4;have hkn:k<ops.size:=List.mem_range.1 hkm
  cases ho:ops[k]? with
  | none=>rw [ho] at h5;cases h5
  | some o=>
   rw [ho] at h5;obtain⟨e,he,h6⟩:=Array.any_eq_true'.1 h5;rw [Bool.and_eq_true] at h6;have hon:e.on=i:=of_decide_eq_true h6.2
   have nof:listed.getD e.on false≠true:=by
    rw [hon];have hlt:i<listed.size:=by rw [hs];exact hk
    simp [hlt] at hi ⊢
    exact hi
   by_cases hkz:k=z
   ·subst hkz
    intro hr;obtain⟨-,o',ho',hall⟩:=mem_ready.1 hr;rw [ho] at ho';cases ho';exact nof (hall e he h6.1)
   ·have hku:listed.getD k true=false:=by
     rcases Bool.eq_false_or_eq_true (listed.getD k true) with h7|h7
     ·exact absurd (hc k o ho h7 e he h6.1) nof
     ·exact h7
    exact ih (ops.size - k) (by omega) k rfl hku hkz
theorem first_L (hch:chainB md ops z=true) {i:Nat} {oi:Oper} {v:Value} (hi:ops[i]?=some oi) (hsel:∀(j:Nat) (o:Oper) cs b,ops[j]?=some o→o.op≠.select cs b) (hQ:∀c a w,Q (.panic c) (a.put oi.dst v) w→Q (.panic c) a w) (hiz:i≠z):∀(fuel:Nat) (listed:Array Bool) (a:Act) (w:World),Clo md ops listed→listed.size=ops.size→(∀j oj,ops[j]?=some oj→j≠i→listed.getD j true=false→(∀e ∈ oj.after,Region.binds md e=true→e.on≠i)→oi.apart ops oj=true)→i ∈ Region.ready md ops listed→YieldsIf P ops S oi v a→S w→AnyL P md ops Q S z fuel (listed.setIfInBounds i true) (a.put oi.dst v) w→AnyL P md ops Q S z (fuel+1) listed a w:=by
 intro fuel
 induction fuel with
 | zero=>
  intro listed a w hcl hsz _ hr hy hS H;refine⟨fun h=>(by rw [h] at hr;cases hr),fun j hj=>?_⟩
  by_cases hji:j=i
  ·subst hji;exact hy.wpOp hi hS ⟨fun _=>hS,H⟩
  ·have:=ready_mono hj hji
   rw [H.1] at this
   cases this
 | succ fuel ih=>
  intro listed a w hcl hsz hfree hr hy hS H;refine⟨fun h=>(by rw [h] at hr;cases hr),fun j hj=>?_⟩
  by_cases hji:j=i
  ·subst hji;exact hy.wpOp hi hS ⟨fun _=>hS,H⟩
  ·have hjz:j≠z:=fun e=>last_z hch hcl hsz _ i rfl (mem_ready.1 hr).1 hiz (e ▸ hj)
   have h1:=H.2 j (ready_mono hj hji);obtain⟨hjun,oj,hoj,hall⟩:=mem_ready.1 hj
   have hnot:∀e ∈ oj.after,Region.binds md e=true→e.on≠i:=fun e he hb heq=>by
    have h1:=hall e he hb;have h0:=(mem_ready.1 hr).1;rw [heq] at h1
    rcases Nat.lt_or_ge i listed.size with h'|h'
    ·simp [h'] at h0 h1;rw [h0] at h1;cases h1
    ·simp [Array.getElem?_eq_none h'] at h1
   have h2:=wpOp_putIf hoj (hfree j oj hoj hji hjun hnot) (fun cs b=>hsel i oi cs b hi) (fun cs b=>hsel j oj cs b hoj) hQ hy h1
   have hfree':∀k ok,ops[k]?=some ok→k≠i→(listed.setIfInBounds j true).getD k true=false→(∀e ∈ ok.after,Region.binds md e=true→e.on≠i)→oi.apart ops ok=true:=fun k ok hk hki hun hno=>by
    refine hfree k ok hk hki ?_ hno
    by_cases hjk:j=k
    ·subst hjk;exact hjun
    ·rw [Go.getD_set_ne true hjk] at hun;exact hun
   refine wpOp_mono (fun a' w' h3=>⟨fun _=>h3.2.1 hjz,ih (listed.setIfInBounds j true) a' w' (clo_set hcl hj) (by simpa using hsz) hfree' (ready_mono hr (Ne.symm hji)) h3.1 (h3.2.1 hjz) ?_⟩) h2;rw [Array.setIfInBounds_comm _ _ hji];exact h3.2.2
theorem take_L {i:Nat} (d:Tmp) {oi:Oper} {v:Value} {fuel:Nat} {listed:Array Bool} {a:Act} {w:World} (hi:ops[i]?=some oi) (hd:oi.dst=some d) (hs:Region.noSelect ops=true) (hf:Region.free md ops listed i=true) (hr:(Region.ready md ops listed).contains i=true) (hch:(chainB md ops z && cloB md ops listed && decide (listed.size=ops.size) && decide (i≠z))=true) (hQ:∀c a w,Q (.panic c) (a.put (some d) v) w→Q (.panic c) a w) (hy:YieldsIf P ops S oi v a) (hS:S w) (h:AnyL P md ops Q S z fuel (listed.setIfInBounds i true) (a.put (some d) v) w):AnyL P md ops Q S z (fuel+1) listed a w:=by
 rw [←hd] at hQ h
 simp only [Bool.and_eq_true,decide_eq_true_eq] at hch
 exact first_L hch.1.1.1 hi (Region.noSelect_spec hs) hQ hch.2 fuel listed a w (clo_of hch.1.1.2) hch.1.2 (Region.free_spec hi hf) (by simpa using hr) hy hS h
theorem call_L {fuel:Nat} {listed:Array Bool} {a:Act} {w:World} {i:Nat} (d:Tmp) {o:Oper} (ho:ops[i]?=some o) (hd:o.dst=some d) (hr:Region.ready md ops listed=[i]) (h:∀K':Act→World→Prop,Shut (∀a w,S w→(S w→AnyL P md ops Q S z fuel (listed.setIfInBounds i true) a w)→K' a w)→if Region.wanted o (yielded ops a.tmps)=true then Oper.wp P o a w K' Q else K' (a.put (some d) undef) w):AnyL P md ops Q S z (fuel+1) listed a w:=by
 rw [←hd] at h;refine⟨fun h0=>by (rw [hr] at h0;cases h0),fun j hj=>?_⟩;rw [hr] at hj;obtain rfl:=List.mem_singleton.1 hj;exact wpOp_step ho (fun K' hK=>h K' (fun a w hS hW=>hK a w ⟨fun _=>hS,hW hS⟩))
theorem last_L {fuel:Nat} {listed:Array Bool} {a:Act} {w:World} {o:Oper} (ho:ops[z]?=some o) (hr:Region.ready md ops listed=[z]) (hr2:Region.ready md ops (listed.setIfInBounds z true)=[]) (h:∀K':Act→World→Prop,Shut (∀a w,Q .normal a w→K' a w)→if Region.wanted o (yielded ops a.tmps)=true then Oper.wp P o a w K' Q else K' (a.put o.dst undef) w):AnyL P md ops Q S z (fuel+1) listed a w:=by
 refine⟨fun h0=>by (rw [hr] at h0;cases h0),fun j hj=>?_⟩;rw [hr] at hj;obtain rfl:=List.mem_singleton.1 hj;refine wpOp_step ho (fun K' hK=>h K' (fun a w hq=>hK a w ⟨fun hne=>absurd rfl hne,?_⟩))
 cases fuel with
 | zero=>exact⟨hr2,hq⟩
 | succ n=>exact⟨fun _=>hq,by rw [hr2];simp⟩
theorem region_L {id:Nat} {a:Act} {w:World} (z:Nat) (hm:P.follows .mixedOrders=true) (hS:S w.drew) (h:S w.drew→AnyL P .any ops Q S z ops.size (Array.replicate ops.size false) a w.drew):(Code.region id ops true).wp P Q a w:=
 wp_region_any hm (any_of_L _ _ _ _ (h hS))
end
end Go.Proofs.YtjamgccgoapbeaaGreatDoor
