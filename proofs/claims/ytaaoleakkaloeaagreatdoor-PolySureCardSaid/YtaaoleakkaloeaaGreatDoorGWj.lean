/- The program's natural numbers: the greatest common divisor. Numbers: sign, numerator, denominator. A region that draws its order and whose last operation stores over cells that it has loaded. -/
import Derived.Test.YtaaoleakkaloeaaGreatDoorGWi
import Derived.Deep.LoopGhost
import Derived.Test.YtaaoleakkaloeaaGreatDoorGWa
import Derived.Deep.RegionHeld3
set_option linter.unusedVariables false
set_option maxRecDepth 100000
set_option maxHeartbeats 64000000
namespace Go.Proofs.YtaaoleakkaloeaaGreatDoor
open Go.RowKit
theorem dg_one_word {n:Nat} (h1:(dg n).length=1):(dg n).getD 0 0=n∧n<B64:=by
 have e1:(dg n).getD 0 0=n:=by
  have e:=num_dg n
  match h:dg n,h1 with
  | [d],_=>rw [h] at e;simpa using e
 exact⟨e1,by rw [←e1];exact getD_lt (dg_lt n) (by rw [B64_eq];omega) 0⟩
theorem sm_lt {m n:Nat} (h:m≤n) (k:Sm n):Sm m:=Nat.le_trans (dig_length_mono B64_two h) k
theorem divisor_c (va vb:Value) (m n:Nat) (w:World) (ha:Wd w va m) (hb:Wd w vb n) (sa:Sm m) (sb:Sm n) (hm:0<m):Calls Tryz.prog 67 #[va,vb] w fun e w'=>∃v,e=.returned v∧Wd w' v (Nat.gcd m n)∧Ext w w':=by
 obtain⟨G,hG⟩:∃G,G=Nat.gcd m n:=⟨_,rfl⟩;rw [←hG];have HG:=ZZ hG;have Ha:=ZZ ha;have Hb:=ZZ hb;have Sa:=ZZ sa;have Sb:=ZZ sb;have Hm:=ZZ hm;clear hG ha hb sa sb hm
 go_enter Tryz.func67,Tryz.ntmps67
 go_wp2_with fail
 go_loopg [0,1,5,6] n (fun k a b _ _ wr=>∃m',Wd wr a m'∧Wd wr b k∧0<m'∧Sm m'∧Sm k∧Nat.gcd m' k=G∧Ext w wr)
 case atStart=>exact⟨m,Ha.out,Hb.out,Hm.out,Sa.out,Sb.out,HG.out.symm,af _⟩
 case round=>
  obtain⟨m',ha,hb,hm,sa,sb,hg,hext⟩:=hrel;have Ha':=ZZ ha;have Hb':=ZZ hb;have Sa':=ZZ sa;have Sb':=ZZ sb;have Hm':=ZZ hm;have Hg':=ZZ hg;have Hext:=ZZ hext;obtain⟨A,ca,rfl,hca,hA⟩:=ha;obtain⟨B,cb,rfl,hcb,hB⟩:=hb;obtain⟨p,hp⟩:∃p,(dg m').length=p:=⟨_,rfl⟩;obtain⟨q,hq⟩:∃q,(dg gk).length=q:=⟨_,rfl⟩;have h1w:=fun h=>dg_one_word (n:=gk) h;have hcl:=fun h:0<(dg gk).length=>hB.u h;have hz:(dg gk).length=0→gk=0:=fun h=>(dig_eq_nil B64_two).1 (List.length_eq_zero_iff.1 h);rw [hq] at hcb hcl h1w hz ⊢;rw [hp] at hca ⊢;have Hp:=ZZ hp;have Hq:=ZZ hq;have H1w:=ZZ h1w;have Hcl:=ZZ hcl;have Hz:=ZZ hz;clear hm sa sb hg hext hA hB hp hq h1w hcl hz
  rcases Nat.lt_or_ge 1 q with h1|h1
  ·have t1:decide ((1:Int)<(q:Int))=true:=by simp;omega
   have hpos:0<gk:=by
    rcases Nat.eq_zero_or_pos gk with h|h
    ·subst h
     have:=Hq.out
     rw [dg_zero] at this
     simp at this;omega
    ·exact h
   have hd:=div_c _ _ m' gk wr Ha'.out Hb'.out Sa'.out Sb'.out hpos;rw [Hp.out,Hq.out] at hd;have Hd:=ZZ hd;have Hpos:=ZZ hpos;clear hd hpos;go_wp2_with fail;refine Hd.out.mono ?_;rintro e w1 ⟨vq,vr,rfl,h2,h3,h4⟩;have H3:=ZZ h3;have H4:=ZZ h4;clear h2 h3 h4;go_wp2_with fail
   go_roundg (m' % gk)
   case measure=>exact Nat.mod_lt _ Hpos.out
   case rel=>
    refine⟨gk,?_,H3.out,Hpos.out,Sb'.out,sm_lt (Nat.le_of_lt (Nat.mod_lt _ Hpos.out)) Sb'.out,?_,al Hext.out H4.out⟩
    ·have:=Hb'.out.mono H4.out
     rw [Hq.out] at this;exact this
    ·rw [Nat.gcd_comm,←Nat.gcd_rec,Nat.gcd_comm];exact Hg'.out
  ·have t1:decide ((1:Int)<(q:Int))=false:=by simp;omega
   rcases Nat.eq_zero_or_pos q with h0|h0
   ·subst h0
    go_wp2_with fail;go_ret
    have h2:=Hg'.out;rw [Hz.out (by first|rfl|trivial),Nat.gcd_zero_right] at h2;refine⟨_,rfl,?_,Hext.out⟩
    have:=Ha'.out
    rw [Hp.out,h2] at this;exact this
   ·have hq1:q=1:=by omega
    subst hq1;obtain⟨bb,ob,rfl,hc⟩:=Hcl.out (by omega);obtain⟨e1,hlt⟩:=H1w.out rfl
    have hcell:wr.cell? ⟨bb,ob,none⟩=some (.int .u64 (gk:Int)):=by
     have:=hc 0 (by omega)
     rw [e1] at this;simpa using this
    have hpos:0<gk:=by
     rcases Nat.eq_zero_or_pos gk with h|h
     ·subst h
      have:=Hq.out
      rw [dg_zero] at this
      simp at this
     ·exact h
    have hd:=by1_c _ m' gk wr Ha'.out Sa'.out hpos hlt;rw [Hp.out] at hd;have Hd:=ZZ hd;have Hpos:=ZZ hpos;have Hlt:=ZZ hlt;clear hd hpos hlt e1 hc;go_wp2_with fail;refine Hd.out.mono ?_;rintro e w1 ⟨⟨vq,r,rfl,hr,-⟩,hx⟩;have hcell1:=ao hx hcell;have Hr:=ZZ hr;have Hx:=ZZ hx;clear hr hx;go_wp2_with fail
    go_loop [8,9] (fun x y=>∃a b:Nat,x=.int .u64 a∧y=.int .u64 b∧Nat.gcd b a=G∧a<b∧b<B64) (fun x _=>(intOf x).toNat)
    case atStart=>exact⟨r,gk,rfl,rfl,by rw [Hr.out,Nat.gcd_comm,←Nat.gcd_rec,Nat.gcd_comm];exact Hg'.out,by rw [Hr.out];exact Nat.mod_lt _ Hpos.out,Hlt.out⟩
    case round=>
     obtain⟨a,b,rfl,rfl,hg,hab,hbB⟩:=hrel;have Hgab:=ZZ hg;have Hab:=ZZ hab;have HbB:=ZZ hbB;clear hg
     rcases Nat.eq_zero_or_pos a with h|h
     ·subst h
      clear hab hbB;go_wp2_with fail;refine(word_c b HbB.out _).mono ?_;rintro e w2 ⟨v,rfl,h5,h6⟩;have H5:=ZZ h5;have H6:=ZZ h6;clear h5 h6;go_wp2_with fail;go_ret;have h2:=Hgab.out;rw [Nat.gcd_zero_right] at h2;refine⟨_,rfl,?_,al Hext.out (al Hx.out H6.out)⟩;rw [←h2];exact H5.out
     ·have t2:((a:Int) != 0)=true:=by simp;omega
      have t3:((a:Int) == 0)=false:=by simp;omega
      obtain⟨c,hc⟩:∃c,c=b % a:=⟨_,rfl⟩;have hca':c<a:=by rw [hc];exact Nat.mod_lt _ h
      have hw:(b:Int) % (a:Int)=(c:Int):=by rw [hc];simp
      have Hc:Hid (Nat.gcd a c=G):=by
       show _=_
       rw [hc,Nat.gcd_comm,←Nat.gcd_rec,Nat.gcd_comm];exact Hgab.out
      have Hca:=ZZ hca';clear hab hbB hc hca';go_wp2_with fail
      go_round
      case rel=>exact⟨c,a,by rw [hw],rfl,Hc.out,Hca.out,Nat.lt_trans Hab.out HbB.out⟩
      case measure=>
       show (intOf (Value.int _ ((b:Int) % (a:Int)))).toNat<_
       rw [hw];simp [intOf];exact Hca.out
end Go.Proofs.YtaaoleakkaloeaaGreatDoor
set_option linter.unusedVariables false
set_option maxRecDepth 100000
set_option maxHeartbeats 64000000
namespace Go.Proofs.YtaaoleakkaloeaaGreatDoor
open Go.RowKit
def sg (b:Bool) (n:Nat):Int:=if b then -(n:Int) else n
def rat (b:Bool) (n d:Nat):Rat:=mkRat (sg b n) d
theorem sg_natAbs (b n):(sg b n).natAbs=n:=by unfold sg;split <;> simp
theorem rat_natAbs (b:Bool) (n d:Nat) (hd:d≠0):(rat b n d).num.natAbs=n / Nat.gcd n d:=by
 unfold rat;rw [Rat.num_mkRat,if_neg hd,sg_natAbs,Nat.gcd_comm];unfold sg
 split
 ·rw [Int.natAbs_ediv_of_dvd (by rw [Int.dvd_neg];exact Int.natCast_dvd_natCast.2 (Nat.gcd_dvd_left n d))]
  simp
 ·rw [Int.natAbs_ediv_of_dvd (Int.natCast_dvd_natCast.2 (Nat.gcd_dvd_left n d))];simp
theorem rat_den (b:Bool) (n d:Nat) (hd:d≠0):(rat b n d).den=d / Nat.gcd n d:=by
 unfold rat;rw [Rat.den_mkRat,if_neg hd,sg_natAbs,Nat.gcd_comm]
theorem rat_neg (b:Bool) (n d:Nat) (hd:d≠0) (hn:0<n):decide ((rat b n d).num<0)=b:=by
 have h1:(rat b n d).num<0↔b=true:=by
  have h:=Rat.num_mkRat (sg b n) d;unfold rat;rw [h,if_neg hd];have hg:0<Nat.gcd d (sg b n).natAbs:=Nat.gcd_pos_of_pos_left _ (by omega)
  cases b
  ·simp only [Bool.false_eq_true,iff_false,Int.not_lt]
   exact Int.ediv_nonneg (by unfold sg;simp) (by omega)
  ·simp only [iff_true]
   have hlt:sg true n<0:=by unfold sg;simp;omega
   exact Int.ediv_neg_of_neg_of_pos hlt (by exact_mod_cast hg)
 cases b
 ·simpa using h1
 ·simpa using h1
theorem rat_zero (b:Bool) (d:Nat):rat b 0 d=0:=by
 unfold rat sg
 cases b <;> simp
theorem rat_self (q:Rat):rat (decide (q.num<0)) q.num.natAbs q.den=q:=by
 unfold rat
 have:sg (decide (q.num<0)) q.num.natAbs=q.num:=by
  unfold sg
  split
  ·rename_i h
   simp only [decide_eq_true_eq] at h
   omega
  ·rename_i h
   simp only [decide_eq_true_eq] at h
   omega
 rw [this];exact Rat.mkRat_self q
def dn (q:Rat):Nat:=if q.den=1 then 0 else q.den
def Nm (w:World) (v:Value) (q:Rat):Prop:=∃vn vd,v=.agg #[.bool (decide (q.num<0)),vn,vd]∧Wd w vn q.num.natAbs∧Wd w vd (dn q)
theorem Nm.mono {w w':World} {v:Value} {q:Rat} (h:Nm w v q) (k:Ext w w'):Nm w' v q:=by
 obtain⟨vn,vd,e,h1,h2⟩:=h;exact⟨vn,vd,e,h1.mono k,h2.mono k⟩
theorem Nm.zero (w:World):Nm w (.agg #[.bool false,.slice none 0 0,.slice none 0 0]) 0:=⟨_,_,rfl,Wd.zero w,Wd.zero w⟩
end Go.Proofs.YtaaoleakkaloeaaGreatDoor
set_option linter.unusedVariables false
set_option maxRecDepth 100000
set_option maxHeartbeats 64000000
namespace Go.Proofs.YtaaoleakkaloeaaGreatDoor
open Go
section
variable {P:Program} {md:Region.Mode} {ops:Array Oper} {Q:Exit→Act→World→Prop} {S:World→Prop} {z:Nat}
def AnyL (P:Program) (md:Region.Mode) (ops:Array Oper) (Q:Exit→Act→World→Prop) (S:World→Prop) (z:Nat):Nat→Array Bool→Act→World→Prop
 | 0,listed,a,w=>Region.ready md ops listed=[]∧Q .normal a w
 | fuel+1,listed,a,w=>(Region.ready md ops listed=[]→Q .normal a w) ∧
  ∀i ∈ Region.ready md ops listed,wpOp P ops Q i (fun a' w'=>(i≠z→S w')∧AnyL P md ops Q S z fuel (listed.setIfInBounds i true) a' w') a w
theorem any_of_L:∀(fuel:Nat) (listed:Array Bool) (a:Act) (w:World),AnyL P md ops Q S z fuel listed a w→wpAny P md ops Q fuel listed a w
 | 0,_,_,_,h=>h
 | fuel+1,_,_,_,h=>⟨h.1,fun i hi=>wpOp_mono (fun a' w' h'=>any_of_L fuel _ a' w' h'.2) (h.2 i hi)⟩
def Clo (md:Region.Mode) (ops:Array Oper) (listed:Array Bool):Prop:=∀(k:Nat) (o:Oper),ops[k]?=some o→listed.getD k true=true→∀e ∈ o.after,Region.binds md e=true→listed.getD e.on false=true
def cloB (md:Region.Mode) (ops:Array Oper) (listed:Array Bool):Bool:=
 (List.range ops.size).all fun k=>!(listed.getD k true) || match ops[k]? with|some o=>o.after.all (fun e=>!(Region.binds md e) || listed.getD e.on false)|none=>true
theorem clo_of {listed:Array Bool} (h:cloB md ops listed=true):Clo md ops listed:=by
 intro k o ho hl e he hb;have hk:k<ops.size:=(Array.getElem?_eq_some_iff.1 ho).1;have h1:=List.all_eq_true.1 h k (List.mem_range.2 hk);rw [hl,ho] at h1
 simp only [Bool.not_true,Bool.false_or,Array.all_eq_true_iff_forall_mem,Bool.or_eq_true,Bool.not_eq_true'] at h1
 exact(h1 e he).resolve_left (by simp [hb])
theorem clo_set {listed:Array Bool} {j:Nat} (h:Clo md ops listed) (hj:j ∈ Region.ready md ops listed):Clo md ops (listed.setIfInBounds j true):=by
 intro k o ho hl e he hb
 by_cases hjk:j=k
 ·subst hjk
  obtain⟨-,o',ho',hall⟩:=mem_ready.1 hj;rw [ho] at ho';cases ho';exact getD_set_true (hall e he hb)
 ·rw [Go.getD_set_ne true hjk] at hl
  exact getD_set_true (h k o ho hl e he hb)
def chainB (md:Region.Mode) (ops:Array Oper) (z:Nat):Bool:=
 (List.range ops.size).all fun i=>decide (i=z) || (List.range ops.size).any fun k=>decide (i<k) && match ops[k]? with|some o=>o.after.any (fun e=>Region.binds md e && decide (e.on=i))|none=>false
theorem last_z (h:chainB md ops z=true) {listed:Array Bool} (hc:Clo md ops listed) (hs:listed.size=ops.size):∀(n i:Nat),ops.size - i=n→listed.getD i true=false→i≠z→z ∉ Region.ready md ops listed:=by
 intro n
 induction n using Nat.strongRecOn with
 | _ n ih=>
  intro i hn hi hne
  have hk:i<ops.size:=by
   rcases Nat.lt_or_ge i ops.size with h'|h'
   ·exact h'
   ·rw [←hs] at h';simp [Nat.not_lt.2 h'] at hi
  have h1:=List.all_eq_true.1 h i (List.mem_range.2 hk);rw [Bool.or_eq_true] at h1;have h2:=h1.resolve_left (by simpa using hne);obtain⟨k,hkm,h3⟩:=List.any_eq_true.1 h2;rw [Bool.and_eq_true] at h3;obtain⟨h4,h5⟩:=h3;have hik:i<k:=of_decide_eq_true h4;have hkn:k<ops.size:=List.mem_range.1 hkm
  cases ho:ops[k]? with
  | none=>rw [ho] at h5;cases h5
  | some o=>
   rw [ho] at h5;obtain⟨e,he,h6⟩:=Array.any_eq_true'.1 h5;rw [Bool.and_eq_true] at h6;have hon:e.on=i:=of_decide_eq_true h6.2
   have nof:listed.getD e.on false≠true:=by
    rw [hon];have hlt:i<listed.size:=by rw [hs];exact hk
    simp [hlt] at hi ⊢
    exact hi
   by_cases hkz:k=z
   ·subst hkz
    intro hr;obtain⟨-,o',ho',hall⟩:=mem_ready.1 hr;rw [ho] at ho';cases ho';exact nof (hall e he h6.1)
   ·have hku:listed.getD k true=false:=by
     rcases Bool.eq_false_or_eq_true (listed.getD k true) with h7|h7
     ·exact absurd (hc k o ho h7 e he h6.1) nof
     ·exact h7
    exact ih (ops.size - k) (by omega) k rfl hku hkz
theorem first_L (hch:chainB md ops z=true) {i:Nat} {oi:Oper} {v:Value} (hi:ops[i]?=some oi) (hsel:∀(j:Nat) (o:Oper) cs b,ops[j]?=some o→o.op≠.select cs b) (hQ:∀c a w,Q (.panic c) (a.put oi.dst v) w→Q (.panic c) a w) (hiz:i≠z):∀(fuel:Nat) (listed:Array Bool) (a:Act) (w:World),Clo md ops listed→listed.size=ops.size→(∀j oj,ops[j]?=some oj→j≠i→listed.getD j true=false→(∀e ∈ oj.after,Region.binds md e=true→e.on≠i)→oi.apart ops oj=true)→i ∈ Region.ready md ops listed→YieldsIf P ops S oi v a→S w→AnyL P md ops Q S z fuel (listed.setIfInBounds i true) (a.put oi.dst v) w→AnyL P md ops Q S z (fuel+1) listed a w:=by
 intro fuel
 induction fuel with
 | zero=>
  intro listed a w hcl hsz _ hr hy hS H;refine⟨fun h=>(by rw [h] at hr;cases hr),fun j hj=>?_⟩
  by_cases hji:j=i
  ·subst hji;exact hy.wpOp hi hS ⟨fun _=>hS,H⟩
  ·have:=ready_mono hj hji
   rw [H.1] at this
   cases this
 | succ fuel ih=>
  intro listed a w hcl hsz hfree hr hy hS H;refine⟨fun h=>(by rw [h] at hr;cases hr),fun j hj=>?_⟩
  by_cases hji:j=i
  ·subst hji;exact hy.wpOp hi hS ⟨fun _=>hS,H⟩
  ·have hjz:j≠z:=fun e=>last_z hch hcl hsz _ i rfl (mem_ready.1 hr).1 hiz (e ▸ hj)
   have h1:=H.2 j (ready_mono hj hji);obtain⟨hjun,oj,hoj,hall⟩:=mem_ready.1 hj
   have hnot:∀e ∈ oj.after,Region.binds md e=true→e.on≠i:=fun e he hb heq=>by
    have h1:=hall e he hb;have h0:=(mem_ready.1 hr).1;rw [heq] at h1
    rcases Nat.lt_or_ge i listed.size with h'|h'
    ·simp [h'] at h0 h1;rw [h0] at h1;cases h1
    ·simp [Array.getElem?_eq_none h'] at h1
   have h2:=wpOp_putIf hoj (hfree j oj hoj hji hjun hnot) (fun cs b=>hsel i oi cs b hi) (fun cs b=>hsel j oj cs b hoj) hQ hy h1
   have hfree':∀k ok,ops[k]?=some ok→k≠i→(listed.setIfInBounds j true).getD k true=false→(∀e ∈ ok.after,Region.binds md e=true→e.on≠i)→oi.apart ops ok=true:=fun k ok hk hki hun hno=>by
    refine hfree k ok hk hki ?_ hno
    by_cases hjk:j=k
    ·subst hjk;exact hjun
    ·rw [Go.getD_set_ne true hjk] at hun;exact hun
   refine wpOp_mono (fun a' w' h3=>⟨fun _=>h3.2.1 hjz,ih (listed.setIfInBounds j true) a' w' (clo_set hcl hj) (by simpa using hsz) hfree' (ready_mono hr (Ne.symm hji)) h3.1 (h3.2.1 hjz) ?_⟩) h2;rw [Array.setIfInBounds_comm _ _ hji];exact h3.2.2
theorem take_L {i:Nat} (d:Tmp) {oi:Oper} {v:Value} {fuel:Nat} {listed:Array Bool} {a:Act} {w:World} (hi:ops[i]?=some oi) (hd:oi.dst=some d) (hs:Region.noSelect ops=true) (hf:Region.free md ops listed i=true) (hr:(Region.ready md ops listed).contains i=true) (hch:(chainB md ops z && cloB md ops listed && decide (listed.size=ops.size) && decide (i≠z))=true) (hQ:∀c a w,Q (.panic c) (a.put (some d) v) w→Q (.panic c) a w) (hy:YieldsIf P ops S oi v a) (hS:S w) (h:AnyL P md ops Q S z fuel (listed.setIfInBounds i true) (a.put (some d) v) w):AnyL P md ops Q S z (fuel+1) listed a w:=by
 rw [←hd] at hQ h
 simp only [Bool.and_eq_true,decide_eq_true_eq] at hch
 exact first_L hch.1.1.1 hi (Region.noSelect_spec hs) hQ hch.2 fuel listed a w (clo_of hch.1.1.2) hch.1.2 (Region.free_spec hi hf) (by simpa using hr) hy hS h
theorem take_b (i:Nat) (d:Tmp) {oi:Oper} {v:Value} {fuel:Nat} {listed:Array Bool} {a a':Act} {w:World} (h:AnyL P md ops Q S z fuel (listed.setIfInBounds i true) a' w) (hi:ops[i]?=some oi:=by exact rfl) (hd:oi.dst=some d:=by exact rfl) (hs:Region.noSelect ops=true:=by kernel_rfl) (hf:Region.free md ops listed i=true:=by kernel_rfl) (hr:(Region.ready md ops listed).contains i=true:=by kernel_rfl) (hch:(chainB md ops z && cloB md ops listed && decide (listed.size=ops.size) && decide (i≠z))=true:=by kernel_rfl) (hQ:∀c a w,Q (.panic c) (a.put (some d) v) w→Q (.panic c) a w:=by exact fun _ _ _ h=>h) (hy:YieldsIf P ops S oi v a:=by refine Or.inl ⟨rfl,?_⟩;intro w hSw;(try dsimp only at hSw);go_simp;try with_reducible rfl) (hS:S w:=by assumption) (ha:a.put (some d) v=a':=by simp only [Act.put,List.setIfInBounds_toArray,List.set_cons_zero,List.set_cons_succ] <;> rfl):AnyL P md ops Q S z (fuel+1) listed a w:=by
 subst ha;exact take_L (i:=i) d hi hd hs hf hr hch hQ hy hS h
theorem call_L {fuel:Nat} {listed:Array Bool} {a:Act} {w:World} {i:Nat} (d:Tmp) {o:Oper} (ho:ops[i]?=some o) (hd:o.dst=some d) (hr:Region.ready md ops listed=[i]) (h:∀K':Act→World→Prop,Shut (∀a w,S w→(S w→AnyL P md ops Q S z fuel (listed.setIfInBounds i true) a w)→K' a w)→if Region.wanted o (yielded ops a.tmps)=true then Oper.wp P o a w K' Q else K' (a.put (some d) undef) w):AnyL P md ops Q S z (fuel+1) listed a w:=by
 rw [←hd] at h;refine⟨fun h0=>by (rw [hr] at h0;cases h0),fun j hj=>?_⟩;rw [hr] at hj;obtain rfl:=List.mem_singleton.1 hj;exact wpOp_step ho (fun K' hK=>h K' (fun a w hS hW=>hK a w ⟨fun _=>hS,hW hS⟩))
theorem last_L {fuel:Nat} {listed:Array Bool} {a:Act} {w:World} {o:Oper} (ho:ops[z]?=some o) (hr:Region.ready md ops listed=[z]) (hr2:Region.ready md ops (listed.setIfInBounds z true)=[]) (h:∀K':Act→World→Prop,Shut (∀a w,Q .normal a w→K' a w)→if Region.wanted o (yielded ops a.tmps)=true then Oper.wp P o a w K' Q else K' (a.put o.dst undef) w):AnyL P md ops Q S z (fuel+1) listed a w:=by
 refine⟨fun h0=>by (rw [hr] at h0;cases h0),fun j hj=>?_⟩;rw [hr] at hj;obtain rfl:=List.mem_singleton.1 hj;refine wpOp_step ho (fun K' hK=>h K' (fun a w hq=>hK a w ⟨fun hne=>absurd rfl hne,?_⟩))
 cases fuel with
 | zero=>exact⟨hr2,hq⟩
 | succ n=>exact⟨fun _=>hq,by rw [hr2];simp⟩
theorem region_L {id:Nat} {a:Act} {w:World} (z:Nat) (hm:P.follows .mixedOrders=true) (hS:S w.drew) (h:S w.drew→AnyL P .any ops Q S z ops.size (Array.replicate ops.size false) a w.drew):(Code.region id ops true).wp P Q a w:=
 wp_region_any hm (any_of_L _ _ _ _ (h hS))
end
end Go.Proofs.YtaaoleakkaloeaaGreatDoor
