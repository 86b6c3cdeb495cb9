/- Spans: powers, quotients. Printed by gen_sb.py. -/
import Derived.Test.YtpgdefgdboijlaaGreatDoorSa
import Derived.Test.YtpgdefgdboijlaaGreatDoorNh
set_option linter.unusedVariables false
set_option maxRecDepth 100000
set_option maxHeartbeats 16000000
namespace Go.Proofs.YtpgdefgdboijlaaGreatDoor
open Go.RowKit
def StS (w:World) (g0:Nat) (p:Rat × Rat) (wx:World):Prop:=∃b5 A5 k5 ca5 B5 l5 cb5 b6 A6 k6 ca6 B6 l6 cb6,wx.heap[g0]?=some (.cells #[.bool b5,.slice A5 k5 ca5,.slice B5 l5 cb5,.bool b6,.slice A6 k6 ca6,.slice B6 l6 cb6] 68 (0,0))∧wx.heap[g0+1]?=some (.cells #[.bool false,.slice none 0 0,.slice none 0 0,.bool false,.slice none 0 0,.slice none 0 0] 68 (0,0))∧Sp wx (.agg #[.bool b5,.slice A5 k5 ca5,.slice B5 l5 cb5,.bool b6,.slice A6 k6 ca6,.slice B6 l6 cb6]) p.1 p.2∧Ext w wx
theorem flip_yes {s:Rat × Rat} {n:Nat} (h:n % 2=0) (h2:s.2≤0):flipE s n=(-s.2,-s.1):=by unfold flipE;rw [if_pos ⟨h,h2⟩]
theorem flip_no {s:Rat × Rat} {n:Nat} (h:¬(n % 2=0∧s.2≤0)):flipE s n=s:=by unfold flipE;rw [if_neg h]
theorem sign_le {q:Rat} {c:Int} (h:q.num.sign=c):c≤0↔q≤0:=by
 rw [←h,←cmpQ_zero_right,cmpQ_le0]
theorem sign_lt {q:Rat} {c:Int} (h:q.num.sign=c):c<0↔q<0:=by
 rw [←h,←cmpQ_zero_right];have h1:=cmpQ_neg q 0;have h2:=cmpQ_one q 0
 constructor
 ·intro h3;exact h1.1 (by omega)
 ·intro h3;have:=h1.2 h3;omega
theorem pow_s (M:Nat) (hM:M≤1073741824) (v:Value) (lo hi:Rat) (z:Int) (n:Nat) (hz:min (max z 0) 64=(n:Int)) (w:World) (h:Sp w v lo hi) (hp1:Bq M lo) (hp2:Bq M hi):Calls Tryz.prog 75 #[v,.int .i64 z] w fun e w'=>∃v',e=.returned v'∧Sp w' v' (powS (ar lo hi) n).1 (powS (ar lo hi) n).2∧Ext w w':=by
 obtain⟨b5,A5,k5,ca5,B5,l5,cb5,b6,A6,k6,ca6,B6,l6,cb6,rfl,-,-⟩:=h.form;have hn64:n≤64:=by omega
 have H0:=ZZ h;have BL1:=ZZ hp1;have BL2:=ZZ hp2;have HM:=ZZ hM;have HN64:=ZZ hn64;have BS0:=bq_sort hp1 hp2;have HST:=sort_twice lo hi;obtain⟨s,hs⟩:∃s,ar lo hi=s:=⟨_,rfl⟩;rw [hs] at BS0 HST;rw [hs];have BS:=ZZ BS0;have HTW:=ZZ HST;have HQ:=ZZ hs;obtain⟨bb,hbb⟩:∃b,decide (n % 2=0∧s.2≤0)=b:=⟨_,rfl⟩;have HBB:=ZZ hbb;obtain⟨p,hp⟩:∃p,flipE s n=p:=⟨_,rfl⟩;have HP:=ZZ hp;obtain⟨b2,hb2⟩:∃b,decide (0<n∧n % 2=0∧p.1<0)=b:=⟨_,rfl⟩;have HB2:=ZZ hb2;have BP:=ZZ (show Bq M p.1∧Bq M p.2 by rw [←hp];unfold flipE;split;exact⟨BS0.2.neg,BS0.1.neg⟩;exact BS0);obtain⟨q,hq⟩:∃q,powE s n=q:=⟨_,rfl⟩;have HQE:=ZZ hq;have HQ2:=ZZ (show q=if 0<n∧n % 2=0∧p.1<0 then (0,aw (-p.1) p.2) else p by rw [←hq,←hp];rfl);have BM:=ZZ (show Bq M (aw (-p.1) p.2) by unfold aw;split;exact BP.out.2;exact BP.out.1.neg);have HPOW:=ZZ (show powS s n=(q.1 ^ n,q.2 ^ n) by unfold powS;rw [hq]);clear h hp1 hp2 hM BS0 HST hs hbb hp hb2 hq;obtain⟨hw0,hra,hrz⟩:=setupS2 w (.bool b5) (.slice A5 k5 ca5) (.slice B5 l5 cb5) (.bool b6) (.slice A6 k6 ca6) (.slice B6 l6 cb6);have RA:=ZZ hra;have RZ:=ZZ hrz;have hww:=ZZ hw0;clear hw0 hra hrz
 go_enter Tryz.func75,Tryz.ntmps75
 go_wp2_with fail;generalize World.alloc (World.alloc w (.cells #[.bool b5,.slice A5 k5 ca5,.slice B5 l5 cb5,.bool b6,.slice A6 k6 ca6,.slice B6 l6 cb6] _)) (.cells #[.bool false,.slice none 0 0,.slice none 0 0,.bool false,.slice none 0 0,.slice none 0 0] _)=W2 at *
 have LE0:=ZZ (show w.heap.size≤w.heap.size from Nat.le_refl _);have LE1:=ZZ (show w.heap.size≤w.heap.size+1 from Nat.le_succ _);generalize hg0:w.heap.size=g0 at *;have HG0:=ZZ hg0;clear hg0
 have HR:=ZZ (show ∀W:World,Ext W2 W→W.heap[g0]?=some (.cells #[.bool b5,.slice A5 k5 ca5,.slice B5 l5 cb5,.bool b6,.slice A6 k6 ca6,.slice B6 l6 cb6] 68 (0,0))∧W.heap[g0+1]?=some (.cells #[.bool false,.slice none 0 0,.slice none 0 0,.bool false,.slice none 0 0,.slice none 0 0] 68 (0,0)) from fun W h=>
  ⟨(h.block _ (lt_of_block RA.out)).trans RA.out,(h.block _ (lt_of_block RZ.out)).trans RZ.out⟩)
 refine(sorted_c M (Nat.le_trans HM.out (by decide)) _ lo hi _ (H0.out.mono hww.out) BL1.out BL2.out).mono ?_;rintro e w3 ⟨v3,rfl,h9,kk⟩;rw [HQ.out] at h9;obtain⟨b7,A7,k7,ca7,B7,l7,cb7,b8,A8,k8,ca8,B8,l8,cb8,rfl,-,-⟩:=h9.form;obtain⟨r1,r2⟩:=HR.out _ kk;have HST:=ZZ (show StS w g0 s (put6 w3 g0 (.bool b7) (.slice A7 k7 ca7) (.slice B7 l7 cb7) (.bool b8) (.slice A8 k8 ca8) (.slice B8 l8 cb8)) from ⟨b7,A7,k7,ca7,B7,l7,cb7,b8,A8,k8,ca8,B8,l8,cb8,af r1 (.bool b7) (.slice A7 k7 ca7) (.slice B7 l7 cb7) (.bool b8) (.slice A8 k8 ca8) (.slice B8 l8 cb8),ag r2 (show g0+1≠g0 by omega) (.bool b7) (.slice A7 k7 ca7) (.slice B7 l7 cb7) (.bool b8) (.slice A8 k8 ca8) (.slice B8 l8 cb8),h9.put6 r1 (.bool b7) (.slice A7 k7 ca7) (.slice B7 l7 cb7) (.bool b8) (.slice A8 k8 ca8) (.slice B8 l8 cb8),ae (al hww.out kk) (show w.heap.size≤g0 by rw [HG0.out];exact LE0.out) (.bool b7) (.slice A7 k7 ca7) (.slice B7 l7 cb7) (.bool b8) (.slice A8 k8 ca8) (.slice B8 l8 cb8)⟩);obtain⟨x0,x1,x2,x3,x4,x5,f0,f1,f2,f3,f4,f5⟩:=ah r1;clear h9 kk r1 r2
 go_upto_region 3 with (fail)
 clear x0 x1 x2 x3 x4 x5 f0 f1 f2 f3 f4 f5 HR RA RZ hww;have hput:((((((w3.setCell ⟨g0,0,none⟩ (.bool b7)).setCell ⟨g0,1,none⟩ (.slice A7 k7 ca7)).setCell ⟨g0,2,none⟩ (.slice B7 l7 cb7)).setCell ⟨g0,3,none⟩ (.bool b8)).setCell ⟨g0,4,none⟩ (.slice A8 k8 ca8)).setCell ⟨g0,5,none⟩ (.slice B8 l8 cb8))=put6 w3 g0 (.bool b7) (.slice A7 k7 ca7) (.slice B7 l7 cb7) (.bool b8) (.slice A8 k8 ca8) (.slice B8 l8 cb8):=rfl;rw [hput];clear hput;generalize put6 w3 g0 (.bool b7) (.slice A7 k7 ca7) (.slice B7 l7 cb7) (.bool b8) (.slice A8 k8 ca8) (.slice B8 l8 cb8)=W4 at *;clear hz
 go_cut [22] (fun v wx=>v=.bool bb∧Hid (StS w g0 s wx))
 case first=>
  rcases Nat.mod_two_eq_zero_or_one n with hpar|hpar
  ·have t5:((n:Int) % 2 == 0)=true:=by rw [beq_iff_eq];omega
   have t6:((n:Int).tmod 2 == 0)=true:=by rw [Int.tmod_eq_emod_of_nonneg (by omega),beq_iff_eq];omega
   have HPAR:=ZZ hpar;clear hpar;obtain⟨b5,A5,k5,ca5,B5,l5,cb5,b6,A6,k6,ca6,B6,l6,cb6,r5,r6,s5,x5⟩:=HST.out;have RA:=ZZ r5;have RZ:=ZZ r6;have SP:=ZZ s5;have KX:=ZZ x5;obtain⟨x0,x1,x2,x3,x4,x5',f0,f1,f2,f3,f4,f5⟩:=ah r5;clear r5 r6 s5 x5;obtain⟨sg2,hsg2⟩:∃c,s.2.num.sign=c:=⟨_,rfl⟩;have HSG:=ZZ hsg2;obtain⟨HLO,HHI⟩:=sp_ends SP.out;clear hsg2;go_wp2_with fail;refine(sign_q' _ s.2 _ sg2 HSG.out HHI.out).mono ?_;rintro e w5 ⟨rfl,kq9⟩
   have t7:decide (sg2≤0)=bb:=by
    rw [←HBB.out,decide_eq_decide,sign_le HSG.out];exact⟨fun h=>⟨HPAR.out,h⟩,fun h=>h.2⟩
   have HFIN:=ZZ (show StS w g0 s w5 from ⟨b5,A5,k5,ca5,B5,l5,cb5,b6,A6,k6,ca6,B6,l6,cb6,(kq9.block _ (lt_of_block RA.out)).trans RA.out,(kq9.block _ (lt_of_block RZ.out)).trans RZ.out,SP.out.mono kq9,al KX.out kq9⟩);clear kq9;go_wp2_with fail;go_meet;exact⟨by first|rfl|simp [t7]|rw [t7],HFIN⟩
  ·have t5:((n:Int) % 2 == 0)=false:=by rw [beq_eq_false_iff_ne];omega
   have t6:((n:Int).tmod 2 == 0)=false:=by rw [Int.tmod_eq_emod_of_nonneg (by omega),beq_eq_false_iff_ne];omega
   obtain rfl:false=bb:=by rw [←HBB.out];exact(decide_eq_false (fun h=>by omega)).symm
   clear hpar;go_wp2_with fail;go_meet;exact⟨rfl,HST⟩
 case rest=>
  obtain⟨rfl,HS2⟩:=hcut;rename World=>W5;clear HST
  go_upto_if 22 with (fail)
  go_cut [] (fun wx=>Hid (StS w g0 p wx))
  case first=>
   obtain⟨b5,A5,k5,ca5,B5,l5,cb5,b6,A6,k6,ca6,B6,l6,cb6,r5,r6,s5,x5⟩:=HS2.out;have RA:=ZZ r5;have RZ:=ZZ r6;have SP:=ZZ s5;have KX:=ZZ x5;obtain⟨x0,x1,x2,x3,x4,x5',f0,f1,f2,f3,f4,f5⟩:=ah r5;clear r5 r6 s5 x5
   rcases bb with _|_
   ·have HE:=ZZ (show p=s by rw [←HP.out];exact flip_no (of_decide_eq_false HBB.out))
    go_wp2_with fail;go_meet
    rw [HE.out];exact HS2
   ·have HE:=ZZ (show p=(-s.2,-s.1) by rw [←HP.out];exact flip_yes (of_decide_eq_true HBB.out).1 (of_decide_eq_true HBB.out).2)
    go_wp2_with fail;refine(negS_c M (Nat.le_trans HM.out (by decide)) _ s.1 s.2 _ SP.out BS.out.1 BS.out.2).mono ?_
    rintro e w6 ⟨v6,rfl,h9,kq9⟩;rw [negS_sort,HTW.out] at h9;obtain⟨b7,A7,k7,ca7,B7,l7,cb7,b8,A8,k8,ca8,B8,l8,cb8,rfl,-,-⟩:=h9.form;have r1:=(kq9.block _ (lt_of_block RA.out)).trans RA.out;have r2:=(kq9.block _ (lt_of_block RZ.out)).trans RZ.out;have HFIN:=ZZ (show StS w g0 p (put6 w6 g0 (.bool b7) (.slice A7 k7 ca7) (.slice B7 l7 cb7) (.bool b8) (.slice A8 k8 ca8) (.slice B8 l8 cb8)) from ⟨b7,A7,k7,ca7,B7,l7,cb7,b8,A8,k8,ca8,B8,l8,cb8,af r1 (.bool b7) (.slice A7 k7 ca7) (.slice B7 l7 cb7) (.bool b8) (.slice A8 k8 ca8) (.slice B8 l8 cb8),ag r2 (show g0+1≠g0 by omega) (.bool b7) (.slice A7 k7 ca7) (.slice B7 l7 cb7) (.bool b8) (.slice A8 k8 ca8) (.slice B8 l8 cb8),by rw [HE.out];exact h9.put6 r1 (.bool b7) (.slice A7 k7 ca7) (.slice B7 l7 cb7) (.bool b8) (.slice A8 k8 ca8) (.slice B8 l8 cb8),ae (al KX.out kq9) (show w.heap.size≤g0 by rw [HG0.out];exact LE0.out) (.bool b7) (.slice A7 k7 ca7) (.slice B7 l7 cb7) (.bool b8) (.slice A8 k8 ca8) (.slice B8 l8 cb8)⟩);clear x0 x1 x2 x3 x4 x5' f0 f1 f2 f3 f4 f5;obtain⟨x0,x1,x2,x3,x4,x5',f0,f1,f2,f3,f4,f5⟩:=ah r1;clear h9 kq9 r1 r2;go_wp2_with fail;go_meet;exact HFIN
  case rest=>
   have HS3:=ZZ hcut.out;clear hcut HS2;rename World=>W6
   go_upto_region 5 with (fail)
   go_cut [37] (fun v wx=>v=.bool b2∧Hid (StS w g0 p wx))
   case first=>
    rcases Nat.eq_zero_or_pos n with hn0|hn0
    ·have t4:decide ((0:Int)<(n:Int))=false:=by rw [decide_eq_false_iff_not];omega
     have t4':decide (0<n)=false:=by rw [decide_eq_false_iff_not];omega
     obtain rfl:false=b2:=by rw [←HB2.out];exact(decide_eq_false (fun h=>by omega)).symm
     clear hn0;go_wp2_with fail;go_meet;exact⟨rfl,HS3⟩
    ·have t4:decide ((0:Int)<(n:Int))=true:=by rw [decide_eq_true_eq];omega
     have t4':decide (0<n)=true:=by rw [decide_eq_true_eq];omega
     have HN0:=ZZ hn0
     rcases Nat.mod_two_eq_zero_or_one n with hpar|hpar
     ·have t5:((n:Int) % 2 == 0)=true:=by rw [beq_iff_eq];omega
      have t6:((n:Int).tmod 2 == 0)=true:=by rw [Int.tmod_eq_emod_of_nonneg (by omega),beq_iff_eq];omega
      have HPAR:=ZZ hpar;clear hpar hn0;obtain⟨b5,A5,k5,ca5,B5,l5,cb5,b6,A6,k6,ca6,B6,l6,cb6,r5,r6,s5,x5⟩:=HS3.out;have RA:=ZZ r5;have RZ:=ZZ r6;have SP:=ZZ s5;have KX:=ZZ x5;obtain⟨x0,x1,x2,x3,x4,x5',f0,f1,f2,f3,f4,f5⟩:=ah r5;clear r5 r6 s5 x5;obtain⟨sg2,hsg2⟩:∃c,p.1.num.sign=c:=⟨_,rfl⟩;have HSG:=ZZ hsg2;obtain⟨HLO,HHI⟩:=sp_ends SP.out;clear hsg2;go_wp2_with fail;refine(sign_q' _ p.1 _ sg2 HSG.out HLO.out).mono ?_;rintro e w7 ⟨rfl,kq9⟩
      have t7:decide (sg2<0)=b2:=by
       rw [←HB2.out,decide_eq_decide,sign_lt HSG.out];exact⟨fun h=>⟨HN0.out,HPAR.out,h⟩,fun h=>h.2.2⟩
      have HFIN:=ZZ (show StS w g0 p w7 from ⟨b5,A5,k5,ca5,B5,l5,cb5,b6,A6,k6,ca6,B6,l6,cb6,(kq9.block _ (lt_of_block RA.out)).trans RA.out,(kq9.block _ (lt_of_block RZ.out)).trans RZ.out,SP.out.mono kq9,al KX.out kq9⟩);clear kq9;go_wp2_with fail;go_meet;exact⟨by first|rfl|simp [t7]|rw [t7],HFIN⟩
     ·have t5:((n:Int) % 2 == 0)=false:=by rw [beq_eq_false_iff_ne];omega
      have t6:((n:Int).tmod 2 == 0)=false:=by rw [Int.tmod_eq_emod_of_nonneg (by omega),beq_eq_false_iff_ne];omega
      obtain rfl:false=b2:=by rw [←HB2.out];exact(decide_eq_false (fun h=>by omega)).symm
      clear hpar hn0;go_wp2_with fail;go_meet;exact⟨rfl,HS3⟩
   case rest=>
    obtain⟨rfl,HS4⟩:=hcut;rename World=>W7;clear HS3
    go_upto_if 37 with (fail)
    go_cut [] (fun wx=>Hid (StS w g0 q wx))
    case first=>
     obtain⟨b5,A5,k5,ca5,B5,l5,cb5,b6,A6,k6,ca6,B6,l6,cb6,r5,r6,s5,x5⟩:=HS4.out;have RA:=ZZ r5;have RZ:=ZZ r6;have SP:=ZZ s5;have KX:=ZZ x5;obtain⟨x0,x1,x2,x3,x4,x5',f0,f1,f2,f3,f4,f5⟩:=ah r5;clear r5 r6 s5 x5
     rcases b2 with _|_
     ·have HE:=ZZ (show q=p by rw [HQ2.out];exact if_neg (of_decide_eq_false HB2.out))
      go_wp2_with fail;go_meet
      rw [HE.out];exact HS4
     ·have HE:=ZZ (show q=(0,aw (-p.1) p.2) by rw [HQ2.out];exact if_pos (of_decide_eq_true HB2.out))
      obtain⟨HLO,HHI⟩:=sp_ends SP.out
      have HR:=ZZ (show ∀W:World,Ext W7 W→W.heap[g0]?=some (.cells #[.bool b5,.slice A5 k5 ca5,.slice B5 l5 cb5,.bool b6,.slice A6 k6 ca6,.slice B6 l6 cb6] 68 (0,0))∧W.heap[g0+1]?=some (.cells #[.bool false,.slice none 0 0,.slice none 0 0,.bool false,.slice none 0 0,.slice none 0 0] 68 (0,0)) from fun W h=>
       ⟨(h.block _ (lt_of_block RA.out)).trans RA.out,(h.block _ (lt_of_block RZ.out)).trans RZ.out⟩)
      clear HS4
      go_upto_region 6 with (fail)
      go_region_with (first
       |(have _q:=hx2
         go_at_call 61
         refine(max_q M (Nat.le_trans HM.out (by decide)) _ _ (-p.1) p.2 _ J1.out (HHI.out.mono hx2.out) BP.out.1.neg BP.out.2).mono ?_;clear _q;rintro e w9 ⟨v9,rfl,h9,kq9⟩;obtain⟨b9,A9,k9,ca9,B9,l9,cb9,rfl⟩:=h9.form2;have J2:=ZZ h9;have hx3:=ZZ (al hx2.out kq9);obtain⟨r1,r2⟩:=HR.out _ hx3.out;have R1:=ZZ r1;have R2:=ZZ r2;obtain⟨z0,z1,z2,z3,z4,z5,zf0,zf1,zf2,zf3,zf4,zf5⟩:=ah r1;clear h9 kq9 r1 r2)
       |(go_at_call 47
         refine(neg_q _ p.1 _ (HLO.out.mono (ac W7))).mono ?_;rintro e w8 ⟨v8,rfl,h9,kq9⟩;obtain⟨b8,A8,k8,ca8,B8,l8,cb8,rfl⟩:=h9.form2;have J1:=ZZ h9;have hx2:=ZZ (show Ext W7 w8 from al (ac W7) kq9);obtain⟨r1,-⟩:=HR.out _ hx2.out;obtain⟨y0,y1,y2,y3,y4,y5,-⟩:=ah r1;clear h9 kq9 r1))
      all_goals
       go_wp2_with fail;go_meet
       refine ZZ ⟨false,none,0,0,none,0,0,b9,A9,k9,ca9,B9,l9,cb9,af R1.out _ _ _ _ _ _,ag R2.out (show g0+1≠g0 by omega) _ _ _ _ _ _,?_,ae (al KX.out hx3.out) (show w.heap.size≤g0 by rw [HG0.out];exact LE0.out) _ _ _ _ _ _⟩;rw [HE.out];exact⟨_,_,_,_,_,_,rfl,Nm.zero _,J2.out.put6 R1.out _ _ _ _ _ _⟩
    case rest=>
     have HS5:=ZZ hcut.out;clear hcut HS4;rename World=>W8
     have BQ:=ZZ (show Bq M q.1∧Bq M q.2 by
      rw [HQ2.out];split
      ·exact⟨⟨by show 0<2 ^ M;exact Nat.pow_pos (by omega),Nat.lt_of_le_of_lt (show (0:Rat).den≤p.1.den from p.1.den_pos) BP.out.1.2⟩,BM.out⟩
      ·exact BP.out)
     obtain⟨b5,A5,k5,ca5,B5,l5,cb5,b6,A6,k6,ca6,B6,l6,cb6,r5,r6,s5,x5⟩:=HS5.out;have RA:=ZZ r5;have RZ:=ZZ r6;have SP:=ZZ s5;have KX:=ZZ x5;obtain⟨x0,x1,x2,x3,x4,x5',f0,f1,f2,f3,f4,f5⟩:=ah r5;clear r5 r6 s5 x5;obtain⟨HLO,HHI⟩:=sp_ends SP.out;clear HS5;go_wp2_with fail;refine(pow_q M (Nat.le_trans HM.out (by decide)) n HN64.out _ q.1 _ HLO.out BQ.out.1).mono ?_;rintro e w8 ⟨v8,rfl,h8,kq8⟩;obtain⟨b8,A8,k8,ca8,B8,l8,cb8,rfl⟩:=h8.form2;have hx8:=ZZ (al kq8 (ab w8 (.cells #[.bool b8,.slice A8 k8 ca8,.slice B8 l8 cb8] 25)));have hra:=(hx8.out.block _ (lt_of_block RA.out)).trans RA.out;have hl0:=lt_of_block ((kq8.block _ (lt_of_block RA.out)).trans RA.out);clear x0 x1 x2 x3 x4 x5' f0 f1 f2 f3 f4 f5;obtain⟨x0,x1,x2,x3,x4,x5',f0,f1,f2,f3,f4,f5⟩:=ah hra;have H8:=ZZ h8;clear h8 kq8 hra;go_wp2_with fail;refine(pow_q M (Nat.le_trans HM.out (by decide)) n HN64.out _ q.2 _ (HHI.out.mono hx8.out) BQ.out.2).mono ?_;rintro e w9 ⟨v9,rfl,h9,kq9⟩;obtain⟨b9,A9,k9,ca9,B9,l9,cb9,rfl⟩:=h9.form2;have hr8:=row3 (al kq9 (ab w9 (.cells #[.bool b9,.slice A9 k9 ca9,.slice B9 l9 cb9] 25)));have K9:=ZZ (al hx8.out (al kq9 (ab w9 (.cells #[.bool b9,.slice A9 k9 ca9,.slice B9 l9 cb9] 25))));have J8:=ZZ (H8.out.mono (al (ab w8 (.cells #[.bool b8,.slice A8 k8 ca8,.slice B8 l8 cb8] 25)) (al kq9 (ab w9 (.cells #[.bool b9,.slice A9 k9 ca9,.slice B9 l9 cb9] 25)))));have J9:=ZZ (h9.mono (ab w9 (.cells #[.bool b9,.slice A9 k9 ca9,.slice B9 l9 cb9] 25)));obtain⟨Y0,Y1,Y2,-⟩:=ai hr8
     obtain⟨U0,U1,U2,-⟩:=ai (row3 (ad (w9.alloc (.cells #[.bool b9,.slice A9 k9 ca9,.slice B9 l9 cb9] 25))));have hrz:=(K9.out.block _ (lt_of_block RZ.out)).trans RZ.out;have HRZ9:=ZZ hrz;obtain⟨Z0,Z1,Z2,Z3,Z4,Z5,F0,F1,F2,F3,F4,F5⟩:=ah hrz;clear x0 x1 x2 x3 x4 x5' f0 f1 f2 f3 f4 f5 hr8 hrz h9 kq9 hl0
     go_upto_region 9 with (fail)
     generalize w9.alloc (.cells #[.bool b9,.slice A9 k9 ca9,.slice B9 l9 cb9] _)=W9 at *;generalize w8.heap.size=a8 at *;generalize w9.heap.size=a9 at *;go_wp2_with fail;refine bodyPost_ret (v:=.agg #[.bool b8,.slice A8 k8 ca8,.slice B8 l8 cb8,.bool b9,.slice A9 k9 ca9,.slice B9 l9 cb9]) (by simp [results,Tryz.f75];go_simp) rfl ?_;refine⟨_,rfl,?_,ae (al KX.out K9.out) (show w.heap.size≤g0+1 by rw [HG0.out];exact LE1.out) _ _ _ _ _ _⟩;rw [HPOW.out];exact⟨_,_,_,_,_,_,rfl,J8.out.put6 HRZ9.out _ _ _ _ _ _,J9.out.put6 HRZ9.out _ _ _ _ _ _⟩
end Go.Proofs.YtpgdefgdboijlaaGreatDoor
