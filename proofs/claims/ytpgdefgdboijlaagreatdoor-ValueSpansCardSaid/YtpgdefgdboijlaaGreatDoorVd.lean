/- The laws' helper Awake returns true. Printed by gen_vd.py. The law of a field: the walk. Printed by gen_lw.py. -/
import Derived.Test.YtpgdefgdboijlaaGreatDoorNj
import Derived.Test.YtpgdefgdboijlaaGreatDoorVc
import Derived.Deep.RegionHeld3
import Derived.Deep.DeepCutAuto
import Derived.Test.YtpgdefgdboijlaaGreatDoorUa
import Derived.Test.YtpgdefgdboijlaaGreatDoorNa
import Derived.Test.YtpgdefgdboijlaaGreatDoorNe
import Derived.Test.YtpgdefgdboijlaaGreatDoorNf
import Derived.Test.YtpgdefgdboijlaaGreatDoorNg
set_option linter.unusedVariables false
set_option maxRecDepth 100000
set_option maxHeartbeats 16000000
namespace Go.Proofs.YtpgdefgdboijlaaGreatDoor
open Go.RowKit
theorem aw1:readA [52,46,55,107]=(0,4700):=by kernel_rfl
theorem txt_int (n:Nat) (l:List UInt8) (h:Lib.decDigits n=l):txt (n:Rat)=l:=by
 unfold txt;rw [if_neg (by show ¬((n:Int)<0);omega),if_pos (Rat.den_natCast n)]
 show [] ++ Lib.decDigits n ++ []=_
 rw [h];simp
theorem aw2:txt 4700=[52,55,48,48]:=txt_int 4700 _ (dec_natOf [52,55,48,48] (by decide) (by decide) (.inl (by decide)))
theorem aw3:pickP (absQ 4700) ([102],-15) pfxs.tail=([107],3):=by kernel_rfl
theorem aw4:pointL 12 (tensQ (absQ 4700) (-3)) 0=(47,1):=by kernel_rfl
theorem aw5:((6:Int):Rat) / ((-8:Int):Rat) = -3/4:=by kernel_rfl
theorem aw6:ax (-3/4) 1 (decide ((-3/4:Rat).num<0)) = -1:=by kernel_rfl
theorem aw7:showS 4700=[52,46,55,107]:=by
 have h1:Lib.decDigits 47=[52,55]:=dec_natOf [52,55] (by decide) (by decide) (.inl (by decide));unfold showS;rw [if_neg (by decide),aw3]
 dsimp only
 rw [aw4]
 dsimp only
 rw [show (47:Rat).num.natAbs=47 from rfl,h1]
 rfl
theorem aw8:txt (-3/4)=[45,51,47,52]:=by
 have h1:Lib.decDigits 3=[51]:=dec_natOf [51] (by decide) (by decide) (.inl (by decide));have h2:Lib.decDigits 4=[52]:=dec_natOf [52] (by decide) (by decide) (.inl (by decide));unfold txt;rw [show (-3/4:Rat).num = -3 by kernel_rfl,show (-3/4:Rat).den=4 by kernel_rfl,if_pos (by decide),if_neg (by decide),show (-3:Int).natAbs=3 from rfl,h1,h2]
 rfl
theorem aw9:txt (-1)=[45,49]:=by
 have h1:Lib.decDigits 1=[49]:=dec_natOf [49] (by decide) (by decide) (.inl (by decide));unfold txt;rw [show (-1:Rat).num = -1 by kernel_rfl,show (-1:Rat).den=1 by kernel_rfl,if_pos (by decide),if_pos rfl,show (-1:Int).natAbs=1 from rfl,h1]
 rfl
theorem aw10:aw (-(-3:Rat)) 2*aw (-(-3:Rat)) 2=9:=by kernel_rfl
theorem aw11:txt 9=[57]:=txt_int 9 _ (dec_natOf [57] (by decide) (by decide) (.inl (by decide)))
theorem bq_nine:Bq 64 (9:Rat):=bq_int 9 (by decide) (by decide)
theorem bq_y:Bq 64 (-3/4:Rat):=⟨by rw [show (-3/4:Rat).num.natAbs=3 by kernel_rfl];decide,by rw [show (-3/4:Rat).den=4 by kernel_rfl];decide⟩
theorem text_lit (M:Nat) (hM:M≤1099511627776) (vx:Value) (x:Rat) (l:List UInt8) (hl:txt x=l) (w:World) (hx:Nm w vx x) (bx:Bq M x) (htab:Tens w):Calls Tryz.prog 42 #[vx] w fun e w'=>e=.returned (.string ⟨l.toArray⟩)∧Ext w w':=by
 subst hl;exact text_c M hM vx x w hx bx htab
theorem show_lit (M:Nat) (hM:M≤1073741824) (vx:Value) (x:Rat) (l:List UInt8) (hl:showS x=l) (w:World) (hx:Nm w vx x) (bx:Bq M x) (ht:Tab w):Calls Tryz.prog 27 #[vx] w fun e w'=>e=.returned (.string ⟨l.toArray⟩)∧Ext w w':=by
 subst hl;exact show_c M hM vx x w hx bx ht.1 ht.2
theorem read_lit (w:World) (ht:Tab w):Calls Tryz.prog 16 #[.string ⟨#[52,46,55,107]⟩] w fun e w'=>∃v,e=.returned (.tuple #[v,.int .i64 0])∧Nm w' v 4700∧Ext w w':=by
 have h:=read_c [52,46,55,107] (by decide) w ht.1;unfold ReadA at h;rw [aw1] at h;exact h
theorem ratio_lit (w:World):Calls Tryz.prog 20 #[.int .i64 6,.int .i64 (-8)] w fun e w'=>∃v,e=.returned (.tuple #[v,.int .i64 0])∧Nm w' v (-3/4)∧Ext w w':=by
 have h:=ratio_q 6 (-8) (by decide) (by decide) (by decide) (by decide) (by decide) w;rw [aw5] at h;exact h
theorem down_lit (vx:Value) (w:World) (hx:Nm w vx (-3/4)):Calls Tryz.prog 31 #[vx,.int .i64 1] w fun e w'=>∃v,e=.returned v∧Nm w' v (-1)∧Ext w w':=by
 have h:=down_q 64 (by decide) 1 vx (-3/4) w hx bq_y;rw [aw6] at h;exact h
theorem int2_lit (w:World):Calls Tryz.prog 24 #[.int .i64 2] w fun e w'=>∃v,e=.returned v∧Nm w' v (2:Rat)∧Ext w w':=int_q 2 (by decide) (by decide) w
theorem intm3_lit (w:World):Calls Tryz.prog 24 #[.int .i64 (-3)] w fun e w'=>∃v,e=.returned v∧Nm w' v (-3:Rat)∧Ext w w':=by
 have h:=int_q (-3) (by decide) (by decide) w;rw [show ((-3:Int):Rat) = -3 by kernel_rfl] at h;exact h
theorem bq_two:Bq 64 (2:Rat):=bq_int 2 (by decide) (by decide)
theorem bq_m3:Bq 64 (-3:Rat):=by
 have h:=bq_int (-3) (by decide) (by decide);rw [show ((-3:Int):Rat) = -3 by kernel_rfl] at h;exact h
theorem bq_m1:Bq 64 (-1:Rat):=by
 have h:=bq_int (-1) (by decide) (by decide);rw [show ((-1:Int):Rat) = -1 by kernel_rfl] at h;exact h
theorem square_lit (v:Value) (w:World) (h:Sp w v 2 (-3)):Calls Tryz.prog 75 #[v,.int .i64 2] w fun e w'=>∃v',e=.returned v'∧Sp w' v' 0 9∧Ext w w':=by
 have h:=square_mid 64 (by decide) v 2 (-3) (-3) 2 w h bq_two bq_m3 (by kernel_rfl) (by kernel_rfl) (by kernel_rfl) bq_m3 bq_two;rw [aw10,show (0:Rat)*0=0 by kernel_rfl] at h;exact h
theorem sign_lit (vx:Value) (w:World) (hx:Nm w vx 0):Calls Tryz.prog 52 #[vx] w fun e w'=>e=.returned (.int .i64 0)∧Ext w w':=sign_q' vx 0 w 0 rfl hx
theorem awake_c (w:World) (ht:Tab w):Calls Tryz.prog 19 #[] w fun e w'=>e=.returned (.bool true)∧Ext w w':=by
 have HT:=ZZ ht;clear ht
 go_enter Tryz.func19,Tryz.ntmps19
 go_wp2_with fail;refine(read_lit _ HT.out).mono ?_
 rintro e w1 ⟨v1,rfl,h1,k1⟩;obtain⟨b1,A,k,ca,B,l,cb,rfl⟩:=h1.form2;have G1:=ZZ h1;have K1:=ZZ k1;clear h1 k1;go_wp2_with fail;refine(ratio_lit _).mono ?_;rintro e w2 ⟨v2,rfl,h2,k2⟩;obtain⟨b2,C,m,cc,D,n,cd,rfl⟩:=h2.form2;have hr1:=row3 k2;have G2:=ZZ h2;have K2:=ZZ (al K1.out (al (ab _ _) k2));have G1':=ZZ (G1.out.mono (al (ab _ _) k2));have HR1:=ZZ hr1
 have HKX:=ZZ (show ∀W,Ext (w2.alloc (.cells #[.bool b2,.slice C m cc,.slice D n cd] 25)) W→(W.cell? ⟨w1.heap.size,0,none⟩=some (.bool b1)∧W.cell? ⟨w1.heap.size,1,none⟩=some (.slice A k ca)∧W.cell? ⟨w1.heap.size,2,none⟩=some (.slice B l cb))∧(W.cell? ⟨w2.heap.size,0,none⟩=some (.bool b2)∧W.cell? ⟨w2.heap.size,1,none⟩=some (.slice C m cc)∧W.cell? ⟨w2.heap.size,2,none⟩=some (.slice D n cd)) from fun W h=>by
  obtain⟨a,b,c,-⟩:=ai (((al (ab _ _) h).block _ (lt_of_block HR1.out)).trans HR1.out);obtain⟨a',b',c',-⟩:=ai (row3 h);exact⟨⟨a,b,c⟩,a',b',c'⟩)
 clear h2 k2 hr1
 go_upto_region 3 with (fail)
 have KX:=ZZ (al K2.out (ab w2 (.cells #[.bool b2,.slice C m cc,.slice D n cd] 25)));have GX1:=ZZ (G1'.out.mono (ab w2 (.cells #[.bool b2,.slice C m cc,.slice D n cd] 25)));have GX2:=ZZ (G2.out.mono (ab w2 (.cells #[.bool b2,.slice C m cc,.slice D n cd] 25)));generalize w2.alloc (.cells #[.bool b2,.slice C m cc,.slice D n cd] _)=WX at *;generalize w1.heap.size=g1 at *;generalize w2.heap.size=g2 at *
 go_cut [6] (fun e6 wx=>e6=.int .i64 8∧Hid (Ext WX wx))
 case first=>
  have hx0:=ZZ (ad WX);have hS0:=(HKX.out WX hx0.out).1;have hzA:=ZZ (Nat.le_refl WX.heap.size);have hxA:=ZZ (ac WX);have hxB:=ZZ (al (ab WX (.cells #[.bool false,.slice none 0 0,.slice none 0 0] 25)) (ac _))
  go_region_held3 (fun W=>W.cell? ⟨g1,0,none⟩=some (.bool b1)∧W.cell? ⟨g1,1,none⟩=some (.slice A k ca)∧W.cell? ⟨g1,2,none⟩=some (.slice B l cb)) ((refine(HKX.out _ ?_).1;(repeat (with_reducible first|exact hx2.out|exact hx1.out|exact hx0.out|refine al ?_ (ab _ _)|refine al ?_ (ac _)|refine ao ?_ hzA.out _ _ _|refine ao ?_ hzB.out _ _ _|refine ao ?_ hzC.out _ _ _));done))
   (first
    |(go_at_call 24
      with_reducible refine(int_q 0 (by decide) (by decide) WX.drew).mono ?_
      rintro e w3 ⟨v3,rfl,h3,k3⟩;obtain⟨b3,P3,p3,c3,Q3,q3,d3,rfl⟩:=h3.form2;have H3:=ZZ h3;have hx1:=ZZ (al hxA.out k3);have hzB:=ZZ (show WX.heap.size≤w3.heap.size from (al hxA.out k3).size);clear h3 k3)
    |(go_at_call 24
      with_reducible refine(int_q 0 (by decide) (by decide) (WX.alloc (.cells #[.bool false,.slice none 0 0,.slice none 0 0] 25)).drew).mono ?_
      rintro e w3 ⟨v3,rfl,h3,k3⟩;obtain⟨b3,P3,p3,c3,Q3,q3,d3,rfl⟩:=h3.form2;have H3:=ZZ h3;have hx1:=ZZ (al hxB.out k3);have hzB:=ZZ (show WX.heap.size≤w3.heap.size from (al hxB.out k3).size);have HZ3:=ZZ (row3 (al (ac _) k3));clear h3 k3)
    |(go_at_call 53
      have _q:=HZ3
      with_reducible refine(div_q_zero _ _ 4700 w3 (GX1.out.mono hx1.out) (H3.out.mono (ad _))).mono ?_
      rintro e w4 ⟨v4,rfl,h4,k4⟩;obtain⟨b4,P4,p4,c4,Q4,q4,d4,rfl⟩:=h4.form2;have hx2:=ZZ (al hx1.out k4);have hzC:=ZZ (show WX.heap.size≤w4.heap.size from (al hx1.out k4).size);have hz4:=(k4.block _ (lt_of_block HZ3.out)).trans HZ3.out;obtain⟨z0,z1,z2,f0,f1,f2⟩:=ai hz4;clear hz4;clear h4 k4)
    |(go_at_call 53
      with_reducible refine(div_q_zero _ _ 4700 w3 (GX1.out.mono hx1.out) (H3.out.mono (ad _))).mono ?_
      rintro e w4 ⟨v4,rfl,h4,k4⟩;obtain⟨b4,P4,p4,c4,Q4,q4,d4,rfl⟩:=h4.form2;have hx2:=ZZ (al hx1.out k4);have hzC:=ZZ (show WX.heap.size≤w4.heap.size from (al hx1.out k4).size);clear h4 k4)
    |(go_at_call 53
      with_reducible refine(div_q_zero _ _ 4700 (w3.alloc (.cells #[.bool false,.slice none 0 0,.slice none 0 0] 25)) (GX1.out.mono (al hx1.out (ab _ _))) (H3.out.mono (ab _ _))).mono ?_
      rintro e w4 ⟨v4,rfl,h4,k4⟩;obtain⟨b4,P4,p4,c4,Q4,q4,d4,rfl⟩:=h4.form2;have hx2:=ZZ (al (al hx1.out (ab _ _)) k4);have hzC:=ZZ (show WX.heap.size≤w4.heap.size from (al (al hx1.out (ab _ _)) k4).size);have hz4:=row3 k4;obtain⟨z0,z1,z2,f0,f1,f2⟩:=ai hz4;clear hz4;clear h4 k4))
  all_goals
   go_wp2_with fail;go_meet
   refine⟨rfl,?_⟩
   show Ext WX _
   repeat (with_reducible first|exact hx2.out|refine al ?_ (ab _ _)|refine al ?_ (ac _)|refine ao ?_ hzA.out _ _ _|refine ao ?_ hzB.out _ _ _|refine ao ?_ hzC.out _ _ _)
 case rest=>
  obtain⟨rfl,HXC⟩:=hcut;go_wp2_with fail;refine(int2_lit _).mono ?_;rintro e w5 ⟨v5,rfl,h5,k5⟩;obtain⟨b5,P5,p5,c5,Q5,q5,d5,rfl⟩:=h5.form2;have H5:=ZZ h5;have K5:=ZZ (al HXC.out k5);clear h5 k5;go_wp2_with fail;refine(intm3_lit _).mono ?_;rintro e w6 ⟨v6,rfl,h6,k6⟩;obtain⟨b6,P6,p6,c6,Q6,q6,d6,rfl⟩:=h6.form2;have H5':=ZZ (H5.out.mono k6);have H6:=ZZ h6;have K6:=ZZ (al K5.out k6);clear h6 k6;go_wp2_with fail;refine(square_lit _ _ ⟨_,_,_,_,_,_,rfl,H5'.out,H6.out⟩).mono ?_;rintro e w7 ⟨v7,rfl,h7,k7⟩;obtain⟨b7,A7,k7_,ca7,B7,l7,cb7,b8,C8,m8,cc8,D8,n8,cd8,rfl,hlo,hhi⟩:=h7.form;have K7:=ZZ (al K6.out k7)
  have HKA:=ZZ (show ∀W,Ext (w7.alloc (.cells #[.bool b7,.slice A7 k7_ ca7,.slice B7 l7 cb7,.bool b8,.slice C8 m8 cc8,.slice D8 n8 cd8] 68)) W→(W.cell? ⟨g1,0,none⟩=some (.bool b1)∧W.cell? ⟨g1,1,none⟩=some (.slice A k ca)∧W.cell? ⟨g1,2,none⟩=some (.slice B l cb))∧(W.cell? ⟨g2,0,none⟩=some (.bool b2)∧W.cell? ⟨g2,1,none⟩=some (.slice C m cc)∧W.cell? ⟨g2,2,none⟩=some (.slice D n cd))∧W.cell? ⟨w7.heap.size,0,none⟩=some (.bool b7)∧W.cell? ⟨w7.heap.size,1,none⟩=some (.slice A7 k7_ ca7)∧W.cell? ⟨w7.heap.size,2,none⟩=some (.slice B7 l7 cb7)∧W.cell? ⟨w7.heap.size,3,none⟩=some (.bool b8)∧W.cell? ⟨w7.heap.size,4,none⟩=some (.slice C8 m8 cc8)∧W.cell? ⟨w7.heap.size,5,none⟩=some (.slice D8 n8 cd8) from fun W h=>by
   obtain⟨hA,hB⟩:=HKX.out W (al K7.out (al (ab _ _) h));obtain⟨q0,q1,q2,q3,q4,q5,-⟩:=ah (row6 h);exact⟨hA,hB,q0,q1,q2,q3,q4,q5⟩)
  have KA:=ZZ (al K7.out (ab w7 (.cells #[.bool b7,.slice A7 k7_ ca7,.slice B7 l7 cb7,.bool b8,.slice C8 m8 cc8,.slice D8 n8 cd8] 68)));have HLO:=ZZ (hlo.mono (ab w7 (.cells #[.bool b7,.slice A7 k7_ ca7,.slice B7 l7 cb7,.bool b8,.slice C8 m8 cc8,.slice D8 n8 cd8] 68)));have HHI:=ZZ (hhi.mono (ab w7 (.cells #[.bool b7,.slice A7 k7_ ca7,.slice B7 l7 cb7,.bool b8,.slice C8 m8 cc8,.slice D8 n8 cd8] 68)));clear h7 k7 hlo hhi;have hW0:=HKA.out _ (ad _);obtain⟨⟨x0,x1,x2⟩,⟨y0,y1,y2⟩,q0,q1,q2,q3,q4,q5⟩:=hW0;go_wp2_with fail;generalize w7.alloc (.cells #[.bool b7,.slice A7 k7_ ca7,.slice B7 l7 cb7,.bool b8,.slice C8 m8 cc8,.slice D8 n8 cd8] _)=WA at *;generalize w7.heap.size=ga at *;have E0:=ZZ (ad WA);have TA:=ZZ (HT.out.mono (al KX.out KA.out));have XA:=ZZ (GX1.out.mono KA.out);have YA:=ZZ (GX2.out.mono KA.out);refine(text_lit 64 (by decide) _ 4700 _ aw2 _ (XA.out.mono E0.out) (bq_int 4700 (by decide) (by decide)) (TA.out.2.mono E0.out)).mono ?_;rintro e wz0 ⟨rfl,kz0⟩;have E1:=ZZ (al E0.out kz0);clear x0 x1 x2 y0 y1 y2 q0 q1 q2 q3 q4 q5;obtain⟨⟨x0,x1,x2⟩,⟨y0,y1,y2⟩,q0,q1,q2,q3,q4,q5⟩:=HKA.out _ E1.out;clear kz0;go_wp2_with fail;refine(show_lit 64 (by decide) _ 4700 _ aw7 _ (XA.out.mono E1.out) (bq_int 4700 (by decide) (by decide)) (TA.out.mono E1.out)).mono ?_;rintro e wz1 ⟨rfl,kz1⟩;have E2:=ZZ (al E1.out kz1);clear x0 x1 x2 y0 y1 y2 q0 q1 q2 q3 q4 q5;obtain⟨⟨x0,x1,x2⟩,⟨y0,y1,y2⟩,q0,q1,q2,q3,q4,q5⟩:=HKA.out _ E2.out;clear kz1;go_wp2_with fail
  refine(text_lit 64 (by decide) _ (-3/4) _ aw8 _ (YA.out.mono E2.out) bq_y (TA.out.2.mono E2.out)).mono ?_;rintro e wz2 ⟨rfl,kz2⟩;have E3:=ZZ (al E2.out kz2);clear x0 x1 x2 y0 y1 y2 q0 q1 q2 q3 q4 q5;obtain⟨⟨x0,x1,x2⟩,⟨y0,y1,y2⟩,q0,q1,q2,q3,q4,q5⟩:=HKA.out _ E3.out;clear kz2;go_wp2_with fail;refine(sign_lit _ _ (HLO.out.mono E3.out)).mono ?_;rintro e wz3 ⟨rfl,kz3⟩;have E4:=ZZ (al E3.out kz3);clear x0 x1 x2 y0 y1 y2 q0 q1 q2 q3 q4 q5;obtain⟨⟨x0,x1,x2⟩,⟨y0,y1,y2⟩,q0,q1,q2,q3,q4,q5⟩:=HKA.out _ E4.out;clear kz3;go_wp2_with fail;refine(text_lit 64 (by decide) _ 9 _ aw11 _ (HHI.out.mono E4.out) bq_nine (TA.out.2.mono E4.out)).mono ?_;rintro e wz4 ⟨rfl,kz4⟩;have E5:=ZZ (al E4.out kz4);clear x0 x1 x2 y0 y1 y2 q0 q1 q2 q3 q4 q5;obtain⟨⟨x0,x1,x2⟩,⟨y0,y1,y2⟩,q0,q1,q2,q3,q4,q5⟩:=HKA.out _ E5.out;clear kz4;go_wp2_with fail;refine(down_lit _ _ (YA.out.mono E5.out)).mono ?_;rintro e wz5 ⟨vz5,rfl,hz5,kz5⟩;obtain⟨b45,P45,p45,c45,Q45,q45,d45,rfl⟩:=hz5.form2;have HZ5:=ZZ hz5;clear hz5;have E6:=ZZ (al E5.out kz5);clear x0 x1 x2 y0 y1 y2 q0 q1 q2 q3 q4 q5;obtain⟨⟨x0,x1,x2⟩,⟨y0,y1,y2⟩,q0,q1,q2,q3,q4,q5⟩:=HKA.out _ E6.out;clear kz5;go_wp2_with fail;refine(text_lit 64 (by decide) _ (-1) _ aw9 _ HZ5.out bq_m1 (TA.out.2.mono E6.out)).mono ?_;rintro e wz6 ⟨rfl,kz6⟩;have E7:=ZZ (al E6.out kz6);clear x0 x1 x2 y0 y1 y2 q0 q1 q2 q3 q4 q5;obtain⟨⟨x0,x1,x2⟩,⟨y0,y1,y2⟩,q0,q1,q2,q3,q4,q5⟩:=HKA.out _ E7.out;clear kz6;go_wp2_with fail;go_ret;exact⟨rfl,al KX.out (al KA.out E7.out)⟩
end Go.Proofs.YtpgdefgdboijlaaGreatDoor
namespace Go.Proofs.YtpgdefgdboijlaaGreatDoor
open Go.RowKit
theorem ext_al {a b:World} (h:Ext a b) (o:Obj):Ext a (b.alloc o):=al h (ab _ _)
theorem ext_dr {a b:World} (h:Ext a b):Ext a b.drew:=al h (ac _)
theorem put3_rowz {W:World} {g:Nat} (h:W.heap[g]?=some (.cells #[.bool false,.slice none 0 0,.slice none 0 0] 25 (0,0))) (a b c:Value):(((W.setCell ⟨g,0,none⟩ a).setCell ⟨g,1,none⟩ b).setCell ⟨g,2,none⟩ c).heap[g]?=some (.cells #[a,b,c] 25 (0,0)):=put3_row h a b c
theorem nm_putz {W:World} {v:Value} {q:Rat} {g:Nat} (h:Nm W v q) (hg:W.heap[g]?=some (.cells #[.bool false,.slice none 0 0,.slice none 0 0] 25 (0,0))) (a b c:Value):Nm (((W.setCell ⟨g,0,none⟩ a).setCell ⟨g,1,none⟩ b).setCell ⟨g,2,none⟩ c) v q:=h.put3' hg a b c
theorem row_dr {W:World} {g:Nat} {o:Obj} (h:W.heap[g]?=some o):W.drew.heap[g]?=some o:=h
theorem row_al {W:World} {g:Nat} {o o':Obj} (h:W.heap[g]?=some o):(W.alloc o').heap[g]?=some o:=((ab W o').block _ (lt_of_block h)).trans h
theorem row_new1 (W:World) (a b:Obj):((W.alloc a).alloc b).heap[W.heap.size+1]?=some b:=by
 rw [←aC W a];exact heap_alloc_new _ _
theorem row_newp (W:World) (g:Nat) (a b c:Value) (o:Obj):((((W.setCell ⟨g,0,none⟩ a).setCell ⟨g,1,none⟩ b).setCell ⟨g,2,none⟩ c).alloc o).heap[W.heap.size]?=some o:=by
 have h:(((W.setCell ⟨g,0,none⟩ a).setCell ⟨g,1,none⟩ b).setCell ⟨g,2,none⟩ c).heap.size=W.heap.size:=by simp [World.setCell]
 rw [←h];exact heap_alloc_new _ _
theorem nm_dr {W:World} {v:Value} {q:Rat} (h:Nm W v q):Nm W.drew v q:=h.mono (ac _)
theorem nm_al {W:World} {v:Value} {q:Rat} {o:Obj} (h:Nm W v q):Nm (W.alloc o) v q:=h.mono (ab _ _)
def TwoR (W0:World) (q1 q2:Rat) (gs gp:Nat) (wx:World):Prop:=∃b A k c B l d b' A' k' c' B' l' d',wx.heap[gs]?=some (.cells #[.bool b,.slice A k c,.slice B l d] 25 (0,0))∧wx.heap[gp]?=some (.cells #[.bool b',.slice A' k' c',.slice B' l' d'] 25 (0,0))∧Nm wx (.agg #[.bool b,.slice A k c,.slice B l d]) q1∧Nm wx (.agg #[.bool b',.slice A' k' c',.slice B' l' d']) q2∧Ext W0 wx
end Go.Proofs.YtpgdefgdboijlaaGreatDoor
