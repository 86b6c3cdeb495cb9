/- The walk of PolyKnown. Printed by gen_ze.py. -/
import Derived.Test.YtjamgccgoapbeaaGreatDoorGZd
import Derived.Test.YtjamgccgoapbeaaGreatDoorGYz
import Derived.Deep.DeepCutAuto
set_option linter.unusedVariables false
set_option maxRecDepth 100000
set_option maxHeartbeats 64000000
namespace Go.Proofs.YtjamgccgoapbeaaGreatDoor
open Go Go.RowKit
set_option linter.unusedSimpArgs false
theorem kn1:divE (intsF [-1,0,0,1]) (intsF [-1,1])=(intsF [1,1,1],[],0):=by kernel_rfl
theorem kn2:divOk 2000 (intsF [-1,0,0,1]) (intsF [-1,1])=true:=by kernel_rfl
theorem kn3:gcdE (intsF [2,-3,1]) (intsF [-2,2])=(intsF [-1,1],0):=by kernel_rfl
theorem kn4:comOk 2000 (intsF [2,-3,1]) (intsF [-2,2])=true:=by kernel_rfl
theorem kn5:partsE (intsF [0,0,1,1])=([intsF [1,1],intsF [0,1]],0):=by kernel_rfl
theorem kn6:partsOk 2000 (intsF [0,0,1,1])=true:=by kernel_rfl
theorem kn7:evS (intsF [2,-3,1]) (0,((2:Int):Rat))=(((-4:Int):Rat),((2:Int):Rat)):=by kernel_rfl
theorem kn8:rootsE 60 (intsF [2,-3,1]) 3=([(1,1),(2,2)],0):=by kernel_rfl
theorem kn9:rootsOk 2000 60 (intsF [2,-3,1]) 3=true:=by kernel_rfl
theorem kn10:signE (intsF [-2,0,1]) ((1:Int):Rat) ((2:Int):Rat) (intsF [-3,2])=(-1,0):=by kernel_rfl
theorem kn11:ownOk 2000 (intsF [-2,0,1])=true:=by kernel_rfl
theorem kn12:signOk 2000 (intsF [-2,0,1]) (intsF [-3,2])=true:=by kernel_rfl
theorem kn13:signE (intsF [-2,0,1]) ((-2:Int):Rat) ((2:Int):Rat) (intsF [-3,2])=(0,7):=by kernel_rfl
theorem kn14:routhE (intsF [1,0,1])=(0,2,0):=by kernel_rfl
theorem kn15:routhOk 2000 (intsF [1,0,1])=true:=by kernel_rfl
theorem kn16:rectE (intsF [1,0,1]) ((-1:Int):Rat) ((1:Int):Rat) 0 ((2:Int):Rat)=(1,0):=by kernel_rfl
theorem kn17:rectB 2000 (trimF (intsF [1,0,1])) (sidesF (aq ((-1:Int):Rat) ((1:Int):Rat)) (ar ((-1:Int):Rat) ((1:Int):Rat)) (aq 0 ((2:Int):Rat)) (ar 0 ((2:Int):Rat)))=true:=by kernel_rfl
theorem kn18:rectE (intsF [1,0,1]) ((-1:Int):Rat) ((1:Int):Rat) ((1:Int):Rat) ((2:Int):Rat)=(0,120):=by kernel_rfl
theorem kn19:rectB 2000 (trimF (intsF [1,0,1])) (sidesF (aq ((-1:Int):Rat) ((1:Int):Rat)) (ar ((-1:Int):Rat) ((1:Int):Rat)) (aq ((1:Int):Rat) ((2:Int):Rat)) (ar ((1:Int):Rat) ((2:Int):Rat)))=true:=by kernel_rfl
theorem kn20:positiveE (intsF [-2,0,1]) 0 ((1:Int):Rat)=(-1,0):=by kernel_rfl
theorem kn21:txt ((-4:Int):Rat)=[45,52]:=by
 unfold txt;rw [if_pos (show ((-4:Int):Rat).num<0 from by decide),if_pos (show ((-4:Int):Rat).den=1 from rfl)]
 show [45] ++ Lib.decDigits 4 ++ []=_
 rw [show Lib.decDigits 4=[52] from dec_natOf [52] (by decide) (by decide) (.inl (by decide))]
 rfl
theorem kn22:txt ((2:Int):Rat)=[50]:=awp9
theorem Il.mono {W W':World} {v:Value} {l:List Int} (h:Il W v l) (k:Ext W W'):Il W' v l:=by
 obtain⟨b,cap,e,hc,ht⟩:=h;exact⟨b,cap,e,hc,fun i x hx=>ao k (ht i x hx)⟩
theorem bq_zero2:Bq 2000 (0:Rat):=(bq_int 0 (by decide) (by decide)).mono (by decide)
theorem pl_form {W:World} {v:Value} {l:List Rat} (h:Pl W v l):∃A c,v=.slice A l.length c:=by
 obtain⟨A,c,e,-⟩:=h;exact⟨A,c,e⟩
theorem sp_form3 {W:World} {v:Value} {lo hi:Rat} (h:Sp W v lo hi):∃b1 A k ca B l cb b2 C m cc D n cd,v=.agg #[.bool b1,.slice A k ca,.slice B l cb,.bool b2,.slice C m cc,.slice D n cd]∧Nm W (.agg #[.bool b1,.slice A k ca,.slice B l cb]) lo∧Nm W (.agg #[.bool b2,.slice C m cc,.slice D n cd]) hi:=h.form
def CLs (W:World) (b:Nat) (L:List Value):Prop:=∀i v,L[i]?=some v→W.cell? ⟨b,i,none⟩=some v
theorem CLs.mono {W W':World} {b:Nat} {L:List Value} (h:CLs W b L) (k:Ext W W'):CLs W' b L:=fun i v hv=>ao k (h i v hv)
def Row (W:World) (b:Nat) (o:Obj):Prop:=W.heap[b]?=some o
theorem Row.mono {W W':World} {b:Nat} {o:Obj} (h:Row W b o) (k:Ext W W'):Row W' b o:=(k.block _ (lt_of_block h)).trans h
def Cs4 (W:World) (b o:Nat) (x0 x1:Value):Prop:=W.cell? ⟨b,o+0,none⟩=some x0∧W.cell? ⟨b,o+1,none⟩=some x1
theorem Cs4.mono {W W':World} {b o:Nat} {x0 x1:Value} (h:Cs4 W b o x0 x1) (k:Ext W W'):Cs4 W' b o x0 x1:=⟨ao k h.1,ao k h.2⟩
theorem known_c (w:World) (ht:Tens w):Calls Tryz.prog 3 #[] w fun e w'=>e=.returned (.bool true)∧Ext w w':=by
 have HT:=ZZ ht;have EB:=ZZ (ae w);clear ht
 go_enter Tryz.func3,Tryz.ntmps3
 have I:=ZZ (show Il (w.alloc (.cells #[.int .i64 2,.int .i64 (-3),.int .i64 1] 2)) (.slice (some ⟨w.heap.size,0,none⟩) 3 3) [2,-3,1] from il_new w [2,-3,1] _);have XE:=ZZ ((ab w (.cells #[.int .i64 2,.int .i64 (-3),.int .i64 1] 2)));go_wp2_with fail;refine(ints_p _ [2,-3,1] (by decide) (by decide) _ I.out).mono ?_;rintro e w1 ⟨v1,rfl,h,kk⟩;have kk:=ak XE.out kk
 replace HT:=ZZ (HT.out.mono kk)
 replace EB:=ZZ (ak EB.out kk)
 have P1:=ZZ h;clear kk XE h;clear I;have I:=ZZ (show Il (w1.alloc (.cells #[.int .i64 (-1),.int .i64 0,.int .i64 0,.int .i64 1] 2)) (.slice (some ⟨w1.heap.size,0,none⟩) 4 4) [-1,0,0,1] from il_new w1 [-1,0,0,1] _);have XE:=ZZ ((ab w1 (.cells #[.int .i64 (-1),.int .i64 0,.int .i64 0,.int .i64 1] 2)));go_wp2_with fail;refine(ints_p _ [-1,0,0,1] (by decide) (by decide) _ I.out).mono ?_;rintro e w2 ⟨va,rfl,h,kk⟩;have kk:=ak XE.out kk
 replace HT:=ZZ (HT.out.mono kk)
 replace P1:=ZZ (P1.out.mono kk)
 replace EB:=ZZ (ak EB.out kk)
 have PA:=ZZ h;clear kk XE h;clear I;have I:=ZZ (show Il (w2.alloc (.cells #[.int .i64 (-1),.int .i64 1] 2)) (.slice (some ⟨w2.heap.size,0,none⟩) 2 2) [-1,1] from il_new w2 [-1,1] _);have XE:=ZZ ((ab w2 (.cells #[.int .i64 (-1),.int .i64 1] 2)));go_wp2_with fail;refine(ints_p _ [-1,1] (by decide) (by decide) _ I.out).mono ?_;rintro e w3 ⟨vb,rfl,h,kk⟩;have kk:=ak XE.out kk
 replace HT:=ZZ (HT.out.mono kk)
 replace P1:=ZZ (P1.out.mono kk)
 replace PA:=ZZ (PA.out.mono kk)
 replace EB:=ZZ (ak EB.out kk)
 have PB:=ZZ h;clear kk XE h;clear I;go_wp2_with fail;refine(div_p 2000 (by decide) (by decide) _ _ (intsF [-1,0,0,1]) (intsF [-1,1]) (by decide) (by decide) _ PA.out PB.out (fun _ _=>kn2) _ kn1).mono ?_;rintro e w4 ⟨vq,vr,rfl,hq,hr,kk⟩
 replace HT:=ZZ (HT.out.mono kk)
 replace P1:=ZZ (P1.out.mono kk)
 replace PA:=ZZ (PA.out.mono kk)
 replace PB:=ZZ (PB.out.mono kk)
 replace EB:=ZZ (ak EB.out kk)
 obtain⟨Ar,cr,er⟩:=pl_form hr
 replace er:vr=.slice Ar 0 cr:=er
 subst er;have PQ:=ZZ hq;have PR:=ZZ hr;clear kk hq hr;clear PA PB PR;have I:=ZZ (show Il (w4.alloc (.cells #[.int .i64 (-2),.int .i64 2] 2)) (.slice (some ⟨w4.heap.size,0,none⟩) 2 2) [-2,2] from il_new w4 [-2,2] _);have XE:=ZZ ((ab w4 (.cells #[.int .i64 (-2),.int .i64 2] 2)));go_wp2_with fail;refine(ints_p _ [-2,2] (by decide) (by decide) _ I.out).mono ?_;rintro e w5 ⟨vb,rfl,h,kk⟩;have kk:=ak XE.out kk
 replace HT:=ZZ (HT.out.mono kk)
 replace P1:=ZZ (P1.out.mono kk)
 replace PQ:=ZZ (PQ.out.mono kk)
 replace EB:=ZZ (ak EB.out kk)
 have PB:=ZZ h;clear kk XE h;clear I;go_wp2_with fail;refine(gcd_p 2000 (by decide) (by decide) _ _ (intsF [2,-3,1]) (intsF [-2,2]) (by decide) (by decide) _ P1.out PB.out (fun _=>kn4) _ kn3).mono ?_;rintro e w6 ⟨vg,rfl,hg,kk⟩
 replace HT:=ZZ (HT.out.mono kk)
 replace P1:=ZZ (P1.out.mono kk)
 replace PQ:=ZZ (PQ.out.mono kk)
 replace PB:=ZZ (PB.out.mono kk)
 replace EB:=ZZ (ak EB.out kk)
 have PG:=ZZ hg;clear kk hg;clear PB;have I:=ZZ (show Il (w6.alloc (.cells #[.int .i64 0,.int .i64 0,.int .i64 1,.int .i64 1] 2)) (.slice (some ⟨w6.heap.size,0,none⟩) 4 4) [0,0,1,1] from il_new w6 [0,0,1,1] _);have XE:=ZZ ((ab w6 (.cells #[.int .i64 0,.int .i64 0,.int .i64 1,.int .i64 1] 2)));go_wp2_with fail;refine(ints_p _ [0,0,1,1] (by decide) (by decide) _ I.out).mono ?_;rintro e w7 ⟨va,rfl,h,kk⟩;have kk:=ak XE.out kk
 replace HT:=ZZ (HT.out.mono kk)
 replace P1:=ZZ (P1.out.mono kk)
 replace PQ:=ZZ (PQ.out.mono kk)
 replace PG:=ZZ (PG.out.mono kk)
 replace EB:=ZZ (ak EB.out kk)
 have PA:=ZZ h;clear kk XE h;clear I;go_wp2_with fail;refine(parts_p 2000 (by decide) (by decide) _ (intsF [0,0,1,1]) (by decide) _ PA.out (fun _=>kn6) _ kn5).mono ?_;rintro e w8 ⟨vl,rfl,hl,kk⟩
 replace HT:=ZZ (HT.out.mono kk)
 replace P1:=ZZ (P1.out.mono kk)
 replace PQ:=ZZ (PQ.out.mono kk)
 replace PG:=ZZ (PG.out.mono kk)
 replace PA:=ZZ (PA.out.mono kk)
 replace EB:=ZZ (ak EB.out kk)
 obtain⟨A4,cap4,e4,-,h4⟩:=hl
 replace e4:vl=.slice A4 2 cap4:=e4
 subst e4
 rcases h4 with ⟨-,h4⟩|⟨b4,o4,e4,h4⟩
 ·cases h4
 subst e4;obtain⟨x0,d0,hu0⟩:=h4 0 (intsF [1,1]) rfl;obtain⟨x1,d1,hu1⟩:=h4 1 (intsF [0,1]) rfl
 replace d0:=(show _=_ from d0)
 have hc4:Cs4 w8 b4 o4 x0 x1:=⟨d0,d1⟩;clear h4 d0 d1;have C4:=ZZ hc4;have U0:=ZZ hu0;have U1:=ZZ hu1;clear kk hc4 hu0 hu1;clear PA;go_wp2_with fail;refine(int_q (2) (by decide) (by decide) _).mono ?_;rintro e w9 ⟨v2,rfl,h,kk⟩
 replace HT:=ZZ (HT.out.mono kk)
 replace P1:=ZZ (P1.out.mono kk)
 replace PQ:=ZZ (PQ.out.mono kk)
 replace PG:=ZZ (PG.out.mono kk)
 replace C4:=ZZ (C4.out.mono kk)
 replace U0:=ZZ (U0.out.mono kk)
 replace U1:=ZZ (U1.out.mono kk)
 replace EB:=ZZ (ak EB.out kk)
 obtain⟨s2,A2,k2,ca2,B2,l2,cb2,rfl⟩:=h.form2;have N2:=ZZ h;clear kk h;go_wp2_with fail;refine(eval_span_p 2000 (by decide) _ _ (intsF [2,-3,1]) 0 (((2:Int)):Rat) (by decide) (by decide) _ P1.out ⟨_,_,_,_,_,_,rfl,Nm.zero _,N2.out⟩ (sm_of (show smB 2000 (intsF [2,-3,1])=true by kernel_rfl)) bq_zero2 ((bq_int (2) (by decide) (by decide)).mono (by decide):Bq 2000 (((2:Int)):Rat))).mono ?_;rintro e w10 ⟨v20,rfl,h,kk⟩
 replace HT:=ZZ (HT.out.mono kk)
 replace P1:=ZZ (P1.out.mono kk)
 replace PQ:=ZZ (PQ.out.mono kk)
 replace PG:=ZZ (PG.out.mono kk)
 replace C4:=ZZ (C4.out.mono kk)
 replace U0:=ZZ (U0.out.mono kk)
 replace U1:=ZZ (U1.out.mono kk)
 replace N2:=ZZ (N2.out.mono kk)
 replace EB:=ZZ (ak EB.out kk)
 rw [kn7] at h
 dsimp only at h
 obtain⟨s20,A20,k20,ca20,B20,l20,cb20,s21,A21,k21,ca21,B21,l21,cb21,rfl,hna,hnb⟩:=sp_form3 h;clear h;have NA:=ZZ hna;have NB:=ZZ hnb;clear kk hna hnb;clear N2
 go_upto_region 6 with (fail)
 have XE:=ZZ (ab w10 (.cells #[.bool s20,.slice A20 k20 ca20,.slice B20 l20 cb20,.bool s21,.slice A21 k21 ca21,.slice B21 l21 cb21] 37));have R9:=ZZ (heap_alloc_new w10 (.cells #[.bool s20,.slice A20 k20 ca20,.slice B20 l20 cb20,.bool s21,.slice A21 k21 ca21,.slice B21 l21 cb21] 37))
 replace HT:=ZZ (HT.out.mono XE.out)
 replace P1:=ZZ (P1.out.mono XE.out)
 replace PQ:=ZZ (PQ.out.mono XE.out)
 replace PG:=ZZ (PG.out.mono XE.out)
 replace C4:=ZZ (C4.out.mono XE.out)
 replace U0:=ZZ (U0.out.mono XE.out)
 replace U1:=ZZ (U1.out.mono XE.out)
 replace NA:=ZZ (NA.out.mono XE.out)
 replace NB:=ZZ (NB.out.mono XE.out)
 replace EB:=ZZ (ak EB.out XE.out)
 clear XE;generalize w10.alloc (.cells #[.bool s20,.slice A20 k20 ca20,.slice B20 l20 cb20,.bool s21,.slice A21 k21 ca21,.slice B21 l21 cb21] _)=W6 at *;obtain⟨g9,hg9⟩:∃g,w10.heap.size=g:=⟨_,rfl⟩;rw [hg9] at R9;rw [hg9];clear hg9;obtain⟨U0a,c0,e0⟩:=pl_form U0.out
 replace e0:x0=.slice U0a 2 c0:=e0
 subst e0;obtain⟨U1a,c1,e1⟩:=pl_form U1.out
 replace e1:x1=.slice U1a 2 c1:=e1
 subst e1
 have HC:=ZZ (show ∀W,Ext W6 W→W.cell? ⟨b4,o4,none⟩=some (.slice U0a 2 c0)∧W.cell? ⟨b4,o4+1,none⟩=some (.slice U1a 2 c1)∧W.cell? ⟨g9,0,none⟩=some (.bool s20)∧W.cell? ⟨g9,1,none⟩=some (.slice A20 k20 ca20)∧W.cell? ⟨g9,2,none⟩=some (.slice B20 l20 cb20)∧W.cell? ⟨g9,3,none⟩=some (.bool s21)∧W.cell? ⟨g9,4,none⟩=some (.slice A21 k21 ca21)∧W.cell? ⟨g9,5,none⟩=some (.slice B21 l21 cb21) from fun W k=>by
  obtain⟨y0,y1,y2,y3,y4,y5,-⟩:=ai ((k.block _ (lt_of_block R9.out)).trans R9.out);have h:=C4.out.mono k;exact⟨h.1,h.2,y0,y1,y2,y3,y4,y5⟩)
 have hun:undef=.tuple #[]:=rfl;refine wp_region_noPanic ?_;refine wp_region_held_drew (S:=fun W=>W.cell? ⟨b4,o4,none⟩=some (.slice U0a 2 c0)∧W.cell? ⟨b4,o4+1,none⟩=some (.slice U1a 2 c1)∧W.cell? ⟨g9,0,none⟩=some (.bool s20)∧W.cell? ⟨g9,1,none⟩=some (.slice A20 k20 ca20)∧W.cell? ⟨g9,2,none⟩=some (.slice B20 l20 cb20)∧W.cell? ⟨g9,3,none⟩=some (.bool s21)∧W.cell? ⟨g9,4,none⟩=some (.slice A21 k21 ca21)∧W.cell? ⟨g9,5,none⟩=some (.slice B21 l21 cb21)) (by kernel_rfl) (HC.out _ (ac _)) (fun hHeld=>?_);refine take_p (i:=0) 47 (v:=?vv0) rfl rfl (by kernel_rfl) (by kernel_rfl) (by kernel_rfl) (fun _ _ _ h=>h) (Or.inl ⟨rfl,?hy0⟩) (by assumption) ?rr0
 case hy0=>(intro w hSw;(try dsimp only at hSw);go_simp;try with_reducible rfl)
 try simp only [Act.put,lyA,lyB,lyC]
 refine take_p (i:=1) 48 (v:=?vv1) rfl rfl (by kernel_rfl) (by kernel_rfl) (by kernel_rfl) (fun _ _ _ h=>h) (Or.inl ⟨rfl,?hy1⟩) (by assumption) ?rr1
 case hy1=>(intro w hSw;(try dsimp only at hSw);go_simp;try with_reducible rfl)
 try simp only [Act.put,lyA,lyB,lyC]
 refine take_p (i:=2) 49 (v:=?vv2) rfl rfl (by kernel_rfl) (by kernel_rfl) (by kernel_rfl) (fun _ _ _ h=>h) (Or.inl ⟨rfl,?hy2⟩) (by assumption) ?rr2
 case hy2=>(intro w hSw;(try dsimp only at hSw);go_simp;try with_reducible rfl)
 try simp only [Act.put,lyA,lyB,lyC]
 refine take_p (i:=3) 50 (v:=?vv3) rfl rfl (by kernel_rfl) (by kernel_rfl) (by kernel_rfl) (fun _ _ _ h=>h) (Or.inl ⟨rfl,?hy3⟩) (by assumption) ?rr3
 case hy3=>(intro w hSw;(try dsimp only at hSw);go_simp;try with_reducible rfl)
 try simp only [Act.put,lyA,lyB,lyC]
 refine take_p (i:=4) 51 (v:=?vv4) rfl rfl (by kernel_rfl) (by kernel_rfl) (by kernel_rfl) (fun _ _ _ h=>h) (Or.inl ⟨rfl,?hy4⟩) (by assumption) ?rr4
 case hy4=>(intro w hSw;(try dsimp only at hSw);go_simp;try with_reducible rfl)
 try simp only [Act.put,lyA,lyB,lyC]
 refine take_p (i:=5) 52 (v:=?vv5) rfl rfl (by kernel_rfl) (by kernel_rfl) (by kernel_rfl) (fun _ _ _ h=>h) (Or.inl ⟨rfl,?hy5⟩) (by assumption) ?rr5
 case hy5=>(intro w hSw;(try dsimp only at hSw);go_simp;try with_reducible rfl)
 try simp only [Act.put,lyA,lyB,lyC]
 refine take_p (i:=6) 53 (v:=?vv6) rfl rfl (by kernel_rfl) (by kernel_rfl) (by kernel_rfl) (fun _ _ _ h=>h) (Or.inl ⟨rfl,?hy6⟩) (by assumption) ?rr6
 case hy6=>(intro w hSw;(try dsimp only at hSw);go_simp;try with_reducible rfl)
 try simp only [Act.put,lyA,lyB,lyC]
 refine take_p (i:=7) 54 (v:=?vv7) rfl rfl (by kernel_rfl) (by kernel_rfl) (by kernel_rfl) (fun _ _ _ h=>h) (Or.inl ⟨rfl,?hy7⟩) (by assumption) ?rr7
 case hy7=>(intro w hSw;(try dsimp only at hSw);go_simp;try with_reducible rfl)
 try simp only [Act.put,lyA,lyB,lyC]
 refine take_p (i:=8) 55 (v:=?vv8) rfl rfl (by kernel_rfl) (by kernel_rfl) (by kernel_rfl) (fun _ _ _ h=>h) (Or.inl ⟨rfl,?hy8⟩) (by assumption) ?rr8
 case hy8=>(intro w hSw;(try dsimp only at hSw);go_simp;try with_reducible rfl)
 try simp only [Act.put,lyA,lyB,lyC]
 refine take_p (i:=9) 56 (v:=?vv9) rfl rfl (by kernel_rfl) (by kernel_rfl) (by kernel_rfl) (fun _ _ _ h=>h) (Or.inl ⟨rfl,?hy9⟩) (by assumption) ?rr9
 case hy9=>(intro w hSw;(try dsimp only at hSw);go_simp;try with_reducible rfl)
 try simp only [Act.put,lyA,lyB,lyC]
 refine take_p (i:=10) 57 (v:=?vv10) rfl rfl (by kernel_rfl) (by kernel_rfl) (by kernel_rfl) (fun _ _ _ h=>h) (Or.inl ⟨rfl,?hy10⟩) (by assumption) ?rr10
 case hy10=>(intro w hSw;(try dsimp only at hSw);go_simp;try with_reducible rfl)
 try simp only [Act.put,lyA,lyB,lyC]
 refine take_p (i:=11) 58 (v:=?vv11) rfl rfl (by kernel_rfl) (by kernel_rfl) (by kernel_rfl) (fun _ _ _ h=>h) (Or.inl ⟨rfl,?hy11⟩) (by assumption) ?rr11
 case hy11=>(intro w hSw;(try dsimp only at hSw);go_simp;try with_reducible rfl)
 try simp only [Act.put,lyA,lyB,lyC]
 refine call_p (i:=12) (some 59) rfl rfl (by kernel_rfl) (fun K hK=>?_)
 go_simp
 have I12:=ZZ (show Il (W6.drew.alloc (.cells #[.int .i64 1,.int .i64 1,.int .i64 1] 2)) (.slice (some ⟨W6.heap.size,0,none⟩) 3 3) [1,1,1] from il_new (W6.drew) [1,1,1] _);refine hK.out _ _ (HC.out _ (ak (ac W6) (ab _ _))) (fun hHeld=>?_);clear hK K
 try simp only [Act.put,lyA,lyB,lyC]
 refine call_p (i:=13) (some 60) rfl rfl (by kernel_rfl) (fun K hK=>?_)
 go_simp
 go_at_call 6
 refine(ints_p _ [1,1,1] (by decide) (by decide) _ I12.out).mono ?_;rintro e x13 ⟨y13,rfl,h,kk⟩;have P13:=ZZ h;have hx13:=ZZ (show Ext W6 x13 from ak (ak (ac W6) (ab _ _)) kk);clear h kk I12
 try go_wp2_with fail
 refine hK.out _ _ (HC.out _ hx13.out) (fun hHeld=>?_);clear hK K
 try simp only [Act.put,lyA,lyB,lyC]
 refine call_p (i:=14) (some 61) rfl rfl (by kernel_rfl) (fun K hK=>?_)
 go_simp
 go_at_call 12
 refine(equal_p 2000 (by decide) _ _ (intsF [1,1,1]) (by decide) _ (PQ.out.mono hx13.out) P13.out (sm_of (show smB 2000 (intsF [1,1,1])=true by kernel_rfl))).mono ?_;rintro e x14 ⟨rfl,kk⟩;have hx14:=ZZ (show Ext W6 x14 from ak hx13.out kk);clear kk
 try go_wp2_with fail
 refine hK.out _ _ (HC.out _ hx14.out) (fun hHeld=>?_);clear hK K
 try simp only [Act.put,lyA,lyB,lyC]
 refine take_p (i:=15) 62 (v:=?vv15) rfl rfl (by kernel_rfl) (by kernel_rfl) (by kernel_rfl) (fun _ _ _ h=>h) (Or.inl ⟨rfl,?hy15⟩) (by assumption) ?rr15
 case hy15=>(intro w hSw;(try dsimp only at hSw);go_simp;try with_reducible rfl)
 try simp only [Act.put,lyA,lyB,lyC]
 refine take_p (i:=16) 63 (v:=?vv16) rfl rfl (by kernel_rfl) (by kernel_rfl) (by kernel_rfl) (fun _ _ _ h=>h) (Or.inl ⟨rfl,?hy16⟩) (by assumption) ?rr16
 case hy16=>(intro w hSw;(try dsimp only at hSw);go_simp;try with_reducible rfl)
 try simp only [Act.put,lyA,lyB,lyC]
 refine take_p (i:=17) 64 (v:=?vv17) rfl rfl (by kernel_rfl) (by kernel_rfl) (by kernel_rfl) (fun _ _ _ h=>h) (Or.inl ⟨rfl,?hy17⟩) (by assumption) ?rr17
 case hy17=>(intro w hSw;(try dsimp only at hSw);go_simp;try with_reducible rfl)
 try simp only [Act.put,lyA,lyB,lyC]
 refine take_p (i:=18) 65 (v:=?vv18) rfl rfl (by kernel_rfl) (by kernel_rfl) (by kernel_rfl) (fun _ _ _ h=>h) (Or.inl ⟨rfl,?hy18⟩) (by assumption) ?rr18
 case hy18=>(intro w hSw;(try dsimp only at hSw);go_simp;try with_reducible rfl)
 try simp only [Act.put,lyA,lyB,lyC]
 refine take_p (i:=19) 66 (v:=?vv19) rfl rfl (by kernel_rfl) (by kernel_rfl) (by kernel_rfl) (fun _ _ _ h=>h) (Or.inl ⟨rfl,?hy19⟩) (by assumption) ?rr19
 case hy19=>(intro w hSw;(try dsimp only at hSw);go_simp;try with_reducible rfl)
 try simp only [Act.put,lyA,lyB,lyC]
 refine take_p (i:=20) 67 (v:=?vv20) rfl rfl (by kernel_rfl) (by kernel_rfl) (by kernel_rfl) (fun _ _ _ h=>h) (Or.inl ⟨rfl,?hy20⟩) (by assumption) ?rr20
 case hy20=>(intro w hSw;(try dsimp only at hSw);go_simp;try with_reducible rfl)
 try simp only [Act.put,lyA,lyB,lyC]
 refine take_p (i:=21) 68 (v:=?vv21) rfl rfl (by kernel_rfl) (by kernel_rfl) (by kernel_rfl) (fun _ _ _ h=>h) (Or.inl ⟨rfl,?hy21⟩) (by assumption) ?rr21
 case hy21=>(intro w hSw;(try dsimp only at hSw);go_simp;try with_reducible rfl)
 try simp only [Act.put,lyA,lyB,lyC]
 refine take_p (i:=22) 69 (v:=?vv22) rfl rfl (by kernel_rfl) (by kernel_rfl) (by kernel_rfl) (fun _ _ _ h=>h) (Or.inl ⟨rfl,?hy22⟩) (by assumption) ?rr22
 case hy22=>(intro w hSw;(try dsimp only at hSw);go_simp;try with_reducible rfl)
 try simp only [Act.put,lyA,lyB,lyC]
 refine take_p (i:=23) 70 (v:=?vv23) rfl rfl (by kernel_rfl) (by kernel_rfl) (by kernel_rfl) (fun _ _ _ h=>h) (Or.inl ⟨rfl,?hy23⟩) (by assumption) ?rr23
 case hy23=>(intro w hSw;(try dsimp only at hSw);go_simp;try with_reducible rfl)
 try simp only [Act.put,lyA,lyB,lyC]
 refine call_p (i:=24) (some 71) rfl rfl (by kernel_rfl) (fun K hK=>?_)
 go_simp
 have I24:=ZZ (show Il (x14.alloc (.cells #[.int .i64 (-1),.int .i64 1] 2)) (.slice (some ⟨x14.heap.size,0,none⟩) 2 2) [-1,1] from il_new (x14) [-1,1] _);refine hK.out _ _ (HC.out _ (ak hx14.out (ab _ _))) (fun hHeld=>?_);clear hK K
 try simp only [Act.put,lyA,lyB,lyC]
 refine call_p (i:=25) (some 72) rfl rfl (by kernel_rfl) (fun K hK=>?_)
 go_simp
 go_at_call 6
 refine(ints_p _ [-1,1] (by decide) (by decide) _ I24.out).mono ?_;rintro e x25 ⟨y25,rfl,h,kk⟩;have P25:=ZZ h;have hx25:=ZZ (show Ext W6 x25 from ak (ak hx14.out (ab _ _)) kk);clear h kk I24
 try go_wp2_with fail
 refine hK.out _ _ (HC.out _ hx25.out) (fun hHeld=>?_);clear hK K
 try simp only [Act.put,lyA,lyB,lyC]
 refine call_p (i:=26) (some 73) rfl rfl (by kernel_rfl) (fun K hK=>?_)
 go_simp
 go_at_call 12
 refine(equal_p 2000 (by decide) _ _ (intsF [-1,1]) (by decide) _ (PG.out.mono hx25.out) P25.out (sm_of (show smB 2000 (intsF [-1,1])=true by kernel_rfl))).mono ?_;rintro e x26 ⟨rfl,kk⟩;have hx26:=ZZ (show Ext W6 x26 from ak hx25.out kk);clear kk
 try go_wp2_with fail
 refine hK.out _ _ (HC.out _ hx26.out) (fun hHeld=>?_);clear hK K
 try simp only [Act.put,lyA,lyB,lyC]
 refine take_p (i:=27) 74 (v:=?vv27) rfl rfl (by kernel_rfl) (by kernel_rfl) (by kernel_rfl) (fun _ _ _ h=>h) (Or.inl ⟨rfl,?hy27⟩) (by assumption) ?rr27
 case hy27=>(intro w hSw;(try dsimp only at hSw);go_simp;try with_reducible rfl)
 try simp only [Act.put,lyA,lyB,lyC]
 refine take_p (i:=28) 75 (v:=?vv28) rfl rfl (by kernel_rfl) (by kernel_rfl) (by kernel_rfl) (fun _ _ _ h=>h) (Or.inl ⟨rfl,?hy28⟩) (by assumption) ?rr28
 case hy28=>(intro w hSw;(try dsimp only at hSw);go_simp;try with_reducible rfl)
 try simp only [Act.put,lyA,lyB,lyC]
 refine take_p (i:=29) 76 (v:=?vv29) rfl rfl (by kernel_rfl) (by kernel_rfl) (by kernel_rfl) (fun _ _ _ h=>h) (Or.inl ⟨rfl,?hy29⟩) (by assumption) ?rr29
 case hy29=>(intro w hSw;(try dsimp only at hSw);go_simp;try with_reducible rfl)
 try simp only [Act.put,lyA,lyB,lyC]
 refine take_p (i:=30) 77 (v:=?vv30) rfl rfl (by kernel_rfl) (by kernel_rfl) (by kernel_rfl) (fun _ _ _ h=>h) (Or.inl ⟨rfl,?hy30⟩) (by assumption) ?rr30
 case hy30=>(intro w hSw;(try dsimp only at hSw);go_simp;try with_reducible rfl)
 try simp only [Act.put,lyA,lyB,lyC]
 refine take_p (i:=31) 78 (v:=?vv31) rfl rfl (by kernel_rfl) (by kernel_rfl) (by kernel_rfl) (fun _ _ _ h=>h) (Or.inl ⟨rfl,?hy31⟩) (by assumption) ?rr31
 case hy31=>(intro w hSw;(try dsimp only at hSw);go_simp;try with_reducible rfl)
 try simp only [Act.put,lyA,lyB,lyC]
 refine take_p (i:=32) 79 (v:=?vv32) rfl rfl (by kernel_rfl) (by kernel_rfl) (by kernel_rfl) (fun _ _ _ h=>h) (Or.inl ⟨rfl,?hy32⟩) (by assumption) ?rr32
 case hy32=>(intro w hSw;(try dsimp only at hSw);go_simp;try with_reducible rfl)
 try simp only [Act.put,lyA,lyB,lyC]
 refine take_p (i:=33) 80 (v:=?vv33) rfl rfl (by kernel_rfl) (by kernel_rfl) (by kernel_rfl) (fun _ _ _ h=>h) (Or.inl ⟨rfl,?hy33⟩) (by assumption) ?rr33
 case hy33=>(intro w hSw;(try dsimp only at hSw);go_simp;try with_reducible rfl)
 try simp only [Act.put,lyA,lyB,lyC]
 refine take_p (i:=34) 81 (v:=?vv34) rfl rfl (by kernel_rfl) (by kernel_rfl) (by kernel_rfl) (fun _ _ _ h=>h) (Or.inl ⟨rfl,?hy34⟩) (by assumption) ?rr34
 case hy34=>(intro w hSw;(try dsimp only at hSw);go_simp;try with_reducible rfl)
 try simp only [Act.put,lyA,lyB,lyC]
 refine take_p (i:=35) 82 (v:=?vv35) rfl rfl (by kernel_rfl) (by kernel_rfl) (by kernel_rfl) (fun _ _ _ h=>h) (Or.inl ⟨rfl,?hy35⟩) (by assumption) ?rr35
 case hy35=>(intro w hSw;(try dsimp only at hSw);go_simp;try with_reducible rfl)
 try simp only [Act.put,lyA,lyB,lyC]
 refine take_p (i:=36) 83 (v:=?vv36) rfl rfl (by kernel_rfl) (by kernel_rfl) (by kernel_rfl) (fun _ _ _ h=>h) (Or.inl ⟨rfl,?hy36⟩) (by assumption) ?rr36
 case hy36=>(intro w hSw;(try dsimp only at hSw);go_simp;try with_reducible rfl)
 try simp only [Act.put,lyA,lyB,lyC]
 refine take_p (i:=37) 84 (v:=?vv37) rfl rfl (by kernel_rfl) (by kernel_rfl) (by kernel_rfl) (fun _ _ _ h=>h) (Or.inl ⟨rfl,?hy37⟩) (by assumption) ?rr37
 case hy37=>(intro w hSw;(try dsimp only at hSw);go_simp;try with_reducible rfl)
 try simp only [Act.put,lyA,lyB,lyC]
 refine call_p (i:=38) (some 85) rfl rfl (by kernel_rfl) (fun K hK=>?_)
 go_simp
 have I38:=ZZ (show Il (x26.alloc (.cells #[.int .i64 1,.int .i64 1] 2)) (.slice (some ⟨x26.heap.size,0,none⟩) 2 2) [1,1] from il_new (x26) [1,1] _);refine hK.out _ _ (HC.out _ (ak hx26.out (ab _ _))) (fun hHeld=>?_);clear hK K
 try simp only [Act.put,lyA,lyB,lyC]
 refine call_p (i:=39) (some 86) rfl rfl (by kernel_rfl) (fun K hK=>?_)
 go_simp
 go_at_call 6
 refine(ints_p _ [1,1] (by decide) (by decide) _ I38.out).mono ?_;rintro e x39 ⟨y39,rfl,h,kk⟩;have P39:=ZZ h;have hx39:=ZZ (show Ext W6 x39 from ak (ak hx26.out (ab _ _)) kk);clear h kk I38
 try go_wp2_with fail
 refine hK.out _ _ (HC.out _ hx39.out) (fun hHeld=>?_);clear hK K
 try simp only [Act.put,lyA,lyB,lyC]
 refine call_p (i:=40) (some 87) rfl rfl (by kernel_rfl) (fun K hK=>?_)
 go_simp
 go_at_call 12
 refine(equal_p 2000 (by decide) _ _ (intsF [1,1]) (by decide) _ (U0.out.mono hx39.out) P39.out (sm_of (show smB 2000 (intsF [1,1])=true by kernel_rfl))).mono ?_;rintro e x40 ⟨rfl,kk⟩;have hx40:=ZZ (show Ext W6 x40 from ak hx39.out kk);clear kk
 try go_wp2_with fail
 refine hK.out _ _ (HC.out _ hx40.out) (fun hHeld=>?_);clear hK K
 try simp only [Act.put,lyA,lyB,lyC]
 refine take_p (i:=41) 88 (v:=?vv41) rfl rfl (by kernel_rfl) (by kernel_rfl) (by kernel_rfl) (fun _ _ _ h=>h) (Or.inl ⟨rfl,?hy41⟩) (by assumption) ?rr41
 case hy41=>(intro w hSw;(try dsimp only at hSw);go_simp;try with_reducible rfl)
 try simp only [Act.put,lyA,lyB,lyC]
 refine take_p (i:=42) 89 (v:=?vv42) rfl rfl (by kernel_rfl) (by kernel_rfl) (by kernel_rfl) (fun _ _ _ h=>h) (Or.inl ⟨rfl,?hy42⟩) (by assumption) ?rr42
 case hy42=>(intro w hSw;(try dsimp only at hSw);go_simp;try with_reducible rfl)
 try simp only [Act.put,lyA,lyB,lyC]
 refine take_p (i:=43) 90 (v:=?vv43) rfl rfl (by kernel_rfl) (by kernel_rfl) (by kernel_rfl) (fun _ _ _ h=>h) (Or.inl ⟨rfl,?hy43⟩) (by assumption) ?rr43
 case hy43=>(intro w hSw;(try dsimp only at hSw);go_simp;try with_reducible rfl)
 try simp only [Act.put,lyA,lyB,lyC]
 refine take_p (i:=44) 91 (v:=?vv44) rfl rfl (by kernel_rfl) (by kernel_rfl) (by kernel_rfl) (fun _ _ _ h=>h) (Or.inl ⟨rfl,?hy44⟩) (by assumption) ?rr44
 case hy44=>(intro w hSw;(try dsimp only at hSw);go_simp;try with_reducible rfl)
 try simp only [Act.put,lyA,lyB,lyC]
 refine take_p (i:=45) 92 (v:=?vv45) rfl rfl (by kernel_rfl) (by kernel_rfl) (by kernel_rfl) (fun _ _ _ h=>h) (Or.inl ⟨rfl,?hy45⟩) (by assumption) ?rr45
 case hy45=>(intro w hSw;(try dsimp only at hSw);go_simp;try with_reducible rfl)
 try simp only [Act.put,lyA,lyB,lyC]
 refine take_p (i:=46) 93 (v:=?vv46) rfl rfl (by kernel_rfl) (by kernel_rfl) (by kernel_rfl) (fun _ _ _ h=>h) (Or.inl ⟨rfl,?hy46⟩) (by assumption) ?rr46
 case hy46=>(intro w hSw;(try dsimp only at hSw);go_simp;try with_reducible rfl)
 try simp only [Act.put,lyA,lyB,lyC]
 refine call_p (i:=47) (some 94) rfl rfl (by kernel_rfl) (fun K hK=>?_)
 go_simp
 have I47:=ZZ (show Il (x40.alloc (.cells #[.int .i64 0,.int .i64 1] 2)) (.slice (some ⟨x40.heap.size,0,none⟩) 2 2) [0,1] from il_new (x40) [0,1] _);refine hK.out _ _ (HC.out _ (ak hx40.out (ab _ _))) (fun hHeld=>?_);clear hK K
 try simp only [Act.put,lyA,lyB,lyC]
 refine call_p (i:=48) (some 95) rfl rfl (by kernel_rfl) (fun K hK=>?_)
 go_simp
 go_at_call 6
 refine(ints_p _ [0,1] (by decide) (by decide) _ I47.out).mono ?_;rintro e x48 ⟨y48,rfl,h,kk⟩;have P48:=ZZ h;have hx48:=ZZ (show Ext W6 x48 from ak (ak hx40.out (ab _ _)) kk);clear h kk I47
 try go_wp2_with fail
 refine hK.out _ _ (HC.out _ hx48.out) (fun hHeld=>?_);clear hK K
 try simp only [Act.put,lyA,lyB,lyC]
 refine call_p (i:=49) (some 96) rfl rfl (by kernel_rfl) (fun K hK=>?_)
 go_simp
 go_at_call 12
 refine(equal_p 2000 (by decide) _ _ (intsF [0,1]) (by decide) _ (U1.out.mono hx48.out) P48.out (sm_of (show smB 2000 (intsF [0,1])=true by kernel_rfl))).mono ?_;rintro e x49 ⟨rfl,kk⟩;have hx49:=ZZ (show Ext W6 x49 from ak hx48.out kk);clear kk
 try go_wp2_with fail
 refine hK.out _ _ (HC.out _ hx49.out) (fun hHeld=>?_);clear hK K
 try simp only [Act.put,lyA,lyB,lyC]
 refine take_p (i:=50) 97 (v:=?vv50) rfl rfl (by kernel_rfl) (by kernel_rfl) (by kernel_rfl) (fun _ _ _ h=>h) (Or.inl ⟨rfl,?hy50⟩) (by assumption) ?rr50
 case hy50=>(intro w hSw;(try dsimp only at hSw);go_simp;try with_reducible rfl)
 try simp only [Act.put,lyA,lyB,lyC]
 refine take_p (i:=51) 98 (v:=?vv51) rfl rfl (by kernel_rfl) (by kernel_rfl) (by kernel_rfl) (fun _ _ _ h=>h) (Or.inl ⟨rfl,?hy51⟩) (by assumption) ?rr51
 case hy51=>(intro w hSw;(try dsimp only at hSw);go_simp;try with_reducible rfl)
 try simp only [Act.put,lyA,lyB,lyC]
 refine take_p (i:=52) 99 (v:=?vv52) rfl rfl (by kernel_rfl) (by kernel_rfl) (by kernel_rfl) (fun _ _ _ h=>h) (Or.inl ⟨rfl,?hy52⟩) (by assumption) ?rr52
 case hy52=>(intro w hSw;(try dsimp only at hSw);go_simp;try with_reducible rfl)
 try simp only [Act.put,lyA,lyB,lyC]
 refine take_p (i:=53) 100 (v:=?vv53) rfl rfl (by kernel_rfl) (by kernel_rfl) (by kernel_rfl) (fun _ _ _ h=>h) (Or.inl ⟨rfl,?hy53⟩) (by assumption) ?rr53
 case hy53=>(intro w hSw;(try dsimp only at hSw);go_simp;try with_reducible rfl)
 try simp only [Act.put,lyA,lyB,lyC]
 refine take_p (i:=54) 101 (v:=?vv54) rfl rfl (by kernel_rfl) (by kernel_rfl) (by kernel_rfl) (fun _ _ _ h=>h) (Or.inl ⟨rfl,?hy54⟩) (by assumption) ?rr54
 case hy54=>(intro w hSw;(try dsimp only at hSw);go_simp;try with_reducible rfl)
 try simp only [Act.put,lyA,lyB,lyC]
 refine call_p (i:=55) (some 102) rfl rfl (by kernel_rfl) (fun K hK=>?_)
 go_simp
 go_at_call 13
 refine(text_litP 2000 (by decide) _ (((-4:Int)):Rat) _ kn21 _ (NA.out.mono hx49.out) ((bq_int (-4) (by decide) (by decide)).mono (by decide):Bq 2000 (((-4:Int)):Rat)) (HT.out.mono hx49.out)).mono ?_;rintro e x55 ⟨rfl,kk⟩;have hx55:=ZZ (show Ext W6 x55 from ak hx49.out kk);clear kk
 try go_wp2_with fail
 refine hK.out _ _ (HC.out _ hx55.out) (fun hHeld=>?_);clear hK K
 try simp only [Act.put,lyA,lyB,lyC]
 refine take_p (i:=56) 103 (v:=?vv56) rfl rfl (by kernel_rfl) (by kernel_rfl) (by kernel_rfl) (fun _ _ _ h=>h) (Or.inl ⟨rfl,?hy56⟩) (by assumption) ?rr56
 case hy56=>(intro w hSw;(try dsimp only at hSw);go_simp;try with_reducible rfl)
 try simp only [Act.put,lyA,lyB,lyC]
 refine take_p (i:=57) 104 (v:=?vv57) rfl rfl (by kernel_rfl) (by kernel_rfl) (by kernel_rfl) (fun _ _ _ h=>h) (Or.inl ⟨rfl,?hy57⟩) (by assumption) ?rr57
 case hy57=>(intro w hSw;(try dsimp only at hSw);go_simp;try with_reducible rfl)
 try simp only [Act.put,lyA,lyB,lyC]
 refine take_p (i:=58) 105 (v:=?vv58) rfl rfl (by kernel_rfl) (by kernel_rfl) (by kernel_rfl) (fun _ _ _ h=>h) (Or.inl ⟨rfl,?hy58⟩) (by assumption) ?rr58
 case hy58=>(intro w hSw;(try dsimp only at hSw);go_simp;try with_reducible rfl)
 try simp only [Act.put,lyA,lyB,lyC]
 refine take_p (i:=59) 106 (v:=?vv59) rfl rfl (by kernel_rfl) (by kernel_rfl) (by kernel_rfl) (fun _ _ _ h=>h) (Or.inl ⟨rfl,?hy59⟩) (by assumption) ?rr59
 case hy59=>(intro w hSw;(try dsimp only at hSw);go_simp;try with_reducible rfl)
 try simp only [Act.put,lyA,lyB,lyC]
 refine take_p (i:=60) 107 (v:=?vv60) rfl rfl (by kernel_rfl) (by kernel_rfl) (by kernel_rfl) (fun _ _ _ h=>h) (Or.inl ⟨rfl,?hy60⟩) (by assumption) ?rr60
 case hy60=>(intro w hSw;(try dsimp only at hSw);go_simp;try with_reducible rfl)
 try simp only [Act.put,lyA,lyB,lyC]
 refine call_p (i:=61) (some 108) rfl rfl (by kernel_rfl) (fun K hK=>?_)
 go_simp
 go_at_call 13
 refine(text_litP 2000 (by decide) _ (((2:Int)):Rat) _ kn22 _ (NB.out.mono hx55.out) ((bq_int (2) (by decide) (by decide)).mono (by decide):Bq 2000 (((2:Int)):Rat)) (HT.out.mono hx55.out)).mono ?_;rintro e x61 ⟨rfl,kk⟩;have hx61:=ZZ (show Ext W6 x61 from ak hx55.out kk);clear kk
 try go_wp2_with fail
 refine hK.out _ _ (HC.out _ hx61.out) (fun hHeld=>?_);clear hK K
 try simp only [Act.put,lyA,lyB,lyC]
 refine take_p (i:=62) 109 (v:=?vv62) rfl rfl (by kernel_rfl) (by kernel_rfl) (by kernel_rfl) (fun _ _ _ h=>h) (Or.inl ⟨rfl,?hy62⟩) (by assumption) ?rr62
 case hy62=>(intro w hSw;(try dsimp only at hSw);go_simp;try with_reducible rfl)
 try simp only [Act.put,lyA,lyB,lyC]
 refine take_p (i:=63) 110 (v:=?vv63) rfl rfl (by kernel_rfl) (by kernel_rfl) (by kernel_rfl) (fun _ _ _ h=>h) (Or.inl ⟨rfl,?hy63⟩) (by assumption) ?rr63
 case hy63=>(intro w hSw;(try dsimp only at hSw);go_simp;try with_reducible rfl)
 try simp only [Act.put,lyA,lyB,lyC]
 refine wpAnyH_done (by kernel_rfl) ?_ _;refine NoPanic.normal ?_
 replace HT:=ZZ (HT.out.mono hx61.out)
 replace P1:=ZZ (P1.out.mono hx61.out)
 replace EB:=ZZ (ak EB.out hx61.out)
 clear PQ PG U0 U1 NA NB C4 R9 HC;go_wp2_with fail;refine(roots_p 2000 60 (by decide) (by decide) _ (intsF [2,-3,1]) 3 (by decide) (by decide) _ P1.out (fun _=>kn9) _ kn8).mono ?_;rintro e w11 ⟨vs,rfl,hs,kk⟩
 replace HT:=ZZ (HT.out.mono kk)
 replace P1:=ZZ (P1.out.mono kk)
 replace EB:=ZZ (ak EB.out kk)
 obtain⟨A8,cap8,e8,-,hA8⟩:=hs
 replace e8:vs=.slice A8 2 cap8:=e8
 subst e8
 rcases hA8 with ⟨-,h9⟩|⟨b8,e9,hA8⟩
 ·cases h9
 subst e9;obtain⟨s41,A41,k41,ca41,B41,l41,cb41,s42,A42,k42,ca42,B42,l42,cb42,x0,x1,x2,x3,x4,x5,hsp0⟩:=hA8 0 (1,1) rfl;obtain⟨s43,A43,k43,ca43,B43,l43,cb43,s44,A44,k44,ca44,B44,l44,cb44,y0,y1,y2,y3,y4,y5,hsp1⟩:=hA8 1 (2,2) rfl;have hn41:Nm w11 (.agg #[.bool s41,.slice A41 k41 ca41,.slice B41 l41 cb41]) 1:=(sp_two hsp0).1;have hn42:Nm w11 (.agg #[.bool s42,.slice A42 k42 ca42,.slice B42 l42 cb42]) 1:=(sp_two hsp0).2;have hn44:Nm w11 (.agg #[.bool s44,.slice A44 k44 ca44,.slice B44 l44 cb44]) 2:=(sp_two hsp1).2;have hcr:CLs w11 b8 [.bool s41,.slice A41 k41 ca41,.slice B41 l41 cb41,.bool s42,.slice A42 k42 ca42,.slice B42 l42 cb42,.bool s43,.slice A43 k43 ca43,.slice B43 l43 cb43,.bool s44,.slice A44 k44 ca44,.slice B44 l44 cb44]:=by intro i v hv;match i,hv with|0,hv=>obtain rfl:=Option.some.inj hv;exact x0|1,hv=>obtain rfl:=Option.some.inj hv;exact x1|2,hv=>obtain rfl:=Option.some.inj hv;exact x2|3,hv=>obtain rfl:=Option.some.inj hv;exact x3|4,hv=>obtain rfl:=Option.some.inj hv;exact x4|5,hv=>obtain rfl:=Option.some.inj hv;exact x5|6,hv=>obtain rfl:=Option.some.inj hv;exact y0|7,hv=>obtain rfl:=Option.some.inj hv;exact y1|8,hv=>obtain rfl:=Option.some.inj hv;exact y2|9,hv=>obtain rfl:=Option.some.inj hv;exact y3|10,hv=>obtain rfl:=Option.some.inj hv;exact y4|11,hv=>obtain rfl:=Option.some.inj hv;exact y5|n+12,hv=>simp at hv
 clear hA8 x0 x1 x2 x3 x4 x5 y0 y1 y2 y3 y4 y5 hsp0 hsp1;have CR:=ZZ hcr;have N41:=ZZ hn41;have N42:=ZZ hn42;have N44:=ZZ hn44;clear kk hcr hn41 hn42 hn44;clear P1;go_wp2_with fail;refine(int_q (1) (by decide) (by decide) _).mono ?_;rintro e w12 ⟨v51,rfl,h,kk⟩
 replace HT:=ZZ (HT.out.mono kk)
 replace CR:=ZZ (CR.out.mono kk)
 replace N41:=ZZ (N41.out.mono kk)
 replace N42:=ZZ (N42.out.mono kk)
 replace N44:=ZZ (N44.out.mono kk)
 replace EB:=ZZ (ak EB.out kk)
 obtain⟨s51,A51,k51,ca51,B51,l51,cb51,rfl⟩:=h.form2;have Q51:=ZZ h;clear kk h;go_wp2_with fail;refine(int_q (2) (by decide) (by decide) _).mono ?_;rintro e w13 ⟨v52,rfl,h,kk⟩
 replace HT:=ZZ (HT.out.mono kk)
 replace CR:=ZZ (CR.out.mono kk)
 replace N41:=ZZ (N41.out.mono kk)
 replace N42:=ZZ (N42.out.mono kk)
 replace N44:=ZZ (N44.out.mono kk)
 replace Q51:=ZZ (Q51.out.mono kk)
 replace EB:=ZZ (ak EB.out kk)
 obtain⟨s52,A52,k52,ca52,B52,l52,cb52,rfl⟩:=h.form2;have Q52:=ZZ h;clear kk h;go_wp2_with fail;refine(int_q (-2) (by decide) (by decide) _).mono ?_;rintro e w14 ⟨v53,rfl,h,kk⟩
 replace HT:=ZZ (HT.out.mono kk)
 replace CR:=ZZ (CR.out.mono kk)
 replace N41:=ZZ (N41.out.mono kk)
 replace N42:=ZZ (N42.out.mono kk)
 replace N44:=ZZ (N44.out.mono kk)
 replace Q51:=ZZ (Q51.out.mono kk)
 replace Q52:=ZZ (Q52.out.mono kk)
 replace EB:=ZZ (ak EB.out kk)
 obtain⟨s53,A53,k53,ca53,B53,l53,cb53,rfl⟩:=h.form2;have Q53:=ZZ h;clear kk h;go_wp2_with fail;refine(int_q (2) (by decide) (by decide) _).mono ?_;rintro e w15 ⟨v54,rfl,h,kk⟩
 replace HT:=ZZ (HT.out.mono kk)
 replace CR:=ZZ (CR.out.mono kk)
 replace N41:=ZZ (N41.out.mono kk)
 replace N42:=ZZ (N42.out.mono kk)
 replace N44:=ZZ (N44.out.mono kk)
 replace Q51:=ZZ (Q51.out.mono kk)
 replace Q52:=ZZ (Q52.out.mono kk)
 replace Q53:=ZZ (Q53.out.mono kk)
 replace EB:=ZZ (ak EB.out kk)
 obtain⟨s54,A54,k54,ca54,B54,l54,cb54,rfl⟩:=h.form2;have Q54:=ZZ h;clear kk h
 go_upto_region 10 with (fail)
 have XE:=ZZ (ak (ab w15 (.cells #[.bool s51,.slice A51 k51 ca51,.slice B51 l51 cb51,.bool s52,.slice A52 k52 ca52,.slice B52 l52 cb52] 37)) (ab (w15.alloc (.cells #[.bool s51,.slice A51 k51 ca51,.slice B51 l51 cb51,.bool s52,.slice A52 k52 ca52,.slice B52 l52 cb52] 37)) (.cells #[.bool s53,.slice A53 k53 ca53,.slice B53 l53 cb53,.bool s54,.slice A54 k54 ca54,.slice B54 l54 cb54] 37)));have RA:=ZZ (show Row ((w15.alloc (.cells #[.bool s51,.slice A51 k51 ca51,.slice B51 l51 cb51,.bool s52,.slice A52 k52 ca52,.slice B52 l52 cb52] 37)).alloc (.cells #[.bool s53,.slice A53 k53 ca53,.slice B53 l53 cb53,.bool s54,.slice A54 k54 ca54,.slice B54 l54 cb54] 37)) w15.heap.size (.cells #[.bool s51,.slice A51 k51 ca51,.slice B51 l51 cb51,.bool s52,.slice A52 k52 ca52,.slice B52 l52 cb52] 37) from (heap_alloc_new w15 (.cells #[.bool s51,.slice A51 k51 ca51,.slice B51 l51 cb51,.bool s52,.slice A52 k52 ca52,.slice B52 l52 cb52] 37) |> fun h=>((ab (w15.alloc (.cells #[.bool s51,.slice A51 k51 ca51,.slice B51 l51 cb51,.bool s52,.slice A52 k52 ca52,.slice B52 l52 cb52] 37)) (.cells #[.bool s53,.slice A53 k53 ca53,.slice B53 l53 cb53,.bool s54,.slice A54 k54 ca54,.slice B54 l54 cb54] 37)).block _ (lt_of_block h)).trans h))
 have RB:=ZZ (show Row ((w15.alloc (.cells #[.bool s51,.slice A51 k51 ca51,.slice B51 l51 cb51,.bool s52,.slice A52 k52 ca52,.slice B52 l52 cb52] 37)).alloc (.cells #[.bool s53,.slice A53 k53 ca53,.slice B53 l53 cb53,.bool s54,.slice A54 k54 ca54,.slice B54 l54 cb54] 37)) (w15.heap.size+1) (.cells #[.bool s53,.slice A53 k53 ca53,.slice B53 l53 cb53,.bool s54,.slice A54 k54 ca54,.slice B54 l54 cb54] 37) from by have h:=heap_alloc_new (w15.alloc (.cells #[.bool s51,.slice A51 k51 ca51,.slice B51 l51 cb51,.bool s52,.slice A52 k52 ca52,.slice B52 l52 cb52] 37)) (.cells #[.bool s53,.slice A53 k53 ca53,.slice B53 l53 cb53,.bool s54,.slice A54 k54 ca54,.slice B54 l54 cb54] 37);rw [World.size_alloc] at h;exact h)
 replace HT:=ZZ (HT.out.mono XE.out)
 replace CR:=ZZ (CR.out.mono XE.out)
 replace N41:=ZZ (N41.out.mono XE.out)
 replace N42:=ZZ (N42.out.mono XE.out)
 replace N44:=ZZ (N44.out.mono XE.out)
 replace Q51:=ZZ (Q51.out.mono XE.out)
 replace Q52:=ZZ (Q52.out.mono XE.out)
 replace Q53:=ZZ (Q53.out.mono XE.out)
 replace Q54:=ZZ (Q54.out.mono XE.out)
 replace EB:=ZZ (ak EB.out XE.out)
 clear XE;generalize (w15.alloc (.cells #[.bool s51,.slice A51 k51 ca51,.slice B51 l51 cb51,.bool s52,.slice A52 k52 ca52,.slice B52 l52 cb52] _)).alloc (.cells #[.bool s53,.slice A53 k53 ca53,.slice B53 l53 cb53,.bool s54,.slice A54 k54 ca54,.slice B54 l54 cb54] _)=W10 at *;obtain⟨g11,hg11⟩:∃g,w15.heap.size=g:=⟨_,rfl⟩;obtain⟨g12,hg12⟩:∃g,w15.heap.size+1=g:=⟨_,rfl⟩;rw [hg11] at RA;rw [hg12] at RB;rw [hg12,hg11];clear hg11 hg12
 have HCg:=ZZ (show ∀W,Ext W10 W→W.cell? ⟨g11,0,none⟩=some (.bool s51)∧W.cell? ⟨g11,1,none⟩=some (.slice A51 k51 ca51)∧W.cell? ⟨g11,2,none⟩=some (.slice B51 l51 cb51)∧W.cell? ⟨g11,3,none⟩=some (.bool s52)∧W.cell? ⟨g11,4,none⟩=some (.slice A52 k52 ca52)∧W.cell? ⟨g11,5,none⟩=some (.slice B52 l52 cb52) from fun W k=>by
  obtain⟨y0,y1,y2,y3,y4,y5,-⟩:=ai (RA.out.mono k);exact⟨y0,y1,y2,y3,y4,y5⟩)
 refine wp_region_noPanic ?_;refine wp_region_held_drew (S:=fun W=>W.cell? ⟨g11,0,none⟩=some (.bool s51)∧W.cell? ⟨g11,1,none⟩=some (.slice A51 k51 ca51)∧W.cell? ⟨g11,2,none⟩=some (.slice B51 l51 cb51)∧W.cell? ⟨g11,3,none⟩=some (.bool s52)∧W.cell? ⟨g11,4,none⟩=some (.slice A52 k52 ca52)∧W.cell? ⟨g11,5,none⟩=some (.slice B52 l52 cb52)) (by kernel_rfl) (HCg.out _ (ac _)) (fun hHeld=>?_);refine take_p (i:=2) 125 (v:=?vvg2) rfl rfl (by kernel_rfl) (by kernel_rfl) (by kernel_rfl) (fun _ _ _ h=>h) (Or.inl ⟨rfl,?hyg2⟩) (by assumption) ?rrg2
 case hyg2=>(intro w hSw;(try dsimp only at hSw);go_simp;try with_reducible rfl)
 try simp only [Act.put,lyA,lyB,lyC]
 refine free_q (J:=fun D y W=>Hid (Ext W10 W)∧Fc (D 0) (Il W (y 0) [-2,0,1])∧Fc (D 1) (Pl W (y 1) (intsF [-2,0,1]))∧Fc (D 3) (Il W (y 3) [-3,2])∧Fc (D 4) (Pl W (y 4) (intsF [-3,2]))) [(0,123),(1,124),(3,126),(4,127)] 6 rfl (by kernel_rfl) (by kernel_rfl) (by assumption) (fun D y hD=>⟨ZZ (ac _),Fc.off (hD 0 (by simp)),Fc.off (hD 1 (by simp)),Fc.off (hD 3 (by simp)),Fc.off (hD 4 (by simp))⟩) (met_cons ?mtg0 (met_cons ?mtg1 (met_cons ?mtg3 (met_cons ?mtg4 met_nil)))) (fun D y w hD hHeld hJ=>?fing)
 case mtg0=>
  refine Met.mq [] 123 rfl rfl (by kernel_rfl) (by kernel_rfl) (fun D y w hS hJ hD hd K hK=>?_);obtain⟨he,f0,f1,f3,f4⟩:=hJ
  simp only [putsL,allOf,List.map_cons,List.map_nil,List.foldl_cons,List.foldl_nil,Act.put,List.setIfInBounds_toArray,List.set_cons_zero,List.set_cons_succ]
  go_simp
  refine hK.out (.slice (some ⟨w.heap.size,0,none⟩) 3 3) _ _ (by kernel_rfl) (HCg.out _ (ak he.out (ab _ _))) (fun hHeld=>?_);exact⟨ZZ (ak he.out (ab _ _)),Fc.on (show Il (w.alloc (.cells #[.int .i64 (-2),.int .i64 0,.int .i64 1] 2)) (.slice (some ⟨w.heap.size,0,none⟩) 3 3) [-2,0,1] from il_new w [-2,0,1] _),f1.map (·.mono (ab _ _)),f3.map (·.mono (ab _ _)),f4.map (·.mono (ab _ _))⟩
 case mtg1=>
  refine Met.mq [0] 124 rfl rfl (by kernel_rfl) (by kernel_rfl) (fun D y w hS hJ hD hd K hK=>?_);obtain⟨he,f0,f1,f3,f4⟩:=hJ
  simp only [putsL,allOf,List.map_cons,List.map_nil,List.foldl_cons,List.foldl_nil,Act.put,List.setIfInBounds_toArray,List.set_cons_zero,List.set_cons_succ]
  go_simp
  go_at_call 6
  refine(ints_p _ [-2,0,1] (by decide) (by decide) _ (f0.get (hd 0 (by simp)))).mono ?_;rintro e X ⟨vr1,rfl,hv,kv⟩
  try go_wp2_with fail
  refine hK.out vr1 _ _ (by kernel_rfl) (HCg.out _ (ak he.out kv)) (fun hHeld=>?_);exact⟨ZZ (ak he.out kv),f0.map (·.mono kv),Fc.on hv,f3.map (·.mono kv),f4.map (·.mono kv)⟩
 case mtg3=>
  refine Met.mq [] 126 rfl rfl (by kernel_rfl) (by kernel_rfl) (fun D y w hS hJ hD hd K hK=>?_);obtain⟨he,f0,f1,f3,f4⟩:=hJ
  simp only [putsL,allOf,List.map_cons,List.map_nil,List.foldl_cons,List.foldl_nil,Act.put,List.setIfInBounds_toArray,List.set_cons_zero,List.set_cons_succ]
  go_simp
  refine hK.out (.slice (some ⟨w.heap.size,0,none⟩) 2 2) _ _ (by kernel_rfl) (HCg.out _ (ak he.out (ab _ _))) (fun hHeld=>?_);exact⟨ZZ (ak he.out (ab _ _)),f0.map (·.mono (ab _ _)),f1.map (·.mono (ab _ _)),Fc.on (show Il (w.alloc (.cells #[.int .i64 (-3),.int .i64 2] 2)) (.slice (some ⟨w.heap.size,0,none⟩) 2 2) [-3,2] from il_new w [-3,2] _),f4.map (·.mono (ab _ _))⟩
 case mtg4=>
  refine Met.mq [1,3] 127 rfl rfl (by kernel_rfl) (by kernel_rfl) (fun D y w hS hJ hD hd K hK=>?_);obtain⟨he,f0,f1,f3,f4⟩:=hJ
  simp only [putsL,allOf,List.map_cons,List.map_nil,List.foldl_cons,List.foldl_nil,Act.put,List.setIfInBounds_toArray,List.set_cons_zero,List.set_cons_succ]
  go_simp
  go_at_call 6
  refine(ints_p _ [-3,2] (by decide) (by decide) _ (f3.get (hd 3 (by simp)))).mono ?_;rintro e X ⟨vr4,rfl,hv,kv⟩
  try go_wp2_with fail
  refine hK.out vr4 _ _ (by kernel_rfl) (HCg.out _ (ak he.out kv)) (fun hHeld=>?_);exact⟨ZZ (ak he.out kv),f0.map (·.mono kv),f1.map (·.mono kv),f3.map (·.mono kv),Fc.on hv⟩
 case fing=>
  obtain⟨he,f0,f1,f3,f4⟩:=hJ;have n1:=ZZ (f1.get (hD 1 (by simp)));have n4:=ZZ (f4.get (hD 4 (by simp)))
  simp only [putsL,allOf,List.map_cons,List.map_nil,List.foldl_cons,List.foldl_nil,Act.put,List.setIfInBounds_toArray,List.set_cons_zero,List.set_cons_succ]
  clear f0 f1 f3 f4 hD;generalize y 1=z1 at n1 ⊢;generalize y 4=z4 at n4 ⊢;refine call_p (i:=5) (some 128) rfl rfl (by kernel_rfl) (fun K hK=>?_)
  go_simp
  go_at_call 15
  refine(sign_at_p 2000 (by decide) (by decide) _ _ _ (intsF [-2,0,1]) (intsF [-3,2]) (((1:Int)):Rat) (((2:Int)):Rat) (by decide) (by decide) _ n1.out ⟨_,_,_,_,_,_,rfl,Q51.out.mono he.out,Q52.out.mono he.out⟩ n4.out ((bq_int (1) (by decide) (by decide)).mono (by decide):Bq 2000 (((1:Int)):Rat)) ((bq_int (2) (by decide) (by decide)).mono (by decide):Bq 2000 (((2:Int)):Rat)) (sm_of (show smB 2000 (intsF [-2,0,1])=true by kernel_rfl)) (sm_of (show smB 2000 (intsF [-3,2])=true by kernel_rfl)) (fun _ _=>kn11) (fun _ _ _=>kn12) _ kn10).mono ?_;rintro e z10 ⟨rfl,kk⟩;have XX:=ZZ (ak he.out kk);clear kk n1 n4 he
  try go_wp2_with fail
  refine hK.out _ _ (HCg.out _ XX.out) (fun hHeld=>?_);clear hK K
  try simp only [Act.put,lyA,lyB,lyC]
  refine take_p (i:=6) 122 (v:=?vvg6) rfl rfl (by kernel_rfl) (by kernel_rfl) (by kernel_rfl) (fun _ _ _ h=>h) (Or.inl ⟨rfl,?hyg6⟩) (by assumption) ?rrg6
  case hyg6=>(intro w hSw;(try dsimp only at hSw);go_simp;try with_reducible rfl)
  try simp only [Act.put,lyA,lyB,lyC]
  refine take_p (i:=7) 129 (v:=?vvg7) rfl rfl (by kernel_rfl) (by kernel_rfl) (by kernel_rfl) (fun _ _ _ h=>h) (Or.inl ⟨rfl,?hyg7⟩) (by assumption) ?rrg7
  case hyg7=>(intro w hSw;(try dsimp only at hSw);go_simp;try with_reducible rfl)
  try simp only [Act.put,lyA,lyB,lyC]
  refine take_p (i:=9) 13 (v:=?vvg9) rfl rfl (by kernel_rfl) (by kernel_rfl) (by kernel_rfl) (fun _ _ _ h=>h) (Or.inl ⟨rfl,?hyg9⟩) (by assumption) ?rrg9
  case hyg9=>(intro w hSw;(try dsimp only at hSw);go_simp;try with_reducible rfl)
  try simp only [Act.put,lyA,lyB,lyC]
  refine take_p (i:=8) 130 (v:=?vvg8) rfl rfl (by kernel_rfl) (by kernel_rfl) (by kernel_rfl) (fun _ _ _ h=>h) (Or.inl ⟨rfl,?hyg8⟩) (by assumption) ?rrg8
  case hyg8=>(intro w hSw;(try dsimp only at hSw);go_simp;try with_reducible rfl)
  try simp only [Act.put,lyA,lyB,lyC]
  refine take_p (i:=10) 6 (v:=?vvg10) rfl rfl (by kernel_rfl) (by kernel_rfl) (by kernel_rfl) (fun _ _ _ h=>h) (Or.inl ⟨rfl,?hyg10⟩) (by assumption) ?rrg10
  case hyg10=>(intro w hSw;(try dsimp only at hSw);go_simp;try with_reducible rfl)
  try simp only [Act.put,lyA,lyB,lyC]
  refine wpAnyH_done (by kernel_rfl) ?_ _;refine NoPanic.normal ?_
  replace HT:=ZZ (HT.out.mono XX.out)
  replace CR:=ZZ (CR.out.mono XX.out)
  replace N41:=ZZ (N41.out.mono XX.out)
  replace N42:=ZZ (N42.out.mono XX.out)
  replace N44:=ZZ (N44.out.mono XX.out)
  replace Q51:=ZZ (Q51.out.mono XX.out)
  replace Q52:=ZZ (Q52.out.mono XX.out)
  replace Q53:=ZZ (Q53.out.mono XX.out)
  replace Q54:=ZZ (Q54.out.mono XX.out)
  replace RA:=ZZ (RA.out.mono XX.out)
  replace RB:=ZZ (RB.out.mono XX.out)
  replace EB:=ZZ (ak EB.out XX.out)
  clear XX HCg hHeld
  go_upto_region 11 with (fail)
  have HCh:=ZZ (show ∀W,Ext z10 W→W.cell? ⟨g12,0,none⟩=some (.bool s53)∧W.cell? ⟨g12,1,none⟩=some (.slice A53 k53 ca53)∧W.cell? ⟨g12,2,none⟩=some (.slice B53 l53 cb53)∧W.cell? ⟨g12,3,none⟩=some (.bool s54)∧W.cell? ⟨g12,4,none⟩=some (.slice A54 k54 ca54)∧W.cell? ⟨g12,5,none⟩=some (.slice B54 l54 cb54) from fun W k=>by
   obtain⟨y0,y1,y2,y3,y4,y5,-⟩:=ai (RB.out.mono k);exact⟨y0,y1,y2,y3,y4,y5⟩)
  refine wp_region_noPanic ?_;refine wp_region_held_drew (S:=fun W=>W.cell? ⟨g12,0,none⟩=some (.bool s53)∧W.cell? ⟨g12,1,none⟩=some (.slice A53 k53 ca53)∧W.cell? ⟨g12,2,none⟩=some (.slice B53 l53 cb53)∧W.cell? ⟨g12,3,none⟩=some (.bool s54)∧W.cell? ⟨g12,4,none⟩=some (.slice A54 k54 ca54)∧W.cell? ⟨g12,5,none⟩=some (.slice B54 l54 cb54)) (by kernel_rfl) (HCh.out _ (ac _)) (fun hHeld=>?_);refine take_p (i:=2) 134 (v:=?vvh2) rfl rfl (by kernel_rfl) (by kernel_rfl) (by kernel_rfl) (fun _ _ _ h=>h) (Or.inl ⟨rfl,?hyh2⟩) (by assumption) ?rrh2
  case hyh2=>(intro w hSw;(try dsimp only at hSw);go_simp;try with_reducible rfl)
  try simp only [Act.put,lyA,lyB,lyC]
  refine free_q (J:=fun D y W=>Hid (Ext z10 W)∧Fc (D 0) (Il W (y 0) [-2,0,1])∧Fc (D 1) (Pl W (y 1) (intsF [-2,0,1]))∧Fc (D 3) (Il W (y 3) [-3,2])∧Fc (D 4) (Pl W (y 4) (intsF [-3,2]))) [(0,132),(1,133),(3,135),(4,136)] 5 rfl (by kernel_rfl) (by kernel_rfl) (by assumption) (fun D y hD=>⟨ZZ (ac _),Fc.off (hD 0 (by simp)),Fc.off (hD 1 (by simp)),Fc.off (hD 3 (by simp)),Fc.off (hD 4 (by simp))⟩) (met_cons ?mth0 (met_cons ?mth1 (met_cons ?mth3 (met_cons ?mth4 met_nil)))) (fun D y w hD hHeld hJ=>?finh)
  case mth0=>
   refine Met.mq [] 132 rfl rfl (by kernel_rfl) (by kernel_rfl) (fun D y w hS hJ hD hd K hK=>?_);obtain⟨he,f0,f1,f3,f4⟩:=hJ
   simp only [putsL,allOf,List.map_cons,List.map_nil,List.foldl_cons,List.foldl_nil,Act.put,List.setIfInBounds_toArray,List.set_cons_zero,List.set_cons_succ]
   go_simp
   refine hK.out (.slice (some ⟨w.heap.size,0,none⟩) 3 3) _ _ (by kernel_rfl) (HCh.out _ (ak he.out (ab _ _))) (fun hHeld=>?_);exact⟨ZZ (ak he.out (ab _ _)),Fc.on (show Il (w.alloc (.cells #[.int .i64 (-2),.int .i64 0,.int .i64 1] 2)) (.slice (some ⟨w.heap.size,0,none⟩) 3 3) [-2,0,1] from il_new w [-2,0,1] _),f1.map (·.mono (ab _ _)),f3.map (·.mono (ab _ _)),f4.map (·.mono (ab _ _))⟩
  case mth1=>
   refine Met.mq [0] 133 rfl rfl (by kernel_rfl) (by kernel_rfl) (fun D y w hS hJ hD hd K hK=>?_);obtain⟨he,f0,f1,f3,f4⟩:=hJ
   simp only [putsL,allOf,List.map_cons,List.map_nil,List.foldl_cons,List.foldl_nil,Act.put,List.setIfInBounds_toArray,List.set_cons_zero,List.set_cons_succ]
   go_simp
   go_at_call 6
   refine(ints_p _ [-2,0,1] (by decide) (by decide) _ (f0.get (hd 0 (by simp)))).mono ?_;rintro e X ⟨vr1,rfl,hv,kv⟩
   try go_wp2_with fail
   refine hK.out vr1 _ _ (by kernel_rfl) (HCh.out _ (ak he.out kv)) (fun hHeld=>?_);exact⟨ZZ (ak he.out kv),f0.map (·.mono kv),Fc.on hv,f3.map (·.mono kv),f4.map (·.mono kv)⟩
  case mth3=>
   refine Met.mq [] 135 rfl rfl (by kernel_rfl) (by kernel_rfl) (fun D y w hS hJ hD hd K hK=>?_);obtain⟨he,f0,f1,f3,f4⟩:=hJ
   simp only [putsL,allOf,List.map_cons,List.map_nil,List.foldl_cons,List.foldl_nil,Act.put,List.setIfInBounds_toArray,List.set_cons_zero,List.set_cons_succ]
   go_simp
   refine hK.out (.slice (some ⟨w.heap.size,0,none⟩) 2 2) _ _ (by kernel_rfl) (HCh.out _ (ak he.out (ab _ _))) (fun hHeld=>?_);exact⟨ZZ (ak he.out (ab _ _)),f0.map (·.mono (ab _ _)),f1.map (·.mono (ab _ _)),Fc.on (show Il (w.alloc (.cells #[.int .i64 (-3),.int .i64 2] 2)) (.slice (some ⟨w.heap.size,0,none⟩) 2 2) [-3,2] from il_new w [-3,2] _),f4.map (·.mono (ab _ _))⟩
  case mth4=>
   refine Met.mq [1,3] 136 rfl rfl (by kernel_rfl) (by kernel_rfl) (fun D y w hS hJ hD hd K hK=>?_);obtain⟨he,f0,f1,f3,f4⟩:=hJ
   simp only [putsL,allOf,List.map_cons,List.map_nil,List.foldl_cons,List.foldl_nil,Act.put,List.setIfInBounds_toArray,List.set_cons_zero,List.set_cons_succ]
   go_simp
   go_at_call 6
   refine(ints_p _ [-3,2] (by decide) (by decide) _ (f3.get (hd 3 (by simp)))).mono ?_;rintro e X ⟨vr4,rfl,hv,kv⟩
   try go_wp2_with fail
   refine hK.out vr4 _ _ (by kernel_rfl) (HCh.out _ (ak he.out kv)) (fun hHeld=>?_);exact⟨ZZ (ak he.out kv),f0.map (·.mono kv),f1.map (·.mono kv),f3.map (·.mono kv),Fc.on hv⟩
  case finh=>
   obtain⟨he,f0,f1,f3,f4⟩:=hJ;have n1:=ZZ (f1.get (hD 1 (by simp)));have n4:=ZZ (f4.get (hD 4 (by simp)))
   simp only [putsL,allOf,List.map_cons,List.map_nil,List.foldl_cons,List.foldl_nil,Act.put,List.setIfInBounds_toArray,List.set_cons_zero,List.set_cons_succ]
   clear f0 f1 f3 f4 hD;generalize y 1=z1 at n1 ⊢;generalize y 4=z4 at n4 ⊢;refine call_p (i:=5) (some 137) rfl rfl (by kernel_rfl) (fun K hK=>?_)
   go_simp
   go_at_call 15
   refine(sign_at_p 2000 (by decide) (by decide) _ _ _ (intsF [-2,0,1]) (intsF [-3,2]) (((-2:Int)):Rat) (((2:Int)):Rat) (by decide) (by decide) _ n1.out ⟨_,_,_,_,_,_,rfl,Q53.out.mono he.out,Q54.out.mono he.out⟩ n4.out ((bq_int (-2) (by decide) (by decide)).mono (by decide):Bq 2000 (((-2:Int)):Rat)) ((bq_int (2) (by decide) (by decide)).mono (by decide):Bq 2000 (((2:Int)):Rat)) (sm_of (show smB 2000 (intsF [-2,0,1])=true by kernel_rfl)) (sm_of (show smB 2000 (intsF [-3,2])=true by kernel_rfl)) (fun _ _=>kn11) (fun _ _ h=>by rw [show insideF (intsF [-2,0,1]) ((-2:Int):Rat) ((2:Int):Rat)=2 from by kernel_rfl] at h;exact absurd h (by decide)) _ kn13).mono ?_;rintro e z11 ⟨rfl,kk⟩;have XX:=ZZ (ak he.out kk);clear kk n1 n4 he
   try go_wp2_with fail
   refine hK.out _ _ (HCh.out _ XX.out) (fun hHeld=>?_);clear hK K
   try simp only [Act.put,lyA,lyB,lyC]
   refine take_p (i:=6) 131 (v:=?vvh6) rfl rfl (by kernel_rfl) (by kernel_rfl) (by kernel_rfl) (fun _ _ _ h=>h) (Or.inl ⟨rfl,?hyh6⟩) (by assumption) ?rrh6
   case hyh6=>(intro w hSw;(try dsimp only at hSw);go_simp;try with_reducible rfl)
   try simp only [Act.put,lyA,lyB,lyC]
   refine take_p (i:=7) 138 (v:=?vvh7) rfl rfl (by kernel_rfl) (by kernel_rfl) (by kernel_rfl) (fun _ _ _ h=>h) (Or.inl ⟨rfl,?hyh7⟩) (by assumption) ?rrh7
   case hyh7=>(intro w hSw;(try dsimp only at hSw);go_simp;try with_reducible rfl)
   try simp only [Act.put,lyA,lyB,lyC]
   refine take_p (i:=8) 139 (v:=?vvh8) rfl rfl (by kernel_rfl) (by kernel_rfl) (by kernel_rfl) (fun _ _ _ h=>h) (Or.inl ⟨rfl,?hyh8⟩) (by assumption) ?rrh8
   case hyh8=>(intro w hSw;(try dsimp only at hSw);go_simp;try with_reducible rfl)
   try simp only [Act.put,lyA,lyB,lyC]
   refine take_p (i:=9) 8 (v:=?vvh9) rfl rfl (by kernel_rfl) (by kernel_rfl) (by kernel_rfl) (fun _ _ _ h=>h) (Or.inl ⟨rfl,?hyh9⟩) (by assumption) ?rrh9
   case hyh9=>(intro w hSw;(try dsimp only at hSw);go_simp;try with_reducible rfl)
   try simp only [Act.put,lyA,lyB,lyC]
   refine wpAnyH_done (by kernel_rfl) ?_ _;refine NoPanic.normal ?_
   replace HT:=ZZ (HT.out.mono XX.out)
   replace CR:=ZZ (CR.out.mono XX.out)
   replace N41:=ZZ (N41.out.mono XX.out)
   replace N42:=ZZ (N42.out.mono XX.out)
   replace N44:=ZZ (N44.out.mono XX.out)
   replace Q51:=ZZ (Q51.out.mono XX.out)
   replace Q52:=ZZ (Q52.out.mono XX.out)
   replace Q53:=ZZ (Q53.out.mono XX.out)
   replace Q54:=ZZ (Q54.out.mono XX.out)
   replace RA:=ZZ (RA.out.mono XX.out)
   replace RB:=ZZ (RB.out.mono XX.out)
   replace EB:=ZZ (ak EB.out XX.out)
   clear XX HCh hHeld;clear RA RB Q51 Q52 Q53 Q54
   go_upto_region 12 with (fail)
   have HC:=ZZ (show ∀W,Ext z11 W→W.cell? ⟨b8,0,none⟩=some (.bool s41)∧W.cell? ⟨b8,1,none⟩=some (.slice A41 k41 ca41)∧W.cell? ⟨b8,2,none⟩=some (.slice B41 l41 cb41)∧W.cell? ⟨b8,3,none⟩=some (.bool s42)∧W.cell? ⟨b8,4,none⟩=some (.slice A42 k42 ca42)∧W.cell? ⟨b8,5,none⟩=some (.slice B42 l42 cb42)∧W.cell? ⟨b8,9,none⟩=some (.bool s44)∧W.cell? ⟨b8,10,none⟩=some (.slice A44 k44 ca44)∧W.cell? ⟨b8,11,none⟩=some (.slice B44 l44 cb44) from fun W k=>by
    have h:=CR.out.mono k;exact⟨h 0 _ rfl,h 1 _ rfl,h 2 _ rfl,h 3 _ rfl,h 4 _ rfl,h 5 _ rfl,h 9 _ rfl,h 10 _ rfl,h 11 _ rfl⟩)
   refine wp_region_noPanic ?_;refine wp_region_held_drew (S:=fun W=>W.cell? ⟨b8,0,none⟩=some (.bool s41)∧W.cell? ⟨b8,1,none⟩=some (.slice A41 k41 ca41)∧W.cell? ⟨b8,2,none⟩=some (.slice B41 l41 cb41)∧W.cell? ⟨b8,3,none⟩=some (.bool s42)∧W.cell? ⟨b8,4,none⟩=some (.slice A42 k42 ca42)∧W.cell? ⟨b8,5,none⟩=some (.slice B42 l42 cb42)∧W.cell? ⟨b8,9,none⟩=some (.bool s44)∧W.cell? ⟨b8,10,none⟩=some (.slice A44 k44 ca44)∧W.cell? ⟨b8,11,none⟩=some (.slice B44 l44 cb44)) (by kernel_rfl) (HC.out _ (ac _)) (fun hHeld=>?_);refine take_p (i:=0) 140 (v:=?vvk0) rfl rfl (by kernel_rfl) (by kernel_rfl) (by kernel_rfl) (fun _ _ _ h=>h) (Or.inl ⟨rfl,?hyk0⟩) (by assumption) ?rrk0
   case hyk0=>(intro w hSw;(try dsimp only at hSw);go_simp;try with_reducible rfl)
   try simp only [Act.put,lyA,lyB,lyC]
   refine take_p (i:=1) 141 (v:=?vvk1) rfl rfl (by kernel_rfl) (by kernel_rfl) (by kernel_rfl) (fun _ _ _ h=>h) (Or.inl ⟨rfl,?hyk1⟩) (by assumption) ?rrk1
   case hyk1=>(intro w hSw;(try dsimp only at hSw);go_simp;try with_reducible rfl)
   try simp only [Act.put,lyA,lyB,lyC]
   refine take_p (i:=2) 142 (v:=?vvk2) rfl rfl (by kernel_rfl) (by kernel_rfl) (by kernel_rfl) (fun _ _ _ h=>h) (Or.inl ⟨rfl,?hyk2⟩) (by assumption) ?rrk2
   case hyk2=>(intro w hSw;(try dsimp only at hSw);go_simp;try with_reducible rfl)
   try simp only [Act.put,lyA,lyB,lyC]
   refine take_p (i:=3) 143 (v:=?vvk3) rfl rfl (by kernel_rfl) (by kernel_rfl) (by kernel_rfl) (fun _ _ _ h=>h) (Or.inl ⟨rfl,?hyk3⟩) (by assumption) ?rrk3
   case hyk3=>(intro w hSw;(try dsimp only at hSw);go_simp;try with_reducible rfl)
   try simp only [Act.put,lyA,lyB,lyC]
   refine take_p (i:=4) 144 (v:=?vvk4) rfl rfl (by kernel_rfl) (by kernel_rfl) (by kernel_rfl) (fun _ _ _ h=>h) (Or.inl ⟨rfl,?hyk4⟩) (by assumption) ?rrk4
   case hyk4=>(intro w hSw;(try dsimp only at hSw);go_simp;try with_reducible rfl)
   try simp only [Act.put,lyA,lyB,lyC]
   refine take_p (i:=5) 145 (v:=?vvk5) rfl rfl (by kernel_rfl) (by kernel_rfl) (by kernel_rfl) (fun _ _ _ h=>h) (Or.inl ⟨rfl,?hyk5⟩) (by assumption) ?rrk5
   case hyk5=>(intro w hSw;(try dsimp only at hSw);go_simp;try with_reducible rfl)
   try simp only [Act.put,lyA,lyB,lyC]
   refine take_p (i:=6) 146 (v:=?vvk6) rfl rfl (by kernel_rfl) (by kernel_rfl) (by kernel_rfl) (fun _ _ _ h=>h) (Or.inl ⟨rfl,?hyk6⟩) (by assumption) ?rrk6
   case hyk6=>(intro w hSw;(try dsimp only at hSw);go_simp;try with_reducible rfl)
   try simp only [Act.put,lyA,lyB,lyC]
   refine take_p (i:=7) 147 (v:=?vvk7) rfl rfl (by kernel_rfl) (by kernel_rfl) (by kernel_rfl) (fun _ _ _ h=>h) (Or.inl ⟨rfl,?hyk7⟩) (by assumption) ?rrk7
   case hyk7=>(intro w hSw;(try dsimp only at hSw);go_simp;try with_reducible rfl)
   try simp only [Act.put,lyA,lyB,lyC]
   refine take_p (i:=8) 148 (v:=?vvk8) rfl rfl (by kernel_rfl) (by kernel_rfl) (by kernel_rfl) (fun _ _ _ h=>h) (Or.inl ⟨rfl,?hyk8⟩) (by assumption) ?rrk8
   case hyk8=>(intro w hSw;(try dsimp only at hSw);go_simp;try with_reducible rfl)
   try simp only [Act.put,lyA,lyB,lyC]
   refine take_p (i:=9) 149 (v:=?vvk9) rfl rfl (by kernel_rfl) (by kernel_rfl) (by kernel_rfl) (fun _ _ _ h=>h) (Or.inl ⟨rfl,?hyk9⟩) (by assumption) ?rrk9
   case hyk9=>(intro w hSw;(try dsimp only at hSw);go_simp;try with_reducible rfl)
   try simp only [Act.put,lyA,lyB,lyC]
   refine take_p (i:=10) 150 (v:=?vvk10) rfl rfl (by kernel_rfl) (by kernel_rfl) (by kernel_rfl) (fun _ _ _ h=>h) (Or.inl ⟨rfl,?hyk10⟩) (by assumption) ?rrk10
   case hyk10=>(intro w hSw;(try dsimp only at hSw);go_simp;try with_reducible rfl)
   try simp only [Act.put,lyA,lyB,lyC]
   refine take_p (i:=11) 151 (v:=?vvk11) rfl rfl (by kernel_rfl) (by kernel_rfl) (by kernel_rfl) (fun _ _ _ h=>h) (Or.inl ⟨rfl,?hyk11⟩) (by assumption) ?rrk11
   case hyk11=>(intro w hSw;(try dsimp only at hSw);go_simp;try with_reducible rfl)
   try simp only [Act.put,lyA,lyB,lyC]
   refine take_p (i:=12) 152 (v:=?vvk12) rfl rfl (by kernel_rfl) (by kernel_rfl) (by kernel_rfl) (fun _ _ _ h=>h) (Or.inl ⟨rfl,?hyk12⟩) (by assumption) ?rrk12
   case hyk12=>(intro w hSw;(try dsimp only at hSw);go_simp;try with_reducible rfl)
   try simp only [Act.put,lyA,lyB,lyC]
   refine take_p (i:=13) 153 (v:=?vvk13) rfl rfl (by kernel_rfl) (by kernel_rfl) (by kernel_rfl) (fun _ _ _ h=>h) (Or.inl ⟨rfl,?hyk13⟩) (by assumption) ?rrk13
   case hyk13=>(intro w hSw;(try dsimp only at hSw);go_simp;try with_reducible rfl)
   try simp only [Act.put,lyA,lyB,lyC]
   refine take_p (i:=14) 154 (v:=?vvk14) rfl rfl (by kernel_rfl) (by kernel_rfl) (by kernel_rfl) (fun _ _ _ h=>h) (Or.inl ⟨rfl,?hyk14⟩) (by assumption) ?rrk14
   case hyk14=>(intro w hSw;(try dsimp only at hSw);go_simp;try with_reducible rfl)
   try simp only [Act.put,lyA,lyB,lyC]
   refine take_p (i:=15) 155 (v:=?vvk15) rfl rfl (by kernel_rfl) (by kernel_rfl) (by kernel_rfl) (fun _ _ _ h=>h) (Or.inl ⟨rfl,?hyk15⟩) (by assumption) ?rrk15
   case hyk15=>(intro w hSw;(try dsimp only at hSw);go_simp;try with_reducible rfl)
   try simp only [Act.put,lyA,lyB,lyC]
   refine take_p (i:=16) 156 (v:=?vvk16) rfl rfl (by kernel_rfl) (by kernel_rfl) (by kernel_rfl) (fun _ _ _ h=>h) (Or.inl ⟨rfl,?hyk16⟩) (by assumption) ?rrk16
   case hyk16=>(intro w hSw;(try dsimp only at hSw);go_simp;try with_reducible rfl)
   try simp only [Act.put,lyA,lyB,lyC]
   refine take_p (i:=17) 157 (v:=?vvk17) rfl rfl (by kernel_rfl) (by kernel_rfl) (by kernel_rfl) (fun _ _ _ h=>h) (Or.inl ⟨rfl,?hyk17⟩) (by assumption) ?rrk17
   case hyk17=>(intro w hSw;(try dsimp only at hSw);go_simp;try with_reducible rfl)
   try simp only [Act.put,lyA,lyB,lyC]
   refine take_p (i:=18) 158 (v:=?vvk18) rfl rfl (by kernel_rfl) (by kernel_rfl) (by kernel_rfl) (fun _ _ _ h=>h) (Or.inl ⟨rfl,?hyk18⟩) (by assumption) ?rrk18
   case hyk18=>(intro w hSw;(try dsimp only at hSw);go_simp;try with_reducible rfl)
   try simp only [Act.put,lyA,lyB,lyC]
   refine take_p (i:=19) 159 (v:=?vvk19) rfl rfl (by kernel_rfl) (by kernel_rfl) (by kernel_rfl) (fun _ _ _ h=>h) (Or.inl ⟨rfl,?hyk19⟩) (by assumption) ?rrk19
   case hyk19=>(intro w hSw;(try dsimp only at hSw);go_simp;try with_reducible rfl)
   try simp only [Act.put,lyA,lyB,lyC]
   refine take_p (i:=20) 160 (v:=?vvk20) rfl rfl (by kernel_rfl) (by kernel_rfl) (by kernel_rfl) (fun _ _ _ h=>h) (Or.inl ⟨rfl,?hyk20⟩) (by assumption) ?rrk20
   case hyk20=>(intro w hSw;(try dsimp only at hSw);go_simp;try with_reducible rfl)
   try simp only [Act.put,lyA,lyB,lyC]
   refine take_p (i:=21) 161 (v:=?vvk21) rfl rfl (by kernel_rfl) (by kernel_rfl) (by kernel_rfl) (fun _ _ _ h=>h) (Or.inl ⟨rfl,?hyk21⟩) (by assumption) ?rrk21
   case hyk21=>(intro w hSw;(try dsimp only at hSw);go_simp;try with_reducible rfl)
   try simp only [Act.put,lyA,lyB,lyC]
   refine take_p (i:=22) 162 (v:=?vvk22) rfl rfl (by kernel_rfl) (by kernel_rfl) (by kernel_rfl) (fun _ _ _ h=>h) (Or.inl ⟨rfl,?hyk22⟩) (by assumption) ?rrk22
   case hyk22=>(intro w hSw;(try dsimp only at hSw);go_simp;try with_reducible rfl)
   try simp only [Act.put,lyA,lyB,lyC]
   refine take_p (i:=23) 163 (v:=?vvk23) rfl rfl (by kernel_rfl) (by kernel_rfl) (by kernel_rfl) (fun _ _ _ h=>h) (Or.inl ⟨rfl,?hyk23⟩) (by assumption) ?rrk23
   case hyk23=>(intro w hSw;(try dsimp only at hSw);go_simp;try with_reducible rfl)
   try simp only [Act.put,lyA,lyB,lyC]
   refine call_p (i:=24) (some 164) rfl rfl (by kernel_rfl) (fun K hK=>?_)
   go_simp
   go_at_call 13
   refine(text_litP 2000 (by decide) _ 1 _ awp8 _ (N41.out.mono (ac z11)) ((bq_int (1) (by decide) (by decide)).mono (by decide):Bq 2000 (((1:Int)):Rat)) (HT.out.mono (ac z11))).mono ?_;rintro e x24 ⟨rfl,kk⟩;have hx24:=ZZ (show Ext z11 x24 from ak (ac z11) kk);clear kk
   try go_wp2_with fail
   refine hK.out _ _ (HC.out _ hx24.out) (fun hHeld=>?_);clear hK K
   try simp only [Act.put,lyA,lyB,lyC]
   refine take_p (i:=25) 165 (v:=?vvk25) rfl rfl (by kernel_rfl) (by kernel_rfl) (by kernel_rfl) (fun _ _ _ h=>h) (Or.inl ⟨rfl,?hyk25⟩) (by assumption) ?rrk25
   case hyk25=>(intro w hSw;(try dsimp only at hSw);go_simp;try with_reducible rfl)
   try simp only [Act.put,lyA,lyB,lyC]
   refine take_p (i:=26) 166 (v:=?vvk26) rfl rfl (by kernel_rfl) (by kernel_rfl) (by kernel_rfl) (fun _ _ _ h=>h) (Or.inl ⟨rfl,?hyk26⟩) (by assumption) ?rrk26
   case hyk26=>(intro w hSw;(try dsimp only at hSw);go_simp;try with_reducible rfl)
   try simp only [Act.put,lyA,lyB,lyC]
   refine take_p (i:=27) 167 (v:=?vvk27) rfl rfl (by kernel_rfl) (by kernel_rfl) (by kernel_rfl) (fun _ _ _ h=>h) (Or.inl ⟨rfl,?hyk27⟩) (by assumption) ?rrk27
   case hyk27=>(intro w hSw;(try dsimp only at hSw);go_simp;try with_reducible rfl)
   try simp only [Act.put,lyA,lyB,lyC]
   refine take_p (i:=28) 168 (v:=?vvk28) rfl rfl (by kernel_rfl) (by kernel_rfl) (by kernel_rfl) (fun _ _ _ h=>h) (Or.inl ⟨rfl,?hyk28⟩) (by assumption) ?rrk28
   case hyk28=>(intro w hSw;(try dsimp only at hSw);go_simp;try with_reducible rfl)
   try simp only [Act.put,lyA,lyB,lyC]
   refine take_p (i:=29) 169 (v:=?vvk29) rfl rfl (by kernel_rfl) (by kernel_rfl) (by kernel_rfl) (fun _ _ _ h=>h) (Or.inl ⟨rfl,?hyk29⟩) (by assumption) ?rrk29
   case hyk29=>(intro w hSw;(try dsimp only at hSw);go_simp;try with_reducible rfl)
   try simp only [Act.put,lyA,lyB,lyC]
   refine take_p (i:=30) 170 (v:=?vvk30) rfl rfl (by kernel_rfl) (by kernel_rfl) (by kernel_rfl) (fun _ _ _ h=>h) (Or.inl ⟨rfl,?hyk30⟩) (by assumption) ?rrk30
   case hyk30=>(intro w hSw;(try dsimp only at hSw);go_simp;try with_reducible rfl)
   try simp only [Act.put,lyA,lyB,lyC]
   refine take_p (i:=31) 171 (v:=?vvk31) rfl rfl (by kernel_rfl) (by kernel_rfl) (by kernel_rfl) (fun _ _ _ h=>h) (Or.inl ⟨rfl,?hyk31⟩) (by assumption) ?rrk31
   case hyk31=>(intro w hSw;(try dsimp only at hSw);go_simp;try with_reducible rfl)
   try simp only [Act.put,lyA,lyB,lyC]
   refine call_p (i:=32) (some 172) rfl rfl (by kernel_rfl) (fun K hK=>?_)
   go_simp
   go_at_call 13
   refine(text_litP 2000 (by decide) _ 2 _ awp9 _ (N44.out.mono hx24.out) ((bq_int (2) (by decide) (by decide)).mono (by decide):Bq 2000 (((2:Int)):Rat)) (HT.out.mono hx24.out)).mono ?_;rintro e x32 ⟨rfl,kk⟩;have hx32:=ZZ (show Ext z11 x32 from ak hx24.out kk);clear kk
   try go_wp2_with fail
   refine hK.out _ _ (HC.out _ hx32.out) (fun hHeld=>?_);clear hK K
   try simp only [Act.put,lyA,lyB,lyC]
   refine take_p (i:=33) 173 (v:=?vvk33) rfl rfl (by kernel_rfl) (by kernel_rfl) (by kernel_rfl) (fun _ _ _ h=>h) (Or.inl ⟨rfl,?hyk33⟩) (by assumption) ?rrk33
   case hyk33=>(intro w hSw;(try dsimp only at hSw);go_simp;try with_reducible rfl)
   try simp only [Act.put,lyA,lyB,lyC]
   refine take_p (i:=34) 174 (v:=?vvk34) rfl rfl (by kernel_rfl) (by kernel_rfl) (by kernel_rfl) (fun _ _ _ h=>h) (Or.inl ⟨rfl,?hyk34⟩) (by assumption) ?rrk34
   case hyk34=>(intro w hSw;(try dsimp only at hSw);go_simp;try with_reducible rfl)
   try simp only [Act.put,lyA,lyB,lyC]
   refine take_p (i:=35) 175 (v:=?vvk35) rfl rfl (by kernel_rfl) (by kernel_rfl) (by kernel_rfl) (fun _ _ _ h=>h) (Or.inl ⟨rfl,?hyk35⟩) (by assumption) ?rrk35
   case hyk35=>(intro w hSw;(try dsimp only at hSw);go_simp;try with_reducible rfl)
   try simp only [Act.put,lyA,lyB,lyC]
   refine take_p (i:=36) 176 (v:=?vvk36) rfl rfl (by kernel_rfl) (by kernel_rfl) (by kernel_rfl) (fun _ _ _ h=>h) (Or.inl ⟨rfl,?hyk36⟩) (by assumption) ?rrk36
   case hyk36=>(intro w hSw;(try dsimp only at hSw);go_simp;try with_reducible rfl)
   try simp only [Act.put,lyA,lyB,lyC]
   refine take_p (i:=37) 177 (v:=?vvk37) rfl rfl (by kernel_rfl) (by kernel_rfl) (by kernel_rfl) (fun _ _ _ h=>h) (Or.inl ⟨rfl,?hyk37⟩) (by assumption) ?rrk37
   case hyk37=>(intro w hSw;(try dsimp only at hSw);go_simp;try with_reducible rfl)
   try simp only [Act.put,lyA,lyB,lyC]
   refine take_p (i:=38) 178 (v:=?vvk38) rfl rfl (by kernel_rfl) (by kernel_rfl) (by kernel_rfl) (fun _ _ _ h=>h) (Or.inl ⟨rfl,?hyk38⟩) (by assumption) ?rrk38
   case hyk38=>(intro w hSw;(try dsimp only at hSw);go_simp;try with_reducible rfl)
   try simp only [Act.put,lyA,lyB,lyC]
   refine take_p (i:=39) 179 (v:=?vvk39) rfl rfl (by kernel_rfl) (by kernel_rfl) (by kernel_rfl) (fun _ _ _ h=>h) (Or.inl ⟨rfl,?hyk39⟩) (by assumption) ?rrk39
   case hyk39=>(intro w hSw;(try dsimp only at hSw);go_simp;try with_reducible rfl)
   try simp only [Act.put,lyA,lyB,lyC]
   refine take_p (i:=40) 180 (v:=?vvk40) rfl rfl (by kernel_rfl) (by kernel_rfl) (by kernel_rfl) (fun _ _ _ h=>h) (Or.inl ⟨rfl,?hyk40⟩) (by assumption) ?rrk40
   case hyk40=>(intro w hSw;(try dsimp only at hSw);go_simp;try with_reducible rfl)
   try simp only [Act.put,lyA,lyB,lyC]
   refine take_p (i:=41) 181 (v:=?vvk41) rfl rfl (by kernel_rfl) (by kernel_rfl) (by kernel_rfl) (fun _ _ _ h=>h) (Or.inl ⟨rfl,?hyk41⟩) (by assumption) ?rrk41
   case hyk41=>(intro w hSw;(try dsimp only at hSw);go_simp;try with_reducible rfl)
   try simp only [Act.put,lyA,lyB,lyC]
   refine take_p (i:=42) 182 (v:=?vvk42) rfl rfl (by kernel_rfl) (by kernel_rfl) (by kernel_rfl) (fun _ _ _ h=>h) (Or.inl ⟨rfl,?hyk42⟩) (by assumption) ?rrk42
   case hyk42=>(intro w hSw;(try dsimp only at hSw);go_simp;try with_reducible rfl)
   try simp only [Act.put,lyA,lyB,lyC]
   refine take_p (i:=43) 183 (v:=?vvk43) rfl rfl (by kernel_rfl) (by kernel_rfl) (by kernel_rfl) (fun _ _ _ h=>h) (Or.inl ⟨rfl,?hyk43⟩) (by assumption) ?rrk43
   case hyk43=>(intro w hSw;(try dsimp only at hSw);go_simp;try with_reducible rfl)
   try simp only [Act.put,lyA,lyB,lyC]
   refine call_p (i:=44) (some 184) rfl rfl (by kernel_rfl) (fun K hK=>?_)
   go_simp
   go_at_call 16
   refine(cmp_q 2000 (by decide) _ _ 1 1 _ (N41.out.mono hx32.out) (N42.out.mono hx32.out) ((bq_int (1) (by decide) (by decide)).mono (by decide):Bq 2000 (((1:Int)):Rat)) ((bq_int (1) (by decide) (by decide)).mono (by decide):Bq 2000 (((1:Int)):Rat))).mono ?_;rintro e x44 ⟨rfl,kk⟩;rw [cmp_self];have hx44:=ZZ (show Ext z11 x44 from ak hx32.out kk);clear kk
   try go_wp2_with fail
   refine hK.out _ _ (HC.out _ hx44.out) (fun hHeld=>?_);clear hK K
   try simp only [Act.put,lyA,lyB,lyC]
   refine take_p (i:=45) 185 (v:=?vvk45) rfl rfl (by kernel_rfl) (by kernel_rfl) (by kernel_rfl) (fun _ _ _ h=>h) (Or.inl ⟨rfl,?hyk45⟩) (by assumption) ?rrk45
   case hyk45=>(intro w hSw;(try dsimp only at hSw);go_simp;try with_reducible rfl)
   try simp only [Act.put,lyA,lyB,lyC]
   refine take_p (i:=46) 186 (v:=?vvk46) rfl rfl (by kernel_rfl) (by kernel_rfl) (by kernel_rfl) (fun _ _ _ h=>h) (Or.inl ⟨rfl,?hyk46⟩) (by assumption) ?rrk46
   case hyk46=>(intro w hSw;(try dsimp only at hSw);go_simp;try with_reducible rfl)
   try simp only [Act.put,lyA,lyB,lyC]
   refine wpAnyH_done (by kernel_rfl) ?_ _;refine NoPanic.normal ?_
   replace HT:=ZZ (HT.out.mono hx44.out)
   replace EB:=ZZ (ak EB.out hx44.out)
   clear CR N41 N42 N44 HC;have I:=ZZ (show Il (x44.alloc (.cells #[.int .i64 1,.int .i64 0,.int .i64 1] 2)) (.slice (some ⟨x44.heap.size,0,none⟩) 3 3) [1,0,1] from il_new x44 [1,0,1] _);have XE:=ZZ ((ab x44 (.cells #[.int .i64 1,.int .i64 0,.int .i64 1] 2)));go_wp2_with fail;refine(ints_p _ [1,0,1] (by decide) (by decide) _ I.out).mono ?_;rintro e w61 ⟨va,rfl,h,kk⟩;have kk:=ak XE.out kk
   replace HT:=ZZ (HT.out.mono kk)
   replace EB:=ZZ (ak EB.out kk)
   have PA:=ZZ h;clear kk XE h;clear I;go_wp2_with fail;refine(routh_p 2000 (by decide) (by decide) _ (intsF [1,0,1]) (by decide) _ PA.out (fun _=>kn15) _ kn14).mono ?_;rintro e w62 ⟨rfl,kk⟩
   replace HT:=ZZ (HT.out.mono kk)
   replace PA:=ZZ (PA.out.mono kk)
   replace EB:=ZZ (ak EB.out kk)
   clear kk;clear PA;have I:=ZZ (show Il (w62.alloc (.cells #[.int .i64 1,.int .i64 0,.int .i64 1] 2)) (.slice (some ⟨w62.heap.size,0,none⟩) 3 3) [1,0,1] from il_new w62 [1,0,1] _);have XE:=ZZ ((ab w62 (.cells #[.int .i64 1,.int .i64 0,.int .i64 1] 2)));go_wp2_with fail;refine(ints_p _ [1,0,1] (by decide) (by decide) _ I.out).mono ?_;rintro e w63 ⟨va,rfl,h,kk⟩;have kk:=ak XE.out kk
   replace HT:=ZZ (HT.out.mono kk)
   replace EB:=ZZ (ak EB.out kk)
   have PA:=ZZ h;clear kk XE h;clear I;go_wp2_with fail;refine(int_q (-1) (by decide) (by decide) _).mono ?_;rintro e w64 ⟨v71,rfl,h,kk⟩
   replace HT:=ZZ (HT.out.mono kk)
   replace PA:=ZZ (PA.out.mono kk)
   replace EB:=ZZ (ak EB.out kk)
   obtain⟨s71,A71,k71,ca71,B71,l71,cb71,rfl⟩:=h.form2;have QA:=ZZ h;clear kk h;go_wp2_with fail;refine(int_q (1) (by decide) (by decide) _).mono ?_;rintro e w65 ⟨v72,rfl,h,kk⟩
   replace HT:=ZZ (HT.out.mono kk)
   replace PA:=ZZ (PA.out.mono kk)
   replace QA:=ZZ (QA.out.mono kk)
   replace EB:=ZZ (ak EB.out kk)
   obtain⟨s72,A72,k72,ca72,B72,l72,cb72,rfl⟩:=h.form2;have QB:=ZZ h;clear kk h;go_wp2_with fail;refine(int_q (2) (by decide) (by decide) _).mono ?_;rintro e w66 ⟨v74,rfl,h,kk⟩
   replace HT:=ZZ (HT.out.mono kk)
   replace PA:=ZZ (PA.out.mono kk)
   replace QA:=ZZ (QA.out.mono kk)
   replace QB:=ZZ (QB.out.mono kk)
   replace EB:=ZZ (ak EB.out kk)
   obtain⟨s74,A74,k74,ca74,B74,l74,cb74,rfl⟩:=h.form2;have QD:=ZZ h;clear kk h;go_wp2_with fail;refine(rect_p 2000 (by decide) (by decide) _ _ _ (intsF [1,0,1]) (((-1:Int)):Rat) (((1:Int)):Rat) 0 (((2:Int)):Rat) (by decide) _ PA.out ⟨_,_,_,_,_,_,rfl,QA.out,QB.out⟩ ⟨_,_,_,_,_,_,rfl,Nm.zero _,QD.out⟩ ((bq_int (-1) (by decide) (by decide)).mono (by decide):Bq 2000 (((-1:Int)):Rat)) ((bq_int (1) (by decide) (by decide)).mono (by decide):Bq 2000 (((1:Int)):Rat)) bq_zero2 ((bq_int (2) (by decide) (by decide)).mono (by decide):Bq 2000 (((2:Int)):Rat)) (fun _ _ _=>kn17) _ kn16).mono ?_;rintro e w67 ⟨rfl,kk⟩
   replace HT:=ZZ (HT.out.mono kk)
   replace PA:=ZZ (PA.out.mono kk)
   replace QA:=ZZ (QA.out.mono kk)
   replace QB:=ZZ (QB.out.mono kk)
   replace QD:=ZZ (QD.out.mono kk)
   replace EB:=ZZ (ak EB.out kk)
   clear kk;clear PA QA QB QD;have I:=ZZ (show Il (w67.alloc (.cells #[.int .i64 1,.int .i64 0,.int .i64 1] 2)) (.slice (some ⟨w67.heap.size,0,none⟩) 3 3) [1,0,1] from il_new w67 [1,0,1] _);have XE:=ZZ ((ab w67 (.cells #[.int .i64 1,.int .i64 0,.int .i64 1] 2)));go_wp2_with fail;refine(ints_p _ [1,0,1] (by decide) (by decide) _ I.out).mono ?_;rintro e w68 ⟨va,rfl,h,kk⟩;have kk:=ak XE.out kk
   replace HT:=ZZ (HT.out.mono kk)
   replace EB:=ZZ (ak EB.out kk)
   have PA:=ZZ h;clear kk XE h;clear I;go_wp2_with fail;refine(int_q (-1) (by decide) (by decide) _).mono ?_;rintro e w69 ⟨v81,rfl,h,kk⟩
   replace HT:=ZZ (HT.out.mono kk)
   replace PA:=ZZ (PA.out.mono kk)
   replace EB:=ZZ (ak EB.out kk)
   obtain⟨s81,A81,k81,ca81,B81,l81,cb81,rfl⟩:=h.form2;have QA:=ZZ h;clear kk h;go_wp2_with fail;refine(int_q (1) (by decide) (by decide) _).mono ?_;rintro e w70 ⟨v82,rfl,h,kk⟩
   replace HT:=ZZ (HT.out.mono kk)
   replace PA:=ZZ (PA.out.mono kk)
   replace QA:=ZZ (QA.out.mono kk)
   replace EB:=ZZ (ak EB.out kk)
   obtain⟨s82,A82,k82,ca82,B82,l82,cb82,rfl⟩:=h.form2;have QB:=ZZ h;clear kk h;go_wp2_with fail;refine(int_q (1) (by decide) (by decide) _).mono ?_;rintro e w71 ⟨v83,rfl,h,kk⟩
   replace HT:=ZZ (HT.out.mono kk)
   replace PA:=ZZ (PA.out.mono kk)
   replace QA:=ZZ (QA.out.mono kk)
   replace QB:=ZZ (QB.out.mono kk)
   replace EB:=ZZ (ak EB.out kk)
   obtain⟨s83,A83,k83,ca83,B83,l83,cb83,rfl⟩:=h.form2;have QC:=ZZ h;clear kk h;go_wp2_with fail;refine(int_q (2) (by decide) (by decide) _).mono ?_;rintro e w72 ⟨v84,rfl,h,kk⟩
   replace HT:=ZZ (HT.out.mono kk)
   replace PA:=ZZ (PA.out.mono kk)
   replace QA:=ZZ (QA.out.mono kk)
   replace QB:=ZZ (QB.out.mono kk)
   replace QC:=ZZ (QC.out.mono kk)
   replace EB:=ZZ (ak EB.out kk)
   obtain⟨s84,A84,k84,ca84,B84,l84,cb84,rfl⟩:=h.form2;have QD:=ZZ h;clear kk h;go_wp2_with fail;refine(rect_p 2000 (by decide) (by decide) _ _ _ (intsF [1,0,1]) (((-1:Int)):Rat) (((1:Int)):Rat) (((1:Int)):Rat) (((2:Int)):Rat) (by decide) _ PA.out ⟨_,_,_,_,_,_,rfl,QA.out,QB.out⟩ ⟨_,_,_,_,_,_,rfl,QC.out,QD.out⟩ ((bq_int (-1) (by decide) (by decide)).mono (by decide):Bq 2000 (((-1:Int)):Rat)) ((bq_int (1) (by decide) (by decide)).mono (by decide):Bq 2000 (((1:Int)):Rat)) ((bq_int (1) (by decide) (by decide)).mono (by decide):Bq 2000 (((1:Int)):Rat)) ((bq_int (2) (by decide) (by decide)).mono (by decide):Bq 2000 (((2:Int)):Rat)) (fun _ _ _=>kn19) _ kn18).mono ?_;rintro e w73 ⟨rfl,kk⟩
   replace HT:=ZZ (HT.out.mono kk)
   replace PA:=ZZ (PA.out.mono kk)
   replace QA:=ZZ (QA.out.mono kk)
   replace QB:=ZZ (QB.out.mono kk)
   replace QC:=ZZ (QC.out.mono kk)
   replace QD:=ZZ (QD.out.mono kk)
   replace EB:=ZZ (ak EB.out kk)
   clear kk;clear PA QA QB QC QD;have I:=ZZ (show Il (w73.alloc (.cells #[.int .i64 (-2),.int .i64 0,.int .i64 1] 2)) (.slice (some ⟨w73.heap.size,0,none⟩) 3 3) [-2,0,1] from il_new w73 [-2,0,1] _);have XE:=ZZ ((ab w73 (.cells #[.int .i64 (-2),.int .i64 0,.int .i64 1] 2)));go_wp2_with fail;refine(ints_p _ [-2,0,1] (by decide) (by decide) _ I.out).mono ?_;rintro e w74 ⟨va,rfl,h,kk⟩;have kk:=ak XE.out kk
   replace HT:=ZZ (HT.out.mono kk)
   replace EB:=ZZ (ak EB.out kk)
   have PA:=ZZ h;clear kk XE h;clear I;go_wp2_with fail;refine(int_q (1) (by decide) (by decide) _).mono ?_;rintro e w75 ⟨v91,rfl,h,kk⟩
   replace HT:=ZZ (HT.out.mono kk)
   replace PA:=ZZ (PA.out.mono kk)
   replace EB:=ZZ (ak EB.out kk)
   obtain⟨s91,A91,k91,ca91,B91,l91,cb91,rfl⟩:=h.form2;have QA:=ZZ h;clear kk h;go_wp2_with fail;refine(positive_p 2000 (by decide) (by decide) _ _ (intsF [-2,0,1]) 0 (((1:Int)):Rat) (by decide) _ PA.out ⟨_,_,_,_,_,_,rfl,Nm.zero _,QA.out⟩ bq_zero2 ((bq_int (1) (by decide) (by decide)).mono (by decide):Bq 2000 (((1:Int)):Rat)) (sm_of (show smB 2000 (intsF [-2,0,1])=true by kernel_rfl)) (fun _ _=>kn11) _ kn20).mono ?_;rintro e w76 ⟨rfl,kk⟩
   replace HT:=ZZ (HT.out.mono kk)
   replace PA:=ZZ (PA.out.mono kk)
   replace QA:=ZZ (QA.out.mono kk)
   replace EB:=ZZ (ak EB.out kk)
   clear kk;clear PA QA;go_wp2_with fail;refine(awake_p _ HT.out).mono ?_;rintro e w77 ⟨rfl,kk⟩
   replace HT:=ZZ (HT.out.mono kk)
   replace EB:=ZZ (ak EB.out kk)
   clear kk;go_wp2_with fail;go_ret;exact⟨rfl,EB.out⟩
end Go.Proofs.YtjamgccgoapbeaaGreatDoor
