/- The laws' helper Pair: a text read by the program and by the reference. Printed by gen_pr.py. -/
import Derived.Test.YtpgdefgdboijlaaGreatDoorRo
import Derived.Test.YtpgdefgdboijlaaGreatDoorUa
import Derived.Test.YtpgdefgdboijlaaGreatDoorLz
set_option linter.unusedVariables false
set_option maxRecDepth 100000
set_option maxHeartbeats 16000000
namespace Go.Proofs.YtpgdefgdboijlaaGreatDoor
open Go.RowKit
theorem Wd.put_r {W:World} {v:Value} {n g:Nat} {z:Int} {A0 B0:Option Addr} {k0 c0 k1 c1:Nat} {T:TypeId} (h:Wd W v n) (hg:W.heap[g]?=some (.cells #[.int .i64 z,.slice A0 k0 c0,.slice B0 k1 c1] T (0,0))) (a b c:Value):Wd (((W.setCell ⟨g,0,none⟩ a).setCell ⟨g,1,none⟩ b).setCell ⟨g,2,none⟩ c) v n:=by
 obtain⟨A,cc,e,hc,hcl⟩:=h;refine⟨A,cc,e,hc,?_⟩
 rcases Nat.eq_zero_or_pos (dg n).length with h0|h0
 ·left;rw [List.length_eq_zero_iff.1 h0];rfl
 ·obtain⟨bl,o,hA,hce⟩:=hcl.at_ (by simpa using h0)
  right
  refine⟨bl,o,hA,fun j hj=>?_⟩;have hj':j<(dg n).length:=by simpa using hj
  have h1:=hce j hj
  have hne:bl≠g:=by
   intro hb;subst hb;rw [getD_map_u64 _ _ hj'] at h1
   simp only [World.cell?,hg] at h1
   rcases Nat.lt_or_ge (o+j) 3 with h3|h3
   ·rcases(show o+j=0∨o+j=1∨o+j=2 by omega) with e|e|e <;> rw [e] at h1 <;> simp at h1
   ·rw [Array.getElem?_eq_none (by simpa using h3)] at h1
    simp at h1
  rw [←h1]
  apply World.cell?_of_block
  rw [Below.heap_setCell _ _ _ _ hne,Below.heap_setCell _ _ _ _ hne,Below.heap_setCell _ _ _ _ hne]
theorem Wr.put_b {W:World} {v:Value} {n g:Nat} {z:Bool} {T:TypeId} {A0 B0:Option Addr} {k0 c0 k1 c1:Nat} (h:Wr W v n) (hg:W.heap[g]?=some (.cells #[.bool z,.slice A0 k0 c0,.slice B0 k1 c1] T (0,0))) (a b c:Value):Wr (((W.setCell ⟨g,0,none⟩ a).setCell ⟨g,1,none⟩ b).setCell ⟨g,2,none⟩ c) v n:=by
 rcases Nat.eq_zero_or_pos n with h0|h0
 ·subst h0
  obtain⟨A,cc,e,hc,hcl⟩:=h;refine⟨A,cc,e,hc,?_⟩
  left
  have hz:dr 0=[]:=by simp [dr,dig_zero]
  rw [hz];rfl
 ·have hne:v.ownBlock≠some g:=by
   obtain⟨A,cc,rfl,hc,hcl⟩:=h;obtain⟨t1,t2,t3,-,-⟩:=dr_top h0;obtain⟨b,o,rfl,hce⟩:=hcl.i t3;intro e;obtain rfl:b=g:=Option.some.inj e;have h1:=hce ((dr n).length - 1) (by omega);rw [cell_of_row W b _ _ _ _ hg] at h1
   rcases(show o+((dr n).length - 1)=0∨o+((dr n).length - 1)=1∨o+((dr n).length - 1)=2∨3≤o+((dr n).length - 1) by omega) with e|e|e|e
   ·rw [e] at h1;simp at h1
   ·rw [e] at h1;simp at h1
   ·rw [e] at h1;simp at h1
   ·rw [Array.getElem?_eq_none (by simpa using e)] at h1;cases h1
  exact((h.set_ hne).set_ hne).set_ hne
theorem Nm.put_r {W:World} {v:Value} {q:Rat} {g:Nat} {z:Int} {T:TypeId} {A0 B0:Option Addr} {k0 c0 k1 c1:Nat} (h:Nm W v q) (hg:W.heap[g]?=some (.cells #[.int .i64 z,.slice A0 k0 c0,.slice B0 k1 c1] T (0,0))) (a b c:Value):Nm (((W.setCell ⟨g,0,none⟩ a).setCell ⟨g,1,none⟩ b).setCell ⟨g,2,none⟩ c) v q:=by
 obtain⟨vn,vd,e,h1,h2⟩:=h;exact⟨vn,vd,e,h1.put_r hg _ _ _,h2.put_r hg _ _ _⟩
theorem Nr.put_b {W:World} {v:Value} {q:Rat} {g:Nat} {z:Bool} {T:TypeId} {A0 B0:Option Addr} {k0 c0 k1 c1:Nat} (h:Nr W v q) (hg:W.heap[g]?=some (.cells #[.bool z,.slice A0 k0 c0,.slice B0 k1 c1] T (0,0))) (a b c:Value):Nr (((W.setCell ⟨g,0,none⟩ a).setCell ⟨g,1,none⟩ b).setCell ⟨g,2,none⟩ c) v q:=by
 obtain⟨s,vt,vb,e,hs,h1,h2⟩:=h;exact⟨s,vt,vb,e,hs,h1.put_b hg _ _ _,h2.put_b hg _ _ _⟩
theorem two_rows (w:World):(((w.alloc (.cells #[.bool false,.slice none 0 0,.slice none 0 0] 25)).alloc (.cells #[.int .i64 0,.slice none 0 0,.slice none 0 0] 31))).heap[w.heap.size]?=some (.cells #[.bool false,.slice none 0 0,.slice none 0 0] 25 (0,0))∧(((w.alloc (.cells #[.bool false,.slice none 0 0,.slice none 0 0] 25)).alloc (.cells #[.int .i64 0,.slice none 0 0,.slice none 0 0] 31))).heap[w.heap.size+1]?=some (.cells #[.int .i64 0,.slice none 0 0,.slice none 0 0] 31 (0,0))∧Ext w ((w.alloc (.cells #[.bool false,.slice none 0 0,.slice none 0 0] 25)).alloc (.cells #[.int .i64 0,.slice none 0 0,.slice none 0 0] 31))∧w.heap.size+1<(((w.alloc (.cells #[.bool false,.slice none 0 0,.slice none 0 0] 25)).alloc (.cells #[.int .i64 0,.slice none 0 0,.slice none 0 0] 31))).heap.size:=by
 refine⟨?_,?_,al (ab _ _) (ab _ _),by simp⟩
 ·exact((ab _ _).block _ (by simp)).trans (heap_alloc_new _ _)
 ·rw [←aC w (.cells #[.bool false,.slice none 0 0,.slice none 0 0] 25)];exact heap_alloc_new _ _
def PairR (l:List UInt8) (k:Int) (w w':World) (e:Ending):Prop:=∃v u,e=.returned (.tuple #[v,u,.bool (k == 0)])∧Nm w' v (parseS l).2∧Nr w' u (parseS l).2∧Ext w w'
theorem pair_0 (l:List UInt8) (hs:l.length≤9223372036854775807) (w:World) (hK:(parseS l).1=0):Calls Tryz.prog 26 #[.string ⟨l.toArray⟩] w fun e w'=>PairR l 0 w w' e:=by
 have PP:=ZZ (parse_c l hs);have PR:=ZZ (parse_r l hs);unfold ParseR at PP;unfold ParseN at PR;unfold PairR;rw [hK] at PP PR;generalize (parseS l).2=q at *;clear hs hK
 go_enter Tryz.func26,Tryz.ntmps26
 go_wp2_with fail;obtain⟨hz0,hz1,e0,hsz⟩:=two_rows w
 have Z0:=ZZ hz0;have Z1:=ZZ hz1;have E0:=ZZ e0;have HSZ:=ZZ hsz;clear hz0 hz1 e0 hsz;generalize ((w.alloc (.cells #[.bool false,.slice none 0 0,.slice none 0 0] 25)).alloc (.cells #[.int .i64 0,.slice none 0 0,.slice none 0 0] 31))=W0 at *;refine(PP.out _).mono ?_;rintro e w1 ⟨v1,rfl,h1,k1⟩;obtain⟨b1,A,k,ca,B,l1,cb,rfl⟩:=h1.form2;have H1:=ZZ h1;have K1:=ZZ k1;clear h1 k1 PP;go_wp2_with fail;refine(PR.out _).mono ?_;rintro e w2 ⟨v2,rfl,h2,k2⟩;obtain⟨s,C,m,cc,D,n,cd,rfl,-,-,-⟩:=h2.form
 go_upto_region 3 with (fail)
 have F2:=ab w2 (.cells #[.int .i64 s,.slice C m cc,.slice D n cd] 31);have F12:=al k2 F2;have F1:=al (ab w1 (.cells #[.bool b1,.slice A k ca,.slice B l1 cb] 25)) F12;have F0:=al K1.out F1;have NX:=ZZ (H1.out.mono F1);have NY:=ZZ (h2.mono F2);have Y0:=ZZ ((F0.block _ (lt_of_block Z0.out)).trans Z0.out);have Y1:=ZZ ((F0.block _ (lt_of_block Z1.out)).trans Z1.out);have EX:=ZZ (al E0.out F0);obtain⟨c0,c1,c2,-⟩:=ai (row3 F12);obtain⟨c3,c4,c5,-⟩:=aj (rowR (ad (w2.alloc (.cells #[.int .i64 s,.slice C m cc,.slice D n cd] 31))));have s1:w.heap.size+1<w1.heap.size:=Nat.lt_of_lt_of_le HSZ.out K1.out.size;have s2:w.heap.size+1<w2.heap.size:=Nat.lt_of_lt_of_le s1 (al (ab w1 (.cells #[.bool b1,.slice A k ca,.slice B l1 cb] 25)) k2).size;clear F0 F1 F2 F12 E0 K1 k2 h2 H1 Z0 Z1 HSZ PR;generalize w2.alloc (.cells #[.int .i64 s,.slice C m cc,.slice D n cd] _)=WX at *;generalize w1.heap.size=a1 at *;generalize w2.heap.size=a2 at *;generalize hg:w.heap.size=g at *;have n10:a1≠g:=by omega
 have n11:a1≠g+1:=by omega
 have n20:a2≠g:=by omega
 have n21:a2≠g+1:=by omega
 have HG:=ZZ (show w.heap.size≤g by omega);have HG1:=ZZ (show w.heap.size≤g+1 by omega);have m10:=ZZ (show g+1≠g by omega);clear s1 s2 hg;obtain⟨y0,y1,y2,yf0,yf1,yf2⟩:=ai Y0.out;obtain⟨y3,y4,y5,yf3,yf4,yf5⟩:=aj Y1.out
 go_big_region
 clear c0 c1 c2 c3 c4 c5 n10 n11 n20 n21
 all_goals
  go_wp2_with fail;have hr0:((((((((WX.setCell ⟨g,0,none⟩ (.bool b1)).setCell ⟨g,1,none⟩ (.slice A k ca)).setCell ⟨g,2,none⟩ (.slice B l1 cb)).setCell ⟨g+1,0,none⟩ (.int .i64 s)).setCell ⟨g+1,1,none⟩ (.slice C m cc)).setCell ⟨g+1,2,none⟩ (.slice D n cd)))).heap[g]?=some (.cells #[.bool b1,.slice A k ca,.slice B l1 cb] 25 (0,0)):=put3_other (put3_row Y0.out _ _ _) m10.out.symm _ _ _
  have hr1:((((((((WX.setCell ⟨g,0,none⟩ (.bool b1)).setCell ⟨g,1,none⟩ (.slice A k ca)).setCell ⟨g,2,none⟩ (.slice B l1 cb)).setCell ⟨g+1,0,none⟩ (.int .i64 s)).setCell ⟨g+1,1,none⟩ (.slice C m cc)).setCell ⟨g+1,2,none⟩ (.slice D n cd)))).heap[g+1]?=some (.cells #[.int .i64 s,.slice C m cc,.slice D n cd] 31 (0,0)):=put3_row (put3_other Y1.out m10.out _ _ _) _ _ _;have M1:=ZZ (show Nm ((((((((WX.setCell ⟨g,0,none⟩ (.bool b1)).setCell ⟨g,1,none⟩ (.slice A k ca)).setCell ⟨g,2,none⟩ (.slice B l1 cb)).setCell ⟨g+1,0,none⟩ (.int .i64 s)).setCell ⟨g+1,1,none⟩ (.slice C m cc)).setCell ⟨g+1,2,none⟩ (.slice D n cd)))) (.agg #[.bool b1,.slice A k ca,.slice B l1 cb]) q from (NX.out.put3' Y0.out _ _ _).put_r (put3_other Y1.out m10.out _ _ _) _ _ _);have M2:=ZZ (show Nr ((((((((WX.setCell ⟨g,0,none⟩ (.bool b1)).setCell ⟨g,1,none⟩ (.slice A k ca)).setCell ⟨g,2,none⟩ (.slice B l1 cb)).setCell ⟨g+1,0,none⟩ (.int .i64 s)).setCell ⟨g+1,1,none⟩ (.slice C m cc)).setCell ⟨g+1,2,none⟩ (.slice D n cd)))) (.agg #[.int .i64 s,.slice C m cc,.slice D n cd]) q from (NY.out.put_b Y0.out _ _ _).put_z (put3_other Y1.out m10.out _ _ _) _ _ _);have MX:=ZZ (show Ext w ((((((((WX.setCell ⟨g,0,none⟩ (.bool b1)).setCell ⟨g,1,none⟩ (.slice A k ca)).setCell ⟨g,2,none⟩ (.slice B l1 cb)).setCell ⟨g+1,0,none⟩ (.int .i64 s)).setCell ⟨g+1,1,none⟩ (.slice C m cc)).setCell ⟨g+1,2,none⟩ (.slice D n cd)))) from ao (ao EX.out HG.out _ _ _) HG1.out _ _ _);clear y0 y1 y2 y3 y4 y5 yf0 yf1 yf2 yf3 yf4 yf5 Y0 Y1 NX NY EX
  try clear hHeld
  generalize ((((((((WX.setCell ⟨g,0,none⟩ (.bool b1)).setCell ⟨g,1,none⟩ (.slice A k ca)).setCell ⟨g,2,none⟩ (.slice B l1 cb)).setCell ⟨g+1,0,none⟩ (.int .i64 s)).setCell ⟨g+1,1,none⟩ (.slice C m cc)).setCell ⟨g+1,2,none⟩ (.slice D n cd))))=WF at *;obtain⟨y0,y1,y2,-⟩:=ai hr0;obtain⟨y3,y4,y5,-⟩:=aj hr1;clear hr0 hr1;refine bodyPost_ret (v:=.tuple #[.agg #[.bool b1,.slice A k ca,.slice B l1 cb],.agg #[.int .i64 s,.slice C m cc,.slice D n cd],.bool true]) (by simp [results,Tryz.f26];go_simp) rfl ?_;exact⟨_,_,rfl,M1.out.mono (ac _),M2.out.mono (ac _),al MX.out (ac _)⟩
theorem pair_3 (l:List UInt8) (hs:l.length≤9223372036854775807) (w:World) (hK:(parseS l).1=3):Calls Tryz.prog 26 #[.string ⟨l.toArray⟩] w fun e w'=>PairR l 3 w w' e:=by
 have PP:=ZZ (parse_c l hs);have PR:=ZZ (parse_r l hs);unfold ParseR at PP;unfold ParseN at PR;unfold PairR;rw [hK] at PP PR;generalize (parseS l).2=q at *;clear hs hK
 go_enter Tryz.func26,Tryz.ntmps26
 go_wp2_with fail;obtain⟨hz0,hz1,e0,hsz⟩:=two_rows w
 have Z0:=ZZ hz0;have Z1:=ZZ hz1;have E0:=ZZ e0;have HSZ:=ZZ hsz;clear hz0 hz1 e0 hsz;generalize ((w.alloc (.cells #[.bool false,.slice none 0 0,.slice none 0 0] 25)).alloc (.cells #[.int .i64 0,.slice none 0 0,.slice none 0 0] 31))=W0 at *;refine(PP.out _).mono ?_;rintro e w1 ⟨v1,rfl,h1,k1⟩;obtain⟨b1,A,k,ca,B,l1,cb,rfl⟩:=h1.form2;have H1:=ZZ h1;have K1:=ZZ k1;clear h1 k1 PP;go_wp2_with fail;refine(PR.out _).mono ?_;rintro e w2 ⟨v2,rfl,h2,k2⟩;obtain⟨s,C,m,cc,D,n,cd,rfl,-,-,-⟩:=h2.form
 go_upto_region 3 with (fail)
 have F2:=ab w2 (.cells #[.int .i64 s,.slice C m cc,.slice D n cd] 31);have F12:=al k2 F2;have F1:=al (ab w1 (.cells #[.bool b1,.slice A k ca,.slice B l1 cb] 25)) F12;have F0:=al K1.out F1;have NX:=ZZ (H1.out.mono F1);have NY:=ZZ (h2.mono F2);have Y0:=ZZ ((F0.block _ (lt_of_block Z0.out)).trans Z0.out);have Y1:=ZZ ((F0.block _ (lt_of_block Z1.out)).trans Z1.out);have EX:=ZZ (al E0.out F0);obtain⟨c0,c1,c2,-⟩:=ai (row3 F12);obtain⟨c3,c4,c5,-⟩:=aj (rowR (ad (w2.alloc (.cells #[.int .i64 s,.slice C m cc,.slice D n cd] 31))));have s1:w.heap.size+1<w1.heap.size:=Nat.lt_of_lt_of_le HSZ.out K1.out.size;have s2:w.heap.size+1<w2.heap.size:=Nat.lt_of_lt_of_le s1 (al (ab w1 (.cells #[.bool b1,.slice A k ca,.slice B l1 cb] 25)) k2).size;clear F0 F1 F2 F12 E0 K1 k2 h2 H1 Z0 Z1 HSZ PR;generalize w2.alloc (.cells #[.int .i64 s,.slice C m cc,.slice D n cd] _)=WX at *;generalize w1.heap.size=a1 at *;generalize w2.heap.size=a2 at *;generalize hg:w.heap.size=g at *;have n10:a1≠g:=by omega
 have n11:a1≠g+1:=by omega
 have n20:a2≠g:=by omega
 have n21:a2≠g+1:=by omega
 have HG:=ZZ (show w.heap.size≤g by omega);have HG1:=ZZ (show w.heap.size≤g+1 by omega);have m10:=ZZ (show g+1≠g by omega);clear s1 s2 hg;obtain⟨y0,y1,y2,yf0,yf1,yf2⟩:=ai Y0.out;obtain⟨y3,y4,y5,yf3,yf4,yf5⟩:=aj Y1.out
 go_big_region
 clear c0 c1 c2 c3 c4 c5 n10 n11 n20 n21
 all_goals
  go_wp2_with fail;have hr0:((((((((WX.setCell ⟨g,0,none⟩ (.bool b1)).setCell ⟨g,1,none⟩ (.slice A k ca)).setCell ⟨g,2,none⟩ (.slice B l1 cb)).setCell ⟨g+1,0,none⟩ (.int .i64 s)).setCell ⟨g+1,1,none⟩ (.slice C m cc)).setCell ⟨g+1,2,none⟩ (.slice D n cd)))).heap[g]?=some (.cells #[.bool b1,.slice A k ca,.slice B l1 cb] 25 (0,0)):=put3_other (put3_row Y0.out _ _ _) m10.out.symm _ _ _
  have hr1:((((((((WX.setCell ⟨g,0,none⟩ (.bool b1)).setCell ⟨g,1,none⟩ (.slice A k ca)).setCell ⟨g,2,none⟩ (.slice B l1 cb)).setCell ⟨g+1,0,none⟩ (.int .i64 s)).setCell ⟨g+1,1,none⟩ (.slice C m cc)).setCell ⟨g+1,2,none⟩ (.slice D n cd)))).heap[g+1]?=some (.cells #[.int .i64 s,.slice C m cc,.slice D n cd] 31 (0,0)):=put3_row (put3_other Y1.out m10.out _ _ _) _ _ _;have M1:=ZZ (show Nm ((((((((WX.setCell ⟨g,0,none⟩ (.bool b1)).setCell ⟨g,1,none⟩ (.slice A k ca)).setCell ⟨g,2,none⟩ (.slice B l1 cb)).setCell ⟨g+1,0,none⟩ (.int .i64 s)).setCell ⟨g+1,1,none⟩ (.slice C m cc)).setCell ⟨g+1,2,none⟩ (.slice D n cd)))) (.agg #[.bool b1,.slice A k ca,.slice B l1 cb]) q from (NX.out.put3' Y0.out _ _ _).put_r (put3_other Y1.out m10.out _ _ _) _ _ _);have M2:=ZZ (show Nr ((((((((WX.setCell ⟨g,0,none⟩ (.bool b1)).setCell ⟨g,1,none⟩ (.slice A k ca)).setCell ⟨g,2,none⟩ (.slice B l1 cb)).setCell ⟨g+1,0,none⟩ (.int .i64 s)).setCell ⟨g+1,1,none⟩ (.slice C m cc)).setCell ⟨g+1,2,none⟩ (.slice D n cd)))) (.agg #[.int .i64 s,.slice C m cc,.slice D n cd]) q from (NY.out.put_b Y0.out _ _ _).put_z (put3_other Y1.out m10.out _ _ _) _ _ _);have MX:=ZZ (show Ext w ((((((((WX.setCell ⟨g,0,none⟩ (.bool b1)).setCell ⟨g,1,none⟩ (.slice A k ca)).setCell ⟨g,2,none⟩ (.slice B l1 cb)).setCell ⟨g+1,0,none⟩ (.int .i64 s)).setCell ⟨g+1,1,none⟩ (.slice C m cc)).setCell ⟨g+1,2,none⟩ (.slice D n cd)))) from ao (ao EX.out HG.out _ _ _) HG1.out _ _ _);clear y0 y1 y2 y3 y4 y5 yf0 yf1 yf2 yf3 yf4 yf5 Y0 Y1 NX NY EX
  try clear hHeld
  generalize ((((((((WX.setCell ⟨g,0,none⟩ (.bool b1)).setCell ⟨g,1,none⟩ (.slice A k ca)).setCell ⟨g,2,none⟩ (.slice B l1 cb)).setCell ⟨g+1,0,none⟩ (.int .i64 s)).setCell ⟨g+1,1,none⟩ (.slice C m cc)).setCell ⟨g+1,2,none⟩ (.slice D n cd))))=WF at *;obtain⟨y0,y1,y2,-⟩:=ai hr0;obtain⟨y3,y4,y5,-⟩:=aj hr1;clear hr0 hr1;refine bodyPost_ret (v:=.tuple #[.agg #[.bool b1,.slice A k ca,.slice B l1 cb],.agg #[.int .i64 s,.slice C m cc,.slice D n cd],.bool false]) (by simp [results,Tryz.f26];go_simp) rfl ?_;exact⟨_,_,rfl,M1.out.mono (ac _),M2.out.mono (ac _),al MX.out (ac _)⟩
theorem pair_6 (l:List UInt8) (hs:l.length≤9223372036854775807) (w:World) (hK:(parseS l).1=6):Calls Tryz.prog 26 #[.string ⟨l.toArray⟩] w fun e w'=>PairR l 6 w w' e:=by
 have PP:=ZZ (parse_c l hs);have PR:=ZZ (parse_r l hs);unfold ParseR at PP;unfold ParseN at PR;unfold PairR;rw [hK] at PP PR;generalize (parseS l).2=q at *;clear hs hK
 go_enter Tryz.func26,Tryz.ntmps26
 go_wp2_with fail;obtain⟨hz0,hz1,e0,hsz⟩:=two_rows w
 have Z0:=ZZ hz0;have Z1:=ZZ hz1;have E0:=ZZ e0;have HSZ:=ZZ hsz;clear hz0 hz1 e0 hsz;generalize ((w.alloc (.cells #[.bool false,.slice none 0 0,.slice none 0 0] 25)).alloc (.cells #[.int .i64 0,.slice none 0 0,.slice none 0 0] 31))=W0 at *;refine(PP.out _).mono ?_;rintro e w1 ⟨v1,rfl,h1,k1⟩;obtain⟨b1,A,k,ca,B,l1,cb,rfl⟩:=h1.form2;have H1:=ZZ h1;have K1:=ZZ k1;clear h1 k1 PP;go_wp2_with fail;refine(PR.out _).mono ?_;rintro e w2 ⟨v2,rfl,h2,k2⟩;obtain⟨s,C,m,cc,D,n,cd,rfl,-,-,-⟩:=h2.form
 go_upto_region 3 with (fail)
 have F2:=ab w2 (.cells #[.int .i64 s,.slice C m cc,.slice D n cd] 31);have F12:=al k2 F2;have F1:=al (ab w1 (.cells #[.bool b1,.slice A k ca,.slice B l1 cb] 25)) F12;have F0:=al K1.out F1;have NX:=ZZ (H1.out.mono F1);have NY:=ZZ (h2.mono F2);have Y0:=ZZ ((F0.block _ (lt_of_block Z0.out)).trans Z0.out);have Y1:=ZZ ((F0.block _ (lt_of_block Z1.out)).trans Z1.out);have EX:=ZZ (al E0.out F0);obtain⟨c0,c1,c2,-⟩:=ai (row3 F12);obtain⟨c3,c4,c5,-⟩:=aj (rowR (ad (w2.alloc (.cells #[.int .i64 s,.slice C m cc,.slice D n cd] 31))));have s1:w.heap.size+1<w1.heap.size:=Nat.lt_of_lt_of_le HSZ.out K1.out.size;have s2:w.heap.size+1<w2.heap.size:=Nat.lt_of_lt_of_le s1 (al (ab w1 (.cells #[.bool b1,.slice A k ca,.slice B l1 cb] 25)) k2).size;clear F0 F1 F2 F12 E0 K1 k2 h2 H1 Z0 Z1 HSZ PR;generalize w2.alloc (.cells #[.int .i64 s,.slice C m cc,.slice D n cd] _)=WX at *;generalize w1.heap.size=a1 at *;generalize w2.heap.size=a2 at *;generalize hg:w.heap.size=g at *;have n10:a1≠g:=by omega
 have n11:a1≠g+1:=by omega
 have n20:a2≠g:=by omega
 have n21:a2≠g+1:=by omega
 have HG:=ZZ (show w.heap.size≤g by omega);have HG1:=ZZ (show w.heap.size≤g+1 by omega);have m10:=ZZ (show g+1≠g by omega);clear s1 s2 hg;obtain⟨y0,y1,y2,yf0,yf1,yf2⟩:=ai Y0.out;obtain⟨y3,y4,y5,yf3,yf4,yf5⟩:=aj Y1.out
 go_big_region
 clear c0 c1 c2 c3 c4 c5 n10 n11 n20 n21
 all_goals
  go_wp2_with fail;have hr0:((((((((WX.setCell ⟨g,0,none⟩ (.bool b1)).setCell ⟨g,1,none⟩ (.slice A k ca)).setCell ⟨g,2,none⟩ (.slice B l1 cb)).setCell ⟨g+1,0,none⟩ (.int .i64 s)).setCell ⟨g+1,1,none⟩ (.slice C m cc)).setCell ⟨g+1,2,none⟩ (.slice D n cd)))).heap[g]?=some (.cells #[.bool b1,.slice A k ca,.slice B l1 cb] 25 (0,0)):=put3_other (put3_row Y0.out _ _ _) m10.out.symm _ _ _
  have hr1:((((((((WX.setCell ⟨g,0,none⟩ (.bool b1)).setCell ⟨g,1,none⟩ (.slice A k ca)).setCell ⟨g,2,none⟩ (.slice B l1 cb)).setCell ⟨g+1,0,none⟩ (.int .i64 s)).setCell ⟨g+1,1,none⟩ (.slice C m cc)).setCell ⟨g+1,2,none⟩ (.slice D n cd)))).heap[g+1]?=some (.cells #[.int .i64 s,.slice C m cc,.slice D n cd] 31 (0,0)):=put3_row (put3_other Y1.out m10.out _ _ _) _ _ _;have M1:=ZZ (show Nm ((((((((WX.setCell ⟨g,0,none⟩ (.bool b1)).setCell ⟨g,1,none⟩ (.slice A k ca)).setCell ⟨g,2,none⟩ (.slice B l1 cb)).setCell ⟨g+1,0,none⟩ (.int .i64 s)).setCell ⟨g+1,1,none⟩ (.slice C m cc)).setCell ⟨g+1,2,none⟩ (.slice D n cd)))) (.agg #[.bool b1,.slice A k ca,.slice B l1 cb]) q from (NX.out.put3' Y0.out _ _ _).put_r (put3_other Y1.out m10.out _ _ _) _ _ _);have M2:=ZZ (show Nr ((((((((WX.setCell ⟨g,0,none⟩ (.bool b1)).setCell ⟨g,1,none⟩ (.slice A k ca)).setCell ⟨g,2,none⟩ (.slice B l1 cb)).setCell ⟨g+1,0,none⟩ (.int .i64 s)).setCell ⟨g+1,1,none⟩ (.slice C m cc)).setCell ⟨g+1,2,none⟩ (.slice D n cd)))) (.agg #[.int .i64 s,.slice C m cc,.slice D n cd]) q from (NY.out.put_b Y0.out _ _ _).put_z (put3_other Y1.out m10.out _ _ _) _ _ _);have MX:=ZZ (show Ext w ((((((((WX.setCell ⟨g,0,none⟩ (.bool b1)).setCell ⟨g,1,none⟩ (.slice A k ca)).setCell ⟨g,2,none⟩ (.slice B l1 cb)).setCell ⟨g+1,0,none⟩ (.int .i64 s)).setCell ⟨g+1,1,none⟩ (.slice C m cc)).setCell ⟨g+1,2,none⟩ (.slice D n cd)))) from ao (ao EX.out HG.out _ _ _) HG1.out _ _ _);clear y0 y1 y2 y3 y4 y5 yf0 yf1 yf2 yf3 yf4 yf5 Y0 Y1 NX NY EX
  try clear hHeld
  generalize ((((((((WX.setCell ⟨g,0,none⟩ (.bool b1)).setCell ⟨g,1,none⟩ (.slice A k ca)).setCell ⟨g,2,none⟩ (.slice B l1 cb)).setCell ⟨g+1,0,none⟩ (.int .i64 s)).setCell ⟨g+1,1,none⟩ (.slice C m cc)).setCell ⟨g+1,2,none⟩ (.slice D n cd))))=WF at *;obtain⟨y0,y1,y2,-⟩:=ai hr0;obtain⟨y3,y4,y5,-⟩:=aj hr1;clear hr0 hr1;refine bodyPost_ret (v:=.tuple #[.agg #[.bool b1,.slice A k ca,.slice B l1 cb],.agg #[.int .i64 s,.slice C m cc,.slice D n cd],.bool false]) (by simp [results,Tryz.f26];go_simp) rfl ?_;exact⟨_,_,rfl,M1.out.mono (ac _),M2.out.mono (ac _),al MX.out (ac _)⟩
theorem pair_c (l:List UInt8) (hs:l.length≤9223372036854775807) (k:Int) (hk:(parseS l).1=k) (w:World):Calls Tryz.prog 26 #[.string ⟨l.toArray⟩] w fun e w'=>PairR l k w w' e:=by
 rcases parse_err l with h|h|h
 ·obtain rfl:k=0:=hk.symm.trans h
  exact pair_0 l hs w h
 ·obtain rfl:k=3:=hk.symm.trans h
  exact pair_3 l hs w h
 ·obtain rfl:k=6:=hk.symm.trans h
  exact pair_6 l hs w h
end Go.Proofs.YtpgdefgdboijlaaGreatDoor
