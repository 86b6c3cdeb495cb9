/- Spans of the reference: the least span over a list of numbers. Printed by gen_sj3.py. -/
import Derived.Test.YtpgdefgdboijlaaGreatDoorSh
import Derived.Test.YtpgdefgdboijlaaGreatDoorOl
import Derived.Deep.LoopGhost
set_option linter.unusedVariables false
set_option maxRecDepth 100000
set_option maxHeartbeats 16000000
namespace Go.Proofs.YtpgdefgdboijlaaGreatDoor
open Go.RowKit
def LsV (w:World) (b:Nat) (vs:Nat→Value) (n:Nat):Prop:=∀i,i<n→∃s A k ca B m cb,vs i=.agg #[.int .i64 s,.slice A k ca,.slice B m cb]∧w.cell? ⟨b,i*3,none⟩=some (.int .i64 s)∧w.cell? ⟨b,i*3+1,none⟩=some (.slice A k ca)∧w.cell? ⟨b,i*3+2,none⟩=some (.slice B m cb)
def LsN (w:World) (vs:Nat→Value) (l:List Rat):Prop:=∀i q,l[i]?=some q→Nr w (vs i) q
theorem LsN.mono {w w':World} {vs:Nat→Value} {l:List Rat} (h:LsN w vs l) (k:Ext w w'):LsN w' vs l:=fun i q hq=>(h i q hq).mono k
theorem lsv2 {W:World} {g:Nat} {T:TypeId} {s11 A11 k11 ca11 B11 l11 cb11 s12 A12 k12 ca12 B12 l12 cb12:_} (h:W.heap[g]?=some (.cells #[.int .i64 s11,.slice A11 k11 ca11,.slice B11 l11 cb11,.int .i64 s12,.slice A12 k12 ca12,.slice B12 l12 cb12] T (0,0))):LsV W g (fun i=>[.agg #[.int .i64 s11,.slice A11 k11 ca11,.slice B11 l11 cb11],.agg #[.int .i64 s12,.slice A12 k12 ca12,.slice B12 l12 cb12]].getD i undef) 2:=by
 intro i hi;have hc:∀(j:Nat) (v:Value),#[.int .i64 s11,.slice A11 k11 ca11,.slice B11 l11 cb11,.int .i64 s12,.slice A12 k12 ca12,.slice B12 l12 cb12][j]?=some v→W.cell? ⟨g,j,none⟩=some v:=fun j v hv=>by rw [cell_of_row W g _ _ _ _ h];exact hv
 match i,hi with
 | 0,_=>exact⟨_,_,_,_,_,_,_,rfl,hc 0 _ rfl,hc 1 _ rfl,hc 2 _ rfl⟩
 | 1,_=>exact⟨_,_,_,_,_,_,_,rfl,hc 3 _ rfl,hc 4 _ rfl,hc 5 _ rfl⟩
 | i+2,hi=>omega
theorem lsn2 {W:World} {v0 v1:Value} {q0 q1:Rat} (h0:Nr W v0 q0) (h1:Nr W v1 q1):LsN W (fun i=>[v0,v1].getD i undef) [q0,q1]:=by
 intro i q hq
 match i,hq with
 | 0,hq=>obtain rfl:q0=q:=Option.some.inj hq;exact h0
 | 1,hq=>obtain rfl:q1=q:=Option.some.inj hq;exact h1
theorem lsv3 {W:World} {g:Nat} {T:TypeId} {s11 A11 k11 ca11 B11 l11 cb11 s12 A12 k12 ca12 B12 l12 cb12 s13 A13 k13 ca13 B13 l13 cb13:_} (h:W.heap[g]?=some (.cells #[.int .i64 s11,.slice A11 k11 ca11,.slice B11 l11 cb11,.int .i64 s12,.slice A12 k12 ca12,.slice B12 l12 cb12,.int .i64 s13,.slice A13 k13 ca13,.slice B13 l13 cb13] T (0,0))):LsV W g (fun i=>[.agg #[.int .i64 s11,.slice A11 k11 ca11,.slice B11 l11 cb11],.agg #[.int .i64 s12,.slice A12 k12 ca12,.slice B12 l12 cb12],.agg #[.int .i64 s13,.slice A13 k13 ca13,.slice B13 l13 cb13]].getD i undef) 3:=by
 intro i hi;have hc:∀(j:Nat) (v:Value),#[.int .i64 s11,.slice A11 k11 ca11,.slice B11 l11 cb11,.int .i64 s12,.slice A12 k12 ca12,.slice B12 l12 cb12,.int .i64 s13,.slice A13 k13 ca13,.slice B13 l13 cb13][j]?=some v→W.cell? ⟨g,j,none⟩=some v:=fun j v hv=>by rw [cell_of_row W g _ _ _ _ h];exact hv
 match i,hi with
 | 0,_=>exact⟨_,_,_,_,_,_,_,rfl,hc 0 _ rfl,hc 1 _ rfl,hc 2 _ rfl⟩
 | 1,_=>exact⟨_,_,_,_,_,_,_,rfl,hc 3 _ rfl,hc 4 _ rfl,hc 5 _ rfl⟩
 | 2,_=>exact⟨_,_,_,_,_,_,_,rfl,hc 6 _ rfl,hc 7 _ rfl,hc 8 _ rfl⟩
 | i+3,hi=>omega
theorem lsn3 {W:World} {v0 v1 v2:Value} {q0 q1 q2:Rat} (h0:Nr W v0 q0) (h1:Nr W v1 q1) (h2:Nr W v2 q2):LsN W (fun i=>[v0,v1,v2].getD i undef) [q0,q1,q2]:=by
 intro i q hq
 match i,hq with
 | 0,hq=>obtain rfl:q0=q:=Option.some.inj hq;exact h0
 | 1,hq=>obtain rfl:q1=q:=Option.some.inj hq;exact h1
 | 2,hq=>obtain rfl:q2=q:=Option.some.inj hq;exact h2
theorem lsv4 {W:World} {g:Nat} {T:TypeId} {s11 A11 k11 ca11 B11 l11 cb11 s12 A12 k12 ca12 B12 l12 cb12 s13 A13 k13 ca13 B13 l13 cb13 s14 A14 k14 ca14 B14 l14 cb14:_} (h:W.heap[g]?=some (.cells #[.int .i64 s11,.slice A11 k11 ca11,.slice B11 l11 cb11,.int .i64 s12,.slice A12 k12 ca12,.slice B12 l12 cb12,.int .i64 s13,.slice A13 k13 ca13,.slice B13 l13 cb13,.int .i64 s14,.slice A14 k14 ca14,.slice B14 l14 cb14] T (0,0))):LsV W g (fun i=>[.agg #[.int .i64 s11,.slice A11 k11 ca11,.slice B11 l11 cb11],.agg #[.int .i64 s12,.slice A12 k12 ca12,.slice B12 l12 cb12],.agg #[.int .i64 s13,.slice A13 k13 ca13,.slice B13 l13 cb13],.agg #[.int .i64 s14,.slice A14 k14 ca14,.slice B14 l14 cb14]].getD i undef) 4:=by
 intro i hi;have hc:∀(j:Nat) (v:Value),#[.int .i64 s11,.slice A11 k11 ca11,.slice B11 l11 cb11,.int .i64 s12,.slice A12 k12 ca12,.slice B12 l12 cb12,.int .i64 s13,.slice A13 k13 ca13,.slice B13 l13 cb13,.int .i64 s14,.slice A14 k14 ca14,.slice B14 l14 cb14][j]?=some v→W.cell? ⟨g,j,none⟩=some v:=fun j v hv=>by rw [cell_of_row W g _ _ _ _ h];exact hv
 match i,hi with
 | 0,_=>exact⟨_,_,_,_,_,_,_,rfl,hc 0 _ rfl,hc 1 _ rfl,hc 2 _ rfl⟩
 | 1,_=>exact⟨_,_,_,_,_,_,_,rfl,hc 3 _ rfl,hc 4 _ rfl,hc 5 _ rfl⟩
 | 2,_=>exact⟨_,_,_,_,_,_,_,rfl,hc 6 _ rfl,hc 7 _ rfl,hc 8 _ rfl⟩
 | 3,_=>exact⟨_,_,_,_,_,_,_,rfl,hc 9 _ rfl,hc 10 _ rfl,hc 11 _ rfl⟩
 | i+4,hi=>omega
theorem lsn4 {W:World} {v0 v1 v2 v3:Value} {q0 q1 q2 q3:Rat} (h0:Nr W v0 q0) (h1:Nr W v1 q1) (h2:Nr W v2 q2) (h3:Nr W v3 q3):LsN W (fun i=>[v0,v1,v2,v3].getD i undef) [q0,q1,q2,q3]:=by
 intro i q hq
 match i,hq with
 | 0,hq=>obtain rfl:q0=q:=Option.some.inj hq;exact h0
 | 1,hq=>obtain rfl:q1=q:=Option.some.inj hq;exact h1
 | 2,hq=>obtain rfl:q2=q:=Option.some.inj hq;exact h2
 | 3,hq=>obtain rfl:q3=q:=Option.some.inj hq;exact h3
def OwR (wr:World) (vs:Nat→Value) (L:List Rat) (g:Nat) (lo hi:Rat):Prop:=∃s11 A11 k11 ca11 B11 l11 cb11 s12 A12 k12 ca12 B12 l12 cb12,wr.heap[g]?=some (.cells #[.int .i64 s11,.slice A11 k11 ca11,.slice B11 l11 cb11,.int .i64 s12,.slice A12 k12 ca12,.slice B12 l12 cb12] 85 (0,0))∧∀W,LsN W vs L→Nr W (.agg #[.int .i64 s11,.slice A11 k11 ca11,.slice B11 l11 cb11]) lo∧Nr W (.agg #[.int .i64 s12,.slice A12 k12 ca12,.slice B12 l12 cb12]) hi
theorem owr_new {w1:World} {vs:Nat→Value} {L:List Rat} {s11 A11 k11 ca11 B11 l11 cb11 s12 A12 k12 ca12 B12 l12 cb12:_} {lo hi:Rat} (h:∀W,LsN W vs L→Nr W (.agg #[.int .i64 s11,.slice A11 k11 ca11,.slice B11 l11 cb11]) lo∧Nr W (.agg #[.int .i64 s12,.slice A12 k12 ca12,.slice B12 l12 cb12]) hi):OwR ((w1.alloc (.cells #[.int .i64 s11,.slice A11 k11 ca11,.slice B11 l11 cb11,.int .i64 s12,.slice A12 k12 ca12,.slice B12 l12 cb12] 85)).drew) vs L w1.heap.size lo hi:=
 ⟨s11,A11,k11,ca11,B11,l11,cb11,s12,A12,k12,ca12,B12,l12,cb12,((ac _).block _ (lt_of_block (heap_alloc_new w1 _))).trans (heap_alloc_new w1 _),h⟩
theorem hullF_take (x:Rat) (l:List Rat) (j:Nat) (q:Rat) (h:l[j]?=some q):hullF (x,x) (l.take (j+1))=(av (hullF (x,x) (l.take j)).1 q,aw (hullF (x,x) (l.take j)).2 q):=by
 rw [List.take_add_one,h,Option.toList_some,hullF_snoc]
theorem hull_bq {M:Nat} {x:Rat} {l:List Rat} (hx:Bq M x) (hl:∀q ∈ l,Bq M q):Bq M (hullF (x,x) l).1∧Bq M (hullF (x,x) l).2:=by
 suffices h:∀(s:Rat × Rat),Bq M s.1→Bq M s.2→Bq M (hullF s l).1∧Bq M (hullF s l).2 from h (x,x) hx hx
 induction l with
 | nil=>exact fun s h1 h2=>⟨h1,h2⟩
 | cons q l ih=>
  intro s h1 h2;have hq:=hl q (List.mem_cons_self ..);refine ih (fun p hp=>hl p (List.mem_cons_of_mem _ hp)) (av s.1 q,aw s.2 q) ?_ ?_
  ·show Bq M (av s.1 q);unfold av;split <;> assumption
  ·show Bq M (aw s.2 q);unfold aw;split <;> assumption
theorem hull_n (M:Nat) (hM:M≤134217728) (b c:Nat) (x:Rat) (l:List Rat) (hl:l.length≤3) (vs:Nat→Value) (w:World) (hv:LsV w b vs (l.length+1)) (h:LsN w vs (x :: l)) (hb:∀q ∈ x :: l,Bq M q):Calls Tryz.prog 143 #[.slice (some ⟨b,0,none⟩) (l.length+1) c] w fun e w'=>∃v,e=.returned v∧(∀W,LsN W vs (x :: l)→SpR W v (hullF (x,x) l).1 (hullF (x,x) l).2)∧Ext w w':=by
 obtain⟨s1,A1,k1,ca1,B1,l1,cb1,hv0,c0,c1,c2⟩:=hv 0 (Nat.succ_pos _);have c0:w.cell? ⟨b,0,none⟩=some (.int .i64 s1):=c0;have c1:w.cell? ⟨b,1,none⟩=some (.slice A1 k1 ca1):=c1;have c2:w.cell? ⟨b,2,none⟩=some (.slice B1 l1 cb1):=c2;have HV:=ZZ hv;have HL:=ZZ h;have H1:=ZZ (show ∀W,LsN W vs (x :: l)→Nr W (.agg #[.int .i64 s1,.slice A1 k1 ca1,.slice B1 l1 cb1]) x from fun W hW=>by rw [←hv0];exact hW 0 x rfl);have HB:=ZZ hb;have HM:=ZZ hM;have HLL:=ZZ hl;obtain⟨n,hnl⟩:∃n,l.length=n:=⟨_,rfl⟩;have HNL:=ZZ hnl;rw [hnl];have q0:(0:Int)<(n:Int)+1:=by omega
 have q00:(0:Nat)<n+1:=by omega
 have BLT:=ZZ (block_lt_of_cell c0);have hb0:b≠w.heap.size:=Nat.ne_of_lt BLT.out;have hb1:b≠w.heap.size+1:=Nat.ne_of_lt (Nat.lt_succ_of_lt BLT.out);clear h hv hv0 hb hM hl hnl
 go_enter Tryz.func143,Tryz.ntmps143
 go_upto_region 1 with (fail)
 generalize hW2:World.alloc w _=W2;have E2:=ZZ (show Ext w W2 by rw [←hW2];exact ab _ _);have RZ:=ZZ (show W2.heap[w.heap.size]?=some (.cells #[.int .i64 0,.slice none 0 0,.slice none 0 0,.int .i64 0,.slice none 0 0,.slice none 0 0] 85 (0,0)) by rw [←hW2];exact heap_alloc_new _ _);clear hW2 hb0 hb1;have HS:=ZZ (show ∀W:World,Ext W2 W→W.cell? ⟨b,0,none⟩=some (.int .i64 s1)∧W.cell? ⟨b,1,none⟩=some (.slice A1 k1 ca1)∧W.cell? ⟨b,2,none⟩=some (.slice B1 l1 cb1) from fun W h=>⟨aq (al E2.out h) c0,aq (al E2.out h) c1,aq (al E2.out h) c2⟩);clear c0 c1 c2;generalize hg0:w.heap.size=g0 at *;have HG0:=ZZ hg0;have HGB:=ZZ (show b<W2.heap.size from Nat.lt_of_lt_of_le (by have:=BLT.out;exact this) (by have:=E2.out.size;omega));clear hg0
 go_cut [3] (fun p wx=>∃gs:Nat,p=.pointer (some ⟨gs,0,none⟩)∧Hid (OwR wx vs (x :: l) gs x x)∧Hid (W2.heap.size≤gs)∧Ext W2 wx)
 case first=>
  have hx0:=ZZ (ad W2);have hza:=ZZ (show W2.heap.size≤W2.heap.size from Nat.le_refl _);have hS0:=HS.out W2 (ad _);have nx1:b≠W2.heap.size:=Nat.ne_of_lt HGB.out
  go_region_held3 (fun W=>W.cell? ⟨b,0,none⟩=some (.int .i64 s1)∧W.cell? ⟨b,1,none⟩=some (.slice A1 k1 ca1)∧W.cell? ⟨b,2,none⟩=some (.slice B1 l1 cb1)) ((refine HS.out _ ?_;(repeat (with_reducible first|refine ext_dr' ?_|refine ap ?_ (by first|with_reducible exact hza.out|with_reducible exact hzb.out|with_reducible exact hzc.out) _ _ _ _ _ _|refine ext_al' ?_ _|exact hx2.out|exact hx1.out|exact hx0.out));done)) (fail)
  all_goals
   go_wp2_with fail;go_meet
   exact⟨_,rfl,ZZ (owr_new fun W hW=>⟨H1.out W hW,H1.out W hW⟩),hza,ext_dr' (ext_al' (ad _) _)⟩
 case rest=>
  obtain⟨gs,rfl,HB3,HG3,hex3⟩:=hcut;rename World=>W3;have X3:=ZZ hex3;clear hex3;go_wp2_with fail
  go_loopg [4] n (fun k i wr=>∃c:Nat,c+k=n∧i=.int .i64 ((c:Int)+1)∧Hid (OwR wr vs (x :: l) gs (hullF (x,x) (l.take c)).1 (hullF (x,x) (l.take c)).2)∧Ext W2 wr)
  case atStart=>exact⟨0,by omega,rfl,HB3,X3.out⟩
  case round=>
   obtain⟨j,hj,rfl,HB4,hext⟩:=hrel;rename World=>WR;have XR:=ZZ hext;clear hext
   rcases Nat.eq_zero_or_pos gk with hz|hz
   ·subst hz
    obtain rfl:j=n:=by omega
    have q1:decide ((j:Int)+1<(j:Int)+1)=false:=decide_eq_false (by omega);have q2:decide ((j:Int)+1<((j+1:Nat):Int))=false:=decide_eq_false (by omega);obtain⟨s11,A11,k11,ca11,B11,l11,cb11,s12,A12,k12,ca12,B12,l12,cb12,rs4,h1⟩:=HB4.out;rw [show l.take j=l from List.take_of_length_le (Nat.le_of_eq HNL.out)] at h1;have N1:=ZZ h1;have rz4:=(XR.out.block _ (lt_of_block RZ.out)).trans RZ.out;have RZ4:=ZZ rz4;obtain⟨i0,i1,i2,i3,i4,i5,-⟩:=ah rs4;obtain⟨z0,z1,z2,z3,z4,z5,zf0,zf1,zf2,zf3,zf4,zf5⟩:=ah rz4;clear rs4 h1 rz4 hj;go_wp2_with fail;refine bodyPost_ret (v:=.agg #[.int .i64 s11,.slice A11 k11 ca11,.slice B11 l11 cb11,.int .i64 s12,.slice A12 k12 ca12,.slice B12 l12 cb12]) (by simp [results,Tryz.f143];go_simp) rfl ?_;have EW:=al E2.out XR.out;exact⟨_,rfl,fun W hW=>ak.2 (N1.out W hW),ae EW (by rw [HG0.out];exact Nat.le_refl _) _ _ _ _ _ _⟩
   ·have q1:decide ((j:Int)+1<(n:Int)+1)=true:=decide_eq_true (by omega)
    have q2:decide ((j:Int)+1<((n+1:Nat):Int))=true:=decide_eq_true (by omega);have q3:(j:Int)+1<(n:Int)+1:=by omega
    have q4:(0:Int)≤(j:Int)+1:=by omega
    have q5:((j:Int)+1).toNat=j+1:=by omega
    obtain⟨q,hq⟩:∃q,l[j]?=some q:=⟨l[j]'(by rw [HNL.out];omega),List.getElem?_eq_getElem _⟩;have HQ:=ZZ hq;obtain⟨s2,A2,k2,ca2,B2,l2,cb2,hvj,d0,d1,d2⟩:=HV.out (j+1) (by rw [HNL.out];omega);have D0:=ZZ d0;have D1:=ZZ d1;have D2:=ZZ d2;have HQV:=ZZ (show ∀W,LsN W vs (x :: l)→Nr W (.agg #[.int .i64 s2,.slice A2 k2 ca2,.slice B2 l2 cb2]) q from fun W hW=>by rw [←hvj];exact hW (j+1) q (by simpa using hq));have HJ:=ZZ hj;have HZ0:=ZZ hz;clear d0 d1 d2 hvj hq hj
    go_upto_block 1 with (fail)
    obtain⟨s11,A11,k11,ca11,B11,l11,cb11,s12,A12,k12,ca12,B12,l12,cb12,rs4,h1⟩:=HB4.out;have EW:=ZZ (al E2.out XR.out);have HLW:=ZZ (HL.out.mono EW.out);have N12:=ZZ h1;have N1:=ZZ (h1 WR HLW.out).1;have N2:=ZZ (h1 WR HLW.out).2;have NQ:=ZZ (HQV.out WR HLW.out);have RS4:=ZZ rs4;have BHQ:=ZZ (hull_bq (l:=l.take j) (HB.out x (List.mem_cons_self ..)) (fun p hp=>HB.out p (List.mem_cons_of_mem _ (List.mem_of_mem_take hp))));have BQ:=ZZ (HB.out q (List.mem_cons_of_mem _ (List.mem_of_getElem? HQ.out)));have HGS:=ZZ (lt_of_block rs4);clear h1;have HR5:=ZZ (show ∀W:World,Ext WR W→W.heap[gs]?=some (.cells #[.int .i64 s11,.slice A11 k11 ca11,.slice B11 l11 cb11,.int .i64 s12,.slice A12 k12 ca12,.slice B12 l12 cb12] 85 (0,0)) from fun W h=>(h.block _ HGS.out).trans RS4.out)
    have HC:=ZZ (show ∀W:World,Ext WR W→W.cell? ⟨gs,0,none⟩=some (.int .i64 s11)∧W.cell? ⟨gs,1,none⟩=some (.slice A11 k11 ca11)∧W.cell? ⟨gs,2,none⟩=some (.slice B11 l11 cb11)∧W.cell? ⟨gs,3,none⟩=some (.int .i64 s12)∧W.cell? ⟨gs,4,none⟩=some (.slice A12 k12 ca12)∧W.cell? ⟨gs,5,none⟩=some (.slice B12 l12 cb12)∧W.cell? ⟨b,(j+1)*3,none⟩=some (.int .i64 s2)∧W.cell? ⟨b,(j+1)*3+1,none⟩=some (.slice A2 k2 ca2)∧W.cell? ⟨b,(j+1)*3+2,none⟩=some (.slice B2 l2 cb2) from fun W h=>by
     obtain⟨p0,p1,p2,p3,p4,p5⟩:=c6_of (HR5.out W h);exact⟨p0,p1,p2,p3,p4,p5,aq (al EW.out h) D0.out,aq (al EW.out h) D1.out,aq (al EW.out h) D2.out⟩)
    clear rs4 HB4
    go_cut [] (fun wx=>Hid (OwR wx vs (x :: l) gs (av (hullF (x,x) (l.take j)).1 q) (aw (hullF (x,x) (l.take j)).2 q))∧Ext W2 wx)
    case first=>
     go_upto_region 5 with (fail)
     have hun:undef=.tuple #[]:=rfl;refine wp_region_noPanic ?_;refine region_L (S:=fun W=>W.cell? ⟨gs,0,none⟩=some (.int .i64 s11)∧W.cell? ⟨gs,1,none⟩=some (.slice A11 k11 ca11)∧W.cell? ⟨gs,2,none⟩=some (.slice B11 l11 cb11)∧W.cell? ⟨gs,3,none⟩=some (.int .i64 s12)∧W.cell? ⟨gs,4,none⟩=some (.slice A12 k12 ca12)∧W.cell? ⟨gs,5,none⟩=some (.slice B12 l12 cb12)∧W.cell? ⟨b,(j+1)*3,none⟩=some (.int .i64 s2)∧W.cell? ⟨b,(j+1)*3+1,none⟩=some (.slice A2 k2 ca2)∧W.cell? ⟨b,(j+1)*3+2,none⟩=some (.slice B2 l2 cb2)) 15 (by kernel_rfl) (HC.out _ (ac _)) (fun hHeld=>?_);refine take_L (i:=0) 18 (v:=?vv0) rfl rfl (by kernel_rfl) (by kernel_rfl) (by kernel_rfl) (by kernel_rfl) (fun _ _ _ h=>h) (Or.inl ⟨rfl,?hy0⟩) (by assumption) ?rr0
     case hy0=>(intro w hSw;(try dsimp only at hSw);go_simp;try with_reducible rfl)
     try simp only [Act.put,lyA,lyB,lyC]
     refine take_L (i:=1) 19 (v:=?vv1) rfl rfl (by kernel_rfl) (by kernel_rfl) (by kernel_rfl) (by kernel_rfl) (fun _ _ _ h=>h) (Or.inl ⟨rfl,?hy1⟩) (by assumption) ?rr1
     case hy1=>(intro w hSw;(try dsimp only at hSw);go_simp;try with_reducible rfl)
     try simp only [Act.put,lyA,lyB,lyC]
     refine take_L (i:=2) 20 (v:=?vv2) rfl rfl (by kernel_rfl) (by kernel_rfl) (by kernel_rfl) (by kernel_rfl) (fun _ _ _ h=>h) (Or.inl ⟨rfl,?hy2⟩) (by assumption) ?rr2
     case hy2=>(intro w hSw;(try dsimp only at hSw);go_simp;try with_reducible rfl)
     try simp only [Act.put,lyA,lyB,lyC]
     refine take_L (i:=3) 21 (v:=?vv3) rfl rfl (by kernel_rfl) (by kernel_rfl) (by kernel_rfl) (by kernel_rfl) (fun _ _ _ h=>h) (Or.inl ⟨rfl,?hy3⟩) (by assumption) ?rr3
     case hy3=>(intro w hSw;(try dsimp only at hSw);go_simp;try with_reducible rfl)
     try simp only [Act.put,lyA,lyB,lyC]
     refine take_L (i:=4) 22 (v:=?vv4) rfl rfl (by kernel_rfl) (by kernel_rfl) (by kernel_rfl) (by kernel_rfl) (fun _ _ _ h=>h) (Or.inl ⟨rfl,?hy4⟩) (by assumption) ?rr4
     case hy4=>(intro w hSw;(try dsimp only at hSw);go_simp;try with_reducible rfl)
     try simp only [Act.put,lyA,lyB,lyC]
     refine take_L (i:=5) 23 (v:=?vv5) rfl rfl (by kernel_rfl) (by kernel_rfl) (by kernel_rfl) (by kernel_rfl) (fun _ _ _ h=>h) (Or.inl ⟨rfl,?hy5⟩) (by assumption) ?rr5
     case hy5=>(intro w hSw;(try dsimp only at hSw);go_simp;try with_reducible rfl)
     try simp only [Act.put,lyA,lyB,lyC]
     refine take_L (i:=7) 25 (v:=?vv7) rfl rfl (by kernel_rfl) (by kernel_rfl) (by kernel_rfl) (by kernel_rfl) (fun _ _ _ h=>h) (Or.inl ⟨rfl,?hy7⟩) (by assumption) ?rr7
     case hy7=>(intro w hSw;(try dsimp only at hSw);go_simp;try with_reducible rfl)
     try simp only [Act.put,lyA,lyB,lyC]
     refine take_L (i:=8) 26 (v:=?vv8) rfl rfl (by kernel_rfl) (by kernel_rfl) (by kernel_rfl) (by kernel_rfl) (fun _ _ _ h=>h) (Or.inl ⟨rfl,?hy8⟩) (by assumption) ?rr8
     case hy8=>(intro w hSw;(try dsimp only at hSw);go_simp;try with_reducible rfl)
     try simp only [Act.put,lyA,lyB,lyC]
     refine take_L (i:=9) 27 (v:=?vv9) rfl rfl (by kernel_rfl) (by kernel_rfl) (by kernel_rfl) (by kernel_rfl) (fun _ _ _ h=>h) (Or.inl ⟨rfl,?hy9⟩) (by assumption) ?rr9
     case hy9=>(intro w hSw;(try dsimp only at hSw);go_simp;try with_reducible rfl)
     try simp only [Act.put,lyA,lyB,lyC]
     refine take_L (i:=10) 28 (v:=?vv10) rfl rfl (by kernel_rfl) (by kernel_rfl) (by kernel_rfl) (by kernel_rfl) (fun _ _ _ h=>h) (Or.inl ⟨rfl,?hy10⟩) (by assumption) ?rr10
     case hy10=>(intro w hSw;(try dsimp only at hSw);go_simp;try with_reducible rfl)
     try simp only [Act.put,lyA,lyB,lyC]
     refine take_L (i:=11) 29 (v:=?vv11) rfl rfl (by kernel_rfl) (by kernel_rfl) (by kernel_rfl) (by kernel_rfl) (fun _ _ _ h=>h) (Or.inl ⟨rfl,?hy11⟩) (by assumption) ?rr11
     case hy11=>(intro w hSw;(try dsimp only at hSw);go_simp;try with_reducible rfl)
     try simp only [Act.put,lyA,lyB,lyC]
     refine take_L (i:=12) 30 (v:=?vv12) rfl rfl (by kernel_rfl) (by kernel_rfl) (by kernel_rfl) (by kernel_rfl) (fun _ _ _ h=>h) (Or.inl ⟨rfl,?hy12⟩) (by assumption) ?rr12
     case hy12=>(intro w hSw;(try dsimp only at hSw);go_simp;try with_reducible rfl)
     try simp only [Act.put,lyA,lyB,lyC]
     refine call_L (i:=6) 24 rfl rfl (by kernel_rfl) (fun K hK=>?_)
     go_simp
     go_at_call 60
     refine(min_v M HM.out _ _ (hullF (x,x) (l.take j)).1 q _ (N1.out.mono (ac _)) (NQ.out.mono (ac _)) BHQ.out.1 BQ.out).mono ?_;rintro e w4 ⟨v4,rfl,h4,k4⟩;obtain⟨s5,A5,k5,ca5,B5,l5,cb5,rfl,-⟩:=(h4 _ N1.out NQ.out).form;have S3:=ZZ h4;have hx2:=ZZ (show Ext WR w4 from al (ac _) k4);clear h4 k4
     try go_wp2_with fail
     refine hK.out _ _ (HC.out _ hx2.out) (fun hHeld=>?_);clear hK K
     try simp only [Act.put,lyA,lyB,lyC]
     refine call_L (i:=13) 31 rfl rfl (by kernel_rfl) (fun K hK=>?_)
     go_simp
     go_at_call 62
     refine(max_v M HM.out _ _ (hullF (x,x) (l.take j)).2 q _ (N2.out.mono hx2.out) (NQ.out.mono hx2.out) BHQ.out.2 BQ.out).mono ?_;rintro e w5 ⟨v5,rfl,h5,k5⟩;obtain⟨s6,A6,k6,ca6,B6,l6,cb6,rfl,-⟩:=(h5 _ N2.out NQ.out).form;have S4:=ZZ h5;have hx3:=ZZ (al hx2.out k5);clear h5 k5
     try go_wp2_with fail
     refine hK.out _ _ (HC.out _ hx3.out) (fun hHeld=>?_);clear hK K
     try simp only [Act.put,lyA,lyB,lyC]
     refine take_L (i:=14) 32 (v:=?vv14) rfl rfl (by kernel_rfl) (by kernel_rfl) (by kernel_rfl) (by kernel_rfl) (fun _ _ _ h=>h) (Or.inl ⟨rfl,?hy14⟩) (by assumption) ?rr14
     case hy14=>(intro w hSw;(try dsimp only at hSw);go_simp;try with_reducible rfl)
     try simp only [Act.put,lyA,lyB,lyC]
     refine last_L rfl (by kernel_rfl) (by kernel_rfl) (fun K hK=>?_);have hrow:=(HR5.out w5 hx3.out);obtain⟨z0,z1,z2,z3,z4,z5,zf0,zf1,zf2,zf3,zf4,zf5⟩:=ah hrow;clear hrow
     go_simp
     refine hK.out _ _ ?_;clear hK K
     try simp only [Act.put,lyA,lyB,lyC]
     refine NoPanic.normal ?_;go_wp2_with fail;go_meet;exact⟨ZZ ⟨_,_,_,_,_,_,_,_,_,_,_,_,_,_,af (HR5.out _ hx3.out) _ _ _ _ _ _,fun W hW=>⟨S3.out W (N12.out W hW).1 (HQV.out W hW),S4.out W (N12.out W hW).2 (HQV.out W hW)⟩⟩,ae (al XR.out hx3.out) HG3.out _ _ _ _ _ _⟩
    case rest=>
     obtain⟨HB5,hext⟩:=hcut;rename World=>WS;have XS:=ZZ hext;clear hext;go_wp2_with fail
     go_roundg (gk - 1)
     case measure=>have:=HZ0.out;omega
     case rel=>exact⟨j+1,by have:=HJ.out;have:=HZ0.out;omega,by have h1:=HJ.out;have h2:=HNL.out;have h3:=HLL.out;have h4:j≤3:=(by omega);rw [IntWalk.wrap64_in _ ⟨by omega,by omega⟩];rfl,by rw [hullF_take x l j q HQ.out];exact HB5,XS.out⟩
theorem hull_at (M:Nat) (hM:M≤134217728) (b n c:Nat) (x:Rat) (l:List Rat) (hl:l.length≤3) (hn:l.length+1=n) (vs:Nat→Value) (w:World) (hv:LsV w b vs n) (h:LsN w vs (x :: l)) (hb:∀q ∈ x :: l,Bq M q):Calls Tryz.prog 143 #[.slice (some ⟨b,0,none⟩) n c] w fun e w'=>∃v,e=.returned v∧(∀W,LsN W vs (x :: l)→SpR W v (hullF (x,x) l).1 (hullF (x,x) l).2)∧Ext w w':=by
 subst hn;exact hull_n M hM b c x l hl vs w hv h hb
end Go.Proofs.YtpgdefgdboijlaaGreatDoor
