/- Spans of the reference: the least span over a list of numbers. Printed by gen_sj3.py. The reference's polynomials: a coefficient, what is left without zeros, the degree. -/
import Derived.Test.YtjamgccgoapbeaaGreatDoorGSh
import Derived.Test.YtjamgccgoapbeaaGreatDoorGWf
import Derived.Deep.LoopGhost
import Derived.Test.YtjamgccgoapbeaaGreatDoorGYz
set_option linter.unusedVariables false
set_option maxRecDepth 100000
set_option maxHeartbeats 64000000
namespace Go.Proofs.YtjamgccgoapbeaaGreatDoor
open Go.RowKit
def LsV (w:World) (b:Nat) (vs:Nat→Value) (n:Nat):Prop:=∀i,i<n→∃s A k ca B m cb,vs i=.agg #[.int .i64 s,.slice A k ca,.slice B m cb]∧w.cell? ⟨b,i*3,none⟩=some (.int .i64 s)∧w.cell? ⟨b,i*3+1,none⟩=some (.slice A k ca)∧w.cell? ⟨b,i*3+2,none⟩=some (.slice B m cb)
def LsN (w:World) (vs:Nat→Value) (l:List Rat):Prop:=∀i q,l[i]?=some q→Nr w (vs i) q
theorem LsN.mono {w w':World} {vs:Nat→Value} {l:List Rat} (h:LsN w vs l) (k:Ext w w'):LsN w' vs l:=fun i q hq=>(h i q hq).mono k
theorem lsv4 {W:World} {g:Nat} {T:TypeId} {s11 A11 k11 ca11 B11 l11 cb11 s12 A12 k12 ca12 B12 l12 cb12 s13 A13 k13 ca13 B13 l13 cb13 s14 A14 k14 ca14 B14 l14 cb14:_} (h:W.heap[g]?=some (.cells #[.int .i64 s11,.slice A11 k11 ca11,.slice B11 l11 cb11,.int .i64 s12,.slice A12 k12 ca12,.slice B12 l12 cb12,.int .i64 s13,.slice A13 k13 ca13,.slice B13 l13 cb13,.int .i64 s14,.slice A14 k14 ca14,.slice B14 l14 cb14] T (0,0))):LsV W g (fun i=>[.agg #[.int .i64 s11,.slice A11 k11 ca11,.slice B11 l11 cb11],.agg #[.int .i64 s12,.slice A12 k12 ca12,.slice B12 l12 cb12],.agg #[.int .i64 s13,.slice A13 k13 ca13,.slice B13 l13 cb13],.agg #[.int .i64 s14,.slice A14 k14 ca14,.slice B14 l14 cb14]].getD i undef) 4:=by
 intro i hi;have hc:∀(j:Nat) (v:Value),#[.int .i64 s11,.slice A11 k11 ca11,.slice B11 l11 cb11,.int .i64 s12,.slice A12 k12 ca12,.slice B12 l12 cb12,.int .i64 s13,.slice A13 k13 ca13,.slice B13 l13 cb13,.int .i64 s14,.slice A14 k14 ca14,.slice B14 l14 cb14][j]?=some v→W.cell? ⟨g,j,none⟩=some v:=fun j v hv=>by rw [cell_of_row W g _ _ _ _ h];exact hv
 match i,hi with
 | 0,_=>exact⟨_,_,_,_,_,_,_,rfl,hc 0 _ rfl,hc 1 _ rfl,hc 2 _ rfl⟩
 | 1,_=>exact⟨_,_,_,_,_,_,_,rfl,hc 3 _ rfl,hc 4 _ rfl,hc 5 _ rfl⟩
 | 2,_=>exact⟨_,_,_,_,_,_,_,rfl,hc 6 _ rfl,hc 7 _ rfl,hc 8 _ rfl⟩
 | 3,_=>exact⟨_,_,_,_,_,_,_,rfl,hc 9 _ rfl,hc 10 _ rfl,hc 11 _ rfl⟩
 | i+4,hi=>omega
theorem lsn4 {W:World} {v0 v1 v2 v3:Value} {q0 q1 q2 q3:Rat} (h0:Nr W v0 q0) (h1:Nr W v1 q1) (h2:Nr W v2 q2) (h3:Nr W v3 q3):LsN W (fun i=>[v0,v1,v2,v3].getD i undef) [q0,q1,q2,q3]:=by
 intro i q hq
 match i,hq with
 | 0,hq=>obtain rfl:q0=q:=Option.some.inj hq;exact h0
 | 1,hq=>obtain rfl:q1=q:=Option.some.inj hq;exact h1
 | 2,hq=>obtain rfl:q2=q:=Option.some.inj hq;exact h2
 | 3,hq=>obtain rfl:q3=q:=Option.some.inj hq;exact h3
def OwR (wr:World) (vs:Nat→Value) (L:List Rat) (g:Nat) (lo hi:Rat):Prop:=∃s11 A11 k11 ca11 B11 l11 cb11 s12 A12 k12 ca12 B12 l12 cb12,wr.heap[g]?=some (.cells #[.int .i64 s11,.slice A11 k11 ca11,.slice B11 l11 cb11,.int .i64 s12,.slice A12 k12 ca12,.slice B12 l12 cb12] 64 (0,0))∧∀W,LsN W vs L→Nr W (.agg #[.int .i64 s11,.slice A11 k11 ca11,.slice B11 l11 cb11]) lo∧Nr W (.agg #[.int .i64 s12,.slice A12 k12 ca12,.slice B12 l12 cb12]) hi
theorem owr_new {w1:World} {vs:Nat→Value} {L:List Rat} {s11 A11 k11 ca11 B11 l11 cb11 s12 A12 k12 ca12 B12 l12 cb12:_} {lo hi:Rat} (h:∀W,LsN W vs L→Nr W (.agg #[.int .i64 s11,.slice A11 k11 ca11,.slice B11 l11 cb11]) lo∧Nr W (.agg #[.int .i64 s12,.slice A12 k12 ca12,.slice B12 l12 cb12]) hi):OwR ((w1.alloc (.cells #[.int .i64 s11,.slice A11 k11 ca11,.slice B11 l11 cb11,.int .i64 s12,.slice A12 k12 ca12,.slice B12 l12 cb12] 64)).drew) vs L w1.heap.size lo hi:=
 ⟨s11,A11,k11,ca11,B11,l11,cb11,s12,A12,k12,ca12,B12,l12,cb12,((ac _).block _ (lt_of_block (heap_alloc_new w1 _))).trans (heap_alloc_new w1 _),h⟩
theorem hullF_take (x:Rat) (l:List Rat) (j:Nat) (q:Rat) (h:l[j]?=some q):hullF (x,x) (l.take (j+1))=(aw (hullF (x,x) (l.take j)).1 q,ay (hullF (x,x) (l.take j)).2 q):=by
 rw [List.take_add_one,h,Option.toList_some,hullF_snoc]
theorem hull_bq {M:Nat} {x:Rat} {l:List Rat} (hx:Bq M x) (hl:∀q ∈ l,Bq M q):Bq M (hullF (x,x) l).1∧Bq M (hullF (x,x) l).2:=by
 suffices h:∀(s:Rat × Rat),Bq M s.1→Bq M s.2→Bq M (hullF s l).1∧Bq M (hullF s l).2 from h (x,x) hx hx
 induction l with
 | nil=>exact fun s h1 h2=>⟨h1,h2⟩
 | cons q l ih=>
  intro s h1 h2;have hq:=hl q (List.mem_cons_self ..);refine ih (fun p hp=>hl p (List.mem_cons_of_mem _ hp)) (aw s.1 q,ay s.2 q) ?_ ?_
  ·show Bq M (aw s.1 q);unfold aw;split <;> assumption
  ·show Bq M (ay s.2 q);unfold ay;split <;> assumption
theorem hull_n (M:Nat) (hM:M≤134217728) (b c:Nat) (x:Rat) (l:List Rat) (hl:l.length≤3) (vs:Nat→Value) (w:World) (hv:LsV w b vs (l.length+1)) (h:LsN w vs (x :: l)) (hb:∀q ∈ x :: l,Bq M q):Calls Tryz.prog 143 #[.slice (some ⟨b,0,none⟩) (l.length+1) c] w fun e w'=>∃v,e=.returned v∧(∀W,LsN W vs (x :: l)→SpR W v (hullF (x,x) l).1 (hullF (x,x) l).2)∧Ext w w':=by
 obtain⟨s1,A1,k1,ca1,B1,l1,cb1,hv0,c0,c1,c2⟩:=hv 0 (Nat.succ_pos _);have c0:w.cell? ⟨b,0,none⟩=some (.int .i64 s1):=c0;have c1:w.cell? ⟨b,1,none⟩=some (.slice A1 k1 ca1):=c1;have c2:w.cell? ⟨b,2,none⟩=some (.slice B1 l1 cb1):=c2;have HV:=ZZ hv;have HL:=ZZ h;have H1:=ZZ (show ∀W,LsN W vs (x :: l)→Nr W (.agg #[.int .i64 s1,.slice A1 k1 ca1,.slice B1 l1 cb1]) x from fun W hW=>by rw [←hv0];exact hW 0 x rfl);have HB:=ZZ hb;have HM:=ZZ hM;have HLL:=ZZ hl;obtain⟨n,hnl⟩:∃n,l.length=n:=⟨_,rfl⟩;have HNL:=ZZ hnl;rw [hnl];have q0:(0:Int)<(n:Int)+1:=by omega
 have q00:(0:Nat)<n+1:=by omega
 have BLT:=ZZ (block_lt_of_cell c0);have hb0:b≠w.heap.size:=Nat.ne_of_lt BLT.out;have hb1:b≠w.heap.size+1:=Nat.ne_of_lt (Nat.lt_succ_of_lt BLT.out);clear h hv hv0 hb hM hl hnl
 go_enter Tryz.func143,Tryz.ntmps143
 go_upto_region 1 with (fail)
 generalize hW2:World.alloc w _=W2;have E2:=ZZ (show Ext w W2 by rw [←hW2];exact ab _ _);have RZ:=ZZ (show W2.heap[w.heap.size]?=some (.cells #[.int .i64 0,.slice none 0 0,.slice none 0 0,.int .i64 0,.slice none 0 0,.slice none 0 0] 64 (0,0)) by rw [←hW2];exact heap_alloc_new _ _);clear hW2 hb0 hb1;have HS:=ZZ (show ∀W:World,Ext W2 W→W.cell? ⟨b,0,none⟩=some (.int .i64 s1)∧W.cell? ⟨b,1,none⟩=some (.slice A1 k1 ca1)∧W.cell? ⟨b,2,none⟩=some (.slice B1 l1 cb1) from fun W h=>⟨ar (am E2.out h) c0,ar (am E2.out h) c1,ar (am E2.out h) c2⟩);clear c0 c1 c2;generalize hg0:w.heap.size=g0 at *;have HG0:=ZZ hg0;have HGB:=ZZ (show b<W2.heap.size from Nat.lt_of_lt_of_le (by have:=BLT.out;exact this) (by have:=E2.out.size;omega));clear hg0
 go_cut [3] (fun p wx=>∃gs:Nat,p=.pointer (some ⟨gs,0,none⟩)∧Hid (OwR wx vs (x :: l) gs x x)∧Hid (W2.heap.size≤gs)∧Ext W2 wx)
 case first=>
  have hx0:=ZZ (ae W2);have hza:=ZZ (show W2.heap.size≤W2.heap.size from Nat.le_refl _);have hS0:=HS.out W2 (ae _);have nx1:b≠W2.heap.size:=Nat.ne_of_lt HGB.out
  go_region_held3 (fun W=>W.cell? ⟨b,0,none⟩=some (.int .i64 s1)∧W.cell? ⟨b,1,none⟩=some (.slice A1 k1 ca1)∧W.cell? ⟨b,2,none⟩=some (.slice B1 l1 cb1)) ((refine HS.out _ ?_;(repeat (with_reducible first|refine ext_dr' ?_|refine aq ?_ (by first|with_reducible exact hza.out|with_reducible exact hzb.out|with_reducible exact hzc.out) _ _ _ _ _ _|refine ext_al' ?_ _|exact hx2.out|exact hx1.out|exact hx0.out));done)) (fail)
  all_goals
   go_wp2_with fail;go_meet
   exact⟨_,rfl,ZZ (owr_new fun W hW=>⟨H1.out W hW,H1.out W hW⟩),hza,ext_dr' (ext_al' (ae _) _)⟩
 case rest=>
  obtain⟨gs,rfl,HB3,HG3,hex3⟩:=hcut;rename World=>W3;have X3:=ZZ hex3;clear hex3;go_wp2_with fail
  go_loopg [4] n (fun k i wr=>∃c:Nat,c+k=n∧i=.int .i64 ((c:Int)+1)∧Hid (OwR wr vs (x :: l) gs (hullF (x,x) (l.take c)).1 (hullF (x,x) (l.take c)).2)∧Ext W2 wr)
  case atStart=>exact⟨0,by omega,rfl,HB3,X3.out⟩
  case round=>
   obtain⟨j,hj,rfl,HB4,hext⟩:=hrel;rename World=>WR;have XR:=ZZ hext;clear hext
   rcases Nat.eq_zero_or_pos gk with hz|hz
   ·subst hz
    obtain rfl:j=n:=by omega
    have q1:decide ((j:Int)+1<(j:Int)+1)=false:=decide_eq_false (by omega);have q2:decide ((j:Int)+1<((j+1:Nat):Int))=false:=decide_eq_false (by omega);obtain⟨s11,A11,k11,ca11,B11,l11,cb11,s12,A12,k12,ca12,B12,l12,cb12,rs4,h1⟩:=HB4.out;rw [show l.take j=l from List.take_of_length_le (Nat.le_of_eq HNL.out)] at h1;have N1:=ZZ h1;have rz4:=(XR.out.block _ (lt_of_block RZ.out)).trans RZ.out;have RZ4:=ZZ rz4;obtain⟨i0,i1,i2,i3,i4,i5,-⟩:=ai rs4;obtain⟨z0,z1,z2,z3,z4,z5,zf0,zf1,zf2,zf3,zf4,zf5⟩:=ai rz4;clear rs4 h1 rz4 hj;go_wp2_with fail;refine bodyPost_ret (v:=.agg #[.int .i64 s11,.slice A11 k11 ca11,.slice B11 l11 cb11,.int .i64 s12,.slice A12 k12 ca12,.slice B12 l12 cb12]) (by simp [results,Tryz.f143];go_simp) rfl ?_;have EW:=am E2.out XR.out;exact⟨_,rfl,fun W hW=>al.2 (N1.out W hW),af EW (by rw [HG0.out];exact Nat.le_refl _) _ _ _ _ _ _⟩
   ·have q1:decide ((j:Int)+1<(n:Int)+1)=true:=decide_eq_true (by omega)
    have q2:decide ((j:Int)+1<((n+1:Nat):Int))=true:=decide_eq_true (by omega);have q3:(j:Int)+1<(n:Int)+1:=by omega
    have q4:(0:Int)≤(j:Int)+1:=by omega
    have q5:((j:Int)+1).toNat=j+1:=by omega
    obtain⟨q,hq⟩:∃q,l[j]?=some q:=⟨l[j]'(by rw [HNL.out];omega),List.getElem?_eq_getElem _⟩;have HQ:=ZZ hq;obtain⟨s2,A2,k2,ca2,B2,l2,cb2,hvj,d0,d1,d2⟩:=HV.out (j+1) (by rw [HNL.out];omega);have D0:=ZZ d0;have D1:=ZZ d1;have D2:=ZZ d2;have HQV:=ZZ (show ∀W,LsN W vs (x :: l)→Nr W (.agg #[.int .i64 s2,.slice A2 k2 ca2,.slice B2 l2 cb2]) q from fun W hW=>by rw [←hvj];exact hW (j+1) q (by simpa using hq));have HJ:=ZZ hj;have HZ0:=ZZ hz;clear d0 d1 d2 hvj hq hj
    go_upto_block 1 with (fail)
    obtain⟨s11,A11,k11,ca11,B11,l11,cb11,s12,A12,k12,ca12,B12,l12,cb12,rs4,h1⟩:=HB4.out;have EW:=ZZ (am E2.out XR.out);have HLW:=ZZ (HL.out.mono EW.out);have N12:=ZZ h1;have N1:=ZZ (h1 WR HLW.out).1;have N2:=ZZ (h1 WR HLW.out).2;have NQ:=ZZ (HQV.out WR HLW.out);have RS4:=ZZ rs4;have BHQ:=ZZ (hull_bq (l:=l.take j) (HB.out x (List.mem_cons_self ..)) (fun p hp=>HB.out p (List.mem_cons_of_mem _ (List.mem_of_mem_take hp))));have BQ:=ZZ (HB.out q (List.mem_cons_of_mem _ (List.mem_of_getElem? HQ.out)));have HGS:=ZZ (lt_of_block rs4);clear h1;have HR5:=ZZ (show ∀W:World,Ext WR W→W.heap[gs]?=some (.cells #[.int .i64 s11,.slice A11 k11 ca11,.slice B11 l11 cb11,.int .i64 s12,.slice A12 k12 ca12,.slice B12 l12 cb12] 64 (0,0)) from fun W h=>(h.block _ HGS.out).trans RS4.out)
    have HC:=ZZ (show ∀W:World,Ext WR W→W.cell? ⟨gs,0,none⟩=some (.int .i64 s11)∧W.cell? ⟨gs,1,none⟩=some (.slice A11 k11 ca11)∧W.cell? ⟨gs,2,none⟩=some (.slice B11 l11 cb11)∧W.cell? ⟨gs,3,none⟩=some (.int .i64 s12)∧W.cell? ⟨gs,4,none⟩=some (.slice A12 k12 ca12)∧W.cell? ⟨gs,5,none⟩=some (.slice B12 l12 cb12)∧W.cell? ⟨b,(j+1)*3,none⟩=some (.int .i64 s2)∧W.cell? ⟨b,(j+1)*3+1,none⟩=some (.slice A2 k2 ca2)∧W.cell? ⟨b,(j+1)*3+2,none⟩=some (.slice B2 l2 cb2) from fun W h=>by
     obtain⟨p0,p1,p2,p3,p4,p5⟩:=c6_of (HR5.out W h);exact⟨p0,p1,p2,p3,p4,p5,ar (am EW.out h) D0.out,ar (am EW.out h) D1.out,ar (am EW.out h) D2.out⟩)
    clear rs4 HB4
    go_cut [] (fun wx=>Hid (OwR wx vs (x :: l) gs (aw (hullF (x,x) (l.take j)).1 q) (ay (hullF (x,x) (l.take j)).2 q))∧Ext W2 wx)
    case first=>
     go_upto_region 5 with (fail)
     have hun:undef=.tuple #[]:=rfl;refine wp_region_noPanic ?_;refine region_L (S:=fun W=>W.cell? ⟨gs,0,none⟩=some (.int .i64 s11)∧W.cell? ⟨gs,1,none⟩=some (.slice A11 k11 ca11)∧W.cell? ⟨gs,2,none⟩=some (.slice B11 l11 cb11)∧W.cell? ⟨gs,3,none⟩=some (.int .i64 s12)∧W.cell? ⟨gs,4,none⟩=some (.slice A12 k12 ca12)∧W.cell? ⟨gs,5,none⟩=some (.slice B12 l12 cb12)∧W.cell? ⟨b,(j+1)*3,none⟩=some (.int .i64 s2)∧W.cell? ⟨b,(j+1)*3+1,none⟩=some (.slice A2 k2 ca2)∧W.cell? ⟨b,(j+1)*3+2,none⟩=some (.slice B2 l2 cb2)) 15 (by kernel_rfl) (HC.out _ (ac _)) (fun hHeld=>?_);refine take_b 0 18 ?_;refine take_b 1 19 ?_;refine take_b 2 20 ?_;refine take_b 3 21 ?_;refine take_b 4 22 ?_;refine take_b 5 23 ?_;refine take_b 7 25 ?_;refine take_b 8 26 ?_;refine take_b 9 27 ?_;refine take_b 10 28 ?_;refine take_b 11 29 ?_;refine take_b 12 30 ?_;refine call_L (i:=6) 24 rfl rfl (by kernel_rfl) (fun K hK=>?_)
     go_simp
     go_at_call 173
     refine(min_v M HM.out _ _ (hullF (x,x) (l.take j)).1 q _ (N1.out.mono (ac _)) (NQ.out.mono (ac _)) BHQ.out.1 BQ.out).mono ?_;rintro e w4 ⟨v4,rfl,h4,k4⟩;obtain⟨s5,A5,k5,ca5,B5,l5,cb5,rfl,-⟩:=(h4 _ N1.out NQ.out).form;have S3:=ZZ h4;have hx2:=ZZ (show Ext WR w4 from am (ac _) k4);clear h4 k4
     try go_wp2_with fail
     refine hK.out _ _ (HC.out _ hx2.out) (fun hHeld=>?_);clear hK K
     try simp only [Act.put,lyA,lyB,lyC]
     refine call_L (i:=13) 31 rfl rfl (by kernel_rfl) (fun K hK=>?_)
     go_simp
     go_at_call 174
     refine(max_v M HM.out _ _ (hullF (x,x) (l.take j)).2 q _ (N2.out.mono hx2.out) (NQ.out.mono hx2.out) BHQ.out.2 BQ.out).mono ?_;rintro e w5 ⟨v5,rfl,h5,k5⟩;obtain⟨s6,A6,k6,ca6,B6,l6,cb6,rfl,-⟩:=(h5 _ N2.out NQ.out).form;have S4:=ZZ h5;have hx3:=ZZ (am hx2.out k5);clear h5 k5
     try go_wp2_with fail
     refine hK.out _ _ (HC.out _ hx3.out) (fun hHeld=>?_);clear hK K
     try simp only [Act.put,lyA,lyB,lyC]
     refine take_b 14 32 ?_;refine last_L rfl (by kernel_rfl) (by kernel_rfl) (fun K hK=>?_);have hrow:=(HR5.out w5 hx3.out);obtain⟨z0,z1,z2,z3,z4,z5,zf0,zf1,zf2,zf3,zf4,zf5⟩:=ai hrow;clear hrow
     go_simp
     refine hK.out _ _ ?_;clear hK K
     try simp only [Act.put,lyA,lyB,lyC]
     refine NoPanic.normal ?_;go_wp2_with fail;go_meet;exact⟨ZZ ⟨_,_,_,_,_,_,_,_,_,_,_,_,_,_,ag (HR5.out _ hx3.out) _ _ _ _ _ _,fun W hW=>⟨S3.out W (N12.out W hW).1 (HQV.out W hW),S4.out W (N12.out W hW).2 (HQV.out W hW)⟩⟩,af (am XR.out hx3.out) HG3.out _ _ _ _ _ _⟩
    case rest=>
     obtain⟨HB5,hext⟩:=hcut;rename World=>WS;have XS:=ZZ hext;clear hext;go_wp2_with fail
     go_roundg (gk - 1)
     case measure=>have:=HZ0.out;omega
     case rel=>exact⟨j+1,by have:=HJ.out;have:=HZ0.out;omega,by have h1:=HJ.out;have h2:=HNL.out;have h3:=HLL.out;have h4:j≤3:=(by omega);rw [IntWalk.wrap64_in _ ⟨by omega,by omega⟩];rfl,by rw [hullF_take x l j q HQ.out];exact HB5,XS.out⟩
theorem hull_at (M:Nat) (hM:M≤134217728) (b n c:Nat) (x:Rat) (l:List Rat) (hl:l.length≤3) (hn:l.length+1=n) (vs:Nat→Value) (w:World) (hv:LsV w b vs n) (h:LsN w vs (x :: l)) (hb:∀q ∈ x :: l,Bq M q):Calls Tryz.prog 143 #[.slice (some ⟨b,0,none⟩) n c] w fun e w'=>∃v,e=.returned v∧(∀W,LsN W vs (x :: l)→SpR W v (hullF (x,x) l).1 (hullF (x,x) l).2)∧Ext w w':=by
 subst hn;exact hull_n M hM b c x l hl vs w hv h hb
end Go.Proofs.YtjamgccgoapbeaaGreatDoor
set_option linter.unusedVariables false
set_option maxRecDepth 100000
set_option maxHeartbeats 64000000
namespace Go.Proofs.YtjamgccgoapbeaaGreatDoor
open Go.RowKit
set_option linter.unusedSimpArgs false
theorem PlR.at_ {w:World} {A:Option Addr} {n c:Nat} {l:List Rat} (h:PlR w (.slice A n c) l) {i:Nat} (hi:i<n):∃b o q,A=some ⟨b,o,none⟩∧l[i]?=some q∧TriR w b (o+i*3) q:=by
 obtain⟨A',c',e,hc,h3⟩:=h
 injection e with e1 e2 e3
 subst e1 e2 e3
 rcases h3 with ⟨-,h4⟩|⟨b,o,h4,h5⟩
 ·subst h4;cases hi
 ·exact⟨b,o,l[i]'hi,h4,List.getElem?_eq_getElem hi,h5 i _ (List.getElem?_eq_getElem hi)⟩
theorem own_lit0 (w:World) (B:Nat) (hB:B≤w.heap.size):OwnG (w.alloc (.cells #[] 62)) B 62 3 (fun _=>True) (.slice (some ⟨w.heap.size,0,none⟩) 0 0) 0 []:=
 ⟨rfl,.inr ⟨w.heap.size,0,#[],rfl,hB,heap_alloc_new w _,Nat.le_refl _,by unfold maxLen;omega,rfl,rfl,fun c hc=>by cases hc⟩⟩
theorem run_append0 (w:World) (ty:TypeId) (a:Addr) (A:Option Addr) (c:Nat):(Builtin.append_ #[57,57] ty #[.slice (some a) 0 0,.slice A 0 c]).run Tryz.prog w=.ok (.slice (some a) 0 0) w:=by
 obtain⟨i,hi,-,-,-⟩:=elRf.inf;have ht:=elRf.und
 cases A <;> simp [Builtin.append_,run_underlying ht,sizeOf,typeInfo,hi,Builtin.lenOf,Builtin.firstCells,storeCells,loadCells,loadCellsFrom]
theorem app_lit {w w0:World} {A:Option Addr} {k cap:Nat} {l:List Rat} (ty:TypeId) (h:PlR w0 (.slice A k cap) l) (he:Ext (w0.alloc (.cells #[] 62)) w) (hl:l.length≤1000000):∃v' w',(Builtin.append_ #[57,57] ty #[.slice (some ⟨w0.heap.size,0,none⟩) 0 0,.slice A k cap]).run Tryz.prog w=.ok v' w'∧PlR w' v' l∧Ext w0 w':=by
 have h':=h;obtain⟨A',c',e,hc,h3⟩:=h
 injection e with e1 e2 e3
 subst e1 e2 e3;have e0:Ext w0 w:=am (ab _ _) he
 rcases Nat.eq_zero_or_pos l.length with h0|h0
 ·rw [h0]
  refine⟨_,w,run_append0 w ty _ _ _,?_,e0⟩;rw [List.length_eq_zero_iff.1 h0];exact⟨_,0,rfl,Nat.le_refl _,.inr ⟨_,0,rfl,fun i q hq=>by cases hq⟩⟩
 ·rcases h3 with ⟨-,h4⟩|⟨b,o,rfl,ht⟩
  ·rw [h4] at h0;cases h0
  have own:=(own_lit0 w0 w0.heap.size (Nat.le_refl _)).mono he
  have hcell:∀j,j<l.length*3→∃u,w.cell? ⟨b,o+j,none⟩=some u∧u.oneCell'=true:=fun j hj=>by
   have hi:j / 3<l.length:=by omega
   obtain⟨s,A1,k1,ca,B1,m,cb,c0,c1,c2,-⟩:=(ht (j / 3) (l[j / 3]'hi) (List.getElem?_eq_getElem hi)).mono e0
   rcases(show o+j=o+j / 3*3∨o+j=o+j / 3*3+1∨o+j=o+j / 3*3+2 by omega) with e|e|e
   ·exact⟨_,by rw [e];exact c0,rfl⟩
   ·exact⟨_,by rw [e];exact c1,rfl⟩
   ·exact⟨_,by rw [e];exact c2,rfl⟩
  obtain⟨v',w',hr,ho,hg,-⟩:=run_appendG2 elRf (C:=fun _=>True) (fun _ _=>trivial) w w0.heap.size ty _ 0 [] own ⟨b,o,none⟩ l.length cap (cellsL w b o (l.length*3)) (by simp [cellsL])
   (fun j u hu=>by
    have hj:=cellsL_lt hu;obtain⟨u',h1,-⟩:=hcell j hj;rw [cellsL_get hj,h1] at hu;rw [Addr.add_mid,h1,←Option.some.inj hu];rfl)
   (fun u hu=>by
    obtain⟨j,hj⟩:=List.mem_iff_getElem?.1 hu;have hj':=cellsL_lt hj;obtain⟨u',h1,h2⟩:=hcell j hj';rw [cellsL_get hj',h1] at hj;rw [←Option.some.inj hj];exact h2)
   (fun _ _=>trivial) h0 (by omega) (by unfold maxLen;omega) e0.size
  have e1:Ext w0 w':=ext_grownG e0 own hg;rw [Nat.zero_add,List.nil_append] at ho;refine⟨v',w',hr,plr_of_own ho (fun i q hq=>?_),e1⟩;obtain⟨s,A1,k1,ca,B1,m,cb,c0,c1,c2,hn⟩:=(ht i q hq).mono e0;obtain⟨-,-,-,-,-,-,-,-,-,-,hn0⟩:=ht i q hq;have hi':i<l.length:=(List.getElem?_eq_some_iff.1 hq).1
  have g:∀(r:Nat) (u:Value),r<3→w.cell? ⟨b,o+i*3+r,none⟩=some u→(cellsL w b o (l.length*3))[i*3+r]?=some u:=fun r u hr hu=>by
   rw [cellsL_get (by omega),←Nat.add_assoc,hu];rfl
  refine⟨s,A1,k1,ca,B1,m,cb,g 0 _ (by decide) c0,g 1 _ (by decide) c1,g 2 _ (by decide) c2,?_⟩;obtain⟨s2,A2,k2,cb2,B2,m2,cc2,d0,d1,d2,hn2⟩:=ht i q hq;have f0:=ar e0 d0;have f1:=ar e0 d1;have f2:=ar e0 d2;rw [c0] at f0;rw [c1] at f1;rw [c2] at f2
  cases f0
  cases f1
  cases f2
  exact hn2.mono e1
theorem wpList_applit {ops:Array Oper} {rest:List Oper} {o:Oper} {a:Act} {w w0:World} {Q:Exit→Act→World→Prop} {A:Option Addr} {k cap:Nat} {l:List Rat} (hgd:o.guard=none) (s x:Operand) (ho:o.op=.call { callee:=.builtin .append,args:=#[s,x],argTypes:=#[57,57] }) (hs:a.eval s=.slice (some ⟨w0.heap.size,0,none⟩) 0 0) (hx:a.eval x=.slice A k cap) (h:PlR w0 (.slice A k cap) l) (he:Ext (w0.alloc (.cells #[] 62)) w) (hl:l.length≤1000000) (hK:∀v' w',PlR w' v' l→Ext w0 w'→wpList Tryz.prog ops Q rest (a.put o.dst v') w'):wpList Tryz.prog ops Q (o :: rest) a w:=by
 refine wpList_plain hgd fun K hK'=>?_;obtain⟨v',w',hr,h2,h3⟩:=app_lit o.type h he hl;unfold Oper.wp execOp
 simp only [ho,resolve,invoke,builtin,Sem.run_bind,Sem.run_pure,Result.andThen_ok,List.map_toArray,List.map_cons,List.map_nil,hs,hx,hr]
 exact hK' _ _ (hK v' w' h2 h3)
theorem at_n (v:Value) (p:List Rat) (i:Nat) (hl:p.length≤1000000) (hi:i≤1000000) (w0 w:World) (h:PlR w0 v p) (k:Ext w0 w):Calls Tryz.prog 88 #[v,.int .i64 (i:Int)] w fun e w'=>∃u,e=.returned u∧Nr w0 u (co p i)∧Ext w w':=by
 obtain⟨n,hn⟩:∃n,p.length=n:=⟨_,rfl⟩;obtain⟨A,c,rfl⟩:=h.form;rw [hn] at h ⊢;have HL:=ZZ hl;have HN:=ZZ hn;have HI:=ZZ hi;have H0:=ZZ h;have K:=ZZ k;have Z:=ZZ (heap_alloc_new w (.cells #[.int .i64 0,.slice none 0 0,.slice none 0 0] 62));have E1:=ZZ (ab w (.cells #[.int .i64 0,.slice none 0 0,.slice none 0 0] 62));clear hl hi h k hn
 rcases Nat.lt_or_ge i n with hin|hin
 ·obtain⟨b,o,q,rfl,hq,s,A1,k1,ca1,B1,l1,cb1,c0,c1,c2,hnr⟩:=H0.out.at_ hin
  have HQ:=ZZ (show co p i=q from by unfold co;rw [hq];rfl);have HNR:=ZZ hnr;have d0:=ar (am K.out E1.out) c0;have d1:=ar (am K.out E1.out) c1;have d2:=ar (am K.out E1.out) c2;have q1:decide ((i:Int)<(n:Int))=true:=decide_eq_true (by omega);have q4:(i:Int)<(n:Int):=by omega
  have q5:(0:Int)≤(i:Int):=by omega
  have HIN:=ZZ hin;clear hq hnr c0 c1 c2 hin
  go_enter Tryz.func88,Tryz.ntmps88
  go_wp2_with fail;refine bodyPost_ret (v:=.agg #[.int .i64 s,.slice A1 k1 ca1,.slice B1 l1 cb1]) (by simp [results,Tryz.f88];go_simp) rfl ?_
  exact⟨_,rfl,by rw [HQ.out];exact HNR.out,ab _ _⟩
 ·have HQ:=ZZ (show co p i=0 from by unfold co;rw [List.getElem?_eq_none (by rw [HN.out];exact hin)];rfl)
  have q1:decide ((i:Int)<(n:Int))=false:=decide_eq_false (by omega);have q1':decide (i<n)=false:=decide_eq_false (by omega);have HIN:=ZZ hin;clear hin
  go_enter Tryz.func88,Tryz.ntmps88
  go_wp2_with fail;refine bodyPost_ret (v:=.agg #[.int .i64 0,.slice none 0 0,.slice none 0 0]) (by simp [results,Tryz.f88];go_simp) rfl ?_
  exact⟨_,rfl,by rw [HQ.out];exact Nr.zero _,ab _ _⟩
theorem trim_n (v:Value) (l:List Rat) (hl:l.length≤1000000) (w:World) (h:PlR w v l):Calls Tryz.prog 25 #[v] w fun e w'=>∃v',e=.returned v'∧PlR w' v' (trimF l)∧Ext w w':=by
 obtain⟨n,hn⟩:∃n,l.length=n:=⟨_,rfl⟩;obtain⟨A,cap,rfl⟩:=h.form;rw [hn] at h ⊢;have HP:=ZZ h;have HL:=ZZ hl;have HN:=ZZ hn;have HC:=ZZ (show n≤cap by obtain⟨A',c',e,hc,-⟩:=h;injection e with e1 e2 e3;omega);have hun:undef=.tuple #[]:=rfl;clear h hl hn
 go_enter Tryz.func25,Tryz.ntmps25
 go_wp2_with fail
 go_loopg [3] n (fun k i wr=>Hid (k≤n)∧i=.int .i64 (k:Int)∧Hid (trimF (l.take k)=trimF l)∧Hid (Ext w wr))
 case atStart=>exact⟨ZZ (Nat.le_refl _),rfl,ZZ (by rw [List.take_of_length_le (Nat.le_of_eq HN.out)]),ZZ (ae _)⟩
 case round=>
  obtain⟨HK,rfl,HT,HE⟩:=hrel;rename World=>WR
  rcases Nat.eq_zero_or_pos gk with hz|hz
  ·subst hz
   have q1:decide ((0:Int)<((0:Nat):Int))=false:=rfl;have HP0:=ZZ ((HP.out.mono HE.out).take (Nat.zero_le _))
   go_wp2_with (at_builtin;refine wpList_applit rfl _ _ rfl rfl rfl HP0.out (ae _) (by simp) ?_;intro v' w7 hp7 he7)
   go_ret;have e0:l.take 0=trimF l:=by rw [←HT.out];rfl
   rw [e0] at hp7;exact⟨_,rfl,hp7,am HE.out he7⟩
  ·obtain⟨k,rfl⟩:∃k,gk=k+1:=⟨gk - 1,by omega⟩
   clear hz;have hk:=HK.out;obtain⟨b,o,q,rfl,hq,htri⟩:=HP.out.at_ (show k<n by omega);obtain⟨s,A1,k1,ca1,B1,l1,cb1,c0,c1,c2,hn⟩:=htri.mono HE.out;obtain⟨c,hcs⟩:∃c,q.num.sign=c:=⟨_,rfl⟩;have HCS:=ZZ hcs;have HQ:=ZZ hq;have HNR:=ZZ hn;have q1:decide ((0:Int)<((k+1:Nat):Int))=true:=decide_eq_true (by omega);have q2:decide ((0:Int)<(k:Int)+1)=true:=decide_eq_true (by omega)
   have q3:IntKind.i64.wrap ((k:Int)+1 - 1)=(k:Int):=by
    have h1:=HL.out;have h2:=HN.out;rw [show (k:Int)+1 - 1=k by omega];exact IntWalk.i64_in _ (by omega)
   have q3':IntKind.i64.wrap (k:Int)=(k:Int):=by
    have h1:=HL.out;have h2:=HN.out;exact IntWalk.i64_in _ (by omega)
   have q4:(k:Int)<(n:Int):=by omega
   have q5:(0:Int)≤(k:Int):=by omega
   have q6:(k:Int)+1≤(cap:Int):=by have:=HC.out;omega
   have q7:(0:Int)≤(k:Int)+1:=by omega
   clear hcs hq hn htri hk;go_wp2_with fail;refine(sign_n _ q c HCS.out _ HNR.out).mono ?_;rintro e w5 ⟨rfl,k5⟩;have K5:=ZZ (am HE.out k5);clear c0 c1 c2 k5
   by_cases hc0:c=0
   ·subst hc0
    have z0:((0:Int) == 0)=true:=rfl;have HZ:=ZZ ((num_zero_iff HCS.out).1 rfl);go_wp2_with fail
    go_roundg k
    case measure=>omega
    case rel=>exact⟨ZZ (by have:=HK.out;omega),rfl,ZZ (by have h1:=HQ.out;rw [HZ.out] at h1;rw [←trim_take_zero h1];exact HT.out),ZZ K5.out⟩
   ·have z0:(c == 0)=false:=beq_eq_false_iff_ne.2 hc0
    have HZ:=ZZ (fun e:q=0=>hc0 ((num_zero_iff HCS.out).2 e));have HPK:=ZZ ((HP.out.mono K5.out).take (show k+1≤l.length by have h1:=HN.out;have h2:=HK.out;omega));clear hc0
    go_wp2_with (at_builtin;refine wpList_applit rfl _ _ rfl rfl rfl HPK.out (ae _) (by have h1:=HL.out;simp;omega) ?_;intro v' w7 hp7 he7)
    go_ret;rw [show l.take (k+1)=trimF l by rw [←HT.out];exact(trim_take_ne HQ.out HZ.out).symm] at hp7
    exact⟨_,rfl,hp7,am K5.out he7⟩
theorem deg_n (v:Value) (l:List Rat) (hl:l.length≤1000000) (w:World) (h:PlR w v l) (d:Int) (hd:((trimF l).length:Int) - 1=d):Calls Tryz.prog 27 #[v] w fun e w'=>e=.returned (.int .i64 d)∧Ext w w':=by
 have HP:=ZZ h;have HL:=ZZ hl;have HD:=ZZ hd;have HT:=ZZ (trim_le l);clear h hl hd
 go_enter Tryz.func27,Tryz.ntmps27
 go_wp2_with fail;refine(trim_n _ l HL.out _ HP.out).mono ?_
 rintro e w3 ⟨v3,rfl,h3,k3⟩;obtain⟨n,hn⟩:∃n,(trimF l).length=n:=⟨_,rfl⟩;obtain⟨A,cap,e3⟩:=h3.form;rw [hn] at e3;subst e3;have HN:=ZZ hn;have K3:=ZZ k3
 have q3:IntKind.i64.wrap ((n:Int) - 1)=d:=by
  have h1:=HL.out;have h2:=HT.out;have h3:=HD.out;rw [hn] at h2 h3;rw [h3];exact IntWalk.i64_in _ (by omega)
 clear h3 k3 hn;go_wp2_with fail;go_ret;exact⟨rfl,K3.out⟩
end Go.Proofs.YtjamgccgoapbeaaGreatDoor
