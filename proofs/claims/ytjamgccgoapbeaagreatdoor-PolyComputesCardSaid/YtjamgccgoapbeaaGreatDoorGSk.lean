/- Spans of the reference: products, powers, quotients, unions. Printed by gen_sk.py. The reference's polynomials: one number appended to an own row; sums. The reference's polynomials: multiples, differences, derivatives. Printed by gen_kd.py. -/
import Derived.Test.YtjamgccgoapbeaaGreatDoorGSj
import Derived.Test.YtjamgccgoapbeaaGreatDoorGVx
import Derived.Test.YtjamgccgoapbeaaGreatDoorGYl
set_option linter.unusedVariables false
set_option maxRecDepth 100000
set_option maxHeartbeats 64000000
namespace Go.Proofs.YtjamgccgoapbeaaGreatDoor
open Go.RowKit
def AgreeA (B:Nat) (w' W:World):Prop:=∀b,B≤b→W.heap[b]?=w'.heap[b]?
theorem Wr.above {W W':World} {v:Value} {n B:Nat} (h:Wr W v n) (hf:Fr B v) (hk:AgreeA B W W'):Wr W' v n:=by
 obtain⟨A,cc,e,hc,hcl⟩:=h;refine⟨A,cc,e,hc,?_⟩
 rcases hcl with h0|⟨b,o,hA,hce⟩
 ·exact .inl h0
 ·refine .inr ⟨b,o,hA,fun j hj=>?_⟩
  rw [←hce j hj];exact World.cell?_of_block (hk b (hf b (by rw [e,hA];rfl)))
theorem Nr.above {W W':World} {v:Value} {q:Rat} {B:Nat} (h:Nr W v q) (hf:FrN B v) (hk:AgreeA B W W'):Nr W' v q:=by
 obtain⟨s,vt,vb,e,hs,h1,h2⟩:=h;obtain⟨A,c,e1,-,-⟩:=id h1;obtain⟨A',c',e2,-,-⟩:=id h2;obtain⟨f1,f2⟩:=hf s A _ c A' _ c' (by rw [e,e1,e2]);exact⟨s,vt,vb,e,hs,h1.above (by rw [e1];exact f1) hk,h2.above (by rw [e2];exact f2) hk⟩
theorem mul_sp (M:Nat) (hM:M≤67108864) (va vb:Value) (qa qb qc qd:Rat) (w:World) (ha:SpR w va qa qb) (hb:SpR w vb qc qd) (ba1:Bq M qa) (ba2:Bq M qb) (bb1:Bq M qc) (bb2:Bq M qd):Calls Tryz.prog 94 #[va,vb] w fun e w'=>∃v,e=.returned v∧(∀W,AgreeA w.heap.size w' W→SpR W v (mulS qa qb qc qd).1 (mulS qa qb qc qd).2)∧Ext w w':=by
 obtain⟨s1,A1,k1,ca1,B1,l1,cb1,s2,A2,k2,ca2,B2,l2,cb2,rfl⟩:=ha.form2;obtain⟨s3,A3,k3,ca3,B3,l3,cb3,s4,A4,k4,ca4,B4,l4,cb4,rfl⟩:=hb.form2;obtain⟨hn1,hn2⟩:=al.1 ha;obtain⟨hn3,hn4⟩:=al.1 hb;have H1:=ZZ hn1;have H2:=ZZ hn2;have H3:=ZZ hn3;have H4:=ZZ hn4;have BA1:=ZZ ba1;have BA2:=ZZ ba2;have BB1:=ZZ bb1;have BB2:=ZZ bb2;have HM:=ZZ hM;have HSA:=ZZ ha;have HSB:=ZZ hb;obtain⟨hw0,hra,hrb,hrz⟩:=setG3 w (.cells #[.int .i64 s1,.slice A1 k1 ca1,.slice B1 l1 cb1,.int .i64 s2,.slice A2 k2 ca2,.slice B2 l2 cb2] 64) (.cells #[.int .i64 s3,.slice A3 k3 ca3,.slice B3 l3 cb3,.int .i64 s4,.slice A4 k4 ca4,.slice B4 l4 cb4] 64) (.cells #[.int .i64 0,.slice none 0 0,.slice none 0 0,.int .i64 0,.slice none 0 0,.slice none 0 0] 64);have hww:=ZZ hw0;have RA:=ZZ hra;have RB:=ZZ hrb;have RZ:=ZZ hrz;clear ha hb hn1 hn2 hn3 hn4 ba1 ba2 bb1 bb2 hM hw0 hra hrb hrz
 go_enter Tryz.func94,Tryz.ntmps94
 go_upto_region 1 with (fail)
 generalize World.alloc (World.alloc (World.alloc w (.cells #[.int .i64 s1,.slice A1 k1 ca1,.slice B1 l1 cb1,.int .i64 s2,.slice A2 k2 ca2,.slice B2 l2 cb2] _)) (.cells #[.int .i64 s3,.slice A3 k3 ca3,.slice B3 l3 cb3,.int .i64 s4,.slice A4 k4 ca4,.slice B4 l4 cb4] _)) (.cells #[.int .i64 0,.slice none 0 0,.slice none 0 0,.int .i64 0,.slice none 0 0,.slice none 0 0] _)=W2 at *;have LT1:=ZZ (show w.heap.size≤w.heap.size+1+1 from Nat.le_succ_of_le (Nat.le_succ _));generalize hg0:w.heap.size=g0 at *;have HG0:=ZZ hg0;clear hg0
 have HR:=ZZ (show ∀W:World,Ext W2 W→W.heap[g0]?=some (.cells #[.int .i64 s1,.slice A1 k1 ca1,.slice B1 l1 cb1,.int .i64 s2,.slice A2 k2 ca2,.slice B2 l2 cb2] 64 (0,0))∧W.heap[g0+1]?=some (.cells #[.int .i64 s3,.slice A3 k3 ca3,.slice B3 l3 cb3,.int .i64 s4,.slice A4 k4 ca4,.slice B4 l4 cb4] 64 (0,0))∧W.heap[g0+1+1]?=some (.cells #[.int .i64 0,.slice none 0 0,.slice none 0 0,.int .i64 0,.slice none 0 0,.slice none 0 0] 64 (0,0)) from fun W h=>
  ⟨(h.block _ (lt_of_block RA.out)).trans RA.out,(h.block _ (lt_of_block RB.out)).trans RB.out,(h.block _ (lt_of_block RZ.out)).trans RZ.out⟩)
 clear RA RB RZ;have n02:=ZZ (show g0≠g0+1+1 by omega);have n12:=ZZ (show g0+1≠g0+1+1 by omega);have e1:=ZZ (ac W2);have hx1:=e1
 go_region_held3 (fun W=>W.cell? ⟨g0,0,none⟩=some (.int .i64 s1)∧W.cell? ⟨g0,1,none⟩=some (.slice A1 k1 ca1)∧W.cell? ⟨g0,2,none⟩=some (.slice B1 l1 cb1)∧W.cell? ⟨g0,3,none⟩=some (.int .i64 s2)∧W.cell? ⟨g0,4,none⟩=some (.slice A2 k2 ca2)∧W.cell? ⟨g0,5,none⟩=some (.slice B2 l2 cb2)∧W.cell? ⟨g0+1,0,none⟩=some (.int .i64 s3)∧W.cell? ⟨g0+1,1,none⟩=some (.slice A3 k3 ca3)∧W.cell? ⟨g0+1,2,none⟩=some (.slice B3 l3 cb3)∧W.cell? ⟨g0+1,3,none⟩=some (.int .i64 s4)∧W.cell? ⟨g0+1,4,none⟩=some (.slice A4 k4 ca4)∧W.cell? ⟨g0+1,5,none⟩=some (.slice B4 l4 cb4))
  (first
   | with_reducible exact c12_of (HR.out _ K9.out).1 (HR.out _ K9.out).2.1
   | with_reducible exact c12_of (HR.out _ (am hx5.out (ab _ _))).1 (HR.out _ (am hx5.out (ab _ _))).2.1
   | with_reducible exact c12_of (HR.out _ hx5.out).1 (HR.out _ hx5.out).2.1
   | with_reducible exact c12_of (HR.out _ hx4.out).1 (HR.out _ hx4.out).2.1
   | with_reducible exact c12_of (HR.out _ hx3.out).1 (HR.out _ hx3.out).2.1
   | with_reducible exact c12_of (HR.out _ hx2.out).1 (HR.out _ hx2.out).2.1
   | with_reducible exact c12_of (HR.out _ hx1.out).1 (HR.out _ hx1.out).2.1
   | with_reducible exact c12_put (HR.out _ K9.out).1 (HR.out _ K9.out).2.1 n02.out n12.out _ _ _ _ _ _)
  (first
   |(have _q:=hx5
     go_at_call 143
     refine(hull_at (M+M) (by have:=HM.out;omega) _ _ _ (qa*qc) [qa*qd,qb*qc,qb*qd] (by simp) rfl _ _ (lsv4 (heap_alloc_new _ _)) (lsn4 (J1.out.mono (am e3.out (am e4.out (am e5.out (ab _ _))))) (J2.out.mono (am e4.out (am e5.out (ab _ _)))) (J3.out.mono (am e5.out (ab _ _))) (J4.out.mono (ab _ _))) (by simp [BA1.out.mul BB1.out,BA1.out.mul BB2.out,BA2.out.mul BB1.out,BA2.out.mul BB2.out])).mono ?_;clear _q;rintro e w9 ⟨vv,rfl,hf,kk⟩;have HF:=ZZ hf;have h9:=hf w9 (lsn4 (J1.out.mono (am e3.out (am e4.out (am e5.out (am (ab _ _) kk))))) (J2.out.mono (am e4.out (am e5.out (am (ab _ _) kk)))) (J3.out.mono (am e5.out (am (ab _ _) kk))) (J4.out.mono (am (ab _ _) kk)));obtain⟨s11,A11,k11,ca11,B11,l11,cb11,s12,A12,k12,ca12,B12,l12,cb12,rfl⟩:=h9.form2;have J1':=ZZ (J1.out.mono (am e3.out (am e4.out (am e5.out (am (ab _ _) kk)))));have J2':=ZZ (J2.out.mono (am e4.out (am e5.out (am (ab _ _) kk))));have J3':=ZZ (J3.out.mono (am e5.out (am (ab _ _) kk)));have J4':=ZZ (J4.out.mono (am (ab _ _) kk));have K9:=ZZ (am hx5.out (am (ab _ _) kk));clear h9 hf kk;obtain⟨-,-,rz⟩:=HR.out w9 K9.out;obtain⟨z0,z1,z2,z3,z4,z5,zf0,zf1,zf2,zf3,zf4,zf5⟩:=ai rz;have RZ9:=ZZ rz;clear rz)
   |(have _q:=hx4
     go_at_call 90
     refine(mul_f M (Nat.le_trans HM.out (by decide)) _ _ qb qd _ (H2.out.mono (am hww.out hx4.out)) (H4.out.mono (am hww.out hx4.out)) BA2.out BB2.out).mono ?_;clear _q;rintro e w7 ⟨vv,rfl,h9,kk,hfr⟩;obtain⟨s8,A8,k8,ca8,B8,l8,cb8,rfl,-⟩:=h9.form;have J4:=ZZ h9;have G4:=ZZ (hfr.mono (Nat.le_trans hww.out.size hx4.out.size));clear hfr;have e5:=ZZ kk;have hx5:=ZZ (am hx4.out kk);clear h9 kk)
   |(have _q:=hx3
     go_at_call 90
     refine(mul_f M (Nat.le_trans HM.out (by decide)) _ _ qb qc _ (H2.out.mono (am hww.out hx3.out)) (H3.out.mono (am hww.out hx3.out)) BA2.out BB1.out).mono ?_;clear _q;rintro e w6 ⟨vv,rfl,h9,kk,hfr⟩;obtain⟨s7,A7,k7,ca7,B7,l7,cb7,rfl,-⟩:=h9.form;have J3:=ZZ h9;have G3:=ZZ (hfr.mono (Nat.le_trans hww.out.size hx3.out.size));clear hfr;have e4:=ZZ kk;have hx4:=ZZ (am hx3.out kk);clear h9 kk)
   |(have _q:=hx2
     go_at_call 90
     refine(mul_f M (Nat.le_trans HM.out (by decide)) _ _ qa qd _ (H1.out.mono (am hww.out hx2.out)) (H4.out.mono (am hww.out hx2.out)) BA1.out BB2.out).mono ?_;clear _q;rintro e w5 ⟨vv,rfl,h9,kk,hfr⟩;obtain⟨s6,A6,k6,ca6,B6,l6,cb6,rfl,-⟩:=h9.form;have J2:=ZZ h9;have G2:=ZZ (hfr.mono (Nat.le_trans hww.out.size hx2.out.size));clear hfr;have e3:=ZZ kk;have hx3:=ZZ (am hx2.out kk);clear h9 kk)
   |(have _q:=hx1
     go_at_call 90
     refine(mul_f M (Nat.le_trans HM.out (by decide)) _ _ qa qc _ (H1.out.mono (am hww.out hx1.out)) (H3.out.mono (am hww.out hx1.out)) BA1.out BB1.out).mono ?_;clear _q;rintro e w4 ⟨vv,rfl,h9,kk,hfr⟩;obtain⟨s5,A5,k5,ca5,B5,l5,cb5,rfl,-⟩:=h9.form;have J1:=ZZ h9;have G1:=ZZ (hfr.mono (Nat.le_trans hww.out.size hx1.out.size));clear hfr;have e2:=ZZ kk;have hx2:=ZZ (am hx1.out kk);clear h9 kk))
 all_goals
  go_wp2_with fail;refine bodyPost_ret (v:=.agg #[.int .i64 s11,.slice A11 k11 ca11,.slice B11 l11 cb11,.int .i64 s12,.slice A12 k12 ca12,.slice B12 l12 cb12]) (by simp [results,Tryz.f94];go_simp) rfl ?_
  refine⟨_,rfl,fun W hA=>?_,af (am hww.out K9.out) (by rw [HG0.out];exact LT1.out) _ _ _ _ _ _⟩;rw [←hull_mul];exact HF.out W (lsn4 ((ao J1'.out RZ9.out _ _ _ _ _ _).above G1.out hA) ((ao J2'.out RZ9.out _ _ _ _ _ _).above G2.out hA) ((ao J3'.out RZ9.out _ _ _ _ _ _).above G3.out hA) ((ao J4'.out RZ9.out _ _ _ _ _ _).above G4.out hA))
end Go.Proofs.YtjamgccgoapbeaaGreatDoor
set_option linter.unusedVariables false
set_option maxRecDepth 100000
set_option maxHeartbeats 64000000
namespace Go.Proofs.YtjamgccgoapbeaaGreatDoor
open Go Go.RowKit
set_option linter.unusedSimpArgs false
theorem OwnQ.app {w0 W:World} {u:Value} {l:List Rat} {g:Nat} {s:Int} {A C:Option Addr} {k ca m cb:Nat} {q:Rat} (h:OwnQ W w0.heap.size u l) (e:Ext w0 W) (hl:l.length≤1000000) (hr:W.heap[g]?=some (.cells #[.int .i64 s,.slice A k ca,.slice C m cb] 62 (0,0))) (hq:Nr W (.agg #[.int .i64 s,.slice A k ca,.slice C m cb]) q) (hb:BlN (fun b=>u.ownBlock≠some b) (.agg #[.int .i64 s,.slice A k ca,.slice C m cb])) (ty:TypeId) (c:Nat):∃v' W',(Builtin.append_ #[57,57] ty #[u,.slice (some ⟨g,0,none⟩) 1 c]).run Tryz.prog W=.ok v' W'∧OwnQ W' w0.heap.size v' (l ++ [q])∧Ext w0 W':=by
 obtain⟨xs,hown,hx⟩:=h;obtain⟨y0,y1,y2,-⟩:=aj hr;obtain⟨v',W',h1,h2,h3,h4⟩:=run_appendG2 elRf (C:=fun _=>True) (fun _ _=>trivial) W w0.heap.size ty u l.length xs hown ⟨g,0,none⟩ 1 c [.int .i64 s,.slice A k ca,.slice C m cb] rfl
  (fun j x hj=>by
   rw [Addr.add_mid,Nat.zero_add]
   match j,hj with
   | 0,hj=>obtain rfl:=Option.some.inj hj;exact y0
   | 1,hj=>obtain rfl:=Option.some.inj hj;exact y1
   | 2,hj=>obtain rfl:=Option.some.inj hj;exact y2)
  (by intro x hx;simp at hx;rcases hx with rfl|rfl|rfl <;> rfl) (fun _ _=>trivial) (by decide) (by omega) (by unfold maxLen;omega) e.size
 exact⟨v',W',h1,OwnQ.snoc hown hx hq hb h3 h4 h2,ext_grownG e hown h3⟩
theorem wpList_appQ {ops:Array Oper} {rest:List Oper} {o:Oper} {a:Act} {w0 W:World} {Q:Exit→Act→World→Prop} {u:Value} {l:List Rat} {g c:Nat} {s:Int} {A C:Option Addr} {k ca m cb:Nat} {q:Rat} (hgd:o.guard=none) (t x:Operand) (ho:o.op=.call { callee:=.builtin .append,args:=#[t,x],argTypes:=#[57,57] }) (ht:a.eval t=u) (hx:a.eval x=.slice (some ⟨g,0,none⟩) 1 c) (h:OwnQ W w0.heap.size u l) (e:Ext w0 W) (hl:l.length≤1000000) (hr:W.heap[g]?=some (.cells #[.int .i64 s,.slice A k ca,.slice C m cb] 62 (0,0))) (hq:Nr W (.agg #[.int .i64 s,.slice A k ca,.slice C m cb]) q) (hb:BlN (fun b=>u.ownBlock≠some b) (.agg #[.int .i64 s,.slice A k ca,.slice C m cb])) (hK:∀v' W',OwnQ W' w0.heap.size v' (l ++ [q])→Ext w0 W'→wpList Tryz.prog ops Q rest (a.put o.dst v') W'):wpList Tryz.prog ops Q (o :: rest) a W:=by
 refine wpList_plain hgd fun K hK'=>?_;obtain⟨v',W',h1,h2,h3⟩:=h.app e hl hr hq hb o.type c;unfold Oper.wp execOp
 simp only [ho,resolve,invoke,builtin,Sem.run_bind,Sem.run_pure,Result.andThen_ok,List.map_toArray,List.map_cons,List.map_nil,ht,hx,h1]
 exact hK' _ _ (hK v' W' h2 h3)
theorem OwnQ.off {w0 W:World} {u v:Value} {l:List Rat} {q:Rat} (h:OwnQ W w0.heap.size u l) (hn:Nr w0 v q):BlN (fun b=>u.ownBlock≠some b) v:=by
 obtain⟨xs,hown,-⟩:=h;exact hn.old.imp (fun b hb e=>by have:=(hown.lt b e).1;omega)
theorem OwnQ.off_new {w0 W W':World} {u:Value} {l:List Rat} (h:OwnQ W w0.heap.size u l) (k:Ext W W'):∀b,W'.heap.size≤b→u.ownBlock≠some b:=by
 obtain⟨xs,hown,-⟩:=h;exact fun b hb e=>by have h1:=(hown.lt b e).2;have h2:=k.size;omega
theorem zip_length (p q:List Rat):(zipA p q).length=max p.length q.length:=by
 induction p generalizing q with
 | nil=>cases q <;> simp [zipA]
 | cons a p ih=>cases q with
  | nil=>simp [zipA]
  | cons b q=>simp [zipA,ih]
theorem take_co {l:List Rat} {j:Nat} (h:j<l.length):l.take (j+1)=l.take j ++ [co l j]:=by
 rw [List.take_add_one,List.getElem?_eq_getElem h];unfold co;rw [List.getElem?_eq_getElem h];rfl
theorem padd_n (M:Nat) (hM0:0<M) (hM:M≤134217728) (vp vq:Value) (p q:List Rat) (hlp:p.length≤100000) (hlq:q.length≤100000) (w:World) (hp:PlR w vp p) (hq:PlR w vq q) (hbp:∀c ∈ p,Bq M c) (hbq:∀c ∈ q,Bq M c):Calls Tryz.prog 29 #[vp,vq] w fun e w'=>∃v,e=.returned v∧PlR w' v (addF p q)∧Ext w w':=by
 obtain⟨n,hn⟩:∃n,p.length=n:=⟨_,rfl⟩;obtain⟨m,hm⟩:∃n,q.length=n:=⟨_,rfl⟩;obtain⟨A,ca,rfl⟩:=hp.form;obtain⟨C,cc,rfl⟩:=hq.form;rw [hn] at hp ⊢;rw [hm] at hq ⊢;have HP:=ZZ hp;have HQ:=ZZ hq;have HN:=ZZ hn;have HMM:=ZZ hm;have HLP:=ZZ hlp;have HLQ:=ZZ hlq;have BP:=ZZ (fun i=>bq_co hM0 hbp i);have BQ:=ZZ (fun i=>bq_co hM0 hbq i);have HM:=ZZ hM;have HZL:=ZZ (show (zipA p q).length=max n m by rw [zip_length,hn,hm]);have hun:undef=.tuple #[]:=rfl;clear hp hq hlp hlq hbp hbq hM hM0 hn hm
 go_enter Tryz.func29,Tryz.ntmps29
 go_wp2_with fail
 go_loopg [6,5] (max n m) (fun k i u wr=>∃j,Hid (j+k=max n m)∧i=.int .i64 (j:Int)∧Hid (OwnQ wr w.heap.size u ((zipA p q).take j))∧Hid (Ext w wr))
 case atStart=>exact⟨0,ZZ (Nat.zero_add _),rfl,ZZ (OwnQ.nil _ _),ZZ (ae _)⟩
 case round=>
  obtain⟨j,HJ,rfl,HO,HE⟩:=hrel;rename World=>WR;rename Value=>u
  rcases Nat.eq_zero_or_pos gk with hz|hz
  ·subst hz
   have q1:decide ((j:Int)<(n:Int))=false:=decide_eq_false (by have:=HJ.out;omega);have q2:decide ((j:Int)<(m:Int))=false:=decide_eq_false (by have:=HJ.out;omega);have q1':decide (j<n)=false:=decide_eq_false (by have:=HJ.out;omega);have q2':decide (j<m)=false:=decide_eq_false (by have:=HJ.out;omega);have HPL:=ZZ HO.out.pl;rw [List.take_of_length_le (by have h1:=HZL.out;have h2:=HJ.out;omega)] at HPL;go_wp2_with fail;refine(trim_n _ (zipA p q) (by have h1:=HZL.out;have h2:=HLP.out;have h3:=HLQ.out;have h4:=HN.out;have h5:=HMM.out;omega) _ HPL.out).mono ?_;rintro e w5 ⟨v5,rfl,h5,k5⟩;have H5:=ZZ h5;have K5:=ZZ k5;clear h5 k5;go_wp2_with fail;go_ret;exact⟨_,rfl,H5.out,am HE.out K5.out⟩
  ·have hjn:j<max n m:=by have:=HJ.out;omega
   have hor:decide (j<n)=true∨(decide (j<n)=false∧decide (j<m)=true):=by
    rcases Nat.lt_or_ge j n with h|h
    ·exact .inl (decide_eq_true h)
    ·exact .inr ⟨decide_eq_false (by omega),decide_eq_true (by omega)⟩
   have HZ:=ZZ hz;have HJN:=ZZ hjn;have HJL:=ZZ (show j≤1000000 by have h2:=HLP.out;have h3:=HLQ.out;have h4:=HN.out;have h5:=HMM.out;omega);clear hz hjn
   rcases hor with q1|⟨q1,q2⟩
   all_goals
    go_wp2_with fail;refine(at_n _ p j (by have:=HLP.out;omega) HJL.out w _ HP.out HE.out).mono ?_
    rintro e w3 ⟨u1,rfl,h3,k3⟩;have N3:=ZZ h3;have K3:=ZZ k3;clear h3 k3;go_wp2_with fail;refine(at_n _ q j (by have:=HLQ.out;omega) HJL.out w _ HQ.out (am HE.out K3.out)).mono ?_;rintro e w4 ⟨u2,rfl,h4,k4⟩;have N4:=ZZ h4;have K4:=ZZ (am K3.out k4);clear h4 k4;go_wp2_with fail;refine(add_f M HM.out _ _ (co p j) (co q j) _ (N3.out.mono (am HE.out K4.out)) (N4.out.mono (am HE.out K4.out)) (BP.out j) (BQ.out j)).mono ?_;rintro e w5 ⟨v5,rfl,h5,k5,f5⟩;obtain⟨s5,A5,k5',ca5,B5,l5,cb5,rfl,-⟩:=h5.form;have K5:=ZZ (am K4.out k5);have H5:=ZZ h5;have F5:=ZZ (f5 _ (HO.out.off_new K4.out) (HO.out.off N3.out) (HO.out.off N4.out));have EN:=ZZ (am K5.out (ab w5 (.cells #[.int .i64 s5,.slice A5 k5' ca5,.slice B5 l5 cb5] 62)));clear h5 k5 f5
    go_wp2_with (at_builtin;refine wpList_appQ rfl _ _ rfl rfl rfl (HO.out.mono EN.out) (am HE.out EN.out) (by have h1:=HJL.out;simp;omega) (heap_alloc_new w5 _) (H5.out.mono (ab _ _)) F5.out ?_;intro v' w7 hown7 he7)
    have HP7:=ZZ hown7;have E7:=ZZ he7;clear hown7 he7;go_wp2_with fail
    go_roundg (gk - 1)
    case measure=>have:=HZ.out;omega
    case rel=>
     refine⟨j+1,ZZ (by have:=HJ.out;have:=HZ.out;omega),by have h1:=HJL.out;rw [IntWalk.wrap64_in _ ⟨by omega,by omega⟩];rfl,ZZ ?_,ZZ E7.out⟩;rw [take_co (by have h1:=HZL.out;have h2:=HJN.out;omega),co_zip];exact HP7.out
end Go.Proofs.YtjamgccgoapbeaaGreatDoor
set_option linter.unusedVariables false
set_option maxRecDepth 100000
set_option maxHeartbeats 64000000
namespace Go.Proofs.YtjamgccgoapbeaaGreatDoor
open Go Go.RowKit
set_option linter.unusedSimpArgs false
theorem pscale_n (M:Nat) (hM0:0<M) (hM:M≤134217728) (vp vx:Value) (p:List Rat) (x:Rat) (hlp:p.length≤100000) (w:World) (hp:PlR w vp p) (hx:Nr w vx x) (hbp:∀c ∈ p,Bq M c) (bx:Bq M x):Calls Tryz.prog 35 #[vp,vx] w fun e w'=>∃v,e=.returned v∧PlR w' v (scaleF p x)∧Ext w w':=by
 obtain⟨n,hn⟩:∃n,p.length=n:=⟨_,rfl⟩;obtain⟨A,ca,rfl⟩:=hp.form;obtain⟨s1,A1,k1,ca1,B1,l1,cb1,rfl,-⟩:=hx.form;rw [hn] at hp ⊢;have x1:=ab w (.cells #[.int .i64 s1,.slice A1 k1 ca1,.slice B1 l1 cb1] 62);have R1:=ZZ (heap_alloc_new w (.cells #[.int .i64 s1,.slice A1 k1 ca1,.slice B1 l1 cb1] 62));have E1:=ZZ x1;have HP:=ZZ (hp.mono x1);have NX:=ZZ (hx.mono x1);have HN:=ZZ hn;have HLP:=ZZ hlp;have HBP:=ZZ hbp;have BX:=ZZ bx;have HM:=ZZ hM;have hun:undef=.tuple #[]:=rfl;clear hp hx hlp hbp bx hM hM0 hn x1
 go_enter Tryz.func35,Tryz.ntmps35
 go_upto_region 1 with (fail)
 generalize w.alloc (.cells #[.int .i64 s1,.slice A1 k1 ca1,.slice B1 l1 cb1] _)=W1 at *;obtain⟨gx,hgx⟩:∃g,w.heap.size=g:=⟨_,rfl⟩;rw [hgx] at R1;rw [hgx];clear hgx;go_wp2_with fail
 go_loopg [6,5] n (fun k i u wr=>∃j,Hid (j+k=n)∧i=.int .i64 (j:Int)∧Hid (OwnQ wr W1.heap.size u ((p.map (·*x)).take j))∧Hid (Ext W1 wr))
 case atStart=>exact⟨0,ZZ (Nat.zero_add _),rfl,ZZ (OwnQ.nil _ _),ZZ (ae _)⟩
 case round=>
  obtain⟨j,HJ,rfl,HO,HE⟩:=hrel;rename World=>WR;rename Value=>u
  rcases Nat.eq_zero_or_pos gk with hz|hz
  ·subst hz
   obtain rfl:j=n:=HJ.out;have q1:decide ((j:Int)<(j:Int))=false:=decide_eq_false (Int.lt_irrefl _);have HPL:=ZZ HO.out.pl;rw [List.take_of_length_le (by rw [List.length_map,HN.out];exact Nat.le_refl _)] at HPL;go_wp2_with fail;refine(trim_n _ (p.map (·*x)) (by rw [List.length_map];have:=HLP.out;omega) _ HPL.out).mono ?_;rintro e w5 ⟨v5,rfl,h5,k5⟩;have H5:=ZZ h5;have K5:=ZZ k5;clear h5 k5;go_wp2_with fail;go_ret;exact⟨_,rfl,H5.out,am E1.out (am HE.out K5.out)⟩
  ·have hjn:j<n:=by have:=HJ.out;omega
   have q1:decide ((j:Int)<(n:Int))=true:=decide_eq_true (by omega);have q1':decide (j<n)=true:=decide_eq_true hjn;have q4:(j:Int)<(n:Int):=by omega
   have q5:(0:Int)≤(j:Int):=by omega
   obtain⟨b,o,q,rfl,hq,htri⟩:=HP.out.at_ hjn;obtain⟨s2,A2,k2,ca2,B2,l2,cb2,c0,c1,c2,hn2⟩:=htri.mono HE.out;have NQ:=ZZ hn2;have HQ:=ZZ hq;have BQ:=ZZ (HBP.out q (List.mem_of_getElem? hq));have HE1:=HE;have HZ:=ZZ hz;have HJN:=ZZ hjn;have HJL:=ZZ (show j≤1000000 by have h2:=HLP.out;have h4:=HN.out;omega);have HLT:=ZZ (show ((p.map (·*x)).take j).length=j by rw [List.length_take,List.length_map,HN.out];omega);have d:=htri;obtain⟨s9,A9,k9,ca9,B9,l9,cb9,e0,e1,e2,-⟩:=htri
   have HC:=ZZ (show ∀W,Ext WR W→W.cell? ⟨gx,0,none⟩=some (.int .i64 s1)∧W.cell? ⟨gx,1,none⟩=some (.slice A1 k1 ca1)∧W.cell? ⟨gx,2,none⟩=some (.slice B1 l1 cb1)∧W.cell? ⟨b,o+j*3,none⟩=some (.int .i64 s2)∧W.cell? ⟨b,o+j*3+1,none⟩=some (.slice A2 k2 ca2)∧W.cell? ⟨b,o+j*3+2,none⟩=some (.slice B2 l2 cb2) from fun W k=>by
    obtain⟨y0,y1,y2,-⟩:=aj (((am HE.out k).block _ (lt_of_block R1.out)).trans R1.out);exact⟨y0,y1,y2,ar k c0,ar k c1,ar k c2⟩)
   have f0:=ar HE.out e0;have f1:=ar HE.out e1;have f2:=ar HE.out e2;rw [c0] at f0;rw [c1] at f1;rw [c2] at f2
   cases f0
   cases f1
   cases f2
   have HCW:=ZZ (show ∀W,Ext W1 W→W.cell? ⟨gx,0,none⟩=some (.int .i64 s1)∧W.cell? ⟨gx,1,none⟩=some (.slice A1 k1 ca1)∧W.cell? ⟨gx,2,none⟩=some (.slice B1 l1 cb1)∧W.cell? ⟨b,o+j*3,none⟩=some (.int .i64 s2)∧W.cell? ⟨b,o+j*3+1,none⟩=some (.slice A2 k2 ca2)∧W.cell? ⟨b,o+j*3+2,none⟩=some (.slice B2 l2 cb2) from fun W k=>by
    obtain⟨y0,y1,y2,-⟩:=aj ((k.block _ (lt_of_block R1.out)).trans R1.out);exact⟨y0,y1,y2,ar k e0,ar k e1,ar k e2⟩)
   clear hz hjn hq hn2 d c0 c1 c2 e0 e1 e2
   go_upto_region 5 with (fail)
   refine wp_region_noPanic ?_;refine wp_region_held_drew (S:=fun W=>W.cell? ⟨gx,0,none⟩=some (.int .i64 s1)∧W.cell? ⟨gx,1,none⟩=some (.slice A1 k1 ca1)∧W.cell? ⟨gx,2,none⟩=some (.slice B1 l1 cb1)∧W.cell? ⟨b,o+j*3,none⟩=some (.int .i64 s2)∧W.cell? ⟨b,o+j*3+1,none⟩=some (.slice A2 k2 ca2)∧W.cell? ⟨b,o+j*3+2,none⟩=some (.slice B2 l2 cb2)) (by kernel_rfl) (HC.out _ (ac _)) (fun hHeld=>?_);refine take_a 0 13 ?_;refine take_a 1 14 ?_;refine take_a 2 15 ?_;refine take_a 3 16 ?_;refine take_a 4 17 ?_;refine take_a 5 18 ?_;refine call_p (i:=6) (some 19) rfl rfl (by kernel_rfl) (fun K hK=>?_)
   go_simp
   go_at_call 90
   refine(mul_f M HM.out _ _ q x _ (NQ.out.mono (ac _)) (NX.out.mono (am HE1.out (ac _))) BQ.out BX.out).mono ?_;rintro e x6 ⟨v6,rfl,h6,kk6,f6⟩;obtain⟨s6,A6,k6,ca6,B6,l6,cb6,rfl,-⟩:=h6.form;have N6:=ZZ h6;have hx6:=ZZ (show Ext WR x6 from am (ac _) kk6);have F6:=ZZ (f6.bln (HO.out.off_new (ac _)));clear h6 kk6 f6
   try go_wp2_with fail
   refine hK.out _ _ (HC.out _ hx6.out) (fun hHeld=>?_);clear hK K
   try simp only [Act.put,lyA,lyB,lyC]
   refine call_p (i:=7) (some 20) rfl rfl (by kernel_rfl) (fun K hK=>?_)
   go_simp
   have EA:=ZZ (am hx6.out (ab x6 (.cells #[.int .i64 s6,.slice A6 k6 ca6,.slice B6 l6 cb6] 62)));have RA:=ZZ (heap_alloc_new x6 (.cells #[.int .i64 s6,.slice A6 k6 ca6,.slice B6 l6 cb6] 62));have NA:=ZZ (N6.out.mono (ab x6 (.cells #[.int .i64 s6,.slice A6 k6 ca6,.slice B6 l6 cb6] 62)));clear N6;refine hK.out _ _ (HC.out _ EA.out) (fun hHeld=>?_);clear hK K
   try simp only [Act.put,lyA,lyB,lyC]
   refine call_p (i:=8) (some 21) rfl rfl (by kernel_rfl) (fun K hK=>?_);refine(if_pos (show Region.wanted _ _=true from rfl)).mpr ?_;obtain⟨v8,W8,hr8,ho8,he8⟩:=(HO.out.mono EA.out).app (am HE.out EA.out) (by have h1:=HJL.out;rw [HLT.out];omega) RA.out NA.out F6.out 57 1;have HP8:=ZZ ho8;have E8:=ZZ he8;refine oper_appendG (.tmp 13) (.tmp 20) rfl rfl rfl hr8 ?_;clear hr8 ho8 he8;refine hK.out _ _ (HCW.out _ E8.out) (fun hHeld=>?_);clear hK K
   try simp only [Act.put,lyA,lyB,lyC]
   refine take_a 9 5 ?_;refine wpAnyH_done (by kernel_rfl) ?_ _;refine NoPanic.normal ?_;go_wp2_with fail
   go_roundg (gk - 1)
   case measure=>have:=HZ.out;omega
   case rel=>
    refine⟨j+1,ZZ (by have:=HJ.out;have:=HZ.out;omega),by have h1:=HJL.out;rw [IntWalk.wrap64_in _ ⟨by omega,by omega⟩];rfl,ZZ ?_,ZZ E8.out⟩;rw [take_co (by rw [List.length_map,HN.out];exact HJN.out),co_map,show co p j=q by unfold co;rw [HQ.out];rfl];exact HP8.out
theorem psub_n (M:Nat) (hM0:0<M) (hM:M+65≤134217728) (vp vq:Value) (p q:List Rat) (hlp:p.length≤100000) (hlq:q.length≤100000) (w:World) (hp:PlR w vp p) (hq:PlR w vq q) (hbp:∀c ∈ p,Bq M c) (hbq:∀c ∈ q,Bq M c):Calls Tryz.prog 31 #[vp,vq] w fun e w'=>∃v,e=.returned v∧PlR w' v (subF p q)∧Ext w w':=by
 have HP:=ZZ hp;have HQ:=ZZ hq;have HLP:=ZZ hlp;have HLQ:=ZZ hlq;have HM:=ZZ hM;have HM0:=ZZ hM0;have BP:=ZZ (fun c (hc:c ∈ p)=>((hbp c hc).mono (show M≤M+65 by omega):Bq (M+65) c));have BQ:=ZZ (fun c (hc:c ∈ q)=>((hbq c hc).mono (show M≤M+65 by omega):Bq (M+65) c))
 have BS:=ZZ (show ∀c ∈ scaleF q (-1),Bq (M+65) c from fun c hc=>by
  obtain⟨c0,h0,rfl⟩:=List.mem_map.1 (trim_mem hc);exact((hbq c0 h0).mul (bq_int (-1) (by decide) (by decide))).mono (by omega))
 have HLS:=ZZ (show (scaleF q (-1)).length≤100000 from Nat.le_trans (trim_le _) (by rw [List.length_map];exact hlq));clear hp hq hlp hlq hM hM0 hbp hbq
 go_enter Tryz.func31,Tryz.ntmps31
 go_wp2_with fail;refine(int_n (-1) (by decide) (by decide) _).mono ?_
 rintro e w3 ⟨v3,rfl,h3,k3⟩;have N3:=ZZ h3;have K3:=ZZ k3;clear h3 k3;go_wp2_with fail;refine(pscale_n (M+65) (by omega) HM.out _ _ q (-1) HLQ.out _ (HQ.out.mono K3.out) N3.out BQ.out ((bq_int (-1) (by decide) (by decide)).mono (by omega))).mono ?_;rintro e w4 ⟨v4,rfl,h4,k4⟩;have P4:=ZZ h4;have K4:=ZZ (am K3.out k4);clear h4 k4;go_wp2_with fail;refine(padd_n (M+65) (by omega) HM.out _ _ p (scaleF q (-1)) HLP.out HLS.out _ (HP.out.mono K4.out) P4.out BP.out BS.out).mono ?_;rintro e w5 ⟨v5,rfl,h5,k5⟩;have H5:=ZZ h5;have K5:=ZZ (am K4.out k5);clear h5 k5;go_wp2_with fail;go_ret;exact⟨_,rfl,H5.out,K5.out⟩
theorem pderiv_n (M:Nat) (hM:M+64≤134217728) (vp:Value) (p:List Rat) (hlp:p.length≤100000) (w:World) (hp:PlR w vp p) (hbp:∀c ∈ p,Bq M c):Calls Tryz.prog 37 #[vp] w fun e w'=>∃v,e=.returned v∧PlR w' v (derivF p)∧Ext w w':=by
 obtain⟨n,hn⟩:∃n,p.length=n:=⟨_,rfl⟩;obtain⟨A,ca,rfl⟩:=hp.form;rw [hn] at hp ⊢;have HP:=ZZ hp;have HN:=ZZ hn;have HLP:=ZZ hlp;have HBP:=ZZ hbp;have HM:=ZZ hM;have hun:undef=.tuple #[]:=rfl;clear hp hlp hbp hM hn
 go_enter Tryz.func37,Tryz.ntmps37
 go_wp2_with fail
 go_loopg [4,3] (n - 1) (fun k i u wr=>∃j,Hid (0<j∧j+k=max n 1)∧i=.int .i64 (j:Int)∧Hid (OwnQ wr w.heap.size u (derU p j))∧Hid (Ext w wr))
 case atStart=>exact⟨1,ZZ ⟨by decide,by omega⟩,rfl,ZZ (OwnQ.nil _ _),ZZ (ae _)⟩
 case round=>
  obtain⟨j,HJ,rfl,HO,HE⟩:=hrel;rename World=>WR;rename Value=>u
  rcases Nat.eq_zero_or_pos gk with hz|hz
  ·subst hz
   have q1:decide ((j:Int)<(n:Int))=false:=decide_eq_false (by have:=HJ.out;omega);have q1':decide (j<n)=false:=decide_eq_false (by have:=HJ.out;omega);have HPL:=ZZ HO.out.pl
   rw [show derU p j=derU p p.length from by
    rw [HN.out]
    rcases Nat.eq_zero_or_pos n with h0|h0
    ·rw [h0,show j=1 by have:=HJ.out;omega];rfl
    ·rw [show j=n by have:=HJ.out;omega]] at HPL
   go_wp2_with fail;refine(trim_n _ (derU p p.length) (by rw [derU_len];have:=HLP.out;omega) _ HPL.out).mono ?_
   rintro e w5 ⟨v5,rfl,h5,k5⟩;have H5:=ZZ h5;have K5:=ZZ k5;clear h5 k5;go_wp2_with fail;go_ret;exact⟨_,rfl,H5.out,am HE.out K5.out⟩
  ·have hjn:j<n:=by have:=HJ.out;omega
   have q1:decide ((j:Int)<(n:Int))=true:=decide_eq_true (by omega);have q1':decide (j<n)=true:=decide_eq_true hjn;have q4:(j:Int)<(n:Int):=by omega
   have q5:(0:Int)≤(j:Int):=by omega
   obtain⟨b,o,q,rfl,hq,htri⟩:=HP.out.at_ hjn;obtain⟨s2,A2,k2,ca2,B2,l2,cb2,c0,c1,c2,hn2⟩:=htri.mono HE.out;have NQ:=ZZ hn2;have HQ:=ZZ hq;have BQ:=ZZ (HBP.out q (List.mem_of_getElem? hq));have HZ:=ZZ hz;have HJN:=ZZ hjn;have HJL:=ZZ (show j≤1000000 by have h2:=HLP.out;have h4:=HN.out;omega);have BJ:=ZZ (show Bq 64 ((j:Int):Rat) from bq_int _ (by omega) (by have:=HJL.out;omega));have HLT:=ZZ (show (derU p j).length=j - 1 from derU_len p j);obtain⟨s9,A9,k9,ca9,B9,l9,cb9,e0,e1,e2,-⟩:=htri;have HC:=ZZ (show ∀W,Ext WR W→W.cell? ⟨b,o+j*3,none⟩=some (.int .i64 s2)∧W.cell? ⟨b,o+j*3+1,none⟩=some (.slice A2 k2 ca2)∧W.cell? ⟨b,o+j*3+2,none⟩=some (.slice B2 l2 cb2) from fun W k=>⟨ar k c0,ar k c1,ar k c2⟩);have f0:=ar HE.out e0;have f1:=ar HE.out e1;have f2:=ar HE.out e2;rw [c0] at f0;rw [c1] at f1;rw [c2] at f2
   cases f0
   cases f1
   cases f2
   have HCW:=ZZ (show ∀W,Ext w W→W.cell? ⟨b,o+j*3,none⟩=some (.int .i64 s2)∧W.cell? ⟨b,o+j*3+1,none⟩=some (.slice A2 k2 ca2)∧W.cell? ⟨b,o+j*3+2,none⟩=some (.slice B2 l2 cb2) from fun W k=>⟨ar k e0,ar k e1,ar k e2⟩);clear hz hjn hq hn2 c0 c1 c2 e0 e1 e2
   go_upto_region 5 with (fail)
   refine wp_region_noPanic ?_;refine wp_region_held_drew (S:=fun W=>W.cell? ⟨b,o+j*3,none⟩=some (.int .i64 s2)∧W.cell? ⟨b,o+j*3+1,none⟩=some (.slice A2 k2 ca2)∧W.cell? ⟨b,o+j*3+2,none⟩=some (.slice B2 l2 cb2)) (by kernel_rfl) (HC.out _ (ac _)) (fun hHeld=>?_);refine take_a 0 11 ?_;refine take_a 1 12 ?_;refine take_a 2 13 ?_;refine take_a 3 14 ?_;refine take_a 4 15 ?_;refine take_a 5 16 ?_;refine call_p (i:=6) (some 17) rfl rfl (by kernel_rfl) (fun K hK=>?_)
   go_simp
   go_at_call 89
   refine(int_n (j:Int) (by omega) (by have:=HJL.out;omega) _).mono ?_;rintro e x5 ⟨v5,rfl,h5,k5⟩;have N5:=ZZ h5;have hx5:=ZZ (show Ext WR x5 from am (ac _) k5);clear h5 k5
   try go_wp2_with fail
   refine hK.out _ _ (HC.out _ hx5.out) (fun hHeld=>?_);clear hK K
   try simp only [Act.put,lyA,lyB,lyC]
   refine call_p (i:=7) (some 18) rfl rfl (by kernel_rfl) (fun K hK=>?_)
   go_simp
   go_at_call 90
   refine(mul_f (M+64) HM.out _ _ q ((j:Int):Rat) _ (NQ.out.mono hx5.out) N5.out (BQ.out.mono (by omega)) (BJ.out.mono (by omega))).mono ?_;rintro e x6 ⟨v6,rfl,h6,kk6,f6⟩;obtain⟨s6,A6,k6,ca6,B6,l6,cb6,rfl,-⟩:=h6.form;have N6:=ZZ h6;have hx6:=ZZ (am hx5.out kk6);have F6:=ZZ (f6.bln (HO.out.off_new hx5.out));clear h6 kk6 f6 N5
   try go_wp2_with fail
   refine hK.out _ _ (HC.out _ hx6.out) (fun hHeld=>?_);clear hK K
   try simp only [Act.put,lyA,lyB,lyC]
   refine call_p (i:=8) (some 19) rfl rfl (by kernel_rfl) (fun K hK=>?_)
   go_simp
   have EA:=ZZ (am hx6.out (ab x6 (.cells #[.int .i64 s6,.slice A6 k6 ca6,.slice B6 l6 cb6] 62)));have RA:=ZZ (heap_alloc_new x6 (.cells #[.int .i64 s6,.slice A6 k6 ca6,.slice B6 l6 cb6] 62));have NA:=ZZ (N6.out.mono (ab x6 (.cells #[.int .i64 s6,.slice A6 k6 ca6,.slice B6 l6 cb6] 62)));clear N6;refine hK.out _ _ (HC.out _ EA.out) (fun hHeld=>?_);clear hK K
   try simp only [Act.put,lyA,lyB,lyC]
   refine call_p (i:=9) (some 20) rfl rfl (by kernel_rfl) (fun K hK=>?_);refine(if_pos (show Region.wanted _ _=true from rfl)).mpr ?_;obtain⟨v8,W8,hr8,ho8,he8⟩:=(HO.out.mono EA.out).app (am HE.out EA.out) (by have h1:=HJL.out;rw [HLT.out];omega) RA.out NA.out F6.out 57 1;have HP8:=ZZ ho8;have E8:=ZZ he8;refine oper_appendG (.tmp 11) (.tmp 19) rfl rfl rfl hr8 ?_;clear hr8 ho8 he8;refine hK.out _ _ (HCW.out _ E8.out) (fun hHeld=>?_);clear hK K
   try simp only [Act.put,lyA,lyB,lyC]
   refine take_a 10 3 ?_;refine wpAnyH_done (by kernel_rfl) ?_ _;refine NoPanic.normal ?_;go_wp2_with fail
   go_roundg (gk - 1)
   case measure=>have:=HZ.out;omega
   case rel=>
    refine⟨j+1,ZZ (by have:=HJ.out;have:=HZ.out;omega),by have h1:=HJL.out;rw [IntWalk.wrap64_in _ ⟨by omega,by omega⟩];rfl,ZZ ?_,ZZ E8.out⟩;rw [derU_succ p HJ.out.1,show co p j=q by unfold co;rw [HQ.out];rfl];exact HP8.out
end Go.Proofs.YtjamgccgoapbeaaGreatDoor
