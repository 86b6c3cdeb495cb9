/- The reference's numbers: powers, powers of ten. -/
import Derived.Test.YtpgdefgdboijlaaGreatDoorRu
import Derived.Test.YtpgdefgdboijlaaGreatDoorUa
import Derived.Deep.DeepCutAuto
import Derived.Deep.RegionHeld3
import Derived.Deep.LoopGhost
set_option linter.unusedVariables false
set_option maxRecDepth 100000
set_option maxHeartbeats 16000000
namespace Go.Proofs.YtpgdefgdboijlaaGreatDoor
open Go.RowKit
def OutR (wr:World) (g:Nat) (q:Rat):Prop:=∃s A k c B l d,wr.heap[g]?=some (.cells #[.int .i64 s,.slice A k c,.slice B l d] 31 (0,0))∧Nr wr (.agg #[.int .i64 s,.slice A k c,.slice B l d]) q
theorem out_new {w:World} {s:Int} {A B:Option Addr} {k c l d:Nat} {q:Rat} (h:Nr w (.agg #[.int .i64 s,.slice A k c,.slice B l d]) q):OutR (w.alloc (.cells #[.int .i64 s,.slice A k c,.slice B l d] 31)) w.heap.size q:=
 ⟨s,A,k,c,B,l,d,rowR (ad _),h.mono (ab _ _)⟩
theorem out_put {wr w7:World} {g:Nat} {s:Int} {A B:Option Addr} {k c l d:Nat} {q:Rat} {o:Obj} (hg:g<wr.heap.size) (h:Nr w7 (.agg #[.int .i64 s,.slice A k c,.slice B l d]) q) (fr:FrN wr.heap.size (.agg #[.int .i64 s,.slice A k c,.slice B l d])) {x y z:Value} (hr:w7.heap[g]?=some (.cells #[x,y,z] 31 (0,0))):OutR (((w7.setCell ⟨g,0,none⟩ (.int .i64 s)).setCell ⟨g,1,none⟩ (.slice A k c)).setCell ⟨g,2,none⟩ (.slice B l d)) g q:=
 ⟨s,A,k,c,B,l,d,put3_row hr _ _ _,h.put_n (fr.mono hg) _ _ _⟩
theorem pow_n (M:Nat) (hM:M≤2097151) (j:Nat) (hj:j≤64) (vx:Value) (x:Rat) (w:World) (hx:Nr w vx x) (bx:Bq M x):Calls Tryz.prog 23 #[vx,.int .i64 (j:Int)] w fun e w'=>∃v,e=.returned (.tuple #[v,.int .i64 0])∧Nr w' v (x ^ j)∧Ext w w':=by
 obtain⟨s,A,k,ca,B,l,cb,rfl,hsg,hxt,hxb⟩:=hx.form;obtain⟨hS,hZ,hw1,hw2,hsz1⟩:=setupR3 w (.int .i64 s) (.slice A k ca) (.slice B l cb);have HS:=ZZ hS;have HZ:=ZZ hZ;have HW1:=ZZ hw1;have HW2:=ZZ hw2;have Hsz1:=ZZ hsz1;have Hx:=ZZ hx;have HB:=ZZ (fun c (hc:c≤j)=>(show Bq (M*64+1) (x ^ c) from (Bq.pow bx c).mono (by have:=Nat.mul_le_mul_left M (show c≤64 by omega);omega)));have BX:=ZZ (show Bq (M*64+1) x from bx.mono (by omega));have HM:=ZZ (show M*64+1≤134217728 by omega);have HJ:=ZZ hj;have q1:decide ((j:Int) < -64)=false:=by rw [decide_eq_false_iff_not];omega
 have q2:decide ((64:Int)<(j:Int))=false:=by rw [decide_eq_false_iff_not];omega
 have q3:decide ((j:Int)<0)=false:=by rw [decide_eq_false_iff_not];omega
 have q4:¬(j:Int) < -64:=by omega
 have q5:¬(64:Int)<(j:Int):=by omega
 have q6:¬(j:Int)<0:=by omega
 clear hx hxt hxb hS hZ hw1 hw2 hsz1 hsg hj bx hM
 go_enter Tryz.func23,Tryz.ntmps23
 go_wp2_with fail;generalize World.alloc (World.alloc w (.cells #[.int .i64 s,.slice A k ca,.slice B l cb] _)) _=W2 at *
 generalize World.alloc w (.cells #[.int .i64 s,.slice A k ca,.slice B l cb] _)=W1 at *;generalize hg0:w.heap.size=g0 at *;have Hsz:=ZZ (show w.heap.size≤g0+1 by omega);clear hg0;have hww:=ZZ (al HW1.out HW2.out);refine(int_n 1 (by decide) (by decide) _).mono ?_;rintro e w1 ⟨v1,rfl,h1,k1⟩;obtain⟨s1,A1,k1',c1,B1,l1,d1,rfl,-⟩:=h1.form;have H1:=ZZ h1;have K1:=ZZ (show Ext W2 w1 from k1);clear h1 k1;go_wp2_with fail;have GO:=ZZ (show W2.heap.size≤w1.heap.size from K1.out.size);have O1:=ZZ (out_new H1.out);have K2:=ZZ (al K1.out (ab w1 (.cells #[.int .i64 s1,.slice A1 k1' c1,.slice B1 l1 d1] 31)));generalize World.alloc w1 (.cells #[.int .i64 s1,.slice A1 k1' c1,.slice B1 l1 d1] _)=W3 at *;generalize w1.heap.size=go at *;clear K1 H1
 go_loopg [9] j (fun k i wr=>∃c:Nat,c+k=j∧i=.int .i64 (c:Int)∧OutR wr go (x ^ c)∧Ext W2 wr)
 case atStart=>exact⟨0,by omega,rfl,by rw [Rat.pow_zero];exact O1.out,K2.out⟩
 case round=>
  obtain⟨c,hc,rfl,ho,hext⟩:=hrel;obtain⟨s3,A3,k3,c3,B3,l3,d3,ho1,ho2⟩:=ho;have R3:=ZZ ho1;have N3:=ZZ ho2;have X0:=ZZ hext;obtain⟨y0,y1,y2,yf0,yf1,yf2⟩:=aj ho1;have HC:=ZZ hc;clear ho1 ho2 hext
  rcases Nat.eq_zero_or_pos gk with hz|hz
  ·subst hz
   obtain rfl:c=j:=by omega
   have hlt:¬ c<c:=by omega
   have hr:=HZ.out _ X0.out;have RZ:=ZZ hr;obtain⟨z0,z1,z2,f0,f1,f2⟩:=aj hr;clear hr hc;go_wp2_with fail;refine bodyPost_ret (v:=.tuple #[.agg #[.int .i64 s3,.slice A3 k3 c3,.slice B3 l3 d3],.int .i64 0]) (by simp [results,Tryz.f23];go_simp) rfl ?_;exact⟨_,rfl,Nr.put_z N3.out RZ.out _ _ _,au (al hww.out X0.out) Hsz.out _ _ _⟩
  ·have hlt:decide (c<j)=true:=by rw [decide_eq_true_eq];omega
   have hlt2:c<j:=by omega
   have q8:IntKind.i64.wrap ((c:Int)+1)=(c:Int)+1:=IntWalk.i64_in _ (by have:=HJ.out;omega);have Hlt:=ZZ hlt2;have HZ0:=ZZ hz;have Q8:=ZZ q8;clear hlt2 hz hc q8;obtain⟨r0,r1,r2⟩:=HS.out _ (al HW2.out X0.out);go_wp2_with fail;refine(mul_f (M*64+1) HM.out _ _ (x ^ c) x _ N3.out (Hx.out.mono (al hww.out X0.out)) (HB.out c (Nat.le_of_lt Hlt.out)) BX.out).mono ?_;rintro e w7 ⟨v7,rfl,h7,k7,fr⟩;obtain⟨s7,A7,k7',c7,B7,l7,d7,h7e,-⟩:=h7.form;subst h7e;have H7:=ZZ h7;have F7:=ZZ fr;have hr7:=(k7.block _ (lt_of_block R3.out)).trans R3.out;have R7:=ZZ hr7;have K7:=ZZ (al X0.out k7);clear y0 y1 y2 yf0 yf1 yf2 r0 r1 r2 fr h7 k7;obtain⟨y0,y1,y2,yf0,yf1,yf2⟩:=aj hr7;clear hr7;have q8:=Q8.out;go_wp2_with fail
   go_roundg (gk - 1)
   case measure=>have:=HZ0.out;omega
   case rel=>exact⟨c+1,by have:=HC.out;have:=HZ0.out;omega,by go_num,by rw [Rat.pow_succ];exact out_put (o:=.cells #[] 0) (lt_of_block R3.out) H7.out F7.out R7.out,au K7.out GO.out _ _ _⟩
end Go.Proofs.YtpgdefgdboijlaaGreatDoor
