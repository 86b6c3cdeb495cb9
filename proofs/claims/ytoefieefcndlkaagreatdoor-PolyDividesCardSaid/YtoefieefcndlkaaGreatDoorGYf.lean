/- Changes of sign in a chain; signs at a number and at the ends. The reference's numbers: products. Printed by gen_rp.py. The reference's numbers: negative, size, sign, integers, quotients. Printed by gen_rq.py. -/
import Derived.Test.YtoefieefcndlkaaGreatDoorGYe
import Derived.Laws.StructEq
import Derived.Test.YtoefieefcndlkaaGreatDoorGRn
import Derived.Test.YtoefieefcndlkaaGreatDoorGNg
set_option linter.unusedVariables false
set_option maxRecDepth 100000
set_option maxHeartbeats 64000000
namespace Go.Proofs.YtoefieefcndlkaaGreatDoor
open Go Go.RowKit
set_option linter.unusedSimpArgs false
theorem eqIn_arr {P:Program} (n:Nat) (t e:TypeId) (xs ys:Array Value) (w:World) (u:P.underlying t=some (.array 2 e)) (z:∀w,(sizeOf e).run P w=.ok 1 w) (x0 x1 y0 y1:Value) (b0 b1:Bool) (p0:(part e xs 0).run P w=.ok x0 w) (p1:(part e xs 1).run P w=.ok x1 w) (q0:(part e ys 0).run P w=.ok y0 w) (q1:(part e ys 1).run P w=.ok y1 w) (h0:(Op.equalIn n e x0 y0).run P w=.ok b0 w) (h1:(Op.equalIn n e x1 y1).run P w=.ok b1 w):(Op.equalIn (n+1) t (.agg xs) (.agg ys)).run P w=.ok (b0 && b1) w:=by
 simp only [Op.equalIn,Sem.run_bind,run_underlying u,Result.andThen_ok,z]
 rw [Std.Legacy.Range.forIn_eq_forIn_range']
 cases b0 <;> cases b1 <;> simp [List.range',Std.Legacy.Range.size,p0,p1,q0,q1,h0,h1,Result.andThen_ok,Sem.run_bind]
theorem eq_pair (a b c d:Int) (w:World):(Op.equalIn 10000 146 (.agg #[.int .i64 a,.int .i64 b]) (.agg #[.int .i64 c,.int .i64 d])).run Tryz.prog w=.ok (a == c && b == d) w:=by
 have u3:=Tryz.underlying3;have part0:∀(x y:Value),(part 3 #[x,y] 0).run Tryz.prog w=.ok x w:=by intro x y;go_simp
 have part1:∀(x y:Value),(part 3 #[x,y] 1).run Tryz.prog w=.ok y w:=by intro x y;go_simp
 exact eqIn_arr 9999 146 3 _ _ w Tryz.underlying146 Tryz.sizeOf3 _ _ _ _ _ _ (part0 _ _) (part1 _ _) (part0 _ _) (part1 _ _) (run_equalIn_int w 9998 _ .i64 .i64 _ _ u3) (run_equalIn_int w 9998 _ .i64 .i64 _ _ u3)
def SgnV (w:World) (fv:Value) (sg:List Rat→Int) (Pre:List Rat→Prop):Prop:=∃g lb,fv=.func (.func g) #[] lb∧(∀args W,(callFunc g args).run Tryz.prog W=.ok (.enter g args) W)∧∀W,Ext w W→∀v l,Pl W v l→Pre l→Calls Tryz.prog g (#[v] ++ lb) W fun e W'=>e=.returned (.int .i64 (sg l))∧Ext W W'
def flipsU:Int→List Int→Int
 | _,[]=>0
 | last,s :: l=>if s=0 then flipsU last l else (if (last=1∧s = -1)∨(last = -1∧s=1) then 1 else 0)+flipsU s l
def flipsF (c:List (List Rat)) (sg:List Rat→Int):Int:=flipsU 0 (c.map sg)
theorem flips_bound (last:Int) (l:List Int):0≤flipsU last l∧flipsU last l≤l.length:=by
 induction l generalizing last with
 | nil=>exact⟨Int.le_refl _,Int.le_refl _⟩
 | cons s l ih=>
  unfold flipsU;have h1:=ih last;have h2:=ih s;rw [List.length_cons]
  split
  ·omega
  ·split <;> omega
theorem at_c (vx:Value) (x:Rat) (w:World) (hx:Nm w vx x):Calls Tryz.prog 105 #[vx] w fun e w'=>e=.returned (.func (.func 147) #[] #[.pointer (some ⟨w.heap.size,0,none⟩)])∧w'=w.alloc (.cells vx.cells 52):=by
 obtain⟨s1,A1,k1,ca1,B1,l1,cb1,rfl⟩:=hx.form2;clear hx
 go_enter Tryz.func105,Tryz.ntmps105
 go_wp2_with fail;go_ret
 exact⟨rfl,rfl⟩
def atF (x:Rat) (l:List Rat):Int:=(evR l x).num.sign
theorem at1_p (M:Nat) (hM:0<M) (x:Rat) (bx:Bq M x) (B:Nat) (s1:Bool) (A1:Option Addr) (k1 ca1:Nat) (B1:Option Addr) (l1 cb1:Nat) (v:Value) (l:List Rat) (hl:l.length≤100000) (hK:l.length*(M+M+1)+1+M≤1099511627776) (hb:∀c ∈ l,Bq M c) (w:World) (hr:w.heap[B]?=some (.cells #[.bool s1,.slice A1 k1 ca1,.slice B1 l1 cb1] 52 (0,0))) (hx:Nm w (.agg #[.bool s1,.slice A1 k1 ca1,.slice B1 l1 cb1]) x) (hp:Pl w v l):Calls Tryz.prog 147 #[v,.pointer (some ⟨B,0,none⟩)] w fun e w'=>e=.returned (.int .i64 (atF x l))∧Ext w w':=by
 have HX:=ZZ hx;have HP:=ZZ hp;obtain⟨c,hc⟩:∃c,atF x l=c:=⟨_,rfl⟩;have HCC:=ZZ (show (evR l x).num.sign=c from hc);rw [hc];obtain⟨c0,c1,c2,-⟩:=ai hr;have HE:=ZZ (eval_p M hM v _ l x hl hK w hp hx hb bx);obtain⟨A,n,cp,rfl,-⟩:=hp.form;clear hx hp hr hc hl hK hb
 go_enter Tryz.func147,Tryz.ntmps147
 go_wp2_with fail;refine HE.out.mono ?_
 rintro e w3 ⟨v3,rfl,h3,k3⟩;have H3:=ZZ h3;have K3:=ZZ k3;clear h3 k3 HE;go_wp2_with fail;refine(sign_q' _ (evR l x) _ c HCC.out H3.out).mono ?_;rintro e w4 ⟨rfl,k4⟩;have K4:=ZZ (ak K3.out k4);clear k4;go_wp2_with fail;go_ret;exact⟨rfl,K4.out⟩
theorem endsV_c (b:Bool) (w:World):Calls Tryz.prog 59 #[.bool b] w fun e w'=>e=.returned (.func (.func 110) #[] #[.pointer (some ⟨w.heap.size,0,none⟩)])∧w'=w.alloc (.cells #[.bool b] 4):=by
 go_enter Tryz.func59,Tryz.ntmps59
 go_wp2_with fail;go_ret
 exact⟨rfl,rfl⟩
def endsF (minus:Bool) (l:List Rat):Int:=if minus && decide (l.length % 2=0) then -(topF l).num.sign else (topF l).num.sign
theorem ends1_p (b:Bool) (B:Nat) (v:Value) (l:List Rat) (hl:l.length≤100000) (hne:l≠[]) (w:World) (hr:w.heap[B]?=some (.cells #[.bool b] 4 (0,0))) (hp:Pl w v l):Calls Tryz.prog 110 #[v,.pointer (some ⟨B,0,none⟩)] w fun e w'=>e=.returned (.int .i64 (endsF b l))∧Ext w w':=by
 obtain⟨A,n1,cp,rfl,hn⟩:=hp.form;obtain⟨n,rfl⟩:∃n,n1=n+1:=⟨n1 - 1,by have:=List.length_pos_iff.2 hne;omega⟩;have HP:=ZZ hp;have HL:=ZZ hl;have HN:=ZZ hn;have HR:=ZZ hr;obtain⟨c,hc⟩:∃c,(topF l).num.sign=c:=⟨_,rfl⟩;have HCC:=ZZ hc;have hs:c = -1∨c=0∨c=1:=by rw [←hc];rcases Int.sign_trichotomy (topF l).num with h|h|h <;> omega
 have HE:=ZZ (show endsF b l=if b && decide ((n+1) % 2=0) then -c else c by unfold endsF;rw [hn,hc]);have q3:IntKind.i64.wrap (-c) = -c:=IntWalk.i64_in _ (by omega);clear hp hl hn hr hc hne hs
 go_enter Tryz.func110,Tryz.ntmps110
 go_wp2_with fail;refine(top_q _ l (by have:=HL.out;omega) n (topF l) HN.out (top_get HN.out) _ (by have h:=HP.out;rw [HN.out.symm] at h ⊢;exact h)).mono ?_
 rintro e w3 ⟨v3,rfl,h3,k3⟩;have H3:=ZZ h3;have K3:=ZZ k3;clear h3 k3;go_wp2_with fail;refine(sign_q' _ (topF l) _ c HCC.out H3.out).mono ?_;rintro e w4 ⟨rfl,k4⟩;have K4:=ZZ (ak K3.out k4);have c0:w4.cell? ⟨B,0,none⟩=some (.bool b):=by rw [cell_of_row _ _ _ _ _ _ ((K4.out.block _ (lt_of_block HR.out)).trans HR.out)];rfl
 clear k4
 cases b with
 | false=>
  go_wp2_with fail;go_ret
  exact⟨by rw [HE.out];rfl,K4.out⟩
 | true=>
  rcases Nat.mod_two_eq_zero_or_one (n+1) with h2|h2
  ·have z1:((n:Int)+1) % 2=0:=by omega
   have z2:((n:Int)+1).tmod 2=0:=by rw [Int.tmod_eq_emod_of_nonneg (by omega)];omega
   have HM:=ZZ h2;clear h2;go_wp2_with fail;go_ret;exact⟨by rw [HE.out,HM.out];rfl,K4.out⟩
  ·have z1:((n:Int)+1) % 2=1:=by omega
   have z2:((n:Int)+1).tmod 2=1:=by rw [Int.tmod_eq_emod_of_nonneg (by omega)];omega
   have HM:=ZZ h2;clear h2;go_wp2_with fail;go_ret;exact⟨by rw [HE.out,HM.out];rfl,K4.out⟩
end Go.Proofs.YtoefieefcndlkaaGreatDoor
set_option linter.unusedVariables false
set_option maxRecDepth 100000
set_option maxHeartbeats 64000000
namespace Go.Proofs.YtoefieefcndlkaaGreatDoor
open Go.RowKit
theorem setupR2 (w:World) (x0 x1 x2 y0 y1 y2:Value):(∀W,Ext ((w.alloc (.cells #[x0,x1,x2] 75)).alloc (.cells #[y0,y1,y2] 75)) W→W.cell? ⟨w.heap.size,0,none⟩=some x0∧W.cell? ⟨w.heap.size,1,none⟩=some x1∧W.cell? ⟨w.heap.size,2,none⟩=some x2∧W.cell? ⟨w.heap.size+1,0,none⟩=some y0∧W.cell? ⟨w.heap.size+1,1,none⟩=some y1∧W.cell? ⟨w.heap.size+1,2,none⟩=some y2)∧(∀W,Ext (((w.alloc (.cells #[x0,x1,x2] 75)).alloc (.cells #[y0,y1,y2] 75)).alloc (.cells #[.int .i64 0,.slice none 0 0,.slice none 0 0] 75)) W→W.heap[w.heap.size+1+1]?=some (.cells #[.int .i64 0,.slice none 0 0,.slice none 0 0] 75 (0,0)))∧Ext w ((w.alloc (.cells #[x0,x1,x2] 75)).alloc (.cells #[y0,y1,y2] 75))∧Ext ((w.alloc (.cells #[x0,x1,x2] 75)).alloc (.cells #[y0,y1,y2] 75)) (((w.alloc (.cells #[x0,x1,x2] 75)).alloc (.cells #[y0,y1,y2] 75)).alloc (.cells #[.int .i64 0,.slice none 0 0,.slice none 0 0] 75))∧w.heap.size≤w.heap.size+1+1∧((w.alloc (.cells #[x0,x1,x2] 75)).alloc (.cells #[y0,y1,y2] 75)).heap.size≤w.heap.size+1+1:=by
 have z0:(w.alloc (.cells #[x0,x1,x2] 75)).heap.size=w.heap.size+1:=by simp
 have z1:((w.alloc (.cells #[x0,x1,x2] 75)).alloc (.cells #[y0,y1,y2] 75)).heap.size=w.heap.size+1+1:=by simp
 have e0:Ext w (w.alloc (.cells #[x0,x1,x2] 75)):=ab _ _;generalize hw0:w.alloc (.cells #[x0,x1,x2] 75)=w0 at *;have e1:Ext w0 (w0.alloc (.cells #[y0,y1,y2] 75)):=ab _ _;refine⟨fun W h=>?_,fun W h=>?_,ak e0 e1,ab _ _,by omega,Nat.le_of_eq z1⟩
 ·have r0:=rowR (hw0 ▸ (ak e1 h):Ext (w.alloc (.cells #[x0,x1,x2] 75)) W)
  have r1:=rowR h;rw [z0] at r1;obtain⟨a,b,c,-⟩:=aj r0;obtain⟨a',b',c',-⟩:=aj r1;exact⟨a,b,c,a',b',c'⟩
 ·have r2:=rowR h
  rw [z1] at r2;exact r2
theorem sr_bits {n B:Nat} (h:n<2 ^ B) (hB:B≤1099511627776):Sr n:=by
 have:=dr_bits h
 unfold Sr;omega
theorem mul_n_zero (vx vy:Value) (x y:Rat) (w:World) (hx:Nr w vx x) (hy:Nr w vy y) (h0:x.num.sign*y.num.sign=0):Calls Tryz.prog 92 #[vx,vy] w fun e w'=>∃v,e=.returned v∧Nr w' v (x*y)∧Ext w w'∧FrN w.heap.size v:=by
 obtain⟨s1,A,k,ca,B,l,cb,rfl,hs1,hxt,hxb⟩:=hx.form;obtain⟨s2,C,m,cc,D,n,cd,rfl,hs2,hyt,hyb⟩:=hy.form;obtain⟨hS,hZ,hw1,hw2,hsz,hsz1⟩:=setupR2 w (.int .i64 s1) (.slice A k ca) (.slice B l cb) (.int .i64 s2) (.slice C m cc) (.slice D n cd);have HS:=ZZ hS;have HZ:=ZZ hZ;have HW1:=ZZ hw1;have HW2:=ZZ hw2;have Hsz1:=ZZ hsz1;have Hx:=ZZ hx;have Hy:=ZZ hy;have HXT:=ZZ hxt;have HYT:=ZZ hyt;have HS1:=ZZ hs1;have HS2:=ZZ hs2;have HE:=ZZ (mul_zero_iff h0);have h00:s1*s2=0:=by rw [←hs1,←hs2];exact h0
 have hwr:IntKind.i64.wrap (s1*s2)=0:=by rw [h00];exact IntWalk.i64_in _ (by omega)
 rw [HE.out];have hc0:=hS _ hw2;clear hx hy hxt hxb hyt hyb hS hZ hw1 hw2 hsz hsz1 hs1 hs2;clear h0 h00
 go_enter Tryz.func92,Tryz.ntmps92
 go_wp2_with fail;generalize World.alloc (World.alloc (World.alloc w (.cells #[.int .i64 s1,.slice A k ca,.slice B l cb] _)) (.cells #[.int .i64 s2,.slice C m cc,.slice D n cd] _)) _=W2 at *
 generalize World.alloc (World.alloc w (.cells #[.int .i64 s1,.slice A k ca,.slice B l cb] _)) (.cells #[.int .i64 s2,.slice C m cc,.slice D n cd] _)=W1 at *;generalize hg0:w.heap.size=g0 at *;have Hsz:=ZZ (show w.heap.size≤g0+1+1 by omega);clear hg0;have hZ2:=aj (HZ.out W2 (ae _));have hww:=ZZ (ak HW1.out HW2.out);have HG0:=ZZ (show ∀W:World,Ext w W→w.heap.size≤W.heap.size from fun W h=>h.size);refine bodyPost_ret (v:=.agg #[.int .i64 0,.slice none 0 0,.slice none 0 0]) (by simp [results,Tryz.f92];go_simp) rfl ?_;exact⟨_,rfl,Nr.zero _,hww.out,frn_mk (fun b hb=>by cases hb) (fun b hb=>by cases hb)⟩
theorem mul_n_pos (M:Nat) (hM:M≤274877906944) (vx vy:Value) (x y:Rat) (w:World) (hx:Nr w vx x) (hy:Nr w vy y) (bx:Bq M x) (by_:Bq M y) (hx0:x≠0) (hy0:y≠0):Calls Tryz.prog 92 #[vx,vy] w fun e w'=>∃v,e=.returned v∧Nr w' v (x*y)∧Ext w w'∧FrN w.heap.size v:=by
 obtain⟨s1,A,k,ca,B,l,cb,rfl,hs1,hxt,hxb⟩:=hx.form;obtain⟨s2,C,m,cc,D,n,cd,rfl,hs2,hyt,hyb⟩:=hy.form;obtain⟨hS,hZ,hw1,hw2,hsz,hsz1⟩:=setupR2 w (.int .i64 s1) (.slice A k ca) (.slice B l cb) (.int .i64 s2) (.slice C m cc) (.slice D n cd);have HS:=ZZ hS;have HZ:=ZZ hZ;have HW1:=ZZ hw1;have HW2:=ZZ hw2;have Hsz1:=ZZ hsz1;have Hx:=ZZ hx;have Hy:=ZZ hy;have HXT:=ZZ hxt;have HYT:=ZZ hyt;have HS1:=ZZ hs1;have HS2:=ZZ hs2;have HXB:=ZZ hxb;have HYB:=ZZ hyb;rw [bn_ne hx0] at HXB;rw [bn_ne hy0] at HYB;obtain⟨sp,hsp⟩:∃sp,s1*s2=sp:=⟨_,rfl⟩;have hq:sgnB (decide (x.num<0) != decide (y.num<0))=sp:=by rw [sgnB_xor,←sign_sgnB hx0,←sign_sgnB hy0,hs1,hs2,hsp]
 have hsb:sp=1∨sp = -1:=by rw [←hq];generalize (decide (x.num<0) != decide (y.num<0))=b;cases b <;> simp [sgnB]
 have hwr:IntKind.i64.wrap (s1*s2)=sp:=by rw [hsp];exact IntWalk.i64_in _ (by omega)
 have hz0:(sp == 0)=false:=by rw [beq_eq_false_iff_ne];omega
 have HQ:=ZZ hq;have HFIN:=ZZ (mul_parts x y);have S3:=ZZ (sr_bits bx.1 (by omega));have S4:=ZZ (sr_bits bx.2 (by omega));have S5:=ZZ (sr_bits by_.1 (by omega));have S6:=ZZ (sr_bits by_.2 (by omega));have D0:=ZZ (Nat.mul_pos x.den_pos y.den_pos);have L1:=ZZ (show (dr (x.num.natAbs*y.num.natAbs)).length≤34359738368 from Nat.le_trans (dr_bits (lt_mul bx.1 by_.1)) (by omega));have L2:=ZZ (show (dr (x.den*y.den)).length≤34359738368 from Nat.le_trans (dr_bits (lt_mul bx.2 by_.2)) (by omega));clear hx hy hxt hxb hyt hyb hS hZ hw1 hw2 hsz hsz1 hs1 hs2;clear hx0 hy0 bx by_ hM hsp hq hsb
 go_enter Tryz.func92,Tryz.ntmps92
 go_upto_region 3 with (fail)
 generalize World.alloc (World.alloc (World.alloc w (.cells #[.int .i64 s1,.slice A k ca,.slice B l cb] _)) (.cells #[.int .i64 s2,.slice C m cc,.slice D n cd] _)) _=W2 at *;generalize World.alloc (World.alloc w (.cells #[.int .i64 s1,.slice A k ca,.slice B l cb] _)) (.cells #[.int .i64 s2,.slice C m cc,.slice D n cd] _)=W1 at *;generalize hg0:w.heap.size=g0 at *;have Hsz:=ZZ (show w.heap.size≤g0+1+1 by omega);clear hg0;have hww:=ZZ (ak HW1.out HW2.out);have HG0:=ZZ (show ∀W:World,Ext w W→w.heap.size≤W.heap.size from fun W h=>h.size);have hS0:=HS.out W2 HW2.out;have hx1:=ZZ (ac W2)
 go_region_held3 (fun W=>W.cell? ⟨g0,0,none⟩=some (.int .i64 s1)∧W.cell? ⟨g0,1,none⟩=some (.slice A k ca)∧W.cell? ⟨g0,2,none⟩=some (.slice B l cb)∧W.cell? ⟨g0+1,0,none⟩=some (.int .i64 s2)∧W.cell? ⟨g0+1,1,none⟩=some (.slice C m cc)∧W.cell? ⟨g0+1,2,none⟩=some (.slice D n cd))
  (first
   | exact HS.out _ (ao (ak HW2.out hx4.out) Hsz1.out _ _ _)
   | exact HS.out _ (ak HW2.out hx4.out)
   | exact HS.out _ (ak HW2.out hx3.out)
   | exact HS.out _ (ak HW2.out hx2.out)
   | exact HS.out _ (ak HW2.out hx1.out))
  (first
   |(have _q:=hx3
     go_at_call 79
     refine(made_f _ sp HQ.out _ _ (x.num.natAbs*y.num.natAbs) (x.den*y.den) D0.out _ H3'.out H4.out L1.out L2.out).mono ?_;clear _q;rintro e w3 ⟨v3,rfl,h7,k4,fr⟩;obtain⟨s7,A7,k7,c7,B7,l7,d7,h7e,-⟩:=h7.form;subst h7e;have H7:=ZZ h7;have F3:=ZZ (fr.1 _ (HG0.out _ (ak hww.out hx3.out)) F1.out F2.out);clear fr;have hx4:=ZZ (ak hx3.out k4);have hz:=HZ.out _ hx4.out;obtain⟨z0,z1,z2,f0,f1,f2⟩:=aj hz;have Hz:=ZZ hz;clear h7 k4 hz)
   |(have _q:=hx2
     go_at_call 126
     refine(times_f _ _ x.den y.den _ (HXB.out.mono (ak hww.out hx2.out)) (HYB.out.mono (ak hww.out hx2.out)) S4.out S6.out).mono ?_;clear _q;rintro e w2 ⟨v2,rfl,h4,k3,fr⟩;obtain⟨P2,p2,c2,rfl⟩:=h4.form';have H4:=ZZ h4;have F2:=ZZ (fr.mono (HG0.out _ (ak hww.out hx2.out)));clear fr;have H3':=ZZ (H3.out.mono k3);have hx3:=ZZ (ak hx2.out k3);clear h4 k3)
   |(have _q:=hx1
     go_at_call 126
     refine(times_f _ _ x.num.natAbs y.num.natAbs _ (HXT.out.mono (ak hww.out hx1.out)) (HYT.out.mono (ak hww.out hx1.out)) S3.out S5.out).mono ?_;clear _q;rintro e w1 ⟨v1,rfl,h3,k2,fr⟩;obtain⟨P1,p1,c1,rfl⟩:=h3.form';have H3:=ZZ h3;have F1:=ZZ (fr.mono (HG0.out _ (ak hww.out hx1.out)));clear fr;have hx2:=ZZ (ak hx1.out k2);clear h3 k2))
 go_wp2_with fail;refine bodyPost_ret (v:=.agg #[.int .i64 s7,.slice A7 k7 c7,.slice B7 l7 d7]) (by simp [results,Tryz.f92];go_simp) rfl ?_
 refine⟨_,rfl,?_,ao (ak hww.out hx4.out) Hsz.out _ _ _,F3.out⟩;rw [←HFIN.out];exact Nr.put_z H7.out Hz.out _ _ _
theorem mul_f (M:Nat) (hM:M≤274877906944) (vx vy:Value) (x y:Rat) (w:World) (hx:Nr w vx x) (hy:Nr w vy y) (bx:Bq M x) (by_:Bq M y):Calls Tryz.prog 92 #[vx,vy] w fun e w'=>∃v,e=.returned v∧Nr w' v (x*y)∧Ext w w'∧FrN w.heap.size v:=by
 by_cases hx0:x=0
 ·exact mul_n_zero vx vy x y w hx hy (by rw [hx0];simp)
 ·by_cases hy0:y=0
  ·exact mul_n_zero vx vy x y w hx hy (by rw [hy0];simp)
  ·exact mul_n_pos M hM vx vy x y w hx hy bx by_ hx0 hy0
end Go.Proofs.YtoefieefcndlkaaGreatDoor
set_option linter.unusedVariables false
set_option maxRecDepth 100000
set_option maxHeartbeats 64000000
namespace Go.Proofs.YtoefieefcndlkaaGreatDoor
open Go.RowKit
theorem sign_bnd {x:Rat} {s:Int} (h:x.num.sign=s):s = -1∨s=0∨s=1:=by
 rcases Int.lt_trichotomy x.num 0 with e|e|e
 ·rw [Int.sign_eq_neg_one_of_neg e] at h;omega
 ·rw [e] at h;simp at h;omega
 ·rw [Int.sign_eq_one_of_pos e] at h;omega
theorem bn_neg (x:Rat):bn (-x)=bn x:=by
 unfold bn;rw [Rat.neg_num,Rat.neg_den]
 by_cases h:x.num=0
 ·rw [if_pos h,if_pos (by omega)]
 ·rw [if_neg h,if_neg (by omega)]
theorem Nr.flip {W:World} {s:Int} {vt vb:Value} {x:Rat} (hs:x.num.sign=s) (h1:Wr W vt x.num.natAbs) (h2:Wr W vb (bn x)):Nr W (.agg #[.int .i64 (-s),vt,vb]) (-x):=
 ⟨-s,vt,vb,rfl,by rw [Rat.neg_num,Int.sign_neg,hs],by rw [Rat.neg_num,Int.natAbs_neg];exact h1,by rw [bn_neg];exact h2⟩
theorem ext2r (w:World) (a b:Obj):Ext w ((w.alloc a).alloc b):=ak (ab _ _) (ab _ _)
theorem neg_f (vx:Value) (x:Rat) (w:World) (hx:Nr w vx x):Calls Tryz.prog 139 #[vx] w fun e w'=>∃v,e=.returned v∧Nr w' v (-x)∧Ext w w'∧∀C:Nat→Prop,BlN C vx→BlN C v:=by
 obtain⟨s,A,k,ca,B,l,cb,rfl,hsg,hxt,hxb⟩:=hx.form;have hsb:=sign_bnd hsg;have Hx:=ZZ hx;have HXT:=ZZ hxt;have HXB:=ZZ hxb;have HSG:=ZZ hsg;obtain⟨hS,hw1⟩:=setupR1 w (.int .i64 s) (.slice A k ca) (.slice B l cb);have HS:=ZZ hS;have K0:=ZZ hw1;have R0:=ZZ (ae (w.alloc (.cells #[.int .i64 s,.slice A k ca,.slice B l cb] 75)));clear hx hxt hxb hS hw1 hsg;have hw:IntKind.i64.wrap (-s) = -s:=IntWalk.i64_in _ (by omega)
 go_enter Tryz.func139,Tryz.ntmps139
 go_wp2_with fail;refine bodyPost_ret (v:=.agg #[.int .i64 (-s),.slice A k ca,.slice B l cb]) (by simp [results,Tryz.f139];go_simp) rfl ?_
 exact⟨_,rfl,Nr.flip HSG.out (HXT.out.mono (ext2r _ _ _)) (HXB.out.mono (ext2r _ _ _)),ext2r _ _ _,fun C h=>bln_mk (h _ _ _ _ _ _ _ rfl).1 (h _ _ _ _ _ _ _ rfl).2⟩
theorem sign_n (vx:Value) (x:Rat) (s0:Int) (hs0:x.num.sign=s0) (w:World) (hx:Nr w vx x):Calls Tryz.prog 136 #[vx] w fun e w'=>e=.returned (.int .i64 s0)∧Ext w w':=by
 obtain⟨s,A,k,ca,B,l,cb,rfl,hsg,hxt,hxb⟩:=hx.form;have hsb:=sign_bnd hsg;have Hx:=ZZ hx;have HXT:=ZZ hxt;have HXB:=ZZ hxb;have HSG:=ZZ hsg;obtain⟨hS,hw1⟩:=setupR1 w (.int .i64 s) (.slice A k ca) (.slice B l cb);have HS:=ZZ hS;have K0:=ZZ hw1;have R0:=ZZ (ae (w.alloc (.cells #[.int .i64 s,.slice A k ca,.slice B l cb] 75)));clear hx hxt hxb hS hw1 hsg;obtain rfl:s=s0:=HSG.out.symm.trans hs0;clear hs0
 go_enter Tryz.func136,Tryz.ntmps136
 go_wp2_with fail;go_ret
 exact⟨rfl,ab _ _⟩
theorem sr_small {n:Nat} (h:n<2 ^ 64):Sr n:=sr_bits h (by decide)
theorem int_n_neg (k:Nat) (h0:0<k) (hk:k≤9223372036854775808) (w:World):Calls Tryz.prog 98 #[.int .i64 (-(k:Int))] w fun e w'=>∃v,e=.returned v∧Nr w' v (((-(k:Int):Int)):Rat)∧Ext w w':=by
 have Hr:=ZZ (show rat true k 1=((-(k:Int):Int):Rat) by have:=rat_int (-(k:Int));rw [show decide (-(k:Int)<0)=true by simp;omega,Int.natAbs_neg,Int.natAbs_natCast] at this;exact this);obtain⟨h,hh⟩:∃h,h=k / 2:=⟨_,rfl⟩;obtain⟨r,hr⟩:∃r,r=k - 2*h:=⟨_,rfl⟩;have HK:=ZZ (show h+h+r=k by omega);have SH:=ZZ (sr_small (show h<2 ^ 64 by omega));have S2:=ZZ (sr_small (show h+h<2 ^ 64 by omega));have SR:=ZZ (sr_small (show r<2 ^ 64 by omega));have LK:=ZZ (show (dr k).length≤34359738368 from Nat.le_trans (dr_bits (show k<2 ^ 64 by omega)) (by decide));have HB:=ZZ (show h<9223372036854775808 by omega);have RB:=ZZ (show r<9223372036854775808 by omega);have t0:decide (-(k:Int)<0)=true:=by simp;omega
 have t0':decide (0<k)=true:=by simp;omega
 have q1:Int.tdiv (-(k:Int)) 2 = -(h:Int):=by rw [Int.neg_tdiv,Int.tdiv_eq_ediv_of_nonneg (by omega)];omega
 have w1:IntKind.i64.wrap (-(h:Int)) = -(h:Int):=IntWalk.i64_in _ (by omega);have w2:IntKind.i64.wrap (h:Int)=(h:Int):=IntWalk.i64_in _ (by omega);have w3:IntKind.i64.wrap (2*-(h:Int)) = -(2*(h:Int)):=(IntWalk.i64_in _ (by omega)).trans (by omega);have w4:IntKind.i64.wrap (-(k:Int)+2*(h:Int)) = -(r:Int):=(IntWalk.i64_in _ (by omega)).trans (by omega);have w5:IntKind.i64.wrap (r:Int)=(r:Int):=IntWalk.i64_in _ (by omega);have R0:=ZZ (ae (w.alloc (.cells #[.int .i64 0,.slice none 0 0,.slice none 0 0] 75)));have Z0:=ZZ (fun W (h:Ext (w.alloc (.cells #[.int .i64 0,.slice none 0 0,.slice none 0 0] 75)) W)=>rowR h);have K0:=ZZ (ab w (.cells #[.int .i64 0,.slice none 0 0,.slice none 0 0] 75));clear hh hr h0 hk
 go_enter Tryz.func98,Tryz.ntmps98
 go_wp2_with fail;refine(whole_r h HB.out _).mono ?_
 rintro e wa ⟨v1,rfl,h2,k2⟩;obtain⟨Pv1,pv1,cv1,rfl⟩:=h2.form';have G1:=ZZ h2;have K1:=ZZ (ak R0.out k2);clear h2 k2;go_wp2_with fail;refine(whole_r h HB.out _).mono ?_;rintro e wb ⟨v2,rfl,h2,k2⟩;obtain⟨Pv2,pv2,cv2,rfl⟩:=h2.form';have G2:=ZZ h2;have G1':=ZZ (G1.out.mono k2);have K2:=ZZ (ak K1.out k2);clear h2 k2;go_wp2_with fail;refine(plus_r _ _ h h _ G1'.out G2.out SH.out SH.out).mono ?_;rintro e wc ⟨v3,rfl,h2,k2⟩;obtain⟨Pv3,pv3,cv3,rfl⟩:=h2.form';have G3:=ZZ h2;have K3:=ZZ (ak K2.out k2);clear h2 k2;go_wp2_with fail;refine(whole_r r RB.out _).mono ?_;rintro e wd ⟨v4,rfl,h2,k2⟩;obtain⟨Pv4,pv4,cv4,rfl⟩:=h2.form';have G4:=ZZ h2;have G3':=ZZ (G3.out.mono k2);have K4:=ZZ (ak K3.out k2);clear h2 k2;go_wp2_with fail;refine(plus_r _ _ (h+h) r _ G3'.out G4.out S2.out SR.out).mono ?_;rintro e we ⟨v5,rfl,h2,k2⟩;obtain⟨Pv5,pv5,cv5,rfl⟩:=h2.form';have G5:=ZZ h2;have K5:=ZZ (ak K4.out k2);clear h2 k2;rw [HK.out] at G5;go_wp2_with fail;refine(one_r _).mono ?_;rintro e wf ⟨v6,rfl,h2,k2⟩;obtain⟨Pv6,pv6,cv6,rfl⟩:=h2.form';have G6:=ZZ h2;have G5':=ZZ (G5.out.mono k2);have KP:=ZZ (ak K5.out k2);clear h2 k2;go_wp2_with fail;refine(made_r true (-1) rfl _ _ k 1 (by omega) _ G5'.out G6.out LK.out (by rw [dr_one];simp)).mono ?_;rintro e w7 ⟨V7,rfl,h2,k2⟩;obtain⟨s7,A7,k7,c7,B7,l7,d7,rfl,-⟩:=h2.form;have H7:=ZZ h2;have K7:=ZZ (ak KP.out k2);clear h2 k2;obtain⟨z0,z1,z2,f0,f1,f2⟩:=aj (Z0.out _ K7.out);go_wp2_with fail
 refine bodyPost_ret (v:=.agg #[.int .i64 s7,.slice A7 k7 c7,.slice B7 l7 d7]) (by simp [results,Tryz.f98];go_simp) rfl ?_;refine⟨_,rfl,?_,ao (ak K0.out K7.out) (Nat.le_refl _) _ _ _⟩;rw [←Hr.out];exact Nr.put_z H7.out (Z0.out _ K7.out) _ _ _
theorem int_n_pos (k:Nat) (hk:k<9223372036854775808) (w:World):Calls Tryz.prog 98 #[.int .i64 (k:Int)] w fun e w'=>∃v,e=.returned v∧Nr w' v ((k:Int):Rat)∧Ext w w':=by
 have Hr:=ZZ (show rat false k 1=((k:Int):Rat) by have:=rat_int (k:Int);rw [show decide ((k:Int)<0)=false by simp,Int.natAbs_natCast] at this;exact this);have LK:=ZZ (show (dr k).length≤34359738368 from Nat.le_trans (dr_bits (show k<2 ^ 64 by omega)) (by decide));have HK:=ZZ hk;have t0:decide ((k:Int)<0)=false:=by simp
 have R0:=ZZ (ae (w.alloc (.cells #[.int .i64 0,.slice none 0 0,.slice none 0 0] 75)));have Z0:=ZZ (fun W (h:Ext (w.alloc (.cells #[.int .i64 0,.slice none 0 0,.slice none 0 0] 75)) W)=>rowR h);have K0:=ZZ (ab w (.cells #[.int .i64 0,.slice none 0 0,.slice none 0 0] 75));clear hk
 go_enter Tryz.func98,Tryz.ntmps98
 go_wp2_with fail;refine(whole_r k HK.out _).mono ?_
 rintro e w1 ⟨v1,rfl,h2,k2⟩;obtain⟨Pv1,pv1,cv1,rfl⟩:=h2.form';have G1:=ZZ h2;have K1:=ZZ (ak R0.out k2);clear h2 k2;go_wp2_with fail;refine(one_r _).mono ?_;rintro e w2 ⟨v2,rfl,h2,k2⟩;obtain⟨Pv2,pv2,cv2,rfl⟩:=h2.form';have G2:=ZZ h2;have G1':=ZZ (G1.out.mono k2);have KP:=ZZ (ak K1.out k2);clear h2 k2;go_wp2_with fail;refine(made_r false 1 rfl _ _ k 1 (by omega) _ G1'.out G2.out LK.out (by rw [dr_one];simp)).mono ?_;rintro e w7 ⟨V7,rfl,h2,k2⟩;obtain⟨s7,A7,k7,c7,B7,l7,d7,rfl,-⟩:=h2.form;have H7:=ZZ h2;have K7:=ZZ (ak KP.out k2);clear h2 k2;obtain⟨z0,z1,z2,f0,f1,f2⟩:=aj (Z0.out _ K7.out);go_wp2_with fail;refine bodyPost_ret (v:=.agg #[.int .i64 s7,.slice A7 k7 c7,.slice B7 l7 d7]) (by simp [results,Tryz.f98];go_simp) rfl ?_;refine⟨_,rfl,?_,ao (ak K0.out K7.out) (Nat.le_refl _) _ _ _⟩;rw [←Hr.out];exact Nr.put_z H7.out (Z0.out _ K7.out) _ _ _
theorem int_n (z:Int) (h1:-9223372036854775808≤z) (h2:z<9223372036854775808) (w:World):Calls Tryz.prog 98 #[.int .i64 z] w fun e w'=>∃v,e=.returned v∧Nr w' v (z:Rat)∧Ext w w':=by
 rcases(show z<0∨0≤z by omega) with h|h
 ·obtain⟨k,rfl⟩:∃k:Nat,z = -(k:Int):=⟨z.natAbs,by omega⟩
  exact int_n_neg k (by omega) (by omega) w
 ·obtain⟨k,rfl⟩:∃k:Nat,z=(k:Int):=⟨z.toNat,by omega⟩
  exact int_n_pos k (by omega) w
theorem bq_inv {M:Nat} {y:Rat} (h:Bq M y) (h0:y≠0):Bq M y⁻¹:=by
 obtain⟨i1,i2,i3⟩:=inv_parts h0
 have hi:y⁻¹≠0:=by
  intro e;rw [e] at i2
  have:=y.den_pos
  simp at i2;omega
 rw [bn_ne hi] at i3;exact⟨by rw [i2];exact h.2,by rw [i3];exact h.1⟩
theorem Nr.inv {W:World} {s:Int} {vt vb:Value} {y:Rat} (h0:y≠0) (hs:y.num.sign=s) (h1:Wr W vt y.num.natAbs) (h2:Wr W vb (bn y)):Nr W (.agg #[.int .i64 s,vb,vt]) y⁻¹:=by
 obtain⟨i1,i2,i3⟩:=inv_parts h0;exact⟨s,vb,vt,rfl,i1.trans hs,by rw [i2,←bn_ne h0];exact h2,by rw [i3];exact h1⟩
theorem div_f (M:Nat) (hM:M≤274877906944) (vx vy:Value) (x y:Rat) (w:World) (hx:Nr w vx x) (hy:Nr w vy y) (bx:Bq M x) (by_:Bq M y) (h0:y≠0):Calls Tryz.prog 137 #[vx,vy] w fun e w'=>∃v,e=.returned (.tuple #[v,.int .i64 0])∧Nr w' v (x / y)∧Ext w w'∧FrN w.heap.size v:=by
 obtain⟨s1,A,k,ca,B,l,cb,rfl,hs1,hxt,hxb⟩:=hx.form;obtain⟨s2,C,m,cc,D,n,cd,rfl,hs2,hyt,hyb⟩:=hy.form;obtain⟨hS,hZ,hw1,hw2,hsz,hsz1⟩:=setupR2 w (.int .i64 s1) (.slice A k ca) (.slice B l cb) (.int .i64 s2) (.slice C m cc) (.slice D n cd);have HS:=ZZ hS;have HZ:=ZZ hZ;have HW1:=ZZ hw1;have HW2:=ZZ hw2;have Hsz1:=ZZ hsz1;have Hx:=ZZ hx;have Hy:=ZZ hy;have HXT:=ZZ hxt;have HYT:=ZZ hyt;have HS1:=ZZ hs1;have HS2:=ZZ hs2;have HIN:=ZZ (fun W (k:Ext w W)=>Nr.inv h0 hs2 (hyt.mono k) (hyb.mono k));have BI:=ZZ (bq_inv by_ h0);have BX:=ZZ bx;have HM:=ZZ hM;have HDV:=ZZ (Rat.div_def x y)
 have hz0:(s2 == 0)=false:=by
  rw [beq_eq_false_iff_ne,←hs2];intro e;exact h0 (Rat.num_eq_zero.1 (Int.sign_eq_zero_iff_zero.1 e))
 have hc0:=hS _ hw2;clear hx hy hxt hxb hyt hyb hS hZ hw1 hw2 hsz hsz1 hs1 hs2;clear h0 bx by_ hM
 go_enter Tryz.func137,Tryz.ntmps137
 go_wp2_with fail;generalize World.alloc (World.alloc (World.alloc w (.cells #[.int .i64 s1,.slice A k ca,.slice B l cb] _)) (.cells #[.int .i64 s2,.slice C m cc,.slice D n cd] _)) _=W2 at *
 generalize World.alloc (World.alloc w (.cells #[.int .i64 s1,.slice A k ca,.slice B l cb] _)) (.cells #[.int .i64 s2,.slice C m cc,.slice D n cd] _)=W1 at *;generalize hg0:w.heap.size=g0 at *;have Hsz:=ZZ (show w.heap.size≤g0+1+1 by omega);clear hg0;have hww:=ZZ (ak HW1.out HW2.out);have HG0:=ZZ (show ∀W:World,Ext w W→w.heap.size≤W.heap.size from fun W h=>h.size);refine(mul_f M HM.out _ _ x y⁻¹ _ (Hx.out.mono hww.out) (HIN.out _ hww.out) BX.out BI.out).mono ?_;rintro e w3 ⟨v3,rfl,h7,k4,fr⟩;obtain⟨s7,A7,k7,c7,B7,l7,d7,h7e,-⟩:=h7.form;subst h7e;have H7:=ZZ h7;have F3:=ZZ (fr.mono (HG0.out _ hww.out));clear fr;have K7:=ZZ k4;have hz:=HZ.out _ k4;obtain⟨z0,z1,z2,f0,f1,f2⟩:=aj hz;have Hz:=ZZ hz;clear h7 k4 hz;go_wp2_with fail;refine bodyPost_ret (v:=.tuple #[.agg #[.int .i64 s7,.slice A7 k7 c7,.slice B7 l7 d7],.int .i64 0]) (by simp [results,Tryz.f137];go_simp) rfl ?_;refine⟨_,rfl,?_,ao (ak hww.out K7.out) Hsz.out _ _ _,F3.out⟩;rw [HDV.out];exact Nr.put_z H7.out Hz.out _ _ _
end Go.Proofs.YtoefieefcndlkaaGreatDoor
