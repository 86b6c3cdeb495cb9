/- Slices of polynomials of the call's own; Div, Gcd, Parts. Square-free parts. Numbers: rounding. Printed by gen_nh.py. Numbers: powers of ten. Printed by gen_nk.py. Numbers: logarithms, integers next to a number. Printed by gen_ni.py. Texts: the number that decimal digits are. -/
import Derived.Test.YtjamgccgoapbeaaGreatDoorGZa
import Derived.Test.YtjamgccgoapbeaaGreatDoorGNg
import Derived.Deep.LoopGhost
import Derived.Test.YtjamgccgoapbeaaGreatDoorGTa
import Derived.Test.YtjamgccgoapbeaaGreatDoorGRd
import Derived.Lib.OthersKept
set_option linter.unusedVariables false
set_option maxRecDepth 100000
set_option maxHeartbeats 64000000
namespace Go.Proofs.YtjamgccgoapbeaaGreatDoor
open Go.RowKit
set_option linter.unusedSimpArgs false
def isSl (c:Value):Prop:=∃A k n,c=.slice A k n
theorem info_pl:(Tryz.prog.info? 22).map (fun i=>(i.zero,i.size,i.bytes))=some (some (.slice none 0 0),1,24):=by kernel_rfl
theorem elPl:ElT Tryz.prog 29 22 1 24 (.slice none 0 0):=
 ⟨Tryz.underlying29,by obtain⟨i,hi,h1,h2,h3⟩:=info_parts info_pl;exact⟨i,hi,h1,h2,h3⟩,rfl,by decide⟩
theorem zero_sl:∀c ∈ (Value.slice none 0 0).cells.toList,isSl c:=by
 intro c hc;rw [show (Value.slice none 0 0).cells.toList=[.slice none 0 0] from rfl] at hc;rw [List.mem_singleton.1 hc];exact⟨_,_,_,rfl⟩
abbrev OwnV (w:World) (B:Nat) (v:Value) (n:Nat) (xs:List Value):Prop:=OwnG w B 22 1 isSl v n xs
theorem Pl.grownS {w w':World} {v u:Value} {l:List Rat} {B n:Nat} {xs:List Value} (h:Pl w v l) (hown:OwnV w B u n xs) (hg:w.grownBy w' u.ownBlock):Pl w' v l:=by
 obtain⟨A,cap,e,hc,hA⟩:=h;refine⟨A,cap,e,hc,?_⟩
 rcases hA with h|⟨b,o,e1,ht⟩
 ·exact .inl h
 ·refine .inr ⟨b,o,e1,fun i q hq=>?_⟩
  obtain⟨s,A1,m,ca,B1,n1,cb,h1,h2,h3,h4⟩:=ht i q hq
  have hb:some b≠u.ownBlock:=fun hb=>by
   obtain⟨A2,k2,n2,e2⟩:=hown.kind hb.symm h1
   cases e2
  exact⟨s,A1,m,ca,B1,n1,cb,hg.cell h1 hb,hg.cell h2 hb,hg.cell h3 hb,h4.grownG hown (fun z ⟨A2,k2,n2,e2⟩=>by cases e2) hg⟩
def OwnL (w:World) (B:Nat) (v:Value) (ls:List (List Rat)):Prop:=∃xs,OwnV w B v ls.length xs∧∀(i:Nat) (l:List Rat),ls[i]?=some l→∃u,xs[i]?=some u∧Pl w u l
theorem OwnL.nil (w:World) (B:Nat):OwnL w B (.slice none 0 0) []:=⟨[],OwnG.nil _ _ _ _ _,fun i l h=>by cases h⟩
theorem OwnL.mono {w w':World} {B:Nat} {v:Value} {ls:List (List Rat)} (h:OwnL w B v ls) (k:Ext w w'):OwnL w' B v ls:=by
 obtain⟨xs,h1,h2⟩:=h;exact⟨xs,h1.mono k,fun i l hl=>by obtain⟨u,e,hp⟩:=h2 i l hl;exact⟨u,e,hp.mono k⟩⟩
theorem OwnL.pll {w:World} {B:Nat} {v:Value} {ls:List (List Rat)} (h:OwnL w B v ls):PlL w v ls:=by
 obtain⟨xs,h1,h2⟩:=h
 rcases Nat.eq_zero_or_pos ls.length with h0|h0
 ·rcases h1.2 with ⟨e,-⟩|⟨g,cap,cur,e,-,-,hc,-⟩
  ·rw [List.length_eq_zero_iff.1 h0]
   exact⟨none,0,e,Nat.le_refl _,.inl ⟨rfl,rfl⟩⟩
  ·exact⟨_,cap,e,hc,.inr ⟨g,0,rfl,fun i l hl=>by rw [List.length_eq_zero_iff.1 h0] at hl;cases hl⟩⟩
 ·obtain⟨g,cap,e,-,hc,hcell⟩:=h1.cells h0
  refine⟨_,cap,e,hc,.inr ⟨g,0,rfl,fun i l hl=>?_⟩⟩;obtain⟨u,hu,hp⟩:=h2 i l hl;exact⟨u,by rw [Nat.zero_add];exact hcell _ _ hu,hp⟩
theorem OwnL.snoc {w w':World} {B:Nat} {v v' u:Value} {ls:List (List Rat)} {xs:List Value} {l:List Rat} (hown:OwnV w B v ls.length xs) (hx:∀(i:Nat) (l:List Rat),ls[i]?=some l→∃u,xs[i]?=some u∧Pl w u l) (hu:Pl w u l) (hg:w.grownBy w' v.ownBlock) (h:OwnV w' B v' (ls.length+1) (xs ++ [u])):OwnL w' B v' (ls ++ [l]):=by
 have hxl:xs.length=ls.length:=by have:=hown.1;omega
 refine⟨_,by rw [List.length_append];exact h,fun i m hm=>?_⟩
 rcases Nat.lt_or_ge i ls.length with hi|hi
 ·rw [List.getElem?_append_left hi] at hm
  obtain⟨u',e,hp⟩:=hx i m hm;exact⟨u',by rw [List.getElem?_append_left (by omega)];exact e,hp.grownS hown hg⟩
 ·rw [List.getElem?_append_right hi] at hm
  have hi0:i - ls.length=0:=by
   rcases Nat.eq_zero_or_pos (i - ls.length) with e|e
   ·exact e
   ·obtain⟨d,hd⟩:∃d,i - ls.length=d+1:=⟨i - ls.length - 1,by omega⟩
    rw [hd] at hm;simp at hm
  rw [hi0] at hm;obtain rfl:l=m:=Option.some.inj hm;exact⟨u,by rw [List.getElem?_append_right (by omega),show i - xs.length=0 by omega];rfl,hu.grownS hown hg⟩
theorem cell1_new (w:World) (a:Value) (T:TypeId):∀(j:Nat) (u:Value),[a][j]?=some u→(w.alloc (.cells #[a] T)).cell? ((⟨w.heap.size,0,none⟩:Addr).add j)=some u:=by
 intro j u hu
 match j,hu with
 | 0,hu=>obtain rfl:a=u:=Option.some.inj hu;exact(cell_of_row _ _ 0 _ _ _ (heap_alloc_new w (.cells #[a] T))).trans rfl
theorem Pl.form {w:World} {v:Value} {l:List Rat} (h:Pl w v l):∃A n c,v=.slice A n c∧l.length=n:=by
 obtain⟨A,c,e,-⟩:=h;exact⟨_,_,_,e,rfl⟩
end Go.Proofs.YtjamgccgoapbeaaGreatDoor
set_option linter.unusedVariables false
set_option maxRecDepth 100000
set_option maxHeartbeats 64000000
namespace Go.Proofs.YtjamgccgoapbeaaGreatDoor
open Go.RowKit
set_option linter.unusedSimpArgs false
theorem zip_len (p q:List Rat) (N:Nat) (hp:p.length≤N) (hq:q.length≤N):(zipA p q).length≤N:=by
 induction p generalizing q N with
 | nil=>exact hq
 | cons a p ih=>
  cases q with
  | nil=>exact hp
  | cons b q=>
   obtain⟨n,rfl⟩:∃n,N=n+1:=⟨N - 1,by simp at hp;omega⟩
   have:=ih q n (by simpa using hp) (by simpa using hq)
   show (zipA p q).length+1≤n+1
   omega
theorem add_len (p q:List Rat) (N:Nat) (hp:p.length≤N) (hq:q.length≤N):(addF p q).length≤N:=Nat.le_trans (trim_le _) (zip_len p q N hp hq)
theorem sub_len (p q:List Rat) (N:Nat) (hp:p.length≤N) (hq:q.length≤N):(subF p q).length≤N:=add_len p _ N hp (Nat.le_trans (scale_len _ _) hq)
end Go.Proofs.YtjamgccgoapbeaaGreatDoor
set_option linter.unusedVariables false
set_option maxRecDepth 100000
set_option maxHeartbeats 64000000
namespace Go.Proofs.YtjamgccgoapbeaaGreatDoor
open Go.RowKit
theorem up_c (va:Value) (n k:Nat) (w:World) (ha:Wd w va n) (sa:Sm n) (hk:k≤70368744177664):Calls Tryz.prog 148 #[va,.int .i64 k] w fun e w'=>∃v,e=.returned v∧Wd w' v (n*2 ^ k)∧Ext w w':=by
 refine(up_r va n k w ha sa hk).mono ?_;rintro e w' ⟨⟨r,rfl,h1,h2,h3,h4⟩,h5⟩;exact⟨_,rfl,by rw [←h4];exact cut_w h2 h3.cl (by omega),h5⟩
def shQ (x:Rat) (k:Int):Rat:=if k<0 then rat (decide (x.num<0)) x.num.natAbs (x.den*2 ^ k.natAbs) else rat (decide (x.num<0)) (x.num.natAbs*2 ^ k.natAbs) x.den
theorem lt_shift {n B k:Nat} (h:n<2 ^ B):n*2 ^ k<2 ^ (B+k):=by
 rw [Nat.pow_add];exact Nat.mul_lt_mul_of_pos_right h (Nat.pow_pos (by decide))
theorem Bq.sh {B:Nat} {x:Rat} {k:Int} (h:Bq B x):Bq (B+k.natAbs) (shQ x k):=by
 unfold shQ;have hp:0<x.den:=x.den_pos
 split
 ·exact bq_rat (lt_mono h.1 (by omega)) (lt_shift h.2) (Nat.ne_of_gt (Nat.mul_pos hp (Nat.pow_pos (by decide))))
 ·exact bq_rat (lt_shift h.1) (lt_mono h.2 (by omega)) (Nat.ne_of_gt hp)
theorem shifted_up (M:Nat) (hM:M≤1099511627776) (j:Nat) (hj:j≤1099511627776) (vx:Value) (x:Rat) (w:World) (hx:Nm w vx x) (bx:Bq M x):Calls Tryz.prog 118 #[vx,.int .i64 j] w fun e w'=>∃v,e=.returned v∧Nm w' v (shQ x j)∧Ext w w':=by
 have S1:=ZZ (sm_of_lt bx.1 (by omega));have S2:=ZZ (sm_of_lt bx.2 (by omega));have S3:=ZZ (sm_of_lt (lt_shift (k:=j) bx.1) (by omega));have D0:=ZZ x.den_pos;have HJ:=ZZ hj;have q1:(0:Int)≤(j:Int):=by omega
 have q2:¬(j:Int)<0:=by omega
 clear hj bx hM;obtain⟨A,k,ca,B,l,cb,rfl,hxn,hxd,hkx,hlx⟩:=hx.form;have Hx:=ZZ hx;have Hxn:=ZZ hxn;have Hkx:=ZZ hkx;have Hlx:=ZZ hlx;clear hx hxn hxd hkx hlx;generalize hbx:decide (x.num<0)=b1 at *;have Hbx:=ZZ hbx;clear hbx;obtain⟨hS,hZ,hw1,hw2,hsz,hsz1⟩:=setup1 w (.bool b1) (.slice A k ca) (.slice B l cb);have HS:=ZZ hS;have HZ:=ZZ hZ;have HW1:=ZZ hw1;have HW2:=ZZ hw2;have Hsz1:=ZZ hsz1;clear hS hZ hw1 hw2 hsz hsz1
 go_enter Tryz.func118,Tryz.ntmps118
 go_wp2_with fail;generalize World.alloc (World.alloc w (.cells #[.bool b1,.slice A k ca,.slice B l cb] _)) _=W2 at *
 generalize World.alloc w (.cells #[.bool b1,.slice A k ca,.slice B l cb] _)=W1 at *;generalize hg0:w.heap.size=g0 at *;have Hsz:=ZZ (show w.heap.size≤g0+1 by omega);clear hg0;have hww:=ZZ (am HW1.out HW2.out);have hx0:=ZZ (ae W2);have hS0:=HS.out _ (am HW2.out hx0.out);have e1:=ZZ (ac W2);have hx1:=ZZ (am hx0.out e1.out)
 go_region_held3 (fun W=>W.cell? ⟨g0,0,none⟩=some (.bool b1)∧W.cell? ⟨g0,1,none⟩=some (.slice A k ca)∧W.cell? ⟨g0,2,none⟩=some (.slice B l cb))
  (first
   | exact HS.out _ (ap (am HW2.out hx4.out) Hsz1.out _ _ _)
   | exact HS.out _ (am HW2.out hx4.out)
   | exact HS.out _ (am HW2.out hx3.out)
   | exact HS.out _ (am HW2.out hx2.out)
   | exact HS.out _ (am HW2.out hx1.out))
  (first
   |(have _q:=hx3
     go_at_call 57
     refine(reduced_c _ _ _ _ _ _ (H2.out.mono e3.out) H3.out S3.out S2.out D0.out).mono ?_;clear _q;rintro e w3 ⟨vv,rfl,h4,k4⟩;obtain⟨b3,P3,p3,c3,Q3,q3,d3,rfl⟩:=h4.form2;have H4:=ZZ h4;clear h4;have e4:=ZZ k4;have hx4:=ZZ (am hx3.out k4);clear k4;have hz:=HZ.out _ hx4.out;obtain⟨z0,z1,z2,f0,f1,f2⟩:=aj hz;have Hz:=ZZ hz;clear hz)
   |(have _q:=hx2
     go_at_call 74
     refine(under_c _ _ _ (Hx.out.mono (am hww.out hx2.out))).mono ?_;clear _q;rintro e w2 ⟨vv,rfl,h3,k3⟩;obtain⟨P2,p2,c2,rfl⟩:=h3.form';have H3:=ZZ h3;clear h3;have e3:=ZZ k3;have hx3:=ZZ (am hx2.out k3);clear k3)
   |(have _q:=hx1
     go_at_call 148
     refine(up_c _ _ _ _ (Hxn.out.mono (am hww.out hx1.out)) S1.out (Nat.le_trans HJ.out (by decide))).mono ?_;clear _q;rintro e w1 ⟨vv,rfl,h2,k2⟩;obtain⟨P1,p1,c1,rfl⟩:=h2.form';have H2:=ZZ h2;clear h2;have e2:=ZZ k2;have hx2:=ZZ (am hx1.out k2);clear k2))
 go_wp2_with fail;refine bodyPost_ret (v:=.agg #[.bool b3,.slice P3 p3 c3,.slice Q3 q3 d3]) (by simp [results,Tryz.f118];go_simp) rfl ?_
 refine⟨_,rfl,?_,ap (am hww.out hx4.out) Hsz.out _ _ _⟩
 have hr:rat b1 (x.num.natAbs*2 ^ j) x.den=shQ x (j:Int):=by
  unfold shQ;rw [if_neg (by omega),Hbx.out];rfl
 rw [←hr];exact H4.out.put3 Hz.out
theorem shifted_down (M:Nat) (hM:M≤1099511627776) (j:Nat) (h0:0<j) (hj:j≤1099511627776) (vx:Value) (x:Rat) (w:World) (hx:Nm w vx x) (bx:Bq M x):Calls Tryz.prog 118 #[vx,.int .i64 (-(j:Int))] w fun e w'=>∃v,e=.returned v∧Nm w' v (shQ x (-(j:Int)))∧Ext w w':=by
 have S1:=ZZ (sm_of_lt bx.1 (by omega));have S2:=ZZ (sm_of_lt bx.2 (by omega));have S3:=ZZ (sm_of_lt (lt_shift (k:=j) bx.2) (by omega));have D0:=ZZ (Nat.mul_pos x.den_pos (Nat.pow_pos (n:=j) (show 0<2 by decide)));have HJ:=ZZ hj;have HP:=ZZ h0;have q2:-(j:Int)<0:=by omega
 have q3:decide (-(j:Int)<0)=true:=by rw [decide_eq_true_eq];omega
 have q4:IntKind.i64.wrap (j:Int)=(j:Int):=IntWalk.i64_in _ (by omega);have q5:IntKind.i64.wrap (- -(j:Int))=(j:Int):=IntWalk.i64_in _ (by omega) |>.trans (by omega)
 clear hj bx hM h0;obtain⟨A,k,ca,B,l,cb,rfl,hxn,hxd,hkx,hlx⟩:=hx.form;have Hx:=ZZ hx;have Hxn:=ZZ hxn;have Hkx:=ZZ hkx;have Hlx:=ZZ hlx;clear hx hxn hxd hkx hlx;generalize hbx:decide (x.num<0)=b1 at *;have Hbx:=ZZ hbx;clear hbx;obtain⟨hS,hZ,hw1,hw2,hsz,hsz1⟩:=setup1 w (.bool b1) (.slice A k ca) (.slice B l cb);have HS:=ZZ hS;have HZ:=ZZ hZ;have HW1:=ZZ hw1;have HW2:=ZZ hw2;have Hsz1:=ZZ hsz1;clear hS hZ hw1 hw2 hsz hsz1
 go_enter Tryz.func118,Tryz.ntmps118
 go_wp2_with fail;generalize World.alloc (World.alloc w (.cells #[.bool b1,.slice A k ca,.slice B l cb] _)) _=W2 at *
 generalize World.alloc w (.cells #[.bool b1,.slice A k ca,.slice B l cb] _)=W1 at *;generalize hg0:w.heap.size=g0 at *;have Hsz:=ZZ (show w.heap.size≤g0+1 by omega);clear hg0;have hww:=ZZ (am HW1.out HW2.out);have hx0:=ZZ (ae W2);have hS0:=HS.out _ (am HW2.out hx0.out);have e1:=ZZ (ac W2);have hx1:=ZZ (am hx0.out e1.out)
 go_region_held3 (fun W=>W.cell? ⟨g0,0,none⟩=some (.bool b1)∧W.cell? ⟨g0,1,none⟩=some (.slice A k ca)∧W.cell? ⟨g0,2,none⟩=some (.slice B l cb))
  (first
   | exact HS.out _ (ap (am HW2.out hx4.out) Hsz1.out _ _ _)
   | exact HS.out _ (am HW2.out hx4.out)
   | exact HS.out _ (am HW2.out hx3.out)
   | exact HS.out _ (am HW2.out hx2.out)
   | exact HS.out _ (am HW2.out hx1.out))
  (first
   |(have _q:=hx3
     go_at_call 57
     refine(reduced_c _ _ _ _ _ _ (Hxn.out.mono (am hww.out hx3.out)) H3.out S1.out S3.out D0.out).mono ?_;clear _q;rintro e w3 ⟨vv,rfl,h4,k4⟩;obtain⟨b3,P3,p3,c3,Q3,q3,d3,rfl⟩:=h4.form2;have H4:=ZZ h4;clear h4;have e4:=ZZ k4;have hx4:=ZZ (am hx3.out k4);clear k4;have hz:=HZ.out _ hx4.out;obtain⟨z0,z1,z2,f0,f1,f2⟩:=aj hz;have Hz:=ZZ hz;clear hz)
   |(have _q:=hx2
     go_at_call 148
     refine(up_c _ _ _ _ H2.out S2.out (Nat.le_trans HJ.out (by decide))).mono ?_;clear _q;rintro e w2 ⟨vv,rfl,h3,k3⟩;obtain⟨P2,p2,c2,rfl⟩:=h3.form';have H3:=ZZ h3;clear h3;have e3:=ZZ k3;have hx3:=ZZ (am hx2.out k3);clear k3)
   |(have _q:=hx1
     go_at_call 74
     refine(under_c _ _ _ (Hx.out.mono (am hww.out hx1.out))).mono ?_;clear _q;rintro e w1 ⟨vv,rfl,h2,k2⟩;obtain⟨P1,p1,c1,rfl⟩:=h2.form';have H2:=ZZ h2;clear h2;have e2:=ZZ k2;have hx2:=ZZ (am hx1.out k2);clear k2))
 go_wp2_with fail;refine bodyPost_ret (v:=.agg #[.bool b3,.slice P3 p3 c3,.slice Q3 q3 d3]) (by simp [results,Tryz.f118];go_simp) rfl ?_
 refine⟨_,rfl,?_,ap (am hww.out hx4.out) Hsz.out _ _ _⟩
 have hr:rat b1 x.num.natAbs (x.den*2 ^ j)=shQ x (-(j:Int)):=by
  unfold shQ;rw [if_pos (by have:=HP.out;omega),Hbx.out,Int.natAbs_neg];rfl
 rw [←hr];exact H4.out.put3 Hz.out
theorem shifted_q (M:Nat) (hM:M≤1099511627776) (z:Int) (hz:z.natAbs≤1099511627776) (vx:Value) (x:Rat) (w:World) (hx:Nm w vx x) (bx:Bq M x):Calls Tryz.prog 118 #[vx,.int .i64 z] w fun e w'=>∃v,e=.returned v∧Nm w' v (shQ x z)∧Ext w w':=by
 rcases(show z<0∨0≤z by omega) with h|h
 ·obtain⟨k,rfl⟩:∃k:Nat,z = -(k:Int):=⟨z.natAbs,by omega⟩
  exact shifted_down M hM k (by omega) (by omega) vx x w hx bx
 ·obtain⟨k,rfl⟩:∃k:Nat,z=(k:Int):=⟨z.toNat,by omega⟩
  exact shifted_up M hM k (by omega) vx x w hx bx
end Go.Proofs.YtjamgccgoapbeaaGreatDoor
set_option linter.unusedVariables false
set_option maxRecDepth 100000
set_option maxHeartbeats 64000000
namespace Go.Proofs.YtjamgccgoapbeaaGreatDoor
open Go.RowKit
theorem ten_lt (c:Nat):10 ^ c<2 ^ (4*c+1):=by
 have h:10 ^ c≤16 ^ c:=Nat.pow_le_pow_left (by decide) c;rw [Nat.pow_succ,Nat.pow_mul,show (2:Nat) ^ 4=16 from rfl]
 have:=Nat.pow_pos (n:=c) (show 0<16 by decide)
 omega
end Go.Proofs.YtjamgccgoapbeaaGreatDoor
set_option linter.unusedVariables false
set_option maxRecDepth 100000
set_option maxHeartbeats 64000000
namespace Go.Proofs.YtjamgccgoapbeaaGreatDoor
open Go.RowKit
theorem bl_le {n M:Nat} (h:n<2 ^ M):bl n≤M:=by
 unfold bl
 split
 ·omega
 ·rename_i h0
  have:=(Nat.log2_lt h0).2 h
  omega
def logN (n d:Nat):Int:=
 if bl d≤bl n then (if n<d*2 ^ (bl n - bl d) then ((bl n - bl d:Nat):Int) - 1 else ((bl n - bl d:Nat):Int))
 else (if n*2 ^ (bl d - bl n)<d then -((bl d - bl n:Nat):Int) - 1 else -((bl d - bl n:Nat):Int))
def logQ (x:Rat):Int:=logN x.num.natAbs x.den
theorem logQ_bound {M:Nat} {x:Rat} (h:Bq M x):-(M:Int) - 1≤logQ x∧logQ x≤M:=by
 have h1:=bl_le h.1;have h2:=bl_le h.2;unfold logQ logN
 split <;> split <;> omega
def wholeN (n d:Nat) (away:Bool):Nat:=if away=true∧n % d≠0 then n / d+1 else n / d
def wholeQ (x:Rat) (away:Bool):Rat:=rat (decide (x.num<0)) (wholeN x.num.natAbs x.den away) 1
theorem wholeN_lt {n d B:Nat} {away:Bool} (h:n<2 ^ B):wholeN n d away<2 ^ (B+1):=by
 unfold wholeN;have h1:n / d≤n:=Nat.div_le_self _ _;rw [Nat.pow_succ]
 split <;> omega
theorem Bq.wh {B:Nat} {x:Rat} {away:Bool} (h:Bq B x):Bq (B+1) (wholeQ x away):=
 bq_rat (wholeN_lt h.1) (Nat.one_lt_two_pow (by omega)) (by decide)
end Go.Proofs.YtjamgccgoapbeaaGreatDoor
set_option linter.unusedVariables false
set_option maxRecDepth 100000
set_option maxHeartbeats 64000000
namespace Go.Proofs.YtjamgccgoapbeaaGreatDoor
open Go.RowKit
theorem Wd.iterAt {W:World} {v:Value} {n g:Nat} {s:ByteArray} {pos:Nat} (h:Wd W v n) (hg:W.heap[g]?=some (.stringIter s pos)) (p:Nat):Wd (W.iterAt g s p) v n:=by
 obtain⟨A,c,e,hc,hcl⟩:=h;refine⟨A,c,e,hc,?_⟩
 rcases Nat.eq_zero_or_pos (dg n).length with h0|h0
 ·left;rw [List.length_eq_zero_iff.1 h0];rfl
 ·obtain⟨bl,o,hA,hce⟩:=hcl.at_ (by simpa using h0)
  right
  refine⟨bl,o,hA,fun j hj=>?_⟩;have hj':j<(dg n).length:=by simpa using hj
  have h1:=hce j hj
  have hne:bl≠g:=by
   intro hb;subst hb;rw [getD_map_u64 _ _ hj'] at h1
   simp [World.cell?,hg] at h1
  rw [←h1]
  apply World.cell?_of_block
  exact Lib.iterAt_other _ _ _ _ _ hne
theorem natOf_take_succ (l:List UInt8) (p:Nat) (h:p<l.length):natOf (l.take (p+1))=10*natOf (l.take p)+((l[p]'h).toNat - 48):=by
 rw [List.take_succ_eq_append_getElem h,natOf_snoc]
theorem dig_bits (l:List UInt8) (h:∀c ∈ l,isDig c=true):natOf l<2 ^ (4*l.length+1):=
 Nat.lt_trans (natOf_lt l h) (ten_lt _)
theorem word_c' (k:Nat) (z:Int) (hz:z=(k:Int)) (hk:k<B64) (w:World):Calls Tryz.prog 58 #[.int .u64 z] w fun e w'=>∃v,e=.returned v∧Wd w' v k∧Ext w w':=by
 subst hz;exact word_c k hk w
def U64ok (p f:Nat):Prop:=p<f∧∃r,r<18∧f=10 ^ r
theorem U64ok.le {p f:Nat} (h:U64ok p f):f≤100000000000000000:=by
 obtain⟨-,r,hr,rfl⟩:=h;exact(Nat.pow_le_pow_right (by decide) (show r≤17 by omega):10 ^ r≤10 ^ 17)
theorem U64ok.next {p f d:Nat} (h:U64ok p f) (hd:d<10):10*f=1000000000000000000∨U64ok (10*p+d) (10*f):=by
 obtain⟨h1,r,hr,rfl⟩:=h
 rcases(show r=17∨r+1<18 by omega) with e|e
 ·left;subst e;rfl
 ·exact .inr ⟨by omega,r+1,e,by rw [Nat.pow_succ,Nat.mul_comm]⟩
theorem taken_c (l:List UInt8) (hl:∀c ∈ l,isDig c=true) (hs:l.length≤1073741824) (w:World):Calls Tryz.prog 127 #[.string ⟨l.toArray⟩] w fun e w'=>∃v,e=.returned v∧Wd w' v (natOf l)∧Ext w w':=by
 have HL:=ZZ hl;have HSZ:=ZZ hs
 have hbd:=ZZ (show ∀p N,N≤natOf (l.take p)→Sm N from fun p N hN=>by
  have h1:=dig_bits (l.take p) (fun c hc=>hl c (List.mem_of_mem_take hc));have h2:(l.take p).length≤1073741824:=by rw [List.length_take];omega
  exact sm_lt hN (sm_of_lt h1 (by omega)))
 clear hl hs;have hz0:(ByteArray.mk l.toArray).size=l.length:=rfl;have HSI:=ZZ hz0;clear hz0
 go_enter Tryz.func127,Tryz.ntmps127
 go_wp2_with fail
 go_loopg [3,4,5] l.length (fun k o p f wr=>∃(pos N p' f':Nat),pos+k=l.length∧p=.int .u64 (p':Int)∧f=.int .u64 (f':Int)∧Wd wr o N∧N*f'+p'=natOf (l.take pos)∧U64ok p' f'∧wr.heap[w.heap.size]?=some (.stringIter ⟨l.toArray⟩ pos)∧Ext w wr)
 case atStart=>exact⟨0,0,0,1,by omega,rfl,rfl,Wd.zero _,rfl,⟨by omega,0,by omega,rfl⟩,World.iter_heap w _ 0,(Below.refl _ _).alloc (Nat.le_refl _) _⟩
 case round=>
  obtain⟨pos,N,p',f',hpos,rfl,rfl,hN,hv,hok,hit,hext⟩:=hrel;obtain⟨P1,p1,c1,rfl⟩:=hN.form';have HN:=ZZ hN;have HV:=ZZ hv;have HOK:=ZZ hok;have HIT:=ZZ hit;have HEX:=ZZ hext;have HPOS:=ZZ hpos;have hfle:=hok.le;have hplt:=hok.1;clear hN hv hok hit hext
  rcases Nat.eq_zero_or_pos gk with hz|hz
  ·subst hz
   obtain rfl:pos=l.length:=by omega
   have hnx:∀ty,(Instr.next (.pointer (some ⟨w.heap.size,0,none⟩)) true ty).run Tryz.prog wr=_:=fun ty=>Lib.run_next_end_at wr w.heap.size ⟨l.toArray⟩ l.length ty HIT.out (by rw [HSI.out];omega);have Fl:=ZZ (show f'<B64 by rw [B64_eq];omega);have Pl:=ZZ (show p'<B64 by rw [B64_eq];omega);have V:=HV.out;rw [List.take_length] at V
   have Sn:=ZZ (hbd.out l.length N (by
    rw [List.take_length,←V];have h1:N*1≤N*f':=Nat.mul_le_mul_left _ (by omega)
    omega))
   have Snf:=ZZ (hbd.out l.length (N*f') (by rw [List.take_length];omega));have VV:=ZZ V;clear V hpos hfle hplt;go_wp2_with fail;refine(word_c f' Fl.out _).mono ?_;rintro e w1 ⟨v1,rfl,h1,k1⟩;have G1:=ZZ h1;have K1:=ZZ k1;clear h1 k1 hnx;go_wp2_with fail;refine(mul_c _ _ _ _ _ (HN.out.mono K1.out) G1.out Sn.out (sm_small _ (Nat.lt_of_lt_of_le Fl.out (by rw [B64_eq];decide)))).mono ?_;rintro e w2 ⟨v2,rfl,h2,k2⟩;have G2:=ZZ h2;have K2:=ZZ k2;clear h2 k2;go_wp2_with fail;refine(word_c p' Pl.out _).mono ?_;rintro e w3 ⟨v3,rfl,h3,k3⟩;have G3:=ZZ h3;have K3:=ZZ k3;clear h3 k3;go_wp2_with fail;refine(add_c _ _ _ _ _ (G2.out.mono K3.out) G3.out Snf.out (sm_small _ (Nat.lt_of_lt_of_le Pl.out (by rw [B64_eq];decide)))).mono ?_;rintro e w4 ⟨v4,rfl,h4,k4⟩;have G4:=ZZ h4;have K4:=ZZ k4;clear h4 k4;go_wp2_with fail;go_ret;refine⟨_,rfl,?_,am HEX.out (am K1.out (am K2.out (am K3.out K4.out)))⟩;rw [←VV.out];exact G4.out
  ·have hp:pos<(ByteArray.mk l.toArray).size:=by rw [HSI.out];omega
   have hpl:pos<l.length:=by omega
   have hdg:=(isDig_iff _).1 (HL.out (l[pos]'hpl) (List.getElem_mem hpl))
   have hnx:∀ty,(Instr.next (.pointer (some ⟨w.heap.size,0,none⟩)) true ty).run Tryz.prog wr=_:=fun ty=>Lib.run_next_ascii_at wr w.heap.size ⟨l.toArray⟩ pos ty HIT.out hp (by
    show (l[pos]'hpl).toNat<128
    omega)
   have hcv:((ByteArray.mk l.toArray)[pos]'hp).toNat=(l[pos]'hpl).toNat:=rfl;rw [hcv] at hnx;have hst:=natOf_take_succ l pos hpl;obtain⟨d,hd⟩:∃d,d=(l[pos]'hpl).toNat - 48:=⟨_,rfl⟩;obtain⟨c,hc⟩:∃c,c=(l[pos]'hpl).toNat:=⟨_,rfl⟩;rw [←hd] at hst;rw [←hc] at hnx hdg;rw [←hc] at hd;have hd10:d<10:=by omega
   have HST:=ZZ hst;have HNEXT:=ZZ (HOK.out.next hd10);have hit2:=Lib.iterAt_heap wr w.heap.size ⟨l.toArray⟩ pos (pos+1) HIT.out;have hex2:=Lib.below_iterAt HEX.out (k:=w.heap.size) (Nat.le_refl _) ⟨l.toArray⟩ (pos+1);have hN2:=HN.out.iterAt HIT.out (pos+1);obtain⟨W1,hW1⟩:∃W1,W1=wr.iterAt w.heap.size ⟨l.toArray⟩ (pos+1):=⟨_,rfl⟩;rw [←hW1] at hnx hit2 hex2 hN2;have HIT2:=ZZ hit2;have HEX2:=ZZ hex2;have HN2:=ZZ hN2;have u1:IntKind.i32.wrap ((c:Int) - 48)=(d:Int):=(IntWalk.i32_in _ (by omega)).trans (by omega);have u2:IntKind.u64.wrap (d:Int)=(d:Int):=IntWalk.u64_in _ (by omega);have u3:IntKind.u64.wrap (10*(p':Int))=10*(p':Int):=IntWalk.u64_in _ (by omega);have u4:IntKind.u64.wrap (10*(p':Int)+(d:Int))=10*(p':Int)+(d:Int):=IntWalk.u64_in _ (by omega);have u5:IntKind.u64.wrap (10*(f':Int))=10*(f':Int):=IntWalk.u64_in _ (by omega);have hlt2:=ZZ (show 10*p'+d<1000000000000000000 by omega);have U1:=ZZ u1;have U2:=ZZ u2;have U3:=ZZ u3;have U4:=ZZ u4;have U5:=ZZ u5;have HZ0:=ZZ hz;clear hW1 hst hit2 hex2 hN2 hpos u1 u2 u3 u4 u5 hd hc hcv hfle hplt hdg hz hp hpl hd10;have u1:=U1.out;have u2:=U2.out;have u3:=U3.out;have u4:=U4.out;have u5:=U5.out
   rcases Decidable.em (10*f'=1000000000000000000) with hf|hf
   ·have t1:(10*(f':Int) == 1000000000000000000)=true:=by rw [beq_iff_eq];omega
    have Fl:=ZZ (show 10*f'<B64 by rw [B64_eq];omega);have Pl:=ZZ (show 10*p'+d<B64 by rw [B64_eq];have:=hlt2.out;omega)
    have hval:N*(10*f')+(10*p'+d)=natOf (l.take (pos+1)):=by
     rw [HST.out,←HV.out]
     have:N*(10*f')=10*(N*f'):=by rw [Nat.mul_left_comm]
     omega
    have Sn:=ZZ (hbd.out (pos+1) N (by
     rw [←hval];have h1:N*1≤N*(10*f'):=Nat.mul_le_mul_left _ (by omega)
     omega))
    have Snf:=ZZ (hbd.out (pos+1) (N*(10*f')) (by rw [←hval];omega));have HVAL:=ZZ hval;have HF:=ZZ hf;clear hval hf;go_wp2_with fail;refine(word_c' (10*f') _ (by push_cast;rfl) Fl.out _).mono ?_;rintro e w1 ⟨v1,rfl,h1,k1⟩;have G1:=ZZ h1;have K1:=ZZ k1;clear h1 k1 hnx;go_wp2_with fail;refine(mul_c _ _ _ _ _ (HN2.out.mono K1.out) G1.out Sn.out (sm_small _ (Nat.lt_of_lt_of_le Fl.out (by rw [B64_eq];decide)))).mono ?_;rintro e w2 ⟨v2,rfl,h2,k2⟩;have G2:=ZZ h2;have K2:=ZZ k2;clear h2 k2;go_wp2_with fail;refine(word_c' (10*p'+d) _ (by push_cast;rfl) Pl.out _).mono ?_;rintro e w3 ⟨v3,rfl,h3,k3⟩;have G3:=ZZ h3;have K3:=ZZ k3;clear h3 k3;go_wp2_with fail;refine(add_c _ _ _ _ _ (G2.out.mono K3.out) G3.out Snf.out (sm_small _ (Nat.lt_of_lt_of_le Pl.out (by rw [B64_eq];decide)))).mono ?_;rintro e w4 ⟨v4,rfl,h4,k4⟩;have G4:=ZZ h4;have K4:=ZZ (am K1.out (am K2.out (am K3.out k4)));clear h4 k4;go_wp2_with fail
    go_roundg (gk - 1)
    case measure=>have:=HZ0.out;omega
    case rel=>exact⟨pos+1,_,0,1,by have:=HPOS.out;have:=HZ0.out;omega,rfl,rfl,G4.out,by rw [←HVAL.out];omega,⟨by omega,0,by omega,rfl⟩,(K4.out.block _ (lt_of_block HIT2.out)).trans HIT2.out,am HEX2.out K4.out⟩
   ·have t1:(10*(f':Int) == 1000000000000000000)=false:=by rw [beq_eq_false_iff_ne];omega
    have HF:=ZZ hf;clear hf;go_wp2_with fail
    go_roundg (gk - 1)
    case measure=>have:=HZ0.out;omega
    case rel=>exact⟨pos+1,N,10*p'+d,10*f',by have:=HPOS.out;have:=HZ0.out;omega,by push_cast;rfl,by push_cast;rfl,HN2.out,by
     rw [HST.out,←HV.out]
     have:N*(10*f')=10*(N*f'):=by rw [Nat.mul_left_comm]
     omega,by
     rcases HNEXT.out with h|h
     ·exact absurd h HF.out
     ·exact h,HIT2.out,HEX2.out⟩
end Go.Proofs.YtjamgccgoapbeaaGreatDoor
