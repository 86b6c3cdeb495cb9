/- Plain: the laws of a ring for polynomials as lists of numbers, by their coefficients. Numbers: rounding. Printed by gen_nh.py. -/
import Derived.Test.YtjamgccgoapbeaaGreatDoorGRat
import Derived.Test.YtjamgccgoapbeaaGreatDoorGNg
set_option linter.unusedVariables false
set_option maxRecDepth 100000
set_option maxHeartbeats 64000000
namespace Go.Proofs.YtjamgccgoapbeaaGreatDoor
def cnv:(Nat→Rat)→(Nat→Rat)→Nat→Rat
 | f,g,0=>f 0*g 0
 | f,g,i+1=>f 0*g (i+1)+cnv (fun k=>f (k+1)) g i
theorem cnv_succ (f g:Nat→Rat) (i:Nat):cnv f g (i+1)=f 0*g (i+1)+cnv (fun k=>f (k+1)) g i:=rfl
theorem cnv_add_l (f g h:Nat→Rat) (i:Nat):cnv (fun k=>f k+g k) h i=cnv f h i+cnv g h i:=by
 induction i generalizing f g with
 | zero=>show (f 0+g 0)*h 0=f 0*h 0+g 0*h 0;grind
 | succ i ih=>rw [cnv_succ,cnv_succ,cnv_succ,ih (fun k=>f (k+1)) (fun k=>g (k+1))];grind
theorem cnv_mul_l (c:Rat) (f g:Nat→Rat) (i:Nat):cnv (fun k=>c*f k) g i=c*cnv f g i:=by
 induction i generalizing f with
 | zero=>show c*f 0*g 0=c*(f 0*g 0);grind
 | succ i ih=>rw [cnv_succ,cnv_succ,ih (fun k=>f (k+1))];grind
theorem cnv_last (f g:Nat→Rat) (i:Nat):cnv f g (i+1)=cnv f (fun k=>g (k+1)) i+f (i+1)*g 0:=by
 induction i generalizing f with
 | zero=>show f 0*g 1+f 1*g 0=f 0*g 1+f 1*g 0;rfl
 | succ i ih=>rw [cnv_succ,ih,cnv_succ f (fun k=>g (k+1)) i];grind
theorem cnv_comm (f g:Nat→Rat) (i:Nat):cnv f g i=cnv g f i:=by
 induction i generalizing f with
 | zero=>show f 0*g 0=g 0*f 0;grind
 | succ i ih=>rw [cnv_succ,cnv_last g f,ih];grind
theorem cnv_assoc (f g h:Nat→Rat) (i:Nat):cnv (cnv f g) h i=cnv f (cnv g h) i:=by
 induction i generalizing f with
 | zero=>show f 0*g 0*h 0=f 0*(g 0*h 0);grind
 | succ i ih=>
  rw [cnv_succ,cnv_succ f];have e:(fun k=>cnv f g (k+1))=fun k=>f 0*g (k+1)+cnv (fun k=>f (k+1)) g k:=rfl;rw [e,cnv_add_l (fun k=>f 0*g (k+1)) (cnv (fun k=>f (k+1)) g),cnv_mul_l (f 0) (fun k=>g (k+1)),ih,cnv_succ g]
  show f 0*g 0*h (i+1)+_=_
  grind
def dco (f:Nat→Rat) (k:Nat):Rat:=f (k+1)*((k+1:Nat):Rat)
theorem cnv_deriv (f g:Nat→Rat) (i:Nat):dco (cnv f g) i=cnv (dco f) g i+cnv f (dco g) i:=by
 induction i generalizing f with
 | zero=>
  show (f 0*g 1+f 1*g 0)*((1:Nat):Rat)=f 1*((1:Nat):Rat)*g 0+f 0*(g 1*((1:Nat):Rat))
  grind
 | succ i ih=>
  have h1:=ih (fun k=>f (k+1))
  have h2:cnv (fun k=>dco f (k+1)) g i=cnv (dco fun k=>f (k+1)) g i+cnv (fun k=>f (k+1+1)) g i:=by
   rw [←cnv_add_l]
   have e:(fun k=>dco f (k+1))=fun k=>dco (fun k=>f (k+1)) k+f (k+1+1):=by
    funext k
    show f (k+1+1)*((k+1+1:Nat):Rat)=f (k+1+1)*((k+1:Nat):Rat)+f (k+1+1)
    rw [show ((k+1+1:Nat):Rat)=((k+1:Nat):Rat)+1 from Rat.natCast_add _ _]
    grind
   rw [e]
  rw [cnv_succ (dco f) g i,cnv_succ f (dco g) i,h2]
  show cnv f g (i+1+1)*((i+1+1:Nat):Rat)=_
  rw [cnv_succ f g (i+1),show ((i+1+1:Nat):Rat)=((i+1:Nat):Rat)+1 from Rat.natCast_add _ _];have h3:dco (cnv (fun k=>f (k+1)) g) i=cnv (fun k=>f (k+1)) g (i+1)*((i+1:Nat):Rat):=rfl;have h4:cnv (fun k=>f (k+1)) g (i+1)=f 1*g (i+1)+cnv (fun k=>f (k+1+1)) g i:=rfl;have h5:dco f 0=f 1:=by show f 1*((1:Nat):Rat)=f 1;grind
  have h6:dco g (i+1)=g (i+1+1)*(((i+1:Nat):Rat)+1):=by
   show g (i+1+1)*((i+1+1:Nat):Rat)=_
   rw [show ((i+1+1:Nat):Rat)=((i+1:Nat):Rat)+1 from Rat.natCast_add _ _]
  rw [h3] at h1
  grind
def co (p:List Rat) (i:Nat):Rat:=p[i]?.getD 0
theorem co_succ (a:Rat) (p:List Rat) (i:Nat):co (a :: p) (i+1)=co p i:=rfl
theorem co_ge {p:List Rat} {i:Nat} (h:p.length≤i):co p i=0:=by unfold co;rw [List.getElem?_eq_none h];rfl
def trimF:List Rat→List Rat
 | []=>[]
 | a :: p=>if trimF p=[] then (if a=0 then [] else [a]) else a :: trimF p
theorem trim_zero {p:List Rat} (h:∀i,co p i=0):trimF p=[]:=by
 induction p with
 | nil=>rfl
 | cons a p ih=>
  have h0:a=0:=h 0
  show (if trimF p=[] then (if a=0 then [] else [a]) else a :: trimF p)=[]
  rw [ih (fun i=>h (i+1)),if_pos rfl,if_pos h0]
theorem co_trim (p:List Rat):∀i,co (trimF p) i=co p i:=by
 induction p with
 | nil=>exact fun _=>rfl
 | cons a p ih=>
  intro i
  show co (if trimF p=[] then (if a=0 then [] else [a]) else a :: trimF p) i=_
  by_cases h:trimF p=[]
  ·rw [if_pos h]
   have hz:∀j,co p j=0:=fun j=>by rw [←ih j,h];rfl
   by_cases ha:a=0
   ·rw [if_pos ha,ha]
    cases i with
    | zero=>rfl
    | succ i=>rw [co_succ,hz];rfl
   ·rw [if_neg ha]
    cases i with
    | zero=>rfl
    | succ i=>rw [co_succ,co_succ,hz];rfl
  ·rw [if_neg h]
   cases i with
   | zero=>rfl
   | succ i=>rw [co_succ,co_succ,ih]
theorem trim_co {p q:List Rat} (h:∀i,co p i=co q i):trimF p=trimF q:=by
 induction p generalizing q with
 | nil=>exact(trim_zero fun i=>(h i).symm).symm
 | cons a p ih=>
  cases q with
  | nil=>exact trim_zero h
  | cons b q=>
   have h0:a=b:=h 0;have h1:=ih (q:=q) (fun i=>h (i+1))
   show (if trimF p=[] then (if a=0 then [] else [a]) else a :: trimF p)=(if trimF q=[] then (if b=0 then [] else [b]) else b :: trimF q)
   rw [h0,h1]
theorem trim_trim (p:List Rat):trimF (trimF p)=trimF p:=trim_co (co_trim p)
theorem trim_snoc_zero (p:List Rat):trimF (p ++ [0])=trimF p:=by
 induction p with
 | nil=>simp [trimF]
 | cons a p ih=>show (if trimF (p ++ [0])=[] then (if a=0 then [] else [a]) else a :: trimF (p ++ [0]))=_;rw [ih];rfl
theorem trim_snoc {p:List Rat} {q:Rat} (h:q≠0):trimF (p ++ [q])=p ++ [q]:=by
 induction p with
 | nil=>simp [trimF,h]
 | cons a p ih=>
  show (if trimF (p ++ [q])=[] then (if a=0 then [] else [a]) else a :: trimF (p ++ [q]))=_
  rw [ih,if_neg (by simp)]
  rfl
theorem trim_last {p:List Rat} (h:trimF p≠[]):co p ((trimF p).length - 1)≠0:=by
 induction p with
 | nil=>exact absurd rfl h
 | cons a p ih=>
  have e:trimF (a :: p)=if trimF p=[] then (if a=0 then [] else [a]) else a :: trimF p:=rfl
  by_cases hp:trimF p=[]
  ·rw [e,if_pos hp] at h ⊢
   by_cases ha:a=0
   ·rw [if_pos ha] at h;exact absurd rfl h
   ·rw [if_neg ha];exact ha
  ·rw [e,if_neg hp] at h ⊢
   have h1:=ih hp;obtain⟨n,hn⟩:∃n,(trimF p).length=n+1:=⟨(trimF p).length - 1,by have:=List.length_pos_iff.2 hp;omega⟩;rw [hn] at h1
   show co (a :: p) ((a :: trimF p).length - 1)≠0
   rw [List.length_cons,hn];exact h1
def zipA:List Rat→List Rat→List Rat
 | [],q=>q
 | a :: p,[]=>a :: p
 | a :: p,b :: q=>(a+b) :: zipA p q
theorem co_zip (p q:List Rat):∀i,co (zipA p q) i=co p i+co q i:=by
 induction p generalizing q with
 | nil=>intro i;show co q i=0+co q i;grind
 | cons a p ih=>
  intro i
  cases q with
  | nil=>show co (a :: p) i=co (a :: p) i+0;grind
  | cons b q=>
   cases i with
   | zero=>rfl
   | succ i=>exact ih q i
theorem co_map (x:Rat) (p:List Rat):∀i,co (p.map (·*x)) i=co p i*x:=by
 induction p with
 | nil=>intro i;show (0:Rat)=0*x;grind
 | cons a p ih=>
  intro i
  cases i with
  | zero=>rfl
  | succ i=>exact ih i
def mulR:List Rat→List Rat→List Rat
 | [],_=>[]
 | a :: p,q=>zipA (q.map (·*a)) (0 :: mulR p q)
theorem cnv_zero_l (g:Nat→Rat) (i:Nat):cnv (fun _=>0) g i=0:=by
 induction i with
 | zero=>show 0*g 0=0;grind
 | succ i ih=>rw [cnv_succ];show 0*g (i+1)+cnv (fun _=>0) g i=0;rw [ih];grind
theorem co_mulR (p q:List Rat):∀i,co (mulR p q) i=cnv (co p) (co q) i:=by
 induction p with
 | nil=>intro i;exact(cnv_zero_l _ i).symm
 | cons a p ih=>
  intro i
  show co (zipA (q.map (·*a)) (0 :: mulR p q)) i=_
  rw [co_zip,co_map]
  cases i with
  | zero=>show co q 0*a+0=a*co q 0;grind
  | succ i=>
   show co q (i+1)*a+co (mulR p q) i=a*co q (i+1)+cnv (co p) (co q) i
   rw [ih];grind
def evR (p:List Rat) (x:Rat):Rat:=match p with|[]=>0|a :: p=>evR p x*x+a
theorem ev_zip (p q:List Rat) (x:Rat):evR (zipA p q) x=evR p x+evR q x:=by
 induction p generalizing q with
 | nil=>show evR q x=0+evR q x;grind
 | cons a p ih=>
  cases q with
  | nil=>show evR (a :: p) x=evR (a :: p) x+0;grind
  | cons b q=>show evR (zipA p q) x*x+(a+b)=evR p x*x+a+(evR q x*x+b);rw [ih];grind
theorem ev_map (c:Rat) (p:List Rat) (x:Rat):evR (p.map (·*c)) x=evR p x*c:=by
 induction p with
 | nil=>show (0:Rat)=0*c;grind
 | cons a p ih=>show evR (p.map (·*c)) x*x+a*c=(evR p x*x+a)*c;rw [ih];grind
theorem ev_mul (p q:List Rat) (x:Rat):evR (mulR p q) x=evR p x*evR q x:=by
 induction p with
 | nil=>show (0:Rat)=0*evR q x;grind
 | cons a p ih=>
  show evR (zipA (q.map (·*a)) (0 :: mulR p q)) x=(evR p x*x+a)*evR q x
  rw [ev_zip,ev_map]
  show evR q x*a+(evR (mulR p q) x*x+0)=_
  rw [ih];grind
theorem ev_zero {p:List Rat} (h:∀i,co p i=0) (x:Rat):evR p x=0:=by
 induction p with
 | nil=>rfl
 | cons a p ih=>
  have h0:a=0:=h 0
  show evR p x*x+a=0
  rw [ih (fun i=>h (i+1)),h0];grind
theorem ev_co {p q:List Rat} (h:∀i,co p i=co q i) (x:Rat):evR p x=evR q x:=by
 induction p generalizing q with
 | nil=>exact(ev_zero (fun i=>(h i).symm) x).symm
 | cons a p ih=>
  cases q with
  | nil=>exact ev_zero h x
  | cons b q=>
   have h0:a=b:=h 0
   show evR p x*x+a=evR q x*x+b
   rw [ih (q:=q) (fun i=>h (i+1)),h0]
theorem ev_trim (p:List Rat) (x:Rat):evR (trimF p) x=evR p x:=ev_co (co_trim p) x
end Go.Proofs.YtjamgccgoapbeaaGreatDoor
set_option linter.unusedVariables false
set_option maxRecDepth 100000
set_option maxHeartbeats 64000000
namespace Go.Proofs.YtjamgccgoapbeaaGreatDoor
open Go.RowKit
theorem up_c (va:Value) (n k:Nat) (w:World) (ha:Wd w va n) (sa:Sm n) (hk:k≤70368744177664):Calls Tryz.prog 148 #[va,.int .i64 k] w fun e w'=>∃v,e=.returned v∧Wd w' v (n*2 ^ k)∧Ext w w':=by
 refine(up_r va n k w ha sa hk).mono ?_;rintro e w' ⟨⟨r,rfl,h1,h2,h3,h4⟩,h5⟩;exact⟨_,rfl,by rw [←h4];exact cut_w h2 h3.cl (by omega),h5⟩
def shQ (x:Rat) (k:Int):Rat:=if k<0 then rat (decide (x.num<0)) x.num.natAbs (x.den*2 ^ k.natAbs) else rat (decide (x.num<0)) (x.num.natAbs*2 ^ k.natAbs) x.den
theorem lt_shift {n B k:Nat} (h:n<2 ^ B):n*2 ^ k<2 ^ (B+k):=by
 rw [Nat.pow_add];exact Nat.mul_lt_mul_of_pos_right h (Nat.pow_pos (by decide))
theorem Bq.sh {B:Nat} {x:Rat} {k:Int} (h:Bq B x):Bq (B+k.natAbs) (shQ x k):=by
 unfold shQ;have hp:0<x.den:=x.den_pos
 split
 ·exact bq_rat (lt_mono h.1 (by omega)) (lt_shift h.2) (Nat.ne_of_gt (Nat.mul_pos hp (Nat.pow_pos (by decide))))
 ·exact bq_rat (lt_shift h.1) (lt_mono h.2 (by omega)) (Nat.ne_of_gt hp)
theorem shifted_up (M:Nat) (hM:M≤1099511627776) (j:Nat) (hj:j≤1099511627776) (vx:Value) (x:Rat) (w:World) (hx:Nm w vx x) (bx:Bq M x):Calls Tryz.prog 118 #[vx,.int .i64 j] w fun e w'=>∃v,e=.returned v∧Nm w' v (shQ x j)∧Ext w w':=by
 have S1:=ZZ (sm_of_lt bx.1 (by omega));have S2:=ZZ (sm_of_lt bx.2 (by omega));have S3:=ZZ (sm_of_lt (lt_shift (k:=j) bx.1) (by omega));have D0:=ZZ x.den_pos;have HJ:=ZZ hj;have q1:(0:Int)≤(j:Int):=by omega
 have q2:¬(j:Int)<0:=by omega
 clear hj bx hM;obtain⟨A,k,ca,B,l,cb,rfl,hxn,hxd,hkx,hlx⟩:=hx.form;have Hx:=ZZ hx;have Hxn:=ZZ hxn;have Hkx:=ZZ hkx;have Hlx:=ZZ hlx;clear hx hxn hxd hkx hlx;generalize hbx:decide (x.num<0)=b1 at *;have Hbx:=ZZ hbx;clear hbx;obtain⟨hS,hZ,hw1,hw2,hsz,hsz1⟩:=setup1 w (.bool b1) (.slice A k ca) (.slice B l cb);have HS:=ZZ hS;have HZ:=ZZ hZ;have HW1:=ZZ hw1;have HW2:=ZZ hw2;have Hsz1:=ZZ hsz1;clear hS hZ hw1 hw2 hsz hsz1
 go_enter Tryz.func118,Tryz.ntmps118
 go_wp2_with fail;generalize World.alloc (World.alloc w (.cells #[.bool b1,.slice A k ca,.slice B l cb] _)) _=W2 at *
 generalize World.alloc w (.cells #[.bool b1,.slice A k ca,.slice B l cb] _)=W1 at *;generalize hg0:w.heap.size=g0 at *;have Hsz:=ZZ (show w.heap.size≤g0+1 by omega);clear hg0;have hww:=ZZ (al HW1.out HW2.out);have hx0:=ZZ (ae W2);have hS0:=HS.out _ (al HW2.out hx0.out);have e1:=ZZ (ac W2);have hx1:=ZZ (al hx0.out e1.out)
 go_region_held3 (fun W=>W.cell? ⟨g0,0,none⟩=some (.bool b1)∧W.cell? ⟨g0,1,none⟩=some (.slice A k ca)∧W.cell? ⟨g0,2,none⟩=some (.slice B l cb))
  (first
   | exact HS.out _ (am (al HW2.out hx4.out) Hsz1.out _ _ _)
   | exact HS.out _ (al HW2.out hx4.out)
   | exact HS.out _ (al HW2.out hx3.out)
   | exact HS.out _ (al HW2.out hx2.out)
   | exact HS.out _ (al HW2.out hx1.out))
  (first
   |(have _q:=hx3
     go_at_call 57
     refine(reduced_c _ _ _ _ _ _ (H2.out.mono e3.out) H3.out S3.out S2.out D0.out).mono ?_;clear _q;rintro e w3 ⟨vv,rfl,h4,k4⟩;obtain⟨b3,P3,p3,c3,Q3,q3,d3,rfl⟩:=h4.form2;have H4:=ZZ h4;clear h4;have e4:=ZZ k4;have hx4:=ZZ (al hx3.out k4);clear k4;have hz:=HZ.out _ hx4.out;obtain⟨z0,z1,z2,f0,f1,f2⟩:=aj hz;have Hz:=ZZ hz;clear hz)
   |(have _q:=hx2
     go_at_call 74
     refine(under_c _ _ _ (Hx.out.mono (al hww.out hx2.out))).mono ?_;clear _q;rintro e w2 ⟨vv,rfl,h3,k3⟩;obtain⟨P2,p2,c2,rfl⟩:=h3.form';have H3:=ZZ h3;clear h3;have e3:=ZZ k3;have hx3:=ZZ (al hx2.out k3);clear k3)
   |(have _q:=hx1
     go_at_call 148
     refine(up_c _ _ _ _ (Hxn.out.mono (al hww.out hx1.out)) S1.out (Nat.le_trans HJ.out (by decide))).mono ?_;clear _q;rintro e w1 ⟨vv,rfl,h2,k2⟩;obtain⟨P1,p1,c1,rfl⟩:=h2.form';have H2:=ZZ h2;clear h2;have e2:=ZZ k2;have hx2:=ZZ (al hx1.out k2);clear k2))
 go_wp2_with fail;refine bodyPost_ret (v:=.agg #[.bool b3,.slice P3 p3 c3,.slice Q3 q3 d3]) (by simp [results,Tryz.f118];go_simp) rfl ?_
 refine⟨_,rfl,?_,am (al hww.out hx4.out) Hsz.out _ _ _⟩
 have hr:rat b1 (x.num.natAbs*2 ^ j) x.den=shQ x (j:Int):=by
  unfold shQ;rw [if_neg (by omega),Hbx.out];rfl
 rw [←hr];exact H4.out.put3 Hz.out
theorem shifted_down (M:Nat) (hM:M≤1099511627776) (j:Nat) (h0:0<j) (hj:j≤1099511627776) (vx:Value) (x:Rat) (w:World) (hx:Nm w vx x) (bx:Bq M x):Calls Tryz.prog 118 #[vx,.int .i64 (-(j:Int))] w fun e w'=>∃v,e=.returned v∧Nm w' v (shQ x (-(j:Int)))∧Ext w w':=by
 have S1:=ZZ (sm_of_lt bx.1 (by omega));have S2:=ZZ (sm_of_lt bx.2 (by omega));have S3:=ZZ (sm_of_lt (lt_shift (k:=j) bx.2) (by omega));have D0:=ZZ (Nat.mul_pos x.den_pos (Nat.pow_pos (n:=j) (show 0<2 by decide)));have HJ:=ZZ hj;have HP:=ZZ h0;have q2:-(j:Int)<0:=by omega
 have q3:decide (-(j:Int)<0)=true:=by rw [decide_eq_true_eq];omega
 have q4:IntKind.i64.wrap (j:Int)=(j:Int):=IntWalk.i64_in _ (by omega);have q5:IntKind.i64.wrap (- -(j:Int))=(j:Int):=IntWalk.i64_in _ (by omega) |>.trans (by omega)
 clear hj bx hM h0;obtain⟨A,k,ca,B,l,cb,rfl,hxn,hxd,hkx,hlx⟩:=hx.form;have Hx:=ZZ hx;have Hxn:=ZZ hxn;have Hkx:=ZZ hkx;have Hlx:=ZZ hlx;clear hx hxn hxd hkx hlx;generalize hbx:decide (x.num<0)=b1 at *;have Hbx:=ZZ hbx;clear hbx;obtain⟨hS,hZ,hw1,hw2,hsz,hsz1⟩:=setup1 w (.bool b1) (.slice A k ca) (.slice B l cb);have HS:=ZZ hS;have HZ:=ZZ hZ;have HW1:=ZZ hw1;have HW2:=ZZ hw2;have Hsz1:=ZZ hsz1;clear hS hZ hw1 hw2 hsz hsz1
 go_enter Tryz.func118,Tryz.ntmps118
 go_wp2_with fail;generalize World.alloc (World.alloc w (.cells #[.bool b1,.slice A k ca,.slice B l cb] _)) _=W2 at *
 generalize World.alloc w (.cells #[.bool b1,.slice A k ca,.slice B l cb] _)=W1 at *;generalize hg0:w.heap.size=g0 at *;have Hsz:=ZZ (show w.heap.size≤g0+1 by omega);clear hg0;have hww:=ZZ (al HW1.out HW2.out);have hx0:=ZZ (ae W2);have hS0:=HS.out _ (al HW2.out hx0.out);have e1:=ZZ (ac W2);have hx1:=ZZ (al hx0.out e1.out)
 go_region_held3 (fun W=>W.cell? ⟨g0,0,none⟩=some (.bool b1)∧W.cell? ⟨g0,1,none⟩=some (.slice A k ca)∧W.cell? ⟨g0,2,none⟩=some (.slice B l cb))
  (first
   | exact HS.out _ (am (al HW2.out hx4.out) Hsz1.out _ _ _)
   | exact HS.out _ (al HW2.out hx4.out)
   | exact HS.out _ (al HW2.out hx3.out)
   | exact HS.out _ (al HW2.out hx2.out)
   | exact HS.out _ (al HW2.out hx1.out))
  (first
   |(have _q:=hx3
     go_at_call 57
     refine(reduced_c _ _ _ _ _ _ (Hxn.out.mono (al hww.out hx3.out)) H3.out S1.out S3.out D0.out).mono ?_;clear _q;rintro e w3 ⟨vv,rfl,h4,k4⟩;obtain⟨b3,P3,p3,c3,Q3,q3,d3,rfl⟩:=h4.form2;have H4:=ZZ h4;clear h4;have e4:=ZZ k4;have hx4:=ZZ (al hx3.out k4);clear k4;have hz:=HZ.out _ hx4.out;obtain⟨z0,z1,z2,f0,f1,f2⟩:=aj hz;have Hz:=ZZ hz;clear hz)
   |(have _q:=hx2
     go_at_call 148
     refine(up_c _ _ _ _ H2.out S2.out (Nat.le_trans HJ.out (by decide))).mono ?_;clear _q;rintro e w2 ⟨vv,rfl,h3,k3⟩;obtain⟨P2,p2,c2,rfl⟩:=h3.form';have H3:=ZZ h3;clear h3;have e3:=ZZ k3;have hx3:=ZZ (al hx2.out k3);clear k3)
   |(have _q:=hx1
     go_at_call 74
     refine(under_c _ _ _ (Hx.out.mono (al hww.out hx1.out))).mono ?_;clear _q;rintro e w1 ⟨vv,rfl,h2,k2⟩;obtain⟨P1,p1,c1,rfl⟩:=h2.form';have H2:=ZZ h2;clear h2;have e2:=ZZ k2;have hx2:=ZZ (al hx1.out k2);clear k2))
 go_wp2_with fail;refine bodyPost_ret (v:=.agg #[.bool b3,.slice P3 p3 c3,.slice Q3 q3 d3]) (by simp [results,Tryz.f118];go_simp) rfl ?_
 refine⟨_,rfl,?_,am (al hww.out hx4.out) Hsz.out _ _ _⟩
 have hr:rat b1 x.num.natAbs (x.den*2 ^ j)=shQ x (-(j:Int)):=by
  unfold shQ;rw [if_pos (by have:=HP.out;omega),Hbx.out,Int.natAbs_neg];rfl
 rw [←hr];exact H4.out.put3 Hz.out
theorem shifted_q (M:Nat) (hM:M≤1099511627776) (z:Int) (hz:z.natAbs≤1099511627776) (vx:Value) (x:Rat) (w:World) (hx:Nm w vx x) (bx:Bq M x):Calls Tryz.prog 118 #[vx,.int .i64 z] w fun e w'=>∃v,e=.returned v∧Nm w' v (shQ x z)∧Ext w w':=by
 rcases(show z<0∨0≤z by omega) with h|h
 ·obtain⟨k,rfl⟩:∃k:Nat,z = -(k:Int):=⟨z.natAbs,by omega⟩
  exact shifted_down M hM k (by omega) (by omega) vx x w hx bx
 ·obtain⟨k,rfl⟩:∃k:Nat,z=(k:Int):=⟨z.toNat,by omega⟩
  exact shifted_up M hM k (by omega) vx x w hx bx
end Go.Proofs.YtjamgccgoapbeaaGreatDoor
