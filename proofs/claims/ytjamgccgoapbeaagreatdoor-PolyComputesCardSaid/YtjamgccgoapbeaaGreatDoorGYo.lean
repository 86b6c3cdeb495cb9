/- Spans of the reference: their cells, their ends in order. Printed by gen_sf.py. Routh's counts. Spans: the middle, the width. -/
import Derived.Test.YtjamgccgoapbeaaGreatDoorGYl
import Derived.Test.YtjamgccgoapbeaaGreatDoorGVx
import Derived.Deep.RegionHeld3
import Derived.Deep.DeepCutAuto
import Derived.Test.YtjamgccgoapbeaaGreatDoorGYm
import Derived.Test.YtjamgccgoapbeaaGreatDoorGYa
set_option linter.unusedVariables false
set_option maxRecDepth 100000
set_option maxHeartbeats 64000000
namespace Go.Proofs.YtjamgccgoapbeaaGreatDoor
open Go.RowKit
theorem al {W:World} {x0 x1 x2 y0 y1 y2:Value} {lo hi:Rat}:SpR W (.agg #[x0,x1,x2,y0,y1,y2]) lo hi↔Nr W (.agg #[x0,x1,x2]) lo∧Nr W (.agg #[y0,y1,y2]) hi:=by
 constructor
 ·rintro⟨a,b,c,d,e,f,h,h1,h2⟩
  simp only [Value.agg.injEq,Array.mk.injEq,List.cons.injEq,and_true] at h
  obtain⟨rfl,rfl,rfl,rfl,rfl,rfl⟩:=h;exact⟨h1,h2⟩
 ·exact fun h=>⟨_,_,_,_,_,_,rfl,h.1,h.2⟩
theorem SpR.form2 {w:World} {v:Value} {lo hi:Rat} (h:SpR w v lo hi):∃s1 A1 k1 ca1 B1 l1 cb1 s2 A2 k2 ca2 B2 l2 cb2,v=.agg #[.int .i64 s1,.slice A1 k1 ca1,.slice B1 l1 cb1,.int .i64 s2,.slice A2 k2 ca2,.slice B2 l2 cb2]:=by
 obtain⟨x0,x1,x2,y0,y1,y2,rfl,h1,h2⟩:=h;obtain⟨s1,A1,k1,ca1,B1,l1,cb1,e1,-⟩:=h1.form;obtain⟨s2,A2,k2,ca2,B2,l2,cb2,e2,-⟩:=h2.form
 simp only [Value.agg.injEq,Array.mk.injEq,List.cons.injEq,and_true] at e1 e2
 obtain⟨rfl,rfl,rfl⟩:=e1;obtain⟨rfl,rfl,rfl⟩:=e2;exact⟨s1,A1,k1,ca1,B1,l1,cb1,s2,A2,k2,ca2,B2,l2,cb2,rfl⟩
theorem c6_of {W:World} {g:Nat} {a b c d e f:Value} {T:TypeId} (h:W.heap[g]?=some (.cells #[a,b,c,d,e,f] T (0,0))):W.cell? ⟨g,0,none⟩=some (a)∧W.cell? ⟨g,1,none⟩=some (b)∧W.cell? ⟨g,2,none⟩=some (c)∧W.cell? ⟨g,3,none⟩=some (d)∧W.cell? ⟨g,4,none⟩=some (e)∧W.cell? ⟨g,5,none⟩=some (f):=by
 obtain⟨p0,p1,p2,p3,p4,p5,-⟩:=ai h;exact⟨p0,p1,p2,p3,p4,p5⟩
theorem c6_put {W:World} {g k:Nat} {a b c d e f:Value} {T:TypeId} (h:W.heap[g]?=some (.cells #[a,b,c,d,e,f] T (0,0))) (hne:g≠k) (x0 x1 x2 y0 y1 y2:Value):((((((W.setCell ⟨k,0,none⟩ x0).setCell ⟨k,1,none⟩ x1).setCell ⟨k,2,none⟩ x2).setCell ⟨k,3,none⟩ y0).setCell ⟨k,4,none⟩ y1).setCell ⟨k,5,none⟩ y2).cell? ⟨g,0,none⟩=some (a)∧((((((W.setCell ⟨k,0,none⟩ x0).setCell ⟨k,1,none⟩ x1).setCell ⟨k,2,none⟩ x2).setCell ⟨k,3,none⟩ y0).setCell ⟨k,4,none⟩ y1).setCell ⟨k,5,none⟩ y2).cell? ⟨g,1,none⟩=some (b)∧((((((W.setCell ⟨k,0,none⟩ x0).setCell ⟨k,1,none⟩ x1).setCell ⟨k,2,none⟩ x2).setCell ⟨k,3,none⟩ y0).setCell ⟨k,4,none⟩ y1).setCell ⟨k,5,none⟩ y2).cell? ⟨g,2,none⟩=some (c)∧((((((W.setCell ⟨k,0,none⟩ x0).setCell ⟨k,1,none⟩ x1).setCell ⟨k,2,none⟩ x2).setCell ⟨k,3,none⟩ y0).setCell ⟨k,4,none⟩ y1).setCell ⟨k,5,none⟩ y2).cell? ⟨g,3,none⟩=some (d)∧((((((W.setCell ⟨k,0,none⟩ x0).setCell ⟨k,1,none⟩ x1).setCell ⟨k,2,none⟩ x2).setCell ⟨k,3,none⟩ y0).setCell ⟨k,4,none⟩ y1).setCell ⟨k,5,none⟩ y2).cell? ⟨g,4,none⟩=some (e)∧((((((W.setCell ⟨k,0,none⟩ x0).setCell ⟨k,1,none⟩ x1).setCell ⟨k,2,none⟩ x2).setCell ⟨k,3,none⟩ y0).setCell ⟨k,4,none⟩ y1).setCell ⟨k,5,none⟩ y2).cell? ⟨g,5,none⟩=some (f):=
 c6_of (ah h hne x0 x1 x2 y0 y1 y2)
theorem setG2 (w:World) (o p:Obj):Ext w ((w.alloc o).alloc p)∧((w.alloc o).alloc p).heap[w.heap.size]?=some o∧((w.alloc o).alloc p).heap[w.heap.size+1]?=some p:=by
 refine⟨ext2 _ _ _,((ab (w.alloc o) p).block _ (lt_of_block (heap_alloc_new w o))).trans (heap_alloc_new w o),?_⟩;rw [←aC w o];exact heap_alloc_new _ _
theorem setG3 (w:World) (o p q:Obj):Ext w (((w.alloc o).alloc p).alloc q)∧(((w.alloc o).alloc p).alloc q).heap[w.heap.size]?=some o∧(((w.alloc o).alloc p).alloc q).heap[w.heap.size+1]?=some p∧(((w.alloc o).alloc p).alloc q).heap[w.heap.size+1+1]?=some q:=by
 obtain⟨h1,h2,h3⟩:=setG2 w o p;have k:=ab ((w.alloc o).alloc p) q;refine⟨am h1 k,(k.block _ (lt_of_block h2)).trans h2,(k.block _ (lt_of_block h3)).trans h3,?_⟩;rw [←aC w o,←aC (w.alloc o) p];exact heap_alloc_new _ _
theorem ao {W:World} {v:Value} {q:Rat} {g:Nat} (h:Nr W v q) (hz:W.heap[g]?=some (.cells #[.int .i64 0,.slice none 0 0,.slice none 0 0,.int .i64 0,.slice none 0 0,.slice none 0 0] 64 (0,0))) (a b c d e f:Value):Nr (put6 W g a b c d e f) v q:=
 h.keep (nodigR hz) (put6_keep W g a b c d e f)
theorem ends_c (M:Nat) (hM:M≤134217728) (v:Value) (lo hi:Rat) (w:World) (h:SpR w v lo hi) (b1:Bq M lo) (b2:Bq M hi):Calls Tryz.prog 142 #[v] w fun e w'=>∃v',e=.returned v'∧(∀W,SpR W v lo hi→SpR W v' (au lo hi).1 (au lo hi).2)∧Ext w w':=by
 obtain⟨s5,A5,k5,ca5,B5,l5,cb5,s6,A6,k6,ca6,B6,l6,cb6,rfl⟩:=h.form2;obtain⟨hn1,hn2⟩:=al.1 h;have H1:=ZZ hn1;have H2:=ZZ hn2;have B1:=ZZ b1;have B2:=ZZ b2;have HM:=ZZ hM;obtain⟨hw0,hra,hrz⟩:=setG2 w (.cells #[.int .i64 s5,.slice A5 k5 ca5,.slice B5 l5 cb5,.int .i64 s6,.slice A6 k6 ca6,.slice B6 l6 cb6] 64) (.cells #[.int .i64 0,.slice none 0 0,.slice none 0 0,.int .i64 0,.slice none 0 0,.slice none 0 0] 64);have hww:=ZZ hw0;have RA:=ZZ hra;have RZ:=ZZ hrz;clear h hn1 hn2 b1 b2 hM hw0 hra hrz
 go_enter Tryz.func142,Tryz.ntmps142
 go_upto_region 1 with (fail)
 generalize World.alloc (World.alloc w (.cells #[.int .i64 s5,.slice A5 k5 ca5,.slice B5 l5 cb5,.int .i64 s6,.slice A6 k6 ca6,.slice B6 l6 cb6] _)) (.cells #[.int .i64 0,.slice none 0 0,.slice none 0 0,.int .i64 0,.slice none 0 0,.slice none 0 0] _)=W2 at *;have LT0:=ZZ (show w.heap.size≤w.heap.size+1 from Nat.le_succ _);generalize hg0:w.heap.size=g0 at *;have HG0:=ZZ hg0;clear hg0;have n01:=ZZ (show g0≠g0+1 by omega)
 have HR:=ZZ (show ∀W:World,Ext W2 W→W.heap[g0]?=some (.cells #[.int .i64 s5,.slice A5 k5 ca5,.slice B5 l5 cb5,.int .i64 s6,.slice A6 k6 ca6,.slice B6 l6 cb6] 64 (0,0))∧W.heap[g0+1]?=some (.cells #[.int .i64 0,.slice none 0 0,.slice none 0 0,.int .i64 0,.slice none 0 0,.slice none 0 0] 64 (0,0)) from fun W h=>
  ⟨(h.block _ (lt_of_block RA.out)).trans RA.out,(h.block _ (lt_of_block RZ.out)).trans RZ.out⟩)
 clear RA RZ;have e1:=ZZ (ac W2);have hx1:=e1
 go_region_held3 (fun W=>W.cell? ⟨g0,0,none⟩=some (.int .i64 s5)∧W.cell? ⟨g0,1,none⟩=some (.slice A5 k5 ca5)∧W.cell? ⟨g0,2,none⟩=some (.slice B5 l5 cb5)∧W.cell? ⟨g0,3,none⟩=some (.int .i64 s6)∧W.cell? ⟨g0,4,none⟩=some (.slice A6 k6 ca6)∧W.cell? ⟨g0,5,none⟩=some (.slice B6 l6 cb6))
  (first
   | with_reducible exact c6_of (HR.out _ hx3.out).1
   | with_reducible exact c6_of (HR.out _ hx2.out).1
   | with_reducible exact c6_of (HR.out _ hx1.out).1
   | with_reducible exact c6_put (HR.out _ hx3.out).1 n01.out _ _ _ _ _ _)
  (first
   |(have _q:=hx2
     go_at_call 174
     refine(max_v M HM.out _ _ lo hi _ (H1.out.mono (am hww.out hx2.out)) (H2.out.mono (am hww.out hx2.out)) B1.out B2.out).mono ?_;clear _q;rintro e w8 ⟨v8,rfl,h8,kk8⟩;obtain⟨s12,A12,k12,ca12,B12,l12,cb12,rfl,-⟩:=(h8 _ (H1.out.mono (am hww.out hx2.out)) (H2.out.mono (am hww.out hx2.out))).form;have H5:=ZZ h8;have hx3:=ZZ (am hx2.out kk8);clear h8 kk8;obtain⟨-,rz⟩:=HR.out w8 hx3.out;obtain⟨z0,z1,z2,z3,z4,z5,zf0,zf1,zf2,zf3,zf4,zf5⟩:=ai rz;clear rz)
   |(have _q:=hx1
     go_at_call 173
     refine(min_v M HM.out _ _ lo hi _ (H1.out.mono (am hww.out hx1.out)) (H2.out.mono (am hww.out hx1.out)) B1.out B2.out).mono ?_;clear _q;rintro e w7 ⟨v7,rfl,h7,kk7⟩;obtain⟨s11,A11,k11,ca11,B11,l11,cb11,rfl,-⟩:=(h7 _ (H1.out.mono (am hww.out hx1.out)) (H2.out.mono (am hww.out hx1.out))).form;have H4:=ZZ h7;have hx2:=ZZ (am hx1.out kk7);clear h7 kk7))
 all_goals
  go_wp2_with fail;refine bodyPost_ret (v:=.agg #[.int .i64 s11,.slice A11 k11 ca11,.slice B11 l11 cb11,.int .i64 s12,.slice A12 k12 ca12,.slice B12 l12 cb12]) (by simp [results,Tryz.f142];go_simp) rfl ?_
  refine⟨_,rfl,fun W h=>?_,af (am hww.out hx3.out) (by rw [HG0.out];exact LT0.out) _ _ _ _ _ _⟩;obtain⟨p1,p2⟩:=al.1 h;rw [←(ends_sort lo hi).1,←(ends_sort lo hi).2];exact al.2 ⟨H4.out W p1 p2,H5.out W p1 p2⟩
end Go.Proofs.YtjamgccgoapbeaaGreatDoor
set_option linter.unusedVariables false
set_option maxRecDepth 100000
set_option maxHeartbeats 64000000
namespace Go.Proofs.YtjamgccgoapbeaaGreatDoor
open Go Go.RowKit
set_option linter.unusedSimpArgs false
theorem tdiv2 (a B:Int) (h1:-B≤a) (h2:a≤B):-B≤a.tdiv 2∧a.tdiv 2≤B:=by
 rcases Int.le_total 0 a with h|h
 ·rw [Int.tdiv_eq_ediv_of_nonneg h];omega
 ·obtain⟨b,rfl⟩:∃b,a = -b:=⟨-a,by omega⟩
  rw [Int.neg_tdiv,Int.tdiv_eq_ediv_of_nonneg (by omega)];omega
def routhC (re im g:List Rat):List (List Rat):=if (divF im g).1.length<(divF re g).1.length then chainF (divF re g).1 (divF im g).1 else chainF (divF im g).1 (divF re g).1
def routhT (re im g:List Rat):Int:=(if (divF im g).1.length<(divF re g).1.length then -1 else 1)*turnF (routhC re im g)
def routhG (re im g:List Rat) (axis:Int):Int:=(((trimF g).length:Int) - 1 - axis).tdiv 2+(max ((divF re g).1.length:Int) (divF im g).1.length - 1 - routhT re im g).tdiv 2
def routhF (p:List Rat):Int × Int:=
 (routhG (alongU [] [0,1] (trimF p)).1 (alongU [] [0,1] (trimF p)).2 (commonF (alongU [] [0,1] (trimF p)).1 (alongU [] [0,1] (trimF p)).2) (timesF (commonF (alongU [] [0,1] (trimF p)).1 (alongU [] [0,1] (trimF p)).2)),timesF (commonF (alongU [] [0,1] (trimF p)).1 (alongU [] [0,1] (trimF p)).2))
def routhB (M:Nat) (re im g:List Rat):Bool:=
 decide (re.length≤900) && decide (im.length≤900) && comOk M re im && timesOk M g && !(trimF g).isEmpty && divOk M re g && divOk M im g && decide (-1000000≤timesF g) && decide (timesF g≤1000000) && (if (divF im g).1.length<(divF re g).1.length then chainOk M (divF re g).1 (divF im g).1 else chainOk M (divF im g).1 (divF re g).1) && neB (routhC re im g)
def routhOk (M:Nat) (p:List Rat):Bool:=alongOk M [] [0,1] (trimF p) && routhB M (alongU [] [0,1] (trimF p)).1 (alongU [] [0,1] (trimF p)).2 (commonF (alongU [] [0,1] (trimF p)).1 (alongU [] [0,1] (trimF p)).2)
def routhE (p:List Rat):Int × Int × Int:=if askF p=0 then ((routhF p).1,(routhF p).2,0) else (0,0,askF p)
theorem routh_p (M:Nat) (hM0:0<M) (hM:M≤268435456) (vp:Value) (p:List Rat) (hlp:p.length≤100000) (w:World) (hp:Pl w vp p) (hok:askF p=0→routhOk M p=true) (D:Int × Int × Int) (hD:routhE p=D):Calls Tryz.prog 17 #[vp] w fun e w'=>e=.returned (.tuple #[.int .i64 D.1,.int .i64 D.2.1,.int .i64 D.2.2])∧Ext w w':=by
 have HP:=ZZ hp;have HLP:=ZZ hlp;have HM0:=ZZ hM0;have HM:=ZZ hM;have HOK:=ZZ hok;have HD:=ZZ hD;obtain⟨z,hz⟩:∃z,askF p=z:=⟨_,rfl⟩;have HZ:=ZZ hz;clear hp hlp hM0 hM hok hD hz
 go_enter Tryz.func17,Tryz.ntmps17
 go_wp2_with fail;refine(asked_p _ p (by have:=HLP.out;omega) _ HP.out z HZ.out).mono ?_
 rintro e w1 ⟨rfl,kk1⟩;have K1:=ZZ kk1;clear kk1
 by_cases h0:z=0
 ·subst h0
  have z0:((0:Int) == 0)=true:=rfl;have z1:((0:Int) != 0)=false:=rfl;have hok:=HOK.out HZ.out;unfold routhOk at hok;rw [Bool.and_eq_true] at hok;obtain⟨hal,hrb⟩:=hok;have hde:D=((routhF p).1,(routhF p).2,0):=by rw [←HD.out];unfold routhE;rw [if_pos HZ.out]
  unfold routhF at hde;obtain⟨re,hre⟩:∃r,(alongU [] [0,1] (trimF p)).1=r:=⟨_,rfl⟩;obtain⟨im,him⟩:∃r,(alongU [] [0,1] (trimF p)).2=r:=⟨_,rfl⟩;obtain⟨g,hg⟩:∃r,commonF re im=r:=⟨_,rfl⟩;obtain⟨ax,hax⟩:∃r,timesF g=r:=⟨_,rfl⟩;rw [hre,him,hg] at hrb;rw [hre,him,hg,hax] at hde;unfold routhB at hrb
  simp only [Bool.and_eq_true] at hrb
  obtain⟨⟨⟨⟨⟨⟨⟨⟨⟨⟨o1,o2⟩,o3⟩,o4⟩,o5⟩,o6⟩,o7⟩,o8⟩,o9⟩,o10⟩,o11⟩:=hrb;have HDE:=ZZ hde;have HRE:=ZZ hre;have HIM:=ZZ him;have HG:=ZZ hg;have HAX:=ZZ hax;have P1:=ZZ (of_decide_eq_true o1);have P2:=ZZ (of_decide_eq_true o2);have P3:=ZZ o3;have P4:=ZZ o4;have P5:=ZZ (ne_of_emp o5);have P6:=ZZ o6;have P7:=ZZ o7;have P8:=ZZ (show -1000000≤ax∧ax≤1000000 from by rw [←hax];exact⟨of_decide_eq_true o8,of_decide_eq_true o9⟩);have P11:=ZZ (neB_of o11);have PAL:=ZZ hal;have LG:=ZZ (show g.length≤900 from by rw [←hg];exact common_len _ _ _ P1.out P2.out);obtain⟨R,hR⟩:∃r,(divF re g).1=r:=⟨_,rfl⟩;obtain⟨I,hI⟩:∃r,(divF im g).1=r:=⟨_,rfl⟩;have HR:=ZZ hR;have HI:=ZZ hI;have LR:=ZZ (show R.length≤901 from by rw [←hR];have:=(div_len re g).1;have:=P1.out;omega);have LI:=ZZ (show I.length≤901 from by rw [←hI];have:=(div_len im g).1;have:=P2.out;omega);rw [hR,hI] at o10;have P10:=ZZ o10;clear hal o1 o2 o3 o4 o5 o6 o7 o8 o9 o10 o11 hde hre him hg hax hR hI;go_wp2_with fail;refine(trim_q _ p (by have:=HLP.out;omega) _ (HP.out.mono K1.out)).mono ?_;rintro e w2 ⟨v2,rfl,h2,kk2⟩;have H2:=ZZ h2.pl;have K2:=ZZ (am K1.out kk2);clear h2 kk2;go_wp2_with fail;refine(line_p _).mono ?_;rintro e w3 ⟨v3,rfl,h3,kk3⟩;have H3:=ZZ h3;have H2b:=ZZ (H2.out.mono kk3);have K3:=ZZ (am K2.out kk3);clear h3 kk3 H2;go_wp2_with fail;refine(along_p M HM0.out HM.out _ _ _ (trimF p) [] [0,1] (Nat.le_trans (trim_le p) HLP.out) _ H2b.out (Pl.nil _) H3.out PAL.out).mono ?_;rintro e w4 ⟨v4,v5,rfl,h4,h5,kk4⟩;rw [HRE.out] at h4
  rw [HIM.out] at h5;have H4:=ZZ h4;have H5:=ZZ h5;have K4:=ZZ (am K3.out kk4);clear h4 h5 kk4;go_wp2_with fail;refine(common_p M HM0.out HM.out _ _ re im (by have:=P1.out;omega) (by have:=P2.out;omega) _ H4.out H5.out P3.out).mono ?_;rintro e w6 ⟨v6,rfl,h6,kk6⟩;rw [HG.out] at h6;have H6:=ZZ h6;have H4b:=ZZ (H4.out.mono kk6);have H5b:=ZZ (H5.out.mono kk6);have K6:=ZZ (am K4.out kk6);clear h6 kk6 H4 H5;go_wp2_with fail;refine(times_p M HM0.out HM.out _ g (by have:=LG.out;omega) _ H6.out P4.out ax HAX.out).mono ?_;rintro e w7 ⟨rfl,kk7⟩;have H6c:=ZZ (H6.out.mono kk7);have H4c:=ZZ (H4b.out.mono kk7);have H5c:=ZZ (H5b.out.mono kk7);have K7:=ZZ (am K6.out kk7);clear kk7 H4b H5b H6;go_wp2_with fail;refine(exact_p M HM0.out HM.out _ _ re g (by have:=P1.out;omega) (by have:=LG.out;omega) _ H4c.out H6c.out P5.out P6.out).mono ?_;rintro e w8 ⟨v8,rfl,h8,kk8⟩;rw [HR.out] at h8;have H8:=ZZ h8;have H6d:=ZZ (H6c.out.mono kk8);have H5d:=ZZ (H5c.out.mono kk8);have K8:=ZZ (am K7.out kk8);clear h8 kk8 H4c H5c H6c;go_wp2_with fail;refine(exact_p M HM0.out HM.out _ _ im g (by have:=P2.out;omega) (by have:=LG.out;omega) _ H5d.out H6d.out P5.out P7.out).mono ?_;rintro e w9 ⟨v9,rfl,h9,kk9⟩;rw [HI.out] at h9;obtain⟨A9,n9,c9,e9,hn9⟩:=h9.form;obtain⟨A8,n8,c8,e8,hn8⟩:=H8.out.form;subst e9 e8;have H9:=ZZ h9;have H8e:=ZZ (H8.out.mono kk9);have H6e:=ZZ (H6d.out.mono kk9);have K9:=ZZ (am K8.out kk9);have HN8:=ZZ hn8;have HN9:=ZZ hn9
  have q1:IntKind.i64.wrap (max (n8:Int) (n9:Int) - 1)=max (n8:Int) (n9:Int) - 1:=by
   have:=LR.out;have:=LI.out;exact IntWalk.i64_in _ (by omega)
  clear h9 kk9 H8 H5d H6d hn8 hn9;obtain⟨sw,hsw⟩:∃b,decide (n9<n8)=b:=⟨_,rfl⟩
  have hsw':decide ((n9:Int)<(n8:Int))=sw:=by
   rw [←hsw]
   by_cases h:n9<n8
   ·rw [decide_eq_true h,decide_eq_true (by omega)]
   ·rw [decide_eq_false h,decide_eq_false (by omega)]
  cases sw with
  | true=>
   have HLT:=ZZ (show I.length<R.length from by rw [HN8.out,HN9.out];exact of_decide_eq_true hsw);have HCO:=ZZ (show chainOk M R I=true from by have h:=P10.out;rw [if_pos HLT.out] at h;exact h);obtain⟨C,hC⟩:∃C,chainF R I=C:=⟨_,rfl⟩;have HCC:=ZZ hC;have HRC:=ZZ (show routhC re im g=C from by unfold routhC;rw [HR.out,HI.out,if_pos HLT.out,hC]);have P12:=ZZ (show ∀l ∈ C,l.length≤100000∧l≠[] from by have h:=P11.out;rw [HRC.out] at h;exact h);have HCL:=ZZ (show C.length≤3000 from by rw [←hC];have:=chain_len R I;have:=LR.out;have:=LI.out;omega);clear hC;obtain⟨z1,hz1⟩:∃z,flipsF C (endsF true)=z:=⟨_,rfl⟩;obtain⟨z2,hz2⟩:∃z,flipsF C (endsF false)=z:=⟨_,rfl⟩;have hb1:=flips_bound 0 (C.map (endsF true));have hb2:=flips_bound 0 (C.map (endsF false));rw [show flipsU 0 (C.map (endsF true))=z1 from hz1,List.length_map] at hb1;rw [show flipsU 0 (C.map (endsF false))=z2 from hz2,List.length_map] at hb2;have HZB:=ZZ (show (-3000≤z1 - z2∧z1 - z2≤3000) from by have:=HCL.out;omega);have HZ1:=ZZ hz1;have HZ2:=ZZ hz2;obtain⟨tn,htn⟩:∃t,-1*(z1 - z2)=t:=⟨_,rfl⟩;have HTN:=ZZ (show routhT re im g=tn from by unfold routhT;rw [HR.out,HI.out,if_pos HLT.out,HRC.out];unfold turnF;rw [hz1,hz2];exact htn);have HTB:=ZZ (show -3000≤tn∧tn≤3000 from by have:=HZB.out;omega);have q2:IntKind.i64.wrap (z1 - z2)=z1 - z2:=by have:=HZB.out;exact IntWalk.i64_in _ (by omega)
   have q3:IntKind.i64.wrap tn=tn:=by have:=HTB.out;exact IntWalk.i64_in _ (by omega)
   have q4:-(z1 - z2)=tn:=by omega
   clear hz1 hz2 hb1 hb2;go_wp2_with fail;refine(chain_p M HM0.out HM.out _ _ R I (by have:=LR.out;omega) (by have:=LI.out;omega) _ H8e.out H9.out HCO.out).mono ?_;rintro e x1 ⟨t1,rfl,g1,kx1⟩;rw [HCC.out] at g1;obtain⟨B1,cap1,e1,-⟩:=id g1;obtain⟨n1,hn1⟩:∃n,C.length=n:=⟨_,rfl⟩;rw [hn1] at e1;subst e1;have G1:=ZZ g1;have X1:=ZZ kx1;clear g1 kx1 hn1;go_wp2_with fail;refine(endsV_c true _).mono ?_;rintro e x2 ⟨rfl,hx2⟩;have SG:=ZZ (hx2 ▸ sgn_ends true x1);have X2:=ZZ (show Ext x1 x2 from by rw [hx2];exact ab _ _);clear hx2;go_wp2_with fail;refine(flips_p _ _ C (endsF true) _ (by have:=HCL.out;omega) P12.out _ (G1.out.mono X2.out) SG.out z1 HZ1.out).mono ?_;rintro e x3 ⟨rfl,kk3⟩;have X3:=ZZ (am X2.out kk3);clear kk3 SG;go_wp2_with fail;refine(endsV_c false _).mono ?_;rintro e x4 ⟨rfl,hx4⟩;have SG:=ZZ (hx4 ▸ sgn_ends false x3);have X4:=ZZ (show Ext x1 x4 from by rw [hx4];exact am X3.out (ab _ _));clear hx4;go_wp2_with fail;refine(flips_p _ _ C (endsF false) _ (by have:=HCL.out;omega) P12.out _ (G1.out.mono X4.out) SG.out z2 HZ2.out).mono ?_;rintro e x5 ⟨rfl,kk5⟩;have X5:=ZZ (am X1.out (am X4.out kk5));clear kk5 SG;have H6f:=ZZ (H6e.out.mono X5.out);obtain⟨m,hm⟩:∃m,(trimF g).length=m:=⟨_,rfl⟩;have HMM:=ZZ hm;have HMB:=ZZ (show m≤900 from by rw [←hm];have:=trim_le g;have:=LG.out;omega);clear hm;go_wp2_with fail;refine(deg_q _ g (by have:=LG.out;omega) _ H6f.out).mono ?_;rintro e x6 ⟨rfl,kk6⟩;rw [HMM.out];have X6:=ZZ (am K9.out (am X5.out kk6));clear kk6
   obtain⟨mx,hmx⟩:∃x,max (n8:Int) (n9:Int) - 1=x:=⟨_,rfl⟩;have HMX:=ZZ hmx;have HMXB:=ZZ (show -1≤mx∧mx≤1000 from by have:=LR.out;have:=LI.out;have:=HN8.out;have:=HN9.out;omega);clear q1;rw [hmx];clear hmx;have q5:IntKind.i64.wrap ((m:Int) - 1 - ax)=(m:Int) - 1 - ax:=by have:=P8.out;have:=HMB.out;exact IntWalk.i64_in _ (by omega)
   have q6:IntKind.i64.wrap (mx - tn)=mx - tn:=by have:=HMXB.out;have:=HTB.out;exact IntWalk.i64_in _ (by omega)
   have td1:=tdiv2 ((m:Int) - 1 - ax) 2000000 (by have:=P8.out;have:=HMB.out;omega) (by have:=P8.out;have:=HMB.out;omega);have td2:=tdiv2 (mx - tn) 2000000 (by have:=HMXB.out;have:=HTB.out;omega) (by have:=HMXB.out;have:=HTB.out;omega);have q7:IntKind.i64.wrap (((m:Int) - 1 - ax).tdiv 2)=((m:Int) - 1 - ax).tdiv 2:=by have:=P8.out;have:=HMB.out;exact IntWalk.i64_in _ (by omega)
   have q8:IntKind.i64.wrap ((mx - tn).tdiv 2)=(mx - tn).tdiv 2:=by have:=HMXB.out;have:=HTB.out;exact IntWalk.i64_in _ (by omega)
   have q9:IntKind.i64.wrap (((m:Int) - 1 - ax).tdiv 2+(mx - tn).tdiv 2)=((m:Int) - 1 - ax).tdiv 2+(mx - tn).tdiv 2:=by have:=P8.out;have:=HMB.out;have:=HMXB.out;have:=HTB.out;exact IntWalk.i64_in _ (by omega)
   clear td1 td2;go_wp2_with fail;refine bodyPost_ret (v:=.tuple #[.int .i64 (((m:Int) - 1 - ax).tdiv 2+(mx - tn).tdiv 2),.int .i64 ax,.int .i64 0]) (by simp [results,Tryz.f17]) rfl ?_;rw [HDE.out,show routhG re im g ax=((m:Int) - 1 - ax).tdiv 2+(mx - tn).tdiv 2 from by unfold routhG;rw [HMM.out,HR.out,HI.out,HN8.out,HN9.out,HTN.out,HMX.out]];exact⟨rfl,X6.out⟩
  | false=>
   have HLT:=ZZ (show ¬ I.length<R.length from by rw [HN8.out,HN9.out];exact of_decide_eq_false hsw);have HCO:=ZZ (show chainOk M I R=true from by have h:=P10.out;rw [if_neg HLT.out] at h;exact h);obtain⟨C,hC⟩:∃C,chainF I R=C:=⟨_,rfl⟩;have HCC:=ZZ hC;have HRC:=ZZ (show routhC re im g=C from by unfold routhC;rw [HR.out,HI.out,if_neg HLT.out,hC]);have P12:=ZZ (show ∀l ∈ C,l.length≤100000∧l≠[] from by have h:=P11.out;rw [HRC.out] at h;exact h);have HCL:=ZZ (show C.length≤3000 from by rw [←hC];have:=chain_len I R;have:=LR.out;have:=LI.out;omega);clear hC;obtain⟨z1,hz1⟩:∃z,flipsF C (endsF true)=z:=⟨_,rfl⟩;obtain⟨z2,hz2⟩:∃z,flipsF C (endsF false)=z:=⟨_,rfl⟩;have hb1:=flips_bound 0 (C.map (endsF true));have hb2:=flips_bound 0 (C.map (endsF false));rw [show flipsU 0 (C.map (endsF true))=z1 from hz1,List.length_map] at hb1;rw [show flipsU 0 (C.map (endsF false))=z2 from hz2,List.length_map] at hb2;have HZB:=ZZ (show (-3000≤z1 - z2∧z1 - z2≤3000) from by have:=HCL.out;omega);have HZ1:=ZZ hz1;have HZ2:=ZZ hz2;obtain⟨tn,htn⟩:∃t,1*(z1 - z2)=t:=⟨_,rfl⟩;have HTN:=ZZ (show routhT re im g=tn from by unfold routhT;rw [HR.out,HI.out,if_neg HLT.out,HRC.out];unfold turnF;rw [hz1,hz2];exact htn);have HTB:=ZZ (show -3000≤tn∧tn≤3000 from by have:=HZB.out;omega);have q2:IntKind.i64.wrap (z1 - z2)=z1 - z2:=by have:=HZB.out;exact IntWalk.i64_in _ (by omega)
   have q3:IntKind.i64.wrap tn=tn:=by have:=HTB.out;exact IntWalk.i64_in _ (by omega)
   have q4:z1 - z2=tn:=by omega
   clear hz1 hz2 hb1 hb2;go_wp2_with fail;refine(chain_p M HM0.out HM.out _ _ I R (by have:=LI.out;omega) (by have:=LR.out;omega) _ H9.out H8e.out HCO.out).mono ?_;rintro e x1 ⟨t1,rfl,g1,kx1⟩;rw [HCC.out] at g1;obtain⟨B1,cap1,e1,-⟩:=id g1;obtain⟨n1,hn1⟩:∃n,C.length=n:=⟨_,rfl⟩;rw [hn1] at e1;subst e1;have G1:=ZZ g1;have X1:=ZZ kx1;clear g1 kx1 hn1;go_wp2_with fail;refine(endsV_c true _).mono ?_;rintro e x2 ⟨rfl,hx2⟩;have SG:=ZZ (hx2 ▸ sgn_ends true x1);have X2:=ZZ (show Ext x1 x2 from by rw [hx2];exact ab _ _);clear hx2;go_wp2_with fail;refine(flips_p _ _ C (endsF true) _ (by have:=HCL.out;omega) P12.out _ (G1.out.mono X2.out) SG.out z1 HZ1.out).mono ?_;rintro e x3 ⟨rfl,kk3⟩;have X3:=ZZ (am X2.out kk3);clear kk3 SG;go_wp2_with fail;refine(endsV_c false _).mono ?_;rintro e x4 ⟨rfl,hx4⟩;have SG:=ZZ (hx4 ▸ sgn_ends false x3);have X4:=ZZ (show Ext x1 x4 from by rw [hx4];exact am X3.out (ab _ _));clear hx4;go_wp2_with fail;refine(flips_p _ _ C (endsF false) _ (by have:=HCL.out;omega) P12.out _ (G1.out.mono X4.out) SG.out z2 HZ2.out).mono ?_;rintro e x5 ⟨rfl,kk5⟩;have X5:=ZZ (am X1.out (am X4.out kk5));clear kk5 SG;have H6f:=ZZ (H6e.out.mono X5.out);obtain⟨m,hm⟩:∃m,(trimF g).length=m:=⟨_,rfl⟩;have HMM:=ZZ hm;have HMB:=ZZ (show m≤900 from by rw [←hm];have:=trim_le g;have:=LG.out;omega);clear hm;go_wp2_with fail;refine(deg_q _ g (by have:=LG.out;omega) _ H6f.out).mono ?_;rintro e x6 ⟨rfl,kk6⟩;rw [HMM.out];have X6:=ZZ (am K9.out (am X5.out kk6));clear kk6
   obtain⟨mx,hmx⟩:∃x,max (n8:Int) (n9:Int) - 1=x:=⟨_,rfl⟩;have HMX:=ZZ hmx;have HMXB:=ZZ (show -1≤mx∧mx≤1000 from by have:=LR.out;have:=LI.out;have:=HN8.out;have:=HN9.out;omega);clear q1;rw [hmx];clear hmx;have q5:IntKind.i64.wrap ((m:Int) - 1 - ax)=(m:Int) - 1 - ax:=by have:=P8.out;have:=HMB.out;exact IntWalk.i64_in _ (by omega)
   have q6:IntKind.i64.wrap (mx - tn)=mx - tn:=by have:=HMXB.out;have:=HTB.out;exact IntWalk.i64_in _ (by omega)
   have td1:=tdiv2 ((m:Int) - 1 - ax) 2000000 (by have:=P8.out;have:=HMB.out;omega) (by have:=P8.out;have:=HMB.out;omega);have td2:=tdiv2 (mx - tn) 2000000 (by have:=HMXB.out;have:=HTB.out;omega) (by have:=HMXB.out;have:=HTB.out;omega);have q7:IntKind.i64.wrap (((m:Int) - 1 - ax).tdiv 2)=((m:Int) - 1 - ax).tdiv 2:=by have:=P8.out;have:=HMB.out;exact IntWalk.i64_in _ (by omega)
   have q8:IntKind.i64.wrap ((mx - tn).tdiv 2)=(mx - tn).tdiv 2:=by have:=HMXB.out;have:=HTB.out;exact IntWalk.i64_in _ (by omega)
   have q9:IntKind.i64.wrap (((m:Int) - 1 - ax).tdiv 2+(mx - tn).tdiv 2)=((m:Int) - 1 - ax).tdiv 2+(mx - tn).tdiv 2:=by have:=P8.out;have:=HMB.out;have:=HMXB.out;have:=HTB.out;exact IntWalk.i64_in _ (by omega)
   clear td1 td2;go_wp2_with fail;refine bodyPost_ret (v:=.tuple #[.int .i64 (((m:Int) - 1 - ax).tdiv 2+(mx - tn).tdiv 2),.int .i64 ax,.int .i64 0]) (by simp [results,Tryz.f17]) rfl ?_;rw [HDE.out,show routhG re im g ax=((m:Int) - 1 - ax).tdiv 2+(mx - tn).tdiv 2 from by unfold routhG;rw [HMM.out,HR.out,HI.out,HN8.out,HN9.out,HTN.out,HMX.out]];exact⟨rfl,X6.out⟩
 ·have z0:(z == 0)=false:=beq_eq_false_iff_ne.2 h0
  have z1:(z != 0)=true:=bne_iff_ne.2 h0;have HDE:=ZZ (show D=(0,0,z) from by rw [←HD.out];unfold routhE;rw [if_neg (by rw [HZ.out];exact h0),HZ.out]);clear h0;go_wp2_with fail;refine bodyPost_ret (v:=.tuple #[.int .i64 0,.int .i64 0,.int .i64 z]) (by simp [results,Tryz.f17]) rfl ?_;rw [HDE.out];exact⟨rfl,K1.out⟩
end Go.Proofs.YtjamgccgoapbeaaGreatDoor
set_option linter.unusedVariables false
set_option maxRecDepth 100000
set_option maxHeartbeats 64000000
namespace Go.Proofs.YtjamgccgoapbeaaGreatDoor
open Go.RowKit
theorem setG2q (w:World) (o p:Obj):Ext w ((w.alloc o).alloc p)∧((w.alloc o).alloc p).heap[w.heap.size]?=some o∧((w.alloc o).alloc p).heap[w.heap.size+1]?=some p:=by
 have x1:=ab w o;have x2:=ab (w.alloc o) p;have h1:=World.alloc_heap_new w o;have h2:=World.alloc_heap_new (w.alloc o) p;rw [World.size_alloc] at h2;exact⟨am x1 x2,(x2.block _ (Array.getElem?_eq_some_iff.1 h1).1).trans h1,h2⟩
theorem midS_q (M:Nat) (hM:M≤67108863) (v:Value) (lo hi:Rat) (w:World) (h:Sp w v lo hi) (b1:Bq M lo) (b2:Bq M hi):Calls Tryz.prog 68 #[v] w fun e w'=>∃v',e=.returned v'∧Nm w' v' (shQ (lo+hi) (-1))∧Ext w w':=by
 obtain⟨b5,A5,k5,ca5,B5,l5,cb5,b6,A6,k6,ca6,B6,l6,cb6,rfl,hn1,hn2⟩:=h.form;have H1:=ZZ hn1;have H2:=ZZ hn2;have B1:=ZZ b1;have B2:=ZZ b2;have HM:=ZZ hM;obtain⟨hw0,hra,hrz⟩:=setG2q w (.cells #[.bool b5,.slice A5 k5 ca5,.slice B5 l5 cb5,.bool b6,.slice A6 k6 ca6,.slice B6 l6 cb6] 37) (.cells #[.bool false,.slice none 0 0,.slice none 0 0] 35);have hww:=ZZ hw0;have HRZ:=ZZ hrz;have LE:=ZZ (show w.heap.size≤w.heap.size+1 from Nat.le_succ _);obtain⟨x0,x1,x2,x3,x4,x5,-⟩:=ai hra;clear h hn1 hn2 b1 b2 hM hw0 hra hrz
 go_enter Tryz.func68,Tryz.ntmps68
 go_wp2_with fail;generalize World.alloc (World.alloc w (.cells #[.bool b5,.slice A5 k5 ca5,.slice B5 l5 cb5,.bool b6,.slice A6 k6 ca6,.slice B6 l6 cb6] _)) (.cells #[.bool false,.slice none 0 0,.slice none 0 0] _)=W2 at *
 refine(add_q M (Nat.le_trans HM.out (by decide)) _ _ lo hi _ (H1.out.mono hww.out) (H2.out.mono hww.out) B1.out B2.out).mono ?_;rintro e w3 ⟨v3,rfl,h3,k3⟩;have K3:=ZZ k3;have HRZ3:=ZZ ((k3.block _ (lt_of_block HRZ.out)).trans HRZ.out);have H3:=ZZ h3;clear h3 k3;go_wp2_with fail;refine(shifted_q (M+M+1) (by have:=HM.out;omega) (-1) (by decide) _ (lo+hi) _ H3.out (B1.out.add B2.out)).mono ?_;rintro e w4 ⟨v4,rfl,h4,k4⟩;obtain⟨b7,A7,k7,ca7,B7,l7,cb7,rfl⟩:=h4.form2;have K4:=ZZ (am hww.out (am K3.out k4));have H4:=ZZ h4;have hz:=(k4.block _ (lt_of_block HRZ3.out)).trans HRZ3.out;have HZ:=ZZ hz;obtain⟨z0,z1,z2,zf0,zf1,zf2⟩:=aj hz;clear h4 k4 hz;go_wp2_with fail;refine bodyPost_ret (v:=.agg #[.bool b7,.slice A7 k7 ca7,.slice B7 l7 cb7]) (by simp [results,Tryz.f68];go_simp) rfl ?_;exact⟨_,rfl,H4.out.put3 HZ.out,ap K4.out LE.out _ _ _⟩
theorem widthS_q (M:Nat) (hM:M≤67108863) (v:Value) (lo hi:Rat) (w:World) (h:Sp w v lo hi) (b1:Bq M lo) (b2:Bq M hi):Calls Tryz.prog 66 #[v] w fun e w'=>∃v',e=.returned v'∧Nm w' v' (absQ (hi - lo))∧Ext w w':=by
 obtain⟨b5,A5,k5,ca5,B5,l5,cb5,b6,A6,k6,ca6,B6,l6,cb6,rfl,hn1,hn2⟩:=h.form;have H1:=ZZ hn1;have H2:=ZZ hn2;have B1:=ZZ b1;have B2:=ZZ b2;have HM:=ZZ hM;obtain⟨hw0,hra,hrz⟩:=setG2q w (.cells #[.bool b5,.slice A5 k5 ca5,.slice B5 l5 cb5,.bool b6,.slice A6 k6 ca6,.slice B6 l6 cb6] 37) (.cells #[.bool false,.slice none 0 0,.slice none 0 0] 35);have hww:=ZZ hw0;have HRZ:=ZZ hrz;have LE:=ZZ (show w.heap.size≤w.heap.size+1 from Nat.le_succ _);obtain⟨x0,x1,x2,x3,x4,x5,-⟩:=ai hra;clear h hn1 hn2 b1 b2 hM hw0 hra hrz
 go_enter Tryz.func66,Tryz.ntmps66
 go_wp2_with fail;generalize World.alloc (World.alloc w (.cells #[.bool b5,.slice A5 k5 ca5,.slice B5 l5 cb5,.bool b6,.slice A6 k6 ca6,.slice B6 l6 cb6] _)) (.cells #[.bool false,.slice none 0 0,.slice none 0 0] _)=W2 at *
 refine(sub_q M (Nat.le_trans HM.out (by decide)) _ _ hi lo _ (H2.out.mono hww.out) (H1.out.mono hww.out) B2.out B1.out).mono ?_;rintro e w3 ⟨v3,rfl,h3,k3⟩;have K3:=ZZ k3;have HRZ3:=ZZ ((k3.block _ (lt_of_block HRZ.out)).trans HRZ.out);have H3:=ZZ h3;clear h3 k3;go_wp2_with fail;refine(abs_q _ (hi - lo) _ H3.out).mono ?_;rintro e w4 ⟨v4,rfl,h4,k4⟩;obtain⟨b7,A7,k7,ca7,B7,l7,cb7,rfl⟩:=h4.form2;have K4:=ZZ (am hww.out (am K3.out k4));have H4:=ZZ h4;have hz:=(k4.block _ (lt_of_block HRZ3.out)).trans HRZ3.out;have HZ:=ZZ hz;obtain⟨z0,z1,z2,zf0,zf1,zf2⟩:=aj hz;clear h4 k4 hz;go_wp2_with fail;refine bodyPost_ret (v:=.agg #[.bool b7,.slice A7 k7 ca7,.slice B7 l7 cb7]) (by simp [results,Tryz.f66];go_simp) rfl ?_;exact⟨_,rfl,H4.out.put3 HZ.out,ap K4.out LE.out _ _ _⟩
end Go.Proofs.YtjamgccgoapbeaaGreatDoor
