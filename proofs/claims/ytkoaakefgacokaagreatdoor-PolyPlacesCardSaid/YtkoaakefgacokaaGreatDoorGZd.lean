/- Roots in a rectangle. Printed by gen_zd.py. -/
import Derived.Test.YtkoaakefgacokaaGreatDoorGZs
set_option linter.unusedVariables false
set_option linter.unusedSimpArgs false
set_option maxRecDepth 100000
set_option maxHeartbeats 64000000
namespace Go.Proofs.YtkoaakefgacokaaGreatDoor
open Go.RowKit
def PlT (W:World) (v:Value) (l:List Rat):Prop:=∃b k cur,v=.slice (some ⟨b,0,none⟩) l.length k∧W.heap[b]?=some (.cells cur 38 (0,0))∧Pl W v l
theorem PlT.mono {W W':World} {v:Value} {l:List Rat} (h:PlT W v l) (k:Ext W W'):PlT W' v l:=by
 obtain⟨b,n,cur,e,h1,h2⟩:=h;exact⟨b,n,cur,e,(k.block _ (lt_of_block h1)).trans h1,h2.mono k⟩
theorem PlT.form {W:World} {v:Value} {l:List Rat} (h:PlT W v l):∃A n k,v=.slice A n k:=by
 obtain⟨b,n,cur,e,-,-⟩:=h;exact⟨_,_,_,e⟩
theorem PlT.pl {W:World} {v:Value} {l:List Rat} (h:PlT W v l):Pl W v l:=by obtain⟨b,n,cur,e,-,h⟩:=h;exact h
theorem plt_one {w:World} {s1:Bool} {A1 B1:Option Addr} {k1 ca1 l1 cb1:Nat} {x:Rat} (h1:Nm w (.agg #[.bool s1,.slice A1 k1 ca1,.slice B1 l1 cb1]) x):PlT (w.alloc (.cells #[.bool s1,.slice A1 k1 ca1,.slice B1 l1 cb1] 38)) (.slice (some ⟨w.heap.size,0,none⟩) 1 1) [x]:=by
 have hr:=heap_alloc_new w (.cells #[.bool s1,.slice A1 k1 ca1,.slice B1 l1 cb1] 38);refine⟨_,1,_,rfl,hr,_,1,rfl,Nat.le_refl _,.inr ⟨_,0,rfl,fun i q hq=>?_⟩⟩
 match i,hq with
 | 0,hq=>obtain rfl:x=q:=Option.some.inj hq;exact⟨_,_,_,_,_,_,_,by rw [cell_of_row _ _ _ _ _ _ hr];rfl,by rw [cell_of_row _ _ _ _ _ _ hr];rfl,by rw [cell_of_row _ _ _ _ _ _ hr];rfl,h1.mono (ab _ _)⟩
theorem line_t (w:World):Calls Tryz.prog 26 #[] w fun e w'=>∃v',e=.returned v'∧PlT w' v' [0,1]∧Ext w w':=by
 go_enter Tryz.func26,Tryz.ntmps26
 go_wp2_with fail;refine(int_q 0 (by decide) (by decide) _).mono ?_
 rintro e w3 ⟨v3,rfl,h3,k3⟩;obtain⟨s1,A1,k1,ca1,B1,l1,cb1,rfl⟩:=h3.form2;have H3:=ZZ (show Nm w3 (.agg #[.bool s1,.slice A1 k1 ca1,.slice B1 l1 cb1]) 0 from h3);have K3:=ZZ k3;clear h3 k3;go_wp2_with fail;refine(int_q 1 (by decide) (by decide) _).mono ?_;rintro e w4 ⟨v4,rfl,h4,k4⟩;obtain⟨s2,A2,k2,ca2,B2,l2,cb2,rfl⟩:=h4.form2;have H4:=ZZ (show Nm w4 (.agg #[.bool s2,.slice A2 k2 ca2,.slice B2 l2 cb2]) 1 from h4);have K4:=ZZ k4;clear h4 k4;go_wp2_with fail;go_ret;exact⟨_,rfl,⟨_,2,_,rfl,heap_alloc_new _ _,pl_two (H3.out.mono K4.out) H4.out⟩,al K3.out (al K4.out (ab _ _))⟩
theorem pl_len {W:World} {A:Option Addr} {n c:Nat} {l:List Rat} (h:Pl W (.slice A n c) l):l.length=n:=by
 obtain⟨A',c',e,-⟩:=h
 injection e with _ e _
 exact e.symm
theorem side_bq {M:Nat} {lo hi dn up:Rat} {s:Side} (h:s ∈ sidesF lo hi dn up) (b1:Bq M lo) (b2:Bq M hi) (b3:Bq M dn) (b4:Bq M up):Bq M s.2.2.1∧Bq M s.2.2.2:=by
 unfold sidesF at h
 simp only [List.mem_cons,List.mem_nil_iff,or_false] at h
 rcases h with rfl|rfl|rfl|rfl
 ·exact⟨b1,b2⟩
 ·exact⟨b3,b4⟩
 ·exact⟨b2,b1⟩
 ·exact⟨b4,b3⟩
theorem rectU_out {p X Y:List Rat} {a b:Rat} {r:List Side} {t:Int} {f h:List Rat} (hf:(alongU X Y p).1=f) (hh:(alongU X Y p).2=h) (h0:0<insideF (commonF f h) a b):rectU p ((X,Y,a,b) :: r) t=(0,120):=by
 subst hf;subst hh;exact if_pos h0
theorem rectU_on {p X Y:List Rat} {a b:Rat} {r:List Side} {t:Int} {f h:List Rat} (hf:(alongU X Y p).1=f) (hh:(alongU X Y p).2=h) (h0:¬ 0<insideF (commonF f h) a b):rectU p ((X,Y,a,b) :: r) t=rectU p r (t+if h=[] then 0 else stepsF (chainF h f) a - stepsF (chainF h f) b):=by
 subst hf;subst hh;exact if_neg h0
def Sd (W:World) (cs:List Value) (s:Side):Prop:=∃A k c B l d s1 A1 k1 ca1 B1 l1 cb1 s2 A2 k2 ca2 B2 l2 cb2,cs=[.slice A k c,.slice B l d,.bool s1,.slice A1 k1 ca1,.slice B1 l1 cb1,.bool s2,.slice A2 k2 ca2,.slice B2 l2 cb2]∧PlT W (.slice A k c) s.1∧PlT W (.slice B l d) s.2.1∧Nm W (.agg #[.bool s1,.slice A1 k1 ca1,.slice B1 l1 cb1]) s.2.2.1∧Nm W (.agg #[.bool s2,.slice A2 k2 ca2,.slice B2 l2 cb2]) s.2.2.2
theorem Sd.mono {W W':World} {cs:List Value} {s:Side} (h:Sd W cs s) (k:Ext W W'):Sd W' cs s:=by
 obtain⟨A,n,c,B,l,d,s1,A1,k1,ca1,B1,l1,cb1,s2,A2,k2,ca2,B2,l2,cb2,e,h1,h2,h3,h4⟩:=h;exact⟨A,n,c,B,l,d,s1,A1,k1,ca1,B1,l1,cb1,s2,A2,k2,ca2,B2,l2,cb2,e,h1.mono k,h2.mono k,h3.mono k,h4.mono k⟩
theorem Sd.len {W:World} {cs:List Value} {s:Side} (h:Sd W cs s):cs.length=8:=by
 obtain⟨A,n,c,B,l,d,s1,A1,k1,ca1,B1,l1,cb1,s2,A2,k2,ca2,B2,l2,cb2,rfl,-⟩:=h;rfl
theorem Sd.one {W:World} {cs:List Value} {s:Side} (h:Sd W cs s):∀v ∈ cs,v.oneCell'=true:=by
 obtain⟨A,n,c,B,l,d,s1,A1,k1,ca1,B1,l1,cb1,s2,A2,k2,ca2,B2,l2,cb2,rfl,-⟩:=h;intro v hv;simp at hv;rcases hv with rfl|rfl|rfl|rfl|rfl|rfl|rfl|rfl <;> rfl
def SdV (W:World) (v:Value) (s:Side):Prop:=∃cs,v=.agg cs.toArray∧Sd W cs s
theorem SdV.mono {W W':World} {v:Value} {s:Side} (h:SdV W v s) (k:Ext W W'):SdV W' v s:=by obtain⟨cs,e,h⟩:=h;exact⟨cs,e,h.mono k⟩
def Sd4 (W:World) (cs:List Value) (lo hi dn up:Rat):Prop:=∃c1 c2 c3 c4,cs=c1 ++ c2 ++ c3 ++ c4∧Sd W c1 ([0,1],[dn],lo,hi)∧Sd W c2 ([hi],[0,1],dn,up)∧Sd W c3 ([0,1],[up],hi,lo)∧Sd W c4 ([lo],[0,1],up,dn)
theorem Sd4.mono {W W':World} {cs:List Value} {lo hi dn up:Rat} (h:Sd4 W cs lo hi dn up) (k:Ext W W'):Sd4 W' cs lo hi dn up:=by
 obtain⟨c1,c2,c3,c4,e,h1,h2,h3,h4⟩:=h;exact⟨c1,c2,c3,c4,e,h1.mono k,h2.mono k,h3.mono k,h4.mono k⟩
theorem Sd4.len {W:World} {cs:List Value} {lo hi dn up:Rat} (h:Sd4 W cs lo hi dn up):cs.length=32:=by
 obtain⟨c1,c2,c3,c4,rfl,h1,h2,h3,h4⟩:=h;simp [h1.len,h2.len,h3.len,h4.len]
theorem Sd4.one {W:World} {cs:List Value} {lo hi dn up:Rat} (h:Sd4 W cs lo hi dn up):∀v ∈ cs,v.oneCell'=true:=by
 obtain⟨c1,c2,c3,c4,rfl,h1,h2,h3,h4⟩:=h;intro v hv
 simp only [List.mem_append] at hv
 rcases hv with ((hv|hv)|hv)|hv
 ·exact h1.one v hv
 ·exact h2.one v hv
 ·exact h3.one v hv
 ·exact h4.one v hv
def Sd4V (W:World) (v:Value) (lo hi dn up:Rat):Prop:=∃cs,v=.agg cs.toArray∧Sd4 W cs lo hi dn up
theorem Sd4V.mono {W W':World} {v:Value} {lo hi dn up:Rat} (h:Sd4V W v lo hi dn up) (k:Ext W W'):Sd4V W' v lo hi dn up:=by obtain⟨cs,e,h⟩:=h;exact⟨cs,e,h.mono k⟩
theorem Sd4.at_ {W:World} {cs:List Value} {lo hi dn up:Rat} (h:Sd4 W cs lo hi dn up) {j:Nat} (hj:j<4):∃c s,(sidesF lo hi dn up)[j]?=some s∧(∀W',(Instr.index 77 (.agg cs.toArray) (.int .i64 (j:Int))).run Tryz.prog W'=.ok (.agg c.toArray) W')∧Sd W c s:=by
 obtain⟨c1,c2,c3,c4,rfl,h1,h2,h3,h4⟩:=h;obtain⟨a1,a2,a3,a4,a5,a6,a7,a8,a9,a10,a11,a12,a13,a14,a15,a16,a17,a18,a19,a20,rfl,x1⟩:=h1;obtain⟨b1,b2,b3,b4,b5,b6,b7,b8,b9,b10,b11,b12,b13,b14,b15,b16,b17,b18,b19,b20,rfl,x2⟩:=h2;obtain⟨d1,d2,d3,d4,d5,d6,d7,d8,d9,d10,d11,d12,d13,d14,d15,d16,d17,d18,d19,d20,rfl,x3⟩:=h3;obtain⟨e1,e2,e3,e4,e5,e6,e7,e8,e9,e10,e11,e12,e13,e14,e15,e16,e17,e18,e19,e20,rfl,x4⟩:=h4
 match j,hj with
 | 0,_=>exact⟨_,_,rfl,fun _=>by kernel_rfl,a1,a2,a3,a4,a5,a6,a7,a8,a9,a10,a11,a12,a13,a14,a15,a16,a17,a18,a19,a20,rfl,x1⟩
 | 1,_=>exact⟨_,_,rfl,fun _=>by kernel_rfl,b1,b2,b3,b4,b5,b6,b7,b8,b9,b10,b11,b12,b13,b14,b15,b16,b17,b18,b19,b20,rfl,x2⟩
 | 2,_=>exact⟨_,_,rfl,fun _=>by kernel_rfl,d1,d2,d3,d4,d5,d6,d7,d8,d9,d10,d11,d12,d13,d14,d15,d16,d17,d18,d19,d20,rfl,x3⟩
 | 3,_=>exact⟨_,_,rfl,fun _=>by kernel_rfl,e1,e2,e3,e4,e5,e6,e7,e8,e9,e10,e11,e12,e13,e14,e15,e16,e17,e18,e19,e20,rfl,x4⟩
theorem ext_setCells {w:World} {g:Nat} (hg:w.heap.size≤g):∀(cs:List Value) (o:Nat) (W:World),Ext w W→Ext w (W.setCells g o cs)
 | [],_,_,h=>h
 | v :: r,o,W,h=>ext_setCells hg r (o+1) _ (h.setCell hg v)
theorem heap_setCells {g b:Nat} (hb:b≠g):∀(cs:List Value) (o:Nat) (W:World),(W.setCells g o cs).heap[b]?=W.heap[b]?
 | [],_,_=>rfl
 | v :: r,o,W=>by rw [World.setCells,heap_setCells hb r];exact Below.heap_setCell _ _ _ _ hb
def notU:Value→Bool | .int .u64 _=>false|_=>true
theorem noU_arr {W:World} {g:Nat} {arr:Array Value} {T:TypeId} (h:W.heap[g]?=some (.cells arr T (0,0))) (hz:arr.all notU=true):NoU W g arr.size:=by
 intro j z hj e;rw [cell_of_row _ _ _ _ _ _ h] at e;have h1:=Array.all_eq_true_iff_forall_mem.1 hz _ (Array.mem_of_getElem? e)
 cases h1
theorem there_row {W:World} {g:Nat} {arr:Array Value} {T:TypeId} (h:W.heap[g]?=some (.cells arr T (0,0))):W.there g 0 arr.size:=by
 intro j hj;rw [Nat.zero_add]
 constructor
 ·rw [cell_of_row _ _ _ _ _ _ h];simp [hj]
 ·simp [World.frozen?,h]
theorem Nm.setCells {W:World} {v:Value} {q:Rat} {g:Nat} {cs:List Value} (h:Nm W v q) (hu:NoU W g cs.length):Nm (W.setCells g 0 cs) v q:=
 h.keepC hu (fun b j hb=>World.cell?_setCells_out g cs 0 W _ (fun e _=>by
  rcases hb with hb|hb
  ·exact absurd e hb
  ·right;simpa using hb))
theorem PlT.setCells {W:World} {v:Value} {l:List Rat} {g:Nat} {cs:List Value} {arr:Array Value} {T:TypeId} (h:PlT W v l) (hu:NoU W g cs.length) (hr:W.heap[g]?=some (.cells arr T (0,0))) (hT:T≠38):PlT (W.setCells g 0 cs) v l:=by
 obtain⟨b,k,cur,rfl,h1,A,cap,e,h2,h3⟩:=h;have hbg:b≠g:=fun e=>by subst e;rw [hr] at h1;injection h1 with h1;injection h1 with _ h1 _;exact hT h1
 refine⟨b,k,cur,rfl,(heap_setCells hbg cs 0 W).trans h1,A,cap,e,h2,?_⟩
 rcases h3 with h3|⟨b',o,rfl,ht⟩
 ·exact .inl h3
 ·injection e with e1 e2 e3
  injection e1 with e1
  injection e1 with eb eo _
  subst eb;refine .inr ⟨b,o,rfl,fun i q hq=>?_⟩;obtain⟨s,A,k,ca,B,m,cb,c0,c1,c2,hn⟩:=ht i q hq;have far:∀j,(W.setCells g 0 cs).cell? ⟨b,j,none⟩=W.cell? ⟨b,j,none⟩:=fun j=>World.cell?_setCells_out g cs 0 W _ (fun e _=>absurd e hbg);exact⟨s,A,k,ca,B,m,cb,(far _).trans c0,(far _).trans c1,(far _).trans c2,hn.setCells hu⟩
theorem Sd.setCells {W:World} {c:List Value} {s:Side} {g:Nat} {cs:List Value} {arr:Array Value} {T:TypeId} (h:Sd W c s) (hu:NoU W g cs.length) (hr:W.heap[g]?=some (.cells arr T (0,0))) (hT:T≠38):Sd (W.setCells g 0 cs) c s:=by
 obtain⟨A,n,c,B,l,d,s1,A1,k1,ca1,B1,l1,cb1,s2,A2,k2,ca2,B2,l2,cb2,e,h1,h2,h3,h4⟩:=h;exact⟨A,n,c,B,l,d,s1,A1,k1,ca1,B1,l1,cb1,s2,A2,k2,ca2,B2,l2,cb2,e,h1.setCells hu hr hT,h2.setCells hu hr hT,h3.setCells hu,h4.setCells hu⟩
theorem Sd4.setCells {W:World} {c:List Value} {lo hi dn up:Rat} {g:Nat} {cs:List Value} {arr:Array Value} {T:TypeId} (h:Sd4 W c lo hi dn up) (hu:NoU W g cs.length) (hr:W.heap[g]?=some (.cells arr T (0,0))) (hT:T≠38):Sd4 (W.setCells g 0 cs) c lo hi dn up:=by
 obtain⟨c1,c2,c3,c4,e,h1,h2,h3,h4⟩:=h;exact⟨c1,c2,c3,c4,e,h1.setCells hu hr hT,h2.setCells hu hr hT,h3.setCells hu hr hT,h4.setCells hu hr hT⟩
def Nw (W0 W:World) (v:Value) (o:Obj):Prop:=∃g,v=.pointer (some ⟨g,0,none⟩)∧W0.heap.size≤g∧W.heap[g]?=some o
theorem Nw.mono {W0 W W':World} {v:Value} {o:Obj} (h:Nw W0 W v o) (k:Ext W W'):Nw W0 W' v o:=by
 obtain⟨g,e,h1,h2⟩:=h;exact⟨g,e,h1,(k.block _ (lt_of_block h2)).trans h2⟩
theorem Nw.new {W0 W:World} (h:Ext W0 W) (o:Obj):Nw W0 (W.alloc o) (.pointer (some ⟨W.heap.size,0,none⟩)) o:=⟨_,rfl,h.size,heap_alloc_new _ _⟩
theorem rect_p (M:Nat) (hM0:0<M) (hM:M≤5400000000) (vp vr vi:Value) (p:List Rat) (x y u v:Rat) (hlp:p.length≤100) (w:World) (hp:Pl w vp p) (hr:Sp w vr x y) (hi:Sp w vi u v) (bx:Bq M x) (by_:Bq M y) (bu:Bq M u) (bv:Bq M v) (hok:askF p=0→cmpQ x y≠0→cmpQ u v≠0→rectB M (trimF p) (sidesF (aq x y) (ar x y) (aq u v) (ar u v))=true) (DD:Int × Int) (hD:rectE p x y u v=DD):Calls Tryz.prog 9 #[vp,vr,vi] w fun e w'=>e=.returned (.tuple #[.int .i64 DD.1,.int .i64 DD.2])∧Ext w w':=by
 obtain⟨s1,A1,k1,ca1,B1,l1,cb1,s2,A2,k2,ca2,B2,l2,cb2,rfl,hx1,hx2⟩:=hr.form;obtain⟨s3,A3,k3,ca3,B3,l3,cb3,s4,A4,k4,ca4,B4,l4,cb4,rfl,hx3,hx4⟩:=hi.form;obtain⟨A,n,c,rfl,-⟩:=hp.form;obtain⟨z,hz⟩:∃z,askF p=z:=⟨_,rfl⟩;have HZ:=ZZ hz;have HLP:=ZZ hlp;have HM0:=ZZ hM0;have HM:=ZZ hM;have BX:=ZZ bx;have BY:=ZZ by_;have BU:=ZZ bu;have BV:=ZZ bv;have HOK:=ZZ hok;have HD:=ZZ hD;have x1:=ab w (.cells #[.bool s1,.slice A1 k1 ca1,.slice B1 l1 cb1,.bool s2,.slice A2 k2 ca2,.slice B2 l2 cb2] 40);have x2:=ab (w.alloc (.cells #[.bool s1,.slice A1 k1 ca1,.slice B1 l1 cb1,.bool s2,.slice A2 k2 ca2,.slice B2 l2 cb2] 40)) (.cells #[.bool s3,.slice A3 k3 ca3,.slice B3 l3 cb3,.bool s4,.slice A4 k4 ca4,.slice B4 l4 cb4] 40);have r1:=(x2.block _ (lt_of_block (heap_alloc_new w (.cells #[.bool s1,.slice A1 k1 ca1,.slice B1 l1 cb1,.bool s2,.slice A2 k2 ca2,.slice B2 l2 cb2] 40)))).trans (heap_alloc_new w (.cells #[.bool s1,.slice A1 k1 ca1,.slice B1 l1 cb1,.bool s2,.slice A2 k2 ca2,.slice B2 l2 cb2] 40));have r2:=heap_alloc_new (w.alloc (.cells #[.bool s1,.slice A1 k1 ca1,.slice B1 l1 cb1,.bool s2,.slice A2 k2 ca2,.slice B2 l2 cb2] 40)) (.cells #[.bool s3,.slice A3 k3 ca3,.slice B3 l3 cb3,.bool s4,.slice A4 k4 ca4,.slice B4 l4 cb4] 40);rw [World.size_alloc] at r2;have E1:=ZZ (al x1 x2);have HP:=ZZ (hp.mono E1.out);have HRE:=ZZ (hr.mono E1.out);have HIM:=ZZ (hi.mono E1.out);have X1:=ZZ (hx1.mono E1.out);have X2:=ZZ (hx2.mono E1.out);have X3:=ZZ (hx3.mono E1.out)
 have X4:=ZZ (hx4.mono E1.out);have R1:=ZZ r1;have R2:=ZZ r2;have hun:undef=.tuple #[]:=rfl;clear hz hlp hM0 hM bx by_ bu bv hok hD x1 x2 r1 r2 hp hr hi hx1 hx2 hx3 hx4
 go_enter Tryz.func9,Tryz.ntmps9
 go_upto_region 1 with (fail)
 generalize (w.alloc (.cells #[.bool s1,.slice A1 k1 ca1,.slice B1 l1 cb1,.bool s2,.slice A2 k2 ca2,.slice B2 l2 cb2] _)).alloc (.cells #[.bool s3,.slice A3 k3 ca3,.slice B3 l3 cb3,.bool s4,.slice A4 k4 ca4,.slice B4 l4 cb4] _)=W1 at *;obtain⟨g4,hg4⟩:∃g,w.heap.size=g:=⟨_,rfl⟩;obtain⟨g5,hg5⟩:∃g,w.heap.size+1=g:=⟨_,rfl⟩;rw [hg4] at R1;rw [hg5] at R2;rw [hg5,hg4];clear hg4 hg5;go_wp2_with fail;refine(asked_p _ p (by have:=HLP.out;omega) _ HP.out z HZ.out).mono ?_;rintro e w2 ⟨rfl,kk2⟩;have K2:=ZZ kk2;clear kk2
 by_cases h0:z=0
 ·subst h0
  obtain⟨c1,hc1⟩:∃c,cmpQ x y=c:=⟨_,rfl⟩;have HC1:=ZZ hc1;have hcm:=ZZ (cmp_q_e M (by have:=HM.out;omega) _ _ x y c1 hc1 _ (X1.out.mono K2.out) (X2.out.mono K2.out) BX.out BY.out);clear hc1;obtain⟨p0,p1,p2,p3,p4,p5,-⟩:=ai ((K2.out.block _ (lt_of_block R1.out)).trans R1.out);go_wp2_with fail;refine hcm.out.mono ?_;rintro e w3 ⟨rfl,kk3⟩;have K3:=ZZ (al K2.out kk3);clear kk3 hcm p0 p1 p2 p3 p4 p5
  by_cases h1:c1=0
  ·subst h1
   have HDE:=ZZ (show DD=(0,7) from by rw [←HD.out];unfold rectE;rw [HZ.out,HC1.out,if_neg (by decide),if_pos (Or.inl rfl)]);go_wp2_with fail;refine bodyPost_ret (v:=.tuple #[.int .i64 0,.int .i64 7]) (by simp [results,Tryz.f9]) rfl ?_;rw [HDE.out];exact⟨rfl,al E1.out K3.out⟩
  ·have z1:(c1 == 0)=false:=beq_eq_false_iff_ne.2 h1
   have HNE1:=ZZ h1;clear h1;obtain⟨c2,hc2⟩:∃c,cmpQ u v=c:=⟨_,rfl⟩;have HC2:=ZZ hc2;have hcm:=ZZ (cmp_q_e M (by have:=HM.out;omega) _ _ u v c2 hc2 _ (X3.out.mono K3.out) (X4.out.mono K3.out) BU.out BV.out);clear hc2;obtain⟨p0,p1,p2,p3,p4,p5,-⟩:=ai ((K3.out.block _ (lt_of_block R2.out)).trans R2.out);go_wp2_with fail;refine hcm.out.mono ?_;rintro e w4 ⟨rfl,kk4⟩;have K4:=ZZ (al K3.out kk4);clear kk4 hcm p0 p1 p2 p3 p4 p5
   by_cases h2:c2=0
   ·subst h2
    have HDE:=ZZ (show DD=(0,7) from by rw [←HD.out];unfold rectE;rw [HZ.out,HC2.out,if_neg (by decide),if_pos (Or.inr rfl)]);go_wp2_with fail;refine bodyPost_ret (v:=.tuple #[.int .i64 0,.int .i64 7]) (by simp [results,Tryz.f9]) rfl ?_;rw [HDE.out];exact⟨rfl,al E1.out K4.out⟩
   ·have z2:(c2 == 0)=false:=beq_eq_false_iff_ne.2 h2
    have HDE:=ZZ (show DD=rectU (trimF p) (sidesF (aq x y) (ar x y) (aq u v) (ar u v)) 0 from by
     rw [←HD.out];unfold rectE;rw [HZ.out,HC1.out,HC2.out,if_neg (by decide),if_neg (fun e=>e.elim HNE1.out h2)])
    have HRB:=ZZ (HOK.out HZ.out (by rw [HC1.out];exact HNE1.out) (by rw [HC2.out];exact h2));clear h2;go_wp2_with fail;refine(trim_q _ p (by have:=HLP.out;omega) _ (HP.out.mono K4.out)).mono ?_;rintro e w5 ⟨v5,rfl,h5,kk5⟩;obtain⟨AT,nT,cT,rfl,-⟩:=h5.pl.form;have HPT:=ZZ h5.pl;have HLT:=ZZ (show (trimF p).length≤100 from Nat.le_trans (trim_le p) HLP.out);have K5:=ZZ (al K4.out kk5);clear h5 kk5;obtain⟨p0,p1,p2,p3,p4,p5,-⟩:=ai ((K5.out.block _ (lt_of_block R1.out)).trans R1.out);go_wp2_with fail;refine(sorted_p M (by have:=HM.out;omega) _ x y _ (HRE.out.mono K5.out) BX.out BY.out).mono ?_;rintro e w6 ⟨v5,v6,rfl,h5,h6,kk6⟩;obtain⟨s5,A5,k5,ca5,B5,l5,cb5,rfl⟩:=h5.form2;obtain⟨s6,A6,k6,ca6,B6,l6,cb6,rfl⟩:=h6.form2;have N5:=ZZ h5;have N6:=ZZ h6;have K6:=ZZ (al K5.out kk6);have HPT:=ZZ (HPT.out.mono kk6);clear h5 h6 kk6 p0 p1 p2 p3 p4 p5
    go_upto_region 8 with (fail)
    have y1:=ab w6 (.cells #[.bool s5,.slice A5 k5 ca5,.slice B5 l5 cb5] 38);have y2:=ab (w6.alloc (.cells #[.bool s5,.slice A5 k5 ca5,.slice B5 l5 cb5] 38)) (.cells #[.bool s6,.slice A6 k6 ca6,.slice B6 l6 cb6] 38);have r1:=(y2.block _ (lt_of_block (heap_alloc_new w6 (.cells #[.bool s5,.slice A5 k5 ca5,.slice B5 l5 cb5] 38)))).trans (heap_alloc_new w6 (.cells #[.bool s5,.slice A5 k5 ca5,.slice B5 l5 cb5] 38));have r2:=heap_alloc_new (w6.alloc (.cells #[.bool s5,.slice A5 k5 ca5,.slice B5 l5 cb5] 38)) (.cells #[.bool s6,.slice A6 k6 ca6,.slice B6 l6 cb6] 38);rw [World.size_alloc] at r2;have EEA:=ZZ (al y1 y2);have RAa:=ZZ r1;have RAb:=ZZ r2;clear y1 y2 r1 r2;generalize (w6.alloc (.cells #[.bool s5,.slice A5 k5 ca5,.slice B5 l5 cb5] _)).alloc (.cells #[.bool s6,.slice A6 k6 ca6,.slice B6 l6 cb6] _)=W7 at *;obtain⟨gl,hga⟩:∃g,w6.heap.size=g:=⟨_,rfl⟩;obtain⟨gr,hgb⟩:∃g,w6.heap.size+1=g:=⟨_,rfl⟩;rw [hga] at RAa;rw [hgb] at RAb;rw [hgb,hga];clear hga hgb;have K7:=ZZ (al K6.out EEA.out);obtain⟨p0,p1,p2,p3,p4,p5,-⟩:=ai ((K7.out.block _ (lt_of_block R2.out)).trans R2.out);go_wp2_with fail;refine(sorted_p M (by have:=HM.out;omega) _ u v _ (HIM.out.mono K7.out) BU.out BV.out).mono ?_;rintro e w8 ⟨v7,v8,rfl,h7,h8,kk8⟩;obtain⟨s7,A7,k7,ca7,B7,l7,cb7,rfl⟩:=h7.form2;obtain⟨s8,A8,k8,ca8,B8,l8,cb8,rfl⟩:=h8.form2;have N7:=ZZ h7;have N8:=ZZ h8;have KK8:=ZZ kk8;clear h7 h8 kk8 p0 p1 p2 p3 p4 p5
    go_upto_region 9 with (fail)
    have y1:=ab w8 (.cells #[.bool s7,.slice A7 k7 ca7,.slice B7 l7 cb7] 38);have y2:=ab (w8.alloc (.cells #[.bool s7,.slice A7 k7 ca7,.slice B7 l7 cb7] 38)) (.cells #[.bool s8,.slice A8 k8 ca8,.slice B8 l8 cb8] 38);have r1:=(y2.block _ (lt_of_block (heap_alloc_new w8 (.cells #[.bool s7,.slice A7 k7 ca7,.slice B7 l7 cb7] 38)))).trans (heap_alloc_new w8 (.cells #[.bool s7,.slice A7 k7 ca7,.slice B7 l7 cb7] 38));have r2:=heap_alloc_new (w8.alloc (.cells #[.bool s7,.slice A7 k7 ca7,.slice B7 l7 cb7] 38)) (.cells #[.bool s8,.slice A8 k8 ca8,.slice B8 l8 cb8] 38);rw [World.size_alloc] at r2;have EEB:=ZZ (al y1 y2);have RBa:=ZZ r1;have RBb:=ZZ r2;clear y1 y2 r1 r2;generalize (w8.alloc (.cells #[.bool s7,.slice A7 k7 ca7,.slice B7 l7 cb7] _)).alloc (.cells #[.bool s8,.slice A8 k8 ca8,.slice B8 l8 cb8] _)=W9 at *;obtain⟨gw,hga⟩:∃g,w8.heap.size=g:=⟨_,rfl⟩;obtain⟨gh,hgb⟩:∃g,w8.heap.size+1=g:=⟨_,rfl⟩;rw [hga] at RBa;rw [hgb] at RBb;rw [hgb,hga];clear hga hgb;have K9:=ZZ (al K7.out (al KK8.out EEB.out));have M5:=ZZ (N5.out.mono (al EEA.out (al KK8.out EEB.out)));have M6:=ZZ (N6.out.mono (al EEA.out (al KK8.out EEB.out)));have M7:=ZZ (N7.out.mono EEB.out);have M8:=ZZ (N8.out.mono EEB.out);have HPT:=ZZ (HPT.out.mono (al EEA.out (al KK8.out EEB.out)));have Q5:=ZZ (bq_minQ BX.out BY.out);have Q6:=ZZ (bq_maxQ BX.out BY.out);have Q7:=ZZ (bq_minQ BU.out BV.out);have Q8:=ZZ (bq_maxQ BU.out BV.out)
    have HC:=ZZ (show ∀W,Ext W9 W→W.cell? ⟨gl,0,none⟩=some (.bool s5)∧W.cell? ⟨gl,1,none⟩=some (.slice A5 k5 ca5)∧W.cell? ⟨gl,2,none⟩=some (.slice B5 l5 cb5)∧W.cell? ⟨gr,0,none⟩=some (.bool s6)∧W.cell? ⟨gr,1,none⟩=some (.slice A6 k6 ca6)∧W.cell? ⟨gr,2,none⟩=some (.slice B6 l6 cb6)∧W.cell? ⟨gw,0,none⟩=some (.bool s7)∧W.cell? ⟨gw,1,none⟩=some (.slice A7 k7 ca7)∧W.cell? ⟨gw,2,none⟩=some (.slice B7 l7 cb7)∧W.cell? ⟨gh,0,none⟩=some (.bool s8)∧W.cell? ⟨gh,1,none⟩=some (.slice A8 k8 ca8)∧W.cell? ⟨gh,2,none⟩=some (.slice B8 l8 cb8) from fun W k=>by
     have k2:=al KK8.out (al EEB.out k);obtain⟨y0,y1,y2,-⟩:=aj ((k2.block _ (lt_of_block RAa.out)).trans RAa.out);obtain⟨u0,u1,u2,-⟩:=aj ((k2.block _ (lt_of_block RAb.out)).trans RAb.out);obtain⟨t0,t1,t2,-⟩:=aj ((k.block _ (lt_of_block RBa.out)).trans RBa.out);obtain⟨q0,q1,q2,-⟩:=aj ((k.block _ (lt_of_block RBb.out)).trans RBb.out);exact⟨y0,y1,y2,u0,u1,u2,t0,t1,t2,q0,q1,q2⟩)
    obtain⟨lo,hlo⟩:∃q,aq x y=q:=⟨_,rfl⟩;obtain⟨hi,hhi⟩:∃q,ar x y=q:=⟨_,rfl⟩;obtain⟨dn,hdn⟩:∃q,aq u v=q:=⟨_,rfl⟩;obtain⟨up,hup⟩:∃q,ar u v=q:=⟨_,rfl⟩;rw [hlo,hhi,hdn,hup] at HDE HRB;rw [hlo] at M5 Q5;rw [hhi] at M6 Q6;rw [hdn] at M7 Q7;rw [hup] at M8 Q8;clear hlo hhi hdn hup HD HOK HP HRE HIM X1 X2 X3 X4 R1 R2 N5 N6 N7 N8 K2 K3 K4 K5 K6 K7 KK8 EEA EEB RAa RAb RBa RBb HC1 HC2 HNE1 z1 z2;refine wp_region_noPanic ?_;refine wp_region_held_drew (S:=fun W=>W.cell? ⟨gl,0,none⟩=some (.bool s5)∧W.cell? ⟨gl,1,none⟩=some (.slice A5 k5 ca5)∧W.cell? ⟨gl,2,none⟩=some (.slice B5 l5 cb5)∧W.cell? ⟨gr,0,none⟩=some (.bool s6)∧W.cell? ⟨gr,1,none⟩=some (.slice A6 k6 ca6)∧W.cell? ⟨gr,2,none⟩=some (.slice B6 l6 cb6)∧W.cell? ⟨gw,0,none⟩=some (.bool s7)∧W.cell? ⟨gw,1,none⟩=some (.slice A7 k7 ca7)∧W.cell? ⟨gw,2,none⟩=some (.slice B7 l7 cb7)∧W.cell? ⟨gh,0,none⟩=some (.bool s8)∧W.cell? ⟨gh,1,none⟩=some (.slice A8 k8 ca8)∧W.cell? ⟨gh,2,none⟩=some (.slice B8 l8 cb8)) (by kernel_rfl) (HC.out _ (ac _)) (fun hHeld=>?_);refine take_a 1 56 ?_;refine take_a 3 58 ?_;refine take_a 4 59 ?_;refine take_a 6 61 ?_;refine take_a 9 64 ?_;refine take_a 10 65 ?_;refine take_a 13 68 ?_;refine take_a 15 70 ?_;refine take_a 16 71 ?_;refine take_a 18 73 ?_;refine take_a 21 76 ?_;refine take_a 22 77 ?_
    refine free_q (J:=fun D y W=>Hid (Ext W9 W)∧Fc (D 0) (PlT W (y 0) [0,1])∧Fc (D 8) (PlT W (y 8) [0,1])∧Fc (D 12) (PlT W (y 12) [0,1])∧Fc (D 20) (PlT W (y 20) [0,1])∧Fc (D 2) (PlT W (y 2) [dn])∧Fc (D 7) (PlT W (y 7) [hi])∧Fc (D 14) (PlT W (y 14) [up])∧Fc (D 19) (PlT W (y 19) [lo])∧Fc (D 5) (SdV W (y 5) ([0,1],[dn],lo,hi))∧Fc (D 11) (SdV W (y 11) ([hi],[0,1],dn,up))∧Fc (D 17) (SdV W (y 17) ([0,1],[up],hi,lo))∧Fc (D 23) (SdV W (y 23) ([lo],[0,1],up,dn))∧Fc (D 24) (Sd4V W (y 24) lo hi dn up)∧Fc (D 25) (Nw W9 W (y 25) (.cells #[Value.slice none 0 0,Value.slice none 0 0,.bool false,.slice none 0 0,.slice none 0 0,.bool false,.slice none 0 0,.slice none 0 0,Value.slice none 0 0,Value.slice none 0 0,.bool false,.slice none 0 0,.slice none 0 0,.bool false,.slice none 0 0,.slice none 0 0,Value.slice none 0 0,Value.slice none 0 0,.bool false,.slice none 0 0,.slice none 0 0,.bool false,.slice none 0 0,.slice none 0 0,Value.slice none 0 0,Value.slice none 0 0,.bool false,.slice none 0 0,.slice none 0 0,.bool false,.slice none 0 0,.slice none 0 0] 77))) [(0,55),(2,57),(5,60),(7,62),(8,63),(11,66),(12,67),(14,69),(17,72),(19,74),(20,75),(23,78),(24,79),(25,13)] 1 rfl (by kernel_rfl) (by kernel_rfl) (by assumption) (fun D y hD=>⟨ZZ (ac _),Fc.off (hD 0 (by simp)),Fc.off (hD 8 (by simp)),Fc.off (hD 12 (by simp)),Fc.off (hD 20 (by simp)),Fc.off (hD 2 (by simp)),Fc.off (hD 7 (by simp)),Fc.off (hD 14 (by simp)),Fc.off (hD 19 (by simp)),Fc.off (hD 5 (by simp)),Fc.off (hD 11 (by simp)),Fc.off (hD 17 (by simp)),Fc.off (hD 23 (by simp)),Fc.off (hD 24 (by simp)),Fc.off (hD 25 (by simp))⟩) (met_cons ?mt0 (met_cons ?mt2 (met_cons ?mt5 (met_cons ?mt7 (met_cons ?mt8 (met_cons ?mt11 (met_cons ?mt12 (met_cons ?mt14 (met_cons ?mt17 (met_cons ?mt19 (met_cons ?mt20 (met_cons ?mt23 (met_cons ?mt24 (met_cons ?mt25 met_nil)))))))))))))) (fun D y w hD hHeld hJ=>?fin)
    case mt0=>
     refine Met.mq [] 55 rfl rfl (by kernel_rfl) (by kernel_rfl) (fun D y w hS hJ hD hd K hK=>?_);obtain⟨he,f0,f8,f12,f20,f2,f7,f14,f19,f5,f11,f17,f23,f24,f25⟩:=hJ
     simp only [putsL,allOf,lyD,lyE,lyF,lyG,Act.put,lyA,lyB,lyC]
     go_simp
     go_at_call 26
     refine(line_t _).mono ?_;rintro e X ⟨vr0,rfl,hv,kv⟩
     try go_wp2_with fail
     refine hK.out vr0 _ _ (by kernel_rfl) (HC.out _ (al he.out kv)) (fun hHeld=>?_);exact⟨ZZ (al he.out kv),Fc.on hv,f8.map (·.mono kv),f12.map (·.mono kv),f20.map (·.mono kv),f2.map (·.mono kv),f7.map (·.mono kv),f14.map (·.mono kv),f19.map (·.mono kv),f5.map (·.mono kv),f11.map (·.mono kv),f17.map (·.mono kv),f23.map (·.mono kv),f24.map (·.mono kv),f25.map (·.mono kv)⟩
    case mt2=>
     refine Met.mq [] 57 rfl rfl (by kernel_rfl) (by kernel_rfl) (fun D y w hS hJ hD hd K hK=>?_);obtain⟨he,f0,f8,f12,f20,f2,f7,f14,f19,f5,f11,f17,f23,f24,f25⟩:=hJ
     simp only [putsL,allOf,lyD,lyE,lyF,lyG,Act.put,lyA,lyB,lyC]
     go_simp
     refine hK.out (.slice (some ⟨w.heap.size,0,none⟩) 1 1) _ _ (by kernel_rfl) (HC.out _ (al he.out (ab _ _))) (fun hHeld=>?_);exact⟨ZZ (al he.out (ab _ _)),f0.map (·.mono (ab _ _)),f8.map (·.mono (ab _ _)),f12.map (·.mono (ab _ _)),f20.map (·.mono (ab _ _)),Fc.on (plt_one (M7.out.mono he.out)),f7.map (·.mono (ab _ _)),f14.map (·.mono (ab _ _)),f19.map (·.mono (ab _ _)),f5.map (·.mono (ab _ _)),f11.map (·.mono (ab _ _)),f17.map (·.mono (ab _ _)),f23.map (·.mono (ab _ _)),f24.map (·.mono (ab _ _)),f25.map (·.mono (ab _ _))⟩
    case mt5=>
     refine Met.mq [0,2] 60 rfl rfl (by kernel_rfl) (by kernel_rfl) (fun D y w hS hJ hD hd K hK=>?_);obtain⟨he,f0,f8,f12,f20,f2,f7,f14,f19,f5,f11,f17,f23,f24,f25⟩:=hJ
     simp only [putsL,allOf,lyD,lyE,lyF,lyG,Act.put,lyA,lyB,lyC]
     obtain⟨Ax,nx,cx,hza⟩:=(f0.get (hd 0 (by simp))).form;obtain⟨Ay,ny,cy,hzb⟩:=(f2.get (hd 2 (by simp))).form;have hpa:=f0.get (hd 0 (by simp));have hpb:=f2.get (hd 2 (by simp));rw [hza] at hpa ⊢;rw [hzb] at hpb ⊢
     go_simp
     refine hK.out (.agg (List.toArray [.slice Ax nx cx,.slice Ay ny cy,.bool s5,.slice A5 k5 ca5,.slice B5 l5 cb5,.bool s6,.slice A6 k6 ca6,.slice B6 l6 cb6])) _ _ (by simp only [putsL,allOf,lyD,lyE,lyF,lyG,Act.put,lyA,lyB,lyC];rw [hza,hzb]) (HC.out _ he.out) (fun hHeld=>?_);exact⟨he,f0,f8,f12,f20,f2,f7,f14,f19,Fc.on ⟨[.slice Ax nx cx,.slice Ay ny cy,.bool s5,.slice A5 k5 ca5,.slice B5 l5 cb5,.bool s6,.slice A6 k6 ca6,.slice B6 l6 cb6],rfl,_,_,_,_,_,_,_,_,_,_,_,_,_,_,_,_,_,_,_,_,rfl,hpa,hpb,M5.out.mono he.out,M6.out.mono he.out⟩,f11,f17,f23,f24,f25⟩
    case mt7=>
     refine Met.mq [] 62 rfl rfl (by kernel_rfl) (by kernel_rfl) (fun D y w hS hJ hD hd K hK=>?_);obtain⟨he,f0,f8,f12,f20,f2,f7,f14,f19,f5,f11,f17,f23,f24,f25⟩:=hJ
     simp only [putsL,allOf,lyD,lyE,lyF,lyG,Act.put,lyA,lyB,lyC]
     go_simp
     refine hK.out (.slice (some ⟨w.heap.size,0,none⟩) 1 1) _ _ (by kernel_rfl) (HC.out _ (al he.out (ab _ _))) (fun hHeld=>?_);exact⟨ZZ (al he.out (ab _ _)),f0.map (·.mono (ab _ _)),f8.map (·.mono (ab _ _)),f12.map (·.mono (ab _ _)),f20.map (·.mono (ab _ _)),f2.map (·.mono (ab _ _)),Fc.on (plt_one (M6.out.mono he.out)),f14.map (·.mono (ab _ _)),f19.map (·.mono (ab _ _)),f5.map (·.mono (ab _ _)),f11.map (·.mono (ab _ _)),f17.map (·.mono (ab _ _)),f23.map (·.mono (ab _ _)),f24.map (·.mono (ab _ _)),f25.map (·.mono (ab _ _))⟩
    case mt8=>
     refine Met.mq [0] 63 rfl rfl (by kernel_rfl) (by kernel_rfl) (fun D y w hS hJ hD hd K hK=>?_);obtain⟨he,f0,f8,f12,f20,f2,f7,f14,f19,f5,f11,f17,f23,f24,f25⟩:=hJ
     simp only [putsL,allOf,lyD,lyE,lyF,lyG,Act.put,lyA,lyB,lyC]
     go_simp
     go_at_call 26
     refine(line_t _).mono ?_;rintro e X ⟨vr8,rfl,hv,kv⟩
     try go_wp2_with fail
     refine hK.out vr8 _ _ (by kernel_rfl) (HC.out _ (al he.out kv)) (fun hHeld=>?_);exact⟨ZZ (al he.out kv),f0.map (·.mono kv),Fc.on hv,f12.map (·.mono kv),f20.map (·.mono kv),f2.map (·.mono kv),f7.map (·.mono kv),f14.map (·.mono kv),f19.map (·.mono kv),f5.map (·.mono kv),f11.map (·.mono kv),f17.map (·.mono kv),f23.map (·.mono kv),f24.map (·.mono kv),f25.map (·.mono kv)⟩
    case mt11=>
     refine Met.mq [7,8] 66 rfl rfl (by kernel_rfl) (by kernel_rfl) (fun D y w hS hJ hD hd K hK=>?_);obtain⟨he,f0,f8,f12,f20,f2,f7,f14,f19,f5,f11,f17,f23,f24,f25⟩:=hJ
     simp only [putsL,allOf,lyD,lyE,lyF,lyG,Act.put,lyA,lyB,lyC]
     obtain⟨Ax,nx,cx,hza⟩:=(f7.get (hd 7 (by simp))).form;obtain⟨Ay,ny,cy,hzb⟩:=(f8.get (hd 8 (by simp))).form;have hpa:=f7.get (hd 7 (by simp));have hpb:=f8.get (hd 8 (by simp));rw [hza] at hpa ⊢;rw [hzb] at hpb ⊢
     go_simp
     refine hK.out (.agg (List.toArray [.slice Ax nx cx,.slice Ay ny cy,.bool s7,.slice A7 k7 ca7,.slice B7 l7 cb7,.bool s8,.slice A8 k8 ca8,.slice B8 l8 cb8])) _ _ (by simp only [putsL,allOf,lyD,lyE,lyF,lyG,Act.put,lyA,lyB,lyC];rw [hza,hzb]) (HC.out _ he.out) (fun hHeld=>?_);exact⟨he,f0,f8,f12,f20,f2,f7,f14,f19,f5,Fc.on ⟨[.slice Ax nx cx,.slice Ay ny cy,.bool s7,.slice A7 k7 ca7,.slice B7 l7 cb7,.bool s8,.slice A8 k8 ca8,.slice B8 l8 cb8],rfl,_,_,_,_,_,_,_,_,_,_,_,_,_,_,_,_,_,_,_,_,rfl,hpa,hpb,M7.out.mono he.out,M8.out.mono he.out⟩,f17,f23,f24,f25⟩
    case mt12=>
     refine Met.mq [8] 67 rfl rfl (by kernel_rfl) (by kernel_rfl) (fun D y w hS hJ hD hd K hK=>?_);obtain⟨he,f0,f8,f12,f20,f2,f7,f14,f19,f5,f11,f17,f23,f24,f25⟩:=hJ
     simp only [putsL,allOf,lyD,lyE,lyF,lyG,Act.put,lyA,lyB,lyC]
     go_simp
     go_at_call 26
     refine(line_t _).mono ?_;rintro e X ⟨vr12,rfl,hv,kv⟩
     try go_wp2_with fail
     refine hK.out vr12 _ _ (by kernel_rfl) (HC.out _ (al he.out kv)) (fun hHeld=>?_);exact⟨ZZ (al he.out kv),f0.map (·.mono kv),f8.map (·.mono kv),Fc.on hv,f20.map (·.mono kv),f2.map (·.mono kv),f7.map (·.mono kv),f14.map (·.mono kv),f19.map (·.mono kv),f5.map (·.mono kv),f11.map (·.mono kv),f17.map (·.mono kv),f23.map (·.mono kv),f24.map (·.mono kv),f25.map (·.mono kv)⟩
    case mt14=>
     refine Met.mq [] 69 rfl rfl (by kernel_rfl) (by kernel_rfl) (fun D y w hS hJ hD hd K hK=>?_);obtain⟨he,f0,f8,f12,f20,f2,f7,f14,f19,f5,f11,f17,f23,f24,f25⟩:=hJ
     simp only [putsL,allOf,lyD,lyE,lyF,lyG,Act.put,lyA,lyB,lyC]
     go_simp
     refine hK.out (.slice (some ⟨w.heap.size,0,none⟩) 1 1) _ _ (by kernel_rfl) (HC.out _ (al he.out (ab _ _))) (fun hHeld=>?_);exact⟨ZZ (al he.out (ab _ _)),f0.map (·.mono (ab _ _)),f8.map (·.mono (ab _ _)),f12.map (·.mono (ab _ _)),f20.map (·.mono (ab _ _)),f2.map (·.mono (ab _ _)),f7.map (·.mono (ab _ _)),Fc.on (plt_one (M8.out.mono he.out)),f19.map (·.mono (ab _ _)),f5.map (·.mono (ab _ _)),f11.map (·.mono (ab _ _)),f17.map (·.mono (ab _ _)),f23.map (·.mono (ab _ _)),f24.map (·.mono (ab _ _)),f25.map (·.mono (ab _ _))⟩
    case mt17=>
     refine Met.mq [12,14] 72 rfl rfl (by kernel_rfl) (by kernel_rfl) (fun D y w hS hJ hD hd K hK=>?_);obtain⟨he,f0,f8,f12,f20,f2,f7,f14,f19,f5,f11,f17,f23,f24,f25⟩:=hJ
     simp only [putsL,allOf,lyD,lyE,lyF,lyG,Act.put,lyA,lyB,lyC]
     obtain⟨Ax,nx,cx,hza⟩:=(f12.get (hd 12 (by simp))).form;obtain⟨Ay,ny,cy,hzb⟩:=(f14.get (hd 14 (by simp))).form;have hpa:=f12.get (hd 12 (by simp));have hpb:=f14.get (hd 14 (by simp));rw [hza] at hpa ⊢;rw [hzb] at hpb ⊢
     go_simp
     refine hK.out (.agg (List.toArray [.slice Ax nx cx,.slice Ay ny cy,.bool s6,.slice A6 k6 ca6,.slice B6 l6 cb6,.bool s5,.slice A5 k5 ca5,.slice B5 l5 cb5])) _ _ (by simp only [putsL,allOf,lyD,lyE,lyF,lyG,Act.put,lyA,lyB,lyC];rw [hza,hzb]) (HC.out _ he.out) (fun hHeld=>?_);exact⟨he,f0,f8,f12,f20,f2,f7,f14,f19,f5,f11,Fc.on ⟨[.slice Ax nx cx,.slice Ay ny cy,.bool s6,.slice A6 k6 ca6,.slice B6 l6 cb6,.bool s5,.slice A5 k5 ca5,.slice B5 l5 cb5],rfl,_,_,_,_,_,_,_,_,_,_,_,_,_,_,_,_,_,_,_,_,rfl,hpa,hpb,M6.out.mono he.out,M5.out.mono he.out⟩,f23,f24,f25⟩
    case mt19=>
     refine Met.mq [] 74 rfl rfl (by kernel_rfl) (by kernel_rfl) (fun D y w hS hJ hD hd K hK=>?_);obtain⟨he,f0,f8,f12,f20,f2,f7,f14,f19,f5,f11,f17,f23,f24,f25⟩:=hJ
     simp only [putsL,allOf,lyD,lyE,lyF,lyG,Act.put,lyA,lyB,lyC]
     go_simp
     refine hK.out (.slice (some ⟨w.heap.size,0,none⟩) 1 1) _ _ (by kernel_rfl) (HC.out _ (al he.out (ab _ _))) (fun hHeld=>?_);exact⟨ZZ (al he.out (ab _ _)),f0.map (·.mono (ab _ _)),f8.map (·.mono (ab _ _)),f12.map (·.mono (ab _ _)),f20.map (·.mono (ab _ _)),f2.map (·.mono (ab _ _)),f7.map (·.mono (ab _ _)),f14.map (·.mono (ab _ _)),Fc.on (plt_one (M5.out.mono he.out)),f5.map (·.mono (ab _ _)),f11.map (·.mono (ab _ _)),f17.map (·.mono (ab _ _)),f23.map (·.mono (ab _ _)),f24.map (·.mono (ab _ _)),f25.map (·.mono (ab _ _))⟩
    case mt20=>
     refine Met.mq [12] 75 rfl rfl (by kernel_rfl) (by kernel_rfl) (fun D y w hS hJ hD hd K hK=>?_);obtain⟨he,f0,f8,f12,f20,f2,f7,f14,f19,f5,f11,f17,f23,f24,f25⟩:=hJ
     simp only [putsL,allOf,lyD,lyE,lyF,lyG,Act.put,lyA,lyB,lyC]
     go_simp
     go_at_call 26
     refine(line_t _).mono ?_;rintro e X ⟨vr20,rfl,hv,kv⟩
     try go_wp2_with fail
     refine hK.out vr20 _ _ (by kernel_rfl) (HC.out _ (al he.out kv)) (fun hHeld=>?_);exact⟨ZZ (al he.out kv),f0.map (·.mono kv),f8.map (·.mono kv),f12.map (·.mono kv),Fc.on hv,f2.map (·.mono kv),f7.map (·.mono kv),f14.map (·.mono kv),f19.map (·.mono kv),f5.map (·.mono kv),f11.map (·.mono kv),f17.map (·.mono kv),f23.map (·.mono kv),f24.map (·.mono kv),f25.map (·.mono kv)⟩
    case mt23=>
     refine Met.mq [19,20] 78 rfl rfl (by kernel_rfl) (by kernel_rfl) (fun D y w hS hJ hD hd K hK=>?_);obtain⟨he,f0,f8,f12,f20,f2,f7,f14,f19,f5,f11,f17,f23,f24,f25⟩:=hJ
     simp only [putsL,allOf,lyD,lyE,lyF,lyG,Act.put,lyA,lyB,lyC]
     obtain⟨Ax,nx,cx,hza⟩:=(f19.get (hd 19 (by simp))).form;obtain⟨Ay,ny,cy,hzb⟩:=(f20.get (hd 20 (by simp))).form;have hpa:=f19.get (hd 19 (by simp));have hpb:=f20.get (hd 20 (by simp));rw [hza] at hpa ⊢;rw [hzb] at hpb ⊢
     go_simp
     refine hK.out (.agg (List.toArray [.slice Ax nx cx,.slice Ay ny cy,.bool s8,.slice A8 k8 ca8,.slice B8 l8 cb8,.bool s7,.slice A7 k7 ca7,.slice B7 l7 cb7])) _ _ (by simp only [putsL,allOf,lyD,lyE,lyF,lyG,Act.put,lyA,lyB,lyC];rw [hza,hzb]) (HC.out _ he.out) (fun hHeld=>?_);exact⟨he,f0,f8,f12,f20,f2,f7,f14,f19,f5,f11,f17,Fc.on ⟨[.slice Ax nx cx,.slice Ay ny cy,.bool s8,.slice A8 k8 ca8,.slice B8 l8 cb8,.bool s7,.slice A7 k7 ca7,.slice B7 l7 cb7],rfl,_,_,_,_,_,_,_,_,_,_,_,_,_,_,_,_,_,_,_,_,rfl,hpa,hpb,M8.out.mono he.out,M7.out.mono he.out⟩,f24,f25⟩
    case mt24=>
     refine Met.mq [5,11,17,23] 79 rfl rfl (by kernel_rfl) (by kernel_rfl) (fun D y w hS hJ hD hd K hK=>?_);obtain⟨he,f0,f8,f12,f20,f2,f7,f14,f19,f5,f11,f17,f23,f24,f25⟩:=hJ
     simp only [putsL,allOf,lyD,lyE,lyF,lyG,Act.put,lyA,lyB,lyC]
     obtain⟨q0,hz0,hs0⟩:=f5.get (hd 5 (by simp));have hq0:=hs0;obtain⟨a0,a1,a2,a3,a4,a5,a6,a7,a8,a9,a10,a11,a12,a13,a14,a15,a16,a17,a18,a19,rfl,-⟩:=hs0;obtain⟨q1,hz1,hs1⟩:=f11.get (hd 11 (by simp));have hq1:=hs1;obtain⟨b0,b1,b2,b3,b4,b5,b6,b7,b8,b9,b10,b11,b12,b13,b14,b15,b16,b17,b18,b19,rfl,-⟩:=hs1;obtain⟨q2,hz2,hs2⟩:=f17.get (hd 17 (by simp));have hq2:=hs2;obtain⟨c0,c1,c2,c3,c4,c5,c6,c7,c8,c9,c10,c11,c12,c13,c14,c15,c16,c17,c18,c19,rfl,-⟩:=hs2;obtain⟨q3,hz3,hs3⟩:=f23.get (hd 23 (by simp));have hq3:=hs3;obtain⟨d0,d1,d2,d3,d4,d5,d6,d7,d8,d9,d10,d11,d12,d13,d14,d15,d16,d17,d18,d19,rfl,-⟩:=hs3;rw [hz0,hz1,hz2,hz3]
     go_simp
     refine hK.out (.agg (List.toArray (([.slice a0 a1 a2,.slice a3 a4 a5,.bool a6,.slice a7 a8 a9,.slice a10 a11 a12,.bool a13,.slice a14 a15 a16,.slice a17 a18 a19]:List Value) ++ ([.slice b0 b1 b2,.slice b3 b4 b5,.bool b6,.slice b7 b8 b9,.slice b10 b11 b12,.bool b13,.slice b14 b15 b16,.slice b17 b18 b19]:List Value) ++ ([.slice c0 c1 c2,.slice c3 c4 c5,.bool c6,.slice c7 c8 c9,.slice c10 c11 c12,.bool c13,.slice c14 c15 c16,.slice c17 c18 c19]:List Value) ++ ([.slice d0 d1 d2,.slice d3 d4 d5,.bool d6,.slice d7 d8 d9,.slice d10 d11 d12,.bool d13,.slice d14 d15 d16,.slice d17 d18 d19]:List Value)))) _ _ (by simp only [putsL,allOf,lyD,lyE,lyF,lyG,Act.put,lyA,lyB,lyC];simp only [hz0,hz1,hz2,hz3,List.cons_append,List.nil_append]) (HC.out _ he.out) (fun hHeld=>?_);exact⟨he,f0,f8,f12,f20,f2,f7,f14,f19,f5,f11,f17,f23,Fc.on ⟨_,rfl,_,_,_,_,rfl,hq0,hq1,hq2,hq3⟩,f25⟩
    case mt25=>
     refine Met.mq [] 13 rfl rfl (by kernel_rfl) (by kernel_rfl) (fun D y w hS hJ hD hd K hK=>?_);obtain⟨he,f0,f8,f12,f20,f2,f7,f14,f19,f5,f11,f17,f23,f24,f25⟩:=hJ
     simp only [putsL,allOf,lyD,lyE,lyF,lyG,Act.put,lyA,lyB,lyC]
     go_simp
     refine hK.out (.pointer (some ⟨w.heap.size,0,none⟩)) _ _ (by kernel_rfl) (HC.out _ (al he.out (ab _ _))) (fun hHeld=>?_);exact⟨ZZ (al he.out (ab _ _)),f0.map (·.mono (ab _ _)),f8.map (·.mono (ab _ _)),f12.map (·.mono (ab _ _)),f20.map (·.mono (ab _ _)),f2.map (·.mono (ab _ _)),f7.map (·.mono (ab _ _)),f14.map (·.mono (ab _ _)),f19.map (·.mono (ab _ _)),f5.map (·.mono (ab _ _)),f11.map (·.mono (ab _ _)),f17.map (·.mono (ab _ _)),f23.map (·.mono (ab _ _)),f24.map (·.mono (ab _ _)),Fc.on (Nw.new he.out _)⟩
    case fin=>
     obtain⟨he,f0,f8,f12,f20,f2,f7,f14,f19,f5,f11,f17,f23,f24,f25⟩:=hJ;have n24:=f24.get (hD 24 (by simp));have n25:=f25.get (hD 25 (by simp))
     simp only [putsL,allOf,lyD,lyE,lyF,lyG,Act.put,lyA,lyB,lyC]
     clear f0 f8 f12 f20 f2 f7 f14 f19 f5 f11 f17 f23 f24 f25 hD;generalize y 24=z24 at n24 ⊢;generalize y 25=z25 at n25 ⊢;obtain⟨cs,rfl,hs4⟩:=n24;obtain⟨g13,rfl,hg13,hrow⟩:=n25;have HLC:=ZZ hs4.len;have hth:w.there g13 0 cs.length:=by rw [HLC.out];exact there_row hrow
     have hnu:NoU w g13 cs.length:=by rw [HLC.out];exact noU_arr hrow (by kernel_rfl)
     have E10:=ZZ (ext_setCells hg13 cs 0 w he.out);have S10:=ZZ (hs4.setCells hnu hrow (by decide));have RG:=ZZ (World.rangeAt_setCells_same w g13 0 cs hth);have HTH:=ZZ hth;have HON:=ZZ (all_oneCell_toArray hs4.one);clear hs4 hth hnu hrow hg13 he;refine call_p (i:=26) none rfl rfl (by kernel_rfl) (fun K hK=>?_);refine(if_pos (show Region.wanted _ _=true from rfl)).mpr ?_;refine wp_store_mid 77 _ _ rfl g13 0 cs.toArray rfl rfl (by rw [List.size_toArray];exact HTH.out) (by rw [List.size_toArray,HLC.out];kernel_rfl) HON.out ?_
     try simp only [Act.put,lyA,lyB,lyC]
     refine hK.out _ _ (HC.out _ E10.out) (fun hHeld=>?_);clear hK K
     try simp only [Act.put,lyA,lyB,lyC]
     refine wpAnyH_done (by kernel_rfl) ?_ _;refine NoPanic.normal ?_;generalize w.setCells g13 0 cs=W10 at *;clear hHeld HTH HON
     go_upto_region 11 with (fail)
     go_wp2_with (refine wpList_load_mid rfl 77 _ rfl g13 0 rfl cs (.array 4 76) RG.out (by kernel_rfl) rfl (by rw [HLC.out];kernel_rfl) ?_)
     go_loopg [81,14] 4 (fun k i tv wr=>∃(j:Nat) (t:Int),Hid (j+k=4)∧i=.int .i64 (j:Int)∧tv=.int .i64 t∧Hid (rectU (trimF p) ((sidesF lo hi dn up).drop j) t=DD)∧Hid (-2000000*(j:Int)≤t∧t≤2000000*(j:Int))∧Hid (Ext W10 wr))
     case atStart=>exact⟨0,0,ZZ rfl,rfl,rfl,ZZ HDE.out.symm,ZZ ⟨Int.le_refl _,Int.le_refl _⟩,ZZ (ae _)⟩
     case round=>
      obtain⟨j,t,HJ,rfl,rfl,HU,HB,HE⟩:=hrel;rename World=>WR
      rcases Nat.eq_zero_or_pos gk with hz|hz
      ·subst hz
       obtain rfl:j=4:=HJ.out;have q1:decide (((4:Nat):Int)<4)=false:=rfl;have HDT:=ZZ (show DD=(t.tdiv 4,0) from HU.out.symm);obtain⟨t4,ht4⟩:∃z,t.tdiv 4=z:=⟨_,rfl⟩
       have q2:IntKind.i64.wrap t4=t4:=by
        have h:=HB.out;have h1:=Int.mul_tdiv_add_tmod t 4;have h2:=Int.tmod_lt_of_pos t (show (0:Int)<4 by decide);have h3:=Int.lt_tmod_of_pos t (show (0:Int)<4 by decide);rw [ht4] at h1;exact IntWalk.i64_in _ (by omega)
       go_wp2_with fail;refine bodyPost_ret (v:=.tuple #[.int .i64 t4,.int .i64 0]) (by simp [results,Tryz.f9]) rfl ?_
       rw [HDT.out,ht4];exact⟨rfl,al E1.out (al K9.out (al E10.out HE.out))⟩
      ·have hj4:j<4:=by have:=HJ.out;omega
       have q1:decide ((j:Int)<4)=true:=decide_eq_true (by omega);have q4:(j:Int)<4:=by omega
       have q5:(0:Int)≤(j:Int):=by omega
       obtain⟨c8,sd,hsd,hex,hS⟩:=S10.out.at_ hj4;obtain⟨X,Y,a,b⟩:=sd;obtain⟨A9,n9,c9,B9,l9,d9,s10,A10,k10,ca10,B10,l10,cb10,s11,A11,k11,ca11,B11,l11,cb11,rfl,hP1,hP2,hN1,hN2⟩:=hS.mono HE.out;have hsm:=List.mem_of_getElem? hsd;have hbq:=side_bq hsm Q5.out Q6.out Q7.out Q8.out;have hrb:=List.all_eq_true.1 HRB.out _ hsm;obtain⟨f,hf⟩:∃f,(alongU X Y (trimF p)).1=f:=⟨_,rfl⟩;obtain⟨h,hh⟩:∃h,(alongU X Y (trimF p)).2=h:=⟨_,rfl⟩;unfold rectB1 at hrb
       dsimp only at hrb hbq hP1 hP2 hN1 hN2
       rw [hf,hh] at hrb
       simp only [Bool.and_eq_true,decide_eq_true_eq] at hrb
       obtain⟨⟨⟨⟨⟨⟨⟨⟨o1,o2⟩,o3⟩,o4⟩,o5⟩,o6⟩,o7⟩,o8⟩,o9⟩:=hrb;have HAL:=ZZ o1;have HLF:=ZZ o2;have HLH:=ZZ o3;have HCO:=ZZ o4;have HLC2:=ZZ o5;have HSM:=ZZ (sm_of o6);have HOW:=ZZ o7;have HCH:=ZZ o8;have HCB:=ZZ o9;have BA:=ZZ hbq.1;have BB:=ZZ hbq.2;have HFF:=ZZ hf;have HHH:=ZZ hh
       have hd:(sidesF lo hi dn up).drop j=(X,Y,a,b) :: (sidesF lo hi dn up).drop (j+1):=by
        obtain⟨g1,e1⟩:=List.getElem?_eq_some_iff.1 hsd;rw [List.drop_eq_getElem_cons g1,e1]
       have HUU:=ZZ (show rectU (trimF p) ((X,Y,a,b) :: (sidesF lo hi dn up).drop (j+1)) t=DD from by rw [←hd];exact HU.out);have HEX:=ZZ hex;have E8:=ZZ (ab WR (.cells #[.slice A9 n9 c9,.slice B9 l9 d9,.bool s10,.slice A10 k10 ca10,.slice B10 l10 cb10,.bool s11,.slice A11 k11 ca11,.slice B11 l11 cb11] 76));have R8:=heap_alloc_new WR (.cells #[.slice A9 n9 c9,.slice B9 l9 d9,.bool s10,.slice A10 k10 ca10,.slice B10 l10 cb10,.bool s11,.slice A11 k11 ca11,.slice B11 l11 cb11] 76);have P1:=ZZ (hP1.pl.mono E8.out);have P2:=ZZ (hP2.pl.mono E8.out);have NA:=ZZ (hN1.mono E8.out);have NB:=ZZ (hN2.mono E8.out);have HZK:=ZZ hz;have HJ4:=ZZ hj4;clear hsd hS hsm hbq hf hh o1 o2 o3 o4 o5 o6 o7 o8 o9 hd HU hP1 hP2 hN1 hN2 hz hj4
       go_upto_region 14 with (fail)
       generalize WR.alloc (.cells #[.slice A9 n9 c9,.slice B9 l9 d9,.bool s10,.slice A10 k10 ca10,.slice B10 l10 cb10,.bool s11,.slice A11 k11 ca11,.slice B11 l11 cb11] _)=WA at *;obtain⟨gs,hgs⟩:∃g,WR.heap.size=g:=⟨_,rfl⟩;rw [hgs] at R8;rw [hgs]
       have HC8:=ZZ (show ∀W,Ext WA W→W.cell? ⟨gs,0,none⟩=some (.slice A9 n9 c9)∧W.cell? ⟨gs,1,none⟩=some (.slice B9 l9 d9)∧W.cell? ⟨gs,2,none⟩=some (.bool s10)∧W.cell? ⟨gs,3,none⟩=some (.slice A10 k10 ca10)∧W.cell? ⟨gs,4,none⟩=some (.slice B10 l10 cb10)∧W.cell? ⟨gs,5,none⟩=some (.bool s11)∧W.cell? ⟨gs,6,none⟩=some (.slice A11 k11 ca11)∧W.cell? ⟨gs,7,none⟩=some (.slice B11 l11 cb11) from fun W k=>by
        have r:=(k.block _ (lt_of_block R8)).trans R8;refine⟨?_,?_,?_,?_,?_,?_,?_,?_⟩ <;> (rw [cell_of_row _ _ _ _ _ _ r];rfl))
       clear hgs R8 hex HEX;obtain⟨p0,p1,p2,p3,p4,p5,p6,p7⟩:=HC8.out WA (ae _);go_wp2_with fail;refine(along_p M HM0.out HM.out _ _ _ (trimF p) X Y (by have:=HLT.out;omega) _ (HPT.out.mono (al E10.out (al HE.out E8.out))) P1.out P2.out HAL.out).mono ?_;rintro e w3 ⟨vf,vh,rfl,hpf,hph,kk3⟩;rw [HFF.out] at hpf;rw [HHH.out] at hph;obtain⟨Af,nf,cf,rfl,-⟩:=hpf.form;obtain⟨Ah,nh,ch,rfl,hnh⟩:=hph.form;have PF:=ZZ hpf;have PH:=ZZ hph;have HNH:=ZZ (show h.length=nh from pl_len hph);have K3:=ZZ kk3;clear hpf hph kk3 hnh p0 p1 p2 p3 p4 p5 p6 p7
       go_upto_region 15 with (fail)
       have HCc:=ZZ (show ∀W,Ext w3 W→W.cell? ⟨gs,0,none⟩=some (.slice A9 n9 c9)∧W.cell? ⟨gs,1,none⟩=some (.slice B9 l9 d9)∧W.cell? ⟨gs,2,none⟩=some (.bool s10)∧W.cell? ⟨gs,3,none⟩=some (.slice A10 k10 ca10)∧W.cell? ⟨gs,4,none⟩=some (.slice B10 l10 cb10)∧W.cell? ⟨gs,5,none⟩=some (.bool s11)∧W.cell? ⟨gs,6,none⟩=some (.slice A11 k11 ca11)∧W.cell? ⟨gs,7,none⟩=some (.slice B11 l11 cb11) from fun W k=>HC8.out W (al K3.out k));obtain⟨zi,hzi⟩:∃z,insideF (commonF f h) a b=z:=⟨_,rfl⟩;have HZI:=ZZ hzi;clear hzi;obtain⟨bi,hbi⟩:∃t,decide ((0:Int)<zi)=t:=⟨_,rfl⟩;have HBI:=ZZ hbi;refine wp_region_noPanic ?_;refine wp_region_held_drew (S:=fun W=>W.cell? ⟨gs,0,none⟩=some (.slice A9 n9 c9)∧W.cell? ⟨gs,1,none⟩=some (.slice B9 l9 d9)∧W.cell? ⟨gs,2,none⟩=some (.bool s10)∧W.cell? ⟨gs,3,none⟩=some (.slice A10 k10 ca10)∧W.cell? ⟨gs,4,none⟩=some (.slice B10 l10 cb10)∧W.cell? ⟨gs,5,none⟩=some (.bool s11)∧W.cell? ⟨gs,6,none⟩=some (.slice A11 k11 ca11)∧W.cell? ⟨gs,7,none⟩=some (.slice B11 l11 cb11)) (by kernel_rfl) (HCc.out _ (ac _)) (fun hHeld=>?_);refine take_a 0 93 ?_;refine take_a 1 94 ?_;refine take_a 3 96 ?_;refine take_a 4 97 ?_;refine take_a 5 98 ?_;refine take_a 6 99 ?_;refine take_a 7 100 ?_;refine call_p (i:=2) (some 95) rfl rfl (by kernel_rfl) (fun K hK=>?_)
       go_simp
       go_at_call 27
       refine(common_p M HM0.out (Nat.le_trans HM.out (by decide)) _ _ f h (by have:=HLF.out;omega) (by have:=HLH.out;omega) _ (PF.out.mono (ac _)) (PH.out.mono (ac _)) HCO.out).mono ?_;rintro e x2 ⟨u2,rfl,h2,kk2⟩;have D2:=ZZ h2;have hx2:=ZZ (show Ext w3 x2 from al (ac _) kk2);clear h2 kk2
       try go_wp2_with fail
       refine hK.out _ _ (HCc.out _ hx2.out) (fun hHeld=>?_);clear hK K
       try simp only [Act.put,lyA,lyB,lyC]
       refine call_p (i:=8) (some 101) rfl rfl (by kernel_rfl) (fun K hK=>?_)
       go_simp
       go_at_call 35
       refine(inside_p M HM0.out HM.out _ _ (commonF f h) a b HLC2.out _ D2.out ⟨_,_,_,_,_,_,rfl,NA.out.mono (al K3.out hx2.out),NB.out.mono (al K3.out hx2.out)⟩ BA.out BB.out HSM.out HOW.out).mono ?_;rintro e x8 ⟨rfl,kk8⟩;rw [HZI.out];have hx8:=ZZ (al hx2.out kk8);clear kk8 D2
       try go_wp2_with fail
       refine hK.out _ _ (HCc.out _ hx8.out) (fun hHeld=>?_);clear hK K
       try simp only [Act.put,lyA,lyB,lyC]
       refine take_a 9 102 ?_;refine wpAnyH_done (by kernel_rfl) ?_ _;refine NoPanic.normal ?_;clear hbi
       cases bi with
       | true=>
        have hi0:=of_decide_eq_true HBI.out;have HDX:=ZZ (show DD=(0,120) from by rw [←HUU.out];exact rectU_out HFF.out HHH.out (by rw [HZI.out];exact hi0));clear hi0;go_wp2_with fail;refine bodyPost_ret (v:=.tuple #[.int .i64 0,.int .i64 120]) (by simp [results,Tryz.f9]) rfl ?_;rw [HDX.out];exact⟨rfl,al E1.out (al K9.out (al E10.out (al HE.out (al E8.out (al K3.out hx8.out)))))⟩
       | false=>
        have hi0:=of_decide_eq_false HBI.out
        have HON:=ZZ (show rectU (trimF p) ((sidesF lo hi dn up).drop (j+1)) (t+if h=[] then 0 else stepsF (chainF h f) a - stepsF (chainF h f) b)=DD from by
         rw [←HUU.out];exact(rectU_on HFF.out HHH.out (by rw [HZI.out];exact hi0)).symm)
        clear hi0
        rcases Nat.eq_zero_or_pos nh with hn0|hn0
        ·subst hn0
         have q7:decide ((0:Int)<((0:Nat):Int))=false:=rfl;have hh0:=List.length_eq_zero_iff.1 HNH.out;have HO2:=ZZ (show rectU (trimF p) ((sidesF lo hi dn up).drop (j+1)) t=DD from by have e:=HON.out;rw [if_pos hh0,Int.add_zero] at e;exact e);clear hh0;go_wp2_with fail
         go_roundg (gk - 1)
         case measure=>have:=HZK.out;omega
         case rel=>exact⟨j+1,t,ZZ (by have:=HJ.out;have:=HZK.out;omega),rfl,rfl,HO2,ZZ (by have h1:=HB.out;push_cast;omega),ZZ (al HE.out (al E8.out (al K3.out hx8.out)))⟩
        ·have q7:decide ((0:Int)<(nh:Int))=true:=decide_eq_true (by omega)
         have q7':decide (0<nh)=true:=decide_eq_true hn0;have hh0:h≠[]:=fun e=>by have h1:=HNH.out;rw [e] at h1;simp at h1;omega
         obtain⟨u1,hu1⟩:∃z,stepsF (chainF h f) a=z:=⟨_,rfl⟩;obtain⟨u2,hu2⟩:∃z,stepsF (chainF h f) b=z:=⟨_,rfl⟩;have g1:=steps_range a (chainF h f);have g2:=steps_range b (chainF h f);have g3:=chain_len h f;have g4:=HLF.out;have g5:=HLH.out;rw [hu1] at g1;rw [hu2] at g2;have HO2:=ZZ (show rectU (trimF p) ((sidesF lo hi dn up).drop (j+1)) (t+(u1 - u2))=DD from by have e:=HON.out;rw [if_neg hh0,hu1,hu2] at e;exact e);have HLCH:=ZZ (show (chainF h f).length≤1000000 by omega);have HDR:=ZZ (show -10000≤u1 - u2∧u1 - u2≤10000 by omega);obtain⟨df,hdf⟩:∃d,u1 - u2=d:=⟨_,rfl⟩;have q8:IntKind.i64.wrap (u1 - u2)=df:=by rw [←hdf];exact IntWalk.i64_in _ (by omega)
         rw [hdf] at HDR HO2;have q9:IntKind.i64.wrap (t+df)=t+df:=by have h1:=HB.out;have h2:=HDR.out;have h3:=HJ4.out;exact IntWalk.i64_in _ (by omega)
         have HU1:=ZZ hu1;have HU2:=ZZ hu2;clear hu1 hu2 g1 g2 g3 g4 g5 hdf hh0 hn0;go_wp2_with fail;refine(chain_p M HM0.out HM.out _ _ h f (by have:=HLH.out;omega) (by have:=HLF.out;omega) _ (PH.out.mono hx8.out) (PF.out.mono hx8.out) HCH.out).mono ?_;rintro e w9 ⟨vc,rfl,hc9,kk9⟩;obtain⟨Ac,cc,ec,-⟩:=id hc9;obtain⟨nc,hnc⟩:∃n,(chainF h f).length=n:=⟨_,rfl⟩;rw [hnc] at ec;subst ec;have PC:=ZZ hc9;have K9b:=ZZ (al K3.out (al hx8.out kk9));have NAc:=ZZ (NA.out.mono K9b.out);have NBc:=ZZ (NB.out.mono K9b.out);clear hc9 kk9 hnc
         go_upto_region 19 with (fail)
         have HCd:=ZZ (show ∀W,Ext w9 W→W.cell? ⟨gs,0,none⟩=some (.slice A9 n9 c9)∧W.cell? ⟨gs,1,none⟩=some (.slice B9 l9 d9)∧W.cell? ⟨gs,2,none⟩=some (.bool s10)∧W.cell? ⟨gs,3,none⟩=some (.slice A10 k10 ca10)∧W.cell? ⟨gs,4,none⟩=some (.slice B10 l10 cb10)∧W.cell? ⟨gs,5,none⟩=some (.bool s11)∧W.cell? ⟨gs,6,none⟩=some (.slice A11 k11 ca11)∧W.cell? ⟨gs,7,none⟩=some (.slice B11 l11 cb11) from fun W k=>HC8.out W (al K9b.out k));refine wp_region_noPanic ?_;refine wp_region_held_drew (S:=fun W=>W.cell? ⟨gs,0,none⟩=some (.slice A9 n9 c9)∧W.cell? ⟨gs,1,none⟩=some (.slice B9 l9 d9)∧W.cell? ⟨gs,2,none⟩=some (.bool s10)∧W.cell? ⟨gs,3,none⟩=some (.slice A10 k10 ca10)∧W.cell? ⟨gs,4,none⟩=some (.slice B10 l10 cb10)∧W.cell? ⟨gs,5,none⟩=some (.bool s11)∧W.cell? ⟨gs,6,none⟩=some (.slice A11 k11 ca11)∧W.cell? ⟨gs,7,none⟩=some (.slice B11 l11 cb11)) (by kernel_rfl) (HCd.out _ (ac _)) (fun hHeld=>?_);refine take_a 0 109 ?_;refine take_a 1 110 ?_;refine take_a 2 111 ?_;refine take_a 3 112 ?_;refine take_a 5 114 ?_;refine take_a 6 115 ?_;refine take_a 7 116 ?_;refine call_p (i:=4) (some 113) rfl rfl (by kernel_rfl) (fun K hK=>?_)
         go_simp
         go_at_call 36
         refine(steps_p M HM0.out HM.out _ _ (chainF h f) a HLCH.out HCB.out _ (PC.out.mono (ac _)) (NAc.out.mono (ac _)) BA.out _ HU1.out).mono ?_;rintro e z4 ⟨rfl,kk⟩;have hy4:=ZZ (show Ext w9 z4 from al (ac _) kk);clear kk
         try go_wp2_with fail
         refine hK.out _ _ (HCd.out _ hy4.out) (fun hHeld=>?_);clear hK K
         try simp only [Act.put,lyA,lyB,lyC]
         refine call_p (i:=8) (some 117) rfl rfl (by kernel_rfl) (fun K hK=>?_)
         go_simp
         go_at_call 36
         refine(steps_p M HM0.out HM.out _ _ (chainF h f) b HLCH.out HCB.out _ (PC.out.mono (hy4.out)) (NBc.out.mono (hy4.out)) BB.out _ HU2.out).mono ?_;rintro e z8 ⟨rfl,kk⟩;have hy8:=ZZ (show Ext w9 z8 from al (hy4.out) kk);clear kk
         try go_wp2_with fail
         refine hK.out _ _ (HCd.out _ hy8.out) (fun hHeld=>?_);clear hK K
         try simp only [Act.put,lyA,lyB,lyC]
         refine take_a 9 118 ?_;refine take_a 10 119 ?_;refine take_a 11 14 ?_;refine wpAnyH_done (by kernel_rfl) ?_ _;refine NoPanic.normal ?_;go_wp2_with fail
         go_roundg (gk - 1)
         case measure=>have:=HZK.out;omega
         case rel=>exact⟨j+1,t+df,ZZ (by have:=HJ.out;have:=HZK.out;omega),rfl,rfl,HO2,ZZ (by have h1:=HB.out;have h2:=HDR.out;push_cast;omega),ZZ (al HE.out (al E8.out (al K9b.out hy8.out)))⟩
 ·have z0:(z == 0)=false:=beq_eq_false_iff_ne.2 h0
  have z1:(z != 0)=true:=bne_iff_ne.2 h0;have z2:decide (z=0)=false:=decide_eq_false h0;have HDE:=ZZ (show DD=(0,z) from by rw [←HD.out];unfold rectE;rw [HZ.out,if_pos h0]);clear h0;go_wp2_with fail;refine bodyPost_ret (v:=.tuple #[.int .i64 0,.int .i64 z]) (by simp [results,Tryz.f9]) rfl ?_;rw [HDE.out];exact⟨rfl,al E1.out K2.out⟩
end Go.Proofs.YtkoaakefgacokaaGreatDoor
