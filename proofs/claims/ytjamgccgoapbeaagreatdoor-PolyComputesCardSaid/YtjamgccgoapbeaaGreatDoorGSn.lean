/- Whether a span of the program is one of the reference: Alike returns true of two spans with the same ends. Printed by gen_sn.py. An argument that is an array of two strings, opened and shut. Spans of values of the reference's polynomials. Printed by gen_kg.py. Bounded contracts for the walk of PolyComputes. Printed by gen_kw.py. -/
import Derived.Test.YtjamgccgoapbeaaGreatDoorGYo
import Derived.Test.YtjamgccgoapbeaaGreatDoorGYz
import Derived.Test.YtjamgccgoapbeaaGreatDoorGKf
import Derived.Test.YtjamgccgoapbeaaGreatDoorGSk
set_option linter.unusedVariables false
set_option maxRecDepth 100000
set_option maxHeartbeats 64000000
namespace Go.Proofs.YtjamgccgoapbeaaGreatDoor
open Go.RowKit
theorem alike_c (M:Nat) (hM:M≤1099511627776) (v1 v2:Value) (lo hi:Rat) (w:World) (h:Sp w v1 lo hi) (k:SpR w v2 lo hi) (hp1:Bq M lo) (hp2:Bq M hi) (ht:Tens w):Calls Tryz.prog 41 #[v1,v2] w fun e w'=>e=.returned (.bool true)∧Ext w w':=by
 obtain⟨b1,A1,k1,ca1,B1,l1,cb1,b2,A2,k2,ca2,B2,l2,cb2,rfl,hn1,hn2⟩:=h.form;obtain⟨s3,C3,k3,ca3,D3,l3,cb3,s4,C4,k4,ca4,D4,l4,cb4,rfl⟩:=k.form2;obtain⟨hn3,hn4⟩:=al.1 k;have H1:=ZZ hn1;have H2:=ZZ hn2;have H3:=ZZ hn3;have H4:=ZZ hn4;have HB1:=ZZ hp1;have HB2:=ZZ hp2;have HM:=ZZ hM;have HT:=ZZ ht;obtain⟨hw0,hra,hrb⟩:=setG2 w (.cells #[.bool b1,.slice A1 k1 ca1,.slice B1 l1 cb1,.bool b2,.slice A2 k2 ca2,.slice B2 l2 cb2] 37) (.cells #[.int .i64 s3,.slice C3 k3 ca3,.slice D3 l3 cb3,.int .i64 s4,.slice C4 k4 ca4,.slice D4 l4 cb4] 64);have hww:=ZZ hw0;have RA:=ZZ hra;have RB:=ZZ hrb;obtain⟨x0,x1,x2,x3,x4,x5,-⟩:=ai hra;obtain⟨y0,y1,y2,y3,y4,y5,-⟩:=ai hrb;clear h k hn1 hn2 hn3 hn4 hp1 hp2 hM ht hw0 hra hrb
 go_enter Tryz.func41,Tryz.ntmps41
 go_upto_region 1 with (fail)
 generalize World.alloc (World.alloc w (.cells #[.bool b1,.slice A1 k1 ca1,.slice B1 l1 cb1,.bool b2,.slice A2 k2 ca2,.slice B2 l2 cb2] _)) (.cells #[.int .i64 s3,.slice C3 k3 ca3,.slice D3 l3 cb3,.int .i64 s4,.slice C4 k4 ca4,.slice D4 l4 cb4] _)=W2 at *;go_wp2_with fail;refine(same_c M HM.out _ _ lo _ (H1.out.mono hww.out) (H3.out.mono hww.out) HB1.out (HT.out.mono hww.out)).mono ?_;rintro e w3 ⟨rfl,k3⟩;have K3:=ZZ (am hww.out k3);clear x0 x1 x2 x3 x4 x5 y0 y1 y2 y3 y4 y5;obtain⟨x0,x1,x2,x3,x4,x5,-⟩:=ai ((k3.block _ (lt_of_block RA.out)).trans RA.out);obtain⟨y0,y1,y2,y3,y4,y5,-⟩:=ai ((k3.block _ (lt_of_block RB.out)).trans RB.out);clear k3;go_wp2_with fail;refine(same_c M HM.out _ _ hi _ (H2.out.mono K3.out) (H4.out.mono K3.out) HB2.out (HT.out.mono K3.out)).mono ?_;rintro e w4 ⟨rfl,k4⟩;go_wp2_with fail;go_ret;exact⟨rfl,am K3.out k4⟩
end Go.Proofs.YtjamgccgoapbeaaGreatDoor
set_option linter.unusedVariables false
set_option maxRecDepth 100000
set_option maxHeartbeats 64000000
namespace Go.Proofs.YtjamgccgoapbeaaGreatDoor
open Go Go.ChangeShapes Go.WideShapes Go.ChangeAt Go.RowKit
theorem shut_pair {H:Type} {enc:TypeId × Value→H} {W:World} {T E:TypeId} {s0 s1:ByteArray} (ht:Tryz.prog.underlying T=some (.array 2 E)) (he:Tryz.prog.underlying E=some .string) (hc:Tryz.prog.cellsOf E=1) (hcT:Tryz.prog.cellsOf T=2) (h0:s0.size≤maxLen) (h1:s1.size≤maxLen) (sp:Nat→Bool):DataW.Trod enc Tryz.prog W 0 sp true T (.agg #[.string s0,.string s1]) (.agg [.lit (.string s0.data.toList),.lit (.string s1.data.toList)]) []:=by
 refine⟨2,?_⟩;have r2:List.range 2=[0,1]:=rfl
 have e1:∀s:ByteArray,s.size≤maxLen→DataW.trod enc Tryz.prog W 0 sp true 1 E [.string s]=some (.lit (.string s.data.toList),[]):=fun s hs=>by
  simp [DataW.trod,he,hs]
 unfold DataW.trod;rw [ht]
 simp [r2,hc,hcT,Value.cells,e1 s0 h0,e1 s1 h1]
theorem open_pair {H:Type} {enc:TypeId × Value→H} {W:World} {b0:Nat} {T E:TypeId} {v:Value} {d:DataW H} {ps:List MemPlace} (ht:Tryz.prog.underlying T=some (.array 2 E)) (he:Tryz.prog.underlying E=some .string) (hc:Tryz.prog.cellsOf E=1) (hcT:Tryz.prog.cellsOf T=2) (hv:Value.okWide Tryz.prog W .any b0 T v) (h:DataW.Trod enc Tryz.prog W 0 (fun _=>true) true T v d ps):∃s0 s1:List UInt8,v=.agg #[.string ⟨s0.toArray⟩,.string ⟨s1.toArray⟩]∧s0.length≤maxLen∧s1.length≤maxLen∧∀(W':World) (sp:Nat→Bool),DataW.Trod enc Tryz.prog W' 0 sp true T v d ps:=by
 simp only [Value.okWide,ht] at hv
 obtain⟨cs,rfl,hs,-⟩:=hv;rw [hcT] at hs
 obtain⟨c0,c1,rfl⟩:∃c0 c1,cs=#[c0,c1]:=by
  match cs,hs with
  | ⟨[c0,c1]⟩,_=>exact⟨c0,c1,rfl⟩
 obtain⟨fuel,hf⟩:=h;obtain⟨xs,m,rfl,hx,-,hl,hi⟩:=DataW.trod_array ht hf;have x0:=hi 0 (by decide);have x1:=hi 1 (by decide);rw [hc] at x0 x1
 match xs,hl with
 | [y0,y1],_=>
  obtain⟨s,hs0,rfl,hm0⟩:=DataW.trod_string he (show DataW.trod enc Tryz.prog W 0 (fun _=>true) true m E [c0]=some y0 from x0);obtain⟨t,hs1,rfl,hm1⟩:=DataW.trod_string he (show DataW.trod enc Tryz.prog W 0 (fun _=>true) true m E [c1]=some y1 from x1);obtain rfl:c0=.string s:=by injection hs0
  obtain rfl:c1=.string t:=by injection hs1
  simp only [Prod.mk.injEq] at hx
  obtain⟨rfl,rfl⟩:=hx;refine⟨s.data.toList,t.data.toList,by cases s;cases t;rfl,by rw [Array.length_toList];exact hm0,by rw [Array.length_toList];exact hm1,fun W' sp=>?_⟩;exact shut_pair ht he hc hcT hm0 hm1 sp
end Go.Proofs.YtjamgccgoapbeaaGreatDoor
set_option linter.unusedVariables false
set_option maxRecDepth 100000
set_option maxHeartbeats 64000000
namespace Go.Proofs.YtjamgccgoapbeaaGreatDoor
open Go Go.RowKit
set_option linter.unusedSimpArgs false
theorem SpBl.imp {C D:Nat→Prop} {v:Value} (h:SpBl C v) (k:∀b,C b→D b):SpBl D v:=fun x0 x1 x2 y0 y1 y2 e=>⟨(h x0 x1 x2 y0 y1 y2 e).1.imp k,(h x0 x1 x2 y0 y1 y2 e).2.imp k⟩
theorem spr_zero (W:World):SpR W (.agg #[.int .i64 0,.slice none 0 0,.slice none 0 0,.int .i64 0,.slice none 0 0,.slice none 0 0]) 0 0:=⟨_,_,_,_,_,_,rfl,Nr.zero W,Nr.zero W⟩
def BoxSp (W:World) (g:Nat) (a:Rat × Rat):Prop:=∃s A k ca C m cb s' A' k' ca' C' m' cb',W.heap[g]?=some (.cells #[.int .i64 s,.slice A k ca,.slice C m cb,.int .i64 s',.slice A' k' ca',.slice C' m' cb'] 64 (0,0))∧SpR W (.agg #[.int .i64 s,.slice A k ca,.slice C m cb,.int .i64 s',.slice A' k' ca',.slice C' m' cb']) a.1 a.2∧SpBl (·≠g) (.agg #[.int .i64 s,.slice A k ca,.slice C m cb,.int .i64 s',.slice A' k' ca',.slice C' m' cb'])
theorem point_f (vx:Value) (x:Rat) (w:World) (hx:Nr w vx x):Calls Tryz.prog 92 #[vx] w fun e w'=>∃v,e=.returned v∧SpR w' v x x∧Ext w w'∧∀C:Nat→Prop,BlN C vx→SpBl C v:=by
 obtain⟨s3,A3,k3,ca3,B3,l3,cb3,rfl,-⟩:=hx.form;have HX:=ZZ hx;obtain⟨hw0,hra,hrz⟩:=setG2 w (.cells #[.int .i64 s3,.slice A3 k3 ca3,.slice B3 l3 cb3] 62) (.cells #[.int .i64 0,.slice none 0 0,.slice none 0 0,.int .i64 0,.slice none 0 0,.slice none 0 0] 64);have E0:=ZZ hw0;have HRZ:=ZZ hrz;have LE:=ZZ (show w.heap.size≤w.heap.size+1 from Nat.le_succ _);clear hx hw0
 go_enter Tryz.func92,Tryz.ntmps92
 go_wp2_with fail;refine bodyPost_ret (v:=.agg #[.int .i64 s3,.slice A3 k3 ca3,.slice B3 l3 cb3,.int .i64 s3,.slice A3 k3 ca3,.slice B3 l3 cb3]) (by simp [results,Tryz.f92];go_simp) rfl ?_
 exact⟨_,rfl,al.2 ⟨HX.out.mono (ext2 _ _ _),HX.out.mono (ext2 _ _ _)⟩,ext2 _ _ _,fun C h=>spbl_mk h h⟩
theorem step_zero (a:Rat × Rat) (c:Rat):stepS a (0,0) c=(c,c):=by
 have h0:mulS 0 0 a.1 a.2=(0,0):=by
  unfold mulS;rw [Rat.zero_mul,Rat.zero_mul]
  rfl
 have h1:au c c=(c,c):=by unfold au;split <;> rfl
 unfold stepS;rw [h0,h1]
 show ((au 0 0).1+c,(au 0 0).2+c)=(c,c)
 rw [show au (0:Rat) 0=(0,0) from rfl,Rat.zero_add]
theorem pevs_n (M:Nat) (hM:0<M) (vp va:Value) (p:List Rat) (a1 a2:Rat) (hlp:p.length≤100000) (hK:p.length*(M+M+1)+1+M+M≤67108864) (w:World) (hp:PlR w vp p) (ha:SpR w va a1 a2) (hbp:∀c ∈ p,Bq M c) (b1:Bq M a1) (b2:Bq M a2):Calls Tryz.prog 42 #[vp,va] w fun e w'=>∃v,e=.returned v∧SpR w' v (evS p (a1,a2)).1 (evS p (a1,a2)).2∧Ext w w':=by
 obtain⟨s1,A1,k1,ca1,B1,l1,cb1,s2,A2,k2,ca2,B2,l2,cb2,rfl⟩:=ha.form2;obtain⟨k1e,r3,r4⟩:=setG2 w (.cells #[.int .i64 s1,.slice A1 k1 ca1,.slice B1 l1 cb1,.int .i64 s2,.slice A2 k2 ca2,.slice B2 l2 cb2] 64) (.cells #[.int .i64 0,.slice none 0 0,.slice none 0 0,.int .i64 0,.slice none 0 0,.slice none 0 0] 64);have E1:=ZZ k1e;have R3:=ZZ r3;have R4:=ZZ r4;have HP:=ZZ (hp.mono k1e);have NX0:=ZZ (ha.mono k1e);have HLP:=ZZ hlp;have HBP:=ZZ hbp;have QB1:=ZZ b1;have QB2:=ZZ b2;have HM0:=ZZ hM;have HKK:=ZZ hK;have HK:=ZZ (show p.length*(M+M+1)+1+M≤67108864 by omega);have HW4:=ZZ (show w.heap.size≤w.heap.size+1 by omega);have hun:undef=.tuple #[]:=rfl;clear hp ha hlp hbp b1 b2 hM hK k1e r3 r4
 go_enter Tryz.func42,Tryz.ntmps42
 go_upto_region 1 with (fail)
 generalize (w.alloc (.cells #[.int .i64 s1,.slice A1 k1 ca1,.slice B1 l1 cb1,.int .i64 s2,.slice A2 k2 ca2,.slice B2 l2 cb2] _)).alloc (.cells #[.int .i64 0,.slice none 0 0,.slice none 0 0,.int .i64 0,.slice none 0 0,.slice none 0 0] _)=W1 at *;obtain⟨g3,hg3⟩:∃g,w.heap.size=g:=⟨_,rfl⟩;obtain⟨g4,hg4⟩:∃g,w.heap.size+1=g:=⟨_,rfl⟩;rw [hg3] at R3;rw [hg4] at R4 HW4;rw [hg4,hg3];clear hg3 hg4;go_wp2_with fail;refine(trim_n _ p (by have:=HLP.out;omega) _ HP.out).mono ?_;rintro e w2 ⟨v2,rfl,h2,kk2⟩;obtain⟨n,hn⟩:∃n,(trimF p).length=n:=⟨_,rfl⟩;obtain⟨AT,cT,eT⟩:=h2.form;rw [hn] at eT;subst eT;have PT2:=ZZ h2;have HN:=ZZ hn;have HNL:=ZZ (show n≤p.length by rw [←hn];exact trim_le p);have E2:=ZZ (am E1.out kk2);have RZ:=ZZ ((kk2.block _ (lt_of_block R4.out)).trans R4.out);have RX:=ZZ ((kk2.block _ (lt_of_block R3.out)).trans R3.out);have NX2:=ZZ (NX0.out.mono kk2);clear h2 hn kk2 R3 R4 NX0 E1
 rcases Nat.eq_zero_or_pos n with h0|h0
 ·subst h0
  have q1:decide (((0:Nat):Int)=0)=true:=rfl;have q2:(((0:Nat):Int) == 0)=true:=rfl;have HE0:=ZZ (show evS p (a1,a2)=(0,0) by unfold evS;rw [List.length_eq_zero_iff.1 HN.out];rfl);obtain⟨t0,t1,t2,t3,t4,t5,tf0,tf1,tf2,tf3,tf4,tf5⟩:=ai RZ.out;go_wp2_with fail;refine bodyPost_ret (v:=.agg #[.int .i64 0,.slice none 0 0,.slice none 0 0,.int .i64 0,.slice none 0 0,.slice none 0 0]) (by simp [results,Tryz.f42];go_simp) rfl ?_;rw [HE0.out];exact⟨_,rfl,spr_zero _,af E2.out HW4.out _ _ _ _ _ _⟩
 ·obtain⟨n',rfl⟩:∃n',n=n'+1:=⟨n - 1,by omega⟩
  have q1:decide (((n'+1:Nat):Int)=0)=false:=decide_eq_false (by omega);have q1':(((n'+1:Nat):Int) == 0)=false:=beq_eq_false_iff_ne.2 (by omega);have q2:((n':Int)+1 == 0)=false:=beq_eq_false_iff_ne.2 (by omega);have q2':decide ((n':Int)+1=0)=false:=decide_eq_false (by omega)
  have q3:IntKind.i64.wrap ((n':Int)+1 - 1)=(n':Int):=by
   have h1:=HNL.out;have h2:=HLP.out;rw [show (n':Int)+1 - 1=n' by omega];exact IntWalk.i64_in _ (by omega)
  have q3':IntKind.i64.wrap (n':Int)=(n':Int):=by have h1:=HNL.out;have h2:=HLP.out;exact IntWalk.i64_in _ (by omega)
  have q4:IntKind.i64.wrap ((n':Int)+1 - 2)=(n':Int) - 1:=by
   have h1:=HNL.out;have h2:=HLP.out;rw [show (n':Int)+1 - 2=n' - 1 by omega];exact IntWalk.i64_in _ (by omega)
  have q5:(n':Int)<(n':Int)+1:=by omega
  have q6:(0:Int)≤(n':Int):=by omega
  obtain⟨b,o,cl,rfl,hcl,htl⟩:=PT2.out.at_ (show n'<n'+1 by omega);obtain⟨s3,A3,k3,ca3,B3,l3,cb3,c0,c1,c2,hn3⟩:=htl;have NL:=ZZ hn3;have HCL:=ZZ hcl;clear h0 hcl hn3;go_wp2_with fail;refine(point_f _ cl _ NL.out).mono ?_;rintro e w4 ⟨v4,rfl,h4,kk4,f4⟩;obtain⟨s6,A6,k6,ca6,B6,l6,cb6,s7,A7,k7,ca7,B7,l7,cb7,rfl⟩:=h4.form2;have E5:=ZZ (ab w4 (.cells #[.int .i64 s6,.slice A6 k6 ca6,.slice B6 l6 cb6,.int .i64 s7,.slice A7 k7 ca7,.slice B7 l7 cb7] 64));have R5:=ZZ (heap_alloc_new w4 (.cells #[.int .i64 s6,.slice A6 k6 ca6,.slice B6 l6 cb6,.int .i64 s7,.slice A7 k7 ca7,.slice B7 l7 cb7] 64));have N4:=ZZ (h4.mono E5.out);have K4:=ZZ (am kk4 E5.out);have HW2:=ZZ (show w2.heap.size≤w4.heap.size from kk4.size);have F4:=ZZ (f4 (·≠w4.heap.size) (NL.out.old.imp (fun b hb e=>by have:=HW2.out;omega)));clear h4 kk4 f4 c0 c1 c2
  go_upto_region 5 with (fail)
  generalize w4.alloc (.cells #[.int .i64 s6,.slice A6 k6 ca6,.slice B6 l6 cb6,.int .i64 s7,.slice A7 k7 ca7,.slice B7 l7 cb7] _)=W5 at *;obtain⟨g5,hg5⟩:∃g,w4.heap.size=g:=⟨_,rfl⟩;rw [hg5] at R5 HW2 F4;rw [hg5];clear hg5;have H35:=ZZ (show g3≠g5 by have h1:=lt_of_block RX.out;have h2:=HW2.out;omega);have H45:=ZZ (show g4≠g5 by have h1:=lt_of_block RZ.out;have h2:=HW2.out;omega);have HWG:=ZZ (show w.heap.size≤g5 from Nat.le_trans E2.out.size HW2.out);have EW5:=ZZ (am E2.out K4.out)
  have HO0:=ZZ (show hornS (a1,a2) ((trimF p).drop n').reverse=(cl,cl) from by
   obtain⟨h1,h2⟩:=List.getElem?_eq_some_iff.1 HCL.out;rw [List.drop_eq_getElem_cons h1,h2,List.drop_eq_nil_of_le (Nat.le_of_eq HN.out)];exact step_zero _ _)
  go_wp2_with fail
  go_loopg [6] n' (fun k i wr=>∃z,i=.int .i64 z∧Hid (z=(k:Int) - 1∧k≤n')∧Hid (BoxSp wr g5 (hornS (a1,a2) ((trimF p).drop k).reverse))∧Hid (Ext w2 wr)∧Hid (wr.heap[g3]?=some (.cells #[.int .i64 s1,.slice A1 k1 ca1,.slice B1 l1 cb1,.int .i64 s2,.slice A2 k2 ca2,.slice B2 l2 cb2] 64 (0,0))∧SpR wr (.agg #[.int .i64 s1,.slice A1 k1 ca1,.slice B1 l1 cb1,.int .i64 s2,.slice A2 k2 ca2,.slice B2 l2 cb2]) a1 a2)∧Hid (wr.heap[g4]?=some (.cells #[.int .i64 0,.slice none 0 0,.slice none 0 0,.int .i64 0,.slice none 0 0,.slice none 0 0] 64 (0,0))))
  case atStart=>exact⟨_,rfl,ZZ ⟨rfl,Nat.le_refl _⟩,ZZ ⟨_,_,_,_,_,_,_,_,_,_,_,_,_,_,R5.out,by rw [HO0.out];exact N4.out,F4.out⟩,K4,ZZ ⟨(K4.out.block _ (lt_of_block RX.out)).trans RX.out,NX2.out.mono K4.out⟩,ZZ ((K4.out.block _ (lt_of_block RZ.out)).trans RZ.out)⟩
  case round=>
   obtain⟨z,rfl,HZ,HV,HE,HX,HR4⟩:=hrel;rename World=>WR;obtain⟨s10,A10,k10,ca10,B10,l10,cb10,s11,A11,k11,ca11,B11,l11,cb11,rv,nv,fv⟩:=HV.out;have RV:=ZZ rv;have NV:=ZZ nv;have FV:=ZZ fv;clear rv nv fv
   rcases Nat.eq_zero_or_pos gk with hz|hz
   ·subst hz
    have q7:decide ((0:Int)≤z)=false:=decide_eq_false (by have:=HZ.out.1;omega);obtain⟨p0,p1,p2,p3,p4,p5,-⟩:=ai RV.out;obtain⟨t0,t1,t2,t3,t4,t5,tf0,tf1,tf2,tf3,tf4,tf5⟩:=ai HR4.out;go_wp2_with fail;refine bodyPost_ret (v:=.agg #[.int .i64 s10,.slice A10 k10 ca10,.slice B10 l10 cb10,.int .i64 s11,.slice A11 k11 ca11,.slice B11 l11 cb11]) (by simp [results,Tryz.f42];go_simp) rfl ?_;refine⟨_,rfl,?_,af (am E2.out HE.out) HW4.out _ _ _ _ _ _⟩;obtain⟨m1,m2⟩:=al.1 NV.out;exact al.2 ⟨ao m1 HR4.out _ _ _ _ _ _,ao m2 HR4.out _ _ _ _ _ _⟩
   ·obtain⟨j,rfl⟩:∃j,gk=j+1:=⟨gk - 1,by omega⟩
    have hjn:j<n'+1:=by have:=HZ.out.2;omega
    obtain rfl:z=(j:Int):=by have:=HZ.out.1;omega
    have q7:decide ((0:Int)≤(j:Int))=true:=decide_eq_true (by omega);have q8:(j:Int)<(n':Int)+1:=by omega
    have q9:(0:Int)≤(j:Int):=by omega
    have q10:IntKind.i64.wrap ((j:Int) - 1)=(j:Int) - 1:=IntWalk.i64_in _ (by have h1:=HLP.out;have h2:=HNL.out;omega);obtain⟨b',o',cq,eb,hcq,htri⟩:=PT2.out.at_ hjn
    injection eb with eb
    injection eb with eb1 eb2 _
    subst eb1 eb2;obtain⟨s3,A3,k3,ca3,B3,l3,cb3,c0,c1,c2,hn3⟩:=htri
    have hd:(trimF p).drop j=cq :: (trimF p).drop (j+1):=by
     obtain⟨h1,h2⟩:=List.getElem?_eq_some_iff.1 hcq;rw [List.drop_eq_getElem_cons h1,h2]
    obtain⟨oo,hoo⟩:∃q,hornS (a1,a2) ((trimF p).drop (j+1)).reverse=q:=⟨_,rfl⟩;have bho:=bq_horn (M:=M) (a:=(a1,a2)) ⟨QB1.out,QB2.out⟩ ((trimF p).drop (j+1)) (fun c hc=>HBP.out c (trim_mem (List.mem_of_mem_drop hc)));rw [hoo] at NV bho;obtain⟨o1,o2⟩:=oo
    dsimp only at NV bho
    have hlen:((trimF p).drop (j+1)).length*(M+M+1)+(M+M+1)≤p.length*(M+M+1):=by
     rw [List.length_drop,←Nat.succ_mul];exact Nat.mul_le_mul_right _ (by have h1:=HN.out;have h2:=HNL.out;omega)
    have bmm:=bq_mulS2 bho.1 bho.2 QB1.out QB2.out;have BO1:=ZZ (show Bq (p.length*(M+M+1)+1+M) o1 from bho.1.mono (by omega));have BO2:=ZZ (show Bq (p.length*(M+M+1)+1+M) o2 from bho.2.mono (by omega));have BM1:=ZZ (show Bq (p.length*(M+M+1)+1+M) (mulS o1 o2 a1 a2).1 from bmm.1.mono (by omega));have BM2:=ZZ (show Bq (p.length*(M+M+1)+1+M) (mulS o1 o2 a1 a2).2 from bmm.2.mono (by omega));have BX1:=ZZ (show Bq (p.length*(M+M+1)+1+M) a1 from QB1.out.mono (by omega));have BX2:=ZZ (show Bq (p.length*(M+M+1)+1+M) a2 from QB2.out.mono (by omega));have BCK:=ZZ (show Bq (p.length*(M+M+1)+1+M) cq from (HBP.out cq (trim_mem (List.mem_of_getElem? hcq))).mono (by omega));have HEV:=ZZ (show hornS (a1,a2) ((trimF p).drop j).reverse=stepS (a1,a2) (o1,o2) cq by rw [hd,List.reverse_cons,hornS_snoc,hoo]);have N3:=ZZ (hn3.mono HE.out);have F3:=ZZ (hn3.old.imp (D:=(·≠g5)) (fun b hb e=>by have:=HW2.out;omega));have NX:=ZZ HX.out.2;have HGL:=ZZ (lt_of_block RV.out)
    have HC:=ZZ (show ∀W,Ext WR W→W.cell? ⟨g5,0,none⟩=some (.int .i64 s10)∧W.cell? ⟨g5,1,none⟩=some (.slice A10 k10 ca10)∧W.cell? ⟨g5,2,none⟩=some (.slice B10 l10 cb10)∧W.cell? ⟨g5,3,none⟩=some (.int .i64 s11)∧W.cell? ⟨g5,4,none⟩=some (.slice A11 k11 ca11)∧W.cell? ⟨g5,5,none⟩=some (.slice B11 l11 cb11)∧W.cell? ⟨g3,0,none⟩=some (.int .i64 s1)∧W.cell? ⟨g3,1,none⟩=some (.slice A1 k1 ca1)∧W.cell? ⟨g3,2,none⟩=some (.slice B1 l1 cb1)∧W.cell? ⟨g3,3,none⟩=some (.int .i64 s2)∧W.cell? ⟨g3,4,none⟩=some (.slice A2 k2 ca2)∧W.cell? ⟨g3,5,none⟩=some (.slice B2 l2 cb2)∧W.cell? ⟨b,o+j*3,none⟩=some (.int .i64 s3)∧W.cell? ⟨b,o+j*3+1,none⟩=some (.slice A3 k3 ca3)∧W.cell? ⟨b,o+j*3+2,none⟩=some (.slice B3 l3 cb3) from fun W k=>by
     obtain⟨y0,y1,y2,y3,y4,y5,-⟩:=ai ((k.block _ (lt_of_block RV.out)).trans RV.out);obtain⟨x0,x1,x2,x3,x4,x5,-⟩:=ai ((k.block _ (lt_of_block HX.out.1)).trans HX.out.1);have kk:=am HE.out k;exact⟨y0,y1,y2,y3,y4,y5,x0,x1,x2,x3,x4,x5,ar kk c0,ar kk c1,ar kk c2⟩)
    clear hz hjn hcq c0 c1 c2 hn3 hd hoo bho bmm hlen
    go_upto_region 8 with (fail)
    refine wp_region_noPanic ?_;refine region_L (S:=fun W=>W.cell? ⟨g5,0,none⟩=some (.int .i64 s10)∧W.cell? ⟨g5,1,none⟩=some (.slice A10 k10 ca10)∧W.cell? ⟨g5,2,none⟩=some (.slice B10 l10 cb10)∧W.cell? ⟨g5,3,none⟩=some (.int .i64 s11)∧W.cell? ⟨g5,4,none⟩=some (.slice A11 k11 ca11)∧W.cell? ⟨g5,5,none⟩=some (.slice B11 l11 cb11)∧W.cell? ⟨g3,0,none⟩=some (.int .i64 s1)∧W.cell? ⟨g3,1,none⟩=some (.slice A1 k1 ca1)∧W.cell? ⟨g3,2,none⟩=some (.slice B1 l1 cb1)∧W.cell? ⟨g3,3,none⟩=some (.int .i64 s2)∧W.cell? ⟨g3,4,none⟩=some (.slice A2 k2 ca2)∧W.cell? ⟨g3,5,none⟩=some (.slice B2 l2 cb2)∧W.cell? ⟨b,o+j*3,none⟩=some (.int .i64 s3)∧W.cell? ⟨b,o+j*3+1,none⟩=some (.slice A3 k3 ca3)∧W.cell? ⟨b,o+j*3+2,none⟩=some (.slice B3 l3 cb3)) 9 (by kernel_rfl) (HC.out _ (ac _)) (fun hHeld=>?_);refine take_b 0 27 ?_;refine take_b 1 28 ?_;refine take_b 3 30 ?_;refine take_b 4 31 ?_;refine take_b 5 32 ?_;refine take_b 6 33 ?_;refine call_L (i:=2) 29 rfl rfl (by kernel_rfl) (fun K hK=>?_)
    go_simp
    go_at_call 94
    refine(mul_sp (p.length*(M+M+1)+1+M) HK.out _ _ o1 o2 a1 a2 _ (NV.out.mono (ac _)) (NX.out.mono (ac _)) BO1.out BO2.out BX1.out BX2.out).mono ?_;rintro e w4 ⟨v4,rfl,h4,kk4⟩;have H4:=ZZ (h4 w4 (fun _ _=>rfl));have hx1:=ZZ (show Ext WR w4 from am (ac _) kk4);have F4:=ZZ ((spbl_only (h4 (onlyW w4 (fun b=>WR.drew.heap.size≤b)) (fun b hb=>onlyW_on hb))).imp (D:=(·≠g5)) (fun b hb e=>by subst e;exact Nat.lt_irrefl _ (Nat.lt_of_lt_of_le HGL.out hb)));clear h4 kk4
    try go_wp2_with fail
    refine hK.out _ _ (HC.out _ hx1.out) (fun hHeld=>?_);clear hK K
    try simp only [Act.put,lyA,lyB,lyC]
    refine call_L (i:=7) 34 rfl rfl (by kernel_rfl) (fun K hK=>?_)
    go_simp
    go_at_call 92
    refine(point_f _ cq _ (N3.out.mono hx1.out)).mono ?_;rintro e w5 ⟨v5,rfl,h5,kk5,f5⟩;have H5:=ZZ h5;have H4:=ZZ (H4.out.mono kk5);have F5:=ZZ (f5 (·≠g5) F3.out);have hx2:=ZZ (am hx1.out kk5);clear h5 kk5 f5
    try go_wp2_with fail
    refine hK.out _ _ (HC.out _ hx2.out) (fun hHeld=>?_);clear hK K
    try simp only [Act.put,lyA,lyB,lyC]
    refine call_L (i:=8) 35 rfl rfl (by kernel_rfl) (fun K hK=>?_)
    go_simp
    go_at_call 93
    refine(add_spf (p.length*(M+M+1)+1+M) (by have:=HK.out;omega) _ _ (mulS o1 o2 a1 a2).1 (mulS o1 o2 a1 a2).2 cq cq _ H4.out H5.out BM1.out BM2.out BCK.out BCK.out).mono ?_;rintro e w6 ⟨v6,rfl,h6,kk6,f6⟩;obtain⟨s12,A12,k12,ca12,B12,l12,cb12,s13,A13,k13,ca13,B13,l13,cb13,rfl⟩:=h6.form2;have H6:=ZZ h6;have hx3:=ZZ (am hx2.out kk6);have F6:=ZZ (f6 (·≠g5) (fun b hb e=>by subst e;exact Nat.lt_irrefl _ (Nat.lt_of_lt_of_le (Nat.lt_of_lt_of_le HGL.out hx2.out.size) hb)) F4.out F5.out);clear h6 kk6 f6
    try go_wp2_with fail
    refine hK.out _ _ (HC.out _ hx3.out) (fun hHeld=>?_);clear hK K
    try simp only [Act.put,lyA,lyB,lyC]
    refine last_L rfl (by kernel_rfl) (by kernel_rfl) (fun K hK=>?_);have hh5:=(hx3.out.block _ (lt_of_block RV.out)).trans RV.out;have zf0:=frozen_row hh5 0;have zf1:=frozen_row hh5 1;have zf2:=frozen_row hh5 2;have zf3:=frozen_row hh5 3;have zf4:=frozen_row hh5 4;have zf5:=frozen_row hh5 5;obtain⟨z0,z1,z2,z3,z4,z5,-⟩:=HC.out w6 hx3.out;clear hh5
    go_simp
    refine hK.out _ _ ?_;clear hK K
    try simp only [Act.put,lyA,lyB,lyC]
    refine NoPanic.normal ?_;have hr5:=(hx3.out.block _ (lt_of_block RV.out)).trans RV.out;have HB7:=ZZ (show BoxSp (put6 w6 g5 (.int .i64 s12) (.slice A12 k12 ca12) (.slice B12 l12 cb12) (.int .i64 s13) (.slice A13 k13 ca13) (.slice B13 l13 cb13)) g5 ((au (mulS o1 o2 a1 a2).1 (mulS o1 o2 a1 a2).2).1+(au cq cq).1,(au (mulS o1 o2 a1 a2).1 (mulS o1 o2 a1 a2).2).2+(au cq cq).2) from ⟨_,_,_,_,_,_,_,_,_,_,_,_,_,_,ag hr5 _ _ _ _ _ _,H6.out.keepC F6.out (fun b hb=>put6_keep _ _ _ _ _ _ _ _ b hb),F6.out⟩);have E7:=ZZ (show Ext w2 (put6 w6 g5 (.int .i64 s12) (.slice A12 k12 ca12) (.slice B12 l12 cb12) (.int .i64 s13) (.slice A13 k13 ca13) (.slice B13 l13 cb13)) from af (am HE.out hx3.out) HW2.out _ _ _ _ _ _);have HX7:=ZZ (show (put6 w6 g5 (.int .i64 s12) (.slice A12 k12 ca12) (.slice B12 l12 cb12) (.int .i64 s13) (.slice A13 k13 ca13) (.slice B13 l13 cb13)).heap[g3]?=some (.cells #[.int .i64 s1,.slice A1 k1 ca1,.slice B1 l1 cb1,.int .i64 s2,.slice A2 k2 ca2,.slice B2 l2 cb2] 64 (0,0))∧SpR (put6 w6 g5 (.int .i64 s12) (.slice A12 k12 ca12) (.slice B12 l12 cb12) (.int .i64 s13) (.slice A13 k13 ca13) (.slice B13 l13 cb13)) (.agg #[.int .i64 s1,.slice A1 k1 ca1,.slice B1 l1 cb1,.int .i64 s2,.slice A2 k2 ca2,.slice B2 l2 cb2]) a1 a2 from ⟨ah ((hx3.out.block _ (lt_of_block HX.out.1)).trans HX.out.1) H35.out _ _ _ _ _ _,NX2.out.mono E7.out⟩)
    have HR7:=ZZ (ah ((hx3.out.block _ (lt_of_block HR4.out)).trans HR4.out) H45.out (.int .i64 s12) (.slice A12 k12 ca12) (.slice B12 l12 cb12) (.int .i64 s13) (.slice A13 k13 ca13) (.slice B13 l13 cb13));clear hr5;go_wp2_with fail
    go_roundg j
    case measure=>omega
    case rel=>
     refine⟨_,rfl,ZZ ⟨?_,by have:=HZ.out.2;omega⟩,ZZ ?_,E7,HX7,HR7⟩
     ·first|exact q10|rfl|(rw [q10];exact q10)
     ·rw [HEV.out];exact HB7.out
end Go.Proofs.YtjamgccgoapbeaaGreatDoor
set_option linter.unusedVariables false
set_option maxRecDepth 100000
set_option maxHeartbeats 64000000
namespace Go.Proofs.YtjamgccgoapbeaaGreatDoor
open Go Go.RowKit
theorem list_nx (v:Value) (ls:List (List UInt8)) (w:World) (h:Stl w v ls) (hn:ls.length≤60):Calls Tryz.prog 22 #[v] w fun e w'=>∃va vx,e=.returned (.tuple #[va,vx])∧Px w' va (listF ls) 60 4001∧PlR w' vx (listF ls)∧Ext w w':=by
 refine(list_n v ls (by omega) w h).mono ?_;rintro e w' ⟨va,vx,rfl,hp,hr,k⟩;refine⟨va,vx,rfl,⟨hp,by unfold listF;rw [List.length_map];exact hn,fun x hx=>?_⟩,hr,k⟩;unfold listF at hx;obtain⟨s,-,rfl⟩:=List.mem_map.1 hx;exact aB s
theorem scale_x {N M K:Nat} (hM:M≤1099511627776) (hN:N≤100000) (hK:M+M≤K) (vp vx:Value) (p:List Rat) (x:Rat) (w:World) (hp:Px w vp p N M) (hx:Nm w vx x) (bx:Bq M x):Calls Tryz.prog 34 #[vp,vx] w fun e w'=>∃v',e=.returned v'∧Px w' v' (scaleF p x) N K∧Ext w w':=by
 refine(scale_q M hM vp vx p x (by have:=hp.2.1;omega) w hp.1 hx hp.2.2 bx).mono ?_;rintro e w' ⟨v',rfl,h,k⟩;exact⟨v',rfl,⟨h.pl,Nat.le_trans (scale_len p x) hp.2.1,fun y hy=>(bq_scale hp.2.2 bx y hy).mono hK⟩,k⟩
theorem sub_y {N M K:Nat} (hM0:0<M) (hM2:M≤1099511627000) (hN:N≤100000) (hK:M+65+(M+65)+1≤K) (vp vq:Value) (p q:List Rat) (w:World) (hp:Px w vp p N M) (hq:Px w vq q N M):Calls Tryz.prog 30 #[vp,vq] w fun e w'=>∃v',e=.returned v'∧Px w' v' (subF p q) N K∧Ext w w':=by
 have h1:=hp.2.1;have h2:=hq.2.1;have h3:=scale_len q (-1);refine(sub_p M hM2 vp vq p q (by omega) (by omega) w hp.1 hq.1 hp.2.2 hq.2.2).mono ?_;rintro e w' ⟨v',rfl,h,k⟩;refine⟨v',rfl,⟨h.pl,add_len p (scaleF q (-1)) N (by omega) (by omega),bq_of_co fun i=>?_⟩,k⟩;have h4:∀y ∈ scaleF q (-1),Bq (M+65) y:=fun y hy=>bq_scale hq.2.2 ((bq_int (-1) (by decide) (by decide)).mono (by decide)) y hy
 show Bq K (co (addF p (scaleF q (-1))) i)
 rw [co_addF];exact(((bq_co hM0 hp.2.2 i).mono (by omega)).add (bq_co (by omega) h4 i)).mono hK
theorem same_x {N M:Nat} (hM:M≤1099511627776) (hN:N≤100000) (va vb:Value) (p:List Rat) (w:World) (hp:Px w va p N M) (hq:PlR w vb p) (ht:Tens w):Calls Tryz.prog 23 #[va,vb] w fun e w'=>e=.returned (.bool true)∧Ext w w':=
 same_l M hM va vb p (by have:=hp.2.1;omega) w hp.1 hq hp.2.2 ht
theorem ref_len {w:World} {v:Value} {p:List Rat} {N M:Nat} (hp:Px w v p N M) (hN:N≤100000):p.length≤100000:=Nat.le_trans hp.2.1 hN
theorem ref_mul {w:World} {v:Value} {p:List Rat} {N M K:Nat} (hp:Px w v p N M) (hK:N*(M+M+1)+1≤K):p.length*(M+M+1)+1≤K:=
 Nat.le_trans (Nat.add_le_add_right (Nat.mul_le_mul_right _ hp.2.1) 1) hK
theorem pl_two2 {w:World} {A:Option Addr} {c:Nat} {x y:Rat} (h:Pl w (.slice A 2 c) [x,y]):∃b o,A=some ⟨b,o,none⟩∧Tri w b o x∧Tri w b (o+3) y:=by
 obtain⟨A',c',e,hc,h3⟩:=h
 injection e with e1 e2 e3
 subst e1 e3
 rcases h3 with ⟨-,h4⟩|⟨b,o,h4,h5⟩
 ·cases h4
 ·exact⟨b,o,h4,h5 0 x rfl,h5 1 y rfl⟩
theorem plr_two2 {w:World} {A:Option Addr} {c:Nat} {x y:Rat} (h:PlR w (.slice A 2 c) [x,y]):∃b o,A=some ⟨b,o,none⟩∧TriR w b o x∧TriR w b (o+3) y:=by
 obtain⟨A',c',e,hc,h3⟩:=h
 injection e with e1 e2 e3
 subst e1 e3
 rcases h3 with ⟨-,h4⟩|⟨b,o,h4,h5⟩
 ·cases h4
 ·exact⟨b,o,h4,h5 0 x rfl,h5 1 y rfl⟩
theorem stl_two (W:World) {s0 s1:List UInt8} (h0:s0.length≤maxLen) (h1:s1.length≤maxLen):Stl (W.alloc (.cells #[.string ⟨s0.toArray⟩,.string ⟨s1.toArray⟩] 41)) (.slice (some ⟨W.heap.size,0,none⟩) 2 2) [s0,s1]:=by
 have hr:=heap_alloc_new W (.cells #[.string ⟨s0.toArray⟩,.string ⟨s1.toArray⟩] 41);refine .inr ⟨W.heap.size,0,2,rfl,(show 2≤maxLen by decide),fun s hs=>?_,fun i s hi=>?_⟩
 ·rcases List.mem_cons.1 hs with rfl|hs
  ·exact h0
  ·rcases List.mem_cons.1 hs with rfl|hs
   ·exact h1
   ·cases hs
 ·rw [Nat.zero_add,cell_of_row _ _ _ _ _ _ hr]
  match i,hi with
  | 0,hi=>obtain rfl:=Option.some.inj hi;rfl
  | 1,hi=>obtain rfl:=Option.some.inj hi;rfl
def Nw (W0 W:World) (v:Value) (o:Obj):Prop:=∃g,v=.pointer (some ⟨g,0,none⟩)∧W0.heap.size≤g∧W.heap[g]?=some o
theorem Nw.mono {W0 W W':World} {v:Value} {o:Obj} (h:Nw W0 W v o) (k:Ext W W'):Nw W0 W' v o:=by
 obtain⟨g,e,h1,h2⟩:=h;exact⟨g,e,h1,(k.block _ (lt_of_block' h2)).trans h2⟩
theorem Nw.new {W0 W:World} (h:Ext W0 W) (o:Obj):Nw W0 (W.alloc o) (.pointer (some ⟨W.heap.size,0,none⟩)) o:=⟨_,rfl,h.size,heap_alloc_new _ _⟩
theorem Nw.ne {W0 W:World} {v:Value} {o:Obj} (h:Nw W0 W v o):v≠.pointer (some ⟨W.heap.size,0,none⟩):=by
 obtain⟨g,rfl,-,h2⟩:=h;intro e
 have:g=W.heap.size:=by injection e with e;injection e with e;injection e
 exact Nat.lt_irrefl _ (this ▸ lt_of_block' h2)
def BoxSR (W:World) (p:Value) (lo hi:Rat):Prop:=∃g s A k ca B l cb s' A' k' ca' B' l' cb',p=.pointer (some ⟨g,0,none⟩)∧W.heap[g]?=some (.cells #[.int .i64 s,.slice A k ca,.slice B l cb,.int .i64 s',.slice A' k' ca',.slice B' l' cb'] 64 (0,0))∧SpR W (.agg #[.int .i64 s,.slice A k ca,.slice B l cb,.int .i64 s',.slice A' k' ca',.slice B' l' cb']) lo hi
end Go.Proofs.YtjamgccgoapbeaaGreatDoor
