/- Rect of a list that it refuses at once. -/
import Derived.Test.YtkoaakefgacokaaGreatDoorGYp
import Derived.Test.YtkoaakefgacokaaGreatDoorGYd
set_option linter.unusedVariables false
set_option linter.unusedSimpArgs false
set_option maxRecDepth 100000
set_option maxHeartbeats 64000000
namespace Go.Proofs.YtkoaakefgacokaaGreatDoor
open Go.RowKit
theorem rect0_p (vp:Value) (p:List Rat) (x0 x1 x2 x3 x4 x5 y0 y1 y2 y3 y4 y5:Value) (hlp:p.length≤100) (w:World) (hp:Pl w vp p) (z:Int) (hz:askF p=z) (h0:z≠0):Calls Tryz.prog 9 #[vp,.agg #[x0,x1,x2,x3,x4,x5],.agg #[y0,y1,y2,y3,y4,y5]] w fun e w'=>e=.returned (.tuple #[.int .i64 0,.int .i64 z])∧Ext w w':=by
 have HZ:=ZZ hz;have HP:=ZZ hp;have HLP:=ZZ hlp;have z0:(z == 0)=false:=beq_eq_false_iff_ne.2 h0;have z1:(z != 0)=true:=bne_iff_ne.2 h0;have z2:decide (z=0)=false:=decide_eq_false h0;have E1:=ZZ (al (ab w (.cells #[x0,x1,x2,x3,x4,x5] 40)) (ab (w.alloc (.cells #[x0,x1,x2,x3,x4,x5] 40)) (.cells #[y0,y1,y2,y3,y4,y5] 40)));have hun:undef=.tuple #[]:=rfl;clear hz hp hlp h0
 go_enter Tryz.func9,Tryz.ntmps9
 go_wp2_with fail;refine(asked_p _ p (by have:=HLP.out;omega) _ (HP.out.mono E1.out) z HZ.out).mono ?_
 rintro e w1 ⟨rfl,kk1⟩;have K1:=ZZ (al E1.out kk1);clear kk1;go_wp2_with fail;refine bodyPost_ret (v:=.tuple #[.int .i64 0,.int .i64 z]) (by simp [results,Tryz.f9]) rfl ?_;exact⟨rfl,K1.out⟩
def Il (w:World) (v:Value) (l:List Int):Prop:=∃b cap,v=.slice (some ⟨b,0,none⟩) l.length cap∧l.length≤cap∧∀(i:Nat) (x:Int),l[i]?=some x→w.cell? ⟨b,i,none⟩=some (.int .i64 x)
def intsF (l:List Int):List Rat:=l.map fun (x:Int)=>(x:Rat)
theorem ints_p (v:Value) (l:List Int) (hl:l.length≤1000000) (hr:∀x ∈ l,-9223372036854775808≤x∧x<9223372036854775808) (w:World) (hv:Il w v l):Calls Tryz.prog 13 #[v] w fun e w'=>∃v',e=.returned v'∧Pl w' v' (intsF l)∧Ext w w':=by
 obtain⟨b,cap,rfl,hc,ht⟩:=hv;obtain⟨n,hn⟩:∃n,l.length=n:=⟨_,rfl⟩;rw [hn];have HNL:=ZZ hn;have HL:=ZZ hl;have HR:=ZZ hr;have HT:=ZZ ht;clear hl hr hc hn ht
 go_enter Tryz.func13,Tryz.ntmps13
 go_wp2_with fail
 go_loopg [4,3] n (fun k i u wr=>∃j,Hid (j+k=n)∧i=.int .i64 (j:Int)∧Hid (OwnP wr w.heap.size u (intsF (l.take j)))∧Hid (Ext w wr))
 case atStart=>exact⟨0,ZZ (Nat.zero_add _),rfl,ZZ (OwnP.nil _ _),ZZ (ae _)⟩
 case round=>
  obtain⟨j,HJ,rfl,HO,HE⟩:=hrel;rename World=>WR;rename Value=>u
  rcases Nat.eq_zero_or_pos gk with hz|hz
  ·subst hz
   obtain rfl:j=n:=HJ.out;have q1:decide ((j:Int)<(j:Int))=false:=decide_eq_false (Int.lt_irrefl _);go_wp2_with fail;go_ret;have h:=HO.out.pl;rw [List.take_of_length_le (Nat.le_of_eq HNL.out)] at h;exact⟨_,rfl,h,HE.out⟩
  ·have hjn:j<n:=by have:=HJ.out;omega
   have q1:decide ((j:Int)<(n:Int))=true:=decide_eq_true (by omega);have q4:(j:Int)<(n:Int):=by omega
   have q5:(0:Int)≤(j:Int):=by omega
   obtain⟨q,hq⟩:∃q,l[j]?=some q:=⟨l[j]'(by rw [HNL.out];exact hjn),List.getElem?_eq_getElem _⟩;have c0:=ao HE.out (HT.out j q hq);have HQ:=ZZ hq;have HZ:=ZZ hz;have HJN:=ZZ hjn;have HRQ:=ZZ (HR.out q (List.mem_of_getElem? hq));clear hq hz hjn;go_wp2_with fail;refine(int_q q HRQ.out.1 HRQ.out.2 _).mono ?_;rintro e w5 ⟨v5,rfl,h5,k5⟩;obtain⟨s5,A5,k5',ca5,B5,l5,cb5,rfl⟩:=h5.form2;have E6:=ZZ (show Ext WR (w5.alloc (.cells #[.bool s5,.slice A5 k5' ca5,.slice B5 l5 cb5] 38)) from al k5 (ab _ _));have H5:=ZZ (h5.mono (ab w5 (.cells #[.bool s5,.slice A5 k5' ca5,.slice B5 l5 cb5] 38)));obtain⟨xs,hown,hxs⟩:=HO.out.mono E6.out;have HXS:=ZZ hxs;have HOWN:=ZZ hown;have LT:=ZZ (show (intsF (l.take j)).length=j by have h1:=HNL.out;have h2:=HJN.out;simp [intsF];omega);have C3:=ZZ (cells3_new w5 (.bool s5) (.slice A5 k5' ca5) (.slice B5 l5 cb5) 38);clear c0 h5 k5 hown hxs
   go_wp2_with (at_builtin;refine wpList_append1 rfl _ _ rfl w.heap.size _ (intsF (l.take j)).length xs rfl HOWN.out ⟨w5.heap.size,0,none⟩ _ [.bool s5,.slice A5 k5' ca5,.slice B5 l5 cb5] rfl rfl C3.out (by intro u hu;simp at hu;rcases hu with rfl|rfl|rfl <;> rfl) (by intro u hu z he;subst he;simp at hu) (by have h1:=LT.out;have h2:=HL.out;have h3:=HNL.out;have h4:=HJN.out;omega) (al HE.out E6.out).size ?_;intro v' w7 hown7 hgrow)
   have HP7:=ZZ (OwnP.snoc HOWN.out HXS.out H5.out hgrow hown7);have E7:=ZZ (ext_grown1 (al HE.out E6.out) HOWN.out hgrow);clear hown7 hgrow;go_wp2_with fail
   go_roundg (gk - 1)
   case measure=>have:=HZ.out;omega
   case rel=>
    refine⟨j+1,ZZ (by have:=HJ.out;have:=HZ.out;omega),by have h1:=HL.out;have h2:=HNL.out;have h3:=HJN.out;rw [IntWalk.wrap64_in _ ⟨by omega,by omega⟩];rfl,ZZ ?_,ZZ E7.out⟩;rw [List.take_add_one,HQ.out,Option.toList_some];unfold intsF;rw [List.map_append];exact HP7.out
theorem awp1:countE (intsF [2,-3,1,0]) 0 1=(1,0):=by kernel_rfl
theorem awp2:ownOk 2000 (intsF [2,-3,1,0])=true:=by kernel_rfl
theorem awp3:routhE (intsF [1,1,1,1,1])=(2,0,0):=by kernel_rfl
theorem awp4:routhOk 2000 (intsF [1,1,1,1,1])=true:=by kernel_rfl
theorem awp5:rootsE 60 60 (intsF [-2,0,1]) 0=([(-2,-1),(1,2)],0):=by kernel_rfl
theorem awp6:rootsOk 2000 60 60 (intsF [-2,0,1]) 0=true:=by kernel_rfl
theorem awp7:(trimF (intsF [2,-3,1,0])).length=3:=by kernel_rfl
theorem txt_intP (n:Nat) (l:List UInt8) (h:Lib.decDigits n=l):txt (n:Rat)=l:=by
 unfold txt;rw [if_neg (by show ¬((n:Int)<0);omega),if_pos (Rat.den_natCast n)]
 show [] ++ Lib.decDigits n ++ []=_
 rw [h];simp
theorem awp8:txt 1=[49]:=txt_intP 1 _ (dec_natOf [49] (by decide) (by decide) (.inl (by decide)))
theorem awp9:txt 2=[50]:=txt_intP 2 _ (dec_natOf [50] (by decide) (by decide) (.inl (by decide)))
theorem text_litP (M:Nat) (hM:M≤1099511627776) (vx:Value) (x:Rat) (l:List UInt8) (hl:txt x=l) (w:World) (hx:Nm w vx x) (bx:Bq M x) (htab:Tens w):Calls Tryz.prog 17 #[vx] w fun e w'=>e=.returned (.string ⟨l.toArray⟩)∧Ext w w':=by
 subst hl;exact text_c M hM vx x w hx bx htab
theorem il_new (w:World) (l:List Int) (T:TypeId):Il (w.alloc (.cells (l.map fun x=>Value.int .i64 x).toArray T)) (.slice (some ⟨w.heap.size,0,none⟩) l.length l.length) l:=by
 refine⟨w.heap.size,l.length,rfl,Nat.le_refl _,fun i x hx=>?_⟩;have h:=heap_alloc_new w (.cells (l.map fun x=>Value.int .i64 x).toArray T);rw [cell_of_row _ _ i _ _ _ h]
 simp [hx]
theorem awake_p (w:World) (ht:Tens w):Calls Tryz.prog 5 #[] w fun e w'=>e=.returned (.bool true)∧Ext w w':=by
 have HT:=ZZ ht;have I1:=ZZ (show Il (w.alloc (.cells #[.int .i64 2,.int .i64 (-3),.int .i64 1,.int .i64 0] 2)) (.slice (some ⟨w.heap.size,0,none⟩) 4 4) [2,-3,1,0] from il_new w [2,-3,1,0] _);have E1:=ZZ (ab w (.cells #[.int .i64 2,.int .i64 (-3),.int .i64 1,.int .i64 0] 2));clear ht
 go_enter Tryz.func5,Tryz.ntmps5
 go_wp2_with fail;refine(ints_p _ [2,-3,1,0] (by decide) (by decide) _ I1.out).mono ?_
 rintro e w1 ⟨v1,rfl,h1,kk1⟩;have P1:=ZZ h1;have K1:=ZZ (al E1.out kk1);clear h1 kk1 E1 I1;go_wp2_with fail;refine(int_q 0 (by decide) (by decide) _).mono ?_;rintro e w2 ⟨v2,rfl,h2,kk2⟩;have N2:=ZZ h2;have K2:=ZZ kk2;clear h2 kk2;go_wp2_with fail;refine(int_q 1 (by decide) (by decide) _).mono ?_;rintro e w3 ⟨v3,rfl,h3,kk3⟩;have N3:=ZZ h3;have N2b:=ZZ (N2.out.mono kk3);have K3:=ZZ (al K2.out kk3);clear h3 kk3;go_wp2_with fail;refine(count_p 2000 (by decide) (by decide) _ _ _ (intsF [2,-3,1,0]) 0 1 (by decide) _ (P1.out.mono K3.out) N2b.out N3.out ((bq_int 0 (by decide) (by decide)).mono (by decide)) ((bq_int 1 (by decide) (by decide)).mono (by decide)) (fun _ _=>awp2) _ awp1).mono ?_;rintro e w4 ⟨rfl,kk4⟩;have K4:=ZZ (al K1.out (al K3.out kk4));have P4:=ZZ (P1.out.mono (al K3.out kk4));clear kk4;have I5:=ZZ (show Il (w4.alloc (.cells #[.int .i64 1,.int .i64 1,.int .i64 1,.int .i64 1,.int .i64 1] 2)) (.slice (some ⟨w4.heap.size,0,none⟩) 5 5) [1,1,1,1,1] from il_new w4 [1,1,1,1,1] _);have E5:=ZZ (ab w4 (.cells #[.int .i64 1,.int .i64 1,.int .i64 1,.int .i64 1,.int .i64 1] 2));go_wp2_with fail;refine(ints_p _ [1,1,1,1,1] (by decide) (by decide) _ I5.out).mono ?_;rintro e w5 ⟨v5,rfl,h5,kk5⟩;have P5:=ZZ h5;have K5:=ZZ (al E5.out kk5);clear h5 kk5 E5 I5;go_wp2_with fail;refine(routh_p 2000 (by decide) (by decide) _ (intsF [1,1,1,1,1]) (by decide) _ P5.out (fun _=>awp4) _ awp3).mono ?_;rintro e w6 ⟨rfl,kk6⟩;have K6:=ZZ (al K5.out kk6);clear kk6
 have I7:=ZZ (show Il (w6.alloc (.cells #[.int .i64 (-2),.int .i64 0,.int .i64 1] 2)) (.slice (some ⟨w6.heap.size,0,none⟩) 3 3) [-2,0,1] from il_new w6 [-2,0,1] _);have E7:=ZZ (ab w6 (.cells #[.int .i64 (-2),.int .i64 0,.int .i64 1] 2));go_wp2_with fail;refine(ints_p _ [-2,0,1] (by decide) (by decide) _ I7.out).mono ?_;rintro e w7 ⟨v7,rfl,h7,kk7⟩;have P7:=ZZ h7;have K7:=ZZ (al K6.out (al E7.out kk7));clear h7 kk7 E7 I7;go_wp2_with fail;refine(roots_p 2000 60 60 (by decide) (by decide) _ (intsF [-2,0,1]) 0 (by decide) (by decide) _ P7.out (fun _=>awp6) _ awp5).mono ?_;rintro e w8 ⟨v8,rfl,h8,kk8⟩;have K8:=ZZ (al K7.out kk8);obtain⟨A8,cap8,e8,hc8,hA8⟩:=h8
 rcases hA8 with ⟨-,h9⟩|⟨b8,e9,hA8⟩
 ·cases h9
 subst e9;have hlen:([(-2,-1),(1,2)]:List (Rat × Rat)).length=2:=rfl
 dsimp only at e8 hA8
 rw [hlen] at e8;subst e8;obtain⟨s1,A1,k1,ca1,B1,l1,cb1,s2,A2,k2,ca2,B2,l2,cb2,x0,x1,x2,x3,x4,x5,hsp⟩:=hA8 1 (1,2) rfl;have HLO:=ZZ (show Nm w8 (.agg #[.bool s1,.slice A1 k1 ca1,.slice B1 l1 cb1]) 1 from by obtain⟨_,_,_,_,_,_,e,h1,h2⟩:=hsp;cases e;exact h1);have HHI:=ZZ (show Nm w8 (.agg #[.bool s2,.slice A2 k2 ca2,.slice B2 l2 cb2]) 2 from by obtain⟨_,_,_,_,_,_,e,h1,h2⟩:=hsp;cases e;exact h2);have C8:=ZZ (show ∀W,Ext w8 W→W.cell? ⟨b8,6,none⟩=some (.bool s1)∧W.cell? ⟨b8,7,none⟩=some (.slice A1 k1 ca1)∧W.cell? ⟨b8,8,none⟩=some (.slice B1 l1 cb1)∧W.cell? ⟨b8,9,none⟩=some (.bool s2)∧W.cell? ⟨b8,10,none⟩=some (.slice A2 k2 ca2)∧W.cell? ⟨b8,11,none⟩=some (.slice B2 l2 cb2) from fun W k=>⟨ao k x0,ao k x1,ao k x2,ao k x3,ao k x4,ao k x5⟩);clear kk8 hc8 hA8 x0 x1 x2 x3 x4 x5 hsp hlen;go_wp2_with fail;refine(rect0_p _ [] _ _ _ _ _ _ _ _ _ _ _ _ (by decide) _ (Pl.nil _) 8 rfl (by decide)).mono ?_;rintro e w9 ⟨rfl,kk9⟩;have K9:=ZZ kk9;clear kk9;go_wp2_with fail;refine(deg_q _ (intsF [2,-3,1,0]) (by decide) _ (P4.out.mono (al K8.out K9.out))).mono ?_;rintro e wa ⟨rfl,kka⟩;rw [awp7];have KA:=ZZ (al K9.out kka);clear kka;obtain⟨x0,x1,x2,x3,x4,x5⟩:=C8.out wa KA.out;go_wp2_with fail;refine(text_litP 64 (by decide) _ 1 _ awp8 _ (HLO.out.mono KA.out) (bq_int 1 (by decide) (by decide)) (HT.out.mono (al K4.out (al K8.out KA.out)))).mono ?_;rintro e wb ⟨rfl,kkb⟩;have KB:=ZZ (al KA.out kkb);clear kkb x0 x1 x2 x3 x4 x5;obtain⟨x0,x1,x2,x3,x4,x5⟩:=C8.out wb KB.out;go_wp2_with fail
 refine(text_litP 64 (by decide) _ 2 _ awp9 _ (HHI.out.mono KB.out) (bq_int 2 (by decide) (by decide)) (HT.out.mono (al K4.out (al K8.out KB.out)))).mono ?_;rintro e wc ⟨rfl,kkc⟩;have KC:=ZZ (al KB.out kkc);clear kkc x0 x1 x2 x3 x4 x5;go_wp2_with fail;go_ret;exact⟨rfl,al K4.out (al K8.out KC.out)⟩
def Stl (w:World) (v:Value) (ls:List (List UInt8)):Prop:=((∃A c,v=.slice A 0 c)∧ls=[])∨∃b o cap,v=.slice (some ⟨b,o,none⟩) ls.length cap∧ls.length≤maxLen∧(∀s ∈ ls,s.length≤maxLen)∧∀(i:Nat) (s:List UInt8),ls[i]?=some s→w.cell? ⟨b,o+i,none⟩=some (.string ⟨s.toArray⟩)
theorem Stl.mono {w w':World} {v:Value} {ls:List (List UInt8)} (h:Stl w v ls) (k:Ext w w'):Stl w' v ls:=by
 rcases h with h|⟨b,o,cap,e,hl,hs,hc⟩
 ·exact .inl h
 ·exact .inr ⟨b,o,cap,e,hl,hs,fun i s his=>ao k (hc i s his)⟩
theorem Stl.form {w:World} {v:Value} {ls:List (List UInt8)} (h:Stl w v ls):∃A cap,v=.slice A ls.length cap∧ls.length≤maxLen:=by
 rcases h with ⟨⟨A,c,rfl⟩,rfl⟩|⟨b,o,cap,e,hl,-⟩
 ·exact⟨A,c,rfl,Nat.zero_le _⟩
 ·exact⟨_,_,e,hl⟩
def Gl (w:World) (v:Value) (LL:List (Value × List (List UInt8))):Prop:=∃b cap,v=.slice (some ⟨b,0,none⟩) LL.length cap∧∀(i:Nat) (y:Value × List (List UInt8)),LL[i]?=some y→w.cell? ⟨b,i,none⟩=some y.1∧Stl w y.1 y.2
def great1 (ls:List (List UInt8)):Bool:=ls.any fun s=>decide (60<s.length)
def greatF (LL:List (Value × List (List UInt8))):Bool:=LL.any fun y=>decide (60<y.2.length) || great1 y.2
theorem great_p (v:Value) (LL:List (Value × List (List UInt8))) (hn:LL.length≤1000) (w:World) (h:Gl w v LL):Calls Tryz.prog 4 #[v] w fun e w'=>e=.returned (.bool (greatF LL))∧Ext w w':=by
 obtain⟨b,cap,rfl,ht⟩:=h;obtain⟨n,hm⟩:∃n,LL.length=n:=⟨_,rfl⟩;rw [hm];have HNL:=ZZ hm;have HL:=ZZ hn;have HT:=ZZ ht;clear hm hn ht
 go_enter Tryz.func4,Tryz.ntmps4
 go_wp2_with fail
 go_loopg [3] n (fun k i wr=>∃j,Hid (j+k=n)∧i=.int .i64 (j:Int)∧Hid (greatF (LL.take j)=false)∧Hid (Ext w wr))
 case atStart=>exact⟨0,ZZ (Nat.zero_add _),rfl,ZZ rfl,ZZ (ae _)⟩
 case round=>
  obtain⟨j,HJ,rfl,HF,HE⟩:=hrel;rename World=>WR
  rcases Nat.eq_zero_or_pos gk with hz|hz
  ·subst hz
   obtain rfl:j=n:=HJ.out;have q1:decide ((j:Int)<(j:Int))=false:=decide_eq_false (Int.lt_irrefl _);go_wp2_with fail;go_ret;have h:=HF.out;rw [List.take_of_length_le (Nat.le_of_eq HNL.out)] at h;rw [h];exact⟨rfl,HE.out⟩
  ·have hjn:j<n:=by have:=HJ.out;omega
   have q1:decide ((j:Int)<(n:Int))=true:=decide_eq_true (by omega);have q4:(j:Int)<(n:Int):=by omega
   have q5:(0:Int)≤(j:Int):=by omega
   obtain⟨⟨y,ls⟩,hy⟩:∃y,LL[j]?=some y:=⟨LL[j]'(by rw [HNL.out];exact hjn),List.getElem?_eq_getElem _⟩;obtain⟨c0,hS⟩:=HT.out j _ hy
   dsimp only at c0 hS
   obtain⟨A,cs,rfl,hlm⟩:=hS.form;obtain⟨m,hm⟩:∃m,ls.length=m:=⟨_,rfl⟩;rw [hm] at c0 hS hlm;have C0:=ZZ (show ∀W,Ext w W→W.cell? ⟨b,j,none⟩=some (.slice A m cs) from fun W k=>ao k c0);have HS:=ZZ hS;have HY:=ZZ hy;have HMM:=ZZ hm;have HLM:=ZZ (show m≤9223372036854775807 from Nat.le_trans hlm (by unfold maxLen;decide));have HZ:=ZZ hz;have HJN:=ZZ hjn;clear c0 hS hlm hm hy hz hjn;have c0:=C0.out WR HE.out
   by_cases h60:60<m
   ·have r1:decide ((60:Int)<(m:Int))=true:=decide_eq_true (by omega)
    have HR:=ZZ (show greatF LL=true from List.any_eq_true.2 ⟨_,List.mem_of_getElem? HY.out,by dsimp only;rw [HMM.out,decide_eq_true h60];rfl⟩);clear h60;go_wp2_with fail;go_ret;rw [HR.out];exact⟨rfl,HE.out⟩
   ·have r1:decide ((60:Int)<(m:Int))=false:=decide_eq_false (by omega)
    have H60:=ZZ h60;clear h60;go_wp2_with fail;obtain⟨ko,rfl⟩:∃ko,ko=gk:=⟨_,rfl⟩;clear c0
    go_loopg [4] m (fun k u wr=>∃i,Hid (i+k=m)∧u=.int .i64 (i:Int)∧Hid (great1 (ls.take i)=false)∧Hid (Ext w wr))
    case atStart=>exact⟨0,ZZ (Nat.zero_add _),rfl,ZZ rfl,HE⟩
    case round=>
     obtain⟨i,HI,rfl,HF2,HE2⟩:=hrel;rename World=>WI;have c0:=C0.out WI HE2.out
     rcases Nat.eq_zero_or_pos gk with hz2|hz2
     ·subst hz2
      obtain rfl:i=m:=HI.out;have q1n:decide ((i:Int)<(i:Int))=false:=decide_eq_false (Int.lt_irrefl _);go_wp2_with fail
      go_roundg (ko - 1)
      case measure=>have:=HZ.out;omega
      case rel=>
       refine⟨j+1,ZZ (by have:=HJ.out;have:=HZ.out;omega),by have h1:=HL.out;have h2:=HNL.out;have h3:=HJN.out;rw [IntWalk.wrap64_in _ ⟨by omega,by omega⟩];rfl,ZZ ?_,HE2⟩;have h:=HF2.out;rw [List.take_of_length_le (Nat.le_of_eq HMM.out)] at h;have hF:=HF.out;unfold greatF at hF ⊢;rw [List.take_add_one,HY.out,List.any_append,hF]
       simp [h,HMM.out]
       have:=H60.out
       omega
     ·have him:i<m:=by have:=HI.out;omega
      have q1n:decide ((i:Int)<(m:Int))=true:=decide_eq_true (by omega);have q4n:(i:Int)<(m:Int):=by omega
      have q5n:(0:Int)≤(i:Int):=by omega
      obtain⟨s,hs⟩:∃s,ls[i]?=some s:=⟨ls[i]'(by rw [HMM.out];exact him),List.getElem?_eq_getElem _⟩
      rcases HS.out with ⟨-,h5⟩|⟨b2,o2,cap2,e2,-,hsm,hcs⟩
      ·have:=HMM.out;rw [h5] at this;simp at this;omega
      injection e2 with e2
      subst e2;have d0:=ao HE2.out (hcs i s hs);obtain⟨z,hzs⟩:∃z,s.length=z:=⟨_,rfl⟩;have hz3:(⟨s.toArray⟩:ByteArray).size=z:=by rw [←hzs];simp [ByteArray.size]
      have hzm:z≤9223372036854775807:=by
       have h:=hsm s (List.mem_of_getElem? hs);have h2:maxLen=9223372036854775807:=by unfold maxLen;rfl
       omega
      have HSS:=ZZ hs;have HZS:=ZZ hzs;have HZ2:=ZZ hz2;have HIM:=ZZ him;clear hs hzs hz2 him hsm hcs
      by_cases h61:60<z
      ·have r2:decide ((60:Int)<(z:Int))=true:=decide_eq_true (by omega)
       have HR:=ZZ (show greatF LL=true from List.any_eq_true.2 ⟨_,List.mem_of_getElem? HY.out,by
        dsimp only
        rw [Bool.or_eq_true];exact .inr (List.any_eq_true.2 ⟨s,List.mem_of_getElem? HSS.out,by rw [HZS.out,decide_eq_true h61]⟩)⟩)
       clear h61;go_wp2_with fail;go_ret;rw [HR.out];exact⟨rfl,HE2.out⟩
      ·have r2:decide ((60:Int)<(z:Int))=false:=decide_eq_false (by omega)
       have H61:=ZZ h61;clear h61;go_wp2_with fail
       go_roundg (gk - 1)
       case measure=>have:=HZ2.out;omega
       case rel=>
        refine⟨i+1,ZZ (by have:=HI.out;have:=HZ2.out;omega),by have h1:=HLM.out;have h2:=HIM.out;rw [IntWalk.wrap64_in _ ⟨by omega,by omega⟩];rfl,ZZ ?_,HE2⟩;have hF:=HF2.out;unfold great1 at hF ⊢;rw [List.take_add_one,HSS.out,List.any_append,hF]
        simp [HZS.out]
        have:=H61.out
        omega
end Go.Proofs.YtkoaakefgacokaaGreatDoor
