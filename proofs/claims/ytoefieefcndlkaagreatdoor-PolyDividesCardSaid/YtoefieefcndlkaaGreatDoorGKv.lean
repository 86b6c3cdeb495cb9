/- The reference's square-free parts. The walk of PolyDivides. Printed by gen_kv.py. -/
import Derived.Test.YtoefieefcndlkaaGreatDoorGYw
import Derived.Test.YtoefieefcndlkaaGreatDoorGYt
set_option linter.unusedVariables false
set_option maxRecDepth 100000
set_option maxHeartbeats 64000000
namespace Go.Proofs.YtoefieefcndlkaaGreatDoor
open Go Go.RowKit
set_option linter.unusedSimpArgs false
theorem info_plr:(Tryz.prog.info? 26).map (fun i=>(i.zero,i.size,i.bytes))=some (some (.slice none 0 0),1,24):=by kernel_rfl
theorem elPlr:ElT Tryz.prog 42 26 1 24 (.slice none 0 0):=
 ⟨Tryz.underlying42,by obtain⟨i,hi,h1,h2,h3⟩:=info_parts info_plr;exact⟨i,hi,h1,h2,h3⟩,rfl,by decide⟩
abbrev OwnVr (w:World) (B:Nat) (v:Value) (n:Nat) (xs:List Value):Prop:=OwnG w B 26 1 isSl v n xs
theorem Wr.offS {w:World} {v u:Value} {m B n:Nat} {xs:List Value} (h:Wr w v m) (hown:OwnVr w B u n xs):BlC (fun b=>u.ownBlock≠some b) v:=by
 rintro a k c e h0 hb;obtain⟨A,cc,e1,hc,hcl⟩:=h;rw [e1] at e
 injection e with ea ek ec
 rcases hcl with h1|⟨b,o,hA,hce⟩
 ·rw [←ek] at h0
  simp at h1
  rw [h1] at h0
  cases h0
 ·rw [hA] at ea
  injection ea with ea
  rw [←ea] at hb;have h2:=hce 0 (by simp;omega);obtain⟨A2,k2,n2,e2⟩:=hown.kind hb h2
  have h3:∀l:List Nat,0<l.length→∃d,(l.map i64n).getD 0 undef=i64n d:=fun l hl=>by
   cases l with
   | nil=>cases hl
   | cons d l=>exact⟨d,rfl⟩
  obtain⟨d,hd⟩:=h3 (dr m) (by omega);rw [hd] at e2
  cases e2
theorem Nr.offS {w:World} {v u:Value} {q:Rat} {B n:Nat} {xs:List Value} (h:Nr w v q) (hown:OwnVr w B u n xs):BlN (fun b=>u.ownBlock≠some b) v:=by
 obtain⟨s,vt,vb,e,hs,h1,h2⟩:=h;intro s1 A1 k1 c1 A2 l2 d2 e';rw [e] at e'
 simp only [Value.agg.injEq,Array.mk.injEq,List.cons.injEq] at e'
 obtain⟨-,rfl,rfl,-⟩:=e';exact⟨h1.offS hown,h2.offS hown⟩
theorem PlR.grownS {w w':World} {v u:Value} {l:List Rat} {B n:Nat} {xs:List Value} (h:PlR w v l) (hown:OwnVr w B u n xs) (hg:w.grownBy w' u.ownBlock):PlR w' v l:=by
 obtain⟨A,cap,e,hc,hA⟩:=h.old;refine⟨A,cap,e,hc,?_⟩
 rcases hA with h|⟨b,o,e1,ht⟩
 ·exact .inl h
 ·refine .inr ⟨b,o,e1,fun i q hq=>?_⟩
  obtain⟨hb0,s,A1,m,ca,B1,n1,cb,h1,h2,h3,h4,h5⟩:=ht i q hq
  have hb:some b≠u.ownBlock:=fun hb=>by
   obtain⟨A2,k2,n2,e2⟩:=hown.kind hb.symm h1
   cases e2
  exact⟨s,A1,m,ca,B1,n1,cb,hg.cell h1 hb,hg.cell h2 hb,hg.cell h3 hb,h4.keepB ((h4.offS hown).both h5) fun b' hb'=>hg.block b' hb'.2 fun e=>hb'.1 e.symm⟩
def PlLR (w:World) (v:Value) (ls:List (List Rat)):Prop:=∃A cap,v=.slice A ls.length cap∧ls.length≤cap∧((A=none∧ls=[])∨∃b o,A=some ⟨b,o,none⟩∧∀i l,ls[i]?=some l→∃u,w.cell? ⟨b,o+i,none⟩=some u∧PlR w u l)
theorem PlLR.mono {w w':World} {v:Value} {ls:List (List Rat)} (h:PlLR w v ls) (k:Ext w w'):PlLR w' v ls:=by
 obtain⟨A,cap,e,hc,hA⟩:=h;refine⟨A,cap,e,hc,?_⟩
 rcases hA with h|⟨b,o,e1,ht⟩
 ·exact .inl h
 ·exact .inr ⟨b,o,e1,fun i l hl=>by obtain⟨u,h1,h2⟩:=ht i l hl;exact⟨u,am k h1,h2.mono k⟩⟩
theorem PlLR.nil (w:World):PlLR w (.slice none 0 0) []:=⟨none,0,rfl,Nat.le_refl _,.inl ⟨rfl,rfl⟩⟩
def OwnLr (w:World) (B:Nat) (v:Value) (ls:List (List Rat)):Prop:=∃xs,OwnVr w B v ls.length xs∧∀(i:Nat) (l:List Rat),ls[i]?=some l→∃u,xs[i]?=some u∧PlR w u l
theorem OwnLr.nil (w:World) (B:Nat):OwnLr w B (.slice none 0 0) []:=⟨[],OwnG.nil _ _ _ _ _,fun i l h=>by cases h⟩
theorem OwnLr.mono {w w':World} {B:Nat} {v:Value} {ls:List (List Rat)} (h:OwnLr w B v ls) (k:Ext w w'):OwnLr w' B v ls:=by
 obtain⟨xs,h1,h2⟩:=h;exact⟨xs,h1.mono k,fun i l hl=>by obtain⟨u,e,hp⟩:=h2 i l hl;exact⟨u,e,hp.mono k⟩⟩
theorem OwnLr.pll {w:World} {B:Nat} {v:Value} {ls:List (List Rat)} (h:OwnLr w B v ls):PlLR w v ls:=by
 obtain⟨xs,h1,h2⟩:=h
 rcases Nat.eq_zero_or_pos ls.length with h0|h0
 ·rcases h1.2 with ⟨e,-⟩|⟨g,cap,cur,e,-,-,hc,-⟩
  ·rw [List.length_eq_zero_iff.1 h0]
   exact⟨none,0,e,Nat.le_refl _,.inl ⟨rfl,rfl⟩⟩
  ·exact⟨_,cap,e,hc,.inr ⟨g,0,rfl,fun i l hl=>by rw [List.length_eq_zero_iff.1 h0] at hl;cases hl⟩⟩
 ·obtain⟨g,cap,e,-,hc,hcell⟩:=h1.cells h0
  refine⟨_,cap,e,hc,.inr ⟨g,0,rfl,fun i l hl=>?_⟩⟩;obtain⟨u,hu,hp⟩:=h2 i l hl;exact⟨u,by rw [Nat.zero_add];exact hcell _ _ hu,hp⟩
theorem OwnLr.snoc {w w':World} {B:Nat} {v v' u:Value} {ls:List (List Rat)} {xs:List Value} {l:List Rat} (hown:OwnVr w B v ls.length xs) (hx:∀(i:Nat) (l:List Rat),ls[i]?=some l→∃u,xs[i]?=some u∧PlR w u l) (hu:PlR w u l) (hg:w.grownBy w' v.ownBlock) (h:OwnVr w' B v' (ls.length+1) (xs ++ [u])):OwnLr w' B v' (ls ++ [l]):=by
 have hxl:xs.length=ls.length:=by have:=hown.1;omega
 refine⟨_,by rw [List.length_append];exact h,fun i m hm=>?_⟩
 rcases Nat.lt_or_ge i ls.length with hi|hi
 ·rw [List.getElem?_append_left hi] at hm
  obtain⟨u',e,hp⟩:=hx i m hm;exact⟨u',by rw [List.getElem?_append_left (by omega)];exact e,hp.grownS hown hg⟩
 ·rw [List.getElem?_append_right hi] at hm
  have hi0:i - ls.length=0:=by
   rcases Nat.eq_zero_or_pos (i - ls.length) with e|e
   ·exact e
   ·obtain⟨d,hd⟩:∃d,i - ls.length=d+1:=⟨i - ls.length - 1,by omega⟩
    rw [hd] at hm;simp at hm
  rw [hi0] at hm;obtain rfl:l=m:=Option.some.inj hm;exact⟨u,by rw [List.getElem?_append_right (by omega),show i - xs.length=0 by omega];rfl,hu.grownS hown hg⟩
theorem plr_one {w:World} {s:Int} {A C:Option Addr} {k ca m cb:Nat} {q:Rat} (h:Nr w (.agg #[.int .i64 s,.slice A k ca,.slice C m cb]) q):PlR (w.alloc (.cells #[.int .i64 s,.slice A k ca,.slice C m cb] 75)) (.slice (some ⟨w.heap.size,0,none⟩) 1 1) [q]:=by
 refine⟨_,1,rfl,Nat.le_refl _,.inr ⟨w.heap.size,0,rfl,fun i r hr=>?_⟩⟩
 cases i with
 | succ i=>cases hr
 | zero=>
  obtain rfl:q=r:=Option.some.inj hr;obtain⟨y0,y1,y2,-⟩:=ai (heap_alloc_new w (.cells #[.int .i64 s,.slice A k ca,.slice C m cb] 75));exact⟨s,A,k,ca,C,m,cb,y0,y1,y2,h.mono (ab _ _)⟩
theorem common_ne {p:List Rat} (h:1<(trimF p).length):trimF (commonF p (derivF p))≠[]:=trim_ne (nextP_pos (show 0<dgF p from Nat.lt_of_lt_of_le Nat.zero_lt_one (Nat.le_of_lt h)))
theorem more_ne {p:List Rat} (h:1<(trimF p).length):trimF (moreF (commonF p (derivF p)))≠[]:=by
 have h0:0<dgF p:=Nat.lt_of_lt_of_le Nat.zero_lt_one (Nat.le_of_lt h);have e:moreF (nextP p)=baseP (nextP p):=more_base (nextP_mo p) (nextP_pos h0)
 show trimF (moreF (nextP p))≠[]
 rw [e];exact trim_ne (base_mo (nextP_mo p) (nextP_pos h0)).2
theorem pparts_n (M:Nat) (hM0:0<M) (hM:3*M+64≤274877906944) (vp:Value) (p:List Rat) (hlp:p.length≤50000) (w:World) (hp:PlR w vp p) (hok:rpartsB M (p.length+1) p=true):Calls Tryz.prog 43 #[vp] w fun e w'=>∃v,e=.returned v∧PlLR w' v (rpartsU (p.length+1) p)∧Ext w w':=by
 obtain⟨D,hD⟩:∃D,rpartsU (p.length+1) p=D:=⟨_,rfl⟩;have HD:=ZZ hD;have HP:=ZZ hp;have HLP:=ZZ hlp;have HOK:=ZZ hok;have HM:=ZZ hM;have HM0:=ZZ hM0;have HDG:=ZZ (show (trimF p).length≤p.length+1 from Nat.le_succ_of_le (trim_le p));rw [hD];clear hp hlp hok hM hM0 hD
 go_enter Tryz.func43,Tryz.ntmps43
 go_wp2_with fail
 go_loopg [0,3] (p.length+1) (fun k a u wr=>∃(P:List Rat) (ls:List (List Rat)),Hid (P.length≤50000)∧Hid (ls.length+k=p.length+1)∧Hid ((trimF P).length≤k)∧Hid (rpartsB M k P=true)∧Hid (ls ++ rpartsU k P=D)∧Hid (PlR wr a P)∧Hid (OwnLr wr w.heap.size u ls)∧Hid (Ext w wr))
 case atStart=>exact⟨p,[],HLP,ZZ (Nat.zero_add _),HDG,HOK,HD,HP,ZZ (OwnLr.nil _ _),ZZ (ae _)⟩
 case round=>
  obtain⟨P,ls,HPL,HLS,HFU,HB,HU,HPP,HO,HE⟩:=hrel;rename World=>WR;obtain⟨m,hm⟩:∃m,(trimF P).length=m:=⟨_,rfl⟩;obtain⟨d,hd⟩:∃d:Int,((trimF P).length:Int) - 1=d:=⟨_,rfl⟩;have HDD:=ZZ hd;go_wp2_with fail;refine(deg_n _ P (by have:=HPL.out;omega) _ HPP.out d HDD.out).mono ?_;rintro e wd ⟨rfl,kd⟩;have KD:=ZZ kd;clear kd
  rcases Nat.lt_or_ge 1 m with h1|h1
  ·obtain⟨ko,rfl⟩:∃k,gk=k+1:=⟨gk - 1,by have:=HFU.out;omega⟩
   have H1:=ZZ (show 1<(trimF P).length from by rw [hm];exact h1);have hb:=HB.out;unfold rpartsB at hb;rw [if_pos H1.out] at hb;have hu:=HU.out;unfold rpartsU at hu;rw [if_pos H1.out] at hu;have hne:=common_ne H1.out;have hme:=more_ne H1.out;have hless:(trimF (commonF P (derivF P))).length<(trimF P).length:=nextP_less H1.out;have hcl:=common_len P (derivF P) 50000 HPL.out (Nat.le_trans (deriv_len P) HPL.out);have hcl2:=common_len (commonF P (derivF P)) (derivF (commonF P (derivF P))) 50000 hcl (Nat.le_trans (deriv_len _) hcl);obtain⟨rest,hrest⟩:∃r,commonF P (derivF P)=r:=⟨_,rfl⟩;rw [hrest] at hb hu hne hme hless hcl hcl2;obtain⟨all,hall⟩:∃r,(divF P rest).1=r:=⟨_,rfl⟩;rw [hall] at hb hu;obtain⟨more,hmore⟩:∃r,moreF rest=r:=⟨_,rfl⟩;rw [hmore] at hb hu hme;obtain⟨part,hpart⟩:∃r,(divF all more).1=r:=⟨_,rfl⟩;rw [hpart] at hb hu
   simp only [Bool.and_eq_true] at hb
   obtain⟨⟨⟨⟨⟨⟨⟨o1,o2⟩,o3⟩,o4⟩,o5⟩,o6⟩,o7⟩,o8⟩:=hb;have P1:=ZZ (sm_of o1);have P3:=ZZ o3;have P4:=ZZ o4;have P5:=ZZ o5;have P6:=ZZ o6;have P7:=ZZ (sm_of o7);have P8:=ZZ o8;have HR:=ZZ hrest;have HA:=ZZ hall;have HMO:=ZZ hmore;have HPT:=ZZ hpart;have HU2:=ZZ hu;have HNE:=ZZ hne;have HME:=ZZ hme;have HLESS:=ZZ hless;have LC:=ZZ hcl;have LC2:=ZZ hcl2;have LA:=ZZ (show all.length≤50000 from by rw [←hall];exact Nat.le_trans (div_len1 P rest hne) HPL.out)
   have LM:=ZZ (show more.length≤50001 from by
    rw [←hmore];unfold moreF
    split
    ·exact Nat.le_trans (div_len _ _).1 (by omega)
    ·exact(by decide:[1].length≤50001))
   have LP:=ZZ (show part.length≤50000 from by rw [←hpart];exact Nat.le_trans (div_len1 all more hme) LA.out);have q1:decide ((0:Int)<d)=true:=decide_eq_true (by have:=HDD.out;rw [hm] at this;omega);clear o1 o2 o3 o4 o5 o6 o7 o8 hrest hall hmore hpart hu hm h1 hne hme hless hcl hcl2 hd;have HP1:=ZZ (HPP.out.mono KD.out);go_wp2_with fail;refine(pderiv_n M (by have:=HM.out;omega) _ P (by have:=HPL.out;omega) _ HP1.out P1.out).mono ?_;rintro e x5 ⟨u5,rfl,h5,k5⟩;have G5:=ZZ h5;have X5:=ZZ (ak KD.out k5);have HP2:=ZZ (HP1.out.mono k5);clear h5 k5 HP1;go_wp2_with fail;refine(pdivisor_n M HM0.out HM.out _ _ P (derivF P) (by have:=HPL.out;omega) (by have h1:=deriv_len P;have:=HPL.out;omega) _ HP2.out G5.out (by rw [←HR.out] at *;exact P3.out)).mono ?_;rintro e x6 ⟨u6,rfl,h6,k6⟩;rw [HR.out] at h6;have G6:=ZZ h6;have X6:=ZZ (ak X5.out k6);have HP3:=ZZ (HP2.out.mono k6);clear h6 k6 HP2 G5;go_wp2_with fail;refine(pdivided_n M HM0.out (by have:=HM.out;omega) _ _ P rest (by have:=HPL.out;omega) (by have:=LC.out;omega) _ HP3.out G6.out HNE.out P4.out).mono ?_;rintro e x7 ⟨u7,u7b,rfl,h7,h7b,k7⟩;rw [HA.out] at h7;have G7:=ZZ h7;have X7:=ZZ (ak X6.out k7);have G6b:=ZZ (G6.out.mono k7);clear h7 h7b k7 G6 HP3;go_wp2_with fail;refine(int_n 1 (by decide) (by decide) _).mono ?_;rintro e x8 ⟨u8,rfl,h8,k8⟩;obtain⟨s8,A8,n8,ca8,B8,l8,cb8,rfl,-⟩:=h8.form;have G8:=ZZ (plr_one (show Nr x8 (.agg #[.int .i64 s8,.slice A8 n8 ca8,.slice B8 l8 cb8]) 1 from h8))
   have X8:=ZZ (ak X7.out (ak k8 (ab x8 (.cells #[.int .i64 s8,.slice A8 n8 ca8,.slice B8 l8 cb8] 75))));have G7b:=ZZ ((G7.out.mono k8).mono (ab x8 (.cells #[.int .i64 s8,.slice A8 n8 ca8,.slice B8 l8 cb8] 75)));have G6c:=ZZ ((G6b.out.mono k8).mono (ab x8 (.cells #[.int .i64 s8,.slice A8 n8 ca8,.slice B8 l8 cb8] 75)));clear h8 k8 G7 G6b
   go_upto_region 6 with (fail)
   generalize World.alloc x8 (.cells #[.int .i64 s8,.slice A8 n8 ca8,.slice B8 l8 cb8] _)=Y8 at *;generalize x8.heap.size=g8 at *;obtain⟨m2,hm2⟩:∃m,(trimF rest).length=m:=⟨_,rfl⟩;obtain⟨d2,hd2⟩:∃d:Int,((trimF rest).length:Int) - 1=d:=⟨_,rfl⟩;have HD2:=ZZ hd2;go_wp2_with fail;refine(deg_n _ rest (by have:=LC.out;omega) _ G6c.out d2 HD2.out).mono ?_;rintro e x9 ⟨rfl,k9⟩;have X9:=ZZ (ak X8.out k9);have G6d:=ZZ (G6c.out.mono k9);have G7d:=ZZ (G7b.out.mono k9);have G8d:=ZZ (G8.out.mono k9);clear k9 G6c G7b G8
   rcases Nat.lt_or_ge 1 m2 with hh|hh
   case' inl=>
    have HH:=ZZ (show 1<(trimF rest).length from by rw [hm2];exact hh);have hp5:=P5.out;rw [if_pos HH.out] at hp5
    simp only [Bool.and_eq_true] at hp5
    obtain⟨⟨r1,r2⟩,r3⟩:=hp5;have R2:=ZZ r2;have R3:=ZZ r3;have HMO2:=ZZ (show (divF rest (commonF rest (derivF rest))).1=more from by rw [←HMO.out];unfold moreF;rw [if_pos HH.out]);have HN2:=ZZ (common_ne HH.out);have q2:decide ((0:Int)<d2)=true:=decide_eq_true (by have:=HD2.out;rw [hm2] at this;omega)
    have BR:=ZZ (show ∀c ∈ rest,Bq M c from by
     have h:=r3;unfold divOk at h;rw [Bool.and_eq_true,Bool.and_eq_true] at h;exact sm_of h.1.1)
    clear r1 r2 r3 hm2 hd2 hh;go_wp2_with fail;refine(pderiv_n M (by have:=HM.out;omega) _ rest (by have:=LC.out;omega) _ G6d.out BR.out).mono ?_;rintro e y1 ⟨t1,rfl,i1,j1⟩;have I1:=ZZ i1;have J1:=ZZ j1;have G6e:=ZZ (G6d.out.mono j1);clear i1 j1;go_wp2_with fail;refine(pdivisor_n M HM0.out HM.out _ _ rest (derivF rest) (by have:=LC.out;omega) (by have h1:=deriv_len rest;have:=LC.out;omega) _ G6e.out I1.out R2.out).mono ?_;rintro e y2 ⟨t2,rfl,i2,j2⟩;have I2:=ZZ i2;have J2:=ZZ (ak J1.out j2);have G6f:=ZZ (G6e.out.mono j2);clear i2 j2;go_wp2_with fail;refine(pdivided_n M HM0.out (by have:=HM.out;omega) _ _ rest (commonF rest (derivF rest)) (by have:=LC.out;omega) (by have:=LC2.out;omega) _ G6f.out I2.out HN2.out R3.out).mono ?_;rintro e y3 ⟨t3,t3b,rfl,i3,i3b,j3⟩;rw [HMO2.out] at i3;have GM:=ZZ i3;have J3:=ZZ (ak J2.out j3);have XF:=ZZ (ak X9.out J3.out);have G6g:=ZZ (G6d.out.mono J3.out);have G7e:=ZZ (G7d.out.mono J3.out);clear i3 i3b j3 G6d G7d G8d G6e G6f I1 I2 J1 J2 J3 R2 R3 HMO2 HN2 BR HH
   case' inr=>
    have HNH:=ZZ (show ¬ 1<(trimF rest).length from by rw [hm2];omega);have q2:decide ((0:Int)<d2)=false:=decide_eq_false (by have:=HD2.out;rw [hm2] at this;omega);have HMO2:=ZZ (show [1]=more from by rw [←HMO.out];unfold moreF;rw [if_neg HNH.out]);have GM:=ZZ (show PlR x9 (.slice (some ⟨g8,0,none⟩) 1 1) more from by rw [←HMO2.out];exact G8d.out);have XF:=X9;have G6g:=G6d;have G7e:=G7d;clear hm2 hd2 hh G6d G7d G8d HMO2 HNH X9;generalize x9=y3 at *
   all_goals
    go_wp2_with fail;refine(pdivided_n M HM0.out (by have:=HM.out;omega) _ _ all more (by have:=LA.out;omega) (by have:=LM.out;omega) _ G7e.out GM.out HME.out P6.out).mono ?_
    rintro e z1 ⟨w1,w1b,rfl,i1,i1b,j1⟩;rw [HPT.out] at i1;have I1:=ZZ i1;have J1:=ZZ (ak XF.out j1);have G6h:=ZZ (G6g.out.mono j1);clear i1 i1b j1;go_wp2_with fail;refine(pmonic_n M HM0.out (by have:=HM.out;omega) _ part (by have:=LP.out;omega) _ I1.out P7.out).mono ?_;rintro e z2 ⟨w2,rfl,i2,j2⟩;obtain⟨n7,hn7⟩:∃n,(monicF part).length=n:=⟨_,rfl⟩;obtain⟨A7,c7,e7⟩:=i2.form;rw [hn7] at e7;subst e7;have J2:=ZZ (ak J1.out (ak j2 (ab z2 (.cells #[.slice A7 n7 c7] 26))));have G9:=ZZ (i2.mono (ab z2 (.cells #[.slice A7 n7 c7] 26)));have G6i:=ZZ ((G6h.out.mono j2).mono (ab z2 (.cells #[.slice A7 n7 c7] 26)));obtain⟨xs,hown,hxs⟩:=HO.out.mono J2.out;have HOWN:=ZZ hown;have HXS:=ZZ hxs;have C1:=ZZ (cell1_new z2 (.slice A7 n7 c7) 26);clear i2 j2 hn7 hown hxs
    go_wp2_with (at_builtin;refine wpList_appendG elPlr zero_sl rfl _ _ rfl w.heap.size _ ls.length xs rfl HOWN.out ⟨z2.heap.size,0,none⟩ 1 _ [.slice A7 n7 c7] rfl rfl C1.out (by intro u hu;rw [List.mem_singleton.1 hu];rfl) (by intro u hu;rw [List.mem_singleton.1 hu];exact⟨_,_,_,rfl⟩) (by decide) (by have h1:=HLS.out;have h2:=HLP.out;omega) (by have h1:=HLS.out;have h2:=HLP.out;unfold maxLen;omega) (ak HE.out J2.out).size ?_;intro v' x10 hown9 hgrow)
    have HO9:=ZZ (OwnLr.snoc HOWN.out HXS.out G9.out hgrow hown9);have G6j:=ZZ (G6i.out.grownS HOWN.out hgrow);have E9:=ZZ (ext_grownG (ak HE.out J2.out) HOWN.out hgrow);clear hown9 hgrow;go_wp2_with fail
    go_roundg ko
    case measure=>omega
    case rel=>exact⟨rest,ls ++ [monicF part],LC,ZZ (by rw [List.length_append,List.length_singleton];have:=HLS.out;omega),ZZ (by have h1:=HFU.out;have h2:=HLESS.out;omega),P8,ZZ (by rw [List.append_assoc];exact HU2.out),G6j,HO9,E9⟩
  ·have HUE:=ZZ (show D=ls from by
    rw [←HU.out]
    cases gk with
    | zero=>exact List.append_nil _
    | succ k=>unfold rpartsU;rw [if_neg (by rw [hm];omega),List.append_nil])
   have q1:decide ((0:Int)<d)=false:=decide_eq_false (by have:=HDD.out;rw [hm] at this;omega);clear hm h1 hd;go_wp2_with fail;go_ret;rw [HUE.out];exact⟨_,rfl,(HO.out.mono KD.out).pll,ak HE.out KD.out⟩
def rpartsE (p:List Rat):List (List Rat) × Int:=if askF p=0 then (rpartsU (p.length+1) p,0) else ([],askF p)
theorem pPARTS_n (M:Nat) (hM0:0<M) (hM:3*M+64≤274877906944) (vp:Value) (p:List Rat) (hlp:p.length≤50000) (w:World) (hp:PlR w vp p) (hok:askF p=0→rpartsB M (p.length+1) p=true) (D:List (List Rat) × Int) (hD:rpartsE p=D):Calls Tryz.prog 14 #[vp] w fun e w'=>∃v,e=.returned (.tuple #[v,.int .i64 D.2])∧PlLR w' v D.1∧Ext w w':=by
 have HP:=ZZ hp;have HLP:=ZZ hlp;have HOK:=ZZ hok;have HM:=ZZ hM;have HM0:=ZZ hM0;have HD:=ZZ hD;obtain⟨z,hz⟩:∃z,askF p=z:=⟨_,rfl⟩;have HZ:=ZZ hz;clear hp hlp hok hM hM0 hD
 go_enter Tryz.func14,Tryz.ntmps14
 go_wp2_with fail;refine(pasked_n _ p (by have:=HLP.out;omega) _ HP.out z HZ.out).mono ?_
 rintro e w3 ⟨rfl,k3⟩;have K3:=ZZ k3;clear k3
 by_cases h0:z=0
 ·subst h0
  have z1:((0:Int) != 0)=false:=rfl;have HDE:=ZZ (show D=(rpartsU (p.length+1) p,0) from by rw [←HD.out];unfold rpartsE;rw [if_pos hz]);clear hz;go_wp2_with fail;refine(pparts_n M HM0.out HM.out _ p HLP.out _ (HP.out.mono K3.out) (HOK.out HZ.out)).mono ?_;rintro e w4 ⟨v4,rfl,h4,k4⟩;have H4:=ZZ h4;have K4:=ZZ (ak K3.out k4);clear h4 k4;go_wp2_with fail;refine bodyPost_ret (v:=.tuple #[v4,.int .i64 0]) (by simp [results,Tryz.f14]) rfl ?_;rw [HDE.out];exact⟨_,rfl,H4.out,K4.out⟩
 ·have z0:(z == 0)=false:=beq_eq_false_iff_ne.2 h0
  have z1:(z != 0)=true:=bne_iff_ne.2 h0;have HDE:=ZZ (show D=([],z) from by rw [←HD.out];unfold rpartsE;rw [if_neg (by rw [hz];exact h0),hz]);clear hz h0;go_wp2_with fail;refine bodyPost_ret (v:=.tuple #[.slice none 0 0,.int .i64 z]) (by simp [results,Tryz.f14]) rfl ?_;rw [HDE.out];exact⟨_,rfl,PlLR.nil _,K3.out⟩
end Go.Proofs.YtoefieefcndlkaaGreatDoor
set_option linter.unusedVariables false
set_option maxRecDepth 100000
set_option maxHeartbeats 64000000
namespace Go.Proofs.YtoefieefcndlkaaGreatDoor
open Go Go.RowKit
set_option linter.unusedSimpArgs false
theorem partsE_eq {M:Nat} (hM:49914934313≤M) {a:List Rat} (ha:∀x ∈ a,Bq 4001 x):rpartsE a=partsE a:=by
 unfold rpartsE partsE
 by_cases h:askF a=0
 ·rw [if_pos h,if_pos h,(small_parts (M:=M) hM ha h).2.2.2]
 ·rw [if_neg h,if_neg h]
theorem partsE_small {M:Nat} (hM:49914934313≤M) {a:List Rat} (la:a.length≤60) (ha:∀x ∈ a,Bq 4001 x):(partsE a).1.length≤100∧∀l ∈ (partsE a).1,l.length≤60∧∀x ∈ l,Bq M x:=by
 unfold partsE
 by_cases h:askF a=0
 ·rw [if_pos h]
  have h1:(partsF a).length≤(monicF a).length+1:=by unfold partsF;exact partsU_len _ _ _
  have h2:=monic_len a;have h4:=(small_parts (M:=M) hM ha h).2.2.1;have h5:(partsF a).length≤100:=by omega
  generalize partsF a=P at *;exact⟨h5,h4⟩
 ·rw [if_neg h]
  exact⟨Nat.zero_le _,fun l hl=>by cases hl⟩
theorem PlL.at_ {w:World} {A:Option Addr} {n c i:Nat} {ls:List (List Rat)} {l:List Rat} (h:PlL w (.slice A n c) ls) (hl:ls[i]?=some l):∃b o u,A=some ⟨b,o,none⟩∧w.cell? ⟨b,o+i,none⟩=some u∧Pl w u l:=by
 obtain⟨A',c',e,-,h3⟩:=h
 injection e with e1 e2 e3
 subst e1
 rcases h3 with ⟨-,h4⟩|⟨b,o,e4,h4⟩
 ·rw [h4] at hl;cases hl
 ·obtain⟨u,h5,h6⟩:=h4 i l hl
  exact⟨b,o,u,e4,h5,h6⟩
theorem PlLR.at_ {w:World} {A:Option Addr} {n c i:Nat} {ls:List (List Rat)} {l:List Rat} (h:PlLR w (.slice A n c) ls) (hl:ls[i]?=some l):∃b o u,A=some ⟨b,o,none⟩∧w.cell? ⟨b,o+i,none⟩=some u∧PlR w u l:=by
 obtain⟨A',c',e,-,h3⟩:=h
 injection e with e1 e2 e3
 subst e1
 rcases h3 with ⟨-,h4⟩|⟨b,o,e4,h4⟩
 ·rw [h4] at hl;cases hl
 ·obtain⟨u,h5,h6⟩:=h4 i l hl
  exact⟨b,o,u,e4,h5,h6⟩
theorem list_nd (v:Value) (ls:List (List UInt8)) (w:World) (h:Stl w v ls) (hn:ls.length≤60):Calls Tryz.prog 7 #[v] w fun e w'=>∃va vx,e=.returned (.tuple #[va,vx])∧Px w' va (listF ls) 60 4001∧PlR w' vx (listF ls)∧Ext w w':=by
 refine(list_n v ls (by omega) w h).mono ?_;rintro e w' ⟨va,vx,rfl,hp,hr,k⟩;refine⟨va,vx,rfl,⟨hp,by unfold listF;rw [List.length_map];exact hn,fun x hx=>?_⟩,hr,k⟩;unfold listF at hx;obtain⟨s,-,rfl⟩:=List.mem_map.1 hx;exact au s
theorem divides_c (v0 v1:Value) (l0 l1:List (List UInt8)) (w:World) (h0:Stl w v0 l0) (h1:Stl w v1 l1) (ht:Tens w):Calls Tryz.prog 3 #[v0,v1] w fun e w'=>e=.returned (.bool true)∧Ext w w':=by
 obtain⟨Q0,c0,rfl,-⟩:=h0.form;obtain⟨Q1,c1,rfl,-⟩:=h1.form;obtain⟨n0,hn0⟩:∃n,l0.length=n:=⟨_,rfl⟩;obtain⟨n1,hn1⟩:∃n,l1.length=n:=⟨_,rfl⟩;rw [hn0] at h0 ⊢;rw [hn1] at h1 ⊢;have HS0:=ZZ h0;have HS1:=ZZ h1;have HT:=ZZ ht;have HN0:=ZZ hn0;have HN1:=ZZ hn1;clear h0 h1 ht hn0 hn1;have EA:=ZZ (ab w (.cells #[.slice Q0 n0 c0,.slice Q1 n1 c1] 22))
 have GL:=ZZ (show Gl (w.alloc (.cells #[.slice Q0 n0 c0,.slice Q1 n1 c1] 22)) (.slice (some ⟨w.heap.size,0,none⟩) 2 2) [(.slice Q0 n0 c0,l0),(.slice Q1 n1 c1,l1)] from by
  have hr:=heap_alloc_new w (.cells #[.slice Q0 n0 c0,.slice Q1 n1 c1] 22);refine⟨_,2,rfl,fun i y hy=>?_⟩
  match i,hy with
  | 0,hy=>obtain rfl:=Option.some.inj hy;exact⟨by rw [cell_of_row _ _ _ _ _ _ hr];rfl,HS0.out.mono EA.out⟩
  | 1,hy=>obtain rfl:=Option.some.inj hy;exact⟨by rw [cell_of_row _ _ _ _ _ _ hr];rfl,HS1.out.mono EA.out⟩)
 obtain⟨M,hM⟩:∃M:Nat,M=49914934313:=⟨_,rfl⟩;have HMX:=ZZ (show 0<M∧M≤137438953472∧3*M+64≤274877906944∧M≤1099511627776 from by omega);have HMG:=ZZ (show 49914934313≤M from by omega);clear hM;have hun:undef=.tuple #[]:=rfl
 go_enter Tryz.func3,Tryz.ntmps3
 go_wp2_with fail;generalize World.alloc w (.cells #[.slice Q0 n0 c0,.slice Q1 n1 c1] _)=W0 at *
 generalize hwg:w.heap.size=g0 at *;refine(great_p _ [(.slice Q0 n0 c0,l0),(.slice Q1 n1 c1,l1)] (by simp) _ GL.out).mono ?_;rintro e w1 ⟨rfl,kk1⟩;have K1:=ZZ (ak EA.out kk1);obtain⟨d,hd⟩:∃d,greatF [(.slice Q0 n0 c0,l0),(.slice Q1 n1 c1,l1)]=d:=⟨_,rfl⟩;rw [hd];have HD:=ZZ hd;clear hd kk1 hwg
 cases d with
 | true=>
  go_wp2_with fail;refine(awake_p _ (HT.out.mono K1.out)).mono ?_
  rintro e w2 ⟨rfl,kk2⟩;have K2:=ZZ (ak K1.out kk2);clear kk2;go_wp2_with fail;go_ret;exact⟨rfl,K2.out⟩
 | false=>
  have HL0:=ZZ (show l0.length≤60 from great_len HD.out (.slice Q0 n0 c0,l0) (by simp));have HL1:=ZZ (show l1.length≤60 from great_len HD.out (.slice Q1 n1 c1,l1) (by simp));obtain⟨a,ha⟩:∃a,listF l0=a:=⟨_,rfl⟩;obtain⟨b,hb⟩:∃a,listF l1=a:=⟨_,rfl⟩;have HLA:=ZZ ha;have HLB:=ZZ hb;clear ha hb HD GL EA;go_wp2_with fail;refine(list_nd _ l0 _ (HS0.out.mono K1.out) HL0.out).mono ?_;rintro e w2 ⟨va,xa,rfl,ha,ra,kk2⟩;rw [HLA.out] at ha ra;have PA:=ZZ ha;have RA:=ZZ ra;have K2:=ZZ (ak K1.out kk2);clear ha ra kk2 K1;go_wp2_with fail;refine(list_nd _ l1 _ (HS1.out.mono K2.out) HL1.out).mono ?_;rintro e w3 ⟨vb,xb,rfl,hb,rb,kk3⟩;rw [HLB.out] at hb rb
  replace PA:=ZZ (PA.out.mono kk3)
  replace RA:=ZZ (RA.out.mono kk3)
  have PB:=ZZ hb;have RB:=ZZ rb;have EW:=ZZ (ak K2.out kk3);have EB:=ZZ (ae w3)
  replace HT:=ZZ (HT.out.mono EW.out)
  clear hb rb kk3 K2
  ·
    obtain⟨DD,hDD⟩:∃D,divE a b=D:=⟨_,rfl⟩;obtain⟨DG,hDG⟩:∃D,gcdE a b=D:=⟨_,rfl⟩;obtain⟨DP,hDP⟩:∃D,partsE a=D:=⟨_,rfl⟩;have HDD:=ZZ hDD;have HDG:=ZZ hDG;have HDP:=ZZ hDP;have HRP:=ZZ (show rpartsE a=DP from by rw [←hDP];exact partsE_eq HMG.out PA.out.2.2);have SD:=ZZ (show (DD.1.length≤100∧∀x ∈ DD.1,Bq M x)∧DD.2.1.length≤100∧∀x ∈ DD.2.1,Bq M x from by rw [←hDD];exact divE_small HMG.out PA.out.2.1 PA.out.2.2 PB.out.2.2);have SG:=ZZ (show DG.1.length≤100∧∀x ∈ DG.1,Bq M x from by rw [←hDG];exact gcdE_small HMG.out PA.out.2.1 PB.out.2.1 PA.out.2.2 PB.out.2.2);have SP:=ZZ (show DP.1.length≤100∧∀l ∈ DP.1,l.length≤60∧∀x ∈ l,Bq M x from by rw [←hDP];exact partsE_small HMG.out PA.out.2.1 PA.out.2.2);clear hDD hDG hDP;obtain⟨zd,hzd⟩:∃z,DD.2.2=z:=⟨_,rfl⟩;obtain⟨zg,hzg⟩:∃z,DG.2=z:=⟨_,rfl⟩;obtain⟨zp,hzp⟩:∃z,DP.2=z:=⟨_,rfl⟩;have nzd:(zd != zd)=false:=by simp
    have ezd:(zd == zd)=true:=by simp
    have nzg:(zg != zg)=false:=by simp
    have ezg:(zg == zg)=true:=by simp
    have nzp:(zp != zp)=false:=by simp
    have ezp:(zp == zp)=true:=by simp
    have HZD:=ZZ hzd;have HZG:=ZZ hzg;have HZP:=ZZ hzp;clear hzd hzg hzp;go_wp2_with fail;refine(div_p M (by have:=HMX.out;omega) (by have:=HMX.out;omega) _ _ a b (by have:=PA.out.2.1;omega) (by have:=PB.out.2.1;omega) _ (PA.out.mono EB.out).1 (PB.out.mono EB.out).1 (fun h h0=>(small_div HMG.out PA.out.2.2 PB.out.2.2 h h0).1) DD HDD.out).mono ?_;rintro e w51 ⟨vc,vd,rfl,hq1,hq2,kq⟩
    replace EB:=ZZ (ak EB.out kq)
    have Hd1:=ZZ hq1;have Hd2:=ZZ hq2;clear kq hq1 hq2
    try rw [HZD.out]
    go_wp2_with fail;refine(pdiv_n M (by have:=HMX.out;omega) (by have:=HMX.out;omega) _ _ a b (by have:=PA.out.2.1;omega) (by have:=PB.out.2.1;omega) _ (RA.out.mono EB.out) (RB.out.mono EB.out) (fun h h0=>(small_div HMG.out PA.out.2.2 PB.out.2.2 h h0).1) DD HDD.out).mono ?_
    rintro e w52 ⟨vu,vv,rfl,hq1,hq2,kq⟩
    replace EB:=ZZ (ak EB.out kq)
    replace Hd1:=ZZ (Hd1.out.mono kq)
    replace Hd2:=ZZ (Hd2.out.mono kq)
    have Hd3:=ZZ hq1;have Hd4:=ZZ hq2;clear kq hq1 hq2
    try rw [HZD.out]
    go_wp2_with fail;refine(same_l M (by have:=HMX.out;omega) _ _ DD.1 (Nat.le_trans SD.out.1.1 (by decide)) _ Hd1.out Hd3.out SD.out.1.2 (HT.out.mono EB.out)).mono ?_
    rintro e w53 ⟨rfl,kq⟩
    replace EB:=ZZ (ak EB.out kq)
    replace Hd1:=ZZ (Hd1.out.mono kq)
    replace Hd2:=ZZ (Hd2.out.mono kq)
    replace Hd3:=ZZ (Hd3.out.mono kq)
    replace Hd4:=ZZ (Hd4.out.mono kq)
    clear kq;clear Hd1 Hd3;go_wp2_with fail;refine(same_l M (by have:=HMX.out;omega) _ _ DD.2.1 (Nat.le_trans SD.out.2.1 (by decide)) _ Hd2.out Hd4.out SD.out.2.2 (HT.out.mono EB.out)).mono ?_;rintro e w54 ⟨rfl,kq⟩
    replace EB:=ZZ (ak EB.out kq)
    replace Hd2:=ZZ (Hd2.out.mono kq)
    replace Hd4:=ZZ (Hd4.out.mono kq)
    clear kq;clear Hd2 Hd4;go_wp2_with fail;refine(gcd_p M (by have:=HMX.out;omega) (by have:=HMX.out;omega) _ _ a b (by have:=PA.out.2.1;omega) (by have:=PB.out.2.1;omega) _ (PA.out.mono EB.out).1 (PB.out.mono EB.out).1 (fun h=>(small_gcd HMG.out PA.out.2.2 PB.out.2.2 h).1) DG HDG.out).mono ?_;rintro e w55 ⟨vg,rfl,hq1,kq⟩
    replace EB:=ZZ (ak EB.out kq)
    have Hg1:=ZZ hq1;clear kq hq1
    try rw [HZG.out]
    go_wp2_with fail;refine(pgcd_n M (by have:=HMX.out;omega) (by have:=HMX.out;omega) _ _ a b (by have:=PA.out.2.1;omega) (by have:=PB.out.2.1;omega) _ (RA.out.mono EB.out) (RB.out.mono EB.out) (fun h=>(small_gcd HMG.out PA.out.2.2 PB.out.2.2 h).1) DG HDG.out).mono ?_
    rintro e w56 ⟨vh,rfl,hq1,kq⟩
    replace EB:=ZZ (ak EB.out kq)
    replace Hg1:=ZZ (Hg1.out.mono kq)
    have Hg2:=ZZ hq1;clear kq hq1
    try rw [HZG.out]
    go_wp2_with fail;refine(parts_p M (by have:=HMX.out;omega) (by have:=HMX.out;omega) _ a (by have:=PA.out.2.1;omega) _ (PA.out.mono EB.out).1 (fun h=>(small_parts HMG.out PA.out.2.2 h).1) DP HDP.out).mono ?_
    rintro e w57 ⟨vl,rfl,hq1,kq⟩
    replace EB:=ZZ (ak EB.out kq)
    replace Hg1:=ZZ (Hg1.out.mono kq)
    replace Hg2:=ZZ (Hg2.out.mono kq)
    have Hp1:=ZZ hq1;clear kq hq1
    try rw [HZP.out]
    go_wp2_with fail;refine(pPARTS_n M (by have:=HMX.out;omega) (by have:=HMX.out;omega) _ a (by have:=PA.out.2.1;omega) _ (RA.out.mono EB.out) (fun h=>(small_parts HMG.out PA.out.2.2 h).2.1) DP HRP.out).mono ?_
    rintro e w58 ⟨vm,rfl,hq1,kq⟩
    replace EB:=ZZ (ak EB.out kq)
    replace Hg1:=ZZ (Hg1.out.mono kq)
    replace Hg2:=ZZ (Hg2.out.mono kq)
    replace Hp1:=ZZ (Hp1.out.mono kq)
    have Hp2:=ZZ hq1;clear kq hq1
    try rw [HZP.out]
    obtain⟨Al,cl,el,-,-⟩:=id Hp1.out;obtain⟨Am,cm,em,-,-⟩:=id Hp2.out;obtain⟨nl,hnl⟩:∃n,DP.1.length=n:=⟨_,rfl⟩;rw [hnl] at el em;subst el em;have HNL:=ZZ hnl;have nnl:((nl:Int) != (nl:Int))=false:=by simp
    clear hnl;go_wp2_with fail;refine(same_l M (by have:=HMX.out;omega) _ _ DG.1 (Nat.le_trans SG.out.1 (by decide)) _ Hg1.out Hg2.out SG.out.2 (HT.out.mono EB.out)).mono ?_;rintro e w59 ⟨rfl,kq⟩
    replace EB:=ZZ (ak EB.out kq)
    replace Hg1:=ZZ (Hg1.out.mono kq)
    replace Hg2:=ZZ (Hg2.out.mono kq)
    replace Hp1:=ZZ (Hp1.out.mono kq)
    replace Hp2:=ZZ (Hp2.out.mono kq)
    clear kq;clear Hg1 Hg2;go_wp2_with fail
    go_loopg [19] nl (fun k i wr=>∃j,Hid (j+k=nl)∧i=.int .i64 (j:Int)∧Hid (Ext w59 wr))
    case atStart=>exact⟨0,ZZ (Nat.zero_add _),rfl,ZZ (ae _)⟩
    case round=>
     obtain⟨i,HI,rfl,HE⟩:=hrel;rename World=>WR
     rcases Nat.eq_zero_or_pos gk with hz|hz
     ·subst hz
      obtain rfl:i=nl:=HI.out;have q1:decide ((i:Int)<(i:Int))=false:=decide_eq_false (Int.lt_irrefl _);go_wp2_with fail;refine(awake_p _ (HT.out.mono (ak EB.out HE.out))).mono ?_;rintro e y1 ⟨rfl,ky⟩;have KY:=ZZ ky;clear ky;go_wp2_with fail;go_ret;exact⟨rfl,ak EW.out (ak EB.out (ak HE.out KY.out))⟩
     have him:i<nl:=by have:=HI.out;omega
     have q1:decide ((i:Int)<(nl:Int))=true:=decide_eq_true (by omega);have q4:(i:Int)<(nl:Int):=by omega
     have q5:(0:Int)≤(i:Int):=by omega
     obtain⟨lp,hlp⟩:∃l,DP.1[i]?=some l:=⟨DP.1[i]'(by rw [HNL.out];exact him),List.getElem?_eq_getElem _⟩;have HLL:=ZZ (SP.out.2 lp (List.mem_of_getElem? hlp));obtain⟨bl,ol,ul,rfl,hcl,hpl⟩:=(Hp1.out.mono HE.out).at_ hlp;obtain⟨bm,om,um,rfl,hcm,hpm⟩:=(Hp2.out.mono HE.out).at_ hlp;obtain⟨Au,ku,cu,rfl⟩:∃A k c,ul=.slice A k c:=by obtain⟨A,c,e,-⟩:=hpl;exact⟨_,_,_,e⟩
     obtain⟨Av,kv,cv,rfl⟩:∃A k c,um=.slice A k c:=by obtain⟨A,c,e,-⟩:=hpm;exact⟨_,_,_,e⟩
     have PU:=ZZ hpl;have PM:=ZZ hpm;have HC:=ZZ (show ∀W,Ext WR W→W.cell? ⟨bl,ol+i,none⟩=some (.slice Au ku cu)∧W.cell? ⟨bm,om+i,none⟩=some (.slice Av kv cv) from fun W k=>⟨am k hcl,am k hcm⟩);have HZ:=ZZ hz;have HIM:=ZZ (show i≤100 from by have h1:=SP.out.1;have h2:=HNL.out;omega);clear hlp hcl hpl hcm hpm hz him
     go_upto_region 18 with (fail)
     refine wp_region_noPanic ?_;refine wp_region_held_drew (S:=fun W=>W.cell? ⟨bl,ol+i,none⟩=some (.slice Au ku cu)∧W.cell? ⟨bm,om+i,none⟩=some (.slice Av kv cv)) (by kernel_rfl) (HC.out _ (ac _)) (fun hHeld=>?_);refine take_a 0 113 ?_;refine take_a 1 114 ?_;refine take_a 2 115 ?_;refine take_a 3 116 ?_;refine take_a 4 117 ?_;refine take_a 5 118 ?_;refine take_a 6 119 ?_;refine take_a 7 120 ?_;refine call_p (i:=8) (some 121) rfl rfl (by kernel_rfl) (fun K hK=>?_)
     go_simp
     go_at_call 10
     refine(same_l M (by have:=HMX.out;omega) _ _ lp (Nat.le_trans HLL.out.1 (by decide)) _ (PU.out.mono (ac _)) (PM.out.mono (ac _)) HLL.out.2 (HT.out.mono (ak EB.out (ak HE.out (ac _))))).mono ?_;rintro e w9 ⟨rfl,k9⟩;have hx1:=ZZ (show Ext WR w9 from ak (ac _) k9);clear k9
     try go_wp2_with fail
     refine hK.out _ _ (HC.out _ hx1.out) (fun hHeld=>?_);clear hK K
     try simp only [Act.put,lyA,lyB,lyC]
     refine take_a 9 122 ?_;refine wpAnyH_done (by kernel_rfl) ?_ _;refine NoPanic.normal ?_;go_wp2_with fail
     go_roundg (gk - 1)
     case measure=>have:=HZ.out;omega
     case rel=>exact⟨i+1,ZZ (by have:=HI.out;have:=HZ.out;omega),by have h1:=HIM.out;rw [IntWalk.wrap64_in _ ⟨by omega,by omega⟩];rfl,ZZ (ak HE.out hx1.out)⟩
end Go.Proofs.YtoefieefcndlkaaGreatDoor
