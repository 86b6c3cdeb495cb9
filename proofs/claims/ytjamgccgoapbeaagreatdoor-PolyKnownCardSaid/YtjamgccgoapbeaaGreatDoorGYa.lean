/- Square-free parts. -/
import Derived.Test.YtjamgccgoapbeaaGreatDoorGQz
set_option linter.unusedVariables false
set_option maxRecDepth 100000
set_option maxHeartbeats 64000000
namespace Go.Proofs.YtjamgccgoapbeaaGreatDoor
open Go.RowKit
set_option linter.unusedSimpArgs false
theorem zip_len (p q:List Rat) (N:Nat) (hp:p.length≤N) (hq:q.length≤N):(zipA p q).length≤N:=by
 induction p generalizing q N with
 | nil=>exact hq
 | cons a p ih=>
  cases q with
  | nil=>exact hp
  | cons b q=>
   obtain⟨n,rfl⟩:∃n,N=n+1:=⟨N - 1,by simp at hp;omega⟩
   have:=ih q n (by simpa using hp) (by simpa using hq)
   show (zipA p q).length+1≤n+1
   omega
theorem add_len (p q:List Rat) (N:Nat) (hp:p.length≤N) (hq:q.length≤N):(addF p q).length≤N:=Nat.le_trans (trim_le _) (zip_len p q N hp hq)
theorem sub_len (p q:List Rat) (N:Nat) (hp:p.length≤N) (hq:q.length≤N):(subF p q).length≤N:=add_len p _ N hp (Nat.le_trans (scale_len _ _) hq)
theorem div_len1 (p q:List Rat) (hq:trimF q≠[]):(divF p q).1.length≤p.length:=by
 obtain⟨h1,-⟩:=divU_len ((trimF p).length+1) (List.replicate ((trimF p).length+1 - (trimF q).length) 0) (trimF p) (trimF q);have h3:=trim_le p;have h4:=trim_le (divU ((trimF p).length+1) (List.replicate ((trimF p).length+1 - (trimF q).length) 0) (trimF p) (trimF q)).1;rw [h1,List.length_replicate] at h4;have h5:(divF p q).1.length≤(trimF p).length+1 - (trimF q).length:=h4;have h6:=List.length_pos_iff.2 hq;omega
def partsU:Nat→List Rat→List Rat→List (List Rat)
 | 0,_,_=>[]
 | n+1,b,c=>if 1<(trimF b).length then commonF b (subF c (derivF b)) :: partsU n (divF b (commonF b (subF c (derivF b)))).1 (divF (subF c (derivF b)) (commonF b (subF c (derivF b)))).1 else []
def partsF (p:List Rat):List (List Rat):=
 partsU ((monicF p).length+1) (divF (monicF p) (commonF (monicF p) (derivF (monicF p)))).1 (divF (derivF (monicF p)) (commonF (monicF p) (derivF (monicF p)))).1
def partsB (M:Nat):Nat→List Rat→List Rat→Bool
 | 0,b,_=>decide ((trimF b).length≤1)
 | n+1,b,c=>if 1<(trimF b).length then
   smB M b && smB M c && smB M (derivF b) && comOk M b (subF c (derivF b)) && !(trimF (commonF b (subF c (derivF b)))).isEmpty && divOk M b (commonF b (subF c (derivF b))) && divOk M (subF c (derivF b)) (commonF b (subF c (derivF b))) && partsB M n (divF b (commonF b (subF c (derivF b)))).1 (divF (subF c (derivF b)) (commonF b (subF c (derivF b)))).1 else true
def partsOk (M:Nat) (p:List Rat):Bool:=
 smB M p && smB M (monicF p) && comOk M (monicF p) (derivF (monicF p)) && !(trimF (commonF (monicF p) (derivF (monicF p)))).isEmpty && divOk M (monicF p) (commonF (monicF p) (derivF (monicF p))) && divOk M (derivF (monicF p)) (commonF (monicF p) (derivF (monicF p))) && partsB M ((monicF p).length+1) (divF (monicF p) (commonF (monicF p) (derivF (monicF p)))).1 (divF (derivF (monicF p)) (commonF (monicF p) (derivF (monicF p)))).1
def partsE (p:List Rat):List (List Rat) × Int:=if askF p=0 then (partsF p,0) else ([],askF p)
theorem ask_cases (p:List Rat):askF p=3∨askF p=8∨askF p=0:=by
 unfold askF;split
 ·exact .inl rfl
 ·split
  ·exact .inr (.inl rfl)
  ·exact .inr (.inr rfl)
theorem parts_p (M:Nat) (hM0:0<M) (hM:M≤268435456) (vp:Value) (p:List Rat) (hlp:p.length≤50000) (w:World) (hp:Pl w vp p) (hok:askF p=0→partsOk M p=true) (D:List (List Rat) × Int) (hD:partsE p=D):Calls Tryz.prog 9 #[vp] w fun e w'=>∃v1,e=.returned (.tuple #[v1,.int .i64 D.2])∧PlL w' v1 D.1∧Ext w w':=by
 have HP:=ZZ hp;have HLP:=ZZ hlp;have HOK:=ZZ hok;have HM0:=ZZ hM0;have HM:=ZZ hM;have HD:=ZZ hD;clear hp hlp hok hM0 hM hD
 go_enter Tryz.func9,Tryz.ntmps9
 go_wp2_with fail;obtain⟨z,hz⟩:∃z,askF p=z:=⟨_,rfl⟩
 have HZ:=ZZ hz;have hzc:=ask_cases p;rw [hz] at hzc;clear hz;refine(asked_p _ p (by have:=HLP.out;omega) _ HP.out z HZ.out).mono ?_;rintro e w3 ⟨rfl,k3⟩;have K3:=ZZ k3;clear k3
 by_cases h0:z=0
 ·subst h0
  have hok:=HOK.out HZ.out;unfold partsOk at hok
  simp only [Bool.and_eq_true] at hok
  obtain⟨⟨⟨⟨⟨⟨o1,o2⟩,o3⟩,o4⟩,o5⟩,o6⟩,o7⟩:=hok;have HDE:=ZZ (show D=(partsF p,0) from by rw [←HD.out];unfold partsE;rw [if_pos HZ.out]);have HS:=ZZ (sm_of o1);have HSM:=ZZ (sm_of o2);have HC:=ZZ o3;have HNE:=ZZ (ne_of_emp o4);have HD1:=ZZ o5;have HD2:=ZZ o6;have HPB:=ZZ o7;have LM:=ZZ (show (monicF p).length≤50000 from Nat.le_trans (monic_len p) HLP.out);have LD:=ZZ (show (derivF (monicF p)).length≤50000 from Nat.le_trans (deriv_len _) LM.out);have LG:=ZZ (show (commonF (monicF p) (derivF (monicF p))).length≤50000 from common_len _ _ _ LM.out LD.out);clear o1 o2 o3 o4 o5 o6 o7 hzc;go_wp2_with fail;refine(monic_p M (by have:=HM.out;omega) _ p (by have:=HLP.out;omega) _ (HP.out.mono K3.out) HS.out).mono ?_;rintro e w4 ⟨v4,rfl,h4,k4⟩;have H4:=ZZ h4.pl;have K4:=ZZ (ak K3.out k4);clear h4 k4;go_wp2_with fail;refine(deriv_p M HM0.out (by have:=HM.out;omega) _ (monicF p) (by have:=LM.out;omega) _ H4.out HSM.out).mono ?_;rintro e w5 ⟨v5,rfl,h5,k5⟩;have H5:=ZZ h5.pl;have H4a:=ZZ (H4.out.mono k5);have K5:=ZZ (ak K4.out k5);clear h5 k5 H4;go_wp2_with fail;refine(common_p M HM0.out HM.out _ _ (monicF p) (derivF (monicF p)) (by have:=LM.out;omega) (by have:=LD.out;omega) _ H4a.out H5.out HC.out).mono ?_;rintro e w6 ⟨v6,rfl,h6,k6⟩;have H6:=ZZ h6;have H4b:=ZZ (H4a.out.mono k6);have H5b:=ZZ (H5.out.mono k6);have K6:=ZZ (ak K5.out k6);clear h6 k6 H4a H5;go_wp2_with fail
  refine(exact_p M HM0.out HM.out _ _ (monicF p) _ (by have:=LM.out;omega) (by have:=LG.out;omega) _ H4b.out H6.out HNE.out HD1.out).mono ?_;rintro e w7 ⟨v7,rfl,h7,k7⟩;have H7:=ZZ h7;have H5c:=ZZ (H5b.out.mono k7);have H6c:=ZZ (H6.out.mono k7);have K7:=ZZ (ak K6.out k7);clear h7 k7 H4b H5b H6;go_wp2_with fail;refine(exact_p M HM0.out HM.out _ _ (derivF (monicF p)) _ (by have:=LD.out;omega) (by have:=LG.out;omega) _ H5c.out H6c.out HNE.out HD2.out).mono ?_;rintro e w8 ⟨v8,rfl,h8,k8⟩;have H8:=ZZ h8;have H7d:=ZZ (H7.out.mono k8);have K8:=ZZ (ak K7.out k8);clear h8 k8 H5c H6c H7;go_wp2_with fail
  go_loopg [8,9,5] ((monicF p).length+1) (fun k vb vc vo wr=>∃(b c:List Rat) (ls:List (List Rat)),Hid (b.length≤60000)∧Hid (c.length≤60000)∧Hid (ls.length+k=(monicF p).length+1)∧Hid (partsB M k b c=true)∧Hid (ls ++ partsU k b c=partsF p)∧Hid (Pl wr vb b)∧Hid (Pl wr vc c)∧Hid (OwnL wr w.heap.size vo ls)∧Hid (Ext w wr))
  case atStart=>exact⟨_,_,[],ZZ (by have h1:=(div_len (monicF p) (commonF (monicF p) (derivF (monicF p)))).1;have h2:=LM.out;omega),ZZ (by have h1:=(div_len (derivF (monicF p)) (commonF (monicF p) (derivF (monicF p)))).1;have h2:=LD.out;omega),ZZ (Nat.zero_add _),HPB,ZZ rfl,H7d,H8,ZZ (OwnL.nil _ _),K8⟩
  case round=>
   obtain⟨b,c,ls,HBL,HCL,HLS,HB,HU,HPb,HPc,HO,HE⟩:=hrel;rename World=>WR;go_wp2_with fail;refine(deg_q _ b (by have:=HBL.out;omega) _ HPb.out).mono ?_;rintro e wd ⟨rfl,kd⟩;have KD:=ZZ kd;clear kd;obtain⟨m,hm⟩:∃m,(trimF b).length=m:=⟨_,rfl⟩;rw [hm]
   rcases Nat.lt_or_ge 1 m with h1|h1
   ·obtain⟨ko,rfl⟩:∃k,gk=k+1:=⟨gk - 1,by
     rcases Nat.eq_zero_or_pos gk with h|h
     ·subst h
      have h2:decide ((trimF b).length≤1)=true:=HB.out;rw [hm] at h2
      have:=of_decide_eq_true h2
      omega
     ·omega⟩
    have hb:=HB.out;unfold partsB at hb;rw [if_pos (by rw [hm];exact h1)] at hb;have hu:=HU.out;unfold partsU at hu;rw [if_pos (by rw [hm];exact h1)] at hu;obtain⟨rest,hrest⟩:∃r,subF c (derivF b)=r:=⟨_,rfl⟩;rw [hrest] at hb hu;obtain⟨part,hpart⟩:∃r,commonF b rest=r:=⟨_,rfl⟩;rw [hpart] at hb hu
    simp only [Bool.and_eq_true] at hb
    obtain⟨⟨⟨⟨⟨⟨⟨o1,o2⟩,o3⟩,o4⟩,o5⟩,o6⟩,o7⟩,o8⟩:=hb;have P1:=ZZ (sm_of o1);have P2:=ZZ (sm_of o2);have P3:=ZZ (sm_of o3);have P4:=ZZ o4;have P5:=ZZ (ne_of_emp o5);have P6:=ZZ o6;have P7:=ZZ o7;have P8:=ZZ o8;have HR:=ZZ hrest;have HPT:=ZZ hpart;have HU2:=ZZ hu;have LR:=ZZ (show rest.length≤60000 from by rw [←HR.out];exact sub_len _ _ _ HCL.out (Nat.le_trans (deriv_len b) HBL.out));have LP:=ZZ (show part.length≤60000 from by rw [←HPT.out];exact common_len _ _ _ HBL.out LR.out);have q1:decide ((0:Int)<(m:Int) - 1)=true:=decide_eq_true (by omega);have q1':decide ((1:Int)<(m:Int))=true:=decide_eq_true (by omega);clear o1 o2 o3 o4 o5 o6 o7 o8 hrest hpart hu hm h1;have HPb1:=ZZ (HPb.out.mono KD.out);have HPc1:=ZZ (HPc.out.mono KD.out);go_wp2_with fail;refine(deriv_p M HM0.out (by have:=HM.out;omega) _ b (by have:=HBL.out;omega) _ HPb1.out P1.out).mono ?_;rintro e x5 ⟨u5,rfl,h5,k5⟩;have G5:=ZZ h5.pl;have X5:=ZZ (ak KD.out k5);have HPb2:=ZZ (HPb1.out.mono k5);have HPc2:=ZZ (HPc1.out.mono k5);clear h5 k5 HPb1 HPc1;go_wp2_with fail;refine(sub_p M (by have:=HM.out;omega) _ _ c (derivF b) (by have:=HCL.out;omega) (by have h1:=deriv_len b;have:=HBL.out;omega) _ HPc2.out G5.out P2.out P3.out).mono ?_;rintro e x6 ⟨u6,rfl,h6,k6⟩;rw [HR.out] at h6;have G6:=ZZ h6.pl;have X6:=ZZ (ak X5.out k6);have HPb3:=ZZ (HPb2.out.mono k6);clear h6 k6 HPb2 HPc2 G5;go_wp2_with fail;refine(common_p M HM0.out HM.out _ _ b rest (by have:=HBL.out;omega) (by have:=LR.out;omega) _ HPb3.out G6.out P4.out).mono ?_
    rintro e x7 ⟨u7,rfl,h7,k7⟩;rw [HPT.out] at h7;obtain⟨A7,n7,c7,e7,-⟩:=h7.form;subst e7;have X7:=ZZ (ak X6.out k7);have G7:=ZZ (h7.mono (ab x7 (.cells #[.slice A7 n7 c7] 22)));have X8:=ZZ (ak X7.out (ab x7 (.cells #[.slice A7 n7 c7] 22)));have HPb4:=ZZ ((HPb3.out.mono k7).mono (ab x7 (.cells #[.slice A7 n7 c7] 22)));have G6b:=ZZ ((G6.out.mono k7).mono (ab x7 (.cells #[.slice A7 n7 c7] 22)));obtain⟨xs,hown,hxs⟩:=HO.out.mono X8.out;have HOWN:=ZZ hown;have HXS:=ZZ hxs;have C1:=ZZ (cell1_new x7 (.slice A7 n7 c7) 22);clear h7 k7 HPb3 G6 hown hxs
    go_wp2_with (at_builtin;refine wpList_appendG elPl zero_sl rfl _ _ rfl w.heap.size _ ls.length xs rfl HOWN.out ⟨x7.heap.size,0,none⟩ 1 _ [.slice A7 n7 c7] rfl rfl C1.out (by intro u hu;rw [List.mem_singleton.1 hu];rfl) (by intro u hu;rw [List.mem_singleton.1 hu];exact⟨_,_,_,rfl⟩) (by decide) (by have h1:=HLS.out;have h2:=LM.out;omega) (by have h1:=HLS.out;have h2:=LM.out;unfold maxLen;omega) (ak HE.out X8.out).size ?_;intro v' x9 hown9 hgrow)
    have HO9:=ZZ (OwnL.snoc HOWN.out HXS.out G7.out hgrow hown9);have HPb5:=ZZ (HPb4.out.grownS HOWN.out hgrow);have G6c:=ZZ (G6b.out.grownS HOWN.out hgrow);have G7c:=ZZ (G7.out.grownS HOWN.out hgrow);have E9:=ZZ (ext_grownG (ak HE.out X8.out) HOWN.out hgrow);clear hown9 hgrow;go_wp2_with fail;refine(exact_p M HM0.out HM.out _ _ b part (by have:=HBL.out;omega) (by have:=LP.out;omega) _ HPb5.out G7c.out P5.out P6.out).mono ?_;rintro e y1 ⟨t1,rfl,i1,j1⟩;have I1:=ZZ i1;have J1:=ZZ j1;clear i1 j1;go_wp2_with fail;refine(exact_p M HM0.out HM.out _ _ rest part (by have:=LR.out;omega) (by have:=LP.out;omega) _ (G6c.out.mono J1.out) (G7c.out.mono J1.out) P5.out P7.out).mono ?_;rintro e y2 ⟨t2,rfl,i2,j2⟩;have I2:=ZZ i2;have J2:=ZZ j2;clear i2 j2;go_wp2_with fail
    go_roundg ko
    case measure=>omega
    case rel=>exact⟨(divF b part).1,(divF rest part).1,ls ++ [part],ZZ (Nat.le_trans (div_len1 b part P5.out) HBL.out),ZZ (Nat.le_trans (div_len1 rest part P5.out) LR.out),ZZ (by rw [List.length_append,List.length_singleton];have:=HLS.out;omega),P8,ZZ (by rw [List.append_assoc];exact HU2.out),ZZ (I1.out.mono J2.out),I2,ZZ (HO9.out.mono (ak J1.out J2.out)),ZZ (ak E9.out (ak J1.out J2.out))⟩
   ·have HUE:=ZZ (show partsF p=ls from by
     rw [←HU.out]
     cases gk with
     | zero=>exact List.append_nil _
     | succ k=>unfold partsU;rw [if_neg (by rw [hm];omega),List.append_nil])
    have q1:decide ((0:Int)<(m:Int) - 1)=false:=decide_eq_false (by omega);have q1':decide ((1:Int)<(m:Int))=false:=decide_eq_false (by omega);clear hm h1;go_wp2_with fail;refine bodyPost_ret (v:=.tuple #[u5,.int .i64 0]) (by simp [results,Tryz.f9]) rfl ?_;rw [HDE.out];refine⟨_,rfl,?_,ak HE.out KD.out⟩
    show PlL _ _ (partsF p)
    rw [HUE.out];exact(HO.out.mono KD.out).pll
 ·have z0:(z == 0)=false:=beq_eq_false_iff_ne.2 h0
  have z1:(z != 0)=true:=bne_iff_ne.2 h0;have HDE:=ZZ (show D=([],z) from by rw [←HD.out];unfold partsE;rw [if_neg (by rw [HZ.out];exact h0),HZ.out]);have hzc':=ZZ hzc;clear hzc h0;go_wp2_with fail;refine bodyPost_ret (v:=.tuple #[.slice none 0 0,.int .i64 z]) (by simp [results,Tryz.f9]) rfl ?_;rw [HDE.out];exact⟨_,rfl,⟨none,0,rfl,Nat.le_refl _,.inl ⟨rfl,rfl⟩⟩,K3.out⟩
end Go.Proofs.YtjamgccgoapbeaaGreatDoor
