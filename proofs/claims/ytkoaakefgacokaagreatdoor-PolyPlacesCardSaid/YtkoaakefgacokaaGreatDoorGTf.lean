/- Texts: cut at a byte. -/
import Derived.Test.YtkoaakefgacokaaGreatDoorGTa
import Derived.Deep.QuietTactic
import Derived.BigQuiet
import Derived.Lib.ItoaMem
import Derived.Lib.AppendIntMem
set_option linter.unusedVariables false
set_option maxRecDepth 100000
set_option maxHeartbeats 64000000
namespace Go.Proofs.YtkoaakefgacokaaGreatDoor
open Go.RowKit
theorem indexByte_no (l:List UInt8) (c:UInt8) (h:c ∉ l):Lib.indexByte l c = -1:=by
 induction l with
 | nil=>rfl
 | cons b l ih=>
  have h1:(b == c)=false:=by rw [beq_eq_false_iff_ne];exact fun e=>h (e ▸ List.mem_cons_self ..)
  have h2:=ih (fun e=>h (List.mem_cons_of_mem _ e));unfold Lib.indexByte;rw [h1,h2];rfl
theorem indexByte_yes (a b:List UInt8) (c:UInt8) (h:c ∉ a):Lib.indexByte (a ++ c :: b) c=(a.length:Int):=by
 induction a with
 | nil=>simp [Lib.indexByte]
 | cons d a ih=>
  have h1:(d == c)=false:=by rw [beq_eq_false_iff_ne];exact fun e=>h (e ▸ List.mem_cons_self ..)
  have h2:=ih (fun e=>h (List.mem_cons_of_mem _ e));rw [List.cons_append];unfold Lib.indexByte;rw [h1,h2]
  have:((a.length:Int) == -1)=false:=by rw [beq_eq_false_iff_ne];omega
  simp [this]
theorem cut_no_in (l:List UInt8) (c:UInt8) (h:c ∉ l) (w:World):Calls Tryz.prog 94 #[.string ⟨l.toArray⟩,.string ⟨#[c]⟩] w fun e w'=>e=.returned (.tuple #[.string ⟨l.toArray⟩,.string ⟨#[]⟩,.bool false])∧Ext w w':=by
 have hi:=Tryz.stringslite_Index_one ⟨l.toArray⟩ c w;have e:Lib.indexByte (ByteArray.mk l.toArray).data.toList c = -1:=indexByte_no l c h;rw [e] at hi;have HI:=ZZ hi;clear hi e h
 go_enter Tryz.func94,Tryz.ntmps94
 go_wp2_with fail;refine HI.out.mono ?_
 rintro e w1 ⟨rfl,rfl⟩;go_wp2_with fail;refine bodyPost_ret (v:=.tuple #[.string ⟨l.toArray⟩,.string ⟨#[]⟩,.bool false]) (by simp [results,Tryz.f94]) rfl ?_;exact⟨rfl,ae _⟩
theorem cut_yes_in (a b:List UInt8) (c:UInt8) (h:c ∉ a) (hs:(a ++ c :: b).length≤9223372036854775807) (w:World):Calls Tryz.prog 94 #[.string ⟨(a ++ c :: b).toArray⟩,.string ⟨#[c]⟩] w fun e w'=>e=.returned (.tuple #[.string ⟨a.toArray⟩,.string ⟨b.toArray⟩,.bool true])∧Ext w w':=by
 have hi:=Tryz.stringslite_Index_one ⟨(a ++ c :: b).toArray⟩ c w;have e:Lib.indexByte (ByteArray.mk (a ++ c :: b).toArray).data.toList c=(a.length:Int):=indexByte_yes a b c h;rw [e] at hi;have HI:=ZZ hi;obtain⟨p,hp⟩:∃p,p=a.length:=⟨_,rfl⟩;rw [←hp] at HI;obtain⟨s,hse⟩:∃s:ByteArray,s=⟨(a ++ c :: b).toArray⟩:=⟨_,rfl⟩;have hsz:s.size=p+1+b.length:=by rw [hse,hp];show (a ++ c :: b).length=_;simp;omega
 have x1:s.extract 0 p=⟨a.toArray⟩:=by
  rw [hse,hp];apply ByteArray.ext;simp
 have x2:s.extract (p+1) s.size=⟨b.toArray⟩:=by
  rw [hsz,hse,hp];apply ByteArray.ext
  simp
 have hbd:p+1+b.length≤9223372036854775807:=by simp at hs;omega
 rw [←hse] at HI ⊢;clear hi e h hse hs hp;have u1:IntKind.i64.wrap ((p:Int)+1)=(p:Int)+1:=IntWalk.i64_in _ (by omega);have q1:(0:Int)≤(p:Int):=by omega
 have q2:(p:Int)≤(s.size:Int):=by omega
 have q3:(0:Int)≤(p:Int)+1:=by omega
 have q4:(p:Int)+1≤(s.size:Int):=by omega
 have q5:((p:Int)+1).toNat=p+1:=by omega
 have X2:=ZZ x2;have HSZ:=ZZ hsz;clear hsz hbd x2;have x2:=X2.out
 go_enter Tryz.func94,Tryz.ntmps94
 go_wp2_with fail;refine HI.out.mono ?_
 rintro e w1 ⟨rfl,rfl⟩;go_wp2_with fail
 go_quiet (fail)
 go_wp2_with fail;refine bodyPost_ret (v:=.tuple #[.string ⟨a.toArray⟩,.string ⟨b.toArray⟩,.bool true]) (by simp [results,Tryz.f94]) rfl ?_
 exact⟨rfl,av _ _⟩
theorem cut_no_c (l:List UInt8) (c:UInt8) (h:c ∉ l) (w:World):Calls Tryz.prog 49 #[.string ⟨l.toArray⟩,.string ⟨#[c]⟩] w fun e w'=>e=.returned (.tuple #[.string ⟨l.toArray⟩,.string ⟨#[]⟩,.bool false])∧Ext w w':=by
 have H:=ZZ (cut_no_in l c h w);clear h
 go_enter Tryz.func49,Tryz.ntmps49
 go_wp2_with fail;refine H.out.mono ?_
 rintro e w1 ⟨rfl,h⟩;have HX:=ZZ h;clear h;go_wp2_with fail;refine bodyPost_ret (v:=.tuple #[.string ⟨l.toArray⟩,.string ⟨#[]⟩,.bool false]) (by simp [results,Tryz.f49]) rfl ?_;exact⟨rfl,HX.out⟩
theorem cut_yes_c (a b:List UInt8) (c:UInt8) (h:c ∉ a) (hs:(a ++ c :: b).length≤9223372036854775807) (w:World):Calls Tryz.prog 49 #[.string ⟨(a ++ c :: b).toArray⟩,.string ⟨#[c]⟩] w fun e w'=>e=.returned (.tuple #[.string ⟨a.toArray⟩,.string ⟨b.toArray⟩,.bool true])∧Ext w w':=by
 have H:=ZZ (cut_yes_in a b c h hs w);clear h hs;generalize (⟨(a ++ c :: b).toArray⟩:ByteArray)=s at *
 go_enter Tryz.func49,Tryz.ntmps49
 go_wp2_with fail;refine H.out.mono ?_
 rintro e w1 ⟨rfl,h⟩;have HX:=ZZ h;clear h;go_wp2_with fail;refine bodyPost_ret (v:=.tuple #[.string ⟨a.toArray⟩,.string ⟨b.toArray⟩,.bool true]) (by simp [results,Tryz.f49]) rfl ?_;exact⟨rfl,HX.out⟩
theorem split_at (l:List UInt8) (c:UInt8):c ∉ l∨∃a b,l=a ++ c :: b∧c ∉ a:=by
 induction l with
 | nil=>exact .inl (by simp)
 | cons d l ih=>
  by_cases h:d=c
  ·exact .inr ⟨[],l,by rw [h];rfl,by simp⟩
  ·rcases ih with ih|⟨a,b,e,h1⟩
   ·exact .inl (by simp [ih,Ne.symm h])
   ·exact .inr ⟨d :: a,b,by rw [e];rfl,by simp [h1,Ne.symm h]⟩
def cutB (c:UInt8):List UInt8→List UInt8 × List UInt8 × Bool
 | []=>([],[],false)
 | d :: l=>if d=c then ([],l,true) else (d :: (cutB c l).1,(cutB c l).2.1,(cutB c l).2.2)
theorem cutB_no (l:List UInt8) (c:UInt8) (h:c ∉ l):cutB c l=(l,[],false):=by
 induction l with
 | nil=>rfl
 | cons d l ih=>
  have h1:¬ d=c:=fun e=>h (e ▸ List.mem_cons_self ..);rw [cutB,if_neg h1,ih (fun e=>h (List.mem_cons_of_mem _ e))]
theorem cutB_yes (a b:List UInt8) (c:UInt8) (h:c ∉ a):cutB c (a ++ c :: b)=(a,b,true):=by
 induction a with
 | nil=>simp [cutB]
 | cons d l ih=>
  have h1:¬ d=c:=fun e=>h (e ▸ List.mem_cons_self ..);rw [List.cons_append,cutB,if_neg h1,ih (fun e=>h (List.mem_cons_of_mem _ e))]
theorem cut_str (l:List UInt8) (c:UInt8) (hs:l.length≤9223372036854775807) (w:World):Calls Tryz.prog 49 #[.string ⟨l.toArray⟩,.string ⟨#[c]⟩] w fun e w'=>e=.returned (.tuple #[.string ⟨(cutB c l).1.toArray⟩,.string ⟨(cutB c l).2.1.toArray⟩,.bool (cutB c l).2.2])∧Ext w w':=by
 rcases split_at l c with h|⟨a,b,rfl,h⟩
 ·rw [cutB_no l c h];exact cut_no_c l c h w
 ·rw [cutB_yes a b c h];exact cut_yes_c a b c h hs w
theorem bq_inv2 {M:Nat} {x:Rat} (h:Bq M x) (h0:x≠0):Bq M (1 / x):=by
 have h1:=div_parts 1 x h0;rw [←h1];exact bq_rat (by rw [show (1:Rat).num=1 from rfl,show (1:Int).natAbs=1 from rfl,Nat.one_mul];exact h.2) (by rw [show (1:Rat).den=1 from rfl,Nat.one_mul];exact h.1) (by rw [show (1:Rat).den=1 from rfl,Nat.one_mul];exact fun e=>h0 (Rat.num_eq_zero.1 (Int.natAbs_eq_zero.1 e)))
def topF (p:List Rat):Rat:=co p (p.length - 1)
def monicF (p:List Rat):List Rat:=if trimF p=[] then [] else scaleF (trimF p) (1 / topF (trimF p))
theorem monic_p (M:Nat) (hM:M≤1099511627000) (vp:Value) (p:List Rat) (hlp:p.length≤1000000) (w:World) (hp:Pl w vp p) (hbp:∀x ∈ p,Bq M x):Calls Tryz.prog 71 #[vp] w fun e w'=>∃v',e=.returned v'∧PlN w.heap.size w' v' (monicF p)∧Ext w w':=by
 have HP:=ZZ hp;have HLP:=ZZ hlp;have HBP:=ZZ hbp;have HM:=ZZ hM;clear hp hlp hbp hM
 go_enter Tryz.func71,Tryz.ntmps71
 go_wp2_with fail;refine(trim_q _ p HLP.out _ HP.out).mono ?_
 rintro e w3 ⟨v3,rfl,h3,k3⟩;obtain⟨A,cap,e3,hc,hA⟩:=h3.pl;obtain⟨n,hn⟩:∃n,(trimF p).length=n:=⟨_,rfl⟩;rw [hn] at e3;subst e3;have HN:=ZZ hn;have H3:=ZZ h3.pl;have K3:=ZZ k3;have HT:=ZZ (show n≤p.length by rw [←hn];exact trim_le p);clear h3 k3 hc hA hn
 rcases Nat.eq_zero_or_pos n with h0|h0
 ·subst h0
  go_wp2_with fail;go_ret
  have e0:trimF p=[]:=List.length_eq_zero_iff.1 HN.out;exact⟨_,rfl,.inl ⟨rfl,if_pos e0⟩,K3.out⟩
 ·obtain⟨k,rfl⟩:∃k,n=k+1:=⟨n - 1,by omega⟩
  have z0:(((k+1:Nat):Int) == 0)=false:=by rw [beq_eq_false_iff_ne];omega
  have z1:((k:Int)+1 == 0)=false:=by rw [beq_eq_false_iff_ne];omega
  have HNE:=ZZ (show trimF p≠[] from fun e=>by have:=HN.out;rw [e] at this;simp at this)
  have HTOP:=ZZ (show (trimF p)[k]?=some (topF (trimF p)) by
   unfold topF co;rw [HN.out,Nat.add_sub_cancel,List.getElem?_eq_getElem (by rw [HN.out];exact Nat.lt_succ_self k)];rfl)
  have HT0:=ZZ (show topF (trimF p)≠0 by
   have h1:=trim_last HNE.out;unfold topF;rw [co_trim];exact h1)
  have BT:=ZZ (HBP.out _ (trim_mem (List.mem_of_getElem? HTOP.out)));have BONE:=ZZ (show Bq 64 (1:Rat) from bq_int 1 (by decide) (by decide));clear h0;go_wp2_with fail;refine(int_q 1 (by decide) (by decide) _).mono ?_;rintro e w4 ⟨v4,rfl,h4,k4⟩;have H4:=ZZ (show Nm w4 v4 1 from h4);have K4:=ZZ k4;clear h4 k4;go_wp2_with fail;have H3':=ZZ (show Pl w4 (.slice A (k+1) cap) (trimF p) from H3.out.mono K4.out);refine(top_q _ (trimF p) (by rw [HN.out];exact Nat.le_trans HT.out HLP.out) k _ HN.out HTOP.out _ H3'.out).mono ?_;rintro e w5 ⟨v5,rfl,h5,k5⟩;have H5:=ZZ h5;have K5:=ZZ k5;clear h5 k5;go_wp2_with fail;refine(over_q (M+64) (by have:=HM.out;omega) _ _ 1 (topF (trimF p)) _ (H4.out.mono K5.out) H5.out (BONE.out.mono (by omega)) (BT.out.mono (by omega)) HT0.out).mono ?_;rintro e w6 ⟨v6,rfl,h6,k6⟩;have H6:=ZZ h6;have K6:=ZZ (al K4.out (al K5.out k6));clear h6 k6;go_wp2_with fail;refine(scale_q M (by have:=HM.out;omega) _ _ (trimF p) (1 / topF (trimF p)) (by rw [HN.out];exact Nat.le_trans HT.out HLP.out) _ (H3.out.mono K6.out) H6.out (fun x hx=>HBP.out x (trim_mem hx)) (bq_inv2 BT.out HT0.out)).mono ?_;rintro e w7 ⟨v7,rfl,h7,k7⟩;have H7:=ZZ h7;have K7:=ZZ (al K3.out (al K6.out k7));have L7:=ZZ (al K3.out K6.out).size;clear h7 k7;go_wp2_with fail;go_ret;refine⟨_,rfl,?_,K7.out⟩;rw [show monicF p=scaleF (trimF p) (1 / topF (trimF p)) from if_neg HNE.out]
  rcases H7.out with hn|⟨g,hg,hn⟩
  ·exact .inl hn
  ·exact .inr ⟨g,Nat.le_trans L7.out hg,hn⟩
theorem pl_two {w:World} {s1 s2:Bool} {A1 B1 A2 B2:Option Addr} {k1 ca1 l1 cb1 k2 ca2 l2 cb2:Nat} {x y:Rat} (h1:Nm w (.agg #[.bool s1,.slice A1 k1 ca1,.slice B1 l1 cb1]) x) (h2:Nm w (.agg #[.bool s2,.slice A2 k2 ca2,.slice B2 l2 cb2]) y):Pl (w.alloc (.cells #[.bool s1,.slice A1 k1 ca1,.slice B1 l1 cb1,.bool s2,.slice A2 k2 ca2,.slice B2 l2 cb2] 38)) (.slice (some ⟨w.heap.size,0,none⟩) 2 2) [x,y]:=by
 have hr:=heap_alloc_new w (.cells #[.bool s1,.slice A1 k1 ca1,.slice B1 l1 cb1,.bool s2,.slice A2 k2 ca2,.slice B2 l2 cb2] 38);have e:=ab w (.cells #[.bool s1,.slice A1 k1 ca1,.slice B1 l1 cb1,.bool s2,.slice A2 k2 ca2,.slice B2 l2 cb2] 38);refine⟨_,2,rfl,Nat.le_refl _,.inr ⟨_,0,rfl,fun i q hq=>?_⟩⟩
 match i,hq with
 | 0,hq=>obtain rfl:x=q:=Option.some.inj hq;exact⟨_,_,_,_,_,_,_,by rw [cell_of_row _ _ _ _ _ _ hr];rfl,by rw [cell_of_row _ _ _ _ _ _ hr];rfl,by rw [cell_of_row _ _ _ _ _ _ hr];rfl,h1.mono e⟩
 | 1,hq=>obtain rfl:y=q:=Option.some.inj hq;exact⟨_,_,_,_,_,_,_,by rw [cell_of_row _ _ _ _ _ _ hr];rfl,by rw [cell_of_row _ _ _ _ _ _ hr];rfl,by rw [cell_of_row _ _ _ _ _ _ hr];rfl,h2.mono e⟩
theorem line_p (w:World):Calls Tryz.prog 26 #[] w fun e w'=>∃v',e=.returned v'∧Pl w' v' [0,1]∧Ext w w':=by
 go_enter Tryz.func26,Tryz.ntmps26
 go_wp2_with fail;refine(int_q 0 (by decide) (by decide) _).mono ?_
 rintro e w3 ⟨v3,rfl,h3,k3⟩;obtain⟨s1,A1,k1,ca1,B1,l1,cb1,rfl⟩:=h3.form2;have H3:=ZZ (show Nm w3 (.agg #[.bool s1,.slice A1 k1 ca1,.slice B1 l1 cb1]) 0 from h3);have K3:=ZZ k3;clear h3 k3;go_wp2_with fail;refine(int_q 1 (by decide) (by decide) _).mono ?_;rintro e w4 ⟨v4,rfl,h4,k4⟩;obtain⟨s2,A2,k2,ca2,B2,l2,cb2,rfl⟩:=h4.form2;have H4:=ZZ (show Nm w4 (.agg #[.bool s2,.slice A2 k2 ca2,.slice B2 l2 cb2]) 1 from h4);have K4:=ZZ k4;clear h4 k4;go_wp2_with fail;go_ret;exact⟨_,rfl,pl_two (H3.out.mono K4.out) H4.out,al K3.out (al K4.out (ab _ _))⟩
end Go.Proofs.YtkoaakefgacokaaGreatDoor
namespace Go.Proofs.YtkoaakefgacokaaGreatDoor
open Go.RowKit Go.Sort
def Tens (w:World):Prop:=Lib.TabIs Tryz.prog w "internal/strconv.uint64pow10" .u64 Lib.pow10Tab
theorem Tens.mono {w w':World} (h:Tens w) (k:Ext w w'):Tens w':=by
 unfold Tens Lib.TabIs World.var? at *
 cases hg:Tryz.prog.globalNamed "internal/strconv.uint64pow10" with
 | none=>simp [hg] at h
 | some g=>
  simp only [hg,Option.bind_some] at h ⊢
  have hlt:g<w.heap.size:=by
   rcases Nat.lt_or_ge g w.heap.size with h'|h'
   ·exact h'
   ·rw [Array.getElem?_eq_none h'] at h;simp at h
  rw [k.block g hlt];exact h
theorem holds_zero0 (w:World) (T:TypeId) (nd:Nat) (hs:nd≤24):Holds (fun (b:UInt8)=>Value.int .u8 (b.toNat:Int)) (w.alloc (.cells Lib.zeros24 T)) w.heap.size 0 (Array.replicate nd (0:UInt8)):=fun j hj=>by
 have hj':j<nd:=by simpa using hj
 refine⟨?_,World.frozen?_alloc_new _ _ _ _⟩;rw [World.cell?_alloc_new,Lib.zeros24_at _ (by omega),getElem!_pos _ j hj]
 simp
theorem fmt_in (u:Nat) (hu64:u<18446744073709551616) (w:World) (htab:Tens w):Calls Tryz.prog 124 #[.int .u64 u,.int .i64 10] w fun e w'=>e=.returned (.string ⟨(Lib.decDigits u).toArray⟩)∧Ext w w':=by
 rcases Nat.lt_or_ge u 100 with h|h
 ·have hsm:=Tryz.internal_strconv_small u h w
  have H:=ZZ hsm;have t1:decide ((u:Int)<100)=true:=by rw [decide_eq_true_eq];omega
  clear hsm htab
  go_enter Tryz.func124,Tryz.ntmps124
  go_wp2_with fail;refine H.out.mono ?_
  rintro e w1 ⟨rfl,rfl⟩;go_wp2_with fail;go_ret;exact⟨rfl,ae _⟩
 ·have t1:decide ((u:Int)<100)=false:=by rw [decide_eq_false_iff_not];omega
  have hu1:1≤u:=by omega
  have hnd:=Lib.numDigits_eq u hu1 hu64;have hnd20:Lib.nDigits u≤20:=by split at hnd <;> omega
  have HT:=ZZ htab;have hal:Tryz.prog.arrayLen 166=24:=by kernel_rfl
  have hsl:∀W,(Instr.sliceAt 166 (.pointer (some ⟨w.heap.size,0,none⟩)) none (some (.int .i64 (Lib.nDigits u:Int))) none).run Tryz.prog W=.ok (.slice (some ⟨w.heap.size,0,none⟩) (Lib.nDigits u) 24) W:=fun W=>by
   rw [run_sliceAt_array_h W 166 ⟨w.heap.size,0,none⟩ (by kernel_rfl) .i64 (Lib.nDigits u:Int) (by omega) (by rw [hal];omega)]
   go_simp
  have hH0:=holds_zero0 w 166 (Lib.nDigits u) (by omega);have hfmt:=Tryz.internal_strconv_formatBase10 w.heap.size 0 24 u (Array.replicate (Lib.nDigits u) 0) (w.alloc (.cells Lib.zeros24 166)) hH0 (by rw [Array.size_replicate];exact Lib.lt_pow_nDigits u) hu64 (by rw [Array.size_replicate];omega);rw [Array.size_replicate] at hfmt;have hnum:=Tryz.internal_strconv_numDigits u hu1 hu64 (w.alloc (.cells Lib.zeros24 166)) (htab.mono (ab _ _));have HH0:=ZZ hH0;have HF:=ZZ hfmt;have HNM:=ZZ hnum;clear hH0 hfmt hnum hal hnd htab
  go_enter Tryz.func124,Tryz.ntmps124
  go_wp2_with fail;refine HNM.out.mono ?_
  rintro e w1 ⟨rfl,rfl⟩;go_wp2_with fail;refine HF.out.mono ?_;rintro e w2 ⟨rfl,k,v',dk,rfl,hF⟩
  have hcv:(convert 152 9 (.slice (some ⟨w.heap.size,0,none⟩) (Lib.nDigits u) 24)).run Tryz.prog ((putRow (fun (b:UInt8)=>Value.int .u8 (b.toNat:Int)) (w.alloc (.cells Lib.zeros24 166)) w.heap.size 0 dk).drewN k)=.ok (.string ⟨(Lib.decDigits u).toArray⟩) ((putRow (fun (b:UInt8)=>Value.int .u8 (b.toNat:Int)) (w.alloc (.cells Lib.zeros24 166)) w.heap.size 0 dk).drewN k):=by
   have h:=run_convert_bytes_back (P:=Tryz.prog) ((putRow (fun (b:UInt8)=>Value.int .u8 (b.toNat:Int)) (w.alloc (.cells Lib.zeros24 166)) w.heap.size 0 dk).drewN k) 152 9 5 ⟨w.heap.size,0,none⟩ 24 (Lib.decDigits u) (by kernel_rfl) (by kernel_rfl) (by kernel_rfl) (fun j hj=>by
    rw [Lib.row_is_numeral hF j hj,Lib.add_plain,World.cell?_drewN];exact cell?_putRow (fun (b:UInt8)=>Value.int .u8 (b.toNat:Int)) _ w.heap.size 0 _ dk HH0.out (by rw [hF.size,Array.size_replicate]) j (by rw [hF.size];rw [Lib.decDigits_length] at hj;exact hj))
   rw [Lib.decDigits_length] at h;exact h
  have hext:Ext w ((putRow (fun (b:UInt8)=>Value.int .u8 (b.toNat:Int)) (w.alloc (.cells Lib.zeros24 166)) w.heap.size 0 dk).drewN k):=by
   rw [alloc_eq_grow];obtain⟨os',-,e⟩:=putRow_grow_new (fun (b:UInt8)=>Value.int .u8 (b.toNat:Int)) w #[Obj.cells Lib.zeros24 166] w.heap.size 0 dk (Nat.le_refl _);rw [e];exact Lib.below_grow _ w (Nat.le_refl _) k os'
  have HE:=ZZ hext;clear hext hF;go_wp2_with fail;go_ret;exact⟨rfl,HE.out⟩
theorem fmt_c (u:Nat) (hu64:u<18446744073709551616) (w:World) (htab:Tens w):Calls Tryz.prog 89 #[.int .u64 u,.int .i64 10] w fun e w'=>e=.returned (.string ⟨(Lib.decDigits u).toArray⟩)∧Ext w w':=by
 have H:=ZZ (fmt_in u hu64 w htab);clear htab
 go_enter Tryz.func89,Tryz.ntmps89
 go_wp2_with fail;refine H.out.mono ?_
 rintro e w1 ⟨rfl,h⟩;have HX:=ZZ h;clear h;go_wp2_with fail;go_ret;exact⟨rfl,HX.out⟩
end Go.Proofs.YtkoaakefgacokaaGreatDoor
namespace Go.Proofs.YtkoaakefgacokaaGreatDoor
def pcv (f g:Nat→Rat):Nat→Nat→Rat
 | 0,_=>0
 | i+1,k=>pcv f g i k+(if i≤k then f i*g (k - i) else 0)
theorem pcv_succ (f g:Nat→Rat) (i k:Nat):pcv f g (i+1) k=pcv f g i k+(if i≤k then f i*g (k - i) else 0):=rfl
theorem pcv_shift (f g:Nat→Rat) (i k:Nat):pcv f g (i+1) (k+1)=f 0*g (k+1)+pcv (fun j=>f (j+1)) g i k:=by
 induction i with
 | zero=>rw [pcv_succ,if_pos (Nat.zero_le _)];show 0+f 0*g (k+1)=f 0*g (k+1)+0;grind
 | succ i ih=>
  rw [pcv_succ,ih,pcv_succ (fun j=>f (j+1)),Nat.add_sub_add_right]
  by_cases h:i≤k
  ·rw [if_pos h,if_pos (by omega)];grind
  ·rw [if_neg h,if_neg (by omega)];grind
theorem pcv_more (f g:Nat→Rat) (k n:Nat):pcv f g (k+1+n) k=pcv f g (k+1) k:=by
 induction n with
 | zero=>rfl
 | succ n ih=>rw [show k+1+(n+1)=(k+1+n)+1 by omega,pcv_succ,if_neg (by omega),ih];grind
theorem pcv_zero {f:Nat→Rat} {m:Nat} (h:∀i,m≤i→f i=0) (g:Nat→Rat) (k n:Nat):pcv f g (m+n) k=pcv f g m k:=by
 induction n with
 | zero=>rfl
 | succ n ih=>
  rw [show m+(n+1)=(m+n)+1 by omega,pcv_succ,ih,h (m+n) (by omega)]
  split <;> grind
theorem cnv_pcv (f g:Nat→Rat) (k:Nat):cnv f g k=pcv f g (k+1) k:=by
 induction k generalizing f with
 | zero=>rw [pcv_succ,if_pos (Nat.le_refl _)];show f 0*g 0=0+f 0*g 0;grind
 | succ k ih=>rw [cnv_succ,ih,pcv_shift]
theorem pcv_all {f:Nat→Rat} {m:Nat} (h:∀i,m≤i→f i=0) (g:Nat→Rat) (k:Nat):pcv f g m k=cnv f g k:=by
 rw [cnv_pcv]
 rcases Nat.le_total m (k+1) with e|e
 ·obtain⟨n,hn⟩:∃n,k+1=m+n:=⟨k+1 - m,by omega⟩
  rw [hn,pcv_zero h]
 ·obtain⟨n,hn⟩:∃n,m=k+1+n:=⟨m - (k+1),by omega⟩
  rw [hn,pcv_more]
def accL (p q:List Rat) (i j:Nat):List Rat:=(List.range (p.length+q.length)).map fun k=>pcv (co p) (co q) i k+(if i≤k∧k<i+j then co p i*co q (k - i) else 0)
theorem acc_len (p q:List Rat) (i j:Nat):(accL p q i j).length=p.length+q.length:=by simp [accL]
theorem acc_get (p q:List Rat) (i j:Nat) {k:Nat} (hk:k<p.length+q.length):(accL p q i j)[k]?=some (pcv (co p) (co q) i k+(if i≤k∧k<i+j then co p i*co q (k - i) else 0)):=by
 unfold accL;rw [List.getElem?_map,List.getElem?_range hk];rfl
theorem acc_ext (p q:List Rat) (i j i' j':Nat) (h:∀k,pcv (co p) (co q) i k+(if i≤k∧k<i+j then co p i*co q (k - i) else 0)=pcv (co p) (co q) i' k+(if i'≤k∧k<i'+j' then co p i'*co q (k - i') else 0)):accL p q i j=accL p q i' j':=by
 unfold accL;exact List.map_congr_left fun k _=>h k
theorem acc_zero (p q:List Rat):accL p q 0 0=List.replicate (p.length+q.length) 0:=by
 apply List.ext_getElem?
 intro k
 rcases Nat.lt_or_ge k (p.length+q.length) with hk|hk
 ·rw [acc_get p q 0 0 hk,if_neg (by omega),List.getElem?_replicate,if_pos hk]
  show some ((0:Rat)+0)=some 0
  rw [Rat.add_zero]
 ·rw [List.getElem?_eq_none (by rw [acc_len];exact hk),List.getElem?_eq_none (by rw [List.length_replicate];exact hk)]
theorem acc_at (p q:List Rat) {i j:Nat} (hi:i<p.length) (hj:j<q.length):(accL p q i j)[i+j]?=some (pcv (co p) (co q) i (i+j)):=by
 rw [acc_get p q i j (by omega),if_neg (by omega),Rat.add_zero]
theorem acc_set (p q:List Rat) {i j:Nat} (hi:i<p.length) (hj:j<q.length):(accL p q i j).set (i+j) (pcv (co p) (co q) i (i+j)+co p i*co q j)=accL p q i (j+1):=by
 apply List.ext_getElem?
 intro k
 rcases Nat.lt_or_ge k (p.length+q.length) with hk|hk
 ·by_cases e:i+j=k
  ·subst e
   rw [List.getElem?_set_self (by rw [acc_len];exact hk),acc_get p q i (j+1) hk,if_pos (by omega),Nat.add_sub_cancel_left]
  ·rw [List.getElem?_set_ne e,acc_get p q i j hk,acc_get p q i (j+1) hk]
   by_cases h:i≤k∧k<i+j
   ·rw [if_pos h,if_pos (by omega)]
   ·rw [if_neg h,if_neg (by omega)]
 ·rw [List.getElem?_eq_none (by rw [List.length_set,acc_len];exact hk),List.getElem?_eq_none (by rw [acc_len];exact hk)]
theorem acc_next (p q:List Rat) (i:Nat):accL p q i q.length=accL p q (i+1) 0:=by
 refine acc_ext _ _ _ _ _ _ fun k=>?_;rw [pcv_succ,if_neg (c:=i+1≤k∧k<i+1+0) (by omega),Rat.add_zero]
 by_cases h:i≤k
 ·by_cases h2:k<i+q.length
  ·rw [if_pos ⟨h,h2⟩,if_pos h]
  ·rw [if_neg (by omega),if_pos h,co_ge (p:=q) (i:=k - i) (by omega)];grind
 ·rw [if_neg (by omega),if_neg h]
theorem acc_skip (p q:List Rat) (i:Nat) (h0:co p i=0):accL p q i 0=accL p q (i+1) 0:=by
 refine acc_ext _ _ _ _ _ _ fun k=>?_;rw [pcv_succ,if_neg (c:=i+1≤k∧k<i+1+0) (by omega),if_neg (c:=i≤k∧k<i+0) (by omega),h0]
 split <;> grind
def mulF (p q:List Rat):List Rat:=trimF (mulR p q)
theorem mulF_acc (p q:List Rat):trimF (accL p q p.length 0)=mulF p q:=trim_co fun k=>by
 rw [co_mulR]
 rcases Nat.lt_or_ge k (p.length+q.length) with hk|hk
 ·show ((accL p q p.length 0)[k]?).getD 0=_
  rw [acc_get p q _ 0 hk,if_neg (by omega),Rat.add_zero];exact pcv_all (fun i hi=>co_ge hi) _ _
 ·rw [co_ge (by rw [acc_len];exact hk),←pcv_all (m:=p.length) (fun i hi=>co_ge hi)]
  have h:∀n,n≤p.length→pcv (co p) (co q) n k=0:=by
   intro n
   induction n with
   | zero=>intro _;rfl
   | succ n ih=>
    intro hn;rw [pcv_succ,ih (by omega),co_ge (p:=q) (i:=k - n) (by omega)]
    split <;> grind
  exact(h _ (Nat.le_refl _)).symm
theorem bq_co {M:Nat} {p:List Rat} (hM:0<M) (h:∀x ∈ p,Bq M x) (i:Nat):Bq M (co p i):=by
 rcases Nat.lt_or_ge i p.length with hi|hi
 ·have e:p[i]?=some (co p i):=by unfold co;rw [List.getElem?_eq_getElem hi];rfl
  exact h _ (List.mem_of_getElem? e)
 ·rw [co_ge hi];exact bq_zero M hM
theorem pcv_bq {M:Nat} {f g:Nat→Rat} (hf:∀i,Bq M (f i)) (hg:∀i,Bq M (g i)) (i k:Nat):Bq (i*(M+M+1)+1) (pcv f g i k):=by
 induction i with
 | zero=>exact bq_zero _ (by omega)
 | succ i ih=>
  rw [pcv_succ]
  split
  ·exact(ih.add ((hf i).mul (hg (k - i)))).mono (by rw [Nat.succ_mul];omega)
  ·rw [Rat.add_zero];exact ih.mono (by rw [Nat.succ_mul];omega)
end Go.Proofs.YtkoaakefgacokaaGreatDoor
