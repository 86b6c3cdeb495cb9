/- Texts: the numeral of one word. Multiples of polynomials. -/
import Derived.Test.YtjamgccgoapbeaaGreatDoorGTf
import Derived.Lib.ItoaMem
import Derived.Lib.AppendIntMem
import Derived.Test.YtjamgccgoapbeaaGreatDoorGTb
set_option linter.unusedVariables false
set_option maxRecDepth 100000
set_option maxHeartbeats 64000000
namespace Go.Proofs.YtjamgccgoapbeaaGreatDoor
open Go.RowKit Go.Sort
def Tens (w:World):Prop:=Lib.TabIs Tryz.prog w "internal/strconv.uint64pow10" .u64 Lib.pow10Tab
theorem Tens.mono {w w':World} (h:Tens w) (k:Ext w w'):Tens w':=by
 unfold Tens Lib.TabIs World.var? at *
 cases hg:Tryz.prog.globalNamed "internal/strconv.uint64pow10" with
 | none=>simp [hg] at h
 | some g=>
  simp only [hg,Option.bind_some] at h ⊢
  have hlt:g<w.heap.size:=by
   rcases Nat.lt_or_ge g w.heap.size with h'|h'
   ·exact h'
   ·rw [Array.getElem?_eq_none h'] at h;simp at h
  rw [k.block g hlt];exact h
theorem holds_zero0 (w:World) (T:TypeId) (nd:Nat) (hs:nd≤24):Holds (fun (b:UInt8)=>Value.int .u8 (b.toNat:Int)) (w.alloc (.cells Lib.zeros24 T)) w.heap.size 0 (Array.replicate nd (0:UInt8)):=fun j hj=>by
 have hj':j<nd:=by simpa using hj
 refine⟨?_,World.frozen?_alloc_new _ _ _ _⟩;rw [World.cell?_alloc_new,Lib.zeros24_at _ (by omega),getElem!_pos _ j hj]
 simp
theorem fmt_in (u:Nat) (hu64:u<18446744073709551616) (w:World) (htab:Tens w):Calls Tryz.prog 153 #[.int .u64 u,.int .i64 10] w fun e w'=>e=.returned (.string ⟨(Lib.decDigits u).toArray⟩)∧Ext w w':=by
 rcases Nat.lt_or_ge u 100 with h|h
 ·have hsm:=Tryz.internal_strconv_small u h w
  have H:=ZZ hsm;have t1:decide ((u:Int)<100)=true:=by rw [decide_eq_true_eq];omega
  clear hsm htab
  go_enter Tryz.func153,Tryz.ntmps153
  go_wp2_with fail;refine H.out.mono ?_
  rintro e w1 ⟨rfl,rfl⟩;go_wp2_with fail;go_ret;exact⟨rfl,ae _⟩
 ·have t1:decide ((u:Int)<100)=false:=by rw [decide_eq_false_iff_not];omega
  have hu1:1≤u:=by omega
  have hnd:=Lib.numDigits_eq u hu1 hu64;have hnd20:Lib.nDigits u≤20:=by split at hnd <;> omega
  have HT:=ZZ htab;have hal:Tryz.prog.arrayLen 200=24:=by kernel_rfl
  have hsl:∀W,(Instr.sliceAt 200 (.pointer (some ⟨w.heap.size,0,none⟩)) none (some (.int .i64 (Lib.nDigits u:Int))) none).run Tryz.prog W=.ok (.slice (some ⟨w.heap.size,0,none⟩) (Lib.nDigits u) 24) W:=fun W=>by
   rw [run_sliceAt_array_h W 200 ⟨w.heap.size,0,none⟩ (by kernel_rfl) .i64 (Lib.nDigits u:Int) (by omega) (by rw [hal];omega)]
   go_simp
  have hH0:=holds_zero0 w 200 (Lib.nDigits u) (by omega);have hfmt:=Tryz.internal_strconv_formatBase10 w.heap.size 0 24 u (Array.replicate (Lib.nDigits u) 0) (w.alloc (.cells Lib.zeros24 200)) hH0 (by rw [Array.size_replicate];exact Lib.lt_pow_nDigits u) hu64 (by rw [Array.size_replicate];omega);rw [Array.size_replicate] at hfmt;have hnum:=Tryz.internal_strconv_numDigits u hu1 hu64 (w.alloc (.cells Lib.zeros24 200)) (htab.mono (ab _ _));have HH0:=ZZ hH0;have HF:=ZZ hfmt;have HNM:=ZZ hnum;clear hH0 hfmt hnum hal hnd htab
  go_enter Tryz.func153,Tryz.ntmps153
  go_wp2_with fail;refine HNM.out.mono ?_
  rintro e w1 ⟨rfl,rfl⟩;go_wp2_with fail;refine HF.out.mono ?_;rintro e w2 ⟨rfl,k,v',dk,rfl,hF⟩
  have hcv:(convert 184 9 (.slice (some ⟨w.heap.size,0,none⟩) (Lib.nDigits u) 24)).run Tryz.prog ((putRow (fun (b:UInt8)=>Value.int .u8 (b.toNat:Int)) (w.alloc (.cells Lib.zeros24 200)) w.heap.size 0 dk).drewN k)=.ok (.string ⟨(Lib.decDigits u).toArray⟩) ((putRow (fun (b:UInt8)=>Value.int .u8 (b.toNat:Int)) (w.alloc (.cells Lib.zeros24 200)) w.heap.size 0 dk).drewN k):=by
   have h:=run_convert_bytes_back (P:=Tryz.prog) ((putRow (fun (b:UInt8)=>Value.int .u8 (b.toNat:Int)) (w.alloc (.cells Lib.zeros24 200)) w.heap.size 0 dk).drewN k) 184 9 5 ⟨w.heap.size,0,none⟩ 24 (Lib.decDigits u) (by kernel_rfl) (by kernel_rfl) (by kernel_rfl) (fun j hj=>by
    rw [Lib.row_is_numeral hF j hj,Lib.add_plain,World.cell?_drewN];exact cell?_putRow (fun (b:UInt8)=>Value.int .u8 (b.toNat:Int)) _ w.heap.size 0 _ dk HH0.out (by rw [hF.size,Array.size_replicate]) j (by rw [hF.size];rw [Lib.decDigits_length] at hj;exact hj))
   rw [Lib.decDigits_length] at h;exact h
  have hext:Ext w ((putRow (fun (b:UInt8)=>Value.int .u8 (b.toNat:Int)) (w.alloc (.cells Lib.zeros24 200)) w.heap.size 0 dk).drewN k):=by
   rw [alloc_eq_grow];obtain⟨os',-,e⟩:=putRow_grow_new (fun (b:UInt8)=>Value.int .u8 (b.toNat:Int)) w #[Obj.cells Lib.zeros24 200] w.heap.size 0 dk (Nat.le_refl _);rw [e];exact Lib.below_grow _ w (Nat.le_refl _) k os'
  have HE:=ZZ hext;clear hext hF;go_wp2_with fail;go_ret;exact⟨rfl,HE.out⟩
theorem fmt_c (u:Nat) (hu64:u<18446744073709551616) (w:World) (htab:Tens w):Calls Tryz.prog 111 #[.int .u64 u,.int .i64 10] w fun e w'=>e=.returned (.string ⟨(Lib.decDigits u).toArray⟩)∧Ext w w':=by
 have H:=ZZ (fmt_in u hu64 w htab);clear htab
 go_enter Tryz.func111,Tryz.ntmps111
 go_wp2_with fail;refine H.out.mono ?_
 rintro e w1 ⟨rfl,h⟩;have HX:=ZZ h;clear h;go_wp2_with fail;go_ret;exact⟨rfl,HX.out⟩
end Go.Proofs.YtjamgccgoapbeaaGreatDoor
set_option linter.unusedVariables false
set_option maxRecDepth 100000
set_option maxHeartbeats 64000000
namespace Go.Proofs.YtjamgccgoapbeaaGreatDoor
open Go.RowKit
theorem cells3_new (w:World) (a b c:Value) (T:TypeId):∀(j:Nat) (u:Value),[a,b,c][j]?=some u→(w.alloc (.cells #[a,b,c] T)).cell? ((⟨w.heap.size,0,none⟩:Addr).add j)=some u:=by
 intro j u hu;have h:=heap_alloc_new w (.cells #[a,b,c] T)
 have hc:(w.alloc (.cells #[a,b,c] T)).cell? ⟨w.heap.size,j,none⟩=some u:=by
  rw [cell_of_row _ _ j _ _ _ h];simpa using hu
 by_cases h0:j=0
 ·subst h0;exact hc
 ·simpa [Addr.add,h0] using hc
theorem OwnR.lt {w:World} {B:Nat} {v:Value} {n:Nat} {xs:List Value} (h:OwnR w B v n xs):∀k,v.ownBlock=some k→B≤k∧k<w.heap.size:=by
 intro k hk;obtain⟨-,h2⟩:=h
 rcases h2 with ⟨rfl,-⟩|⟨g,cap,cur,rfl,hb,hh,-⟩
 ·cases hk
 ·obtain rfl:g=k:=Option.some.inj hk
  exact⟨hb,lt_of_block hh⟩
theorem OwnR.mono {w w':World} {B:Nat} {v:Value} {n:Nat} {xs:List Value} (h:OwnR w B v n xs) (k:Ext w w'):OwnR w' B v n xs:=by
 obtain⟨h1,h2⟩:=h;refine⟨h1,?_⟩
 rcases h2 with h2|⟨g,cap,cur,e,hb,hh,hr⟩
 ·exact .inl h2
 ·exact .inr ⟨g,cap,cur,e,hb,(k.block _ (lt_of_block hh)).trans hh,hr⟩
theorem OwnP.mono {w w':World} {B:Nat} {v:Value} {l:List Rat} (h:OwnP w B v l) (k:Ext w w'):OwnP w' B v l:=by
 obtain⟨xs,h1,h2⟩:=h;refine⟨xs,h1.mono k,fun i q hq=>?_⟩;obtain⟨s,A,n,ca,C,m,cb,x0,x1,x2,hn⟩:=h2 i q hq;exact⟨s,A,n,ca,C,m,cb,x0,x1,x2,hn.mono k⟩
theorem ext_grown1 {w0 w w':World} {u:Value} {n:Nat} {xs:List Value} (h:Ext w0 w) (hown:OwnR w w0.heap.size u n xs) (hg:w.grownBy w' u.ownBlock):Ext w0 w':=
 Below.grown h hg h.size (fun k hk=>(hown.lt k hk).1)
def scaleF (p:List Rat) (x:Rat):List Rat:=trimF (p.map (·*x))
theorem scale_q (M:Nat) (hM:M≤1099511627776) (v vx:Value) (l:List Rat) (x:Rat) (hl:l.length≤1000000) (w:World) (h:Pl w v l) (hx:Nm w vx x) (hb:∀q ∈ l,Bq M q) (bx:Bq M x):Calls Tryz.prog 34 #[v,vx] w fun e w'=>∃v',e=.returned v'∧PlN w.heap.size w' v' (scaleF l x)∧Ext w w':=by
 obtain⟨s1,A1,k1,ca1,B1,l1,cb1,rfl⟩:=hx.form2;obtain⟨A,cap,rfl,hc,hA⟩:=id h;obtain⟨n,hn⟩:∃n,l.length=n:=⟨_,rfl⟩;rw [hn];have HNL:=ZZ hn;have HP:=ZZ h;have HX:=ZZ hx;have HL:=ZZ hl;have HB:=ZZ hb;have BX:=ZZ bx;have HM:=ZZ hM;have HA:=ZZ hA;have E0:=ZZ (ab w (.cells #[.bool s1,.slice A1 k1 ca1,.slice B1 l1 cb1] 35));have RX:=ZZ (heap_alloc_new w (.cells #[.bool s1,.slice A1 k1 ca1,.slice B1 l1 cb1] 35));clear h hx hl hb bx hM hA hc hn
 go_enter Tryz.func34,Tryz.ntmps34
 go_upto_region 1 with (fail)
 generalize World.alloc w (.cells #[.bool s1,.slice A1 k1 ca1,.slice B1 l1 cb1] _)=W1 at *;generalize hgx:w.heap.size=gx at *;have HG:=ZZ hgx;clear hgx;go_wp2_with fail
 go_loopg [10,5] n (fun k i u wr=>∃j,Hid (j+k=n)∧i=.int .i64 (j:Int)∧Hid (OwnP wr W1.heap.size u ((l.take j).map (·*x)))∧Hid (Ext W1 wr))
 case atStart=>exact⟨0,ZZ (Nat.zero_add _),rfl,ZZ (OwnP.nil _ _),ZZ (ae _)⟩
 case round=>
  obtain⟨j,HJ,rfl,HO,HE⟩:=hrel;rename World=>WR;rename Value=>u
  rcases Nat.eq_zero_or_pos gk with hz|hz
  ·subst hz
   obtain rfl:j=n:=HJ.out;have q1:decide ((j:Int)<(j:Int))=false:=decide_eq_false (Int.lt_irrefl _);go_wp2_with fail;refine(trim_q _ ((l.take j).map (·*x)) (by have:=HL.out;simp;omega) _ HO.out.pl).mono ?_;rintro e w' ⟨v',rfl,hn,kk⟩;rw [show trimF ((l.take j).map (·*x))=scaleF l x by rw [List.take_of_length_le (Nat.le_of_eq HNL.out)];rfl] at hn;have HN:=ZZ hn;have HK2:=ZZ kk;clear hn kk;go_wp2_with fail;go_ret;refine⟨_,rfl,?_,al E0.out (al HE.out HK2.out)⟩
   rcases HN.out with hn|⟨g,hg,hn⟩
   ·exact .inl hn
   ·refine .inr ⟨g,Nat.le_trans ?_ hg,hn⟩
    exact(al E0.out HE.out).size
  ·have hjn:j<n:=by have:=HJ.out;omega
   have q1:decide ((j:Int)<(n:Int))=true:=decide_eq_true (by omega);have q4:(j:Int)<(n:Int):=by omega
   have q5:(0:Int)≤(j:Int):=by omega
   rcases HA.out with ⟨-,h5⟩|⟨b,o,rfl,ht⟩
   ·have:=HNL.out;rw [h5] at this;simp at this;omega
   obtain⟨q,hq⟩:∃q,l[j]?=some q:=⟨l[j]'(by rw [HNL.out];exact hjn),List.getElem?_eq_getElem _⟩;have EW:=ZZ (al E0.out HE.out);obtain⟨s2,A2,k2,ca2,B2,l2,cb2,c0,c1,c2,hcn⟩:=(ht j q hq).mono EW.out;have HQ:=ZZ hq;have HCN:=ZZ hcn;have HZ:=ZZ hz;have HJN:=ZZ hjn;have BQ:=ZZ (HB.out q (List.mem_of_getElem? hq));obtain⟨x0,x1,x2,-⟩:=aj (((al HE.out (ab WR (.cells #[.bool s2,.slice A2 k2 ca2,.slice B2 l2 cb2] 35))).block _ (lt_of_block RX.out)).trans RX.out);clear hq hcn ht hz hjn;go_wp2_with fail;refine(mul_q M HM.out _ _ q x _ (HCN.out.mono (ab _ _)) (HX.out.mono (al EW.out (ab _ _))) BQ.out BX.out).mono ?_;rintro e w5 ⟨v5,rfl,h5,k5⟩;obtain⟨s5,A5,k5',ca5,B5,l5,cb5,rfl⟩:=h5.form2;have E6:=ZZ (show Ext WR (w5.alloc (.cells #[.bool s5,.slice A5 k5' ca5,.slice B5 l5 cb5] 35)) from al (ab WR (.cells #[.bool s2,.slice A2 k2 ca2,.slice B2 l2 cb2] 35)) (al k5 (ab _ _)));have H5:=ZZ (h5.mono (ab w5 (.cells #[.bool s5,.slice A5 k5' ca5,.slice B5 l5 cb5] 35)));obtain⟨xs,hown,hxs⟩:=HO.out.mono E6.out;have HXS:=ZZ hxs;have HOWN:=ZZ hown;have LT:=ZZ (show ((l.take j).map (·*x)).length=j by have h1:=HNL.out;have h2:=HJN.out;simp;omega);have C3:=ZZ (cells3_new w5 (.bool s5) (.slice A5 k5' ca5) (.slice B5 l5 cb5) 35);clear c0 c1 c2 x0 x1 x2 h5 k5 hown hxs
   go_wp2_with (at_builtin;refine wpList_append1 rfl _ _ rfl W1.heap.size _ ((l.take j).map (·*x)).length xs rfl HOWN.out ⟨w5.heap.size,0,none⟩ _ [.bool s5,.slice A5 k5' ca5,.slice B5 l5 cb5] rfl rfl C3.out (by intro u hu;simp at hu;rcases hu with rfl|rfl|rfl <;> rfl) (by intro u hu z he;subst he;simp at hu) (by have h1:=LT.out;have h2:=HL.out;have h3:=HNL.out;have h4:=HJN.out;omega) (al HE.out E6.out).size ?_;intro v' w7 hown7 hgrow)
   have HP7:=ZZ (OwnP.snoc HOWN.out HXS.out H5.out hgrow hown7);have E7:=ZZ (ext_grown1 (al HE.out E6.out) HOWN.out hgrow);clear hown7 hgrow;go_wp2_with fail
   go_roundg (gk - 1)
   case measure=>have:=HZ.out;omega
   case rel=>
    refine⟨j+1,ZZ (by have:=HJ.out;have:=HZ.out;omega),by have h1:=HL.out;have h2:=HNL.out;have h3:=HJN.out;rw [IntWalk.wrap64_in _ ⟨by omega,by omega⟩];rfl,ZZ ?_,ZZ E7.out⟩;rw [List.take_add_one,HQ.out,Option.toList_some,List.map_append];exact HP7.out
end Go.Proofs.YtjamgccgoapbeaaGreatDoor
