/- Texts: rows of digits. Texts: cut at a byte. The highest coefficient, quotients by a number that is not 0. -/
import Derived.Test.YtaaoleakkaloeaaGreatDoorGShelf
import Derived.Test.YtaaoleakkaloeaaGreatDoorGQp
import Derived.Test.YtaaoleakkaloeaaGreatDoorGRat
import Derived.Shelf.Strings.SlTrimAscii
import Derived.Deep.QuietTactic
import Derived.BigQuiet
import Derived.Test.YtaaoleakkaloeaaGreatDoorGRd
set_option linter.unusedVariables false
set_option maxRecDepth 100000
set_option maxHeartbeats 64000000
namespace Go.Proofs.YtaaoleakkaloeaaGreatDoor
open Go.RowKit
def cs10:List UInt8:=[48,49,50,51,52,53,54,55,56,57]
theorem cs10_dig (c:UInt8):cs10.contains c=isDig c:=by
 rw [Bool.eq_iff_iff,isDig_iff]
 constructor
 ·intro h
  simp [cs10] at h
  rcases h with rfl|rfl|rfl|rfl|rfl|rfl|rfl|rfl|rfl|rfl <;> decide
 ·intro h
  have:∀k:Nat,48≤k→k≤57→cs10.contains (UInt8.ofNat k)=true:=by
   intro k h1 h2
   have:k=48∨k=49∨k=50∨k=51∨k=52∨k=53∨k=54∨k=55∨k=56∨k=57:=by omega
   rcases this with rfl|rfl|rfl|rfl|rfl|rfl|rfl|rfl|rfl|rfl <;> decide
  have h3:=this c.toNat h.1 h.2
  rwa [UInt8.ofNat_toNat] at h3
theorem dropWhile_empty (p:UInt8→Bool) (l:List UInt8):(l.dropWhile p).isEmpty=l.all p:=by
 induction l with
 | nil=>rfl
 | cons a l ih=>
  rw [List.dropWhile_cons]
  split
  ·rename_i h;rw [ih,List.all_cons,h,Bool.true_and]
  ·rename_i h;simp [h]
theorem all_dropWhile (p:UInt8→Bool) (l:List UInt8):(l.dropWhile p).all p=l.all p:=by
 induction l with
 | nil=>rfl
 | cons a l ih=>
  rw [List.dropWhile_cons]
  split
  ·rename_i h;rw [ih,List.all_cons,h,Bool.true_and]
  ·rfl
theorem trim_digits (l:List UInt8):(Lib.trimS l cs10).isEmpty=l.all isDig:=by
 unfold Lib.trimS Lib.trimLeftS Lib.trimRightS;rw [dropWhile_empty,List.all_reverse,all_dropWhile,List.all_reverse]
 congr 1
 funext c
 exact cs10_dig c
def digB (l:List UInt8):Bool:=!l.isEmpty && l.all isDig
def plainB (l:List UInt8):Bool:=digB l && (l == [48] || l.head? != some 48)
theorem plain_cons {c:UInt8} {t:List UInt8} (h:digB (c :: t)=true):(c == 48 && t.isEmpty || ((c.toNat:Int) != 48))=plainB (c :: t):=by
 unfold plainB;rw [h,Bool.true_and]
 congr 1
 ·cases t <;> simp
 ·rw [Bool.eq_iff_iff]
  simp only [bne_iff_ne,List.head?_cons,ne_eq,Option.some.injEq]
  constructor
  ·intro h e;exact h (by rw [e];rfl)
  ·intro h e;exact h (UInt8.toNat_inj.1 (by have:(48:UInt8).toNat=48:=rfl;omega))
theorem digits_c (l:List UInt8) (hs:l.length≤9223372036854775807) (w:World):Calls Tryz.prog 105 #[.string ⟨l.toArray⟩] w fun e w'=>e=.returned (.bool (digB l))∧Ext w w':=by
 have h:=Any.strings_Trim_laid Tryz.lays160 (by kernel_rfl) ⟨l.toArray⟩ ⟨#[48,49,50,51,52,53,54,55,56,57]⟩ w hs (by decide) (ascii_of_all (by decide));have h2:=trim_digits l;unfold cs10 at h2
 change Calls Tryz.prog _ _ _ (fun e w'=>e=.returned (.string ⟨(Lib.trimS l [48,49,50,51,52,53,54,55,56,57]).toArray⟩)∧Below w.heap.size w w') at h
 generalize Lib.trimS l [48,49,50,51,52,53,54,55,56,57]=t at h h2;have H:=ZZ h;have H2:=ZZ h2;clear h h2
 rcases Decidable.em (l=[]) with h0|h0
 ·subst h0
  go_enter Tryz.func105,Tryz.ntmps105
  go_wp2_with fail;go_ret
  exact⟨rfl,af _⟩
 ·go_enter Tryz.func105,Tryz.ntmps105
  go_wp2_with fail;refine H.out.mono ?_
  rintro e w1 ⟨rfl,h1⟩;have H1:=ZZ h1;clear h1;go_wp2_with fail;go_ret;refine⟨?_,H1.out⟩;unfold digB;rw [←H2.out]
  rfl
theorem plain_c (l:List UInt8) (hs:l.length≤9223372036854775807) (w:World):Calls Tryz.prog 65 #[.string ⟨l.toArray⟩] w fun e w'=>e=.returned (.bool (plainB l))∧Ext w w':=by
 have hd:=digits_c l hs w
 rcases hb:digB l with _|_
 ·rw [hb] at hd
  have H:=ZZ hd;have HB:=ZZ hb;clear hd hb
  go_enter Tryz.func65,Tryz.ntmps65
  go_wp2_with fail;refine H.out.mono ?_
  rintro e w1 ⟨rfl,h1⟩;have H1:=ZZ h1;clear h1;go_wp2_with fail;go_ret;exact⟨by unfold plainB;rw [HB.out];rfl,H1.out⟩
 ·cases l with
  | nil=>simp [digB] at hb
  | cons c t=>
   rw [hb] at hd;have H:=ZZ hd;have HB:=ZZ hb;clear hd hb
   rcases Decidable.em (c=48) with hc|hc
   ·subst hc
    rcases Decidable.em (t=[]) with ht|ht
    ·subst ht
     go_enter Tryz.func65,Tryz.ntmps65
     go_wp2_with fail;refine H.out.mono ?_
     rintro e w1 ⟨rfl,h1⟩;have H1:=ZZ h1;clear h1;go_wp2_with fail;go_ret;exact⟨by rw [←plain_cons HB.out];rfl,H1.out⟩
    ·go_enter Tryz.func65,Tryz.ntmps65
     go_wp2_with fail;refine H.out.mono ?_
     rintro e w1 ⟨rfl,h1⟩;have H1:=ZZ h1;clear h1;go_wp2_with fail;go_ret;exact⟨by rw [←plain_cons HB.out];rfl,H1.out⟩
   ·go_enter Tryz.func65,Tryz.ntmps65
    go_wp2_with fail;refine H.out.mono ?_
    rintro e w1 ⟨rfl,h1⟩;have H1:=ZZ h1;clear h1;go_wp2_with fail;go_ret;exact⟨by rw [←plain_cons HB.out];rfl,H1.out⟩
end Go.Proofs.YtaaoleakkaloeaaGreatDoor
set_option linter.unusedVariables false
set_option maxRecDepth 100000
set_option maxHeartbeats 64000000
namespace Go.Proofs.YtaaoleakkaloeaaGreatDoor
open Go.RowKit
theorem indexByte_no (l:List UInt8) (c:UInt8) (h:c ∉ l):Lib.indexByte l c = -1:=by
 induction l with
 | nil=>rfl
 | cons b l ih=>
  have h1:(b == c)=false:=by rw [beq_eq_false_iff_ne];exact fun e=>h (e ▸ List.mem_cons_self ..)
  have h2:=ih (fun e=>h (List.mem_cons_of_mem _ e));unfold Lib.indexByte;rw [h1,h2];rfl
theorem indexByte_yes (a b:List UInt8) (c:UInt8) (h:c ∉ a):Lib.indexByte (a ++ c :: b) c=(a.length:Int):=by
 induction a with
 | nil=>simp [Lib.indexByte]
 | cons d a ih=>
  have h1:(d == c)=false:=by rw [beq_eq_false_iff_ne];exact fun e=>h (e ▸ List.mem_cons_self ..)
  have h2:=ih (fun e=>h (List.mem_cons_of_mem _ e));rw [List.cons_append];unfold Lib.indexByte;rw [h1,h2]
  have:((a.length:Int) == -1)=false:=by rw [beq_eq_false_iff_ne];omega
  simp [this]
theorem cut_no_in (l:List UInt8) (c:UInt8) (h:c ∉ l) (w:World):Calls Tryz.prog 104 #[.string ⟨l.toArray⟩,.string ⟨#[c]⟩] w fun e w'=>e=.returned (.tuple #[.string ⟨l.toArray⟩,.string ⟨#[]⟩,.bool false])∧Ext w w':=by
 have hi:=Tryz.stringslite_Index_one ⟨l.toArray⟩ c w;have e:Lib.indexByte (ByteArray.mk l.toArray).data.toList c = -1:=indexByte_no l c h;rw [e] at hi;have HI:=ZZ hi;clear hi e h
 go_enter Tryz.func104,Tryz.ntmps104
 go_wp2_with fail;refine HI.out.mono ?_
 rintro e w1 ⟨rfl,rfl⟩;go_wp2_with fail;refine bodyPost_ret (v:=.tuple #[.string ⟨l.toArray⟩,.string ⟨#[]⟩,.bool false]) (by simp [results,Tryz.f104]) rfl ?_;exact⟨rfl,af _⟩
theorem cut_yes_in (a b:List UInt8) (c:UInt8) (h:c ∉ a) (hs:(a ++ c :: b).length≤9223372036854775807) (w:World):Calls Tryz.prog 104 #[.string ⟨(a ++ c :: b).toArray⟩,.string ⟨#[c]⟩] w fun e w'=>e=.returned (.tuple #[.string ⟨a.toArray⟩,.string ⟨b.toArray⟩,.bool true])∧Ext w w':=by
 have hi:=Tryz.stringslite_Index_one ⟨(a ++ c :: b).toArray⟩ c w;have e:Lib.indexByte (ByteArray.mk (a ++ c :: b).toArray).data.toList c=(a.length:Int):=indexByte_yes a b c h;rw [e] at hi;have HI:=ZZ hi;obtain⟨p,hp⟩:∃p,p=a.length:=⟨_,rfl⟩;rw [←hp] at HI;obtain⟨s,hse⟩:∃s:ByteArray,s=⟨(a ++ c :: b).toArray⟩:=⟨_,rfl⟩;have hsz:s.size=p+1+b.length:=by rw [hse,hp];show (a ++ c :: b).length=_;simp;omega
 have x1:s.extract 0 p=⟨a.toArray⟩:=by
  rw [hse,hp];apply ByteArray.ext;simp
 have x2:s.extract (p+1) s.size=⟨b.toArray⟩:=by
  rw [hsz,hse,hp];apply ByteArray.ext
  simp
 have hbd:p+1+b.length≤9223372036854775807:=by simp at hs;omega
 rw [←hse] at HI ⊢;clear hi e h hse hs hp;have u1:IntKind.i64.wrap ((p:Int)+1)=(p:Int)+1:=IntWalk.i64_in _ (by omega);have q1:(0:Int)≤(p:Int):=by omega
 have q2:(p:Int)≤(s.size:Int):=by omega
 have q3:(0:Int)≤(p:Int)+1:=by omega
 have q4:(p:Int)+1≤(s.size:Int):=by omega
 have q5:((p:Int)+1).toNat=p+1:=by omega
 have X2:=ZZ x2;have HSZ:=ZZ hsz;clear hsz hbd x2;have x2:=X2.out
 go_enter Tryz.func104,Tryz.ntmps104
 go_wp2_with fail;refine HI.out.mono ?_
 rintro e w1 ⟨rfl,rfl⟩;go_wp2_with fail
 go_quiet (fail)
 go_wp2_with fail;refine bodyPost_ret (v:=.tuple #[.string ⟨a.toArray⟩,.string ⟨b.toArray⟩,.bool true]) (by simp [results,Tryz.f104]) rfl ?_
 exact⟨rfl,au _ _⟩
theorem cut_no_c (l:List UInt8) (c:UInt8) (h:c ∉ l) (w:World):Calls Tryz.prog 64 #[.string ⟨l.toArray⟩,.string ⟨#[c]⟩] w fun e w'=>e=.returned (.tuple #[.string ⟨l.toArray⟩,.string ⟨#[]⟩,.bool false])∧Ext w w':=by
 have H:=ZZ (cut_no_in l c h w);clear h
 go_enter Tryz.func64,Tryz.ntmps64
 go_wp2_with fail;refine H.out.mono ?_
 rintro e w1 ⟨rfl,h⟩;have HX:=ZZ h;clear h;go_wp2_with fail;refine bodyPost_ret (v:=.tuple #[.string ⟨l.toArray⟩,.string ⟨#[]⟩,.bool false]) (by simp [results,Tryz.f64]) rfl ?_;exact⟨rfl,HX.out⟩
theorem cut_yes_c (a b:List UInt8) (c:UInt8) (h:c ∉ a) (hs:(a ++ c :: b).length≤9223372036854775807) (w:World):Calls Tryz.prog 64 #[.string ⟨(a ++ c :: b).toArray⟩,.string ⟨#[c]⟩] w fun e w'=>e=.returned (.tuple #[.string ⟨a.toArray⟩,.string ⟨b.toArray⟩,.bool true])∧Ext w w':=by
 have H:=ZZ (cut_yes_in a b c h hs w);clear h hs;generalize (⟨(a ++ c :: b).toArray⟩:ByteArray)=s at *
 go_enter Tryz.func64,Tryz.ntmps64
 go_wp2_with fail;refine H.out.mono ?_
 rintro e w1 ⟨rfl,h⟩;have HX:=ZZ h;clear h;go_wp2_with fail;refine bodyPost_ret (v:=.tuple #[.string ⟨a.toArray⟩,.string ⟨b.toArray⟩,.bool true]) (by simp [results,Tryz.f64]) rfl ?_;exact⟨rfl,HX.out⟩
theorem split_at (l:List UInt8) (c:UInt8):c ∉ l∨∃a b,l=a ++ c :: b∧c ∉ a:=by
 induction l with
 | nil=>exact .inl (by simp)
 | cons d l ih=>
  by_cases h:d=c
  ·exact .inr ⟨[],l,by rw [h];rfl,by simp⟩
  ·rcases ih with ih|⟨a,b,e,h1⟩
   ·exact .inl (by simp [ih,Ne.symm h])
   ·exact .inr ⟨d :: a,b,by rw [e];rfl,by simp [h1,Ne.symm h]⟩
def cutB (c:UInt8):List UInt8→List UInt8 × List UInt8 × Bool
 | []=>([],[],false)
 | d :: l=>if d=c then ([],l,true) else (d :: (cutB c l).1,(cutB c l).2.1,(cutB c l).2.2)
theorem cutB_no (l:List UInt8) (c:UInt8) (h:c ∉ l):cutB c l=(l,[],false):=by
 induction l with
 | nil=>rfl
 | cons d l ih=>
  have h1:¬ d=c:=fun e=>h (e ▸ List.mem_cons_self ..);rw [cutB,if_neg h1,ih (fun e=>h (List.mem_cons_of_mem _ e))]
theorem cutB_yes (a b:List UInt8) (c:UInt8) (h:c ∉ a):cutB c (a ++ c :: b)=(a,b,true):=by
 induction a with
 | nil=>simp [cutB]
 | cons d l ih=>
  have h1:¬ d=c:=fun e=>h (e ▸ List.mem_cons_self ..);rw [List.cons_append,cutB,if_neg h1,ih (fun e=>h (List.mem_cons_of_mem _ e))]
theorem cut_str (l:List UInt8) (c:UInt8) (hs:l.length≤9223372036854775807) (w:World):Calls Tryz.prog 64 #[.string ⟨l.toArray⟩,.string ⟨#[c]⟩] w fun e w'=>e=.returned (.tuple #[.string ⟨(cutB c l).1.toArray⟩,.string ⟨(cutB c l).2.1.toArray⟩,.bool (cutB c l).2.2])∧Ext w w':=by
 rcases split_at l c with h|⟨a,b,rfl,h⟩
 ·rw [cutB_no l c h];exact cut_no_c l c h w
 ·rw [cutB_yes a b c h];exact cut_yes_c a b c h hs w
end Go.Proofs.YtaaoleakkaloeaaGreatDoor
set_option linter.unusedVariables false
set_option maxRecDepth 100000
set_option maxHeartbeats 64000000
namespace Go.Proofs.YtaaoleakkaloeaaGreatDoor
open Go.RowKit
theorem top_q (v:Value) (l:List Rat) (hl:l.length≤1000000) (n:Nat) (q:Rat) (hn:l.length=n+1) (hq:l[n]?=some q) (w:World) (h:Pl w v l):Calls Tryz.prog 83 #[v] w fun e w'=>∃v',e=.returned v'∧Nm w' v' q∧Ext w w':=by
 obtain⟨A,cap,rfl,hc,hA⟩:=h
 rcases hA with ⟨-,h5⟩|⟨b,o,rfl,ht⟩
 ·rw [h5] at hn;simp at hn
 rw [hn];obtain⟨s,A1,k1,ca1,B1,l1,cb1,d0,d1,d2,hx⟩:=ht n q hq;have HX:=ZZ hx;have e1:=ac w (.cells #[.bool false,.slice none 0 0,.slice none 0 0] 36);have c0:=ao e1 d0;have c1:=ao e1 d1;have c2:=ao e1 d2
 have q3:IntKind.i64.wrap ((n:Int)+1 - 1)=(n:Int):=by
  rw [show (n:Int)+1 - 1=n by omega];exact IntWalk.i64_in _ (by omega)
 have q3':IntKind.i64.wrap (n:Int)=(n:Int):=IntWalk.i64_in _ (by omega);have q4:(n:Int)<(n:Int)+1:=by omega
 have q5:(0:Int)≤(n:Int):=by omega
 clear hl hn hq hc ht hx d0 d1 d2 e1
 go_enter Tryz.func83,Tryz.ntmps83
 go_wp2_with fail;refine bodyPost_ret (v:=.agg #[.bool s,.slice A1 k1 ca1,.slice B1 l1 cb1]) (by simp [results,Tryz.f83];go_simp) rfl ?_
 exact⟨_,rfl,HX.out.mono (ac _ _),ac _ _⟩
theorem over_q (M:Nat) (hM:M≤1099511627776) (vx vy:Value) (x y:Rat) (w:World) (hx:Nm w vx x) (hy:Nm w vy y) (bx:Bq M x) (by_:Bq M y) (h0:y≠0):Calls Tryz.prog 84 #[vx,vy] w fun e w'=>∃v,e=.returned v∧Nm w' v (x / y)∧Ext w w':=by
 obtain⟨s1,A1,k1,ca1,B1,l1,cb1,rfl⟩:=hx.form2;obtain⟨s2,A2,k2,ca2,B2,l2,cb2,rfl⟩:=hy.form2;have HX:=ZZ hx;have HY:=ZZ hy;have BX:=ZZ bx;have BY:=ZZ by_;have H0:=ZZ h0;have HM:=ZZ hM;have e1:=ac w (.cells #[.bool s1,.slice A1 k1 ca1,.slice B1 l1 cb1] 36);have e2:=ac (w.alloc (.cells #[.bool s1,.slice A1 k1 ca1,.slice B1 l1 cb1] 36)) (.cells #[.bool s2,.slice A2 k2 ca2,.slice B2 l2 cb2] 36);have e3:=ac ((w.alloc (.cells #[.bool s1,.slice A1 k1 ca1,.slice B1 l1 cb1] 36)).alloc (.cells #[.bool s2,.slice A2 k2 ca2,.slice B2 l2 cb2] 36)) (.cells #[.bool false,.slice none 0 0,.slice none 0 0] 36);have hz:=heap_alloc_new ((w.alloc (.cells #[.bool s1,.slice A1 k1 ca1,.slice B1 l1 cb1] 36)).alloc (.cells #[.bool s2,.slice A2 k2 ca2,.slice B2 l2 cb2] 36)) (.cells #[.bool false,.slice none 0 0,.slice none 0 0] 36);have hz:=show (((w.alloc (.cells #[.bool s1,.slice A1 k1 ca1,.slice B1 l1 cb1] 36)).alloc (.cells #[.bool s2,.slice A2 k2 ca2,.slice B2 l2 cb2] 36)).alloc (.cells #[.bool false,.slice none 0 0,.slice none 0 0] 36)).heap[w.heap.size+1+1]?=some (.cells #[.bool false,.slice none 0 0,.slice none 0 0] 36 (0,0)) by simpa using hz
 have HZ:=ZZ hz;have EW:=ZZ (al e1 (al e2 e3));have LE:=ZZ (show w.heap.size≤w.heap.size+1+1 from by omega);clear hx hy bx by_ h0 hM e1 e2 e3 hz
 go_enter Tryz.func84,Tryz.ntmps84
 go_wp2_with fail;refine(div_q M HM.out _ _ x y _ (HX.out.mono EW.out) (HY.out.mono EW.out) BX.out BY.out H0.out).mono ?_
 rintro e w4 ⟨v4,rfl,h4,k4⟩;obtain⟨s4,A4,k4',ca4,B4,l4,cb4,rfl⟩:=h4.form2;have E4:=ZZ (al k4 (ac w4 (.cells #[.bool s4,.slice A4 k4' ca4,.slice B4 l4 cb4] 36)));have H4:=ZZ (h4.mono (ac w4 (.cells #[.bool s4,.slice A4 k4' ca4,.slice B4 l4 cb4] 36)));have hz4:=(E4.out.block _ (lt_of_block HZ.out)).trans HZ.out;have HZ4:=ZZ hz4;obtain⟨z0,z1,z2,zf0,zf1,zf2⟩:=aj hz4;clear h4 k4 hz4;go_wp2_with fail;refine bodyPost_ret (v:=.agg #[.bool s4,.slice A4 k4' ca4,.slice B4 l4 cb4]) (by simp [results,Tryz.f84];go_simp) rfl ?_;exact⟨_,rfl,H4.out.put3 HZ4.out,am (al EW.out E4.out) LE.out _ _ _⟩
end Go.Proofs.YtaaoleakkaloeaaGreatDoor
