/- Texts: rows of digits. Texts: cut at a byte. The highest coefficient, quotients by a number that is not 0. Texts: the number that decimal digits are. The reference's natural numbers: a shift to the right. -/
import Derived.Test.YtaaoleakkaloeaaGreatDoorGShelf
import Derived.Test.YtaaoleakkaloeaaGreatDoorGQp
import Derived.Test.YtaaoleakkaloeaaGreatDoorGRat
import Derived.Shelf.Strings.SlTrimAscii
import Derived.Deep.QuietTactic
import Derived.BigQuiet
import Derived.Test.YtaaoleakkaloeaaGreatDoorGRd
import Derived.Lib.OthersKept
import Derived.Deep.LoopGhost
import Derived.BigRegion
set_option linter.unusedVariables false
set_option maxRecDepth 100000
set_option maxHeartbeats 64000000
namespace Go.Proofs.YtaaoleakkaloeaaGreatDoor
open Go.RowKit
def cs10:List UInt8:=[48,49,50,51,52,53,54,55,56,57]
theorem cs10_dig (c:UInt8):cs10.contains c=isDig c:=by
 rw [Bool.eq_iff_iff,isDig_iff]
 constructor
 ·intro h
  simp [cs10] at h
  rcases h with rfl|rfl|rfl|rfl|rfl|rfl|rfl|rfl|rfl|rfl <;> decide
 ·intro h
  have:∀k:Nat,48≤k→k≤57→cs10.contains (UInt8.ofNat k)=true:=by
   intro k h1 h2
   have:k=48∨k=49∨k=50∨k=51∨k=52∨k=53∨k=54∨k=55∨k=56∨k=57:=by omega
   rcases this with rfl|rfl|rfl|rfl|rfl|rfl|rfl|rfl|rfl|rfl <;> decide
  have h3:=this c.toNat h.1 h.2
  rwa [UInt8.ofNat_toNat] at h3
theorem dropWhile_empty (p:UInt8→Bool) (l:List UInt8):(l.dropWhile p).isEmpty=l.all p:=by
 induction l with
 | nil=>rfl
 | cons a l ih=>
  rw [List.dropWhile_cons]
  split
  ·rename_i h;rw [ih,List.all_cons,h,Bool.true_and]
  ·rename_i h;simp [h]
theorem all_dropWhile (p:UInt8→Bool) (l:List UInt8):(l.dropWhile p).all p=l.all p:=by
 induction l with
 | nil=>rfl
 | cons a l ih=>
  rw [List.dropWhile_cons]
  split
  ·rename_i h;rw [ih,List.all_cons,h,Bool.true_and]
  ·rfl
theorem trim_digits (l:List UInt8):(Lib.trimS l cs10).isEmpty=l.all isDig:=by
 unfold Lib.trimS Lib.trimLeftS Lib.trimRightS;rw [dropWhile_empty,List.all_reverse,all_dropWhile,List.all_reverse]
 congr 1
 funext c
 exact cs10_dig c
def digB (l:List UInt8):Bool:=!l.isEmpty && l.all isDig
def plainB (l:List UInt8):Bool:=digB l && (l == [48] || l.head? != some 48)
theorem plain_cons {c:UInt8} {t:List UInt8} (h:digB (c :: t)=true):(c == 48 && t.isEmpty || ((c.toNat:Int) != 48))=plainB (c :: t):=by
 unfold plainB;rw [h,Bool.true_and]
 congr 1
 ·cases t <;> simp
 ·rw [Bool.eq_iff_iff]
  simp only [bne_iff_ne,List.head?_cons,ne_eq,Option.some.injEq]
  constructor
  ·intro h e;exact h (by rw [e];rfl)
  ·intro h e;exact h (UInt8.toNat_inj.1 (by have:(48:UInt8).toNat=48:=rfl;omega))
theorem digits_c (l:List UInt8) (hs:l.length≤9223372036854775807) (w:World):Calls Tryz.prog 105 #[.string ⟨l.toArray⟩] w fun e w'=>e=.returned (.bool (digB l))∧Ext w w':=by
 have h:=Any.strings_Trim_laid Tryz.lays160 (by kernel_rfl) ⟨l.toArray⟩ ⟨#[48,49,50,51,52,53,54,55,56,57]⟩ w hs (by decide) (ascii_of_all (by decide));have h2:=trim_digits l;unfold cs10 at h2
 change Calls Tryz.prog _ _ _ (fun e w'=>e=.returned (.string ⟨(Lib.trimS l [48,49,50,51,52,53,54,55,56,57]).toArray⟩)∧Below w.heap.size w w') at h
 generalize Lib.trimS l [48,49,50,51,52,53,54,55,56,57]=t at h h2;have H:=ZZ h;have H2:=ZZ h2;clear h h2
 rcases Decidable.em (l=[]) with h0|h0
 ·subst h0
  go_enter Tryz.func105,Tryz.ntmps105
  go_wp2_with fail;go_ret
  exact⟨rfl,af _⟩
 ·go_enter Tryz.func105,Tryz.ntmps105
  go_wp2_with fail;refine H.out.mono ?_
  rintro e w1 ⟨rfl,h1⟩;have H1:=ZZ h1;clear h1;go_wp2_with fail;go_ret;refine⟨?_,H1.out⟩;unfold digB;rw [←H2.out]
  rfl
theorem plain_c (l:List UInt8) (hs:l.length≤9223372036854775807) (w:World):Calls Tryz.prog 65 #[.string ⟨l.toArray⟩] w fun e w'=>e=.returned (.bool (plainB l))∧Ext w w':=by
 have hd:=digits_c l hs w
 rcases hb:digB l with _|_
 ·rw [hb] at hd
  have H:=ZZ hd;have HB:=ZZ hb;clear hd hb
  go_enter Tryz.func65,Tryz.ntmps65
  go_wp2_with fail;refine H.out.mono ?_
  rintro e w1 ⟨rfl,h1⟩;have H1:=ZZ h1;clear h1;go_wp2_with fail;go_ret;exact⟨by unfold plainB;rw [HB.out];rfl,H1.out⟩
 ·cases l with
  | nil=>simp [digB] at hb
  | cons c t=>
   rw [hb] at hd;have H:=ZZ hd;have HB:=ZZ hb;clear hd hb
   rcases Decidable.em (c=48) with hc|hc
   ·subst hc
    rcases Decidable.em (t=[]) with ht|ht
    ·subst ht
     go_enter Tryz.func65,Tryz.ntmps65
     go_wp2_with fail;refine H.out.mono ?_
     rintro e w1 ⟨rfl,h1⟩;have H1:=ZZ h1;clear h1;go_wp2_with fail;go_ret;exact⟨by rw [←plain_cons HB.out];rfl,H1.out⟩
    ·go_enter Tryz.func65,Tryz.ntmps65
     go_wp2_with fail;refine H.out.mono ?_
     rintro e w1 ⟨rfl,h1⟩;have H1:=ZZ h1;clear h1;go_wp2_with fail;go_ret;exact⟨by rw [←plain_cons HB.out];rfl,H1.out⟩
   ·go_enter Tryz.func65,Tryz.ntmps65
    go_wp2_with fail;refine H.out.mono ?_
    rintro e w1 ⟨rfl,h1⟩;have H1:=ZZ h1;clear h1;go_wp2_with fail;go_ret;exact⟨by rw [←plain_cons HB.out];rfl,H1.out⟩
end Go.Proofs.YtaaoleakkaloeaaGreatDoor
set_option linter.unusedVariables false
set_option maxRecDepth 100000
set_option maxHeartbeats 64000000
namespace Go.Proofs.YtaaoleakkaloeaaGreatDoor
open Go.RowKit
theorem indexByte_no (l:List UInt8) (c:UInt8) (h:c ∉ l):Lib.indexByte l c = -1:=by
 induction l with
 | nil=>rfl
 | cons b l ih=>
  have h1:(b == c)=false:=by rw [beq_eq_false_iff_ne];exact fun e=>h (e ▸ List.mem_cons_self ..)
  have h2:=ih (fun e=>h (List.mem_cons_of_mem _ e));unfold Lib.indexByte;rw [h1,h2];rfl
theorem indexByte_yes (a b:List UInt8) (c:UInt8) (h:c ∉ a):Lib.indexByte (a ++ c :: b) c=(a.length:Int):=by
 induction a with
 | nil=>simp [Lib.indexByte]
 | cons d a ih=>
  have h1:(d == c)=false:=by rw [beq_eq_false_iff_ne];exact fun e=>h (e ▸ List.mem_cons_self ..)
  have h2:=ih (fun e=>h (List.mem_cons_of_mem _ e));rw [List.cons_append];unfold Lib.indexByte;rw [h1,h2]
  have:((a.length:Int) == -1)=false:=by rw [beq_eq_false_iff_ne];omega
  simp [this]
theorem cut_no_in (l:List UInt8) (c:UInt8) (h:c ∉ l) (w:World):Calls Tryz.prog 104 #[.string ⟨l.toArray⟩,.string ⟨#[c]⟩] w fun e w'=>e=.returned (.tuple #[.string ⟨l.toArray⟩,.string ⟨#[]⟩,.bool false])∧Ext w w':=by
 have hi:=Tryz.stringslite_Index_one ⟨l.toArray⟩ c w;have e:Lib.indexByte (ByteArray.mk l.toArray).data.toList c = -1:=indexByte_no l c h;rw [e] at hi;have HI:=ZZ hi;clear hi e h
 go_enter Tryz.func104,Tryz.ntmps104
 go_wp2_with fail;refine HI.out.mono ?_
 rintro e w1 ⟨rfl,rfl⟩;go_wp2_with fail;refine bodyPost_ret (v:=.tuple #[.string ⟨l.toArray⟩,.string ⟨#[]⟩,.bool false]) (by simp [results,Tryz.f104]) rfl ?_;exact⟨rfl,af _⟩
theorem cut_yes_in (a b:List UInt8) (c:UInt8) (h:c ∉ a) (hs:(a ++ c :: b).length≤9223372036854775807) (w:World):Calls Tryz.prog 104 #[.string ⟨(a ++ c :: b).toArray⟩,.string ⟨#[c]⟩] w fun e w'=>e=.returned (.tuple #[.string ⟨a.toArray⟩,.string ⟨b.toArray⟩,.bool true])∧Ext w w':=by
 have hi:=Tryz.stringslite_Index_one ⟨(a ++ c :: b).toArray⟩ c w;have e:Lib.indexByte (ByteArray.mk (a ++ c :: b).toArray).data.toList c=(a.length:Int):=indexByte_yes a b c h;rw [e] at hi;have HI:=ZZ hi;obtain⟨p,hp⟩:∃p,p=a.length:=⟨_,rfl⟩;rw [←hp] at HI;obtain⟨s,hse⟩:∃s:ByteArray,s=⟨(a ++ c :: b).toArray⟩:=⟨_,rfl⟩;have hsz:s.size=p+1+b.length:=by rw [hse,hp];show (a ++ c :: b).length=_;simp;omega
 have x1:s.extract 0 p=⟨a.toArray⟩:=by
  rw [hse,hp];apply ByteArray.ext;simp
 have x2:s.extract (p+1) s.size=⟨b.toArray⟩:=by
  rw [hsz,hse,hp];apply ByteArray.ext
  simp
 have hbd:p+1+b.length≤9223372036854775807:=by simp at hs;omega
 rw [←hse] at HI ⊢;clear hi e h hse hs hp;have u1:IntKind.i64.wrap ((p:Int)+1)=(p:Int)+1:=IntWalk.i64_in _ (by omega);have q1:(0:Int)≤(p:Int):=by omega
 have q2:(p:Int)≤(s.size:Int):=by omega
 have q3:(0:Int)≤(p:Int)+1:=by omega
 have q4:(p:Int)+1≤(s.size:Int):=by omega
 have q5:((p:Int)+1).toNat=p+1:=by omega
 have X2:=ZZ x2;have HSZ:=ZZ hsz;clear hsz hbd x2;have x2:=X2.out
 go_enter Tryz.func104,Tryz.ntmps104
 go_wp2_with fail;refine HI.out.mono ?_
 rintro e w1 ⟨rfl,rfl⟩;go_wp2_with fail
 go_quiet (fail)
 go_wp2_with fail;refine bodyPost_ret (v:=.tuple #[.string ⟨a.toArray⟩,.string ⟨b.toArray⟩,.bool true]) (by simp [results,Tryz.f104]) rfl ?_
 exact⟨rfl,av _ _⟩
theorem cut_no_c (l:List UInt8) (c:UInt8) (h:c ∉ l) (w:World):Calls Tryz.prog 64 #[.string ⟨l.toArray⟩,.string ⟨#[c]⟩] w fun e w'=>e=.returned (.tuple #[.string ⟨l.toArray⟩,.string ⟨#[]⟩,.bool false])∧Ext w w':=by
 have H:=ZZ (cut_no_in l c h w);clear h
 go_enter Tryz.func64,Tryz.ntmps64
 go_wp2_with fail;refine H.out.mono ?_
 rintro e w1 ⟨rfl,h⟩;have HX:=ZZ h;clear h;go_wp2_with fail;refine bodyPost_ret (v:=.tuple #[.string ⟨l.toArray⟩,.string ⟨#[]⟩,.bool false]) (by simp [results,Tryz.f64]) rfl ?_;exact⟨rfl,HX.out⟩
theorem cut_yes_c (a b:List UInt8) (c:UInt8) (h:c ∉ a) (hs:(a ++ c :: b).length≤9223372036854775807) (w:World):Calls Tryz.prog 64 #[.string ⟨(a ++ c :: b).toArray⟩,.string ⟨#[c]⟩] w fun e w'=>e=.returned (.tuple #[.string ⟨a.toArray⟩,.string ⟨b.toArray⟩,.bool true])∧Ext w w':=by
 have H:=ZZ (cut_yes_in a b c h hs w);clear h hs;generalize (⟨(a ++ c :: b).toArray⟩:ByteArray)=s at *
 go_enter Tryz.func64,Tryz.ntmps64
 go_wp2_with fail;refine H.out.mono ?_
 rintro e w1 ⟨rfl,h⟩;have HX:=ZZ h;clear h;go_wp2_with fail;refine bodyPost_ret (v:=.tuple #[.string ⟨a.toArray⟩,.string ⟨b.toArray⟩,.bool true]) (by simp [results,Tryz.f64]) rfl ?_;exact⟨rfl,HX.out⟩
theorem split_at (l:List UInt8) (c:UInt8):c ∉ l∨∃a b,l=a ++ c :: b∧c ∉ a:=by
 induction l with
 | nil=>exact .inl (by simp)
 | cons d l ih=>
  by_cases h:d=c
  ·exact .inr ⟨[],l,by rw [h];rfl,by simp⟩
  ·rcases ih with ih|⟨a,b,e,h1⟩
   ·exact .inl (by simp [ih,Ne.symm h])
   ·exact .inr ⟨d :: a,b,by rw [e];rfl,by simp [h1,Ne.symm h]⟩
def cutB (c:UInt8):List UInt8→List UInt8 × List UInt8 × Bool
 | []=>([],[],false)
 | d :: l=>if d=c then ([],l,true) else (d :: (cutB c l).1,(cutB c l).2.1,(cutB c l).2.2)
theorem cutB_no (l:List UInt8) (c:UInt8) (h:c ∉ l):cutB c l=(l,[],false):=by
 induction l with
 | nil=>rfl
 | cons d l ih=>
  have h1:¬ d=c:=fun e=>h (e ▸ List.mem_cons_self ..);rw [cutB,if_neg h1,ih (fun e=>h (List.mem_cons_of_mem _ e))]
theorem cutB_yes (a b:List UInt8) (c:UInt8) (h:c ∉ a):cutB c (a ++ c :: b)=(a,b,true):=by
 induction a with
 | nil=>simp [cutB]
 | cons d l ih=>
  have h1:¬ d=c:=fun e=>h (e ▸ List.mem_cons_self ..);rw [List.cons_append,cutB,if_neg h1,ih (fun e=>h (List.mem_cons_of_mem _ e))]
theorem cut_str (l:List UInt8) (c:UInt8) (hs:l.length≤9223372036854775807) (w:World):Calls Tryz.prog 64 #[.string ⟨l.toArray⟩,.string ⟨#[c]⟩] w fun e w'=>e=.returned (.tuple #[.string ⟨(cutB c l).1.toArray⟩,.string ⟨(cutB c l).2.1.toArray⟩,.bool (cutB c l).2.2])∧Ext w w':=by
 rcases split_at l c with h|⟨a,b,rfl,h⟩
 ·rw [cutB_no l c h];exact cut_no_c l c h w
 ·rw [cutB_yes a b c h];exact cut_yes_c a b c h hs w
end Go.Proofs.YtaaoleakkaloeaaGreatDoor
set_option linter.unusedVariables false
set_option maxRecDepth 100000
set_option maxHeartbeats 64000000
namespace Go.Proofs.YtaaoleakkaloeaaGreatDoor
open Go.RowKit
theorem top_q (v:Value) (l:List Rat) (hl:l.length≤1000000) (n:Nat) (q:Rat) (hn:l.length=n+1) (hq:l[n]?=some q) (w:World) (h:Pl w v l):Calls Tryz.prog 83 #[v] w fun e w'=>∃v',e=.returned v'∧Nm w' v' q∧Ext w w':=by
 obtain⟨A,cap,rfl,hc,hA⟩:=h
 rcases hA with ⟨-,h5⟩|⟨b,o,rfl,ht⟩
 ·rw [h5] at hn;simp at hn
 rw [hn];obtain⟨s,A1,k1,ca1,B1,l1,cb1,d0,d1,d2,hx⟩:=ht n q hq;have HX:=ZZ hx;have e1:=ac w (.cells #[.bool false,.slice none 0 0,.slice none 0 0] 36);have c0:=ao e1 d0;have c1:=ao e1 d1;have c2:=ao e1 d2
 have q3:IntKind.i64.wrap ((n:Int)+1 - 1)=(n:Int):=by
  rw [show (n:Int)+1 - 1=n by omega];exact IntWalk.i64_in _ (by omega)
 have q3':IntKind.i64.wrap (n:Int)=(n:Int):=IntWalk.i64_in _ (by omega);have q4:(n:Int)<(n:Int)+1:=by omega
 have q5:(0:Int)≤(n:Int):=by omega
 clear hl hn hq hc ht hx d0 d1 d2 e1
 go_enter Tryz.func83,Tryz.ntmps83
 go_wp2_with fail;refine bodyPost_ret (v:=.agg #[.bool s,.slice A1 k1 ca1,.slice B1 l1 cb1]) (by simp [results,Tryz.f83];go_simp) rfl ?_
 exact⟨_,rfl,HX.out.mono (ac _ _),ac _ _⟩
theorem over_q (M:Nat) (hM:M≤1099511627776) (vx vy:Value) (x y:Rat) (w:World) (hx:Nm w vx x) (hy:Nm w vy y) (bx:Bq M x) (by_:Bq M y) (h0:y≠0):Calls Tryz.prog 84 #[vx,vy] w fun e w'=>∃v,e=.returned v∧Nm w' v (x / y)∧Ext w w':=by
 obtain⟨s1,A1,k1,ca1,B1,l1,cb1,rfl⟩:=hx.form2;obtain⟨s2,A2,k2,ca2,B2,l2,cb2,rfl⟩:=hy.form2;have HX:=ZZ hx;have HY:=ZZ hy;have BX:=ZZ bx;have BY:=ZZ by_;have H0:=ZZ h0;have HM:=ZZ hM;have e1:=ac w (.cells #[.bool s1,.slice A1 k1 ca1,.slice B1 l1 cb1] 36);have e2:=ac (w.alloc (.cells #[.bool s1,.slice A1 k1 ca1,.slice B1 l1 cb1] 36)) (.cells #[.bool s2,.slice A2 k2 ca2,.slice B2 l2 cb2] 36);have e3:=ac ((w.alloc (.cells #[.bool s1,.slice A1 k1 ca1,.slice B1 l1 cb1] 36)).alloc (.cells #[.bool s2,.slice A2 k2 ca2,.slice B2 l2 cb2] 36)) (.cells #[.bool false,.slice none 0 0,.slice none 0 0] 36);have hz:=heap_alloc_new ((w.alloc (.cells #[.bool s1,.slice A1 k1 ca1,.slice B1 l1 cb1] 36)).alloc (.cells #[.bool s2,.slice A2 k2 ca2,.slice B2 l2 cb2] 36)) (.cells #[.bool false,.slice none 0 0,.slice none 0 0] 36);have hz:=show (((w.alloc (.cells #[.bool s1,.slice A1 k1 ca1,.slice B1 l1 cb1] 36)).alloc (.cells #[.bool s2,.slice A2 k2 ca2,.slice B2 l2 cb2] 36)).alloc (.cells #[.bool false,.slice none 0 0,.slice none 0 0] 36)).heap[w.heap.size+1+1]?=some (.cells #[.bool false,.slice none 0 0,.slice none 0 0] 36 (0,0)) by simpa using hz
 have HZ:=ZZ hz;have EW:=ZZ (al e1 (al e2 e3));have LE:=ZZ (show w.heap.size≤w.heap.size+1+1 from by omega);clear hx hy bx by_ h0 hM e1 e2 e3 hz
 go_enter Tryz.func84,Tryz.ntmps84
 go_wp2_with fail;refine(div_q M HM.out _ _ x y _ (HX.out.mono EW.out) (HY.out.mono EW.out) BX.out BY.out H0.out).mono ?_
 rintro e w4 ⟨v4,rfl,h4,k4⟩;obtain⟨s4,A4,k4',ca4,B4,l4,cb4,rfl⟩:=h4.form2;have E4:=ZZ (al k4 (ac w4 (.cells #[.bool s4,.slice A4 k4' ca4,.slice B4 l4 cb4] 36)));have H4:=ZZ (h4.mono (ac w4 (.cells #[.bool s4,.slice A4 k4' ca4,.slice B4 l4 cb4] 36)));have hz4:=(E4.out.block _ (lt_of_block HZ.out)).trans HZ.out;have HZ4:=ZZ hz4;obtain⟨z0,z1,z2,zf0,zf1,zf2⟩:=aj hz4;clear h4 k4 hz4;go_wp2_with fail;refine bodyPost_ret (v:=.agg #[.bool s4,.slice A4 k4' ca4,.slice B4 l4 cb4]) (by simp [results,Tryz.f84];go_simp) rfl ?_;exact⟨_,rfl,H4.out.put3 HZ4.out,am (al EW.out E4.out) LE.out _ _ _⟩
end Go.Proofs.YtaaoleakkaloeaaGreatDoor
set_option linter.unusedVariables false
set_option maxRecDepth 100000
set_option maxHeartbeats 64000000
namespace Go.Proofs.YtaaoleakkaloeaaGreatDoor
open Go.RowKit
theorem Wd.iterAt {W:World} {v:Value} {n g:Nat} {s:ByteArray} {pos:Nat} (h:Wd W v n) (hg:W.heap[g]?=some (.stringIter s pos)) (p:Nat):Wd (W.iterAt g s p) v n:=by
 obtain⟨A,c,e,hc,hcl⟩:=h;refine⟨A,c,e,hc,?_⟩
 rcases Nat.eq_zero_or_pos (dg n).length with h0|h0
 ·left;rw [List.length_eq_zero_iff.1 h0];rfl
 ·obtain⟨bl,o,hA,hce⟩:=hcl.at_ (by simpa using h0)
  right
  refine⟨bl,o,hA,fun j hj=>?_⟩;have hj':j<(dg n).length:=by simpa using hj
  have h1:=hce j hj
  have hne:bl≠g:=by
   intro hb;subst hb;rw [getD_map_u64 _ _ hj'] at h1
   simp [World.cell?,hg] at h1
  rw [←h1]
  apply World.cell?_of_block
  exact Lib.iterAt_other _ _ _ _ _ hne
theorem natOf_take_succ (l:List UInt8) (p:Nat) (h:p<l.length):natOf (l.take (p+1))=10*natOf (l.take p)+((l[p]'h).toNat - 48):=by
 rw [List.take_succ_eq_append_getElem h,natOf_snoc]
theorem dig_bits (l:List UInt8) (h:∀c ∈ l,isDig c=true):natOf l<2 ^ (4*l.length+1):=
 Nat.lt_trans (natOf_lt l h) (ten_lt _)
theorem word_c' (k:Nat) (z:Int) (hz:z=(k:Int)) (hk:k<B64) (w:World):Calls Tryz.prog 59 #[.int .u64 z] w fun e w'=>∃v,e=.returned v∧Wd w' v k∧Ext w w':=by
 subst hz;exact word_c k hk w
def U64ok (p f:Nat):Prop:=p<f∧∃r,r<18∧f=10 ^ r
theorem U64ok.le {p f:Nat} (h:U64ok p f):f≤100000000000000000:=by
 obtain⟨-,r,hr,rfl⟩:=h;exact(Nat.pow_le_pow_right (by decide) (show r≤17 by omega):10 ^ r≤10 ^ 17)
theorem U64ok.next {p f d:Nat} (h:U64ok p f) (hd:d<10):10*f=1000000000000000000∨U64ok (10*p+d) (10*f):=by
 obtain⟨h1,r,hr,rfl⟩:=h
 rcases(show r=17∨r+1<18 by omega) with e|e
 ·left;subst e;rfl
 ·exact .inr ⟨by omega,r+1,e,by rw [Nat.pow_succ,Nat.mul_comm]⟩
theorem taken_c (l:List UInt8) (hl:∀c ∈ l,isDig c=true) (hs:l.length≤1073741824) (w:World):Calls Tryz.prog 66 #[.string ⟨l.toArray⟩] w fun e w'=>∃v,e=.returned v∧Wd w' v (natOf l)∧Ext w w':=by
 have HL:=ZZ hl;have HSZ:=ZZ hs
 have hbd:=ZZ (show ∀p N,N≤natOf (l.take p)→Sm N from fun p N hN=>by
  have h1:=dig_bits (l.take p) (fun c hc=>hl c (List.mem_of_mem_take hc));have h2:(l.take p).length≤1073741824:=by rw [List.length_take];omega
  exact sm_lt hN (sm_of_lt h1 (by omega)))
 clear hl hs;have hz0:(ByteArray.mk l.toArray).size=l.length:=rfl;have HSI:=ZZ hz0;clear hz0
 go_enter Tryz.func66,Tryz.ntmps66
 go_wp2_with fail
 go_loopg [3,4,5] l.length (fun k o p f wr=>∃(pos N p' f':Nat),pos+k=l.length∧p=.int .u64 (p':Int)∧f=.int .u64 (f':Int)∧Wd wr o N∧N*f'+p'=natOf (l.take pos)∧U64ok p' f'∧wr.heap[w.heap.size]?=some (.stringIter ⟨l.toArray⟩ pos)∧Ext w wr)
 case atStart=>exact⟨0,0,0,1,by omega,rfl,rfl,Wd.zero _,rfl,⟨by omega,0,by omega,rfl⟩,World.iter_heap w _ 0,(Below.refl _ _).alloc (Nat.le_refl _) _⟩
 case round=>
  obtain⟨pos,N,p',f',hpos,rfl,rfl,hN,hv,hok,hit,hext⟩:=hrel;obtain⟨P1,p1,c1,rfl⟩:=hN.form';have HN:=ZZ hN;have HV:=ZZ hv;have HOK:=ZZ hok;have HIT:=ZZ hit;have HEX:=ZZ hext;have HPOS:=ZZ hpos;have hfle:=hok.le;have hplt:=hok.1;clear hN hv hok hit hext
  rcases Nat.eq_zero_or_pos gk with hz|hz
  ·subst hz
   obtain rfl:pos=l.length:=by omega
   have hnx:∀ty,(Instr.next (.pointer (some ⟨w.heap.size,0,none⟩)) true ty).run Tryz.prog wr=_:=fun ty=>Lib.run_next_end_at wr w.heap.size ⟨l.toArray⟩ l.length ty HIT.out (by rw [HSI.out];omega);have Fl:=ZZ (show f'<B64 by rw [B64_eq];omega);have Pl:=ZZ (show p'<B64 by rw [B64_eq];omega);have V:=HV.out;rw [List.take_length] at V
   have Sn:=ZZ (hbd.out l.length N (by
    rw [List.take_length,←V];have h1:N*1≤N*f':=Nat.mul_le_mul_left _ (by omega)
    omega))
   have Snf:=ZZ (hbd.out l.length (N*f') (by rw [List.take_length];omega));have VV:=ZZ V;clear V hpos hfle hplt;go_wp2_with fail;refine(word_c f' Fl.out _).mono ?_;rintro e w1 ⟨v1,rfl,h1,k1⟩;have G1:=ZZ h1;have K1:=ZZ k1;clear h1 k1 hnx;go_wp2_with fail;refine(mul_c _ _ _ _ _ (HN.out.mono K1.out) G1.out Sn.out (sm_small _ (Nat.lt_of_lt_of_le Fl.out (by rw [B64_eq];decide)))).mono ?_;rintro e w2 ⟨v2,rfl,h2,k2⟩;have G2:=ZZ h2;have K2:=ZZ k2;clear h2 k2;go_wp2_with fail;refine(word_c p' Pl.out _).mono ?_;rintro e w3 ⟨v3,rfl,h3,k3⟩;have G3:=ZZ h3;have K3:=ZZ k3;clear h3 k3;go_wp2_with fail;refine(add_c _ _ _ _ _ (G2.out.mono K3.out) G3.out Snf.out (sm_small _ (Nat.lt_of_lt_of_le Pl.out (by rw [B64_eq];decide)))).mono ?_;rintro e w4 ⟨v4,rfl,h4,k4⟩;have G4:=ZZ h4;have K4:=ZZ k4;clear h4 k4;go_wp2_with fail;go_ret;refine⟨_,rfl,?_,al HEX.out (al K1.out (al K2.out (al K3.out K4.out)))⟩;rw [←VV.out];exact G4.out
  ·have hp:pos<(ByteArray.mk l.toArray).size:=by rw [HSI.out];omega
   have hpl:pos<l.length:=by omega
   have hdg:=(isDig_iff _).1 (HL.out (l[pos]'hpl) (List.getElem_mem hpl))
   have hnx:∀ty,(Instr.next (.pointer (some ⟨w.heap.size,0,none⟩)) true ty).run Tryz.prog wr=_:=fun ty=>Lib.run_next_ascii_at wr w.heap.size ⟨l.toArray⟩ pos ty HIT.out hp (by
    show (l[pos]'hpl).toNat<128
    omega)
   have hcv:((ByteArray.mk l.toArray)[pos]'hp).toNat=(l[pos]'hpl).toNat:=rfl;rw [hcv] at hnx;have hst:=natOf_take_succ l pos hpl;obtain⟨d,hd⟩:∃d,d=(l[pos]'hpl).toNat - 48:=⟨_,rfl⟩;obtain⟨c,hc⟩:∃c,c=(l[pos]'hpl).toNat:=⟨_,rfl⟩;rw [←hd] at hst;rw [←hc] at hnx hdg;rw [←hc] at hd;have hd10:d<10:=by omega
   have HST:=ZZ hst;have HNEXT:=ZZ (HOK.out.next hd10);have hit2:=Lib.iterAt_heap wr w.heap.size ⟨l.toArray⟩ pos (pos+1) HIT.out;have hex2:=Lib.below_iterAt HEX.out (k:=w.heap.size) (Nat.le_refl _) ⟨l.toArray⟩ (pos+1);have hN2:=HN.out.iterAt HIT.out (pos+1);obtain⟨W1,hW1⟩:∃W1,W1=wr.iterAt w.heap.size ⟨l.toArray⟩ (pos+1):=⟨_,rfl⟩;rw [←hW1] at hnx hit2 hex2 hN2;have HIT2:=ZZ hit2;have HEX2:=ZZ hex2;have HN2:=ZZ hN2;have u1:IntKind.i32.wrap ((c:Int) - 48)=(d:Int):=(IntWalk.i32_in _ (by omega)).trans (by omega);have u2:IntKind.u64.wrap (d:Int)=(d:Int):=IntWalk.u64_in _ (by omega);have u3:IntKind.u64.wrap (10*(p':Int))=10*(p':Int):=IntWalk.u64_in _ (by omega);have u4:IntKind.u64.wrap (10*(p':Int)+(d:Int))=10*(p':Int)+(d:Int):=IntWalk.u64_in _ (by omega);have u5:IntKind.u64.wrap (10*(f':Int))=10*(f':Int):=IntWalk.u64_in _ (by omega);have hlt2:=ZZ (show 10*p'+d<1000000000000000000 by omega);have U1:=ZZ u1;have U2:=ZZ u2;have U3:=ZZ u3;have U4:=ZZ u4;have U5:=ZZ u5;have HZ0:=ZZ hz;clear hW1 hst hit2 hex2 hN2 hpos u1 u2 u3 u4 u5 hd hc hcv hfle hplt hdg hz hp hpl hd10;have u1:=U1.out;have u2:=U2.out;have u3:=U3.out;have u4:=U4.out;have u5:=U5.out
   rcases Decidable.em (10*f'=1000000000000000000) with hf|hf
   ·have t1:(10*(f':Int) == 1000000000000000000)=true:=by rw [beq_iff_eq];omega
    have Fl:=ZZ (show 10*f'<B64 by rw [B64_eq];omega);have Pl:=ZZ (show 10*p'+d<B64 by rw [B64_eq];have:=hlt2.out;omega)
    have hval:N*(10*f')+(10*p'+d)=natOf (l.take (pos+1)):=by
     rw [HST.out,←HV.out]
     have:N*(10*f')=10*(N*f'):=by rw [Nat.mul_left_comm]
     omega
    have Sn:=ZZ (hbd.out (pos+1) N (by
     rw [←hval];have h1:N*1≤N*(10*f'):=Nat.mul_le_mul_left _ (by omega)
     omega))
    have Snf:=ZZ (hbd.out (pos+1) (N*(10*f')) (by rw [←hval];omega));have HVAL:=ZZ hval;have HF:=ZZ hf;clear hval hf;go_wp2_with fail;refine(word_c' (10*f') _ (by push_cast;rfl) Fl.out _).mono ?_;rintro e w1 ⟨v1,rfl,h1,k1⟩;have G1:=ZZ h1;have K1:=ZZ k1;clear h1 k1 hnx;go_wp2_with fail;refine(mul_c _ _ _ _ _ (HN2.out.mono K1.out) G1.out Sn.out (sm_small _ (Nat.lt_of_lt_of_le Fl.out (by rw [B64_eq];decide)))).mono ?_;rintro e w2 ⟨v2,rfl,h2,k2⟩;have G2:=ZZ h2;have K2:=ZZ k2;clear h2 k2;go_wp2_with fail;refine(word_c' (10*p'+d) _ (by push_cast;rfl) Pl.out _).mono ?_;rintro e w3 ⟨v3,rfl,h3,k3⟩;have G3:=ZZ h3;have K3:=ZZ k3;clear h3 k3;go_wp2_with fail;refine(add_c _ _ _ _ _ (G2.out.mono K3.out) G3.out Snf.out (sm_small _ (Nat.lt_of_lt_of_le Pl.out (by rw [B64_eq];decide)))).mono ?_;rintro e w4 ⟨v4,rfl,h4,k4⟩;have G4:=ZZ h4;have K4:=ZZ (al K1.out (al K2.out (al K3.out k4)));clear h4 k4;go_wp2_with fail
    go_roundg (gk - 1)
    case measure=>have:=HZ0.out;omega
    case rel=>exact⟨pos+1,_,0,1,by have:=HPOS.out;have:=HZ0.out;omega,rfl,rfl,G4.out,by rw [←HVAL.out];omega,⟨by omega,0,by omega,rfl⟩,(K4.out.block _ (lt_of_block HIT2.out)).trans HIT2.out,al HEX2.out K4.out⟩
   ·have t1:(10*(f':Int) == 1000000000000000000)=false:=by rw [beq_eq_false_iff_ne];omega
    have HF:=ZZ hf;clear hf;go_wp2_with fail
    go_roundg (gk - 1)
    case measure=>have:=HZ0.out;omega
    case rel=>exact⟨pos+1,N,10*p'+d,10*f',by have:=HPOS.out;have:=HZ0.out;omega,by push_cast;rfl,by push_cast;rfl,HN2.out,by
     rw [HST.out,←HV.out]
     have:N*(10*f')=10*(N*f'):=by rw [Nat.mul_left_comm]
     omega,by
     rcases HNEXT.out with h|h
     ·exact absurd h HF.out
     ·exact h,HIT2.out,HEX2.out⟩
end Go.Proofs.YtaaoleakkaloeaaGreatDoor
set_option linter.unusedVariables false
set_option maxRecDepth 100000
set_option maxHeartbeats 64000000
namespace Go.Proofs.YtaaoleakkaloeaaGreatDoor
open Go.RowKit
theorem pow_split (e:Nat) (h:e<30):∃F G:Nat,F=2 ^ e∧0<F∧0<G∧F*G=B30∧F≤536870912∧G=1073741824 / F:=by
 refine⟨2 ^ e,2 ^ (30 - e),rfl,Nat.pow_pos (by omega),Nat.pow_pos (by omega),?_,?_,?_⟩
 ·rw [←Nat.pow_add,show e+(30 - e)=30 by omega];rfl
 ·have:2 ^ e≤2 ^ 29:=Nat.pow_le_pow_right (by omega) (by omega)
  omega
 ·have h2:2 ^ e*2 ^ (30 - e)=1073741824:=by rw [←Nat.pow_add,show e+(30 - e)=30 by omega]
  rw [←h2,Nat.mul_div_cancel_left _ (Nat.pow_pos (by omega))]
theorem right_digit {F G B x y:Nat} (hF:0<F) (hG:0<G) (hB:F*G=B) (hx:x<B):x / F+y % F*G<B:=by
 have h1:x / F<G:=Nat.div_lt_of_lt_mul (by rw [hB];exact hx);have h2:y % F<F:=Nat.mod_lt _ hF;have h3:(y % F+1)*G≤F*G:=Nat.mul_le_mul_right _ h2;rw [Nat.add_mul,Nat.one_mul] at h3;omega
theorem right_step {F G B P R V x0 x y:Nat} (hB:F*G=B) (h:F*R+x0=V+P*(x % F)):F*(R+P*(x / F+y % F*G))+x0=V+P*x+P*B*(y % F):=by
 have h1:=Nat.div_add_mod x F;have h2:F*(P*(x / F+y % F*G))=P*(F*(x / F))+P*B*(y % F):=by rw [←hB];grind
 have h3:P*x=P*(F*(x / F))+P*(x % F):=by rw [←Nat.mul_add,h1]
 rw [Nat.mul_add,h2,h3];omega
theorem right_end {F R V x0:Nat} (hF:0<F) (h:F*R+x0=V) (hx:x0<F):R=V / F:=by
 rw [←h,Nat.mul_add_div hF,Nat.div_eq_of_lt hx,Nat.add_zero]
theorem right_r (va:Value) (n k:Nat) (hk:k≤35184372088832) (w:World) (ha:Wr w va n) (sa:Sr n):Calls Tryz.prog 111 #[va,.int .i64 k] w fun e w'=>∃v,e=.returned v∧Wr w' v (n / 2 ^ k)∧Ext w w':=by
 obtain⟨A,ca,rfl,hca,hA⟩:=ha;unfold Sr at sa;have en:=num_dr n;have nl:=dr_lt n;have hnn:=dr_norm n;generalize dr n=l at *;obtain⟨s,e,hse,he⟩:∃s e:Nat,k=30*s+e∧e<30:=⟨k / 30,k % 30,by omega,by omega⟩;have hq:(k:Int) / 30=(s:Int):=by omega
 have hr:(k:Int) % 30=(e:Int):=by omega
 have hwq:IntKind.i64.wrap (s:Int)=(s:Int):=IntWalk.i64_in _ (by omega);have hsb:s≤35184372088832:=by omega
 have HSE:=ZZ hse;have En:=ZZ en;have Nl:=ZZ nl;clear en nl hse
 by_cases hsl:l.length≤s
 ·have hc1:decide ((l.length:Int)≤(s:Int))=true:=by simp;omega
  have HZ:=ZZ (show n / 2 ^ k=0 by
   apply Nat.div_eq_of_lt
   have h1:=num_lt B30 l Nl.out;rw [En.out] at h1;have h2:B30 ^ l.length≤2 ^ k:=by rw [B30_pow,HSE.out];exact Nat.pow_le_pow_right (by omega) (by omega)
   omega)
  go_enter Tryz.func111,Tryz.ntmps111
  go_wp2_with fail;go_ret
  exact⟨_,rfl,by rw [HZ.out];exact Wr.zero _,af _⟩
 ·have hc1:decide ((l.length:Int)≤(s:Int))=false:=by simp;omega
  obtain⟨b,o,rfl,hc⟩:=hA.i (by omega);obtain⟨F,G,hF,hF0,hG0,hFG,hFb,hG⟩:=pow_split e he;obtain⟨m,hm⟩:∃m,l.length=s+m:=⟨l.length - s,by omega⟩;obtain⟨y,hy⟩:∃y,y=l.drop s:=⟨_,rfl⟩;have hyl:y.length=m:=by rw [hy,List.length_drop,hm];omega
  have hyb:∀d ∈ y,d<B30:=fun d hd=>Nl.out d (by rw [hy] at hd;exact List.mem_of_mem_drop hd)
  have hcy:∀j,j<m→w.cell? ⟨b,o+s+j,none⟩=some (.int .i64 ((y.getD j 0:Nat):Int)):=fun j hj=>by
   have h1:=hc (s+j) (by omega);rw [show o+(s+j)=o+s+j by omega] at h1;rw [h1,hy]
   simp [List.getD_eq_getElem?_getD]
  have HNY:=ZZ (show n / 2 ^ k=num B30 y / F by
   have h1:=num_drop B30 l s (by omega);rw [En.out,←hy] at h1;have h2:=num_lt B30 (l.take s) (fun d hd=>Nl.out d (List.mem_of_mem_take hd));rw [List.length_take,Nat.min_eq_left (by omega)] at h2;rw [HSE.out,Nat.pow_add,←B30_pow,←Nat.div_div_eq_div_mul,←hF]
   congr 1
   rw [h1,Nat.add_comm,Nat.mul_add_div (Nat.pow_pos (by rw [B30_eq];omega)),Nat.div_eq_of_lt h2,Nat.add_zero])
  have HY:=ZZ hyl;have HYB:=ZZ hyb;have HC:=ZZ hcy;have HF:=ZZ hF;have HFG:=ZZ hFG;have hmk:=mk_digits m (m:Int) rfl (by omega);have hF':((2:Int) ^ e)=(F:Int):=by rw [hF];push_cast;rfl
  have hsh:IntKind.i64.wrap ((2:Int) ^ e)=(F:Int):=by rw [hF'];exact IntWalk.i64_in _ (by omega)
  have hmp:0<m:=by omega
  have hsc0:s+m≤ca:=by omega
  have hc2:decide ((s:Int)+(m:Int)≤(s:Int))=false:=by simp;omega
  have hc3:decide (s+m≤s)=false:=by simp;omega
  rw [hm];clear hc1 hsl;have hu:IntKind.u64.wrap (e:Int)=(e:Int):=IntWalk.u64_in _ (by omega);have hs0:(0:Int)≤(s:Int):=by omega
  have hsl':(s:Int)≤((s+m:Nat):Int):=by omega
  have hsc:((s+m:Nat):Int)≤(ca:Int):=by omega
  have hsum:s+m - s=m:=by omega
  clear hcy hyb hyl hy hc hA hF hFG hnn hF'
  go_enter Tryz.func111,Tryz.ntmps111
  go_wp2_with fail;clear hmk hc2 hc3
  go_loopw [7] (fun i wr=>∃(t:Nat) (r:List Nat),t≤m∧i=.int .i64 t∧r.length=m∧(∀d ∈ r,d<B30)∧BkI wr w.heap.size r∧Below w.heap.size w wr∧F*num B30 (r.take t)+y.getD 0 0 % F=num B30 (y.take t)+B30 ^ t*(y.getD t 0 % F)) (fun i _=>m - (intOf i).toNat)
  case atStart=>exact⟨0,zs m,Nat.zero_le _,rfl,zs_length _,zs_lt (by rw [B30_eq];omega) _,BkI.new _ _,ac _ _,by simp⟩
  case round=>
   obtain⟨t,r,ht,rfl,hr,hrl,hbk,hbel,hnum⟩:=hrel;have Hr:Hid (r.length=m):=hr;have Hrl:=ZZ hrl;have Hbk:Hid (BkI wr w.heap.size r):=hbk;have Hnum:=ZZ hnum;clear hr hrl hnum hbk
   by_cases hlt:t<m
   ·have ea:=ao hbel (HC.out t hlt)
    have hci:=Hbk.out.cell t (by rw [Hr.out];omega);have hfi:=Hbk.out.frozen t;have hxb:=getD_lt HYB.out (by rw [B30_eq];omega) t;have HX:=ZZ hxb;have HTT:=ZZ (num_take_le B30 y t);rw [B30_eq] at hxb;obtain⟨x,hx⟩:∃x,x=y.getD t 0:=⟨_,rfl⟩;rw [←hx] at ea hxb;have HXX:=ZZ hx;obtain⟨q,hq⟩:∃q,q=x / F:=⟨_,rfl⟩;have hqi:(x:Int) / (F:Int)=(q:Int):=by rw [hq];exact(Int.natCast_ediv x F).symm
    have hqb:q≤1073741824:=by rw [hq];have:=Nat.div_le_self x F;omega
    have hwq1:IntKind.i64.wrap (q:Int)=(q:Int):=IntWalk.i64_in _ (by omega);have HQ:=ZZ hq;have hF0':((F:Int) == 0)=false:=by rw [beq_eq_false_iff_ne];omega
    clear hx hq
    by_cases hl1:t+1<m
    ·obtain⟨z,hz⟩:∃z,z=y.getD (t+1) 0:=⟨_,rfl⟩
     have hzb:=getD_lt HYB.out (by rw [B30_eq];omega) (t+1);rw [←hz,B30_eq] at hzb;have HZ:=ZZ hz;obtain⟨z1,hz1⟩:∃z1,z1=z % F:=⟨_,rfl⟩;have hzi:(z:Int) % (F:Int)=(z1:Int):=by rw [hz1];exact(Int.natCast_emod z F).symm
     have hz1F:z1<F:=by rw [hz1];exact Nat.mod_lt _ hF0
     have hGi:(1073741824:Int) / (F:Int)=(G:Int):=by rw [hG];exact(Int.natCast_ediv 1073741824 F).symm
     have HVB:=right_digit (x:=x) (y:=z) hF0 hG0 HFG.out (by rw [B30_eq];exact hxb);rw [←HQ.out,←hz1,B30_eq] at HVB;have hGb:G≤1073741824:=by rw [hG];exact Nat.div_le_self _ _
     obtain⟨p,hp⟩:∃p,p=z1*G:=⟨_,rfl⟩;rw [←hp] at HVB;obtain⟨v,hv⟩:∃v,v=q+p:=⟨_,rfl⟩
     have hw5:IntKind.i64.wrap ((z1:Int)*(G:Int))=(p:Int):=by
      rw [show (z1:Int)*(G:Int)=(p:Int) by rw [hp];push_cast;rfl];exact IntWalk.i64_in _ (by omega)
     have hw6:IntKind.i64.wrap ((q:Int)+(p:Int))=(v:Int):=(IntWalk.i64_in _ (by omega)).trans (by omega);have hw7:IntKind.i64.wrap (G:Int)=(G:Int):=IntWalk.i64_in _ (by omega);have hw8:IntKind.i64.wrap ((t:Int)+1)=((t+1:Nat):Int):=(IntWalk.i64_in _ (by omega)).trans (by omega);have hvb:v<1073741824:=by omega
     have HV:=ZZ (show v=x / F+z % F*G by rw [hv,hp,hz1,HQ.out]);have HVb:=ZZ (show v<B30 by rw [B30_eq];exact hvb);have hc5:decide (((t+1:Nat):Int)<(m:Int))=true:=by simp;omega
     have hc6:decide (t+1<m)=true:=by simp;omega
     clear hv hp hz1 hz HVB hG
     go_upto_region 11 with (fail)
     have Hb2:=ZZ (Hbk.out.set_ t q);have HE2:=ZZ (show Below w.heap.size w (wr.setCell ⟨w.heap.size,t,none⟩ (.int .i64 (q:Int))) from hbel.setCell (Nat.le_refl _) _);generalize wr.setCell ⟨w.heap.size,t,none⟩ (.int .i64 (q:Int))=wx at *;have eb:=ao HE2.out (HC.out (t+1) hl1);rw [←HZ.out] at eb;have hci2:=Hb2.out.cell t (by rw [List.length_set,Hr.out];omega);rw [show (r.set t q).getD t 0=q by simp [List.getD_eq_getElem?_getD,show t<r.length by rw [Hr.out];exact hlt]] at hci2;have hfi2:=Hb2.out.frozen t;have Hb3:=ZZ (fun d:Nat=>(Hb2.out.drewN d).set_ t v);clear hci hfi ea hbel
     go_big_region
     all_goals
      go_wp2_with fail
      go_roundw
      case rel=>
       refine⟨t+1,(r.set t q).set t v,by omega,by first|rfl|go_num,by rw [List.length_set,List.length_set,Hr.out],by rw [List.set_set];exact set_lt Hrl.out HVb.out t,?_,?_,?_⟩
       ·first|exact Hb3.out 1|exact Hb2.out.set_ t v
       ·exact(al HE2.out (ae _)).setCell (Nat.le_refl _) _
       ·have h1:=Hnum.out
        rw [←HXX.out] at h1;have h2:=right_step (y:=z) HFG.out h1;rw [List.set_set,num_set_take _ _ _ _ (by rw [Hr.out];omega),HTT.out,←HXX.out,Nat.pow_succ,←HZ.out,HV.out];exact h2
      case measure=>simp [intOf];omega
    ·have hc5:decide (((t+1:Nat):Int)<(m:Int))=false:=by simp;omega
     have hc6:decide (t+1<m)=false:=by simp;omega
     have hw8:IntKind.i64.wrap ((t:Int)+1)=((t+1:Nat):Int):=(IntWalk.i64_in _ (by omega)).trans (by omega);have Hb2:=ZZ (Hbk.out.set_ t q);have HE2:=ZZ (show Below w.heap.size w (wr.setCell ⟨w.heap.size,t,none⟩ (.int .i64 (q:Int))) from hbel.setCell (Nat.le_refl _) _);have HQB:=ZZ (show q<B30 by rw [B30_eq,HQ.out];have:=Nat.div_le_self x F;omega)
     have HST:=ZZ (show F*num B30 ((r.set t q).take (t+1))+y.getD 0 0 % F=num B30 (y.take (t+1))+B30 ^ (t+1)*(y.getD (t+1) 0 % F) by
      have h1:=Hnum.out;rw [←HXX.out] at h1;have h2:=right_step (y:=0) HFG.out h1;rw [num_set_take _ _ _ _ (by rw [Hr.out];omega),HTT.out,←HXX.out,Nat.pow_succ,show y.getD (t+1) 0=0 by rw [List.getD_eq_getElem?_getD,List.getElem?_eq_none (by rw [HY.out];omega)];rfl]
      simp only [Nat.zero_mod,Nat.zero_mul,Nat.add_zero] at h2 ⊢
      rw [HQ.out];exact h2)
     go_wp2_with fail
     go_roundw
     case rel=>exact⟨t+1,r.set t q,by omega,by first|rfl|go_num,by rw [List.length_set,Hr.out],set_lt Hrl.out HQB.out t,Hb2.out,HE2.out,HST.out⟩
     case measure=>simp [intOf];omega
   ·have htm:t=m:=by omega
    subst htm;have HCL:=ZZ Hbk.out.cl;go_wp2_with fail;refine(rcut_c _ r _ _ HCL.out t Hr.out (by omega) (by omega)).mono ?_;rintro e w2 ⟨rfl,rfl⟩;go_wp2_with fail;go_ret;refine⟨_,rfl,?_,hbel⟩;have h1:=Hnum.out;rw [num_take_all B30 y (by rw [HY.out];omega),num_take_all B30 r (by rw [Hr.out];omega),show y.getD t 0=0 by rw [List.getD_eq_getElem?_getD,List.getElem?_eq_none (by rw [HY.out];omega)];rfl,Nat.zero_mod,Nat.mul_zero,Nat.add_zero] at h1;have h2:=rcut_w Hrl.out HCL.out (c:=t) (by rw [Hr.out];omega);rw [HNY.out,←right_end hF0 h1 (Nat.mod_lt _ hF0)];exact h2
end Go.Proofs.YtaaoleakkaloeaaGreatDoor
