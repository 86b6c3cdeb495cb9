/- Texts: engineering texts, read. -/
import Derived.Test.YtpgdefgdboijlaaGreatDoorTg
import Derived.Test.YtpgdefgdboijlaaGreatDoorNh
import Derived.Test.YtpgdefgdboijlaaGreatDoorT1
import Derived.Deep.DeepCutAuto
import Derived.Deep.MidRow
import Derived.Deep.LoopGhost
set_option linter.unusedVariables false
set_option maxRecDepth 100000
set_option maxHeartbeats 16000000
namespace Go.Proofs.YtpgdefgdboijlaaGreatDoor
open Go.RowKit
def pfxs:List (List UInt8 × Int):=[([102],-15),([112],-12),([110],-9),([117],-6),([109],-3),([],0),([107],3),([77],6),([71],9),([84],12)]
def Pfx (w:World):Prop:=∀i,i<20→w.cell? ⟨0,i,none⟩=((pfxs.map fun p=>[Value.string ⟨p.1.toArray⟩,.int .i64 p.2]).flatten)[i]?
theorem Pfx.mono {w w':World} (h:Pfx w) (k:Ext w w'):Pfx w':=fun i hi=>by
 have h1:=h i hi;rw [←h1]
 have hl:i<((pfxs.map fun p=>[Value.string ⟨p.1.toArray⟩,.int .i64 p.2]).flatten).length:=by
  have:((pfxs.map fun p=>[Value.string ⟨p.1.toArray⟩,.int .i64 p.2]).flatten).length=20:=rfl
  omega
 rw [List.getElem?_eq_getElem hl] at h1;exact(aq k h1).trans h1.symm
theorem Pfx.cells {w:World} (h:Pfx w):w.cell? ⟨0,0,none⟩=some (.string ⟨#[102]⟩)∧w.cell? ⟨0,1,none⟩=some (.int .i64 (-15))∧w.cell? ⟨0,2,none⟩=some (.string ⟨#[112]⟩)∧w.cell? ⟨0,3,none⟩=some (.int .i64 (-12))∧w.cell? ⟨0,4,none⟩=some (.string ⟨#[110]⟩)∧w.cell? ⟨0,5,none⟩=some (.int .i64 (-9))∧w.cell? ⟨0,6,none⟩=some (.string ⟨#[117]⟩)∧w.cell? ⟨0,7,none⟩=some (.int .i64 (-6))∧w.cell? ⟨0,8,none⟩=some (.string ⟨#[109]⟩)∧w.cell? ⟨0,9,none⟩=some (.int .i64 (-3))∧w.cell? ⟨0,10,none⟩=some (.string ⟨#[]⟩)∧w.cell? ⟨0,11,none⟩=some (.int .i64 0)∧w.cell? ⟨0,12,none⟩=some (.string ⟨#[107]⟩)∧w.cell? ⟨0,13,none⟩=some (.int .i64 3)∧w.cell? ⟨0,14,none⟩=some (.string ⟨#[77]⟩)∧w.cell? ⟨0,15,none⟩=some (.int .i64 6)∧w.cell? ⟨0,16,none⟩=some (.string ⟨#[71]⟩)∧w.cell? ⟨0,17,none⟩=some (.int .i64 9)∧w.cell? ⟨0,18,none⟩=some (.string ⟨#[84]⟩)∧w.cell? ⟨0,19,none⟩=some (.int .i64 12):=
 ⟨h 0 (by omega),h 1 (by omega),h 2 (by omega),h 3 (by omega),h 4 (by omega),h 5 (by omega),h 6 (by omega),h 7 (by omega),h 8 (by omega),h 9 (by omega),h 10 (by omega),h 11 (by omega),h 12 (by omega),h 13 (by omega),h 14 (by omega),h 15 (by omega),h 16 (by omega),h 17 (by omega),h 18 (by omega),h 19 (by omega)⟩
def pfxL (s:List UInt8):List (List UInt8 × Int)→Int × List UInt8
 | []=>(0,s)
 | p :: ps=>if Lib.hasSuffix s p.1=true∧p.1≠[] then (p.2,Lib.trimSuffix s p.1) else pfxL s ps
def parr:Array Value:=#[.string ⟨#[102]⟩,.int .i64 (-15),.string ⟨#[112]⟩,.int .i64 (-12),.string ⟨#[110]⟩,.int .i64 (-9),.string ⟨#[117]⟩,.int .i64 (-6),.string ⟨#[109]⟩,.int .i64 (-3),.string ⟨#[]⟩,.int .i64 (0),.string ⟨#[107]⟩,.int .i64 (3),.string ⟨#[77]⟩,.int .i64 (6),.string ⟨#[71]⟩,.int .i64 (9),.string ⟨#[84]⟩,.int .i64 (12)]
theorem pix0 (W:World):(Instr.index 118 (.agg parr) (.int .i64 0)).run Tryz.prog W=.ok (.agg #[.string ⟨#[102]⟩,.int .i64 (-15)]) W:=by kernel_rfl
theorem pix1 (W:World):(Instr.index 118 (.agg parr) (.int .i64 1)).run Tryz.prog W=.ok (.agg #[.string ⟨#[112]⟩,.int .i64 (-12)]) W:=by kernel_rfl
theorem pix2 (W:World):(Instr.index 118 (.agg parr) (.int .i64 2)).run Tryz.prog W=.ok (.agg #[.string ⟨#[110]⟩,.int .i64 (-9)]) W:=by kernel_rfl
theorem pix3 (W:World):(Instr.index 118 (.agg parr) (.int .i64 3)).run Tryz.prog W=.ok (.agg #[.string ⟨#[117]⟩,.int .i64 (-6)]) W:=by kernel_rfl
theorem pix4 (W:World):(Instr.index 118 (.agg parr) (.int .i64 4)).run Tryz.prog W=.ok (.agg #[.string ⟨#[109]⟩,.int .i64 (-3)]) W:=by kernel_rfl
theorem pix5 (W:World):(Instr.index 118 (.agg parr) (.int .i64 5)).run Tryz.prog W=.ok (.agg #[.string ⟨#[]⟩,.int .i64 (0)]) W:=by kernel_rfl
theorem pix6 (W:World):(Instr.index 118 (.agg parr) (.int .i64 6)).run Tryz.prog W=.ok (.agg #[.string ⟨#[107]⟩,.int .i64 (3)]) W:=by kernel_rfl
theorem pix7 (W:World):(Instr.index 118 (.agg parr) (.int .i64 7)).run Tryz.prog W=.ok (.agg #[.string ⟨#[77]⟩,.int .i64 (6)]) W:=by kernel_rfl
theorem pix8 (W:World):(Instr.index 118 (.agg parr) (.int .i64 8)).run Tryz.prog W=.ok (.agg #[.string ⟨#[71]⟩,.int .i64 (9)]) W:=by kernel_rfl
theorem pix9 (W:World):(Instr.index 118 (.agg parr) (.int .i64 9)).run Tryz.prog W=.ok (.agg #[.string ⟨#[84]⟩,.int .i64 (12)]) W:=by kernel_rfl
theorem pfxL_cons (s:List UInt8) (p:List UInt8 × Int) (ps:List (List UInt8 × Int)):pfxL s (p :: ps)=if Lib.hasSuffix s p.1=true∧p.1≠[] then (p.2,Lib.trimSuffix s p.1) else pfxL s ps:=rfl
def readS (neg:Bool) (s1:List UInt8):Int × Rat:=
 let p:=pfxL s1 pfxs
 let c:=cutB 46 p.2
 if digB c.1=false∨(c.2.2=true∧digB c.2.1=false) then (6,0)
 else if 400<c.1.length+c.2.1.length then (3,0)
 else (0,tensQ (rat neg (natOf (c.1 ++ c.2.1)) 1) (p.1 - c.2.1.length))
theorem pfxL_gen (s:List UInt8) (ps:List (List UInt8 × Int)) (h:∀p ∈ ps,-15≤p.2∧p.2≤12):-15≤(pfxL s ps).1∧(pfxL s ps).1≤12∧(pfxL s ps).2.length≤s.length:=by
 induction ps with
 | nil=>exact⟨(by decide:(-15:Int)≤0),(by decide:(0:Int)≤12),Nat.le_refl _⟩
 | cons p ps ih=>
  rw [pfxL_cons]
  split
  ·have:=h p (List.mem_cons_self ..)
   refine⟨this.1,this.2,?_⟩
   show (Lib.trimSuffix s p.1).length≤_
   unfold Lib.trimSuffix
   split
   ·rw [List.length_take];omega
   ·exact Nat.le_refl _
  ·exact ih fun q hq=>h q (List.mem_cons_of_mem _ hq)
theorem pfxL_bound (s:List UInt8):-15≤(pfxL s pfxs).1∧(pfxL s pfxs).1≤12∧(pfxL s pfxs).2.length≤s.length:=pfxL_gen s pfxs (by decide)
theorem cutB_sum (c:UInt8) (l:List UInt8):(cutB c l).1.length+(cutB c l).2.1.length≤l.length∧((cutB c l).2.2=false→(cutB c l).2.1=[]):=by
 rcases split_at l c with h|⟨a,b,rfl,h⟩
 ·rw [cutB_no l c h];simp
 ·rw [cutB_yes a b c h]
  refine⟨?_,fun e=>by cases e⟩
  show a.length+b.length≤(a ++ c :: b).length
  rw [List.length_append,List.length_cons];omega
theorem digB_dig {l:List UInt8} (h:digB l=true):∀c ∈ l,isDig c=true:=by
 unfold digB at h
 simp only [Bool.and_eq_true] at h
 have:=h.2
 rwa [List.all_eq_true] at this
def ReadR (s1:List UInt8) (neg:Bool) (w w':World) (e:Ending):Prop:=∃v,e=.returned (.tuple #[v,.int .i64 (readS neg s1).1])∧Nm w' v (readS neg s1).2∧Ext w w'
theorem read_main (l s1:List UInt8) (neg:Bool) (w:World) (hpf:Pfx w) (h47:Lib.indexByte l 47 = -1) (hsl:s1.length≤9223372036854775807) (hcp:∀W,Calls Tryz.prog 99 #[.string ⟨l.toArray⟩,.string ⟨#[45]⟩] W fun e w'=>e=.returned (.tuple #[.string ⟨s1.toArray⟩,.bool neg])∧w'=W):Calls Tryz.prog 16 #[.string ⟨l.toArray⟩] w fun e w'=>ReadR s1 neg w w' e:=by
 have hct:=Tryz.strings_Contains_one ⟨l.toArray⟩ 47 (w.alloc (.cells #[.bool false,.slice none 0 0,.slice none 0 0] 25));have e47:Lib.indexByte (ByteArray.mk l.toArray).data.toList 47 = -1:=h47;rw [e47] at hct;have hcs:∀(t:List UInt8) W,Calls Tryz.prog 100 #[.string ⟨s1.toArray⟩,.string ⟨t.toArray⟩] W fun e w'=>e=.returned (.tuple #[.string ⟨(Lib.trimSuffix s1 t).toArray⟩,.bool (Lib.hasSuffix s1 t)])∧w'=W:=fun t W=>Tryz.strings_CutSuffix ⟨s1.toArray⟩ ⟨t.toArray⟩ W hsl;have HCT:=ZZ hct;have HCP:=ZZ hcp;have HCS:=ZZ hcs;have HSL:=ZZ hsl;have hpf1:=hpf.mono (ab w (.cells #[.bool false,.slice none 0 0,.slice none 0 0] 25));obtain⟨arr,harr⟩:∃a,a=(pfxs.map fun p=>[Value.string ⟨p.1.toArray⟩,.int .i64 p.2]).flatten:=⟨_,rfl⟩;have hlen:arr.length=20:=by rw [harr];rfl
 have hrg:(w.alloc (.cells #[.bool false,.slice none 0 0,.slice none 0 0] 25)).rangeAt 0 0 arr:=fun j v hv=>by
  have hj:j<20:=by rw [←hlen];exact(List.getElem?_eq_some_iff.1 hv).1
  rw [Nat.zero_add,hpf1 j hj,←harr];exact hv
 have HRG:=ZZ hrg;have HLN:=ZZ hlen;have HARR:=ZZ (show arr.toArray=parr by rw [harr];rfl);clear hct hcp hcs e47 h47 hpf hpf1 hrg harr hlen hsl
 go_enter Tryz.func16,Tryz.ntmps16
 go_wp2_with fail;refine HCT.out.mono ?_
 rintro e w1 ⟨rfl,rfl⟩;go_wp2_with fail;refine(HCP.out _).mono ?_;rintro e w1 ⟨rfl,rfl⟩
 go_upto_block 0 with (refine wpList_load_mid rfl 118 _ rfl 0 0 rfl arr (.array 10 117) HRG.out (by kernel_rfl) rfl (by rw [HLN.out];kernel_rfl) ?_)
 go_cut [0,5] (fun s p wx=>∃(s2:List UInt8) (pw:Int),s=.string ⟨s2.toArray⟩∧p=.int .i64 pw∧Hid (pfxL s1 pfxs=(pw,s2))∧Ext (w.alloc (.cells #[.bool false,.slice none 0 0,.slice none 0 0] 25)) wx)
 case first=>
  generalize hW2:(w.alloc (.cells #[.bool false,.slice none 0 0,.slice none 0 0] 25))=W2;have HWW:=ZZ hW2;clear hW2;go_wp2_with fail
  go_loopg [0,5,25] 10 (fun k s p i wr=>∃c:Nat,c+k=10∧s=.string ⟨s1.toArray⟩∧p=.int .i64 0∧i=.int .i64 (c:Int)∧Hid (pfxL s1 pfxs=pfxL s1 (pfxs.drop c))∧Ext W2 wr)
  case atStart=>exact⟨0,rfl,rfl,rfl,rfl,rfl,ad _⟩
  case round=>
   obtain⟨c,hc,rfl,rfl,rfl,HPX,hext⟩:=hrel;have HEX:=ZZ hext;clear hext
   rcases Nat.eq_zero_or_pos gk with hz|hz
   ·subst hz
    obtain rfl:c=10:=by omega
    go_wp2_with fail;go_meet
    exact⟨_,_,rfl,rfl,HPX.out,by rw [HWW.out];exact HEX.out⟩
   ·have hcs:c=0∨c=1∨c=2∨c=3∨c=4∨c=5∨c=6∨c=7∨c=8∨c=9:=by omega
    have HZ0:=ZZ hz;have HC:=ZZ hc;clear hz hc
    rcases hcs with rfl|rfl|rfl|rfl|rfl|rfl|rfl|rfl|rfl|rfl
    ·have hix:∀W,(Instr.index 118 (.agg arr.toArray) (.int .i64 0)).run Tryz.prog W=.ok (.agg #[.string ⟨#[102]⟩,.int .i64 (-15)]) W:=fun W=>by rw [HARR.out];exact pix0 W
     rcases hb:Lib.hasSuffix s1 [102] with _|_
     ·have HB:=ZZ hb
      go_wp2_with fail;refine(HCS.out [102] _).mono ?_
      rintro e w2 ⟨rfl,rfl⟩;rw [hb];clear hb;go_wp2_with fail
      go_roundg (gk - 1)
      case measure=>have:=HZ0.out;omega
      case rel=>exact⟨1,by have:=HC.out;have:=HZ0.out;omega,rfl,rfl,rfl,HPX.out.trans ((pfxL_cons s1 _ _).trans (if_neg (by rw [HB.out];simp))),al HEX.out (ab _ _)⟩
     ·have HB:=ZZ hb
      go_wp2_with fail;refine(HCS.out [102] _).mono ?_
      rintro e w2 ⟨rfl,rfl⟩;rw [hb];clear hb;go_wp2_with fail
      go_quiet (fail)
      go_wp2_with fail;go_meet
      exact⟨_,_,rfl,rfl,HPX.out.trans ((pfxL_cons s1 _ _).trans (if_pos ⟨HB.out,by simp⟩)),by rw [HWW.out];exact al HEX.out (al (ab _ _) (aA _ _))⟩
    ·have hix:∀W,(Instr.index 118 (.agg arr.toArray) (.int .i64 1)).run Tryz.prog W=.ok (.agg #[.string ⟨#[112]⟩,.int .i64 (-12)]) W:=fun W=>by rw [HARR.out];exact pix1 W
     rcases hb:Lib.hasSuffix s1 [112] with _|_
     ·have HB:=ZZ hb
      go_wp2_with fail;refine(HCS.out [112] _).mono ?_
      rintro e w2 ⟨rfl,rfl⟩;rw [hb];clear hb;go_wp2_with fail
      go_roundg (gk - 1)
      case measure=>have:=HZ0.out;omega
      case rel=>exact⟨2,by have:=HC.out;have:=HZ0.out;omega,rfl,rfl,rfl,HPX.out.trans ((pfxL_cons s1 _ _).trans (if_neg (by rw [HB.out];simp))),al HEX.out (ab _ _)⟩
     ·have HB:=ZZ hb
      go_wp2_with fail;refine(HCS.out [112] _).mono ?_
      rintro e w2 ⟨rfl,rfl⟩;rw [hb];clear hb;go_wp2_with fail
      go_quiet (fail)
      go_wp2_with fail;go_meet
      exact⟨_,_,rfl,rfl,HPX.out.trans ((pfxL_cons s1 _ _).trans (if_pos ⟨HB.out,by simp⟩)),by rw [HWW.out];exact al HEX.out (al (ab _ _) (aA _ _))⟩
    ·have hix:∀W,(Instr.index 118 (.agg arr.toArray) (.int .i64 2)).run Tryz.prog W=.ok (.agg #[.string ⟨#[110]⟩,.int .i64 (-9)]) W:=fun W=>by rw [HARR.out];exact pix2 W
     rcases hb:Lib.hasSuffix s1 [110] with _|_
     ·have HB:=ZZ hb
      go_wp2_with fail;refine(HCS.out [110] _).mono ?_
      rintro e w2 ⟨rfl,rfl⟩;rw [hb];clear hb;go_wp2_with fail
      go_roundg (gk - 1)
      case measure=>have:=HZ0.out;omega
      case rel=>exact⟨3,by have:=HC.out;have:=HZ0.out;omega,rfl,rfl,rfl,HPX.out.trans ((pfxL_cons s1 _ _).trans (if_neg (by rw [HB.out];simp))),al HEX.out (ab _ _)⟩
     ·have HB:=ZZ hb
      go_wp2_with fail;refine(HCS.out [110] _).mono ?_
      rintro e w2 ⟨rfl,rfl⟩;rw [hb];clear hb;go_wp2_with fail
      go_quiet (fail)
      go_wp2_with fail;go_meet
      exact⟨_,_,rfl,rfl,HPX.out.trans ((pfxL_cons s1 _ _).trans (if_pos ⟨HB.out,by simp⟩)),by rw [HWW.out];exact al HEX.out (al (ab _ _) (aA _ _))⟩
    ·have hix:∀W,(Instr.index 118 (.agg arr.toArray) (.int .i64 3)).run Tryz.prog W=.ok (.agg #[.string ⟨#[117]⟩,.int .i64 (-6)]) W:=fun W=>by rw [HARR.out];exact pix3 W
     rcases hb:Lib.hasSuffix s1 [117] with _|_
     ·have HB:=ZZ hb
      go_wp2_with fail;refine(HCS.out [117] _).mono ?_
      rintro e w2 ⟨rfl,rfl⟩;rw [hb];clear hb;go_wp2_with fail
      go_roundg (gk - 1)
      case measure=>have:=HZ0.out;omega
      case rel=>exact⟨4,by have:=HC.out;have:=HZ0.out;omega,rfl,rfl,rfl,HPX.out.trans ((pfxL_cons s1 _ _).trans (if_neg (by rw [HB.out];simp))),al HEX.out (ab _ _)⟩
     ·have HB:=ZZ hb
      go_wp2_with fail;refine(HCS.out [117] _).mono ?_
      rintro e w2 ⟨rfl,rfl⟩;rw [hb];clear hb;go_wp2_with fail
      go_quiet (fail)
      go_wp2_with fail;go_meet
      exact⟨_,_,rfl,rfl,HPX.out.trans ((pfxL_cons s1 _ _).trans (if_pos ⟨HB.out,by simp⟩)),by rw [HWW.out];exact al HEX.out (al (ab _ _) (aA _ _))⟩
    ·have hix:∀W,(Instr.index 118 (.agg arr.toArray) (.int .i64 4)).run Tryz.prog W=.ok (.agg #[.string ⟨#[109]⟩,.int .i64 (-3)]) W:=fun W=>by rw [HARR.out];exact pix4 W
     rcases hb:Lib.hasSuffix s1 [109] with _|_
     ·have HB:=ZZ hb
      go_wp2_with fail;refine(HCS.out [109] _).mono ?_
      rintro e w2 ⟨rfl,rfl⟩;rw [hb];clear hb;go_wp2_with fail
      go_roundg (gk - 1)
      case measure=>have:=HZ0.out;omega
      case rel=>exact⟨5,by have:=HC.out;have:=HZ0.out;omega,rfl,rfl,rfl,HPX.out.trans ((pfxL_cons s1 _ _).trans (if_neg (by rw [HB.out];simp))),al HEX.out (ab _ _)⟩
     ·have HB:=ZZ hb
      go_wp2_with fail;refine(HCS.out [109] _).mono ?_
      rintro e w2 ⟨rfl,rfl⟩;rw [hb];clear hb;go_wp2_with fail
      go_quiet (fail)
      go_wp2_with fail;go_meet
      exact⟨_,_,rfl,rfl,HPX.out.trans ((pfxL_cons s1 _ _).trans (if_pos ⟨HB.out,by simp⟩)),by rw [HWW.out];exact al HEX.out (al (ab _ _) (aA _ _))⟩
    ·have hix:∀W,(Instr.index 118 (.agg arr.toArray) (.int .i64 5)).run Tryz.prog W=.ok (.agg #[.string ⟨#[]⟩,.int .i64 (0)]) W:=fun W=>by rw [HARR.out];exact pix5 W
     have hb:Lib.hasSuffix s1 []=true:=by simp [Lib.hasSuffix]
     have HB:=ZZ hb;go_wp2_with fail;refine(HCS.out [] _).mono ?_;rintro e w2 ⟨rfl,rfl⟩;rw [hb];clear hb;go_wp2_with fail
     go_roundg (gk - 1)
     case measure=>have:=HZ0.out;omega
     case rel=>exact⟨6,by have:=HC.out;have:=HZ0.out;omega,rfl,rfl,rfl,HPX.out.trans ((pfxL_cons s1 _ _).trans (if_neg (by simp))),al HEX.out (ab _ _)⟩
    ·have hix:∀W,(Instr.index 118 (.agg arr.toArray) (.int .i64 6)).run Tryz.prog W=.ok (.agg #[.string ⟨#[107]⟩,.int .i64 (3)]) W:=fun W=>by rw [HARR.out];exact pix6 W
     rcases hb:Lib.hasSuffix s1 [107] with _|_
     ·have HB:=ZZ hb
      go_wp2_with fail;refine(HCS.out [107] _).mono ?_
      rintro e w2 ⟨rfl,rfl⟩;rw [hb];clear hb;go_wp2_with fail
      go_roundg (gk - 1)
      case measure=>have:=HZ0.out;omega
      case rel=>exact⟨7,by have:=HC.out;have:=HZ0.out;omega,rfl,rfl,rfl,HPX.out.trans ((pfxL_cons s1 _ _).trans (if_neg (by rw [HB.out];simp))),al HEX.out (ab _ _)⟩
     ·have HB:=ZZ hb
      go_wp2_with fail;refine(HCS.out [107] _).mono ?_
      rintro e w2 ⟨rfl,rfl⟩;rw [hb];clear hb;go_wp2_with fail
      go_quiet (fail)
      go_wp2_with fail;go_meet
      exact⟨_,_,rfl,rfl,HPX.out.trans ((pfxL_cons s1 _ _).trans (if_pos ⟨HB.out,by simp⟩)),by rw [HWW.out];exact al HEX.out (al (ab _ _) (aA _ _))⟩
    ·have hix:∀W,(Instr.index 118 (.agg arr.toArray) (.int .i64 7)).run Tryz.prog W=.ok (.agg #[.string ⟨#[77]⟩,.int .i64 (6)]) W:=fun W=>by rw [HARR.out];exact pix7 W
     rcases hb:Lib.hasSuffix s1 [77] with _|_
     ·have HB:=ZZ hb
      go_wp2_with fail;refine(HCS.out [77] _).mono ?_
      rintro e w2 ⟨rfl,rfl⟩;rw [hb];clear hb;go_wp2_with fail
      go_roundg (gk - 1)
      case measure=>have:=HZ0.out;omega
      case rel=>exact⟨8,by have:=HC.out;have:=HZ0.out;omega,rfl,rfl,rfl,HPX.out.trans ((pfxL_cons s1 _ _).trans (if_neg (by rw [HB.out];simp))),al HEX.out (ab _ _)⟩
     ·have HB:=ZZ hb
      go_wp2_with fail;refine(HCS.out [77] _).mono ?_
      rintro e w2 ⟨rfl,rfl⟩;rw [hb];clear hb;go_wp2_with fail
      go_quiet (fail)
      go_wp2_with fail;go_meet
      exact⟨_,_,rfl,rfl,HPX.out.trans ((pfxL_cons s1 _ _).trans (if_pos ⟨HB.out,by simp⟩)),by rw [HWW.out];exact al HEX.out (al (ab _ _) (aA _ _))⟩
    ·have hix:∀W,(Instr.index 118 (.agg arr.toArray) (.int .i64 8)).run Tryz.prog W=.ok (.agg #[.string ⟨#[71]⟩,.int .i64 (9)]) W:=fun W=>by rw [HARR.out];exact pix8 W
     rcases hb:Lib.hasSuffix s1 [71] with _|_
     ·have HB:=ZZ hb
      go_wp2_with fail;refine(HCS.out [71] _).mono ?_
      rintro e w2 ⟨rfl,rfl⟩;rw [hb];clear hb;go_wp2_with fail
      go_roundg (gk - 1)
      case measure=>have:=HZ0.out;omega
      case rel=>exact⟨9,by have:=HC.out;have:=HZ0.out;omega,rfl,rfl,rfl,HPX.out.trans ((pfxL_cons s1 _ _).trans (if_neg (by rw [HB.out];simp))),al HEX.out (ab _ _)⟩
     ·have HB:=ZZ hb
      go_wp2_with fail;refine(HCS.out [71] _).mono ?_
      rintro e w2 ⟨rfl,rfl⟩;rw [hb];clear hb;go_wp2_with fail
      go_quiet (fail)
      go_wp2_with fail;go_meet
      exact⟨_,_,rfl,rfl,HPX.out.trans ((pfxL_cons s1 _ _).trans (if_pos ⟨HB.out,by simp⟩)),by rw [HWW.out];exact al HEX.out (al (ab _ _) (aA _ _))⟩
    ·have hix:∀W,(Instr.index 118 (.agg arr.toArray) (.int .i64 9)).run Tryz.prog W=.ok (.agg #[.string ⟨#[84]⟩,.int .i64 (12)]) W:=fun W=>by rw [HARR.out];exact pix9 W
     rcases hb:Lib.hasSuffix s1 [84] with _|_
     ·have HB:=ZZ hb
      go_wp2_with fail;refine(HCS.out [84] _).mono ?_
      rintro e w2 ⟨rfl,rfl⟩;rw [hb];clear hb;go_wp2_with fail
      go_roundg (gk - 1)
      case measure=>have:=HZ0.out;omega
      case rel=>exact⟨10,by have:=HC.out;have:=HZ0.out;omega,rfl,rfl,rfl,HPX.out.trans ((pfxL_cons s1 _ _).trans (if_neg (by rw [HB.out];simp))),al HEX.out (ab _ _)⟩
     ·have HB:=ZZ hb
      go_wp2_with fail;refine(HCS.out [84] _).mono ?_
      rintro e w2 ⟨rfl,rfl⟩;rw [hb];clear hb;go_wp2_with fail
      go_quiet (fail)
      go_wp2_with fail;go_meet
      exact⟨_,_,rfl,rfl,HPX.out.trans ((pfxL_cons s1 _ _).trans (if_pos ⟨HB.out,by simp⟩)),by rw [HWW.out];exact al HEX.out (al (ab _ _) (aA _ _))⟩
 case rest=>
  obtain⟨s2,pw,rfl,rfl,HPX,hext⟩:=hcut;have HEX:=ZZ hext;have hpb:=pfxL_bound s1;rw [HPX.out] at hpb;obtain⟨hp1,hp2,hp3⟩:=hpb;have hcl:=cutB_sum 46 s2;have hc2:=cut_str s2 46 (by have:=HSL.out;dsimp only at hp3;omega)
  dsimp only at hp1 hp2 hp3
  obtain⟨cc,hcc⟩:∃p:List UInt8 × List UInt8 × Bool,cutB 46 s2=p:=⟨_,rfl⟩;have HRS:=ZZ (show readS neg s1=if digB cc.1=false∨(cc.2.2=true∧digB cc.2.1=false) then (6,0) else if 400<cc.1.length+cc.2.1.length then (3,0) else (0,tensQ (rat neg (natOf (cc.1 ++ cc.2.1)) 1) (pw - cc.2.1.length)) by unfold readS;rw [HPX.out];dsimp only;rw [hcc]);rw [hcc] at hcl hc2;obtain⟨before,behind,point⟩:=cc
  dsimp only at hcl hc2 HRS
  have HC2:=ZZ hc2;obtain⟨l1,l2⟩:=hcl;have HL2:=ZZ l2;have l3:before.length+behind.length≤9223372036854775807:=by have:=HSL.out;omega
  have HB1:=ZZ (show before.length≤9223372036854775807 by omega);have HB2:=ZZ (show behind.length≤9223372036854775807 by omega);have l4:(before.length:Int)+(behind.length:Int)≤9223372036854775807:=by omega
  clear hcc hc2 l2 hext hp3 l1;go_wp2_with fail;refine(HC2.out _).mono ?_;rintro e w2 ⟨rfl,h2⟩;have K1:=ZZ (al HEX.out h2);clear h2;go_wp2_with fail;refine(digits_c before HB1.out _).mono ?_;rintro e w3 ⟨rfl,h2⟩;have K2:=ZZ (al K1.out h2);clear h2;obtain⟨z0_1,z1_1,z2_1,f0_1,f1_1,f2_1⟩:=ai (setup0 w _ K2.out)
  rcases hb1:digB before with _|_
  ·have HB3:=ZZ hb1
   clear hb1;go_wp2_with fail;refine bodyPost_ret (v:=.tuple #[.agg #[.bool false,.slice none 0 0,.slice none 0 0],.int .i64 6]) (by simp [results,Tryz.f16];go_simp) rfl ?_;unfold ReadR;rw [HRS.out,if_pos (.inl HB3.out)];exact⟨_,rfl,Nm.zero _,ao (al (ab _ _) K2.out) (Nat.le_refl _) _ _ _⟩
  ·have HB3:=ZZ hb1
   clear hb1
   rcases point with _|_
   ·have hdig:∀c ∈ before ++ behind,isDig c=true:=by rw [HL2.out rfl,List.append_nil];exact digB_dig HB3.out
    rcases(show 400<before.length+behind.length∨before.length+behind.length≤400 by omega) with hl|hl
    ·have t1:(400:Int)<(before.length:Int)+(behind.length:Int):=by omega
     have HL:=ZZ hl;clear hl;go_wp2_with fail;refine bodyPost_ret (v:=.tuple #[.agg #[.bool false,.slice none 0 0,.slice none 0 0],.int .i64 3]) (by simp [results,Tryz.f16];go_simp) rfl ?_;unfold ReadR;rw [HRS.out,if_neg (by rw [HB3.out];simp),if_pos HL.out];exact⟨_,rfl,Nm.zero _,ao (al (ab _ _) K2.out) (Nat.le_refl _) _ _ _⟩
    ·have t1:¬(400:Int)<(before.length:Int)+(behind.length:Int):=by omega
     have hcat:before.length+behind.length≤9223372036854775807:=by omega
     have hst:(⟨before.toArray⟩:ByteArray) ++ ⟨behind.toArray⟩=⟨(before ++ behind).toArray⟩:=str_append _ _;have q1:-15≤pw - (behind.length:Int)+400:=by omega
     have q2:pw - (behind.length:Int)≤12:=by omega
     have q3:(behind.length:Int)≤400:=by omega
     have HZ:=ZZ (show (pw - (behind.length:Int)).natAbs≤1073741824 by omega);have HLE:=ZZ hl;have HDG:=ZZ hdig;have HBT:=ZZ (dig_bits (before ++ behind) hdig);have HBL:=ZZ (show (before ++ behind).length≤400 by rw [List.length_append];exact hl);clear hl hdig;go_wp2_with fail;refine(taken_c _ HDG.out (by have:=HBL.out;omega) _).mono ?_;rintro e w5 ⟨v5,rfl,h5,k5⟩;obtain⟨P5,p5,c5,rfl⟩:=h5.form';have G5:=ZZ h5;have K5:=ZZ k5;clear h5 k5;go_wp2_with fail;refine(one_c _).mono ?_;rintro e w6 ⟨v6,rfl,h6,k6⟩;obtain⟨P6,p6,c6,rfl⟩:=h6.form';have G6:=ZZ h6;have K6:=ZZ k6;clear h6 k6;go_wp2_with fail;refine(reduced_c neg _ _ _ _ _ (G5.out.mono K6.out) G6.out (sm_of_lt HBT.out (by have:=HBL.out;omega)) (sm_small 1 (by decide)) (by decide)).mono ?_;rintro e w7 ⟨v7,rfl,h7,k7⟩;obtain⟨b7,P7,p7,c7,Q7,q7,d7,rfl⟩:=h7.form2;have G7:=ZZ h7;have K7:=ZZ k7;clear h7 k7;go_wp2_with fail;refine(tens_q 1601 (by decide) _ HZ.out _ _ _ G7.out (bq_nat_le HBT.out (by have:=HBL.out;omega) (by decide))).mono ?_;rintro e w8 ⟨v8,rfl,h8,k8⟩;obtain⟨b8,P8,p8,c8,Q8,q8,d8,rfl⟩:=h8.form2;have G8:=ZZ h8;have K8:=ZZ (al K2.out (al K5.out (al K6.out (al K7.out k8))));clear h8 k8;obtain⟨z0_8,z1_8,z2_8,f0_8,f1_8,f2_8⟩:=ai (setup0 w _ K8.out);go_wp2_with fail;refine bodyPost_ret (v:=.tuple #[.agg #[.bool b8,.slice P8 p8 c8,.slice Q8 q8 d8],.int .i64 0]) (by simp [results,Tryz.f16];go_simp) rfl ?_;unfold ReadR;rw [HRS.out,if_neg (by rw [HB3.out];simp),if_neg (by have:=HLE.out;omega)]
     exact⟨_,rfl,G8.out.put3 (setup0 w _ K8.out),ao (al (ab _ _) K8.out) (Nat.le_refl _) _ _ _⟩
   ·go_wp2_with fail
    refine(digits_c behind HB2.out _).mono ?_;rintro e w4 ⟨rfl,h2⟩;have K3:=ZZ (al K2.out h2);clear h2;obtain⟨z0_2,z1_2,z2_2,f0_2,f1_2,f2_2⟩:=ai (setup0 w _ K3.out)
    rcases hb2:digB behind with _|_
    ·have HB4:=ZZ hb2
     clear hb2;go_wp2_with fail;refine bodyPost_ret (v:=.tuple #[.agg #[.bool false,.slice none 0 0,.slice none 0 0],.int .i64 6]) (by simp [results,Tryz.f16];go_simp) rfl ?_;unfold ReadR;rw [HRS.out,if_pos (.inr (by simp [HB4.out]))];exact⟨_,rfl,Nm.zero _,ao (al (ab _ _) K3.out) (Nat.le_refl _) _ _ _⟩
    ·have HB4:=ZZ hb2
     clear hb2;have hdig:∀c ∈ before ++ behind,isDig c=true:=fun c hc=>by rcases List.mem_append.1 hc with h|h;exact digB_dig HB3.out c h;exact digB_dig HB4.out c h
     rcases(show 400<before.length+behind.length∨before.length+behind.length≤400 by omega) with hl|hl
     ·have t1:(400:Int)<(before.length:Int)+(behind.length:Int):=by omega
      have HL:=ZZ hl;clear hl;go_wp2_with fail;refine bodyPost_ret (v:=.tuple #[.agg #[.bool false,.slice none 0 0,.slice none 0 0],.int .i64 3]) (by simp [results,Tryz.f16];go_simp) rfl ?_;unfold ReadR;rw [HRS.out,if_neg (by rw [HB3.out,HB4.out];simp),if_pos HL.out];exact⟨_,rfl,Nm.zero _,ao (al (ab _ _) K3.out) (Nat.le_refl _) _ _ _⟩
     ·have t1:¬(400:Int)<(before.length:Int)+(behind.length:Int):=by omega
      have hcat:before.length+behind.length≤9223372036854775807:=by omega
      have hst:(⟨before.toArray⟩:ByteArray) ++ ⟨behind.toArray⟩=⟨(before ++ behind).toArray⟩:=str_append _ _;have q1:-15≤pw - (behind.length:Int)+400:=by omega
      have q2:pw - (behind.length:Int)≤12:=by omega
      have q3:(behind.length:Int)≤400:=by omega
      have HZ:=ZZ (show (pw - (behind.length:Int)).natAbs≤1073741824 by omega);have HLE:=ZZ hl;have HDG:=ZZ hdig;have HBT:=ZZ (dig_bits (before ++ behind) hdig);have HBL:=ZZ (show (before ++ behind).length≤400 by rw [List.length_append];exact hl);clear hl hdig;go_wp2_with fail;refine(taken_c _ HDG.out (by have:=HBL.out;omega) _).mono ?_;rintro e w5 ⟨v5,rfl,h5,k5⟩;obtain⟨P5,p5,c5,rfl⟩:=h5.form';have G5:=ZZ h5;have K5:=ZZ k5;clear h5 k5;go_wp2_with fail;refine(one_c _).mono ?_;rintro e w6 ⟨v6,rfl,h6,k6⟩;obtain⟨P6,p6,c6,rfl⟩:=h6.form';have G6:=ZZ h6;have K6:=ZZ k6;clear h6 k6;go_wp2_with fail;refine(reduced_c neg _ _ _ _ _ (G5.out.mono K6.out) G6.out (sm_of_lt HBT.out (by have:=HBL.out;omega)) (sm_small 1 (by decide)) (by decide)).mono ?_;rintro e w7 ⟨v7,rfl,h7,k7⟩;obtain⟨b7,P7,p7,c7,Q7,q7,d7,rfl⟩:=h7.form2;have G7:=ZZ h7;have K7:=ZZ k7;clear h7 k7;go_wp2_with fail;refine(tens_q 1601 (by decide) _ HZ.out _ _ _ G7.out (bq_nat_le HBT.out (by have:=HBL.out;omega) (by decide))).mono ?_;rintro e w8 ⟨v8,rfl,h8,k8⟩;obtain⟨b8,P8,p8,c8,Q8,q8,d8,rfl⟩:=h8.form2;have G8:=ZZ h8;have K8:=ZZ (al K3.out (al K5.out (al K6.out (al K7.out k8))));clear h8 k8;obtain⟨z0_8,z1_8,z2_8,f0_8,f1_8,f2_8⟩:=ai (setup0 w _ K8.out);go_wp2_with fail;refine bodyPost_ret (v:=.tuple #[.agg #[.bool b8,.slice P8 p8 c8,.slice Q8 q8 d8],.int .i64 0]) (by simp [results,Tryz.f16];go_simp) rfl ?_;unfold ReadR;rw [HRS.out,if_neg (by rw [HB3.out,HB4.out];simp),if_neg (by have:=HLE.out;omega)]
      exact⟨_,rfl,G8.out.put3 (setup0 w _ K8.out),ao (al (ab _ _) K8.out) (Nat.le_refl _) _ _ _⟩
theorem read_slash (l:List UInt8) (w:World) (h47:0≤Lib.indexByte l 47) (hs:l.length≤9223372036854775807):Calls Tryz.prog 16 #[.string ⟨l.toArray⟩] w fun e w'=>ParseR l w w' e:=by
 have hct:=Tryz.strings_Contains_one ⟨l.toArray⟩ 47 (w.alloc (.cells #[.bool false,.slice none 0 0,.slice none 0 0] 25));have e47:decide (0≤Lib.indexByte (ByteArray.mk l.toArray).data.toList 47)=true:=decide_eq_true h47;rw [e47] at hct;have HCT:=ZZ hct;have HPC:=ZZ (parse_c l hs (w.alloc (.cells #[.bool false,.slice none 0 0,.slice none 0 0] 25)));clear hct e47 h47 hs;unfold ParseR at HPC ⊢;generalize (parseS l).1=E at *;generalize (parseS l).2=q at *
 go_enter Tryz.func16,Tryz.ntmps16
 go_wp2_with fail;refine HCT.out.mono ?_
 rintro e w1 ⟨rfl,rfl⟩;go_wp2_with fail;refine HPC.out.mono ?_;rintro e w2 ⟨v,rfl,hv,hx⟩;obtain⟨b8,P8,p8,c8,Q8,q8,d8,rfl⟩:=hv.form2;have HV:=ZZ hv;have HX:=ZZ hx;obtain⟨z0,z1,z2,f0,f1,f2⟩:=ai (setup0 w _ HX.out);clear hv hx;go_wp2_with fail;refine bodyPost_ret (v:=.tuple #[.agg #[.bool b8,.slice P8 p8 c8,.slice Q8 q8 d8],.int .i64 E]) (by simp [results,Tryz.f16];go_simp) rfl ?_;exact⟨_,rfl,HV.out.put3 (setup0 w _ HX.out),ao (al (ab _ _) HX.out) (Nat.le_refl _) _ _ _⟩
def readA (l:List UInt8):Int × Rat:=if (47:UInt8) ∈ l then parseS l else readS (minusB l) (restB l)
def ReadA (l:List UInt8) (w w':World) (e:Ending):Prop:=∃v,e=.returned (.tuple #[v,.int .i64 (readA l).1])∧Nm w' v (readA l).2∧Ext w w'
theorem read_c (l:List UInt8) (hs:l.length≤9223372036854775807) (w:World) (hpf:Pfx w):Calls Tryz.prog 16 #[.string ⟨l.toArray⟩] w fun e w'=>ReadA l w w' e:=by
 unfold ReadA readA
 rcases split_at l 47 with h|⟨a,b,rfl,h⟩
 ·rw [if_neg h]
  exact read_main l (restB l) (minusB l) w hpf (indexByte_no l 47 h) (Nat.le_trans (restB_len l) hs) (fun W=>Tryz.strings_CutPrefix ⟨l.toArray⟩ ⟨#[45]⟩ W)
 ·rw [if_pos (by simp)]
  exact read_slash _ w (by rw [indexByte_yes a b 47 h];omega) hs
end Go.Proofs.YtpgdefgdboijlaaGreatDoor
