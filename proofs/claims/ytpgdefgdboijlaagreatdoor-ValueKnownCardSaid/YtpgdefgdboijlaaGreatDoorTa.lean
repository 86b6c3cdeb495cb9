/- Texts: rows of digits. -/
import Derived.Test.YtpgdefgdboijlaaGreatDoorShelf
import Derived.Test.YtpgdefgdboijlaaGreatDoorDec
import Derived.Test.YtpgdefgdboijlaaGreatDoorNa
import Derived.Shelf.Strings.SlTrimAscii
namespace Go.Proofs.YtpgdefgdboijlaaGreatDoor
open Go.RowKit
set_option linter.unusedVariables false

def cs10 : List UInt8 := [48, 49, 50, 51, 52, 53, 54, 55, 56, 57]
theorem cs10_dig (c : UInt8) : cs10.contains c = isDig c := by
  rw [Bool.eq_iff_iff, isDig_iff]
  constructor
  · intro h
    simp [cs10] at h
    rcases h with rfl | rfl | rfl | rfl | rfl | rfl | rfl | rfl | rfl | rfl <;> decide
  · intro h
    have : ∀ k : Nat, 48 ≤ k → k ≤ 57 → cs10.contains (UInt8.ofNat k) = true := by
      intro k h1 h2
      have : k = 48 ∨ k = 49 ∨ k = 50 ∨ k = 51 ∨ k = 52 ∨ k = 53 ∨ k = 54 ∨ k = 55 ∨ k = 56 ∨ k = 57 := by omega
      rcases this with rfl | rfl | rfl | rfl | rfl | rfl | rfl | rfl | rfl | rfl <;> decide
    have h3 := this c.toNat h.1 h.2
    rwa [UInt8.ofNat_toNat] at h3
theorem dropWhile_empty (p : UInt8 → Bool) (l : List UInt8) : (l.dropWhile p).isEmpty = l.all p := by
  induction l with
  | nil => rfl
  | cons a l ih =>
    rw [List.dropWhile_cons]
    split
    · rename_i h; rw [ih, List.all_cons, h, Bool.true_and]
    · rename_i h; simp [h]
theorem all_dropWhile (p : UInt8 → Bool) (l : List UInt8) : (l.dropWhile p).all p = l.all p := by
  induction l with
  | nil => rfl
  | cons a l ih =>
    rw [List.dropWhile_cons]
    split
    · rename_i h; rw [ih, List.all_cons, h, Bool.true_and]
    · rfl
theorem trim_digits (l : List UInt8) : (Lib.trimS l cs10).isEmpty = l.all isDig := by
  unfold Lib.trimS Lib.trimLeftS Lib.trimRightS
  rw [dropWhile_empty, List.all_reverse, all_dropWhile, List.all_reverse]
  congr 1
  funext c
  exact cs10_dig c
/-- a row of decimal digits -/
def digB (l : List UInt8) : Bool := !l.isEmpty && l.all isDig
/-- one without zeros at its beginning -/
def plainB (l : List UInt8) : Bool := digB l && (l == [48] || l.head? != some 48)

theorem plain_cons {c : UInt8} {t : List UInt8} (h : digB (c :: t) = true) : (c == 48 && t.isEmpty || ((c.toNat : Int) != 48)) = plainB (c :: t) := by
  unfold plainB
  rw [h, Bool.true_and]
  congr 1
  · cases t <;> simp
  · rw [Bool.eq_iff_iff]
    simp only [bne_iff_ne, List.head?_cons, ne_eq, Option.some.injEq]
    constructor
    · intro h e; exact h (by rw [e]; rfl)
    · intro h e; exact h (UInt8.toNat_inj.1 (by have : (48 : UInt8).toNat = 48 := rfl; omega))
theorem digits_c (l : List UInt8) (hs : l.length ≤ 9223372036854775807) (w : World) :
    Calls Tryz.prog 102 #[.string ⟨l.toArray⟩] w fun e w' => e = .returned (.bool (digB l)) ∧ Ext w w' := by
  have h := Any.strings_Trim_laid Tryz.lays160 (by kernel_rfl) ⟨l.toArray⟩ ⟨#[48, 49, 50, 51, 52, 53, 54, 55, 56, 57]⟩ w hs (by decide) (ascii_of_all (by decide))
  have h2 := trim_digits l
  unfold cs10 at h2
  change Calls Tryz.prog _ _ _ (fun e w' => e = .returned (.string ⟨(Lib.trimS l [48, 49, 50, 51, 52, 53, 54, 55, 56, 57]).toArray⟩) ∧ Below w.heap.size w w') at h
  generalize Lib.trimS l [48, 49, 50, 51, 52, 53, 54, 55, 56, 57] = t at h h2
  have H := Lib.hid h
  have H2 := Lib.hid h2
  clear h h2
  rcases Decidable.em (l = []) with h0 | h0
  · subst h0
    go_enter Tryz.func102, Tryz.ntmps102
    go_wp2_with fail
    go_ret
    exact ⟨rfl, ext_refl _⟩
  · go_enter Tryz.func102, Tryz.ntmps102
    go_wp2_with fail
    refine H.out.mono ?_
    rintro e w1 ⟨rfl, h1⟩
    have H1 := Lib.hid h1
    clear h1
    go_wp2_with fail
    go_ret
    refine ⟨?_, H1.out⟩
    unfold digB
    rw [← H2.out]
    rfl
set_option maxRecDepth 100000 in
set_option maxHeartbeats 1000000 in
theorem plain_c (l : List UInt8) (hs : l.length ≤ 9223372036854775807) (w : World) :
    Calls Tryz.prog 131 #[.string ⟨l.toArray⟩] w fun e w' => e = .returned (.bool (plainB l)) ∧ Ext w w' := by
  have hd := digits_c l hs w
  rcases hb : digB l with _ | _
  · rw [hb] at hd
    have H := Lib.hid hd
    have HB := Lib.hid hb
    clear hd hb
    go_enter Tryz.func131, Tryz.ntmps131
    go_wp2_with fail
    refine H.out.mono ?_
    rintro e w1 ⟨rfl, h1⟩
    have H1 := Lib.hid h1
    clear h1
    go_wp2_with fail
    go_ret
    exact ⟨by unfold plainB; rw [HB.out]; rfl, H1.out⟩
  · cases l with
    | nil => simp [digB] at hb
    | cons c t =>
      rw [hb] at hd
      have H := Lib.hid hd
      have HB := Lib.hid hb
      clear hd hb
      rcases Decidable.em (c = 48) with hc | hc
      · subst hc
        rcases Decidable.em (t = []) with ht | ht
        · subst ht
          go_enter Tryz.func131, Tryz.ntmps131
          go_wp2_with fail
          refine H.out.mono ?_
          rintro e w1 ⟨rfl, h1⟩
          have H1 := Lib.hid h1
          clear h1
          go_wp2_with fail
          go_ret
          exact ⟨by rw [← plain_cons HB.out]; rfl, H1.out⟩
        · go_enter Tryz.func131, Tryz.ntmps131
          go_wp2_with fail
          refine H.out.mono ?_
          rintro e w1 ⟨rfl, h1⟩
          have H1 := Lib.hid h1
          clear h1
          go_wp2_with fail
          go_ret
          exact ⟨by rw [← plain_cons HB.out]; rfl, H1.out⟩
      · go_enter Tryz.func131, Tryz.ntmps131
        go_wp2_with fail
        refine H.out.mono ?_
        rintro e w1 ⟨rfl, h1⟩
        have H1 := Lib.hid h1
        clear h1
        go_wp2_with fail
        go_ret
        exact ⟨by rw [← plain_cons HB.out]; rfl, H1.out⟩
end Go.Proofs.YtpgdefgdboijlaaGreatDoor
