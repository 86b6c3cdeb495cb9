/- Texts: cut at a byte. -/
import Derived.Test.YtpgdefgdboijlaaGreatDoorTa
import Derived.Deep.QuietTactic
import Derived.BigQuiet
namespace Go.Proofs.YtpgdefgdboijlaaGreatDoor
open Go.RowKit
set_option linter.unusedVariables false

theorem indexByte_no (l : List UInt8) (c : UInt8) (h : c ∉ l) : Lib.indexByte l c = -1 := by
  induction l with
  | nil => rfl
  | cons b l ih =>
    have h1 : (b == c) = false := by rw [beq_eq_false_iff_ne]; exact fun e => h (e ▸ List.mem_cons_self ..)
    have h2 := ih (fun e => h (List.mem_cons_of_mem _ e))
    unfold Lib.indexByte
    rw [h1, h2]; rfl
theorem indexByte_yes (a b : List UInt8) (c : UInt8) (h : c ∉ a) : Lib.indexByte (a ++ c :: b) c = (a.length : Int) := by
  induction a with
  | nil => simp [Lib.indexByte]
  | cons d a ih =>
    have h1 : (d == c) = false := by rw [beq_eq_false_iff_ne]; exact fun e => h (e ▸ List.mem_cons_self ..)
    have h2 := ih (fun e => h (List.mem_cons_of_mem _ e))
    rw [List.cons_append]
    unfold Lib.indexByte
    rw [h1, h2]
    have : ((a.length : Int) == -1) = false := by rw [beq_eq_false_iff_ne]; omega
    simp [this]
set_option maxRecDepth 100000 in
set_option maxHeartbeats 1000000 in
theorem cut_no_in (l : List UInt8) (c : UInt8) (h : c ∉ l) (w : World) :
    Calls Tryz.prog 147 #[.string ⟨l.toArray⟩, .string ⟨#[c]⟩] w fun e w' => e = .returned (.tuple #[.string ⟨l.toArray⟩, .string ⟨#[]⟩, .bool false]) ∧ Ext w w' := by
  have hi := Tryz.stringslite_Index_one ⟨l.toArray⟩ c w
  have e : Lib.indexByte (ByteArray.mk l.toArray).data.toList c = -1 := indexByte_no l c h
  rw [e] at hi
  have HI := Lib.hid hi
  clear hi e h
  go_enter Tryz.func147, Tryz.ntmps147
  go_wp2_with fail
  refine HI.out.mono ?_
  rintro e w1 ⟨rfl, rfl⟩
  go_wp2_with fail
  refine bodyPost_ret (v := .tuple #[.string ⟨l.toArray⟩, .string ⟨#[]⟩, .bool false]) (by simp [results, Tryz.f147]) rfl ?_
  exact ⟨rfl, ext_refl _⟩
set_option maxRecDepth 100000 in
set_option maxHeartbeats 1000000 in
theorem cut_yes_in (a b : List UInt8) (c : UInt8) (h : c ∉ a) (hs : (a ++ c :: b).length ≤ 9223372036854775807) (w : World) :
    Calls Tryz.prog 147 #[.string ⟨(a ++ c :: b).toArray⟩, .string ⟨#[c]⟩] w fun e w' => e = .returned (.tuple #[.string ⟨a.toArray⟩, .string ⟨b.toArray⟩, .bool true]) ∧ Ext w w' := by
  have hi := Tryz.stringslite_Index_one ⟨(a ++ c :: b).toArray⟩ c w
  have e : Lib.indexByte (ByteArray.mk (a ++ c :: b).toArray).data.toList c = (a.length : Int) := indexByte_yes a b c h
  rw [e] at hi
  have HI := Lib.hid hi
  obtain ⟨p, hp⟩ : ∃ p, p = a.length := ⟨_, rfl⟩
  rw [← hp] at HI
  obtain ⟨s, hse⟩ : ∃ s : ByteArray, s = ⟨(a ++ c :: b).toArray⟩ := ⟨_, rfl⟩
  have hsz : s.size = p + 1 + b.length := by rw [hse, hp]; show (a ++ c :: b).length = _; simp; omega
  have x1 : s.extract 0 p = ⟨a.toArray⟩ := by
    rw [hse, hp]; apply ByteArray.ext; simp
  have x2 : s.extract (p + 1) s.size = ⟨b.toArray⟩ := by
    rw [hsz, hse, hp]; apply ByteArray.ext
    simp
  have hbd : p + 1 + b.length ≤ 9223372036854775807 := by simp at hs; omega
  rw [← hse] at HI ⊢
  clear hi e h hse hs hp
  have u1 : IntKind.i64.wrap ((p : Int) + 1) = (p : Int) + 1 := IntWalk.i64_in _ (by omega)
  have q1 : (0 : Int) ≤ (p : Int) := by omega
  have q2 : (p : Int) ≤ (s.size : Int) := by omega
  have q3 : (0 : Int) ≤ (p : Int) + 1 := by omega
  have q4 : (p : Int) + 1 ≤ (s.size : Int) := by omega
  have q5 : ((p : Int) + 1).toNat = p + 1 := by omega
  have X2 := Lib.hid x2
  have HSZ := Lib.hid hsz
  clear hsz hbd x2
  have x2 := X2.out
  go_enter Tryz.func147, Tryz.ntmps147
  go_wp2_with fail
  refine HI.out.mono ?_
  rintro e w1 ⟨rfl, rfl⟩
  go_wp2_with fail
  go_quiet (fail)
  go_wp2_with fail
  refine bodyPost_ret (v := .tuple #[.string ⟨a.toArray⟩, .string ⟨b.toArray⟩, .bool true]) (by simp [results, Tryz.f147]) rfl ?_
  exact ⟨rfl, ext_drewN _ _⟩
set_option maxRecDepth 100000 in
theorem cut_no_c (l : List UInt8) (c : UInt8) (h : c ∉ l) (w : World) :
    Calls Tryz.prog 101 #[.string ⟨l.toArray⟩, .string ⟨#[c]⟩] w fun e w' => e = .returned (.tuple #[.string ⟨l.toArray⟩, .string ⟨#[]⟩, .bool false]) ∧ Ext w w' := by
  have H := Lib.hid (cut_no_in l c h w)
  clear h
  go_enter Tryz.func101, Tryz.ntmps101
  go_wp2_with fail
  refine H.out.mono ?_
  rintro e w1 ⟨rfl, h⟩
  have HX := Lib.hid h
  clear h
  go_wp2_with fail
  refine bodyPost_ret (v := .tuple #[.string ⟨l.toArray⟩, .string ⟨#[]⟩, .bool false]) (by simp [results, Tryz.f101]) rfl ?_
  exact ⟨rfl, HX.out⟩
set_option maxRecDepth 100000 in
theorem cut_yes_c (a b : List UInt8) (c : UInt8) (h : c ∉ a) (hs : (a ++ c :: b).length ≤ 9223372036854775807) (w : World) :
    Calls Tryz.prog 101 #[.string ⟨(a ++ c :: b).toArray⟩, .string ⟨#[c]⟩] w fun e w' => e = .returned (.tuple #[.string ⟨a.toArray⟩, .string ⟨b.toArray⟩, .bool true]) ∧ Ext w w' := by
  have H := Lib.hid (cut_yes_in a b c h hs w)
  clear h hs
  generalize (⟨(a ++ c :: b).toArray⟩ : ByteArray) = s at *
  go_enter Tryz.func101, Tryz.ntmps101
  go_wp2_with fail
  refine H.out.mono ?_
  rintro e w1 ⟨rfl, h⟩
  have HX := Lib.hid h
  clear h
  go_wp2_with fail
  refine bodyPost_ret (v := .tuple #[.string ⟨a.toArray⟩, .string ⟨b.toArray⟩, .bool true]) (by simp [results, Tryz.f101]) rfl ?_
  exact ⟨rfl, HX.out⟩
/-- where a byte is, first -/
theorem split_at (l : List UInt8) (c : UInt8) : c ∉ l ∨ ∃ a b, l = a ++ c :: b ∧ c ∉ a := by
  induction l with
  | nil => exact .inl (by simp)
  | cons d l ih =>
    by_cases h : d = c
    · exact .inr ⟨[], l, by rw [h]; rfl, by simp⟩
    · rcases ih with ih | ⟨a, b, e, h1⟩
      · exact .inl (by simp [ih, Ne.symm h])
      · exact .inr ⟨d :: a, b, by rw [e]; rfl, by simp [h1, Ne.symm h]⟩
/-- what is before and behind a byte -/
def cutB (c : UInt8) : List UInt8 → List UInt8 × List UInt8 × Bool
  | [] => ([], [], false)
  | d :: l => if d = c then ([], l, true) else (d :: (cutB c l).1, (cutB c l).2.1, (cutB c l).2.2)
theorem cutB_no (l : List UInt8) (c : UInt8) (h : c ∉ l) : cutB c l = (l, [], false) := by
  induction l with
  | nil => rfl
  | cons d l ih =>
    have h1 : ¬ d = c := fun e => h (e ▸ List.mem_cons_self ..)
    rw [cutB, if_neg h1, ih (fun e => h (List.mem_cons_of_mem _ e))]
theorem cutB_yes (a b : List UInt8) (c : UInt8) (h : c ∉ a) : cutB c (a ++ c :: b) = (a, b, true) := by
  induction a with
  | nil => simp [cutB]
  | cons d l ih =>
    have h1 : ¬ d = c := fun e => h (e ▸ List.mem_cons_self ..)
    rw [List.cons_append, cutB, if_neg h1, ih (fun e => h (List.mem_cons_of_mem _ e))]
theorem cut_str (l : List UInt8) (c : UInt8) (hs : l.length ≤ 9223372036854775807) (w : World) :
    Calls Tryz.prog 101 #[.string ⟨l.toArray⟩, .string ⟨#[c]⟩] w fun e w' => e = .returned (.tuple #[.string ⟨(cutB c l).1.toArray⟩, .string ⟨(cutB c l).2.1.toArray⟩, .bool (cutB c l).2.2]) ∧ Ext w w' := by
  rcases split_at l c with h | ⟨a, b, rfl, h⟩
  · rw [cutB_no l c h]; exact cut_no_c l c h w
  · rw [cutB_yes a b c h]; exact cut_yes_c a b c h hs w
end Go.Proofs.YtpgdefgdboijlaaGreatDoor
