/- Digits, Check, and the laws' helper slash. Printed by gen_tx.py. -/
import Derived.Test.YtpgdefgdboijlaaGreatDoorVe
import Derived.Test.YtpgdefgdboijlaaGreatDoorPt
import Derived.Test.YtpgdefgdboijlaaGreatDoorNb
namespace Go.Proofs.YtpgdefgdboijlaaGreatDoor
open Go.RowKit
set_option linter.unusedVariables false
set_option maxRecDepth 100000 in
set_option maxHeartbeats 4000000 in
theorem check_c (l : List UInt8) (hs : l.length ≤ 9223372036854775807) (w : World) :
    Calls Tryz.prog 41 #[.string ⟨l.toArray⟩] w fun e w' => e = .returned (.int .i64 (parseS l).1) ∧ Ext w w' := by
  have PP := Lib.hid (parse_c l hs)
  unfold ParseR at PP
  go_enter Tryz.func41, Tryz.ntmps41
  go_wp2_with fail
  refine (PP.out _).mono ?_
  rintro e w1 ⟨v1, rfl, h1, k1⟩
  obtain ⟨b1, A, k, ca, B, l1, cb, rfl⟩ := h1.form2
  go_wp2_with fail
  go_ret
  exact ⟨rfl, ext_trans k1 (ext_alloc _ _)⟩
set_option maxRecDepth 100000 in
set_option maxHeartbeats 4000000 in
theorem digits_q (M : Nat) (hM : M ≤ 1099511627776) (vx : Value) (x : Rat) (w : World) (hx : Nm w vx x) (bx : Bq M x) (htab : Tens w) :
    Calls Tryz.prog 43 #[vx] w fun e w' => e = .returned (.int .i64 (max ((Lib.decDigits x.num.natAbs).length : Int) ((Lib.decDigits x.den).length : Int))) ∧ Ext w w' := by
  have HT := Lib.hid htab
  have BX1 := Lib.hid bx.1
  have BX2 := Lib.hid bx.2
  have HM := Lib.hid hM
  obtain ⟨A, k, ca, B, l, cb, rfl, hxn, hxd, hkx, hlx⟩ := hx.form
  have Hx := Lib.hid hx
  have Hxn := Lib.hid hxn
  generalize hbx : decide (x.num < 0) = b1 at *
  clear hbx hx hxn hxd hkx hlx bx hM htab
  obtain ⟨hS, -, hw1, -⟩ := setup1 w (.bool b1) (.slice A k ca) (.slice B l cb)
  have HS := Lib.hid hS
  have hww := Lib.hid hw1
  have HW2 := Lib.hid (ext_refl (w.alloc (.cells #[.bool b1, .slice A k ca, .slice B l cb] 25)))
  clear hS hw1
  obtain ⟨dl, hdl⟩ : ∃ d, d = Lib.decDigits x.num.natAbs := ⟨_, rfl⟩
  obtain ⟨dd, hdd⟩ : ∃ d, d = Lib.decDigits x.den := ⟨_, rfl⟩
  have HDL := Lib.hid hdl
  have HDD := Lib.hid hdd
  rw [← hdl, ← hdd]
  clear hdl hdd
  go_enter Tryz.func43, Tryz.ntmps43
  go_wp2_with fail
  generalize World.alloc w (.cells #[.bool b1, .slice A k ca, .slice B l cb] _) = W2 at *
  generalize w.heap.size = g0 at *
  have hx0 := Lib.hid (ext_refl W2)
  have hS0 := HS.out _ (ext_trans HW2.out hx0.out)
  have e1 := Lib.hid (ext_drew W2)
  have hx1 := Lib.hid (ext_trans hx0.out e1.out)
  go_region_held3 (fun W => W.cell? ⟨g0, 0, none⟩ = some (.bool b1) ∧ W.cell? ⟨g0, 1, none⟩ = some (.slice A k ca) ∧ W.cell? ⟨g0, 2, none⟩ = some (.slice B l cb))
    (first
      | exact HS.out _ (ext_trans HW2.out hx4.out)
      | exact HS.out _ (ext_trans HW2.out hx3.out)
      | exact HS.out _ (ext_trans HW2.out hx2.out)
      | exact HS.out _ (ext_trans HW2.out hx1.out))
    (first
      | (have _q := hx3
         go_at_call 120
         refine (row_c M HM.out _ x.den _ H3.out BX2.out (HT.out.mono (ext_trans hww.out hx3.out))).mono ?_
         clear _q
         rintro e w3 ⟨rfl, k4⟩
         rw [← HDD.out]
         have e4 := Lib.hid k4
         have hx4 := Lib.hid (ext_trans hx3.out k4)
         clear k4)
      | (have _q := hx2
         go_at_call 115
         refine (under_c _ x _ (Hx.out.mono (ext_trans hww.out hx2.out))).mono ?_
         clear _q
         rintro e w2 ⟨vv, rfl, h3, k3⟩
         obtain ⟨P9, p9, c9, rfl⟩ := h3.form'
         have H3 := Lib.hid h3
         clear h3
         have e3 := Lib.hid k3
         have hx3 := Lib.hid (ext_trans hx2.out k3)
         clear k3)
      | (have _q := hx1
         go_at_call 120
         refine (row_c M HM.out _ x.num.natAbs _ (Hxn.out.mono (ext_trans hww.out hx1.out)) BX1.out (HT.out.mono (ext_trans hww.out hx1.out))).mono ?_
         clear _q
         rintro e w1 ⟨rfl, k2⟩
         rw [← HDL.out]
         have e2 := Lib.hid k2
         have hx2 := Lib.hid (ext_trans hx1.out k2)
         clear k2))
  all_goals
    go_wp2_with fail
    go_ret
    exact ⟨rfl, ext_trans hww.out hx4.out⟩
set_option maxRecDepth 100000 in
set_option maxHeartbeats 4000000 in
theorem slash_c (l : List UInt8) (hs : l.length ≤ 9223372036854775807) (w : World) :
    Calls Tryz.prog 54 #[.string ⟨l.toArray⟩] w fun e w' => e = .returned (.bool (decide ((47 : UInt8) ∈ l))) ∧ Ext w w' := by
  have hsz : (⟨l.toArray⟩ : ByteArray).size = l.length := by simp [ByteArray.size]
  go_enter Tryz.func54, Tryz.ntmps54
  go_wp2_with fail
  go_loopg [3] (l.length) (fun k i wr => ∃ c : Nat, c + k = l.length ∧ i = .int .i64 (c : Int) ∧ Hid ((47 : UInt8) ∉ l.take c) ∧ wr = w)
  case atStart => exact ⟨0, by omega, rfl, Lib.hid (by simp), rfl⟩
  case round =>
    obtain ⟨c, hc, rfl, HN, rfl⟩ := hrel
    rcases Nat.eq_zero_or_pos gk with hz | hz
    · subst hz
      obtain rfl : c = l.length := by omega
      have hno := HN.out
      rw [List.take_length] at hno
      have HNO := Lib.hid hno
      clear hno
      go_wp2_with fail
      go_ret
      exact ⟨by rw [decide_eq_false HNO.out]; rfl, ext_refl _⟩
    · have hlt : (c : Int) < (l.length : Int) := by omega
      have hcl : c < l.length := by omega
      have hz1 : c < (⟨l.toArray⟩ : ByteArray).size := by rw [hsz]; exact hcl
      have hge : (⟨l.toArray⟩ : ByteArray)[c]'hz1 = l[c] := by rfl
      have HC := Lib.hid hc
      have HZ0 := Lib.hid hz
      by_cases hb : l[c] = 47
      · have ht : ((((⟨l.toArray⟩ : ByteArray)[c]'hz1).toNat : Int) == 47) = true := by rw [hge, hb]; rfl
        have HM := Lib.hid (show (47 : UInt8) ∈ l by rw [← hb]; exact List.getElem_mem _)
        clear hb hge
        go_wp2_with fail
        go_ret
        exact ⟨by rw [decide_eq_true HM.out]; rfl, ext_refl _⟩
      · have ht : ((((⟨l.toArray⟩ : ByteArray)[c]'hz1).toNat : Int) == 47) = false := by
          rw [hge, beq_eq_false_iff_ne]
          intro e
          apply hb
          apply UInt8.toNat_inj.1
          have e47 : (47 : UInt8).toNat = 47 := rfl
          omega
        have HB := Lib.hid hb
        have HL := Lib.hid hcl
        clear hb hge
        go_wp2_with fail
        go_roundg (gk - 1)
        case measure => have := HZ0.out; omega
        case rel =>
          refine ⟨c + 1, by have := HC.out; have := HZ0.out; omega, by go_num, Lib.hid ?_, rfl⟩
          rw [List.take_succ_eq_append_getElem HL.out]
          intro h
          rcases List.mem_append.1 h with h | h
          · exact HN.out h
          · exact HB.out (List.mem_singleton.1 h).symm
end Go.Proofs.YtpgdefgdboijlaaGreatDoor
