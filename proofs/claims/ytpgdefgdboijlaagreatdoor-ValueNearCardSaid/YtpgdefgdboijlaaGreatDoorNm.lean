/- The middle of a span. -/
import Derived.Test.YtpgdefgdboijlaaGreatDoorVa
import Derived.Test.YtpgdefgdboijlaaGreatDoorPn
import Derived.Test.YtpgdefgdboijlaaGreatDoorNe
import Derived.Test.YtpgdefgdboijlaaGreatDoorNh
namespace Go.Proofs.YtpgdefgdboijlaaGreatDoor
open Go.RowKit
set_option linter.unusedVariables false
set_option maxRecDepth 100000 in
set_option maxHeartbeats 4000000 in
theorem mid_c (M : Nat) (hM : M ≤ 1073741824) (v : Value) (lo hi : Rat) (w : World) (h : Sp w v lo hi) (b1 : Bq M lo) (b2 : Bq M hi) :
    Calls Tryz.prog 48 #[v] w fun e w' => ∃ v', e = .returned v' ∧ Nm w' v' ((lo + hi) * P2 (-1)) ∧ Ext w w' := by
  obtain ⟨c1, A, k, ca, B, l, cb, c2, C, m, cc, D, n, cd, rfl, h1, h2⟩ := h.form
  have H1 := Lib.hid h1
  have H2 := Lib.hid h2
  have B1 := Lib.hid b1
  have B2 := Lib.hid b2
  have HM := Lib.hid hM
  have HM1 := Lib.hid (show M + M + 1 ≤ 1099511627776 by omega)
  have BS := Lib.hid (b1.add b2)
  clear h h1 h2 b1 b2 hM
  go_enter Tryz.func48, Tryz.ntmps48
  go_wp2_with fail
  refine (add_q M (Nat.le_trans HM.out (by decide)) _ _ lo hi _ (H1.out.mono (ext2 _ _ _)) (H2.out.mono (ext2 _ _ _)) B1.out B2.out).mono ?_
  rintro e w3 ⟨v3, rfl, h3, k3⟩
  obtain ⟨b3, A3, n3, c3, B3, l3, d3, rfl⟩ := h3.form2
  have H3 := Lib.hid h3
  have K3 := Lib.hid k3
  clear h3 k3
  go_wp2_with fail
  refine (shifted_q (M + M + 1) HM1.out (-1) (by decide) _ (lo + hi) _ H3.out BS.out).mono ?_
  rintro e w4 ⟨v4, rfl, h4, k4⟩
  obtain ⟨b4, A4, n4, c4, B4, l4, d4, rfl⟩ := h4.form2
  rw [sh_p2] at h4
  have H4 := Lib.hid h4
  have hrz : w4.heap[w.heap.size + 1]? = some (.cells #[.bool false, .slice none 0 0, .slice none 0 0] 25 (0, 0)) := by
    have q := row3 (ext_trans K3.out k4)
    simpa using q
  obtain ⟨z0, z1, z2, f0, f1, f2⟩ := row3_0 hrz
  have HRZ := Lib.hid hrz
  have KW := Lib.hid (ext_trans (ext2 _ _ _) (ext_trans K3.out k4))
  clear hrz h4 k4
  go_wp2_with fail
  refine bodyPost_ret (v := .agg #[.bool b4, .slice A4 n4 c4, .slice B4 l4 d4]) (by simp [results, Tryz.f48]; go_simp) rfl ?_
  exact ⟨_, rfl, H4.out.put3 HRZ.out, ext_put3 KW.out (Nat.le_succ _) _ _ _⟩
end Go.Proofs.YtpgdefgdboijlaaGreatDoor
