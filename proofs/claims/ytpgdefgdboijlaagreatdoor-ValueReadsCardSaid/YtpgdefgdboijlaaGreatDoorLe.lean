/- The law of reading engineering texts: the walk. Printed by gen_le.py. -/
import Derived.Test.YtpgdefgdboijlaaGreatDoorRw
import Derived.Test.YtpgdefgdboijlaaGreatDoorPr
import Derived.Test.YtpgdefgdboijlaaGreatDoorVd
namespace Go.Proofs.YtpgdefgdboijlaaGreatDoor
open Go.RowKit
set_option linter.unusedVariables false
set_option maxRecDepth 100000 in
set_option maxHeartbeats 16000000 in
theorem reads_c (l : List UInt8) (hs : l.length ≤ 9223372036854775807) (w : World) (ht : Tab w) :
    Calls Tryz.prog 3 #[.string ⟨l.toArray⟩] w fun e w' => e = .returned (.bool true) ∧ Ext w w' := by
  have CT0 := Lib.hid (read_c l hs w ht.1)
  have CT1 := Lib.hid (read_n l hs)
  have BX := Lib.hid (read_small l)
  have HT := Lib.hid ht
  unfold ReadA at CT0
  unfold ReadN at CT1
  obtain ⟨x, hx⟩ : ∃ x, (readA l).2 = x := ⟨_, rfl⟩
  obtain ⟨k, hk⟩ : ∃ k, (readA l).1 = k := ⟨_, rfl⟩
  rw [hx, hk] at CT0 CT1
  rw [hx] at BX
  clear hs ht hx hk
  go_enter Tryz.func3, Tryz.ntmps3
  go_wp2_with fail
  refine CT0.out.mono ?_
  rintro e w1 ⟨vv, rfl, h9, k9⟩
  obtain ⟨b1, A1, k1, ca1, B1, l1, cb1, rfl⟩ := h9.form2
  have H1 := Lib.hid h9
  have e1 := Lib.hid (show Ext w w1 from k9)
  clear h9 k9
  go_wp2_with fail
  refine (CT1.out _).mono ?_
  rintro e w2 ⟨vv, rfl, h9, k9⟩
  obtain ⟨s2, C2, m2, cc2, D2, n2, cd2, rfl, -, -, -⟩ := h9.form
  have H2 := Lib.hid h9
  have e2 := Lib.hid (show Ext ((w1.alloc (.cells #[.bool b1, .slice A1 k1 ca1, .slice B1 l1 cb1] 25))) w2 from k9)
  clear h9 k9
  go_upto_region 3 with (fail)
  have F2 := ext_alloc w2 (.cells #[.int .i64 s2, .slice C2 m2 cc2, .slice D2 n2 cd2] 31)
  have F1 := ext_trans (ext_alloc w1 (.cells #[.bool b1, .slice A1 k1 ca1, .slice B1 l1 cb1] 25)) (ext_trans e2.out F2)
  have EX := Lib.hid (ext_trans e1.out F1)
  have TB := Lib.hid (HT.out.mono EX.out)
  have NX := Lib.hid (H1.out.mono F1)
  have NXR := Lib.hid (H2.out.mono F2)
  obtain ⟨q0, q1, q2, -⟩ := row3_0 (row3 (ext_trans e2.out F2))
  obtain ⟨q3, q4, q5, -⟩ := rowR_0 (rowR (ext_refl ((w2.alloc (.cells #[.int .i64 s2, .slice C2 m2 cc2, .slice D2 n2 cd2] 31)))))
  clear F1 F2 H1 H2 e1 e2 HT CT0
  generalize World.alloc w2 (.cells #[.int .i64 s2, .slice C2 m2 cc2, .slice D2 n2 cd2] _) = WR at *
  generalize w1.heap.size = g1 at *
  generalize w2.heap.size = g2 at *
  go_wp2_with fail
  refine (same_c 4001 (by decide) _ _ x _ NX.out NXR.out BX.out TB.out.2).mono ?_
  rintro e u1 ⟨rfl, k9⟩
  have K1 := Lib.hid k9
  clear k9 q0 q1 q2 q3 q4 q5
  go_wp2_with fail
  refine (awake_c _ (TB.out.mono K1.out)).mono ?_
  rintro e u2 ⟨rfl, k9⟩
  have K2 := Lib.hid (ext_trans K1.out k9)
  go_wp2_with fail
  go_ret
  exact ⟨rfl, ext_trans EX.out K2.out⟩
end Go.Proofs.YtpgdefgdboijlaaGreatDoor
