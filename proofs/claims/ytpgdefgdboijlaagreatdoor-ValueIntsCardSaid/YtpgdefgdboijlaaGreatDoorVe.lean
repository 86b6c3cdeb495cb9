/- The laws' helper: three texts are read. Printed by gen_ve.py. -/
import Derived.Test.YtpgdefgdboijlaaGreatDoorUa
import Derived.Test.YtpgdefgdboijlaaGreatDoorTg
import Derived.Deep.RegionHeld3
namespace Go.Proofs.YtpgdefgdboijlaaGreatDoor
open Go.RowKit
set_option linter.unusedVariables false
theorem parse_err (l : List UInt8) : (parseS l).1 = 0 ∨ (parseS l).1 = 3 ∨ (parseS l).1 = 6 := by
  unfold parseS
  dsimp only
  repeat' split
  all_goals first | (left; rfl) | (right; left; rfl) | (right; right; rfl)
theorem put3_other {W : World} {g k : Nat} {o : Obj} (h : W.heap[k]? = some o) (hne : k ≠ g) (a b c : Value) :
    (((W.setCell ⟨g, 0, none⟩ a).setCell ⟨g, 1, none⟩ b).setCell ⟨g, 2, none⟩ c).heap[k]? = some o := by
  rw [Below.heap_setCell _ _ _ _ hne, Below.heap_setCell _ _ _ _ hne, Below.heap_setCell _ _ _ _ hne]; exact h
def zrow3 : Obj := .cells #[.bool false, .slice none 0 0, .slice none 0 0] 25 (0, 0)
theorem Nm.puts3 {W : World} {v : Value} {q : Rat} {g0 g1 g2 : Nat} (h : Nm W v q) (z0 : W.heap[g0]? = some zrow3) (z1 : W.heap[g1]? = some zrow3) (z2 : W.heap[g2]? = some zrow3)
    (n1 : g1 ≠ g0) (n2 : g2 ≠ g0) (n3 : g2 ≠ g1) (a b c a' b' c' a'' b'' c'' : Value) :
    Nm (((((((((W.setCell ⟨g0, 0, none⟩ a).setCell ⟨g0, 1, none⟩ b).setCell ⟨g0, 2, none⟩ c).setCell ⟨g1, 0, none⟩ a').setCell ⟨g1, 1, none⟩ b').setCell ⟨g1, 2, none⟩ c').setCell ⟨g2, 0, none⟩ a'').setCell ⟨g2, 1, none⟩ b'').setCell ⟨g2, 2, none⟩ c'') v q :=
  ((h.put3' z0 _ _ _).put3' (put3_other z1 n1 _ _ _) _ _ _).put3' (put3_other (put3_other z2 n2 _ _ _) n3 _ _ _) _ _ _
def ThreeR (u v x : List UInt8) (w w' : World) (e : Ending) : Prop :=
  ∃ a b c, e = .returned (.tuple #[a, b, c, .bool ((parseS u).1 == 0 && (parseS v).1 == 0 && (parseS x).1 == 0)]) ∧ Nm w' a (parseS u).2 ∧ Nm w' b (parseS v).2 ∧ Nm w' c (parseS x).2 ∧ Ext w w'
set_option maxRecDepth 100000 in
set_option maxHeartbeats 4000000 in
theorem three_c (u v x : List UInt8) (hu : u.length ≤ 9223372036854775807) (hv : v.length ≤ 9223372036854775807) (hx : x.length ≤ 9223372036854775807) (w : World) :
    Calls Tryz.prog 49 #[.string ⟨u.toArray⟩, .string ⟨v.toArray⟩, .string ⟨x.toArray⟩] w fun e w' => ThreeR u v x w w' e := by
  have PU := Lib.hid (parse_c u hu)
  have PV := Lib.hid (parse_c v hv)
  have PX := Lib.hid (parse_c x hx)
  have pu := Lib.hid (parse_err u)
  have pv := Lib.hid (parse_err v)
  have px := Lib.hid (parse_err x)
  clear hu hv hx
  unfold ThreeR
  unfold ParseR at PU PV PX
  generalize (parseS u).1 = eu at *
  generalize (parseS v).1 = ev at *
  generalize (parseS x).1 = ex at *
  generalize (parseS u).2 = qu at *
  generalize (parseS v).2 = qv at *
  generalize (parseS x).2 = qx at *
  go_enter Tryz.func49, Tryz.ntmps49
  go_wp2_with fail
  have hz0 := Lib.hid (show (((w.alloc (.cells #[.bool false, .slice none 0 0, .slice none 0 0] 25)).alloc (.cells #[.bool false, .slice none 0 0, .slice none 0 0] 25)).alloc (.cells #[.bool false, .slice none 0 0, .slice none 0 0] 25)).heap[w.heap.size]? = some zrow3 from (ext_alloc _ _).block _ (by simp; omega) |>.trans ((ext_alloc _ _).block _ (by simp) |>.trans (heap_alloc_new _ _)))
  have hz1 := Lib.hid (show (((w.alloc (.cells #[.bool false, .slice none 0 0, .slice none 0 0] 25)).alloc (.cells #[.bool false, .slice none 0 0, .slice none 0 0] 25)).alloc (.cells #[.bool false, .slice none 0 0, .slice none 0 0] 25)).heap[w.heap.size + 1]? = some zrow3 from (ext_alloc _ _).block _ (by simp) |>.trans (by rw [← heap_size_alloc' w (.cells #[.bool false, .slice none 0 0, .slice none 0 0] 25)]; exact heap_alloc_new _ _))
  have hz2 := Lib.hid (show (((w.alloc (.cells #[.bool false, .slice none 0 0, .slice none 0 0] 25)).alloc (.cells #[.bool false, .slice none 0 0, .slice none 0 0] 25)).alloc (.cells #[.bool false, .slice none 0 0, .slice none 0 0] 25)).heap[w.heap.size + 1 + 1]? = some zrow3 from by rw [← heap_size_alloc' w (.cells #[.bool false, .slice none 0 0, .slice none 0 0] 25), ← heap_size_alloc' (w.alloc (.cells #[.bool false, .slice none 0 0, .slice none 0 0] 25)) (.cells #[.bool false, .slice none 0 0, .slice none 0 0] 25)]; exact heap_alloc_new _ _)
  have E0 := Lib.hid (show Ext w (((w.alloc (.cells #[.bool false, .slice none 0 0, .slice none 0 0] 25)).alloc (.cells #[.bool false, .slice none 0 0, .slice none 0 0] 25)).alloc (.cells #[.bool false, .slice none 0 0, .slice none 0 0] 25)) from ext_trans (ext_alloc _ _) (ext_trans (ext_alloc _ _) (ext_alloc _ _)))
  have hsz := Lib.hid (show w.heap.size + 1 + 1 < (((w.alloc (.cells #[.bool false, .slice none 0 0, .slice none 0 0] 25)).alloc (.cells #[.bool false, .slice none 0 0, .slice none 0 0] 25)).alloc (.cells #[.bool false, .slice none 0 0, .slice none 0 0] 25)).heap.size by simp)
  generalize (((w.alloc (.cells #[.bool false, .slice none 0 0, .slice none 0 0] 25)).alloc (.cells #[.bool false, .slice none 0 0, .slice none 0 0] 25)).alloc (.cells #[.bool false, .slice none 0 0, .slice none 0 0] 25)) = W0 at *
  refine (PU.out _).mono ?_
  rintro e w1 ⟨v1, rfl, h1, j1⟩
  obtain ⟨b1, A1, k1, ca1, B1, l1, cb1, rfl⟩ := h1.form2
  have H1 := Lib.hid h1
  have J1 := Lib.hid j1
  clear h1 j1
  go_wp2_with fail
  refine (PV.out _).mono ?_
  rintro e w2 ⟨v2, rfl, h2, j2⟩
  obtain ⟨b2, A2, k2, ca2, B2, l2, cb2, rfl⟩ := h2.form2
  have H2 := Lib.hid h2
  have J2 := Lib.hid j2
  clear h2 j2
  go_wp2_with fail
  refine (PX.out _).mono ?_
  rintro e w3 ⟨v3, rfl, h3, j3⟩
  obtain ⟨b3, A3, k3, ca3, B3, l3, cb3, rfl⟩ := h3.form2
  have H3 := Lib.hid h3
  have J3 := Lib.hid j3
  clear h3 j3
  go_upto_region 4 with (fail)
  have F3 := Lib.hid (ext_alloc w3 (.cells #[.bool b3, .slice A3 k3 ca3, .slice B3 l3 cb3] 25))
  have F23 := Lib.hid (ext_trans J3.out F3.out)
  have F2 := Lib.hid (ext_trans (ext_alloc w2 (.cells #[.bool b2, .slice A2 k2 ca2, .slice B2 l2 cb2] 25)) F23.out)
  have F12 := Lib.hid (ext_trans J2.out F2.out)
  have F1 := Lib.hid (ext_trans (ext_alloc w1 (.cells #[.bool b1, .slice A1 k1 ca1, .slice B1 l1 cb1] 25)) F12.out)
  have F0 := Lib.hid (ext_trans J1.out F1.out)
  have R3 := Lib.hid (show (w3.alloc (.cells #[.bool b3, .slice A3 k3 ca3, .slice B3 l3 cb3] 25)).heap[w3.heap.size]? = some (.cells #[.bool b3, .slice A3 k3 ca3, .slice B3 l3 cb3] 25 (0, 0)) from heap_alloc_new _ _)
  have R2 := Lib.hid (show (w3.alloc (.cells #[.bool b3, .slice A3 k3 ca3, .slice B3 l3 cb3] 25)).heap[w2.heap.size]? = some (.cells #[.bool b2, .slice A2 k2 ca2, .slice B2 l2 cb2] 25 (0, 0)) from row3 F23.out)
  have R1 := Lib.hid (show (w3.alloc (.cells #[.bool b3, .slice A3 k3 ca3, .slice B3 l3 cb3] 25)).heap[w1.heap.size]? = some (.cells #[.bool b1, .slice A1 k1 ca1, .slice B1 l1 cb1] 25 (0, 0)) from row3 F12.out)
  have Z0 := Lib.hid (show (w3.alloc (.cells #[.bool b3, .slice A3 k3 ca3, .slice B3 l3 cb3] 25)).heap[w.heap.size]? = some zrow3 from (F0.out.block _ (lt_of_block hz0.out)).trans hz0.out)
  have Z1 := Lib.hid (show (w3.alloc (.cells #[.bool b3, .slice A3 k3 ca3, .slice B3 l3 cb3] 25)).heap[w.heap.size + 1]? = some zrow3 from (F0.out.block _ (lt_of_block hz1.out)).trans hz1.out)
  have Z2 := Lib.hid (show (w3.alloc (.cells #[.bool b3, .slice A3 k3 ca3, .slice B3 l3 cb3] 25)).heap[w.heap.size + 1 + 1]? = some zrow3 from (F0.out.block _ (lt_of_block hz2.out)).trans hz2.out)
  have N1 := Lib.hid (H1.out.mono F1.out)
  have N2 := Lib.hid (H2.out.mono F2.out)
  have N3 := Lib.hid (H3.out.mono F3.out)
  have EX := Lib.hid (ext_trans E0.out F0.out)
  have s1 : w.heap.size + 1 + 1 < w1.heap.size := Nat.lt_of_lt_of_le hsz.out J1.out.size
  have s2 : w.heap.size + 1 + 1 < w2.heap.size := Nat.lt_of_lt_of_le s1 (ext_trans (ext_alloc w1 (.cells #[.bool b1, .slice A1 k1 ca1, .slice B1 l1 cb1] 25)) J2.out).size
  have s3 : w.heap.size + 1 + 1 < w3.heap.size := Nat.lt_of_lt_of_le s2 (ext_trans (ext_alloc w2 (.cells #[.bool b2, .slice A2 k2 ca2, .slice B2 l2 cb2] 25)) J3.out).size
  clear F0 F1 F2 F3 F12 F23 E0 J1 J2 J3 H1 H2 H3 hz0 hz1 hz2 hsz
  generalize w3.alloc (.cells #[.bool b3, .slice A3 k3 ca3, .slice B3 l3 cb3] _) = WX at *
  generalize w1.heap.size = a1 at *
  generalize w2.heap.size = a2 at *
  generalize w3.heap.size = a3 at *
  generalize hg : w.heap.size = g at *
  have n10 := Lib.hid (show a1 ≠ g by omega)
  have n11 := Lib.hid (show a1 ≠ g + 1 by omega)
  have n12 := Lib.hid (show a1 ≠ g + 1 + 1 by omega)
  have n20 := Lib.hid (show a2 ≠ g by omega)
  have n21 := Lib.hid (show a2 ≠ g + 1 by omega)
  have n22 := Lib.hid (show a2 ≠ g + 1 + 1 by omega)
  have n30 := Lib.hid (show a3 ≠ g by omega)
  have n31 := Lib.hid (show a3 ≠ g + 1 by omega)
  have n32 := Lib.hid (show a3 ≠ g + 1 + 1 by omega)
  have HG := Lib.hid (show w.heap.size ≤ g by omega)
  have HG1 := Lib.hid (show w.heap.size ≤ g + 1 by omega)
  have HG2 := Lib.hid (show w.heap.size ≤ g + 1 + 1 by omega)
  have m10 := Lib.hid (show g + 1 ≠ g by omega)
  have m20 := Lib.hid (show g + 1 + 1 ≠ g by omega)
  have m21 := Lib.hid (show g + 1 + 1 ≠ g + 1 by omega)
  clear s1 s2 s3
  have HC := Lib.hid (show ∀ W : World, W.heap[a1]? = some (.cells #[.bool b1, .slice A1 k1 ca1, .slice B1 l1 cb1] 25 (0, 0)) → W.heap[a2]? = some (.cells #[.bool b2, .slice A2 k2 ca2, .slice B2 l2 cb2] 25 (0, 0)) → W.heap[a3]? = some (.cells #[.bool b3, .slice A3 k3 ca3, .slice B3 l3 cb3] 25 (0, 0)) → W.cell? ⟨a1, 0, none⟩ = some (.bool b1) ∧ W.cell? ⟨a1, 1, none⟩ = some (.slice A1 k1 ca1) ∧ W.cell? ⟨a1, 2, none⟩ = some (.slice B1 l1 cb1) ∧ W.cell? ⟨a2, 0, none⟩ = some (.bool b2) ∧ W.cell? ⟨a2, 1, none⟩ = some (.slice A2 k2 ca2) ∧ W.cell? ⟨a2, 2, none⟩ = some (.slice B2 l2 cb2) ∧ W.cell? ⟨a3, 0, none⟩ = some (.bool b3) ∧ W.cell? ⟨a3, 1, none⟩ = some (.slice A3 k3 ca3) ∧ W.cell? ⟨a3, 2, none⟩ = some (.slice B3 l3 cb3) from fun W r1 r2 r3 => by
    obtain ⟨p0, p1, p2, -⟩ := row3_0 r1
    obtain ⟨q0, q1, q2, -⟩ := row3_0 r2
    obtain ⟨s0, s1, s2, -⟩ := row3_0 r3
    exact ⟨p0, p1, p2, q0, q1, q2, s0, s1, s2⟩)
  obtain ⟨y0, y1, y2, yf0, yf1, yf2⟩ := row3_0 Z0.out
  obtain ⟨y3, y4, y5, yf3, yf4, yf5⟩ := row3_0 Z1.out
  obtain ⟨y6, y7, y8, yf6, yf7, yf8⟩ := row3_0 Z2.out
  have hS0 : WX.cell? ⟨a1, 0, none⟩ = some (.bool b1) ∧ WX.cell? ⟨a1, 1, none⟩ = some (.slice A1 k1 ca1) ∧ WX.cell? ⟨a1, 2, none⟩ = some (.slice B1 l1 cb1) ∧ WX.cell? ⟨a2, 0, none⟩ = some (.bool b2) ∧ WX.cell? ⟨a2, 1, none⟩ = some (.slice A2 k2 ca2) ∧ WX.cell? ⟨a2, 2, none⟩ = some (.slice B2 l2 cb2) ∧ WX.cell? ⟨a3, 0, none⟩ = some (.bool b3) ∧ WX.cell? ⟨a3, 1, none⟩ = some (.slice A3 k3 ca3) ∧ WX.cell? ⟨a3, 2, none⟩ = some (.slice B3 l3 cb3) := HC.out WX R1.out R2.out R3.out
  have hpu := pu.out
  have hpv := pv.out
  have hpx := px.out
  clear pu pv px PU PV PX
  rcases hpu with rfl | rfl | rfl
  · rcases hpv with rfl | rfl | rfl
    · rcases hpx with rfl | rfl | rfl
      · obtain ⟨c0, c1, c2, c3, c4, c5, c6, c7, c8⟩ := hS0
        have u10 := n10.out
        have u11 := n11.out
        have u12 := n12.out
        have u20 := n20.out
        have u21 := n21.out
        have u22 := n22.out
        have u30 := n30.out
        have u31 := n31.out
        have u32 := n32.out
        go_big_region
        clear c0 c1 c2 c3 c4 c5 c6 c7 c8 u10 u11 u12 u20 u21 u22 u30 u31 u32
        all_goals
          go_wp2_with fail
          have hr0 : (((((((((WX.setCell ⟨g, 0, none⟩ (.bool b1)).setCell ⟨g, 1, none⟩ (.slice A1 k1 ca1)).setCell ⟨g, 2, none⟩ (.slice B1 l1 cb1)).setCell ⟨g + 1, 0, none⟩ (.bool b2)).setCell ⟨g + 1, 1, none⟩ (.slice A2 k2 ca2)).setCell ⟨g + 1, 2, none⟩ (.slice B2 l2 cb2)).setCell ⟨g + 1 + 1, 0, none⟩ (.bool b3)).setCell ⟨g + 1 + 1, 1, none⟩ (.slice A3 k3 ca3)).setCell ⟨g + 1 + 1, 2, none⟩ (.slice B3 l3 cb3)).heap[g]? = some (.cells #[.bool b1, .slice A1 k1 ca1, .slice B1 l1 cb1] 25 (0, 0)) := put3_other (put3_other (put3_row Z0.out _ _ _) m10.out.symm _ _ _) m20.out.symm _ _ _
          have hr1 : (((((((((WX.setCell ⟨g, 0, none⟩ (.bool b1)).setCell ⟨g, 1, none⟩ (.slice A1 k1 ca1)).setCell ⟨g, 2, none⟩ (.slice B1 l1 cb1)).setCell ⟨g + 1, 0, none⟩ (.bool b2)).setCell ⟨g + 1, 1, none⟩ (.slice A2 k2 ca2)).setCell ⟨g + 1, 2, none⟩ (.slice B2 l2 cb2)).setCell ⟨g + 1 + 1, 0, none⟩ (.bool b3)).setCell ⟨g + 1 + 1, 1, none⟩ (.slice A3 k3 ca3)).setCell ⟨g + 1 + 1, 2, none⟩ (.slice B3 l3 cb3)).heap[g + 1]? = some (.cells #[.bool b2, .slice A2 k2 ca2, .slice B2 l2 cb2] 25 (0, 0)) := put3_other (put3_row (put3_other Z1.out m10.out _ _ _) _ _ _) m21.out.symm _ _ _
          have hr2 : (((((((((WX.setCell ⟨g, 0, none⟩ (.bool b1)).setCell ⟨g, 1, none⟩ (.slice A1 k1 ca1)).setCell ⟨g, 2, none⟩ (.slice B1 l1 cb1)).setCell ⟨g + 1, 0, none⟩ (.bool b2)).setCell ⟨g + 1, 1, none⟩ (.slice A2 k2 ca2)).setCell ⟨g + 1, 2, none⟩ (.slice B2 l2 cb2)).setCell ⟨g + 1 + 1, 0, none⟩ (.bool b3)).setCell ⟨g + 1 + 1, 1, none⟩ (.slice A3 k3 ca3)).setCell ⟨g + 1 + 1, 2, none⟩ (.slice B3 l3 cb3)).heap[g + 1 + 1]? = some (.cells #[.bool b3, .slice A3 k3 ca3, .slice B3 l3 cb3] 25 (0, 0)) := put3_row (put3_other (put3_other Z2.out m20.out _ _ _) m21.out _ _ _) _ _ _
          have M1 := Lib.hid (show Nm (((((((((WX.setCell ⟨g, 0, none⟩ (.bool b1)).setCell ⟨g, 1, none⟩ (.slice A1 k1 ca1)).setCell ⟨g, 2, none⟩ (.slice B1 l1 cb1)).setCell ⟨g + 1, 0, none⟩ (.bool b2)).setCell ⟨g + 1, 1, none⟩ (.slice A2 k2 ca2)).setCell ⟨g + 1, 2, none⟩ (.slice B2 l2 cb2)).setCell ⟨g + 1 + 1, 0, none⟩ (.bool b3)).setCell ⟨g + 1 + 1, 1, none⟩ (.slice A3 k3 ca3)).setCell ⟨g + 1 + 1, 2, none⟩ (.slice B3 l3 cb3)) (.agg #[.bool b1, .slice A1 k1 ca1, .slice B1 l1 cb1]) _ from N1.out.puts3 Z0.out Z1.out Z2.out m10.out m20.out m21.out _ _ _ _ _ _ _ _ _)
          have M2 := Lib.hid (show Nm (((((((((WX.setCell ⟨g, 0, none⟩ (.bool b1)).setCell ⟨g, 1, none⟩ (.slice A1 k1 ca1)).setCell ⟨g, 2, none⟩ (.slice B1 l1 cb1)).setCell ⟨g + 1, 0, none⟩ (.bool b2)).setCell ⟨g + 1, 1, none⟩ (.slice A2 k2 ca2)).setCell ⟨g + 1, 2, none⟩ (.slice B2 l2 cb2)).setCell ⟨g + 1 + 1, 0, none⟩ (.bool b3)).setCell ⟨g + 1 + 1, 1, none⟩ (.slice A3 k3 ca3)).setCell ⟨g + 1 + 1, 2, none⟩ (.slice B3 l3 cb3)) (.agg #[.bool b2, .slice A2 k2 ca2, .slice B2 l2 cb2]) _ from N2.out.puts3 Z0.out Z1.out Z2.out m10.out m20.out m21.out _ _ _ _ _ _ _ _ _)
          have M3 := Lib.hid (show Nm (((((((((WX.setCell ⟨g, 0, none⟩ (.bool b1)).setCell ⟨g, 1, none⟩ (.slice A1 k1 ca1)).setCell ⟨g, 2, none⟩ (.slice B1 l1 cb1)).setCell ⟨g + 1, 0, none⟩ (.bool b2)).setCell ⟨g + 1, 1, none⟩ (.slice A2 k2 ca2)).setCell ⟨g + 1, 2, none⟩ (.slice B2 l2 cb2)).setCell ⟨g + 1 + 1, 0, none⟩ (.bool b3)).setCell ⟨g + 1 + 1, 1, none⟩ (.slice A3 k3 ca3)).setCell ⟨g + 1 + 1, 2, none⟩ (.slice B3 l3 cb3)) (.agg #[.bool b3, .slice A3 k3 ca3, .slice B3 l3 cb3]) _ from N3.out.puts3 Z0.out Z1.out Z2.out m10.out m20.out m21.out _ _ _ _ _ _ _ _ _)
          have MX := Lib.hid (show Ext w (((((((((WX.setCell ⟨g, 0, none⟩ (.bool b1)).setCell ⟨g, 1, none⟩ (.slice A1 k1 ca1)).setCell ⟨g, 2, none⟩ (.slice B1 l1 cb1)).setCell ⟨g + 1, 0, none⟩ (.bool b2)).setCell ⟨g + 1, 1, none⟩ (.slice A2 k2 ca2)).setCell ⟨g + 1, 2, none⟩ (.slice B2 l2 cb2)).setCell ⟨g + 1 + 1, 0, none⟩ (.bool b3)).setCell ⟨g + 1 + 1, 1, none⟩ (.slice A3 k3 ca3)).setCell ⟨g + 1 + 1, 2, none⟩ (.slice B3 l3 cb3)) from ext_put3 (ext_put3 (ext_put3 EX.out HG.out _ _ _) HG1.out _ _ _) HG2.out _ _ _)
          clear y0 y1 y2 y3 y4 y5 y6 y7 y8 yf0 yf1 yf2 yf3 yf4 yf5 yf6 yf7 yf8 HC R1 R2 R3 Z0 Z1 Z2 N1 N2 N3 EX
          try clear hHeld
          generalize (((((((((WX.setCell ⟨g, 0, none⟩ (.bool b1)).setCell ⟨g, 1, none⟩ (.slice A1 k1 ca1)).setCell ⟨g, 2, none⟩ (.slice B1 l1 cb1)).setCell ⟨g + 1, 0, none⟩ (.bool b2)).setCell ⟨g + 1, 1, none⟩ (.slice A2 k2 ca2)).setCell ⟨g + 1, 2, none⟩ (.slice B2 l2 cb2)).setCell ⟨g + 1 + 1, 0, none⟩ (.bool b3)).setCell ⟨g + 1 + 1, 1, none⟩ (.slice A3 k3 ca3)).setCell ⟨g + 1 + 1, 2, none⟩ (.slice B3 l3 cb3)) = WF at *
          obtain ⟨y0, y1, y2, -⟩ := row3_0 hr0
          obtain ⟨y3, y4, y5, -⟩ := row3_0 hr1
          obtain ⟨y6, y7, y8, -⟩ := row3_0 hr2
          clear hr0 hr1 hr2
          refine bodyPost_ret (v := .tuple #[.agg #[.bool b1, .slice A1 k1 ca1, .slice B1 l1 cb1], .agg #[.bool b2, .slice A2 k2 ca2, .slice B2 l2 cb2], .agg #[.bool b3, .slice A3 k3 ca3, .slice B3 l3 cb3], .bool true]) (by simp [results, Tryz.f49]; go_simp) rfl ?_
          exact ⟨_, _, _, rfl, M1.out.mono (ext_drew _), M2.out.mono (ext_drew _), M3.out.mono (ext_drew _), ext_trans MX.out (ext_drew _)⟩
      · obtain ⟨c0, c1, c2, c3, c4, c5, c6, c7, c8⟩ := hS0
        have u10 := n10.out
        have u11 := n11.out
        have u12 := n12.out
        have u20 := n20.out
        have u21 := n21.out
        have u22 := n22.out
        have u30 := n30.out
        have u31 := n31.out
        have u32 := n32.out
        go_big_region
        clear c0 c1 c2 c3 c4 c5 c6 c7 c8 u10 u11 u12 u20 u21 u22 u30 u31 u32
        all_goals
          go_wp2_with fail
          have hr0 : (((((((((WX.setCell ⟨g, 0, none⟩ (.bool b1)).setCell ⟨g, 1, none⟩ (.slice A1 k1 ca1)).setCell ⟨g, 2, none⟩ (.slice B1 l1 cb1)).setCell ⟨g + 1, 0, none⟩ (.bool b2)).setCell ⟨g + 1, 1, none⟩ (.slice A2 k2 ca2)).setCell ⟨g + 1, 2, none⟩ (.slice B2 l2 cb2)).setCell ⟨g + 1 + 1, 0, none⟩ (.bool b3)).setCell ⟨g + 1 + 1, 1, none⟩ (.slice A3 k3 ca3)).setCell ⟨g + 1 + 1, 2, none⟩ (.slice B3 l3 cb3)).heap[g]? = some (.cells #[.bool b1, .slice A1 k1 ca1, .slice B1 l1 cb1] 25 (0, 0)) := put3_other (put3_other (put3_row Z0.out _ _ _) m10.out.symm _ _ _) m20.out.symm _ _ _
          have hr1 : (((((((((WX.setCell ⟨g, 0, none⟩ (.bool b1)).setCell ⟨g, 1, none⟩ (.slice A1 k1 ca1)).setCell ⟨g, 2, none⟩ (.slice B1 l1 cb1)).setCell ⟨g + 1, 0, none⟩ (.bool b2)).setCell ⟨g + 1, 1, none⟩ (.slice A2 k2 ca2)).setCell ⟨g + 1, 2, none⟩ (.slice B2 l2 cb2)).setCell ⟨g + 1 + 1, 0, none⟩ (.bool b3)).setCell ⟨g + 1 + 1, 1, none⟩ (.slice A3 k3 ca3)).setCell ⟨g + 1 + 1, 2, none⟩ (.slice B3 l3 cb3)).heap[g + 1]? = some (.cells #[.bool b2, .slice A2 k2 ca2, .slice B2 l2 cb2] 25 (0, 0)) := put3_other (put3_row (put3_other Z1.out m10.out _ _ _) _ _ _) m21.out.symm _ _ _
          have hr2 : (((((((((WX.setCell ⟨g, 0, none⟩ (.bool b1)).setCell ⟨g, 1, none⟩ (.slice A1 k1 ca1)).setCell ⟨g, 2, none⟩ (.slice B1 l1 cb1)).setCell ⟨g + 1, 0, none⟩ (.bool b2)).setCell ⟨g + 1, 1, none⟩ (.slice A2 k2 ca2)).setCell ⟨g + 1, 2, none⟩ (.slice B2 l2 cb2)).setCell ⟨g + 1 + 1, 0, none⟩ (.bool b3)).setCell ⟨g + 1 + 1, 1, none⟩ (.slice A3 k3 ca3)).setCell ⟨g + 1 + 1, 2, none⟩ (.slice B3 l3 cb3)).heap[g + 1 + 1]? = some (.cells #[.bool b3, .slice A3 k3 ca3, .slice B3 l3 cb3] 25 (0, 0)) := put3_row (put3_other (put3_other Z2.out m20.out _ _ _) m21.out _ _ _) _ _ _
          have M1 := Lib.hid (show Nm (((((((((WX.setCell ⟨g, 0, none⟩ (.bool b1)).setCell ⟨g, 1, none⟩ (.slice A1 k1 ca1)).setCell ⟨g, 2, none⟩ (.slice B1 l1 cb1)).setCell ⟨g + 1, 0, none⟩ (.bool b2)).setCell ⟨g + 1, 1, none⟩ (.slice A2 k2 ca2)).setCell ⟨g + 1, 2, none⟩ (.slice B2 l2 cb2)).setCell ⟨g + 1 + 1, 0, none⟩ (.bool b3)).setCell ⟨g + 1 + 1, 1, none⟩ (.slice A3 k3 ca3)).setCell ⟨g + 1 + 1, 2, none⟩ (.slice B3 l3 cb3)) (.agg #[.bool b1, .slice A1 k1 ca1, .slice B1 l1 cb1]) _ from N1.out.puts3 Z0.out Z1.out Z2.out m10.out m20.out m21.out _ _ _ _ _ _ _ _ _)
          have M2 := Lib.hid (show Nm (((((((((WX.setCell ⟨g, 0, none⟩ (.bool b1)).setCell ⟨g, 1, none⟩ (.slice A1 k1 ca1)).setCell ⟨g, 2, none⟩ (.slice B1 l1 cb1)).setCell ⟨g + 1, 0, none⟩ (.bool b2)).setCell ⟨g + 1, 1, none⟩ (.slice A2 k2 ca2)).setCell ⟨g + 1, 2, none⟩ (.slice B2 l2 cb2)).setCell ⟨g + 1 + 1, 0, none⟩ (.bool b3)).setCell ⟨g + 1 + 1, 1, none⟩ (.slice A3 k3 ca3)).setCell ⟨g + 1 + 1, 2, none⟩ (.slice B3 l3 cb3)) (.agg #[.bool b2, .slice A2 k2 ca2, .slice B2 l2 cb2]) _ from N2.out.puts3 Z0.out Z1.out Z2.out m10.out m20.out m21.out _ _ _ _ _ _ _ _ _)
          have M3 := Lib.hid (show Nm (((((((((WX.setCell ⟨g, 0, none⟩ (.bool b1)).setCell ⟨g, 1, none⟩ (.slice A1 k1 ca1)).setCell ⟨g, 2, none⟩ (.slice B1 l1 cb1)).setCell ⟨g + 1, 0, none⟩ (.bool b2)).setCell ⟨g + 1, 1, none⟩ (.slice A2 k2 ca2)).setCell ⟨g + 1, 2, none⟩ (.slice B2 l2 cb2)).setCell ⟨g + 1 + 1, 0, none⟩ (.bool b3)).setCell ⟨g + 1 + 1, 1, none⟩ (.slice A3 k3 ca3)).setCell ⟨g + 1 + 1, 2, none⟩ (.slice B3 l3 cb3)) (.agg #[.bool b3, .slice A3 k3 ca3, .slice B3 l3 cb3]) _ from N3.out.puts3 Z0.out Z1.out Z2.out m10.out m20.out m21.out _ _ _ _ _ _ _ _ _)
          have MX := Lib.hid (show Ext w (((((((((WX.setCell ⟨g, 0, none⟩ (.bool b1)).setCell ⟨g, 1, none⟩ (.slice A1 k1 ca1)).setCell ⟨g, 2, none⟩ (.slice B1 l1 cb1)).setCell ⟨g + 1, 0, none⟩ (.bool b2)).setCell ⟨g + 1, 1, none⟩ (.slice A2 k2 ca2)).setCell ⟨g + 1, 2, none⟩ (.slice B2 l2 cb2)).setCell ⟨g + 1 + 1, 0, none⟩ (.bool b3)).setCell ⟨g + 1 + 1, 1, none⟩ (.slice A3 k3 ca3)).setCell ⟨g + 1 + 1, 2, none⟩ (.slice B3 l3 cb3)) from ext_put3 (ext_put3 (ext_put3 EX.out HG.out _ _ _) HG1.out _ _ _) HG2.out _ _ _)
          clear y0 y1 y2 y3 y4 y5 y6 y7 y8 yf0 yf1 yf2 yf3 yf4 yf5 yf6 yf7 yf8 HC R1 R2 R3 Z0 Z1 Z2 N1 N2 N3 EX
          try clear hHeld
          generalize (((((((((WX.setCell ⟨g, 0, none⟩ (.bool b1)).setCell ⟨g, 1, none⟩ (.slice A1 k1 ca1)).setCell ⟨g, 2, none⟩ (.slice B1 l1 cb1)).setCell ⟨g + 1, 0, none⟩ (.bool b2)).setCell ⟨g + 1, 1, none⟩ (.slice A2 k2 ca2)).setCell ⟨g + 1, 2, none⟩ (.slice B2 l2 cb2)).setCell ⟨g + 1 + 1, 0, none⟩ (.bool b3)).setCell ⟨g + 1 + 1, 1, none⟩ (.slice A3 k3 ca3)).setCell ⟨g + 1 + 1, 2, none⟩ (.slice B3 l3 cb3)) = WF at *
          obtain ⟨y0, y1, y2, -⟩ := row3_0 hr0
          obtain ⟨y3, y4, y5, -⟩ := row3_0 hr1
          obtain ⟨y6, y7, y8, -⟩ := row3_0 hr2
          clear hr0 hr1 hr2
          refine bodyPost_ret (v := .tuple #[.agg #[.bool b1, .slice A1 k1 ca1, .slice B1 l1 cb1], .agg #[.bool b2, .slice A2 k2 ca2, .slice B2 l2 cb2], .agg #[.bool b3, .slice A3 k3 ca3, .slice B3 l3 cb3], .bool false]) (by simp [results, Tryz.f49]; go_simp) rfl ?_
          exact ⟨_, _, _, rfl, M1.out.mono (ext_drew _), M2.out.mono (ext_drew _), M3.out.mono (ext_drew _), ext_trans MX.out (ext_drew _)⟩
      · obtain ⟨c0, c1, c2, c3, c4, c5, c6, c7, c8⟩ := hS0
        have u10 := n10.out
        have u11 := n11.out
        have u12 := n12.out
        have u20 := n20.out
        have u21 := n21.out
        have u22 := n22.out
        have u30 := n30.out
        have u31 := n31.out
        have u32 := n32.out
        go_big_region
        clear c0 c1 c2 c3 c4 c5 c6 c7 c8 u10 u11 u12 u20 u21 u22 u30 u31 u32
        all_goals
          go_wp2_with fail
          have hr0 : (((((((((WX.setCell ⟨g, 0, none⟩ (.bool b1)).setCell ⟨g, 1, none⟩ (.slice A1 k1 ca1)).setCell ⟨g, 2, none⟩ (.slice B1 l1 cb1)).setCell ⟨g + 1, 0, none⟩ (.bool b2)).setCell ⟨g + 1, 1, none⟩ (.slice A2 k2 ca2)).setCell ⟨g + 1, 2, none⟩ (.slice B2 l2 cb2)).setCell ⟨g + 1 + 1, 0, none⟩ (.bool b3)).setCell ⟨g + 1 + 1, 1, none⟩ (.slice A3 k3 ca3)).setCell ⟨g + 1 + 1, 2, none⟩ (.slice B3 l3 cb3)).heap[g]? = some (.cells #[.bool b1, .slice A1 k1 ca1, .slice B1 l1 cb1] 25 (0, 0)) := put3_other (put3_other (put3_row Z0.out _ _ _) m10.out.symm _ _ _) m20.out.symm _ _ _
          have hr1 : (((((((((WX.setCell ⟨g, 0, none⟩ (.bool b1)).setCell ⟨g, 1, none⟩ (.slice A1 k1 ca1)).setCell ⟨g, 2, none⟩ (.slice B1 l1 cb1)).setCell ⟨g + 1, 0, none⟩ (.bool b2)).setCell ⟨g + 1, 1, none⟩ (.slice A2 k2 ca2)).setCell ⟨g + 1, 2, none⟩ (.slice B2 l2 cb2)).setCell ⟨g + 1 + 1, 0, none⟩ (.bool b3)).setCell ⟨g + 1 + 1, 1, none⟩ (.slice A3 k3 ca3)).setCell ⟨g + 1 + 1, 2, none⟩ (.slice B3 l3 cb3)).heap[g + 1]? = some (.cells #[.bool b2, .slice A2 k2 ca2, .slice B2 l2 cb2] 25 (0, 0)) := put3_other (put3_row (put3_other Z1.out m10.out _ _ _) _ _ _) m21.out.symm _ _ _
          have hr2 : (((((((((WX.setCell ⟨g, 0, none⟩ (.bool b1)).setCell ⟨g, 1, none⟩ (.slice A1 k1 ca1)).setCell ⟨g, 2, none⟩ (.slice B1 l1 cb1)).setCell ⟨g + 1, 0, none⟩ (.bool b2)).setCell ⟨g + 1, 1, none⟩ (.slice A2 k2 ca2)).setCell ⟨g + 1, 2, none⟩ (.slice B2 l2 cb2)).setCell ⟨g + 1 + 1, 0, none⟩ (.bool b3)).setCell ⟨g + 1 + 1, 1, none⟩ (.slice A3 k3 ca3)).setCell ⟨g + 1 + 1, 2, none⟩ (.slice B3 l3 cb3)).heap[g + 1 + 1]? = some (.cells #[.bool b3, .slice A3 k3 ca3, .slice B3 l3 cb3] 25 (0, 0)) := put3_row (put3_other (put3_other Z2.out m20.out _ _ _) m21.out _ _ _) _ _ _
          have M1 := Lib.hid (show Nm (((((((((WX.setCell ⟨g, 0, none⟩ (.bool b1)).setCell ⟨g, 1, none⟩ (.slice A1 k1 ca1)).setCell ⟨g, 2, none⟩ (.slice B1 l1 cb1)).setCell ⟨g + 1, 0, none⟩ (.bool b2)).setCell ⟨g + 1, 1, none⟩ (.slice A2 k2 ca2)).setCell ⟨g + 1, 2, none⟩ (.slice B2 l2 cb2)).setCell ⟨g + 1 + 1, 0, none⟩ (.bool b3)).setCell ⟨g + 1 + 1, 1, none⟩ (.slice A3 k3 ca3)).setCell ⟨g + 1 + 1, 2, none⟩ (.slice B3 l3 cb3)) (.agg #[.bool b1, .slice A1 k1 ca1, .slice B1 l1 cb1]) _ from N1.out.puts3 Z0.out Z1.out Z2.out m10.out m20.out m21.out _ _ _ _ _ _ _ _ _)
          have M2 := Lib.hid (show Nm (((((((((WX.setCell ⟨g, 0, none⟩ (.bool b1)).setCell ⟨g, 1, none⟩ (.slice A1 k1 ca1)).setCell ⟨g, 2, none⟩ (.slice B1 l1 cb1)).setCell ⟨g + 1, 0, none⟩ (.bool b2)).setCell ⟨g + 1, 1, none⟩ (.slice A2 k2 ca2)).setCell ⟨g + 1, 2, none⟩ (.slice B2 l2 cb2)).setCell ⟨g + 1 + 1, 0, none⟩ (.bool b3)).setCell ⟨g + 1 + 1, 1, none⟩ (.slice A3 k3 ca3)).setCell ⟨g + 1 + 1, 2, none⟩ (.slice B3 l3 cb3)) (.agg #[.bool b2, .slice A2 k2 ca2, .slice B2 l2 cb2]) _ from N2.out.puts3 Z0.out Z1.out Z2.out m10.out m20.out m21.out _ _ _ _ _ _ _ _ _)
          have M3 := Lib.hid (show Nm (((((((((WX.setCell ⟨g, 0, none⟩ (.bool b1)).setCell ⟨g, 1, none⟩ (.slice A1 k1 ca1)).setCell ⟨g, 2, none⟩ (.slice B1 l1 cb1)).setCell ⟨g + 1, 0, none⟩ (.bool b2)).setCell ⟨g + 1, 1, none⟩ (.slice A2 k2 ca2)).setCell ⟨g + 1, 2, none⟩ (.slice B2 l2 cb2)).setCell ⟨g + 1 + 1, 0, none⟩ (.bool b3)).setCell ⟨g + 1 + 1, 1, none⟩ (.slice A3 k3 ca3)).setCell ⟨g + 1 + 1, 2, none⟩ (.slice B3 l3 cb3)) (.agg #[.bool b3, .slice A3 k3 ca3, .slice B3 l3 cb3]) _ from N3.out.puts3 Z0.out Z1.out Z2.out m10.out m20.out m21.out _ _ _ _ _ _ _ _ _)
          have MX := Lib.hid (show Ext w (((((((((WX.setCell ⟨g, 0, none⟩ (.bool b1)).setCell ⟨g, 1, none⟩ (.slice A1 k1 ca1)).setCell ⟨g, 2, none⟩ (.slice B1 l1 cb1)).setCell ⟨g + 1, 0, none⟩ (.bool b2)).setCell ⟨g + 1, 1, none⟩ (.slice A2 k2 ca2)).setCell ⟨g + 1, 2, none⟩ (.slice B2 l2 cb2)).setCell ⟨g + 1 + 1, 0, none⟩ (.bool b3)).setCell ⟨g + 1 + 1, 1, none⟩ (.slice A3 k3 ca3)).setCell ⟨g + 1 + 1, 2, none⟩ (.slice B3 l3 cb3)) from ext_put3 (ext_put3 (ext_put3 EX.out HG.out _ _ _) HG1.out _ _ _) HG2.out _ _ _)
          clear y0 y1 y2 y3 y4 y5 y6 y7 y8 yf0 yf1 yf2 yf3 yf4 yf5 yf6 yf7 yf8 HC R1 R2 R3 Z0 Z1 Z2 N1 N2 N3 EX
          try clear hHeld
          generalize (((((((((WX.setCell ⟨g, 0, none⟩ (.bool b1)).setCell ⟨g, 1, none⟩ (.slice A1 k1 ca1)).setCell ⟨g, 2, none⟩ (.slice B1 l1 cb1)).setCell ⟨g + 1, 0, none⟩ (.bool b2)).setCell ⟨g + 1, 1, none⟩ (.slice A2 k2 ca2)).setCell ⟨g + 1, 2, none⟩ (.slice B2 l2 cb2)).setCell ⟨g + 1 + 1, 0, none⟩ (.bool b3)).setCell ⟨g + 1 + 1, 1, none⟩ (.slice A3 k3 ca3)).setCell ⟨g + 1 + 1, 2, none⟩ (.slice B3 l3 cb3)) = WF at *
          obtain ⟨y0, y1, y2, -⟩ := row3_0 hr0
          obtain ⟨y3, y4, y5, -⟩ := row3_0 hr1
          obtain ⟨y6, y7, y8, -⟩ := row3_0 hr2
          clear hr0 hr1 hr2
          refine bodyPost_ret (v := .tuple #[.agg #[.bool b1, .slice A1 k1 ca1, .slice B1 l1 cb1], .agg #[.bool b2, .slice A2 k2 ca2, .slice B2 l2 cb2], .agg #[.bool b3, .slice A3 k3 ca3, .slice B3 l3 cb3], .bool false]) (by simp [results, Tryz.f49]; go_simp) rfl ?_
          exact ⟨_, _, _, rfl, M1.out.mono (ext_drew _), M2.out.mono (ext_drew _), M3.out.mono (ext_drew _), ext_trans MX.out (ext_drew _)⟩
    · obtain ⟨c0, c1, c2, c3, c4, c5, c6, c7, c8⟩ := hS0
      have u10 := n10.out
      have u11 := n11.out
      have u12 := n12.out
      have u20 := n20.out
      have u21 := n21.out
      have u22 := n22.out
      have u30 := n30.out
      have u31 := n31.out
      have u32 := n32.out
      go_big_region
      clear c0 c1 c2 c3 c4 c5 c6 c7 c8 u10 u11 u12 u20 u21 u22 u30 u31 u32
      all_goals
        go_wp2_with fail
        have hr0 : (((((((((WX.setCell ⟨g, 0, none⟩ (.bool b1)).setCell ⟨g, 1, none⟩ (.slice A1 k1 ca1)).setCell ⟨g, 2, none⟩ (.slice B1 l1 cb1)).setCell ⟨g + 1, 0, none⟩ (.bool b2)).setCell ⟨g + 1, 1, none⟩ (.slice A2 k2 ca2)).setCell ⟨g + 1, 2, none⟩ (.slice B2 l2 cb2)).setCell ⟨g + 1 + 1, 0, none⟩ (.bool b3)).setCell ⟨g + 1 + 1, 1, none⟩ (.slice A3 k3 ca3)).setCell ⟨g + 1 + 1, 2, none⟩ (.slice B3 l3 cb3)).heap[g]? = some (.cells #[.bool b1, .slice A1 k1 ca1, .slice B1 l1 cb1] 25 (0, 0)) := put3_other (put3_other (put3_row Z0.out _ _ _) m10.out.symm _ _ _) m20.out.symm _ _ _
        have hr1 : (((((((((WX.setCell ⟨g, 0, none⟩ (.bool b1)).setCell ⟨g, 1, none⟩ (.slice A1 k1 ca1)).setCell ⟨g, 2, none⟩ (.slice B1 l1 cb1)).setCell ⟨g + 1, 0, none⟩ (.bool b2)).setCell ⟨g + 1, 1, none⟩ (.slice A2 k2 ca2)).setCell ⟨g + 1, 2, none⟩ (.slice B2 l2 cb2)).setCell ⟨g + 1 + 1, 0, none⟩ (.bool b3)).setCell ⟨g + 1 + 1, 1, none⟩ (.slice A3 k3 ca3)).setCell ⟨g + 1 + 1, 2, none⟩ (.slice B3 l3 cb3)).heap[g + 1]? = some (.cells #[.bool b2, .slice A2 k2 ca2, .slice B2 l2 cb2] 25 (0, 0)) := put3_other (put3_row (put3_other Z1.out m10.out _ _ _) _ _ _) m21.out.symm _ _ _
        have hr2 : (((((((((WX.setCell ⟨g, 0, none⟩ (.bool b1)).setCell ⟨g, 1, none⟩ (.slice A1 k1 ca1)).setCell ⟨g, 2, none⟩ (.slice B1 l1 cb1)).setCell ⟨g + 1, 0, none⟩ (.bool b2)).setCell ⟨g + 1, 1, none⟩ (.slice A2 k2 ca2)).setCell ⟨g + 1, 2, none⟩ (.slice B2 l2 cb2)).setCell ⟨g + 1 + 1, 0, none⟩ (.bool b3)).setCell ⟨g + 1 + 1, 1, none⟩ (.slice A3 k3 ca3)).setCell ⟨g + 1 + 1, 2, none⟩ (.slice B3 l3 cb3)).heap[g + 1 + 1]? = some (.cells #[.bool b3, .slice A3 k3 ca3, .slice B3 l3 cb3] 25 (0, 0)) := put3_row (put3_other (put3_other Z2.out m20.out _ _ _) m21.out _ _ _) _ _ _
        have M1 := Lib.hid (show Nm (((((((((WX.setCell ⟨g, 0, none⟩ (.bool b1)).setCell ⟨g, 1, none⟩ (.slice A1 k1 ca1)).setCell ⟨g, 2, none⟩ (.slice B1 l1 cb1)).setCell ⟨g + 1, 0, none⟩ (.bool b2)).setCell ⟨g + 1, 1, none⟩ (.slice A2 k2 ca2)).setCell ⟨g + 1, 2, none⟩ (.slice B2 l2 cb2)).setCell ⟨g + 1 + 1, 0, none⟩ (.bool b3)).setCell ⟨g + 1 + 1, 1, none⟩ (.slice A3 k3 ca3)).setCell ⟨g + 1 + 1, 2, none⟩ (.slice B3 l3 cb3)) (.agg #[.bool b1, .slice A1 k1 ca1, .slice B1 l1 cb1]) _ from N1.out.puts3 Z0.out Z1.out Z2.out m10.out m20.out m21.out _ _ _ _ _ _ _ _ _)
        have M2 := Lib.hid (show Nm (((((((((WX.setCell ⟨g, 0, none⟩ (.bool b1)).setCell ⟨g, 1, none⟩ (.slice A1 k1 ca1)).setCell ⟨g, 2, none⟩ (.slice B1 l1 cb1)).setCell ⟨g + 1, 0, none⟩ (.bool b2)).setCell ⟨g + 1, 1, none⟩ (.slice A2 k2 ca2)).setCell ⟨g + 1, 2, none⟩ (.slice B2 l2 cb2)).setCell ⟨g + 1 + 1, 0, none⟩ (.bool b3)).setCell ⟨g + 1 + 1, 1, none⟩ (.slice A3 k3 ca3)).setCell ⟨g + 1 + 1, 2, none⟩ (.slice B3 l3 cb3)) (.agg #[.bool b2, .slice A2 k2 ca2, .slice B2 l2 cb2]) _ from N2.out.puts3 Z0.out Z1.out Z2.out m10.out m20.out m21.out _ _ _ _ _ _ _ _ _)
        have M3 := Lib.hid (show Nm (((((((((WX.setCell ⟨g, 0, none⟩ (.bool b1)).setCell ⟨g, 1, none⟩ (.slice A1 k1 ca1)).setCell ⟨g, 2, none⟩ (.slice B1 l1 cb1)).setCell ⟨g + 1, 0, none⟩ (.bool b2)).setCell ⟨g + 1, 1, none⟩ (.slice A2 k2 ca2)).setCell ⟨g + 1, 2, none⟩ (.slice B2 l2 cb2)).setCell ⟨g + 1 + 1, 0, none⟩ (.bool b3)).setCell ⟨g + 1 + 1, 1, none⟩ (.slice A3 k3 ca3)).setCell ⟨g + 1 + 1, 2, none⟩ (.slice B3 l3 cb3)) (.agg #[.bool b3, .slice A3 k3 ca3, .slice B3 l3 cb3]) _ from N3.out.puts3 Z0.out Z1.out Z2.out m10.out m20.out m21.out _ _ _ _ _ _ _ _ _)
        have MX := Lib.hid (show Ext w (((((((((WX.setCell ⟨g, 0, none⟩ (.bool b1)).setCell ⟨g, 1, none⟩ (.slice A1 k1 ca1)).setCell ⟨g, 2, none⟩ (.slice B1 l1 cb1)).setCell ⟨g + 1, 0, none⟩ (.bool b2)).setCell ⟨g + 1, 1, none⟩ (.slice A2 k2 ca2)).setCell ⟨g + 1, 2, none⟩ (.slice B2 l2 cb2)).setCell ⟨g + 1 + 1, 0, none⟩ (.bool b3)).setCell ⟨g + 1 + 1, 1, none⟩ (.slice A3 k3 ca3)).setCell ⟨g + 1 + 1, 2, none⟩ (.slice B3 l3 cb3)) from ext_put3 (ext_put3 (ext_put3 EX.out HG.out _ _ _) HG1.out _ _ _) HG2.out _ _ _)
        clear y0 y1 y2 y3 y4 y5 y6 y7 y8 yf0 yf1 yf2 yf3 yf4 yf5 yf6 yf7 yf8 HC R1 R2 R3 Z0 Z1 Z2 N1 N2 N3 EX
        try clear hHeld
        generalize (((((((((WX.setCell ⟨g, 0, none⟩ (.bool b1)).setCell ⟨g, 1, none⟩ (.slice A1 k1 ca1)).setCell ⟨g, 2, none⟩ (.slice B1 l1 cb1)).setCell ⟨g + 1, 0, none⟩ (.bool b2)).setCell ⟨g + 1, 1, none⟩ (.slice A2 k2 ca2)).setCell ⟨g + 1, 2, none⟩ (.slice B2 l2 cb2)).setCell ⟨g + 1 + 1, 0, none⟩ (.bool b3)).setCell ⟨g + 1 + 1, 1, none⟩ (.slice A3 k3 ca3)).setCell ⟨g + 1 + 1, 2, none⟩ (.slice B3 l3 cb3)) = WF at *
        obtain ⟨y0, y1, y2, -⟩ := row3_0 hr0
        obtain ⟨y3, y4, y5, -⟩ := row3_0 hr1
        obtain ⟨y6, y7, y8, -⟩ := row3_0 hr2
        clear hr0 hr1 hr2
        refine bodyPost_ret (v := .tuple #[.agg #[.bool b1, .slice A1 k1 ca1, .slice B1 l1 cb1], .agg #[.bool b2, .slice A2 k2 ca2, .slice B2 l2 cb2], .agg #[.bool b3, .slice A3 k3 ca3, .slice B3 l3 cb3], .bool false]) (by simp [results, Tryz.f49]; go_simp) rfl ?_
        exact ⟨_, _, _, rfl, M1.out.mono (ext_drew _), M2.out.mono (ext_drew _), M3.out.mono (ext_drew _), ext_trans MX.out (ext_drew _)⟩
    · obtain ⟨c0, c1, c2, c3, c4, c5, c6, c7, c8⟩ := hS0
      have u10 := n10.out
      have u11 := n11.out
      have u12 := n12.out
      have u20 := n20.out
      have u21 := n21.out
      have u22 := n22.out
      have u30 := n30.out
      have u31 := n31.out
      have u32 := n32.out
      go_big_region
      clear c0 c1 c2 c3 c4 c5 c6 c7 c8 u10 u11 u12 u20 u21 u22 u30 u31 u32
      all_goals
        go_wp2_with fail
        have hr0 : (((((((((WX.setCell ⟨g, 0, none⟩ (.bool b1)).setCell ⟨g, 1, none⟩ (.slice A1 k1 ca1)).setCell ⟨g, 2, none⟩ (.slice B1 l1 cb1)).setCell ⟨g + 1, 0, none⟩ (.bool b2)).setCell ⟨g + 1, 1, none⟩ (.slice A2 k2 ca2)).setCell ⟨g + 1, 2, none⟩ (.slice B2 l2 cb2)).setCell ⟨g + 1 + 1, 0, none⟩ (.bool b3)).setCell ⟨g + 1 + 1, 1, none⟩ (.slice A3 k3 ca3)).setCell ⟨g + 1 + 1, 2, none⟩ (.slice B3 l3 cb3)).heap[g]? = some (.cells #[.bool b1, .slice A1 k1 ca1, .slice B1 l1 cb1] 25 (0, 0)) := put3_other (put3_other (put3_row Z0.out _ _ _) m10.out.symm _ _ _) m20.out.symm _ _ _
        have hr1 : (((((((((WX.setCell ⟨g, 0, none⟩ (.bool b1)).setCell ⟨g, 1, none⟩ (.slice A1 k1 ca1)).setCell ⟨g, 2, none⟩ (.slice B1 l1 cb1)).setCell ⟨g + 1, 0, none⟩ (.bool b2)).setCell ⟨g + 1, 1, none⟩ (.slice A2 k2 ca2)).setCell ⟨g + 1, 2, none⟩ (.slice B2 l2 cb2)).setCell ⟨g + 1 + 1, 0, none⟩ (.bool b3)).setCell ⟨g + 1 + 1, 1, none⟩ (.slice A3 k3 ca3)).setCell ⟨g + 1 + 1, 2, none⟩ (.slice B3 l3 cb3)).heap[g + 1]? = some (.cells #[.bool b2, .slice A2 k2 ca2, .slice B2 l2 cb2] 25 (0, 0)) := put3_other (put3_row (put3_other Z1.out m10.out _ _ _) _ _ _) m21.out.symm _ _ _
        have hr2 : (((((((((WX.setCell ⟨g, 0, none⟩ (.bool b1)).setCell ⟨g, 1, none⟩ (.slice A1 k1 ca1)).setCell ⟨g, 2, none⟩ (.slice B1 l1 cb1)).setCell ⟨g + 1, 0, none⟩ (.bool b2)).setCell ⟨g + 1, 1, none⟩ (.slice A2 k2 ca2)).setCell ⟨g + 1, 2, none⟩ (.slice B2 l2 cb2)).setCell ⟨g + 1 + 1, 0, none⟩ (.bool b3)).setCell ⟨g + 1 + 1, 1, none⟩ (.slice A3 k3 ca3)).setCell ⟨g + 1 + 1, 2, none⟩ (.slice B3 l3 cb3)).heap[g + 1 + 1]? = some (.cells #[.bool b3, .slice A3 k3 ca3, .slice B3 l3 cb3] 25 (0, 0)) := put3_row (put3_other (put3_other Z2.out m20.out _ _ _) m21.out _ _ _) _ _ _
        have M1 := Lib.hid (show Nm (((((((((WX.setCell ⟨g, 0, none⟩ (.bool b1)).setCell ⟨g, 1, none⟩ (.slice A1 k1 ca1)).setCell ⟨g, 2, none⟩ (.slice B1 l1 cb1)).setCell ⟨g + 1, 0, none⟩ (.bool b2)).setCell ⟨g + 1, 1, none⟩ (.slice A2 k2 ca2)).setCell ⟨g + 1, 2, none⟩ (.slice B2 l2 cb2)).setCell ⟨g + 1 + 1, 0, none⟩ (.bool b3)).setCell ⟨g + 1 + 1, 1, none⟩ (.slice A3 k3 ca3)).setCell ⟨g + 1 + 1, 2, none⟩ (.slice B3 l3 cb3)) (.agg #[.bool b1, .slice A1 k1 ca1, .slice B1 l1 cb1]) _ from N1.out.puts3 Z0.out Z1.out Z2.out m10.out m20.out m21.out _ _ _ _ _ _ _ _ _)
        have M2 := Lib.hid (show Nm (((((((((WX.setCell ⟨g, 0, none⟩ (.bool b1)).setCell ⟨g, 1, none⟩ (.slice A1 k1 ca1)).setCell ⟨g, 2, none⟩ (.slice B1 l1 cb1)).setCell ⟨g + 1, 0, none⟩ (.bool b2)).setCell ⟨g + 1, 1, none⟩ (.slice A2 k2 ca2)).setCell ⟨g + 1, 2, none⟩ (.slice B2 l2 cb2)).setCell ⟨g + 1 + 1, 0, none⟩ (.bool b3)).setCell ⟨g + 1 + 1, 1, none⟩ (.slice A3 k3 ca3)).setCell ⟨g + 1 + 1, 2, none⟩ (.slice B3 l3 cb3)) (.agg #[.bool b2, .slice A2 k2 ca2, .slice B2 l2 cb2]) _ from N2.out.puts3 Z0.out Z1.out Z2.out m10.out m20.out m21.out _ _ _ _ _ _ _ _ _)
        have M3 := Lib.hid (show Nm (((((((((WX.setCell ⟨g, 0, none⟩ (.bool b1)).setCell ⟨g, 1, none⟩ (.slice A1 k1 ca1)).setCell ⟨g, 2, none⟩ (.slice B1 l1 cb1)).setCell ⟨g + 1, 0, none⟩ (.bool b2)).setCell ⟨g + 1, 1, none⟩ (.slice A2 k2 ca2)).setCell ⟨g + 1, 2, none⟩ (.slice B2 l2 cb2)).setCell ⟨g + 1 + 1, 0, none⟩ (.bool b3)).setCell ⟨g + 1 + 1, 1, none⟩ (.slice A3 k3 ca3)).setCell ⟨g + 1 + 1, 2, none⟩ (.slice B3 l3 cb3)) (.agg #[.bool b3, .slice A3 k3 ca3, .slice B3 l3 cb3]) _ from N3.out.puts3 Z0.out Z1.out Z2.out m10.out m20.out m21.out _ _ _ _ _ _ _ _ _)
        have MX := Lib.hid (show Ext w (((((((((WX.setCell ⟨g, 0, none⟩ (.bool b1)).setCell ⟨g, 1, none⟩ (.slice A1 k1 ca1)).setCell ⟨g, 2, none⟩ (.slice B1 l1 cb1)).setCell ⟨g + 1, 0, none⟩ (.bool b2)).setCell ⟨g + 1, 1, none⟩ (.slice A2 k2 ca2)).setCell ⟨g + 1, 2, none⟩ (.slice B2 l2 cb2)).setCell ⟨g + 1 + 1, 0, none⟩ (.bool b3)).setCell ⟨g + 1 + 1, 1, none⟩ (.slice A3 k3 ca3)).setCell ⟨g + 1 + 1, 2, none⟩ (.slice B3 l3 cb3)) from ext_put3 (ext_put3 (ext_put3 EX.out HG.out _ _ _) HG1.out _ _ _) HG2.out _ _ _)
        clear y0 y1 y2 y3 y4 y5 y6 y7 y8 yf0 yf1 yf2 yf3 yf4 yf5 yf6 yf7 yf8 HC R1 R2 R3 Z0 Z1 Z2 N1 N2 N3 EX
        try clear hHeld
        generalize (((((((((WX.setCell ⟨g, 0, none⟩ (.bool b1)).setCell ⟨g, 1, none⟩ (.slice A1 k1 ca1)).setCell ⟨g, 2, none⟩ (.slice B1 l1 cb1)).setCell ⟨g + 1, 0, none⟩ (.bool b2)).setCell ⟨g + 1, 1, none⟩ (.slice A2 k2 ca2)).setCell ⟨g + 1, 2, none⟩ (.slice B2 l2 cb2)).setCell ⟨g + 1 + 1, 0, none⟩ (.bool b3)).setCell ⟨g + 1 + 1, 1, none⟩ (.slice A3 k3 ca3)).setCell ⟨g + 1 + 1, 2, none⟩ (.slice B3 l3 cb3)) = WF at *
        obtain ⟨y0, y1, y2, -⟩ := row3_0 hr0
        obtain ⟨y3, y4, y5, -⟩ := row3_0 hr1
        obtain ⟨y6, y7, y8, -⟩ := row3_0 hr2
        clear hr0 hr1 hr2
        refine bodyPost_ret (v := .tuple #[.agg #[.bool b1, .slice A1 k1 ca1, .slice B1 l1 cb1], .agg #[.bool b2, .slice A2 k2 ca2, .slice B2 l2 cb2], .agg #[.bool b3, .slice A3 k3 ca3, .slice B3 l3 cb3], .bool false]) (by simp [results, Tryz.f49]; go_simp) rfl ?_
        exact ⟨_, _, _, rfl, M1.out.mono (ext_drew _), M2.out.mono (ext_drew _), M3.out.mono (ext_drew _), ext_trans MX.out (ext_drew _)⟩
  · obtain ⟨c0, c1, c2, c3, c4, c5, c6, c7, c8⟩ := hS0
    have u10 := n10.out
    have u11 := n11.out
    have u12 := n12.out
    have u20 := n20.out
    have u21 := n21.out
    have u22 := n22.out
    have u30 := n30.out
    have u31 := n31.out
    have u32 := n32.out
    go_big_region
    clear c0 c1 c2 c3 c4 c5 c6 c7 c8 u10 u11 u12 u20 u21 u22 u30 u31 u32
    all_goals
      go_wp2_with fail
      have hr0 : (((((((((WX.setCell ⟨g, 0, none⟩ (.bool b1)).setCell ⟨g, 1, none⟩ (.slice A1 k1 ca1)).setCell ⟨g, 2, none⟩ (.slice B1 l1 cb1)).setCell ⟨g + 1, 0, none⟩ (.bool b2)).setCell ⟨g + 1, 1, none⟩ (.slice A2 k2 ca2)).setCell ⟨g + 1, 2, none⟩ (.slice B2 l2 cb2)).setCell ⟨g + 1 + 1, 0, none⟩ (.bool b3)).setCell ⟨g + 1 + 1, 1, none⟩ (.slice A3 k3 ca3)).setCell ⟨g + 1 + 1, 2, none⟩ (.slice B3 l3 cb3)).heap[g]? = some (.cells #[.bool b1, .slice A1 k1 ca1, .slice B1 l1 cb1] 25 (0, 0)) := put3_other (put3_other (put3_row Z0.out _ _ _) m10.out.symm _ _ _) m20.out.symm _ _ _
      have hr1 : (((((((((WX.setCell ⟨g, 0, none⟩ (.bool b1)).setCell ⟨g, 1, none⟩ (.slice A1 k1 ca1)).setCell ⟨g, 2, none⟩ (.slice B1 l1 cb1)).setCell ⟨g + 1, 0, none⟩ (.bool b2)).setCell ⟨g + 1, 1, none⟩ (.slice A2 k2 ca2)).setCell ⟨g + 1, 2, none⟩ (.slice B2 l2 cb2)).setCell ⟨g + 1 + 1, 0, none⟩ (.bool b3)).setCell ⟨g + 1 + 1, 1, none⟩ (.slice A3 k3 ca3)).setCell ⟨g + 1 + 1, 2, none⟩ (.slice B3 l3 cb3)).heap[g + 1]? = some (.cells #[.bool b2, .slice A2 k2 ca2, .slice B2 l2 cb2] 25 (0, 0)) := put3_other (put3_row (put3_other Z1.out m10.out _ _ _) _ _ _) m21.out.symm _ _ _
      have hr2 : (((((((((WX.setCell ⟨g, 0, none⟩ (.bool b1)).setCell ⟨g, 1, none⟩ (.slice A1 k1 ca1)).setCell ⟨g, 2, none⟩ (.slice B1 l1 cb1)).setCell ⟨g + 1, 0, none⟩ (.bool b2)).setCell ⟨g + 1, 1, none⟩ (.slice A2 k2 ca2)).setCell ⟨g + 1, 2, none⟩ (.slice B2 l2 cb2)).setCell ⟨g + 1 + 1, 0, none⟩ (.bool b3)).setCell ⟨g + 1 + 1, 1, none⟩ (.slice A3 k3 ca3)).setCell ⟨g + 1 + 1, 2, none⟩ (.slice B3 l3 cb3)).heap[g + 1 + 1]? = some (.cells #[.bool b3, .slice A3 k3 ca3, .slice B3 l3 cb3] 25 (0, 0)) := put3_row (put3_other (put3_other Z2.out m20.out _ _ _) m21.out _ _ _) _ _ _
      have M1 := Lib.hid (show Nm (((((((((WX.setCell ⟨g, 0, none⟩ (.bool b1)).setCell ⟨g, 1, none⟩ (.slice A1 k1 ca1)).setCell ⟨g, 2, none⟩ (.slice B1 l1 cb1)).setCell ⟨g + 1, 0, none⟩ (.bool b2)).setCell ⟨g + 1, 1, none⟩ (.slice A2 k2 ca2)).setCell ⟨g + 1, 2, none⟩ (.slice B2 l2 cb2)).setCell ⟨g + 1 + 1, 0, none⟩ (.bool b3)).setCell ⟨g + 1 + 1, 1, none⟩ (.slice A3 k3 ca3)).setCell ⟨g + 1 + 1, 2, none⟩ (.slice B3 l3 cb3)) (.agg #[.bool b1, .slice A1 k1 ca1, .slice B1 l1 cb1]) _ from N1.out.puts3 Z0.out Z1.out Z2.out m10.out m20.out m21.out _ _ _ _ _ _ _ _ _)
      have M2 := Lib.hid (show Nm (((((((((WX.setCell ⟨g, 0, none⟩ (.bool b1)).setCell ⟨g, 1, none⟩ (.slice A1 k1 ca1)).setCell ⟨g, 2, none⟩ (.slice B1 l1 cb1)).setCell ⟨g + 1, 0, none⟩ (.bool b2)).setCell ⟨g + 1, 1, none⟩ (.slice A2 k2 ca2)).setCell ⟨g + 1, 2, none⟩ (.slice B2 l2 cb2)).setCell ⟨g + 1 + 1, 0, none⟩ (.bool b3)).setCell ⟨g + 1 + 1, 1, none⟩ (.slice A3 k3 ca3)).setCell ⟨g + 1 + 1, 2, none⟩ (.slice B3 l3 cb3)) (.agg #[.bool b2, .slice A2 k2 ca2, .slice B2 l2 cb2]) _ from N2.out.puts3 Z0.out Z1.out Z2.out m10.out m20.out m21.out _ _ _ _ _ _ _ _ _)
      have M3 := Lib.hid (show Nm (((((((((WX.setCell ⟨g, 0, none⟩ (.bool b1)).setCell ⟨g, 1, none⟩ (.slice A1 k1 ca1)).setCell ⟨g, 2, none⟩ (.slice B1 l1 cb1)).setCell ⟨g + 1, 0, none⟩ (.bool b2)).setCell ⟨g + 1, 1, none⟩ (.slice A2 k2 ca2)).setCell ⟨g + 1, 2, none⟩ (.slice B2 l2 cb2)).setCell ⟨g + 1 + 1, 0, none⟩ (.bool b3)).setCell ⟨g + 1 + 1, 1, none⟩ (.slice A3 k3 ca3)).setCell ⟨g + 1 + 1, 2, none⟩ (.slice B3 l3 cb3)) (.agg #[.bool b3, .slice A3 k3 ca3, .slice B3 l3 cb3]) _ from N3.out.puts3 Z0.out Z1.out Z2.out m10.out m20.out m21.out _ _ _ _ _ _ _ _ _)
      have MX := Lib.hid (show Ext w (((((((((WX.setCell ⟨g, 0, none⟩ (.bool b1)).setCell ⟨g, 1, none⟩ (.slice A1 k1 ca1)).setCell ⟨g, 2, none⟩ (.slice B1 l1 cb1)).setCell ⟨g + 1, 0, none⟩ (.bool b2)).setCell ⟨g + 1, 1, none⟩ (.slice A2 k2 ca2)).setCell ⟨g + 1, 2, none⟩ (.slice B2 l2 cb2)).setCell ⟨g + 1 + 1, 0, none⟩ (.bool b3)).setCell ⟨g + 1 + 1, 1, none⟩ (.slice A3 k3 ca3)).setCell ⟨g + 1 + 1, 2, none⟩ (.slice B3 l3 cb3)) from ext_put3 (ext_put3 (ext_put3 EX.out HG.out _ _ _) HG1.out _ _ _) HG2.out _ _ _)
      clear y0 y1 y2 y3 y4 y5 y6 y7 y8 yf0 yf1 yf2 yf3 yf4 yf5 yf6 yf7 yf8 HC R1 R2 R3 Z0 Z1 Z2 N1 N2 N3 EX
      try clear hHeld
      generalize (((((((((WX.setCell ⟨g, 0, none⟩ (.bool b1)).setCell ⟨g, 1, none⟩ (.slice A1 k1 ca1)).setCell ⟨g, 2, none⟩ (.slice B1 l1 cb1)).setCell ⟨g + 1, 0, none⟩ (.bool b2)).setCell ⟨g + 1, 1, none⟩ (.slice A2 k2 ca2)).setCell ⟨g + 1, 2, none⟩ (.slice B2 l2 cb2)).setCell ⟨g + 1 + 1, 0, none⟩ (.bool b3)).setCell ⟨g + 1 + 1, 1, none⟩ (.slice A3 k3 ca3)).setCell ⟨g + 1 + 1, 2, none⟩ (.slice B3 l3 cb3)) = WF at *
      obtain ⟨y0, y1, y2, -⟩ := row3_0 hr0
      obtain ⟨y3, y4, y5, -⟩ := row3_0 hr1
      obtain ⟨y6, y7, y8, -⟩ := row3_0 hr2
      clear hr0 hr1 hr2
      refine bodyPost_ret (v := .tuple #[.agg #[.bool b1, .slice A1 k1 ca1, .slice B1 l1 cb1], .agg #[.bool b2, .slice A2 k2 ca2, .slice B2 l2 cb2], .agg #[.bool b3, .slice A3 k3 ca3, .slice B3 l3 cb3], .bool false]) (by simp [results, Tryz.f49]; go_simp) rfl ?_
      exact ⟨_, _, _, rfl, M1.out.mono (ext_drew _), M2.out.mono (ext_drew _), M3.out.mono (ext_drew _), ext_trans MX.out (ext_drew _)⟩
  · obtain ⟨c0, c1, c2, c3, c4, c5, c6, c7, c8⟩ := hS0
    have u10 := n10.out
    have u11 := n11.out
    have u12 := n12.out
    have u20 := n20.out
    have u21 := n21.out
    have u22 := n22.out
    have u30 := n30.out
    have u31 := n31.out
    have u32 := n32.out
    go_big_region
    clear c0 c1 c2 c3 c4 c5 c6 c7 c8 u10 u11 u12 u20 u21 u22 u30 u31 u32
    all_goals
      go_wp2_with fail
      have hr0 : (((((((((WX.setCell ⟨g, 0, none⟩ (.bool b1)).setCell ⟨g, 1, none⟩ (.slice A1 k1 ca1)).setCell ⟨g, 2, none⟩ (.slice B1 l1 cb1)).setCell ⟨g + 1, 0, none⟩ (.bool b2)).setCell ⟨g + 1, 1, none⟩ (.slice A2 k2 ca2)).setCell ⟨g + 1, 2, none⟩ (.slice B2 l2 cb2)).setCell ⟨g + 1 + 1, 0, none⟩ (.bool b3)).setCell ⟨g + 1 + 1, 1, none⟩ (.slice A3 k3 ca3)).setCell ⟨g + 1 + 1, 2, none⟩ (.slice B3 l3 cb3)).heap[g]? = some (.cells #[.bool b1, .slice A1 k1 ca1, .slice B1 l1 cb1] 25 (0, 0)) := put3_other (put3_other (put3_row Z0.out _ _ _) m10.out.symm _ _ _) m20.out.symm _ _ _
      have hr1 : (((((((((WX.setCell ⟨g, 0, none⟩ (.bool b1)).setCell ⟨g, 1, none⟩ (.slice A1 k1 ca1)).setCell ⟨g, 2, none⟩ (.slice B1 l1 cb1)).setCell ⟨g + 1, 0, none⟩ (.bool b2)).setCell ⟨g + 1, 1, none⟩ (.slice A2 k2 ca2)).setCell ⟨g + 1, 2, none⟩ (.slice B2 l2 cb2)).setCell ⟨g + 1 + 1, 0, none⟩ (.bool b3)).setCell ⟨g + 1 + 1, 1, none⟩ (.slice A3 k3 ca3)).setCell ⟨g + 1 + 1, 2, none⟩ (.slice B3 l3 cb3)).heap[g + 1]? = some (.cells #[.bool b2, .slice A2 k2 ca2, .slice B2 l2 cb2] 25 (0, 0)) := put3_other (put3_row (put3_other Z1.out m10.out _ _ _) _ _ _) m21.out.symm _ _ _
      have hr2 : (((((((((WX.setCell ⟨g, 0, none⟩ (.bool b1)).setCell ⟨g, 1, none⟩ (.slice A1 k1 ca1)).setCell ⟨g, 2, none⟩ (.slice B1 l1 cb1)).setCell ⟨g + 1, 0, none⟩ (.bool b2)).setCell ⟨g + 1, 1, none⟩ (.slice A2 k2 ca2)).setCell ⟨g + 1, 2, none⟩ (.slice B2 l2 cb2)).setCell ⟨g + 1 + 1, 0, none⟩ (.bool b3)).setCell ⟨g + 1 + 1, 1, none⟩ (.slice A3 k3 ca3)).setCell ⟨g + 1 + 1, 2, none⟩ (.slice B3 l3 cb3)).heap[g + 1 + 1]? = some (.cells #[.bool b3, .slice A3 k3 ca3, .slice B3 l3 cb3] 25 (0, 0)) := put3_row (put3_other (put3_other Z2.out m20.out _ _ _) m21.out _ _ _) _ _ _
      have M1 := Lib.hid (show Nm (((((((((WX.setCell ⟨g, 0, none⟩ (.bool b1)).setCell ⟨g, 1, none⟩ (.slice A1 k1 ca1)).setCell ⟨g, 2, none⟩ (.slice B1 l1 cb1)).setCell ⟨g + 1, 0, none⟩ (.bool b2)).setCell ⟨g + 1, 1, none⟩ (.slice A2 k2 ca2)).setCell ⟨g + 1, 2, none⟩ (.slice B2 l2 cb2)).setCell ⟨g + 1 + 1, 0, none⟩ (.bool b3)).setCell ⟨g + 1 + 1, 1, none⟩ (.slice A3 k3 ca3)).setCell ⟨g + 1 + 1, 2, none⟩ (.slice B3 l3 cb3)) (.agg #[.bool b1, .slice A1 k1 ca1, .slice B1 l1 cb1]) _ from N1.out.puts3 Z0.out Z1.out Z2.out m10.out m20.out m21.out _ _ _ _ _ _ _ _ _)
      have M2 := Lib.hid (show Nm (((((((((WX.setCell ⟨g, 0, none⟩ (.bool b1)).setCell ⟨g, 1, none⟩ (.slice A1 k1 ca1)).setCell ⟨g, 2, none⟩ (.slice B1 l1 cb1)).setCell ⟨g + 1, 0, none⟩ (.bool b2)).setCell ⟨g + 1, 1, none⟩ (.slice A2 k2 ca2)).setCell ⟨g + 1, 2, none⟩ (.slice B2 l2 cb2)).setCell ⟨g + 1 + 1, 0, none⟩ (.bool b3)).setCell ⟨g + 1 + 1, 1, none⟩ (.slice A3 k3 ca3)).setCell ⟨g + 1 + 1, 2, none⟩ (.slice B3 l3 cb3)) (.agg #[.bool b2, .slice A2 k2 ca2, .slice B2 l2 cb2]) _ from N2.out.puts3 Z0.out Z1.out Z2.out m10.out m20.out m21.out _ _ _ _ _ _ _ _ _)
      have M3 := Lib.hid (show Nm (((((((((WX.setCell ⟨g, 0, none⟩ (.bool b1)).setCell ⟨g, 1, none⟩ (.slice A1 k1 ca1)).setCell ⟨g, 2, none⟩ (.slice B1 l1 cb1)).setCell ⟨g + 1, 0, none⟩ (.bool b2)).setCell ⟨g + 1, 1, none⟩ (.slice A2 k2 ca2)).setCell ⟨g + 1, 2, none⟩ (.slice B2 l2 cb2)).setCell ⟨g + 1 + 1, 0, none⟩ (.bool b3)).setCell ⟨g + 1 + 1, 1, none⟩ (.slice A3 k3 ca3)).setCell ⟨g + 1 + 1, 2, none⟩ (.slice B3 l3 cb3)) (.agg #[.bool b3, .slice A3 k3 ca3, .slice B3 l3 cb3]) _ from N3.out.puts3 Z0.out Z1.out Z2.out m10.out m20.out m21.out _ _ _ _ _ _ _ _ _)
      have MX := Lib.hid (show Ext w (((((((((WX.setCell ⟨g, 0, none⟩ (.bool b1)).setCell ⟨g, 1, none⟩ (.slice A1 k1 ca1)).setCell ⟨g, 2, none⟩ (.slice B1 l1 cb1)).setCell ⟨g + 1, 0, none⟩ (.bool b2)).setCell ⟨g + 1, 1, none⟩ (.slice A2 k2 ca2)).setCell ⟨g + 1, 2, none⟩ (.slice B2 l2 cb2)).setCell ⟨g + 1 + 1, 0, none⟩ (.bool b3)).setCell ⟨g + 1 + 1, 1, none⟩ (.slice A3 k3 ca3)).setCell ⟨g + 1 + 1, 2, none⟩ (.slice B3 l3 cb3)) from ext_put3 (ext_put3 (ext_put3 EX.out HG.out _ _ _) HG1.out _ _ _) HG2.out _ _ _)
      clear y0 y1 y2 y3 y4 y5 y6 y7 y8 yf0 yf1 yf2 yf3 yf4 yf5 yf6 yf7 yf8 HC R1 R2 R3 Z0 Z1 Z2 N1 N2 N3 EX
      try clear hHeld
      generalize (((((((((WX.setCell ⟨g, 0, none⟩ (.bool b1)).setCell ⟨g, 1, none⟩ (.slice A1 k1 ca1)).setCell ⟨g, 2, none⟩ (.slice B1 l1 cb1)).setCell ⟨g + 1, 0, none⟩ (.bool b2)).setCell ⟨g + 1, 1, none⟩ (.slice A2 k2 ca2)).setCell ⟨g + 1, 2, none⟩ (.slice B2 l2 cb2)).setCell ⟨g + 1 + 1, 0, none⟩ (.bool b3)).setCell ⟨g + 1 + 1, 1, none⟩ (.slice A3 k3 ca3)).setCell ⟨g + 1 + 1, 2, none⟩ (.slice B3 l3 cb3)) = WF at *
      obtain ⟨y0, y1, y2, -⟩ := row3_0 hr0
      obtain ⟨y3, y4, y5, -⟩ := row3_0 hr1
      obtain ⟨y6, y7, y8, -⟩ := row3_0 hr2
      clear hr0 hr1 hr2
      refine bodyPost_ret (v := .tuple #[.agg #[.bool b1, .slice A1 k1 ca1, .slice B1 l1 cb1], .agg #[.bool b2, .slice A2 k2 ca2, .slice B2 l2 cb2], .agg #[.bool b3, .slice A3 k3 ca3, .slice B3 l3 cb3], .bool false]) (by simp [results, Tryz.f49]; go_simp) rfl ?_
      exact ⟨_, _, _, rfl, M1.out.mono (ext_drew _), M2.out.mono (ext_drew _), M3.out.mono (ext_drew _), ext_trans MX.out (ext_drew _)⟩
end Go.Proofs.YtpgdefgdboijlaaGreatDoor
