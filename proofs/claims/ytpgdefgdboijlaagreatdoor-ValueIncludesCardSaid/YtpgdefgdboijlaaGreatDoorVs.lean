/- Spans: joins, sums, meets. Printed by gen_vs.py. Spans: products. Printed by gen_vm.py. -/
import Derived.Test.YtpgdefgdboijlaaGreatDoorPi
import Derived.Test.YtpgdefgdboijlaaGreatDoorUa
import Derived.Test.YtpgdefgdboijlaaGreatDoorNe
import Derived.Deep.RegionHeld3
import Derived.Deep.DeepCutAuto
import Derived.Test.YtpgdefgdboijlaaGreatDoorNc
namespace Go.Proofs.YtpgdefgdboijlaaGreatDoor
open Go.RowKit
set_option linter.unusedVariables false
theorem Sp.put6 {W : World} {v : Value} {lo hi : Rat} {g : Nat} {b1 b2 : Bool} {A B C D : Option Addr} {k ca l cb m cc n cd : Nat} {T : TypeId} (h : Sp W v lo hi)
    (hg : W.heap[g]? = some (.cells #[.bool b1, .slice A k ca, .slice B l cb, .bool b2, .slice C m cc, .slice D n cd] T (0, 0))) (a b c d e f : Value) : Sp (put6 W g a b c d e f) v lo hi := by
  obtain ⟨x0, x1, x2, y0, y1, y2, e', h1, h2⟩ := h
  exact ⟨x0, x1, x2, y0, y1, y2, e', h1.put6 hg .., h2.put6 hg ..⟩
theorem setupS3 (w : World) (a0 a1 a2 a3 a4 a5 b0 b1 b2 b3 b4 b5 : Value) : Ext w (((w.alloc (.cells #[a0, a1, a2, a3, a4, a5] 68)).alloc (.cells #[b0, b1, b2, b3, b4, b5] 68)).alloc (.cells #[.bool false, .slice none 0 0, .slice none 0 0, .bool false, .slice none 0 0, .slice none 0 0] 68)) ∧
    (((w.alloc (.cells #[a0, a1, a2, a3, a4, a5] 68)).alloc (.cells #[b0, b1, b2, b3, b4, b5] 68)).alloc (.cells #[.bool false, .slice none 0 0, .slice none 0 0, .bool false, .slice none 0 0, .slice none 0 0] 68)).heap[w.heap.size]? = some (.cells #[a0, a1, a2, a3, a4, a5] 68 (0, 0)) ∧
    (((w.alloc (.cells #[a0, a1, a2, a3, a4, a5] 68)).alloc (.cells #[b0, b1, b2, b3, b4, b5] 68)).alloc (.cells #[.bool false, .slice none 0 0, .slice none 0 0, .bool false, .slice none 0 0, .slice none 0 0] 68)).heap[w.heap.size + 1]? = some (.cells #[b0, b1, b2, b3, b4, b5] 68 (0, 0)) ∧
    (((w.alloc (.cells #[a0, a1, a2, a3, a4, a5] 68)).alloc (.cells #[b0, b1, b2, b3, b4, b5] 68)).alloc (.cells #[.bool false, .slice none 0 0, .slice none 0 0, .bool false, .slice none 0 0, .slice none 0 0] 68)).heap[w.heap.size + 1 + 1]? = some (.cells #[.bool false, .slice none 0 0, .slice none 0 0, .bool false, .slice none 0 0, .slice none 0 0] 68 (0, 0)) := by
  refine ⟨ext_trans (ext_alloc _ _) (ext_trans (ext_alloc _ _) (ext_alloc _ _)), row6 (ext_trans (ext_alloc _ _) (ext_alloc _ _)), ?_, ?_⟩
  · rw [← heap_size_alloc' w (.cells #[a0, a1, a2, a3, a4, a5] 68)]; exact row6 (ext_alloc _ _)
  · rw [← heap_size_alloc' w (.cells #[a0, a1, a2, a3, a4, a5] 68), ← heap_size_alloc' (w.alloc (.cells #[a0, a1, a2, a3, a4, a5] 68)) (.cells #[b0, b1, b2, b3, b4, b5] 68)]; exact heap_alloc_new _ _
/-- both spans are sorted, in two blocks; behind these the result's -/
def SrtR (w : World) (g0 : Nat) (s t : Rat × Rat) (W : World) : Prop := ∃ b5 A5 k5 ca5 B5 l5 cb5 b6 A6 k6 ca6 B6 l6 cb6 b7 A7 k7 ca7 B7 l7 cb7 b8 A8 k8 ca8 B8 l8 cb8,
  W.heap[g0]? = some (.cells #[.bool b5, .slice A5 k5 ca5, .slice B5 l5 cb5, .bool b6, .slice A6 k6 ca6, .slice B6 l6 cb6] 68 (0, 0)) ∧ W.heap[g0 + 1]? = some (.cells #[.bool b7, .slice A7 k7 ca7, .slice B7 l7 cb7, .bool b8, .slice A8 k8 ca8, .slice B8 l8 cb8] 68 (0, 0)) ∧ W.heap[g0 + 1 + 1]? = some (.cells #[.bool false, .slice none 0 0, .slice none 0 0, .bool false, .slice none 0 0, .slice none 0 0] 68 (0, 0)) ∧
  Sp W (.agg #[.bool b5, .slice A5 k5 ca5, .slice B5 l5 cb5, .bool b6, .slice A6 k6 ca6, .slice B6 l6 cb6]) s.1 s.2 ∧ Sp W (.agg #[.bool b7, .slice A7 k7 ca7, .slice B7 l7 cb7, .bool b8, .slice A8 k8 ca8, .slice B8 l8 cb8]) t.1 t.2 ∧ Ext w W
theorem two_rows_v {W : World} {g0 : Nat} {b5 A5 k5 ca5 B5 l5 cb5 b6 A6 k6 ca6 B6 l6 cb6 b7 A7 k7 ca7 B7 l7 cb7 b8 A8 k8 ca8 B8 l8 cb8 : _} (h : W.heap[g0]? = some (.cells #[.bool b5, .slice A5 k5 ca5, .slice B5 l5 cb5, .bool b6, .slice A6 k6 ca6, .slice B6 l6 cb6] 68 (0, 0))) (k : W.heap[g0 + 1]? = some (.cells #[.bool b7, .slice A7 k7 ca7, .slice B7 l7 cb7, .bool b8, .slice A8 k8 ca8, .slice B8 l8 cb8] 68 (0, 0))) :
    W.cell? ⟨g0, 0, none⟩ = some (.bool b5) ∧ W.cell? ⟨g0, 1, none⟩ = some (.slice A5 k5 ca5) ∧ W.cell? ⟨g0, 2, none⟩ = some (.slice B5 l5 cb5) ∧ W.cell? ⟨g0, 3, none⟩ = some (.bool b6) ∧ W.cell? ⟨g0, 4, none⟩ = some (.slice A6 k6 ca6) ∧ W.cell? ⟨g0, 5, none⟩ = some (.slice B6 l6 cb6) ∧ W.cell? ⟨g0 + 1, 0, none⟩ = some (.bool b7) ∧ W.cell? ⟨g0 + 1, 1, none⟩ = some (.slice A7 k7 ca7) ∧ W.cell? ⟨g0 + 1, 2, none⟩ = some (.slice B7 l7 cb7) ∧ W.cell? ⟨g0 + 1, 3, none⟩ = some (.bool b8) ∧ W.cell? ⟨g0 + 1, 4, none⟩ = some (.slice A8 k8 ca8) ∧ W.cell? ⟨g0 + 1, 5, none⟩ = some (.slice B8 l8 cb8) := by
  obtain ⟨p0, p1, p2, p3, p4, p5, -⟩ := row6_0 h
  obtain ⟨q0, q1, q2, q3, q4, q5, -⟩ := row6_0 k
  exact ⟨p0, p1, p2, p3, p4, p5, q0, q1, q2, q3, q4, q5⟩
theorem two_rows_put {W : World} {g0 : Nat} {b5 A5 k5 ca5 B5 l5 cb5 b6 A6 k6 ca6 B6 l6 cb6 b7 A7 k7 ca7 B7 l7 cb7 b8 A8 k8 ca8 B8 l8 cb8 : _} (h : W.heap[g0]? = some (.cells #[.bool b5, .slice A5 k5 ca5, .slice B5 l5 cb5, .bool b6, .slice A6 k6 ca6, .slice B6 l6 cb6] 68 (0, 0))) (k : W.heap[g0 + 1]? = some (.cells #[.bool b7, .slice A7 k7 ca7, .slice B7 l7 cb7, .bool b8, .slice A8 k8 ca8, .slice B8 l8 cb8] 68 (0, 0))) (a b c d e f : Value) :
    ((((((W.setCell ⟨g0 + 1 + 1, 0, none⟩ a).setCell ⟨g0 + 1 + 1, 1, none⟩ b).setCell ⟨g0 + 1 + 1, 2, none⟩ c).setCell ⟨g0 + 1 + 1, 3, none⟩ d).setCell ⟨g0 + 1 + 1, 4, none⟩ e).setCell ⟨g0 + 1 + 1, 5, none⟩ f).cell? ⟨g0, 0, none⟩ = some (.bool b5) ∧ ((((((W.setCell ⟨g0 + 1 + 1, 0, none⟩ a).setCell ⟨g0 + 1 + 1, 1, none⟩ b).setCell ⟨g0 + 1 + 1, 2, none⟩ c).setCell ⟨g0 + 1 + 1, 3, none⟩ d).setCell ⟨g0 + 1 + 1, 4, none⟩ e).setCell ⟨g0 + 1 + 1, 5, none⟩ f).cell? ⟨g0, 1, none⟩ = some (.slice A5 k5 ca5) ∧ ((((((W.setCell ⟨g0 + 1 + 1, 0, none⟩ a).setCell ⟨g0 + 1 + 1, 1, none⟩ b).setCell ⟨g0 + 1 + 1, 2, none⟩ c).setCell ⟨g0 + 1 + 1, 3, none⟩ d).setCell ⟨g0 + 1 + 1, 4, none⟩ e).setCell ⟨g0 + 1 + 1, 5, none⟩ f).cell? ⟨g0, 2, none⟩ = some (.slice B5 l5 cb5) ∧ ((((((W.setCell ⟨g0 + 1 + 1, 0, none⟩ a).setCell ⟨g0 + 1 + 1, 1, none⟩ b).setCell ⟨g0 + 1 + 1, 2, none⟩ c).setCell ⟨g0 + 1 + 1, 3, none⟩ d).setCell ⟨g0 + 1 + 1, 4, none⟩ e).setCell ⟨g0 + 1 + 1, 5, none⟩ f).cell? ⟨g0, 3, none⟩ = some (.bool b6) ∧ ((((((W.setCell ⟨g0 + 1 + 1, 0, none⟩ a).setCell ⟨g0 + 1 + 1, 1, none⟩ b).setCell ⟨g0 + 1 + 1, 2, none⟩ c).setCell ⟨g0 + 1 + 1, 3, none⟩ d).setCell ⟨g0 + 1 + 1, 4, none⟩ e).setCell ⟨g0 + 1 + 1, 5, none⟩ f).cell? ⟨g0, 4, none⟩ = some (.slice A6 k6 ca6) ∧ ((((((W.setCell ⟨g0 + 1 + 1, 0, none⟩ a).setCell ⟨g0 + 1 + 1, 1, none⟩ b).setCell ⟨g0 + 1 + 1, 2, none⟩ c).setCell ⟨g0 + 1 + 1, 3, none⟩ d).setCell ⟨g0 + 1 + 1, 4, none⟩ e).setCell ⟨g0 + 1 + 1, 5, none⟩ f).cell? ⟨g0, 5, none⟩ = some (.slice B6 l6 cb6) ∧ ((((((W.setCell ⟨g0 + 1 + 1, 0, none⟩ a).setCell ⟨g0 + 1 + 1, 1, none⟩ b).setCell ⟨g0 + 1 + 1, 2, none⟩ c).setCell ⟨g0 + 1 + 1, 3, none⟩ d).setCell ⟨g0 + 1 + 1, 4, none⟩ e).setCell ⟨g0 + 1 + 1, 5, none⟩ f).cell? ⟨g0 + 1, 0, none⟩ = some (.bool b7) ∧ ((((((W.setCell ⟨g0 + 1 + 1, 0, none⟩ a).setCell ⟨g0 + 1 + 1, 1, none⟩ b).setCell ⟨g0 + 1 + 1, 2, none⟩ c).setCell ⟨g0 + 1 + 1, 3, none⟩ d).setCell ⟨g0 + 1 + 1, 4, none⟩ e).setCell ⟨g0 + 1 + 1, 5, none⟩ f).cell? ⟨g0 + 1, 1, none⟩ = some (.slice A7 k7 ca7) ∧ ((((((W.setCell ⟨g0 + 1 + 1, 0, none⟩ a).setCell ⟨g0 + 1 + 1, 1, none⟩ b).setCell ⟨g0 + 1 + 1, 2, none⟩ c).setCell ⟨g0 + 1 + 1, 3, none⟩ d).setCell ⟨g0 + 1 + 1, 4, none⟩ e).setCell ⟨g0 + 1 + 1, 5, none⟩ f).cell? ⟨g0 + 1, 2, none⟩ = some (.slice B7 l7 cb7) ∧ ((((((W.setCell ⟨g0 + 1 + 1, 0, none⟩ a).setCell ⟨g0 + 1 + 1, 1, none⟩ b).setCell ⟨g0 + 1 + 1, 2, none⟩ c).setCell ⟨g0 + 1 + 1, 3, none⟩ d).setCell ⟨g0 + 1 + 1, 4, none⟩ e).setCell ⟨g0 + 1 + 1, 5, none⟩ f).cell? ⟨g0 + 1, 3, none⟩ = some (.bool b8) ∧ ((((((W.setCell ⟨g0 + 1 + 1, 0, none⟩ a).setCell ⟨g0 + 1 + 1, 1, none⟩ b).setCell ⟨g0 + 1 + 1, 2, none⟩ c).setCell ⟨g0 + 1 + 1, 3, none⟩ d).setCell ⟨g0 + 1 + 1, 4, none⟩ e).setCell ⟨g0 + 1 + 1, 5, none⟩ f).cell? ⟨g0 + 1, 4, none⟩ = some (.slice A8 k8 ca8) ∧ ((((((W.setCell ⟨g0 + 1 + 1, 0, none⟩ a).setCell ⟨g0 + 1 + 1, 1, none⟩ b).setCell ⟨g0 + 1 + 1, 2, none⟩ c).setCell ⟨g0 + 1 + 1, 3, none⟩ d).setCell ⟨g0 + 1 + 1, 4, none⟩ e).setCell ⟨g0 + 1 + 1, 5, none⟩ f).cell? ⟨g0 + 1, 5, none⟩ = some (.slice B8 l8 cb8) := two_rows_v (put6_other h (by omega) a b c d e f) (put6_other k (by omega) a b c d e f)
theorem sp_ends {W : World} {x0 x1 x2 y0 y1 y2 : Value} {lo hi : Rat} (h : Sp W (.agg #[x0, x1, x2, y0, y1, y2]) lo hi) : Hid (Nm W (.agg #[x0, x1, x2]) lo) ∧ Hid (Nm W (.agg #[y0, y1, y2]) hi) := by
  obtain ⟨x0', x1', x2', y0', y1', y2', ea, h1, h2⟩ := h
  simp only [Value.agg.injEq, Array.mk.injEq, List.cons.injEq, and_true] at ea
  obtain ⟨rfl, rfl, rfl, rfl, rfl, rfl⟩ := ea
  exact ⟨Lib.hid h1, Lib.hid h2⟩
theorem bq_sort {M : Nat} {a b : Rat} (ha : Bq M a) (hb : Bq M b) : Bq M (sortQ a b).1 ∧ Bq M (sortQ a b).2 := by
  unfold sortQ; split
  · exact ⟨hb, ha⟩
  · exact ⟨ha, hb⟩
set_option maxRecDepth 100000 in
set_option maxHeartbeats 8000000 in
theorem join_c (M : Nat) (hM : M ≤ 1099511627776) (va vb : Value) (qa qb qc qd : Rat) (w : World) (ha : Sp w va qa qb) (hb : Sp w vb qc qd) (ba1 : Bq M qa) (ba2 : Bq M qb) (bb1 : Bq M qc) (bb2 : Bq M qd) :
    Calls Tryz.prog 88 #[va, vb] w fun e w' => ∃ v, e = .returned v ∧ Sp w' v (minQ (sortQ qa qb).1 (sortQ qc qd).1) (maxQ (sortQ qa qb).2 (sortQ qc qd).2) ∧ Ext w w' := by
  obtain ⟨b1, A1, k1, ca1, B1, l1, cb1, b2, A2, k2, ca2, B2, l2, cb2, rfl, -, -⟩ := ha.form
  obtain ⟨b3, A3, k3, ca3, B3, l3, cb3, b4, A4, k4, ca4, B4, l4, cb4, rfl, -, -⟩ := hb.form
  have HA := Lib.hid ha
  have HB := Lib.hid hb
  have BA1 := Lib.hid ba1
  have BA2 := Lib.hid ba2
  have BB1 := Lib.hid bb1
  have BB2 := Lib.hid bb2
  have HM := Lib.hid hM
  clear ha hb ba1 ba2 bb1 bb2 hM
  obtain ⟨hw0, hra, hrb, hrz⟩ := setupS3 w (.bool b1) (.slice A1 k1 ca1) (.slice B1 l1 cb1) (.bool b2) (.slice A2 k2 ca2) (.slice B2 l2 cb2) (.bool b3) (.slice A3 k3 ca3) (.slice B3 l3 cb3) (.bool b4) (.slice A4 k4 ca4) (.slice B4 l4 cb4)
  have hww := Lib.hid hw0
  have RA := Lib.hid hra
  have RB := Lib.hid hrb
  have RZ := Lib.hid hrz
  clear hw0 hra hrb hrz
  go_enter Tryz.func88, Tryz.ntmps88
  go_wp2_with fail
  generalize World.alloc (World.alloc (World.alloc w (.cells #[.bool b1, .slice A1 k1 ca1, .slice B1 l1 cb1, .bool b2, .slice A2 k2 ca2, .slice B2 l2 cb2] _)) (.cells #[.bool b3, .slice A3 k3 ca3, .slice B3 l3 cb3, .bool b4, .slice A4 k4 ca4, .slice B4 l4 cb4] _)) (.cells #[.bool false, .slice none 0 0, .slice none 0 0, .bool false, .slice none 0 0, .slice none 0 0] _) = W2 at *
  have HW2 := Lib.hid (ext_refl W2)
  have LT0 := Lib.hid (show w.heap.size ≤ w.heap.size + 1 from Nat.le_succ _)
  have LT1 := Lib.hid (show w.heap.size ≤ w.heap.size + 1 + 1 from Nat.le_succ_of_le (Nat.le_succ _))
  have LE0 := Lib.hid (Nat.le_refl w.heap.size)
  generalize hg0 : w.heap.size = g0 at *
  have HG0 := Lib.hid hg0
  clear hg0
  have n01 := Lib.hid (show g0 ≠ g0 + 1 by omega)
  have n10 := Lib.hid (show g0 + 1 ≠ g0 by omega)
  have n02 := Lib.hid (show g0 ≠ g0 + 1 + 1 by omega)
  have n20 := Lib.hid (show g0 + 1 + 1 ≠ g0 by omega)
  have n12 := Lib.hid (show g0 + 1 ≠ g0 + 1 + 1 by omega)
  have n21 := Lib.hid (show g0 + 1 + 1 ≠ g0 + 1 by omega)
  have HR := Lib.hid (show ∀ W : World, Ext W2 W → W.heap[g0]? = some (.cells #[.bool b1, .slice A1 k1 ca1, .slice B1 l1 cb1, .bool b2, .slice A2 k2 ca2, .slice B2 l2 cb2] 68 (0, 0)) ∧ W.heap[g0 + 1]? = some (.cells #[.bool b3, .slice A3 k3 ca3, .slice B3 l3 cb3, .bool b4, .slice A4 k4 ca4, .slice B4 l4 cb4] 68 (0, 0)) ∧ W.heap[g0 + 1 + 1]? = some (.cells #[.bool false, .slice none 0 0, .slice none 0 0, .bool false, .slice none 0 0, .slice none 0 0] 68 (0, 0)) from fun W h =>
    ⟨(h.block _ (lt_of_block RA.out)).trans RA.out, (h.block _ (lt_of_block RB.out)).trans RB.out, (h.block _ (lt_of_block RZ.out)).trans RZ.out⟩)
  have HS := Lib.hid (show ∀ W : World, Ext W2 W → W.cell? ⟨g0, 0, none⟩ = some (.bool b1) ∧ W.cell? ⟨g0, 1, none⟩ = some (.slice A1 k1 ca1) ∧ W.cell? ⟨g0, 2, none⟩ = some (.slice B1 l1 cb1) ∧ W.cell? ⟨g0, 3, none⟩ = some (.bool b2) ∧ W.cell? ⟨g0, 4, none⟩ = some (.slice A2 k2 ca2) ∧ W.cell? ⟨g0, 5, none⟩ = some (.slice B2 l2 cb2) ∧ W.cell? ⟨g0 + 1, 0, none⟩ = some (.bool b3) ∧ W.cell? ⟨g0 + 1, 1, none⟩ = some (.slice A3 k3 ca3) ∧ W.cell? ⟨g0 + 1, 2, none⟩ = some (.slice B3 l3 cb3) ∧ W.cell? ⟨g0 + 1, 3, none⟩ = some (.bool b4) ∧ W.cell? ⟨g0 + 1, 4, none⟩ = some (.slice A4 k4 ca4) ∧ W.cell? ⟨g0 + 1, 5, none⟩ = some (.slice B4 l4 cb4) from fun W h => by
    obtain ⟨r1, r2, -⟩ := HR.out W h
    obtain ⟨p0, p1, p2, p3, p4, p5, -⟩ := row6_0 r1
    obtain ⟨q0, q1, q2, q3, q4, q5, -⟩ := row6_0 r2
    exact ⟨p0, p1, p2, p3, p4, p5, q0, q1, q2, q3, q4, q5⟩)
  go_cut [] (fun wx => SrtR w g0 (sortQ qa qb) (sortQ qc qd) wx)
  case first =>
    obtain ⟨xy1, xy2, -⟩ := HR.out W2 (ext_refl W2)
    obtain ⟨x0, x1, x2, x3, x4, x5, xf0, xf1, xf2, xf3, xf4, xf5⟩ := row6_0 xy1
    obtain ⟨y0, y1, y2, y3, y4, y5, yf0, yf1, yf2, yf3, yf4, yf5⟩ := row6_0 xy2
    clear xy1 xy2
    have e1 := Lib.hid (ext_refl W2)
    go_region_with (first
      | (go_at_call 141
         with_reducible refine (sorted_c M HM.out _ qa qb _ (HA.out.mono (ext_trans hww.out (by repeat (first | with_reducible exact ext_refl _ | with_reducible exact e1.out | with_reducible refine ext_trans ?_ (ext_alloc _ _) | with_reducible refine ext_trans ?_ (ext_drew _))))) BA1.out BA2.out).mono ?_
         rintro e w4 ⟨v4, rfl, h4, k4⟩
         obtain ⟨b5, A5, k5, ca5, B5, l5, cb5, b6, A6, k6, ca6, B6, l6, cb6, rfl, -, -⟩ := h4.form
         have S3 := Lib.hid h4
         have hx2 := Lib.hid (show Ext W2 w4 from ext_trans (by repeat (first | with_reducible exact ext_refl _ | with_reducible exact e1.out | with_reducible refine ext_trans ?_ (ext_alloc _ _) | with_reducible refine ext_trans ?_ (ext_drew _))) k4)
         clear h4 k4
         obtain ⟨pq1, pq2, -⟩ := HR.out w4 hx2.out
         obtain ⟨p0, p1, p2, p3, p4, p5, pf0, pf1, pf2, pf3, pf4, pf5⟩ := row6_0 pq1
         obtain ⟨q0, q1, q2, q3, q4, q5, qf0, qf1, qf2, qf3, qf4, qf5⟩ := row6_0 pq2
         clear pq1 pq2)
      | (go_at_call 141
         have _q := hx2
         with_reducible refine (sorted_c M HM.out _ qc qd _ (HB.out.mono (ext_trans hww.out hx2.out)) BB1.out BB2.out).mono ?_
         clear _q
         rintro e w5 ⟨v5, rfl, h5, k5⟩
         obtain ⟨b7, A7, k7, ca7, B7, l7, cb7, b8, A8, k8, ca8, B8, l8, cb8, rfl, -, -⟩ := h5.form
         have S4 := Lib.hid h5
         have hx3 := Lib.hid (ext_trans hx2.out k5)
         have e3 := Lib.hid k5
         clear h5 k5
         clear p0 p1 p2 p3 p4 p5 pf0 pf1 pf2 pf3 pf4 pf5 q0 q1 q2 q3 q4 q5 qf0 qf1 qf2 qf3 qf4 qf5
         obtain ⟨pq1, pq2, -⟩ := HR.out w5 hx3.out
         obtain ⟨p0, p1, p2, p3, p4, p5, pf0, pf1, pf2, pf3, pf4, pf5⟩ := row6_0 pq1
         obtain ⟨q0, q1, q2, q3, q4, q5, qf0, qf1, qf2, qf3, qf4, qf5⟩ := row6_0 pq2
         clear pq1 pq2
         have u01 := n01.out
         have u10 := n10.out))
    all_goals
      clear x0 x1 x2 x3 x4 x5 xf0 xf1 xf2 xf3 xf4 xf5 y0 y1 y2 y3 y4 y5 yf0 yf1 yf2 yf3 yf4 yf5 p0 p1 p2 p3 p4 p5 pf0 pf1 pf2 pf3 pf4 pf5 q0 q1 q2 q3 q4 q5 qf0 qf1 qf2 qf3 qf4 qf5 u01 u10
      go_wp2_with fail
      go_meet
      obtain ⟨hra, hrb, hrz⟩ := HR.out _ hx3.out
      have ra1 : ((((((w5.setCell ⟨g0, 0, none⟩ (.bool b5)).setCell ⟨g0, 1, none⟩ (.slice A5 k5 ca5)).setCell ⟨g0, 2, none⟩ (.slice B5 l5 cb5)).setCell ⟨g0, 3, none⟩ (.bool b6)).setCell ⟨g0, 4, none⟩ (.slice A6 k6 ca6)).setCell ⟨g0, 5, none⟩ (.slice B6 l6 cb6)).heap[g0]? = some (.cells #[.bool b5, .slice A5 k5 ca5, .slice B5 l5 cb5, .bool b6, .slice A6 k6 ca6, .slice B6 l6 cb6] 68 (0, 0)) := put6_row hra _ _ _ _ _ _
      have rb1 : ((((((w5.setCell ⟨g0, 0, none⟩ (.bool b5)).setCell ⟨g0, 1, none⟩ (.slice A5 k5 ca5)).setCell ⟨g0, 2, none⟩ (.slice B5 l5 cb5)).setCell ⟨g0, 3, none⟩ (.bool b6)).setCell ⟨g0, 4, none⟩ (.slice A6 k6 ca6)).setCell ⟨g0, 5, none⟩ (.slice B6 l6 cb6)).heap[g0 + 1]? = some (.cells #[.bool b3, .slice A3 k3 ca3, .slice B3 l3 cb3, .bool b4, .slice A4 k4 ca4, .slice B4 l4 cb4] 68 (0, 0)) := put6_other hrb n10.out _ _ _ _ _ _
      have rz1 : ((((((w5.setCell ⟨g0, 0, none⟩ (.bool b5)).setCell ⟨g0, 1, none⟩ (.slice A5 k5 ca5)).setCell ⟨g0, 2, none⟩ (.slice B5 l5 cb5)).setCell ⟨g0, 3, none⟩ (.bool b6)).setCell ⟨g0, 4, none⟩ (.slice A6 k6 ca6)).setCell ⟨g0, 5, none⟩ (.slice B6 l6 cb6)).heap[g0 + 1 + 1]? = some (.cells #[.bool false, .slice none 0 0, .slice none 0 0, .bool false, .slice none 0 0, .slice none 0 0] 68 (0, 0)) := put6_other hrz n20.out _ _ _ _ _ _
      have ra2 : ((((((((((((w5.setCell ⟨g0, 0, none⟩ (.bool b5)).setCell ⟨g0, 1, none⟩ (.slice A5 k5 ca5)).setCell ⟨g0, 2, none⟩ (.slice B5 l5 cb5)).setCell ⟨g0, 3, none⟩ (.bool b6)).setCell ⟨g0, 4, none⟩ (.slice A6 k6 ca6)).setCell ⟨g0, 5, none⟩ (.slice B6 l6 cb6)).setCell ⟨g0 + 1, 0, none⟩ (.bool b7)).setCell ⟨g0 + 1, 1, none⟩ (.slice A7 k7 ca7)).setCell ⟨g0 + 1, 2, none⟩ (.slice B7 l7 cb7)).setCell ⟨g0 + 1, 3, none⟩ (.bool b8)).setCell ⟨g0 + 1, 4, none⟩ (.slice A8 k8 ca8)).setCell ⟨g0 + 1, 5, none⟩ (.slice B8 l8 cb8)).heap[g0]? = some (.cells #[.bool b5, .slice A5 k5 ca5, .slice B5 l5 cb5, .bool b6, .slice A6 k6 ca6, .slice B6 l6 cb6] 68 (0, 0)) := put6_other ra1 n01.out _ _ _ _ _ _
      have rb2 : ((((((((((((w5.setCell ⟨g0, 0, none⟩ (.bool b5)).setCell ⟨g0, 1, none⟩ (.slice A5 k5 ca5)).setCell ⟨g0, 2, none⟩ (.slice B5 l5 cb5)).setCell ⟨g0, 3, none⟩ (.bool b6)).setCell ⟨g0, 4, none⟩ (.slice A6 k6 ca6)).setCell ⟨g0, 5, none⟩ (.slice B6 l6 cb6)).setCell ⟨g0 + 1, 0, none⟩ (.bool b7)).setCell ⟨g0 + 1, 1, none⟩ (.slice A7 k7 ca7)).setCell ⟨g0 + 1, 2, none⟩ (.slice B7 l7 cb7)).setCell ⟨g0 + 1, 3, none⟩ (.bool b8)).setCell ⟨g0 + 1, 4, none⟩ (.slice A8 k8 ca8)).setCell ⟨g0 + 1, 5, none⟩ (.slice B8 l8 cb8)).heap[g0 + 1]? = some (.cells #[.bool b7, .slice A7 k7 ca7, .slice B7 l7 cb7, .bool b8, .slice A8 k8 ca8, .slice B8 l8 cb8] 68 (0, 0)) := put6_row rb1 _ _ _ _ _ _
      have rz2 : ((((((((((((w5.setCell ⟨g0, 0, none⟩ (.bool b5)).setCell ⟨g0, 1, none⟩ (.slice A5 k5 ca5)).setCell ⟨g0, 2, none⟩ (.slice B5 l5 cb5)).setCell ⟨g0, 3, none⟩ (.bool b6)).setCell ⟨g0, 4, none⟩ (.slice A6 k6 ca6)).setCell ⟨g0, 5, none⟩ (.slice B6 l6 cb6)).setCell ⟨g0 + 1, 0, none⟩ (.bool b7)).setCell ⟨g0 + 1, 1, none⟩ (.slice A7 k7 ca7)).setCell ⟨g0 + 1, 2, none⟩ (.slice B7 l7 cb7)).setCell ⟨g0 + 1, 3, none⟩ (.bool b8)).setCell ⟨g0 + 1, 4, none⟩ (.slice A8 k8 ca8)).setCell ⟨g0 + 1, 5, none⟩ (.slice B8 l8 cb8)).heap[g0 + 1 + 1]? = some (.cells #[.bool false, .slice none 0 0, .slice none 0 0, .bool false, .slice none 0 0, .slice none 0 0] 68 (0, 0)) := put6_other rz1 n21.out _ _ _ _ _ _
      have S3' : Sp ((((((((((((w5.setCell ⟨g0, 0, none⟩ (.bool b5)).setCell ⟨g0, 1, none⟩ (.slice A5 k5 ca5)).setCell ⟨g0, 2, none⟩ (.slice B5 l5 cb5)).setCell ⟨g0, 3, none⟩ (.bool b6)).setCell ⟨g0, 4, none⟩ (.slice A6 k6 ca6)).setCell ⟨g0, 5, none⟩ (.slice B6 l6 cb6)).setCell ⟨g0 + 1, 0, none⟩ (.bool b7)).setCell ⟨g0 + 1, 1, none⟩ (.slice A7 k7 ca7)).setCell ⟨g0 + 1, 2, none⟩ (.slice B7 l7 cb7)).setCell ⟨g0 + 1, 3, none⟩ (.bool b8)).setCell ⟨g0 + 1, 4, none⟩ (.slice A8 k8 ca8)).setCell ⟨g0 + 1, 5, none⟩ (.slice B8 l8 cb8)) (.agg #[.bool b5, .slice A5 k5 ca5, .slice B5 l5 cb5, .bool b6, .slice A6 k6 ca6, .slice B6 l6 cb6]) _ _ := ((S3.out.mono e3.out).put6 hra _ _ _ _ _ _).put6 rb1 _ _ _ _ _ _
      have S4' : Sp ((((((((((((w5.setCell ⟨g0, 0, none⟩ (.bool b5)).setCell ⟨g0, 1, none⟩ (.slice A5 k5 ca5)).setCell ⟨g0, 2, none⟩ (.slice B5 l5 cb5)).setCell ⟨g0, 3, none⟩ (.bool b6)).setCell ⟨g0, 4, none⟩ (.slice A6 k6 ca6)).setCell ⟨g0, 5, none⟩ (.slice B6 l6 cb6)).setCell ⟨g0 + 1, 0, none⟩ (.bool b7)).setCell ⟨g0 + 1, 1, none⟩ (.slice A7 k7 ca7)).setCell ⟨g0 + 1, 2, none⟩ (.slice B7 l7 cb7)).setCell ⟨g0 + 1, 3, none⟩ (.bool b8)).setCell ⟨g0 + 1, 4, none⟩ (.slice A8 k8 ca8)).setCell ⟨g0 + 1, 5, none⟩ (.slice B8 l8 cb8)) (.agg #[.bool b7, .slice A7 k7 ca7, .slice B7 l7 cb7, .bool b8, .slice A8 k8 ca8, .slice B8 l8 cb8]) _ _ := (S4.out.put6 hra _ _ _ _ _ _).put6 rb1 _ _ _ _ _ _
      have EF : Ext w ((((((((((((w5.setCell ⟨g0, 0, none⟩ (.bool b5)).setCell ⟨g0, 1, none⟩ (.slice A5 k5 ca5)).setCell ⟨g0, 2, none⟩ (.slice B5 l5 cb5)).setCell ⟨g0, 3, none⟩ (.bool b6)).setCell ⟨g0, 4, none⟩ (.slice A6 k6 ca6)).setCell ⟨g0, 5, none⟩ (.slice B6 l6 cb6)).setCell ⟨g0 + 1, 0, none⟩ (.bool b7)).setCell ⟨g0 + 1, 1, none⟩ (.slice A7 k7 ca7)).setCell ⟨g0 + 1, 2, none⟩ (.slice B7 l7 cb7)).setCell ⟨g0 + 1, 3, none⟩ (.bool b8)).setCell ⟨g0 + 1, 4, none⟩ (.slice A8 k8 ca8)).setCell ⟨g0 + 1, 5, none⟩ (.slice B8 l8 cb8)) := put6_ext (put6_ext (ext_trans hww.out hx3.out) (by rw [HG0.out]; exact LE0.out) _ _ _ _ _ _) (by rw [HG0.out]; exact LT0.out) _ _ _ _ _ _
      exact ⟨_, _, _, _, _, _, _, _, _, _, _, _, _, _, _, _, _, _, _, _, _, _, _, _, _, _, _, _, ra2, rb2, rz2, S3', S4', EF⟩
  case rest =>
    obtain ⟨b5, A5, k5, ca5, B5, l5, cb5, b6, A6, k6, ca6, B6, l6, cb6, b7, A7, k7, ca7, B7, l7, cb7, b8, A8, k8, ca8, B8, l8, cb8, ra3, rb3, rz3, S5, S6, EF'⟩ := hcut
    rename World => WF
    have ra2 := Lib.hid ra3
    have rb2 := Lib.hid rb3
    have rz2 := Lib.hid rz3
    have S3' := Lib.hid S5
    have S4' := Lib.hid S6
    have EF := Lib.hid EF'
    clear ra3 rb3 rz3 S5 S6 EF' hww HW2 HS HR RA RB RZ HA HB
    have BS := Lib.hid (bq_sort BA1.out BA2.out)
    have BT := Lib.hid (bq_sort BB1.out BB2.out)
    obtain ⟨HL1, HH1⟩ := sp_ends S3'.out
    obtain ⟨HL2, HH2⟩ := sp_ends S4'.out
    clear S3' S4'
    have HR := Lib.hid (show ∀ W : World, Ext WF W → W.heap[g0]? = some (.cells #[.bool b5, .slice A5 k5 ca5, .slice B5 l5 cb5, .bool b6, .slice A6 k6 ca6, .slice B6 l6 cb6] 68 (0, 0)) ∧ W.heap[g0 + 1]? = some (.cells #[.bool b7, .slice A7 k7 ca7, .slice B7 l7 cb7, .bool b8, .slice A8 k8 ca8, .slice B8 l8 cb8] 68 (0, 0)) ∧ W.heap[g0 + 1 + 1]? = some (.cells #[.bool false, .slice none 0 0, .slice none 0 0, .bool false, .slice none 0 0, .slice none 0 0] 68 (0, 0)) from fun W h =>
      ⟨(h.block _ (lt_of_block ra2.out)).trans ra2.out, (h.block _ (lt_of_block rb2.out)).trans rb2.out, (h.block _ (lt_of_block rz2.out)).trans rz2.out⟩)
    clear ra2 rb2 rz2
    go_upto_region 2 with (fail)
    have e1 := Lib.hid (ext_drew WF)
    have hx1 := e1
    go_region_held3 (fun W => W.cell? ⟨g0, 0, none⟩ = some (.bool b5) ∧ W.cell? ⟨g0, 1, none⟩ = some (.slice A5 k5 ca5) ∧ W.cell? ⟨g0, 2, none⟩ = some (.slice B5 l5 cb5) ∧ W.cell? ⟨g0, 3, none⟩ = some (.bool b6) ∧ W.cell? ⟨g0, 4, none⟩ = some (.slice A6 k6 ca6) ∧ W.cell? ⟨g0, 5, none⟩ = some (.slice B6 l6 cb6) ∧ W.cell? ⟨g0 + 1, 0, none⟩ = some (.bool b7) ∧ W.cell? ⟨g0 + 1, 1, none⟩ = some (.slice A7 k7 ca7) ∧ W.cell? ⟨g0 + 1, 2, none⟩ = some (.slice B7 l7 cb7) ∧ W.cell? ⟨g0 + 1, 3, none⟩ = some (.bool b8) ∧ W.cell? ⟨g0 + 1, 4, none⟩ = some (.slice A8 k8 ca8) ∧ W.cell? ⟨g0 + 1, 5, none⟩ = some (.slice B8 l8 cb8))
      (first
        | with_reducible exact two_rows_v (HR.out _ hx3.out).1 (HR.out _ hx3.out).2.1
        | with_reducible exact two_rows_v (HR.out _ hx2.out).1 (HR.out _ hx2.out).2.1
        | with_reducible exact two_rows_v (HR.out _ hx1.out).1 (HR.out _ hx1.out).2.1
        | with_reducible exact two_rows_put (HR.out _ hx3.out).1 (HR.out _ hx3.out).2.1 _ _ _ _ _ _)
      (first
        | (have _q := hx2
           go_at_call 61
           refine (max_q M HM.out _ _ (sortQ qa qb).2 (sortQ qc qd).2 _ (HH1.out.mono hx2.out) (HH2.out.mono hx2.out) BS.out.2 BT.out.2).mono ?_
           clear _q
           rintro e w8 ⟨v8, rfl, h8, kk8⟩
           obtain ⟨b12, A12, k12, ca12, B12, l12, cb12, rfl⟩ := h8.form2
           have H5 := Lib.hid h8
           have hx3 := Lib.hid (ext_trans hx2.out kk8)
           have e3 := Lib.hid kk8
           clear h8 kk8
           obtain ⟨-, -, rz⟩ := HR.out w8 hx3.out
           obtain ⟨z0, z1, z2, z3, z4, z5, zf0, zf1, zf2, zf3, zf4, zf5⟩ := row6_0 rz
           have RZ3 := Lib.hid rz
           clear rz)
        | (have _q := hx1
           go_at_call 59
           refine (min_q M HM.out _ _ (sortQ qa qb).1 (sortQ qc qd).1 _ (HL1.out.mono hx1.out) (HL2.out.mono hx1.out) BS.out.1 BT.out.1).mono ?_
           clear _q
           rintro e w7 ⟨v7, rfl, h7, kk7⟩
           obtain ⟨b11, A11, k11, ca11, B11, l11, cb11, rfl⟩ := h7.form2
           have H4 := Lib.hid h7
           have hx2 := Lib.hid (ext_trans hx1.out kk7)
           clear h7 kk7))
    all_goals
      go_wp2_with fail
      refine bodyPost_ret (v := .agg #[.bool b11, .slice A11 k11 ca11, .slice B11 l11 cb11, .bool b12, .slice A12 k12 ca12, .slice B12 l12 cb12]) (by simp [results, Tryz.f88]; go_simp) rfl ?_
      exact ⟨_, rfl, ⟨_, _, _, _, _, _, rfl, (H4.out.mono e3.out).put6 RZ3.out _ _ _ _ _ _, H5.out.put6 RZ3.out _ _ _ _ _ _⟩, put6_ext (ext_trans EF.out hx3.out) (by rw [HG0.out]; exact LT1.out) _ _ _ _ _ _⟩
end Go.Proofs.YtpgdefgdboijlaaGreatDoor
namespace Go.Proofs.YtpgdefgdboijlaaGreatDoor
open Go.RowKit
set_option linter.unusedVariables false
theorem ext_put6 {b W : World} {g : Nat} (h : Ext b W) (hg : b.heap.size ≤ g) (a c d e f k : Value) : Ext b ((((((W.setCell ⟨g, 0, none⟩ a).setCell ⟨g, 1, none⟩ c).setCell ⟨g, 2, none⟩ d).setCell ⟨g, 3, none⟩ e).setCell ⟨g, 4, none⟩ f).setCell ⟨g, 5, none⟩ k) := put6_ext h hg a c d e f k
theorem put6_rowz {W : World} {g : Nat} (h : W.heap[g]? = some (.cells #[.bool false, .slice none 0 0, .slice none 0 0, .bool false, .slice none 0 0, .slice none 0 0] 68 (0, 0))) (a b c d e f : Value) : ((((((W.setCell ⟨g, 0, none⟩ a).setCell ⟨g, 1, none⟩ b).setCell ⟨g, 2, none⟩ c).setCell ⟨g, 3, none⟩ d).setCell ⟨g, 4, none⟩ e).setCell ⟨g, 5, none⟩ f).heap[g]? = some (.cells #[a, b, c, d, e, f] 68 (0, 0)) := put6_row h a b c d e f
theorem nm_put6z {W : World} {v : Value} {q : Rat} {g : Nat} (h : Nm W v q) (hg : W.heap[g]? = some (.cells #[.bool false, .slice none 0 0, .slice none 0 0, .bool false, .slice none 0 0, .slice none 0 0] 68 (0, 0))) (a b c d e f : Value) : Nm ((((((W.setCell ⟨g, 0, none⟩ a).setCell ⟨g, 1, none⟩ b).setCell ⟨g, 2, none⟩ c).setCell ⟨g, 3, none⟩ d).setCell ⟨g, 4, none⟩ e).setCell ⟨g, 5, none⟩ f) v q := h.put6 hg a b c d e f
theorem ext_al' {a b : World} (h : Ext a b) (o : Obj) : Ext a (b.alloc o) := ext_trans h (ext_alloc _ _)
theorem ext_dr' {a b : World} (h : Ext a b) : Ext a b.drew := ext_trans h (ext_drew _)
theorem nm_al' {W : World} {v : Value} {q : Rat} {o : Obj} (h : Nm W v q) : Nm (W.alloc o) v q := h.mono (ext_alloc _ _)
theorem s_of {W : World} {g0 : Nat} {b1 A1 k1 ca1 B1 l1 cb1 b2 A2 k2 ca2 B2 l2 cb2 b3 A3 k3 ca3 B3 l3 cb3 b4 A4 k4 ca4 B4 l4 cb4 : _} (h : W.heap[g0]? = some (.cells #[.bool b1, .slice A1 k1 ca1, .slice B1 l1 cb1, .bool b2, .slice A2 k2 ca2, .slice B2 l2 cb2] 68 (0, 0)) ∧ W.heap[g0 + 1]? = some (.cells #[.bool b3, .slice A3 k3 ca3, .slice B3 l3 cb3, .bool b4, .slice A4 k4 ca4, .slice B4 l4 cb4] 68 (0, 0))) :
    W.cell? ⟨g0, 0, none⟩ = some (.bool b1) ∧ W.cell? ⟨g0, 1, none⟩ = some (.slice A1 k1 ca1) ∧ W.cell? ⟨g0, 2, none⟩ = some (.slice B1 l1 cb1) ∧ W.cell? ⟨g0, 3, none⟩ = some (.bool b2) ∧ W.cell? ⟨g0, 4, none⟩ = some (.slice A2 k2 ca2) ∧ W.cell? ⟨g0, 5, none⟩ = some (.slice B2 l2 cb2) ∧ W.cell? ⟨g0 + 1, 0, none⟩ = some (.bool b3) ∧ W.cell? ⟨g0 + 1, 1, none⟩ = some (.slice A3 k3 ca3) ∧ W.cell? ⟨g0 + 1, 2, none⟩ = some (.slice B3 l3 cb3) ∧ W.cell? ⟨g0 + 1, 3, none⟩ = some (.bool b4) ∧ W.cell? ⟨g0 + 1, 4, none⟩ = some (.slice A4 k4 ca4) ∧ W.cell? ⟨g0 + 1, 5, none⟩ = some (.slice B4 l4 cb4) := two_rows_v h.1 h.2
/-- a new span -/
def NewS (W0 : World) (q1 q2 : Rat) (gs : Nat) (wx : World) : Prop := ∃ b A k c B l d b' A' k' c' B' l' d',
  wx.heap[gs]? = some (.cells #[.bool b, .slice A k c, .slice B l d, .bool b', .slice A' k' c', .slice B' l' d'] 68 (0, 0)) ∧
  Nm wx (.agg #[.bool b, .slice A k c, .slice B l d]) q1 ∧ Nm wx (.agg #[.bool b', .slice A' k' c', .slice B' l' d']) q2 ∧ Ext W0 wx
set_option maxRecDepth 100000 in
set_option maxHeartbeats 8000000 in
theorem mulS_c (M : Nat) (hM : M ≤ 549755813888) (va vb : Value) (qa qb qc qd : Rat) (w : World) (ha : Sp w va qa qb) (hb : Sp w vb qc qd) (ba1 : Bq M qa) (ba2 : Bq M qb) (bb1 : Bq M qc) (bb2 : Bq M qd) :
    Calls Tryz.prog 67 #[va, vb] w fun e w' => ∃ v, e = .returned v ∧ Sp w' v (mulS qa qb qc qd).1 (mulS qa qb qc qd).2 ∧ Ext w w' := by
  obtain ⟨b1, A1, k1, ca1, B1, l1, cb1, b2, A2, k2, ca2, B2, l2, cb2, rfl, -, -⟩ := ha.form
  obtain ⟨b3, A3, k3, ca3, B3, l3, cb3, b4, A4, k4, ca4, B4, l4, cb4, rfl, -, -⟩ := hb.form
  obtain ⟨HA1, HA2⟩ := sp_ends ha
  obtain ⟨HB1, HB2⟩ := sp_ends hb
  have BA1 := Lib.hid ba1
  have BA2 := Lib.hid ba2
  have BB1 := Lib.hid bb1
  have BB2 := Lib.hid bb2
  have HM := Lib.hid hM
  have HM' := Lib.hid (show M ≤ 1099511627776 by omega)
  clear ha hb ba1 ba2 bb1 bb2 hM
  obtain ⟨hw0, hra, hrb, hrz⟩ := setupS3 w (.bool b1) (.slice A1 k1 ca1) (.slice B1 l1 cb1) (.bool b2) (.slice A2 k2 ca2) (.slice B2 l2 cb2) (.bool b3) (.slice A3 k3 ca3) (.slice B3 l3 cb3) (.bool b4) (.slice A4 k4 ca4) (.slice B4 l4 cb4)
  have hww := Lib.hid hw0
  have RA := Lib.hid hra
  have RB := Lib.hid hrb
  have RZ := Lib.hid hrz
  clear hw0 hra hrb hrz
  go_enter Tryz.func67, Tryz.ntmps67
  go_wp2_with fail
  generalize World.alloc (World.alloc (World.alloc w (.cells #[.bool b1, .slice A1 k1 ca1, .slice B1 l1 cb1, .bool b2, .slice A2 k2 ca2, .slice B2 l2 cb2] _)) (.cells #[.bool b3, .slice A3 k3 ca3, .slice B3 l3 cb3, .bool b4, .slice A4 k4 ca4, .slice B4 l4 cb4] _)) (.cells #[.bool false, .slice none 0 0, .slice none 0 0, .bool false, .slice none 0 0, .slice none 0 0] _) = W2 at *
  have LT1 := Lib.hid (show w.heap.size ≤ w.heap.size + 1 + 1 from Nat.le_succ_of_le (Nat.le_succ _))
  generalize hg0 : w.heap.size = g0 at *
  have HG0 := Lib.hid hg0
  clear hg0
  have HR := Lib.hid (show ∀ W : World, Ext W2 W → W.heap[g0]? = some (.cells #[.bool b1, .slice A1 k1 ca1, .slice B1 l1 cb1, .bool b2, .slice A2 k2 ca2, .slice B2 l2 cb2] 68 (0, 0)) ∧ W.heap[g0 + 1]? = some (.cells #[.bool b3, .slice A3 k3 ca3, .slice B3 l3 cb3, .bool b4, .slice A4 k4 ca4, .slice B4 l4 cb4] 68 (0, 0)) ∧ W.heap[g0 + 1 + 1]? = some (.cells #[.bool false, .slice none 0 0, .slice none 0 0, .bool false, .slice none 0 0, .slice none 0 0] 68 (0, 0)) from fun W h =>
    ⟨(h.block _ (lt_of_block RA.out)).trans RA.out, (h.block _ (lt_of_block RB.out)).trans RB.out, (h.block _ (lt_of_block RZ.out)).trans RZ.out⟩)
  clear RA RB RZ
  go_cut [5] (fun p wx => ∃ gs : Nat, p = .pointer (some ⟨gs, 0, none⟩) ∧ NewS W2 (qa * qc) (qa * qd) gs wx)
  case first =>
    have hx0 := Lib.hid (ext_refl W2)
    have hza := Lib.hid (show W2.heap.size ≤ W2.heap.size from Nat.le_refl _)
    have LGA := Lib.hid (show g0 < W2.heap.size from lt_of_block ((HR.out _ hx0.out).1))
    have LGB := Lib.hid (show g0 + 1 < W2.heap.size from lt_of_block ((HR.out _ hx0.out).2.1))
    have nxa : g0 ≠ W2.heap.size := Nat.ne_of_lt (LGA.out)
    have nxb : g0 + 1 ≠ W2.heap.size := Nat.ne_of_lt (LGB.out)
    go_region_held3 (fun W => W.cell? ⟨g0, 0, none⟩ = some (.bool b1) ∧ W.cell? ⟨g0, 1, none⟩ = some (.slice A1 k1 ca1) ∧ W.cell? ⟨g0, 2, none⟩ = some (.slice B1 l1 cb1) ∧ W.cell? ⟨g0, 3, none⟩ = some (.bool b2) ∧ W.cell? ⟨g0, 4, none⟩ = some (.slice A2 k2 ca2) ∧ W.cell? ⟨g0, 5, none⟩ = some (.slice B2 l2 cb2) ∧ W.cell? ⟨g0 + 1, 0, none⟩ = some (.bool b3) ∧ W.cell? ⟨g0 + 1, 1, none⟩ = some (.slice A3 k3 ca3) ∧ W.cell? ⟨g0 + 1, 2, none⟩ = some (.slice B3 l3 cb3) ∧ W.cell? ⟨g0 + 1, 3, none⟩ = some (.bool b4) ∧ W.cell? ⟨g0 + 1, 4, none⟩ = some (.slice A4 k4 ca4) ∧ W.cell? ⟨g0 + 1, 5, none⟩ = some (.slice B4 l4 cb4))
      ((refine s_of ⟨(HR.out _ ?_).1, (HR.out _ ?_).2.1⟩ <;> (repeat (first | with_reducible refine ext_dr' ?_ | with_reducible refine ext_put6 ?_ (by first | with_reducible exact hza.out | with_reducible exact hzb.out | with_reducible exact hzc.out) _ _ _ _ _ _ | with_reducible refine ext_al' ?_ _ | with_reducible exact hx2.out | with_reducible exact hx1.out | with_reducible exact hx0.out)); done))
      (first
        | (go_at_call 29
           have _q := hx1
           with_reducible refine (mul_q M HM'.out _ _ qa qd (w21.alloc (.cells #[.bool false, .slice none 0 0, .slice none 0 0, .bool false, .slice none 0 0, .slice none 0 0] 68)) (HA1.out.mono (ext_trans hww.out (by (repeat (first | with_reducible refine ext_dr' ?_ | with_reducible refine ext_put6 ?_ (by first | with_reducible exact hza.out | with_reducible exact hzb.out | with_reducible exact hzc.out) _ _ _ _ _ _ | with_reducible refine ext_al' ?_ _ | with_reducible exact hx2.out | with_reducible exact hx1.out | with_reducible exact hx0.out))))) (HB2.out.mono (ext_trans hww.out (by (repeat (first | with_reducible refine ext_dr' ?_ | with_reducible refine ext_put6 ?_ (by first | with_reducible exact hza.out | with_reducible exact hzb.out | with_reducible exact hzc.out) _ _ _ _ _ _ | with_reducible refine ext_al' ?_ _ | with_reducible exact hx2.out | with_reducible exact hx1.out | with_reducible exact hx0.out))))) BA1.out BB2.out).mono ?_
           rintro e w22 ⟨v22, rfl, h22, kk22⟩
           obtain ⟨b22, A22, k22, ca22, B22, l22, cb22, rfl⟩ := h22.form2
           have H22 := Lib.hid h22
           have hx2 := Lib.hid (show Ext W2 w22 from ext_trans (by (repeat (first | with_reducible refine ext_dr' ?_ | with_reducible refine ext_put6 ?_ (by first | with_reducible exact hza.out | with_reducible exact hzb.out | with_reducible exact hzc.out) _ _ _ _ _ _ | with_reducible refine ext_al' ?_ _ | with_reducible exact hx2.out | with_reducible exact hx1.out | with_reducible exact hx0.out))) kk22)
           have zc' := Lib.hid (row6 kk22)
           obtain ⟨z0, z1, z2, z3, z4, z5, zf0, zf1, zf2, zf3, zf4, zf5⟩ := row6_0 zc'.out
           have H21' := Lib.hid (H21.out.mono (ext_trans (ext_alloc _ _) kk22))
           have hzc := Lib.hid (show W2.heap.size ≤ w22.heap.size from hx2.out.size)
           have nza : g0 ≠ w22.heap.size := Nat.ne_of_lt (Nat.lt_of_lt_of_le LGA.out hx2.out.size)
           have nzb : g0 + 1 ≠ w22.heap.size := Nat.ne_of_lt (Nat.lt_of_lt_of_le LGB.out hx2.out.size)
           clear h22 kk22)
        | (go_at_call 29
           have _q := hx1
           with_reducible refine (mul_q M HM'.out _ _ qa qd w21 (HA1.out.mono (ext_trans hww.out (by (repeat (first | with_reducible refine ext_dr' ?_ | with_reducible refine ext_put6 ?_ (by first | with_reducible exact hza.out | with_reducible exact hzb.out | with_reducible exact hzc.out) _ _ _ _ _ _ | with_reducible refine ext_al' ?_ _ | with_reducible exact hx2.out | with_reducible exact hx1.out | with_reducible exact hx0.out))))) (HB2.out.mono (ext_trans hww.out (by (repeat (first | with_reducible refine ext_dr' ?_ | with_reducible refine ext_put6 ?_ (by first | with_reducible exact hza.out | with_reducible exact hzb.out | with_reducible exact hzc.out) _ _ _ _ _ _ | with_reducible refine ext_al' ?_ _ | with_reducible exact hx2.out | with_reducible exact hx1.out | with_reducible exact hx0.out))))) BA1.out BB2.out).mono ?_
           rintro e w22 ⟨v22, rfl, h22, kk22⟩
           obtain ⟨b22, A22, k22, ca22, B22, l22, cb22, rfl⟩ := h22.form2
           have H22 := Lib.hid h22
           have hx2 := Lib.hid (show Ext W2 w22 from ext_trans (by (repeat (first | with_reducible refine ext_dr' ?_ | with_reducible refine ext_put6 ?_ (by first | with_reducible exact hza.out | with_reducible exact hzb.out | with_reducible exact hzc.out) _ _ _ _ _ _ | with_reducible refine ext_al' ?_ _ | with_reducible exact hx2.out | with_reducible exact hx1.out | with_reducible exact hx0.out))) kk22)
           have za' := Lib.hid ((kk22.block _ (lt_of_block za.out)).trans za.out)
           obtain ⟨z0, z1, z2, z3, z4, z5, zf0, zf1, zf2, zf3, zf4, zf5⟩ := row6_0 za'.out
           have H21' := Lib.hid (H21.out.mono kk22)
           have hzc := Lib.hid (show W2.heap.size ≤ w22.heap.size from hx2.out.size)
           have nza : g0 ≠ w22.heap.size := Nat.ne_of_lt (Nat.lt_of_lt_of_le LGA.out hx2.out.size)
           have nzb : g0 + 1 ≠ w22.heap.size := Nat.ne_of_lt (Nat.lt_of_lt_of_le LGB.out hx2.out.size)
           clear h22 kk22)
        | (go_at_call 29
           have _q := hx1
           with_reducible refine (mul_q M HM'.out _ _ qa qd w21 (HA1.out.mono (ext_trans hww.out (by (repeat (first | with_reducible refine ext_dr' ?_ | with_reducible refine ext_put6 ?_ (by first | with_reducible exact hza.out | with_reducible exact hzb.out | with_reducible exact hzc.out) _ _ _ _ _ _ | with_reducible refine ext_al' ?_ _ | with_reducible exact hx2.out | with_reducible exact hx1.out | with_reducible exact hx0.out))))) (HB2.out.mono (ext_trans hww.out (by (repeat (first | with_reducible refine ext_dr' ?_ | with_reducible refine ext_put6 ?_ (by first | with_reducible exact hza.out | with_reducible exact hzb.out | with_reducible exact hzc.out) _ _ _ _ _ _ | with_reducible refine ext_al' ?_ _ | with_reducible exact hx2.out | with_reducible exact hx1.out | with_reducible exact hx0.out))))) BA1.out BB2.out).mono ?_
           rintro e w22 ⟨v22, rfl, h22, kk22⟩
           obtain ⟨b22, A22, k22, ca22, B22, l22, cb22, rfl⟩ := h22.form2
           have H22 := Lib.hid h22
           have hx2 := Lib.hid (show Ext W2 w22 from ext_trans (by (repeat (first | with_reducible refine ext_dr' ?_ | with_reducible refine ext_put6 ?_ (by first | with_reducible exact hza.out | with_reducible exact hzb.out | with_reducible exact hzc.out) _ _ _ _ _ _ | with_reducible refine ext_al' ?_ _ | with_reducible exact hx2.out | with_reducible exact hx1.out | with_reducible exact hx0.out))) kk22)
           have H21' := Lib.hid (H21.out.mono kk22)
           have hzc := Lib.hid (show W2.heap.size ≤ w22.heap.size from hx2.out.size)
           have nza : g0 ≠ w22.heap.size := Nat.ne_of_lt (Nat.lt_of_lt_of_le LGA.out hx2.out.size)
           have nzb : g0 + 1 ≠ w22.heap.size := Nat.ne_of_lt (Nat.lt_of_lt_of_le LGB.out hx2.out.size)
           clear h22 kk22)
        | (go_at_call 29
           with_reducible refine (mul_q M HM'.out _ _ qa qc (W2.alloc (.cells #[.bool false, .slice none 0 0, .slice none 0 0, .bool false, .slice none 0 0, .slice none 0 0] 68)).drew (HA1.out.mono (ext_trans hww.out (by (repeat (first | with_reducible refine ext_dr' ?_ | with_reducible refine ext_put6 ?_ (by first | with_reducible exact hza.out | with_reducible exact hzb.out | with_reducible exact hzc.out) _ _ _ _ _ _ | with_reducible refine ext_al' ?_ _ | with_reducible exact hx2.out | with_reducible exact hx1.out | with_reducible exact hx0.out))))) (HB1.out.mono (ext_trans hww.out (by (repeat (first | with_reducible refine ext_dr' ?_ | with_reducible refine ext_put6 ?_ (by first | with_reducible exact hza.out | with_reducible exact hzb.out | with_reducible exact hzc.out) _ _ _ _ _ _ | with_reducible refine ext_al' ?_ _ | with_reducible exact hx2.out | with_reducible exact hx1.out | with_reducible exact hx0.out))))) BA1.out BB1.out).mono ?_
           rintro e w21 ⟨v21, rfl, h21, kk21⟩
           obtain ⟨b21, A21, k21, ca21, B21, l21, cb21, rfl⟩ := h21.form2
           have H21 := Lib.hid h21
           have hx1 := Lib.hid (show Ext W2 w21 from ext_trans (by (repeat (first | with_reducible refine ext_dr' ?_ | with_reducible refine ext_put6 ?_ (by first | with_reducible exact hza.out | with_reducible exact hzb.out | with_reducible exact hzc.out) _ _ _ _ _ _ | with_reducible refine ext_al' ?_ _ | with_reducible exact hx2.out | with_reducible exact hx1.out | with_reducible exact hx0.out))) kk21)
           have za := Lib.hid (row6 (ext_trans (ext_drew _) kk21))
           have hzb := Lib.hid (show W2.heap.size ≤ w21.heap.size from hx1.out.size)
           have nya : g0 ≠ w21.heap.size := Nat.ne_of_lt (Nat.lt_of_lt_of_le LGA.out hx1.out.size)
           have nyb : g0 + 1 ≠ w21.heap.size := Nat.ne_of_lt (Nat.lt_of_lt_of_le LGB.out hx1.out.size)
           clear h21 kk21)
        | (go_at_call 29
           with_reducible refine (mul_q M HM'.out _ _ qa qc W2.drew (HA1.out.mono (ext_trans hww.out (by (repeat (first | with_reducible refine ext_dr' ?_ | with_reducible refine ext_put6 ?_ (by first | with_reducible exact hza.out | with_reducible exact hzb.out | with_reducible exact hzc.out) _ _ _ _ _ _ | with_reducible refine ext_al' ?_ _ | with_reducible exact hx2.out | with_reducible exact hx1.out | with_reducible exact hx0.out))))) (HB1.out.mono (ext_trans hww.out (by (repeat (first | with_reducible refine ext_dr' ?_ | with_reducible refine ext_put6 ?_ (by first | with_reducible exact hza.out | with_reducible exact hzb.out | with_reducible exact hzc.out) _ _ _ _ _ _ | with_reducible refine ext_al' ?_ _ | with_reducible exact hx2.out | with_reducible exact hx1.out | with_reducible exact hx0.out))))) BA1.out BB1.out).mono ?_
           rintro e w21 ⟨v21, rfl, h21, kk21⟩
           obtain ⟨b21, A21, k21, ca21, B21, l21, cb21, rfl⟩ := h21.form2
           have H21 := Lib.hid h21
           have hx1 := Lib.hid (show Ext W2 w21 from ext_trans (by (repeat (first | with_reducible refine ext_dr' ?_ | with_reducible refine ext_put6 ?_ (by first | with_reducible exact hza.out | with_reducible exact hzb.out | with_reducible exact hzc.out) _ _ _ _ _ _ | with_reducible refine ext_al' ?_ _ | with_reducible exact hx2.out | with_reducible exact hx1.out | with_reducible exact hx0.out))) kk21)
           have hzb := Lib.hid (show W2.heap.size ≤ w21.heap.size from hx1.out.size)
           have nya : g0 ≠ w21.heap.size := Nat.ne_of_lt (Nat.lt_of_lt_of_le LGA.out hx1.out.size)
           have nyb : g0 + 1 ≠ w21.heap.size := Nat.ne_of_lt (Nat.lt_of_lt_of_le LGB.out hx1.out.size)
           clear h21 kk21))
    all_goals
      go_wp2_with fail
      go_meet
      refine ⟨_, rfl, b21, A21, k21, ca21, B21, l21, cb21, b22, A22, k22, ca22, B22, l22, cb22, ?_, ?_, ?_, ?_⟩
      all_goals
        repeat (first | with_reducible exact H22.out | with_reducible exact H21'.out | with_reducible exact za'.out | with_reducible exact zc'.out | with_reducible refine nm_al' ?_ | with_reducible refine nm_put6z ?_ ?_ _ _ _ _ _ _ | with_reducible exact heap_alloc_new _ _ | with_reducible refine put6_rowz ?_ _ _ _ _ _ _ | (first | with_reducible refine ext_dr' ?_ | with_reducible refine ext_put6 ?_ (by first | with_reducible exact hza.out | with_reducible exact hzb.out | with_reducible exact hzc.out) _ _ _ _ _ _ | with_reducible refine ext_al' ?_ _ | with_reducible exact hx2.out | with_reducible exact hx1.out | with_reducible exact hx0.out))
  case rest =>
    rename World => W3
    obtain ⟨gs, rfl, b31, A31, k31, ca31, B31, l31, cb31, b32, A32, k32, ca32, B32, l32, cb32, r5, n1, n2, ex⟩ := hcut
    have R5 := Lib.hid r5
    have N51 := Lib.hid n1
    have N52 := Lib.hid n2
    have E5 := Lib.hid ex
    clear r5 n1 n2 ex
    have HR3 := Lib.hid (show ∀ W : World, Ext W3 W → W.heap[g0]? = some (.cells #[.bool b1, .slice A1 k1 ca1, .slice B1 l1 cb1, .bool b2, .slice A2 k2 ca2, .slice B2 l2 cb2] 68 (0, 0)) ∧ W.heap[g0 + 1]? = some (.cells #[.bool b3, .slice A3 k3 ca3, .slice B3 l3 cb3, .bool b4, .slice A4 k4 ca4, .slice B4 l4 cb4] 68 (0, 0)) ∧ W.heap[g0 + 1 + 1]? = some (.cells #[.bool false, .slice none 0 0, .slice none 0 0, .bool false, .slice none 0 0, .slice none 0 0] 68 (0, 0)) from fun W h => HR.out W (ext_trans E5.out h))
    have hww3 := Lib.hid (ext_trans hww.out E5.out)
    go_upto_region 2 with (fail)
    go_cut [6] (fun p wx => ∃ gs : Nat, p = .pointer (some ⟨gs, 0, none⟩) ∧ NewS W3 (qb * qc) (qb * qd) gs wx)
    case first =>
      have hx0 := Lib.hid (ext_refl W3)
      have hza := Lib.hid (show W3.heap.size ≤ W3.heap.size from Nat.le_refl _)
      have LGA := Lib.hid (show g0 < W3.heap.size from lt_of_block ((HR3.out _ hx0.out).1))
      have LGB := Lib.hid (show g0 + 1 < W3.heap.size from lt_of_block ((HR3.out _ hx0.out).2.1))
      have nxa : g0 ≠ W3.heap.size := Nat.ne_of_lt (LGA.out)
      have nxb : g0 + 1 ≠ W3.heap.size := Nat.ne_of_lt (LGB.out)
      go_region_held3 (fun W => W.cell? ⟨g0, 0, none⟩ = some (.bool b1) ∧ W.cell? ⟨g0, 1, none⟩ = some (.slice A1 k1 ca1) ∧ W.cell? ⟨g0, 2, none⟩ = some (.slice B1 l1 cb1) ∧ W.cell? ⟨g0, 3, none⟩ = some (.bool b2) ∧ W.cell? ⟨g0, 4, none⟩ = some (.slice A2 k2 ca2) ∧ W.cell? ⟨g0, 5, none⟩ = some (.slice B2 l2 cb2) ∧ W.cell? ⟨g0 + 1, 0, none⟩ = some (.bool b3) ∧ W.cell? ⟨g0 + 1, 1, none⟩ = some (.slice A3 k3 ca3) ∧ W.cell? ⟨g0 + 1, 2, none⟩ = some (.slice B3 l3 cb3) ∧ W.cell? ⟨g0 + 1, 3, none⟩ = some (.bool b4) ∧ W.cell? ⟨g0 + 1, 4, none⟩ = some (.slice A4 k4 ca4) ∧ W.cell? ⟨g0 + 1, 5, none⟩ = some (.slice B4 l4 cb4))
        ((refine s_of ⟨(HR3.out _ ?_).1, (HR3.out _ ?_).2.1⟩ <;> (repeat (first | with_reducible refine ext_dr' ?_ | with_reducible refine ext_put6 ?_ (by first | with_reducible exact hza.out | with_reducible exact hzb.out | with_reducible exact hzc.out) _ _ _ _ _ _ | with_reducible refine ext_al' ?_ _ | with_reducible exact hx2.out | with_reducible exact hx1.out | with_reducible exact hx0.out)); done))
        (first
          | (go_at_call 29
             have _q := hx1
             with_reducible refine (mul_q M HM'.out _ _ qb qd (w21.alloc (.cells #[.bool false, .slice none 0 0, .slice none 0 0, .bool false, .slice none 0 0, .slice none 0 0] 68)) (HA2.out.mono (ext_trans hww3.out (by (repeat (first | with_reducible refine ext_dr' ?_ | with_reducible refine ext_put6 ?_ (by first | with_reducible exact hza.out | with_reducible exact hzb.out | with_reducible exact hzc.out) _ _ _ _ _ _ | with_reducible refine ext_al' ?_ _ | with_reducible exact hx2.out | with_reducible exact hx1.out | with_reducible exact hx0.out))))) (HB2.out.mono (ext_trans hww3.out (by (repeat (first | with_reducible refine ext_dr' ?_ | with_reducible refine ext_put6 ?_ (by first | with_reducible exact hza.out | with_reducible exact hzb.out | with_reducible exact hzc.out) _ _ _ _ _ _ | with_reducible refine ext_al' ?_ _ | with_reducible exact hx2.out | with_reducible exact hx1.out | with_reducible exact hx0.out))))) BA2.out BB2.out).mono ?_
             rintro e w22 ⟨v22, rfl, h22, kk22⟩
             obtain ⟨b22, A22, k22, ca22, B22, l22, cb22, rfl⟩ := h22.form2
             have H22 := Lib.hid h22
             have hx2 := Lib.hid (show Ext W3 w22 from ext_trans (by (repeat (first | with_reducible refine ext_dr' ?_ | with_reducible refine ext_put6 ?_ (by first | with_reducible exact hza.out | with_reducible exact hzb.out | with_reducible exact hzc.out) _ _ _ _ _ _ | with_reducible refine ext_al' ?_ _ | with_reducible exact hx2.out | with_reducible exact hx1.out | with_reducible exact hx0.out))) kk22)
             have zc' := Lib.hid (row6 kk22)
             obtain ⟨z0, z1, z2, z3, z4, z5, zf0, zf1, zf2, zf3, zf4, zf5⟩ := row6_0 zc'.out
             have H21' := Lib.hid (H21.out.mono (ext_trans (ext_alloc _ _) kk22))
             have hzc := Lib.hid (show W3.heap.size ≤ w22.heap.size from hx2.out.size)
             have nza : g0 ≠ w22.heap.size := Nat.ne_of_lt (Nat.lt_of_lt_of_le LGA.out hx2.out.size)
             have nzb : g0 + 1 ≠ w22.heap.size := Nat.ne_of_lt (Nat.lt_of_lt_of_le LGB.out hx2.out.size)
             clear h22 kk22)
          | (go_at_call 29
             have _q := hx1
             with_reducible refine (mul_q M HM'.out _ _ qb qd w21 (HA2.out.mono (ext_trans hww3.out (by (repeat (first | with_reducible refine ext_dr' ?_ | with_reducible refine ext_put6 ?_ (by first | with_reducible exact hza.out | with_reducible exact hzb.out | with_reducible exact hzc.out) _ _ _ _ _ _ | with_reducible refine ext_al' ?_ _ | with_reducible exact hx2.out | with_reducible exact hx1.out | with_reducible exact hx0.out))))) (HB2.out.mono (ext_trans hww3.out (by (repeat (first | with_reducible refine ext_dr' ?_ | with_reducible refine ext_put6 ?_ (by first | with_reducible exact hza.out | with_reducible exact hzb.out | with_reducible exact hzc.out) _ _ _ _ _ _ | with_reducible refine ext_al' ?_ _ | with_reducible exact hx2.out | with_reducible exact hx1.out | with_reducible exact hx0.out))))) BA2.out BB2.out).mono ?_
             rintro e w22 ⟨v22, rfl, h22, kk22⟩
             obtain ⟨b22, A22, k22, ca22, B22, l22, cb22, rfl⟩ := h22.form2
             have H22 := Lib.hid h22
             have hx2 := Lib.hid (show Ext W3 w22 from ext_trans (by (repeat (first | with_reducible refine ext_dr' ?_ | with_reducible refine ext_put6 ?_ (by first | with_reducible exact hza.out | with_reducible exact hzb.out | with_reducible exact hzc.out) _ _ _ _ _ _ | with_reducible refine ext_al' ?_ _ | with_reducible exact hx2.out | with_reducible exact hx1.out | with_reducible exact hx0.out))) kk22)
             have za' := Lib.hid ((kk22.block _ (lt_of_block za.out)).trans za.out)
             obtain ⟨z0, z1, z2, z3, z4, z5, zf0, zf1, zf2, zf3, zf4, zf5⟩ := row6_0 za'.out
             have H21' := Lib.hid (H21.out.mono kk22)
             have hzc := Lib.hid (show W3.heap.size ≤ w22.heap.size from hx2.out.size)
             have nza : g0 ≠ w22.heap.size := Nat.ne_of_lt (Nat.lt_of_lt_of_le LGA.out hx2.out.size)
             have nzb : g0 + 1 ≠ w22.heap.size := Nat.ne_of_lt (Nat.lt_of_lt_of_le LGB.out hx2.out.size)
             clear h22 kk22)
          | (go_at_call 29
             have _q := hx1
             with_reducible refine (mul_q M HM'.out _ _ qb qd w21 (HA2.out.mono (ext_trans hww3.out (by (repeat (first | with_reducible refine ext_dr' ?_ | with_reducible refine ext_put6 ?_ (by first | with_reducible exact hza.out | with_reducible exact hzb.out | with_reducible exact hzc.out) _ _ _ _ _ _ | with_reducible refine ext_al' ?_ _ | with_reducible exact hx2.out | with_reducible exact hx1.out | with_reducible exact hx0.out))))) (HB2.out.mono (ext_trans hww3.out (by (repeat (first | with_reducible refine ext_dr' ?_ | with_reducible refine ext_put6 ?_ (by first | with_reducible exact hza.out | with_reducible exact hzb.out | with_reducible exact hzc.out) _ _ _ _ _ _ | with_reducible refine ext_al' ?_ _ | with_reducible exact hx2.out | with_reducible exact hx1.out | with_reducible exact hx0.out))))) BA2.out BB2.out).mono ?_
             rintro e w22 ⟨v22, rfl, h22, kk22⟩
             obtain ⟨b22, A22, k22, ca22, B22, l22, cb22, rfl⟩ := h22.form2
             have H22 := Lib.hid h22
             have hx2 := Lib.hid (show Ext W3 w22 from ext_trans (by (repeat (first | with_reducible refine ext_dr' ?_ | with_reducible refine ext_put6 ?_ (by first | with_reducible exact hza.out | with_reducible exact hzb.out | with_reducible exact hzc.out) _ _ _ _ _ _ | with_reducible refine ext_al' ?_ _ | with_reducible exact hx2.out | with_reducible exact hx1.out | with_reducible exact hx0.out))) kk22)
             have H21' := Lib.hid (H21.out.mono kk22)
             have hzc := Lib.hid (show W3.heap.size ≤ w22.heap.size from hx2.out.size)
             have nza : g0 ≠ w22.heap.size := Nat.ne_of_lt (Nat.lt_of_lt_of_le LGA.out hx2.out.size)
             have nzb : g0 + 1 ≠ w22.heap.size := Nat.ne_of_lt (Nat.lt_of_lt_of_le LGB.out hx2.out.size)
             clear h22 kk22)
          | (go_at_call 29
             with_reducible refine (mul_q M HM'.out _ _ qb qc (W3.alloc (.cells #[.bool false, .slice none 0 0, .slice none 0 0, .bool false, .slice none 0 0, .slice none 0 0] 68)).drew (HA2.out.mono (ext_trans hww3.out (by (repeat (first | with_reducible refine ext_dr' ?_ | with_reducible refine ext_put6 ?_ (by first | with_reducible exact hza.out | with_reducible exact hzb.out | with_reducible exact hzc.out) _ _ _ _ _ _ | with_reducible refine ext_al' ?_ _ | with_reducible exact hx2.out | with_reducible exact hx1.out | with_reducible exact hx0.out))))) (HB1.out.mono (ext_trans hww3.out (by (repeat (first | with_reducible refine ext_dr' ?_ | with_reducible refine ext_put6 ?_ (by first | with_reducible exact hza.out | with_reducible exact hzb.out | with_reducible exact hzc.out) _ _ _ _ _ _ | with_reducible refine ext_al' ?_ _ | with_reducible exact hx2.out | with_reducible exact hx1.out | with_reducible exact hx0.out))))) BA2.out BB1.out).mono ?_
             rintro e w21 ⟨v21, rfl, h21, kk21⟩
             obtain ⟨b21, A21, k21, ca21, B21, l21, cb21, rfl⟩ := h21.form2
             have H21 := Lib.hid h21
             have hx1 := Lib.hid (show Ext W3 w21 from ext_trans (by (repeat (first | with_reducible refine ext_dr' ?_ | with_reducible refine ext_put6 ?_ (by first | with_reducible exact hza.out | with_reducible exact hzb.out | with_reducible exact hzc.out) _ _ _ _ _ _ | with_reducible refine ext_al' ?_ _ | with_reducible exact hx2.out | with_reducible exact hx1.out | with_reducible exact hx0.out))) kk21)
             have za := Lib.hid (row6 (ext_trans (ext_drew _) kk21))
             have hzb := Lib.hid (show W3.heap.size ≤ w21.heap.size from hx1.out.size)
             have nya : g0 ≠ w21.heap.size := Nat.ne_of_lt (Nat.lt_of_lt_of_le LGA.out hx1.out.size)
             have nyb : g0 + 1 ≠ w21.heap.size := Nat.ne_of_lt (Nat.lt_of_lt_of_le LGB.out hx1.out.size)
             clear h21 kk21)
          | (go_at_call 29
             with_reducible refine (mul_q M HM'.out _ _ qb qc W3.drew (HA2.out.mono (ext_trans hww3.out (by (repeat (first | with_reducible refine ext_dr' ?_ | with_reducible refine ext_put6 ?_ (by first | with_reducible exact hza.out | with_reducible exact hzb.out | with_reducible exact hzc.out) _ _ _ _ _ _ | with_reducible refine ext_al' ?_ _ | with_reducible exact hx2.out | with_reducible exact hx1.out | with_reducible exact hx0.out))))) (HB1.out.mono (ext_trans hww3.out (by (repeat (first | with_reducible refine ext_dr' ?_ | with_reducible refine ext_put6 ?_ (by first | with_reducible exact hza.out | with_reducible exact hzb.out | with_reducible exact hzc.out) _ _ _ _ _ _ | with_reducible refine ext_al' ?_ _ | with_reducible exact hx2.out | with_reducible exact hx1.out | with_reducible exact hx0.out))))) BA2.out BB1.out).mono ?_
             rintro e w21 ⟨v21, rfl, h21, kk21⟩
             obtain ⟨b21, A21, k21, ca21, B21, l21, cb21, rfl⟩ := h21.form2
             have H21 := Lib.hid h21
             have hx1 := Lib.hid (show Ext W3 w21 from ext_trans (by (repeat (first | with_reducible refine ext_dr' ?_ | with_reducible refine ext_put6 ?_ (by first | with_reducible exact hza.out | with_reducible exact hzb.out | with_reducible exact hzc.out) _ _ _ _ _ _ | with_reducible refine ext_al' ?_ _ | with_reducible exact hx2.out | with_reducible exact hx1.out | with_reducible exact hx0.out))) kk21)
             have hzb := Lib.hid (show W3.heap.size ≤ w21.heap.size from hx1.out.size)
             have nya : g0 ≠ w21.heap.size := Nat.ne_of_lt (Nat.lt_of_lt_of_le LGA.out hx1.out.size)
             have nyb : g0 + 1 ≠ w21.heap.size := Nat.ne_of_lt (Nat.lt_of_lt_of_le LGB.out hx1.out.size)
             clear h21 kk21))
      all_goals
        go_wp2_with fail
        go_meet
        refine ⟨_, rfl, b21, A21, k21, ca21, B21, l21, cb21, b22, A22, k22, ca22, B22, l22, cb22, ?_, ?_, ?_, ?_⟩
        all_goals
          repeat (first | with_reducible exact H22.out | with_reducible exact H21'.out | with_reducible exact za'.out | with_reducible exact zc'.out | with_reducible refine nm_al' ?_ | with_reducible refine nm_put6z ?_ ?_ _ _ _ _ _ _ | with_reducible exact heap_alloc_new _ _ | with_reducible refine put6_rowz ?_ _ _ _ _ _ _ | (first | with_reducible refine ext_dr' ?_ | with_reducible refine ext_put6 ?_ (by first | with_reducible exact hza.out | with_reducible exact hzb.out | with_reducible exact hzc.out) _ _ _ _ _ _ | with_reducible refine ext_al' ?_ _ | with_reducible exact hx2.out | with_reducible exact hx1.out | with_reducible exact hx0.out))
    case rest =>
      rename World => W4
      obtain ⟨gp, rfl, b33, A33, k33, ca33, B33, l33, cb33, b34, A34, k34, ca34, B34, l34, cb34, r5, n1, n2, ex⟩ := hcut
      have R6 := Lib.hid r5
      have N61 := Lib.hid n1
      have N62 := Lib.hid n2
      have E6 := Lib.hid ex
      clear r5 n1 n2 ex
      have r5 := (E6.out.block _ (lt_of_block R5.out)).trans R5.out
      obtain ⟨x0, x1, x2, x3, x4, x5, xf0, xf1, xf2, xf3, xf4, xf5⟩ := row6_0 r5
      obtain ⟨y0, y1, y2, y3, y4, y5, yf0, yf1, yf2, yf3, yf4, yf5⟩ := row6_0 R6.out
      have NA := Lib.hid (show Sp W4 (.agg #[.bool b31, .slice A31 k31 ca31, .slice B31 l31 cb31, .bool b32, .slice A32 k32 ca32, .slice B32 l32 cb32]) (qa * qc) (qa * qd) from ⟨_, _, _, _, _, _, rfl, N51.out.mono E6.out, N52.out.mono E6.out⟩)
      have NB := Lib.hid (show Sp W4 (.agg #[.bool b33, .slice A33 k33 ca33, .slice B33 l33 cb33, .bool b34, .slice A34 k34 ca34, .slice B34 l34 cb34]) (qb * qc) (qb * qd) from ⟨_, _, _, _, _, _, rfl, N61.out, N62.out⟩)
      clear r5
      go_wp2_with fail
      refine (join_c (M + M) (by have := HM.out; omega) _ _ (qa * qc) (qa * qd) (qb * qc) (qb * qd) _ NA.out NB.out (BA1.out.mul BB1.out) (BA1.out.mul BB2.out) (BA2.out.mul BB1.out) (BA2.out.mul BB2.out)).mono ?_
      rintro e w9 ⟨v9, rfl, h9, kk9⟩
      obtain ⟨b9, A9, k9, ca9, B9, l9, cb9, b10, A10, k10, ca10, B10, l10, cb10, rfl, hn1, hn2⟩ := h9.form
      obtain ⟨-, -, rz⟩ := HR3.out w9 (ext_trans E6.out kk9)
      have RZ := Lib.hid rz
      clear x0 x1 x2 x3 x4 x5 xf0 xf1 xf2 xf3 xf4 xf5 y0 y1 y2 y3 y4 y5 yf0 yf1 yf2 yf3 yf4 yf5
      obtain ⟨z0, z1, z2, z3, z4, z5, zf0, zf1, zf2, zf3, zf4, zf5⟩ := row6_0 rz
      have EF := Lib.hid (ext_trans hww3.out (ext_trans E6.out kk9))
      have HN1 := Lib.hid hn1
      have HN2 := Lib.hid hn2
      clear rz h9 kk9 hn1 hn2
      go_wp2_with fail
      refine bodyPost_ret (v := .agg #[.bool b9, .slice A9 k9 ca9, .slice B9 l9 cb9, .bool b10, .slice A10 k10 ca10, .slice B10 l10 cb10]) (by simp [results, Tryz.f67]; go_simp) rfl ?_
      exact ⟨_, rfl, ⟨_, _, _, _, _, _, rfl, HN1.out.put6 RZ.out _ _ _ _ _ _, HN2.out.put6 RZ.out _ _ _ _ _ _⟩, put6_ext EF.out (by rw [HG0.out]; exact LT1.out) _ _ _ _ _ _⟩
end Go.Proofs.YtpgdefgdboijlaaGreatDoor
