/- Spans: what two of them share. Printed by gen_vt.py. -/
import Derived.Test.YtpgdefgdboijlaaGreatDoorVs
import Derived.Test.YtpgdefgdboijlaaGreatDoorLw
namespace Go.Proofs.YtpgdefgdboijlaaGreatDoor
open Go.RowKit
set_option linter.unusedVariables false
theorem cmpQ_above {x y : Rat} : 0 < cmpQ x y ↔ y < x := by
  have h := cmpQ_one x y
  rw [← cmpQ_pos x y]
  omega
/-- what two spans share -/
def meetQ (s t : Rat × Rat) : Rat × Rat := if minQ s.2 t.2 < maxQ s.1 t.1 then (0, 0) else (maxQ s.1 t.1, minQ s.2 t.2)
set_option maxRecDepth 100000 in
set_option maxHeartbeats 8000000 in
theorem meet_c (M : Nat) (hM : M ≤ 1099511627776) (va vb : Value) (qa qb qc qd : Rat) (w : World) (ha : Sp w va qa qb) (hb : Sp w vb qc qd) (ba1 : Bq M qa) (ba2 : Bq M qb) (bb1 : Bq M qc) (bb2 : Bq M qd) :
    Calls Tryz.prog 68 #[va, vb] w fun e w' => ∃ v, e = .returned (.tuple #[v, .bool (!decide (minQ (sortQ qa qb).2 (sortQ qc qd).2 < maxQ (sortQ qa qb).1 (sortQ qc qd).1))]) ∧ Sp w' v (meetQ (sortQ qa qb) (sortQ qc qd)).1 (meetQ (sortQ qa qb) (sortQ qc qd)).2 ∧ Ext w w' := by
  obtain ⟨b1, A1, k1, ca1, B1, l1, cb1, b2, A2, k2, ca2, B2, l2, cb2, rfl, -, -⟩ := ha.form
  obtain ⟨b3, A3, k3, ca3, B3, l3, cb3, b4, A4, k4, ca4, B4, l4, cb4, rfl, -, -⟩ := hb.form
  have HA := Lib.hid ha
  have HB := Lib.hid hb
  have BA1 := Lib.hid ba1
  have BA2 := Lib.hid ba2
  have BB1 := Lib.hid bb1
  have BB2 := Lib.hid bb2
  have HM := Lib.hid hM
  clear ha hb ba1 ba2 bb1 bb2 hM
  obtain ⟨hw0, hra, hrb, hrz⟩ := setupS3 w (.bool b1) (.slice A1 k1 ca1) (.slice B1 l1 cb1) (.bool b2) (.slice A2 k2 ca2) (.slice B2 l2 cb2) (.bool b3) (.slice A3 k3 ca3) (.slice B3 l3 cb3) (.bool b4) (.slice A4 k4 ca4) (.slice B4 l4 cb4)
  have hww := Lib.hid hw0
  have RA := Lib.hid hra
  have RB := Lib.hid hrb
  have RZ := Lib.hid hrz
  clear hw0 hra hrb hrz
  go_enter Tryz.func68, Tryz.ntmps68
  go_wp2_with fail
  generalize World.alloc (World.alloc (World.alloc w (.cells #[.bool b1, .slice A1 k1 ca1, .slice B1 l1 cb1, .bool b2, .slice A2 k2 ca2, .slice B2 l2 cb2] _)) (.cells #[.bool b3, .slice A3 k3 ca3, .slice B3 l3 cb3, .bool b4, .slice A4 k4 ca4, .slice B4 l4 cb4] _)) (.cells #[.bool false, .slice none 0 0, .slice none 0 0, .bool false, .slice none 0 0, .slice none 0 0] _) = W2 at *
  have HW2 := Lib.hid (ext_refl W2)
  have LT0 := Lib.hid (show w.heap.size ≤ w.heap.size + 1 from Nat.le_succ _)
  have LT1 := Lib.hid (show w.heap.size ≤ w.heap.size + 1 + 1 from Nat.le_succ_of_le (Nat.le_succ _))
  have LE0 := Lib.hid (Nat.le_refl w.heap.size)
  generalize hg0 : w.heap.size = g0 at *
  have HG0 := Lib.hid hg0
  clear hg0
  have n01 := Lib.hid (show g0 ≠ g0 + 1 by omega)
  have n10 := Lib.hid (show g0 + 1 ≠ g0 by omega)
  have n02 := Lib.hid (show g0 ≠ g0 + 1 + 1 by omega)
  have n20 := Lib.hid (show g0 + 1 + 1 ≠ g0 by omega)
  have n12 := Lib.hid (show g0 + 1 ≠ g0 + 1 + 1 by omega)
  have n21 := Lib.hid (show g0 + 1 + 1 ≠ g0 + 1 by omega)
  have HR := Lib.hid (show ∀ W : World, Ext W2 W → W.heap[g0]? = some (.cells #[.bool b1, .slice A1 k1 ca1, .slice B1 l1 cb1, .bool b2, .slice A2 k2 ca2, .slice B2 l2 cb2] 68 (0, 0)) ∧ W.heap[g0 + 1]? = some (.cells #[.bool b3, .slice A3 k3 ca3, .slice B3 l3 cb3, .bool b4, .slice A4 k4 ca4, .slice B4 l4 cb4] 68 (0, 0)) ∧ W.heap[g0 + 1 + 1]? = some (.cells #[.bool false, .slice none 0 0, .slice none 0 0, .bool false, .slice none 0 0, .slice none 0 0] 68 (0, 0)) from fun W h =>
    ⟨(h.block _ (lt_of_block RA.out)).trans RA.out, (h.block _ (lt_of_block RB.out)).trans RB.out, (h.block _ (lt_of_block RZ.out)).trans RZ.out⟩)
  have HS := Lib.hid (show ∀ W : World, Ext W2 W → W.cell? ⟨g0, 0, none⟩ = some (.bool b1) ∧ W.cell? ⟨g0, 1, none⟩ = some (.slice A1 k1 ca1) ∧ W.cell? ⟨g0, 2, none⟩ = some (.slice B1 l1 cb1) ∧ W.cell? ⟨g0, 3, none⟩ = some (.bool b2) ∧ W.cell? ⟨g0, 4, none⟩ = some (.slice A2 k2 ca2) ∧ W.cell? ⟨g0, 5, none⟩ = some (.slice B2 l2 cb2) ∧ W.cell? ⟨g0 + 1, 0, none⟩ = some (.bool b3) ∧ W.cell? ⟨g0 + 1, 1, none⟩ = some (.slice A3 k3 ca3) ∧ W.cell? ⟨g0 + 1, 2, none⟩ = some (.slice B3 l3 cb3) ∧ W.cell? ⟨g0 + 1, 3, none⟩ = some (.bool b4) ∧ W.cell? ⟨g0 + 1, 4, none⟩ = some (.slice A4 k4 ca4) ∧ W.cell? ⟨g0 + 1, 5, none⟩ = some (.slice B4 l4 cb4) from fun W h => by
    obtain ⟨r1, r2, -⟩ := HR.out W h
    obtain ⟨p0, p1, p2, p3, p4, p5, -⟩ := row6_0 r1
    obtain ⟨q0, q1, q2, q3, q4, q5, -⟩ := row6_0 r2
    exact ⟨p0, p1, p2, p3, p4, p5, q0, q1, q2, q3, q4, q5⟩)
  go_cut [] (fun wx => SrtR w g0 (sortQ qa qb) (sortQ qc qd) wx)
  case first =>
    obtain ⟨xy1, xy2, -⟩ := HR.out W2 (ext_refl W2)
    obtain ⟨x0, x1, x2, x3, x4, x5, xf0, xf1, xf2, xf3, xf4, xf5⟩ := row6_0 xy1
    obtain ⟨y0, y1, y2, y3, y4, y5, yf0, yf1, yf2, yf3, yf4, yf5⟩ := row6_0 xy2
    clear xy1 xy2
    have e1 := Lib.hid (ext_refl W2)
    go_region_with (first
      | (go_at_call 141
         with_reducible refine (sorted_c M HM.out _ qa qb _ (HA.out.mono (ext_trans hww.out (by repeat (first | with_reducible exact ext_refl _ | with_reducible exact e1.out | with_reducible refine ext_trans ?_ (ext_alloc _ _) | with_reducible refine ext_trans ?_ (ext_drew _))))) BA1.out BA2.out).mono ?_
         rintro e w4 ⟨v4, rfl, h4, k4⟩
         obtain ⟨b5, A5, k5, ca5, B5, l5, cb5, b6, A6, k6, ca6, B6, l6, cb6, rfl, -, -⟩ := h4.form
         have S3 := Lib.hid h4
         have hx2 := Lib.hid (show Ext W2 w4 from ext_trans (by repeat (first | with_reducible exact ext_refl _ | with_reducible exact e1.out | with_reducible refine ext_trans ?_ (ext_alloc _ _) | with_reducible refine ext_trans ?_ (ext_drew _))) k4)
         clear h4 k4
         obtain ⟨pq1, pq2, -⟩ := HR.out w4 hx2.out
         obtain ⟨p0, p1, p2, p3, p4, p5, pf0, pf1, pf2, pf3, pf4, pf5⟩ := row6_0 pq1
         obtain ⟨q0, q1, q2, q3, q4, q5, qf0, qf1, qf2, qf3, qf4, qf5⟩ := row6_0 pq2
         clear pq1 pq2)
      | (go_at_call 141
         have _q := hx2
         with_reducible refine (sorted_c M HM.out _ qc qd _ (HB.out.mono (ext_trans hww.out hx2.out)) BB1.out BB2.out).mono ?_
         clear _q
         rintro e w5 ⟨v5, rfl, h5, k5⟩
         obtain ⟨b7, A7, k7, ca7, B7, l7, cb7, b8, A8, k8, ca8, B8, l8, cb8, rfl, -, -⟩ := h5.form
         have S4 := Lib.hid h5
         have hx3 := Lib.hid (ext_trans hx2.out k5)
         have e3 := Lib.hid k5
         clear h5 k5
         clear p0 p1 p2 p3 p4 p5 pf0 pf1 pf2 pf3 pf4 pf5 q0 q1 q2 q3 q4 q5 qf0 qf1 qf2 qf3 qf4 qf5
         obtain ⟨pq1, pq2, -⟩ := HR.out w5 hx3.out
         obtain ⟨p0, p1, p2, p3, p4, p5, pf0, pf1, pf2, pf3, pf4, pf5⟩ := row6_0 pq1
         obtain ⟨q0, q1, q2, q3, q4, q5, qf0, qf1, qf2, qf3, qf4, qf5⟩ := row6_0 pq2
         clear pq1 pq2
         have u01 := n01.out
         have u10 := n10.out))
    all_goals
      clear x0 x1 x2 x3 x4 x5 xf0 xf1 xf2 xf3 xf4 xf5 y0 y1 y2 y3 y4 y5 yf0 yf1 yf2 yf3 yf4 yf5 p0 p1 p2 p3 p4 p5 pf0 pf1 pf2 pf3 pf4 pf5 q0 q1 q2 q3 q4 q5 qf0 qf1 qf2 qf3 qf4 qf5 u01 u10
      go_wp2_with fail
      go_meet
      obtain ⟨hra, hrb, hrz⟩ := HR.out _ hx3.out
      have ra1 : ((((((w5.setCell ⟨g0, 0, none⟩ (.bool b5)).setCell ⟨g0, 1, none⟩ (.slice A5 k5 ca5)).setCell ⟨g0, 2, none⟩ (.slice B5 l5 cb5)).setCell ⟨g0, 3, none⟩ (.bool b6)).setCell ⟨g0, 4, none⟩ (.slice A6 k6 ca6)).setCell ⟨g0, 5, none⟩ (.slice B6 l6 cb6)).heap[g0]? = some (.cells #[.bool b5, .slice A5 k5 ca5, .slice B5 l5 cb5, .bool b6, .slice A6 k6 ca6, .slice B6 l6 cb6] 68 (0, 0)) := put6_row hra _ _ _ _ _ _
      have rb1 : ((((((w5.setCell ⟨g0, 0, none⟩ (.bool b5)).setCell ⟨g0, 1, none⟩ (.slice A5 k5 ca5)).setCell ⟨g0, 2, none⟩ (.slice B5 l5 cb5)).setCell ⟨g0, 3, none⟩ (.bool b6)).setCell ⟨g0, 4, none⟩ (.slice A6 k6 ca6)).setCell ⟨g0, 5, none⟩ (.slice B6 l6 cb6)).heap[g0 + 1]? = some (.cells #[.bool b3, .slice A3 k3 ca3, .slice B3 l3 cb3, .bool b4, .slice A4 k4 ca4, .slice B4 l4 cb4] 68 (0, 0)) := put6_other hrb n10.out _ _ _ _ _ _
      have rz1 : ((((((w5.setCell ⟨g0, 0, none⟩ (.bool b5)).setCell ⟨g0, 1, none⟩ (.slice A5 k5 ca5)).setCell ⟨g0, 2, none⟩ (.slice B5 l5 cb5)).setCell ⟨g0, 3, none⟩ (.bool b6)).setCell ⟨g0, 4, none⟩ (.slice A6 k6 ca6)).setCell ⟨g0, 5, none⟩ (.slice B6 l6 cb6)).heap[g0 + 1 + 1]? = some (.cells #[.bool false, .slice none 0 0, .slice none 0 0, .bool false, .slice none 0 0, .slice none 0 0] 68 (0, 0)) := put6_other hrz n20.out _ _ _ _ _ _
      have ra2 : ((((((((((((w5.setCell ⟨g0, 0, none⟩ (.bool b5)).setCell ⟨g0, 1, none⟩ (.slice A5 k5 ca5)).setCell ⟨g0, 2, none⟩ (.slice B5 l5 cb5)).setCell ⟨g0, 3, none⟩ (.bool b6)).setCell ⟨g0, 4, none⟩ (.slice A6 k6 ca6)).setCell ⟨g0, 5, none⟩ (.slice B6 l6 cb6)).setCell ⟨g0 + 1, 0, none⟩ (.bool b7)).setCell ⟨g0 + 1, 1, none⟩ (.slice A7 k7 ca7)).setCell ⟨g0 + 1, 2, none⟩ (.slice B7 l7 cb7)).setCell ⟨g0 + 1, 3, none⟩ (.bool b8)).setCell ⟨g0 + 1, 4, none⟩ (.slice A8 k8 ca8)).setCell ⟨g0 + 1, 5, none⟩ (.slice B8 l8 cb8)).heap[g0]? = some (.cells #[.bool b5, .slice A5 k5 ca5, .slice B5 l5 cb5, .bool b6, .slice A6 k6 ca6, .slice B6 l6 cb6] 68 (0, 0)) := put6_other ra1 n01.out _ _ _ _ _ _
      have rb2 : ((((((((((((w5.setCell ⟨g0, 0, none⟩ (.bool b5)).setCell ⟨g0, 1, none⟩ (.slice A5 k5 ca5)).setCell ⟨g0, 2, none⟩ (.slice B5 l5 cb5)).setCell ⟨g0, 3, none⟩ (.bool b6)).setCell ⟨g0, 4, none⟩ (.slice A6 k6 ca6)).setCell ⟨g0, 5, none⟩ (.slice B6 l6 cb6)).setCell ⟨g0 + 1, 0, none⟩ (.bool b7)).setCell ⟨g0 + 1, 1, none⟩ (.slice A7 k7 ca7)).setCell ⟨g0 + 1, 2, none⟩ (.slice B7 l7 cb7)).setCell ⟨g0 + 1, 3, none⟩ (.bool b8)).setCell ⟨g0 + 1, 4, none⟩ (.slice A8 k8 ca8)).setCell ⟨g0 + 1, 5, none⟩ (.slice B8 l8 cb8)).heap[g0 + 1]? = some (.cells #[.bool b7, .slice A7 k7 ca7, .slice B7 l7 cb7, .bool b8, .slice A8 k8 ca8, .slice B8 l8 cb8] 68 (0, 0)) := put6_row rb1 _ _ _ _ _ _
      have rz2 : ((((((((((((w5.setCell ⟨g0, 0, none⟩ (.bool b5)).setCell ⟨g0, 1, none⟩ (.slice A5 k5 ca5)).setCell ⟨g0, 2, none⟩ (.slice B5 l5 cb5)).setCell ⟨g0, 3, none⟩ (.bool b6)).setCell ⟨g0, 4, none⟩ (.slice A6 k6 ca6)).setCell ⟨g0, 5, none⟩ (.slice B6 l6 cb6)).setCell ⟨g0 + 1, 0, none⟩ (.bool b7)).setCell ⟨g0 + 1, 1, none⟩ (.slice A7 k7 ca7)).setCell ⟨g0 + 1, 2, none⟩ (.slice B7 l7 cb7)).setCell ⟨g0 + 1, 3, none⟩ (.bool b8)).setCell ⟨g0 + 1, 4, none⟩ (.slice A8 k8 ca8)).setCell ⟨g0 + 1, 5, none⟩ (.slice B8 l8 cb8)).heap[g0 + 1 + 1]? = some (.cells #[.bool false, .slice none 0 0, .slice none 0 0, .bool false, .slice none 0 0, .slice none 0 0] 68 (0, 0)) := put6_other rz1 n21.out _ _ _ _ _ _
      have S3' : Sp ((((((((((((w5.setCell ⟨g0, 0, none⟩ (.bool b5)).setCell ⟨g0, 1, none⟩ (.slice A5 k5 ca5)).setCell ⟨g0, 2, none⟩ (.slice B5 l5 cb5)).setCell ⟨g0, 3, none⟩ (.bool b6)).setCell ⟨g0, 4, none⟩ (.slice A6 k6 ca6)).setCell ⟨g0, 5, none⟩ (.slice B6 l6 cb6)).setCell ⟨g0 + 1, 0, none⟩ (.bool b7)).setCell ⟨g0 + 1, 1, none⟩ (.slice A7 k7 ca7)).setCell ⟨g0 + 1, 2, none⟩ (.slice B7 l7 cb7)).setCell ⟨g0 + 1, 3, none⟩ (.bool b8)).setCell ⟨g0 + 1, 4, none⟩ (.slice A8 k8 ca8)).setCell ⟨g0 + 1, 5, none⟩ (.slice B8 l8 cb8)) (.agg #[.bool b5, .slice A5 k5 ca5, .slice B5 l5 cb5, .bool b6, .slice A6 k6 ca6, .slice B6 l6 cb6]) _ _ := ((S3.out.mono e3.out).put6 hra _ _ _ _ _ _).put6 rb1 _ _ _ _ _ _
      have S4' : Sp ((((((((((((w5.setCell ⟨g0, 0, none⟩ (.bool b5)).setCell ⟨g0, 1, none⟩ (.slice A5 k5 ca5)).setCell ⟨g0, 2, none⟩ (.slice B5 l5 cb5)).setCell ⟨g0, 3, none⟩ (.bool b6)).setCell ⟨g0, 4, none⟩ (.slice A6 k6 ca6)).setCell ⟨g0, 5, none⟩ (.slice B6 l6 cb6)).setCell ⟨g0 + 1, 0, none⟩ (.bool b7)).setCell ⟨g0 + 1, 1, none⟩ (.slice A7 k7 ca7)).setCell ⟨g0 + 1, 2, none⟩ (.slice B7 l7 cb7)).setCell ⟨g0 + 1, 3, none⟩ (.bool b8)).setCell ⟨g0 + 1, 4, none⟩ (.slice A8 k8 ca8)).setCell ⟨g0 + 1, 5, none⟩ (.slice B8 l8 cb8)) (.agg #[.bool b7, .slice A7 k7 ca7, .slice B7 l7 cb7, .bool b8, .slice A8 k8 ca8, .slice B8 l8 cb8]) _ _ := (S4.out.put6 hra _ _ _ _ _ _).put6 rb1 _ _ _ _ _ _
      have EF : Ext w ((((((((((((w5.setCell ⟨g0, 0, none⟩ (.bool b5)).setCell ⟨g0, 1, none⟩ (.slice A5 k5 ca5)).setCell ⟨g0, 2, none⟩ (.slice B5 l5 cb5)).setCell ⟨g0, 3, none⟩ (.bool b6)).setCell ⟨g0, 4, none⟩ (.slice A6 k6 ca6)).setCell ⟨g0, 5, none⟩ (.slice B6 l6 cb6)).setCell ⟨g0 + 1, 0, none⟩ (.bool b7)).setCell ⟨g0 + 1, 1, none⟩ (.slice A7 k7 ca7)).setCell ⟨g0 + 1, 2, none⟩ (.slice B7 l7 cb7)).setCell ⟨g0 + 1, 3, none⟩ (.bool b8)).setCell ⟨g0 + 1, 4, none⟩ (.slice A8 k8 ca8)).setCell ⟨g0 + 1, 5, none⟩ (.slice B8 l8 cb8)) := put6_ext (put6_ext (ext_trans hww.out hx3.out) (by rw [HG0.out]; exact LE0.out) _ _ _ _ _ _) (by rw [HG0.out]; exact LT0.out) _ _ _ _ _ _
      exact ⟨_, _, _, _, _, _, _, _, _, _, _, _, _, _, _, _, _, _, _, _, _, _, _, _, _, _, _, _, ra2, rb2, rz2, S3', S4', EF⟩
  case rest =>
    obtain ⟨b5, A5, k5, ca5, B5, l5, cb5, b6, A6, k6, ca6, B6, l6, cb6, b7, A7, k7, ca7, B7, l7, cb7, b8, A8, k8, ca8, B8, l8, cb8, ra3, rb3, rz3, S5, S6, EF'⟩ := hcut
    rename World => WF
    have ra2 := Lib.hid ra3
    have rb2 := Lib.hid rb3
    have rz2 := Lib.hid rz3
    have S3' := Lib.hid S5
    have S4' := Lib.hid S6
    have EF := Lib.hid EF'
    clear ra3 rb3 rz3 S5 S6 EF' hww HW2 HS HR RA RB RZ HA HB
    have BS := Lib.hid (bq_sort BA1.out BA2.out)
    have BT := Lib.hid (bq_sort BB1.out BB2.out)
    obtain ⟨HL1, HH1⟩ := sp_ends S3'.out
    obtain ⟨HL2, HH2⟩ := sp_ends S4'.out
    clear S3' S4'
    have HC := Lib.hid (show ∀ W : World, Ext WF W → W.cell? ⟨g0, 0, none⟩ = some (.bool b5) ∧ W.cell? ⟨g0, 1, none⟩ = some (.slice A5 k5 ca5) ∧ W.cell? ⟨g0, 2, none⟩ = some (.slice B5 l5 cb5) ∧ W.cell? ⟨g0, 3, none⟩ = some (.bool b6) ∧ W.cell? ⟨g0, 4, none⟩ = some (.slice A6 k6 ca6) ∧ W.cell? ⟨g0, 5, none⟩ = some (.slice B6 l6 cb6) ∧ W.cell? ⟨g0 + 1, 0, none⟩ = some (.bool b7) ∧ W.cell? ⟨g0 + 1, 1, none⟩ = some (.slice A7 k7 ca7) ∧ W.cell? ⟨g0 + 1, 2, none⟩ = some (.slice B7 l7 cb7) ∧ W.cell? ⟨g0 + 1, 3, none⟩ = some (.bool b8) ∧ W.cell? ⟨g0 + 1, 4, none⟩ = some (.slice A8 k8 ca8) ∧ W.cell? ⟨g0 + 1, 5, none⟩ = some (.slice B8 l8 cb8) from fun W h =>
      two_rows ((h.block _ (lt_of_block ra2.out)).trans ra2.out) ((h.block _ (lt_of_block rb2.out)).trans rb2.out))
    go_upto_region 2 with (fail)
    obtain ⟨lo, hlo⟩ : ∃ q, q = maxQ (sortQ qa qb).1 (sortQ qc qd).1 := ⟨_, rfl⟩
    obtain ⟨hi, hhi⟩ : ∃ q, q = minQ (sortQ qa qb).2 (sortQ qc qd).2 := ⟨_, rfl⟩
    have HLO := Lib.hid hlo
    have HHI := Lib.hid hhi
    have BLO := Lib.hid (show Bq M lo by rw [hlo]; unfold maxQ; split; exact BT.out.1; exact BS.out.1)
    have BHI := Lib.hid (show Bq M hi by rw [hhi]; unfold minQ; split; exact BT.out.2; exact BS.out.2)
    clear hlo hhi
    go_cut [6, 7] (fun p q wx => ∃ gs gp : Nat, p = .pointer (some ⟨gs, 0, none⟩) ∧ q = .pointer (some ⟨gp, 0, none⟩) ∧ TwoR WF (maxQ (sortQ qa qb).1 (sortQ qc qd).1) (minQ (sortQ qa qb).2 (sortQ qc qd).2) gs gp wx)
    case first =>
      have hx0 := Lib.hid (ext_refl WF)
      have hS0 := HC.out WF hx0.out
      have hza := Lib.hid (show WF.heap.size ≤ WF.heap.size from Nat.le_refl _)
      have hzb := Lib.hid (show WF.heap.size ≤ WF.heap.size + 1 from Nat.le_succ _)
      have HGS0 := Lib.hid (show g0 < WF.heap.size from lt_of_block ra2.out)
      have HGS1 := Lib.hid (show g0 + 1 < WF.heap.size from lt_of_block rb2.out)
      have hqx0 : g0 < WF.heap.size := HGS0.out
      have nex00 : g0 ≠ WF.heap.size := Nat.ne_of_lt hqx0
      have nex01 : g0 ≠ WF.heap.size + 1 := Nat.ne_of_lt (Nat.lt_succ_of_lt hqx0)
      clear hqx0
      have hqx1 : g0 + 1 < WF.heap.size := HGS1.out
      have nex10 : g0 + 1 ≠ WF.heap.size := Nat.ne_of_lt hqx1
      have nex11 : g0 + 1 ≠ WF.heap.size + 1 := Nat.ne_of_lt (Nat.lt_succ_of_lt hqx1)
      clear hqx1
      go_region_held3 (fun W => W.cell? ⟨g0, 0, none⟩ = some (.bool b5) ∧ W.cell? ⟨g0, 1, none⟩ = some (.slice A5 k5 ca5) ∧ W.cell? ⟨g0, 2, none⟩ = some (.slice B5 l5 cb5) ∧ W.cell? ⟨g0, 3, none⟩ = some (.bool b6) ∧ W.cell? ⟨g0, 4, none⟩ = some (.slice A6 k6 ca6) ∧ W.cell? ⟨g0, 5, none⟩ = some (.slice B6 l6 cb6) ∧ W.cell? ⟨g0 + 1, 0, none⟩ = some (.bool b7) ∧ W.cell? ⟨g0 + 1, 1, none⟩ = some (.slice A7 k7 ca7) ∧ W.cell? ⟨g0 + 1, 2, none⟩ = some (.slice B7 l7 cb7) ∧ W.cell? ⟨g0 + 1, 3, none⟩ = some (.bool b8) ∧ W.cell? ⟨g0 + 1, 4, none⟩ = some (.slice A8 k8 ca8) ∧ W.cell? ⟨g0 + 1, 5, none⟩ = some (.slice B8 l8 cb8))
        ((refine HC.out _ ?_; (repeat (first | with_reducible refine ext_dr ?_ | with_reducible refine ext_put3 ?_ (by first | with_reducible exact hza.out | with_reducible exact hzb.out | with_reducible exact hzc.out | with_reducible exact hzd.out | with_reducible exact hze.out | with_reducible exact hzf.out) _ _ _ | with_reducible refine ext_al ?_ _ | with_reducible exact hx2.out | with_reducible exact hx1.out | with_reducible exact hx0.out)); done))
        (first
        | (go_at_call 61
           with_reducible refine (max_q M HM.out _ _ (sortQ qa qb).1 (sortQ qc qd).1 ((WF.alloc (.cells #[.bool false, .slice none 0 0, .slice none 0 0] 25)).alloc (.cells #[.bool false, .slice none 0 0, .slice none 0 0] 25)).drew (HL1.out.mono (by (repeat (first | with_reducible refine ext_dr ?_ | with_reducible refine ext_put3 ?_ (by first | with_reducible exact hza.out | with_reducible exact hzb.out | with_reducible exact hzc.out | with_reducible exact hzd.out | with_reducible exact hze.out | with_reducible exact hzf.out) _ _ _ | with_reducible refine ext_al ?_ _ | with_reducible exact hx2.out | with_reducible exact hx1.out | with_reducible exact hx0.out)))) (HL2.out.mono (by (repeat (first | with_reducible refine ext_dr ?_ | with_reducible refine ext_put3 ?_ (by first | with_reducible exact hza.out | with_reducible exact hzb.out | with_reducible exact hzc.out | with_reducible exact hzd.out | with_reducible exact hze.out | with_reducible exact hzf.out) _ _ _ | with_reducible refine ext_al ?_ _ | with_reducible exact hx2.out | with_reducible exact hx1.out | with_reducible exact hx0.out)))) BS.out.1 BT.out.1).mono ?_
           rintro e w14 ⟨v14, rfl, h14, kk4⟩
           obtain ⟨b14, A14, k14, ca14, B14, l14, cb14, rfl⟩ := h14.form2
           have H14 := Lib.hid h14
           have hx1 := Lib.hid (show Ext WF w14 from ext_trans (by (repeat (first | with_reducible refine ext_dr ?_ | with_reducible refine ext_put3 ?_ (by first | with_reducible exact hza.out | with_reducible exact hzb.out | with_reducible exact hzc.out | with_reducible exact hzd.out | with_reducible exact hze.out | with_reducible exact hzf.out) _ _ _ | with_reducible refine ext_al ?_ _ | with_reducible exact hx2.out | with_reducible exact hx1.out | with_reducible exact hx0.out))) kk4)
           have za := Lib.hid (row3 (w := WF) (show Ext (WF.alloc (.cells #[.bool false, .slice none 0 0, .slice none 0 0] 25)) w14 from ext_trans (ext_alloc (WF.alloc (.cells #[.bool false, .slice none 0 0, .slice none 0 0] 25)) _) (ext_trans (ext_drew _) kk4)))
           have zb := Lib.hid (show w14.heap[WF.heap.size + 1]? = some (.cells #[.bool false, .slice none 0 0, .slice none 0 0] 25 (0, 0)) by rw [← heap_size_alloc' WF (.cells #[.bool false, .slice none 0 0, .slice none 0 0] 25)]; exact row3 (w := WF.alloc (.cells #[.bool false, .slice none 0 0, .slice none 0 0] 25)) (ext_trans (ext_drew _) kk4))
           have hqy0 : g0 < w14.heap.size := Nat.lt_of_lt_of_le HGS0.out hx1.out.size
           have ney00 : g0 ≠ w14.heap.size := Nat.ne_of_lt hqy0
           have ney01 : g0 ≠ w14.heap.size + 1 := Nat.ne_of_lt (Nat.lt_succ_of_lt hqy0)
           clear hqy0
           have hqy1 : g0 + 1 < w14.heap.size := Nat.lt_of_lt_of_le HGS1.out hx1.out.size
           have ney10 : g0 + 1 ≠ w14.heap.size := Nat.ne_of_lt hqy1
           have ney11 : g0 + 1 ≠ w14.heap.size + 1 := Nat.ne_of_lt (Nat.lt_succ_of_lt hqy1)
           clear hqy1
           have hzc := Lib.hid (show WF.heap.size ≤ w14.heap.size from hx1.out.size)
           have hzd := Lib.hid (show WF.heap.size ≤ w14.heap.size + 1 from Nat.le_succ_of_le hx1.out.size)
           clear h14 kk4)
        | (go_at_call 61
           with_reducible refine (max_q M HM.out _ _ (sortQ qa qb).1 (sortQ qc qd).1 (WF.alloc (.cells #[.bool false, .slice none 0 0, .slice none 0 0] 25)).drew (HL1.out.mono (by (repeat (first | with_reducible refine ext_dr ?_ | with_reducible refine ext_put3 ?_ (by first | with_reducible exact hza.out | with_reducible exact hzb.out | with_reducible exact hzc.out | with_reducible exact hzd.out | with_reducible exact hze.out | with_reducible exact hzf.out) _ _ _ | with_reducible refine ext_al ?_ _ | with_reducible exact hx2.out | with_reducible exact hx1.out | with_reducible exact hx0.out)))) (HL2.out.mono (by (repeat (first | with_reducible refine ext_dr ?_ | with_reducible refine ext_put3 ?_ (by first | with_reducible exact hza.out | with_reducible exact hzb.out | with_reducible exact hzc.out | with_reducible exact hzd.out | with_reducible exact hze.out | with_reducible exact hzf.out) _ _ _ | with_reducible refine ext_al ?_ _ | with_reducible exact hx2.out | with_reducible exact hx1.out | with_reducible exact hx0.out)))) BS.out.1 BT.out.1).mono ?_
           rintro e w14 ⟨v14, rfl, h14, kk4⟩
           obtain ⟨b14, A14, k14, ca14, B14, l14, cb14, rfl⟩ := h14.form2
           have H14 := Lib.hid h14
           have hx1 := Lib.hid (show Ext WF w14 from ext_trans (by (repeat (first | with_reducible refine ext_dr ?_ | with_reducible refine ext_put3 ?_ (by first | with_reducible exact hza.out | with_reducible exact hzb.out | with_reducible exact hzc.out | with_reducible exact hzd.out | with_reducible exact hze.out | with_reducible exact hzf.out) _ _ _ | with_reducible refine ext_al ?_ _ | with_reducible exact hx2.out | with_reducible exact hx1.out | with_reducible exact hx0.out))) kk4)
           have za := Lib.hid (row3 (ext_trans (ext_drew _) kk4))
           have hqy0 : g0 < w14.heap.size := Nat.lt_of_lt_of_le HGS0.out hx1.out.size
           have ney00 : g0 ≠ w14.heap.size := Nat.ne_of_lt hqy0
           have ney01 : g0 ≠ w14.heap.size + 1 := Nat.ne_of_lt (Nat.lt_succ_of_lt hqy0)
           clear hqy0
           have hqy1 : g0 + 1 < w14.heap.size := Nat.lt_of_lt_of_le HGS1.out hx1.out.size
           have ney10 : g0 + 1 ≠ w14.heap.size := Nat.ne_of_lt hqy1
           have ney11 : g0 + 1 ≠ w14.heap.size + 1 := Nat.ne_of_lt (Nat.lt_succ_of_lt hqy1)
           clear hqy1
           have hzc := Lib.hid (show WF.heap.size ≤ w14.heap.size from hx1.out.size)
           have hzd := Lib.hid (show WF.heap.size ≤ w14.heap.size + 1 from Nat.le_succ_of_le hx1.out.size)
           clear h14 kk4)
        | (go_at_call 61
           with_reducible refine (max_q M HM.out _ _ (sortQ qa qb).1 (sortQ qc qd).1 WF.drew (HL1.out.mono (by (repeat (first | with_reducible refine ext_dr ?_ | with_reducible refine ext_put3 ?_ (by first | with_reducible exact hza.out | with_reducible exact hzb.out | with_reducible exact hzc.out | with_reducible exact hzd.out | with_reducible exact hze.out | with_reducible exact hzf.out) _ _ _ | with_reducible refine ext_al ?_ _ | with_reducible exact hx2.out | with_reducible exact hx1.out | with_reducible exact hx0.out)))) (HL2.out.mono (by (repeat (first | with_reducible refine ext_dr ?_ | with_reducible refine ext_put3 ?_ (by first | with_reducible exact hza.out | with_reducible exact hzb.out | with_reducible exact hzc.out | with_reducible exact hzd.out | with_reducible exact hze.out | with_reducible exact hzf.out) _ _ _ | with_reducible refine ext_al ?_ _ | with_reducible exact hx2.out | with_reducible exact hx1.out | with_reducible exact hx0.out)))) BS.out.1 BT.out.1).mono ?_
           rintro e w14 ⟨v14, rfl, h14, kk4⟩
           obtain ⟨b14, A14, k14, ca14, B14, l14, cb14, rfl⟩ := h14.form2
           have H14 := Lib.hid h14
           have hx1 := Lib.hid (show Ext WF w14 from ext_trans (by (repeat (first | with_reducible refine ext_dr ?_ | with_reducible refine ext_put3 ?_ (by first | with_reducible exact hza.out | with_reducible exact hzb.out | with_reducible exact hzc.out | with_reducible exact hzd.out | with_reducible exact hze.out | with_reducible exact hzf.out) _ _ _ | with_reducible refine ext_al ?_ _ | with_reducible exact hx2.out | with_reducible exact hx1.out | with_reducible exact hx0.out))) kk4)
           have hqy0 : g0 < w14.heap.size := Nat.lt_of_lt_of_le HGS0.out hx1.out.size
           have ney00 : g0 ≠ w14.heap.size := Nat.ne_of_lt hqy0
           have ney01 : g0 ≠ w14.heap.size + 1 := Nat.ne_of_lt (Nat.lt_succ_of_lt hqy0)
           clear hqy0
           have hqy1 : g0 + 1 < w14.heap.size := Nat.lt_of_lt_of_le HGS1.out hx1.out.size
           have ney10 : g0 + 1 ≠ w14.heap.size := Nat.ne_of_lt hqy1
           have ney11 : g0 + 1 ≠ w14.heap.size + 1 := Nat.ne_of_lt (Nat.lt_succ_of_lt hqy1)
           clear hqy1
           have hzc := Lib.hid (show WF.heap.size ≤ w14.heap.size from hx1.out.size)
           have hzd := Lib.hid (show WF.heap.size ≤ w14.heap.size + 1 from Nat.le_succ_of_le hx1.out.size)
           clear h14 kk4)
        | (go_at_call 59
           have _q := hx1
           rename_i hh _ _
           clear hh
           with_reducible refine (min_q M HM.out _ _ (sortQ qa qb).2 (sortQ qc qd).2 ((w14.alloc (.cells #[.bool false, .slice none 0 0, .slice none 0 0] 25)).alloc (.cells #[.bool false, .slice none 0 0, .slice none 0 0] 25)) (HH1.out.mono (by (repeat (first | with_reducible refine ext_dr ?_ | with_reducible refine ext_put3 ?_ (by first | with_reducible exact hza.out | with_reducible exact hzb.out | with_reducible exact hzc.out | with_reducible exact hzd.out | with_reducible exact hze.out | with_reducible exact hzf.out) _ _ _ | with_reducible refine ext_al ?_ _ | with_reducible exact hx2.out | with_reducible exact hx1.out | with_reducible exact hx0.out)))) (HH2.out.mono (by (repeat (first | with_reducible refine ext_dr ?_ | with_reducible refine ext_put3 ?_ (by first | with_reducible exact hza.out | with_reducible exact hzb.out | with_reducible exact hzc.out | with_reducible exact hzd.out | with_reducible exact hze.out | with_reducible exact hzf.out) _ _ _ | with_reducible refine ext_al ?_ _ | with_reducible exact hx2.out | with_reducible exact hx1.out | with_reducible exact hx0.out)))) BS.out.2 BT.out.2).mono ?_
           rintro e w15 ⟨v15, rfl, h15, kk5⟩
           obtain ⟨b15, A15, k15, ca15, B15, l15, cb15, rfl⟩ := h15.form2
           have H15 := Lib.hid h15
           have hx2 := Lib.hid (show Ext WF w15 from ext_trans (by (repeat (first | with_reducible refine ext_dr ?_ | with_reducible refine ext_put3 ?_ (by first | with_reducible exact hza.out | with_reducible exact hzb.out | with_reducible exact hzc.out | with_reducible exact hzd.out | with_reducible exact hze.out | with_reducible exact hzf.out) _ _ _ | with_reducible refine ext_al ?_ _ | with_reducible exact hx2.out | with_reducible exact hx1.out | with_reducible exact hx0.out))) kk5)
           have zc' := Lib.hid (row3 (w := w14) (show Ext (w14.alloc (.cells #[.bool false, .slice none 0 0, .slice none 0 0] 25)) w15 from ext_trans (ext_alloc (w14.alloc (.cells #[.bool false, .slice none 0 0, .slice none 0 0] 25)) _) kk5))
           have zd' := Lib.hid (show w15.heap[w14.heap.size + 1]? = some (.cells #[.bool false, .slice none 0 0, .slice none 0 0] 25 (0, 0)) by rw [← heap_size_alloc' w14 (.cells #[.bool false, .slice none 0 0, .slice none 0 0] 25)]; exact row3 (w := w14.alloc (.cells #[.bool false, .slice none 0 0, .slice none 0 0] 25)) kk5)
           obtain ⟨zc0, zc1, zc2, zcf0, zcf1, zcf2⟩ := row3_0 zc'.out
           obtain ⟨zd0, zd1, zd2, zdf0, zdf1, zdf2⟩ := row3_0 zd'.out
           have la := lt_of_block zc'.out
           have lb := lt_of_block zd'.out
           have nn : w14.heap.size ≠ w14.heap.size + 1 := Nat.ne_of_lt (Nat.lt_succ_self _)
           have nm : w14.heap.size + 1 ≠ w14.heap.size := Nat.succ_ne_self _
           have H14' := Lib.hid (H14.out.mono (ext_trans (ext_alloc _ _) (ext_trans (ext_alloc _ _) kk5)))
           have hqz0 : g0 < w15.heap.size := Nat.lt_of_lt_of_le HGS0.out hx2.out.size
           have nez00 : g0 ≠ w15.heap.size := Nat.ne_of_lt hqz0
           have nez01 : g0 ≠ w15.heap.size + 1 := Nat.ne_of_lt (Nat.lt_succ_of_lt hqz0)
           clear hqz0
           have hqz1 : g0 + 1 < w15.heap.size := Nat.lt_of_lt_of_le HGS1.out hx2.out.size
           have nez10 : g0 + 1 ≠ w15.heap.size := Nat.ne_of_lt hqz1
           have nez11 : g0 + 1 ≠ w15.heap.size + 1 := Nat.ne_of_lt (Nat.lt_succ_of_lt hqz1)
           clear hqz1
           have hze := Lib.hid (show WF.heap.size ≤ w15.heap.size from hx2.out.size)
           have hzf := Lib.hid (show WF.heap.size ≤ w15.heap.size + 1 from Nat.le_succ_of_le hx2.out.size)
           try generalize w14.heap.size + 1 = g4b at *
           try generalize w14.heap.size = g4 at *
           try generalize WF.heap.size + 1 = gxb at *
           clear h15 kk5)
        | (go_at_call 59
           have _q := hx1
           rename_i hh _ _
           clear hh
           with_reducible refine (min_q M HM.out _ _ (sortQ qa qb).2 (sortQ qc qd).2 (w14.alloc (.cells #[.bool false, .slice none 0 0, .slice none 0 0] 25)) (HH1.out.mono (by (repeat (first | with_reducible refine ext_dr ?_ | with_reducible refine ext_put3 ?_ (by first | with_reducible exact hza.out | with_reducible exact hzb.out | with_reducible exact hzc.out | with_reducible exact hzd.out | with_reducible exact hze.out | with_reducible exact hzf.out) _ _ _ | with_reducible refine ext_al ?_ _ | with_reducible exact hx2.out | with_reducible exact hx1.out | with_reducible exact hx0.out)))) (HH2.out.mono (by (repeat (first | with_reducible refine ext_dr ?_ | with_reducible refine ext_put3 ?_ (by first | with_reducible exact hza.out | with_reducible exact hzb.out | with_reducible exact hzc.out | with_reducible exact hzd.out | with_reducible exact hze.out | with_reducible exact hzf.out) _ _ _ | with_reducible refine ext_al ?_ _ | with_reducible exact hx2.out | with_reducible exact hx1.out | with_reducible exact hx0.out)))) BS.out.2 BT.out.2).mono ?_
           rintro e w15 ⟨v15, rfl, h15, kk5⟩
           obtain ⟨b15, A15, k15, ca15, B15, l15, cb15, rfl⟩ := h15.form2
           have H15 := Lib.hid h15
           have hx2 := Lib.hid (show Ext WF w15 from ext_trans (by (repeat (first | with_reducible refine ext_dr ?_ | with_reducible refine ext_put3 ?_ (by first | with_reducible exact hza.out | with_reducible exact hzb.out | with_reducible exact hzc.out | with_reducible exact hzd.out | with_reducible exact hze.out | with_reducible exact hzf.out) _ _ _ | with_reducible refine ext_al ?_ _ | with_reducible exact hx2.out | with_reducible exact hx1.out | with_reducible exact hx0.out))) kk5)
           have za' := Lib.hid (((ext_trans (ext_alloc _ _) kk5).block _ (lt_of_block za.out)).trans za.out)
           have zc' := Lib.hid (row3 kk5)
           obtain ⟨za0, za1, za2, zaf0, zaf1, zaf2⟩ := row3_0 za'.out
           obtain ⟨zc0, zc1, zc2, zcf0, zcf1, zcf2⟩ := row3_0 zc'.out
           have la := lt_of_block za.out
           have lan := Nat.ne_of_lt la
           have lag := Nat.ne_of_gt la
           have H14' := Lib.hid (H14.out.mono (ext_trans (ext_alloc _ _) kk5))
           have hqz0 : g0 < w15.heap.size := Nat.lt_of_lt_of_le HGS0.out hx2.out.size
           have nez00 : g0 ≠ w15.heap.size := Nat.ne_of_lt hqz0
           have nez01 : g0 ≠ w15.heap.size + 1 := Nat.ne_of_lt (Nat.lt_succ_of_lt hqz0)
           clear hqz0
           have hqz1 : g0 + 1 < w15.heap.size := Nat.lt_of_lt_of_le HGS1.out hx2.out.size
           have nez10 : g0 + 1 ≠ w15.heap.size := Nat.ne_of_lt hqz1
           have nez11 : g0 + 1 ≠ w15.heap.size + 1 := Nat.ne_of_lt (Nat.lt_succ_of_lt hqz1)
           clear hqz1
           have hze := Lib.hid (show WF.heap.size ≤ w15.heap.size from hx2.out.size)
           have hzf := Lib.hid (show WF.heap.size ≤ w15.heap.size + 1 from Nat.le_succ_of_le hx2.out.size)
           try generalize w14.heap.size + 1 = g4b at *
           try generalize w14.heap.size = g4 at *
           try generalize WF.heap.size + 1 = gxb at *
           clear h15 kk5)
        | (go_at_call 59
           have _q := hx1
           rename_i hh _ _
           clear hh
           with_reducible refine (min_q M HM.out _ _ (sortQ qa qb).2 (sortQ qc qd).2 (w14.alloc (.cells #[.bool false, .slice none 0 0, .slice none 0 0] 25)) (HH1.out.mono (by (repeat (first | with_reducible refine ext_dr ?_ | with_reducible refine ext_put3 ?_ (by first | with_reducible exact hza.out | with_reducible exact hzb.out | with_reducible exact hzc.out | with_reducible exact hzd.out | with_reducible exact hze.out | with_reducible exact hzf.out) _ _ _ | with_reducible refine ext_al ?_ _ | with_reducible exact hx2.out | with_reducible exact hx1.out | with_reducible exact hx0.out)))) (HH2.out.mono (by (repeat (first | with_reducible refine ext_dr ?_ | with_reducible refine ext_put3 ?_ (by first | with_reducible exact hza.out | with_reducible exact hzb.out | with_reducible exact hzc.out | with_reducible exact hzd.out | with_reducible exact hze.out | with_reducible exact hzf.out) _ _ _ | with_reducible refine ext_al ?_ _ | with_reducible exact hx2.out | with_reducible exact hx1.out | with_reducible exact hx0.out)))) BS.out.2 BT.out.2).mono ?_
           rintro e w15 ⟨v15, rfl, h15, kk5⟩
           obtain ⟨b15, A15, k15, ca15, B15, l15, cb15, rfl⟩ := h15.form2
           have H15 := Lib.hid h15
           have hx2 := Lib.hid (show Ext WF w15 from ext_trans (by (repeat (first | with_reducible refine ext_dr ?_ | with_reducible refine ext_put3 ?_ (by first | with_reducible exact hza.out | with_reducible exact hzb.out | with_reducible exact hzc.out | with_reducible exact hzd.out | with_reducible exact hze.out | with_reducible exact hzf.out) _ _ _ | with_reducible refine ext_al ?_ _ | with_reducible exact hx2.out | with_reducible exact hx1.out | with_reducible exact hx0.out))) kk5)
           have zc' := Lib.hid (row3 kk5)
           obtain ⟨zc0, zc1, zc2, zcf0, zcf1, zcf2⟩ := row3_0 zc'.out
           obtain ⟨zc0', zc1', zc2', zcf0', zcf1', zcf2'⟩ := row3_0 (((ext_alloc w15 (.cells #[.bool false, .slice none 0 0, .slice none 0 0] 25)).block _ (lt_of_block zc'.out)).trans zc'.out)
           have la := lt_of_block zc'.out
           have lan := Nat.ne_of_lt la
           have lag := Nat.ne_of_gt la
           have H14' := Lib.hid (H14.out.mono (ext_trans (ext_alloc _ _) kk5))
           have hqz0 : g0 < w15.heap.size := Nat.lt_of_lt_of_le HGS0.out hx2.out.size
           have nez00 : g0 ≠ w15.heap.size := Nat.ne_of_lt hqz0
           have nez01 : g0 ≠ w15.heap.size + 1 := Nat.ne_of_lt (Nat.lt_succ_of_lt hqz0)
           clear hqz0
           have hqz1 : g0 + 1 < w15.heap.size := Nat.lt_of_lt_of_le HGS1.out hx2.out.size
           have nez10 : g0 + 1 ≠ w15.heap.size := Nat.ne_of_lt hqz1
           have nez11 : g0 + 1 ≠ w15.heap.size + 1 := Nat.ne_of_lt (Nat.lt_succ_of_lt hqz1)
           clear hqz1
           have hze := Lib.hid (show WF.heap.size ≤ w15.heap.size from hx2.out.size)
           have hzf := Lib.hid (show WF.heap.size ≤ w15.heap.size + 1 from Nat.le_succ_of_le hx2.out.size)
           try generalize w14.heap.size + 1 = g4b at *
           try generalize w14.heap.size = g4 at *
           try generalize WF.heap.size + 1 = gxb at *
           clear h15 kk5)
        | (go_at_call 59
           have _q := hx1
           rename_i hh _ _
           clear hh
           with_reducible refine (min_q M HM.out _ _ (sortQ qa qb).2 (sortQ qc qd).2 w14 (HH1.out.mono (by (repeat (first | with_reducible refine ext_dr ?_ | with_reducible refine ext_put3 ?_ (by first | with_reducible exact hza.out | with_reducible exact hzb.out | with_reducible exact hzc.out | with_reducible exact hzd.out | with_reducible exact hze.out | with_reducible exact hzf.out) _ _ _ | with_reducible refine ext_al ?_ _ | with_reducible exact hx2.out | with_reducible exact hx1.out | with_reducible exact hx0.out)))) (HH2.out.mono (by (repeat (first | with_reducible refine ext_dr ?_ | with_reducible refine ext_put3 ?_ (by first | with_reducible exact hza.out | with_reducible exact hzb.out | with_reducible exact hzc.out | with_reducible exact hzd.out | with_reducible exact hze.out | with_reducible exact hzf.out) _ _ _ | with_reducible refine ext_al ?_ _ | with_reducible exact hx2.out | with_reducible exact hx1.out | with_reducible exact hx0.out)))) BS.out.2 BT.out.2).mono ?_
           rintro e w15 ⟨v15, rfl, h15, kk5⟩
           obtain ⟨b15, A15, k15, ca15, B15, l15, cb15, rfl⟩ := h15.form2
           have H15 := Lib.hid h15
           have hx2 := Lib.hid (show Ext WF w15 from ext_trans (by (repeat (first | with_reducible refine ext_dr ?_ | with_reducible refine ext_put3 ?_ (by first | with_reducible exact hza.out | with_reducible exact hzb.out | with_reducible exact hzc.out | with_reducible exact hzd.out | with_reducible exact hze.out | with_reducible exact hzf.out) _ _ _ | with_reducible refine ext_al ?_ _ | with_reducible exact hx2.out | with_reducible exact hx1.out | with_reducible exact hx0.out))) kk5)
           have za' := Lib.hid ((kk5.block _ (lt_of_block za.out)).trans za.out)
           have zb' := Lib.hid ((kk5.block _ (lt_of_block zb.out)).trans zb.out)
           obtain ⟨za0, za1, za2, zaf0, zaf1, zaf2⟩ := row3_0 za'.out
           obtain ⟨zb0, zb1, zb2, zbf0, zbf1, zbf2⟩ := row3_0 zb'.out
           have la := lt_of_block za'.out
           have lb := lt_of_block zb'.out
           have nn : WF.heap.size ≠ WF.heap.size + 1 := Nat.ne_of_lt (Nat.lt_succ_self _)
           have nm : WF.heap.size + 1 ≠ WF.heap.size := Nat.succ_ne_self _
           have H14' := Lib.hid (H14.out.mono kk5)
           have hqz0 : g0 < w15.heap.size := Nat.lt_of_lt_of_le HGS0.out hx2.out.size
           have nez00 : g0 ≠ w15.heap.size := Nat.ne_of_lt hqz0
           have nez01 : g0 ≠ w15.heap.size + 1 := Nat.ne_of_lt (Nat.lt_succ_of_lt hqz0)
           clear hqz0
           have hqz1 : g0 + 1 < w15.heap.size := Nat.lt_of_lt_of_le HGS1.out hx2.out.size
           have nez10 : g0 + 1 ≠ w15.heap.size := Nat.ne_of_lt hqz1
           have nez11 : g0 + 1 ≠ w15.heap.size + 1 := Nat.ne_of_lt (Nat.lt_succ_of_lt hqz1)
           clear hqz1
           have hze := Lib.hid (show WF.heap.size ≤ w15.heap.size from hx2.out.size)
           have hzf := Lib.hid (show WF.heap.size ≤ w15.heap.size + 1 from Nat.le_succ_of_le hx2.out.size)
           try generalize w14.heap.size + 1 = g4b at *
           try generalize w14.heap.size = g4 at *
           try generalize WF.heap.size + 1 = gxb at *
           clear h15 kk5)
        | (go_at_call 59
           have _q := hx1
           rename_i hh _ _
           clear hh
           with_reducible refine (min_q M HM.out _ _ (sortQ qa qb).2 (sortQ qc qd).2 w14 (HH1.out.mono (by (repeat (first | with_reducible refine ext_dr ?_ | with_reducible refine ext_put3 ?_ (by first | with_reducible exact hza.out | with_reducible exact hzb.out | with_reducible exact hzc.out | with_reducible exact hzd.out | with_reducible exact hze.out | with_reducible exact hzf.out) _ _ _ | with_reducible refine ext_al ?_ _ | with_reducible exact hx2.out | with_reducible exact hx1.out | with_reducible exact hx0.out)))) (HH2.out.mono (by (repeat (first | with_reducible refine ext_dr ?_ | with_reducible refine ext_put3 ?_ (by first | with_reducible exact hza.out | with_reducible exact hzb.out | with_reducible exact hzc.out | with_reducible exact hzd.out | with_reducible exact hze.out | with_reducible exact hzf.out) _ _ _ | with_reducible refine ext_al ?_ _ | with_reducible exact hx2.out | with_reducible exact hx1.out | with_reducible exact hx0.out)))) BS.out.2 BT.out.2).mono ?_
           rintro e w15 ⟨v15, rfl, h15, kk5⟩
           obtain ⟨b15, A15, k15, ca15, B15, l15, cb15, rfl⟩ := h15.form2
           have H15 := Lib.hid h15
           have hx2 := Lib.hid (show Ext WF w15 from ext_trans (by (repeat (first | with_reducible refine ext_dr ?_ | with_reducible refine ext_put3 ?_ (by first | with_reducible exact hza.out | with_reducible exact hzb.out | with_reducible exact hzc.out | with_reducible exact hzd.out | with_reducible exact hze.out | with_reducible exact hzf.out) _ _ _ | with_reducible refine ext_al ?_ _ | with_reducible exact hx2.out | with_reducible exact hx1.out | with_reducible exact hx0.out))) kk5)
           have za' := Lib.hid ((kk5.block _ (lt_of_block za.out)).trans za.out)
           obtain ⟨za0, za1, za2, zaf0, zaf1, zaf2⟩ := row3_0 za'.out
           obtain ⟨za0', za1', za2', zaf0', zaf1', zaf2'⟩ := row3_0 (((ext_alloc w15 (.cells #[.bool false, .slice none 0 0, .slice none 0 0] 25)).block _ (lt_of_block za'.out)).trans za'.out)
           have la := lt_of_block za'.out
           have lan := Nat.ne_of_lt la
           have lag := Nat.ne_of_gt la
           have H14' := Lib.hid (H14.out.mono kk5)
           have hqz0 : g0 < w15.heap.size := Nat.lt_of_lt_of_le HGS0.out hx2.out.size
           have nez00 : g0 ≠ w15.heap.size := Nat.ne_of_lt hqz0
           have nez01 : g0 ≠ w15.heap.size + 1 := Nat.ne_of_lt (Nat.lt_succ_of_lt hqz0)
           clear hqz0
           have hqz1 : g0 + 1 < w15.heap.size := Nat.lt_of_lt_of_le HGS1.out hx2.out.size
           have nez10 : g0 + 1 ≠ w15.heap.size := Nat.ne_of_lt hqz1
           have nez11 : g0 + 1 ≠ w15.heap.size + 1 := Nat.ne_of_lt (Nat.lt_succ_of_lt hqz1)
           clear hqz1
           have hze := Lib.hid (show WF.heap.size ≤ w15.heap.size from hx2.out.size)
           have hzf := Lib.hid (show WF.heap.size ≤ w15.heap.size + 1 from Nat.le_succ_of_le hx2.out.size)
           try generalize w14.heap.size + 1 = g4b at *
           try generalize w14.heap.size = g4 at *
           try generalize WF.heap.size + 1 = gxb at *
           clear h15 kk5)
        | (go_at_call 59
           have _q := hx1
           rename_i hh _ _
           clear hh
           with_reducible refine (min_q M HM.out _ _ (sortQ qa qb).2 (sortQ qc qd).2 w14 (HH1.out.mono (by (repeat (first | with_reducible refine ext_dr ?_ | with_reducible refine ext_put3 ?_ (by first | with_reducible exact hza.out | with_reducible exact hzb.out | with_reducible exact hzc.out | with_reducible exact hzd.out | with_reducible exact hze.out | with_reducible exact hzf.out) _ _ _ | with_reducible refine ext_al ?_ _ | with_reducible exact hx2.out | with_reducible exact hx1.out | with_reducible exact hx0.out)))) (HH2.out.mono (by (repeat (first | with_reducible refine ext_dr ?_ | with_reducible refine ext_put3 ?_ (by first | with_reducible exact hza.out | with_reducible exact hzb.out | with_reducible exact hzc.out | with_reducible exact hzd.out | with_reducible exact hze.out | with_reducible exact hzf.out) _ _ _ | with_reducible refine ext_al ?_ _ | with_reducible exact hx2.out | with_reducible exact hx1.out | with_reducible exact hx0.out)))) BS.out.2 BT.out.2).mono ?_
           rintro e w15 ⟨v15, rfl, h15, kk5⟩
           obtain ⟨b15, A15, k15, ca15, B15, l15, cb15, rfl⟩ := h15.form2
           have H15 := Lib.hid h15
           have hx2 := Lib.hid (show Ext WF w15 from ext_trans (by (repeat (first | with_reducible refine ext_dr ?_ | with_reducible refine ext_put3 ?_ (by first | with_reducible exact hza.out | with_reducible exact hzb.out | with_reducible exact hzc.out | with_reducible exact hzd.out | with_reducible exact hze.out | with_reducible exact hzf.out) _ _ _ | with_reducible refine ext_al ?_ _ | with_reducible exact hx2.out | with_reducible exact hx1.out | with_reducible exact hx0.out))) kk5)
           have H14' := Lib.hid (H14.out.mono kk5)
           have hqz0 : g0 < w15.heap.size := Nat.lt_of_lt_of_le HGS0.out hx2.out.size
           have nez00 : g0 ≠ w15.heap.size := Nat.ne_of_lt hqz0
           have nez01 : g0 ≠ w15.heap.size + 1 := Nat.ne_of_lt (Nat.lt_succ_of_lt hqz0)
           clear hqz0
           have hqz1 : g0 + 1 < w15.heap.size := Nat.lt_of_lt_of_le HGS1.out hx2.out.size
           have nez10 : g0 + 1 ≠ w15.heap.size := Nat.ne_of_lt hqz1
           have nez11 : g0 + 1 ≠ w15.heap.size + 1 := Nat.ne_of_lt (Nat.lt_succ_of_lt hqz1)
           clear hqz1
           have hze := Lib.hid (show WF.heap.size ≤ w15.heap.size from hx2.out.size)
           have hzf := Lib.hid (show WF.heap.size ≤ w15.heap.size + 1 from Nat.le_succ_of_le hx2.out.size)
           try generalize w14.heap.size + 1 = g4b at *
           try generalize w14.heap.size = g4 at *
           try generalize WF.heap.size + 1 = gxb at *
           clear h15 kk5))
      all_goals
        go_wp2_with fail
        go_meet
        refine ⟨_, _, rfl, rfl, b14, A14, k14, ca14, B14, l14, cb14, b15, A15, k15, ca15, B15, l15, cb15, ?_, ?_, ?_, ?_, ?_⟩
        all_goals
          repeat (first | with_reducible exact H15.out | with_reducible exact H14'.out | with_reducible exact za'.out | with_reducible exact zb'.out | with_reducible exact zc'.out | with_reducible exact zd'.out | with_reducible refine nm_dr ?_ | with_reducible refine nm_al ?_ | with_reducible refine nm_putz ?_ ?_ _ _ _ | with_reducible refine row_dr ?_ | with_reducible exact heap_alloc_new _ _ | with_reducible exact row_new1 _ _ _ | with_reducible exact row_newp _ _ _ _ _ _ | with_reducible refine put3_rowz ?_ _ _ _ | with_reducible refine put3_other ?_ (by first | with_reducible exact nn | with_reducible exact nm | with_reducible exact lan | with_reducible exact lag) _ _ _ | with_reducible refine row_al ?_ | (first | with_reducible refine ext_dr ?_ | with_reducible refine ext_put3 ?_ (by first | with_reducible exact hza.out | with_reducible exact hzb.out | with_reducible exact hzc.out | with_reducible exact hzd.out | with_reducible exact hze.out | with_reducible exact hzf.out) _ _ _ | with_reducible refine ext_al ?_ _ | with_reducible exact hx2.out | with_reducible exact hx1.out | with_reducible exact hx0.out))
    case rest =>
      obtain ⟨gs, gp, rfl, rfl, b31, A31, k31, ca31, B31, l31, cb31, b32, A32, k32, ca32, B32, l32, cb32, r5, r6, n1, n2, ex⟩ := hcut
      rename World => W4
      rw [← HLO.out] at n1
      rw [← HHI.out] at n2
      obtain ⟨x0, x1, x2, -⟩ := row3_0 r5
      obtain ⟨y0, y1, y2, -⟩ := row3_0 r6
      have R5 := Lib.hid r5
      have R6 := Lib.hid r6
      have N1 := Lib.hid n1
      have N2 := Lib.hid n2
      have E5 := Lib.hid ex
      clear r5 r6 n1 n2 ex
      have HC4 := Lib.hid (cmp_q M HM.out _ _ lo hi W4 N1.out N2.out BLO.out BHI.out)
      obtain ⟨cv, hcv⟩ : ∃ c, cmpQ lo hi = c := ⟨_, rfl⟩
      rw [hcv] at HC4
      have HCV := Lib.hid hcv
      clear hcv
      have h1 := cmpQ_above (x := lo) (y := hi)
      rw [HCV.out] at h1
      go_wp2_with fail
      refine HC4.out.mono ?_
      rintro e w9 ⟨rfl, k9⟩
      have R59 := Lib.hid ((k9.block _ (lt_of_block R5.out)).trans R5.out)
      have R69 := Lib.hid ((k9.block _ (lt_of_block R6.out)).trans R6.out)
      have rz := ((ext_trans E5.out k9).block _ (lt_of_block rz2.out)).trans rz2.out
      obtain ⟨z0, z1, z2, z3, z4, z5, zf0, zf1, zf2, zf3, zf4, zf5⟩ := row6_0 rz
      have RZ := Lib.hid rz
      have EF' := Lib.hid (ext_trans EF.out (ext_trans E5.out k9))
      have M1 := Lib.hid (N1.out.mono k9)
      have M2 := Lib.hid (N2.out.mono k9)
      clear rz k9 x0 x1 x2 y0 y1 y2
      obtain ⟨x0, x1, x2, -⟩ := row3_0 R59.out
      obtain ⟨y0, y1, y2, -⟩ := row3_0 R69.out
      by_cases hc : 0 < cv
      · have hlt := h1.1 hc
        have HLT := Lib.hid hlt
        clear hlt h1
        go_wp2_with fail
        refine bodyPost_ret (v := .tuple #[.agg #[.bool false, .slice none 0 0, .slice none 0 0, .bool false, .slice none 0 0, .slice none 0 0], .bool false]) (by simp [results, Tryz.f68]; go_simp) rfl ?_
        refine ⟨_, by rw [decide_eq_true (show minQ (sortQ qa qb).2 (sortQ qc qd).2 < maxQ (sortQ qa qb).1 (sortQ qc qd).1 by rw [← HLO.out, ← HHI.out]; exact HLT.out)]; rfl, ?_, put6_ext EF'.out (by rw [HG0.out]; exact LT1.out) _ _ _ _ _ _⟩
        unfold meetQ
        rw [if_pos (show minQ (sortQ qa qb).2 (sortQ qc qd).2 < maxQ (sortQ qa qb).1 (sortQ qc qd).1 by rw [← HLO.out, ← HHI.out]; exact HLT.out)]
        exact ⟨_, _, _, _, _, _, rfl, Nm.zero _, Nm.zero _⟩
      · have hlt : ¬ hi < lo := fun h => hc (h1.2 h)
        have HLT := Lib.hid hlt
        clear hlt h1
        have hc' : decide (0 < cv) = false := decide_eq_false hc
        go_wp2_with fail
        refine bodyPost_ret (v := .tuple #[.agg #[.bool b31, .slice A31 k31 ca31, .slice B31 l31 cb31, .bool b32, .slice A32 k32 ca32, .slice B32 l32 cb32], .bool true]) (by simp [results, Tryz.f68]; go_simp) rfl ?_
        refine ⟨_, by rw [decide_eq_false (show ¬ minQ (sortQ qa qb).2 (sortQ qc qd).2 < maxQ (sortQ qa qb).1 (sortQ qc qd).1 by rw [← HLO.out, ← HHI.out]; exact HLT.out)]; rfl, ?_, put6_ext EF'.out (by rw [HG0.out]; exact LT1.out) _ _ _ _ _ _⟩
        unfold meetQ
        rw [if_neg (show ¬ minQ (sortQ qa qb).2 (sortQ qc qd).2 < maxQ (sortQ qa qb).1 (sortQ qc qd).1 by rw [← HLO.out, ← HHI.out]; exact HLT.out), ← HLO.out, ← HHI.out]
        exact ⟨_, _, _, _, _, _, rfl, M1.out.put6 RZ.out _ _ _ _ _ _, M2.out.put6 RZ.out _ _ _ _ _ _⟩
end Go.Proofs.YtpgdefgdboijlaaGreatDoor
