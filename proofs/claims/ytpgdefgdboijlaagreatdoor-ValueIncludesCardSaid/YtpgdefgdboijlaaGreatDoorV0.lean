/- Spans: their cells; in order. Spans: a square. -/
import Derived.Test.YtpgdefgdboijlaaGreatDoorNg
import Derived.Test.YtpgdefgdboijlaaGreatDoorNj
import Derived.Test.YtpgdefgdboijlaaGreatDoorNl
import Derived.Deep.DeepCutAuto
namespace Go.Proofs.YtpgdefgdboijlaaGreatDoor
open Go.RowKit
set_option linter.unusedVariables false

/-- the value is this span -/
def Sp (w : World) (v : Value) (lo hi : Rat) : Prop := ∃ x0 x1 x2 y0 y1 y2, v = .agg #[x0, x1, x2, y0, y1, y2] ∧ Nm w (.agg #[x0, x1, x2]) lo ∧ Nm w (.agg #[y0, y1, y2]) hi
theorem Sp.mono {w w' : World} {v : Value} {lo hi : Rat} (h : Sp w v lo hi) (k : Ext w w') : Sp w' v lo hi := by
  obtain ⟨x0, x1, x2, y0, y1, y2, e, h1, h2⟩ := h
  exact ⟨x0, x1, x2, y0, y1, y2, e, h1.mono k, h2.mono k⟩
theorem Sp.form {w : World} {v : Value} {lo hi : Rat} (h : Sp w v lo hi) : ∃ b1 A k ca B l cb b2 C m cc D n cd, v = .agg #[.bool b1, .slice A k ca, .slice B l cb, .bool b2, .slice C m cc, .slice D n cd] ∧
    Nm w (.agg #[.bool b1, .slice A k ca, .slice B l cb]) lo ∧ Nm w (.agg #[.bool b2, .slice C m cc, .slice D n cd]) hi := by
  obtain ⟨x0, x1, x2, y0, y1, y2, rfl, h1, h2⟩ := h
  obtain ⟨b1, A, k, ca, B, l, cb, e1⟩ := h1.form2
  obtain ⟨b2, C, m, cc, D, n, cd, e2⟩ := h2.form2
  simp only [Value.agg.injEq, Array.mk.injEq, List.cons.injEq, and_true] at e1 e2
  obtain ⟨rfl, rfl, rfl⟩ := e1
  obtain ⟨rfl, rfl, rfl⟩ := e2
  exact ⟨b1, A, k, ca, B, l, cb, b2, C, m, cc, D, n, cd, rfl, h1, h2⟩
theorem row6 {w W : World} {a b c d e f : Value} (h : Ext (w.alloc (.cells #[a, b, c, d, e, f] 68)) W) : W.heap[w.heap.size]? = some (.cells #[a, b, c, d, e, f] 68 (0, 0)) :=
  (h.block _ (by simp)).trans (heap_alloc_new w _)
theorem row6_0 {W : World} {g : Nat} {a b c d e f : Value} {T : TypeId} (h : W.heap[g]? = some (.cells #[a, b, c, d, e, f] T (0, 0))) :
    W.cell? ⟨g, 0, none⟩ = some a ∧ W.cell? ⟨g, 1, none⟩ = some b ∧ W.cell? ⟨g, 2, none⟩ = some c ∧ W.cell? ⟨g, 3, none⟩ = some d ∧ W.cell? ⟨g, 4, none⟩ = some e ∧ W.cell? ⟨g, 5, none⟩ = some f ∧
    W.frozen? ⟨g, 0, none⟩ = false ∧ W.frozen? ⟨g, 1, none⟩ = false ∧ W.frozen? ⟨g, 2, none⟩ = false ∧ W.frozen? ⟨g, 3, none⟩ = false ∧ W.frozen? ⟨g, 4, none⟩ = false ∧ W.frozen? ⟨g, 5, none⟩ = false := by
  refine ⟨?_, ?_, ?_, ?_, ?_, ?_, ?_, ?_, ?_, ?_, ?_, ?_⟩ <;> simp [World.cell?, World.frozen?, h]
/-- the six cells of a span are written -/
def put6 (W : World) (g : Nat) (a b c d e f : Value) : World := (((((W.setCell ⟨g, 0, none⟩ a).setCell ⟨g, 1, none⟩ b).setCell ⟨g, 2, none⟩ c).setCell ⟨g, 3, none⟩ d).setCell ⟨g, 4, none⟩ e).setCell ⟨g, 5, none⟩ f
theorem put6_ext {w W : World} {g : Nat} (h : Ext w W) (hg : w.heap.size ≤ g) (a b c d e f : Value) : Ext w (put6 W g a b c d e f) :=
  ((((((h.setCell hg _).setCell hg _).setCell hg _).setCell hg _).setCell hg _).setCell hg _)
theorem put6_other {W : World} {g k : Nat} {o : Obj} (h : W.heap[k]? = some o) (hne : k ≠ g) (a b c d e f : Value) : (put6 W g a b c d e f).heap[k]? = some o := by
  unfold put6
  rw [Below.heap_setCell _ _ _ _ hne, Below.heap_setCell _ _ _ _ hne, Below.heap_setCell _ _ _ _ hne, Below.heap_setCell _ _ _ _ hne, Below.heap_setCell _ _ _ _ hne, Below.heap_setCell _ _ _ _ hne]; exact h
theorem put6_row {W : World} {g : Nat} {a0 b0 c0 d0 e0 f0 : Value} {T : TypeId} (h : W.heap[g]? = some (.cells #[a0, b0, c0, d0, e0, f0] T (0, 0))) (a b c d e f : Value) :
    (put6 W g a b c d e f).heap[g]? = some (.cells #[a, b, c, d, e, f] T (0, 0)) := by
  unfold put6
  simp [World.setCell, Array.getElem?_modify, h]
theorem Wd.put6 {W : World} {v : Value} {q g : Nat} {b1 b2 : Bool} {A B C D : Option Addr} {k ca l cb m cc n cd : Nat} {T : TypeId} (h : Wd W v q)
    (hg : W.heap[g]? = some (.cells #[.bool b1, .slice A k ca, .slice B l cb, .bool b2, .slice C m cc, .slice D n cd] T (0, 0))) (a b c d e f : Value) : Wd (put6 W g a b c d e f) v q := by
  obtain ⟨A', cx, e', hc, hcl⟩ := h
  refine ⟨A', cx, e', hc, ?_⟩
  rcases Nat.eq_zero_or_pos (dg q).length with h0 | h0
  · left; rw [List.length_eq_zero_iff.1 h0]; rfl
  · obtain ⟨bl, o, hA, hce⟩ := hcl.at_ (by simpa using h0)
    right
    refine ⟨bl, o, hA, fun j hj => ?_⟩
    have hj' : j < (dg q).length := by simpa using hj
    have h1 := hce j hj
    have hne : bl ≠ g := by
      intro hb
      subst hb
      rw [getD_map_u64 _ _ hj'] at h1
      simp only [World.cell?, hg] at h1
      rcases Nat.lt_or_ge (o + j) 6 with h3 | h3
      · rcases (show o + j = 0 ∨ o + j = 1 ∨ o + j = 2 ∨ o + j = 3 ∨ o + j = 4 ∨ o + j = 5 by omega) with e | e | e | e | e | e <;> rw [e] at h1 <;> simp at h1
      · rw [Array.getElem?_eq_none (by simpa using h3)] at h1
        simp at h1
    rw [← h1]
    apply World.cell?_of_block
    unfold Go.Proofs.YtpgdefgdboijlaaGreatDoor.put6
    rw [Below.heap_setCell _ _ _ _ hne, Below.heap_setCell _ _ _ _ hne, Below.heap_setCell _ _ _ _ hne, Below.heap_setCell _ _ _ _ hne, Below.heap_setCell _ _ _ _ hne, Below.heap_setCell _ _ _ _ hne]
theorem Nm.put6 {W : World} {v : Value} {q : Rat} {g : Nat} {b1 b2 : Bool} {A B C D : Option Addr} {k ca l cb m cc n cd : Nat} {T : TypeId} (h : Nm W v q)
    (hg : W.heap[g]? = some (.cells #[.bool b1, .slice A k ca, .slice B l cb, .bool b2, .slice C m cc, .slice D n cd] T (0, 0))) (a b c d e f : Value) : Nm (put6 W g a b c d e f) v q := by
  obtain ⟨vn, vd, e', h1, h2⟩ := h
  exact ⟨vn, vd, e', h1.put6 hg .., h2.put6 hg ..⟩
/-- the ends in order -/
def sortQ (lo hi : Rat) : Rat × Rat := if hi < lo then (hi, lo) else (lo, hi)
set_option maxRecDepth 100000 in
set_option maxHeartbeats 4000000 in
theorem sorted_c (M : Nat) (hM : M ≤ 1099511627776) (v : Value) (lo hi : Rat) (w : World) (h : Sp w v lo hi) (b1 : Bq M lo) (b2 : Bq M hi) :
    Calls Tryz.prog 141 #[v] w fun e w' => ∃ v', e = .returned v' ∧ Sp w' v' (sortQ lo hi).1 (sortQ lo hi).2 ∧ Ext w w' := by
  obtain ⟨c1, A, k, ca, B, l, cb, c2, C, m, cc, D, n, cd, rfl, h1, h2⟩ := h.form
  have H1 := Lib.hid h1
  have H2 := Lib.hid h2
  have B1 := Lib.hid b1
  have B2 := Lib.hid b2
  have HM := Lib.hid hM
  clear h h1 h2 b1 b2 hM
  go_enter Tryz.func141, Tryz.ntmps141
  go_wp2_with fail
  refine (cmp_q M HM.out _ _ _ _ _ (H1.out.mono (ext2 _ _ _)) (H2.out.mono (ext2 _ _ _)) B1.out B2.out).mono ?_
  rintro e w3 ⟨rfl, k3⟩
  have hrb := row6 (ext_trans (ext_alloc _ (.cells #[.bool false, .slice none 0 0, .slice none 0 0, .bool false, .slice none 0 0, .slice none 0 0] 68)) k3)
  have hrz : w3.heap[w.heap.size + 1]? = some (.cells #[.bool false, .slice none 0 0, .slice none 0 0, .bool false, .slice none 0 0, .slice none 0 0] 68 (0, 0)) := by
    have q := row6 k3
    simpa using q
  obtain ⟨x0, x1, x2, x3, x4, x5, -⟩ := row6_0 hrb
  obtain ⟨z0, z1, z2, z3, z4, z5, f0, f1, f2, f3, f4, f5⟩ := row6_0 hrz
  have HRZ := Lib.hid hrz
  have KW := Lib.hid (ext_trans (ext2 _ _ _) k3)
  clear hrb hrz k3
  generalize hcv : cmpQ lo hi = cv at *
  have HCV := Lib.hid hcv
  clear hcv
  rcases (show 0 < cv ∨ cv ≤ 0 by omega) with hc | hc
  · have HLT := Lib.hid (show hi < lo by
      have h1 := (cmpQ_pos lo hi).1
      have h2 := cmpQ_one lo hi
      rw [HCV.out] at h1 h2
      exact h1 (by omega))
    go_wp2_with fail
    refine bodyPost_ret (v := .agg #[.bool c2, .slice C m cc, .slice D n cd, .bool c1, .slice A k ca, .slice B l cb]) (by simp [results, Tryz.f141]; go_simp) rfl ?_
    refine ⟨_, rfl, ?_, put6_ext KW.out (Nat.le_succ _) _ _ _ _ _ _⟩
    rw [show sortQ lo hi = (hi, lo) from if_pos HLT.out]
    exact ⟨_, _, _, _, _, _, rfl, (H2.out.mono KW.out).put6 HRZ.out _ _ _ _ _ _, (H1.out.mono KW.out).put6 HRZ.out _ _ _ _ _ _⟩
  · have HLT := Lib.hid (show ¬ hi < lo from fun h => by
      have h1 := (cmpQ_pos lo hi).2 h
      rw [HCV.out] at h1
      omega)
    go_wp2_with fail
    refine bodyPost_ret (v := .agg #[.bool c1, .slice A k ca, .slice B l cb, .bool c2, .slice C m cc, .slice D n cd]) (by simp [results, Tryz.f141]; go_simp) rfl ?_
    refine ⟨_, rfl, ?_, put6_ext KW.out (Nat.le_succ _) _ _ _ _ _ _⟩
    rw [show sortQ lo hi = (lo, hi) from if_neg HLT.out]
    exact ⟨_, _, _, _, _, _, rfl, (H1.out.mono KW.out).put6 HRZ.out _ _ _ _ _ _, (H2.out.mono KW.out).put6 HRZ.out _ _ _ _ _ _⟩
end Go.Proofs.YtpgdefgdboijlaaGreatDoor
namespace Go.Proofs.YtpgdefgdboijlaaGreatDoor
open Go.RowKit
set_option linter.unusedVariables false

theorem neg_x (A B : Option Addr) (k ca l cb : Nat) (w : World) :
    Calls Tryz.prog 47 #[.agg #[.bool true, .slice A k ca, .slice B l cb]] w fun e w' => e = .returned (.agg #[.bool false, .slice A k ca, .slice B l cb]) ∧
      w' = (w.alloc (.cells #[.bool true, .slice A k ca, .slice B l cb] 25)).alloc (.cells #[.bool false, .slice A k ca, .slice B l cb] 25) := by
  go_enter Tryz.func47, Tryz.ntmps47
  go_wp2_with fail
  refine bodyPost_ret (v := .agg #[.bool false, .slice A k ca, .slice B l cb]) (by simp [results, Tryz.f47]; go_simp) rfl ?_
  exact ⟨rfl, rfl⟩
theorem neg_flip {w : World} {b : Bool} {vn vd : Value} {x : Rat} (h : Nm w (.agg #[.bool b, vn, vd]) x) (hx : x.num < 0) : Nm w (.agg #[.bool false, vn, vd]) (-x) := by
  obtain ⟨vn', vd', e, h1, h2⟩ := h
  simp only [Value.agg.injEq, Array.mk.injEq, List.cons.injEq, Value.bool.injEq, and_true] at e
  obtain ⟨-, rfl, rfl⟩ := e
  exact Nm.flip h1 h2 (by rw [Rat.neg_num]; symm; rw [decide_eq_false_iff_not]; omega)
theorem pow_q2 (M : Nat) (hM : M ≤ 17179869184) (vx : Value) (x : Rat) (w : World) (hx : Nm w vx x) (bx : Bq M x) :
    Calls Tryz.prog 22 #[vx, .int .i64 2] w fun e w' => ∃ v, e = .returned (.tuple #[v, .int .i64 0]) ∧ Nm w' v (x * x) ∧ Ext w w' := by
  have h := pow_q M hM 2 (by decide) vx x w hx bx
  rw [show x ^ 2 = x * x by rw [Rat.pow_succ, Rat.pow_one]] at h
  exact h
theorem nm_bool {w : World} {b : Bool} {vn vd : Value} {x : Rat} (h : Nm w (.agg #[.bool b, vn, vd]) x) : b = decide (x.num < 0) := by
  obtain ⟨vn', vd', e, h1, h2⟩ := h
  simp only [Value.agg.injEq, Array.mk.injEq, List.cons.injEq, Value.bool.injEq, and_true] at e
  exact e.1
/-- in the midst of a square: from 0 to the greater size -/
def MidR (w : World) (q : Rat) (wx : World) : Prop := ∃ b A k c B l d, wx.heap[w.heap.size]? = some (.cells #[.bool false, .slice none 0 0, .slice none 0 0, .bool b, .slice A k c, .slice B l d] 68 (0, 0)) ∧ Nm wx (.agg #[.bool b, .slice A k c, .slice B l d]) q ∧
  wx.heap[w.heap.size + 1]? = some (.cells #[.bool false, .slice none 0 0, .slice none 0 0, .bool false, .slice none 0 0, .slice none 0 0] 68 (0, 0)) ∧ Ext w wx
set_option maxRecDepth 100000 in
set_option maxHeartbeats 8000000 in
theorem square_mid (M : Nat) (hM : M ≤ 1073741824) (v : Value) (lo hi s1 s2 : Rat) (w : World) (h : Sp w v lo hi) (b1 : Bq M lo) (b2 : Bq M hi) (hs : sortQ lo hi = (s1, s2)) (hn : s1.num.sign = -1) (hp : s2.num.sign = 1) (bs1 : Bq M s1) (bs2 : Bq M s2) :
    Calls Tryz.prog 75 #[v, .int .i64 2] w fun e w' => ∃ v', e = .returned v' ∧ Sp w' v' (0 * 0) (maxQ (-s1) s2 * maxQ (-s1) s2) ∧ Ext w w' := by
  obtain ⟨c1, A, k, ca, B, l, cb, c2, C, m, cc, D, n, cd, rfl, h1, h2⟩ := h.form
  have HSP := Lib.hid h
  have B1 := Lib.hid b1
  have B2 := Lib.hid b2
  have BS1 := Lib.hid bs1
  have BS2 := Lib.hid bs2
  have HS := Lib.hid hs
  have HN := Lib.hid hn
  have HP := Lib.hid hp
  have HM := Lib.hid hM
  clear h h1 h2 b1 b2 bs1 bs2 hs hn hp hM
  go_enter Tryz.func75, Tryz.ntmps75
  go_wp2_with fail
  refine (sorted_c M (Nat.le_trans HM.out (by decide)) _ _ _ _ (HSP.out.mono (ext2 _ _ _)) B1.out B2.out).mono ?_
  rintro e w3 ⟨v3, rfl, h3, k3⟩
  rw [HS.out] at h3
  obtain ⟨d1, A3, k3_, ca3, B3, l3, cb3, d2, C3, m3, cc3, D3, n3, cd3, rfl, hlo, hhi⟩ := h3.form
  obtain rfl : d1 = true := by
    rw [nm_bool hlo, decide_eq_true_eq]
    have := HN.out
    exact Int.sign_eq_neg_one_iff_neg.1 this
  have hrb := row6 (ext_trans (ext_alloc _ (.cells #[.bool false, .slice none 0 0, .slice none 0 0, .bool false, .slice none 0 0, .slice none 0 0] 68)) k3)
  have hrz : w3.heap[w.heap.size + 1]? = some (.cells #[.bool false, .slice none 0 0, .slice none 0 0, .bool false, .slice none 0 0, .slice none 0 0] 68 (0, 0)) := by
    have q := row6 k3
    simpa using q
  obtain ⟨x0, x1, x2, x3, x4, x5, f0, f1, f2, f3, f4, f5⟩ := row6_0 hrb
  have HLO := Lib.hid hlo
  have HHI := Lib.hid hhi
  have HRB := Lib.hid hrb
  have HRZ := Lib.hid hrz
  have KW := Lib.hid (ext_trans (ext2 _ _ _) k3)
  clear h3 k3 hlo hhi hrb hrz
  go_wp2_with fail
  refine (sign_q' _ _ _ 1 HP.out (HHI.out.put6 HRB.out _ _ _ _ _ _)).mono ?_
  rintro e w4 ⟨rfl, k4⟩
  have hrb := (k4.block _ (lt_of_block (put6_row HRB.out _ _ _ _ _ _))).trans (put6_row HRB.out (.bool true) (.slice A3 k3_ ca3) (.slice B3 l3 cb3) (.bool d2) (.slice C3 m3 cc3) (.slice D3 n3 cd3))
  have hrz := (k4.block _ (lt_of_block (put6_other HRZ.out (by omega) _ _ _ _ _ _))).trans (put6_other HRZ.out (by omega) (.bool true) (.slice A3 k3_ ca3) (.slice B3 l3 cb3) (.bool d2) (.slice C3 m3 cc3) (.slice D3 n3 cd3))
  have HLO4 := Lib.hid ((HLO.out.put6 HRB.out _ _ _ _ _ _).mono k4)
  have HHI4 := Lib.hid ((HHI.out.put6 HRB.out _ _ _ _ _ _).mono k4)
  have KW4 := Lib.hid (ext_trans (put6_ext KW.out (Nat.le_refl _) _ _ _ _ _ _) k4)
  clear x0 x1 x2 x3 x4 x5 f0 f1 f2 f3 f4 f5
  obtain ⟨x0, x1, x2, x3, x4, x5, f0, f1, f2, f3, f4, f5⟩ := row6_0 hrb
  have HRB4 := Lib.hid hrb
  have HRZ4 := Lib.hid hrz
  clear hrb hrz k4
  have hmm : min (max (2 : Int) 0) 64 = 2 := by decide
  go_wp2_with fail
  refine (sign_q' _ _ _ (-1) HN.out HLO4.out).mono ?_
  rintro e w5 ⟨rfl, k5⟩
  have hrb := (k5.block _ (lt_of_block HRB4.out)).trans HRB4.out
  have hrz := (k5.block _ (lt_of_block HRZ4.out)).trans HRZ4.out
  have HLO5 := Lib.hid (HLO4.out.mono k5)
  have HHI5 := Lib.hid (HHI4.out.mono k5)
  have KW5 := Lib.hid (ext_trans KW4.out k5)
  clear x0 x1 x2 x3 x4 x5 f0 f1 f2 f3 f4 f5
  obtain ⟨x0, x1, x2, x3, x4, x5, f0, f1, f2, f3, f4, f5⟩ := row6_0 hrb
  have HRB5 := Lib.hid hrb
  have HRZ5 := Lib.hid hrz
  clear hrb hrz k5
  go_upto_region 6 with (fail)
  go_cut [1] (fun nn wx => nn = .int .i64 2 ∧ MidR w (maxQ (-s1) s2) wx)
  case first =>
    have hlt5 : w.heap.size < w5.heap.size := lt_of_block HRB5.out
    have hlt6 : w.heap.size < w5.heap.size + 1 := by omega
    have HNG := Lib.hid (Int.sign_eq_neg_one_iff_neg.1 HN.out)
    have HNX := Lib.hid (neg_flip HLO5.out HNG.out)
    go_region_with (first
      | (go_at_call 47
         refine (neg_x _ _ _ _ _ _ _).mono ?_
         rintro e w6 ⟨rfl, rfl⟩)
      | (go_at_call 61
         refine (max_q M (Nat.le_trans HM.out (by decide)) _ _ (-s1) s2 _ (HNX.out.mono ?_) (HHI5.out.mono ?_) BS1.out.neg BS2.out).mono ?_
         · repeat (first | with_reducible exact ext_refl _ | with_reducible refine ext_trans ?_ (ext_alloc _ _) | with_reducible refine ext_trans ?_ (ext_drew _))
         · repeat (first | with_reducible exact ext_refl _ | with_reducible refine ext_trans ?_ (ext_alloc _ _) | with_reducible refine ext_trans ?_ (ext_drew _))
         rintro e w7 ⟨v7, rfl, h7, k7⟩
         obtain ⟨b7, P7, p7, c7, Q7, q7, d7, rfl⟩ := h7.form2
         have k8 : Hid (Ext w5 w7) := by
           refine ext_trans ?_ k7
           repeat (first | with_reducible exact ext_refl _ | with_reducible refine ext_trans ?_ (ext_alloc _ _) | with_reducible refine ext_trans ?_ (ext_drew _))
         have hrb := (k8.out.block _ (lt_of_block HRB5.out)).trans HRB5.out
         have hrz := (k8.out.block _ (lt_of_block HRZ5.out)).trans HRZ5.out
         obtain ⟨y0, y1, y2, y3, y4, y5, g0, g1, g2, g3, g4, g5⟩ := row6_0 hrb
         have H7 := Lib.hid h7
         have HRB7 := Lib.hid hrb
         have HRZ7 := Lib.hid hrz
         clear h7 k7 hrb hrz))
    all_goals
      go_wp2_with fail
      go_meet
      exact ⟨rfl, b7, P7, p7, c7, Q7, q7, d7, put6_row HRB7.out _ _ _ _ _ _, H7.out.put6 HRB7.out _ _ _ _ _ _, put6_other HRZ7.out (by omega) _ _ _ _ _ _, put6_ext (ext_trans KW5.out k8.out) (Nat.le_refl _) _ _ _ _ _ _⟩
  case rest =>
    obtain ⟨rfl, b7, P7, p7, c7, Q7, q7, d7, hrb, hh, hrz, hex⟩ := hcut
    have BQ := Lib.hid (show Bq M (maxQ (-s1) s2) by unfold maxQ; split; exact BS2.out; exact BS1.out.neg)
    have HH := Lib.hid hh
    have HEX := Lib.hid hex
    have HRB := Lib.hid hrb
    have HRZ := Lib.hid hrz
    clear x0 x1 x2 x3 x4 x5 f0 f1 f2 f3 f4 f5
    obtain ⟨x0, x1, x2, x3, x4, x5, f0, f1, f2, f3, f4, f5⟩ := row6_0 hrb
    clear hh hex hrb hrz
    go_wp2_with fail
    refine (pow_q2 1 (by decide) _ 0 _ (Nm.zero _) (bq_zero 1 (by decide))).mono ?_
    rintro e w8 ⟨v8, rfl, h8, k8⟩
    obtain ⟨b8, P8, p8, c8, Q8, q8, d8, rfl⟩ := h8.form2
    have hrb := (k8.block _ (lt_of_block HRB.out)).trans HRB.out
    have hrz := (k8.block _ (lt_of_block HRZ.out)).trans HRZ.out
    have hl0 := lt_of_block hrb
    clear x0 x1 x2 x3 x4 x5 f0 f1 f2 f3 f4 f5
    obtain ⟨x0, x1, x2, x3, x4, x5, f0, f1, f2, f3, f4, f5⟩ := row6_0 hrb
    have H8 := Lib.hid h8
    have K8 := Lib.hid k8
    have HRZ8 := Lib.hid hrz
    clear h8 k8 hrb hrz
    go_wp2_with fail
    refine (pow_q2 M (Nat.le_trans HM.out (by decide)) _ (maxQ (-s1) s2) _ (HH.out.mono (ext_trans K8.out (ext_alloc _ _))) BQ.out).mono ?_
    rintro e w9 ⟨v9, rfl, h9, k9⟩
    obtain ⟨b9, P9, p9, c9, Q9, q9, d9, rfl⟩ := h9.form2
    have hx8 := row3 k9
    obtain ⟨y0, y1, y2, -⟩ := row3_0 hx8
    have hl8 := lt_of_block hx8
    have hrz := ((ext_trans (ext_alloc _ _) k9).block _ (lt_of_block HRZ8.out)).trans HRZ8.out
    have hl9 := lt_of_block hrz
    clear x0 x1 x2 x3 x4 x5 f0 f1 f2 f3 f4 f5
    obtain ⟨z0, z1, z2, z3, z4, z5, f0, f1, f2, f3, f4, f5⟩ := row6_0 hrz
    have H9 := Lib.hid h9
    have K9 := Lib.hid (ext_trans (ext_alloc _ _) k9)
    have HRZ9 := Lib.hid ((((ext_alloc w9 (.cells #[.bool b9, .slice P9 p9 c9, .slice Q9 q9 d9] 25)).block _ (lt_of_block hrz))).trans hrz)
    clear h9 k9 hrz hx8
    have Y0 := (ext_cell (ext_alloc w9 (.cells #[.bool b9, .slice P9 p9 c9, .slice Q9 q9 d9] 25)) y0)
    have Y1 := (ext_cell (ext_alloc w9 (.cells #[.bool b9, .slice P9 p9 c9, .slice Q9 q9 d9] 25)) y1)
    have Y2 := (ext_cell (ext_alloc w9 (.cells #[.bool b9, .slice P9 p9 c9, .slice Q9 q9 d9] 25)) y2)
    obtain ⟨Z0, Z1, Z2, Z3, Z4, Z5, F0, F1, F2, F3, F4, F5⟩ := row6_0 HRZ9.out
    clear y0 y1 y2 z0 z1 z2 z3 z4 z5 f0 f1 f2 f3 f4 f5 hl8 hl9 hl0
    generalize w8.heap.size = a8 at *
    go_wp2_with fail
    refine bodyPost_ret (v := .agg #[.bool b8, .slice P8 p8 c8, .slice Q8 q8 d8, .bool b9, .slice P9 p9 c9, .slice Q9 q9 d9]) (by simp [results, Tryz.f75]; go_simp) rfl ?_
    refine ⟨_, rfl, ?_, put6_ext (ext_trans HEX.out (ext_trans K8.out (ext_trans K9.out (ext_alloc _ _)))) (Nat.le_succ _) _ _ _ _ _ _⟩
    exact ⟨_, _, _, _, _, _, rfl, (H8.out.mono (ext_trans K9.out (ext_alloc _ _))).put6 HRZ9.out _ _ _ _ _ _, (H9.out.mono (ext_alloc _ _)).put6 HRZ9.out _ _ _ _ _ _⟩
end Go.Proofs.YtpgdefgdboijlaaGreatDoor
