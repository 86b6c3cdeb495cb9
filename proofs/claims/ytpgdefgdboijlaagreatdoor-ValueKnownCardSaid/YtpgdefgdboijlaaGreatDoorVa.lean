/- Spans: their cells; in order. -/
import Derived.Test.YtpgdefgdboijlaaGreatDoorNg
import Derived.Test.YtpgdefgdboijlaaGreatDoorNj
import Derived.Test.YtpgdefgdboijlaaGreatDoorNl
namespace Go.Proofs.YtpgdefgdboijlaaGreatDoor
open Go.RowKit
set_option linter.unusedVariables false

/-- the value is this span -/
def Sp (w : World) (v : Value) (lo hi : Rat) : Prop := ∃ x0 x1 x2 y0 y1 y2, v = .agg #[x0, x1, x2, y0, y1, y2] ∧ Nm w (.agg #[x0, x1, x2]) lo ∧ Nm w (.agg #[y0, y1, y2]) hi
theorem Sp.mono {w w' : World} {v : Value} {lo hi : Rat} (h : Sp w v lo hi) (k : Ext w w') : Sp w' v lo hi := by
  obtain ⟨x0, x1, x2, y0, y1, y2, e, h1, h2⟩ := h
  exact ⟨x0, x1, x2, y0, y1, y2, e, h1.mono k, h2.mono k⟩
theorem Sp.form {w : World} {v : Value} {lo hi : Rat} (h : Sp w v lo hi) : ∃ b1 A k ca B l cb b2 C m cc D n cd, v = .agg #[.bool b1, .slice A k ca, .slice B l cb, .bool b2, .slice C m cc, .slice D n cd] ∧
    Nm w (.agg #[.bool b1, .slice A k ca, .slice B l cb]) lo ∧ Nm w (.agg #[.bool b2, .slice C m cc, .slice D n cd]) hi := by
  obtain ⟨x0, x1, x2, y0, y1, y2, rfl, h1, h2⟩ := h
  obtain ⟨b1, A, k, ca, B, l, cb, e1⟩ := h1.form2
  obtain ⟨b2, C, m, cc, D, n, cd, e2⟩ := h2.form2
  simp only [Value.agg.injEq, Array.mk.injEq, List.cons.injEq, and_true] at e1 e2
  obtain ⟨rfl, rfl, rfl⟩ := e1
  obtain ⟨rfl, rfl, rfl⟩ := e2
  exact ⟨b1, A, k, ca, B, l, cb, b2, C, m, cc, D, n, cd, rfl, h1, h2⟩
theorem row6 {w W : World} {a b c d e f : Value} (h : Ext (w.alloc (.cells #[a, b, c, d, e, f] 68)) W) : W.heap[w.heap.size]? = some (.cells #[a, b, c, d, e, f] 68 (0, 0)) :=
  (h.block _ (by simp)).trans (heap_alloc_new w _)
theorem row6_0 {W : World} {g : Nat} {a b c d e f : Value} {T : TypeId} (h : W.heap[g]? = some (.cells #[a, b, c, d, e, f] T (0, 0))) :
    W.cell? ⟨g, 0, none⟩ = some a ∧ W.cell? ⟨g, 1, none⟩ = some b ∧ W.cell? ⟨g, 2, none⟩ = some c ∧ W.cell? ⟨g, 3, none⟩ = some d ∧ W.cell? ⟨g, 4, none⟩ = some e ∧ W.cell? ⟨g, 5, none⟩ = some f ∧
    W.frozen? ⟨g, 0, none⟩ = false ∧ W.frozen? ⟨g, 1, none⟩ = false ∧ W.frozen? ⟨g, 2, none⟩ = false ∧ W.frozen? ⟨g, 3, none⟩ = false ∧ W.frozen? ⟨g, 4, none⟩ = false ∧ W.frozen? ⟨g, 5, none⟩ = false := by
  refine ⟨?_, ?_, ?_, ?_, ?_, ?_, ?_, ?_, ?_, ?_, ?_, ?_⟩ <;> simp [World.cell?, World.frozen?, h]
/-- the six cells of a span are written -/
def put6 (W : World) (g : Nat) (a b c d e f : Value) : World := (((((W.setCell ⟨g, 0, none⟩ a).setCell ⟨g, 1, none⟩ b).setCell ⟨g, 2, none⟩ c).setCell ⟨g, 3, none⟩ d).setCell ⟨g, 4, none⟩ e).setCell ⟨g, 5, none⟩ f
theorem put6_ext {w W : World} {g : Nat} (h : Ext w W) (hg : w.heap.size ≤ g) (a b c d e f : Value) : Ext w (put6 W g a b c d e f) :=
  ((((((h.setCell hg _).setCell hg _).setCell hg _).setCell hg _).setCell hg _).setCell hg _)
theorem put6_other {W : World} {g k : Nat} {o : Obj} (h : W.heap[k]? = some o) (hne : k ≠ g) (a b c d e f : Value) : (put6 W g a b c d e f).heap[k]? = some o := by
  unfold put6
  rw [Below.heap_setCell _ _ _ _ hne, Below.heap_setCell _ _ _ _ hne, Below.heap_setCell _ _ _ _ hne, Below.heap_setCell _ _ _ _ hne, Below.heap_setCell _ _ _ _ hne, Below.heap_setCell _ _ _ _ hne]; exact h
theorem put6_row {W : World} {g : Nat} {a0 b0 c0 d0 e0 f0 : Value} {T : TypeId} (h : W.heap[g]? = some (.cells #[a0, b0, c0, d0, e0, f0] T (0, 0))) (a b c d e f : Value) :
    (put6 W g a b c d e f).heap[g]? = some (.cells #[a, b, c, d, e, f] T (0, 0)) := by
  unfold put6
  simp [World.setCell, Array.getElem?_modify, h]
theorem Wd.put6 {W : World} {v : Value} {q g : Nat} {b1 b2 : Bool} {A B C D : Option Addr} {k ca l cb m cc n cd : Nat} {T : TypeId} (h : Wd W v q)
    (hg : W.heap[g]? = some (.cells #[.bool b1, .slice A k ca, .slice B l cb, .bool b2, .slice C m cc, .slice D n cd] T (0, 0))) (a b c d e f : Value) : Wd (put6 W g a b c d e f) v q := by
  obtain ⟨A', cx, e', hc, hcl⟩ := h
  refine ⟨A', cx, e', hc, ?_⟩
  rcases Nat.eq_zero_or_pos (dg q).length with h0 | h0
  · left; rw [List.length_eq_zero_iff.1 h0]; rfl
  · obtain ⟨bl, o, hA, hce⟩ := hcl.at_ (by simpa using h0)
    right
    refine ⟨bl, o, hA, fun j hj => ?_⟩
    have hj' : j < (dg q).length := by simpa using hj
    have h1 := hce j hj
    have hne : bl ≠ g := by
      intro hb
      subst hb
      rw [getD_map_u64 _ _ hj'] at h1
      simp only [World.cell?, hg] at h1
      rcases Nat.lt_or_ge (o + j) 6 with h3 | h3
      · rcases (show o + j = 0 ∨ o + j = 1 ∨ o + j = 2 ∨ o + j = 3 ∨ o + j = 4 ∨ o + j = 5 by omega) with e | e | e | e | e | e <;> rw [e] at h1 <;> simp at h1
      · rw [Array.getElem?_eq_none (by simpa using h3)] at h1
        simp at h1
    rw [← h1]
    apply World.cell?_of_block
    unfold Go.Proofs.YtpgdefgdboijlaaGreatDoor.put6
    rw [Below.heap_setCell _ _ _ _ hne, Below.heap_setCell _ _ _ _ hne, Below.heap_setCell _ _ _ _ hne, Below.heap_setCell _ _ _ _ hne, Below.heap_setCell _ _ _ _ hne, Below.heap_setCell _ _ _ _ hne]
theorem Nm.put6 {W : World} {v : Value} {q : Rat} {g : Nat} {b1 b2 : Bool} {A B C D : Option Addr} {k ca l cb m cc n cd : Nat} {T : TypeId} (h : Nm W v q)
    (hg : W.heap[g]? = some (.cells #[.bool b1, .slice A k ca, .slice B l cb, .bool b2, .slice C m cc, .slice D n cd] T (0, 0))) (a b c d e f : Value) : Nm (put6 W g a b c d e f) v q := by
  obtain ⟨vn, vd, e', h1, h2⟩ := h
  exact ⟨vn, vd, e', h1.put6 hg .., h2.put6 hg ..⟩
/-- the ends in order -/
def sortQ (lo hi : Rat) : Rat × Rat := if hi < lo then (hi, lo) else (lo, hi)
set_option maxRecDepth 100000 in
set_option maxHeartbeats 4000000 in
theorem sorted_c (M : Nat) (hM : M ≤ 1099511627776) (v : Value) (lo hi : Rat) (w : World) (h : Sp w v lo hi) (b1 : Bq M lo) (b2 : Bq M hi) :
    Calls Tryz.prog 141 #[v] w fun e w' => ∃ v', e = .returned v' ∧ Sp w' v' (sortQ lo hi).1 (sortQ lo hi).2 ∧ Ext w w' := by
  obtain ⟨c1, A, k, ca, B, l, cb, c2, C, m, cc, D, n, cd, rfl, h1, h2⟩ := h.form
  have H1 := Lib.hid h1
  have H2 := Lib.hid h2
  have B1 := Lib.hid b1
  have B2 := Lib.hid b2
  have HM := Lib.hid hM
  clear h h1 h2 b1 b2 hM
  go_enter Tryz.func141, Tryz.ntmps141
  go_wp2_with fail
  refine (cmp_q M HM.out _ _ _ _ _ (H1.out.mono (ext2 _ _ _)) (H2.out.mono (ext2 _ _ _)) B1.out B2.out).mono ?_
  rintro e w3 ⟨rfl, k3⟩
  have hrb := row6 (ext_trans (ext_alloc _ (.cells #[.bool false, .slice none 0 0, .slice none 0 0, .bool false, .slice none 0 0, .slice none 0 0] 68)) k3)
  have hrz : w3.heap[w.heap.size + 1]? = some (.cells #[.bool false, .slice none 0 0, .slice none 0 0, .bool false, .slice none 0 0, .slice none 0 0] 68 (0, 0)) := by
    have q := row6 k3
    simpa using q
  obtain ⟨x0, x1, x2, x3, x4, x5, -⟩ := row6_0 hrb
  obtain ⟨z0, z1, z2, z3, z4, z5, f0, f1, f2, f3, f4, f5⟩ := row6_0 hrz
  have HRZ := Lib.hid hrz
  have KW := Lib.hid (ext_trans (ext2 _ _ _) k3)
  clear hrb hrz k3
  generalize hcv : cmpQ lo hi = cv at *
  have HCV := Lib.hid hcv
  clear hcv
  rcases (show 0 < cv ∨ cv ≤ 0 by omega) with hc | hc
  · have HLT := Lib.hid (show hi < lo by
      have h1 := (cmpQ_pos lo hi).1
      have h2 := cmpQ_one lo hi
      rw [HCV.out] at h1 h2
      exact h1 (by omega))
    go_wp2_with fail
    refine bodyPost_ret (v := .agg #[.bool c2, .slice C m cc, .slice D n cd, .bool c1, .slice A k ca, .slice B l cb]) (by simp [results, Tryz.f141]; go_simp) rfl ?_
    refine ⟨_, rfl, ?_, put6_ext KW.out (Nat.le_succ _) _ _ _ _ _ _⟩
    rw [show sortQ lo hi = (hi, lo) from if_pos HLT.out]
    exact ⟨_, _, _, _, _, _, rfl, (H2.out.mono KW.out).put6 HRZ.out _ _ _ _ _ _, (H1.out.mono KW.out).put6 HRZ.out _ _ _ _ _ _⟩
  · have HLT := Lib.hid (show ¬ hi < lo from fun h => by
      have h1 := (cmpQ_pos lo hi).2 h
      rw [HCV.out] at h1
      omega)
    go_wp2_with fail
    refine bodyPost_ret (v := .agg #[.bool c1, .slice A k ca, .slice B l cb, .bool c2, .slice C m cc, .slice D n cd]) (by simp [results, Tryz.f141]; go_simp) rfl ?_
    refine ⟨_, rfl, ?_, put6_ext KW.out (Nat.le_succ _) _ _ _ _ _ _⟩
    rw [show sortQ lo hi = (lo, hi) from if_neg HLT.out]
    exact ⟨_, _, _, _, _, _, rfl, (H1.out.mono KW.out).put6 HRZ.out _ _ _ _ _ _, (H2.out.mono KW.out).put6 HRZ.out _ _ _ _ _ _⟩
end Go.Proofs.YtpgdefgdboijlaaGreatDoor
