/- The laws' helper spans: four texts are read; numbers keep clear of blocks that hold none of their digits. Printed by gen_se.py. -/
import Derived.Test.YtpgdefgdboijlaaGreatDoorSa
import Derived.Test.YtpgdefgdboijlaaGreatDoorPr
import Derived.BigRegion
namespace Go.Proofs.YtpgdefgdboijlaaGreatDoor
open Go.RowKit
set_option linter.unusedVariables false
/-- the value is this span of the reference -/
def SpR (w : World) (v : Value) (lo hi : Rat) : Prop := ∃ x0 x1 x2 y0 y1 y2, v = .agg #[x0, x1, x2, y0, y1, y2] ∧ Nr w (.agg #[x0, x1, x2]) lo ∧ Nr w (.agg #[y0, y1, y2]) hi
theorem SpR.mono {w w' : World} {v : Value} {lo hi : Rat} (h : SpR w v lo hi) (k : Ext w w') : SpR w' v lo hi := by
  obtain ⟨x0, x1, x2, y0, y1, y2, e, h1, h2⟩ := h
  exact ⟨x0, x1, x2, y0, y1, y2, e, h1.mono k, h2.mono k⟩
/-- block g holds no word of 64 bits without sign, and no integer above 0 -/
def NoDig (W : World) (g : Nat) : Prop := ∀ (j : Nat), (∀ z : Int, W.cell? ⟨g, j, none⟩ ≠ some (.int .u64 z)) ∧ (∀ z : Int, 0 < z → W.cell? ⟨g, j, none⟩ ≠ some (.int .i64 z))
theorem nodig6 {W : World} {g : Nat} {a b c d e f : Value} {T : TypeId} (h : W.heap[g]? = some (.cells #[a, b, c, d, e, f] T (0, 0)))
    (hn : ∀ x, x = a ∨ x = b ∨ x = c ∨ x = d ∨ x = e ∨ x = f → (∀ z : Int, x ≠ .int .u64 z) ∧ (∀ z : Int, 0 < z → x ≠ .int .i64 z)) : NoDig W g := by
  intro j
  have key : ∀ x, W.cell? ⟨g, j, none⟩ = some x → x = a ∨ x = b ∨ x = c ∨ x = d ∨ x = e ∨ x = f := by
    intro x hx
    simp only [World.cell?, h] at hx
    rcases Nat.lt_or_ge j 6 with h3 | h3
    · rcases (show j = 0 ∨ j = 1 ∨ j = 2 ∨ j = 3 ∨ j = 4 ∨ j = 5 by omega) with rfl | rfl | rfl | rfl | rfl | rfl <;> simp at hx <;> simp [hx]
    · rw [Array.getElem?_eq_none (by simpa using h3)] at hx
      simp at hx
  exact ⟨fun z hz => (hn _ (key _ hz)).1 z rfl, fun z hp hz => (hn _ (key _ hz)).2 z hp rfl⟩
theorem nodigV {W : World} {g : Nat} {b1 b2 : Bool} {A B C D : Option Addr} {k ca l cb m cc n cd : Nat} {T : TypeId} (h : W.heap[g]? = some (.cells #[.bool b1, .slice A k ca, .slice B l cb, .bool b2, .slice C m cc, .slice D n cd] T (0, 0))) : NoDig W g :=
  nodig6 h (fun x hx => by rcases hx with rfl | rfl | rfl | rfl | rfl | rfl <;> exact ⟨(fun z e => by cases e), (fun z _ e => by cases e)⟩)
theorem nodigR {W : World} {g : Nat} {A B C D : Option Addr} {k ca l cb m cc n cd : Nat} {T : TypeId} (h : W.heap[g]? = some (.cells #[.int .i64 0, .slice A k ca, .slice B l cb, .int .i64 0, .slice C m cc, .slice D n cd] T (0, 0))) : NoDig W g :=
  nodig6 h (fun x hx => by
    rcases hx with rfl | rfl | rfl | rfl | rfl | rfl <;> refine ⟨(fun z e => by cases e), (fun z hz e => ?_)⟩
    all_goals first | (cases e; done) | (injection e with e1 e2; omega))
theorem Wd.keep {W W' : World} {v : Value} {n g : Nat} (h : Wd W v n) (hg : NoDig W g) (hk : ∀ b, b ≠ g → W'.heap[b]? = W.heap[b]?) : Wd W' v n := by
  obtain ⟨A, cc, e, hc, hcl⟩ := h
  refine ⟨A, cc, e, hc, ?_⟩
  rcases Nat.eq_zero_or_pos (dg n).length with h0 | h0
  · left; rw [List.length_eq_zero_iff.1 h0]; rfl
  · obtain ⟨bl, o, hA, hce⟩ := hcl.at_ (by simpa using h0)
    right
    refine ⟨bl, o, hA, fun j hj => ?_⟩
    have hj' : j < (dg n).length := by simpa using hj
    have h1 := hce j hj
    have hne : bl ≠ g := by
      intro hb
      subst hb
      rw [getD_map_u64 _ _ hj'] at h1
      exact (hg _).1 _ h1
    rw [← h1]
    exact World.cell?_of_block (hk _ hne)
theorem Wr.keep {W W' : World} {v : Value} {n g : Nat} (h : Wr W v n) (hg : NoDig W g) (hk : ∀ b, b ≠ g → W'.heap[b]? = W.heap[b]?) : Wr W' v n := by
  obtain ⟨A, cc, e, hc, hcl⟩ := h
  refine ⟨A, cc, e, hc, ?_⟩
  rcases Nat.eq_zero_or_pos n with h0 | h0
  · left; subst h0; rw [dr_zero]; rfl
  · obtain ⟨t1, t2, t3, -, -⟩ := dr_top h0
    have hcl' := hcl
    obtain ⟨bl, o, hA, hce⟩ := hcl.at_ (by simpa using t3)
    obtain ⟨bl', o', hA', hce'⟩ := hcl'.i t3
    right
    refine ⟨bl, o, hA, fun j hj => ?_⟩
    have hne : bl ≠ g := by
      intro hb
      rw [hA] at hA'
      injection hA' with e1
      injection e1 with e2 e3
      have h1 := hce' ((dr n).length - 1) (by omega)
      rw [← e2, hb] at h1
      exact (hg _).2 _ (by omega) h1
    rw [← hce j hj]
    exact World.cell?_of_block (hk _ hne)
theorem Nm.keep {W W' : World} {v : Value} {q : Rat} {g : Nat} (h : Nm W v q) (hg : NoDig W g) (hk : ∀ b, b ≠ g → W'.heap[b]? = W.heap[b]?) : Nm W' v q := by
  obtain ⟨vn, vd, e, h1, h2⟩ := h
  exact ⟨vn, vd, e, h1.keep hg hk, h2.keep hg hk⟩
theorem Nr.keep {W W' : World} {v : Value} {q : Rat} {g : Nat} (h : Nr W v q) (hg : NoDig W g) (hk : ∀ b, b ≠ g → W'.heap[b]? = W.heap[b]?) : Nr W' v q := by
  obtain ⟨s, vt, vb, e, hs, h1, h2⟩ := h
  exact ⟨s, vt, vb, e, hs, h1.keep hg hk, h2.keep hg hk⟩
theorem put6_keep (W : World) (g : Nat) (a b c d e f : Value) : ∀ k, k ≠ g → (put6 W g a b c d e f).heap[k]? = W.heap[k]? := by
  intro k hne
  unfold put6
  rw [Below.heap_setCell _ _ _ _ hne, Below.heap_setCell _ _ _ _ hne, Below.heap_setCell _ _ _ _ hne, Below.heap_setCell _ _ _ _ hne, Below.heap_setCell _ _ _ _ hne, Below.heap_setCell _ _ _ _ hne]
theorem rowR6 {w W : World} {a b c d e f : Value} (h : Ext (w.alloc (.cells #[a, b, c, d, e, f] 85)) W) : W.heap[w.heap.size]? = some (.cells #[a, b, c, d, e, f] 85 (0, 0)) :=
  (h.block _ (by simp)).trans (heap_alloc_new w _)
theorem rowF {w W : World} {a b c d : Value} {T : TypeId} (h : Ext (w.alloc (.cells #[a, b, c, d] T)) W) : W.heap[w.heap.size]? = some (.cells #[a, b, c, d] T (0, 0)) :=
  (h.block _ (by simp)).trans (heap_alloc_new w _)
theorem rowF_0 {W : World} {g : Nat} {a b c d : Value} {T : TypeId} (h : W.heap[g]? = some (.cells #[a, b, c, d] T (0, 0))) : W.cell? ⟨g, 0, none⟩ = some a ∧ W.cell? ⟨g, 1, none⟩ = some b ∧ W.cell? ⟨g, 2, none⟩ = some c ∧ W.cell? ⟨g, 3, none⟩ = some d := by
  refine ⟨?_, ?_, ?_, ?_⟩ <;> simp [World.cell?, h]
theorem setupF (w : World) (x0 x1 x2 x3 : Value) :
    (((((w.alloc (.cells #[x0, x1, x2, x3] 83)).alloc (.cells #[.bool false, .slice none 0 0, .slice none 0 0, .bool false, .slice none 0 0, .slice none 0 0] 68)).alloc (.cells #[.bool false, .slice none 0 0, .slice none 0 0, .bool false, .slice none 0 0, .slice none 0 0] 68)).alloc (.cells #[.int .i64 0, .slice none 0 0, .slice none 0 0, .int .i64 0, .slice none 0 0, .slice none 0 0] 85)).alloc (.cells #[.int .i64 0, .slice none 0 0, .slice none 0 0, .int .i64 0, .slice none 0 0, .slice none 0 0] 85)).heap[w.heap.size]? = some (.cells #[x0, x1, x2, x3] 83 (0, 0)) ∧ (((((w.alloc (.cells #[x0, x1, x2, x3] 83)).alloc (.cells #[.bool false, .slice none 0 0, .slice none 0 0, .bool false, .slice none 0 0, .slice none 0 0] 68)).alloc (.cells #[.bool false, .slice none 0 0, .slice none 0 0, .bool false, .slice none 0 0, .slice none 0 0] 68)).alloc (.cells #[.int .i64 0, .slice none 0 0, .slice none 0 0, .int .i64 0, .slice none 0 0, .slice none 0 0] 85)).alloc (.cells #[.int .i64 0, .slice none 0 0, .slice none 0 0, .int .i64 0, .slice none 0 0, .slice none 0 0] 85)).heap[w.heap.size + 1]? = some (.cells #[.bool false, .slice none 0 0, .slice none 0 0, .bool false, .slice none 0 0, .slice none 0 0] 68 (0, 0)) ∧ (((((w.alloc (.cells #[x0, x1, x2, x3] 83)).alloc (.cells #[.bool false, .slice none 0 0, .slice none 0 0, .bool false, .slice none 0 0, .slice none 0 0] 68)).alloc (.cells #[.bool false, .slice none 0 0, .slice none 0 0, .bool false, .slice none 0 0, .slice none 0 0] 68)).alloc (.cells #[.int .i64 0, .slice none 0 0, .slice none 0 0, .int .i64 0, .slice none 0 0, .slice none 0 0] 85)).alloc (.cells #[.int .i64 0, .slice none 0 0, .slice none 0 0, .int .i64 0, .slice none 0 0, .slice none 0 0] 85)).heap[w.heap.size + 1 + 1]? = some (.cells #[.bool false, .slice none 0 0, .slice none 0 0, .bool false, .slice none 0 0, .slice none 0 0] 68 (0, 0)) ∧
    (((((w.alloc (.cells #[x0, x1, x2, x3] 83)).alloc (.cells #[.bool false, .slice none 0 0, .slice none 0 0, .bool false, .slice none 0 0, .slice none 0 0] 68)).alloc (.cells #[.bool false, .slice none 0 0, .slice none 0 0, .bool false, .slice none 0 0, .slice none 0 0] 68)).alloc (.cells #[.int .i64 0, .slice none 0 0, .slice none 0 0, .int .i64 0, .slice none 0 0, .slice none 0 0] 85)).alloc (.cells #[.int .i64 0, .slice none 0 0, .slice none 0 0, .int .i64 0, .slice none 0 0, .slice none 0 0] 85)).heap[w.heap.size + 1 + 1 + 1]? = some (.cells #[.int .i64 0, .slice none 0 0, .slice none 0 0, .int .i64 0, .slice none 0 0, .slice none 0 0] 85 (0, 0)) ∧ (((((w.alloc (.cells #[x0, x1, x2, x3] 83)).alloc (.cells #[.bool false, .slice none 0 0, .slice none 0 0, .bool false, .slice none 0 0, .slice none 0 0] 68)).alloc (.cells #[.bool false, .slice none 0 0, .slice none 0 0, .bool false, .slice none 0 0, .slice none 0 0] 68)).alloc (.cells #[.int .i64 0, .slice none 0 0, .slice none 0 0, .int .i64 0, .slice none 0 0, .slice none 0 0] 85)).alloc (.cells #[.int .i64 0, .slice none 0 0, .slice none 0 0, .int .i64 0, .slice none 0 0, .slice none 0 0] 85)).heap[w.heap.size + 1 + 1 + 1 + 1]? = some (.cells #[.int .i64 0, .slice none 0 0, .slice none 0 0, .int .i64 0, .slice none 0 0, .slice none 0 0] 85 (0, 0)) ∧ Ext w (((((w.alloc (.cells #[x0, x1, x2, x3] 83)).alloc (.cells #[.bool false, .slice none 0 0, .slice none 0 0, .bool false, .slice none 0 0, .slice none 0 0] 68)).alloc (.cells #[.bool false, .slice none 0 0, .slice none 0 0, .bool false, .slice none 0 0, .slice none 0 0] 68)).alloc (.cells #[.int .i64 0, .slice none 0 0, .slice none 0 0, .int .i64 0, .slice none 0 0, .slice none 0 0] 85)).alloc (.cells #[.int .i64 0, .slice none 0 0, .slice none 0 0, .int .i64 0, .slice none 0 0, .slice none 0 0] 85)) ∧ w.heap.size + 1 + 1 + 1 + 1 < (((((w.alloc (.cells #[x0, x1, x2, x3] 83)).alloc (.cells #[.bool false, .slice none 0 0, .slice none 0 0, .bool false, .slice none 0 0, .slice none 0 0] 68)).alloc (.cells #[.bool false, .slice none 0 0, .slice none 0 0, .bool false, .slice none 0 0, .slice none 0 0] 68)).alloc (.cells #[.int .i64 0, .slice none 0 0, .slice none 0 0, .int .i64 0, .slice none 0 0, .slice none 0 0] 85)).alloc (.cells #[.int .i64 0, .slice none 0 0, .slice none 0 0, .int .i64 0, .slice none 0 0, .slice none 0 0] 85)).heap.size := by
  have z0 := heap_size_alloc' w (.cells #[x0, x1, x2, x3] 83)
  have e0 := ext_alloc w (.cells #[x0, x1, x2, x3] 83)
  have r0 : ∀ W, Ext (w.alloc (.cells #[x0, x1, x2, x3] 83)) W → W.heap[w.heap.size]? = some (.cells #[x0, x1, x2, x3] 83 (0, 0)) := fun W h => rowF h
  generalize w.alloc (.cells #[x0, x1, x2, x3] 83) = w0 at *
  have z1 := heap_size_alloc' w0 (.cells #[.bool false, .slice none 0 0, .slice none 0 0, .bool false, .slice none 0 0, .slice none 0 0] 68)
  have e1 := ext_alloc w0 (.cells #[.bool false, .slice none 0 0, .slice none 0 0, .bool false, .slice none 0 0, .slice none 0 0] 68)
  have r1 : ∀ W, Ext (w0.alloc (.cells #[.bool false, .slice none 0 0, .slice none 0 0, .bool false, .slice none 0 0, .slice none 0 0] 68)) W → W.heap[w0.heap.size]? = some (.cells #[.bool false, .slice none 0 0, .slice none 0 0, .bool false, .slice none 0 0, .slice none 0 0] 68 (0, 0)) := fun W h => row6 h
  generalize w0.alloc (.cells #[.bool false, .slice none 0 0, .slice none 0 0, .bool false, .slice none 0 0, .slice none 0 0] 68) = w1 at *
  have z2 := heap_size_alloc' w1 (.cells #[.bool false, .slice none 0 0, .slice none 0 0, .bool false, .slice none 0 0, .slice none 0 0] 68)
  have e2 := ext_alloc w1 (.cells #[.bool false, .slice none 0 0, .slice none 0 0, .bool false, .slice none 0 0, .slice none 0 0] 68)
  have r2 : ∀ W, Ext (w1.alloc (.cells #[.bool false, .slice none 0 0, .slice none 0 0, .bool false, .slice none 0 0, .slice none 0 0] 68)) W → W.heap[w1.heap.size]? = some (.cells #[.bool false, .slice none 0 0, .slice none 0 0, .bool false, .slice none 0 0, .slice none 0 0] 68 (0, 0)) := fun W h => row6 h
  generalize w1.alloc (.cells #[.bool false, .slice none 0 0, .slice none 0 0, .bool false, .slice none 0 0, .slice none 0 0] 68) = w2 at *
  have z3 := heap_size_alloc' w2 (.cells #[.int .i64 0, .slice none 0 0, .slice none 0 0, .int .i64 0, .slice none 0 0, .slice none 0 0] 85)
  have e3 := ext_alloc w2 (.cells #[.int .i64 0, .slice none 0 0, .slice none 0 0, .int .i64 0, .slice none 0 0, .slice none 0 0] 85)
  have r3 : ∀ W, Ext (w2.alloc (.cells #[.int .i64 0, .slice none 0 0, .slice none 0 0, .int .i64 0, .slice none 0 0, .slice none 0 0] 85)) W → W.heap[w2.heap.size]? = some (.cells #[.int .i64 0, .slice none 0 0, .slice none 0 0, .int .i64 0, .slice none 0 0, .slice none 0 0] 85 (0, 0)) := fun W h => rowR6 h
  generalize w2.alloc (.cells #[.int .i64 0, .slice none 0 0, .slice none 0 0, .int .i64 0, .slice none 0 0, .slice none 0 0] 85) = w3 at *
  have z4 := heap_size_alloc' w3 (.cells #[.int .i64 0, .slice none 0 0, .slice none 0 0, .int .i64 0, .slice none 0 0, .slice none 0 0] 85)
  have e4 := ext_alloc w3 (.cells #[.int .i64 0, .slice none 0 0, .slice none 0 0, .int .i64 0, .slice none 0 0, .slice none 0 0] 85)
  have r4 : ∀ W, Ext (w3.alloc (.cells #[.int .i64 0, .slice none 0 0, .slice none 0 0, .int .i64 0, .slice none 0 0, .slice none 0 0] 85)) W → W.heap[w3.heap.size]? = some (.cells #[.int .i64 0, .slice none 0 0, .slice none 0 0, .int .i64 0, .slice none 0 0, .slice none 0 0] 85 (0, 0)) := fun W h => rowR6 h
  generalize w3.alloc (.cells #[.int .i64 0, .slice none 0 0, .slice none 0 0, .int .i64 0, .slice none 0 0, .slice none 0 0] 85) = w4 at *
  rw [z0] at z1 r1
  rw [z1] at z2 r2
  rw [z2] at z3 r3
  rw [z3] at z4 r4
  exact ⟨r0 _ (ext_trans e1 (ext_trans e2 (ext_trans e3 e4))), r1 _ (ext_trans e2 (ext_trans e3 e4)), r2 _ (ext_trans e3 e4), r3 _ e4, r4 _ (ext_refl _), ext_trans e0 (ext_trans e1 (ext_trans e2 (ext_trans e3 e4))), by omega⟩
theorem puts4 {w W : World} {g : Nat} (r1 : W.heap[g + 1]? = some (.cells #[.bool false, .slice none 0 0, .slice none 0 0, .bool false, .slice none 0 0, .slice none 0 0] 68 (0, 0))) (r2 : W.heap[g + 1 + 1]? = some (.cells #[.bool false, .slice none 0 0, .slice none 0 0, .bool false, .slice none 0 0, .slice none 0 0] 68 (0, 0))) (r3 : W.heap[g + 1 + 1 + 1]? = some (.cells #[.int .i64 0, .slice none 0 0, .slice none 0 0, .int .i64 0, .slice none 0 0, .slice none 0 0] 85 (0, 0))) (r4 : W.heap[g + 1 + 1 + 1 + 1]? = some (.cells #[.int .i64 0, .slice none 0 0, .slice none 0 0, .int .i64 0, .slice none 0 0, .slice none 0 0] 85 (0, 0))) (he : Ext w W)
    (l1 : w.heap.size ≤ g + 1) (l2 : w.heap.size ≤ g + 1 + 1) (l3 : w.heap.size ≤ g + 1 + 1 + 1) (l4 : w.heap.size ≤ g + 1 + 1 + 1 + 1) (x1 x2 x3 x4 x5 x6 y1 y2 y3 y4 y5 y6 z1 z2 z3 z4 z5 z6 u1 u2 u3 u4 u5 u6 : Value) :
    (∀ v q, Nm W v q → Nm (put6 (put6 (put6 (put6 W (g + 1) x1 x2 x3 x4 x5 x6) (g + 1 + 1) y1 y2 y3 y4 y5 y6) (g + 1 + 1 + 1) z1 z2 z3 z4 z5 z6) (g + 1 + 1 + 1 + 1) u1 u2 u3 u4 u5 u6) v q) ∧ (∀ v q, Nr W v q → Nr (put6 (put6 (put6 (put6 W (g + 1) x1 x2 x3 x4 x5 x6) (g + 1 + 1) y1 y2 y3 y4 y5 y6) (g + 1 + 1 + 1) z1 z2 z3 z4 z5 z6) (g + 1 + 1 + 1 + 1) u1 u2 u3 u4 u5 u6) v q) ∧ (put6 (put6 (put6 (put6 W (g + 1) x1 x2 x3 x4 x5 x6) (g + 1 + 1) y1 y2 y3 y4 y5 y6) (g + 1 + 1 + 1) z1 z2 z3 z4 z5 z6) (g + 1 + 1 + 1 + 1) u1 u2 u3 u4 u5 u6).heap[g + 1]? = some (.cells #[x1, x2, x3, x4, x5, x6] 68 (0, 0)) ∧ (put6 (put6 (put6 (put6 W (g + 1) x1 x2 x3 x4 x5 x6) (g + 1 + 1) y1 y2 y3 y4 y5 y6) (g + 1 + 1 + 1) z1 z2 z3 z4 z5 z6) (g + 1 + 1 + 1 + 1) u1 u2 u3 u4 u5 u6).heap[g + 1 + 1]? = some (.cells #[y1, y2, y3, y4, y5, y6] 68 (0, 0)) ∧ (put6 (put6 (put6 (put6 W (g + 1) x1 x2 x3 x4 x5 x6) (g + 1 + 1) y1 y2 y3 y4 y5 y6) (g + 1 + 1 + 1) z1 z2 z3 z4 z5 z6) (g + 1 + 1 + 1 + 1) u1 u2 u3 u4 u5 u6).heap[g + 1 + 1 + 1]? = some (.cells #[z1, z2, z3, z4, z5, z6] 85 (0, 0)) ∧ (put6 (put6 (put6 (put6 W (g + 1) x1 x2 x3 x4 x5 x6) (g + 1 + 1) y1 y2 y3 y4 y5 y6) (g + 1 + 1 + 1) z1 z2 z3 z4 z5 z6) (g + 1 + 1 + 1 + 1) u1 u2 u3 u4 u5 u6).heap[g + 1 + 1 + 1 + 1]? = some (.cells #[u1, u2, u3, u4, u5, u6] 85 (0, 0)) ∧ Ext w (put6 (put6 (put6 (put6 W (g + 1) x1 x2 x3 x4 x5 x6) (g + 1 + 1) y1 y2 y3 y4 y5 y6) (g + 1 + 1 + 1) z1 z2 z3 z4 z5 z6) (g + 1 + 1 + 1 + 1) u1 u2 u3 u4 u5 u6) := by
  have m1 : g + 1 + 1 ≠ g + 1 := by omega
  have m2 : g + 1 + 1 + 1 ≠ g + 1 := by omega
  have m3 : g + 1 + 1 + 1 + 1 ≠ g + 1 := by omega
  have m4 : g + 1 + 1 + 1 ≠ g + 1 + 1 := by omega
  have m5 : g + 1 + 1 + 1 + 1 ≠ g + 1 + 1 := by omega
  have m6 : g + 1 + 1 + 1 + 1 ≠ g + 1 + 1 + 1 := by omega
  have k1 := put6_keep W (g + 1) x1 x2 x3 x4 x5 x6
  have a1 := put6_row r1 x1 x2 x3 x4 x5 x6
  have a2 := put6_other r2 m1 x1 x2 x3 x4 x5 x6
  have a3 := put6_other r3 m2 x1 x2 x3 x4 x5 x6
  have a4 := put6_other r4 m3 x1 x2 x3 x4 x5 x6
  have ae := put6_ext he l1 x1 x2 x3 x4 x5 x6
  have d1 := nodigV r1
  generalize put6 W (g + 1) x1 x2 x3 x4 x5 x6 = W1 at *
  have k2 := put6_keep W1 (g + 1 + 1) y1 y2 y3 y4 y5 y6
  have b1 := put6_other a1 m1.symm y1 y2 y3 y4 y5 y6
  have b2 := put6_row a2 y1 y2 y3 y4 y5 y6
  have b3 := put6_other a3 m4 y1 y2 y3 y4 y5 y6
  have b4 := put6_other a4 m5 y1 y2 y3 y4 y5 y6
  have be := put6_ext ae l2 y1 y2 y3 y4 y5 y6
  have d2 := nodigV a2
  generalize put6 W1 (g + 1 + 1) y1 y2 y3 y4 y5 y6 = W2 at *
  have k3 := put6_keep W2 (g + 1 + 1 + 1) z1 z2 z3 z4 z5 z6
  have c1 := put6_other b1 m2.symm z1 z2 z3 z4 z5 z6
  have c2 := put6_other b2 m4.symm z1 z2 z3 z4 z5 z6
  have c3 := put6_row b3 z1 z2 z3 z4 z5 z6
  have c4 := put6_other b4 m6 z1 z2 z3 z4 z5 z6
  have ce := put6_ext be l3 z1 z2 z3 z4 z5 z6
  have d3 := nodigR b3
  generalize put6 W2 (g + 1 + 1 + 1) z1 z2 z3 z4 z5 z6 = W3 at *
  have k4 := put6_keep W3 (g + 1 + 1 + 1 + 1) u1 u2 u3 u4 u5 u6
  have e1 := put6_other c1 m3.symm u1 u2 u3 u4 u5 u6
  have e2 := put6_other c2 m5.symm u1 u2 u3 u4 u5 u6
  have e3 := put6_other c3 m6.symm u1 u2 u3 u4 u5 u6
  have e4 := put6_row c4 u1 u2 u3 u4 u5 u6
  have ee := put6_ext ce l4 u1 u2 u3 u4 u5 u6
  have d4 := nodigR c4
  exact ⟨fun v q h => (((h.keep d1 k1).keep d2 k2).keep d3 k3).keep d4 k4, fun v q h => (((h.keep d1 k1).keep d2 k2).keep d3 k3).keep d4 k4, e1, e2, e3, e4, ee⟩
theorem stores_held {P : Program} {md : Region.Mode} {ops : Array Oper} {Q : Exit → Act → World → Prop} {S : World → Prop} {a : Act} {m : Nat}
    (L : List Nat → Array Bool) (I : List Nat → World → Prop) (subs : List (List Nat))
    (hr : ∀ i tl, (i :: tl) ∈ subs → Region.ready md ops (L (i :: tl)) = [i]) (hs1 : ∀ i tl, (i :: tl) ∈ subs → (L (i :: tl)).setIfInBounds i true = L tl ∧ tl ∈ subs)
    (hI : ∀ rs W, I rs W → S W) (hQ : ∀ W, I [] W → wpAnyH P md ops Q S m (L []) a W)
    (hstep : ∀ i tl, (i :: tl) ∈ subs → ∃ o, ops[i]? = some o ∧ ∀ W (K : Act → World → Prop), I (i :: tl) W → (∀ W', I tl W' → K a W') → if Region.wanted o (yielded ops a.tmps) = true then Oper.wp P o a W K Q else K (a.put o.dst undef) W) :
    ∀ (rs : List Nat), rs ∈ subs → ∀ W, I rs W → wpAnyH P md ops Q S (m + rs.length) (L rs) a W := by
  intro rs
  induction rs with
  | nil => exact fun _ W hW => hQ W hW
  | cons i tl ih =>
    intro hs W hW
    refine wpAnyH_ready (fuel := m + tl.length) (hr i tl hs) (by simp) ?_
    obtain ⟨o, ho, h⟩ := hstep i tl hs
    have h1 := hs1 i tl hs
    exact AllReadyH.cons ho (fun K hK => h W K hW (fun W' hW' => hK.out a W' (hI _ _ hW') (fun _ => by
      rw [h1.1]
      exact ih h1.2 W' hW'))) AllReadyH.nil
theorem wpAnyH_listed {P : Program} {md : Region.Mode} {ops : Array Oper} {Q : Exit → Act → World → Prop} {S : World → Prop} {fuel : Nat} {listed L : Array Bool} {a : Act} {w : World} (h : listed = L) (hw : wpAnyH P md ops Q S fuel L a w) : wpAnyH P md ops Q S fuel listed a w := h ▸ hw
/-- which of the four stores are still to come -/
def subs4 : List (List Nat) := [[22, 23, 24, 25], [23, 24, 25], [24, 25], [25], []]
def listed4 (rs : List Nat) : Array Bool := ((List.range 27).map fun i => !(rs.contains i) && i != 26).toArray
theorem subs4_nodup : ∀ rs ∈ subs4, rs.Nodup := by decide
theorem subs4_in {i : Nat} {tl : List Nat} (h : (i :: tl) ∈ subs4) : (i = 22 ∧ tl = [23, 24, 25]) ∨ (i = 23 ∧ tl = [24, 25]) ∨ (i = 24 ∧ tl = [25]) ∨ (i = 25 ∧ tl = []) := by
  simpa [subs4] using h
theorem subs4_set (i : Nat) (tl : List Nat) (h : (i :: tl) ∈ subs4) : (listed4 (i :: tl)).setIfInBounds i true = listed4 tl ∧ tl ∈ subs4 := by
  rcases subs4_in h with ⟨rfl, rfl⟩ | ⟨rfl, rfl⟩ | ⟨rfl, rfl⟩ | ⟨rfl, rfl⟩ <;> decide
def IS4 (B Z1 Z2 Z3 Z4 F1 F2 F3 F4 : World → Prop) (rs : List Nat) (W : World) : Prop :=
  B W ∧ (22 ∈ rs → Z1 W) ∧ (22 ∉ rs → F1 W) ∧ (23 ∈ rs → Z2 W) ∧ (23 ∉ rs → F2 W) ∧ (24 ∈ rs → Z3 W) ∧ (24 ∉ rs → F3 W) ∧ (25 ∈ rs → Z4 W) ∧ (25 ∉ rs → F4 W)
theorem IS4.s1 {B Z1 Z2 Z3 Z4 F1 F2 F3 F4 : World → Prop} {rs : List Nat} {W W' : World} (h : IS4 B Z1 Z2 Z3 Z4 F1 F2 F3 F4 rs W) (hr : rs ∈ subs4) (hB : B W') (hF : F1 W')
    (z2 : Z2 W → Z2 W') (f2 : F2 W → F2 W') (z3 : Z3 W → Z3 W') (f3 : F3 W → F3 W') (z4 : Z4 W → Z4 W') (f4 : F4 W → F4 W') : IS4 B Z1 Z2 Z3 Z4 F1 F2 F3 F4 (rs.erase 22) W' := by
  have hn := subs4_nodup rs hr
  obtain ⟨-, a1, b1, a2, b2, a3, b3, a4, b4⟩ := h
  refine ⟨hB, fun hm => absurd hm (List.Nodup.not_mem_erase hn), fun _ => hF, fun hm => z2 (a2 (List.mem_of_mem_erase hm)), fun hm => f2 (b2 (fun hm2 => hm ((List.mem_erase_of_ne (by decide)).2 hm2))), fun hm => z3 (a3 (List.mem_of_mem_erase hm)), fun hm => f3 (b3 (fun hm2 => hm ((List.mem_erase_of_ne (by decide)).2 hm2))), fun hm => z4 (a4 (List.mem_of_mem_erase hm)), fun hm => f4 (b4 (fun hm2 => hm ((List.mem_erase_of_ne (by decide)).2 hm2)))⟩
theorem IS4.s2 {B Z1 Z2 Z3 Z4 F1 F2 F3 F4 : World → Prop} {rs : List Nat} {W W' : World} (h : IS4 B Z1 Z2 Z3 Z4 F1 F2 F3 F4 rs W) (hr : rs ∈ subs4) (hB : B W') (hF : F2 W')
    (z1 : Z1 W → Z1 W') (f1 : F1 W → F1 W') (z3 : Z3 W → Z3 W') (f3 : F3 W → F3 W') (z4 : Z4 W → Z4 W') (f4 : F4 W → F4 W') : IS4 B Z1 Z2 Z3 Z4 F1 F2 F3 F4 (rs.erase 23) W' := by
  have hn := subs4_nodup rs hr
  obtain ⟨-, a1, b1, a2, b2, a3, b3, a4, b4⟩ := h
  refine ⟨hB, fun hm => z1 (a1 (List.mem_of_mem_erase hm)), fun hm => f1 (b1 (fun hm2 => hm ((List.mem_erase_of_ne (by decide)).2 hm2))), fun hm => absurd hm (List.Nodup.not_mem_erase hn), fun _ => hF, fun hm => z3 (a3 (List.mem_of_mem_erase hm)), fun hm => f3 (b3 (fun hm2 => hm ((List.mem_erase_of_ne (by decide)).2 hm2))), fun hm => z4 (a4 (List.mem_of_mem_erase hm)), fun hm => f4 (b4 (fun hm2 => hm ((List.mem_erase_of_ne (by decide)).2 hm2)))⟩
theorem IS4.s3 {B Z1 Z2 Z3 Z4 F1 F2 F3 F4 : World → Prop} {rs : List Nat} {W W' : World} (h : IS4 B Z1 Z2 Z3 Z4 F1 F2 F3 F4 rs W) (hr : rs ∈ subs4) (hB : B W') (hF : F3 W')
    (z1 : Z1 W → Z1 W') (f1 : F1 W → F1 W') (z2 : Z2 W → Z2 W') (f2 : F2 W → F2 W') (z4 : Z4 W → Z4 W') (f4 : F4 W → F4 W') : IS4 B Z1 Z2 Z3 Z4 F1 F2 F3 F4 (rs.erase 24) W' := by
  have hn := subs4_nodup rs hr
  obtain ⟨-, a1, b1, a2, b2, a3, b3, a4, b4⟩ := h
  refine ⟨hB, fun hm => z1 (a1 (List.mem_of_mem_erase hm)), fun hm => f1 (b1 (fun hm2 => hm ((List.mem_erase_of_ne (by decide)).2 hm2))), fun hm => z2 (a2 (List.mem_of_mem_erase hm)), fun hm => f2 (b2 (fun hm2 => hm ((List.mem_erase_of_ne (by decide)).2 hm2))), fun hm => absurd hm (List.Nodup.not_mem_erase hn), fun _ => hF, fun hm => z4 (a4 (List.mem_of_mem_erase hm)), fun hm => f4 (b4 (fun hm2 => hm ((List.mem_erase_of_ne (by decide)).2 hm2)))⟩
theorem IS4.s4 {B Z1 Z2 Z3 Z4 F1 F2 F3 F4 : World → Prop} {rs : List Nat} {W W' : World} (h : IS4 B Z1 Z2 Z3 Z4 F1 F2 F3 F4 rs W) (hr : rs ∈ subs4) (hB : B W') (hF : F4 W')
    (z1 : Z1 W → Z1 W') (f1 : F1 W → F1 W') (z2 : Z2 W → Z2 W') (f2 : F2 W → F2 W') (z3 : Z3 W → Z3 W') (f3 : F3 W → F3 W') : IS4 B Z1 Z2 Z3 Z4 F1 F2 F3 F4 (rs.erase 25) W' := by
  have hn := subs4_nodup rs hr
  obtain ⟨-, a1, b1, a2, b2, a3, b3, a4, b4⟩ := h
  refine ⟨hB, fun hm => z1 (a1 (List.mem_of_mem_erase hm)), fun hm => f1 (b1 (fun hm2 => hm ((List.mem_erase_of_ne (by decide)).2 hm2))), fun hm => z2 (a2 (List.mem_of_mem_erase hm)), fun hm => f2 (b2 (fun hm2 => hm ((List.mem_erase_of_ne (by decide)).2 hm2))), fun hm => z3 (a3 (List.mem_of_mem_erase hm)), fun hm => f3 (b3 (fun hm2 => hm ((List.mem_erase_of_ne (by decide)).2 hm2))), fun hm => absurd hm (List.Nodup.not_mem_erase hn), fun _ => hF⟩
theorem cell_keep {W W' : World} {g b j : Nat} {x : Value} (hk : ∀ k, k ≠ g → W'.heap[k]? = W.heap[k]?) (hne : b ≠ g) (h : W.cell? ⟨b, j, none⟩ = some x) : W'.cell? ⟨b, j, none⟩ = some x := by
  rw [World.cell?_of_block (hk _ hne)]; exact h
theorem base_keep {w W W' : World} {g a1 a2 a3 a4 : Nat} {qa qb qc qd : Rat} {b1 : Bool} {A1 B1 : Option Addr} {k1 ca1 l1 cb1 : Nat} {b3 : Bool} {A3 B3 : Option Addr} {k3 ca3 l3 cb3 : Nat} {b5 : Bool} {A5 B5 : Option Addr} {k5 ca5 l5 cb5 : Nat} {b7 : Bool} {A7 B7 : Option Addr} {k7 ca7 l7 cb7 : Nat} {s2 : Int} {C2 D2 : Option Addr} {m2 cc2 n2 cd2 : Nat} {s4 : Int} {C4 D4 : Option Addr} {m4 cc4 n4 cd4 : Nat} {s6 : Int} {C6 D6 : Option Addr} {m6 cc6 n6 cd6 : Nat} {s8 : Int} {C8 D8 : Option Addr} {m8 cc8 n8 cd8 : Nat}
    (h : W.cell? ⟨a1, 0, none⟩ = some (.bool b1) ∧ W.cell? ⟨a1, 1, none⟩ = some (.slice A1 k1 ca1) ∧ W.cell? ⟨a1, 2, none⟩ = some (.slice B1 l1 cb1) ∧ W.cell? ⟨a1 + 1, 0, none⟩ = some (.int .i64 s2) ∧ W.cell? ⟨a1 + 1, 1, none⟩ = some (.slice C2 m2 cc2) ∧ W.cell? ⟨a1 + 1, 2, none⟩ = some (.slice D2 n2 cd2) ∧ W.cell? ⟨a2, 0, none⟩ = some (.bool b3) ∧ W.cell? ⟨a2, 1, none⟩ = some (.slice A3 k3 ca3) ∧ W.cell? ⟨a2, 2, none⟩ = some (.slice B3 l3 cb3) ∧ W.cell? ⟨a2 + 1, 0, none⟩ = some (.int .i64 s4) ∧ W.cell? ⟨a2 + 1, 1, none⟩ = some (.slice C4 m4 cc4) ∧ W.cell? ⟨a2 + 1, 2, none⟩ = some (.slice D4 n4 cd4) ∧ W.cell? ⟨a3, 0, none⟩ = some (.bool b5) ∧ W.cell? ⟨a3, 1, none⟩ = some (.slice A5 k5 ca5) ∧ W.cell? ⟨a3, 2, none⟩ = some (.slice B5 l5 cb5) ∧ W.cell? ⟨a3 + 1, 0, none⟩ = some (.int .i64 s6) ∧ W.cell? ⟨a3 + 1, 1, none⟩ = some (.slice C6 m6 cc6) ∧ W.cell? ⟨a3 + 1, 2, none⟩ = some (.slice D6 n6 cd6) ∧ W.cell? ⟨a4, 0, none⟩ = some (.bool b7) ∧ W.cell? ⟨a4, 1, none⟩ = some (.slice A7 k7 ca7) ∧ W.cell? ⟨a4, 2, none⟩ = some (.slice B7 l7 cb7) ∧ W.cell? ⟨a4 + 1, 0, none⟩ = some (.int .i64 s8) ∧ W.cell? ⟨a4 + 1, 1, none⟩ = some (.slice C8 m8 cc8) ∧ W.cell? ⟨a4 + 1, 2, none⟩ = some (.slice D8 n8 cd8) ∧ Ext w W ∧ Nm W (.agg #[.bool b1, .slice A1 k1 ca1, .slice B1 l1 cb1]) qa ∧ Nm W (.agg #[.bool b3, .slice A3 k3 ca3, .slice B3 l3 cb3]) qb ∧ Nm W (.agg #[.bool b5, .slice A5 k5 ca5, .slice B5 l5 cb5]) qc ∧ Nm W (.agg #[.bool b7, .slice A7 k7 ca7, .slice B7 l7 cb7]) qd ∧ Nr W (.agg #[.int .i64 s2, .slice C2 m2 cc2, .slice D2 n2 cd2]) qa ∧ Nr W (.agg #[.int .i64 s4, .slice C4 m4 cc4, .slice D4 n4 cd4]) qb ∧ Nr W (.agg #[.int .i64 s6, .slice C6 m6 cc6, .slice D6 n6 cd6]) qc ∧ Nr W (.agg #[.int .i64 s8, .slice C8 m8 cc8, .slice D8 n8 cd8]) qd)
    (hk : ∀ k, k ≠ g → W'.heap[k]? = W.heap[k]?) (hg : NoDig W g) (he : Ext w W') (e1 : a1 ≠ g) (e2 : a1 + 1 ≠ g) (e3 : a2 ≠ g) (e4 : a2 + 1 ≠ g) (e5 : a3 ≠ g) (e6 : a3 + 1 ≠ g) (e7 : a4 ≠ g) (e8 : a4 + 1 ≠ g) :
    W'.cell? ⟨a1, 0, none⟩ = some (.bool b1) ∧ W'.cell? ⟨a1, 1, none⟩ = some (.slice A1 k1 ca1) ∧ W'.cell? ⟨a1, 2, none⟩ = some (.slice B1 l1 cb1) ∧ W'.cell? ⟨a1 + 1, 0, none⟩ = some (.int .i64 s2) ∧ W'.cell? ⟨a1 + 1, 1, none⟩ = some (.slice C2 m2 cc2) ∧ W'.cell? ⟨a1 + 1, 2, none⟩ = some (.slice D2 n2 cd2) ∧ W'.cell? ⟨a2, 0, none⟩ = some (.bool b3) ∧ W'.cell? ⟨a2, 1, none⟩ = some (.slice A3 k3 ca3) ∧ W'.cell? ⟨a2, 2, none⟩ = some (.slice B3 l3 cb3) ∧ W'.cell? ⟨a2 + 1, 0, none⟩ = some (.int .i64 s4) ∧ W'.cell? ⟨a2 + 1, 1, none⟩ = some (.slice C4 m4 cc4) ∧ W'.cell? ⟨a2 + 1, 2, none⟩ = some (.slice D4 n4 cd4) ∧ W'.cell? ⟨a3, 0, none⟩ = some (.bool b5) ∧ W'.cell? ⟨a3, 1, none⟩ = some (.slice A5 k5 ca5) ∧ W'.cell? ⟨a3, 2, none⟩ = some (.slice B5 l5 cb5) ∧ W'.cell? ⟨a3 + 1, 0, none⟩ = some (.int .i64 s6) ∧ W'.cell? ⟨a3 + 1, 1, none⟩ = some (.slice C6 m6 cc6) ∧ W'.cell? ⟨a3 + 1, 2, none⟩ = some (.slice D6 n6 cd6) ∧ W'.cell? ⟨a4, 0, none⟩ = some (.bool b7) ∧ W'.cell? ⟨a4, 1, none⟩ = some (.slice A7 k7 ca7) ∧ W'.cell? ⟨a4, 2, none⟩ = some (.slice B7 l7 cb7) ∧ W'.cell? ⟨a4 + 1, 0, none⟩ = some (.int .i64 s8) ∧ W'.cell? ⟨a4 + 1, 1, none⟩ = some (.slice C8 m8 cc8) ∧ W'.cell? ⟨a4 + 1, 2, none⟩ = some (.slice D8 n8 cd8) ∧ Ext w W' ∧ Nm W' (.agg #[.bool b1, .slice A1 k1 ca1, .slice B1 l1 cb1]) qa ∧ Nm W' (.agg #[.bool b3, .slice A3 k3 ca3, .slice B3 l3 cb3]) qb ∧ Nm W' (.agg #[.bool b5, .slice A5 k5 ca5, .slice B5 l5 cb5]) qc ∧ Nm W' (.agg #[.bool b7, .slice A7 k7 ca7, .slice B7 l7 cb7]) qd ∧ Nr W' (.agg #[.int .i64 s2, .slice C2 m2 cc2, .slice D2 n2 cd2]) qa ∧ Nr W' (.agg #[.int .i64 s4, .slice C4 m4 cc4, .slice D4 n4 cd4]) qb ∧ Nr W' (.agg #[.int .i64 s6, .slice C6 m6 cc6, .slice D6 n6 cd6]) qc ∧ Nr W' (.agg #[.int .i64 s8, .slice C8 m8 cc8, .slice D8 n8 cd8]) qd := by
  obtain ⟨c0, c1, c2, c3, c4, c5, c6, c7, c8, c9, c10, c11, c12, c13, c14, c15, c16, c17, c18, c19, c20, c21, c22, c23, -, v1, v2, v3, v4, r1, r2, r3, r4⟩ := h
  exact ⟨cell_keep hk e1 c0, cell_keep hk e1 c1, cell_keep hk e1 c2, cell_keep hk e2 c3, cell_keep hk e2 c4, cell_keep hk e2 c5, cell_keep hk e3 c6, cell_keep hk e3 c7, cell_keep hk e3 c8, cell_keep hk e4 c9, cell_keep hk e4 c10, cell_keep hk e4 c11, cell_keep hk e5 c12, cell_keep hk e5 c13, cell_keep hk e5 c14, cell_keep hk e6 c15, cell_keep hk e6 c16, cell_keep hk e6 c17, cell_keep hk e7 c18, cell_keep hk e7 c19, cell_keep hk e7 c20, cell_keep hk e8 c21, cell_keep hk e8 c22, cell_keep hk e8 c23, he, v1.keep hg hk, v2.keep hg hk, v3.keep hg hk, v4.keep hg hk, r1.keep hg hk, r2.keep hg hk, r3.keep hg hk, r4.keep hg hk⟩
/-- what spans says of four texts -/
def SpansR (a b c d : List UInt8) (r : Bool) (w w' : World) (e : Ending) : Prop := ∃ v1 v2 v3 v4, e = .returned (.tuple #[v1, v2, v3, v4, .bool r]) ∧ Sp w' v1 (parseS a).2 (parseS b).2 ∧ Sp w' v2 (parseS c).2 (parseS d).2 ∧ SpR w' v3 (parseS a).2 (parseS b).2 ∧ SpR w' v4 (parseS c).2 (parseS d).2 ∧ Ext w w'
theorem cells_drew {W : World} {a : Addr} {x : Value} (h : W.cell? a = some x) : W.drew.cell? a = some x := h
set_option maxRecDepth 100000 in
set_option maxHeartbeats 16000000 in
theorem spans_r (a b c d : List UInt8) (ha : a.length ≤ 9223372036854775807) (hb : b.length ≤ 9223372036854775807) (hc : c.length ≤ 9223372036854775807) (hd : d.length ≤ 9223372036854775807)
    (k1 k2 k3 k4 : Int) (hk1 : (parseS a).1 = k1) (hk2 : (parseS b).1 = k2) (hk3 : (parseS c).1 = k3) (hk4 : (parseS d).1 = k4) (r1 r2 r3 r4 : Bool) (hr1 : (k1 == 0) = r1) (hr2 : (k2 == 0) = r2) (hr3 : (k3 == 0) = r3) (hr4 : (k4 == 0) = r4) (w : World) :
    Calls Tryz.prog 69 #[.agg #[.string ⟨a.toArray⟩, .string ⟨b.toArray⟩, .string ⟨c.toArray⟩, .string ⟨d.toArray⟩]] w fun e w' => SpansR a b c d (r1 && r2 && r3 && r4) w w' e := by
  have P1 := Lib.hid (pair_c a ha k1 hk1)
  have P2 := Lib.hid (pair_c b hb k2 hk2)
  have P3 := Lib.hid (pair_c c hc k3 hk3)
  have P4 := Lib.hid (pair_c d hd k4 hk4)
  unfold PairR at P1 P2 P3 P4
  unfold SpansR
  rw [hr1] at P1
  rw [hr2] at P2
  rw [hr3] at P3
  rw [hr4] at P4
  generalize (parseS a).2 = qa at *
  generalize (parseS b).2 = qb at *
  generalize (parseS c).2 = qc at *
  generalize (parseS d).2 = qd at *
  obtain ⟨z0, z1, z2, z3, z4, ze, zs⟩ := setupF w (.string ⟨a.toArray⟩) (.string ⟨b.toArray⟩) (.string ⟨c.toArray⟩) (.string ⟨d.toArray⟩)
  have Z0 := Lib.hid z0
  have Z1 := Lib.hid z1
  have Z2 := Lib.hid z2
  have Z3 := Lib.hid z3
  have Z4 := Lib.hid z4
  have ZE := Lib.hid ze
  have ZL := Lib.hid zs
  clear ha hb hc hd hk1 hk2 hk3 hk4 hr1 hr2 hr3 hr4 z0 z1 z2 z3 z4 ze zs k1 k2 k3 k4
  go_enter Tryz.func69, Tryz.ntmps69
  go_wp2_with fail
  generalize (((((w.alloc (.cells #[.string ⟨a.toArray⟩, .string ⟨b.toArray⟩, .string ⟨c.toArray⟩, .string ⟨d.toArray⟩] _)).alloc (.cells #[.bool false, .slice none 0 0, .slice none 0 0, .bool false, .slice none 0 0, .slice none 0 0] _)).alloc (.cells #[.bool false, .slice none 0 0, .slice none 0 0, .bool false, .slice none 0 0, .slice none 0 0] _)).alloc (.cells #[.int .i64 0, .slice none 0 0, .slice none 0 0, .int .i64 0, .slice none 0 0, .slice none 0 0] _)).alloc (.cells #[.int .i64 0, .slice none 0 0, .slice none 0 0, .int .i64 0, .slice none 0 0, .slice none 0 0] _)) = W0 at *
  refine (P1.out _).mono ?_
  rintro e w1 ⟨va, vb, rfl, h8, h9, kk⟩
  obtain ⟨b1, A1, k1, ca1, B1, l1, cb1, rfl⟩ := h8.form2
  obtain ⟨s2, C2, m2, cc2, D2, n2, cd2, rfl, -, -, -⟩ := h9.form
  have H1 := Lib.hid h8
  have H2 := Lib.hid h9
  have X1 := Lib.hid (show Ext W0 w1 from kk)
  have F1 := Lib.hid (ext2 w1 (.cells #[.bool b1, .slice A1 k1 ca1, .slice B1 l1 cb1] 25) (.cells #[.int .i64 s2, .slice C2 m2 cc2, .slice D2 n2 cd2] 31))
  have E1 := Lib.hid (ext_trans X1.out F1.out)
  clear h8 h9 kk
  obtain ⟨y0, y1, y2, y3⟩ := rowF_0 ((E1.out.block _ (lt_of_block Z0.out)).trans Z0.out)
  go_wp2_with fail
  refine (P2.out _).mono ?_
  rintro e w2 ⟨va, vb, rfl, h8, h9, kk⟩
  obtain ⟨b3, A3, k3, ca3, B3, l3, cb3, rfl⟩ := h8.form2
  obtain ⟨s4, C4, m4, cc4, D4, n4, cd4, rfl, -, -, -⟩ := h9.form
  have H3 := Lib.hid h8
  have H4 := Lib.hid h9
  have X2 := Lib.hid (show Ext ((w1.alloc (.cells #[.bool b1, .slice A1 k1 ca1, .slice B1 l1 cb1] 25)).alloc (.cells #[.int .i64 s2, .slice C2 m2 cc2, .slice D2 n2 cd2] 31)) w2 from kk)
  have F2 := Lib.hid (ext2 w2 (.cells #[.bool b3, .slice A3 k3 ca3, .slice B3 l3 cb3] 25) (.cells #[.int .i64 s4, .slice C4 m4 cc4, .slice D4 n4 cd4] 31))
  have E2 := Lib.hid (ext_trans (ext_trans E1.out X2.out) F2.out)
  clear h8 h9 kk y0 y1 y2 y3
  obtain ⟨y0, y1, y2, y3⟩ := rowF_0 ((E2.out.block _ (lt_of_block Z0.out)).trans Z0.out)
  go_wp2_with fail
  refine (P3.out _).mono ?_
  rintro e w3 ⟨va, vb, rfl, h8, h9, kk⟩
  obtain ⟨b5, A5, k5, ca5, B5, l5, cb5, rfl⟩ := h8.form2
  obtain ⟨s6, C6, m6, cc6, D6, n6, cd6, rfl, -, -, -⟩ := h9.form
  have H5 := Lib.hid h8
  have H6 := Lib.hid h9
  have X3 := Lib.hid (show Ext ((w2.alloc (.cells #[.bool b3, .slice A3 k3 ca3, .slice B3 l3 cb3] 25)).alloc (.cells #[.int .i64 s4, .slice C4 m4 cc4, .slice D4 n4 cd4] 31)) w3 from kk)
  have F3 := Lib.hid (ext2 w3 (.cells #[.bool b5, .slice A5 k5 ca5, .slice B5 l5 cb5] 25) (.cells #[.int .i64 s6, .slice C6 m6 cc6, .slice D6 n6 cd6] 31))
  have E3 := Lib.hid (ext_trans (ext_trans E2.out X3.out) F3.out)
  clear h8 h9 kk y0 y1 y2 y3
  obtain ⟨y0, y1, y2, y3⟩ := rowF_0 ((E3.out.block _ (lt_of_block Z0.out)).trans Z0.out)
  go_wp2_with fail
  refine (P4.out _).mono ?_
  rintro e w4 ⟨va, vb, rfl, h8, h9, kk⟩
  obtain ⟨b7, A7, k7, ca7, B7, l7, cb7, rfl⟩ := h8.form2
  obtain ⟨s8, C8, m8, cc8, D8, n8, cd8, rfl, -, -, -⟩ := h9.form
  have H7 := Lib.hid h8
  have H8 := Lib.hid h9
  have X4 := Lib.hid (show Ext ((w3.alloc (.cells #[.bool b5, .slice A5 k5 ca5, .slice B5 l5 cb5] 25)).alloc (.cells #[.int .i64 s6, .slice C6 m6 cc6, .slice D6 n6 cd6] 31)) w4 from kk)
  have F4 := Lib.hid (ext2 w4 (.cells #[.bool b7, .slice A7 k7 ca7, .slice B7 l7 cb7] 25) (.cells #[.int .i64 s8, .slice C8 m8 cc8, .slice D8 n8 cd8] 31))
  have E4 := Lib.hid (ext_trans (ext_trans E3.out X4.out) F4.out)
  clear h8 h9 kk y0 y1 y2 y3
  go_upto_region 5 with (fail)
  have G34 := Lib.hid (ext_trans X4.out F4.out)
  have G3 := Lib.hid (ext_trans F3.out G34.out)
  have G23 := Lib.hid (ext_trans X3.out G3.out)
  have G2 := Lib.hid (ext_trans F2.out G23.out)
  have G12 := Lib.hid (ext_trans X2.out G2.out)
  have G1 := Lib.hid (ext_trans F1.out G12.out)
  have S1 := Lib.hid (show W0.heap.size ≤ w1.heap.size from X1.out.size)
  have S2 := Lib.hid (show W0.heap.size ≤ w2.heap.size from (ext_trans E1.out X2.out).size)
  have S3 := Lib.hid (show W0.heap.size ≤ w3.heap.size from (ext_trans E2.out X3.out).size)
  have S4 := Lib.hid (show W0.heap.size ≤ w4.heap.size from (ext_trans E3.out X4.out).size)
  have c1' := Lib.hid ((setupM w1 (.bool b1) (.slice A1 k1 ca1) (.slice B1 l1 cb1) (.int .i64 s2) (.slice C2 m2 cc2) (.slice D2 n2 cd2)).1 ((w4.alloc (.cells #[.bool b7, .slice A7 k7 ca7, .slice B7 l7 cb7] 25)).alloc (.cells #[.int .i64 s8, .slice C8 m8 cc8, .slice D8 n8 cd8] 31)) G12.out)
  have N1 := Lib.hid (H1.out.mono G1.out)
  have N2 := Lib.hid (H2.out.mono G1.out)
  have c3' := Lib.hid ((setupM w2 (.bool b3) (.slice A3 k3 ca3) (.slice B3 l3 cb3) (.int .i64 s4) (.slice C4 m4 cc4) (.slice D4 n4 cd4)).1 ((w4.alloc (.cells #[.bool b7, .slice A7 k7 ca7, .slice B7 l7 cb7] 25)).alloc (.cells #[.int .i64 s8, .slice C8 m8 cc8, .slice D8 n8 cd8] 31)) G23.out)
  have N3 := Lib.hid (H3.out.mono G2.out)
  have N4 := Lib.hid (H4.out.mono G2.out)
  have c5' := Lib.hid ((setupM w3 (.bool b5) (.slice A5 k5 ca5) (.slice B5 l5 cb5) (.int .i64 s6) (.slice C6 m6 cc6) (.slice D6 n6 cd6)).1 ((w4.alloc (.cells #[.bool b7, .slice A7 k7 ca7, .slice B7 l7 cb7] 25)).alloc (.cells #[.int .i64 s8, .slice C8 m8 cc8, .slice D8 n8 cd8] 31)) G34.out)
  have N5 := Lib.hid (H5.out.mono G3.out)
  have N6 := Lib.hid (H6.out.mono G3.out)
  have c7' := Lib.hid ((setupM w4 (.bool b7) (.slice A7 k7 ca7) (.slice B7 l7 cb7) (.int .i64 s8) (.slice C8 m8 cc8) (.slice D8 n8 cd8)).1 ((w4.alloc (.cells #[.bool b7, .slice A7 k7 ca7, .slice B7 l7 cb7] 25)).alloc (.cells #[.int .i64 s8, .slice C8 m8 cc8, .slice D8 n8 cd8] 31)) (ext_refl _))
  have N7 := Lib.hid (H7.out.mono F4.out)
  have N8 := Lib.hid (H8.out.mono F4.out)
  have Y0 := Lib.hid ((E4.out.block _ (lt_of_block Z0.out)).trans Z0.out)
  have Y1 := Lib.hid ((E4.out.block _ (lt_of_block Z1.out)).trans Z1.out)
  have Y2 := Lib.hid ((E4.out.block _ (lt_of_block Z2.out)).trans Z2.out)
  have Y3 := Lib.hid ((E4.out.block _ (lt_of_block Z3.out)).trans Z3.out)
  have Y4 := Lib.hid ((E4.out.block _ (lt_of_block Z4.out)).trans Z4.out)
  have EX := Lib.hid (ext_trans ZE.out E4.out)
  clear P1 P2 P3 P4 H1 H2 H3 H4 H5 H6 H7 H8 X1 X2 X3 X4 F1 F2 F3 F4 E1 E2 E3 E4 G1 G12 G2 G23 G3 G34 Z0 Z1 Z2 Z3 Z4 ZE
  generalize World.alloc (World.alloc w4 (.cells #[.bool b7, .slice A7 k7 ca7, .slice B7 l7 cb7] _)) (.cells #[.int .i64 s8, .slice C8 m8 cc8, .slice D8 n8 cd8] _) = WX at *
  have HBASE := Lib.hid (show (fun W => W.cell? ⟨w1.heap.size, 0, none⟩ = some (.bool b1) ∧ W.cell? ⟨w1.heap.size, 1, none⟩ = some (.slice A1 k1 ca1) ∧ W.cell? ⟨w1.heap.size, 2, none⟩ = some (.slice B1 l1 cb1) ∧ W.cell? ⟨w1.heap.size + 1, 0, none⟩ = some (.int .i64 s2) ∧ W.cell? ⟨w1.heap.size + 1, 1, none⟩ = some (.slice C2 m2 cc2) ∧ W.cell? ⟨w1.heap.size + 1, 2, none⟩ = some (.slice D2 n2 cd2) ∧ W.cell? ⟨w2.heap.size, 0, none⟩ = some (.bool b3) ∧ W.cell? ⟨w2.heap.size, 1, none⟩ = some (.slice A3 k3 ca3) ∧ W.cell? ⟨w2.heap.size, 2, none⟩ = some (.slice B3 l3 cb3) ∧ W.cell? ⟨w2.heap.size + 1, 0, none⟩ = some (.int .i64 s4) ∧ W.cell? ⟨w2.heap.size + 1, 1, none⟩ = some (.slice C4 m4 cc4) ∧ W.cell? ⟨w2.heap.size + 1, 2, none⟩ = some (.slice D4 n4 cd4) ∧ W.cell? ⟨w3.heap.size, 0, none⟩ = some (.bool b5) ∧ W.cell? ⟨w3.heap.size, 1, none⟩ = some (.slice A5 k5 ca5) ∧ W.cell? ⟨w3.heap.size, 2, none⟩ = some (.slice B5 l5 cb5) ∧ W.cell? ⟨w3.heap.size + 1, 0, none⟩ = some (.int .i64 s6) ∧ W.cell? ⟨w3.heap.size + 1, 1, none⟩ = some (.slice C6 m6 cc6) ∧ W.cell? ⟨w3.heap.size + 1, 2, none⟩ = some (.slice D6 n6 cd6) ∧ W.cell? ⟨w4.heap.size, 0, none⟩ = some (.bool b7) ∧ W.cell? ⟨w4.heap.size, 1, none⟩ = some (.slice A7 k7 ca7) ∧ W.cell? ⟨w4.heap.size, 2, none⟩ = some (.slice B7 l7 cb7) ∧ W.cell? ⟨w4.heap.size + 1, 0, none⟩ = some (.int .i64 s8) ∧ W.cell? ⟨w4.heap.size + 1, 1, none⟩ = some (.slice C8 m8 cc8) ∧ W.cell? ⟨w4.heap.size + 1, 2, none⟩ = some (.slice D8 n8 cd8) ∧ Ext w W ∧ Nm W (.agg #[.bool b1, .slice A1 k1 ca1, .slice B1 l1 cb1]) qa ∧ Nm W (.agg #[.bool b3, .slice A3 k3 ca3, .slice B3 l3 cb3]) qb ∧ Nm W (.agg #[.bool b5, .slice A5 k5 ca5, .slice B5 l5 cb5]) qc ∧ Nm W (.agg #[.bool b7, .slice A7 k7 ca7, .slice B7 l7 cb7]) qd ∧ Nr W (.agg #[.int .i64 s2, .slice C2 m2 cc2, .slice D2 n2 cd2]) qa ∧ Nr W (.agg #[.int .i64 s4, .slice C4 m4 cc4, .slice D4 n4 cd4]) qb ∧ Nr W (.agg #[.int .i64 s6, .slice C6 m6 cc6, .slice D6 n6 cd6]) qc ∧ Nr W (.agg #[.int .i64 s8, .slice C8 m8 cc8, .slice D8 n8 cd8]) qd) WX.drew from by
    obtain ⟨u0, u1, u2, u3, u4, u5⟩ := c1'.out
    obtain ⟨u6, u7, u8, u9, u10, u11⟩ := c3'.out
    obtain ⟨u12, u13, u14, u15, u16, u17⟩ := c5'.out
    obtain ⟨u18, u19, u20, u21, u22, u23⟩ := c7'.out
    exact ⟨u0, u1, u2, u3, u4, u5, u6, u7, u8, u9, u10, u11, u12, u13, u14, u15, u16, u17, u18, u19, u20, u21, u22, u23, ext_trans EX.out (ext_drew WX), N1.out.mono (ext_drew WX), N3.out.mono (ext_drew WX), N5.out.mono (ext_drew WX), N7.out.mono (ext_drew WX), N2.out.mono (ext_drew WX), N4.out.mono (ext_drew WX), N6.out.mono (ext_drew WX), N8.out.mono (ext_drew WX)⟩)
  clear c1' c3' c5' c7' N1 N2 N3 N4 N5 N6 N7 N8
  have zl := ZL.out
  have s1 := S1.out
  have s2 := S2.out
  have s3 := S3.out
  have s4 := S4.out
  generalize w1.heap.size = a1 at *
  generalize w2.heap.size = a2 at *
  generalize w3.heap.size = a3 at *
  generalize w4.heap.size = a4 at *
  generalize hg : w.heap.size = g at *
  have HL := Lib.hid (show w.heap.size ≤ g + 1 ∧ w.heap.size ≤ g + 1 + 1 ∧ w.heap.size ≤ g + 1 + 1 + 1 ∧ w.heap.size ≤ g + 1 + 1 + 1 + 1 by omega)
  have NE1 := Lib.hid (show a1 ≠ g + 1 ∧ a1 + 1 ≠ g + 1 ∧ a2 ≠ g + 1 ∧ a2 + 1 ≠ g + 1 ∧ a3 ≠ g + 1 ∧ a3 + 1 ≠ g + 1 ∧ a4 ≠ g + 1 ∧ a4 + 1 ≠ g + 1 by omega)
  have NE2 := Lib.hid (show a1 ≠ g + 1 + 1 ∧ a1 + 1 ≠ g + 1 + 1 ∧ a2 ≠ g + 1 + 1 ∧ a2 + 1 ≠ g + 1 + 1 ∧ a3 ≠ g + 1 + 1 ∧ a3 + 1 ≠ g + 1 + 1 ∧ a4 ≠ g + 1 + 1 ∧ a4 + 1 ≠ g + 1 + 1 by omega)
  have NE3 := Lib.hid (show a1 ≠ g + 1 + 1 + 1 ∧ a1 + 1 ≠ g + 1 + 1 + 1 ∧ a2 ≠ g + 1 + 1 + 1 ∧ a2 + 1 ≠ g + 1 + 1 + 1 ∧ a3 ≠ g + 1 + 1 + 1 ∧ a3 + 1 ≠ g + 1 + 1 + 1 ∧ a4 ≠ g + 1 + 1 + 1 ∧ a4 + 1 ≠ g + 1 + 1 + 1 by omega)
  have NE4 := Lib.hid (show a1 ≠ g + 1 + 1 + 1 + 1 ∧ a1 + 1 ≠ g + 1 + 1 + 1 + 1 ∧ a2 ≠ g + 1 + 1 + 1 + 1 ∧ a2 + 1 ≠ g + 1 + 1 + 1 + 1 ∧ a3 ≠ g + 1 + 1 + 1 + 1 ∧ a3 + 1 ≠ g + 1 + 1 + 1 + 1 ∧ a4 ≠ g + 1 + 1 + 1 + 1 ∧ a4 + 1 ≠ g + 1 + 1 + 1 + 1 by omega)
  have M12 := Lib.hid (show g + 1 ≠ g + 1 + 1 by omega)
  have M13 := Lib.hid (show g + 1 ≠ g + 1 + 1 + 1 by omega)
  have M14 := Lib.hid (show g + 1 ≠ g + 1 + 1 + 1 + 1 by omega)
  have M21 := Lib.hid (show g + 1 + 1 ≠ g + 1 by omega)
  have M23 := Lib.hid (show g + 1 + 1 ≠ g + 1 + 1 + 1 by omega)
  have M24 := Lib.hid (show g + 1 + 1 ≠ g + 1 + 1 + 1 + 1 by omega)
  have M31 := Lib.hid (show g + 1 + 1 + 1 ≠ g + 1 by omega)
  have M32 := Lib.hid (show g + 1 + 1 + 1 ≠ g + 1 + 1 by omega)
  have M34 := Lib.hid (show g + 1 + 1 + 1 ≠ g + 1 + 1 + 1 + 1 by omega)
  have M41 := Lib.hid (show g + 1 + 1 + 1 + 1 ≠ g + 1 by omega)
  have M42 := Lib.hid (show g + 1 + 1 + 1 + 1 ≠ g + 1 + 1 by omega)
  have M43 := Lib.hid (show g + 1 + 1 + 1 + 1 ≠ g + 1 + 1 + 1 by omega)
  clear zl s1 s2 s3 s4 S1 S2 S3 S4 ZL hg
  have hun : undef = .tuple #[] := rfl
  obtain ⟨IS, his⟩ : ∃ I : List Nat → World → Prop, I = IS4 (fun W : World => W.cell? ⟨a1, 0, none⟩ = some (.bool b1) ∧ W.cell? ⟨a1, 1, none⟩ = some (.slice A1 k1 ca1) ∧ W.cell? ⟨a1, 2, none⟩ = some (.slice B1 l1 cb1) ∧ W.cell? ⟨a1 + 1, 0, none⟩ = some (.int .i64 s2) ∧ W.cell? ⟨a1 + 1, 1, none⟩ = some (.slice C2 m2 cc2) ∧ W.cell? ⟨a1 + 1, 2, none⟩ = some (.slice D2 n2 cd2) ∧ W.cell? ⟨a2, 0, none⟩ = some (.bool b3) ∧ W.cell? ⟨a2, 1, none⟩ = some (.slice A3 k3 ca3) ∧ W.cell? ⟨a2, 2, none⟩ = some (.slice B3 l3 cb3) ∧ W.cell? ⟨a2 + 1, 0, none⟩ = some (.int .i64 s4) ∧ W.cell? ⟨a2 + 1, 1, none⟩ = some (.slice C4 m4 cc4) ∧ W.cell? ⟨a2 + 1, 2, none⟩ = some (.slice D4 n4 cd4) ∧ W.cell? ⟨a3, 0, none⟩ = some (.bool b5) ∧ W.cell? ⟨a3, 1, none⟩ = some (.slice A5 k5 ca5) ∧ W.cell? ⟨a3, 2, none⟩ = some (.slice B5 l5 cb5) ∧ W.cell? ⟨a3 + 1, 0, none⟩ = some (.int .i64 s6) ∧ W.cell? ⟨a3 + 1, 1, none⟩ = some (.slice C6 m6 cc6) ∧ W.cell? ⟨a3 + 1, 2, none⟩ = some (.slice D6 n6 cd6) ∧ W.cell? ⟨a4, 0, none⟩ = some (.bool b7) ∧ W.cell? ⟨a4, 1, none⟩ = some (.slice A7 k7 ca7) ∧ W.cell? ⟨a4, 2, none⟩ = some (.slice B7 l7 cb7) ∧ W.cell? ⟨a4 + 1, 0, none⟩ = some (.int .i64 s8) ∧ W.cell? ⟨a4 + 1, 1, none⟩ = some (.slice C8 m8 cc8) ∧ W.cell? ⟨a4 + 1, 2, none⟩ = some (.slice D8 n8 cd8) ∧ Ext w W ∧ Nm W (.agg #[.bool b1, .slice A1 k1 ca1, .slice B1 l1 cb1]) qa ∧ Nm W (.agg #[.bool b3, .slice A3 k3 ca3, .slice B3 l3 cb3]) qb ∧ Nm W (.agg #[.bool b5, .slice A5 k5 ca5, .slice B5 l5 cb5]) qc ∧ Nm W (.agg #[.bool b7, .slice A7 k7 ca7, .slice B7 l7 cb7]) qd ∧ Nr W (.agg #[.int .i64 s2, .slice C2 m2 cc2, .slice D2 n2 cd2]) qa ∧ Nr W (.agg #[.int .i64 s4, .slice C4 m4 cc4, .slice D4 n4 cd4]) qb ∧ Nr W (.agg #[.int .i64 s6, .slice C6 m6 cc6, .slice D6 n6 cd6]) qc ∧ Nr W (.agg #[.int .i64 s8, .slice C8 m8 cc8, .slice D8 n8 cd8]) qd) (fun W : World => W.heap[g + 1]? = some (.cells #[.bool false, .slice none 0 0, .slice none 0 0, .bool false, .slice none 0 0, .slice none 0 0] 68 (0, 0))) (fun W : World => W.heap[g + 1 + 1]? = some (.cells #[.bool false, .slice none 0 0, .slice none 0 0, .bool false, .slice none 0 0, .slice none 0 0] 68 (0, 0))) (fun W : World => W.heap[g + 1 + 1 + 1]? = some (.cells #[.int .i64 0, .slice none 0 0, .slice none 0 0, .int .i64 0, .slice none 0 0, .slice none 0 0] 85 (0, 0))) (fun W : World => W.heap[g + 1 + 1 + 1 + 1]? = some (.cells #[.int .i64 0, .slice none 0 0, .slice none 0 0, .int .i64 0, .slice none 0 0, .slice none 0 0] 85 (0, 0))) (fun W : World => W.heap[g + 1]? = some (.cells #[.bool b1, .slice A1 k1 ca1, .slice B1 l1 cb1, .bool b3, .slice A3 k3 ca3, .slice B3 l3 cb3] 68 (0, 0))) (fun W : World => W.heap[g + 1 + 1]? = some (.cells #[.bool b5, .slice A5 k5 ca5, .slice B5 l5 cb5, .bool b7, .slice A7 k7 ca7, .slice B7 l7 cb7] 68 (0, 0))) (fun W : World => W.heap[g + 1 + 1 + 1]? = some (.cells #[.int .i64 s2, .slice C2 m2 cc2, .slice D2 n2 cd2, .int .i64 s4, .slice C4 m4 cc4, .slice D4 n4 cd4] 85 (0, 0))) (fun W : World => W.heap[g + 1 + 1 + 1 + 1]? = some (.cells #[.int .i64 s6, .slice C6 m6 cc6, .slice D6 n6 cd6, .int .i64 s8, .slice C8 m8 cc8, .slice D8 n8 cd8] 85 (0, 0))) := ⟨_, rfl⟩
  have ST1 := Lib.hid (show ∀ rs ∈ subs4, 22 ∈ rs → ∀ W, IS rs W → W.heap[g + 1]? = some (.cells #[.bool false, .slice none 0 0, .slice none 0 0, .bool false, .slice none 0 0, .slice none 0 0] 68 (0, 0)) ∧ IS (rs.erase 22) (put6 W (g + 1) (.bool b1) (.slice A1 k1 ca1) (.slice B1 l1 cb1) (.bool b3) (.slice A3 k3 ca3) (.slice B3 l3 cb3)) from fun rs hrs hm W hW => by
    rw [his] at hW ⊢
    have hz : W.heap[g + 1]? = some (.cells #[.bool false, .slice none 0 0, .slice none 0 0, .bool false, .slice none 0 0, .slice none 0 0] 68 (0, 0)) := hW.2.1 hm
    refine ⟨hz, hW.s1 hrs (base_keep hW.1 (put6_keep _ _ _ _ _ _ _ _) (nodigV hz) (put6_ext hW.1.2.2.2.2.2.2.2.2.2.2.2.2.2.2.2.2.2.2.2.2.2.2.2.2.1 HL.out.1 _ _ _ _ _ _) NE1.out.1 NE1.out.2.1 NE1.out.2.2.1 NE1.out.2.2.2.1 NE1.out.2.2.2.2.1 NE1.out.2.2.2.2.2.1 NE1.out.2.2.2.2.2.2.1 NE1.out.2.2.2.2.2.2.2) (put6_row hz _ _ _ _ _ _) (fun h => put6_other h M21.out _ _ _ _ _ _) (fun h => put6_other h M21.out _ _ _ _ _ _) (fun h => put6_other h M31.out _ _ _ _ _ _) (fun h => put6_other h M31.out _ _ _ _ _ _) (fun h => put6_other h M41.out _ _ _ _ _ _) (fun h => put6_other h M41.out _ _ _ _ _ _)⟩)
  have ST2 := Lib.hid (show ∀ rs ∈ subs4, 23 ∈ rs → ∀ W, IS rs W → W.heap[g + 1 + 1]? = some (.cells #[.bool false, .slice none 0 0, .slice none 0 0, .bool false, .slice none 0 0, .slice none 0 0] 68 (0, 0)) ∧ IS (rs.erase 23) (put6 W (g + 1 + 1) (.bool b5) (.slice A5 k5 ca5) (.slice B5 l5 cb5) (.bool b7) (.slice A7 k7 ca7) (.slice B7 l7 cb7)) from fun rs hrs hm W hW => by
    rw [his] at hW ⊢
    have hz : W.heap[g + 1 + 1]? = some (.cells #[.bool false, .slice none 0 0, .slice none 0 0, .bool false, .slice none 0 0, .slice none 0 0] 68 (0, 0)) := hW.2.2.2.1 hm
    refine ⟨hz, hW.s2 hrs (base_keep hW.1 (put6_keep _ _ _ _ _ _ _ _) (nodigV hz) (put6_ext hW.1.2.2.2.2.2.2.2.2.2.2.2.2.2.2.2.2.2.2.2.2.2.2.2.2.1 HL.out.2.1 _ _ _ _ _ _) NE2.out.1 NE2.out.2.1 NE2.out.2.2.1 NE2.out.2.2.2.1 NE2.out.2.2.2.2.1 NE2.out.2.2.2.2.2.1 NE2.out.2.2.2.2.2.2.1 NE2.out.2.2.2.2.2.2.2) (put6_row hz _ _ _ _ _ _) (fun h => put6_other h M12.out _ _ _ _ _ _) (fun h => put6_other h M12.out _ _ _ _ _ _) (fun h => put6_other h M32.out _ _ _ _ _ _) (fun h => put6_other h M32.out _ _ _ _ _ _) (fun h => put6_other h M42.out _ _ _ _ _ _) (fun h => put6_other h M42.out _ _ _ _ _ _)⟩)
  have ST3 := Lib.hid (show ∀ rs ∈ subs4, 24 ∈ rs → ∀ W, IS rs W → W.heap[g + 1 + 1 + 1]? = some (.cells #[.int .i64 0, .slice none 0 0, .slice none 0 0, .int .i64 0, .slice none 0 0, .slice none 0 0] 85 (0, 0)) ∧ IS (rs.erase 24) (put6 W (g + 1 + 1 + 1) (.int .i64 s2) (.slice C2 m2 cc2) (.slice D2 n2 cd2) (.int .i64 s4) (.slice C4 m4 cc4) (.slice D4 n4 cd4)) from fun rs hrs hm W hW => by
    rw [his] at hW ⊢
    have hz : W.heap[g + 1 + 1 + 1]? = some (.cells #[.int .i64 0, .slice none 0 0, .slice none 0 0, .int .i64 0, .slice none 0 0, .slice none 0 0] 85 (0, 0)) := hW.2.2.2.2.2.1 hm
    refine ⟨hz, hW.s3 hrs (base_keep hW.1 (put6_keep _ _ _ _ _ _ _ _) (nodigR hz) (put6_ext hW.1.2.2.2.2.2.2.2.2.2.2.2.2.2.2.2.2.2.2.2.2.2.2.2.2.1 HL.out.2.2.1 _ _ _ _ _ _) NE3.out.1 NE3.out.2.1 NE3.out.2.2.1 NE3.out.2.2.2.1 NE3.out.2.2.2.2.1 NE3.out.2.2.2.2.2.1 NE3.out.2.2.2.2.2.2.1 NE3.out.2.2.2.2.2.2.2) (put6_row hz _ _ _ _ _ _) (fun h => put6_other h M13.out _ _ _ _ _ _) (fun h => put6_other h M13.out _ _ _ _ _ _) (fun h => put6_other h M23.out _ _ _ _ _ _) (fun h => put6_other h M23.out _ _ _ _ _ _) (fun h => put6_other h M43.out _ _ _ _ _ _) (fun h => put6_other h M43.out _ _ _ _ _ _)⟩)
  have ST4 := Lib.hid (show ∀ rs ∈ subs4, 25 ∈ rs → ∀ W, IS rs W → W.heap[g + 1 + 1 + 1 + 1]? = some (.cells #[.int .i64 0, .slice none 0 0, .slice none 0 0, .int .i64 0, .slice none 0 0, .slice none 0 0] 85 (0, 0)) ∧ IS (rs.erase 25) (put6 W (g + 1 + 1 + 1 + 1) (.int .i64 s6) (.slice C6 m6 cc6) (.slice D6 n6 cd6) (.int .i64 s8) (.slice C8 m8 cc8) (.slice D8 n8 cd8)) from fun rs hrs hm W hW => by
    rw [his] at hW ⊢
    have hz : W.heap[g + 1 + 1 + 1 + 1]? = some (.cells #[.int .i64 0, .slice none 0 0, .slice none 0 0, .int .i64 0, .slice none 0 0, .slice none 0 0] 85 (0, 0)) := hW.2.2.2.2.2.2.2.1 hm
    refine ⟨hz, hW.s4 hrs (base_keep hW.1 (put6_keep _ _ _ _ _ _ _ _) (nodigR hz) (put6_ext hW.1.2.2.2.2.2.2.2.2.2.2.2.2.2.2.2.2.2.2.2.2.2.2.2.2.1 HL.out.2.2.2 _ _ _ _ _ _) NE4.out.1 NE4.out.2.1 NE4.out.2.2.1 NE4.out.2.2.2.1 NE4.out.2.2.2.2.1 NE4.out.2.2.2.2.2.1 NE4.out.2.2.2.2.2.2.1 NE4.out.2.2.2.2.2.2.2) (put6_row hz _ _ _ _ _ _) (fun h => put6_other h M14.out _ _ _ _ _ _) (fun h => put6_other h M14.out _ _ _ _ _ _) (fun h => put6_other h M24.out _ _ _ _ _ _) (fun h => put6_other h M24.out _ _ _ _ _ _) (fun h => put6_other h M34.out _ _ _ _ _ _) (fun h => put6_other h M34.out _ _ _ _ _ _)⟩)
  have HI0 := Lib.hid (show IS [22, 23, 24, 25] WX.drew from by rw [his]; exact ⟨HBASE.out, fun _ => Y1.out, fun h => absurd (by decide) h, fun _ => Y2.out, fun h => absurd (by decide) h, fun _ => Y3.out, fun h => absurd (by decide) h, fun _ => Y4.out, fun h => absurd (by decide) h⟩)
  have HIS := Lib.hid (show ∀ rs W, IS rs W → IS4 (fun W : World => W.cell? ⟨a1, 0, none⟩ = some (.bool b1) ∧ W.cell? ⟨a1, 1, none⟩ = some (.slice A1 k1 ca1) ∧ W.cell? ⟨a1, 2, none⟩ = some (.slice B1 l1 cb1) ∧ W.cell? ⟨a1 + 1, 0, none⟩ = some (.int .i64 s2) ∧ W.cell? ⟨a1 + 1, 1, none⟩ = some (.slice C2 m2 cc2) ∧ W.cell? ⟨a1 + 1, 2, none⟩ = some (.slice D2 n2 cd2) ∧ W.cell? ⟨a2, 0, none⟩ = some (.bool b3) ∧ W.cell? ⟨a2, 1, none⟩ = some (.slice A3 k3 ca3) ∧ W.cell? ⟨a2, 2, none⟩ = some (.slice B3 l3 cb3) ∧ W.cell? ⟨a2 + 1, 0, none⟩ = some (.int .i64 s4) ∧ W.cell? ⟨a2 + 1, 1, none⟩ = some (.slice C4 m4 cc4) ∧ W.cell? ⟨a2 + 1, 2, none⟩ = some (.slice D4 n4 cd4) ∧ W.cell? ⟨a3, 0, none⟩ = some (.bool b5) ∧ W.cell? ⟨a3, 1, none⟩ = some (.slice A5 k5 ca5) ∧ W.cell? ⟨a3, 2, none⟩ = some (.slice B5 l5 cb5) ∧ W.cell? ⟨a3 + 1, 0, none⟩ = some (.int .i64 s6) ∧ W.cell? ⟨a3 + 1, 1, none⟩ = some (.slice C6 m6 cc6) ∧ W.cell? ⟨a3 + 1, 2, none⟩ = some (.slice D6 n6 cd6) ∧ W.cell? ⟨a4, 0, none⟩ = some (.bool b7) ∧ W.cell? ⟨a4, 1, none⟩ = some (.slice A7 k7 ca7) ∧ W.cell? ⟨a4, 2, none⟩ = some (.slice B7 l7 cb7) ∧ W.cell? ⟨a4 + 1, 0, none⟩ = some (.int .i64 s8) ∧ W.cell? ⟨a4 + 1, 1, none⟩ = some (.slice C8 m8 cc8) ∧ W.cell? ⟨a4 + 1, 2, none⟩ = some (.slice D8 n8 cd8) ∧ Ext w W ∧ Nm W (.agg #[.bool b1, .slice A1 k1 ca1, .slice B1 l1 cb1]) qa ∧ Nm W (.agg #[.bool b3, .slice A3 k3 ca3, .slice B3 l3 cb3]) qb ∧ Nm W (.agg #[.bool b5, .slice A5 k5 ca5, .slice B5 l5 cb5]) qc ∧ Nm W (.agg #[.bool b7, .slice A7 k7 ca7, .slice B7 l7 cb7]) qd ∧ Nr W (.agg #[.int .i64 s2, .slice C2 m2 cc2, .slice D2 n2 cd2]) qa ∧ Nr W (.agg #[.int .i64 s4, .slice C4 m4 cc4, .slice D4 n4 cd4]) qb ∧ Nr W (.agg #[.int .i64 s6, .slice C6 m6 cc6, .slice D6 n6 cd6]) qc ∧ Nr W (.agg #[.int .i64 s8, .slice C8 m8 cc8, .slice D8 n8 cd8]) qd) (fun W : World => W.heap[g + 1]? = some (.cells #[.bool false, .slice none 0 0, .slice none 0 0, .bool false, .slice none 0 0, .slice none 0 0] 68 (0, 0))) (fun W : World => W.heap[g + 1 + 1]? = some (.cells #[.bool false, .slice none 0 0, .slice none 0 0, .bool false, .slice none 0 0, .slice none 0 0] 68 (0, 0))) (fun W : World => W.heap[g + 1 + 1 + 1]? = some (.cells #[.int .i64 0, .slice none 0 0, .slice none 0 0, .int .i64 0, .slice none 0 0, .slice none 0 0] 85 (0, 0))) (fun W : World => W.heap[g + 1 + 1 + 1 + 1]? = some (.cells #[.int .i64 0, .slice none 0 0, .slice none 0 0, .int .i64 0, .slice none 0 0, .slice none 0 0] 85 (0, 0))) (fun W : World => W.heap[g + 1]? = some (.cells #[.bool b1, .slice A1 k1 ca1, .slice B1 l1 cb1, .bool b3, .slice A3 k3 ca3, .slice B3 l3 cb3] 68 (0, 0))) (fun W : World => W.heap[g + 1 + 1]? = some (.cells #[.bool b5, .slice A5 k5 ca5, .slice B5 l5 cb5, .bool b7, .slice A7 k7 ca7, .slice B7 l7 cb7] 68 (0, 0))) (fun W : World => W.heap[g + 1 + 1 + 1]? = some (.cells #[.int .i64 s2, .slice C2 m2 cc2, .slice D2 n2 cd2, .int .i64 s4, .slice C4 m4 cc4, .slice D4 n4 cd4] 85 (0, 0))) (fun W : World => W.heap[g + 1 + 1 + 1 + 1]? = some (.cells #[.int .i64 s6, .slice C6 m6 cc6, .slice D6 n6 cd6, .int .i64 s8, .slice C8 m8 cc8, .slice D8 n8 cd8] 85 (0, 0))) rs W from fun rs W h => by rw [his] at h; exact h)
  clear his Y0 Y1 Y2 Y3 Y4 EX HBASE HL NE1 NE2 NE3 NE4 M12 M13 M14 M21 M23 M24 M31 M32 M34 M41 M42 M43
  have hc : r1 = false ∨ (r1 = true ∧ r2 = false) ∨ (r1 = true ∧ r2 = true ∧ r3 = false) ∨ (r1 = true ∧ r2 = true ∧ r3 = true) := by cases r1 <;> cases r2 <;> cases r3 <;> simp
  rcases hc with rfl | ⟨rfl, rfl⟩ | ⟨rfl, rfl, rfl⟩ | ⟨rfl, rfl, rfl⟩
  all_goals
    refine wp_region_noPanic ?_
    refine wp_region_held_drew (S := fun W => W.cell? ⟨a1, 0, none⟩ = some (.bool b1) ∧ W.cell? ⟨a1, 1, none⟩ = some (.slice A1 k1 ca1) ∧ W.cell? ⟨a1, 2, none⟩ = some (.slice B1 l1 cb1) ∧ W.cell? ⟨a1 + 1, 0, none⟩ = some (.int .i64 s2) ∧ W.cell? ⟨a1 + 1, 1, none⟩ = some (.slice C2 m2 cc2) ∧ W.cell? ⟨a1 + 1, 2, none⟩ = some (.slice D2 n2 cd2) ∧ W.cell? ⟨a2, 0, none⟩ = some (.bool b3) ∧ W.cell? ⟨a2, 1, none⟩ = some (.slice A3 k3 ca3) ∧ W.cell? ⟨a2, 2, none⟩ = some (.slice B3 l3 cb3) ∧ W.cell? ⟨a2 + 1, 0, none⟩ = some (.int .i64 s4) ∧ W.cell? ⟨a2 + 1, 1, none⟩ = some (.slice C4 m4 cc4) ∧ W.cell? ⟨a2 + 1, 2, none⟩ = some (.slice D4 n4 cd4) ∧ W.cell? ⟨a3, 0, none⟩ = some (.bool b5) ∧ W.cell? ⟨a3, 1, none⟩ = some (.slice A5 k5 ca5) ∧ W.cell? ⟨a3, 2, none⟩ = some (.slice B5 l5 cb5) ∧ W.cell? ⟨a3 + 1, 0, none⟩ = some (.int .i64 s6) ∧ W.cell? ⟨a3 + 1, 1, none⟩ = some (.slice C6 m6 cc6) ∧ W.cell? ⟨a3 + 1, 2, none⟩ = some (.slice D6 n6 cd6) ∧ W.cell? ⟨a4, 0, none⟩ = some (.bool b7) ∧ W.cell? ⟨a4, 1, none⟩ = some (.slice A7 k7 ca7) ∧ W.cell? ⟨a4, 2, none⟩ = some (.slice B7 l7 cb7) ∧ W.cell? ⟨a4 + 1, 0, none⟩ = some (.int .i64 s8) ∧ W.cell? ⟨a4 + 1, 1, none⟩ = some (.slice C8 m8 cc8) ∧ W.cell? ⟨a4 + 1, 2, none⟩ = some (.slice D8 n8 cd8)) (by kernel_rfl) (by have h := (HIS.out _ _ HI0.out).1; dsimp only at h; obtain ⟨u0, u1, u2, u3, u4, u5, u6, u7, u8, u9, u10, u11, u12, u13, u14, u15, u16, u17, u18, u19, u20, u21, u22, u23, -⟩ := h; exact ⟨u0, u1, u2, u3, u4, u5, u6, u7, u8, u9, u10, u11, u12, u13, u14, u15, u16, u17, u18, u19, u20, u21, u22, u23⟩) (fun hHeld => ?_)
    refine take_w (i := 0) 47 (v := ?_) rfl rfl (by kernel_rfl) (by kernel_rfl) (by kernel_rfl) (fun _ _ _ h => h) (Or.inl ⟨rfl, ?_⟩) (by assumption) ?_
    rotate_left
    focus (intro w hSw; (try dsimp only at hSw); go_simp; try with_reducible rfl)
    try simp only [Act.put, List.setIfInBounds_toArray, List.set_cons_zero, List.set_cons_succ]
    refine take_w (i := 1) 48 (v := ?_) rfl rfl (by kernel_rfl) (by kernel_rfl) (by kernel_rfl) (fun _ _ _ h => h) (Or.inl ⟨rfl, ?_⟩) (by assumption) ?_
    rotate_left
    focus (intro w hSw; (try dsimp only at hSw); go_simp; try with_reducible rfl)
    try simp only [Act.put, List.setIfInBounds_toArray, List.set_cons_zero, List.set_cons_succ]
    refine take_w (i := 2) 49 (v := ?_) rfl rfl (by kernel_rfl) (by kernel_rfl) (by kernel_rfl) (fun _ _ _ h => h) (Or.inl ⟨rfl, ?_⟩) (by assumption) ?_
    rotate_left
    focus (intro w hSw; (try dsimp only at hSw); go_simp; try with_reducible rfl)
    try simp only [Act.put, List.setIfInBounds_toArray, List.set_cons_zero, List.set_cons_succ]
    refine take_w (i := 3) 50 (v := ?_) rfl rfl (by kernel_rfl) (by kernel_rfl) (by kernel_rfl) (fun _ _ _ h => h) (Or.inl ⟨rfl, ?_⟩) (by assumption) ?_
    rotate_left
    focus (intro w hSw; (try dsimp only at hSw); go_simp; try with_reducible rfl)
    try simp only [Act.put, List.setIfInBounds_toArray, List.set_cons_zero, List.set_cons_succ]
    refine take_w (i := 4) 51 (v := ?_) rfl rfl (by kernel_rfl) (by kernel_rfl) (by kernel_rfl) (fun _ _ _ h => h) (Or.inl ⟨rfl, ?_⟩) (by assumption) ?_
    rotate_left
    focus (intro w hSw; (try dsimp only at hSw); go_simp; try with_reducible rfl)
    try simp only [Act.put, List.setIfInBounds_toArray, List.set_cons_zero, List.set_cons_succ]
    refine take_w (i := 5) 52 (v := ?_) rfl rfl (by kernel_rfl) (by kernel_rfl) (by kernel_rfl) (fun _ _ _ h => h) (Or.inl ⟨rfl, ?_⟩) (by assumption) ?_
    rotate_left
    focus (intro w hSw; (try dsimp only at hSw); go_simp; try with_reducible rfl)
    try simp only [Act.put, List.setIfInBounds_toArray, List.set_cons_zero, List.set_cons_succ]
    refine take_w (i := 6) 53 (v := ?_) rfl rfl (by kernel_rfl) (by kernel_rfl) (by kernel_rfl) (fun _ _ _ h => h) (Or.inl ⟨rfl, ?_⟩) (by assumption) ?_
    rotate_left
    focus (intro w hSw; (try dsimp only at hSw); go_simp; try with_reducible rfl)
    try simp only [Act.put, List.setIfInBounds_toArray, List.set_cons_zero, List.set_cons_succ]
    refine take_w (i := 7) 54 (v := ?_) rfl rfl (by kernel_rfl) (by kernel_rfl) (by kernel_rfl) (fun _ _ _ h => h) (Or.inl ⟨rfl, ?_⟩) (by assumption) ?_
    rotate_left
    focus (intro w hSw; (try dsimp only at hSw); go_simp; try with_reducible rfl)
    try simp only [Act.put, List.setIfInBounds_toArray, List.set_cons_zero, List.set_cons_succ]
    refine take_w (i := 8) 55 (v := ?_) rfl rfl (by kernel_rfl) (by kernel_rfl) (by kernel_rfl) (fun _ _ _ h => h) (Or.inl ⟨rfl, ?_⟩) (by assumption) ?_
    rotate_left
    focus (intro w hSw; (try dsimp only at hSw); go_simp; try with_reducible rfl)
    try simp only [Act.put, List.setIfInBounds_toArray, List.set_cons_zero, List.set_cons_succ]
    refine take_w (i := 9) 56 (v := ?_) rfl rfl (by kernel_rfl) (by kernel_rfl) (by kernel_rfl) (fun _ _ _ h => h) (Or.inl ⟨rfl, ?_⟩) (by assumption) ?_
    rotate_left
    focus (intro w hSw; (try dsimp only at hSw); go_simp; try with_reducible rfl)
    try simp only [Act.put, List.setIfInBounds_toArray, List.set_cons_zero, List.set_cons_succ]
    refine take_w (i := 10) 57 (v := ?_) rfl rfl (by kernel_rfl) (by kernel_rfl) (by kernel_rfl) (fun _ _ _ h => h) (Or.inl ⟨rfl, ?_⟩) (by assumption) ?_
    rotate_left
    focus (intro w hSw; (try dsimp only at hSw); go_simp; try with_reducible rfl)
    try simp only [Act.put, List.setIfInBounds_toArray, List.set_cons_zero, List.set_cons_succ]
    refine take_w (i := 11) 58 (v := ?_) rfl rfl (by kernel_rfl) (by kernel_rfl) (by kernel_rfl) (fun _ _ _ h => h) (Or.inl ⟨rfl, ?_⟩) (by assumption) ?_
    rotate_left
    focus (intro w hSw; (try dsimp only at hSw); go_simp; try with_reducible rfl)
    try simp only [Act.put, List.setIfInBounds_toArray, List.set_cons_zero, List.set_cons_succ]
    refine take_w (i := 12) 59 (v := ?_) rfl rfl (by kernel_rfl) (by kernel_rfl) (by kernel_rfl) (fun _ _ _ h => h) (Or.inl ⟨rfl, ?_⟩) (by assumption) ?_
    rotate_left
    focus (intro w hSw; (try dsimp only at hSw); go_simp; try with_reducible rfl)
    try simp only [Act.put, List.setIfInBounds_toArray, List.set_cons_zero, List.set_cons_succ]
    refine take_w (i := 13) 60 (v := ?_) rfl rfl (by kernel_rfl) (by kernel_rfl) (by kernel_rfl) (fun _ _ _ h => h) (Or.inl ⟨rfl, ?_⟩) (by assumption) ?_
    rotate_left
    focus (intro w hSw; (try dsimp only at hSw); go_simp; try with_reducible rfl)
    try simp only [Act.put, List.setIfInBounds_toArray, List.set_cons_zero, List.set_cons_succ]
    first | (refine take_w (i := 14) 61 (v := undef) rfl rfl (by kernel_rfl) (by kernel_rfl) (by kernel_rfl) (fun _ _ _ h => h) (Or.inr ⟨rfl, rfl⟩) (by assumption) ?_) | (refine take_w (i := 14) 61 (v := ?_) rfl rfl (by kernel_rfl) (by kernel_rfl) (by kernel_rfl) (fun _ _ _ h => h) (Or.inl ⟨rfl, ?_⟩) (by assumption) ?_; rotate_left; focus (intro w hSw; (try dsimp only at hSw); go_simp; try with_reducible rfl))
    try simp only [Act.put, List.setIfInBounds_toArray, List.set_cons_zero, List.set_cons_succ]
    refine take_w (i := 15) 62 (v := ?_) rfl rfl (by kernel_rfl) (by kernel_rfl) (by kernel_rfl) (fun _ _ _ h => h) (Or.inl ⟨rfl, ?_⟩) (by assumption) ?_
    rotate_left
    focus (intro w hSw; (try dsimp only at hSw); go_simp; try with_reducible rfl)
    try simp only [Act.put, List.setIfInBounds_toArray, List.set_cons_zero, List.set_cons_succ]
    refine take_w (i := 16) 63 (v := ?_) rfl rfl (by kernel_rfl) (by kernel_rfl) (by kernel_rfl) (fun _ _ _ h => h) (Or.inl ⟨rfl, ?_⟩) (by assumption) ?_
    rotate_left
    focus (intro w hSw; (try dsimp only at hSw); go_simp; try with_reducible rfl)
    try simp only [Act.put, List.setIfInBounds_toArray, List.set_cons_zero, List.set_cons_succ]
    first | (refine take_w (i := 17) 64 (v := undef) rfl rfl (by kernel_rfl) (by kernel_rfl) (by kernel_rfl) (fun _ _ _ h => h) (Or.inr ⟨rfl, rfl⟩) (by assumption) ?_) | (refine take_w (i := 17) 64 (v := ?_) rfl rfl (by kernel_rfl) (by kernel_rfl) (by kernel_rfl) (fun _ _ _ h => h) (Or.inl ⟨rfl, ?_⟩) (by assumption) ?_; rotate_left; focus (intro w hSw; (try dsimp only at hSw); go_simp; try with_reducible rfl))
    try simp only [Act.put, List.setIfInBounds_toArray, List.set_cons_zero, List.set_cons_succ]
    refine take_w (i := 18) 65 (v := ?_) rfl rfl (by kernel_rfl) (by kernel_rfl) (by kernel_rfl) (fun _ _ _ h => h) (Or.inl ⟨rfl, ?_⟩) (by assumption) ?_
    rotate_left
    focus (intro w hSw; (try dsimp only at hSw); go_simp; try with_reducible rfl)
    try simp only [Act.put, List.setIfInBounds_toArray, List.set_cons_zero, List.set_cons_succ]
    refine take_w (i := 19) 66 (v := ?_) rfl rfl (by kernel_rfl) (by kernel_rfl) (by kernel_rfl) (fun _ _ _ h => h) (Or.inl ⟨rfl, ?_⟩) (by assumption) ?_
    rotate_left
    focus (intro w hSw; (try dsimp only at hSw); go_simp; try with_reducible rfl)
    try simp only [Act.put, List.setIfInBounds_toArray, List.set_cons_zero, List.set_cons_succ]
    first | (refine take_w (i := 20) 67 (v := undef) rfl rfl (by kernel_rfl) (by kernel_rfl) (by kernel_rfl) (fun _ _ _ h => h) (Or.inr ⟨rfl, rfl⟩) (by assumption) ?_) | (refine take_w (i := 20) 67 (v := ?_) rfl rfl (by kernel_rfl) (by kernel_rfl) (by kernel_rfl) (fun _ _ _ h => h) (Or.inl ⟨rfl, ?_⟩) (by assumption) ?_; rotate_left; focus (intro w hSw; (try dsimp only at hSw); go_simp; try with_reducible rfl))
    try simp only [Act.put, List.setIfInBounds_toArray, List.set_cons_zero, List.set_cons_succ]
    refine take_w (i := 21) 68 (v := ?_) rfl rfl (by kernel_rfl) (by kernel_rfl) (by kernel_rfl) (fun _ _ _ h => h) (Or.inl ⟨rfl, ?_⟩) (by assumption) ?_
    rotate_left
    focus (intro w hSw; (try dsimp only at hSw); go_simp; try with_reducible rfl)
    try simp only [Act.put, List.setIfInBounds_toArray, List.set_cons_zero, List.set_cons_succ]
    refine wpAnyH_listed (L := listed4 [22, 23, 24, 25]) (by kernel_rfl) ?_
    refine stores_held (m := 1) listed4 (IS) subs4 ?_ subs4_set (fun rs W h => ?_) (fun W hW => ?_) ?_ [22, 23, 24, 25] (by decide) _ HI0.out
    · (intro i tl h; rcases subs4_in h with ⟨rfl, rfl⟩ | ⟨rfl, rfl⟩ | ⟨rfl, rfl⟩ | ⟨rfl, rfl⟩ <;> kernel_rfl)
    · exact ⟨(HIS.out _ _ h).1.1, (HIS.out _ _ h).1.2.1, (HIS.out _ _ h).1.2.2.1, (HIS.out _ _ h).1.2.2.2.1, (HIS.out _ _ h).1.2.2.2.2.1, (HIS.out _ _ h).1.2.2.2.2.2.1, (HIS.out _ _ h).1.2.2.2.2.2.2.1, (HIS.out _ _ h).1.2.2.2.2.2.2.2.1, (HIS.out _ _ h).1.2.2.2.2.2.2.2.2.1, (HIS.out _ _ h).1.2.2.2.2.2.2.2.2.2.1, (HIS.out _ _ h).1.2.2.2.2.2.2.2.2.2.2.1, (HIS.out _ _ h).1.2.2.2.2.2.2.2.2.2.2.2.1, (HIS.out _ _ h).1.2.2.2.2.2.2.2.2.2.2.2.2.1, (HIS.out _ _ h).1.2.2.2.2.2.2.2.2.2.2.2.2.2.1, (HIS.out _ _ h).1.2.2.2.2.2.2.2.2.2.2.2.2.2.2.1, (HIS.out _ _ h).1.2.2.2.2.2.2.2.2.2.2.2.2.2.2.2.1, (HIS.out _ _ h).1.2.2.2.2.2.2.2.2.2.2.2.2.2.2.2.2.1, (HIS.out _ _ h).1.2.2.2.2.2.2.2.2.2.2.2.2.2.2.2.2.2.1, (HIS.out _ _ h).1.2.2.2.2.2.2.2.2.2.2.2.2.2.2.2.2.2.2.1, (HIS.out _ _ h).1.2.2.2.2.2.2.2.2.2.2.2.2.2.2.2.2.2.2.2.1, (HIS.out _ _ h).1.2.2.2.2.2.2.2.2.2.2.2.2.2.2.2.2.2.2.2.2.1, (HIS.out _ _ h).1.2.2.2.2.2.2.2.2.2.2.2.2.2.2.2.2.2.2.2.2.2.1, (HIS.out _ _ h).1.2.2.2.2.2.2.2.2.2.2.2.2.2.2.2.2.2.2.2.2.2.2.1, (HIS.out _ _ h).1.2.2.2.2.2.2.2.2.2.2.2.2.2.2.2.2.2.2.2.2.2.2.2.1⟩
    · obtain ⟨hb, -, r1', -, r2', -, r3', -, r4'⟩ := HIS.out _ _ hW
      have HB := Lib.hid hb
      have q1' := r1' (by decide)
      have q2' := r2' (by decide)
      have q3' := r3' (by decide)
      have q4' := r4' (by decide)
      have hHeld2 : (fun W => W.cell? ⟨a1, 0, none⟩ = some (.bool b1) ∧ W.cell? ⟨a1, 1, none⟩ = some (.slice A1 k1 ca1) ∧ W.cell? ⟨a1, 2, none⟩ = some (.slice B1 l1 cb1) ∧ W.cell? ⟨a1 + 1, 0, none⟩ = some (.int .i64 s2) ∧ W.cell? ⟨a1 + 1, 1, none⟩ = some (.slice C2 m2 cc2) ∧ W.cell? ⟨a1 + 1, 2, none⟩ = some (.slice D2 n2 cd2) ∧ W.cell? ⟨a2, 0, none⟩ = some (.bool b3) ∧ W.cell? ⟨a2, 1, none⟩ = some (.slice A3 k3 ca3) ∧ W.cell? ⟨a2, 2, none⟩ = some (.slice B3 l3 cb3) ∧ W.cell? ⟨a2 + 1, 0, none⟩ = some (.int .i64 s4) ∧ W.cell? ⟨a2 + 1, 1, none⟩ = some (.slice C4 m4 cc4) ∧ W.cell? ⟨a2 + 1, 2, none⟩ = some (.slice D4 n4 cd4) ∧ W.cell? ⟨a3, 0, none⟩ = some (.bool b5) ∧ W.cell? ⟨a3, 1, none⟩ = some (.slice A5 k5 ca5) ∧ W.cell? ⟨a3, 2, none⟩ = some (.slice B5 l5 cb5) ∧ W.cell? ⟨a3 + 1, 0, none⟩ = some (.int .i64 s6) ∧ W.cell? ⟨a3 + 1, 1, none⟩ = some (.slice C6 m6 cc6) ∧ W.cell? ⟨a3 + 1, 2, none⟩ = some (.slice D6 n6 cd6) ∧ W.cell? ⟨a4, 0, none⟩ = some (.bool b7) ∧ W.cell? ⟨a4, 1, none⟩ = some (.slice A7 k7 ca7) ∧ W.cell? ⟨a4, 2, none⟩ = some (.slice B7 l7 cb7) ∧ W.cell? ⟨a4 + 1, 0, none⟩ = some (.int .i64 s8) ∧ W.cell? ⟨a4 + 1, 1, none⟩ = some (.slice C8 m8 cc8) ∧ W.cell? ⟨a4 + 1, 2, none⟩ = some (.slice D8 n8 cd8)) W := ⟨hb.1, hb.2.1, hb.2.2.1, hb.2.2.2.1, hb.2.2.2.2.1, hb.2.2.2.2.2.1, hb.2.2.2.2.2.2.1, hb.2.2.2.2.2.2.2.1, hb.2.2.2.2.2.2.2.2.1, hb.2.2.2.2.2.2.2.2.2.1, hb.2.2.2.2.2.2.2.2.2.2.1, hb.2.2.2.2.2.2.2.2.2.2.2.1, hb.2.2.2.2.2.2.2.2.2.2.2.2.1, hb.2.2.2.2.2.2.2.2.2.2.2.2.2.1, hb.2.2.2.2.2.2.2.2.2.2.2.2.2.2.1, hb.2.2.2.2.2.2.2.2.2.2.2.2.2.2.2.1, hb.2.2.2.2.2.2.2.2.2.2.2.2.2.2.2.2.1, hb.2.2.2.2.2.2.2.2.2.2.2.2.2.2.2.2.2.1, hb.2.2.2.2.2.2.2.2.2.2.2.2.2.2.2.2.2.2.1, hb.2.2.2.2.2.2.2.2.2.2.2.2.2.2.2.2.2.2.2.1, hb.2.2.2.2.2.2.2.2.2.2.2.2.2.2.2.2.2.2.2.2.1, hb.2.2.2.2.2.2.2.2.2.2.2.2.2.2.2.2.2.2.2.2.2.1, hb.2.2.2.2.2.2.2.2.2.2.2.2.2.2.2.2.2.2.2.2.2.2.1, hb.2.2.2.2.2.2.2.2.2.2.2.2.2.2.2.2.2.2.2.2.2.2.2.1⟩
      refine take_w (i := 26) 6 (v := ?_) rfl rfl (by kernel_rfl) (by kernel_rfl) (by kernel_rfl) (fun _ _ _ h => h) (Or.inl ⟨rfl, ?_⟩) hHeld2 ?_
      rotate_left
      focus (intro w hSw; (try dsimp only at hSw); go_simp; try with_reducible rfl)
      try simp only [Act.put, List.setIfInBounds_toArray, List.set_cons_zero, List.set_cons_succ]
      refine wpAnyH_done (by kernel_rfl) ?_ _
      refine NoPanic.normal ?_
      obtain ⟨p0, p1, p2, p3, p4, p5, -⟩ := row6_0 q1'
      obtain ⟨t0, t1, t2, t3, t4, t5, -⟩ := row6_0 q2'
      obtain ⟨x0, x1, x2, x3, x4, x5, -⟩ := row6_0 q3'
      obtain ⟨y0, y1, y2, y3, y4, y5, -⟩ := row6_0 q4'
      clear hb r1' r2' r3' r4' q1' q2' q3' q4' hHeld2
      go_wp2_with fail
      first | (refine bodyPost_ret (v := .tuple #[.agg #[.bool b1, .slice A1 k1 ca1, .slice B1 l1 cb1, .bool b3, .slice A3 k3 ca3, .slice B3 l3 cb3], .agg #[.bool b5, .slice A5 k5 ca5, .slice B5 l5 cb5, .bool b7, .slice A7 k7 ca7, .slice B7 l7 cb7], .agg #[.int .i64 s2, .slice C2 m2 cc2, .slice D2 n2 cd2, .int .i64 s4, .slice C4 m4 cc4, .slice D4 n4 cd4], .agg #[.int .i64 s6, .slice C6 m6 cc6, .slice D6 n6 cd6, .int .i64 s8, .slice C8 m8 cc8, .slice D8 n8 cd8], .bool false]) ?_ rfl ?_; focus (simp [results, Tryz.f69]; go_simp; done)) | (refine bodyPost_ret (v := .tuple #[.agg #[.bool b1, .slice A1 k1 ca1, .slice B1 l1 cb1, .bool b3, .slice A3 k3 ca3, .slice B3 l3 cb3], .agg #[.bool b5, .slice A5 k5 ca5, .slice B5 l5 cb5, .bool b7, .slice A7 k7 ca7, .slice B7 l7 cb7], .agg #[.int .i64 s2, .slice C2 m2 cc2, .slice D2 n2 cd2, .int .i64 s4, .slice C4 m4 cc4, .slice D4 n4 cd4], .agg #[.int .i64 s6, .slice C6 m6 cc6, .slice D6 n6 cd6, .int .i64 s8, .slice C8 m8 cc8, .slice D8 n8 cd8], .bool r4]) ?_ rfl ?_; focus (simp [results, Tryz.f69]; go_simp; done))
      exact ⟨_, _, _, _, rfl, ⟨_, _, _, _, _, _, rfl, HB.out.2.2.2.2.2.2.2.2.2.2.2.2.2.2.2.2.2.2.2.2.2.2.2.2.2.1, HB.out.2.2.2.2.2.2.2.2.2.2.2.2.2.2.2.2.2.2.2.2.2.2.2.2.2.2.1⟩, ⟨_, _, _, _, _, _, rfl, HB.out.2.2.2.2.2.2.2.2.2.2.2.2.2.2.2.2.2.2.2.2.2.2.2.2.2.2.2.1, HB.out.2.2.2.2.2.2.2.2.2.2.2.2.2.2.2.2.2.2.2.2.2.2.2.2.2.2.2.2.1⟩, ⟨_, _, _, _, _, _, rfl, HB.out.2.2.2.2.2.2.2.2.2.2.2.2.2.2.2.2.2.2.2.2.2.2.2.2.2.2.2.2.2.1, HB.out.2.2.2.2.2.2.2.2.2.2.2.2.2.2.2.2.2.2.2.2.2.2.2.2.2.2.2.2.2.2.1⟩, ⟨_, _, _, _, _, _, rfl, HB.out.2.2.2.2.2.2.2.2.2.2.2.2.2.2.2.2.2.2.2.2.2.2.2.2.2.2.2.2.2.2.2.1, HB.out.2.2.2.2.2.2.2.2.2.2.2.2.2.2.2.2.2.2.2.2.2.2.2.2.2.2.2.2.2.2.2.2⟩, HB.out.2.2.2.2.2.2.2.2.2.2.2.2.2.2.2.2.2.2.2.2.2.2.2.2.1⟩
    · intro i tl hi
      rcases subs4_in hi with ⟨rfl, rfl⟩ | ⟨rfl, rfl⟩ | ⟨rfl, rfl⟩ | ⟨rfl, rfl⟩
      · refine ⟨_, rfl, fun W K hW hK => ?_⟩
        obtain ⟨hz, hn⟩ := ST1.out [22, 23, 24, 25] (by decide) (by decide) W hW
        rw [show ([22, 23, 24, 25] : List Nat).erase 22 = [23, 24, 25] by decide] at hn
        have HK := Lib.hid (hK _ hn)
        obtain ⟨p0, p1, p2, p3, p4, p5, pf0, pf1, pf2, pf3, pf4, pf5⟩ := row6_0 hz
        clear hz hn hW hK hi hHeld
        go_simp
        try go_wp2_with fail
        exact HK.out
      · refine ⟨_, rfl, fun W K hW hK => ?_⟩
        obtain ⟨hz, hn⟩ := ST2.out [23, 24, 25] (by decide) (by decide) W hW
        rw [show ([23, 24, 25] : List Nat).erase 23 = [24, 25] by decide] at hn
        have HK := Lib.hid (hK _ hn)
        obtain ⟨p0, p1, p2, p3, p4, p5, pf0, pf1, pf2, pf3, pf4, pf5⟩ := row6_0 hz
        clear hz hn hW hK hi hHeld
        go_simp
        try go_wp2_with fail
        exact HK.out
      · refine ⟨_, rfl, fun W K hW hK => ?_⟩
        obtain ⟨hz, hn⟩ := ST3.out [24, 25] (by decide) (by decide) W hW
        rw [show ([24, 25] : List Nat).erase 24 = [25] by decide] at hn
        have HK := Lib.hid (hK _ hn)
        obtain ⟨p0, p1, p2, p3, p4, p5, pf0, pf1, pf2, pf3, pf4, pf5⟩ := row6_0 hz
        clear hz hn hW hK hi hHeld
        go_simp
        try go_wp2_with fail
        exact HK.out
      · refine ⟨_, rfl, fun W K hW hK => ?_⟩
        obtain ⟨hz, hn⟩ := ST4.out [25] (by decide) (by decide) W hW
        rw [show ([25] : List Nat).erase 25 = [] by decide] at hn
        have HK := Lib.hid (hK _ hn)
        obtain ⟨p0, p1, p2, p3, p4, p5, pf0, pf1, pf2, pf3, pf4, pf5⟩ := row6_0 hz
        clear hz hn hW hK hi hHeld
        go_simp
        try go_wp2_with fail
        exact HK.out
theorem spans_c (a b c d : List UInt8) (ha : a.length ≤ 9223372036854775807) (hb : b.length ≤ 9223372036854775807) (hc : c.length ≤ 9223372036854775807) (hd : d.length ≤ 9223372036854775807) (w : World) :
    Calls Tryz.prog 69 #[.agg #[.string ⟨a.toArray⟩, .string ⟨b.toArray⟩, .string ⟨c.toArray⟩, .string ⟨d.toArray⟩]] w fun e w' => SpansR a b c d (((parseS a).1 == 0) && ((parseS b).1 == 0) && ((parseS c).1 == 0) && ((parseS d).1 == 0)) w w' e :=
  spans_r a b c d ha hb hc hd _ _ _ _ rfl rfl rfl rfl _ _ _ _ rfl rfl rfl rfl w
end Go.Proofs.YtpgdefgdboijlaaGreatDoor
