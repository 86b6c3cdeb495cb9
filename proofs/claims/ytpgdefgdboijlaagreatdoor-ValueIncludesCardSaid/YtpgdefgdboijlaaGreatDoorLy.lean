/- The law of spans that include: the walk. Printed by gen_ly.py. -/
import Derived.Test.YtpgdefgdboijlaaGreatDoorSe
import Derived.Test.YtpgdefgdboijlaaGreatDoorSb
import Derived.Test.YtpgdefgdboijlaaGreatDoorSd
import Derived.Test.YtpgdefgdboijlaaGreatDoorPn
import Derived.Test.YtpgdefgdboijlaaGreatDoorVd
import Derived.Deep.DeepCutAuto
import Derived.Deep.LoopGhost
namespace Go.Proofs.YtpgdefgdboijlaaGreatDoor
open Go.RowKit
set_option linter.unusedVariables false
theorem has_of_in {lo hi x : Rat} (h : InS (lo, hi) x) : hasB lo hi x = true := by
  rw [hasB_true, in_sort]; exact .inl h
theorem SpR.form {w : World} {v : Value} {lo hi : Rat} (h : SpR w v lo hi) : ∃ s1 A k c B l d s2 C m e D n f, v = .agg #[.int .i64 s1, .slice A k c, .slice B l d, .int .i64 s2, .slice C m e, .slice D n f] := by
  obtain ⟨x0, x1, x2, y0, y1, y2, rfl, h1, h2⟩ := h
  obtain ⟨s1, A, k, c, B, l, d, e1, -, -, -⟩ := h1.form
  obtain ⟨s2, C, m, e, D, n, f, e2, -, -, -⟩ := h2.form
  simp only [Value.agg.injEq, Array.mk.injEq, List.cons.injEq, and_true] at e1 e2
  obtain ⟨rfl, rfl, rfl⟩ := e1
  obtain ⟨rfl, rfl, rfl⟩ := e2
  exact ⟨s1, A, k, c, B, l, d, s2, C, m, e, D, n, f, rfl⟩
theorem has_btw {lo hi x : Rat} : hasB lo hi x = true ↔ Btw lo hi x := by rw [hasB_true, in_sort]
theorem row_al' {W : World} {g : Nat} {o o' : Obj} (h : W.heap[g]? = some o) : (W.alloc o').heap[g]? = some o := ((ext_alloc W o').block _ (lt_of_block h)).trans h
theorem row_new1' (W : World) (a b : Obj) : ((W.alloc a).alloc b).heap[W.heap.size + 1]? = some b := by
  rw [← heap_size_alloc' W a]; exact heap_alloc_new _ _
theorem row_newp6 (W : World) (g : Nat) (a b c d e f : Value) (o : Obj) : (((((((W.setCell ⟨g, 0, none⟩ a).setCell ⟨g, 1, none⟩ b).setCell ⟨g, 2, none⟩ c).setCell ⟨g, 3, none⟩ d).setCell ⟨g, 4, none⟩ e).setCell ⟨g, 5, none⟩ f).alloc o).heap[W.heap.size]? = some o := by
  have h : ((((((W.setCell ⟨g, 0, none⟩ a).setCell ⟨g, 1, none⟩ b).setCell ⟨g, 2, none⟩ c).setCell ⟨g, 3, none⟩ d).setCell ⟨g, 4, none⟩ e).setCell ⟨g, 5, none⟩ f).heap.size = W.heap.size := by simp [World.setCell]
  rw [← h]; exact heap_alloc_new _ _
theorem put6_otherc {W : World} {g k : Nat} {o : Obj} (h : W.heap[k]? = some o) (hne : k ≠ g) (a b c d e f : Value) : ((((((W.setCell ⟨g, 0, none⟩ a).setCell ⟨g, 1, none⟩ b).setCell ⟨g, 2, none⟩ c).setCell ⟨g, 3, none⟩ d).setCell ⟨g, 4, none⟩ e).setCell ⟨g, 5, none⟩ f).heap[k]? = some o := put6_other h hne a b c d e f
/-- the block holds this span -/
def SpB (wx : World) (g : Nat) (lo hi : Rat) : Prop := ∃ b5 A5 k5 ca5 B5 l5 cb5 b6 A6 k6 ca6 B6 l6 cb6, wx.heap[g]? = some (.cells #[.bool b5, .slice A5 k5 ca5, .slice B5 l5 cb5, .bool b6, .slice A6 k6 ca6, .slice B6 l6 cb6] 68 (0, 0)) ∧ Sp wx (.agg #[.bool b5, .slice A5 k5 ca5, .slice B5 l5 cb5, .bool b6, .slice A6 k6 ca6, .slice B6 l6 cb6]) lo hi
theorem spb_mk {wx : World} {g : Nat} {b5 : Bool} {A5 B5 : Option Addr} {k5 ca5 l5 cb5 : Nat} {b6 : Bool} {A6 B6 : Option Addr} {k6 ca6 l6 cb6 : Nat} {lo hi : Rat} (hr : wx.heap[g]? = some (.cells #[.bool b5, .slice A5 k5 ca5, .slice B5 l5 cb5, .bool b6, .slice A6 k6 ca6, .slice B6 l6 cb6] 68 (0, 0))) (h1 : Nm wx (.agg #[.bool b5, .slice A5 k5 ca5, .slice B5 l5 cb5]) lo) (h2 : Nm wx (.agg #[.bool b6, .slice A6 k6 ca6, .slice B6 l6 cb6]) hi) : SpB wx g lo hi := ⟨b5, A5, k5, ca5, B5, l5, cb5, b6, A6, k6, ca6, B6, l6, cb6, hr, ⟨_, _, _, _, _, _, rfl, h1, h2⟩⟩
theorem sp_aa {w : World} {b5 : Bool} {A5 B5 : Option Addr} {k5 ca5 l5 cb5 : Nat} {b6 : Bool} {A6 B6 : Option Addr} {k6 ca6 l6 cb6 : Nat} {b7 : Bool} {A7 B7 : Option Addr} {k7 ca7 l7 cb7 : Nat} {b8 : Bool} {A8 B8 : Option Addr} {k8 ca8 l8 cb8 : Nat} {l1 h1 l2 h2 : Rat} (k1 : Sp w (.agg #[.bool b5, .slice A5 k5 ca5, .slice B5 l5 cb5, .bool b6, .slice A6 k6 ca6, .slice B6 l6 cb6]) l1 h1) (k2 : Sp w (.agg #[.bool b7, .slice A7 k7 ca7, .slice B7 l7 cb7, .bool b8, .slice A8 k8 ca8, .slice B8 l8 cb8]) l2 h2) :
    SpB ((w.alloc (.cells #[.bool b5, .slice A5 k5 ca5, .slice B5 l5 cb5, .bool b6, .slice A6 k6 ca6, .slice B6 l6 cb6] 68)).alloc (.cells #[.bool b7, .slice A7 k7 ca7, .slice B7 l7 cb7, .bool b8, .slice A8 k8 ca8, .slice B8 l8 cb8] 68)) w.heap.size l1 h1 ∧ SpB ((w.alloc (.cells #[.bool b5, .slice A5 k5 ca5, .slice B5 l5 cb5, .bool b6, .slice A6 k6 ca6, .slice B6 l6 cb6] 68)).alloc (.cells #[.bool b7, .slice A7 k7 ca7, .slice B7 l7 cb7, .bool b8, .slice A8 k8 ca8, .slice B8 l8 cb8] 68)) (w.heap.size + 1) l2 h2 :=
  ⟨⟨b5, A5, k5, ca5, B5, l5, cb5, b6, A6, k6, ca6, B6, l6, cb6, row_al' (heap_alloc_new _ _), k1.mono (ext_trans (ext_alloc _ _) (ext_alloc _ _))⟩, ⟨b7, A7, k7, ca7, B7, l7, cb7, b8, A8, k8, ca8, B8, l8, cb8, row_new1' _ _ _, k2.mono (ext_trans (ext_alloc _ _) (ext_alloc _ _))⟩⟩
theorem sp_pa {w : World} {s : Nat} {b5 : Bool} {A5 B5 : Option Addr} {k5 ca5 l5 cb5 : Nat} {b6 : Bool} {A6 B6 : Option Addr} {k6 ca6 l6 cb6 : Nat} {b7 : Bool} {A7 B7 : Option Addr} {k7 ca7 l7 cb7 : Nat} {b8 : Bool} {A8 B8 : Option Addr} {k8 ca8 l8 cb8 : Nat} {l1 h1 l2 h2 : Rat} (hz : w.heap[s]? = some (.cells #[.bool false, .slice none 0 0, .slice none 0 0, .bool false, .slice none 0 0, .slice none 0 0] 68 (0, 0))) (k1 : Sp w (.agg #[.bool b5, .slice A5 k5 ca5, .slice B5 l5 cb5, .bool b6, .slice A6 k6 ca6, .slice B6 l6 cb6]) l1 h1) (k2 : Sp w (.agg #[.bool b7, .slice A7 k7 ca7, .slice B7 l7 cb7, .bool b8, .slice A8 k8 ca8, .slice B8 l8 cb8]) l2 h2) :
    SpB ((put6 w s (.bool b5) (.slice A5 k5 ca5) (.slice B5 l5 cb5) (.bool b6) (.slice A6 k6 ca6) (.slice B6 l6 cb6)).alloc (.cells #[.bool b7, .slice A7 k7 ca7, .slice B7 l7 cb7, .bool b8, .slice A8 k8 ca8, .slice B8 l8 cb8] 68)) s l1 h1 ∧ SpB ((put6 w s (.bool b5) (.slice A5 k5 ca5) (.slice B5 l5 cb5) (.bool b6) (.slice A6 k6 ca6) (.slice B6 l6 cb6)).alloc (.cells #[.bool b7, .slice A7 k7 ca7, .slice B7 l7 cb7, .bool b8, .slice A8 k8 ca8, .slice B8 l8 cb8] 68)) w.heap.size l2 h2 :=
  ⟨⟨b5, A5, k5, ca5, B5, l5, cb5, b6, A6, k6, ca6, B6, l6, cb6, row_al' (put6_row hz _ _ _ _ _ _), (k1.put6 hz _ _ _ _ _ _).mono (ext_alloc _ _)⟩, ⟨b7, A7, k7, ca7, B7, l7, cb7, b8, A8, k8, ca8, B8, l8, cb8, row_newp6 _ _ _ _ _ _ _ _ _, (k2.put6 hz _ _ _ _ _ _).mono (ext_alloc _ _)⟩⟩
theorem sp_pp {w : World} {s t : Nat} {b5 : Bool} {A5 B5 : Option Addr} {k5 ca5 l5 cb5 : Nat} {b6 : Bool} {A6 B6 : Option Addr} {k6 ca6 l6 cb6 : Nat} {b7 : Bool} {A7 B7 : Option Addr} {k7 ca7 l7 cb7 : Nat} {b8 : Bool} {A8 B8 : Option Addr} {k8 ca8 l8 cb8 : Nat} {l1 h1 l2 h2 : Rat} (hne : s ≠ t) (hz : w.heap[s]? = some (.cells #[.bool false, .slice none 0 0, .slice none 0 0, .bool false, .slice none 0 0, .slice none 0 0] 68 (0, 0))) (hy : w.heap[t]? = some (.cells #[.bool false, .slice none 0 0, .slice none 0 0, .bool false, .slice none 0 0, .slice none 0 0] 68 (0, 0))) (k1 : Sp w (.agg #[.bool b5, .slice A5 k5 ca5, .slice B5 l5 cb5, .bool b6, .slice A6 k6 ca6, .slice B6 l6 cb6]) l1 h1) (k2 : Sp w (.agg #[.bool b7, .slice A7 k7 ca7, .slice B7 l7 cb7, .bool b8, .slice A8 k8 ca8, .slice B8 l8 cb8]) l2 h2) :
    SpB (put6 (put6 w s (.bool b5) (.slice A5 k5 ca5) (.slice B5 l5 cb5) (.bool b6) (.slice A6 k6 ca6) (.slice B6 l6 cb6)) t (.bool b7) (.slice A7 k7 ca7) (.slice B7 l7 cb7) (.bool b8) (.slice A8 k8 ca8) (.slice B8 l8 cb8)) s l1 h1 ∧ SpB (put6 (put6 w s (.bool b5) (.slice A5 k5 ca5) (.slice B5 l5 cb5) (.bool b6) (.slice A6 k6 ca6) (.slice B6 l6 cb6)) t (.bool b7) (.slice A7 k7 ca7) (.slice B7 l7 cb7) (.bool b8) (.slice A8 k8 ca8) (.slice B8 l8 cb8)) t l2 h2 :=
  ⟨⟨b5, A5, k5, ca5, B5, l5, cb5, b6, A6, k6, ca6, B6, l6, cb6, put6_other (put6_row hz _ _ _ _ _ _) hne _ _ _ _ _ _, (k1.put6 hz _ _ _ _ _ _).put6 (put6_other hy hne.symm _ _ _ _ _ _) _ _ _ _ _ _⟩, ⟨b7, A7, k7, ca7, B7, l7, cb7, b8, A8, k8, ca8, B8, l8, cb8, put6_row (put6_other hy hne.symm _ _ _ _ _ _) _ _ _ _ _ _, (k2.put6 hz _ _ _ _ _ _).put6 (put6_other hy hne.symm _ _ _ _ _ _) _ _ _ _ _ _⟩⟩
theorem sp_a1 {w : World} {b5 : Bool} {A5 B5 : Option Addr} {k5 ca5 l5 cb5 : Nat} {b6 : Bool} {A6 B6 : Option Addr} {k6 ca6 l6 cb6 : Nat} {l1 h1 : Rat} (k1 : Sp w (.agg #[.bool b5, .slice A5 k5 ca5, .slice B5 l5 cb5, .bool b6, .slice A6 k6 ca6, .slice B6 l6 cb6]) l1 h1) : SpB (w.alloc (.cells #[.bool b5, .slice A5 k5 ca5, .slice B5 l5 cb5, .bool b6, .slice A6 k6 ca6, .slice B6 l6 cb6] 68)) w.heap.size l1 h1 := ⟨b5, A5, k5, ca5, B5, l5, cb5, b6, A6, k6, ca6, B6, l6, cb6, heap_alloc_new _ _, k1.mono (ext_alloc _ _)⟩
theorem sp_p1 {w : World} {s : Nat} {b5 : Bool} {A5 B5 : Option Addr} {k5 ca5 l5 cb5 : Nat} {b6 : Bool} {A6 B6 : Option Addr} {k6 ca6 l6 cb6 : Nat} {l1 h1 : Rat} (hz : w.heap[s]? = some (.cells #[.bool false, .slice none 0 0, .slice none 0 0, .bool false, .slice none 0 0, .slice none 0 0] 68 (0, 0))) (k1 : Sp w (.agg #[.bool b5, .slice A5 k5 ca5, .slice B5 l5 cb5, .bool b6, .slice A6 k6 ca6, .slice B6 l6 cb6]) l1 h1) : SpB (put6 w s (.bool b5) (.slice A5 k5 ca5) (.slice B5 l5 cb5) (.bool b6) (.slice A6 k6 ca6) (.slice B6 l6 cb6)) s l1 h1 := ⟨b5, A5, k5, ca5, B5, l5, cb5, b6, A6, k6, ca6, B6, l6, cb6, put6_row hz _ _ _ _ _ _, k1.put6 hz _ _ _ _ _ _⟩
theorem bq_powS {M n : Nat} {s : Rat × Rat} (h : Bq M s.1 ∧ Bq M s.2) (hn : n ≤ 6) : Bq (M * 6 + 1) (powS s n).1 ∧ Bq (M * 6 + 1) (powS s n).2 := by
  have hf : Bq M (flipE s n).1 ∧ Bq M (flipE s n).2 := by
    unfold flipE; split
    · exact ⟨h.2.neg, h.1.neg⟩
    · exact h
  have he : Bq M (powE s n).1 ∧ Bq M (powE s n).2 := by
    unfold powE; split
    · refine ⟨bz0 hf.1, ?_⟩
      show Bq M (maxQ _ _)
      unfold maxQ; split
      · exact hf.2
      · exact hf.1.neg
    · exact hf
  have hm : M * n + 1 ≤ M * 6 + 1 := by have := Nat.mul_le_mul_left M hn; omega
  exact ⟨(Bq.pow he.1 n).mono hm, (Bq.pow he.2 n).mono hm⟩
theorem int0_q (w : World) : Calls Tryz.prog 24 #[.int .i64 0] w fun e w' => ∃ v, e = .returned v ∧ Nm w' v 0 ∧ Ext w w' := int_q 0 (by decide) (by decide) w
theorem div_any (M : Nat) (hM : M ≤ 1099511627776) (vx vy : Value) (x y : Rat) (w : World) (hx : Nm w vx x) (hy : Nm w vy y) (bx : Bq M x) (by_ : Bq M y) :
    Calls Tryz.prog 53 #[vx, vy] w fun e w' => ∃ v c q, e = .returned (.tuple #[v, .int .i64 c]) ∧ Nm w' v q ∧ Ext w w' := by
  by_cases h0 : y = 0
  · subst h0
    exact (div_q_zero vx vy x w hx hy).mono fun e w' ⟨v, h1, h2, h3⟩ => ⟨v, 8, 0, h1, h2, h3⟩
  · exact (div_q M hM vx vy x y w hx hy bx by_ h0).mono fun e w' ⟨v, h1, h2, h3⟩ => ⟨v, 0, x / y, h1, h2, h3⟩
theorem SpB.mono {w w' : World} {g : Nat} {lo hi : Rat} (h : SpB w g lo hi) (k : Ext w w') : SpB w' g lo hi := by
  obtain ⟨b5, A5, k5, ca5, B5, l5, cb5, b6, A6, k6, ca6, B6, l6, cb6, hr, h1⟩ := h
  exact ⟨b5, A5, k5, ca5, B5, l5, cb5, b6, A6, k6, ca6, B6, l6, cb6, (k.block _ (lt_of_block hr)).trans hr, h1.mono k⟩
theorem bq_mulS {M : Nat} {a b c d : Rat} (ha : Bq M a) (hb : Bq M b) (hc : Bq M c) (hd : Bq M d) : Bq (M + M) (mulS a b c d).1 ∧ Bq (M + M) (mulS a b c d).2 := by
  have h1 := bq_sort (ha.mul hc) (ha.mul hd)
  have h2 := bq_sort (hb.mul hc) (hb.mul hd)
  unfold mulS
  obtain ⟨e1, e2⟩ := join_ends (sortQ (a * c) (a * d)) (sortQ (b * c) (b * d))
  refine ⟨?_, ?_⟩
  · rcases e1 with e | e <;> rw [e]
    · exact h1.1
    · exact h2.1
  · rcases e2 with e | e <;> rw [e]
    · exact h1.2
    · exact h2.2
theorem out_in {s : Rat × Rat} {y : Rat} (h : InS s y) : InS (roundQ s.1 3 (decide (s.1.num < 0)), roundQ s.2 3 (!decide (s.2.num < 0))) y := by
  obtain ⟨-, h2, -, -, -⟩ := near_order s.1 2 (by decide) (by decide)
  obtain ⟨-, -, h3, -, -⟩ := near_order s.2 2 (by decide) (by decide)
  unfold downQ at h2
  unfold upQ at h3
  unfold InS at *
  dsimp only
  exact ⟨Rat.le_trans h2 h.1, Rat.le_trans h.2 h3⟩
theorem setupI (w : World) (x1 x2 x3 x4 : Obj) : (∀ W, Ext ((((w.alloc x1).alloc x2).alloc x3).alloc x4) W → W.heap[w.heap.size]? = some x1 ∧ W.heap[w.heap.size + 1]? = some x2) ∧ Ext w ((((w.alloc x1).alloc x2).alloc x3).alloc x4) := by
  have e1 := ext_alloc w x1
  have e2 := ext_alloc (w.alloc x1) x2
  have e3 := ext_alloc ((w.alloc x1).alloc x2) x3
  have e4 := ext_alloc (((w.alloc x1).alloc x2).alloc x3) x4
  refine ⟨fun W h => ⟨?_, ?_⟩, ext_trans e1 (ext_trans e2 (ext_trans e3 e4))⟩
  · have k := ext_trans e2 (ext_trans e3 (ext_trans e4 h))
    exact (k.block _ (by simp)).trans (heap_alloc_new w x1)
  · have k := ext_trans e3 (ext_trans e4 h)
    have n := heap_alloc_new (w.alloc x1) x2
    rw [heap_size_alloc' w x1] at n
    exact (k.block _ (lt_of_block n)).trans n
set_option maxRecDepth 100000 in
set_option maxHeartbeats 16000000 in
theorem includes_r (a b c d p q : List UInt8) (ha : a.length ≤ 9223372036854775807) (hb : b.length ≤ 9223372036854775807) (hc : c.length ≤ 9223372036854775807) (hd : d.length ≤ 9223372036854775807) (hp : p.length ≤ 9223372036854775807) (hq : q.length ≤ 9223372036854775807) (r : Bool) (his : (((parseS a).1 == 0) && ((parseS b).1 == 0) && ((parseS c).1 == 0) && ((parseS d).1 == 0)) = r) (kp kq : Int) (hkp : (parseS p).1 = kp) (hkq : (parseS q).1 = kq) (hy hz : Bool) (hhy : hasB (parseS a).2 (parseS b).2 (parseS p).2 = hy) (hhz : hasB (parseS c).2 (parseS d).2 (parseS q).2 = hz) (w : World) (ht : Tab w) :
    Calls Tryz.prog 14 #[.agg #[.string ⟨a.toArray⟩, .string ⟨b.toArray⟩, .string ⟨c.toArray⟩, .string ⟨d.toArray⟩], .string ⟨p.toArray⟩, .string ⟨q.toArray⟩] w fun e w' => e = .returned (.bool true) ∧ Ext w w' := by
  have SP := Lib.hid (spans_c a b c d ha hb hc hd)
  have PP := Lib.hid (parse_c p hp)
  have PQ := Lib.hid (parse_c q hq)
  have BA := Lib.hid (show Bq 5000 (parseS a).2 from (parse_small a).mono (by decide))
  have BB := Lib.hid (show Bq 5000 (parseS b).2 from (parse_small b).mono (by decide))
  have BC := Lib.hid (show Bq 5000 (parseS c).2 from (parse_small c).mono (by decide))
  have BD := Lib.hid (show Bq 5000 (parseS d).2 from (parse_small d).mono (by decide))
  have BY := Lib.hid (show Bq 5000 (parseS p).2 from (parse_small p).mono (by decide))
  have BZ := Lib.hid (show Bq 5000 (parseS q).2 from (parse_small q).mono (by decide))
  have HT := Lib.hid ht
  unfold SpansR at SP
  unfold ParseR at PP PQ
  rw [his] at SP
  rw [hkp] at PP
  rw [hkq] at PQ
  generalize (parseS a).2 = qa at *
  generalize (parseS b).2 = qb at *
  generalize (parseS c).2 = qc at *
  generalize (parseS d).2 = qd at *
  generalize (parseS p).2 = y at *
  generalize (parseS q).2 = z at *
  have HHY := Lib.hid hhy
  have HHZ := Lib.hid hhz
  clear hhy hhz
  clear ha hb hc hd hp hq ht his hkp hkq
  have F0 := Lib.hid (ext_alloc w (.cells #[.string ⟨a.toArray⟩, .string ⟨b.toArray⟩, .string ⟨c.toArray⟩, .string ⟨d.toArray⟩] 83))
  go_enter Tryz.func14, Tryz.ntmps14
  go_wp2_with fail
  refine (SP.out _).mono ?_
  rintro e w1 ⟨v1, v2, v3, v4, rfl, h1, h2, h3, h4, kk⟩
  obtain ⟨b1, A1, k1, ca1, B1, l1, cb1, b2, A2, k2, ca2, B2, l2, cb2, rfl, -, -⟩ := h1.form
  obtain ⟨b3, A3, k3, ca3, B3, l3, cb3, b4, A4, k4, ca4, B4, l4, cb4, rfl, -, -⟩ := h2.form
  obtain ⟨su1, uA, ua, ub, uB, uc, ud, su2, uC, ue, uf, uD, ug, uh, rfl⟩ := h3.form
  obtain ⟨st1, tA, ta, tb, tB, tc, td, st2, tC, te, tf, tD, tg, th, rfl⟩ := h4.form
  obtain ⟨hr, hx⟩ := setupI w1 (.cells #[.bool b1, .slice A1 k1 ca1, .slice B1 l1 cb1, .bool b2, .slice A2 k2 ca2, .slice B2 l2 cb2] 68) (.cells #[.bool b3, .slice A3 k3 ca3, .slice B3 l3 cb3, .bool b4, .slice A4 k4 ca4, .slice B4 l4 cb4] 68) (.cells #[.int .i64 su1, .slice uA ua ub, .slice uB uc ud, .int .i64 su2, .slice uC ue uf, .slice uD ug uh] 85) (.cells #[.int .i64 st1, .slice tA ta tb, .slice tB tc td, .int .i64 st2, .slice tC te tf, .slice tD tg th] 85)
  have HR := Lib.hid hr
  have HX := Lib.hid hx
  have H1 := Lib.hid h1
  have H2 := Lib.hid h2
  have E1 := Lib.hid (ext_trans F0.out kk)
  clear h1 h2 hr hx kk SP
  go_wp2_with fail
  refine (PP.out _).mono ?_
  rintro e w2 ⟨vv, rfl, h9, kk⟩
  obtain ⟨b5, A5, k5, ca5, B5, l5, cb5, rfl⟩ := h9.form2
  have H5 := Lib.hid h9
  have E2 := Lib.hid (show Ext ((((w1.alloc (.cells #[.bool b1, .slice A1 k1 ca1, .slice B1 l1 cb1, .bool b2, .slice A2 k2 ca2, .slice B2 l2 cb2] 68)).alloc (.cells #[.bool b3, .slice A3 k3 ca3, .slice B3 l3 cb3, .bool b4, .slice A4 k4 ca4, .slice B4 l4 cb4] 68)).alloc (.cells #[.int .i64 su1, .slice uA ua ub, .slice uB uc ud, .int .i64 su2, .slice uC ue uf, .slice uD ug uh] 85)).alloc (.cells #[.int .i64 st1, .slice tA ta tb, .slice tB tc td, .int .i64 st2, .slice tC te tf, .slice tD tg th] 85)) w2 from kk)
  clear h9 kk PP
  go_wp2_with fail
  refine (PQ.out _).mono ?_
  rintro e w3 ⟨vv, rfl, h9, kk⟩
  obtain ⟨b6, A6, k6, ca6, B6, l6, cb6, rfl⟩ := h9.form2
  have H6 := Lib.hid h9
  have E3 := Lib.hid (show Ext (w2.alloc (.cells #[.bool b5, .slice A5 k5 ca5, .slice B5 l5 cb5] 25)) w3 from kk)
  clear h9 kk PQ
  go_upto_region 4 with (fail)
  have G3 := ext_alloc w3 (.cells #[.bool b6, .slice A6 k6 ca6, .slice B6 l6 cb6] 25)
  have G2 := ext_trans (ext_alloc w2 (.cells #[.bool b5, .slice A5 k5 ca5, .slice B5 l5 cb5] 25)) (ext_trans E3.out G3)
  have G1 := ext_trans E2.out G2
  have EX := Lib.hid (ext_trans E1.out (ext_trans HX.out G1))
  have TB := Lib.hid (HT.out.mono EX.out)
  have NA := Lib.hid (H1.out.mono (ext_trans HX.out G1))
  have NB := Lib.hid (H2.out.mono (ext_trans HX.out G1))
  have NY := Lib.hid (H5.out.mono G2)
  have NZ := Lib.hid (H6.out.mono G3)
  have HS := Lib.hid (show ∀ W : World, Ext (w3.alloc (.cells #[.bool b6, .slice A6 k6 ca6, .slice B6 l6 cb6] 25)) W → W.cell? ⟨w1.heap.size, 0, none⟩ = some (.bool b1) ∧ W.cell? ⟨w1.heap.size, 1, none⟩ = some (.slice A1 k1 ca1) ∧ W.cell? ⟨w1.heap.size, 2, none⟩ = some (.slice B1 l1 cb1) ∧ W.cell? ⟨w1.heap.size, 3, none⟩ = some (.bool b2) ∧ W.cell? ⟨w1.heap.size, 4, none⟩ = some (.slice A2 k2 ca2) ∧ W.cell? ⟨w1.heap.size, 5, none⟩ = some (.slice B2 l2 cb2) ∧ W.cell? ⟨w1.heap.size + 1, 0, none⟩ = some (.bool b3) ∧ W.cell? ⟨w1.heap.size + 1, 1, none⟩ = some (.slice A3 k3 ca3) ∧ W.cell? ⟨w1.heap.size + 1, 2, none⟩ = some (.slice B3 l3 cb3) ∧ W.cell? ⟨w1.heap.size + 1, 3, none⟩ = some (.bool b4) ∧ W.cell? ⟨w1.heap.size + 1, 4, none⟩ = some (.slice A4 k4 ca4) ∧ W.cell? ⟨w1.heap.size + 1, 5, none⟩ = some (.slice B4 l4 cb4) ∧ W.cell? ⟨w2.heap.size, 0, none⟩ = some (.bool b5) ∧ W.cell? ⟨w2.heap.size, 1, none⟩ = some (.slice A5 k5 ca5) ∧ W.cell? ⟨w2.heap.size, 2, none⟩ = some (.slice B5 l5 cb5) ∧ W.cell? ⟨w3.heap.size, 0, none⟩ = some (.bool b6) ∧ W.cell? ⟨w3.heap.size, 1, none⟩ = some (.slice A6 k6 ca6) ∧ W.cell? ⟨w3.heap.size, 2, none⟩ = some (.slice B6 l6 cb6) from fun W h => by
    obtain ⟨ra, rb⟩ := HR.out W (ext_trans G1 h)
    obtain ⟨i0, i1, i2, i3, i4, i5, -⟩ := row6_0 ra
    obtain ⟨j0, j1, j2, j3, j4, j5, -⟩ := row6_0 rb
    obtain ⟨m0, m1, m2, -⟩ := row3_0 (row3 (ext_trans E3.out (ext_trans G3 h)))
    obtain ⟨n0, n1, n2, -⟩ := row3_0 (row3 h)
    exact ⟨i0, i1, i2, i3, i4, i5, j0, j1, j2, j3, j4, j5, m0, m1, m2, n0, n1, n2⟩)
  clear G1 G2 G3 H1 H2 H5 H6 E1 E2 E3 HX HR HT F0
  generalize w3.alloc (.cells #[.bool b6, .slice A6 k6 ca6, .slice B6 l6 cb6] _) = W0 at *
  generalize w1.heap.size = g1 at *
  generalize w2.heap.size = g2 at *
  generalize w3.heap.size = g3 at *
  have hS0 := HS.out W0 (ext_refl _)
  rcases r with _ | _
  · obtain ⟨q0, q1, q2, q3, q4, q5, q6, q7, q8, q9, q10, q11, q12, q13, q14, q15, q16, q17⟩ := hS0
    go_wp2_with fail
    refine (awake_c _ (TB.out.mono (ext_refl _))).mono ?_
    rintro e wz ⟨rfl, kk⟩
    go_wp2_with fail
    go_ret
    exact ⟨rfl, ext_trans EX.out (ext_trans (ext_refl _) kk)⟩
  by_cases hk1 : kp ≠ 0
  · have z1 : (kp == 0) = false := beq_eq_false_iff_ne.2 hk1
    have z1' : (kp != 0) = true := by simp [bne, z1]
    obtain ⟨q0, q1, q2, q3, q4, q5, q6, q7, q8, q9, q10, q11, q12, q13, q14, q15, q16, q17⟩ := hS0
    go_wp2_with fail
    refine (awake_c _ (TB.out.mono (ext_refl _))).mono ?_
    rintro e wz ⟨rfl, kk⟩
    go_wp2_with fail
    go_ret
    exact ⟨rfl, ext_trans EX.out (ext_trans (ext_refl _) kk)⟩
  obtain rfl : kp = 0 := Decidable.not_not.1 hk1
  clear hk1
  by_cases hk2 : kq ≠ 0
  · have z2 : (kq == 0) = false := beq_eq_false_iff_ne.2 hk2
    have z2' : (kq != 0) = true := by simp [bne, z2]
    obtain ⟨q0, q1, q2, q3, q4, q5, q6, q7, q8, q9, q10, q11, q12, q13, q14, q15, q16, q17⟩ := hS0
    go_wp2_with fail
    refine (awake_c _ (TB.out.mono (ext_refl _))).mono ?_
    rintro e wz ⟨rfl, kk⟩
    go_wp2_with fail
    go_ret
    exact ⟨rfl, ext_trans EX.out (ext_trans (ext_refl _) kk)⟩
  obtain rfl : kq = 0 := Decidable.not_not.1 hk2
  clear hk2
  obtain ⟨q0, q1, q2, q3, q4, q5, q6, q7, q8, q9, q10, q11, q12, q13, q14, q15, q16, q17⟩ := hS0
  go_wp2_with fail
  refine (has_c 5000 (by decide) _ _ qa qb y hy HHY.out _ NA.out NY.out BA.out BB.out BY.out).mono ?_
  rintro e x1 ⟨rfl, kk⟩
  have K1 := Lib.hid kk
  clear kk q0 q1 q2 q3 q4 q5 q6 q7 q8 q9 q10 q11 q12 q13 q14 q15 q16 q17
  rcases hy with _ | _
  · go_wp2_with fail
    refine (awake_c _ (TB.out.mono K1.out)).mono ?_
    rintro e wz ⟨rfl, kk⟩
    go_wp2_with fail
    go_ret
    exact ⟨rfl, ext_trans EX.out (ext_trans K1.out kk)⟩
  obtain ⟨q0, q1, q2, q3, q4, q5, q6, q7, q8, q9, q10, q11, q12, q13, q14, q15, q16, q17⟩ := HS.out _ K1.out
  go_wp2_with fail
  refine (has_c 5000 (by decide) _ _ qc qd z hz HHZ.out _ (NB.out.mono K1.out) (NZ.out.mono K1.out) BC.out BD.out BZ.out).mono ?_
  rintro e x2 ⟨rfl, kk⟩
  have K2 := Lib.hid (ext_trans K1.out kk)
  clear kk q0 q1 q2 q3 q4 q5 q6 q7 q8 q9 q10 q11 q12 q13 q14 q15 q16 q17
  rcases hz with _ | _
  · go_wp2_with fail
    refine (awake_c _ (TB.out.mono K2.out)).mono ?_
    rintro e wz ⟨rfl, kk⟩
    go_wp2_with fail
    go_ret
    exact ⟨rfl, ext_trans EX.out (ext_trans K2.out kk)⟩
  have IY := Lib.hid (has_btw.1 HHY.out)
  have IZ := Lib.hid (has_btw.1 HHZ.out)
  go_upto_region 6 with (fail)
  have HS2 := Lib.hid (fun W (h : Ext x2 W) => HS.out W (ext_trans K2.out h))
  have EX2 := Lib.hid (ext_trans EX.out K2.out)
  have TB2 := Lib.hid (TB.out.mono K2.out)
  have NA2 := Lib.hid (NA.out.mono K2.out)
  have NB2 := Lib.hid (NB.out.mono K2.out)
  have NY2 := Lib.hid (NY.out.mono K2.out)
  have NZ2 := Lib.hid (NZ.out.mono K2.out)
  clear HS EX TB NA NB NY NZ K1 K2 HHY HHZ
  go_cut [99] (fun v wx => v = .bool false ∧ Hid (Ext x2 wx))
  case first => as_aux_lemma =>
    have BSA := Lib.hid (bq_sort BA.out BB.out)
    have BSC := Lib.hid (bq_sort BC.out BD.out)
    have BNG := Lib.hid (show Bq 5000 (negS qc qd).1 ∧ Bq 5000 (negS qc qd).2 from bq_sort BD.out.neg BC.out.neg)
    have BSN := Lib.hid (bq_sort BNG.out.1 BNG.out.2)
    have BMS := Lib.hid (bq_mulS BA.out BB.out BC.out BD.out)
    have hS0 := HS2.out x2 (ext_refl _)
    have e1 := Lib.hid (ext_drew x2)
    have hx1 := Lib.hid (ext_drew x2)
    go_region_held3 (fun W => W.cell? ⟨g1, 0, none⟩ = some (.bool b1) ∧ W.cell? ⟨g1, 1, none⟩ = some (.slice A1 k1 ca1) ∧ W.cell? ⟨g1, 2, none⟩ = some (.slice B1 l1 cb1) ∧ W.cell? ⟨g1, 3, none⟩ = some (.bool b2) ∧ W.cell? ⟨g1, 4, none⟩ = some (.slice A2 k2 ca2) ∧ W.cell? ⟨g1, 5, none⟩ = some (.slice B2 l2 cb2) ∧ W.cell? ⟨g1 + 1, 0, none⟩ = some (.bool b3) ∧ W.cell? ⟨g1 + 1, 1, none⟩ = some (.slice A3 k3 ca3) ∧ W.cell? ⟨g1 + 1, 2, none⟩ = some (.slice B3 l3 cb3) ∧ W.cell? ⟨g1 + 1, 3, none⟩ = some (.bool b4) ∧ W.cell? ⟨g1 + 1, 4, none⟩ = some (.slice A4 k4 ca4) ∧ W.cell? ⟨g1 + 1, 5, none⟩ = some (.slice B4 l4 cb4) ∧ W.cell? ⟨g2, 0, none⟩ = some (.bool b5) ∧ W.cell? ⟨g2, 1, none⟩ = some (.slice A5 k5 ca5) ∧ W.cell? ⟨g2, 2, none⟩ = some (.slice B5 l5 cb5) ∧ W.cell? ⟨g3, 0, none⟩ = some (.bool b6) ∧ W.cell? ⟨g3, 1, none⟩ = some (.slice A6 k6 ca6) ∧ W.cell? ⟨g3, 2, none⟩ = some (.slice B6 l6 cb6))
      (first
        | exact HS2.out _ hx12.out
        | exact HS2.out _ hx11.out
        | exact HS2.out _ hx10.out
        | exact HS2.out _ hx9.out
        | exact HS2.out _ hx8.out
        | exact HS2.out _ hx7.out
        | exact HS2.out _ hx6.out
        | exact HS2.out _ hx5.out
        | exact HS2.out _ hx4.out
        | exact HS2.out _ hx3.out
        | exact HS2.out _ hx2.out
        | exact HS2.out _ hx1.out)
      (first
        | (have _q := hx11
           go_at_call 70
           refine (has_c 40000 (by decide) _ _ (roundQ (sortQ qa qb).1 3 (decide ((sortQ qa qb).1.num < 0))) (roundQ (sortQ qa qb).2 3 (!decide ((sortQ qa qb).2.num < 0))) y true (has_of_in (out_in (in_sort.2 IY.out))) _ J7.out (NY2.out.mono hx11.out) ((Bq.round BSA.out.1 (by decide)).mono (by decide)) ((Bq.round BSA.out.2 (by decide)).mono (by decide)) (BY.out.mono (by decide))).mono ?_
           clear _q
           rintro e wx11 ⟨rfl, kk⟩
           have e12 := Lib.hid kk
           have hx12 := Lib.hid (ext_trans hx11.out kk)
           clear kk)
        | (have _q := hx10
           go_at_call 73
           refine (out_c 5000 (by decide) _ qa qb 3 _ (NA2.out.mono hx10.out) BA.out BB.out).mono ?_
           clear _q
           rintro e wx10 ⟨vv, rfl, h9, kk⟩
           obtain ⟨b20, A20, k20, ca20, B20, l20, cb20, b21, A21, k21, ca21, B21, l21, cb21, rfl, -, -⟩ := h9.form
           have J7 := Lib.hid h9
           clear h9
           have e11 := Lib.hid kk
           have hx11 := Lib.hid (ext_trans hx10.out kk)
           clear kk)
        | (have _q := hx9
           go_at_call 70
           refine (has_c 40000 (by decide) _ _ (mulS qa qb qc qd).1 (mulS qa qb qc qd).2 (y * z) true (has_of_in (mul_in IY.out IZ.out)) _ (J5.out.mono e9.out) J6.out (BMS.out.1.mono (by decide)) (BMS.out.2.mono (by decide)) ((BY.out.mul BZ.out).mono (by decide))).mono ?_
           clear _q
           rintro e wx9 ⟨rfl, kk⟩
           have e10 := Lib.hid kk
           have hx10 := Lib.hid (ext_trans hx9.out kk)
           clear kk)
        | (have _q := hx8
           go_at_call 29
           refine (mul_q 5000 (by decide) _ _ y z _ (NY2.out.mono hx8.out) (NZ2.out.mono hx8.out) BY.out BZ.out).mono ?_
           clear _q
           rintro e wx8 ⟨vv, rfl, h9, kk⟩
           obtain ⟨b19, A19, k19, ca19, B19, l19, cb19, rfl⟩ := h9.form2
           have J6 := Lib.hid h9
           clear h9
           have e9 := Lib.hid kk
           have hx9 := Lib.hid (ext_trans hx8.out kk)
           clear kk)
        | (have _q := hx7
           go_at_call 67
           refine (mulS_c 5000 (by decide) _ _ qa qb qc qd _ (NA2.out.mono hx7.out) (NB2.out.mono hx7.out) BA.out BB.out BC.out BD.out).mono ?_
           clear _q
           rintro e wx7 ⟨vv, rfl, h9, kk⟩
           obtain ⟨b17, A17, k17, ca17, B17, l17, cb17, b18, A18, k18, ca18, B18, l18, cb18, rfl, -, -⟩ := h9.form
           have J5 := Lib.hid h9
           clear h9
           have e8 := Lib.hid kk
           have hx8 := Lib.hid (ext_trans hx7.out kk)
           clear kk)
        | (have _q := hx6
           go_at_call 70
           refine (has_c 40000 (by decide) _ _ ((sortQ qa qb).1 + (sortQ (negS qc qd).1 (negS qc qd).2).1) ((sortQ qa qb).2 + (sortQ (negS qc qd).1 (negS qc qd).2).2) (y - z) true (has_of_in (by rw [Rat.sub_eq_add_neg]; exact add_in (in_sort.2 IY.out) (in_sort.2 (neg_in IZ.out)))) _ (J3.out.mono e6.out) J4.out ((BSA.out.1.add BSN.out.1).mono (by decide)) ((BSA.out.2.add BSN.out.2).mono (by decide)) ((BY.out.sub BZ.out).mono (by decide))).mono ?_
           clear _q
           rintro e wx6 ⟨rfl, kk⟩
           have e7 := Lib.hid kk
           have hx7 := Lib.hid (ext_trans hx6.out kk)
           clear kk)
        | (have _q := hx5
           go_at_call 51
           refine (sub_q 5000 (by decide) _ _ y z _ (NY2.out.mono hx5.out) (NZ2.out.mono hx5.out) BY.out BZ.out).mono ?_
           clear _q
           rintro e wx5 ⟨vv, rfl, h9, kk⟩
           obtain ⟨b16, A16, k16, ca16, B16, l16, cb16, rfl⟩ := h9.form2
           have J4 := Lib.hid h9
           clear h9
           have e6 := Lib.hid kk
           have hx6 := Lib.hid (ext_trans hx5.out kk)
           clear kk)
        | (have _q := hx4
           go_at_call 72
           refine (sub_s 5000 (by decide) _ _ qa qb qc qd _ (NA2.out.mono hx4.out) (NB2.out.mono hx4.out) BA.out BB.out BC.out BD.out).mono ?_
           clear _q
           rintro e wx4 ⟨vv, rfl, h9, kk⟩
           obtain ⟨b14, A14, k14, ca14, B14, l14, cb14, b15, A15, k15, ca15, B15, l15, cb15, rfl, -, -⟩ := h9.form
           have J3 := Lib.hid h9
           clear h9
           have e5 := Lib.hid kk
           have hx5 := Lib.hid (ext_trans hx4.out kk)
           clear kk)
        | (have _q := hx3
           go_at_call 70
           refine (has_c 40000 (by decide) _ _ ((sortQ qa qb).1 + (sortQ qc qd).1) ((sortQ qa qb).2 + (sortQ qc qd).2) (y + z) true (has_of_in (add_in (in_sort.2 IY.out) (in_sort.2 IZ.out))) _ (J1.out.mono e3.out) J2.out ((BSA.out.1.add BSC.out.1).mono (by decide)) ((BSA.out.2.add BSC.out.2).mono (by decide)) ((BY.out.add BZ.out).mono (by decide))).mono ?_
           clear _q
           rintro e wx3 ⟨rfl, kk⟩
           have e4 := Lib.hid kk
           have hx4 := Lib.hid (ext_trans hx3.out kk)
           clear kk)
        | (have _q := hx2
           go_at_call 50
           refine (add_q 5000 (by decide) _ _ y z _ (NY2.out.mono hx2.out) (NZ2.out.mono hx2.out) BY.out BZ.out).mono ?_
           clear _q
           rintro e wx2 ⟨vv, rfl, h9, kk⟩
           obtain ⟨b12, A12, k12, ca12, B12, l12, cb12, rfl⟩ := h9.form2
           have J2 := Lib.hid h9
           clear h9
           have e3 := Lib.hid kk
           have hx3 := Lib.hid (ext_trans hx2.out kk)
           clear kk)
        | (have _q := hx1
           go_at_call 71
           refine (add_s 5000 (by decide) _ _ qa qb qc qd _ (NA2.out.mono hx1.out) (NB2.out.mono hx1.out) BA.out BB.out BC.out BD.out).mono ?_
           clear _q
           rintro e wx1 ⟨vv, rfl, h9, kk⟩
           obtain ⟨b10, A10, k10, ca10, B10, l10, cb10, b11, A11, k11, ca11, B11, l11, cb11, rfl, -, -⟩ := h9.form
           have J1 := Lib.hid h9
           clear h9
           have e2 := Lib.hid kk
           have hx2 := Lib.hid (ext_trans hx1.out kk)
           clear kk))
    all_goals
      go_wp2_with fail
      go_meet
      exact ⟨by first | rfl | simp, hx12⟩
  case rest =>
    obtain ⟨rfl, HE6⟩ := hcut
    rename World => W6
    have HS6 := Lib.hid (fun W (h : Ext W6 W) => HS2.out W (ext_trans HE6.out h))
    have NA6 := Lib.hid (NA2.out.mono HE6.out)
    have NB6 := Lib.hid (NB2.out.mono HE6.out)
    have NY6 := Lib.hid (NY2.out.mono HE6.out)
    have NZ6 := Lib.hid (NZ2.out.mono HE6.out)
    have TB6 := Lib.hid (TB2.out.mono HE6.out)
    have EX6 := Lib.hid (ext_trans EX2.out HE6.out)
    have BMS := Lib.hid (bq_mulS BA.out BB.out BC.out BD.out)
    have HL1 := Lib.hid (block_lt_of_cell (HS6.out W6 (ext_refl _)).1)
    have HL2 := Lib.hid (block_lt_of_cell (HS6.out W6 (ext_refl _)).2.2.2.2.2.2.1)
    have HL3 := Lib.hid (block_lt_of_cell (HS6.out W6 (ext_refl _)).2.2.2.2.2.2.2.2.2.2.2.2.1)
    have HL4 := Lib.hid (block_lt_of_cell (HS6.out W6 (ext_refl _)).2.2.2.2.2.2.2.2.2.2.2.2.2.2.2.1)
    clear HS2 NA2 NB2 NY2 NZ2 TB2 EX2 HE6
    go_upto_region 8 with (fail)
    go_cut [16, 17] (fun p q wx => ∃ gs gp : Nat, p = .pointer (some ⟨gs, 0, none⟩) ∧ q = .pointer (some ⟨gp, 0, none⟩) ∧ Hid (SpB wx gs y qb ∧ SpB wx gp (mulS qa qb qc qd).1 (mulS qa qb qc qd).2) ∧ Ext W6 wx)
    case first =>
      have hx0 := Lib.hid (ext_refl W6)
      have hza := Lib.hid (show W6.heap.size ≤ W6.heap.size from Nat.le_refl _)
      have hzb := Lib.hid (show W6.heap.size ≤ W6.heap.size + 1 from Nat.le_succ _)
      have hS0 := HS6.out W6 (ext_refl _)
      have hqx0 : g1 < W6.heap.size := HL1.out
      have nex00 : g1 ≠ W6.heap.size := Nat.ne_of_lt hqx0
      have nex01 : g1 ≠ W6.heap.size + 1 := Nat.ne_of_lt (Nat.lt_succ_of_lt hqx0)
      clear hqx0
      have hqx1 : g1 + 1 < W6.heap.size := HL2.out
      have nex10 : g1 + 1 ≠ W6.heap.size := Nat.ne_of_lt hqx1
      have nex11 : g1 + 1 ≠ W6.heap.size + 1 := Nat.ne_of_lt (Nat.lt_succ_of_lt hqx1)
      clear hqx1
      have hqx2 : g2 < W6.heap.size := HL3.out
      have nex20 : g2 ≠ W6.heap.size := Nat.ne_of_lt hqx2
      have nex21 : g2 ≠ W6.heap.size + 1 := Nat.ne_of_lt (Nat.lt_succ_of_lt hqx2)
      clear hqx2
      have hqx3 : g3 < W6.heap.size := HL4.out
      have nex30 : g3 ≠ W6.heap.size := Nat.ne_of_lt hqx3
      have nex31 : g3 ≠ W6.heap.size + 1 := Nat.ne_of_lt (Nat.lt_succ_of_lt hqx3)
      clear hqx3
      go_region_held3 (fun W => W.cell? ⟨g1, 0, none⟩ = some (.bool b1) ∧ W.cell? ⟨g1, 1, none⟩ = some (.slice A1 k1 ca1) ∧ W.cell? ⟨g1, 2, none⟩ = some (.slice B1 l1 cb1) ∧ W.cell? ⟨g1, 3, none⟩ = some (.bool b2) ∧ W.cell? ⟨g1, 4, none⟩ = some (.slice A2 k2 ca2) ∧ W.cell? ⟨g1, 5, none⟩ = some (.slice B2 l2 cb2) ∧ W.cell? ⟨g1 + 1, 0, none⟩ = some (.bool b3) ∧ W.cell? ⟨g1 + 1, 1, none⟩ = some (.slice A3 k3 ca3) ∧ W.cell? ⟨g1 + 1, 2, none⟩ = some (.slice B3 l3 cb3) ∧ W.cell? ⟨g1 + 1, 3, none⟩ = some (.bool b4) ∧ W.cell? ⟨g1 + 1, 4, none⟩ = some (.slice A4 k4 ca4) ∧ W.cell? ⟨g1 + 1, 5, none⟩ = some (.slice B4 l4 cb4) ∧ W.cell? ⟨g2, 0, none⟩ = some (.bool b5) ∧ W.cell? ⟨g2, 1, none⟩ = some (.slice A5 k5 ca5) ∧ W.cell? ⟨g2, 2, none⟩ = some (.slice B5 l5 cb5) ∧ W.cell? ⟨g3, 0, none⟩ = some (.bool b6) ∧ W.cell? ⟨g3, 1, none⟩ = some (.slice A6 k6 ca6) ∧ W.cell? ⟨g3, 2, none⟩ = some (.slice B6 l6 cb6))
        ((refine HS6.out _ ?_; (repeat (first | with_reducible refine ext_dr' ?_ | with_reducible refine ext_put6 ?_ (by first | with_reducible exact hza.out | with_reducible exact hzb.out | with_reducible exact hzc.out | with_reducible exact hzd.out) _ _ _ _ _ _ | with_reducible refine ext_al' ?_ _ | with_reducible exact hx2.out | with_reducible exact hx1.out | with_reducible exact hx0.out)); done))
        (first
          | (go_at_call 67
             with_reducible refine (mulS_c 5000 (by decide) _ _ qa qb qc qd ((W6.alloc (.cells #[.bool false, .slice none 0 0, .slice none 0 0, .bool false, .slice none 0 0, .slice none 0 0] 68)).alloc (.cells #[.bool false, .slice none 0 0, .slice none 0 0, .bool false, .slice none 0 0, .slice none 0 0] 68)).drew (NA6.out.mono (by (repeat (first | with_reducible refine ext_dr' ?_ | with_reducible refine ext_put6 ?_ (by first | with_reducible exact hza.out | with_reducible exact hzb.out | with_reducible exact hzc.out | with_reducible exact hzd.out) _ _ _ _ _ _ | with_reducible refine ext_al' ?_ _ | with_reducible exact hx2.out | with_reducible exact hx1.out | with_reducible exact hx0.out)))) (NB6.out.mono (by (repeat (first | with_reducible refine ext_dr' ?_ | with_reducible refine ext_put6 ?_ (by first | with_reducible exact hza.out | with_reducible exact hzb.out | with_reducible exact hzc.out | with_reducible exact hzd.out) _ _ _ _ _ _ | with_reducible refine ext_al' ?_ _ | with_reducible exact hx2.out | with_reducible exact hx1.out | with_reducible exact hx0.out)))) BA.out BB.out BC.out BD.out).mono ?_
             rintro e w22 ⟨vv, rfl, h9, kk⟩
             obtain ⟨b9, A9, k9, ca9, B9, l9, cb9, b10, A10, k10, ca10, B10, l10, cb10, rfl, -, -⟩ := h9.form
             have J9 := Lib.hid h9
             have hx1 := Lib.hid (show Ext W6 w22 from ext_trans (by (repeat (first | with_reducible refine ext_dr' ?_ | with_reducible refine ext_put6 ?_ (by first | with_reducible exact hza.out | with_reducible exact hzb.out | with_reducible exact hzc.out | with_reducible exact hzd.out) _ _ _ _ _ _ | with_reducible refine ext_al' ?_ _ | with_reducible exact hx2.out | with_reducible exact hx1.out | with_reducible exact hx0.out))) kk)
             have za := Lib.hid (row6 (w := W6) (show Ext (W6.alloc (.cells #[.bool false, .slice none 0 0, .slice none 0 0, .bool false, .slice none 0 0, .slice none 0 0] 68)) w22 from ext_trans (ext_alloc (W6.alloc (.cells #[.bool false, .slice none 0 0, .slice none 0 0, .bool false, .slice none 0 0, .slice none 0 0] 68)) _) (ext_trans (ext_drew _) kk)))
             have zb := Lib.hid (show w22.heap[W6.heap.size + 1]? = some (.cells #[.bool false, .slice none 0 0, .slice none 0 0, .bool false, .slice none 0 0, .slice none 0 0] 68 (0, 0)) by rw [← heap_size_alloc' W6 (.cells #[.bool false, .slice none 0 0, .slice none 0 0, .bool false, .slice none 0 0, .slice none 0 0] 68)]; exact row6 (w := W6.alloc (.cells #[.bool false, .slice none 0 0, .slice none 0 0, .bool false, .slice none 0 0, .slice none 0 0] 68)) (ext_trans (ext_drew _) kk))
             obtain ⟨i0, i1, i2, i3, i4, i5, if0, if1, if2, if3, if4, if5⟩ := row6_0 za.out
             obtain ⟨j0, j1, j2, j3, j4, j5, jf0, jf1, jf2, jf3, jf4, jf5⟩ := row6_0 zb.out
             have la := lt_of_block za.out
             have lb := lt_of_block zb.out
             have nn : W6.heap.size ≠ W6.heap.size + 1 := Nat.ne_of_lt (Nat.lt_succ_self _)
             have nm : W6.heap.size + 1 ≠ W6.heap.size := Nat.succ_ne_self _
             have hqy0 : g1 < w22.heap.size := Nat.lt_of_lt_of_le HL1.out hx1.out.size
             have ney00 : g1 ≠ w22.heap.size := Nat.ne_of_lt hqy0
             have ney01 : g1 ≠ w22.heap.size + 1 := Nat.ne_of_lt (Nat.lt_succ_of_lt hqy0)
             clear hqy0
             have hqy1 : g1 + 1 < w22.heap.size := Nat.lt_of_lt_of_le HL2.out hx1.out.size
             have ney10 : g1 + 1 ≠ w22.heap.size := Nat.ne_of_lt hqy1
             have ney11 : g1 + 1 ≠ w22.heap.size + 1 := Nat.ne_of_lt (Nat.lt_succ_of_lt hqy1)
             clear hqy1
             have hqy2 : g2 < w22.heap.size := Nat.lt_of_lt_of_le HL3.out hx1.out.size
             have ney20 : g2 ≠ w22.heap.size := Nat.ne_of_lt hqy2
             have ney21 : g2 ≠ w22.heap.size + 1 := Nat.ne_of_lt (Nat.lt_succ_of_lt hqy2)
             clear hqy2
             have hqy3 : g3 < w22.heap.size := Nat.lt_of_lt_of_le HL4.out hx1.out.size
             have ney30 : g3 ≠ w22.heap.size := Nat.ne_of_lt hqy3
             have ney31 : g3 ≠ w22.heap.size + 1 := Nat.ne_of_lt (Nat.lt_succ_of_lt hqy3)
             clear hqy3
             have hzc := Lib.hid (show W6.heap.size ≤ w22.heap.size from hx1.out.size)
             have hzd := Lib.hid (show W6.heap.size ≤ w22.heap.size + 1 from Nat.le_succ_of_le hx1.out.size)
             clear h9 kk)
          | (go_at_call 67
             with_reducible refine (mulS_c 5000 (by decide) _ _ qa qb qc qd (W6.alloc (.cells #[.bool false, .slice none 0 0, .slice none 0 0, .bool false, .slice none 0 0, .slice none 0 0] 68)).drew (NA6.out.mono (by (repeat (first | with_reducible refine ext_dr' ?_ | with_reducible refine ext_put6 ?_ (by first | with_reducible exact hza.out | with_reducible exact hzb.out | with_reducible exact hzc.out | with_reducible exact hzd.out) _ _ _ _ _ _ | with_reducible refine ext_al' ?_ _ | with_reducible exact hx2.out | with_reducible exact hx1.out | with_reducible exact hx0.out)))) (NB6.out.mono (by (repeat (first | with_reducible refine ext_dr' ?_ | with_reducible refine ext_put6 ?_ (by first | with_reducible exact hza.out | with_reducible exact hzb.out | with_reducible exact hzc.out | with_reducible exact hzd.out) _ _ _ _ _ _ | with_reducible refine ext_al' ?_ _ | with_reducible exact hx2.out | with_reducible exact hx1.out | with_reducible exact hx0.out)))) BA.out BB.out BC.out BD.out).mono ?_
             rintro e w22 ⟨vv, rfl, h9, kk⟩
             obtain ⟨b9, A9, k9, ca9, B9, l9, cb9, b10, A10, k10, ca10, B10, l10, cb10, rfl, -, -⟩ := h9.form
             have J9 := Lib.hid h9
             have hx1 := Lib.hid (show Ext W6 w22 from ext_trans (by (repeat (first | with_reducible refine ext_dr' ?_ | with_reducible refine ext_put6 ?_ (by first | with_reducible exact hza.out | with_reducible exact hzb.out | with_reducible exact hzc.out | with_reducible exact hzd.out) _ _ _ _ _ _ | with_reducible refine ext_al' ?_ _ | with_reducible exact hx2.out | with_reducible exact hx1.out | with_reducible exact hx0.out))) kk)
             have za := Lib.hid (row6 (ext_trans (ext_drew _) kk))
             obtain ⟨i0, i1, i2, i3, i4, i5, if0, if1, if2, if3, if4, if5⟩ := row6_0 za.out
             obtain ⟨i0', i1', i2', i3', i4', i5', if0', if1', if2', if3', if4', if5'⟩ := row6_0 (((ext_alloc w22 (.cells #[.bool false, .slice none 0 0, .slice none 0 0, .bool false, .slice none 0 0, .slice none 0 0] 68)).block _ (lt_of_block za.out)).trans za.out)
             have la := lt_of_block za.out
             have nn := Nat.ne_of_lt la
             have nm := Nat.ne_of_gt la
             have hqy0 : g1 < w22.heap.size := Nat.lt_of_lt_of_le HL1.out hx1.out.size
             have ney00 : g1 ≠ w22.heap.size := Nat.ne_of_lt hqy0
             have ney01 : g1 ≠ w22.heap.size + 1 := Nat.ne_of_lt (Nat.lt_succ_of_lt hqy0)
             clear hqy0
             have hqy1 : g1 + 1 < w22.heap.size := Nat.lt_of_lt_of_le HL2.out hx1.out.size
             have ney10 : g1 + 1 ≠ w22.heap.size := Nat.ne_of_lt hqy1
             have ney11 : g1 + 1 ≠ w22.heap.size + 1 := Nat.ne_of_lt (Nat.lt_succ_of_lt hqy1)
             clear hqy1
             have hqy2 : g2 < w22.heap.size := Nat.lt_of_lt_of_le HL3.out hx1.out.size
             have ney20 : g2 ≠ w22.heap.size := Nat.ne_of_lt hqy2
             have ney21 : g2 ≠ w22.heap.size + 1 := Nat.ne_of_lt (Nat.lt_succ_of_lt hqy2)
             clear hqy2
             have hqy3 : g3 < w22.heap.size := Nat.lt_of_lt_of_le HL4.out hx1.out.size
             have ney30 : g3 ≠ w22.heap.size := Nat.ne_of_lt hqy3
             have ney31 : g3 ≠ w22.heap.size + 1 := Nat.ne_of_lt (Nat.lt_succ_of_lt hqy3)
             clear hqy3
             have hzc := Lib.hid (show W6.heap.size ≤ w22.heap.size from hx1.out.size)
             have hzd := Lib.hid (show W6.heap.size ≤ w22.heap.size + 1 from Nat.le_succ_of_le hx1.out.size)
             clear h9 kk)
          | (go_at_call 67
             with_reducible refine (mulS_c 5000 (by decide) _ _ qa qb qc qd W6.drew (NA6.out.mono (by (repeat (first | with_reducible refine ext_dr' ?_ | with_reducible refine ext_put6 ?_ (by first | with_reducible exact hza.out | with_reducible exact hzb.out | with_reducible exact hzc.out | with_reducible exact hzd.out) _ _ _ _ _ _ | with_reducible refine ext_al' ?_ _ | with_reducible exact hx2.out | with_reducible exact hx1.out | with_reducible exact hx0.out)))) (NB6.out.mono (by (repeat (first | with_reducible refine ext_dr' ?_ | with_reducible refine ext_put6 ?_ (by first | with_reducible exact hza.out | with_reducible exact hzb.out | with_reducible exact hzc.out | with_reducible exact hzd.out) _ _ _ _ _ _ | with_reducible refine ext_al' ?_ _ | with_reducible exact hx2.out | with_reducible exact hx1.out | with_reducible exact hx0.out)))) BA.out BB.out BC.out BD.out).mono ?_
             rintro e w22 ⟨vv, rfl, h9, kk⟩
             obtain ⟨b9, A9, k9, ca9, B9, l9, cb9, b10, A10, k10, ca10, B10, l10, cb10, rfl, -, -⟩ := h9.form
             have J9 := Lib.hid h9
             have hx1 := Lib.hid (show Ext W6 w22 from ext_trans (by (repeat (first | with_reducible refine ext_dr' ?_ | with_reducible refine ext_put6 ?_ (by first | with_reducible exact hza.out | with_reducible exact hzb.out | with_reducible exact hzc.out | with_reducible exact hzd.out) _ _ _ _ _ _ | with_reducible refine ext_al' ?_ _ | with_reducible exact hx2.out | with_reducible exact hx1.out | with_reducible exact hx0.out))) kk)
             have hqy0 : g1 < w22.heap.size := Nat.lt_of_lt_of_le HL1.out hx1.out.size
             have ney00 : g1 ≠ w22.heap.size := Nat.ne_of_lt hqy0
             have ney01 : g1 ≠ w22.heap.size + 1 := Nat.ne_of_lt (Nat.lt_succ_of_lt hqy0)
             clear hqy0
             have hqy1 : g1 + 1 < w22.heap.size := Nat.lt_of_lt_of_le HL2.out hx1.out.size
             have ney10 : g1 + 1 ≠ w22.heap.size := Nat.ne_of_lt hqy1
             have ney11 : g1 + 1 ≠ w22.heap.size + 1 := Nat.ne_of_lt (Nat.lt_succ_of_lt hqy1)
             clear hqy1
             have hqy2 : g2 < w22.heap.size := Nat.lt_of_lt_of_le HL3.out hx1.out.size
             have ney20 : g2 ≠ w22.heap.size := Nat.ne_of_lt hqy2
             have ney21 : g2 ≠ w22.heap.size + 1 := Nat.ne_of_lt (Nat.lt_succ_of_lt hqy2)
             clear hqy2
             have hqy3 : g3 < w22.heap.size := Nat.lt_of_lt_of_le HL4.out hx1.out.size
             have ney30 : g3 ≠ w22.heap.size := Nat.ne_of_lt hqy3
             have ney31 : g3 ≠ w22.heap.size + 1 := Nat.ne_of_lt (Nat.lt_succ_of_lt hqy3)
             clear hqy3
             have hzc := Lib.hid (show W6.heap.size ≤ w22.heap.size from hx1.out.size)
             have hzd := Lib.hid (show W6.heap.size ≤ w22.heap.size + 1 from Nat.le_succ_of_le hx1.out.size)
             clear h9 kk))
      all_goals
        go_wp2_with fail
        go_meet
        have HSM := Lib.hid (show Sp w22 (.agg #[.bool b5, .slice A5 k5 ca5, .slice B5 l5 cb5, .bool b2, .slice A2 k2 ca2, .slice B2 l2 cb2]) y qb from ⟨_, _, _, _, _, _, rfl, NY6.out.mono hx1.out, (sp_ends NA6.out).2.out.mono hx1.out⟩)
      · exact ⟨_, _, rfl, rfl, sp_aa HSM.out J9.out, ext_al' (ext_al' hx1.out _) _⟩
      · exact ⟨_, _, rfl, rfl, (sp_aa J9.out HSM.out).symm, ext_al' (ext_al' hx1.out _) _⟩
      · exact ⟨_, _, rfl, rfl, sp_pa za.out HSM.out J9.out, ext_al' (put6_ext hx1.out hza.out _ _ _ _ _ _) _⟩
      · exact ⟨_, _, rfl, rfl, sp_pp nn za.out zb.out HSM.out J9.out, put6_ext (put6_ext hx1.out hza.out _ _ _ _ _ _) hzb.out _ _ _ _ _ _⟩
      · exact ⟨_, _, rfl, rfl, (sp_pa za.out J9.out HSM.out).symm, ext_al' (put6_ext hx1.out hza.out _ _ _ _ _ _) _⟩
      · exact ⟨_, _, rfl, rfl, sp_pp nm zb.out za.out HSM.out J9.out, put6_ext (put6_ext hx1.out hzb.out _ _ _ _ _ _) hza.out _ _ _ _ _ _⟩
    case rest =>
      obtain ⟨gs, gp, rfl, rfl, HB8, hex8⟩ := hcut
      rename World => W8
      have X8 := Lib.hid hex8
      obtain ⟨b21, A21, k21, ca21, B21, l21, cb21, b22, A22, k22, ca22, B22, l22, cb22, rs8, ss8⟩ := HB8.out.1
      obtain ⟨b23, A23, k23, ca23, B23, l23, cb23, b24, A24, k24, ca24, B24, l24, cb24, rp8, sp8⟩ := HB8.out.2
      have RS8 := Lib.hid rs8
      have RP8 := Lib.hid rp8
      have NSM := Lib.hid ss8
      have NPR := Lib.hid sp8
      have HS8 := Lib.hid (fun W (h : Ext W8 W) => HS6.out W (ext_trans X8.out h))
      have NA8 := Lib.hid (NA6.out.mono X8.out)
      have NB8 := Lib.hid (NB6.out.mono X8.out)
      have NY8 := Lib.hid (NY6.out.mono X8.out)
      have NZ8 := Lib.hid (NZ6.out.mono X8.out)
      have TB8 := Lib.hid (TB6.out.mono X8.out)
      have EX8 := Lib.hid (ext_trans EX6.out X8.out)
      have HLS := Lib.hid (lt_of_block rs8)
      have HL4' := Lib.hid (Nat.lt_of_lt_of_le HL4.out X8.out.size)
      have HS9 := Lib.hid (show ∀ W : World, Ext W8 W → W.cell? ⟨gs, 0, none⟩ = some (.bool b21) ∧ W.cell? ⟨gs, 1, none⟩ = some (.slice A21 k21 ca21) ∧ W.cell? ⟨gs, 2, none⟩ = some (.slice B21 l21 cb21) ∧ W.cell? ⟨gs, 3, none⟩ = some (.bool b22) ∧ W.cell? ⟨gs, 4, none⟩ = some (.slice A22 k22 ca22) ∧ W.cell? ⟨gs, 5, none⟩ = some (.slice B22 l22 cb22) ∧ W.cell? ⟨g3, 0, none⟩ = some (.bool b6) ∧ W.cell? ⟨g3, 1, none⟩ = some (.slice A6 k6 ca6) ∧ W.cell? ⟨g3, 2, none⟩ = some (.slice B6 l6 cb6) from fun W h => by
        obtain ⟨i0, i1, i2, i3, i4, i5, -⟩ := row6_0 ((h.block _ (lt_of_block RS8.out)).trans RS8.out)
        obtain ⟨-, -, -, -, -, -, -, -, -, -, -, -, -, -, -, m0, m1, m2⟩ := HS8.out W h
        exact ⟨i0, i1, i2, i3, i4, i5, m0, m1, m2⟩)
      clear HB8 hex8 rs8 ss8 rp8 sp8 HS6 NA6 NB6 NY6 NZ6 TB6 EX6
      go_upto_region 9 with (fail)
      go_cut [18] (fun p wx => ∃ g9 : Nat, p = .pointer (some ⟨g9, 0, none⟩) ∧ Hid (SpB wx g9 (mulS y qb z z).1 (mulS y qb z z).2) ∧ Ext W8 wx)
      case first => as_aux_lemma =>
        have hx0 := Lib.hid (ext_refl W8)
        have hza := Lib.hid (show W8.heap.size ≤ W8.heap.size from Nat.le_refl _)
        have hS0 := HS9.out W8 (ext_refl _)
        have nx1 : gs ≠ W8.heap.size := Nat.ne_of_lt HLS.out
        have nx2 : g3 ≠ W8.heap.size := Nat.ne_of_lt HL4'.out
        go_region_held3 (fun W => W.cell? ⟨gs, 0, none⟩ = some (.bool b21) ∧ W.cell? ⟨gs, 1, none⟩ = some (.slice A21 k21 ca21) ∧ W.cell? ⟨gs, 2, none⟩ = some (.slice B21 l21 cb21) ∧ W.cell? ⟨gs, 3, none⟩ = some (.bool b22) ∧ W.cell? ⟨gs, 4, none⟩ = some (.slice A22 k22 ca22) ∧ W.cell? ⟨gs, 5, none⟩ = some (.slice B22 l22 cb22) ∧ W.cell? ⟨g3, 0, none⟩ = some (.bool b6) ∧ W.cell? ⟨g3, 1, none⟩ = some (.slice A6 k6 ca6) ∧ W.cell? ⟨g3, 2, none⟩ = some (.slice B6 l6 cb6))
          ((refine HS9.out _ ?_; (repeat (first | with_reducible refine ext_dr' ?_ | with_reducible refine ext_put6 ?_ (by first | with_reducible exact hza.out | with_reducible exact hzb.out | with_reducible exact hzc.out) _ _ _ _ _ _ | with_reducible refine ext_al' ?_ _ | with_reducible exact hx2.out | with_reducible exact hx1.out | with_reducible exact hx0.out)); done))
          (first
            | (have _q := hx1
               go_at_call 67
               with_reducible refine (mulS_c 5000 (by decide) _ _ y qb z z (w21.alloc (.cells #[.bool false, .slice none 0 0, .slice none 0 0, .bool false, .slice none 0 0, .slice none 0 0] 68)) (NSM.out.mono (by (repeat (first | with_reducible refine ext_dr' ?_ | with_reducible refine ext_put6 ?_ (by first | with_reducible exact hza.out | with_reducible exact hzb.out | with_reducible exact hzc.out) _ _ _ _ _ _ | with_reducible refine ext_al' ?_ _ | with_reducible exact hx2.out | with_reducible exact hx1.out | with_reducible exact hx0.out)))) (J21.out.mono (by (repeat (first | with_reducible exact ext_refl _ | with_reducible exact ext_alloc _ _)))) BY.out BB.out BZ.out BZ.out).mono ?_
               clear _q
               rintro e w22 ⟨vv, rfl, h9, kk22⟩
               obtain ⟨b9, A9, k9, ca9, B9, l9, cb9, b10, A10, k10, ca10, B10, l10, cb10, rfl, -, -⟩ := h9.form
               have J22 := Lib.hid h9
               have hx2 := Lib.hid (show Ext W8 w22 from ext_trans (by (repeat (first | with_reducible refine ext_dr' ?_ | with_reducible refine ext_put6 ?_ (by first | with_reducible exact hza.out | with_reducible exact hzb.out | with_reducible exact hzc.out) _ _ _ _ _ _ | with_reducible refine ext_al' ?_ _ | with_reducible exact hx2.out | with_reducible exact hx1.out | with_reducible exact hx0.out))) kk22)
               have hzc := Lib.hid (show W8.heap.size ≤ w22.heap.size from hx2.out.size)
               have nz1 : gs ≠ w22.heap.size := Nat.ne_of_lt (Nat.lt_of_lt_of_le HLS.out hzc.out)
               have nz2 : g3 ≠ w22.heap.size := Nat.ne_of_lt (Nat.lt_of_lt_of_le HL4'.out hzc.out)
               have zc' := Lib.hid (row6 kk22)
               obtain ⟨i0, i1, i2, i3, i4, i5, if0, if1, if2, if3, if4, if5⟩ := row6_0 zc'.out
               clear h9 kk22)
            | (have _q := hx1
               go_at_call 67
               with_reducible refine (mulS_c 5000 (by decide) _ _ y qb z z w21 (NSM.out.mono (by (repeat (first | with_reducible refine ext_dr' ?_ | with_reducible refine ext_put6 ?_ (by first | with_reducible exact hza.out | with_reducible exact hzb.out | with_reducible exact hzc.out) _ _ _ _ _ _ | with_reducible refine ext_al' ?_ _ | with_reducible exact hx2.out | with_reducible exact hx1.out | with_reducible exact hx0.out)))) (J21.out.mono (by (repeat (first | with_reducible exact ext_refl _ | with_reducible exact ext_alloc _ _)))) BY.out BB.out BZ.out BZ.out).mono ?_
               clear _q
               rintro e w22 ⟨vv, rfl, h9, kk22⟩
               obtain ⟨b9, A9, k9, ca9, B9, l9, cb9, b10, A10, k10, ca10, B10, l10, cb10, rfl, -, -⟩ := h9.form
               have J22 := Lib.hid h9
               have hx2 := Lib.hid (show Ext W8 w22 from ext_trans (by (repeat (first | with_reducible refine ext_dr' ?_ | with_reducible refine ext_put6 ?_ (by first | with_reducible exact hza.out | with_reducible exact hzb.out | with_reducible exact hzc.out) _ _ _ _ _ _ | with_reducible refine ext_al' ?_ _ | with_reducible exact hx2.out | with_reducible exact hx1.out | with_reducible exact hx0.out))) kk22)
               have hzc := Lib.hid (show W8.heap.size ≤ w22.heap.size from hx2.out.size)
               have nz1 : gs ≠ w22.heap.size := Nat.ne_of_lt (Nat.lt_of_lt_of_le HLS.out hzc.out)
               have nz2 : g3 ≠ w22.heap.size := Nat.ne_of_lt (Nat.lt_of_lt_of_le HL4'.out hzc.out)
               have za' := Lib.hid ((kk22.block _ (lt_of_block za.out)).trans za.out)
               obtain ⟨i0, i1, i2, i3, i4, i5, if0, if1, if2, if3, if4, if5⟩ := row6_0 za'.out
               clear h9 kk22)
            | (have _q := hx1
               go_at_call 67
               with_reducible refine (mulS_c 5000 (by decide) _ _ y qb z z w21 (NSM.out.mono (by (repeat (first | with_reducible refine ext_dr' ?_ | with_reducible refine ext_put6 ?_ (by first | with_reducible exact hza.out | with_reducible exact hzb.out | with_reducible exact hzc.out) _ _ _ _ _ _ | with_reducible refine ext_al' ?_ _ | with_reducible exact hx2.out | with_reducible exact hx1.out | with_reducible exact hx0.out)))) (J21.out.mono (by (repeat (first | with_reducible exact ext_refl _ | with_reducible exact ext_alloc _ _)))) BY.out BB.out BZ.out BZ.out).mono ?_
               clear _q
               rintro e w22 ⟨vv, rfl, h9, kk22⟩
               obtain ⟨b9, A9, k9, ca9, B9, l9, cb9, b10, A10, k10, ca10, B10, l10, cb10, rfl, -, -⟩ := h9.form
               have J22 := Lib.hid h9
               have hx2 := Lib.hid (show Ext W8 w22 from ext_trans (by (repeat (first | with_reducible refine ext_dr' ?_ | with_reducible refine ext_put6 ?_ (by first | with_reducible exact hza.out | with_reducible exact hzb.out | with_reducible exact hzc.out) _ _ _ _ _ _ | with_reducible refine ext_al' ?_ _ | with_reducible exact hx2.out | with_reducible exact hx1.out | with_reducible exact hx0.out))) kk22)
               have hzc := Lib.hid (show W8.heap.size ≤ w22.heap.size from hx2.out.size)
               have nz1 : gs ≠ w22.heap.size := Nat.ne_of_lt (Nat.lt_of_lt_of_le HLS.out hzc.out)
               have nz2 : g3 ≠ w22.heap.size := Nat.ne_of_lt (Nat.lt_of_lt_of_le HL4'.out hzc.out)
               clear h9 kk22)
            | (go_at_call 74
               with_reducible refine (point_c _ z (W8.alloc (.cells #[.bool false, .slice none 0 0, .slice none 0 0, .bool false, .slice none 0 0, .slice none 0 0] 68)).drew (NZ8.out.mono (by (repeat (first | with_reducible refine ext_dr' ?_ | with_reducible refine ext_put6 ?_ (by first | with_reducible exact hza.out | with_reducible exact hzb.out | with_reducible exact hzc.out) _ _ _ _ _ _ | with_reducible refine ext_al' ?_ _ | with_reducible exact hx2.out | with_reducible exact hx1.out | with_reducible exact hx0.out))))).mono ?_
               rintro e w21 ⟨vv, rfl, h9, kk21⟩
               obtain ⟨b7, A7, k7, ca7, B7, l7, cb7, b8, A8, k8, ca8, B8, l8, cb8, rfl, -, -⟩ := h9.form
               have J21 := Lib.hid h9
               have hx1 := Lib.hid (show Ext W8 w21 from ext_trans (by (repeat (first | with_reducible refine ext_dr' ?_ | with_reducible refine ext_put6 ?_ (by first | with_reducible exact hza.out | with_reducible exact hzb.out | with_reducible exact hzc.out) _ _ _ _ _ _ | with_reducible refine ext_al' ?_ _ | with_reducible exact hx2.out | with_reducible exact hx1.out | with_reducible exact hx0.out))) kk21)
               have hzb := Lib.hid (show W8.heap.size ≤ w21.heap.size from hx1.out.size)
               have ny1 : gs ≠ w21.heap.size := Nat.ne_of_lt (Nat.lt_of_lt_of_le HLS.out hzb.out)
               have ny2 : g3 ≠ w21.heap.size := Nat.ne_of_lt (Nat.lt_of_lt_of_le HL4'.out hzb.out)
               have za := Lib.hid (row6 (ext_trans (ext_drew _) kk21))
               clear h9 kk21)
            | (go_at_call 74
               with_reducible refine (point_c _ z W8.drew (NZ8.out.mono (by (repeat (first | with_reducible refine ext_dr' ?_ | with_reducible refine ext_put6 ?_ (by first | with_reducible exact hza.out | with_reducible exact hzb.out | with_reducible exact hzc.out) _ _ _ _ _ _ | with_reducible refine ext_al' ?_ _ | with_reducible exact hx2.out | with_reducible exact hx1.out | with_reducible exact hx0.out))))).mono ?_
               rintro e w21 ⟨vv, rfl, h9, kk21⟩
               obtain ⟨b7, A7, k7, ca7, B7, l7, cb7, b8, A8, k8, ca8, B8, l8, cb8, rfl, -, -⟩ := h9.form
               have J21 := Lib.hid h9
               have hx1 := Lib.hid (show Ext W8 w21 from ext_trans (by (repeat (first | with_reducible refine ext_dr' ?_ | with_reducible refine ext_put6 ?_ (by first | with_reducible exact hza.out | with_reducible exact hzb.out | with_reducible exact hzc.out) _ _ _ _ _ _ | with_reducible refine ext_al' ?_ _ | with_reducible exact hx2.out | with_reducible exact hx1.out | with_reducible exact hx0.out))) kk21)
               have hzb := Lib.hid (show W8.heap.size ≤ w21.heap.size from hx1.out.size)
               have ny1 : gs ≠ w21.heap.size := Nat.ne_of_lt (Nat.lt_of_lt_of_le HLS.out hzb.out)
               have ny2 : g3 ≠ w21.heap.size := Nat.ne_of_lt (Nat.lt_of_lt_of_le HL4'.out hzb.out)
               clear h9 kk21))
        all_goals
          go_wp2_with fail
          go_meet
        · exact ⟨_, rfl, sp_a1 J22.out, ext_al' hx2.out _⟩
        · exact ⟨_, rfl, sp_p1 zc'.out J22.out, put6_ext hx2.out hzb.out _ _ _ _ _ _⟩
        · exact ⟨_, rfl, sp_p1 za'.out J22.out, put6_ext hx2.out hza.out _ _ _ _ _ _⟩
      case rest =>
        obtain ⟨g9, rfl, HB9, hex9⟩ := hcut
        rename World => W9
        have X9 := Lib.hid hex9
        obtain ⟨b25, A25, k25, ca25, B25, l25, cb25, b26, A26, k26, ca26, B26, l26, cb26, rq9, sq9⟩ := HB9.out
        have RQ9 := Lib.hid rq9
        obtain ⟨HQL, HQH⟩ := sp_ends sq9
        obtain ⟨i0, i1, i2, i3, i4, i5, -⟩ := row6_0 rq9
        obtain ⟨j0, j1, j2, j3, j4, j5, -⟩ := row6_0 ((hex9.block _ (lt_of_block RP8.out)).trans RP8.out)
        have BPM := Lib.hid (bq_mulS BY.out BB.out BZ.out BZ.out)
        have HPI := Lib.hid (part_in IY.out IZ.out)
        clear HB9 hex9 rq9 sq9 HS9
        go_wp2_with fail
        refine (has_c 10000 (by decide) _ _ (mulS qa qb qc qd).1 (mulS qa qb qc qd).2 (mulS y qb z z).1 true (has_of_in HPI.out.1) _ (NPR.out.mono X9.out) HQL.out BMS.out.1 BMS.out.2 BPM.out.1).mono ?_
        rintro e w10 ⟨rfl, kk⟩
        have X10 := Lib.hid (ext_trans X9.out kk)
        have K10 := Lib.hid kk
        clear i0 i1 i2 i3 i4 i5 j0 j1 j2 j3 j4 j5 kk
        obtain ⟨i0, i1, i2, i3, i4, i5, -⟩ := row6_0 ((K10.out.block _ (lt_of_block RQ9.out)).trans RQ9.out)
        obtain ⟨j0, j1, j2, j3, j4, j5, -⟩ := row6_0 ((X10.out.block _ (lt_of_block RP8.out)).trans RP8.out)
        go_wp2_with fail
        refine (has_c 10000 (by decide) _ _ (mulS qa qb qc qd).1 (mulS qa qb qc qd).2 (mulS y qb z z).2 true (has_of_in HPI.out.2) _ (NPR.out.mono X10.out) (HQH.out.mono K10.out) BMS.out.1 BMS.out.2 BPM.out.2).mono ?_
        rintro e w11 ⟨rfl, kk⟩
        have X11 := Lib.hid (ext_trans X10.out kk)
        clear i0 i1 i2 i3 i4 i5 j0 j1 j2 j3 j4 j5 kk K10 X10 X9
        go_wp2_with fail
        go_loopg [19, 20, 21] 6 (fun k n u1 u2 wr => ∃ c : Nat, c + k = 6 ∧ n = .int .i64 (c : Int) ∧ Ext w11 wr)
        case atStart => exact ⟨0, rfl, rfl, ext_refl _⟩
        case round =>
          obtain ⟨c, hc, rfl, hext⟩ := hrel
          rename World => WR
          have XL := Lib.hid hext
          have XR := Lib.hid (ext_trans X11.out hext)
          clear hext
          rcases Nat.eq_zero_or_pos gk with hz | hz
          · subst hz
            obtain rfl : c = 6 := by omega
            clear hc
            rcases hz0 : hasB qc qd 0 with _ | _
            · as_aux_lemma =>
                obtain ⟨q0, q1, q2, q3, q4, q5, q6, q7, q8, q9, q10, q11, q12, q13, q14, q15, q16, q17⟩ := HS8.out _ XR.out
                have HZ0 := Lib.hid hz0
                clear hz0
                have HNB := Lib.hid (show ¬ Btw qc qd 0 from fun h => by have h1 := has_btw.2 h; rw [HZ0.out] at h1; cases h1)
                have HZN := Lib.hid (show z ≠ 0 from fun h => HNB.out (by have h1 := IZ.out; rw [h] at h1; exact h1))
                have HEN := Lib.hid (ends_ne HZ0.out)
                have BMQ := Lib.hid (bq_mulS BA.out BB.out (bq_inv1 BD.out HEN.out.2) (bq_inv1 BC.out HEN.out.1))
                have BYZ := Lib.hid (BY.out.div BZ.out HZN.out)
                go_wp2_with fail
                refine (divS_ok 5000 (by decide) _ _ qa qb qc qd _ (NA8.out.mono XR.out) (NB8.out.mono XR.out) BA.out BB.out BC.out BD.out HZ0.out).mono ?_
                rintro e w12 ⟨v12, rfl, h9, kk⟩
                obtain ⟨b31, A31, k31, ca31, B31, l31, cb31, b32, A32, k32, ca32, B32, l32, cb32, rfl, -, -⟩ := h9.form
                have J12 := Lib.hid h9
                have X12 := Lib.hid (ext_trans XR.out (ext_trans kk (ext_alloc w12 (.cells #[.bool b31, .slice A31 k31 ca31, .slice B31 l31 cb31, .bool b32, .slice A32 k32 ca32, .slice B32 l32 cb32] 68))))
                have HR12 := Lib.hid (fun W (h : Ext (w12.alloc (.cells #[.bool b31, .slice A31 k31 ca31, .slice B31 l31 cb31, .bool b32, .slice A32 k32 ca32, .slice B32 l32 cb32] 68)) W) => row6 h)
                clear h9 kk q0 q1 q2 q3 q4 q5 q6 q7 q8 q9 q10 q11 q12 q13 q14 q15 q16 q17
                obtain ⟨q0, q1, q2, q3, q4, q5, q6, q7, q8, q9, q10, q11, q12, q13, q14, q15, q16, q17⟩ := HS8.out _ X12.out
                go_wp2_with fail
                refine (div_q 5000 (by decide) _ _ y z _ (NY8.out.mono X12.out) (NZ8.out.mono X12.out) BY.out BZ.out HZN.out).mono ?_
                rintro e w13 ⟨v13, rfl, h9, kk⟩
                obtain ⟨b33, A33, k33, ca33, B33, l33, cb33, rfl⟩ := h9.form2
                have K13 := Lib.hid (ext_trans kk (ext_alloc w13 (.cells #[.bool b33, .slice A33 k33 ca33, .slice B33 l33 cb33] 25)))
                have X13 := Lib.hid (ext_trans X12.out K13.out)
                have J13 := Lib.hid (h9.mono (ext_alloc w13 (.cells #[.bool b33, .slice A33 k33 ca33, .slice B33 l33 cb33] 25)))
                have J12' := Lib.hid (J12.out.mono (ext_trans (ext_alloc w12 (.cells #[.bool b31, .slice A31 k31 ca31, .slice B31 l31 cb31, .bool b32, .slice A32 k32 ca32, .slice B32 l32 cb32] 68)) K13.out))
                have HR13 := Lib.hid (fun W (h : Ext (w13.alloc (.cells #[.bool b33, .slice A33 k33 ca33, .slice B33 l33 cb33] 25)) W) => row3 h)
                have HR12' := Lib.hid (fun W (h : Ext (w13.alloc (.cells #[.bool b33, .slice A33 k33 ca33, .slice B33 l33 cb33] 25)) W) => HR12.out W (ext_trans K13.out h))
                clear h9 kk q0 q1 q2 q3 q4 q5 q6 q7 q8 q9 q10 q11 q12 q13 q14 q15 q16 q17
                go_upto_region 20 with (fail)
                clear HR12 J12
                generalize w13.alloc (.cells #[.bool b33, .slice A33 k33 ca33, .slice B33 l33 cb33] _) = W13 at *
                generalize w13.heap.size = g13 at *
                generalize w12.heap.size = g12 at *
                have HS13 := Lib.hid (show ∀ W : World, Ext W13 W → W.cell? ⟨g12, 0, none⟩ = some (.bool b31) ∧ W.cell? ⟨g12, 1, none⟩ = some (.slice A31 k31 ca31) ∧ W.cell? ⟨g12, 2, none⟩ = some (.slice B31 l31 cb31) ∧ W.cell? ⟨g12, 3, none⟩ = some (.bool b32) ∧ W.cell? ⟨g12, 4, none⟩ = some (.slice A32 k32 ca32) ∧ W.cell? ⟨g12, 5, none⟩ = some (.slice B32 l32 cb32) ∧ W.cell? ⟨g13, 0, none⟩ = some (.bool b33) ∧ W.cell? ⟨g13, 1, none⟩ = some (.slice A33 k33 ca33) ∧ W.cell? ⟨g13, 2, none⟩ = some (.slice B33 l33 cb33) ∧ W.cell? ⟨g1 + 1, 0, none⟩ = some (.bool b3) ∧ W.cell? ⟨g1 + 1, 1, none⟩ = some (.slice A3 k3 ca3) ∧ W.cell? ⟨g1 + 1, 2, none⟩ = some (.slice B3 l3 cb3) ∧ W.cell? ⟨g1 + 1, 3, none⟩ = some (.bool b4) ∧ W.cell? ⟨g1 + 1, 4, none⟩ = some (.slice A4 k4 ca4) ∧ W.cell? ⟨g1 + 1, 5, none⟩ = some (.slice B4 l4 cb4) from fun W h => by
                  obtain ⟨-, -, -, -, -, -, j0, j1, j2, j3, j4, j5, -⟩ := HS8.out W (ext_trans X13.out h)
                  obtain ⟨i0, i1, i2, i3, i4, i5, -⟩ := row6_0 (HR12'.out W h)
                  obtain ⟨m0, m1, m2, -⟩ := row3_0 (HR13.out W h)
                  exact ⟨i0, i1, i2, i3, i4, i5, m0, m1, m2, j0, j1, j2, j3, j4, j5⟩)
                have EXF := Lib.hid (ext_trans EX8.out X13.out)
                have TBF := Lib.hid (TB8.out.mono X13.out)
                have NBF := Lib.hid (NB8.out.mono X13.out)
                have hS0 := HS13.out W13 (ext_refl _)
                have hx1 := Lib.hid (ext_drew W13)
                go_region_held3 (fun W => W.cell? ⟨g12, 0, none⟩ = some (.bool b31) ∧ W.cell? ⟨g12, 1, none⟩ = some (.slice A31 k31 ca31) ∧ W.cell? ⟨g12, 2, none⟩ = some (.slice B31 l31 cb31) ∧ W.cell? ⟨g12, 3, none⟩ = some (.bool b32) ∧ W.cell? ⟨g12, 4, none⟩ = some (.slice A32 k32 ca32) ∧ W.cell? ⟨g12, 5, none⟩ = some (.slice B32 l32 cb32) ∧ W.cell? ⟨g13, 0, none⟩ = some (.bool b33) ∧ W.cell? ⟨g13, 1, none⟩ = some (.slice A33 k33 ca33) ∧ W.cell? ⟨g13, 2, none⟩ = some (.slice B33 l33 cb33) ∧ W.cell? ⟨g1 + 1, 0, none⟩ = some (.bool b3) ∧ W.cell? ⟨g1 + 1, 1, none⟩ = some (.slice A3 k3 ca3) ∧ W.cell? ⟨g1 + 1, 2, none⟩ = some (.slice B3 l3 cb3) ∧ W.cell? ⟨g1 + 1, 3, none⟩ = some (.bool b4) ∧ W.cell? ⟨g1 + 1, 4, none⟩ = some (.slice A4 k4 ca4) ∧ W.cell? ⟨g1 + 1, 5, none⟩ = some (.slice B4 l4 cb4))
                  (first
                    | exact HS13.out _ hx5.out
                    | exact HS13.out _ hx4.out
                    | exact HS13.out _ hx3.out
                    | exact HS13.out _ hx2.out
                    | exact HS13.out _ hx1.out)
                  (first
                    | (have _q := hx4
                       go_at_call 19
                       refine (awake_c _ (TBF.out.mono hx4.out)).mono ?_
                       clear _q
                       rintro e wx4 ⟨rfl, kk⟩
                       have e5 := Lib.hid kk
                       have hx5 := Lib.hid (ext_trans hx4.out kk)
                       clear kk)
                    | (have _q := hx3
                       go_at_call 70
                       refine (has_c 5000 (by decide) _ _ qc qd 0 false HZ0.out _ (NBF.out.mono hx3.out) JI.out BC.out BD.out (bz0 BC.out)).mono ?_
                       clear _q
                       rintro e wx3 ⟨rfl, kk⟩
                       have e4 := Lib.hid kk
                       have hx4 := Lib.hid (ext_trans hx3.out kk)
                       clear kk)
                    | (have _q := hx2
                       go_at_call 24
                       refine (int0_q _).mono ?_
                       clear _q
                       rintro e wx2 ⟨vv, rfl, h9, kk⟩
                       obtain ⟨b34, A34, k34, ca34, B34, l34, cb34, rfl⟩ := h9.form2
                       have JI := Lib.hid h9
                       clear h9
                       have e3 := Lib.hid kk
                       have hx3 := Lib.hid (ext_trans hx2.out kk)
                       clear kk)
                    | (have _q := hx1
                       go_at_call 70
                       refine (has_c 10000 (by decide) _ _ (mulS qa qb (1 / qd) (1 / qc)).1 (mulS qa qb (1 / qd) (1 / qc)).2 (y / z) true (has_of_in (div_in IY.out IZ.out HNB.out)) _ (J12'.out.mono hx1.out) (J13.out.mono hx1.out) BMQ.out.1 BMQ.out.2 BYZ.out).mono ?_
                       clear _q
                       rintro e wx1 ⟨rfl, kk⟩
                       have e2 := Lib.hid kk
                       have hx2 := Lib.hid (ext_trans hx1.out kk)
                       clear kk))
                all_goals
                  go_wp2_with fail
                  go_ret
                  exact ⟨by simp, ext_trans EXF.out hx5.out⟩
            · as_aux_lemma =>
                obtain ⟨q0, q1, q2, q3, q4, q5, q6, q7, q8, q9, q10, q11, q12, q13, q14, q15, q16, q17⟩ := HS8.out _ XR.out
                have HZ0 := Lib.hid hz0
                clear hz0
                go_wp2_with fail
                refine (divS_zero 5000 (by decide) _ _ qa qb qc qd _ (NA8.out.mono XR.out) (NB8.out.mono XR.out) BA.out BB.out BC.out BD.out HZ0.out).mono ?_
                rintro e w12 ⟨v12, rfl, h9, kk⟩
                obtain ⟨b31, A31, k31, ca31, B31, l31, cb31, b32, A32, k32, ca32, B32, l32, cb32, rfl, -, -⟩ := h9.form
                have J12 := Lib.hid h9
                have X12 := Lib.hid (ext_trans XR.out (ext_trans kk (ext_alloc w12 (.cells #[.bool b31, .slice A31 k31 ca31, .slice B31 l31 cb31, .bool b32, .slice A32 k32 ca32, .slice B32 l32 cb32] 68))))
                have HR12 := Lib.hid (fun W (h : Ext (w12.alloc (.cells #[.bool b31, .slice A31 k31 ca31, .slice B31 l31 cb31, .bool b32, .slice A32 k32 ca32, .slice B32 l32 cb32] 68)) W) => row6 h)
                clear h9 kk q0 q1 q2 q3 q4 q5 q6 q7 q8 q9 q10 q11 q12 q13 q14 q15 q16 q17
                obtain ⟨q0, q1, q2, q3, q4, q5, q6, q7, q8, q9, q10, q11, q12, q13, q14, q15, q16, q17⟩ := HS8.out _ X12.out
                go_wp2_with fail
                refine (div_any 5000 (by decide) _ _ y z _ (NY8.out.mono X12.out) (NZ8.out.mono X12.out) BY.out BZ.out).mono ?_
                rintro e w13 ⟨v13, c13, qq13, rfl, h9, kk⟩
                obtain ⟨b33, A33, k33, ca33, B33, l33, cb33, rfl⟩ := h9.form2
                have K13 := Lib.hid (ext_trans kk (ext_alloc w13 (.cells #[.bool b33, .slice A33 k33 ca33, .slice B33 l33 cb33] 25)))
                have X13 := Lib.hid (ext_trans X12.out K13.out)
                have J13 := Lib.hid (h9.mono (ext_alloc w13 (.cells #[.bool b33, .slice A33 k33 ca33, .slice B33 l33 cb33] 25)))
                have J12' := Lib.hid (J12.out.mono (ext_trans (ext_alloc w12 (.cells #[.bool b31, .slice A31 k31 ca31, .slice B31 l31 cb31, .bool b32, .slice A32 k32 ca32, .slice B32 l32 cb32] 68)) K13.out))
                have HR13 := Lib.hid (fun W (h : Ext (w13.alloc (.cells #[.bool b33, .slice A33 k33 ca33, .slice B33 l33 cb33] 25)) W) => row3 h)
                have HR12' := Lib.hid (fun W (h : Ext (w13.alloc (.cells #[.bool b33, .slice A33 k33 ca33, .slice B33 l33 cb33] 25)) W) => HR12.out W (ext_trans K13.out h))
                clear h9 kk q0 q1 q2 q3 q4 q5 q6 q7 q8 q9 q10 q11 q12 q13 q14 q15 q16 q17
                go_upto_region 20 with (fail)
                clear HR12 J12
                generalize w13.alloc (.cells #[.bool b33, .slice A33 k33 ca33, .slice B33 l33 cb33] _) = W13 at *
                generalize w13.heap.size = g13 at *
                generalize w12.heap.size = g12 at *
                have HS13 := Lib.hid (show ∀ W : World, Ext W13 W → W.cell? ⟨g1 + 1, 0, none⟩ = some (.bool b3) ∧ W.cell? ⟨g1 + 1, 1, none⟩ = some (.slice A3 k3 ca3) ∧ W.cell? ⟨g1 + 1, 2, none⟩ = some (.slice B3 l3 cb3) ∧ W.cell? ⟨g1 + 1, 3, none⟩ = some (.bool b4) ∧ W.cell? ⟨g1 + 1, 4, none⟩ = some (.slice A4 k4 ca4) ∧ W.cell? ⟨g1 + 1, 5, none⟩ = some (.slice B4 l4 cb4) from fun W h => by
                  obtain ⟨-, -, -, -, -, -, j0, j1, j2, j3, j4, j5, -⟩ := HS8.out W (ext_trans X13.out h)
                  exact ⟨j0, j1, j2, j3, j4, j5⟩)
                have EXF := Lib.hid (ext_trans EX8.out X13.out)
                have TBF := Lib.hid (TB8.out.mono X13.out)
                have NBF := Lib.hid (NB8.out.mono X13.out)
                have hS0 := HS13.out W13 (ext_refl _)
                have hx1 := Lib.hid (ext_drew W13)
                have hun : undef = .tuple #[] := rfl
                refine wp_region_noPanic ?_
                refine wp_region_held_drew (S := fun W => W.cell? ⟨g1 + 1, 0, none⟩ = some (.bool b3) ∧ W.cell? ⟨g1 + 1, 1, none⟩ = some (.slice A3 k3 ca3) ∧ W.cell? ⟨g1 + 1, 2, none⟩ = some (.slice B3 l3 cb3) ∧ W.cell? ⟨g1 + 1, 3, none⟩ = some (.bool b4) ∧ W.cell? ⟨g1 + 1, 4, none⟩ = some (.slice A4 k4 ca4) ∧ W.cell? ⟨g1 + 1, 5, none⟩ = some (.slice B4 l4 cb4)) (by kernel_rfl) (HS13.out _ hx1.out) (fun hHeld => ?_)
                refine take_w (i := 0) 151 (v := ?vv1_0) rfl rfl (by kernel_rfl) (by kernel_rfl) (by kernel_rfl) (fun _ _ _ h => h) (Or.inl ⟨rfl, ?hy1_0⟩) (by assumption) ?rr1_0
                case hy1_0 => (intro w hSw; (try dsimp only at hSw); go_simp; try with_reducible rfl)
                try simp only [Act.put, List.setIfInBounds_toArray, List.set_cons_zero, List.set_cons_succ]
                refine take_w (i := 1) 152 (v := ?vv1_1) rfl rfl (by kernel_rfl) (by kernel_rfl) (by kernel_rfl) (fun _ _ _ h => h) (Or.inl ⟨rfl, ?hy1_1⟩) (by assumption) ?rr1_1
                case hy1_1 => (intro w hSw; (try dsimp only at hSw); go_simp; try with_reducible rfl)
                try simp only [Act.put, List.setIfInBounds_toArray, List.set_cons_zero, List.set_cons_succ]
                refine take_w (i := 2) 153 (v := ?vv1_2) rfl rfl (by kernel_rfl) (by kernel_rfl) (by kernel_rfl) (fun _ _ _ h => h) (Or.inl ⟨rfl, ?hy1_2⟩) (by assumption) ?rr1_2
                case hy1_2 => (intro w hSw; (try dsimp only at hSw); go_simp; try with_reducible rfl)
                try simp only [Act.put, List.setIfInBounds_toArray, List.set_cons_zero, List.set_cons_succ]
                refine take_w (i := 3) 154 (v := undef) rfl rfl (by kernel_rfl) (by kernel_rfl) (by kernel_rfl) (fun _ _ _ h => h) (Or.inr ⟨rfl, rfl⟩) (by assumption) ?_
                try simp only [Act.put, List.setIfInBounds_toArray, List.set_cons_zero, List.set_cons_succ]
                refine take_w (i := 4) 155 (v := undef) rfl rfl (by kernel_rfl) (by kernel_rfl) (by kernel_rfl) (fun _ _ _ h => h) (Or.inr ⟨rfl, rfl⟩) (by assumption) ?_
                try simp only [Act.put, List.setIfInBounds_toArray, List.set_cons_zero, List.set_cons_succ]
                refine take_w (i := 5) 156 (v := undef) rfl rfl (by kernel_rfl) (by kernel_rfl) (by kernel_rfl) (fun _ _ _ h => h) (Or.inr ⟨rfl, rfl⟩) (by assumption) ?_
                try simp only [Act.put, List.setIfInBounds_toArray, List.set_cons_zero, List.set_cons_succ]
                refine take_w (i := 6) 157 (v := undef) rfl rfl (by kernel_rfl) (by kernel_rfl) (by kernel_rfl) (fun _ _ _ h => h) (Or.inr ⟨rfl, rfl⟩) (by assumption) ?_
                try simp only [Act.put, List.setIfInBounds_toArray, List.set_cons_zero, List.set_cons_succ]
                refine take_w (i := 7) 158 (v := undef) rfl rfl (by kernel_rfl) (by kernel_rfl) (by kernel_rfl) (fun _ _ _ h => h) (Or.inr ⟨rfl, rfl⟩) (by assumption) ?_
                try simp only [Act.put, List.setIfInBounds_toArray, List.set_cons_zero, List.set_cons_succ]
                refine call_w (i := 8) 159 rfl rfl (by kernel_rfl) (fun K hK => ?_)
                rw [if_neg (by exact Bool.false_ne_true)]
                refine hK.out _ _ (by assumption) (fun hHeld => ?_)
                clear hK K
                try simp only [Act.put, List.setIfInBounds_toArray, List.set_cons_zero, List.set_cons_succ]
                refine take_w (i := 9) 160 (v := undef) rfl rfl (by kernel_rfl) (by kernel_rfl) (by kernel_rfl) (fun _ _ _ h => h) (Or.inr ⟨rfl, rfl⟩) (by assumption) ?_
                try simp only [Act.put, List.setIfInBounds_toArray, List.set_cons_zero, List.set_cons_succ]
                refine take_w (i := 10) 161 (v := ?vv1_10) rfl rfl (by kernel_rfl) (by kernel_rfl) (by kernel_rfl) (fun _ _ _ h => h) (Or.inl ⟨rfl, ?hy1_10⟩) (by assumption) ?rr1_10
                case hy1_10 => (intro w hSw; (try dsimp only at hSw); go_simp; try with_reducible rfl)
                try simp only [Act.put, List.setIfInBounds_toArray, List.set_cons_zero, List.set_cons_succ]
                refine take_w (i := 11) 162 (v := ?vv1_11) rfl rfl (by kernel_rfl) (by kernel_rfl) (by kernel_rfl) (fun _ _ _ h => h) (Or.inl ⟨rfl, ?hy1_11⟩) (by assumption) ?rr1_11
                case hy1_11 => (intro w hSw; (try dsimp only at hSw); go_simp; try with_reducible rfl)
                try simp only [Act.put, List.setIfInBounds_toArray, List.set_cons_zero, List.set_cons_succ]
                refine take_w (i := 12) 163 (v := ?vv1_12) rfl rfl (by kernel_rfl) (by kernel_rfl) (by kernel_rfl) (fun _ _ _ h => h) (Or.inl ⟨rfl, ?hy1_12⟩) (by assumption) ?rr1_12
                case hy1_12 => (intro w hSw; (try dsimp only at hSw); go_simp; try with_reducible rfl)
                try simp only [Act.put, List.setIfInBounds_toArray, List.set_cons_zero, List.set_cons_succ]
                refine take_w (i := 13) 164 (v := ?vv1_13) rfl rfl (by kernel_rfl) (by kernel_rfl) (by kernel_rfl) (fun _ _ _ h => h) (Or.inl ⟨rfl, ?hy1_13⟩) (by assumption) ?rr1_13
                case hy1_13 => (intro w hSw; (try dsimp only at hSw); go_simp; try with_reducible rfl)
                try simp only [Act.put, List.setIfInBounds_toArray, List.set_cons_zero, List.set_cons_succ]
                refine take_w (i := 14) 165 (v := ?vv1_14) rfl rfl (by kernel_rfl) (by kernel_rfl) (by kernel_rfl) (fun _ _ _ h => h) (Or.inl ⟨rfl, ?hy1_14⟩) (by assumption) ?rr1_14
                case hy1_14 => (intro w hSw; (try dsimp only at hSw); go_simp; try with_reducible rfl)
                try simp only [Act.put, List.setIfInBounds_toArray, List.set_cons_zero, List.set_cons_succ]
                refine call_w (i := 15) 166 rfl rfl (by kernel_rfl) (fun K hK => ?_)
                go_simp
                go_at_call 24
                refine (int0_q _).mono ?_
                rintro e wx1 ⟨vv, rfl, h9, kk⟩
                obtain ⟨b34, A34, k34, ca34, B34, l34, cb34, rfl⟩ := h9.form2
                have JI := Lib.hid h9
                clear h9
                have hx2 := Lib.hid (show Ext W13 wx1 from ext_trans hx1.out kk)
                clear kk
                try go_wp2_with fail
                refine hK.out _ _ (HS13.out _ hx2.out) (fun hHeld => ?_)
                clear hK K
                try simp only [Act.put, List.setIfInBounds_toArray, List.set_cons_zero, List.set_cons_succ]
                refine call_w (i := 16) 167 rfl rfl (by kernel_rfl) (fun K hK => ?_)
                go_simp
                go_at_call 70
                refine (has_c 5000 (by decide) _ _ qc qd 0 true HZ0.out _ (NBF.out.mono hx2.out) JI.out BC.out BD.out (bz0 BC.out)).mono ?_
                rintro e wx2 ⟨rfl, kk⟩
                have hx3 := Lib.hid (show Ext W13 wx2 from ext_trans hx2.out kk)
                clear kk
                try go_wp2_with fail
                refine hK.out _ _ (HS13.out _ hx3.out) (fun hHeld => ?_)
                clear hK K
                try simp only [Act.put, List.setIfInBounds_toArray, List.set_cons_zero, List.set_cons_succ]
                refine take_w (i := 17) 168 (v := ?vv1_17) rfl rfl (by kernel_rfl) (by kernel_rfl) (by kernel_rfl) (fun _ _ _ h => h) (Or.inl ⟨rfl, ?hy1_17⟩) (by assumption) ?rr1_17
                case hy1_17 => (intro w hSw; (try dsimp only at hSw); go_simp; try with_reducible rfl)
                try simp only [Act.put, List.setIfInBounds_toArray, List.set_cons_zero, List.set_cons_succ]
                refine take_w (i := 18) 169 (v := ?vv1_18) rfl rfl (by kernel_rfl) (by kernel_rfl) (by kernel_rfl) (fun _ _ _ h => h) (Or.inl ⟨rfl, ?hy1_18⟩) (by assumption) ?rr1_18
                case hy1_18 => (intro w hSw; (try dsimp only at hSw); go_simp; try with_reducible rfl)
                try simp only [Act.put, List.setIfInBounds_toArray, List.set_cons_zero, List.set_cons_succ]
                refine take_w (i := 19) 170 (v := ?vv1_19) rfl rfl (by kernel_rfl) (by kernel_rfl) (by kernel_rfl) (fun _ _ _ h => h) (Or.inl ⟨rfl, ?hy1_19⟩) (by assumption) ?rr1_19
                case hy1_19 => (intro w hSw; (try dsimp only at hSw); go_simp; try with_reducible rfl)
                try simp only [Act.put, List.setIfInBounds_toArray, List.set_cons_zero, List.set_cons_succ]
                refine call_w (i := 20) 171 rfl rfl (by kernel_rfl) (fun K hK => ?_)
                go_simp
                go_at_call 19
                refine (awake_c _ (TBF.out.mono hx3.out)).mono ?_
                rintro e wx3 ⟨rfl, kk⟩
                have hx4 := Lib.hid (show Ext W13 wx3 from ext_trans hx3.out kk)
                clear kk
                try go_wp2_with fail
                refine hK.out _ _ (HS13.out _ hx4.out) (fun hHeld => ?_)
                clear hK K
                try simp only [Act.put, List.setIfInBounds_toArray, List.set_cons_zero, List.set_cons_succ]
                refine take_w (i := 21) 172 (v := ?vv1_21) rfl rfl (by kernel_rfl) (by kernel_rfl) (by kernel_rfl) (fun _ _ _ h => h) (Or.inl ⟨rfl, ?hy1_21⟩) (by assumption) ?rr1_21
                case hy1_21 => (intro w hSw; (try dsimp only at hSw); go_simp; try with_reducible rfl)
                try simp only [Act.put, List.setIfInBounds_toArray, List.set_cons_zero, List.set_cons_succ]
                refine take_w (i := 22) 6 (v := ?vv1_22) rfl rfl (by kernel_rfl) (by kernel_rfl) (by kernel_rfl) (fun _ _ _ h => h) (Or.inl ⟨rfl, ?hy1_22⟩) (by assumption) ?rr1_22
                case hy1_22 => (intro w hSw; (try dsimp only at hSw); go_simp; try with_reducible rfl)
                try simp only [Act.put, List.setIfInBounds_toArray, List.set_cons_zero, List.set_cons_succ]
                refine wpAnyH_done (by kernel_rfl) ?_ _
                refine NoPanic.normal ?_
                go_wp2_with fail
                go_ret
                exact ⟨by simp, ext_trans EXF.out hx4.out⟩
          · have hc6 : decide ((c : Int) < 6) = true := by rw [decide_eq_true_eq]; omega
            have hc6' : c < 6 := by omega
            have HC6 := Lib.hid hc6'
            have W3_ := Lib.hid (show IntKind.i64.wrap ((c : Int) + 1) = (c : Int) + 1 from IntWalk.i64_in _ (by omega))
            have HZ0 := Lib.hid hz
            have HC := Lib.hid hc
            clear hz hc
            obtain ⟨q0, q1, q2, q3, q4, q5, q6, q7, q8, q9, q10, q11, q12, q13, q14, q15, q16, q17⟩ := HS8.out _ XR.out
            go_wp2_with fail
            refine (pow_q 5000 (by decide) c (by have := HC6.out; omega) _ y _ (NY8.out.mono XR.out) BY.out).mono ?_
            rintro e w12 ⟨v12, rfl, h9, kk⟩
            obtain ⟨b27, A27, k27, ca27, B27, l27, cb27, rfl⟩ := h9.form2
            have J12 := Lib.hid (h9.mono (ext_alloc w12 (.cells #[.bool b27, .slice A27 k27 ca27, .slice B27 l27 cb27] 25)))
            have XK := Lib.hid (ext_trans kk (ext_alloc w12 (.cells #[.bool b27, .slice A27 k27 ca27, .slice B27 l27 cb27] 25)))
            have X12 := Lib.hid (ext_trans XR.out (ext_trans kk (ext_alloc w12 (.cells #[.bool b27, .slice A27 k27 ca27, .slice B27 l27 cb27] 25))))
            have HR12 := Lib.hid (fun W (h : Ext (w12.alloc (.cells #[.bool b27, .slice A27 k27 ca27, .slice B27 l27 cb27] 25)) W) => row3 h)
            clear h9 kk q0 q1 q2 q3 q4 q5 q6 q7 q8 q9 q10 q11 q12 q13 q14 q15 q16 q17
            go_upto_region 16 with (fail)
            generalize w12.alloc (.cells #[.bool b27, .slice A27 k27 ca27, .slice B27 l27 cb27] _) = W12 at *
            generalize w12.heap.size = g12 at *
            have HS12 := Lib.hid (show ∀ W : World, Ext W12 W → W.cell? ⟨g1, 0, none⟩ = some (.bool b1) ∧ W.cell? ⟨g1, 1, none⟩ = some (.slice A1 k1 ca1) ∧ W.cell? ⟨g1, 2, none⟩ = some (.slice B1 l1 cb1) ∧ W.cell? ⟨g1, 3, none⟩ = some (.bool b2) ∧ W.cell? ⟨g1, 4, none⟩ = some (.slice A2 k2 ca2) ∧ W.cell? ⟨g1, 5, none⟩ = some (.slice B2 l2 cb2) ∧ W.cell? ⟨g12, 0, none⟩ = some (.bool b27) ∧ W.cell? ⟨g12, 1, none⟩ = some (.slice A27 k27 ca27) ∧ W.cell? ⟨g12, 2, none⟩ = some (.slice B27 l27 cb27) from fun W h => by
              obtain ⟨i0, i1, i2, i3, i4, i5, -⟩ := HS8.out W (ext_trans X12.out h)
              obtain ⟨m0, m1, m2, -⟩ := row3_0 (HR12.out W h)
              exact ⟨i0, i1, i2, i3, i4, i5, m0, m1, m2⟩)
            have hS0 := HS12.out W12 (ext_refl _)
            have hx1 := Lib.hid (ext_drew W12)
            have BPW := Lib.hid (show Bq 40000 (powS (sortQ qa qb) c).1 ∧ Bq 40000 (powS (sortQ qa qb) c).2 from (bq_powS (bq_sort BA.out BB.out) (show c ≤ 6 by have := HC6.out; omega)).imp (·.mono (by decide)) (·.mono (by decide)))
            have BPY := Lib.hid (show Bq 40000 (y ^ c) from (Bq.pow BY.out c).mono (by have := HC6.out; omega))
            go_cut [138] (fun v wx => v = .bool false ∧ Hid (Ext W12 wx))
            case first => as_aux_lemma =>
              go_region_held3 (fun W => W.cell? ⟨g1, 0, none⟩ = some (.bool b1) ∧ W.cell? ⟨g1, 1, none⟩ = some (.slice A1 k1 ca1) ∧ W.cell? ⟨g1, 2, none⟩ = some (.slice B1 l1 cb1) ∧ W.cell? ⟨g1, 3, none⟩ = some (.bool b2) ∧ W.cell? ⟨g1, 4, none⟩ = some (.slice A2 k2 ca2) ∧ W.cell? ⟨g1, 5, none⟩ = some (.slice B2 l2 cb2) ∧ W.cell? ⟨g12, 0, none⟩ = some (.bool b27) ∧ W.cell? ⟨g12, 1, none⟩ = some (.slice A27 k27 ca27) ∧ W.cell? ⟨g12, 2, none⟩ = some (.slice B27 l27 cb27))
                (first
                  | exact HS12.out _ hx3.out
                  | exact HS12.out _ hx2.out
                  | exact HS12.out _ hx1.out)
                (first
                  | (have _q := hx2
                     go_at_call 70
                     refine (has_c 40000 (by decide) _ _ (powS (sortQ qa qb) c).1 (powS (sortQ qa qb) c).2 (y ^ c) true (has_of_in (pow_in (in_sort.2 IY.out) c)) _ JP.out (J12.out.mono hx2.out) BPW.out.1 BPW.out.2 BPY.out).mono ?_
                     clear _q
                     rintro e wx2 ⟨rfl, kk⟩
                     have e3 := Lib.hid kk
                     have hx3 := Lib.hid (ext_trans hx2.out kk)
                     clear kk)
                  | (have _q := hx1
                     go_at_call 75
                     refine (pow_s 5000 (by decide) _ qa qb (c : Int) c (by have := HC6.out; omega) _ (NA8.out.mono (ext_trans X12.out hx1.out)) BA.out BB.out).mono ?_
                     clear _q
                     rintro e wx1 ⟨vv, rfl, h9, kk⟩
                     obtain ⟨b28, A28, k28, ca28, B28, l28, cb28, b29, A29, k29, ca29, B29, l29, cb29, rfl, -, -⟩ := h9.form
                     have JP := Lib.hid h9
                     clear h9
                     have e2 := Lib.hid kk
                     have hx2 := Lib.hid (ext_trans hx1.out kk)
                     clear kk))
              all_goals
                go_wp2_with fail
                go_meet
                exact ⟨by first | rfl | simp, hx3⟩
            case rest =>
              obtain ⟨rfl, HE16⟩ := hcut
              rename World => W16
              have w3 := W3_.out
              go_wp2_with fail
              go_roundg (gk - 1)
              case measure => have := HZ0.out; omega
              case rel => exact ⟨c + 1, by have := HC.out; have := HZ0.out; omega, by go_num, ext_trans XL.out (ext_trans XK.out HE16.out)⟩
theorem includes_c (a b c d p q : List UInt8) (ha : a.length ≤ 9223372036854775807) (hb : b.length ≤ 9223372036854775807) (hc : c.length ≤ 9223372036854775807) (hd : d.length ≤ 9223372036854775807) (hp : p.length ≤ 9223372036854775807) (hq : q.length ≤ 9223372036854775807) (w : World) (ht : Tab w) :
    Calls Tryz.prog 14 #[.agg #[.string ⟨a.toArray⟩, .string ⟨b.toArray⟩, .string ⟨c.toArray⟩, .string ⟨d.toArray⟩], .string ⟨p.toArray⟩, .string ⟨q.toArray⟩] w fun e w' => e = .returned (.bool true) ∧ Ext w w' :=
  includes_r a b c d p q ha hb hc hd hp hq _ rfl _ _ rfl rfl _ _ rfl rfl w ht
end Go.Proofs.YtpgdefgdboijlaaGreatDoor
