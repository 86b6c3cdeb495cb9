/- Spans: quotients. Printed by gen_sd.py. -/
import Derived.Test.YtpgdefgdboijlaaGreatDoorSa
namespace Go.Proofs.YtpgdefgdboijlaaGreatDoor
open Go.RowKit
set_option linter.unusedVariables false
/-- the block holds this number -/
def OutV (wx : World) (g : Nat) (q : Rat) : Prop := ∃ b A k c B l d, wx.heap[g]? = some (.cells #[.bool b, .slice A k c, .slice B l d] 25 (0, 0)) ∧ Nm wx (.agg #[.bool b, .slice A k c, .slice B l d]) q
theorem outv_new {w : World} {b : Bool} {A B : Option Addr} {k c l d : Nat} {q : Rat} (h : Nm w (.agg #[.bool b, .slice A k c, .slice B l d]) q) :
    OutV (w.alloc (.cells #[.bool b, .slice A k c, .slice B l d] 25)) w.heap.size q := ⟨b, A, k, c, B, l, d, row3 (ext_refl _), h.mono (ext_alloc _ _)⟩
theorem outv_put {w : World} {g : Nat} {b : Bool} {A B : Option Addr} {k c l d : Nat} {q : Rat} (h : Nm w (.agg #[.bool b, .slice A k c, .slice B l d]) q)
    (hr : w.heap[g]? = some (.cells #[.bool false, .slice none 0 0, .slice none 0 0] 25 (0, 0))) :
    OutV (((w.setCell ⟨g, 0, none⟩ (.bool b)).setCell ⟨g, 1, none⟩ (.slice A k c)).setCell ⟨g, 2, none⟩ (.slice B l d)) g q := ⟨b, A, k, c, B, l, d, put3_row hr _ _ _, h.put3 hr⟩
theorem ext_alV {a b : World} (h : Ext a b) (o : Obj) : Ext a (b.alloc o) := ext_trans h (ext_alloc _ _)
theorem ext_drV {a b : World} (h : Ext a b) : Ext a b.drew := ext_trans h (ext_drew _)
theorem int1_q (w : World) : Calls Tryz.prog 24 #[.int .i64 1] w fun e w' => ∃ v, e = .returned v ∧ Nm w' v 1 ∧ Ext w w' := int_q 1 (by decide) (by decide) w
theorem bq_inv1 {M : Nat} {x : Rat} (h : Bq M x) (h0 : x ≠ 0) : Bq M (1 / x) := by
  have h1 := div_parts 1 x h0
  rw [← h1]
  exact bq_rat (by rw [show (1 : Rat).num = 1 from rfl, show (1 : Int).natAbs = 1 from rfl, Nat.one_mul]; exact h.2) (by rw [show (1 : Rat).den = 1 from rfl, Nat.one_mul]; exact h.1) (by rw [show (1 : Rat).den = 1 from rfl, Nat.one_mul]; exact fun e => h0 (Rat.num_eq_zero.1 (Int.natAbs_eq_zero.1 e)))
theorem ends_ne {lo hi : Rat} (h : hasB lo hi 0 = false) : lo ≠ 0 ∧ hi ≠ 0 := by
  have hn : ¬ InS (sortQ lo hi) 0 := fun h1 => by rw [hasB_true.2 h1] at h; cases h
  rw [in_sort] at hn
  refine ⟨fun e => hn ?_, fun e => hn ?_⟩
  · subst e; exact btw_left _ _
  · subst e; exact btw_right _ _
theorem one_rowD {W : World} {g : Nat} {b7 A7 k7 ca7 B7 l7 cb7 b8 A8 k8 ca8 B8 l8 cb8 : _} (h : W.heap[g]? = some (.cells #[.bool b7, .slice A7 k7 ca7, .slice B7 l7 cb7, .bool b8, .slice A8 k8 ca8, .slice B8 l8 cb8] 68 (0, 0))) : W.cell? ⟨g, 0, none⟩ = some (.bool b7) ∧ W.cell? ⟨g, 1, none⟩ = some (.slice A7 k7 ca7) ∧ W.cell? ⟨g, 2, none⟩ = some (.slice B7 l7 cb7) ∧ W.cell? ⟨g, 3, none⟩ = some (.bool b8) ∧ W.cell? ⟨g, 4, none⟩ = some (.slice A8 k8 ca8) ∧ W.cell? ⟨g, 5, none⟩ = some (.slice B8 l8 cb8) := by
  obtain ⟨p0, p1, p2, p3, p4, p5, -⟩ := row6_0 h
  exact ⟨p0, p1, p2, p3, p4, p5⟩
theorem bz0 {M : Nat} {q : Rat} (h : Bq M q) : Bq M 0 := ⟨by show 0 < 2 ^ M; exact Nat.pow_pos (by omega), Nat.lt_of_le_of_lt (show (0 : Rat).den ≤ q.den from q.den_pos) h.2⟩
set_option maxRecDepth 100000 in
set_option maxHeartbeats 8000000 in
theorem divS_zero (M : Nat) (hM : M ≤ 134217728) (va vb : Value) (qa qb qc qd : Rat) (w : World) (ha : Sp w va qa qb) (hb : Sp w vb qc qd) (hp1 : Bq M qa) (hp2 : Bq M qb) (hp3 : Bq M qc) (hp4 : Bq M qd) (hz : hasB qc qd 0 = true) :
    Calls Tryz.prog 76 #[va, vb] w fun e w' => ∃ v, e = .returned (.tuple #[v, .int .i64 8]) ∧ Sp w' v (0) (0) ∧ Ext w w' := by
  obtain ⟨b5, A5, k5, ca5, B5, l5, cb5, b6, A6, k6, ca6, B6, l6, cb6, rfl, -, -⟩ := ha.form
  obtain ⟨b7, A7, k7, ca7, B7, l7, cb7, b8, A8, k8, ca8, B8, l8, cb8, rfl, -, -⟩ := hb.form
  have HA := Lib.hid ha
  have HB := Lib.hid hb
  have BL1 := Lib.hid hp1
  have BL2 := Lib.hid hp2
  have BL3 := Lib.hid hp3
  have BL4 := Lib.hid hp4
  have HM := Lib.hid hM
  have HZ0 := Lib.hid hz
  clear ha hb hp1 hp2 hp3 hp4 hM hz
  obtain ⟨hw0, hra, hrb, hrz⟩ := setupS3 w (.bool b5) (.slice A5 k5 ca5) (.slice B5 l5 cb5) (.bool b6) (.slice A6 k6 ca6) (.slice B6 l6 cb6) (.bool b7) (.slice A7 k7 ca7) (.slice B7 l7 cb7) (.bool b8) (.slice A8 k8 ca8) (.slice B8 l8 cb8)
  have RA := Lib.hid hra
  have RB := Lib.hid hrb
  have RZ := Lib.hid hrz
  have hww := Lib.hid hw0
  clear hw0 hra hrb hrz
  go_enter Tryz.func76, Tryz.ntmps76
  go_wp2_with fail
  generalize World.alloc (World.alloc (World.alloc w (.cells #[.bool b5, .slice A5 k5 ca5, .slice B5 l5 cb5, .bool b6, .slice A6 k6 ca6, .slice B6 l6 cb6] _)) (.cells #[.bool b7, .slice A7 k7 ca7, .slice B7 l7 cb7, .bool b8, .slice A8 k8 ca8, .slice B8 l8 cb8] _)) (.cells #[.bool false, .slice none 0 0, .slice none 0 0, .bool false, .slice none 0 0, .slice none 0 0] _) = W2 at *
  have LE1 := Lib.hid (show w.heap.size ≤ w.heap.size + 1 + 1 from Nat.le_succ_of_le (Nat.le_succ _))
  generalize hg0 : w.heap.size = g0 at *
  have HG0 := Lib.hid hg0
  clear hg0
  have HR0 := Lib.hid (show ∀ W : World, Ext W2 W → W.heap[g0]? = some (.cells #[.bool b5, .slice A5 k5 ca5, .slice B5 l5 cb5, .bool b6, .slice A6 k6 ca6, .slice B6 l6 cb6] 68 (0, 0)) ∧ W.heap[g0 + 1]? = some (.cells #[.bool b7, .slice A7 k7 ca7, .slice B7 l7 cb7, .bool b8, .slice A8 k8 ca8, .slice B8 l8 cb8] 68 (0, 0)) ∧ W.heap[g0 + 1 + 1]? = some (.cells #[.bool false, .slice none 0 0, .slice none 0 0, .bool false, .slice none 0 0, .slice none 0 0] 68 (0, 0)) from fun W h =>
    ⟨(h.block _ (lt_of_block RA.out)).trans RA.out, (h.block _ (lt_of_block RB.out)).trans RB.out, (h.block _ (lt_of_block RZ.out)).trans RZ.out⟩)
  refine (has_c M (Nat.le_trans HM.out (by decide)) _ _ qc qd 0 true HZ0.out _ (HB.out.mono hww.out) (Nm.zero _) BL3.out BL4.out (bz0 BL3.out)).mono ?_
  rintro e w3 ⟨rfl, kk⟩
  have K3 := Lib.hid kk
  clear kk
  obtain ⟨-, -, rz⟩ := HR0.out _ K3.out
  obtain ⟨z0, z1, z2, z3, z4, z5, zf0, zf1, zf2, zf3, zf4, zf5⟩ := row6_0 rz
  have RZ3 := Lib.hid rz
  clear rz
  go_wp2_with fail
  refine bodyPost_ret (v := .tuple #[.agg #[.bool false, .slice none 0 0, .slice none 0 0, .bool false, .slice none 0 0, .slice none 0 0], .int .i64 8]) (by simp [results, Tryz.f76]; go_simp) rfl ?_
  exact ⟨_, rfl, ⟨_, _, _, _, _, _, rfl, Nm.zero _, Nm.zero _⟩, put6_ext (ext_trans hww.out K3.out) (by rw [HG0.out]; exact LE1.out) _ _ _ _ _ _⟩
set_option maxRecDepth 100000 in
set_option maxHeartbeats 8000000 in
theorem divS_ok (M : Nat) (hM : M ≤ 134217728) (va vb : Value) (qa qb qc qd : Rat) (w : World) (ha : Sp w va qa qb) (hb : Sp w vb qc qd) (hp1 : Bq M qa) (hp2 : Bq M qb) (hp3 : Bq M qc) (hp4 : Bq M qd) (hz : hasB qc qd 0 = false) :
    Calls Tryz.prog 76 #[va, vb] w fun e w' => ∃ v, e = .returned (.tuple #[v, .int .i64 0]) ∧ Sp w' v (mulS qa qb (1 / qd) (1 / qc)).1 (mulS qa qb (1 / qd) (1 / qc)).2 ∧ Ext w w' := by
  obtain ⟨b5, A5, k5, ca5, B5, l5, cb5, b6, A6, k6, ca6, B6, l6, cb6, rfl, -, -⟩ := ha.form
  obtain ⟨b7, A7, k7, ca7, B7, l7, cb7, b8, A8, k8, ca8, B8, l8, cb8, rfl, -, -⟩ := hb.form
  have HA := Lib.hid ha
  have HB := Lib.hid hb
  have BL1 := Lib.hid hp1
  have BL2 := Lib.hid hp2
  have BL3 := Lib.hid hp3
  have BL4 := Lib.hid hp4
  have HM := Lib.hid hM
  have HZ0 := Lib.hid hz
  clear ha hb hp1 hp2 hp3 hp4 hM hz
  obtain ⟨hw0, hra, hrb, hrz⟩ := setupS3 w (.bool b5) (.slice A5 k5 ca5) (.slice B5 l5 cb5) (.bool b6) (.slice A6 k6 ca6) (.slice B6 l6 cb6) (.bool b7) (.slice A7 k7 ca7) (.slice B7 l7 cb7) (.bool b8) (.slice A8 k8 ca8) (.slice B8 l8 cb8)
  have RA := Lib.hid hra
  have RB := Lib.hid hrb
  have RZ := Lib.hid hrz
  have hww := Lib.hid hw0
  clear hw0 hra hrb hrz
  go_enter Tryz.func76, Tryz.ntmps76
  go_wp2_with fail
  generalize World.alloc (World.alloc (World.alloc w (.cells #[.bool b5, .slice A5 k5 ca5, .slice B5 l5 cb5, .bool b6, .slice A6 k6 ca6, .slice B6 l6 cb6] _)) (.cells #[.bool b7, .slice A7 k7 ca7, .slice B7 l7 cb7, .bool b8, .slice A8 k8 ca8, .slice B8 l8 cb8] _)) (.cells #[.bool false, .slice none 0 0, .slice none 0 0, .bool false, .slice none 0 0, .slice none 0 0] _) = W2 at *
  have LE1 := Lib.hid (show w.heap.size ≤ w.heap.size + 1 + 1 from Nat.le_succ_of_le (Nat.le_succ _))
  generalize hg0 : w.heap.size = g0 at *
  have HG0 := Lib.hid hg0
  clear hg0
  have HR0 := Lib.hid (show ∀ W : World, Ext W2 W → W.heap[g0]? = some (.cells #[.bool b5, .slice A5 k5 ca5, .slice B5 l5 cb5, .bool b6, .slice A6 k6 ca6, .slice B6 l6 cb6] 68 (0, 0)) ∧ W.heap[g0 + 1]? = some (.cells #[.bool b7, .slice A7 k7 ca7, .slice B7 l7 cb7, .bool b8, .slice A8 k8 ca8, .slice B8 l8 cb8] 68 (0, 0)) ∧ W.heap[g0 + 1 + 1]? = some (.cells #[.bool false, .slice none 0 0, .slice none 0 0, .bool false, .slice none 0 0, .slice none 0 0] 68 (0, 0)) from fun W h =>
    ⟨(h.block _ (lt_of_block RA.out)).trans RA.out, (h.block _ (lt_of_block RB.out)).trans RB.out, (h.block _ (lt_of_block RZ.out)).trans RZ.out⟩)
  refine (has_c M (Nat.le_trans HM.out (by decide)) _ _ qc qd 0 false HZ0.out _ (HB.out.mono hww.out) (Nm.zero _) BL3.out BL4.out (bz0 BL3.out)).mono ?_
  rintro e w3 ⟨rfl, kk⟩
  have K3 := Lib.hid kk
  clear kk
  have HNE := Lib.hid (ends_ne HZ0.out)
  have BONE := Lib.hid (show Bq (M + 64) 1 from (bq_int 1 (by decide) (by decide)).mono (by omega))
  have HMD := Lib.hid (show M + 64 ≤ 1099511627776 by have := HM.out; omega)
  have HR := Lib.hid (fun W (h : Ext w3 W) => HR0.out W (ext_trans K3.out h))
  have KW := Lib.hid (ext_trans hww.out K3.out)
  have HA3 := Lib.hid (HA.out.mono KW.out)
  obtain ⟨HC, HD⟩ := sp_ends (HB.out.mono KW.out)
  clear HR0 RA RB RZ hww HA HB K3
  go_upto_region 3 with (fail)
  go_cut [6, 7] (fun p e wx => ∃ gs : Nat, p = .pointer (some ⟨gs, 0, none⟩) ∧ e = .int .i64 0 ∧ OutV wx gs (1 / qd) ∧ Ext w3 wx)
  case first =>
    have hx0 := Lib.hid (ext_refl w3)
    have hza := Lib.hid (Nat.le_refl w3.heap.size)
    have LGA := Lib.hid (show g0 + 1 < w3.heap.size from lt_of_block (HR.out _ (ext_refl w3)).2.1)
    have nza : g0 + 1 ≠ w3.heap.size := Nat.ne_of_lt LGA.out
    have hS0 := one_rowD (HR.out w3 (ext_refl _)).2.1
    go_region_held3 (fun W => W.cell? ⟨g0 + 1, 0, none⟩ = some (.bool b7) ∧ W.cell? ⟨g0 + 1, 1, none⟩ = some (.slice A7 k7 ca7) ∧ W.cell? ⟨g0 + 1, 2, none⟩ = some (.slice B7 l7 cb7) ∧ W.cell? ⟨g0 + 1, 3, none⟩ = some (.bool b8) ∧ W.cell? ⟨g0 + 1, 4, none⟩ = some (.slice A8 k8 ca8) ∧ W.cell? ⟨g0 + 1, 5, none⟩ = some (.slice B8 l8 cb8))
      ((refine one_rowD (HR.out _ ?_).2.1 <;> (repeat (first | with_reducible refine ext_drV ?_ | with_reducible refine ext_put3 ?_ (by first | with_reducible exact hza.out | with_reducible exact hzb.out | with_reducible exact hzc.out) _ _ _ | with_reducible refine ext_alV ?_ _ | with_reducible exact hx2.out | with_reducible exact hx1.out | with_reducible exact hx0.out)); done))
      (first
        | (have _q := hx1
           go_at_call 53
           with_reducible refine (div_q (M + 64) HMD.out _ _ 1 qd (w21.alloc (.cells #[.bool false, .slice none 0 0, .slice none 0 0] 25)) (H21.out.mono (by (repeat (first | with_reducible exact ext_refl _ | with_reducible exact ext_alloc _ _)))) (HD.out.mono (by (repeat (first | with_reducible refine ext_drV ?_ | with_reducible refine ext_put3 ?_ (by first | with_reducible exact hza.out | with_reducible exact hzb.out | with_reducible exact hzc.out) _ _ _ | with_reducible refine ext_alV ?_ _ | with_reducible exact hx2.out | with_reducible exact hx1.out | with_reducible exact hx0.out)))) BONE.out (BL4.out.mono (by omega)) HNE.out.2).mono ?_
           clear _q
           rintro e w22 ⟨v22, rfl, h22, kk22⟩
           obtain ⟨b22, A22, k22, ca22, B22, l22, cb22, rfl⟩ := h22.form2
           have H22 := Lib.hid h22
           have hx2 := Lib.hid (show Ext w3 w22 from ext_trans (by (repeat (first | with_reducible refine ext_drV ?_ | with_reducible refine ext_put3 ?_ (by first | with_reducible exact hza.out | with_reducible exact hzb.out | with_reducible exact hzc.out) _ _ _ | with_reducible refine ext_alV ?_ _ | with_reducible exact hx2.out | with_reducible exact hx1.out | with_reducible exact hx0.out))) kk22)
           have hzc := Lib.hid (show w3.heap.size ≤ w22.heap.size from hx2.out.size)
           have nzc : g0 + 1 ≠ w22.heap.size := Nat.ne_of_lt (Nat.lt_of_lt_of_le LGA.out hzc.out)
           have zc' := Lib.hid (row3 kk22)
           obtain ⟨z0, z1, z2, f0, f1, f2⟩ := row3_0 zc'.out
           clear h22 kk22)
        | (have _q := hx1
           go_at_call 53
           with_reducible refine (div_q (M + 64) HMD.out _ _ 1 qd w21 (H21.out.mono (by (repeat (first | with_reducible exact ext_refl _ | with_reducible exact ext_alloc _ _)))) (HD.out.mono (by (repeat (first | with_reducible refine ext_drV ?_ | with_reducible refine ext_put3 ?_ (by first | with_reducible exact hza.out | with_reducible exact hzb.out | with_reducible exact hzc.out) _ _ _ | with_reducible refine ext_alV ?_ _ | with_reducible exact hx2.out | with_reducible exact hx1.out | with_reducible exact hx0.out)))) BONE.out (BL4.out.mono (by omega)) HNE.out.2).mono ?_
           clear _q
           rintro e w22 ⟨v22, rfl, h22, kk22⟩
           obtain ⟨b22, A22, k22, ca22, B22, l22, cb22, rfl⟩ := h22.form2
           have H22 := Lib.hid h22
           have hx2 := Lib.hid (show Ext w3 w22 from ext_trans (by (repeat (first | with_reducible refine ext_drV ?_ | with_reducible refine ext_put3 ?_ (by first | with_reducible exact hza.out | with_reducible exact hzb.out | with_reducible exact hzc.out) _ _ _ | with_reducible refine ext_alV ?_ _ | with_reducible exact hx2.out | with_reducible exact hx1.out | with_reducible exact hx0.out))) kk22)
           have hzc := Lib.hid (show w3.heap.size ≤ w22.heap.size from hx2.out.size)
           have nzc : g0 + 1 ≠ w22.heap.size := Nat.ne_of_lt (Nat.lt_of_lt_of_le LGA.out hzc.out)
           have za' := Lib.hid ((kk22.block _ (lt_of_block za.out)).trans za.out)
           obtain ⟨z0, z1, z2, f0, f1, f2⟩ := row3_0 za'.out
           clear h22 kk22)
        | (have _q := hx1
           go_at_call 53
           with_reducible refine (div_q (M + 64) HMD.out _ _ 1 qd w21 (H21.out.mono (by (repeat (first | with_reducible exact ext_refl _ | with_reducible exact ext_alloc _ _)))) (HD.out.mono (by (repeat (first | with_reducible refine ext_drV ?_ | with_reducible refine ext_put3 ?_ (by first | with_reducible exact hza.out | with_reducible exact hzb.out | with_reducible exact hzc.out) _ _ _ | with_reducible refine ext_alV ?_ _ | with_reducible exact hx2.out | with_reducible exact hx1.out | with_reducible exact hx0.out)))) BONE.out (BL4.out.mono (by omega)) HNE.out.2).mono ?_
           clear _q
           rintro e w22 ⟨v22, rfl, h22, kk22⟩
           obtain ⟨b22, A22, k22, ca22, B22, l22, cb22, rfl⟩ := h22.form2
           have H22 := Lib.hid h22
           have hx2 := Lib.hid (show Ext w3 w22 from ext_trans (by (repeat (first | with_reducible refine ext_drV ?_ | with_reducible refine ext_put3 ?_ (by first | with_reducible exact hza.out | with_reducible exact hzb.out | with_reducible exact hzc.out) _ _ _ | with_reducible refine ext_alV ?_ _ | with_reducible exact hx2.out | with_reducible exact hx1.out | with_reducible exact hx0.out))) kk22)
           have hzc := Lib.hid (show w3.heap.size ≤ w22.heap.size from hx2.out.size)
           have nzc : g0 + 1 ≠ w22.heap.size := Nat.ne_of_lt (Nat.lt_of_lt_of_le LGA.out hzc.out)
           clear h22 kk22)
        | (go_at_call 24
           with_reducible refine (int1_q (w3.alloc (.cells #[.bool false, .slice none 0 0, .slice none 0 0] 25)).drew).mono ?_
           rintro e w21 ⟨v21, rfl, h21, kk21⟩
           obtain ⟨b21, A21, k21, ca21, B21, l21, cb21, rfl⟩ := h21.form2
           have H21 := Lib.hid h21
           have hx1 := Lib.hid (show Ext w3 w21 from ext_trans (by (repeat (first | with_reducible refine ext_drV ?_ | with_reducible refine ext_put3 ?_ (by first | with_reducible exact hza.out | with_reducible exact hzb.out | with_reducible exact hzc.out) _ _ _ | with_reducible refine ext_alV ?_ _ | with_reducible exact hx2.out | with_reducible exact hx1.out | with_reducible exact hx0.out))) kk21)
           have hzb := Lib.hid (show w3.heap.size ≤ w21.heap.size from hx1.out.size)
           have nzb : g0 + 1 ≠ w21.heap.size := Nat.ne_of_lt (Nat.lt_of_lt_of_le LGA.out hzb.out)
           have za := Lib.hid (row3 (ext_trans (ext_drew _) kk21))
           clear h21 kk21)
        | (go_at_call 24
           with_reducible refine (int1_q w3.drew).mono ?_
           rintro e w21 ⟨v21, rfl, h21, kk21⟩
           obtain ⟨b21, A21, k21, ca21, B21, l21, cb21, rfl⟩ := h21.form2
           have H21 := Lib.hid h21
           have hx1 := Lib.hid (show Ext w3 w21 from ext_trans (by (repeat (first | with_reducible refine ext_drV ?_ | with_reducible refine ext_put3 ?_ (by first | with_reducible exact hza.out | with_reducible exact hzb.out | with_reducible exact hzc.out) _ _ _ | with_reducible refine ext_alV ?_ _ | with_reducible exact hx2.out | with_reducible exact hx1.out | with_reducible exact hx0.out))) kk21)
           have hzb := Lib.hid (show w3.heap.size ≤ w21.heap.size from hx1.out.size)
           have nzb : g0 + 1 ≠ w21.heap.size := Nat.ne_of_lt (Nat.lt_of_lt_of_le LGA.out hzb.out)
           clear h21 kk21))
    all_goals
      go_wp2_with fail
      go_meet
      refine ⟨_, rfl, by first | rfl | simp, ?_, ?_⟩
      · first
          | with_reducible exact outv_new H22.out
          | with_reducible exact outv_put H22.out zc'.out
          | with_reducible exact outv_put H22.out za'.out
      · repeat (first | with_reducible refine ext_drV ?_ | with_reducible refine ext_put3 ?_ (by first | with_reducible exact hza.out | with_reducible exact hzb.out | with_reducible exact hzc.out) _ _ _ | with_reducible refine ext_alV ?_ _ | with_reducible exact hx2.out | with_reducible exact hx1.out | with_reducible exact hx0.out)
  case rest =>
    obtain ⟨gs, rfl, rfl, ho, hext⟩ := hcut
    rename World => W4
    have HO := Lib.hid ho
    have X4 := Lib.hid hext
    have HR' := Lib.hid (fun W (h : Ext W4 W) => HR.out W (ext_trans X4.out h))
    have HC4 := Lib.hid (HC.out.mono X4.out)
    clear ho hext HR
    have HR := Lib.hid HR'.out
    go_upto_region 4 with (fail)
    go_cut [8, 9] (fun p e wx => ∃ gs : Nat, p = .pointer (some ⟨gs, 0, none⟩) ∧ e = .int .i64 0 ∧ OutV wx gs (1 / qc) ∧ Ext W4 wx)
    case first =>
      have hx0 := Lib.hid (ext_refl W4)
      have hza := Lib.hid (Nat.le_refl W4.heap.size)
      have LGA := Lib.hid (show g0 + 1 < W4.heap.size from lt_of_block (HR.out _ (ext_refl W4)).2.1)
      have nza : g0 + 1 ≠ W4.heap.size := Nat.ne_of_lt LGA.out
      have hS0 := one_rowD (HR.out W4 (ext_refl _)).2.1
      go_region_held3 (fun W => W.cell? ⟨g0 + 1, 0, none⟩ = some (.bool b7) ∧ W.cell? ⟨g0 + 1, 1, none⟩ = some (.slice A7 k7 ca7) ∧ W.cell? ⟨g0 + 1, 2, none⟩ = some (.slice B7 l7 cb7) ∧ W.cell? ⟨g0 + 1, 3, none⟩ = some (.bool b8) ∧ W.cell? ⟨g0 + 1, 4, none⟩ = some (.slice A8 k8 ca8) ∧ W.cell? ⟨g0 + 1, 5, none⟩ = some (.slice B8 l8 cb8))
        ((refine one_rowD (HR.out _ ?_).2.1 <;> (repeat (first | with_reducible refine ext_drV ?_ | with_reducible refine ext_put3 ?_ (by first | with_reducible exact hza.out | with_reducible exact hzb.out | with_reducible exact hzc.out) _ _ _ | with_reducible refine ext_alV ?_ _ | with_reducible exact hx2.out | with_reducible exact hx1.out | with_reducible exact hx0.out)); done))
        (first
          | (have _q := hx1
             go_at_call 53
             with_reducible refine (div_q (M + 64) HMD.out _ _ 1 qc (w21.alloc (.cells #[.bool false, .slice none 0 0, .slice none 0 0] 25)) (H21.out.mono (by (repeat (first | with_reducible exact ext_refl _ | with_reducible exact ext_alloc _ _)))) (HC4.out.mono (by (repeat (first | with_reducible refine ext_drV ?_ | with_reducible refine ext_put3 ?_ (by first | with_reducible exact hza.out | with_reducible exact hzb.out | with_reducible exact hzc.out) _ _ _ | with_reducible refine ext_alV ?_ _ | with_reducible exact hx2.out | with_reducible exact hx1.out | with_reducible exact hx0.out)))) BONE.out (BL3.out.mono (by omega)) HNE.out.1).mono ?_
             clear _q
             rintro e w22 ⟨v22, rfl, h22, kk22⟩
             obtain ⟨b22, A22, k22, ca22, B22, l22, cb22, rfl⟩ := h22.form2
             have H22 := Lib.hid h22
             have hx2 := Lib.hid (show Ext W4 w22 from ext_trans (by (repeat (first | with_reducible refine ext_drV ?_ | with_reducible refine ext_put3 ?_ (by first | with_reducible exact hza.out | with_reducible exact hzb.out | with_reducible exact hzc.out) _ _ _ | with_reducible refine ext_alV ?_ _ | with_reducible exact hx2.out | with_reducible exact hx1.out | with_reducible exact hx0.out))) kk22)
             have hzc := Lib.hid (show W4.heap.size ≤ w22.heap.size from hx2.out.size)
             have nzc : g0 + 1 ≠ w22.heap.size := Nat.ne_of_lt (Nat.lt_of_lt_of_le LGA.out hzc.out)
             have zc' := Lib.hid (row3 kk22)
             obtain ⟨z0, z1, z2, f0, f1, f2⟩ := row3_0 zc'.out
             clear h22 kk22)
          | (have _q := hx1
             go_at_call 53
             with_reducible refine (div_q (M + 64) HMD.out _ _ 1 qc w21 (H21.out.mono (by (repeat (first | with_reducible exact ext_refl _ | with_reducible exact ext_alloc _ _)))) (HC4.out.mono (by (repeat (first | with_reducible refine ext_drV ?_ | with_reducible refine ext_put3 ?_ (by first | with_reducible exact hza.out | with_reducible exact hzb.out | with_reducible exact hzc.out) _ _ _ | with_reducible refine ext_alV ?_ _ | with_reducible exact hx2.out | with_reducible exact hx1.out | with_reducible exact hx0.out)))) BONE.out (BL3.out.mono (by omega)) HNE.out.1).mono ?_
             clear _q
             rintro e w22 ⟨v22, rfl, h22, kk22⟩
             obtain ⟨b22, A22, k22, ca22, B22, l22, cb22, rfl⟩ := h22.form2
             have H22 := Lib.hid h22
             have hx2 := Lib.hid (show Ext W4 w22 from ext_trans (by (repeat (first | with_reducible refine ext_drV ?_ | with_reducible refine ext_put3 ?_ (by first | with_reducible exact hza.out | with_reducible exact hzb.out | with_reducible exact hzc.out) _ _ _ | with_reducible refine ext_alV ?_ _ | with_reducible exact hx2.out | with_reducible exact hx1.out | with_reducible exact hx0.out))) kk22)
             have hzc := Lib.hid (show W4.heap.size ≤ w22.heap.size from hx2.out.size)
             have nzc : g0 + 1 ≠ w22.heap.size := Nat.ne_of_lt (Nat.lt_of_lt_of_le LGA.out hzc.out)
             have za' := Lib.hid ((kk22.block _ (lt_of_block za.out)).trans za.out)
             obtain ⟨z0, z1, z2, f0, f1, f2⟩ := row3_0 za'.out
             clear h22 kk22)
          | (have _q := hx1
             go_at_call 53
             with_reducible refine (div_q (M + 64) HMD.out _ _ 1 qc w21 (H21.out.mono (by (repeat (first | with_reducible exact ext_refl _ | with_reducible exact ext_alloc _ _)))) (HC4.out.mono (by (repeat (first | with_reducible refine ext_drV ?_ | with_reducible refine ext_put3 ?_ (by first | with_reducible exact hza.out | with_reducible exact hzb.out | with_reducible exact hzc.out) _ _ _ | with_reducible refine ext_alV ?_ _ | with_reducible exact hx2.out | with_reducible exact hx1.out | with_reducible exact hx0.out)))) BONE.out (BL3.out.mono (by omega)) HNE.out.1).mono ?_
             clear _q
             rintro e w22 ⟨v22, rfl, h22, kk22⟩
             obtain ⟨b22, A22, k22, ca22, B22, l22, cb22, rfl⟩ := h22.form2
             have H22 := Lib.hid h22
             have hx2 := Lib.hid (show Ext W4 w22 from ext_trans (by (repeat (first | with_reducible refine ext_drV ?_ | with_reducible refine ext_put3 ?_ (by first | with_reducible exact hza.out | with_reducible exact hzb.out | with_reducible exact hzc.out) _ _ _ | with_reducible refine ext_alV ?_ _ | with_reducible exact hx2.out | with_reducible exact hx1.out | with_reducible exact hx0.out))) kk22)
             have hzc := Lib.hid (show W4.heap.size ≤ w22.heap.size from hx2.out.size)
             have nzc : g0 + 1 ≠ w22.heap.size := Nat.ne_of_lt (Nat.lt_of_lt_of_le LGA.out hzc.out)
             clear h22 kk22)
          | (go_at_call 24
             with_reducible refine (int1_q (W4.alloc (.cells #[.bool false, .slice none 0 0, .slice none 0 0] 25)).drew).mono ?_
             rintro e w21 ⟨v21, rfl, h21, kk21⟩
             obtain ⟨b21, A21, k21, ca21, B21, l21, cb21, rfl⟩ := h21.form2
             have H21 := Lib.hid h21
             have hx1 := Lib.hid (show Ext W4 w21 from ext_trans (by (repeat (first | with_reducible refine ext_drV ?_ | with_reducible refine ext_put3 ?_ (by first | with_reducible exact hza.out | with_reducible exact hzb.out | with_reducible exact hzc.out) _ _ _ | with_reducible refine ext_alV ?_ _ | with_reducible exact hx2.out | with_reducible exact hx1.out | with_reducible exact hx0.out))) kk21)
             have hzb := Lib.hid (show W4.heap.size ≤ w21.heap.size from hx1.out.size)
             have nzb : g0 + 1 ≠ w21.heap.size := Nat.ne_of_lt (Nat.lt_of_lt_of_le LGA.out hzb.out)
             have za := Lib.hid (row3 (ext_trans (ext_drew _) kk21))
             clear h21 kk21)
          | (go_at_call 24
             with_reducible refine (int1_q W4.drew).mono ?_
             rintro e w21 ⟨v21, rfl, h21, kk21⟩
             obtain ⟨b21, A21, k21, ca21, B21, l21, cb21, rfl⟩ := h21.form2
             have H21 := Lib.hid h21
             have hx1 := Lib.hid (show Ext W4 w21 from ext_trans (by (repeat (first | with_reducible refine ext_drV ?_ | with_reducible refine ext_put3 ?_ (by first | with_reducible exact hza.out | with_reducible exact hzb.out | with_reducible exact hzc.out) _ _ _ | with_reducible refine ext_alV ?_ _ | with_reducible exact hx2.out | with_reducible exact hx1.out | with_reducible exact hx0.out))) kk21)
             have hzb := Lib.hid (show W4.heap.size ≤ w21.heap.size from hx1.out.size)
             have nzb : g0 + 1 ≠ w21.heap.size := Nat.ne_of_lt (Nat.lt_of_lt_of_le LGA.out hzb.out)
             clear h21 kk21))
      all_goals
        go_wp2_with fail
        go_meet
        refine ⟨_, rfl, by first | rfl | simp, ?_, ?_⟩
        · first
            | with_reducible exact outv_new H22.out
            | with_reducible exact outv_put H22.out zc'.out
            | with_reducible exact outv_put H22.out za'.out
        · repeat (first | with_reducible refine ext_drV ?_ | with_reducible refine ext_put3 ?_ (by first | with_reducible exact hza.out | with_reducible exact hzb.out | with_reducible exact hzc.out) _ _ _ | with_reducible refine ext_alV ?_ _ | with_reducible exact hx2.out | with_reducible exact hx1.out | with_reducible exact hx0.out)
    case rest =>
      obtain ⟨gt, rfl, rfl, ho, hext⟩ := hcut
      rename World => W5
      have X5 := Lib.hid hext
      obtain ⟨b31, A31, k31, ca31, B31, l31, cb31, r31, n31⟩ := HO.out
      obtain ⟨b32, A32, k32, ca32, B32, l32, cb32, r32, n32⟩ := ho
      have r31' := (hext.block _ (lt_of_block r31)).trans r31
      obtain ⟨x0, x1, x2, -⟩ := row3_0 r31'
      obtain ⟨y0, y1, y2, -⟩ := row3_0 r32
      obtain ⟨ra, rb, rz⟩ := HR.out _ X5.out
      obtain ⟨u0, u1, u2, u3, u4, u5, -⟩ := row6_0 ra
      have HSQ := Lib.hid (show Sp W5 (.agg #[.bool b31, .slice A31 k31 ca31, .slice B31 l31 cb31, .bool b32, .slice A32 k32 ca32, .slice B32 l32 cb32]) (1 / qd) (1 / qc) from ⟨_, _, _, _, _, _, rfl, n31.mono hext, n32⟩)
      have HA5 := Lib.hid (HA3.out.mono (ext_trans X4.out X5.out))
      clear r31 r31' r32 n31 n32 ra rb rz hext
      go_wp2_with fail
      refine (mulS_c M (Nat.le_trans HM.out (by decide)) _ _ qa qb (1 / qd) (1 / qc) _ HA5.out HSQ.out BL1.out BL2.out (bq_inv1 BL4.out HNE.out.2) (bq_inv1 BL3.out HNE.out.1)).mono ?_
      rintro e w9 ⟨v9, rfl, h9, kk⟩
      obtain ⟨b9, A9, k9, ca9, B9, l9, cb9, b10, A10, k10, ca10, B10, l10, cb10, rfl, -, -⟩ := h9.form
      have J9 := Lib.hid h9
      have X9 := Lib.hid (ext_trans X5.out kk)
      obtain ⟨-, -, rz⟩ := HR.out _ X9.out
      obtain ⟨z0, z1, z2, z3, z4, z5, zf0, zf1, zf2, zf3, zf4, zf5⟩ := row6_0 rz
      have RZ3 := Lib.hid rz
      clear rz h9 kk
      go_wp2_with fail
      refine bodyPost_ret (v := .tuple #[.agg #[.bool b9, .slice A9 k9 ca9, .slice B9 l9 cb9, .bool b10, .slice A10 k10 ca10, .slice B10 l10 cb10], .int .i64 0]) (by simp [results, Tryz.f76]; go_simp) rfl ?_
      exact ⟨_, rfl, J9.out.put6 RZ3.out _ _ _ _ _ _, put6_ext (ext_trans KW.out (ext_trans X4.out X9.out)) (by rw [HG0.out]; exact LE1.out) _ _ _ _ _ _⟩
end Go.Proofs.YtpgdefgdboijlaaGreatDoor
