/- The reference's numbers: powers, powers of ten. -/
import Derived.Test.YtpgdefgdboijlaaGreatDoorRu
import Derived.Test.YtpgdefgdboijlaaGreatDoorNo
import Derived.Deep.DeepCutAuto
import Derived.Deep.RegionHeld3
import Derived.Test.YtpgdefgdboijlaaGreatDoorVe
import Derived.Deep.LoopGhost
namespace Go.Proofs.YtpgdefgdboijlaaGreatDoor
open Go.RowKit
set_option linter.unusedVariables false
/-- the block holds this number of the reference -/
def OutR (wr : World) (g : Nat) (q : Rat) : Prop := ∃ s A k c B l d, wr.heap[g]? = some (.cells #[.int .i64 s, .slice A k c, .slice B l d] 31 (0, 0)) ∧ Nr wr (.agg #[.int .i64 s, .slice A k c, .slice B l d]) q
theorem out_new {w : World} {s : Int} {A B : Option Addr} {k c l d : Nat} {q : Rat} (h : Nr w (.agg #[.int .i64 s, .slice A k c, .slice B l d]) q) :
    OutR (w.alloc (.cells #[.int .i64 s, .slice A k c, .slice B l d] 31)) w.heap.size q :=
  ⟨s, A, k, c, B, l, d, rowR (ext_refl _), h.mono (ext_alloc _ _)⟩
theorem out_put {wr w7 : World} {g : Nat} {s : Int} {A B : Option Addr} {k c l d : Nat} {q : Rat} {o : Obj} (hg : g < wr.heap.size) (h : Nr w7 (.agg #[.int .i64 s, .slice A k c, .slice B l d]) q) (fr : FrN wr.heap.size (.agg #[.int .i64 s, .slice A k c, .slice B l d]))
    {x y z : Value} (hr : w7.heap[g]? = some (.cells #[x, y, z] 31 (0, 0))) :
    OutR (((w7.setCell ⟨g, 0, none⟩ (.int .i64 s)).setCell ⟨g, 1, none⟩ (.slice A k c)).setCell ⟨g, 2, none⟩ (.slice B l d)) g q :=
  ⟨s, A, k, c, B, l, d, put3_row hr _ _ _, h.put_n (fr.mono hg) _ _ _⟩
set_option maxRecDepth 100000 in
set_option maxHeartbeats 4000000 in
theorem pow_n (M : Nat) (hM : M ≤ 2097151) (j : Nat) (hj : j ≤ 64) (vx : Value) (x : Rat) (w : World) (hx : Nr w vx x) (bx : Bq M x) :
    Calls Tryz.prog 23 #[vx, .int .i64 (j : Int)] w fun e w' => ∃ v, e = .returned (.tuple #[v, .int .i64 0]) ∧ Nr w' v (x ^ j) ∧ Ext w w' := by
  obtain ⟨s, A, k, ca, B, l, cb, rfl, hsg, hxt, hxb⟩ := hx.form
  obtain ⟨hS, hZ, hw1, hw2, hsz1⟩ := setupR3 w (.int .i64 s) (.slice A k ca) (.slice B l cb)
  have HS := Lib.hid hS
  have HZ := Lib.hid hZ
  have HW1 := Lib.hid hw1
  have HW2 := Lib.hid hw2
  have Hsz1 := Lib.hid hsz1
  have Hx := Lib.hid hx
  have HB := Lib.hid (fun c (hc : c ≤ j) => (show Bq (M * 64 + 1) (x ^ c) from (Bq.pow bx c).mono (by have := Nat.mul_le_mul_left M (show c ≤ 64 by omega); omega)))
  have BX := Lib.hid (show Bq (M * 64 + 1) x from bx.mono (by omega))
  have HM := Lib.hid (show M * 64 + 1 ≤ 134217728 by omega)
  have HJ := Lib.hid hj
  have q1 : decide ((j : Int) < -64) = false := by rw [decide_eq_false_iff_not]; omega
  have q2 : decide ((64 : Int) < (j : Int)) = false := by rw [decide_eq_false_iff_not]; omega
  have q3 : decide ((j : Int) < 0) = false := by rw [decide_eq_false_iff_not]; omega
  have q4 : ¬ (j : Int) < -64 := by omega
  have q5 : ¬ (64 : Int) < (j : Int) := by omega
  have q6 : ¬ (j : Int) < 0 := by omega
  clear hx hxt hxb hS hZ hw1 hw2 hsz1 hsg hj bx hM
  go_enter Tryz.func23, Tryz.ntmps23
  go_wp2_with fail
  generalize World.alloc (World.alloc w (.cells #[.int .i64 s, .slice A k ca, .slice B l cb] _)) _ = W2 at *
  generalize World.alloc w (.cells #[.int .i64 s, .slice A k ca, .slice B l cb] _) = W1 at *
  generalize hg0 : w.heap.size = g0 at *
  have Hsz := Lib.hid (show w.heap.size ≤ g0 + 1 by omega)
  clear hg0
  have hww := Lib.hid (ext_trans HW1.out HW2.out)
  refine (int_n 1 (by decide) (by decide) _).mono ?_
  rintro e w1 ⟨v1, rfl, h1, k1⟩
  obtain ⟨s1, A1, k1', c1, B1, l1, d1, rfl, -⟩ := h1.form
  have H1 := Lib.hid h1
  have K1 := Lib.hid (show Ext W2 w1 from k1)
  clear h1 k1
  go_wp2_with fail
  have GO := Lib.hid (show W2.heap.size ≤ w1.heap.size from K1.out.size)
  have O1 := Lib.hid (out_new H1.out)
  have K2 := Lib.hid (ext_trans K1.out (ext_alloc w1 (.cells #[.int .i64 s1, .slice A1 k1' c1, .slice B1 l1 d1] 31)))
  generalize World.alloc w1 (.cells #[.int .i64 s1, .slice A1 k1' c1, .slice B1 l1 d1] _) = W3 at *
  generalize w1.heap.size = go at *
  clear K1 H1
  go_loopg [9] j (fun k i wr => ∃ c : Nat, c + k = j ∧ i = .int .i64 (c : Int) ∧ OutR wr go (x ^ c) ∧ Ext W2 wr)
  case atStart => exact ⟨0, by omega, rfl, by rw [Rat.pow_zero]; exact O1.out, K2.out⟩
  case round =>
    obtain ⟨c, hc, rfl, ho, hext⟩ := hrel
    obtain ⟨s3, A3, k3, c3, B3, l3, d3, ho1, ho2⟩ := ho
    have R3 := Lib.hid ho1
    have N3 := Lib.hid ho2
    have X0 := Lib.hid hext
    obtain ⟨y0, y1, y2, yf0, yf1, yf2⟩ := rowR_0 ho1
    have HC := Lib.hid hc
    clear ho1 ho2 hext
    rcases Nat.eq_zero_or_pos gk with hz | hz
    · subst hz
      obtain rfl : c = j := by omega
      have hlt : ¬ c < c := by omega
      have hr := HZ.out _ X0.out
      have RZ := Lib.hid hr
      obtain ⟨z0, z1, z2, f0, f1, f2⟩ := rowR_0 hr
      clear hr hc
      go_wp2_with fail
      refine bodyPost_ret (v := .tuple #[.agg #[.int .i64 s3, .slice A3 k3 c3, .slice B3 l3 d3], .int .i64 0]) (by simp [results, Tryz.f23]; go_simp) rfl ?_
      exact ⟨_, rfl, Nr.put_z N3.out RZ.out _ _ _, ext_put3r (ext_trans hww.out X0.out) Hsz.out _ _ _⟩
    · have hlt : decide (c < j) = true := by rw [decide_eq_true_eq]; omega
      have hlt2 : c < j := by omega
      have q8 : IntKind.i64.wrap ((c : Int) + 1) = (c : Int) + 1 := IntWalk.i64_in _ (by have := HJ.out; omega)
      have Hlt := Lib.hid hlt2
      have HZ0 := Lib.hid hz
      have Q8 := Lib.hid q8
      clear hlt2 hz hc q8
      obtain ⟨r0, r1, r2⟩ := HS.out _ (ext_trans HW2.out X0.out)
      go_wp2_with fail
      refine (mul_f (M * 64 + 1) HM.out _ _ (x ^ c) x _ N3.out (Hx.out.mono (ext_trans hww.out X0.out)) (HB.out c (Nat.le_of_lt Hlt.out)) BX.out).mono ?_
      rintro e w7 ⟨v7, rfl, h7, k7, fr⟩
      obtain ⟨s7, A7, k7', c7, B7, l7, d7, h7e, -⟩ := h7.form
      subst h7e
      have H7 := Lib.hid h7
      have F7 := Lib.hid fr
      have hr7 := (k7.block _ (lt_of_block R3.out)).trans R3.out
      have R7 := Lib.hid hr7
      have K7 := Lib.hid (ext_trans X0.out k7)
      clear y0 y1 y2 yf0 yf1 yf2 r0 r1 r2 fr h7 k7
      obtain ⟨y0, y1, y2, yf0, yf1, yf2⟩ := rowR_0 hr7
      clear hr7
      have q8 := Q8.out
      go_wp2_with fail
      go_roundg (gk - 1)
      case measure => have := HZ0.out; omega
      case rel => exact ⟨c + 1, by have := HC.out; have := HZ0.out; omega, by go_num, by rw [Rat.pow_succ]; exact out_put (o := .cells #[] 0) (lt_of_block R3.out) H7.out F7.out R7.out, ext_put3r K7.out GO.out _ _ _⟩
theorem out_put2 {w7 : World} {g C : Nat} {s : Int} {A B : Option Addr} {k c l d : Nat} {q : Rat} (hg : g < C) (h : Nr w7 (.agg #[.int .i64 s, .slice A k c, .slice B l d]) q) (fr : FrN C (.agg #[.int .i64 s, .slice A k c, .slice B l d]))
    {x y z : Value} (hr : w7.heap[g]? = some (.cells #[x, y, z] 31 (0, 0))) :
    OutR (((w7.setCell ⟨g, 0, none⟩ (.int .i64 s)).setCell ⟨g, 1, none⟩ (.slice A k c)).setCell ⟨g, 2, none⟩ (.slice B l d)) g q :=
  ⟨s, A, k, c, B, l, d, put3_row hr _ _ _, h.put_n (fr.mono hg) _ _ _⟩
theorem setupT (w : World) : Ext w (w.alloc (.cells #[.int .i64 0, .slice none 0 0, .slice none 0 0] 31)) ∧ (∀ W, Ext (w.alloc (.cells #[.int .i64 0, .slice none 0 0, .slice none 0 0] 31)) W → W.heap[w.heap.size]? = some (.cells #[.int .i64 0, .slice none 0 0, .slice none 0 0] 31 (0, 0))) :=
  ⟨ext_alloc _ _, fun W h => rowR h⟩
set_option maxRecDepth 100000 in
set_option maxHeartbeats 4000000 in
theorem ten_up (j : Nat) (hj : j ≤ 1000000) (w : World) :
    Calls Tryz.prog 113 #[.int .i64 (j : Int)] w fun e w' => ∃ v, e = .returned v ∧ Nr w' v (tensQ 1 (j : Int)) ∧ Ext w w' := by
  obtain ⟨hw1, hZ⟩ := setupT w
  have HZ := Lib.hid hZ
  have hww := Lib.hid hw1
  have HB := Lib.hid (fun (c : Nat) (hc : c ≤ j) => (show Bq 4000065 (tensQ 1 (c : Int)) from (Bq.tens bq_one).mono (by rw [Int.natAbs_natCast]; omega)))
  have BT := Lib.hid (show Bq 4000065 (((10 : Int) : Rat)) from (bq_int 10 (by decide) (by decide)).mono (by decide))
  have BO := Lib.hid (show Bq 4000065 (((1 : Int) : Rat)) from (bq_int 1 (by decide) (by decide)).mono (by decide))
  have HM := Lib.hid (show 4000065 ≤ 134217728 by decide)
  have HJ := Lib.hid hj
  have q3 : decide ((j : Int) < 0) = false := by rw [decide_eq_false_iff_not]; omega
  have q6 : ¬ (j : Int) < 0 := by omega
  have q7 : IntKind.i64.wrap (-(j : Int)) = -(j : Int) := IntWalk.i64_in _ (by omega)
  have q0 : tensQ 1 ((0 : Nat) : Int) = 1 := by decide
  have Q0 := Lib.hid q0
  clear hj hw1 hZ q0
  go_enter Tryz.func113, Tryz.ntmps113
  go_wp2_with fail
  generalize w.alloc (.cells #[.int .i64 0, .slice none 0 0, .slice none 0 0] _) = W2 at *
  generalize hg0 : w.heap.size = g0 at *
  have Hsz := Lib.hid (show w.heap.size ≤ g0 by omega)
  clear hg0
  refine (int_n 1 (by decide) (by decide) _).mono ?_
  rintro e w1 ⟨v1, rfl, h1, k1⟩
  obtain ⟨s1, A1, k1', c1, B1, l1, d1, rfl, -⟩ := h1.form
  have H1 := Lib.hid h1
  have K1 := Lib.hid (show Ext W2 w1 from k1)
  clear h1 k1
  go_wp2_with fail
  have GO := Lib.hid (show W2.heap.size ≤ w1.heap.size from K1.out.size)
  have O1 := Lib.hid (out_new H1.out)
  have K2 := Lib.hid (ext_trans K1.out (ext_alloc w1 (.cells #[.int .i64 s1, .slice A1 k1' c1, .slice B1 l1 d1] 31)))
  generalize World.alloc w1 (.cells #[.int .i64 s1, .slice A1 k1' c1, .slice B1 l1 d1] _) = W3 at *
  generalize w1.heap.size = go at *
  clear K1 H1
  go_loopg [4] j (fun k i wr => ∃ c : Nat, c + k = j ∧ i = .int .i64 (c : Int) ∧ OutR wr go (tensQ 1 (c : Int)) ∧ Ext W2 wr)
  case atStart => exact ⟨0, by omega, rfl, by rw [Q0.out]; exact O1.out, K2.out⟩
  case round =>
    obtain ⟨c, hc, rfl, ho, hext⟩ := hrel
    rename World => WR
    obtain ⟨s3, A3, k3, c3, B3, l3, d3, ho1, ho2⟩ := ho
    have R3 := Lib.hid ho1
    have N3 := Lib.hid ho2
    have X0 := Lib.hid hext
    obtain ⟨y0, y1, y2, yf0, yf1, yf2⟩ := rowR_0 ho1
    have HC := Lib.hid hc
    clear ho1 ho2 hext
    rcases Nat.eq_zero_or_pos gk with hz | hz
    · subst hz
      obtain rfl : c = j := by omega
      have hlt : ¬ c < c := by omega
      have hlt2 : decide ((c : Int) < -(c : Int)) = false := by rw [decide_eq_false_iff_not]; omega
      have hr := HZ.out _ X0.out
      have RZ := Lib.hid hr
      obtain ⟨z0, z1, z2, f0, f1, f2⟩ := rowR_0 hr
      clear hr hc
      go_wp2_with fail
      refine bodyPost_ret (v := .agg #[.int .i64 s3, .slice A3 k3 c3, .slice B3 l3 d3]) (by simp [results, Tryz.f113]; go_simp) rfl ?_
      exact ⟨_, rfl, Nr.put_z N3.out RZ.out _ _ _, ext_put3r (ext_trans hww.out X0.out) Hsz.out _ _ _⟩
    · have hlt : decide (c < j) = true := by rw [decide_eq_true_eq]; omega
      have hlt1 : decide ((c : Int) < (j : Int)) = true := by rw [decide_eq_true_eq]; omega
      have hlt2 : c < j := by omega
      have q8 : IntKind.i64.wrap ((c : Int) + 1) = (c : Int) + 1 := IntWalk.i64_in _ (by have := HJ.out; omega)
      have Hlt := Lib.hid hlt2
      have HZ0 := Lib.hid hz
      have Q8 := Lib.hid q8
      clear hlt2 hz hc q8
      go_upto_region 5 with (fail)
      go_region_with (first
        | (have _q := hx2
           go_at_call 30
           refine (mul_f 4000065 HM.out _ _ (tensQ 1 (c : Int)) _ _ (N3.out.mono hx2.out) G5.out (HB.out c (Nat.le_of_lt Hlt.out)) BT.out).mono ?_
           clear _q
           rintro e w7 ⟨v7, rfl, h7, k7, fr⟩
           obtain ⟨s7, A7, k7', c7, B7, l7, d7, h7e, -⟩ := h7.form
           subst h7e
           have H7 := Lib.hid h7
           have F7 := Lib.hid fr
           have hr7 := (k7.block _ (lt_of_block R5.out)).trans R5.out
           have R7 := Lib.hid hr7
           have hx3 := Lib.hid (ext_trans hx2.out k7)
           clear fr h7 k7
           obtain ⟨x0, x1, x2, xf0, xf1, xf2⟩ := rowR_0 hr7
           clear hr7)
        | (go_at_call 25
           refine (int_n 10 (by decide) (by decide) _).mono ?_
           rintro e w5 ⟨v5, rfl, h5, k5⟩
           have G5 := Lib.hid h5
           have hx2 := Lib.hid (show Ext WR w5 from ext_trans (ext_drew WR) k5)
           have hr5 := (hx2.out.block _ (lt_of_block R3.out)).trans R3.out
           have R5 := Lib.hid hr5
           have LT5 := Lib.hid (lt_of_block hr5)
           obtain ⟨u0, u1, u2, -⟩ := rowR_0 hr5
           clear hr5 h5 k5))
      all_goals
        have q8 := Q8.out
        go_wp2_with fail
        go_roundg (gk - 1)
        case measure => have := HZ0.out; omega
        case rel => exact ⟨c + 1, by have := HC.out; have := HZ0.out; omega, by go_num, by rw [← tensQ_succ]; exact out_put2 LT5.out H7.out F7.out R7.out, ext_put3r (ext_trans X0.out hx3.out) GO.out _ _ _⟩
set_option maxRecDepth 100000 in
set_option maxHeartbeats 4000000 in
theorem ten_down (j : Nat) (hj : j ≤ 1000000) (h0 : 0 < j) (w : World) :
    Calls Tryz.prog 113 #[.int .i64 (-(j : Int))] w fun e w' => ∃ v, e = .returned v ∧ Nr w' v (tensQ 1 (-(j : Int))) ∧ Ext w w' := by
  obtain ⟨hw1, hZ⟩ := setupT w
  have HZ := Lib.hid hZ
  have hww := Lib.hid hw1
  have HB := Lib.hid (fun (c : Nat) (hc : c ≤ j) => (show Bq 4000065 (tensQ 1 (c : Int)) from (Bq.tens bq_one).mono (by rw [Int.natAbs_natCast]; omega)))
  have BT := Lib.hid (show Bq 4000065 (((10 : Int) : Rat)) from (bq_int 10 (by decide) (by decide)).mono (by decide))
  have BO := Lib.hid (show Bq 4000065 (((1 : Int) : Rat)) from (bq_int 1 (by decide) (by decide)).mono (by decide))
  have HM := Lib.hid (show 4000065 ≤ 134217728 by decide)
  have HJ := Lib.hid hj
  have H0 := Lib.hid h0
  have HI := Lib.hid (tensQ_inv j h0)
  have HNZ := Lib.hid (show tensQ 1 (j : Int) ≠ 0 by rw [tensQ_ten]; exact rat_ne_zero (Nat.pow_pos (by omega)) (by omega))
  have q3 : decide (-(j : Int) < 0) = true := by rw [decide_eq_true_eq]; omega
  have q3' : decide (0 < j) = true := by rw [decide_eq_true_eq]; omega
  have q7 : IntKind.i64.wrap (j : Int) = (j : Int) := IntWalk.i64_in _ (by omega)
  clear h0
  have q0 : tensQ 1 ((0 : Nat) : Int) = 1 := by decide
  have Q0 := Lib.hid q0
  clear hj hw1 hZ q0
  go_enter Tryz.func113, Tryz.ntmps113
  go_wp2_with fail
  generalize w.alloc (.cells #[.int .i64 0, .slice none 0 0, .slice none 0 0] _) = W2 at *
  generalize hg0 : w.heap.size = g0 at *
  have Hsz := Lib.hid (show w.heap.size ≤ g0 by omega)
  clear hg0
  refine (int_n 1 (by decide) (by decide) _).mono ?_
  rintro e w1 ⟨v1, rfl, h1, k1⟩
  obtain ⟨s1, A1, k1', c1, B1, l1, d1, rfl, -⟩ := h1.form
  have H1 := Lib.hid h1
  have K1 := Lib.hid (show Ext W2 w1 from k1)
  clear h1 k1
  go_wp2_with fail
  have GO := Lib.hid (show W2.heap.size ≤ w1.heap.size from K1.out.size)
  have O1 := Lib.hid (out_new H1.out)
  have K2 := Lib.hid (ext_trans K1.out (ext_alloc w1 (.cells #[.int .i64 s1, .slice A1 k1' c1, .slice B1 l1 d1] 31)))
  generalize World.alloc w1 (.cells #[.int .i64 s1, .slice A1 k1' c1, .slice B1 l1 d1] _) = W3 at *
  generalize w1.heap.size = go at *
  clear K1 H1
  go_loopg [4] j (fun k i wr => ∃ c : Nat, c + k = j ∧ i = .int .i64 (c : Int) ∧ OutR wr go (tensQ 1 (c : Int)) ∧ Ext W2 wr)
  case atStart => exact ⟨0, by omega, rfl, by rw [Q0.out]; exact O1.out, K2.out⟩
  case round =>
    obtain ⟨c, hc, rfl, ho, hext⟩ := hrel
    rename World => WR
    obtain ⟨s3, A3, k3, c3, B3, l3, d3, ho1, ho2⟩ := ho
    have R3 := Lib.hid ho1
    have N3 := Lib.hid ho2
    have X0 := Lib.hid hext
    obtain ⟨y0, y1, y2, yf0, yf1, yf2⟩ := rowR_0 ho1
    have HC := Lib.hid hc
    clear ho1 ho2 hext
    rcases Nat.eq_zero_or_pos gk with hz | hz
    · subst hz
      obtain rfl : c = j := by omega
      have hlt : ¬ c < c := by omega
      have hlt2 : decide ((c : Int) < -(c : Int)) = false := by rw [decide_eq_false_iff_not]; omega
      clear hc
      go_upto_region 7 with (fail)
      go_region_with (first
        | (have _q := hx2
           go_at_call 55
           refine (div_f 4000065 HM.out _ _ _ (tensQ 1 (c : Int)) _ G5.out (N3.out.mono hx2.out) BO.out (HB.out c (Nat.le_refl _)) HNZ.out).mono ?_
           clear _q
           rintro e w7 ⟨v7, rfl, h7, k7, fr⟩
           obtain ⟨s7, A7, k7', c7, B7, l7, d7, h7e, -⟩ := h7.form
           subst h7e
           have H7 := Lib.hid h7
           have F7 := Lib.hid fr
           have hr7 := (k7.block _ (lt_of_block R5.out)).trans R5.out
           have R7 := Lib.hid hr7
           have hx3 := Lib.hid (ext_trans hx2.out k7)
           clear fr h7 k7
           obtain ⟨x0, x1, x2, xf0, xf1, xf2⟩ := rowR_0 hr7
           clear hr7)
        | (go_at_call 25
           refine (int_n 1 (by decide) (by decide) _).mono ?_
           rintro e w5 ⟨v5, rfl, h5, k5⟩
           have G5 := Lib.hid h5
           have hx2 := Lib.hid (show Ext WR w5 from ext_trans (ext_drew WR) k5)
           have hr5 := (hx2.out.block _ (lt_of_block R3.out)).trans R3.out
           have R5 := Lib.hid hr5
           have LT5 := Lib.hid (lt_of_block hr5)
           obtain ⟨u0, u1, u2, -⟩ := rowR_0 hr5
           clear hr5 h5 k5))
      all_goals
        have hr := HZ.out _ (ext_put3r (ext_trans X0.out hx3.out) GO.out (.int .i64 s7) (.slice A7 k7' c7) (.slice B7 l7 d7))
        have RZ := Lib.hid hr
        obtain ⟨z0, z1, z2, f0, f1, f2⟩ := rowR_0 hr
        obtain ⟨o1, o2, o3, o4, o5, o6, o7, hoR, hoN⟩ := out_put2 LT5.out H7.out F7.out R7.out
        clear hr
        go_wp2_with fail
        refine bodyPost_ret (v := .agg #[.int .i64 s7, .slice A7 k7' c7, .slice B7 l7 d7]) (by simp [results, Tryz.f113]; go_simp) rfl ?_
        refine ⟨_, rfl, ?_, ext_put3r (ext_put3r (ext_trans hww.out (ext_trans X0.out hx3.out)) (Nat.le_trans hww.out.size GO.out) _ _ _) Hsz.out _ _ _⟩
        rw [← HI.out]
        exact Nr.put_z (H7.out.put_n (F7.out.mono LT5.out) _ _ _) RZ.out _ _ _
    · have hlt : decide (c < j) = true := by rw [decide_eq_true_eq]; omega
      have hlt1 : decide ((c : Int) < (j : Int)) = true := by rw [decide_eq_true_eq]; omega
      have hlt2 : c < j := by omega
      have hlt3 : decide ((c : Int) < -(j : Int)) = false := by rw [decide_eq_false_iff_not]; omega
      have q8 : IntKind.i64.wrap ((c : Int) + 1) = (c : Int) + 1 := IntWalk.i64_in _ (by have := HJ.out; omega)
      have Hlt := Lib.hid hlt2
      have HZ0 := Lib.hid hz
      have Q8 := Lib.hid q8
      clear hlt2 hz hc q8
      go_upto_region 5 with (fail)
      go_region_with (first
        | (have _q := hx2
           go_at_call 30
           refine (mul_f 4000065 HM.out _ _ (tensQ 1 (c : Int)) _ _ (N3.out.mono hx2.out) G5.out (HB.out c (Nat.le_of_lt Hlt.out)) BT.out).mono ?_
           clear _q
           rintro e w7 ⟨v7, rfl, h7, k7, fr⟩
           obtain ⟨s7, A7, k7', c7, B7, l7, d7, h7e, -⟩ := h7.form
           subst h7e
           have H7 := Lib.hid h7
           have F7 := Lib.hid fr
           have hr7 := (k7.block _ (lt_of_block R5.out)).trans R5.out
           have R7 := Lib.hid hr7
           have hx3 := Lib.hid (ext_trans hx2.out k7)
           clear fr h7 k7
           obtain ⟨x0, x1, x2, xf0, xf1, xf2⟩ := rowR_0 hr7
           clear hr7)
        | (go_at_call 25
           refine (int_n 10 (by decide) (by decide) _).mono ?_
           rintro e w5 ⟨v5, rfl, h5, k5⟩
           have G5 := Lib.hid h5
           have hx2 := Lib.hid (show Ext WR w5 from ext_trans (ext_drew WR) k5)
           have hr5 := (hx2.out.block _ (lt_of_block R3.out)).trans R3.out
           have R5 := Lib.hid hr5
           have LT5 := Lib.hid (lt_of_block hr5)
           obtain ⟨u0, u1, u2, -⟩ := rowR_0 hr5
           clear hr5 h5 k5))
      all_goals
        have q8 := Q8.out
        go_wp2_with fail
        go_roundg (gk - 1)
        case measure => have := HZ0.out; omega
        case rel => exact ⟨c + 1, by have := HC.out; have := HZ0.out; omega, by go_num, by rw [← tensQ_succ]; exact out_put2 LT5.out H7.out F7.out R7.out, ext_put3r (ext_trans X0.out hx3.out) GO.out _ _ _⟩
theorem ten_n (z : Int) (hz : z.natAbs ≤ 1000000) (w : World) :
    Calls Tryz.prog 113 #[.int .i64 z] w fun e w' => ∃ v, e = .returned v ∧ Nr w' v (tensQ 1 z) ∧ Ext w w' := by
  rcases (show z < 0 ∨ 0 ≤ z by omega) with h | h
  · obtain ⟨k, rfl⟩ : ∃ k : Nat, z = -(k : Int) := ⟨z.natAbs, by omega⟩
    exact ten_down k (by omega) (by omega) w
  · obtain ⟨k, rfl⟩ : ∃ k : Nat, z = (k : Int) := ⟨z.toNat, by omega⟩
    exact ten_up k (by omega) w
set_option maxRecDepth 100000 in
set_option maxHeartbeats 4000000 in
theorem pow_n_range (z : Int) (hz : z < -64 ∨ 64 < z) (h1 : -9223372036854775808 ≤ z) (h2 : z < 9223372036854775808) (vx : Value) (x : Rat) (w : World) (hx : Nr w vx x) :
    Calls Tryz.prog 23 #[vx, .int .i64 z] w fun e w' => ∃ v, e = .returned (.tuple #[v, .int .i64 7]) ∧ Nr w' v 0 ∧ Ext w w' := by
  obtain ⟨s, A, k, ca, B, l, cb, rfl, -, -, -⟩ := hx.form
  clear hx
  rcases hz with h | h
  · have t1 : decide (z < -64) = true := by rw [decide_eq_true_eq]; exact h
    go_enter Tryz.func23, Tryz.ntmps23
    go_wp2_with fail
    refine bodyPost_ret (v := .tuple #[.agg #[.int .i64 0, .slice none 0 0, .slice none 0 0], .int .i64 7]) (by simp [results, Tryz.f23]; go_simp) rfl ?_
    exact ⟨_, rfl, Nr.zero _, ext2r _ _ _⟩
  · have t1 : decide (z < -64) = false := by rw [decide_eq_false_iff_not]; omega
    have t3 : ¬ z < -64 := by omega
    have t2 : decide (64 < z) = true := by rw [decide_eq_true_eq]; exact h
    go_enter Tryz.func23, Tryz.ntmps23
    go_wp2_with fail
    refine bodyPost_ret (v := .tuple #[.agg #[.int .i64 0, .slice none 0 0, .slice none 0 0], .int .i64 7]) (by simp [results, Tryz.f23]; go_simp) rfl ?_
    exact ⟨_, rfl, Nr.zero _, ext2r _ _ _⟩
theorem out_putz {W : World} {g : Nat} {s : Int} {A B : Option Addr} {k c l d : Nat} {q : Rat} (h : Nr W (.agg #[.int .i64 s, .slice A k c, .slice B l d]) q) (hr : W.heap[g]? = some (.cells #[.int .i64 0, .slice none 0 0, .slice none 0 0] 31 (0, 0))) :
    OutR (((W.setCell ⟨g, 0, none⟩ (.int .i64 s)).setCell ⟨g, 1, none⟩ (.slice A k c)).setCell ⟨g, 2, none⟩ (.slice B l d)) g q :=
  ⟨s, A, k, c, B, l, d, put3_row hr _ _ _, Nr.put_z h hr _ _ _⟩
theorem ext_alR {a b : World} (h : Ext a b) (o : Obj) : Ext a (b.alloc o) := ext_trans h (ext_alloc _ _)
theorem ext_drR {a b : World} (h : Ext a b) : Ext a b.drew := ext_trans h (ext_drew _)
set_option maxRecDepth 100000 in
set_option maxHeartbeats 8000000 in
theorem pow_n_zero (M : Nat) (hM : M ≤ 1048576) (j : Nat) (h0j : 0 < j) (hj : j ≤ 64) (vx : Value) (x : Rat) (w : World) (hx : Nr w vx 0) :
    Calls Tryz.prog 23 #[vx, .int .i64 (-(j : Int))] w fun e w' => ∃ v, e = .returned (.tuple #[v, .int .i64 8]) ∧ Nr w' v 0 ∧ Ext w w' := by
  have DV := Lib.hid (fun (W : World) (u : Value) (hu : Nr W u ((1 : Int) : Rat)) (k : Ext w W) => div_n_zero u vx ((1 : Int) : Rat) W hu (hx.mono k))
  have q1 : decide (-(j : Int) < -64) = false := by rw [decide_eq_false_iff_not]; omega
  have q1' : decide ((64 : Int) < (j : Int)) = false := by rw [decide_eq_false_iff_not]; omega
  have q1'' : decide (64 < j) = false := by rw [decide_eq_false_iff_not]; omega
  have q2 : decide ((64 : Int) < -(j : Int)) = false := by rw [decide_eq_false_iff_not]; omega
  have q3 : decide (-(j : Int) < 0) = true := by rw [decide_eq_true_eq]; omega
  have q3' : decide (0 < j) = true := by rw [decide_eq_true_eq]; omega
  have q4 : ¬ -(j : Int) < -64 := by omega
  have q5 : ¬ (64 : Int) < -(j : Int) := by omega
  have q9 : IntKind.i64.wrap (j : Int) = (j : Int) := IntWalk.i64_in _ (by omega)
  clear hj hM h0j
  obtain ⟨s, A, k, ca, B, l, cb, rfl, hsg, hxt, hxb⟩ := hx.form
  obtain ⟨hS, hZ, hw1, hw2, hsz1⟩ := setupR3 w (.int .i64 s) (.slice A k ca) (.slice B l cb)
  have HS := Lib.hid hS
  have HZ := Lib.hid hZ
  have HW1 := Lib.hid hw1
  have HW2 := Lib.hid hw2
  have LG := Lib.hid (show w.heap.size < ((w.alloc (.cells #[.int .i64 s, .slice A k ca, .slice B l cb] 31)).alloc (.cells #[.int .i64 0, .slice none 0 0, .slice none 0 0] 31)).heap.size by simp; omega)
  clear hx hxt hxb hS hZ hw1 hw2 hsz1 hsg
  go_enter Tryz.func23, Tryz.ntmps23
  go_upto_region 4 with (fail)
  generalize World.alloc (World.alloc w (.cells #[.int .i64 s, .slice A k ca, .slice B l cb] _)) _ = W2 at *
  generalize World.alloc w (.cells #[.int .i64 s, .slice A k ca, .slice B l cb] _) = W1 at *
  generalize hg0 : w.heap.size = g0 at *
  have Hsz := Lib.hid (show w.heap.size ≤ g0 + 1 by omega)
  clear hg0
  have hww := Lib.hid (ext_trans HW1.out HW2.out)
  have DV := Lib.hid (fun W u hu (k : Ext W2 W) => DV.out W u hu (ext_trans hww.out k))
  have LGA := Lib.hid LG.out
  go_cut [6, 7] (fun p e wx => ∃ gs : Nat, p = .pointer (some ⟨gs, 0, none⟩) ∧ e = .int .i64 8 ∧ OutR wx gs 0 ∧ Ext W2 wx)
  case first =>
    have hx0 := Lib.hid (ext_refl W2)
    have hza := Lib.hid (Nat.le_refl W2.heap.size)
    have nza : g0 ≠ W2.heap.size := Nat.ne_of_lt LGA.out
    have hS0 := HS.out W2 HW2.out
    go_region_held3 (fun W => W.cell? ⟨g0, 0, none⟩ = some (.int .i64 s) ∧ W.cell? ⟨g0, 1, none⟩ = some (.slice A k ca) ∧ W.cell? ⟨g0, 2, none⟩ = some (.slice B l cb))
      ((refine HS.out _ (ext_trans HW2.out ?_) <;> (repeat (first | with_reducible refine ext_drR ?_ | with_reducible refine ext_put3r ?_ (by first | with_reducible exact hza.out | with_reducible exact hzb.out | with_reducible exact hzc.out) _ _ _ | with_reducible refine ext_alR ?_ _ | with_reducible exact hx2.out | with_reducible exact hx1.out | with_reducible exact hx0.out)); done))
      (first
        | (have _q := hx1
           go_at_call 55
           with_reducible refine (DV.out (w21.alloc (.cells #[.int .i64 0, .slice none 0 0, .slice none 0 0] 31)) _ (H21.out.mono (by (repeat (first | with_reducible exact ext_refl _ | with_reducible exact ext_alloc _ _)))) (by (repeat (first | with_reducible refine ext_drR ?_ | with_reducible refine ext_put3r ?_ (by first | with_reducible exact hza.out | with_reducible exact hzb.out | with_reducible exact hzc.out) _ _ _ | with_reducible refine ext_alR ?_ _ | with_reducible exact hx2.out | with_reducible exact hx1.out | with_reducible exact hx0.out)))).mono ?_
           clear _q
           rintro e w22 ⟨v22, rfl, h22, kk22⟩
           obtain ⟨s22, A22, k22, c22, B22, l22, d22, hh22, -⟩ := h22.form
           subst hh22
           have H22 := Lib.hid h22
           have hx2 := Lib.hid (show Ext W2 w22 from ext_trans (by (repeat (first | with_reducible refine ext_drR ?_ | with_reducible refine ext_put3r ?_ (by first | with_reducible exact hza.out | with_reducible exact hzb.out | with_reducible exact hzc.out) _ _ _ | with_reducible refine ext_alR ?_ _ | with_reducible exact hx2.out | with_reducible exact hx1.out | with_reducible exact hx0.out))) kk22)
           have hzc := Lib.hid (show W2.heap.size ≤ w22.heap.size from hx2.out.size)
           have nzc : g0 ≠ w22.heap.size := Nat.ne_of_lt (Nat.lt_of_lt_of_le LGA.out hzc.out)
           have zc' := Lib.hid (rowR kk22)
           obtain ⟨z0, z1, z2, f0, f1, f2⟩ := rowR_0 zc'.out
           clear h22 kk22)
        | (have _q := hx1
           go_at_call 55
           with_reducible refine (DV.out w21 _ (H21.out.mono (by (repeat (first | with_reducible exact ext_refl _ | with_reducible exact ext_alloc _ _)))) (by (repeat (first | with_reducible refine ext_drR ?_ | with_reducible refine ext_put3r ?_ (by first | with_reducible exact hza.out | with_reducible exact hzb.out | with_reducible exact hzc.out) _ _ _ | with_reducible refine ext_alR ?_ _ | with_reducible exact hx2.out | with_reducible exact hx1.out | with_reducible exact hx0.out)))).mono ?_
           clear _q
           rintro e w22 ⟨v22, rfl, h22, kk22⟩
           obtain ⟨s22, A22, k22, c22, B22, l22, d22, hh22, -⟩ := h22.form
           subst hh22
           have H22 := Lib.hid h22
           have hx2 := Lib.hid (show Ext W2 w22 from ext_trans (by (repeat (first | with_reducible refine ext_drR ?_ | with_reducible refine ext_put3r ?_ (by first | with_reducible exact hza.out | with_reducible exact hzb.out | with_reducible exact hzc.out) _ _ _ | with_reducible refine ext_alR ?_ _ | with_reducible exact hx2.out | with_reducible exact hx1.out | with_reducible exact hx0.out))) kk22)
           have hzc := Lib.hid (show W2.heap.size ≤ w22.heap.size from hx2.out.size)
           have nzc : g0 ≠ w22.heap.size := Nat.ne_of_lt (Nat.lt_of_lt_of_le LGA.out hzc.out)
           have za' := Lib.hid ((kk22.block _ (lt_of_block za.out)).trans za.out)
           obtain ⟨z0, z1, z2, f0, f1, f2⟩ := rowR_0 za'.out
           clear h22 kk22)
        | (have _q := hx1
           go_at_call 55
           with_reducible refine (DV.out w21 _ (H21.out.mono (by (repeat (first | with_reducible exact ext_refl _ | with_reducible exact ext_alloc _ _)))) (by (repeat (first | with_reducible refine ext_drR ?_ | with_reducible refine ext_put3r ?_ (by first | with_reducible exact hza.out | with_reducible exact hzb.out | with_reducible exact hzc.out) _ _ _ | with_reducible refine ext_alR ?_ _ | with_reducible exact hx2.out | with_reducible exact hx1.out | with_reducible exact hx0.out)))).mono ?_
           clear _q
           rintro e w22 ⟨v22, rfl, h22, kk22⟩
           obtain ⟨s22, A22, k22, c22, B22, l22, d22, hh22, -⟩ := h22.form
           subst hh22
           have H22 := Lib.hid h22
           have hx2 := Lib.hid (show Ext W2 w22 from ext_trans (by (repeat (first | with_reducible refine ext_drR ?_ | with_reducible refine ext_put3r ?_ (by first | with_reducible exact hza.out | with_reducible exact hzb.out | with_reducible exact hzc.out) _ _ _ | with_reducible refine ext_alR ?_ _ | with_reducible exact hx2.out | with_reducible exact hx1.out | with_reducible exact hx0.out))) kk22)
           have hzc := Lib.hid (show W2.heap.size ≤ w22.heap.size from hx2.out.size)
           have nzc : g0 ≠ w22.heap.size := Nat.ne_of_lt (Nat.lt_of_lt_of_le LGA.out hzc.out)
           clear h22 kk22)
        | (go_at_call 25
           with_reducible refine (int_n 1 (by decide) (by decide) (W2.alloc (.cells #[.int .i64 0, .slice none 0 0, .slice none 0 0] 31)).drew).mono ?_
           rintro e w21 ⟨v21, rfl, h21, kk21⟩
           obtain ⟨s21, A21, k21, c21, B21, l21, d21, hh21, -⟩ := h21.form
           subst hh21
           have H21 := Lib.hid h21
           have hx1 := Lib.hid (show Ext W2 w21 from ext_trans (by (repeat (first | with_reducible refine ext_drR ?_ | with_reducible refine ext_put3r ?_ (by first | with_reducible exact hza.out | with_reducible exact hzb.out | with_reducible exact hzc.out) _ _ _ | with_reducible refine ext_alR ?_ _ | with_reducible exact hx2.out | with_reducible exact hx1.out | with_reducible exact hx0.out))) kk21)
           have hzb := Lib.hid (show W2.heap.size ≤ w21.heap.size from hx1.out.size)
           have nzb : g0 ≠ w21.heap.size := Nat.ne_of_lt (Nat.lt_of_lt_of_le LGA.out hzb.out)
           have za := Lib.hid (rowR (ext_trans (ext_drew _) kk21))
           clear h21 kk21)
        | (go_at_call 25
           with_reducible refine (int_n 1 (by decide) (by decide) W2.drew).mono ?_
           rintro e w21 ⟨v21, rfl, h21, kk21⟩
           obtain ⟨s21, A21, k21, c21, B21, l21, d21, hh21, -⟩ := h21.form
           subst hh21
           have H21 := Lib.hid h21
           have hx1 := Lib.hid (show Ext W2 w21 from ext_trans (by (repeat (first | with_reducible refine ext_drR ?_ | with_reducible refine ext_put3r ?_ (by first | with_reducible exact hza.out | with_reducible exact hzb.out | with_reducible exact hzc.out) _ _ _ | with_reducible refine ext_alR ?_ _ | with_reducible exact hx2.out | with_reducible exact hx1.out | with_reducible exact hx0.out))) kk21)
           have hzb := Lib.hid (show W2.heap.size ≤ w21.heap.size from hx1.out.size)
           have nzb : g0 ≠ w21.heap.size := Nat.ne_of_lt (Nat.lt_of_lt_of_le LGA.out hzb.out)
           clear h21 kk21))
    all_goals
      go_wp2_with fail
      go_meet
      refine ⟨_, rfl, by first | rfl | simp, ?_, ?_⟩
      · first
          | with_reducible exact out_new H22.out
          | with_reducible exact out_putz H22.out zc'.out
          | with_reducible exact out_putz H22.out za'.out
      · repeat (first | with_reducible refine ext_drR ?_ | with_reducible refine ext_put3r ?_ (by first | with_reducible exact hza.out | with_reducible exact hzb.out | with_reducible exact hzc.out) _ _ _ | with_reducible refine ext_alR ?_ _ | with_reducible exact hx2.out | with_reducible exact hx1.out | with_reducible exact hx0.out)
  case rest =>
    obtain ⟨gs, rfl, rfl, ho, hext⟩ := hcut
    rename World => W3
    obtain ⟨s3, A3, k3, c3, B3, l3, d3, ho1, ho2⟩ := ho
    have R3 := Lib.hid ho1
    have N3 := Lib.hid ho2
    have X0 := Lib.hid hext
    obtain ⟨y0, y1, y2, -⟩ := rowR_0 ho1
    clear ho1 ho2 hext
    have hr := HZ.out _ X0.out
    have RZ := Lib.hid hr
    obtain ⟨z0, z1, z2, f0, f1, f2⟩ := rowR_0 hr
    clear hr
    go_wp2_with fail
    refine bodyPost_ret (v := .tuple #[.agg #[.int .i64 0, .slice none 0 0, .slice none 0 0], .int .i64 8]) (by simp [results, Tryz.f23]; go_simp) rfl ?_
    exact ⟨_, rfl, Nr.zero _, ext_put3r (ext_trans hww.out X0.out) Hsz.out _ _ _⟩
set_option maxRecDepth 100000 in
set_option maxHeartbeats 8000000 in
theorem pow_n_neg (M : Nat) (hM : M ≤ 1048576) (j : Nat) (h0j : 0 < j) (hj : j ≤ 64) (vx : Value) (x : Rat) (w : World) (hx : Nr w vx x) (bx : Bq M x) (h0 : x ≠ 0) :
    Calls Tryz.prog 23 #[vx, .int .i64 (-(j : Int))] w fun e w' => ∃ v, e = .returned (.tuple #[v, .int .i64 0]) ∧ Nr w' v ((1 / x) ^ j) ∧ Ext w w' := by
  have e1 : ((1 : Int) : Rat) = 1 := rfl
  have BY := Lib.hid (show Bq (M + 64) (1 / x) from (bq_one_over bx h0).mono (by omega))
  have BX := Lib.hid (show Bq (M + 64) x from bx.mono (by omega))
  have HM := Lib.hid hM
  have DV := Lib.hid (fun (W : World) (u : Value) (hu : Nr W u ((1 : Int) : Rat)) (k : Ext w W) => div_n (M + 64) (by omega) u vx ((1 : Int) : Rat) x W hu (hx.mono k) ((bq_int 1 (by decide) (by decide)).mono (by omega)) BX.out h0)
  have HJ := Lib.hid hj
  rw [e1] at DV
  have q1 : decide (-(j : Int) < -64) = false := by rw [decide_eq_false_iff_not]; omega
  have q1' : decide ((64 : Int) < (j : Int)) = false := by rw [decide_eq_false_iff_not]; omega
  have q1'' : decide (64 < j) = false := by rw [decide_eq_false_iff_not]; omega
  have q2 : decide ((64 : Int) < -(j : Int)) = false := by rw [decide_eq_false_iff_not]; omega
  have q3 : decide (-(j : Int) < 0) = true := by rw [decide_eq_true_eq]; omega
  have q3' : decide (0 < j) = true := by rw [decide_eq_true_eq]; omega
  have q4 : ¬ -(j : Int) < -64 := by omega
  have q5 : ¬ (64 : Int) < -(j : Int) := by omega
  have q9 : IntKind.i64.wrap (j : Int) = (j : Int) := IntWalk.i64_in _ (by omega)
  clear hj hM h0j bx h0 e1
  obtain ⟨s, A, k, ca, B, l, cb, rfl, hsg, hxt, hxb⟩ := hx.form
  obtain ⟨hS, hZ, hw1, hw2, hsz1⟩ := setupR3 w (.int .i64 s) (.slice A k ca) (.slice B l cb)
  have HS := Lib.hid hS
  have HZ := Lib.hid hZ
  have HW1 := Lib.hid hw1
  have HW2 := Lib.hid hw2
  have LG := Lib.hid (show w.heap.size < ((w.alloc (.cells #[.int .i64 s, .slice A k ca, .slice B l cb] 31)).alloc (.cells #[.int .i64 0, .slice none 0 0, .slice none 0 0] 31)).heap.size by simp; omega)
  clear hx hxt hxb hS hZ hw1 hw2 hsz1 hsg
  go_enter Tryz.func23, Tryz.ntmps23
  go_upto_region 4 with (fail)
  generalize World.alloc (World.alloc w (.cells #[.int .i64 s, .slice A k ca, .slice B l cb] _)) _ = W2 at *
  generalize World.alloc w (.cells #[.int .i64 s, .slice A k ca, .slice B l cb] _) = W1 at *
  generalize hg0 : w.heap.size = g0 at *
  have Hsz := Lib.hid (show w.heap.size ≤ g0 + 1 by omega)
  clear hg0
  have hww := Lib.hid (ext_trans HW1.out HW2.out)
  have DV := Lib.hid (fun W u hu (k : Ext W2 W) => DV.out W u hu (ext_trans hww.out k))
  have LGA := Lib.hid LG.out
  go_cut [6, 7] (fun p e wx => ∃ gs : Nat, p = .pointer (some ⟨gs, 0, none⟩) ∧ e = .int .i64 0 ∧ OutR wx gs (1 / x) ∧ Ext W2 wx)
  case first =>
    have hx0 := Lib.hid (ext_refl W2)
    have hza := Lib.hid (Nat.le_refl W2.heap.size)
    have nza : g0 ≠ W2.heap.size := Nat.ne_of_lt LGA.out
    have hS0 := HS.out W2 HW2.out
    go_region_held3 (fun W => W.cell? ⟨g0, 0, none⟩ = some (.int .i64 s) ∧ W.cell? ⟨g0, 1, none⟩ = some (.slice A k ca) ∧ W.cell? ⟨g0, 2, none⟩ = some (.slice B l cb))
      ((refine HS.out _ (ext_trans HW2.out ?_) <;> (repeat (first | with_reducible refine ext_drR ?_ | with_reducible refine ext_put3r ?_ (by first | with_reducible exact hza.out | with_reducible exact hzb.out | with_reducible exact hzc.out) _ _ _ | with_reducible refine ext_alR ?_ _ | with_reducible exact hx2.out | with_reducible exact hx1.out | with_reducible exact hx0.out)); done))
      (first
        | (have _q := hx1
           go_at_call 55
           with_reducible refine (DV.out (w21.alloc (.cells #[.int .i64 0, .slice none 0 0, .slice none 0 0] 31)) _ (H21.out.mono (by (repeat (first | with_reducible exact ext_refl _ | with_reducible exact ext_alloc _ _)))) (by (repeat (first | with_reducible refine ext_drR ?_ | with_reducible refine ext_put3r ?_ (by first | with_reducible exact hza.out | with_reducible exact hzb.out | with_reducible exact hzc.out) _ _ _ | with_reducible refine ext_alR ?_ _ | with_reducible exact hx2.out | with_reducible exact hx1.out | with_reducible exact hx0.out)))).mono ?_
           clear _q
           rintro e w22 ⟨v22, rfl, h22, kk22⟩
           obtain ⟨s22, A22, k22, c22, B22, l22, d22, hh22, -⟩ := h22.form
           subst hh22
           have H22 := Lib.hid h22
           have hx2 := Lib.hid (show Ext W2 w22 from ext_trans (by (repeat (first | with_reducible refine ext_drR ?_ | with_reducible refine ext_put3r ?_ (by first | with_reducible exact hza.out | with_reducible exact hzb.out | with_reducible exact hzc.out) _ _ _ | with_reducible refine ext_alR ?_ _ | with_reducible exact hx2.out | with_reducible exact hx1.out | with_reducible exact hx0.out))) kk22)
           have hzc := Lib.hid (show W2.heap.size ≤ w22.heap.size from hx2.out.size)
           have nzc : g0 ≠ w22.heap.size := Nat.ne_of_lt (Nat.lt_of_lt_of_le LGA.out hzc.out)
           have zc' := Lib.hid (rowR kk22)
           obtain ⟨z0, z1, z2, f0, f1, f2⟩ := rowR_0 zc'.out
           clear h22 kk22)
        | (have _q := hx1
           go_at_call 55
           with_reducible refine (DV.out w21 _ (H21.out.mono (by (repeat (first | with_reducible exact ext_refl _ | with_reducible exact ext_alloc _ _)))) (by (repeat (first | with_reducible refine ext_drR ?_ | with_reducible refine ext_put3r ?_ (by first | with_reducible exact hza.out | with_reducible exact hzb.out | with_reducible exact hzc.out) _ _ _ | with_reducible refine ext_alR ?_ _ | with_reducible exact hx2.out | with_reducible exact hx1.out | with_reducible exact hx0.out)))).mono ?_
           clear _q
           rintro e w22 ⟨v22, rfl, h22, kk22⟩
           obtain ⟨s22, A22, k22, c22, B22, l22, d22, hh22, -⟩ := h22.form
           subst hh22
           have H22 := Lib.hid h22
           have hx2 := Lib.hid (show Ext W2 w22 from ext_trans (by (repeat (first | with_reducible refine ext_drR ?_ | with_reducible refine ext_put3r ?_ (by first | with_reducible exact hza.out | with_reducible exact hzb.out | with_reducible exact hzc.out) _ _ _ | with_reducible refine ext_alR ?_ _ | with_reducible exact hx2.out | with_reducible exact hx1.out | with_reducible exact hx0.out))) kk22)
           have hzc := Lib.hid (show W2.heap.size ≤ w22.heap.size from hx2.out.size)
           have nzc : g0 ≠ w22.heap.size := Nat.ne_of_lt (Nat.lt_of_lt_of_le LGA.out hzc.out)
           have za' := Lib.hid ((kk22.block _ (lt_of_block za.out)).trans za.out)
           obtain ⟨z0, z1, z2, f0, f1, f2⟩ := rowR_0 za'.out
           clear h22 kk22)
        | (have _q := hx1
           go_at_call 55
           with_reducible refine (DV.out w21 _ (H21.out.mono (by (repeat (first | with_reducible exact ext_refl _ | with_reducible exact ext_alloc _ _)))) (by (repeat (first | with_reducible refine ext_drR ?_ | with_reducible refine ext_put3r ?_ (by first | with_reducible exact hza.out | with_reducible exact hzb.out | with_reducible exact hzc.out) _ _ _ | with_reducible refine ext_alR ?_ _ | with_reducible exact hx2.out | with_reducible exact hx1.out | with_reducible exact hx0.out)))).mono ?_
           clear _q
           rintro e w22 ⟨v22, rfl, h22, kk22⟩
           obtain ⟨s22, A22, k22, c22, B22, l22, d22, hh22, -⟩ := h22.form
           subst hh22
           have H22 := Lib.hid h22
           have hx2 := Lib.hid (show Ext W2 w22 from ext_trans (by (repeat (first | with_reducible refine ext_drR ?_ | with_reducible refine ext_put3r ?_ (by first | with_reducible exact hza.out | with_reducible exact hzb.out | with_reducible exact hzc.out) _ _ _ | with_reducible refine ext_alR ?_ _ | with_reducible exact hx2.out | with_reducible exact hx1.out | with_reducible exact hx0.out))) kk22)
           have hzc := Lib.hid (show W2.heap.size ≤ w22.heap.size from hx2.out.size)
           have nzc : g0 ≠ w22.heap.size := Nat.ne_of_lt (Nat.lt_of_lt_of_le LGA.out hzc.out)
           clear h22 kk22)
        | (go_at_call 25
           with_reducible refine (int_n 1 (by decide) (by decide) (W2.alloc (.cells #[.int .i64 0, .slice none 0 0, .slice none 0 0] 31)).drew).mono ?_
           rintro e w21 ⟨v21, rfl, h21, kk21⟩
           obtain ⟨s21, A21, k21, c21, B21, l21, d21, hh21, -⟩ := h21.form
           subst hh21
           have H21 := Lib.hid h21
           have hx1 := Lib.hid (show Ext W2 w21 from ext_trans (by (repeat (first | with_reducible refine ext_drR ?_ | with_reducible refine ext_put3r ?_ (by first | with_reducible exact hza.out | with_reducible exact hzb.out | with_reducible exact hzc.out) _ _ _ | with_reducible refine ext_alR ?_ _ | with_reducible exact hx2.out | with_reducible exact hx1.out | with_reducible exact hx0.out))) kk21)
           have hzb := Lib.hid (show W2.heap.size ≤ w21.heap.size from hx1.out.size)
           have nzb : g0 ≠ w21.heap.size := Nat.ne_of_lt (Nat.lt_of_lt_of_le LGA.out hzb.out)
           have za := Lib.hid (rowR (ext_trans (ext_drew _) kk21))
           clear h21 kk21)
        | (go_at_call 25
           with_reducible refine (int_n 1 (by decide) (by decide) W2.drew).mono ?_
           rintro e w21 ⟨v21, rfl, h21, kk21⟩
           obtain ⟨s21, A21, k21, c21, B21, l21, d21, hh21, -⟩ := h21.form
           subst hh21
           have H21 := Lib.hid h21
           have hx1 := Lib.hid (show Ext W2 w21 from ext_trans (by (repeat (first | with_reducible refine ext_drR ?_ | with_reducible refine ext_put3r ?_ (by first | with_reducible exact hza.out | with_reducible exact hzb.out | with_reducible exact hzc.out) _ _ _ | with_reducible refine ext_alR ?_ _ | with_reducible exact hx2.out | with_reducible exact hx1.out | with_reducible exact hx0.out))) kk21)
           have hzb := Lib.hid (show W2.heap.size ≤ w21.heap.size from hx1.out.size)
           have nzb : g0 ≠ w21.heap.size := Nat.ne_of_lt (Nat.lt_of_lt_of_le LGA.out hzb.out)
           clear h21 kk21))
    all_goals
      go_wp2_with fail
      go_meet
      refine ⟨_, rfl, by first | rfl | simp, ?_, ?_⟩
      · first
          | with_reducible exact out_new H22.out
          | with_reducible exact out_putz H22.out zc'.out
          | with_reducible exact out_putz H22.out za'.out
      · repeat (first | with_reducible refine ext_drR ?_ | with_reducible refine ext_put3r ?_ (by first | with_reducible exact hza.out | with_reducible exact hzb.out | with_reducible exact hzc.out) _ _ _ | with_reducible refine ext_alR ?_ _ | with_reducible exact hx2.out | with_reducible exact hx1.out | with_reducible exact hx0.out)
  case rest =>
    obtain ⟨gs, rfl, rfl, ho, hext⟩ := hcut
    rename World => W3
    obtain ⟨s3, A3, k3, c3, B3, l3, d3, ho1, ho2⟩ := ho
    have R3 := Lib.hid ho1
    have N3 := Lib.hid ho2
    have X0 := Lib.hid hext
    obtain ⟨y0, y1, y2, -⟩ := rowR_0 ho1
    clear ho1 ho2 hext
    go_wp2_with fail
    refine (pow_n (M + 64) (by have := HM.out; omega) j HJ.out _ (1 / x) _ N3.out BY.out).mono ?_
    rintro e w7 ⟨v7, rfl, h7, k7⟩
    obtain ⟨s7, A7, k7', c7, B7, l7, d7, h7e, -⟩ := h7.form
    subst h7e
    have H7 := Lib.hid h7
    have K7 := Lib.hid (ext_trans X0.out k7)
    have hr := HZ.out _ K7.out
    have RZ := Lib.hid hr
    obtain ⟨z0, z1, z2, f0, f1, f2⟩ := rowR_0 hr
    clear hr h7 k7
    go_wp2_with fail
    refine bodyPost_ret (v := .tuple #[.agg #[.int .i64 s7, .slice A7 k7' c7, .slice B7 l7 d7], .int .i64 0]) (by simp [results, Tryz.f23]; go_simp) rfl ?_
    exact ⟨_, rfl, Nr.put_z H7.out RZ.out _ _ _, ext_put3r (ext_trans hww.out K7.out) Hsz.out _ _ _⟩
theorem pow_r (M : Nat) (hM : M ≤ 1048576) (z : Int) (h1 : -9223372036854775808 ≤ z) (h2 : z < 9223372036854775808) (vx : Value) (x : Rat) (w : World) (hx : Nr w vx x) (bx : Bq M x) :
    Calls Tryz.prog 23 #[vx, .int .i64 z] w fun e w' => ∃ v, e = .returned (.tuple #[v, .int .i64 (powP x z).1]) ∧ Nr w' v (powP x z).2 ∧ Ext w w' := by
  unfold powP
  split
  · rename_i h
    exact pow_n_range z h h1 h2 vx x w hx
  · rename_i h
    split
    · rename_i hn
      obtain ⟨k, rfl⟩ : ∃ k : Nat, z = -(k : Int) := ⟨z.natAbs, by omega⟩
      split
      · rename_i h0
        subst h0
        exact pow_n_zero M hM k (by omega) (by omega) vx 0 w hx
      · rename_i h0
        rw [Int.natAbs_neg, Int.natAbs_natCast]
        exact pow_n_neg M hM k (by omega) (by omega) vx x w hx bx h0
    · obtain ⟨k, rfl⟩ : ∃ k : Nat, z = (k : Int) := ⟨z.toNat, by omega⟩
      rw [Int.natAbs_natCast]
      exact pow_n M (by omega) k (by omega) vx x w hx bx
end Go.Proofs.YtpgdefgdboijlaaGreatDoor
