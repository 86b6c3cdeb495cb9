/- The law of rounded numbers: the walk. Printed by gen_ln.py. -/
import Derived.Test.YtpgdefgdboijlaaGreatDoorLw
import Derived.Test.YtpgdefgdboijlaaGreatDoorLo
import Derived.Test.YtpgdefgdboijlaaGreatDoorNm
import Derived.Test.YtpgdefgdboijlaaGreatDoorLo
namespace Go.Proofs.YtpgdefgdboijlaaGreatDoor
open Go.RowKit
set_option linter.unusedVariables false
theorem u16_bnd {z : Int} (h : (Lit.int .u16 z).wf = true) : 0 ≤ z ∧ z ≤ 65535 := by
  simpa [Lit.wf, IntKind.min, IntKind.max, IntKind.signed, IntKind.bits] using h
theorem down_d (M : Nat) (hM : M ≤ 1073741824) (bits : Int) (vx : Value) (x : Rat) (w : World) (hx : Nm w vx x) (bx : Bq M x) :
    Calls Tryz.prog 31 #[vx, .int .i64 bits] w fun e w' => ∃ v, e = .returned v ∧ Nm w' v (downQ x bits) ∧ Ext w w' := down_q M hM bits vx x w hx bx
theorem up_d (M : Nat) (hM : M ≤ 1073741824) (bits : Int) (vx : Value) (x : Rat) (w : World) (hx : Nm w vx x) (bx : Bq M x) :
    Calls Tryz.prog 33 #[vx, .int .i64 bits] w fun e w' => ∃ v, e = .returned v ∧ Nm w' v (upQ x bits) ∧ Ext w w' := up_q M hM bits vx x w hx bx
theorem down_e (M : Nat) (hM : M ≤ 1073741824) (bits : Int) (vx : Value) (x r : Rat) (hr : downQ x bits = r) (w : World) (hx : Nm w vx x) (bx : Bq M x) :
    Calls Tryz.prog 31 #[vx, .int .i64 bits] w fun e w' => ∃ v, e = .returned v ∧ Nm w' v r ∧ Ext w w' := by
  subst hr; exact down_q M hM bits vx x w hx bx
theorem up_e (M : Nat) (hM : M ≤ 1073741824) (bits : Int) (vx : Value) (x r : Rat) (hr : upQ x bits = r) (w : World) (hx : Nm w vx x) (bx : Bq M x) :
    Calls Tryz.prog 33 #[vx, .int .i64 bits] w fun e w' => ∃ v, e = .returned v ∧ Nm w' v r ∧ Ext w w' := by
  subst hr; exact up_q M hM bits vx x w hx bx
set_option maxRecDepth 100000 in
set_option maxHeartbeats 8000000 in
theorem near_c (s : List UInt8) (hs : s.length ≤ 9223372036854775807) (bits : Int) (hb0 : 0 ≤ bits) (hb1 : bits ≤ 65535) (w : World) (ht : Tab w) :
    Calls Tryz.prog 8 #[.string ⟨s.toArray⟩, .int .u16 bits] w fun e w' => e = .returned (.bool true) ∧ Ext w w' := by
  have HT := Lib.hid ht
  clear ht
  obtain ⟨M, hM⟩ : ∃ M, M = 131072 := ⟨_, rfl⟩
  have HM := Lib.hid (show M ≤ 1073741824 by omega)
  have HM4 := Lib.hid (show M ≤ 1099511627776 by omega)
  have BX := Lib.hid ((parse_small s).mono (show 4001 ≤ M by omega))
  obtain ⟨n, hn⟩ : ∃ n : Int, n = 1 + bits % 200 := ⟨_, rfl⟩
  have HN1 := Lib.hid (show 1 ≤ n by omega)
  have HN2 := Lib.hid (show n < 2000 by omega)
  have BA := Lib.hid (show Bq M (downQ (parseS s).2 n) from ((parse_small s).round (by decide)).mono (by omega))
  have BB := Lib.hid (show Bq M (upQ (parseS s).2 n) from ((parse_small s).round (by decide)).mono (by omega))
  have BC := Lib.hid (show Bq M (downQ (parseS s).2 (n + 1)) from ((parse_small s).round (by decide)).mono (by omega))
  have BD := Lib.hid (show Bq M (upQ (parseS s).2 (n + 1)) from ((parse_small s).round (by decide)).mono (by omega))
  have BM := Lib.hid (show Bq M ((downQ (parseS s).2 n + upQ (parseS s).2 n) * P2 (-1)) from by
    have h1 : Bq 16006 (downQ (parseS s).2 n) := ((parse_small s).round (by decide)).mono (by omega)
    have h2 : Bq 16006 (upQ (parseS s).2 n) := ((parse_small s).round (by decide)).mono (by omega)
    rw [← sh_p2]
    exact ((h1.add h2).sh (k := -1)).mono (by rw [hM]; decide))
  have PP := Lib.hid (parse_c s hs)
  have PE := Lib.hid (parse_err s)
  obtain ⟨o1, o2, o3, o4, o5⟩ := near_order (parseS s).2 n (by omega) (by omega)
  obtain ⟨q1, q2⟩ := near_gap (parseS s).2 n (by omega) (by omega)
  unfold ParseR at PP
  generalize (parseS s).2 = x at *
  generalize (parseS s).1 = er at *
  have O1 := Lib.hid (cmpQ_le.2 o1)
  have O2 := Lib.hid (cmpQ_le.2 o2)
  have O3 := Lib.hid (cmpQ_le.2 o3)
  have O4 := Lib.hid (cmpQ_le.2 o4)
  have O5 := Lib.hid o5
  have Q1 := Lib.hid q1
  have Q2 := Lib.hid q2
  have HNB := Lib.hid hn
  clear o1 o2 o3 o4 o5 q1 q2 hM
  have hrem : Int.tmod bits 200 = bits % 200 := Int.tmod_eq_emod_of_nonneg hb0
  have hw0 : IntKind.i64.wrap bits = bits := IntWalk.i64_in _ (by omega)
  have hw1 : IntKind.i64.wrap (1 + bits % 200) = n := by rw [← hn]; exact IntWalk.i64_in _ (by omega)
  have hw2 : IntKind.i64.wrap (n + 1) = n + 1 := IntWalk.i64_in _ (by omega)
  have hw3 : IntKind.i64.wrap (bits % 200) = bits % 200 := IntWalk.i64_in _ (by omega)
  clear hn
  go_enter Tryz.func8, Tryz.ntmps8
  go_wp2_with fail
  refine (PP.out _).mono ?_
  rintro e w1 ⟨v1, rfl, h1, j1⟩
  obtain ⟨b1, A1, k1, ca1, B1, l1, cb1, rfl⟩ := h1.form2
  have H1 := Lib.hid h1
  have J1 := Lib.hid j1
  clear h1 j1 PP
  have hpe := PE.out
  rcases hpe with rfl | hne
  rotate_left
  · have hz : (er == 0) = false := by rw [beq_eq_false_iff_ne]; omega
    go_wp2_with fail
    refine (awake_c _ (HT.out.mono (ext_trans J1.out (ext_alloc _ _)))).mono ?_
    rintro e w2 ⟨rfl, k2⟩
    go_wp2_with fail
    go_ret
    exact ⟨rfl, ext_trans J1.out (ext_trans (ext_alloc _ _) k2)⟩
  · clear PE
    go_upto_region 5 with (fail)
    try rw [← HNB.out]
    clear hw0 hw1 hw3 hrem
    have R1 := Lib.hid (show (w1.alloc (.cells #[.bool b1, .slice A1 k1 ca1, .slice B1 l1 cb1] 25)).heap[w1.heap.size]? = some (.cells #[.bool b1, .slice A1 k1 ca1, .slice B1 l1 cb1] 25 (0, 0)) from heap_alloc_new _ _)
    have E1 := Lib.hid (ext_trans J1.out (ext_alloc w1 (.cells #[.bool b1, .slice A1 k1 ca1, .slice B1 l1 cb1] 25)))
    have NX := Lib.hid (H1.out.mono (ext_alloc w1 (.cells #[.bool b1, .slice A1 k1 ca1, .slice B1 l1 cb1] 25)))
    clear H1 J1
    generalize World.alloc w1 (.cells #[.bool b1, .slice A1 k1 ca1, .slice B1 l1 cb1] _) = WX at *
    generalize w1.heap.size = g1 at *
    have HC := Lib.hid (show ∀ W : World, Ext WX W → W.cell? ⟨g1, 0, none⟩ = some (.bool b1) ∧ W.cell? ⟨g1, 1, none⟩ = some (.slice A1 k1 ca1) ∧ W.cell? ⟨g1, 2, none⟩ = some (.slice B1 l1 cb1) from fun W h => by
      obtain ⟨p0, p1, p2, -⟩ := row3_0 ((h.block _ (lt_of_block R1.out)).trans R1.out)
      exact ⟨p0, p1, p2⟩)
    go_cut [8, 9] (fun p q wx => ∃ gs gp : Nat, p = .pointer (some ⟨gs, 0, none⟩) ∧ q = .pointer (some ⟨gp, 0, none⟩) ∧ TwoR WX (downQ x n) (upQ x n) gs gp wx)
    case first =>
      have hx0 := Lib.hid (ext_refl WX)
      have hS0 := HC.out WX hx0.out
      have hza := Lib.hid (show WX.heap.size ≤ WX.heap.size from Nat.le_refl _)
      have hzb := Lib.hid (show WX.heap.size ≤ WX.heap.size + 1 from Nat.le_succ _)
      have HGS0 := Lib.hid (show g1 < WX.heap.size from lt_of_block R1.out)
      have hqx0 : g1 < WX.heap.size := HGS0.out
      have nex00 : g1 ≠ WX.heap.size := Nat.ne_of_lt hqx0
      have nex01 : g1 ≠ WX.heap.size + 1 := Nat.ne_of_lt (Nat.lt_succ_of_lt hqx0)
      clear hqx0
      go_region_held3 (fun W => W.cell? ⟨g1, 0, none⟩ = some (.bool b1) ∧ W.cell? ⟨g1, 1, none⟩ = some (.slice A1 k1 ca1) ∧ W.cell? ⟨g1, 2, none⟩ = some (.slice B1 l1 cb1))
        ((refine HC.out _ ?_; (repeat (first | with_reducible refine ext_dr ?_ | with_reducible refine ext_put3 ?_ (by first | with_reducible exact hza.out | with_reducible exact hzb.out | with_reducible exact hzc.out | with_reducible exact hzd.out | with_reducible exact hze.out | with_reducible exact hzf.out) _ _ _ | with_reducible refine ext_al ?_ _ | with_reducible exact hx2.out | with_reducible exact hx1.out | with_reducible exact hx0.out)); done))
        (first
        | (go_at_call 31
           with_reducible refine (down_d M HM.out (n) _ x ((WX.alloc (.cells #[.bool false, .slice none 0 0, .slice none 0 0] 25)).alloc (.cells #[.bool false, .slice none 0 0, .slice none 0 0] 25)).drew (NX.out.mono (by (repeat (first | with_reducible refine ext_dr ?_ | with_reducible refine ext_put3 ?_ (by first | with_reducible exact hza.out | with_reducible exact hzb.out | with_reducible exact hzc.out | with_reducible exact hzd.out | with_reducible exact hze.out | with_reducible exact hzf.out) _ _ _ | with_reducible refine ext_al ?_ _ | with_reducible exact hx2.out | with_reducible exact hx1.out | with_reducible exact hx0.out)))) BX.out).mono ?_
           rintro e w4 ⟨v4, rfl, h4, kk4⟩
           obtain ⟨b4, A4, k4, ca4, B4, l4, cb4, rfl⟩ := h4.form2
           have H4 := Lib.hid h4
           have hx1 := Lib.hid (show Ext WX w4 from ext_trans (by (repeat (first | with_reducible refine ext_dr ?_ | with_reducible refine ext_put3 ?_ (by first | with_reducible exact hza.out | with_reducible exact hzb.out | with_reducible exact hzc.out | with_reducible exact hzd.out | with_reducible exact hze.out | with_reducible exact hzf.out) _ _ _ | with_reducible refine ext_al ?_ _ | with_reducible exact hx2.out | with_reducible exact hx1.out | with_reducible exact hx0.out))) kk4)
           have za := Lib.hid (row3 (w := WX) (show Ext (WX.alloc (.cells #[.bool false, .slice none 0 0, .slice none 0 0] 25)) w4 from ext_trans (ext_alloc (WX.alloc (.cells #[.bool false, .slice none 0 0, .slice none 0 0] 25)) _) (ext_trans (ext_drew _) kk4)))
           have zb := Lib.hid (show w4.heap[WX.heap.size + 1]? = some (.cells #[.bool false, .slice none 0 0, .slice none 0 0] 25 (0, 0)) by rw [← heap_size_alloc' WX (.cells #[.bool false, .slice none 0 0, .slice none 0 0] 25)]; exact row3 (w := WX.alloc (.cells #[.bool false, .slice none 0 0, .slice none 0 0] 25)) (ext_trans (ext_drew _) kk4))
           have hqy0 : g1 < w4.heap.size := Nat.lt_of_lt_of_le HGS0.out hx1.out.size
           have ney00 : g1 ≠ w4.heap.size := Nat.ne_of_lt hqy0
           have ney01 : g1 ≠ w4.heap.size + 1 := Nat.ne_of_lt (Nat.lt_succ_of_lt hqy0)
           clear hqy0
           have hzc := Lib.hid (show WX.heap.size ≤ w4.heap.size from hx1.out.size)
           have hzd := Lib.hid (show WX.heap.size ≤ w4.heap.size + 1 from Nat.le_succ_of_le hx1.out.size)
           clear h4 kk4)
        | (go_at_call 31
           with_reducible refine (down_d M HM.out (n) _ x (WX.alloc (.cells #[.bool false, .slice none 0 0, .slice none 0 0] 25)).drew (NX.out.mono (by (repeat (first | with_reducible refine ext_dr ?_ | with_reducible refine ext_put3 ?_ (by first | with_reducible exact hza.out | with_reducible exact hzb.out | with_reducible exact hzc.out | with_reducible exact hzd.out | with_reducible exact hze.out | with_reducible exact hzf.out) _ _ _ | with_reducible refine ext_al ?_ _ | with_reducible exact hx2.out | with_reducible exact hx1.out | with_reducible exact hx0.out)))) BX.out).mono ?_
           rintro e w4 ⟨v4, rfl, h4, kk4⟩
           obtain ⟨b4, A4, k4, ca4, B4, l4, cb4, rfl⟩ := h4.form2
           have H4 := Lib.hid h4
           have hx1 := Lib.hid (show Ext WX w4 from ext_trans (by (repeat (first | with_reducible refine ext_dr ?_ | with_reducible refine ext_put3 ?_ (by first | with_reducible exact hza.out | with_reducible exact hzb.out | with_reducible exact hzc.out | with_reducible exact hzd.out | with_reducible exact hze.out | with_reducible exact hzf.out) _ _ _ | with_reducible refine ext_al ?_ _ | with_reducible exact hx2.out | with_reducible exact hx1.out | with_reducible exact hx0.out))) kk4)
           have za := Lib.hid (row3 (ext_trans (ext_drew _) kk4))
           have hqy0 : g1 < w4.heap.size := Nat.lt_of_lt_of_le HGS0.out hx1.out.size
           have ney00 : g1 ≠ w4.heap.size := Nat.ne_of_lt hqy0
           have ney01 : g1 ≠ w4.heap.size + 1 := Nat.ne_of_lt (Nat.lt_succ_of_lt hqy0)
           clear hqy0
           have hzc := Lib.hid (show WX.heap.size ≤ w4.heap.size from hx1.out.size)
           have hzd := Lib.hid (show WX.heap.size ≤ w4.heap.size + 1 from Nat.le_succ_of_le hx1.out.size)
           clear h4 kk4)
        | (go_at_call 31
           with_reducible refine (down_d M HM.out (n) _ x WX.drew (NX.out.mono (by (repeat (first | with_reducible refine ext_dr ?_ | with_reducible refine ext_put3 ?_ (by first | with_reducible exact hza.out | with_reducible exact hzb.out | with_reducible exact hzc.out | with_reducible exact hzd.out | with_reducible exact hze.out | with_reducible exact hzf.out) _ _ _ | with_reducible refine ext_al ?_ _ | with_reducible exact hx2.out | with_reducible exact hx1.out | with_reducible exact hx0.out)))) BX.out).mono ?_
           rintro e w4 ⟨v4, rfl, h4, kk4⟩
           obtain ⟨b4, A4, k4, ca4, B4, l4, cb4, rfl⟩ := h4.form2
           have H4 := Lib.hid h4
           have hx1 := Lib.hid (show Ext WX w4 from ext_trans (by (repeat (first | with_reducible refine ext_dr ?_ | with_reducible refine ext_put3 ?_ (by first | with_reducible exact hza.out | with_reducible exact hzb.out | with_reducible exact hzc.out | with_reducible exact hzd.out | with_reducible exact hze.out | with_reducible exact hzf.out) _ _ _ | with_reducible refine ext_al ?_ _ | with_reducible exact hx2.out | with_reducible exact hx1.out | with_reducible exact hx0.out))) kk4)
           have hqy0 : g1 < w4.heap.size := Nat.lt_of_lt_of_le HGS0.out hx1.out.size
           have ney00 : g1 ≠ w4.heap.size := Nat.ne_of_lt hqy0
           have ney01 : g1 ≠ w4.heap.size + 1 := Nat.ne_of_lt (Nat.lt_succ_of_lt hqy0)
           clear hqy0
           have hzc := Lib.hid (show WX.heap.size ≤ w4.heap.size from hx1.out.size)
           have hzd := Lib.hid (show WX.heap.size ≤ w4.heap.size + 1 from Nat.le_succ_of_le hx1.out.size)
           clear h4 kk4)
        | (go_at_call 33
           have _q := hx1
           rename_i hh _ _
           clear hh
           with_reducible refine (up_d M HM.out (n) _ x ((w4.alloc (.cells #[.bool false, .slice none 0 0, .slice none 0 0] 25)).alloc (.cells #[.bool false, .slice none 0 0, .slice none 0 0] 25)) (NX.out.mono (by (repeat (first | with_reducible refine ext_dr ?_ | with_reducible refine ext_put3 ?_ (by first | with_reducible exact hza.out | with_reducible exact hzb.out | with_reducible exact hzc.out | with_reducible exact hzd.out | with_reducible exact hze.out | with_reducible exact hzf.out) _ _ _ | with_reducible refine ext_al ?_ _ | with_reducible exact hx2.out | with_reducible exact hx1.out | with_reducible exact hx0.out)))) BX.out).mono ?_
           rintro e w5 ⟨v5, rfl, h5, kk5⟩
           obtain ⟨b5, A5, k5, ca5, B5, l5, cb5, rfl⟩ := h5.form2
           have H5 := Lib.hid h5
           have hx2 := Lib.hid (show Ext WX w5 from ext_trans (by (repeat (first | with_reducible refine ext_dr ?_ | with_reducible refine ext_put3 ?_ (by first | with_reducible exact hza.out | with_reducible exact hzb.out | with_reducible exact hzc.out | with_reducible exact hzd.out | with_reducible exact hze.out | with_reducible exact hzf.out) _ _ _ | with_reducible refine ext_al ?_ _ | with_reducible exact hx2.out | with_reducible exact hx1.out | with_reducible exact hx0.out))) kk5)
           have zc' := Lib.hid (row3 (w := w4) (show Ext (w4.alloc (.cells #[.bool false, .slice none 0 0, .slice none 0 0] 25)) w5 from ext_trans (ext_alloc (w4.alloc (.cells #[.bool false, .slice none 0 0, .slice none 0 0] 25)) _) kk5))
           have zd' := Lib.hid (show w5.heap[w4.heap.size + 1]? = some (.cells #[.bool false, .slice none 0 0, .slice none 0 0] 25 (0, 0)) by rw [← heap_size_alloc' w4 (.cells #[.bool false, .slice none 0 0, .slice none 0 0] 25)]; exact row3 (w := w4.alloc (.cells #[.bool false, .slice none 0 0, .slice none 0 0] 25)) kk5)
           obtain ⟨zc0, zc1, zc2, zcf0, zcf1, zcf2⟩ := row3_0 zc'.out
           obtain ⟨zd0, zd1, zd2, zdf0, zdf1, zdf2⟩ := row3_0 zd'.out
           have la := lt_of_block zc'.out
           have lb := lt_of_block zd'.out
           have nn : w4.heap.size ≠ w4.heap.size + 1 := Nat.ne_of_lt (Nat.lt_succ_self _)
           have nm : w4.heap.size + 1 ≠ w4.heap.size := Nat.succ_ne_self _
           have H4' := Lib.hid (H4.out.mono (ext_trans (ext_alloc _ _) (ext_trans (ext_alloc _ _) kk5)))
           have hqz0 : g1 < w5.heap.size := Nat.lt_of_lt_of_le HGS0.out hx2.out.size
           have nez00 : g1 ≠ w5.heap.size := Nat.ne_of_lt hqz0
           have nez01 : g1 ≠ w5.heap.size + 1 := Nat.ne_of_lt (Nat.lt_succ_of_lt hqz0)
           clear hqz0
           have hze := Lib.hid (show WX.heap.size ≤ w5.heap.size from hx2.out.size)
           have hzf := Lib.hid (show WX.heap.size ≤ w5.heap.size + 1 from Nat.le_succ_of_le hx2.out.size)
           try generalize w4.heap.size + 1 = g4b at *
           try generalize w4.heap.size = g4 at *
           try generalize WX.heap.size + 1 = gxb at *
           clear h5 kk5)
        | (go_at_call 33
           have _q := hx1
           rename_i hh _ _
           clear hh
           with_reducible refine (up_d M HM.out (n) _ x (w4.alloc (.cells #[.bool false, .slice none 0 0, .slice none 0 0] 25)) (NX.out.mono (by (repeat (first | with_reducible refine ext_dr ?_ | with_reducible refine ext_put3 ?_ (by first | with_reducible exact hza.out | with_reducible exact hzb.out | with_reducible exact hzc.out | with_reducible exact hzd.out | with_reducible exact hze.out | with_reducible exact hzf.out) _ _ _ | with_reducible refine ext_al ?_ _ | with_reducible exact hx2.out | with_reducible exact hx1.out | with_reducible exact hx0.out)))) BX.out).mono ?_
           rintro e w5 ⟨v5, rfl, h5, kk5⟩
           obtain ⟨b5, A5, k5, ca5, B5, l5, cb5, rfl⟩ := h5.form2
           have H5 := Lib.hid h5
           have hx2 := Lib.hid (show Ext WX w5 from ext_trans (by (repeat (first | with_reducible refine ext_dr ?_ | with_reducible refine ext_put3 ?_ (by first | with_reducible exact hza.out | with_reducible exact hzb.out | with_reducible exact hzc.out | with_reducible exact hzd.out | with_reducible exact hze.out | with_reducible exact hzf.out) _ _ _ | with_reducible refine ext_al ?_ _ | with_reducible exact hx2.out | with_reducible exact hx1.out | with_reducible exact hx0.out))) kk5)
           have za' := Lib.hid (((ext_trans (ext_alloc _ _) kk5).block _ (lt_of_block za.out)).trans za.out)
           have zc' := Lib.hid (row3 kk5)
           obtain ⟨za0, za1, za2, zaf0, zaf1, zaf2⟩ := row3_0 za'.out
           obtain ⟨zc0, zc1, zc2, zcf0, zcf1, zcf2⟩ := row3_0 zc'.out
           have la := lt_of_block za.out
           have lan := Nat.ne_of_lt la
           have lag := Nat.ne_of_gt la
           have H4' := Lib.hid (H4.out.mono (ext_trans (ext_alloc _ _) kk5))
           have hqz0 : g1 < w5.heap.size := Nat.lt_of_lt_of_le HGS0.out hx2.out.size
           have nez00 : g1 ≠ w5.heap.size := Nat.ne_of_lt hqz0
           have nez01 : g1 ≠ w5.heap.size + 1 := Nat.ne_of_lt (Nat.lt_succ_of_lt hqz0)
           clear hqz0
           have hze := Lib.hid (show WX.heap.size ≤ w5.heap.size from hx2.out.size)
           have hzf := Lib.hid (show WX.heap.size ≤ w5.heap.size + 1 from Nat.le_succ_of_le hx2.out.size)
           try generalize w4.heap.size + 1 = g4b at *
           try generalize w4.heap.size = g4 at *
           try generalize WX.heap.size + 1 = gxb at *
           clear h5 kk5)
        | (go_at_call 33
           have _q := hx1
           rename_i hh _ _
           clear hh
           with_reducible refine (up_d M HM.out (n) _ x (w4.alloc (.cells #[.bool false, .slice none 0 0, .slice none 0 0] 25)) (NX.out.mono (by (repeat (first | with_reducible refine ext_dr ?_ | with_reducible refine ext_put3 ?_ (by first | with_reducible exact hza.out | with_reducible exact hzb.out | with_reducible exact hzc.out | with_reducible exact hzd.out | with_reducible exact hze.out | with_reducible exact hzf.out) _ _ _ | with_reducible refine ext_al ?_ _ | with_reducible exact hx2.out | with_reducible exact hx1.out | with_reducible exact hx0.out)))) BX.out).mono ?_
           rintro e w5 ⟨v5, rfl, h5, kk5⟩
           obtain ⟨b5, A5, k5, ca5, B5, l5, cb5, rfl⟩ := h5.form2
           have H5 := Lib.hid h5
           have hx2 := Lib.hid (show Ext WX w5 from ext_trans (by (repeat (first | with_reducible refine ext_dr ?_ | with_reducible refine ext_put3 ?_ (by first | with_reducible exact hza.out | with_reducible exact hzb.out | with_reducible exact hzc.out | with_reducible exact hzd.out | with_reducible exact hze.out | with_reducible exact hzf.out) _ _ _ | with_reducible refine ext_al ?_ _ | with_reducible exact hx2.out | with_reducible exact hx1.out | with_reducible exact hx0.out))) kk5)
           have zc' := Lib.hid (row3 kk5)
           obtain ⟨zc0, zc1, zc2, zcf0, zcf1, zcf2⟩ := row3_0 zc'.out
           obtain ⟨zc0', zc1', zc2', zcf0', zcf1', zcf2'⟩ := row3_0 (((ext_alloc w5 (.cells #[.bool false, .slice none 0 0, .slice none 0 0] 25)).block _ (lt_of_block zc'.out)).trans zc'.out)
           have la := lt_of_block zc'.out
           have lan := Nat.ne_of_lt la
           have lag := Nat.ne_of_gt la
           have H4' := Lib.hid (H4.out.mono (ext_trans (ext_alloc _ _) kk5))
           have hqz0 : g1 < w5.heap.size := Nat.lt_of_lt_of_le HGS0.out hx2.out.size
           have nez00 : g1 ≠ w5.heap.size := Nat.ne_of_lt hqz0
           have nez01 : g1 ≠ w5.heap.size + 1 := Nat.ne_of_lt (Nat.lt_succ_of_lt hqz0)
           clear hqz0
           have hze := Lib.hid (show WX.heap.size ≤ w5.heap.size from hx2.out.size)
           have hzf := Lib.hid (show WX.heap.size ≤ w5.heap.size + 1 from Nat.le_succ_of_le hx2.out.size)
           try generalize w4.heap.size + 1 = g4b at *
           try generalize w4.heap.size = g4 at *
           try generalize WX.heap.size + 1 = gxb at *
           clear h5 kk5)
        | (go_at_call 33
           have _q := hx1
           rename_i hh _ _
           clear hh
           with_reducible refine (up_d M HM.out (n) _ x w4 (NX.out.mono (by (repeat (first | with_reducible refine ext_dr ?_ | with_reducible refine ext_put3 ?_ (by first | with_reducible exact hza.out | with_reducible exact hzb.out | with_reducible exact hzc.out | with_reducible exact hzd.out | with_reducible exact hze.out | with_reducible exact hzf.out) _ _ _ | with_reducible refine ext_al ?_ _ | with_reducible exact hx2.out | with_reducible exact hx1.out | with_reducible exact hx0.out)))) BX.out).mono ?_
           rintro e w5 ⟨v5, rfl, h5, kk5⟩
           obtain ⟨b5, A5, k5, ca5, B5, l5, cb5, rfl⟩ := h5.form2
           have H5 := Lib.hid h5
           have hx2 := Lib.hid (show Ext WX w5 from ext_trans (by (repeat (first | with_reducible refine ext_dr ?_ | with_reducible refine ext_put3 ?_ (by first | with_reducible exact hza.out | with_reducible exact hzb.out | with_reducible exact hzc.out | with_reducible exact hzd.out | with_reducible exact hze.out | with_reducible exact hzf.out) _ _ _ | with_reducible refine ext_al ?_ _ | with_reducible exact hx2.out | with_reducible exact hx1.out | with_reducible exact hx0.out))) kk5)
           have za' := Lib.hid ((kk5.block _ (lt_of_block za.out)).trans za.out)
           have zb' := Lib.hid ((kk5.block _ (lt_of_block zb.out)).trans zb.out)
           obtain ⟨za0, za1, za2, zaf0, zaf1, zaf2⟩ := row3_0 za'.out
           obtain ⟨zb0, zb1, zb2, zbf0, zbf1, zbf2⟩ := row3_0 zb'.out
           have la := lt_of_block za'.out
           have lb := lt_of_block zb'.out
           have nn : WX.heap.size ≠ WX.heap.size + 1 := Nat.ne_of_lt (Nat.lt_succ_self _)
           have nm : WX.heap.size + 1 ≠ WX.heap.size := Nat.succ_ne_self _
           have H4' := Lib.hid (H4.out.mono kk5)
           have hqz0 : g1 < w5.heap.size := Nat.lt_of_lt_of_le HGS0.out hx2.out.size
           have nez00 : g1 ≠ w5.heap.size := Nat.ne_of_lt hqz0
           have nez01 : g1 ≠ w5.heap.size + 1 := Nat.ne_of_lt (Nat.lt_succ_of_lt hqz0)
           clear hqz0
           have hze := Lib.hid (show WX.heap.size ≤ w5.heap.size from hx2.out.size)
           have hzf := Lib.hid (show WX.heap.size ≤ w5.heap.size + 1 from Nat.le_succ_of_le hx2.out.size)
           try generalize w4.heap.size + 1 = g4b at *
           try generalize w4.heap.size = g4 at *
           try generalize WX.heap.size + 1 = gxb at *
           clear h5 kk5)
        | (go_at_call 33
           have _q := hx1
           rename_i hh _ _
           clear hh
           with_reducible refine (up_d M HM.out (n) _ x w4 (NX.out.mono (by (repeat (first | with_reducible refine ext_dr ?_ | with_reducible refine ext_put3 ?_ (by first | with_reducible exact hza.out | with_reducible exact hzb.out | with_reducible exact hzc.out | with_reducible exact hzd.out | with_reducible exact hze.out | with_reducible exact hzf.out) _ _ _ | with_reducible refine ext_al ?_ _ | with_reducible exact hx2.out | with_reducible exact hx1.out | with_reducible exact hx0.out)))) BX.out).mono ?_
           rintro e w5 ⟨v5, rfl, h5, kk5⟩
           obtain ⟨b5, A5, k5, ca5, B5, l5, cb5, rfl⟩ := h5.form2
           have H5 := Lib.hid h5
           have hx2 := Lib.hid (show Ext WX w5 from ext_trans (by (repeat (first | with_reducible refine ext_dr ?_ | with_reducible refine ext_put3 ?_ (by first | with_reducible exact hza.out | with_reducible exact hzb.out | with_reducible exact hzc.out | with_reducible exact hzd.out | with_reducible exact hze.out | with_reducible exact hzf.out) _ _ _ | with_reducible refine ext_al ?_ _ | with_reducible exact hx2.out | with_reducible exact hx1.out | with_reducible exact hx0.out))) kk5)
           have za' := Lib.hid ((kk5.block _ (lt_of_block za.out)).trans za.out)
           obtain ⟨za0, za1, za2, zaf0, zaf1, zaf2⟩ := row3_0 za'.out
           obtain ⟨za0', za1', za2', zaf0', zaf1', zaf2'⟩ := row3_0 (((ext_alloc w5 (.cells #[.bool false, .slice none 0 0, .slice none 0 0] 25)).block _ (lt_of_block za'.out)).trans za'.out)
           have la := lt_of_block za'.out
           have lan := Nat.ne_of_lt la
           have lag := Nat.ne_of_gt la
           have H4' := Lib.hid (H4.out.mono kk5)
           have hqz0 : g1 < w5.heap.size := Nat.lt_of_lt_of_le HGS0.out hx2.out.size
           have nez00 : g1 ≠ w5.heap.size := Nat.ne_of_lt hqz0
           have nez01 : g1 ≠ w5.heap.size + 1 := Nat.ne_of_lt (Nat.lt_succ_of_lt hqz0)
           clear hqz0
           have hze := Lib.hid (show WX.heap.size ≤ w5.heap.size from hx2.out.size)
           have hzf := Lib.hid (show WX.heap.size ≤ w5.heap.size + 1 from Nat.le_succ_of_le hx2.out.size)
           try generalize w4.heap.size + 1 = g4b at *
           try generalize w4.heap.size = g4 at *
           try generalize WX.heap.size + 1 = gxb at *
           clear h5 kk5)
        | (go_at_call 33
           have _q := hx1
           rename_i hh _ _
           clear hh
           with_reducible refine (up_d M HM.out (n) _ x w4 (NX.out.mono (by (repeat (first | with_reducible refine ext_dr ?_ | with_reducible refine ext_put3 ?_ (by first | with_reducible exact hza.out | with_reducible exact hzb.out | with_reducible exact hzc.out | with_reducible exact hzd.out | with_reducible exact hze.out | with_reducible exact hzf.out) _ _ _ | with_reducible refine ext_al ?_ _ | with_reducible exact hx2.out | with_reducible exact hx1.out | with_reducible exact hx0.out)))) BX.out).mono ?_
           rintro e w5 ⟨v5, rfl, h5, kk5⟩
           obtain ⟨b5, A5, k5, ca5, B5, l5, cb5, rfl⟩ := h5.form2
           have H5 := Lib.hid h5
           have hx2 := Lib.hid (show Ext WX w5 from ext_trans (by (repeat (first | with_reducible refine ext_dr ?_ | with_reducible refine ext_put3 ?_ (by first | with_reducible exact hza.out | with_reducible exact hzb.out | with_reducible exact hzc.out | with_reducible exact hzd.out | with_reducible exact hze.out | with_reducible exact hzf.out) _ _ _ | with_reducible refine ext_al ?_ _ | with_reducible exact hx2.out | with_reducible exact hx1.out | with_reducible exact hx0.out))) kk5)
           have H4' := Lib.hid (H4.out.mono kk5)
           have hqz0 : g1 < w5.heap.size := Nat.lt_of_lt_of_le HGS0.out hx2.out.size
           have nez00 : g1 ≠ w5.heap.size := Nat.ne_of_lt hqz0
           have nez01 : g1 ≠ w5.heap.size + 1 := Nat.ne_of_lt (Nat.lt_succ_of_lt hqz0)
           clear hqz0
           have hze := Lib.hid (show WX.heap.size ≤ w5.heap.size from hx2.out.size)
           have hzf := Lib.hid (show WX.heap.size ≤ w5.heap.size + 1 from Nat.le_succ_of_le hx2.out.size)
           try generalize w4.heap.size + 1 = g4b at *
           try generalize w4.heap.size = g4 at *
           try generalize WX.heap.size + 1 = gxb at *
           clear h5 kk5))
      all_goals
        go_wp2_with fail
        go_meet
        refine ⟨_, _, rfl, rfl, b4, A4, k4, ca4, B4, l4, cb4, b5, A5, k5, ca5, B5, l5, cb5, ?_, ?_, ?_, ?_, ?_⟩
        all_goals
          repeat (first | with_reducible exact H5.out | with_reducible exact H4'.out | with_reducible exact za'.out | with_reducible exact zb'.out | with_reducible exact zc'.out | with_reducible exact zd'.out | with_reducible refine nm_dr ?_ | with_reducible refine nm_al ?_ | with_reducible refine nm_putz ?_ ?_ _ _ _ | with_reducible refine row_dr ?_ | with_reducible exact heap_alloc_new _ _ | with_reducible exact row_new1 _ _ _ | with_reducible exact row_newp _ _ _ _ _ _ | with_reducible refine put3_rowz ?_ _ _ _ | with_reducible refine put3_other ?_ (by first | with_reducible exact nn | with_reducible exact nm | with_reducible exact lan | with_reducible exact lag) _ _ _ | with_reducible refine row_al ?_ | (first | with_reducible refine ext_dr ?_ | with_reducible refine ext_put3 ?_ (by first | with_reducible exact hza.out | with_reducible exact hzb.out | with_reducible exact hzc.out | with_reducible exact hzd.out | with_reducible exact hze.out | with_reducible exact hzf.out) _ _ _ | with_reducible refine ext_al ?_ _ | with_reducible exact hx2.out | with_reducible exact hx1.out | with_reducible exact hx0.out))
    case rest =>
      obtain ⟨ga, gb, rfl, rfl, b6, A6, k6, ca6, B6, l6, cb6, b7, A7, k7, ca7, B7, l7, cb7, r6, r7, n6, n7, e6⟩ := hcut
      have R6 := Lib.hid r6
      have R7 := Lib.hid r7
      have N6 := Lib.hid n6
      have N7 := Lib.hid n7
      have KBK := Lib.hid e6
      clear r6 r7 n6 n7 e6
      rename World => WB
      have R1' := Lib.hid ((KBK.out.block _ (lt_of_block R1.out)).trans R1.out)
      have NX' := Lib.hid (NX.out.mono KBK.out)
      have EB := Lib.hid (ext_trans E1.out KBK.out)
      have HC2 := Lib.hid (show ∀ W : World, Ext WB W → W.cell? ⟨g1, 0, none⟩ = some (.bool b1) ∧ W.cell? ⟨g1, 1, none⟩ = some (.slice A1 k1 ca1) ∧ W.cell? ⟨g1, 2, none⟩ = some (.slice B1 l1 cb1) ∧ W.cell? ⟨ga, 0, none⟩ = some (.bool b6) ∧ W.cell? ⟨ga, 1, none⟩ = some (.slice A6 k6 ca6) ∧ W.cell? ⟨ga, 2, none⟩ = some (.slice B6 l6 cb6) ∧ W.cell? ⟨gb, 0, none⟩ = some (.bool b7) ∧ W.cell? ⟨gb, 1, none⟩ = some (.slice A7 k7 ca7) ∧ W.cell? ⟨gb, 2, none⟩ = some (.slice B7 l7 cb7) from fun W h => by
        obtain ⟨p0, p1, p2, -⟩ := row3_0 ((h.block _ (lt_of_block R1'.out)).trans R1'.out)
        obtain ⟨t0, t1, t2, -⟩ := row3_0 ((h.block _ (lt_of_block R6.out)).trans R6.out)
        obtain ⟨y0, y1, y2, -⟩ := row3_0 ((h.block _ (lt_of_block R7.out)).trans R7.out)
        exact ⟨p0, p1, p2, t0, t1, t2, y0, y1, y2⟩)
      clear HC R1 NX E1 KBK
      go_upto_region 6 with (fail)
      have HC3 := Lib.hid (show ∀ W : World, Ext WB W → W.cell? ⟨g1, 0, none⟩ = some (.bool b1) ∧ W.cell? ⟨g1, 1, none⟩ = some (.slice A1 k1 ca1) ∧ W.cell? ⟨g1, 2, none⟩ = some (.slice B1 l1 cb1) from fun W h => by
        obtain ⟨p0, p1, p2, -⟩ := HC2.out W h
        exact ⟨p0, p1, p2⟩)
      go_cut [10, 11] (fun p q wx => ∃ gs gp : Nat, p = .pointer (some ⟨gs, 0, none⟩) ∧ q = .pointer (some ⟨gp, 0, none⟩) ∧ TwoR WB (downQ x (n + 1)) (upQ x (n + 1)) gs gp wx)
      case first =>
        have hx0 := Lib.hid (ext_refl WB)
        have hS0 := HC3.out WB hx0.out
        have hza := Lib.hid (show WB.heap.size ≤ WB.heap.size from Nat.le_refl _)
        have hzb := Lib.hid (show WB.heap.size ≤ WB.heap.size + 1 from Nat.le_succ _)
        have HGS0 := Lib.hid (show g1 < WB.heap.size from lt_of_block R1'.out)
        have HGS1 := Lib.hid (show ga < WB.heap.size from lt_of_block R6.out)
        have HGS2 := Lib.hid (show gb < WB.heap.size from lt_of_block R7.out)
        have hqx0 : g1 < WB.heap.size := HGS0.out
        have nex00 : g1 ≠ WB.heap.size := Nat.ne_of_lt hqx0
        have nex01 : g1 ≠ WB.heap.size + 1 := Nat.ne_of_lt (Nat.lt_succ_of_lt hqx0)
        clear hqx0
        have hqx1 : ga < WB.heap.size := HGS1.out
        have nex10 : ga ≠ WB.heap.size := Nat.ne_of_lt hqx1
        have nex11 : ga ≠ WB.heap.size + 1 := Nat.ne_of_lt (Nat.lt_succ_of_lt hqx1)
        clear hqx1
        have hqx2 : gb < WB.heap.size := HGS2.out
        have nex20 : gb ≠ WB.heap.size := Nat.ne_of_lt hqx2
        have nex21 : gb ≠ WB.heap.size + 1 := Nat.ne_of_lt (Nat.lt_succ_of_lt hqx2)
        clear hqx2
        go_region_held3 (fun W => W.cell? ⟨g1, 0, none⟩ = some (.bool b1) ∧ W.cell? ⟨g1, 1, none⟩ = some (.slice A1 k1 ca1) ∧ W.cell? ⟨g1, 2, none⟩ = some (.slice B1 l1 cb1))
          ((refine HC3.out _ ?_; (repeat (first | with_reducible refine ext_dr ?_ | with_reducible refine ext_put3 ?_ (by first | with_reducible exact hza.out | with_reducible exact hzb.out | with_reducible exact hzc.out | with_reducible exact hzd.out | with_reducible exact hze.out | with_reducible exact hzf.out) _ _ _ | with_reducible refine ext_al ?_ _ | with_reducible exact hx2.out | with_reducible exact hx1.out | with_reducible exact hx0.out)); done))
          (first
          | (go_at_call 31
             with_reducible refine (down_d M HM.out (n + 1) _ x ((WB.alloc (.cells #[.bool false, .slice none 0 0, .slice none 0 0] 25)).alloc (.cells #[.bool false, .slice none 0 0, .slice none 0 0] 25)).drew (NX'.out.mono (by (repeat (first | with_reducible refine ext_dr ?_ | with_reducible refine ext_put3 ?_ (by first | with_reducible exact hza.out | with_reducible exact hzb.out | with_reducible exact hzc.out | with_reducible exact hzd.out | with_reducible exact hze.out | with_reducible exact hzf.out) _ _ _ | with_reducible refine ext_al ?_ _ | with_reducible exact hx2.out | with_reducible exact hx1.out | with_reducible exact hx0.out)))) BX.out).mono ?_
             rintro e w14 ⟨v14, rfl, h14, kk4⟩
             obtain ⟨b14, A14, k14, ca14, B14, l14, cb14, rfl⟩ := h14.form2
             have H14 := Lib.hid h14
             have hx1 := Lib.hid (show Ext WB w14 from ext_trans (by (repeat (first | with_reducible refine ext_dr ?_ | with_reducible refine ext_put3 ?_ (by first | with_reducible exact hza.out | with_reducible exact hzb.out | with_reducible exact hzc.out | with_reducible exact hzd.out | with_reducible exact hze.out | with_reducible exact hzf.out) _ _ _ | with_reducible refine ext_al ?_ _ | with_reducible exact hx2.out | with_reducible exact hx1.out | with_reducible exact hx0.out))) kk4)
             have za := Lib.hid (row3 (w := WB) (show Ext (WB.alloc (.cells #[.bool false, .slice none 0 0, .slice none 0 0] 25)) w14 from ext_trans (ext_alloc (WB.alloc (.cells #[.bool false, .slice none 0 0, .slice none 0 0] 25)) _) (ext_trans (ext_drew _) kk4)))
             have zb := Lib.hid (show w14.heap[WB.heap.size + 1]? = some (.cells #[.bool false, .slice none 0 0, .slice none 0 0] 25 (0, 0)) by rw [← heap_size_alloc' WB (.cells #[.bool false, .slice none 0 0, .slice none 0 0] 25)]; exact row3 (w := WB.alloc (.cells #[.bool false, .slice none 0 0, .slice none 0 0] 25)) (ext_trans (ext_drew _) kk4))
             have hqy0 : g1 < w14.heap.size := Nat.lt_of_lt_of_le HGS0.out hx1.out.size
             have ney00 : g1 ≠ w14.heap.size := Nat.ne_of_lt hqy0
             have ney01 : g1 ≠ w14.heap.size + 1 := Nat.ne_of_lt (Nat.lt_succ_of_lt hqy0)
             clear hqy0
             have hqy1 : ga < w14.heap.size := Nat.lt_of_lt_of_le HGS1.out hx1.out.size
             have ney10 : ga ≠ w14.heap.size := Nat.ne_of_lt hqy1
             have ney11 : ga ≠ w14.heap.size + 1 := Nat.ne_of_lt (Nat.lt_succ_of_lt hqy1)
             clear hqy1
             have hqy2 : gb < w14.heap.size := Nat.lt_of_lt_of_le HGS2.out hx1.out.size
             have ney20 : gb ≠ w14.heap.size := Nat.ne_of_lt hqy2
             have ney21 : gb ≠ w14.heap.size + 1 := Nat.ne_of_lt (Nat.lt_succ_of_lt hqy2)
             clear hqy2
             have hzc := Lib.hid (show WB.heap.size ≤ w14.heap.size from hx1.out.size)
             have hzd := Lib.hid (show WB.heap.size ≤ w14.heap.size + 1 from Nat.le_succ_of_le hx1.out.size)
             clear h14 kk4)
          | (go_at_call 31
             with_reducible refine (down_d M HM.out (n + 1) _ x (WB.alloc (.cells #[.bool false, .slice none 0 0, .slice none 0 0] 25)).drew (NX'.out.mono (by (repeat (first | with_reducible refine ext_dr ?_ | with_reducible refine ext_put3 ?_ (by first | with_reducible exact hza.out | with_reducible exact hzb.out | with_reducible exact hzc.out | with_reducible exact hzd.out | with_reducible exact hze.out | with_reducible exact hzf.out) _ _ _ | with_reducible refine ext_al ?_ _ | with_reducible exact hx2.out | with_reducible exact hx1.out | with_reducible exact hx0.out)))) BX.out).mono ?_
             rintro e w14 ⟨v14, rfl, h14, kk4⟩
             obtain ⟨b14, A14, k14, ca14, B14, l14, cb14, rfl⟩ := h14.form2
             have H14 := Lib.hid h14
             have hx1 := Lib.hid (show Ext WB w14 from ext_trans (by (repeat (first | with_reducible refine ext_dr ?_ | with_reducible refine ext_put3 ?_ (by first | with_reducible exact hza.out | with_reducible exact hzb.out | with_reducible exact hzc.out | with_reducible exact hzd.out | with_reducible exact hze.out | with_reducible exact hzf.out) _ _ _ | with_reducible refine ext_al ?_ _ | with_reducible exact hx2.out | with_reducible exact hx1.out | with_reducible exact hx0.out))) kk4)
             have za := Lib.hid (row3 (ext_trans (ext_drew _) kk4))
             have hqy0 : g1 < w14.heap.size := Nat.lt_of_lt_of_le HGS0.out hx1.out.size
             have ney00 : g1 ≠ w14.heap.size := Nat.ne_of_lt hqy0
             have ney01 : g1 ≠ w14.heap.size + 1 := Nat.ne_of_lt (Nat.lt_succ_of_lt hqy0)
             clear hqy0
             have hqy1 : ga < w14.heap.size := Nat.lt_of_lt_of_le HGS1.out hx1.out.size
             have ney10 : ga ≠ w14.heap.size := Nat.ne_of_lt hqy1
             have ney11 : ga ≠ w14.heap.size + 1 := Nat.ne_of_lt (Nat.lt_succ_of_lt hqy1)
             clear hqy1
             have hqy2 : gb < w14.heap.size := Nat.lt_of_lt_of_le HGS2.out hx1.out.size
             have ney20 : gb ≠ w14.heap.size := Nat.ne_of_lt hqy2
             have ney21 : gb ≠ w14.heap.size + 1 := Nat.ne_of_lt (Nat.lt_succ_of_lt hqy2)
             clear hqy2
             have hzc := Lib.hid (show WB.heap.size ≤ w14.heap.size from hx1.out.size)
             have hzd := Lib.hid (show WB.heap.size ≤ w14.heap.size + 1 from Nat.le_succ_of_le hx1.out.size)
             clear h14 kk4)
          | (go_at_call 31
             with_reducible refine (down_d M HM.out (n + 1) _ x WB.drew (NX'.out.mono (by (repeat (first | with_reducible refine ext_dr ?_ | with_reducible refine ext_put3 ?_ (by first | with_reducible exact hza.out | with_reducible exact hzb.out | with_reducible exact hzc.out | with_reducible exact hzd.out | with_reducible exact hze.out | with_reducible exact hzf.out) _ _ _ | with_reducible refine ext_al ?_ _ | with_reducible exact hx2.out | with_reducible exact hx1.out | with_reducible exact hx0.out)))) BX.out).mono ?_
             rintro e w14 ⟨v14, rfl, h14, kk4⟩
             obtain ⟨b14, A14, k14, ca14, B14, l14, cb14, rfl⟩ := h14.form2
             have H14 := Lib.hid h14
             have hx1 := Lib.hid (show Ext WB w14 from ext_trans (by (repeat (first | with_reducible refine ext_dr ?_ | with_reducible refine ext_put3 ?_ (by first | with_reducible exact hza.out | with_reducible exact hzb.out | with_reducible exact hzc.out | with_reducible exact hzd.out | with_reducible exact hze.out | with_reducible exact hzf.out) _ _ _ | with_reducible refine ext_al ?_ _ | with_reducible exact hx2.out | with_reducible exact hx1.out | with_reducible exact hx0.out))) kk4)
             have hqy0 : g1 < w14.heap.size := Nat.lt_of_lt_of_le HGS0.out hx1.out.size
             have ney00 : g1 ≠ w14.heap.size := Nat.ne_of_lt hqy0
             have ney01 : g1 ≠ w14.heap.size + 1 := Nat.ne_of_lt (Nat.lt_succ_of_lt hqy0)
             clear hqy0
             have hqy1 : ga < w14.heap.size := Nat.lt_of_lt_of_le HGS1.out hx1.out.size
             have ney10 : ga ≠ w14.heap.size := Nat.ne_of_lt hqy1
             have ney11 : ga ≠ w14.heap.size + 1 := Nat.ne_of_lt (Nat.lt_succ_of_lt hqy1)
             clear hqy1
             have hqy2 : gb < w14.heap.size := Nat.lt_of_lt_of_le HGS2.out hx1.out.size
             have ney20 : gb ≠ w14.heap.size := Nat.ne_of_lt hqy2
             have ney21 : gb ≠ w14.heap.size + 1 := Nat.ne_of_lt (Nat.lt_succ_of_lt hqy2)
             clear hqy2
             have hzc := Lib.hid (show WB.heap.size ≤ w14.heap.size from hx1.out.size)
             have hzd := Lib.hid (show WB.heap.size ≤ w14.heap.size + 1 from Nat.le_succ_of_le hx1.out.size)
             clear h14 kk4)
          | (go_at_call 33
             have _q := hx1
             rename_i hh _ _
             clear hh
             with_reducible refine (up_d M HM.out (n + 1) _ x ((w14.alloc (.cells #[.bool false, .slice none 0 0, .slice none 0 0] 25)).alloc (.cells #[.bool false, .slice none 0 0, .slice none 0 0] 25)) (NX'.out.mono (by (repeat (first | with_reducible refine ext_dr ?_ | with_reducible refine ext_put3 ?_ (by first | with_reducible exact hza.out | with_reducible exact hzb.out | with_reducible exact hzc.out | with_reducible exact hzd.out | with_reducible exact hze.out | with_reducible exact hzf.out) _ _ _ | with_reducible refine ext_al ?_ _ | with_reducible exact hx2.out | with_reducible exact hx1.out | with_reducible exact hx0.out)))) BX.out).mono ?_
             rintro e w15 ⟨v15, rfl, h15, kk5⟩
             obtain ⟨b15, A15, k15, ca15, B15, l15, cb15, rfl⟩ := h15.form2
             have H15 := Lib.hid h15
             have hx2 := Lib.hid (show Ext WB w15 from ext_trans (by (repeat (first | with_reducible refine ext_dr ?_ | with_reducible refine ext_put3 ?_ (by first | with_reducible exact hza.out | with_reducible exact hzb.out | with_reducible exact hzc.out | with_reducible exact hzd.out | with_reducible exact hze.out | with_reducible exact hzf.out) _ _ _ | with_reducible refine ext_al ?_ _ | with_reducible exact hx2.out | with_reducible exact hx1.out | with_reducible exact hx0.out))) kk5)
             have zc' := Lib.hid (row3 (w := w14) (show Ext (w14.alloc (.cells #[.bool false, .slice none 0 0, .slice none 0 0] 25)) w15 from ext_trans (ext_alloc (w14.alloc (.cells #[.bool false, .slice none 0 0, .slice none 0 0] 25)) _) kk5))
             have zd' := Lib.hid (show w15.heap[w14.heap.size + 1]? = some (.cells #[.bool false, .slice none 0 0, .slice none 0 0] 25 (0, 0)) by rw [← heap_size_alloc' w14 (.cells #[.bool false, .slice none 0 0, .slice none 0 0] 25)]; exact row3 (w := w14.alloc (.cells #[.bool false, .slice none 0 0, .slice none 0 0] 25)) kk5)
             obtain ⟨zc0, zc1, zc2, zcf0, zcf1, zcf2⟩ := row3_0 zc'.out
             obtain ⟨zd0, zd1, zd2, zdf0, zdf1, zdf2⟩ := row3_0 zd'.out
             have la := lt_of_block zc'.out
             have lb := lt_of_block zd'.out
             have nn : w14.heap.size ≠ w14.heap.size + 1 := Nat.ne_of_lt (Nat.lt_succ_self _)
             have nm : w14.heap.size + 1 ≠ w14.heap.size := Nat.succ_ne_self _
             have H14' := Lib.hid (H14.out.mono (ext_trans (ext_alloc _ _) (ext_trans (ext_alloc _ _) kk5)))
             have hqz0 : g1 < w15.heap.size := Nat.lt_of_lt_of_le HGS0.out hx2.out.size
             have nez00 : g1 ≠ w15.heap.size := Nat.ne_of_lt hqz0
             have nez01 : g1 ≠ w15.heap.size + 1 := Nat.ne_of_lt (Nat.lt_succ_of_lt hqz0)
             clear hqz0
             have hqz1 : ga < w15.heap.size := Nat.lt_of_lt_of_le HGS1.out hx2.out.size
             have nez10 : ga ≠ w15.heap.size := Nat.ne_of_lt hqz1
             have nez11 : ga ≠ w15.heap.size + 1 := Nat.ne_of_lt (Nat.lt_succ_of_lt hqz1)
             clear hqz1
             have hqz2 : gb < w15.heap.size := Nat.lt_of_lt_of_le HGS2.out hx2.out.size
             have nez20 : gb ≠ w15.heap.size := Nat.ne_of_lt hqz2
             have nez21 : gb ≠ w15.heap.size + 1 := Nat.ne_of_lt (Nat.lt_succ_of_lt hqz2)
             clear hqz2
             have hze := Lib.hid (show WB.heap.size ≤ w15.heap.size from hx2.out.size)
             have hzf := Lib.hid (show WB.heap.size ≤ w15.heap.size + 1 from Nat.le_succ_of_le hx2.out.size)
             try generalize w14.heap.size + 1 = g4b at *
             try generalize w14.heap.size = g4 at *
             try generalize WB.heap.size + 1 = gxb at *
             clear h15 kk5)
          | (go_at_call 33
             have _q := hx1
             rename_i hh _ _
             clear hh
             with_reducible refine (up_d M HM.out (n + 1) _ x (w14.alloc (.cells #[.bool false, .slice none 0 0, .slice none 0 0] 25)) (NX'.out.mono (by (repeat (first | with_reducible refine ext_dr ?_ | with_reducible refine ext_put3 ?_ (by first | with_reducible exact hza.out | with_reducible exact hzb.out | with_reducible exact hzc.out | with_reducible exact hzd.out | with_reducible exact hze.out | with_reducible exact hzf.out) _ _ _ | with_reducible refine ext_al ?_ _ | with_reducible exact hx2.out | with_reducible exact hx1.out | with_reducible exact hx0.out)))) BX.out).mono ?_
             rintro e w15 ⟨v15, rfl, h15, kk5⟩
             obtain ⟨b15, A15, k15, ca15, B15, l15, cb15, rfl⟩ := h15.form2
             have H15 := Lib.hid h15
             have hx2 := Lib.hid (show Ext WB w15 from ext_trans (by (repeat (first | with_reducible refine ext_dr ?_ | with_reducible refine ext_put3 ?_ (by first | with_reducible exact hza.out | with_reducible exact hzb.out | with_reducible exact hzc.out | with_reducible exact hzd.out | with_reducible exact hze.out | with_reducible exact hzf.out) _ _ _ | with_reducible refine ext_al ?_ _ | with_reducible exact hx2.out | with_reducible exact hx1.out | with_reducible exact hx0.out))) kk5)
             have za' := Lib.hid (((ext_trans (ext_alloc _ _) kk5).block _ (lt_of_block za.out)).trans za.out)
             have zc' := Lib.hid (row3 kk5)
             obtain ⟨za0, za1, za2, zaf0, zaf1, zaf2⟩ := row3_0 za'.out
             obtain ⟨zc0, zc1, zc2, zcf0, zcf1, zcf2⟩ := row3_0 zc'.out
             have la := lt_of_block za.out
             have lan := Nat.ne_of_lt la
             have lag := Nat.ne_of_gt la
             have H14' := Lib.hid (H14.out.mono (ext_trans (ext_alloc _ _) kk5))
             have hqz0 : g1 < w15.heap.size := Nat.lt_of_lt_of_le HGS0.out hx2.out.size
             have nez00 : g1 ≠ w15.heap.size := Nat.ne_of_lt hqz0
             have nez01 : g1 ≠ w15.heap.size + 1 := Nat.ne_of_lt (Nat.lt_succ_of_lt hqz0)
             clear hqz0
             have hqz1 : ga < w15.heap.size := Nat.lt_of_lt_of_le HGS1.out hx2.out.size
             have nez10 : ga ≠ w15.heap.size := Nat.ne_of_lt hqz1
             have nez11 : ga ≠ w15.heap.size + 1 := Nat.ne_of_lt (Nat.lt_succ_of_lt hqz1)
             clear hqz1
             have hqz2 : gb < w15.heap.size := Nat.lt_of_lt_of_le HGS2.out hx2.out.size
             have nez20 : gb ≠ w15.heap.size := Nat.ne_of_lt hqz2
             have nez21 : gb ≠ w15.heap.size + 1 := Nat.ne_of_lt (Nat.lt_succ_of_lt hqz2)
             clear hqz2
             have hze := Lib.hid (show WB.heap.size ≤ w15.heap.size from hx2.out.size)
             have hzf := Lib.hid (show WB.heap.size ≤ w15.heap.size + 1 from Nat.le_succ_of_le hx2.out.size)
             try generalize w14.heap.size + 1 = g4b at *
             try generalize w14.heap.size = g4 at *
             try generalize WB.heap.size + 1 = gxb at *
             clear h15 kk5)
          | (go_at_call 33
             have _q := hx1
             rename_i hh _ _
             clear hh
             with_reducible refine (up_d M HM.out (n + 1) _ x (w14.alloc (.cells #[.bool false, .slice none 0 0, .slice none 0 0] 25)) (NX'.out.mono (by (repeat (first | with_reducible refine ext_dr ?_ | with_reducible refine ext_put3 ?_ (by first | with_reducible exact hza.out | with_reducible exact hzb.out | with_reducible exact hzc.out | with_reducible exact hzd.out | with_reducible exact hze.out | with_reducible exact hzf.out) _ _ _ | with_reducible refine ext_al ?_ _ | with_reducible exact hx2.out | with_reducible exact hx1.out | with_reducible exact hx0.out)))) BX.out).mono ?_
             rintro e w15 ⟨v15, rfl, h15, kk5⟩
             obtain ⟨b15, A15, k15, ca15, B15, l15, cb15, rfl⟩ := h15.form2
             have H15 := Lib.hid h15
             have hx2 := Lib.hid (show Ext WB w15 from ext_trans (by (repeat (first | with_reducible refine ext_dr ?_ | with_reducible refine ext_put3 ?_ (by first | with_reducible exact hza.out | with_reducible exact hzb.out | with_reducible exact hzc.out | with_reducible exact hzd.out | with_reducible exact hze.out | with_reducible exact hzf.out) _ _ _ | with_reducible refine ext_al ?_ _ | with_reducible exact hx2.out | with_reducible exact hx1.out | with_reducible exact hx0.out))) kk5)
             have zc' := Lib.hid (row3 kk5)
             obtain ⟨zc0, zc1, zc2, zcf0, zcf1, zcf2⟩ := row3_0 zc'.out
             obtain ⟨zc0', zc1', zc2', zcf0', zcf1', zcf2'⟩ := row3_0 (((ext_alloc w15 (.cells #[.bool false, .slice none 0 0, .slice none 0 0] 25)).block _ (lt_of_block zc'.out)).trans zc'.out)
             have la := lt_of_block zc'.out
             have lan := Nat.ne_of_lt la
             have lag := Nat.ne_of_gt la
             have H14' := Lib.hid (H14.out.mono (ext_trans (ext_alloc _ _) kk5))
             have hqz0 : g1 < w15.heap.size := Nat.lt_of_lt_of_le HGS0.out hx2.out.size
             have nez00 : g1 ≠ w15.heap.size := Nat.ne_of_lt hqz0
             have nez01 : g1 ≠ w15.heap.size + 1 := Nat.ne_of_lt (Nat.lt_succ_of_lt hqz0)
             clear hqz0
             have hqz1 : ga < w15.heap.size := Nat.lt_of_lt_of_le HGS1.out hx2.out.size
             have nez10 : ga ≠ w15.heap.size := Nat.ne_of_lt hqz1
             have nez11 : ga ≠ w15.heap.size + 1 := Nat.ne_of_lt (Nat.lt_succ_of_lt hqz1)
             clear hqz1
             have hqz2 : gb < w15.heap.size := Nat.lt_of_lt_of_le HGS2.out hx2.out.size
             have nez20 : gb ≠ w15.heap.size := Nat.ne_of_lt hqz2
             have nez21 : gb ≠ w15.heap.size + 1 := Nat.ne_of_lt (Nat.lt_succ_of_lt hqz2)
             clear hqz2
             have hze := Lib.hid (show WB.heap.size ≤ w15.heap.size from hx2.out.size)
             have hzf := Lib.hid (show WB.heap.size ≤ w15.heap.size + 1 from Nat.le_succ_of_le hx2.out.size)
             try generalize w14.heap.size + 1 = g4b at *
             try generalize w14.heap.size = g4 at *
             try generalize WB.heap.size + 1 = gxb at *
             clear h15 kk5)
          | (go_at_call 33
             have _q := hx1
             rename_i hh _ _
             clear hh
             with_reducible refine (up_d M HM.out (n + 1) _ x w14 (NX'.out.mono (by (repeat (first | with_reducible refine ext_dr ?_ | with_reducible refine ext_put3 ?_ (by first | with_reducible exact hza.out | with_reducible exact hzb.out | with_reducible exact hzc.out | with_reducible exact hzd.out | with_reducible exact hze.out | with_reducible exact hzf.out) _ _ _ | with_reducible refine ext_al ?_ _ | with_reducible exact hx2.out | with_reducible exact hx1.out | with_reducible exact hx0.out)))) BX.out).mono ?_
             rintro e w15 ⟨v15, rfl, h15, kk5⟩
             obtain ⟨b15, A15, k15, ca15, B15, l15, cb15, rfl⟩ := h15.form2
             have H15 := Lib.hid h15
             have hx2 := Lib.hid (show Ext WB w15 from ext_trans (by (repeat (first | with_reducible refine ext_dr ?_ | with_reducible refine ext_put3 ?_ (by first | with_reducible exact hza.out | with_reducible exact hzb.out | with_reducible exact hzc.out | with_reducible exact hzd.out | with_reducible exact hze.out | with_reducible exact hzf.out) _ _ _ | with_reducible refine ext_al ?_ _ | with_reducible exact hx2.out | with_reducible exact hx1.out | with_reducible exact hx0.out))) kk5)
             have za' := Lib.hid ((kk5.block _ (lt_of_block za.out)).trans za.out)
             have zb' := Lib.hid ((kk5.block _ (lt_of_block zb.out)).trans zb.out)
             obtain ⟨za0, za1, za2, zaf0, zaf1, zaf2⟩ := row3_0 za'.out
             obtain ⟨zb0, zb1, zb2, zbf0, zbf1, zbf2⟩ := row3_0 zb'.out
             have la := lt_of_block za'.out
             have lb := lt_of_block zb'.out
             have nn : WB.heap.size ≠ WB.heap.size + 1 := Nat.ne_of_lt (Nat.lt_succ_self _)
             have nm : WB.heap.size + 1 ≠ WB.heap.size := Nat.succ_ne_self _
             have H14' := Lib.hid (H14.out.mono kk5)
             have hqz0 : g1 < w15.heap.size := Nat.lt_of_lt_of_le HGS0.out hx2.out.size
             have nez00 : g1 ≠ w15.heap.size := Nat.ne_of_lt hqz0
             have nez01 : g1 ≠ w15.heap.size + 1 := Nat.ne_of_lt (Nat.lt_succ_of_lt hqz0)
             clear hqz0
             have hqz1 : ga < w15.heap.size := Nat.lt_of_lt_of_le HGS1.out hx2.out.size
             have nez10 : ga ≠ w15.heap.size := Nat.ne_of_lt hqz1
             have nez11 : ga ≠ w15.heap.size + 1 := Nat.ne_of_lt (Nat.lt_succ_of_lt hqz1)
             clear hqz1
             have hqz2 : gb < w15.heap.size := Nat.lt_of_lt_of_le HGS2.out hx2.out.size
             have nez20 : gb ≠ w15.heap.size := Nat.ne_of_lt hqz2
             have nez21 : gb ≠ w15.heap.size + 1 := Nat.ne_of_lt (Nat.lt_succ_of_lt hqz2)
             clear hqz2
             have hze := Lib.hid (show WB.heap.size ≤ w15.heap.size from hx2.out.size)
             have hzf := Lib.hid (show WB.heap.size ≤ w15.heap.size + 1 from Nat.le_succ_of_le hx2.out.size)
             try generalize w14.heap.size + 1 = g4b at *
             try generalize w14.heap.size = g4 at *
             try generalize WB.heap.size + 1 = gxb at *
             clear h15 kk5)
          | (go_at_call 33
             have _q := hx1
             rename_i hh _ _
             clear hh
             with_reducible refine (up_d M HM.out (n + 1) _ x w14 (NX'.out.mono (by (repeat (first | with_reducible refine ext_dr ?_ | with_reducible refine ext_put3 ?_ (by first | with_reducible exact hza.out | with_reducible exact hzb.out | with_reducible exact hzc.out | with_reducible exact hzd.out | with_reducible exact hze.out | with_reducible exact hzf.out) _ _ _ | with_reducible refine ext_al ?_ _ | with_reducible exact hx2.out | with_reducible exact hx1.out | with_reducible exact hx0.out)))) BX.out).mono ?_
             rintro e w15 ⟨v15, rfl, h15, kk5⟩
             obtain ⟨b15, A15, k15, ca15, B15, l15, cb15, rfl⟩ := h15.form2
             have H15 := Lib.hid h15
             have hx2 := Lib.hid (show Ext WB w15 from ext_trans (by (repeat (first | with_reducible refine ext_dr ?_ | with_reducible refine ext_put3 ?_ (by first | with_reducible exact hza.out | with_reducible exact hzb.out | with_reducible exact hzc.out | with_reducible exact hzd.out | with_reducible exact hze.out | with_reducible exact hzf.out) _ _ _ | with_reducible refine ext_al ?_ _ | with_reducible exact hx2.out | with_reducible exact hx1.out | with_reducible exact hx0.out))) kk5)
             have za' := Lib.hid ((kk5.block _ (lt_of_block za.out)).trans za.out)
             obtain ⟨za0, za1, za2, zaf0, zaf1, zaf2⟩ := row3_0 za'.out
             obtain ⟨za0', za1', za2', zaf0', zaf1', zaf2'⟩ := row3_0 (((ext_alloc w15 (.cells #[.bool false, .slice none 0 0, .slice none 0 0] 25)).block _ (lt_of_block za'.out)).trans za'.out)
             have la := lt_of_block za'.out
             have lan := Nat.ne_of_lt la
             have lag := Nat.ne_of_gt la
             have H14' := Lib.hid (H14.out.mono kk5)
             have hqz0 : g1 < w15.heap.size := Nat.lt_of_lt_of_le HGS0.out hx2.out.size
             have nez00 : g1 ≠ w15.heap.size := Nat.ne_of_lt hqz0
             have nez01 : g1 ≠ w15.heap.size + 1 := Nat.ne_of_lt (Nat.lt_succ_of_lt hqz0)
             clear hqz0
             have hqz1 : ga < w15.heap.size := Nat.lt_of_lt_of_le HGS1.out hx2.out.size
             have nez10 : ga ≠ w15.heap.size := Nat.ne_of_lt hqz1
             have nez11 : ga ≠ w15.heap.size + 1 := Nat.ne_of_lt (Nat.lt_succ_of_lt hqz1)
             clear hqz1
             have hqz2 : gb < w15.heap.size := Nat.lt_of_lt_of_le HGS2.out hx2.out.size
             have nez20 : gb ≠ w15.heap.size := Nat.ne_of_lt hqz2
             have nez21 : gb ≠ w15.heap.size + 1 := Nat.ne_of_lt (Nat.lt_succ_of_lt hqz2)
             clear hqz2
             have hze := Lib.hid (show WB.heap.size ≤ w15.heap.size from hx2.out.size)
             have hzf := Lib.hid (show WB.heap.size ≤ w15.heap.size + 1 from Nat.le_succ_of_le hx2.out.size)
             try generalize w14.heap.size + 1 = g4b at *
             try generalize w14.heap.size = g4 at *
             try generalize WB.heap.size + 1 = gxb at *
             clear h15 kk5)
          | (go_at_call 33
             have _q := hx1
             rename_i hh _ _
             clear hh
             with_reducible refine (up_d M HM.out (n + 1) _ x w14 (NX'.out.mono (by (repeat (first | with_reducible refine ext_dr ?_ | with_reducible refine ext_put3 ?_ (by first | with_reducible exact hza.out | with_reducible exact hzb.out | with_reducible exact hzc.out | with_reducible exact hzd.out | with_reducible exact hze.out | with_reducible exact hzf.out) _ _ _ | with_reducible refine ext_al ?_ _ | with_reducible exact hx2.out | with_reducible exact hx1.out | with_reducible exact hx0.out)))) BX.out).mono ?_
             rintro e w15 ⟨v15, rfl, h15, kk5⟩
             obtain ⟨b15, A15, k15, ca15, B15, l15, cb15, rfl⟩ := h15.form2
             have H15 := Lib.hid h15
             have hx2 := Lib.hid (show Ext WB w15 from ext_trans (by (repeat (first | with_reducible refine ext_dr ?_ | with_reducible refine ext_put3 ?_ (by first | with_reducible exact hza.out | with_reducible exact hzb.out | with_reducible exact hzc.out | with_reducible exact hzd.out | with_reducible exact hze.out | with_reducible exact hzf.out) _ _ _ | with_reducible refine ext_al ?_ _ | with_reducible exact hx2.out | with_reducible exact hx1.out | with_reducible exact hx0.out))) kk5)
             have H14' := Lib.hid (H14.out.mono kk5)
             have hqz0 : g1 < w15.heap.size := Nat.lt_of_lt_of_le HGS0.out hx2.out.size
             have nez00 : g1 ≠ w15.heap.size := Nat.ne_of_lt hqz0
             have nez01 : g1 ≠ w15.heap.size + 1 := Nat.ne_of_lt (Nat.lt_succ_of_lt hqz0)
             clear hqz0
             have hqz1 : ga < w15.heap.size := Nat.lt_of_lt_of_le HGS1.out hx2.out.size
             have nez10 : ga ≠ w15.heap.size := Nat.ne_of_lt hqz1
             have nez11 : ga ≠ w15.heap.size + 1 := Nat.ne_of_lt (Nat.lt_succ_of_lt hqz1)
             clear hqz1
             have hqz2 : gb < w15.heap.size := Nat.lt_of_lt_of_le HGS2.out hx2.out.size
             have nez20 : gb ≠ w15.heap.size := Nat.ne_of_lt hqz2
             have nez21 : gb ≠ w15.heap.size + 1 := Nat.ne_of_lt (Nat.lt_succ_of_lt hqz2)
             clear hqz2
             have hze := Lib.hid (show WB.heap.size ≤ w15.heap.size from hx2.out.size)
             have hzf := Lib.hid (show WB.heap.size ≤ w15.heap.size + 1 from Nat.le_succ_of_le hx2.out.size)
             try generalize w14.heap.size + 1 = g4b at *
             try generalize w14.heap.size = g4 at *
             try generalize WB.heap.size + 1 = gxb at *
             clear h15 kk5))
        all_goals
          go_wp2_with fail
          go_meet
          refine ⟨_, _, rfl, rfl, b14, A14, k14, ca14, B14, l14, cb14, b15, A15, k15, ca15, B15, l15, cb15, ?_, ?_, ?_, ?_, ?_⟩
          all_goals
            repeat (first | with_reducible exact H15.out | with_reducible exact H14'.out | with_reducible exact za'.out | with_reducible exact zb'.out | with_reducible exact zc'.out | with_reducible exact zd'.out | with_reducible refine nm_dr ?_ | with_reducible refine nm_al ?_ | with_reducible refine nm_putz ?_ ?_ _ _ _ | with_reducible refine row_dr ?_ | with_reducible exact heap_alloc_new _ _ | with_reducible exact row_new1 _ _ _ | with_reducible exact row_newp _ _ _ _ _ _ | with_reducible refine put3_rowz ?_ _ _ _ | with_reducible refine put3_other ?_ (by first | with_reducible exact nn | with_reducible exact nm | with_reducible exact lan | with_reducible exact lag) _ _ _ | with_reducible refine row_al ?_ | (first | with_reducible refine ext_dr ?_ | with_reducible refine ext_put3 ?_ (by first | with_reducible exact hza.out | with_reducible exact hzb.out | with_reducible exact hzc.out | with_reducible exact hzd.out | with_reducible exact hze.out | with_reducible exact hzf.out) _ _ _ | with_reducible refine ext_al ?_ _ | with_reducible exact hx2.out | with_reducible exact hx1.out | with_reducible exact hx0.out))
      case rest =>
        obtain ⟨gc, gd, rfl, rfl, b8, A8, k8, ca8, B8, l8, cb8, b9, A9, k9, ca9, B9, l9, cb9, r6, r7, n6, n7, e6⟩ := hcut
        rename World => WC
        have R8 := Lib.hid r6
        have R9 := Lib.hid r7
        have MC := Lib.hid n6
        have MD := Lib.hid n7
        have KD := Lib.hid e6
        clear r6 r7 n6 n7 e6
        have Q1_ := Lib.hid ((KD.out.block _ (lt_of_block R1'.out)).trans R1'.out)
        have Q6_ := Lib.hid ((KD.out.block _ (lt_of_block R6.out)).trans R6.out)
        have Q7_ := Lib.hid ((KD.out.block _ (lt_of_block R7.out)).trans R7.out)
        have MX := Lib.hid (NX'.out.mono KD.out)
        have MA := Lib.hid (N6.out.mono KD.out)
        have MB := Lib.hid (N7.out.mono KD.out)
        have EW := Lib.hid (ext_trans EB.out KD.out)
        have TB := Lib.hid (HT.out.mono EW.out)
        have HS := Lib.hid (show ∀ W : World, Ext WC W → W.cell? ⟨g1, 0, none⟩ = some (.bool b1) ∧ W.cell? ⟨g1, 1, none⟩ = some (.slice A1 k1 ca1) ∧ W.cell? ⟨g1, 2, none⟩ = some (.slice B1 l1 cb1) ∧ W.cell? ⟨ga, 0, none⟩ = some (.bool b6) ∧ W.cell? ⟨ga, 1, none⟩ = some (.slice A6 k6 ca6) ∧ W.cell? ⟨ga, 2, none⟩ = some (.slice B6 l6 cb6) ∧ W.cell? ⟨gb, 0, none⟩ = some (.bool b7) ∧ W.cell? ⟨gb, 1, none⟩ = some (.slice A7 k7 ca7) ∧ W.cell? ⟨gb, 2, none⟩ = some (.slice B7 l7 cb7) ∧ W.cell? ⟨gc, 0, none⟩ = some (.bool b8) ∧ W.cell? ⟨gc, 1, none⟩ = some (.slice A8 k8 ca8) ∧ W.cell? ⟨gc, 2, none⟩ = some (.slice B8 l8 cb8) ∧ W.cell? ⟨gd, 0, none⟩ = some (.bool b9) ∧ W.cell? ⟨gd, 1, none⟩ = some (.slice A9 k9 ca9) ∧ W.cell? ⟨gd, 2, none⟩ = some (.slice B9 l9 cb9) from fun W h => by
          obtain ⟨p0, p1, p2, -⟩ := row3_0 ((h.block _ (lt_of_block Q1_.out)).trans Q1_.out)
          obtain ⟨t0, t1, t2, -⟩ := row3_0 ((h.block _ (lt_of_block Q6_.out)).trans Q6_.out)
          obtain ⟨y0, y1, y2, -⟩ := row3_0 ((h.block _ (lt_of_block Q7_.out)).trans Q7_.out)
          obtain ⟨u0, u1, u2, -⟩ := row3_0 ((h.block _ (lt_of_block R8.out)).trans R8.out)
          obtain ⟨z0, z1, z2, -⟩ := row3_0 ((h.block _ (lt_of_block R9.out)).trans R9.out)
          exact ⟨p0, p1, p2, t0, t1, t2, y0, y1, y2, u0, u1, u2, z0, z1, z2⟩)
        clear HC2 HC3 NX' N6 N7 R1' R6 R7 EB KD HT
        obtain ⟨j1, hj1⟩ : ∃ j, cmpQ (downQ x n) (downQ x (n + 1)) = j := ⟨_, rfl⟩
        have JJ1 := Lib.hid hj1
        have hl1 : j1 ≤ 0 := by rw [← hj1]; exact O1.out
        have hd1 : decide (0 < j1) = false := decide_eq_false (by omega)
        clear hj1
        obtain ⟨j2, hj2⟩ : ∃ j, cmpQ (downQ x (n + 1)) x = j := ⟨_, rfl⟩
        have JJ2 := Lib.hid hj2
        have hl2 : j2 ≤ 0 := by rw [← hj2]; exact O2.out
        have hd2 : decide (0 < j2) = false := decide_eq_false (by omega)
        clear hj2
        obtain ⟨j3, hj3⟩ : ∃ j, cmpQ x (upQ x (n + 1)) = j := ⟨_, rfl⟩
        have JJ3 := Lib.hid hj3
        have hl3 : j3 ≤ 0 := by rw [← hj3]; exact O3.out
        have hd3 : decide (0 < j3) = false := decide_eq_false (by omega)
        clear hj3
        obtain ⟨j4, hj4⟩ : ∃ j, cmpQ (upQ x (n + 1)) (upQ x n) = j := ⟨_, rfl⟩
        have JJ4 := Lib.hid hj4
        have hl4 : j4 ≤ 0 := by rw [← hj4]; exact O4.out
        have hd4 : decide (0 < j4) = false := decide_eq_false (by omega)
        clear hj4
        have HW2 := Lib.hid (ext_refl WC)
        have hww := Lib.hid (ext_refl WC)
        have BNA := Lib.hid BA.out.neg
        have BNX := Lib.hid BX.out.neg
        go_upto_region 7 with (fail)
        have hx0 := Lib.hid (ext_refl WC)
        have hS0 := HS.out _ (ext_trans HW2.out hx0.out)
        have e1 := Lib.hid (ext_drew WC)
        have hx1 := Lib.hid (ext_trans hx0.out e1.out)
        go_region_held3 (fun W => W.cell? ⟨g1, 0, none⟩ = some (.bool b1) ∧ W.cell? ⟨g1, 1, none⟩ = some (.slice A1 k1 ca1) ∧ W.cell? ⟨g1, 2, none⟩ = some (.slice B1 l1 cb1) ∧ W.cell? ⟨ga, 0, none⟩ = some (.bool b6) ∧ W.cell? ⟨ga, 1, none⟩ = some (.slice A6 k6 ca6) ∧ W.cell? ⟨ga, 2, none⟩ = some (.slice B6 l6 cb6) ∧ W.cell? ⟨gb, 0, none⟩ = some (.bool b7) ∧ W.cell? ⟨gb, 1, none⟩ = some (.slice A7 k7 ca7) ∧ W.cell? ⟨gb, 2, none⟩ = some (.slice B7 l7 cb7) ∧ W.cell? ⟨gc, 0, none⟩ = some (.bool b8) ∧ W.cell? ⟨gc, 1, none⟩ = some (.slice A8 k8 ca8) ∧ W.cell? ⟨gc, 2, none⟩ = some (.slice B8 l8 cb8) ∧ W.cell? ⟨gd, 0, none⟩ = some (.bool b9) ∧ W.cell? ⟨gd, 1, none⟩ = some (.slice A9 k9 ca9) ∧ W.cell? ⟨gd, 2, none⟩ = some (.slice B9 l9 cb9))
          (first
            | exact HS.out _ (ext_trans HW2.out hx9.out)
            | exact HS.out _ (ext_trans HW2.out hx8.out)
            | exact HS.out _ (ext_trans HW2.out hx7.out)
            | exact HS.out _ (ext_trans HW2.out hx6.out)
            | exact HS.out _ (ext_trans HW2.out hx5.out)
            | exact HS.out _ (ext_trans HW2.out hx4.out)
            | exact HS.out _ (ext_trans HW2.out hx3.out)
            | exact HS.out _ (ext_trans HW2.out hx2.out)
            | exact HS.out _ (ext_trans HW2.out hx1.out))
          (first
            | (have _q := hx8
               go_at_call 46
               refine (equal_yes M HM.out _ _ (-(downQ x n)) _ (H6.out.mono (ext_trans e7.out e8.out)) H8.out BNA.out (TB.out.mono (ext_trans hww.out hx8.out))).mono ?_
               clear _q
               rintro e w12 ⟨rfl, k9⟩
               have e9 := Lib.hid k9
               have hx9 := Lib.hid (ext_trans hx8.out k9)
               clear k9)
            | (have _q := hx7
               go_at_call 33
               refine (up_e M HM.out n _ (-x) (-(downQ x n)) O5.out.symm _ H7.out BNX.out).mono ?_
               clear _q
               rintro e w11 ⟨vv, rfl, h8, k8⟩
               obtain ⟨b108, P108, p108, c108, Q108, q108, d108, rfl⟩ := h8.form2
               have H8 := Lib.hid h8
               clear h8
               have e8 := Lib.hid k8
               have hx8 := Lib.hid (ext_trans hx7.out k8)
               clear k8)
            | (have _q := hx6
               go_at_call 47
               refine (neg_q _ (x) _ (MX.out.mono (ext_trans hww.out hx6.out))).mono ?_
               clear _q
               rintro e w10 ⟨vv, rfl, h7, k7⟩
               obtain ⟨b107, P107, p107, c107, Q107, q107, d107, rfl⟩ := h7.form2
               have H7 := Lib.hid h7
               clear h7
               have e7 := Lib.hid k7
               have hx7 := Lib.hid (ext_trans hx6.out k7)
               clear k7)
            | (have _q := hx5
               go_at_call 47
               refine (neg_q _ (downQ x n) _ (MA.out.mono (ext_trans hww.out hx5.out))).mono ?_
               clear _q
               rintro e w9 ⟨vv, rfl, h6, k6⟩
               obtain ⟨b106, P106, p106, c106, Q106, q106, d106, rfl⟩ := h6.form2
               have H6 := Lib.hid h6
               clear h6
               have e6 := Lib.hid k6
               have hx6 := Lib.hid (ext_trans hx5.out k6)
               clear k6)
            | (have _q := hx4
               go_at_call 45
               refine (cmp_n M HM4.out _ _ (upQ x (n + 1)) (upQ x n) (j4) JJ4.out _ (MD.out.mono (ext_trans hww.out hx4.out)) (MB.out.mono (ext_trans hww.out hx4.out)) BD.out BB.out).mono ?_
               clear _q
               rintro e w8 ⟨rfl, k5⟩
               have e5 := Lib.hid k5
               have hx5 := Lib.hid (ext_trans hx4.out k5)
               clear k5)
            | (have _q := hx3
               go_at_call 45
               refine (cmp_n M HM4.out _ _ (x) (upQ x (n + 1)) (j3) JJ3.out _ (MX.out.mono (ext_trans hww.out hx3.out)) (MD.out.mono (ext_trans hww.out hx3.out)) BX.out BD.out).mono ?_
               clear _q
               rintro e w7 ⟨rfl, k4⟩
               have e4 := Lib.hid k4
               have hx4 := Lib.hid (ext_trans hx3.out k4)
               clear k4)
            | (have _q := hx2
               go_at_call 45
               refine (cmp_n M HM4.out _ _ (downQ x (n + 1)) (x) (j2) JJ2.out _ (MC.out.mono (ext_trans hww.out hx2.out)) (MX.out.mono (ext_trans hww.out hx2.out)) BC.out BX.out).mono ?_
               clear _q
               rintro e w6 ⟨rfl, k3⟩
               have e3 := Lib.hid k3
               have hx3 := Lib.hid (ext_trans hx2.out k3)
               clear k3)
            | (have _q := hx1
               go_at_call 45
               refine (cmp_n M HM4.out _ _ (downQ x n) (downQ x (n + 1)) (j1) JJ1.out _ (MA.out.mono (ext_trans hww.out hx1.out)) (MC.out.mono (ext_trans hww.out hx1.out)) BA.out BC.out).mono ?_
               clear _q
               rintro e w5 ⟨rfl, k2⟩
               have e2 := Lib.hid k2
               have hx2 := Lib.hid (ext_trans hx1.out k2)
               clear k2))
        clear hd1 hd2 hd3 hd4 hl1 hl2 hl3 hl4 JJ1 JJ2 JJ3 JJ4 O1 O2 O3 O4 O5
        obtain ⟨p0, p1, p2, t0, t1, t2, y0, y1, y2, u0, u1, u2, z0, z1, z2⟩ := HS.out _ hx9.out
        by_cases hab : downQ x n = upQ x n
        · have HAX := Lib.hid (Q1.out hab)
          have HAB := Lib.hid hab
          clear hab
          go_wp2_with fail
          refine (cmp_n M HM4.out _ _ (downQ x n) (upQ x n) 0 ((cmpQ_zero _ _).2 HAB.out) _ (MA.out.mono hx9.out) (MB.out.mono hx9.out) BA.out BB.out).mono ?_
          rintro e wa ⟨rfl, ja⟩
          have JA := Lib.hid (ext_trans hx9.out ja)
          clear ja p0 p1 p2 t0 t1 t2 y0 y1 y2 u0 u1 u2 z0 z1 z2
          obtain ⟨p0, p1, p2, t0, t1, t2, y0, y1, y2, u0, u1, u2, z0, z1, z2⟩ := HS.out _ JA.out
          go_wp2_with fail
          refine (equal_yes M HM.out _ _ (downQ x n) _ (MA.out.mono JA.out) (by have h := MX.out.mono JA.out; rw [← HAX.out] at h; exact h) BA.out (TB.out.mono JA.out)).mono ?_
          rintro e wb ⟨rfl, jb⟩
          have JB := Lib.hid (ext_trans JA.out jb)
          clear jb
          go_wp2_with fail
          refine (awake_c _ (TB.out.mono JB.out)).mono ?_
          rintro e wd ⟨rfl, jd⟩
          go_wp2_with fail
          go_ret
          exact ⟨rfl, ext_trans EW.out (ext_trans JB.out jd)⟩
        · obtain ⟨g1_, g2_, g3_, g4_, g5_, g6_⟩ := Q2.out hab
          obtain ⟨k0, hk0⟩ : ∃ k, cmpQ (downQ x n) (upQ x n) = k := ⟨_, rfl⟩
          have hkz : (k0 == 0) = false := by rw [beq_eq_false_iff_ne, ← hk0]; exact fun h => hab ((cmpQ_zero _ _).1 h)
          have GG1 := Lib.hid g1_
          have GG2 := Lib.hid g2_
          have GG3 := Lib.hid g3_
          have GG4 := Lib.hid g4_
          have GG5 := Lib.hid g5_
          have GG6 := Lib.hid g6_
          have HK0 := Lib.hid hk0
          clear hab hk0 g1_ g2_ g3_ g4_ g5_ g6_
          go_wp2_with fail
          refine (cmp_n M HM4.out _ _ (downQ x n) (upQ x n) k0 HK0.out _ (MA.out.mono hx9.out) (MB.out.mono hx9.out) BA.out BB.out).mono ?_
          rintro e wa ⟨rfl, ja⟩
          have JA := Lib.hid (ext_trans hx9.out ja)
          clear ja p0 p1 p2 t0 t1 t2 y0 y1 y2 u0 u1 u2 z0 z1 z2
          obtain ⟨p0, p1, p2, t0, t1, t2, y0, y1, y2, u0, u1, u2, z0, z1, z2⟩ := HS.out _ JA.out
          go_wp2_with fail
          refine (mid_c M HM.out _ (downQ x n) (upQ x n) _ ⟨_, _, _, _, _, _, rfl, MA.out.mono JA.out, MB.out.mono JA.out⟩ BA.out BB.out).mono ?_
          rintro e wm ⟨vm, rfl, hm, jm⟩
          obtain ⟨b30, A30, k30, ca30, B30, l30, cb30, rfl⟩ := hm.form2
          have HM30 := Lib.hid hm
          have JM := Lib.hid (ext_trans JA.out jm)
          clear hm jm p0 p1 p2 t0 t1 t2 y0 y1 y2 u0 u1 u2 z0 z1 z2
          go_upto_region 12 with (fail)
          have R30 := Lib.hid (show (wm.alloc (.cells #[.bool b30, .slice A30 k30 ca30, .slice B30 l30 cb30] 25)).heap[wm.heap.size]? = some (.cells #[.bool b30, .slice A30 k30 ca30, .slice B30 l30 cb30] 25 (0, 0)) from heap_alloc_new _ _)
          have EM := Lib.hid (ext_trans JM.out (ext_alloc wm (.cells #[.bool b30, .slice A30 k30 ca30, .slice B30 l30 cb30] 25)))
          have MM' := Lib.hid (HM30.out.mono (ext_alloc wm (.cells #[.bool b30, .slice A30 k30 ca30, .slice B30 l30 cb30] 25)))
          generalize World.alloc wm (.cells #[.bool b30, .slice A30 k30 ca30, .slice B30 l30 cb30] _) = WM at *
          generalize wm.heap.size = gm at *
          have HS2 := Lib.hid (show ∀ W : World, Ext WM W → W.cell? ⟨g1, 0, none⟩ = some (.bool b1) ∧ W.cell? ⟨g1, 1, none⟩ = some (.slice A1 k1 ca1) ∧ W.cell? ⟨g1, 2, none⟩ = some (.slice B1 l1 cb1) ∧ W.cell? ⟨ga, 0, none⟩ = some (.bool b6) ∧ W.cell? ⟨ga, 1, none⟩ = some (.slice A6 k6 ca6) ∧ W.cell? ⟨ga, 2, none⟩ = some (.slice B6 l6 cb6) ∧ W.cell? ⟨gb, 0, none⟩ = some (.bool b7) ∧ W.cell? ⟨gb, 1, none⟩ = some (.slice A7 k7 ca7) ∧ W.cell? ⟨gb, 2, none⟩ = some (.slice B7 l7 cb7) ∧ W.cell? ⟨gc, 0, none⟩ = some (.bool b8) ∧ W.cell? ⟨gc, 1, none⟩ = some (.slice A8 k8 ca8) ∧ W.cell? ⟨gc, 2, none⟩ = some (.slice B8 l8 cb8) ∧ W.cell? ⟨gd, 0, none⟩ = some (.bool b9) ∧ W.cell? ⟨gd, 1, none⟩ = some (.slice A9 k9 ca9) ∧ W.cell? ⟨gd, 2, none⟩ = some (.slice B9 l9 cb9) ∧ W.cell? ⟨gm, 0, none⟩ = some (.bool b30) ∧ W.cell? ⟨gm, 1, none⟩ = some (.slice A30 k30 ca30) ∧ W.cell? ⟨gm, 2, none⟩ = some (.slice B30 l30 cb30) from fun W h => by
            obtain ⟨p0, p1, p2, t0, t1, t2, y0, y1, y2, u0, u1, u2, z0, z1, z2⟩ := HS.out W (ext_trans EM.out h)
            obtain ⟨m0, m1, m2, -⟩ := row3_0 ((h.block _ (lt_of_block R30.out)).trans R30.out)
            exact ⟨p0, p1, p2, t0, t1, t2, y0, y1, y2, u0, u1, u2, z0, z1, z2, m0, m1, m2⟩)
          have MX' := Lib.hid (MX.out.mono EM.out)
          have MA' := Lib.hid (MA.out.mono EM.out)
          have MB' := Lib.hid (MB.out.mono EM.out)
          have TB' := Lib.hid (TB.out.mono EM.out)
          have EW' := Lib.hid (ext_trans EW.out EM.out)
          clear HS TB MX MA MB MC MD EM JM JA EW HM30 hww HW2 hx0 hx1 hx2 hx3 hx4 hx5 hx6 hx7 hx8 hx9 e1 e2 e3 e4 e5 e6 e7 e8 e9
          have HW2 := Lib.hid (ext_refl WM)
          have hww := Lib.hid (ext_refl WM)
          have TB := TB'
          have MX := MX'
          have MA := MA'
          have MB := MB'
          have MM := MM'
          have hx0 := Lib.hid (ext_refl WM)
          have hS0 := HS2.out _ (ext_trans HW2.out hx0.out)
          have e1 := Lib.hid (ext_drew WM)
          have hx1 := Lib.hid (ext_trans hx0.out e1.out)
          go_region_held3 (fun W => W.cell? ⟨g1, 0, none⟩ = some (.bool b1) ∧ W.cell? ⟨g1, 1, none⟩ = some (.slice A1 k1 ca1) ∧ W.cell? ⟨g1, 2, none⟩ = some (.slice B1 l1 cb1) ∧ W.cell? ⟨ga, 0, none⟩ = some (.bool b6) ∧ W.cell? ⟨ga, 1, none⟩ = some (.slice A6 k6 ca6) ∧ W.cell? ⟨ga, 2, none⟩ = some (.slice B6 l6 cb6) ∧ W.cell? ⟨gb, 0, none⟩ = some (.bool b7) ∧ W.cell? ⟨gb, 1, none⟩ = some (.slice A7 k7 ca7) ∧ W.cell? ⟨gb, 2, none⟩ = some (.slice B7 l7 cb7) ∧ W.cell? ⟨gc, 0, none⟩ = some (.bool b8) ∧ W.cell? ⟨gc, 1, none⟩ = some (.slice A8 k8 ca8) ∧ W.cell? ⟨gc, 2, none⟩ = some (.slice B8 l8 cb8) ∧ W.cell? ⟨gd, 0, none⟩ = some (.bool b9) ∧ W.cell? ⟨gd, 1, none⟩ = some (.slice A9 k9 ca9) ∧ W.cell? ⟨gd, 2, none⟩ = some (.slice B9 l9 cb9) ∧ W.cell? ⟨gm, 0, none⟩ = some (.bool b30) ∧ W.cell? ⟨gm, 1, none⟩ = some (.slice A30 k30 ca30) ∧ W.cell? ⟨gm, 2, none⟩ = some (.slice B30 l30 cb30))
            (first
              | exact HS2.out _ (ext_trans HW2.out hx12.out)
              | exact HS2.out _ (ext_trans HW2.out hx11.out)
              | exact HS2.out _ (ext_trans HW2.out hx10.out)
              | exact HS2.out _ (ext_trans HW2.out hx9.out)
              | exact HS2.out _ (ext_trans HW2.out hx8.out)
              | exact HS2.out _ (ext_trans HW2.out hx7.out)
              | exact HS2.out _ (ext_trans HW2.out hx6.out)
              | exact HS2.out _ (ext_trans HW2.out hx5.out)
              | exact HS2.out _ (ext_trans HW2.out hx4.out)
              | exact HS2.out _ (ext_trans HW2.out hx3.out)
              | exact HS2.out _ (ext_trans HW2.out hx2.out)
              | exact HS2.out _ (ext_trans HW2.out hx1.out))
            (first
              | (have _q := hx11
                 go_at_call 19
                 refine (awake_c _ (TB.out.mono (ext_trans hww.out hx11.out))).mono ?_
                 clear _q
                 rintro e w15 ⟨rfl, k12⟩
                 have e12 := Lib.hid k12
                 have hx12 := Lib.hid (ext_trans hx11.out k12)
                 clear k12)
              | (have _q := hx10
                 go_at_call 46
                 refine (equal_yes M HM.out _ _ (upQ x n) _ H10.out (MB.out.mono (ext_trans hww.out hx10.out)) BB.out (TB.out.mono (ext_trans hww.out hx10.out))).mono ?_
                 clear _q
                 rintro e w14 ⟨rfl, k11⟩
                 have e11 := Lib.hid k11
                 have hx11 := Lib.hid (ext_trans hx10.out k11)
                 clear k11)
              | (have _q := hx9
                 go_at_call 33
                 refine (up_e M HM.out n _ (upQ x n) (upQ x n) GG6.out _ (MB.out.mono (ext_trans hww.out hx9.out)) BB.out).mono ?_
                 clear _q
                 rintro e w13 ⟨vv, rfl, h10, k10⟩
                 obtain ⟨b110, P110, p110, c110, Q110, q110, d110, rfl⟩ := h10.form2
                 have H10 := Lib.hid h10
                 clear h10
                 have e10 := Lib.hid k10
                 have hx10 := Lib.hid (ext_trans hx9.out k10)
                 clear k10)
              | (have _q := hx8
                 go_at_call 46
                 refine (equal_yes M HM.out _ _ (downQ x n) _ H8.out (MA.out.mono (ext_trans hww.out hx8.out)) BA.out (TB.out.mono (ext_trans hww.out hx8.out))).mono ?_
                 clear _q
                 rintro e w12 ⟨rfl, k9⟩
                 have e9 := Lib.hid k9
                 have hx9 := Lib.hid (ext_trans hx8.out k9)
                 clear k9)
              | (have _q := hx7
                 go_at_call 31
                 refine (down_e M HM.out n _ (downQ x n) (downQ x n) GG5.out _ (MA.out.mono (ext_trans hww.out hx7.out)) BA.out).mono ?_
                 clear _q
                 rintro e w11 ⟨vv, rfl, h8, k8⟩
                 obtain ⟨b108, P108, p108, c108, Q108, q108, d108, rfl⟩ := h8.form2
                 have H8 := Lib.hid h8
                 clear h8
                 have e8 := Lib.hid k8
                 have hx8 := Lib.hid (ext_trans hx7.out k8)
                 clear k8)
              | (have _q := hx6
                 go_at_call 46
                 refine (equal_yes M HM.out _ _ (upQ x n) _ H6.out (MB.out.mono (ext_trans hww.out hx6.out)) BB.out (TB.out.mono (ext_trans hww.out hx6.out))).mono ?_
                 clear _q
                 rintro e w10 ⟨rfl, k7⟩
                 have e7 := Lib.hid k7
                 have hx7 := Lib.hid (ext_trans hx6.out k7)
                 clear k7)
              | (have _q := hx5
                 go_at_call 33
                 refine (up_e M HM.out n _ ((downQ x n + upQ x n) * P2 (-1)) (upQ x n) GG4.out _ (MM.out.mono (ext_trans hww.out hx5.out)) BM.out).mono ?_
                 clear _q
                 rintro e w9 ⟨vv, rfl, h6, k6⟩
                 obtain ⟨b106, P106, p106, c106, Q106, q106, d106, rfl⟩ := h6.form2
                 have H6 := Lib.hid h6
                 clear h6
                 have e6 := Lib.hid k6
                 have hx6 := Lib.hid (ext_trans hx5.out k6)
                 clear k6)
              | (have _q := hx4
                 go_at_call 46
                 refine (equal_yes M HM.out _ _ (downQ x n) _ H4.out (MA.out.mono (ext_trans hww.out hx4.out)) BA.out (TB.out.mono (ext_trans hww.out hx4.out))).mono ?_
                 clear _q
                 rintro e w8 ⟨rfl, k5⟩
                 have e5 := Lib.hid k5
                 have hx5 := Lib.hid (ext_trans hx4.out k5)
                 clear k5)
              | (have _q := hx3
                 go_at_call 31
                 refine (down_e M HM.out n _ ((downQ x n + upQ x n) * P2 (-1)) (downQ x n) GG3.out _ (MM.out.mono (ext_trans hww.out hx3.out)) BM.out).mono ?_
                 clear _q
                 rintro e w7 ⟨vv, rfl, h4, k4⟩
                 obtain ⟨b104, P104, p104, c104, Q104, q104, d104, rfl⟩ := h4.form2
                 have H4 := Lib.hid h4
                 clear h4
                 have e4 := Lib.hid k4
                 have hx4 := Lib.hid (ext_trans hx3.out k4)
                 clear k4)
              | (have _q := hx2
                 go_at_call 45
                 refine (cmp_n M HM4.out _ _ (x) (upQ x n) (-1) ((cmpQ_neg _ _).2 GG2.out) _ (MX.out.mono (ext_trans hww.out hx2.out)) (MB.out.mono (ext_trans hww.out hx2.out)) BX.out BB.out).mono ?_
                 clear _q
                 rintro e w6 ⟨rfl, k3⟩
                 have e3 := Lib.hid k3
                 have hx3 := Lib.hid (ext_trans hx2.out k3)
                 clear k3)
              | (have _q := hx1
                 go_at_call 45
                 refine (cmp_n M HM4.out _ _ (downQ x n) (x) (-1) ((cmpQ_neg _ _).2 GG1.out) _ (MA.out.mono (ext_trans hww.out hx1.out)) (MX.out.mono (ext_trans hww.out hx1.out)) BA.out BX.out).mono ?_
                 clear _q
                 rintro e w5 ⟨rfl, k2⟩
                 have e2 := Lib.hid k2
                 have hx2 := Lib.hid (ext_trans hx1.out k2)
                 clear k2))
          all_goals
            go_wp2_with fail
            go_ret
            exact ⟨rfl, ext_trans EW'.out hx12.out⟩
end Go.Proofs.YtpgdefgdboijlaaGreatDoor
