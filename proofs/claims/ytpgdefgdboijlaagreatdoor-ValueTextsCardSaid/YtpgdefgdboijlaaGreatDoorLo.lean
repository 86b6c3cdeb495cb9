/- The law of an order: the walk. Printed by gen_lo.py. -/
import Derived.Test.YtpgdefgdboijlaaGreatDoorVe
import Derived.Test.YtpgdefgdboijlaaGreatDoorVc
import Derived.Test.YtpgdefgdboijlaaGreatDoorVd
import Derived.Test.YtpgdefgdboijlaaGreatDoorNc
import Derived.Test.YtpgdefgdboijlaaGreatDoorLw
import Derived.Test.YtpgdefgdboijlaaGreatDoorPo
import Derived.Deep.RegionHeld3
import Derived.Deep.DeepCutAuto
namespace Go.Proofs.YtpgdefgdboijlaaGreatDoor
open Go.RowKit
set_option linter.unusedVariables false
theorem cmp_n (M : Nat) (hM : M ≤ 1099511627776) (vx vy : Value) (x y : Rat) (c : Int) (hc : cmpQ x y = c) (w : World) (hx : Nm w vx x) (hy : Nm w vy y) (bx : Bq M x) (by_ : Bq M y) :
    Calls Tryz.prog 45 #[vx, vy] w fun e w' => e = .returned (.int .i64 c) ∧ Ext w w' := by
  subst hc; exact cmp_q M hM vx vy x y w hx hy bx by_
theorem bq_min {M : Nat} {x y : Rat} (h : Bq M x) (k : Bq M y) : Bq M (minQ x y) := by unfold minQ; split <;> assumption
theorem bq_max {M : Nat} {x y : Rat} (h : Bq M x) (k : Bq M y) : Bq M (maxQ x y) := by unfold maxQ; split <;> assumption
set_option maxRecDepth 100000 in
set_option maxHeartbeats 8000000 in
theorem order_c (u v s : List UInt8) (hu : u.length ≤ 9223372036854775807) (hv : v.length ≤ 9223372036854775807) (hs : s.length ≤ 9223372036854775807) (w : World) (ht : Tab w) :
    Calls Tryz.prog 12 #[.string ⟨u.toArray⟩, .string ⟨v.toArray⟩, .string ⟨s.toArray⟩] w fun e w' => e = .returned (.bool true) ∧ Ext w w' := by
  have HT := Lib.hid ht
  clear ht
  obtain ⟨M, hM⟩ : ∃ M, M = 65536 := ⟨_, rfl⟩
  have HM := Lib.hid (show M ≤ 1073741824 by omega)
  have HM4 := Lib.hid (show M ≤ 1099511627776 by omega)
  have BU := Lib.hid ((parse_small u).mono (show 4001 ≤ M by omega))
  have BV := Lib.hid ((parse_small v).mono (show 4001 ≤ M by omega))
  have BX := Lib.hid ((parse_small s).mono (show 4001 ≤ M by omega))
  have BS := Lib.hid (((parse_small u).add (parse_small v)).mono (show 4001 + 4001 + 1 ≤ M by omega))
  have BP := Lib.hid (((parse_small u).mul (parse_small v)).mono (show 4001 + 4001 ≤ M by omega))
  have BB5 := Lib.hid (((parse_small u).mul (parse_small s)).mono (show 4001 + 4001 ≤ M by omega))
  have BB4 := Lib.hid (((parse_small v).mul (parse_small s)).mono (show 4001 + 4001 ≤ M by omega))
  have BB2 := Lib.hid (((parse_small v).add (parse_small s)).mono (show 4001 + 4001 + 1 ≤ M by omega))
  have BB7 := Lib.hid (((parse_small u).add (parse_small s)).mono (show 4001 + 4001 + 1 ≤ M by omega))
  have BSU := Lib.hid (((parse_small u).sub (parse_small v)).mono (show 4001 + 4001 + 1 ≤ M by omega))
  have BMN := Lib.hid (bq_min BU.out BV.out)
  have BMX := Lib.hid (bq_max BU.out BV.out)
  go_enter Tryz.func12, Tryz.ntmps12
  go_wp2_with fail
  refine (three_c u v s hu hv hs _).mono ?_
  rintro e w1 ⟨v1, v2, v3, rfl, h1, h2, h3, j1⟩
  obtain ⟨b1, A1, k1, ca1, B1, l1, cb1, rfl⟩ := h1.form2
  obtain ⟨b2, A2, k2, ca2, B2, l2, cb2, rfl⟩ := h2.form2
  obtain ⟨b3, A3, k3, ca3, B3, l3, cb3, rfl⟩ := h3.form2
  generalize ((parseS u).1 == 0 && (parseS v).1 == 0 && (parseS s).1 == 0) = is
  generalize (parseS u).2 = x at *
  generalize (parseS v).2 = y at *
  generalize (parseS s).2 = z at *
  have H1 := Lib.hid h1
  have H2 := Lib.hid h2
  have H3 := Lib.hid h3
  have J1 := Lib.hid j1
  clear h1 h2 h3 j1 hM
  cases is
  · go_wp2_with fail
    refine (awake_c _ (HT.out.mono (ext_trans J1.out (ext_trans (ext_alloc _ _) (ext_trans (ext_alloc _ _) (ext_alloc _ _)))))).mono ?_
    rintro e w2 ⟨rfl, k2⟩
    go_wp2_with fail
    go_ret
    exact ⟨rfl, ext_trans J1.out (ext_trans (ext_trans (ext_alloc _ _) (ext_trans (ext_alloc _ _) (ext_alloc _ _))) k2)⟩
  · go_upto_region 4 with (fail)
    have EA := Lib.hid (show Ext w1 (((w1.alloc (.cells #[.bool b1, .slice A1 k1 ca1, .slice B1 l1 cb1] 25)).alloc (.cells #[.bool b2, .slice A2 k2 ca2, .slice B2 l2 cb2] 25)).alloc (.cells #[.bool b3, .slice A3 k3 ca3, .slice B3 l3 cb3] 25)) from ext_trans (ext_alloc _ _) (ext_trans (ext_alloc _ _) (ext_alloc _ _)))
    have R1 := Lib.hid (show (((w1.alloc (.cells #[.bool b1, .slice A1 k1 ca1, .slice B1 l1 cb1] 25)).alloc (.cells #[.bool b2, .slice A2 k2 ca2, .slice B2 l2 cb2] 25)).alloc (.cells #[.bool b3, .slice A3 k3 ca3, .slice B3 l3 cb3] 25)).heap[w1.heap.size]? = some (.cells #[.bool b1, .slice A1 k1 ca1, .slice B1 l1 cb1] 25 (0, 0)) from row3 (ext_trans (ext_alloc _ _) (ext_alloc _ _)))
    have R2 := Lib.hid (show (((w1.alloc (.cells #[.bool b1, .slice A1 k1 ca1, .slice B1 l1 cb1] 25)).alloc (.cells #[.bool b2, .slice A2 k2 ca2, .slice B2 l2 cb2] 25)).alloc (.cells #[.bool b3, .slice A3 k3 ca3, .slice B3 l3 cb3] 25)).heap[w1.heap.size + 1]? = some (.cells #[.bool b2, .slice A2 k2 ca2, .slice B2 l2 cb2] 25 (0, 0)) from by rw [← heap_size_alloc' w1 (.cells #[.bool b1, .slice A1 k1 ca1, .slice B1 l1 cb1] 25)]; exact row3 (ext_alloc _ _))
    have R3 := Lib.hid (show (((w1.alloc (.cells #[.bool b1, .slice A1 k1 ca1, .slice B1 l1 cb1] 25)).alloc (.cells #[.bool b2, .slice A2 k2 ca2, .slice B2 l2 cb2] 25)).alloc (.cells #[.bool b3, .slice A3 k3 ca3, .slice B3 l3 cb3] 25)).heap[w1.heap.size + 1 + 1]? = some (.cells #[.bool b3, .slice A3 k3 ca3, .slice B3 l3 cb3] 25 (0, 0)) from by rw [← heap_size_alloc' w1 (.cells #[.bool b1, .slice A1 k1 ca1, .slice B1 l1 cb1] 25), ← heap_size_alloc' (w1.alloc (.cells #[.bool b1, .slice A1 k1 ca1, .slice B1 l1 cb1] 25)) (.cells #[.bool b2, .slice A2 k2 ca2, .slice B2 l2 cb2] 25)]; exact heap_alloc_new _ _)
    have E1 := Lib.hid (ext_trans J1.out EA.out)
    have NX := Lib.hid (H1.out.mono EA.out)
    have NY := Lib.hid (H2.out.mono EA.out)
    have NZ := Lib.hid (H3.out.mono EA.out)
    clear EA H1 H2 H3 J1
    generalize World.alloc (World.alloc (World.alloc w1 (.cells #[.bool b1, .slice A1 k1 ca1, .slice B1 l1 cb1] _)) (.cells #[.bool b2, .slice A2 k2 ca2, .slice B2 l2 cb2] _)) (.cells #[.bool b3, .slice A3 k3 ca3, .slice B3 l3 cb3] _) = WX at *
    generalize w1.heap.size = g1 at *
    have HC := Lib.hid (show ∀ W : World, Ext WX W → W.cell? ⟨g1, 0, none⟩ = some (.bool b1) ∧ W.cell? ⟨g1, 1, none⟩ = some (.slice A1 k1 ca1) ∧ W.cell? ⟨g1, 2, none⟩ = some (.slice B1 l1 cb1) ∧ W.cell? ⟨g1 + 1, 0, none⟩ = some (.bool b2) ∧ W.cell? ⟨g1 + 1, 1, none⟩ = some (.slice A2 k2 ca2) ∧ W.cell? ⟨g1 + 1, 2, none⟩ = some (.slice B2 l2 cb2) ∧ W.cell? ⟨g1 + 1 + 1, 0, none⟩ = some (.bool b3) ∧ W.cell? ⟨g1 + 1 + 1, 1, none⟩ = some (.slice A3 k3 ca3) ∧ W.cell? ⟨g1 + 1 + 1, 2, none⟩ = some (.slice B3 l3 cb3) from fun W h => by
      obtain ⟨p0, p1, p2, -⟩ := row3_0 ((h.block _ (lt_of_block R1.out)).trans R1.out)
      obtain ⟨q0, q1, q2, -⟩ := row3_0 ((h.block _ (lt_of_block R2.out)).trans R2.out)
      obtain ⟨s0, s1, s2, -⟩ := row3_0 ((h.block _ (lt_of_block R3.out)).trans R3.out)
      exact ⟨p0, p1, p2, q0, q1, q2, s0, s1, s2⟩)
    have HW2 := Lib.hid (ext_refl WX)
    have hww := Lib.hid (ext_refl WX)
    have TB := Lib.hid (HT.out.mono E1.out)
    clear R1 R2 R3 HT
    obtain ⟨c, hc⟩ : ∃ c, cmpQ x y = c := ⟨_, rfl⟩
    obtain ⟨d, hd⟩ : ∃ d, cmpQ y z = d := ⟨_, rfl⟩
    obtain ⟨s0, hs0⟩ : ∃ s0, z.num.sign = s0 := ⟨_, rfl⟩
    have hc3 : c = -1 ∨ c = 0 ∨ c = 1 := by have := cmpQ_one x y; omega
    have hd3 : d = -1 ∨ d = 0 ∨ d = 1 := by have := cmpQ_one y z; omega
    have hs3 : s0 = -1 ∨ s0 = 0 ∨ s0 = 1 := by have := Int.sign_trichotomy z.num; omega
    have HCC := Lib.hid hc
    have HDD := Lib.hid hd
    have HSS := Lib.hid hs0
    have HC3 := Lib.hid hc3
    have HD3 := Lib.hid hd3
    have hw7 : IntKind.i64.wrap (c * s0) = c * s0 := by rcases hc3 with rfl | rfl | rfl <;> rcases hs3 with rfl | rfl | rfl <;> rfl
    have HW7 := Lib.hid hw7
    have H7 := Lib.hid (show cmpQ (x + z) (y + z) = c by rw [cmpQ_shift]; exact hc)
    have H8 := Lib.hid (show cmpQ (x * z) (y * z) = c * s0 by rw [cmpQ_times, hc, hs0])
    obtain ⟨k9, hk9⟩ : ∃ k9, cmpQ (minQ x y) (maxQ x y) = k9 := ⟨_, rfl⟩
    have HK9 := Lib.hid hk9
    have HL9 := Lib.hid (show k9 ≤ 0 by rw [← hk9]; exact min_le_max x y)
    have HMM := Lib.hid (min_max x y)
    clear hc hd hs0 hc3 hd3 hs3 hw7 hk9
    have hx0 := Lib.hid (ext_refl WX)
    have hS0 := HC.out _ (ext_trans HW2.out hx0.out)
    have e1 := Lib.hid (ext_drew WX)
    have hx1 := Lib.hid (ext_trans hx0.out e1.out)
    go_region_held3 (fun W => W.cell? ⟨g1, 0, none⟩ = some (.bool b1) ∧ W.cell? ⟨g1, 1, none⟩ = some (.slice A1 k1 ca1) ∧ W.cell? ⟨g1, 2, none⟩ = some (.slice B1 l1 cb1) ∧ W.cell? ⟨g1 + 1, 0, none⟩ = some (.bool b2) ∧ W.cell? ⟨g1 + 1, 1, none⟩ = some (.slice A2 k2 ca2) ∧ W.cell? ⟨g1 + 1, 2, none⟩ = some (.slice B2 l2 cb2) ∧ W.cell? ⟨g1 + 1 + 1, 0, none⟩ = some (.bool b3) ∧ W.cell? ⟨g1 + 1 + 1, 1, none⟩ = some (.slice A3 k3 ca3) ∧ W.cell? ⟨g1 + 1 + 1, 2, none⟩ = some (.slice B3 l3 cb3))
      (first
        | exact HC.out _ (ext_trans HW2.out hx3.out)
        | exact HC.out _ (ext_trans HW2.out hx2.out)
        | exact HC.out _ (ext_trans HW2.out hx1.out))
      (first
        | (have _q := hx2
           go_at_call 45
           refine (cmp_n M HM4.out _ _ (y) (z) (d) HDD.out _ (NY.out.mono (ext_trans hww.out hx2.out)) (NZ.out.mono (ext_trans hww.out hx2.out)) BV.out BX.out).mono ?_
           clear _q
           rintro e w6 ⟨rfl, k3⟩
           have e3 := Lib.hid k3
           have hx3 := Lib.hid (ext_trans hx2.out k3)
           clear k3)
        | (have _q := hx1
           go_at_call 45
           refine (cmp_n M HM4.out _ _ (x) (y) (c) HCC.out _ (NX.out.mono (ext_trans hww.out hx1.out)) (NY.out.mono (ext_trans hww.out hx1.out)) BU.out BV.out).mono ?_
           clear _q
           rintro e w5 ⟨rfl, k2⟩
           have e2 := Lib.hid k2
           have hx2 := Lib.hid (ext_trans hx1.out k2)
           clear k2))
    go_upto_region 5 with (fail)
    have HX4 := Lib.hid hx3.out
    go_cut [69] (fun r wx => r = .bool false ∧ Hid (Ext WX wx))
    case first =>
      obtain ⟨p0, p1, p2, q0, q1, q2, s0_, s1, s2⟩ := HC.out _ HX4.out
      have hc3 := HC3.out
      have hd3 := HD3.out
      clear HC3 HD3 HW7 H7 H8 HK9 HL9
      rcases hc3 with rfl | rfl | rfl <;> rcases hd3 with rfl | rfl | rfl
      · go_wp2_with fail
        refine (cmp_n M HM4.out _ _ y x 1 (by rw [cmpQ_swap, HCC.out]; try rfl) _ (NY.out.mono HX4.out) (NX.out.mono HX4.out) BV.out BU.out).mono ?_
        rintro e wa ⟨rfl, ja⟩
        have JA := Lib.hid (ext_trans HX4.out ja)
        clear ja p0 p1 p2 q0 q1 q2 s0_ s1 s2
        obtain ⟨p0, p1, p2, q0, q1, q2, s0_, s1, s2⟩ := HC.out _ JA.out
        go_wp2_with fail
        refine (sub_q M HM4.out _ _ x y _ (NX.out.mono JA.out) (NY.out.mono JA.out) BU.out BV.out).mono ?_
        rintro e wb ⟨vb, rfl, hb, jb⟩
        obtain ⟨b90, A90, k90, ca90, B90, l90, cb90, rfl⟩ := hb.form2
        have HB := Lib.hid hb
        have JB := Lib.hid (ext_trans JA.out jb)
        clear hb jb p0 p1 p2 q0 q1 q2 s0_ s1 s2
        obtain ⟨p0, p1, p2, q0, q1, q2, s0_, s1, s2⟩ := HC.out _ JB.out
        go_wp2_with fail
        refine (sign_q' _ (x - y) _ (-1) (by rw [cmpQ_sub]; exact HCC.out) HB.out).mono ?_
        rintro e wcc ⟨rfl, jc⟩
        have JC := Lib.hid (ext_trans JB.out jc)
        clear jc p0 p1 p2 q0 q1 q2 s0_ s1 s2
        obtain ⟨p0, p1, p2, q0, q1, q2, s0_, s1, s2⟩ := HC.out _ JC.out
        go_wp2_with fail
        refine (cmp_n M HM4.out _ _ x z (-1) (by rw [order_min x y z (by rw [HCC.out]; decide) (by rw [HDD.out]; decide), HCC.out, HDD.out]; try rfl) _ (NX.out.mono JC.out) (NZ.out.mono JC.out) BU.out BX.out).mono ?_
        rintro e wd ⟨rfl, jd⟩
        have JD := Lib.hid (ext_trans JC.out jd)
        go_wp2_with fail
        go_meet
        exact ⟨rfl, JD⟩
      · go_wp2_with fail
        refine (cmp_n M HM4.out _ _ y x 1 (by rw [cmpQ_swap, HCC.out]; try rfl) _ (NY.out.mono HX4.out) (NX.out.mono HX4.out) BV.out BU.out).mono ?_
        rintro e wa ⟨rfl, ja⟩
        have JA := Lib.hid (ext_trans HX4.out ja)
        clear ja p0 p1 p2 q0 q1 q2 s0_ s1 s2
        obtain ⟨p0, p1, p2, q0, q1, q2, s0_, s1, s2⟩ := HC.out _ JA.out
        go_wp2_with fail
        refine (sub_q M HM4.out _ _ x y _ (NX.out.mono JA.out) (NY.out.mono JA.out) BU.out BV.out).mono ?_
        rintro e wb ⟨vb, rfl, hb, jb⟩
        obtain ⟨b90, A90, k90, ca90, B90, l90, cb90, rfl⟩ := hb.form2
        have HB := Lib.hid hb
        have JB := Lib.hid (ext_trans JA.out jb)
        clear hb jb p0 p1 p2 q0 q1 q2 s0_ s1 s2
        obtain ⟨p0, p1, p2, q0, q1, q2, s0_, s1, s2⟩ := HC.out _ JB.out
        go_wp2_with fail
        refine (sign_q' _ (x - y) _ (-1) (by rw [cmpQ_sub]; exact HCC.out) HB.out).mono ?_
        rintro e wcc ⟨rfl, jc⟩
        have JC := Lib.hid (ext_trans JB.out jc)
        clear jc p0 p1 p2 q0 q1 q2 s0_ s1 s2
        obtain ⟨p0, p1, p2, q0, q1, q2, s0_, s1, s2⟩ := HC.out _ JC.out
        go_wp2_with fail
        refine (cmp_n M HM4.out _ _ x z (-1) (by rw [order_min x y z (by rw [HCC.out]; decide) (by rw [HDD.out]; decide), HCC.out, HDD.out]; try rfl) _ (NX.out.mono JC.out) (NZ.out.mono JC.out) BU.out BX.out).mono ?_
        rintro e wd ⟨rfl, jd⟩
        have JD := Lib.hid (ext_trans JC.out jd)
        go_wp2_with fail
        go_meet
        exact ⟨rfl, JD⟩
      · go_wp2_with fail
        refine (cmp_n M HM4.out _ _ y x 1 (by rw [cmpQ_swap, HCC.out]; try rfl) _ (NY.out.mono HX4.out) (NX.out.mono HX4.out) BV.out BU.out).mono ?_
        rintro e wa ⟨rfl, ja⟩
        have JA := Lib.hid (ext_trans HX4.out ja)
        clear ja p0 p1 p2 q0 q1 q2 s0_ s1 s2
        obtain ⟨p0, p1, p2, q0, q1, q2, s0_, s1, s2⟩ := HC.out _ JA.out
        go_wp2_with fail
        refine (sub_q M HM4.out _ _ x y _ (NX.out.mono JA.out) (NY.out.mono JA.out) BU.out BV.out).mono ?_
        rintro e wb ⟨vb, rfl, hb, jb⟩
        obtain ⟨b90, A90, k90, ca90, B90, l90, cb90, rfl⟩ := hb.form2
        have HB := Lib.hid hb
        have JB := Lib.hid (ext_trans JA.out jb)
        clear hb jb p0 p1 p2 q0 q1 q2 s0_ s1 s2
        obtain ⟨p0, p1, p2, q0, q1, q2, s0_, s1, s2⟩ := HC.out _ JB.out
        go_wp2_with fail
        refine (sign_q' _ (x - y) _ (-1) (by rw [cmpQ_sub]; exact HCC.out) HB.out).mono ?_
        rintro e wcc ⟨rfl, jc⟩
        have JC := Lib.hid (ext_trans JB.out jc)
        clear jc p0 p1 p2 q0 q1 q2 s0_ s1 s2
        obtain ⟨p0, p1, p2, q0, q1, q2, s0_, s1, s2⟩ := HC.out _ JC.out
        go_wp2_with fail
        go_meet
        exact ⟨rfl, JC⟩
      · go_wp2_with fail
        refine (cmp_n M HM4.out _ _ y x 0 (by rw [cmpQ_swap, HCC.out]; try rfl) _ (NY.out.mono HX4.out) (NX.out.mono HX4.out) BV.out BU.out).mono ?_
        rintro e wa ⟨rfl, ja⟩
        have JA := Lib.hid (ext_trans HX4.out ja)
        clear ja p0 p1 p2 q0 q1 q2 s0_ s1 s2
        obtain ⟨p0, p1, p2, q0, q1, q2, s0_, s1, s2⟩ := HC.out _ JA.out
        go_wp2_with fail
        refine (sub_q M HM4.out _ _ x y _ (NX.out.mono JA.out) (NY.out.mono JA.out) BU.out BV.out).mono ?_
        rintro e wb ⟨vb, rfl, hb, jb⟩
        obtain ⟨b90, A90, k90, ca90, B90, l90, cb90, rfl⟩ := hb.form2
        have HB := Lib.hid hb
        have JB := Lib.hid (ext_trans JA.out jb)
        clear hb jb p0 p1 p2 q0 q1 q2 s0_ s1 s2
        obtain ⟨p0, p1, p2, q0, q1, q2, s0_, s1, s2⟩ := HC.out _ JB.out
        go_wp2_with fail
        refine (sign_q' _ (x - y) _ 0 (by rw [cmpQ_sub]; exact HCC.out) HB.out).mono ?_
        rintro e wcc ⟨rfl, jc⟩
        have JC := Lib.hid (ext_trans JB.out jc)
        clear jc p0 p1 p2 q0 q1 q2 s0_ s1 s2
        obtain ⟨p0, p1, p2, q0, q1, q2, s0_, s1, s2⟩ := HC.out _ JC.out
        go_wp2_with fail
        refine (cmp_n M HM4.out _ _ x z (-1) (by rw [order_min x y z (by rw [HCC.out]; decide) (by rw [HDD.out]; decide), HCC.out, HDD.out]; try rfl) _ (NX.out.mono JC.out) (NZ.out.mono JC.out) BU.out BX.out).mono ?_
        rintro e wd ⟨rfl, jd⟩
        have JD := Lib.hid (ext_trans JC.out jd)
        go_wp2_with fail
        go_meet
        exact ⟨rfl, JD⟩
      · go_wp2_with fail
        refine (cmp_n M HM4.out _ _ y x 0 (by rw [cmpQ_swap, HCC.out]; try rfl) _ (NY.out.mono HX4.out) (NX.out.mono HX4.out) BV.out BU.out).mono ?_
        rintro e wa ⟨rfl, ja⟩
        have JA := Lib.hid (ext_trans HX4.out ja)
        clear ja p0 p1 p2 q0 q1 q2 s0_ s1 s2
        obtain ⟨p0, p1, p2, q0, q1, q2, s0_, s1, s2⟩ := HC.out _ JA.out
        go_wp2_with fail
        refine (sub_q M HM4.out _ _ x y _ (NX.out.mono JA.out) (NY.out.mono JA.out) BU.out BV.out).mono ?_
        rintro e wb ⟨vb, rfl, hb, jb⟩
        obtain ⟨b90, A90, k90, ca90, B90, l90, cb90, rfl⟩ := hb.form2
        have HB := Lib.hid hb
        have JB := Lib.hid (ext_trans JA.out jb)
        clear hb jb p0 p1 p2 q0 q1 q2 s0_ s1 s2
        obtain ⟨p0, p1, p2, q0, q1, q2, s0_, s1, s2⟩ := HC.out _ JB.out
        go_wp2_with fail
        refine (sign_q' _ (x - y) _ 0 (by rw [cmpQ_sub]; exact HCC.out) HB.out).mono ?_
        rintro e wcc ⟨rfl, jc⟩
        have JC := Lib.hid (ext_trans JB.out jc)
        clear jc p0 p1 p2 q0 q1 q2 s0_ s1 s2
        obtain ⟨p0, p1, p2, q0, q1, q2, s0_, s1, s2⟩ := HC.out _ JC.out
        go_wp2_with fail
        refine (cmp_n M HM4.out _ _ x z 0 (by rw [order_min x y z (by rw [HCC.out]; decide) (by rw [HDD.out]; decide), HCC.out, HDD.out]; try rfl) _ (NX.out.mono JC.out) (NZ.out.mono JC.out) BU.out BX.out).mono ?_
        rintro e wd ⟨rfl, jd⟩
        have JD := Lib.hid (ext_trans JC.out jd)
        go_wp2_with fail
        go_meet
        exact ⟨rfl, JD⟩
      · go_wp2_with fail
        refine (cmp_n M HM4.out _ _ y x 0 (by rw [cmpQ_swap, HCC.out]; try rfl) _ (NY.out.mono HX4.out) (NX.out.mono HX4.out) BV.out BU.out).mono ?_
        rintro e wa ⟨rfl, ja⟩
        have JA := Lib.hid (ext_trans HX4.out ja)
        clear ja p0 p1 p2 q0 q1 q2 s0_ s1 s2
        obtain ⟨p0, p1, p2, q0, q1, q2, s0_, s1, s2⟩ := HC.out _ JA.out
        go_wp2_with fail
        refine (sub_q M HM4.out _ _ x y _ (NX.out.mono JA.out) (NY.out.mono JA.out) BU.out BV.out).mono ?_
        rintro e wb ⟨vb, rfl, hb, jb⟩
        obtain ⟨b90, A90, k90, ca90, B90, l90, cb90, rfl⟩ := hb.form2
        have HB := Lib.hid hb
        have JB := Lib.hid (ext_trans JA.out jb)
        clear hb jb p0 p1 p2 q0 q1 q2 s0_ s1 s2
        obtain ⟨p0, p1, p2, q0, q1, q2, s0_, s1, s2⟩ := HC.out _ JB.out
        go_wp2_with fail
        refine (sign_q' _ (x - y) _ 0 (by rw [cmpQ_sub]; exact HCC.out) HB.out).mono ?_
        rintro e wcc ⟨rfl, jc⟩
        have JC := Lib.hid (ext_trans JB.out jc)
        clear jc p0 p1 p2 q0 q1 q2 s0_ s1 s2
        obtain ⟨p0, p1, p2, q0, q1, q2, s0_, s1, s2⟩ := HC.out _ JC.out
        go_wp2_with fail
        go_meet
        exact ⟨rfl, JC⟩
      · go_wp2_with fail
        refine (cmp_n M HM4.out _ _ y x (-1) (by rw [cmpQ_swap, HCC.out]; try rfl) _ (NY.out.mono HX4.out) (NX.out.mono HX4.out) BV.out BU.out).mono ?_
        rintro e wa ⟨rfl, ja⟩
        have JA := Lib.hid (ext_trans HX4.out ja)
        clear ja p0 p1 p2 q0 q1 q2 s0_ s1 s2
        obtain ⟨p0, p1, p2, q0, q1, q2, s0_, s1, s2⟩ := HC.out _ JA.out
        go_wp2_with fail
        refine (sub_q M HM4.out _ _ x y _ (NX.out.mono JA.out) (NY.out.mono JA.out) BU.out BV.out).mono ?_
        rintro e wb ⟨vb, rfl, hb, jb⟩
        obtain ⟨b90, A90, k90, ca90, B90, l90, cb90, rfl⟩ := hb.form2
        have HB := Lib.hid hb
        have JB := Lib.hid (ext_trans JA.out jb)
        clear hb jb p0 p1 p2 q0 q1 q2 s0_ s1 s2
        obtain ⟨p0, p1, p2, q0, q1, q2, s0_, s1, s2⟩ := HC.out _ JB.out
        go_wp2_with fail
        refine (sign_q' _ (x - y) _ 1 (by rw [cmpQ_sub]; exact HCC.out) HB.out).mono ?_
        rintro e wcc ⟨rfl, jc⟩
        have JC := Lib.hid (ext_trans JB.out jc)
        clear jc p0 p1 p2 q0 q1 q2 s0_ s1 s2
        obtain ⟨p0, p1, p2, q0, q1, q2, s0_, s1, s2⟩ := HC.out _ JC.out
        go_wp2_with fail
        go_meet
        exact ⟨rfl, JC⟩
      · go_wp2_with fail
        refine (cmp_n M HM4.out _ _ y x (-1) (by rw [cmpQ_swap, HCC.out]; try rfl) _ (NY.out.mono HX4.out) (NX.out.mono HX4.out) BV.out BU.out).mono ?_
        rintro e wa ⟨rfl, ja⟩
        have JA := Lib.hid (ext_trans HX4.out ja)
        clear ja p0 p1 p2 q0 q1 q2 s0_ s1 s2
        obtain ⟨p0, p1, p2, q0, q1, q2, s0_, s1, s2⟩ := HC.out _ JA.out
        go_wp2_with fail
        refine (sub_q M HM4.out _ _ x y _ (NX.out.mono JA.out) (NY.out.mono JA.out) BU.out BV.out).mono ?_
        rintro e wb ⟨vb, rfl, hb, jb⟩
        obtain ⟨b90, A90, k90, ca90, B90, l90, cb90, rfl⟩ := hb.form2
        have HB := Lib.hid hb
        have JB := Lib.hid (ext_trans JA.out jb)
        clear hb jb p0 p1 p2 q0 q1 q2 s0_ s1 s2
        obtain ⟨p0, p1, p2, q0, q1, q2, s0_, s1, s2⟩ := HC.out _ JB.out
        go_wp2_with fail
        refine (sign_q' _ (x - y) _ 1 (by rw [cmpQ_sub]; exact HCC.out) HB.out).mono ?_
        rintro e wcc ⟨rfl, jc⟩
        have JC := Lib.hid (ext_trans JB.out jc)
        clear jc p0 p1 p2 q0 q1 q2 s0_ s1 s2
        obtain ⟨p0, p1, p2, q0, q1, q2, s0_, s1, s2⟩ := HC.out _ JC.out
        go_wp2_with fail
        go_meet
        exact ⟨rfl, JC⟩
      · go_wp2_with fail
        refine (cmp_n M HM4.out _ _ y x (-1) (by rw [cmpQ_swap, HCC.out]; try rfl) _ (NY.out.mono HX4.out) (NX.out.mono HX4.out) BV.out BU.out).mono ?_
        rintro e wa ⟨rfl, ja⟩
        have JA := Lib.hid (ext_trans HX4.out ja)
        clear ja p0 p1 p2 q0 q1 q2 s0_ s1 s2
        obtain ⟨p0, p1, p2, q0, q1, q2, s0_, s1, s2⟩ := HC.out _ JA.out
        go_wp2_with fail
        refine (sub_q M HM4.out _ _ x y _ (NX.out.mono JA.out) (NY.out.mono JA.out) BU.out BV.out).mono ?_
        rintro e wb ⟨vb, rfl, hb, jb⟩
        obtain ⟨b90, A90, k90, ca90, B90, l90, cb90, rfl⟩ := hb.form2
        have HB := Lib.hid hb
        have JB := Lib.hid (ext_trans JA.out jb)
        clear hb jb p0 p1 p2 q0 q1 q2 s0_ s1 s2
        obtain ⟨p0, p1, p2, q0, q1, q2, s0_, s1, s2⟩ := HC.out _ JB.out
        go_wp2_with fail
        refine (sign_q' _ (x - y) _ 1 (by rw [cmpQ_sub]; exact HCC.out) HB.out).mono ?_
        rintro e wcc ⟨rfl, jc⟩
        have JC := Lib.hid (ext_trans JB.out jc)
        clear jc p0 p1 p2 q0 q1 q2 s0_ s1 s2
        obtain ⟨p0, p1, p2, q0, q1, q2, s0_, s1, s2⟩ := HC.out _ JC.out
        go_wp2_with fail
        go_meet
        exact ⟨rfl, JC⟩
    case rest =>
      obtain ⟨rfl, HX5⟩ := hcut
      clear hww HW2 HX4 hx0 hx1 hx2 hx3 e1 e2 e3
      have hww := HX5
      have HW2 := HX5
      have hw7 := HW7.out
      have hk9 := HL9.out
      go_upto_region 7 with (fail)
      have hx0 := Lib.hid (ext_refl wc)
      have hS0 := HC.out _ (ext_trans HW2.out hx0.out)
      have e1 := Lib.hid (ext_drew wc)
      have hx1 := Lib.hid (ext_trans hx0.out e1.out)
      go_region_held3 (fun W => W.cell? ⟨g1, 0, none⟩ = some (.bool b1) ∧ W.cell? ⟨g1, 1, none⟩ = some (.slice A1 k1 ca1) ∧ W.cell? ⟨g1, 2, none⟩ = some (.slice B1 l1 cb1) ∧ W.cell? ⟨g1 + 1, 0, none⟩ = some (.bool b2) ∧ W.cell? ⟨g1 + 1, 1, none⟩ = some (.slice A2 k2 ca2) ∧ W.cell? ⟨g1 + 1, 2, none⟩ = some (.slice B2 l2 cb2) ∧ W.cell? ⟨g1 + 1 + 1, 0, none⟩ = some (.bool b3) ∧ W.cell? ⟨g1 + 1 + 1, 1, none⟩ = some (.slice A3 k3 ca3) ∧ W.cell? ⟨g1 + 1 + 1, 2, none⟩ = some (.slice B3 l3 cb3))
        (first
          | exact HC.out _ (ext_trans HW2.out hx8.out)
          | exact HC.out _ (ext_trans HW2.out hx7.out)
          | exact HC.out _ (ext_trans HW2.out hx6.out)
          | exact HC.out _ (ext_trans HW2.out hx5.out)
          | exact HC.out _ (ext_trans HW2.out hx4.out)
          | exact HC.out _ (ext_trans HW2.out hx3.out)
          | exact HC.out _ (ext_trans HW2.out hx2.out)
          | exact HC.out _ (ext_trans HW2.out hx1.out))
        (first
          | (have _q := hx7
             go_at_call 52
             refine (sign_q' _ (z) _ (s0) HSS.out (NZ.out.mono (ext_trans hww.out hx7.out))).mono ?_
             clear _q
             rintro e w11 ⟨rfl, k8⟩
             have e8 := Lib.hid k8
             have hx8 := Lib.hid (ext_trans hx7.out k8)
             clear k8)
          | (have _q := hx6
             go_at_call 45
             refine (cmp_n M HM4.out _ _ (x * z) (y * z) (c * s0) H8.out _ (H5.out.mono e6.out) H6.out BB5.out BB4.out).mono ?_
             clear _q
             rintro e w10 ⟨rfl, k7⟩
             have e7 := Lib.hid k7
             have hx7 := Lib.hid (ext_trans hx6.out k7)
             clear k7)
          | (have _q := hx5
             go_at_call 29
             refine (mul_q M HM4.out _ _ (y) (z) _ (NY.out.mono (ext_trans hww.out hx5.out)) (NZ.out.mono (ext_trans hww.out hx5.out)) BV.out BX.out).mono ?_
             clear _q
             rintro e w9 ⟨vv, rfl, h6, k6⟩
             obtain ⟨b106, P106, p106, c106, Q106, q106, d106, rfl⟩ := h6.form2
             have H6 := Lib.hid h6
             clear h6
             have e6 := Lib.hid k6
             have hx6 := Lib.hid (ext_trans hx5.out k6)
             clear k6)
          | (have _q := hx4
             go_at_call 29
             refine (mul_q M HM4.out _ _ (x) (z) _ (NX.out.mono (ext_trans hww.out hx4.out)) (NZ.out.mono (ext_trans hww.out hx4.out)) BU.out BX.out).mono ?_
             clear _q
             rintro e w8 ⟨vv, rfl, h5, k5⟩
             obtain ⟨b105, P105, p105, c105, Q105, q105, d105, rfl⟩ := h5.form2
             have H5 := Lib.hid h5
             clear h5
             have e5 := Lib.hid k5
             have hx5 := Lib.hid (ext_trans hx4.out k5)
             clear k5)
          | (have _q := hx3
             go_at_call 45
             refine (cmp_n M HM4.out _ _ (x + z) (y + z) (c) H7.out _ (H2.out.mono e3.out) H3.out BB7.out BB2.out).mono ?_
             clear _q
             rintro e w7 ⟨rfl, k4⟩
             have e4 := Lib.hid k4
             have hx4 := Lib.hid (ext_trans hx3.out k4)
             clear k4)
          | (have _q := hx2
             go_at_call 50
             refine (add_q M HM4.out _ _ (y) (z) _ (NY.out.mono (ext_trans hww.out hx2.out)) (NZ.out.mono (ext_trans hww.out hx2.out)) BV.out BX.out).mono ?_
             clear _q
             rintro e w6 ⟨vv, rfl, h3, k3⟩
             obtain ⟨b103, P103, p103, c103, Q103, q103, d103, rfl⟩ := h3.form2
             have H3 := Lib.hid h3
             clear h3
             have e3 := Lib.hid k3
             have hx3 := Lib.hid (ext_trans hx2.out k3)
             clear k3)
          | (have _q := hx1
             go_at_call 50
             refine (add_q M HM4.out _ _ (x) (z) _ (NX.out.mono (ext_trans hww.out hx1.out)) (NZ.out.mono (ext_trans hww.out hx1.out)) BU.out BX.out).mono ?_
             clear _q
             rintro e w5 ⟨vv, rfl, h2, k2⟩
             obtain ⟨b102, P102, p102, c102, Q102, q102, d102, rfl⟩ := h2.form2
             have H2 := Lib.hid h2
             clear h2
             have e2 := Lib.hid k2
             have hx2 := Lib.hid (ext_trans hx1.out k2)
             clear k2))
      go_upto_region 9 with (fail)
      have hS8 := HC.out _ (ext_trans HW2.out hx8.out)
      have e9 := Lib.hid (ext_drew w11)
      have hx9 := Lib.hid (ext_trans hx8.out e9.out)
      go_region_held3 (fun W => W.cell? ⟨g1, 0, none⟩ = some (.bool b1) ∧ W.cell? ⟨g1, 1, none⟩ = some (.slice A1 k1 ca1) ∧ W.cell? ⟨g1, 2, none⟩ = some (.slice B1 l1 cb1) ∧ W.cell? ⟨g1 + 1, 0, none⟩ = some (.bool b2) ∧ W.cell? ⟨g1 + 1, 1, none⟩ = some (.slice A2 k2 ca2) ∧ W.cell? ⟨g1 + 1, 2, none⟩ = some (.slice B2 l2 cb2) ∧ W.cell? ⟨g1 + 1 + 1, 0, none⟩ = some (.bool b3) ∧ W.cell? ⟨g1 + 1 + 1, 1, none⟩ = some (.slice A3 k3 ca3) ∧ W.cell? ⟨g1 + 1 + 1, 2, none⟩ = some (.slice B3 l3 cb3))
        (first
          | exact HC.out _ (ext_trans HW2.out hx18.out)
          | exact HC.out _ (ext_trans HW2.out hx17.out)
          | exact HC.out _ (ext_trans HW2.out hx16.out)
          | exact HC.out _ (ext_trans HW2.out hx15.out)
          | exact HC.out _ (ext_trans HW2.out hx14.out)
          | exact HC.out _ (ext_trans HW2.out hx13.out)
          | exact HC.out _ (ext_trans HW2.out hx12.out)
          | exact HC.out _ (ext_trans HW2.out hx11.out)
          | exact HC.out _ (ext_trans HW2.out hx10.out)
          | exact HC.out _ (ext_trans HW2.out hx9.out))
        (first
          | (have _q := hx17
             go_at_call 19
             refine (awake_c _ (TB.out.mono (ext_trans hww.out hx17.out))).mono ?_
             clear _q
             rintro e w21 ⟨rfl, k18⟩
             have e18 := Lib.hid k18
             have hx18 := Lib.hid (ext_trans hx17.out k18)
             clear k18)
          | (have _q := hx16
             go_at_call 45
             refine (cmp_n M HM4.out _ _ (minQ x y) (maxQ x y) (k9) HK9.out _ (H15.out.mono e16.out) H16.out BMN.out BMX.out).mono ?_
             clear _q
             rintro e w20 ⟨rfl, k17⟩
             have e17 := Lib.hid k17
             have hx17 := Lib.hid (ext_trans hx16.out k17)
             clear k17)
          | (have _q := hx15
             go_at_call 61
             refine (max_q M HM4.out _ _ (x) (y) _ (NX.out.mono (ext_trans hww.out hx15.out)) (NY.out.mono (ext_trans hww.out hx15.out)) BU.out BV.out).mono ?_
             clear _q
             rintro e w19 ⟨vv, rfl, h16, k16⟩
             obtain ⟨b116, P116, p116, c116, Q116, q116, d116, rfl⟩ := h16.form2
             have H16 := Lib.hid h16
             clear h16
             have e16 := Lib.hid k16
             have hx16 := Lib.hid (ext_trans hx15.out k16)
             clear k16)
          | (have _q := hx14
             go_at_call 59
             refine (min_q M HM4.out _ _ (x) (y) _ (NX.out.mono (ext_trans hww.out hx14.out)) (NY.out.mono (ext_trans hww.out hx14.out)) BU.out BV.out).mono ?_
             clear _q
             rintro e w18 ⟨vv, rfl, h15, k15⟩
             obtain ⟨b115, P115, p115, c115, Q115, q115, d115, rfl⟩ := h15.form2
             have H15 := Lib.hid h15
             clear h15
             have e15 := Lib.hid k15
             have hx15 := Lib.hid (ext_trans hx14.out k15)
             clear k15)
          | (have _q := hx13
             go_at_call 46
             refine (equal_yes M HM.out _ _ (x + y) _ (H12.out.mono e13.out) H13.out BS.out (TB.out.mono (ext_trans hww.out hx13.out))).mono ?_
             clear _q
             rintro e w17 ⟨rfl, k14⟩
             have e14 := Lib.hid k14
             have hx14 := Lib.hid (ext_trans hx13.out k14)
             clear k14)
          | (have _q := hx12
             go_at_call 50
             refine (add_q M HM4.out _ _ (x) (y) _ (NX.out.mono (ext_trans hww.out hx12.out)) (NY.out.mono (ext_trans hww.out hx12.out)) BU.out BV.out).mono ?_
             clear _q
             rintro e w16 ⟨vv, rfl, h13, k13⟩
             obtain ⟨b113, P113, p113, c113, Q113, q113, d113, rfl⟩ := h13.form2
             have H13 := Lib.hid h13
             clear h13
             have e13 := Lib.hid k13
             have hx13 := Lib.hid (ext_trans hx12.out k13)
             clear k13)
          | (have _q := hx11
             go_at_call 50
             refine (add_q M HM4.out _ _ (minQ x y) (maxQ x y) _ (H10.out.mono e11.out) H11.out BMN.out BMX.out).mono ?_
             clear _q
             rintro e w15 ⟨vv, rfl, h12, k12⟩
             rw [HMM.out] at h12
             obtain ⟨b112, P112, p112, c112, Q112, q112, d112, rfl⟩ := h12.form2
             have H12 := Lib.hid h12
             clear h12
             have e12 := Lib.hid k12
             have hx12 := Lib.hid (ext_trans hx11.out k12)
             clear k12)
          | (have _q := hx10
             go_at_call 61
             refine (max_q M HM4.out _ _ (x) (y) _ (NX.out.mono (ext_trans hww.out hx10.out)) (NY.out.mono (ext_trans hww.out hx10.out)) BU.out BV.out).mono ?_
             clear _q
             rintro e w14 ⟨vv, rfl, h11, k11⟩
             obtain ⟨b111, P111, p111, c111, Q111, q111, d111, rfl⟩ := h11.form2
             have H11 := Lib.hid h11
             clear h11
             have e11 := Lib.hid k11
             have hx11 := Lib.hid (ext_trans hx10.out k11)
             clear k11)
          | (have _q := hx9
             go_at_call 59
             refine (min_q M HM4.out _ _ (x) (y) _ (NX.out.mono (ext_trans hww.out hx9.out)) (NY.out.mono (ext_trans hww.out hx9.out)) BU.out BV.out).mono ?_
             clear _q
             rintro e w13 ⟨vv, rfl, h10, k10⟩
             obtain ⟨b110, P110, p110, c110, Q110, q110, d110, rfl⟩ := h10.form2
             have H10 := Lib.hid h10
             clear h10
             have e10 := Lib.hid k10
             have hx10 := Lib.hid (ext_trans hx9.out k10)
             clear k10))
      all_goals
        go_wp2_with fail
        go_ret
        exact ⟨rfl, ext_trans E1.out (ext_trans hww.out hx18.out)⟩
end Go.Proofs.YtpgdefgdboijlaaGreatDoor
