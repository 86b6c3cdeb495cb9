/- The law of texts: the walk. Printed by gen_lt.py. -/
import Derived.Test.YtpgdefgdboijlaaGreatDoorLw
import Derived.Test.YtpgdefgdboijlaaGreatDoorLo
import Derived.Test.YtpgdefgdboijlaaGreatDoorTx
import Derived.Test.YtpgdefgdboijlaaGreatDoorPt
import Derived.Test.YtpgdefgdboijlaaGreatDoorVd
import Derived.Deep.DeepCutAuto
import Derived.Deep.RegionHeld3
namespace Go.Proofs.YtpgdefgdboijlaaGreatDoor
open Go.RowKit
set_option linter.unusedVariables false
section
variable {P : Program} {md : Region.Mode} {ops : Array Oper} {Q : Exit → Act → World → Prop} {S : World → Prop}
theorem take_at {i : Nat} (d : Tmp) {oi : Oper} {v : Value} {fuel : Nat} {listed : Array Bool} {a : Act} {w : World} (hi : ops[i]? = some oi) (hd : oi.dst = some d)
    (hs : Region.noSelect ops = true) (hf : Region.free md ops listed i = true) (hr : (Region.ready md ops listed).contains i = true)
    (hQ : ∀ c a w, Q (.panic c) (a.put (some d) v) w → Q (.panic c) a w) (hy : YieldsIf P ops S oi v a) (hS : S w)
    (h : wpAnyH P md ops Q S fuel (listed.setIfInBounds i true) (a.put (some d) v) w) : wpAnyH P md ops Q S (fuel + 1) listed a w := by
  rw [← hd] at hQ h; exact wpAnyH_take hi hs hf hr hQ hy hS h
theorem call_at {fuel : Nat} {listed : Array Bool} {a : Act} {w : World} {i : Nat} (d : Tmp) {o : Oper} (ho : ops[i]? = some o) (hd : o.dst = some d)
    (hr : Region.ready md ops listed = [i])
    (h : ∀ K' : Act → World → Prop, Shut (∀ a w, S w → (S w → wpAnyH P md ops Q S fuel (listed.setIfInBounds i true) a w) → K' a w) → if Region.wanted o (yielded ops a.tmps) = true then Oper.wp P o a w K' Q else K' (a.put (some d) undef) w) :
    wpAnyH P md ops Q S (fuel + 1) listed a w := by
  rw [← hd] at h; exact wpAnyH_ready hr (by simp) (AllReadyH.cons ho h AllReadyH.nil)
end
theorem digits_d (M : Nat) (hM : M ≤ 1099511627776) (vx : Value) (x : Rat) (d : Int) (hd : d = max ((Lib.decDigits x.num.natAbs).length : Int) ((Lib.decDigits x.den).length : Int)) (w : World) (hx : Nm w vx x) (bx : Bq M x) (htab : Tens w) :
    Calls Tryz.prog 43 #[vx] w fun e w' => e = .returned (.int .i64 d) ∧ Ext w w' := by
  subst hd; exact digits_q M hM vx x w hx bx htab
theorem txt_len {M : Nat} {q : Rat} (h : Bq M q) : (txt q).length ≤ 2 * M + 5 := by
  have h1 := dec_len h.1
  have h2 := dec_len h.2
  unfold txt
  simp only [List.length_append]
  split <;> split <;> first | omega | (simp; done) | (simp; omega)
theorem show_len {M : Nat} {q : Rat} (h : Bq M q) : (showS q).length ≤ 2 * M + 405 := by
  have h1 := txt_len h
  unfold showS
  split
  · first | omega | (simp; done) | (simp; omega)
  · dsimp only
    split
    · omega
    · rename_i hn
      have hp : (pickP (absQ q) ([102], -15) pfxs.tail).1.length ≤ 1 := by
        have hm : pickP (absQ q) ([102], -15) pfxs.tail ∈ pfxs := by
          rcases pick_mem (absQ q) ([102], -15) pfxs.tail with e | e
          · rw [e]; simp [pfxs]
          · exact List.mem_of_mem_tail e
        generalize pickP (absQ q) ([102], -15) pfxs.tail = p at hm
        simp [pfxs] at hm
        rcases hm with h | h | h | h | h | h | h | h | h | h <;> rw [h] <;> simp
      generalize pickP (absQ q) ([102], -15) pfxs.tail = p at *
      generalize pointL 12 (tensQ (absQ q) (-p.2)) 0 = r at *
      generalize padS r.2 (Lib.decDigits r.1.num.natAbs) = s at *
      have hl : s.length ≤ 400 := by grind
      simp only [List.length_append]
      split <;> split <;> first | omega | (simp; done) | (simp; omega)
theorem long_digits (q : Rat) (d : Int) (hd : d = max ((Lib.decDigits q.num.natAbs).length : Int) ((Lib.decDigits q.den).length : Int)) :
    (longQ q → decide ((1000 : Int) < d) = true) ∧ (¬ longQ q → decide ((1000 : Int) < d) = false) := by
  have h1 : q.den = 1 → (Lib.decDigits q.den).length ≤ 1 := fun e => by
    rw [e]
    have := dec_len (n := 1) (M := 1) (by omega)
    have h2 : Lib.decDigits 1 = [49] := dec_natOf [49] (by decide) (by decide) (.inl (by decide))
    rw [h2]; simp
  unfold longQ
  constructor
  · intro h; rw [decide_eq_true_eq]; omega
  · intro h; rw [decide_eq_false_iff_not]; omega
theorem parse_both (q : Rat) (tt : List UInt8) (e : Int) (z : Rat) (ht : txt q = tt) (h1 : (parseS tt).1 = e) (h2 : (parseS tt).2 = z) : (longQ q ∧ e = 3) ∨ (¬ longQ q ∧ e = 0 ∧ q = z) := by
  have h := parse_txt q
  rw [ht] at h
  by_cases hl : longQ q
  · rw [if_pos hl] at h
    left; exact ⟨hl, by rw [← h1, h]⟩
  · rw [if_neg hl] at h
    right; exact ⟨hl, by rw [← h1, h], by rw [← h2, h]⟩
theorem read_err (l : List UInt8) : (readA l).1 = 0 ∨ (readA l).1 = 3 ∨ (readA l).1 = 6 := by
  unfold readA
  split
  · exact parse_err l
  · unfold readS
    dsimp only
    repeat' split
    all_goals first | (left; rfl) | (right; left; rfl) | (right; right; rfl)
theorem read_both (q : Rat) (ss tt : List UInt8) (f : Int) (u : Rat) (hs : showS q = ss) (ht : txt q = tt) (h1 : (readA ss).1 = f) (h2 : (readA ss).2 = u) :
    (ss = tt ∧ (f = 3 ∨ f = 6 ∨ (f = 0 ∧ q = u))) ∨ (ss ≠ tt ∧ f = 0 ∧ q = u ∧ decide ((47 : UInt8) ∈ ss) = false) := by
  by_cases he : ss = tt
  · left
    refine ⟨he, ?_⟩
    by_cases hf : f = 0
    · right; right
      exact ⟨hf, by rw [← h2, ← hs]; exact (read_show q (by rw [hs, h1, hf])).symm⟩
    · have := read_err ss
      rw [h1] at this
      rcases this with h | h | h
      · exact absurd h hf
      · exact .inl h
      · exact .inr (.inl h)
  · right
    rcases show_cases q with e | ⟨k1, k2⟩
    · exact absurd (by rw [← hs, ← ht, e]) he
    · rw [hs] at k1 k2
      exact ⟨he, by rw [← h1, k2], by rw [← h2, k2], by rw [decide_eq_false_iff_not]; exact k1⟩
set_option maxRecDepth 100000 in
set_option maxHeartbeats 8000000 in
theorem texts_c (u v : List UInt8) (hu : u.length ≤ 9223372036854775807) (hv : v.length ≤ 9223372036854775807) (w : World) (ht : Tab w) :
    Calls Tryz.prog 10 #[.string ⟨u.toArray⟩, .string ⟨v.toArray⟩] w fun e w' => e = .returned (.bool true) ∧ Ext w w' := by
  have HT := Lib.hid ht
  clear ht
  obtain ⟨M, hM⟩ : ∃ M, M = 65536 := ⟨_, rfl⟩
  have HM := Lib.hid (show M ≤ 1073741824 by omega)
  have HM4 := Lib.hid (show M ≤ 1099511627776 by omega)
  have BU := Lib.hid ((parse_small u).mono (show 4001 ≤ M by omega))
  have BV := Lib.hid ((parse_small v).mono (show 4001 ≤ M by omega))
  have BXY := Lib.hid (((parse_small u).mul (parse_small v)).mono (show 4001 + 4001 ≤ M by omega))
  have BXX := Lib.hid (((parse_small u).mul (parse_small u)).mono (show 4001 + 4001 ≤ M by omega))
  have BXS := Lib.hid ((((parse_small u).mul (parse_small u)).sub (parse_small v)).mono (show 4001 + 4001 + 4001 + 1 ≤ M by omega))
  have PU := Lib.hid (parse_c u hu)
  have PV := Lib.hid (parse_c v hv)
  have HTU := Lib.hid (fun h => txt_parse u h)
  have HTV := Lib.hid (fun h => txt_parse v h)
  have HSI := Lib.hid (fun h k => show_inj u v h k)
  have pe1 := parse_err u
  have pe2 := parse_err v
  unfold ParseR at PU PV
  have HXY := Lib.hid (show u = v → (parseS u).2 = (parseS v).2 from fun h => by rw [h])
  generalize (parseS u).2 = x at *
  generalize (parseS v).2 = y at *
  generalize (parseS u).1 = eu at *
  generalize (parseS v).1 = ev at *
  clear hM hu hv
  go_enter Tryz.func10, Tryz.ntmps10
  go_wp2_with fail
  refine (PU.out _).mono ?_
  rintro e w1 ⟨v1, rfl, h1, j1⟩
  obtain ⟨b1, A1, k1, ca1, B1, l1, cb1, rfl⟩ := h1.form2
  have H1 := Lib.hid h1
  have J1 := Lib.hid j1
  clear h1 j1
  go_wp2_with fail
  refine (PV.out _).mono ?_
  rintro e w2 ⟨v2, rfl, h2, j2⟩
  obtain ⟨b2, A2, k2, ca2, B2, l2, cb2, rfl⟩ := h2.form2
  have H2 := Lib.hid h2
  have J2 := Lib.hid j2
  clear h2 j2 PU PV
  have KW := Lib.hid (ext_trans J1.out (ext_trans (ext_alloc w1 (.cells #[.bool b1, .slice A1 k1 ca1, .slice B1 l1 cb1] 25)) (ext_trans J2.out (ext_alloc w2 (.cells #[.bool b2, .slice A2 k2 ca2, .slice B2 l2 cb2] 25)))))
  by_cases hz1 : eu = 0
  rotate_left
  · have hb1 : (eu == 0) = false := by rw [beq_eq_false_iff_ne]; exact hz1
    clear hz1 pe1 pe2
    go_wp2_with fail
    refine (awake_c _ (HT.out.mono KW.out)).mono ?_
    rintro e w3 ⟨rfl, k3⟩
    go_wp2_with fail
    go_ret
    exact ⟨rfl, ext_trans KW.out k3⟩
  · subst hz1
    by_cases hz2 : ev = 0
    rotate_left
    · have hb2 : (ev == 0) = false := by rw [beq_eq_false_iff_ne]; exact hz2
      clear hz2 pe1 pe2
      go_wp2_with fail
      refine (awake_c _ (HT.out.mono KW.out)).mono ?_
      rintro e w3 ⟨rfl, k3⟩
      go_wp2_with fail
      go_ret
      exact ⟨rfl, ext_trans KW.out k3⟩
    · subst hz2
      clear pe1 pe2
      go_upto_region 5 with (fail)
      have R2 := Lib.hid (show (w2.alloc (.cells #[.bool b2, .slice A2 k2 ca2, .slice B2 l2 cb2] 25)).heap[w2.heap.size]? = some (.cells #[.bool b2, .slice A2 k2 ca2, .slice B2 l2 cb2] 25 (0, 0)) from heap_alloc_new _ _)
      have R1 := Lib.hid (show (w2.alloc (.cells #[.bool b2, .slice A2 k2 ca2, .slice B2 l2 cb2] 25)).heap[w1.heap.size]? = some (.cells #[.bool b1, .slice A1 k1 ca1, .slice B1 l1 cb1] 25 (0, 0)) from row3 (ext_trans J2.out (ext_alloc _ _)))
      have NX := Lib.hid (H1.out.mono (ext_trans (ext_alloc w1 (.cells #[.bool b1, .slice A1 k1 ca1, .slice B1 l1 cb1] 25)) (ext_trans J2.out (ext_alloc w2 (.cells #[.bool b2, .slice A2 k2 ca2, .slice B2 l2 cb2] 25)))))
      have NY := Lib.hid (H2.out.mono (ext_alloc w2 (.cells #[.bool b2, .slice A2 k2 ca2, .slice B2 l2 cb2] 25)))
      have TB := Lib.hid (HT.out.mono KW.out)
      clear H1 H2 J1 J2 HT
      generalize World.alloc w2 (.cells #[.bool b2, .slice A2 k2 ca2, .slice B2 l2 cb2] _) = WX at *
      generalize w1.heap.size = g1 at *
      generalize w2.heap.size = g2 at *
      have HC := Lib.hid (show ∀ W : World, Ext WX W → W.cell? ⟨g1, 0, none⟩ = some (.bool b1) ∧ W.cell? ⟨g1, 1, none⟩ = some (.slice A1 k1 ca1) ∧ W.cell? ⟨g1, 2, none⟩ = some (.slice B1 l1 cb1) ∧ W.cell? ⟨g2, 0, none⟩ = some (.bool b2) ∧ W.cell? ⟨g2, 1, none⟩ = some (.slice A2 k2 ca2) ∧ W.cell? ⟨g2, 2, none⟩ = some (.slice B2 l2 cb2) from fun W h => by
        obtain ⟨p0, p1, p2, -⟩ := row3_0 ((h.block _ (lt_of_block R1.out)).trans R1.out)
        obtain ⟨q0, q1, q2, -⟩ := row3_0 ((h.block _ (lt_of_block R2.out)).trans R2.out)
        exact ⟨p0, p1, p2, q0, q1, q2⟩)
      have HW2 := Lib.hid (ext_refl WX)
      have hww := Lib.hid (ext_refl WX)
      have hx0 := Lib.hid (ext_refl WX)
      go_cut [52] (fun r wx => r = .bool false ∧ Hid (Ext WX wx))
      case first =>
        by_cases huv : u = v
        · have hxy := HXY.out huv
          subst huv
          subst hxy
          obtain ⟨sx, hsx⟩ : ∃ l, showS x = l := ⟨_, rfl⟩
          have sxE := Lib.hid hsx
          clear hsx
          have hcz := Lib.hid ((cmpQ_zero x x).2 rfl)
          have hx0 := Lib.hid (ext_refl WX)
          have hS0 := HC.out _ (ext_trans HW2.out hx0.out)
          have e1 := Lib.hid (ext_drew WX)
          have hx1 := Lib.hid (ext_trans hx0.out e1.out)
          go_region_held3 (fun W => W.cell? ⟨g1, 0, none⟩ = some (.bool b1) ∧ W.cell? ⟨g1, 1, none⟩ = some (.slice A1 k1 ca1) ∧ W.cell? ⟨g1, 2, none⟩ = some (.slice B1 l1 cb1) ∧ W.cell? ⟨g2, 0, none⟩ = some (.bool b2) ∧ W.cell? ⟨g2, 1, none⟩ = some (.slice A2 k2 ca2) ∧ W.cell? ⟨g2, 2, none⟩ = some (.slice B2 l2 cb2))
            (first
              | exact HC.out _ (ext_trans HW2.out hx4.out)
              | exact HC.out _ (ext_trans HW2.out hx3.out)
              | exact HC.out _ (ext_trans HW2.out hx2.out)
              | exact HC.out _ (ext_trans HW2.out hx1.out))
            (first
              | (have _q := hx3
                 go_at_call 27
                 refine (show_lit M HM.out _ x sx sxE.out _ (NY.out.mono (ext_trans hww.out hx3.out)) BU.out (TB.out.mono (ext_trans hww.out hx3.out))).mono ?_
                 clear _q
                 rintro e w6 ⟨rfl, k4⟩
                 have e4 := Lib.hid k4
                 have hx4 := Lib.hid (ext_trans hx3.out k4)
                 clear k4)
              | (have _q := hx2
                 go_at_call 27
                 refine (show_lit M HM.out _ x sx sxE.out _ (NX.out.mono (ext_trans hww.out hx2.out)) BU.out (TB.out.mono (ext_trans hww.out hx2.out))).mono ?_
                 clear _q
                 rintro e w5 ⟨rfl, k3⟩
                 have e3 := Lib.hid k3
                 have hx3 := Lib.hid (ext_trans hx2.out k3)
                 clear k3)
              | (have _q := hx1
                 go_at_call 45
                 refine (cmp_n M HM4.out _ _ x x (0) hcz.out _ (NX.out.mono (ext_trans hww.out hx1.out)) (NY.out.mono (ext_trans hww.out hx1.out)) BU.out BU.out).mono ?_
                 clear _q
                 rintro e w4 ⟨rfl, k2⟩
                 have e2 := Lib.hid k2
                 have hx2 := Lib.hid (ext_trans hx1.out k2)
                 clear k2))
          all_goals
            go_wp2_with fail
            go_meet
            exact ⟨rfl, hx4⟩
        · obtain ⟨sx, hsx⟩ : ∃ l, showS x = l := ⟨_, rfl⟩
          obtain ⟨sy, hsy⟩ : ∃ l, showS y = l := ⟨_, rfl⟩
          have sxE := Lib.hid hsx
          have syE := Lib.hid hsy
          obtain ⟨c, hc⟩ : ∃ c, cmpQ x y = c := ⟨_, rfl⟩
          have HCC := Lib.hid hc
          have hcz : (c == 0) = false := by
            rw [beq_eq_false_iff_ne, ← hc]
            intro h0
            exact huv (by rw [← HTU.out (by trivial), ← HTV.out (by trivial), (cmpQ_zero x y).1 h0])
          have hs3 : (u == v) = false := by rw [beq_eq_false_iff_ne]; exact huv
          have hs4 : (sx == sy) = false := by rw [beq_eq_false_iff_ne]; exact fun h => huv (HSI.out (by trivial) (by trivial) (by rw [hsx, hsy, h]))
          clear hsx hsy hc huv
          have hx0 := Lib.hid (ext_refl WX)
          have hS0 := HC.out _ (ext_trans HW2.out hx0.out)
          have e1 := Lib.hid (ext_drew WX)
          have hx1 := Lib.hid (ext_trans hx0.out e1.out)
          go_region_held3 (fun W => W.cell? ⟨g1, 0, none⟩ = some (.bool b1) ∧ W.cell? ⟨g1, 1, none⟩ = some (.slice A1 k1 ca1) ∧ W.cell? ⟨g1, 2, none⟩ = some (.slice B1 l1 cb1) ∧ W.cell? ⟨g2, 0, none⟩ = some (.bool b2) ∧ W.cell? ⟨g2, 1, none⟩ = some (.slice A2 k2 ca2) ∧ W.cell? ⟨g2, 2, none⟩ = some (.slice B2 l2 cb2))
            (first
              | exact HC.out _ (ext_trans HW2.out hx4.out)
              | exact HC.out _ (ext_trans HW2.out hx3.out)
              | exact HC.out _ (ext_trans HW2.out hx2.out)
              | exact HC.out _ (ext_trans HW2.out hx1.out))
            (first
              | (have _q := hx3
                 go_at_call 27
                 refine (show_lit M HM.out _ y sy syE.out _ (NY.out.mono (ext_trans hww.out hx3.out)) BV.out (TB.out.mono (ext_trans hww.out hx3.out))).mono ?_
                 clear _q
                 rintro e w6 ⟨rfl, k4⟩
                 have e4 := Lib.hid k4
                 have hx4 := Lib.hid (ext_trans hx3.out k4)
                 clear k4)
              | (have _q := hx2
                 go_at_call 27
                 refine (show_lit M HM.out _ x sx sxE.out _ (NX.out.mono (ext_trans hww.out hx2.out)) BU.out (TB.out.mono (ext_trans hww.out hx2.out))).mono ?_
                 clear _q
                 rintro e w5 ⟨rfl, k3⟩
                 have e3 := Lib.hid k3
                 have hx3 := Lib.hid (ext_trans hx2.out k3)
                 clear k3)
              | (have _q := hx1
                 go_at_call 45
                 refine (cmp_n M HM4.out _ _ x y (c) HCC.out _ (NX.out.mono (ext_trans hww.out hx1.out)) (NY.out.mono (ext_trans hww.out hx1.out)) BU.out BV.out).mono ?_
                 clear _q
                 rintro e w4 ⟨rfl, k2⟩
                 have e2 := Lib.hid k2
                 have hx2 := Lib.hid (ext_trans hx1.out k2)
                 clear k2))
          all_goals
            go_wp2_with fail
            go_meet
            exact ⟨rfl, hx4⟩
      case rest =>
        obtain ⟨rfl, HX5⟩ := hcut
        clear hww HW2 hx0
        have hww := HX5
        have HW2 := HX5
        go_upto_region 7 with (fail)
        have hx0 := Lib.hid (ext_refl wc)
        have hS0 := HC.out _ (ext_trans HW2.out hx0.out)
        have e1 := Lib.hid (ext_drew wc)
        have hx1 := Lib.hid (ext_trans hx0.out e1.out)
        go_region_held3 (fun W => W.cell? ⟨g1, 0, none⟩ = some (.bool b1) ∧ W.cell? ⟨g1, 1, none⟩ = some (.slice A1 k1 ca1) ∧ W.cell? ⟨g1, 2, none⟩ = some (.slice B1 l1 cb1) ∧ W.cell? ⟨g2, 0, none⟩ = some (.bool b2) ∧ W.cell? ⟨g2, 1, none⟩ = some (.slice A2 k2 ca2) ∧ W.cell? ⟨g2, 2, none⟩ = some (.slice B2 l2 cb2))
          (first
            | exact HC.out _ (ext_trans HW2.out (ext_trans hx4.out (ext_alloc _ _)))
            | exact HC.out _ (ext_trans HW2.out hx4.out)
            | exact HC.out _ (ext_trans HW2.out hx3.out)
            | exact HC.out _ (ext_trans HW2.out hx2.out)
            | exact HC.out _ (ext_trans HW2.out hx1.out))
          (first
            | (have _q := hx3
               go_at_call 51
               refine (sub_q M HM4.out _ _ (x * x) y _ H3.out (NY.out.mono (ext_trans hww.out hx3.out)) BXX.out BV.out).mono ?_
               clear _q
               rintro e w6 ⟨vv, rfl, h4, k4⟩
               obtain ⟨b104, P104, p104, c104, Q104, q104, d104, rfl⟩ := h4.form2
               have H4 := Lib.hid h4
               clear h4
               have e4 := Lib.hid k4
               have hx4 := Lib.hid (ext_trans hx3.out k4)
               clear k4)
            | (have _q := hx2
               go_at_call 29
               refine (mul_q M HM4.out _ _ x x _ (NX.out.mono (ext_trans hww.out hx2.out)) (NX.out.mono (ext_trans hww.out hx2.out)) BU.out BU.out).mono ?_
               clear _q
               rintro e w5 ⟨vv, rfl, h3, k3⟩
               obtain ⟨b103, P103, p103, c103, Q103, q103, d103, rfl⟩ := h3.form2
               have H3 := Lib.hid h3
               clear h3
               have e3 := Lib.hid k3
               have hx3 := Lib.hid (ext_trans hx2.out k3)
               clear k3)
            | (have _q := hx1
               go_at_call 29
               refine (mul_q M HM4.out _ _ x y _ (NX.out.mono (ext_trans hww.out hx1.out)) (NY.out.mono (ext_trans hww.out hx1.out)) BU.out BV.out).mono ?_
               clear _q
               rintro e w4 ⟨vv, rfl, h2, k2⟩
               obtain ⟨b102, P102, p102, c102, Q102, q102, d102, rfl⟩ := h2.form2
               have H2 := Lib.hid h2
               clear h2
               have e2 := Lib.hid k2
               have hx2 := Lib.hid (ext_trans hx1.out k2)
               clear k2))
        go_wp2_with fail
        have EB := Lib.hid (ext_trans HX5.out (ext_trans hx4.out (ext_alloc w6 (.cells #[.bool b1, .slice A1 k1 ca1, .slice B1 l1 cb1, .bool b102, .slice P102 p102 c102, .slice Q102 q102 d102, .bool b104, .slice P104 p104 c104, .slice Q104 q104 d104] 25))))
        have RB := Lib.hid (show (World.alloc w6 (.cells #[.bool b1, .slice A1 k1 ca1, .slice B1 l1 cb1, .bool b102, .slice P102 p102 c102, .slice Q102 q102 d102, .bool b104, .slice P104 p104 c104, .slice Q104 q104 d104] 25)).heap[w6.heap.size]? = some (.cells #[.bool b1, .slice A1 k1 ca1, .slice B1 l1 cb1, .bool b102, .slice P102 p102 c102, .slice Q102 q102 d102, .bool b104, .slice P104 p104 c104, .slice Q104 q104 d104] 25 (0, 0)) from heap_alloc_new w6 _)
        have NQ0 := Lib.hid (show Nm (World.alloc w6 (.cells #[.bool b1, .slice A1 k1 ca1, .slice B1 l1 cb1, .bool b102, .slice P102 p102 c102, .slice Q102 q102 d102, .bool b104, .slice P104 p104 c104, .slice Q104 q104 d104] 25)) (.agg #[.bool b1, .slice A1 k1 ca1, .slice B1 l1 cb1]) x from NX.out.mono EB.out)
        have NQ1 := Lib.hid (show Nm (World.alloc w6 (.cells #[.bool b1, .slice A1 k1 ca1, .slice B1 l1 cb1, .bool b102, .slice P102 p102 c102, .slice Q102 q102 d102, .bool b104, .slice P104 p104 c104, .slice Q104 q104 d104] 25)) (.agg #[.bool b102, .slice P102 p102 c102, .slice Q102 q102 d102]) (x * y) from (H2.out.mono (ext_trans (ext_trans e3.out e4.out) (ext_alloc w6 (.cells #[.bool b1, .slice A1 k1 ca1, .slice B1 l1 cb1, .bool b102, .slice P102 p102 c102, .slice Q102 q102 d102, .bool b104, .slice P104 p104 c104, .slice Q104 q104 d104] 25)))))
        have NQ2 := Lib.hid (show Nm (World.alloc w6 (.cells #[.bool b1, .slice A1 k1 ca1, .slice B1 l1 cb1, .bool b102, .slice P102 p102 c102, .slice Q102 q102 d102, .bool b104, .slice P104 p104 c104, .slice Q104 q104 d104] 25)) (.agg #[.bool b104, .slice P104 p104 c104, .slice Q104 q104 d104]) (x * x - y) from (H4.out.mono (ext_alloc w6 (.cells #[.bool b1, .slice A1 k1 ca1, .slice B1 l1 cb1, .bool b102, .slice P102 p102 c102, .slice Q102 q102 d102, .bool b104, .slice P104 p104 c104, .slice Q104 q104 d104] 25))))
        have TBB := Lib.hid (TB.out.mono EB.out)
        clear TB
        generalize World.alloc w6 (.cells #[.bool b1, .slice A1 k1 ca1, .slice B1 l1 cb1, .bool b102, .slice P102 p102 c102, .slice Q102 q102 d102, .bool b104, .slice P104 p104 c104, .slice Q104 q104 d104] _) = WB at *
        generalize w6.heap.size = gB at *
        have HL := Lib.hid (show ∀ c : Nat, c < 3 → ∃ (q : Rat) (b : Bool) (A : Option Addr) (k ca : Nat) (B : Option Addr) (l cb : Nat), (∀ W : World, Ext WB W → W.cell? ⟨gB, c * 3, none⟩ = some (.bool b) ∧ W.cell? ⟨gB, c * 3 + 1, none⟩ = some (.slice A k ca) ∧ W.cell? ⟨gB, c * 3 + 2, none⟩ = some (.slice B l cb)) ∧ Nm WB (.agg #[.bool b, .slice A k ca, .slice B l cb]) q ∧ Bq M q from by
          intro c hc
          have key : ∀ (W : World), Ext WB W → ∀ (n : Nat) (v : Value), #[.bool b1, .slice A1 k1 ca1, .slice B1 l1 cb1, .bool b102, .slice P102 p102 c102, .slice Q102 q102 d102, .bool b104, .slice P104 p104 c104, .slice Q104 q104 d104][n]? = some v → W.cell? ⟨gB, n, none⟩ = some v := fun W h n v hv => by
            rw [cell_of_row W gB n _ _ _ ((h.block _ (lt_of_block RB.out)).trans RB.out)]; exact hv
          rcases (show c = 0 ∨ c = 1 ∨ c = 2 by omega) with rfl | rfl | rfl
          · exact ⟨_, _, _, _, _, _, _, _, fun W h => ⟨key W h 0 _ rfl, key W h 1 _ rfl, key W h 2 _ rfl⟩, NQ0.out, BU.out⟩
          · exact ⟨_, _, _, _, _, _, _, _, fun W h => ⟨key W h 3 _ rfl, key W h 4 _ rfl, key W h 5 _ rfl⟩, NQ1.out, BXY.out⟩
          · exact ⟨_, _, _, _, _, _, _, _, fun W h => ⟨key W h 6 _ rfl, key W h 7 _ rfl, key W h 8 _ rfl⟩, NQ2.out, BXS.out⟩)
        clear NQ0 NQ1 NQ2 RB
        clear hww HW2 HC NX NY
        go_loopg [10] 3 (fun k i wr => ∃ c : Nat, c + k = 3 ∧ i = .int .i64 (c : Int) ∧ Hid (Ext WB wr))
        case atStart => exact ⟨0, rfl, rfl, Lib.hid (ext_refl _)⟩
        case round =>
          obtain ⟨c, hc, rfl, HR⟩ := hrel
          rcases Nat.eq_zero_or_pos gk with hz | hz
          · have hcl : c = 3 := by omega
            subst hcl
            go_wp2_with fail
            refine (awake_c _ (TBB.out.mono HR.out)).mono ?_
            rintro e w3 ⟨rfl, k3⟩
            go_wp2_with fail
            go_ret
            exact ⟨rfl, ext_trans KW.out (ext_trans EB.out (ext_trans HR.out k3))⟩
          · have hlt : (c : Int) < 3 := by omega
            have hcl : c < 3 := by omega
            obtain ⟨q, b, A, k, ca, B, l, cb, hcq, hq, bq⟩ := HL.out c hcl
            have HCQ := Lib.hid hcq
            have HQ := Lib.hid hq
            have BQ := Lib.hid bq
            clear hcq hq bq
            obtain ⟨e0, e1, e2⟩ := HCQ.out _ HR.out
            obtain ⟨d, hd⟩ : ∃ d : Int, d = max ((Lib.decDigits q.num.natAbs).length : Int) ((Lib.decDigits q.den).length : Int) := ⟨_, rfl⟩
            have HDG := Lib.hid (long_digits q d hd)
            have HD := Lib.hid hd
            clear hd
            go_wp2_with fail
            refine (digits_d M HM4.out _ q d HD.out _ (HQ.out.mono HR.out) BQ.out (TBB.out.mono HR.out).2).mono ?_
            rintro e wd ⟨rfl, kd⟩
            obtain ⟨L, hL⟩ : ∃ L, decide ((1000 : Int) < d) = L := ⟨_, rfl⟩
            rw [hL] at HDG
            have HR1 := Lib.hid (ext_trans HR.out kd)
            clear kd e0 e1 e2
            obtain ⟨e0, e1, e2⟩ := HCQ.out _ HR1.out
            obtain ⟨tt, ht⟩ : ∃ l, txt q = l := ⟨_, rfl⟩
            have HTT := Lib.hid ht
            have HLT := Lib.hid (show tt.length ≤ 9223372036854775807 by have h1 := txt_len BQ.out; have h2 := HM.out; rw [ht] at h1; omega)
            clear ht
            go_wp2_with fail
            clear hL
            refine (text_lit M HM4.out _ q tt HTT.out _ (HQ.out.mono HR1.out) BQ.out (TBB.out.mono HR1.out).2).mono ?_
            rintro e wt ⟨rfl, kt⟩
            have HR2 := Lib.hid (ext_trans HR1.out kt)
            clear kt e0 e1 e2
            obtain ⟨ez, zz, hz1, hz2⟩ : ∃ ez zz, (parseS tt).1 = ez ∧ (parseS tt).2 = zz := ⟨_, _, rfl, rfl⟩
            have PT := Lib.hid (parse_c tt HLT.out wt)
            unfold ParseR at PT
            have HZZ := Lib.hid (parse_both q tt ez zz HTT.out hz1 hz2)
            rw [hz1, hz2] at PT
            clear hz1 hz2
            go_wp2_with fail
            refine PT.out.mono ?_
            rintro e wp ⟨v201, rfl, h201, kk201⟩
            obtain ⟨b201, A201, k201, ca201, B201, l201, cb201, rfl⟩ := h201.form2
            have NZ := Lib.hid h201
            have HR3 := Lib.hid (ext_trans HR2.out (ext_trans kk201 (ext_alloc wp (.cells #[.bool b201, .slice A201 k201 ca201, .slice B201 l201 cb201] 25))))
            clear h201 kk201 PT
            obtain ⟨e0, e1, e2⟩ := HCQ.out _ HR3.out
            obtain ⟨ss, hs⟩ : ∃ l, showS q = l := ⟨_, rfl⟩
            have HSS := Lib.hid hs
            have HLS := Lib.hid (show ss.length ≤ 9223372036854775807 by have h1 := show_len BQ.out; have h2 := HM.out; rw [hs] at h1; omega)
            clear hs
            go_wp2_with fail
            refine (show_lit M HM.out _ q ss HSS.out _ (HQ.out.mono HR3.out) BQ.out (TBB.out.mono HR3.out)).mono ?_
            rintro e ws ⟨rfl, ks⟩
            have HR4 := Lib.hid (ext_trans HR3.out ks)
            have RZ := Lib.hid (show ws.heap[wp.heap.size]? = some (.cells #[.bool b201, .slice A201 k201 ca201, .slice B201 l201 cb201] 25 (0, 0)) from row3 ks)
            have NZ4 := Lib.hid (NZ.out.mono (ext_trans (ext_alloc wp (.cells #[.bool b201, .slice A201 k201 ca201, .slice B201 l201 cb201] 25)) ks))
            clear ks e0 e1 e2 NZ
            obtain ⟨ef, uu, hf1, hf2⟩ : ∃ ef uu, (readA ss).1 = ef ∧ (readA ss).2 = uu := ⟨_, _, rfl, rfl⟩
            have PR := Lib.hid (read_c ss HLS.out ws (TBB.out.mono HR4.out).1)
            unfold ReadA at PR
            have HUU := Lib.hid (read_both q ss tt ef uu HSS.out HTT.out hf1 hf2)
            rw [hf1, hf2] at PR
            clear hf1 hf2
            go_wp2_with fail
            refine PR.out.mono ?_
            rintro e wu ⟨v202, rfl, h202, kk202⟩
            obtain ⟨b202, A202, k202, ca202, B202, l202, cb202, rfl⟩ := h202.form2
            have K2 := Lib.hid (ext_trans kk202 (ext_alloc wu (.cells #[.bool b202, .slice A202 k202 ca202, .slice B202 l202 cb202] 25)))
            have NU := Lib.hid (h202.mono (ext_alloc wu (.cells #[.bool b202, .slice A202 k202 ca202, .slice B202 l202 cb202] 25)))
            have NZ5 := Lib.hid (NZ4.out.mono K2.out)
            have HR5 := Lib.hid (ext_trans HR4.out K2.out)
            have RZ5 := Lib.hid ((K2.out.block _ (lt_of_block RZ.out)).trans RZ.out)
            have RU5 := Lib.hid (show (wu.alloc (.cells #[.bool b202, .slice A202 k202 ca202, .slice B202 l202 cb202] 25)).heap[wu.heap.size]? = some (.cells #[.bool b202, .slice A202 k202 ca202, .slice B202 l202 cb202] 25 (0, 0)) from heap_alloc_new _ _)
            clear h202 kk202 PR K2 NZ4 RZ
            go_upto_region 15 with (fail)
            generalize World.alloc wu (.cells #[.bool b202, .slice A202 k202 ca202, .slice B202 l202 cb202] _) = WR at *
            generalize wp.heap.size = gz at *
            generalize wu.heap.size = gu at *
            have HC := Lib.hid (show ∀ W : World, Ext WR W → W.cell? ⟨gz, 0, none⟩ = some (.bool b201) ∧ W.cell? ⟨gz, 1, none⟩ = some (.slice A201 k201 ca201) ∧ W.cell? ⟨gz, 2, none⟩ = some (.slice B201 l201 cb201) ∧ W.cell? ⟨gu, 0, none⟩ = some (.bool b202) ∧ W.cell? ⟨gu, 1, none⟩ = some (.slice A202 k202 ca202) ∧ W.cell? ⟨gu, 2, none⟩ = some (.slice B202 l202 cb202) ∧ W.cell? ⟨gB, c * 3, none⟩ = some (.bool b) ∧ W.cell? ⟨gB, c * 3 + 1, none⟩ = some (.slice A k ca) ∧ W.cell? ⟨gB, c * 3 + 2, none⟩ = some (.slice B l cb) from fun W h => by
              obtain ⟨p0, p1, p2, -⟩ := row3_0 ((h.block _ (lt_of_block RZ5.out)).trans RZ5.out)
              obtain ⟨q0, q1, q2, -⟩ := row3_0 ((h.block _ (lt_of_block RU5.out)).trans RU5.out)
              obtain ⟨s0, s1, s2⟩ := HCQ.out W (ext_trans HR5.out h)
              exact ⟨p0, p1, p2, q0, q1, q2, s0, s1, s2⟩)
            have HW2 := Lib.hid (ext_refl WR)
            have hww := Lib.hid (ext_refl WR)
            have NQ5 := Lib.hid (HQ.out.mono HR5.out)
            have TB5 := Lib.hid (TBB.out.mono HR5.out)
            clear HR HR1 HR2 HR3 HR4 HQ RZ5 RU5 HL
            have hx0 := Lib.hid (ext_refl WR)
            go_cut [114] (fun r wx => r = .bool false ∧ Hid (Ext WR wx))
            case first =>
              rcases HZZ.out with ⟨hq, h3⟩ | ⟨hq, h3, h4⟩
              · subst h3
                have hdl := HDG.out.1 hq
                subst hdl
                clear hq
                obtain ⟨z0, z1, z2, u0, u1, u2, s0, s1, s2⟩ := HC.out WR hx0.out
                go_big_region
                all_goals
                  go_wp2_with fail
                  go_meet
                  exact ⟨rfl, Lib.hid (ext_dr hx0.out)⟩
              · subst h3 h4
                have hdl := HDG.out.2 hq
                subst hdl
                clear hq
                clear HUU
                have hx0 := Lib.hid (ext_refl WR)
                have hS0 := HC.out _ (ext_trans HW2.out hx0.out)
                have e1 := Lib.hid (ext_drew WR)
                have hx1 := Lib.hid (ext_trans hx0.out e1.out)
                go_region_held3 (fun W => W.cell? ⟨gz, 0, none⟩ = some (.bool b201) ∧ W.cell? ⟨gz, 1, none⟩ = some (.slice A201 k201 ca201) ∧ W.cell? ⟨gz, 2, none⟩ = some (.slice B201 l201 cb201) ∧ W.cell? ⟨gu, 0, none⟩ = some (.bool b202) ∧ W.cell? ⟨gu, 1, none⟩ = some (.slice A202 k202 ca202) ∧ W.cell? ⟨gu, 2, none⟩ = some (.slice B202 l202 cb202) ∧ W.cell? ⟨gB, c * 3, none⟩ = some (.bool b) ∧ W.cell? ⟨gB, c * 3 + 1, none⟩ = some (.slice A k ca) ∧ W.cell? ⟨gB, c * 3 + 2, none⟩ = some (.slice B l cb))
                  (first
                    | exact HC.out _ (ext_trans HW2.out hx2.out)
                    | exact HC.out _ (ext_trans HW2.out hx1.out))
                  (first
                    | (have _q := hx1
                       go_at_call 46
                       refine (equal_yes M HM.out _ _ q _ (NZ5.out.mono (ext_trans hww.out hx1.out)) (NQ5.out.mono (ext_trans hww.out hx1.out)) BQ.out (TB5.out.mono (ext_trans hww.out hx1.out))).mono ?_
                       clear _q
                       rintro e we ⟨rfl, k2⟩
                       have e2 := Lib.hid k2
                       have hx2 := Lib.hid (ext_trans hx1.out k2)
                       clear k2))
                all_goals
                  go_wp2_with fail
                  go_meet
                  exact ⟨rfl, hx2⟩
            case rest =>
              obtain ⟨rfl, HX6⟩ := hcut
              rename World => W6
              clear hww HW2 hx0 HZZ HDG
              have hww := HX6
              have HW2 := HX6
              have hx0 := Lib.hid (ext_refl W6)
              have HSL := Lib.hid (slash_c ss HLS.out)
              go_upto_region 17 with (fail)
              go_cut [142] (fun r wx => r = .bool false ∧ Hid (Ext WR wx))
              case first =>
                rcases HUU.out with ⟨h1, h2 | h2 | ⟨h2, h3⟩⟩ | ⟨h1, h2, h3, h4⟩
                · subst h1 h2
                  clear HSL HUU
                  have hun : undef = .tuple #[] := rfl
                  refine wp_region_noPanic ?_
                  refine wp_region_held_drew (S := fun W => W.cell? ⟨gz, 0, none⟩ = some (.bool b201) ∧ W.cell? ⟨gz, 1, none⟩ = some (.slice A201 k201 ca201) ∧ W.cell? ⟨gz, 2, none⟩ = some (.slice B201 l201 cb201) ∧ W.cell? ⟨gu, 0, none⟩ = some (.bool b202) ∧ W.cell? ⟨gu, 1, none⟩ = some (.slice A202 k202 ca202) ∧ W.cell? ⟨gu, 2, none⟩ = some (.slice B202 l202 cb202) ∧ W.cell? ⟨gB, c * 3, none⟩ = some (.bool b) ∧ W.cell? ⟨gB, c * 3 + 1, none⟩ = some (.slice A k ca) ∧ W.cell? ⟨gB, c * 3 + 2, none⟩ = some (.slice B l cb)) (by kernel_rfl) (HC.out _ (ext_trans HW2.out (ext_drew _))) (fun hHeld => ?_)
                  refine take_at (i := 0) 115 (v := ?vv1_0) rfl rfl (by kernel_rfl) (by kernel_rfl) (by kernel_rfl) (fun _ _ _ h => h) (Or.inl ⟨rfl, ?hy1_0⟩) (by assumption) ?rr1_0
                  case hy1_0 => (intro w hSw; (try dsimp only at hSw); go_simp; try with_reducible rfl)
                  try simp only [Act.put, List.setIfInBounds_toArray, List.set_cons_zero, List.set_cons_succ]
                  refine take_at (i := 1) 116 (v := ?vv1_1) rfl rfl (by kernel_rfl) (by kernel_rfl) (by kernel_rfl) (fun _ _ _ h => h) (Or.inl ⟨rfl, ?hy1_1⟩) (by assumption) ?rr1_1
                  case hy1_1 => (intro w hSw; (try dsimp only at hSw); go_simp; try with_reducible rfl)
                  try simp only [Act.put, List.setIfInBounds_toArray, List.set_cons_zero, List.set_cons_succ]
                  refine take_at (i := 2) 117 (v := ?vv1_2) rfl rfl (by kernel_rfl) (by kernel_rfl) (by kernel_rfl) (fun _ _ _ h => h) (Or.inl ⟨rfl, ?hy1_2⟩) (by assumption) ?rr1_2
                  case hy1_2 => (intro w hSw; (try dsimp only at hSw); go_simp; try with_reducible rfl)
                  try simp only [Act.put, List.setIfInBounds_toArray, List.set_cons_zero, List.set_cons_succ]
                  refine take_at (i := 3) 118 (v := ?vv1_3) rfl rfl (by kernel_rfl) (by kernel_rfl) (by kernel_rfl) (fun _ _ _ h => h) (Or.inl ⟨rfl, ?hy1_3⟩) (by assumption) ?rr1_3
                  case hy1_3 => (intro w hSw; (try dsimp only at hSw); go_simp; try with_reducible rfl)
                  try simp only [Act.put, List.setIfInBounds_toArray, List.set_cons_zero, List.set_cons_succ]
                  refine take_at (i := 4) 119 (v := ?vv1_4) rfl rfl (by kernel_rfl) (by kernel_rfl) (by kernel_rfl) (fun _ _ _ h => h) (Or.inl ⟨rfl, ?hy1_4⟩) (by assumption) ?rr1_4
                  case hy1_4 => (intro w hSw; (try dsimp only at hSw); go_simp; try with_reducible rfl)
                  try simp only [Act.put, List.setIfInBounds_toArray, List.set_cons_zero, List.set_cons_succ]
                  refine call_at (i := 5) 120 rfl rfl (by kernel_rfl) (fun K hK => ?_)
                  go_simp
                  go_at_call 42
                  refine (text_lit M HM4.out _ q _ HTT.out _ (NQ5.out.mono (ext_trans hww.out (ext_drew _))) BQ.out (TB5.out.mono (ext_trans hww.out (ext_drew _))).2).mono ?_
                  rintro e wt ⟨rfl, kt⟩
                  have hx2 := Lib.hid (show Ext W6 wt from ext_trans (ext_drew _) kt)
                  clear kt
                  try go_wp2_with fail
                  refine hK.out _ _ (HC.out _ (ext_trans HW2.out hx2.out)) (fun hHeld => ?_)
                  clear hK K
                  try simp only [Act.put, List.setIfInBounds_toArray, List.set_cons_zero, List.set_cons_succ]
                  refine take_at (i := 6) 121 (v := ?vv1_6) rfl rfl (by kernel_rfl) (by kernel_rfl) (by kernel_rfl) (fun _ _ _ h => h) (Or.inl ⟨rfl, ?hy1_6⟩) (by assumption) ?rr1_6
                  case hy1_6 => (intro w hSw; (try dsimp only at hSw); go_simp; try with_reducible rfl)
                  try simp only [Act.put, List.setIfInBounds_toArray, List.set_cons_zero, List.set_cons_succ]
                  refine take_at (i := 7) 122 (v := ?vv1_7) rfl rfl (by kernel_rfl) (by kernel_rfl) (by kernel_rfl) (fun _ _ _ h => h) (Or.inl ⟨rfl, ?hy1_7⟩) (by assumption) ?rr1_7
                  case hy1_7 => (intro w hSw; (try dsimp only at hSw); go_simp; try with_reducible rfl)
                  try simp only [Act.put, List.setIfInBounds_toArray, List.set_cons_zero, List.set_cons_succ]
                  refine take_at (i := 8) 123 (v := undef) rfl rfl (by kernel_rfl) (by kernel_rfl) (by kernel_rfl) (fun _ _ _ h => h) (Or.inr ⟨rfl, rfl⟩) (by assumption) ?_
                  try simp only [Act.put, List.setIfInBounds_toArray, List.set_cons_zero, List.set_cons_succ]
                  refine take_at (i := 9) 124 (v := undef) rfl rfl (by kernel_rfl) (by kernel_rfl) (by kernel_rfl) (fun _ _ _ h => h) (Or.inr ⟨rfl, rfl⟩) (by assumption) ?_
                  try simp only [Act.put, List.setIfInBounds_toArray, List.set_cons_zero, List.set_cons_succ]
                  refine take_at (i := 10) 125 (v := undef) rfl rfl (by kernel_rfl) (by kernel_rfl) (by kernel_rfl) (fun _ _ _ h => h) (Or.inr ⟨rfl, rfl⟩) (by assumption) ?_
                  try simp only [Act.put, List.setIfInBounds_toArray, List.set_cons_zero, List.set_cons_succ]
                  refine take_at (i := 11) 126 (v := undef) rfl rfl (by kernel_rfl) (by kernel_rfl) (by kernel_rfl) (fun _ _ _ h => h) (Or.inr ⟨rfl, rfl⟩) (by assumption) ?_
                  try simp only [Act.put, List.setIfInBounds_toArray, List.set_cons_zero, List.set_cons_succ]
                  refine call_at (i := 12) 127 rfl rfl (by kernel_rfl) (fun K hK => ?_)
                  rw [if_neg (by exact Bool.false_ne_true)]
                  refine hK.out _ _ (by assumption) (fun hHeld => ?_)
                  clear hK K
                  try simp only [Act.put, List.setIfInBounds_toArray, List.set_cons_zero, List.set_cons_succ]
                  refine take_at (i := 13) 128 (v := undef) rfl rfl (by kernel_rfl) (by kernel_rfl) (by kernel_rfl) (fun _ _ _ h => h) (Or.inr ⟨rfl, rfl⟩) (by assumption) ?_
                  try simp only [Act.put, List.setIfInBounds_toArray, List.set_cons_zero, List.set_cons_succ]
                  refine take_at (i := 14) 129 (v := ?vv1_14) rfl rfl (by kernel_rfl) (by kernel_rfl) (by kernel_rfl) (fun _ _ _ h => h) (Or.inl ⟨rfl, ?hy1_14⟩) (by assumption) ?rr1_14
                  case hy1_14 => (intro w hSw; (try dsimp only at hSw); go_simp; try with_reducible rfl)
                  try simp only [Act.put, List.setIfInBounds_toArray, List.set_cons_zero, List.set_cons_succ]
                  refine take_at (i := 15) 130 (v := ?vv1_15) rfl rfl (by kernel_rfl) (by kernel_rfl) (by kernel_rfl) (fun _ _ _ h => h) (Or.inl ⟨rfl, ?hy1_15⟩) (by assumption) ?rr1_15
                  case hy1_15 => (intro w hSw; (try dsimp only at hSw); go_simp; try with_reducible rfl)
                  try simp only [Act.put, List.setIfInBounds_toArray, List.set_cons_zero, List.set_cons_succ]
                  refine take_at (i := 16) 131 (v := ?vv1_16) rfl rfl (by kernel_rfl) (by kernel_rfl) (by kernel_rfl) (fun _ _ _ h => h) (Or.inl ⟨rfl, ?hy1_16⟩) (by assumption) ?rr1_16
                  case hy1_16 => (intro w hSw; (try dsimp only at hSw); go_simp; try with_reducible rfl)
                  try simp only [Act.put, List.setIfInBounds_toArray, List.set_cons_zero, List.set_cons_succ]
                  refine take_at (i := 17) 132 (v := ?vv1_17) rfl rfl (by kernel_rfl) (by kernel_rfl) (by kernel_rfl) (fun _ _ _ h => h) (Or.inl ⟨rfl, ?hy1_17⟩) (by assumption) ?rr1_17
                  case hy1_17 => (intro w hSw; (try dsimp only at hSw); go_simp; try with_reducible rfl)
                  try simp only [Act.put, List.setIfInBounds_toArray, List.set_cons_zero, List.set_cons_succ]
                  refine take_at (i := 18) 133 (v := ?vv1_18) rfl rfl (by kernel_rfl) (by kernel_rfl) (by kernel_rfl) (fun _ _ _ h => h) (Or.inl ⟨rfl, ?hy1_18⟩) (by assumption) ?rr1_18
                  case hy1_18 => (intro w hSw; (try dsimp only at hSw); go_simp; try with_reducible rfl)
                  try simp only [Act.put, List.setIfInBounds_toArray, List.set_cons_zero, List.set_cons_succ]
                  refine take_at (i := 19) 134 (v := undef) rfl rfl (by kernel_rfl) (by kernel_rfl) (by kernel_rfl) (fun _ _ _ h => h) (Or.inr ⟨rfl, rfl⟩) (by assumption) ?_
                  try simp only [Act.put, List.setIfInBounds_toArray, List.set_cons_zero, List.set_cons_succ]
                  refine take_at (i := 20) 135 (v := undef) rfl rfl (by kernel_rfl) (by kernel_rfl) (by kernel_rfl) (fun _ _ _ h => h) (Or.inr ⟨rfl, rfl⟩) (by assumption) ?_
                  try simp only [Act.put, List.setIfInBounds_toArray, List.set_cons_zero, List.set_cons_succ]
                  refine take_at (i := 21) 136 (v := undef) rfl rfl (by kernel_rfl) (by kernel_rfl) (by kernel_rfl) (fun _ _ _ h => h) (Or.inr ⟨rfl, rfl⟩) (by assumption) ?_
                  try simp only [Act.put, List.setIfInBounds_toArray, List.set_cons_zero, List.set_cons_succ]
                  refine take_at (i := 22) 137 (v := undef) rfl rfl (by kernel_rfl) (by kernel_rfl) (by kernel_rfl) (fun _ _ _ h => h) (Or.inr ⟨rfl, rfl⟩) (by assumption) ?_
                  try simp only [Act.put, List.setIfInBounds_toArray, List.set_cons_zero, List.set_cons_succ]
                  refine take_at (i := 23) 138 (v := undef) rfl rfl (by kernel_rfl) (by kernel_rfl) (by kernel_rfl) (fun _ _ _ h => h) (Or.inr ⟨rfl, rfl⟩) (by assumption) ?_
                  try simp only [Act.put, List.setIfInBounds_toArray, List.set_cons_zero, List.set_cons_succ]
                  refine call_at (i := 24) 139 rfl rfl (by kernel_rfl) (fun K hK => ?_)
                  rw [if_neg (by exact Bool.false_ne_true)]
                  refine hK.out _ _ (by assumption) (fun hHeld => ?_)
                  clear hK K
                  try simp only [Act.put, List.setIfInBounds_toArray, List.set_cons_zero, List.set_cons_succ]
                  refine take_at (i := 25) 140 (v := undef) rfl rfl (by kernel_rfl) (by kernel_rfl) (by kernel_rfl) (fun _ _ _ h => h) (Or.inr ⟨rfl, rfl⟩) (by assumption) ?_
                  try simp only [Act.put, List.setIfInBounds_toArray, List.set_cons_zero, List.set_cons_succ]
                  refine take_at (i := 26) 141 (v := ?vv1_26) rfl rfl (by kernel_rfl) (by kernel_rfl) (by kernel_rfl) (fun _ _ _ h => h) (Or.inl ⟨rfl, ?hy1_26⟩) (by assumption) ?rr1_26
                  case hy1_26 => (intro w hSw; (try dsimp only at hSw); go_simp; try with_reducible rfl)
                  try simp only [Act.put, List.setIfInBounds_toArray, List.set_cons_zero, List.set_cons_succ]
                  refine take_at (i := 27) 142 (v := ?vv1_27) rfl rfl (by kernel_rfl) (by kernel_rfl) (by kernel_rfl) (fun _ _ _ h => h) (Or.inl ⟨rfl, ?hy1_27⟩) (by assumption) ?rr1_27
                  case hy1_27 => (intro w hSw; (try dsimp only at hSw); go_simp; try with_reducible rfl)
                  try simp only [Act.put, List.setIfInBounds_toArray, List.set_cons_zero, List.set_cons_succ]
                  refine wpAnyH_done (by kernel_rfl) ?_ _
                  refine NoPanic.normal ?_
                  go_wp2_with fail
                  go_meet
                  exact ⟨rfl, Lib.hid (ext_trans HX6.out hx2.out)⟩
                · subst h1 h2
                  clear HSL HUU
                  have hun : undef = .tuple #[] := rfl
                  refine wp_region_noPanic ?_
                  refine wp_region_held_drew (S := fun W => W.cell? ⟨gz, 0, none⟩ = some (.bool b201) ∧ W.cell? ⟨gz, 1, none⟩ = some (.slice A201 k201 ca201) ∧ W.cell? ⟨gz, 2, none⟩ = some (.slice B201 l201 cb201) ∧ W.cell? ⟨gu, 0, none⟩ = some (.bool b202) ∧ W.cell? ⟨gu, 1, none⟩ = some (.slice A202 k202 ca202) ∧ W.cell? ⟨gu, 2, none⟩ = some (.slice B202 l202 cb202) ∧ W.cell? ⟨gB, c * 3, none⟩ = some (.bool b) ∧ W.cell? ⟨gB, c * 3 + 1, none⟩ = some (.slice A k ca) ∧ W.cell? ⟨gB, c * 3 + 2, none⟩ = some (.slice B l cb)) (by kernel_rfl) (HC.out _ (ext_trans HW2.out (ext_drew _))) (fun hHeld => ?_)
                  refine take_at (i := 0) 115 (v := ?vv2_0) rfl rfl (by kernel_rfl) (by kernel_rfl) (by kernel_rfl) (fun _ _ _ h => h) (Or.inl ⟨rfl, ?hy2_0⟩) (by assumption) ?rr2_0
                  case hy2_0 => (intro w hSw; (try dsimp only at hSw); go_simp; try with_reducible rfl)
                  try simp only [Act.put, List.setIfInBounds_toArray, List.set_cons_zero, List.set_cons_succ]
                  refine take_at (i := 1) 116 (v := ?vv2_1) rfl rfl (by kernel_rfl) (by kernel_rfl) (by kernel_rfl) (fun _ _ _ h => h) (Or.inl ⟨rfl, ?hy2_1⟩) (by assumption) ?rr2_1
                  case hy2_1 => (intro w hSw; (try dsimp only at hSw); go_simp; try with_reducible rfl)
                  try simp only [Act.put, List.setIfInBounds_toArray, List.set_cons_zero, List.set_cons_succ]
                  refine take_at (i := 2) 117 (v := ?vv2_2) rfl rfl (by kernel_rfl) (by kernel_rfl) (by kernel_rfl) (fun _ _ _ h => h) (Or.inl ⟨rfl, ?hy2_2⟩) (by assumption) ?rr2_2
                  case hy2_2 => (intro w hSw; (try dsimp only at hSw); go_simp; try with_reducible rfl)
                  try simp only [Act.put, List.setIfInBounds_toArray, List.set_cons_zero, List.set_cons_succ]
                  refine take_at (i := 3) 118 (v := ?vv2_3) rfl rfl (by kernel_rfl) (by kernel_rfl) (by kernel_rfl) (fun _ _ _ h => h) (Or.inl ⟨rfl, ?hy2_3⟩) (by assumption) ?rr2_3
                  case hy2_3 => (intro w hSw; (try dsimp only at hSw); go_simp; try with_reducible rfl)
                  try simp only [Act.put, List.setIfInBounds_toArray, List.set_cons_zero, List.set_cons_succ]
                  refine take_at (i := 4) 119 (v := ?vv2_4) rfl rfl (by kernel_rfl) (by kernel_rfl) (by kernel_rfl) (fun _ _ _ h => h) (Or.inl ⟨rfl, ?hy2_4⟩) (by assumption) ?rr2_4
                  case hy2_4 => (intro w hSw; (try dsimp only at hSw); go_simp; try with_reducible rfl)
                  try simp only [Act.put, List.setIfInBounds_toArray, List.set_cons_zero, List.set_cons_succ]
                  refine call_at (i := 5) 120 rfl rfl (by kernel_rfl) (fun K hK => ?_)
                  go_simp
                  go_at_call 42
                  refine (text_lit M HM4.out _ q _ HTT.out _ (NQ5.out.mono (ext_trans hww.out (ext_drew _))) BQ.out (TB5.out.mono (ext_trans hww.out (ext_drew _))).2).mono ?_
                  rintro e wt ⟨rfl, kt⟩
                  have hx2 := Lib.hid (show Ext W6 wt from ext_trans (ext_drew _) kt)
                  clear kt
                  try go_wp2_with fail
                  refine hK.out _ _ (HC.out _ (ext_trans HW2.out hx2.out)) (fun hHeld => ?_)
                  clear hK K
                  try simp only [Act.put, List.setIfInBounds_toArray, List.set_cons_zero, List.set_cons_succ]
                  refine take_at (i := 6) 121 (v := ?vv2_6) rfl rfl (by kernel_rfl) (by kernel_rfl) (by kernel_rfl) (fun _ _ _ h => h) (Or.inl ⟨rfl, ?hy2_6⟩) (by assumption) ?rr2_6
                  case hy2_6 => (intro w hSw; (try dsimp only at hSw); go_simp; try with_reducible rfl)
                  try simp only [Act.put, List.setIfInBounds_toArray, List.set_cons_zero, List.set_cons_succ]
                  refine take_at (i := 7) 122 (v := ?vv2_7) rfl rfl (by kernel_rfl) (by kernel_rfl) (by kernel_rfl) (fun _ _ _ h => h) (Or.inl ⟨rfl, ?hy2_7⟩) (by assumption) ?rr2_7
                  case hy2_7 => (intro w hSw; (try dsimp only at hSw); go_simp; try with_reducible rfl)
                  try simp only [Act.put, List.setIfInBounds_toArray, List.set_cons_zero, List.set_cons_succ]
                  refine take_at (i := 8) 123 (v := undef) rfl rfl (by kernel_rfl) (by kernel_rfl) (by kernel_rfl) (fun _ _ _ h => h) (Or.inr ⟨rfl, rfl⟩) (by assumption) ?_
                  try simp only [Act.put, List.setIfInBounds_toArray, List.set_cons_zero, List.set_cons_succ]
                  refine take_at (i := 9) 124 (v := undef) rfl rfl (by kernel_rfl) (by kernel_rfl) (by kernel_rfl) (fun _ _ _ h => h) (Or.inr ⟨rfl, rfl⟩) (by assumption) ?_
                  try simp only [Act.put, List.setIfInBounds_toArray, List.set_cons_zero, List.set_cons_succ]
                  refine take_at (i := 10) 125 (v := undef) rfl rfl (by kernel_rfl) (by kernel_rfl) (by kernel_rfl) (fun _ _ _ h => h) (Or.inr ⟨rfl, rfl⟩) (by assumption) ?_
                  try simp only [Act.put, List.setIfInBounds_toArray, List.set_cons_zero, List.set_cons_succ]
                  refine take_at (i := 11) 126 (v := undef) rfl rfl (by kernel_rfl) (by kernel_rfl) (by kernel_rfl) (fun _ _ _ h => h) (Or.inr ⟨rfl, rfl⟩) (by assumption) ?_
                  try simp only [Act.put, List.setIfInBounds_toArray, List.set_cons_zero, List.set_cons_succ]
                  refine call_at (i := 12) 127 rfl rfl (by kernel_rfl) (fun K hK => ?_)
                  rw [if_neg (by exact Bool.false_ne_true)]
                  refine hK.out _ _ (by assumption) (fun hHeld => ?_)
                  clear hK K
                  try simp only [Act.put, List.setIfInBounds_toArray, List.set_cons_zero, List.set_cons_succ]
                  refine take_at (i := 13) 128 (v := undef) rfl rfl (by kernel_rfl) (by kernel_rfl) (by kernel_rfl) (fun _ _ _ h => h) (Or.inr ⟨rfl, rfl⟩) (by assumption) ?_
                  try simp only [Act.put, List.setIfInBounds_toArray, List.set_cons_zero, List.set_cons_succ]
                  refine take_at (i := 14) 129 (v := ?vv2_14) rfl rfl (by kernel_rfl) (by kernel_rfl) (by kernel_rfl) (fun _ _ _ h => h) (Or.inl ⟨rfl, ?hy2_14⟩) (by assumption) ?rr2_14
                  case hy2_14 => (intro w hSw; (try dsimp only at hSw); go_simp; try with_reducible rfl)
                  try simp only [Act.put, List.setIfInBounds_toArray, List.set_cons_zero, List.set_cons_succ]
                  refine take_at (i := 15) 130 (v := ?vv2_15) rfl rfl (by kernel_rfl) (by kernel_rfl) (by kernel_rfl) (fun _ _ _ h => h) (Or.inl ⟨rfl, ?hy2_15⟩) (by assumption) ?rr2_15
                  case hy2_15 => (intro w hSw; (try dsimp only at hSw); go_simp; try with_reducible rfl)
                  try simp only [Act.put, List.setIfInBounds_toArray, List.set_cons_zero, List.set_cons_succ]
                  refine take_at (i := 16) 131 (v := ?vv2_16) rfl rfl (by kernel_rfl) (by kernel_rfl) (by kernel_rfl) (fun _ _ _ h => h) (Or.inl ⟨rfl, ?hy2_16⟩) (by assumption) ?rr2_16
                  case hy2_16 => (intro w hSw; (try dsimp only at hSw); go_simp; try with_reducible rfl)
                  try simp only [Act.put, List.setIfInBounds_toArray, List.set_cons_zero, List.set_cons_succ]
                  refine take_at (i := 17) 132 (v := ?vv2_17) rfl rfl (by kernel_rfl) (by kernel_rfl) (by kernel_rfl) (fun _ _ _ h => h) (Or.inl ⟨rfl, ?hy2_17⟩) (by assumption) ?rr2_17
                  case hy2_17 => (intro w hSw; (try dsimp only at hSw); go_simp; try with_reducible rfl)
                  try simp only [Act.put, List.setIfInBounds_toArray, List.set_cons_zero, List.set_cons_succ]
                  refine take_at (i := 18) 133 (v := ?vv2_18) rfl rfl (by kernel_rfl) (by kernel_rfl) (by kernel_rfl) (fun _ _ _ h => h) (Or.inl ⟨rfl, ?hy2_18⟩) (by assumption) ?rr2_18
                  case hy2_18 => (intro w hSw; (try dsimp only at hSw); go_simp; try with_reducible rfl)
                  try simp only [Act.put, List.setIfInBounds_toArray, List.set_cons_zero, List.set_cons_succ]
                  refine take_at (i := 19) 134 (v := undef) rfl rfl (by kernel_rfl) (by kernel_rfl) (by kernel_rfl) (fun _ _ _ h => h) (Or.inr ⟨rfl, rfl⟩) (by assumption) ?_
                  try simp only [Act.put, List.setIfInBounds_toArray, List.set_cons_zero, List.set_cons_succ]
                  refine take_at (i := 20) 135 (v := undef) rfl rfl (by kernel_rfl) (by kernel_rfl) (by kernel_rfl) (fun _ _ _ h => h) (Or.inr ⟨rfl, rfl⟩) (by assumption) ?_
                  try simp only [Act.put, List.setIfInBounds_toArray, List.set_cons_zero, List.set_cons_succ]
                  refine take_at (i := 21) 136 (v := undef) rfl rfl (by kernel_rfl) (by kernel_rfl) (by kernel_rfl) (fun _ _ _ h => h) (Or.inr ⟨rfl, rfl⟩) (by assumption) ?_
                  try simp only [Act.put, List.setIfInBounds_toArray, List.set_cons_zero, List.set_cons_succ]
                  refine take_at (i := 22) 137 (v := undef) rfl rfl (by kernel_rfl) (by kernel_rfl) (by kernel_rfl) (fun _ _ _ h => h) (Or.inr ⟨rfl, rfl⟩) (by assumption) ?_
                  try simp only [Act.put, List.setIfInBounds_toArray, List.set_cons_zero, List.set_cons_succ]
                  refine take_at (i := 23) 138 (v := undef) rfl rfl (by kernel_rfl) (by kernel_rfl) (by kernel_rfl) (fun _ _ _ h => h) (Or.inr ⟨rfl, rfl⟩) (by assumption) ?_
                  try simp only [Act.put, List.setIfInBounds_toArray, List.set_cons_zero, List.set_cons_succ]
                  refine call_at (i := 24) 139 rfl rfl (by kernel_rfl) (fun K hK => ?_)
                  rw [if_neg (by exact Bool.false_ne_true)]
                  refine hK.out _ _ (by assumption) (fun hHeld => ?_)
                  clear hK K
                  try simp only [Act.put, List.setIfInBounds_toArray, List.set_cons_zero, List.set_cons_succ]
                  refine take_at (i := 25) 140 (v := undef) rfl rfl (by kernel_rfl) (by kernel_rfl) (by kernel_rfl) (fun _ _ _ h => h) (Or.inr ⟨rfl, rfl⟩) (by assumption) ?_
                  try simp only [Act.put, List.setIfInBounds_toArray, List.set_cons_zero, List.set_cons_succ]
                  refine take_at (i := 26) 141 (v := ?vv2_26) rfl rfl (by kernel_rfl) (by kernel_rfl) (by kernel_rfl) (fun _ _ _ h => h) (Or.inl ⟨rfl, ?hy2_26⟩) (by assumption) ?rr2_26
                  case hy2_26 => (intro w hSw; (try dsimp only at hSw); go_simp; try with_reducible rfl)
                  try simp only [Act.put, List.setIfInBounds_toArray, List.set_cons_zero, List.set_cons_succ]
                  refine take_at (i := 27) 142 (v := ?vv2_27) rfl rfl (by kernel_rfl) (by kernel_rfl) (by kernel_rfl) (fun _ _ _ h => h) (Or.inl ⟨rfl, ?hy2_27⟩) (by assumption) ?rr2_27
                  case hy2_27 => (intro w hSw; (try dsimp only at hSw); go_simp; try with_reducible rfl)
                  try simp only [Act.put, List.setIfInBounds_toArray, List.set_cons_zero, List.set_cons_succ]
                  refine wpAnyH_done (by kernel_rfl) ?_ _
                  refine NoPanic.normal ?_
                  go_wp2_with fail
                  go_meet
                  exact ⟨rfl, Lib.hid (ext_trans HX6.out hx2.out)⟩
                · subst h1 h2 h3
                  clear HSL HUU
                  have hun : undef = .tuple #[] := rfl
                  refine wp_region_noPanic ?_
                  refine wp_region_held_drew (S := fun W => W.cell? ⟨gz, 0, none⟩ = some (.bool b201) ∧ W.cell? ⟨gz, 1, none⟩ = some (.slice A201 k201 ca201) ∧ W.cell? ⟨gz, 2, none⟩ = some (.slice B201 l201 cb201) ∧ W.cell? ⟨gu, 0, none⟩ = some (.bool b202) ∧ W.cell? ⟨gu, 1, none⟩ = some (.slice A202 k202 ca202) ∧ W.cell? ⟨gu, 2, none⟩ = some (.slice B202 l202 cb202) ∧ W.cell? ⟨gB, c * 3, none⟩ = some (.bool b) ∧ W.cell? ⟨gB, c * 3 + 1, none⟩ = some (.slice A k ca) ∧ W.cell? ⟨gB, c * 3 + 2, none⟩ = some (.slice B l cb)) (by kernel_rfl) (HC.out _ (ext_trans HW2.out (ext_drew _))) (fun hHeld => ?_)
                  refine take_at (i := 0) 115 (v := ?vv3_0) rfl rfl (by kernel_rfl) (by kernel_rfl) (by kernel_rfl) (fun _ _ _ h => h) (Or.inl ⟨rfl, ?hy3_0⟩) (by assumption) ?rr3_0
                  case hy3_0 => (intro w hSw; (try dsimp only at hSw); go_simp; try with_reducible rfl)
                  try simp only [Act.put, List.setIfInBounds_toArray, List.set_cons_zero, List.set_cons_succ]
                  refine take_at (i := 1) 116 (v := ?vv3_1) rfl rfl (by kernel_rfl) (by kernel_rfl) (by kernel_rfl) (fun _ _ _ h => h) (Or.inl ⟨rfl, ?hy3_1⟩) (by assumption) ?rr3_1
                  case hy3_1 => (intro w hSw; (try dsimp only at hSw); go_simp; try with_reducible rfl)
                  try simp only [Act.put, List.setIfInBounds_toArray, List.set_cons_zero, List.set_cons_succ]
                  refine take_at (i := 2) 117 (v := ?vv3_2) rfl rfl (by kernel_rfl) (by kernel_rfl) (by kernel_rfl) (fun _ _ _ h => h) (Or.inl ⟨rfl, ?hy3_2⟩) (by assumption) ?rr3_2
                  case hy3_2 => (intro w hSw; (try dsimp only at hSw); go_simp; try with_reducible rfl)
                  try simp only [Act.put, List.setIfInBounds_toArray, List.set_cons_zero, List.set_cons_succ]
                  refine take_at (i := 3) 118 (v := ?vv3_3) rfl rfl (by kernel_rfl) (by kernel_rfl) (by kernel_rfl) (fun _ _ _ h => h) (Or.inl ⟨rfl, ?hy3_3⟩) (by assumption) ?rr3_3
                  case hy3_3 => (intro w hSw; (try dsimp only at hSw); go_simp; try with_reducible rfl)
                  try simp only [Act.put, List.setIfInBounds_toArray, List.set_cons_zero, List.set_cons_succ]
                  refine take_at (i := 4) 119 (v := ?vv3_4) rfl rfl (by kernel_rfl) (by kernel_rfl) (by kernel_rfl) (fun _ _ _ h => h) (Or.inl ⟨rfl, ?hy3_4⟩) (by assumption) ?rr3_4
                  case hy3_4 => (intro w hSw; (try dsimp only at hSw); go_simp; try with_reducible rfl)
                  try simp only [Act.put, List.setIfInBounds_toArray, List.set_cons_zero, List.set_cons_succ]
                  refine call_at (i := 5) 120 rfl rfl (by kernel_rfl) (fun K hK => ?_)
                  go_simp
                  go_at_call 42
                  refine (text_lit M HM4.out _ q _ HTT.out _ (NQ5.out.mono (ext_trans hww.out (ext_drew _))) BQ.out (TB5.out.mono (ext_trans hww.out (ext_drew _))).2).mono ?_
                  rintro e wt ⟨rfl, kt⟩
                  have hx2 := Lib.hid (show Ext W6 wt from ext_trans (ext_drew _) kt)
                  clear kt
                  try go_wp2_with fail
                  refine hK.out _ _ (HC.out _ (ext_trans HW2.out hx2.out)) (fun hHeld => ?_)
                  clear hK K
                  try simp only [Act.put, List.setIfInBounds_toArray, List.set_cons_zero, List.set_cons_succ]
                  refine take_at (i := 6) 121 (v := ?vv3_6) rfl rfl (by kernel_rfl) (by kernel_rfl) (by kernel_rfl) (fun _ _ _ h => h) (Or.inl ⟨rfl, ?hy3_6⟩) (by assumption) ?rr3_6
                  case hy3_6 => (intro w hSw; (try dsimp only at hSw); go_simp; try with_reducible rfl)
                  try simp only [Act.put, List.setIfInBounds_toArray, List.set_cons_zero, List.set_cons_succ]
                  refine take_at (i := 7) 122 (v := ?vv3_7) rfl rfl (by kernel_rfl) (by kernel_rfl) (by kernel_rfl) (fun _ _ _ h => h) (Or.inl ⟨rfl, ?hy3_7⟩) (by assumption) ?rr3_7
                  case hy3_7 => (intro w hSw; (try dsimp only at hSw); go_simp; try with_reducible rfl)
                  try simp only [Act.put, List.setIfInBounds_toArray, List.set_cons_zero, List.set_cons_succ]
                  refine take_at (i := 8) 123 (v := undef) rfl rfl (by kernel_rfl) (by kernel_rfl) (by kernel_rfl) (fun _ _ _ h => h) (Or.inr ⟨rfl, rfl⟩) (by assumption) ?_
                  try simp only [Act.put, List.setIfInBounds_toArray, List.set_cons_zero, List.set_cons_succ]
                  refine take_at (i := 9) 124 (v := undef) rfl rfl (by kernel_rfl) (by kernel_rfl) (by kernel_rfl) (fun _ _ _ h => h) (Or.inr ⟨rfl, rfl⟩) (by assumption) ?_
                  try simp only [Act.put, List.setIfInBounds_toArray, List.set_cons_zero, List.set_cons_succ]
                  refine take_at (i := 10) 125 (v := undef) rfl rfl (by kernel_rfl) (by kernel_rfl) (by kernel_rfl) (fun _ _ _ h => h) (Or.inr ⟨rfl, rfl⟩) (by assumption) ?_
                  try simp only [Act.put, List.setIfInBounds_toArray, List.set_cons_zero, List.set_cons_succ]
                  refine take_at (i := 11) 126 (v := undef) rfl rfl (by kernel_rfl) (by kernel_rfl) (by kernel_rfl) (fun _ _ _ h => h) (Or.inr ⟨rfl, rfl⟩) (by assumption) ?_
                  try simp only [Act.put, List.setIfInBounds_toArray, List.set_cons_zero, List.set_cons_succ]
                  refine call_at (i := 12) 127 rfl rfl (by kernel_rfl) (fun K hK => ?_)
                  rw [if_neg (by exact Bool.false_ne_true)]
                  refine hK.out _ _ (by assumption) (fun hHeld => ?_)
                  clear hK K
                  try simp only [Act.put, List.setIfInBounds_toArray, List.set_cons_zero, List.set_cons_succ]
                  refine take_at (i := 13) 128 (v := undef) rfl rfl (by kernel_rfl) (by kernel_rfl) (by kernel_rfl) (fun _ _ _ h => h) (Or.inr ⟨rfl, rfl⟩) (by assumption) ?_
                  try simp only [Act.put, List.setIfInBounds_toArray, List.set_cons_zero, List.set_cons_succ]
                  refine take_at (i := 14) 129 (v := ?vv3_14) rfl rfl (by kernel_rfl) (by kernel_rfl) (by kernel_rfl) (fun _ _ _ h => h) (Or.inl ⟨rfl, ?hy3_14⟩) (by assumption) ?rr3_14
                  case hy3_14 => (intro w hSw; (try dsimp only at hSw); go_simp; try with_reducible rfl)
                  try simp only [Act.put, List.setIfInBounds_toArray, List.set_cons_zero, List.set_cons_succ]
                  refine take_at (i := 15) 130 (v := ?vv3_15) rfl rfl (by kernel_rfl) (by kernel_rfl) (by kernel_rfl) (fun _ _ _ h => h) (Or.inl ⟨rfl, ?hy3_15⟩) (by assumption) ?rr3_15
                  case hy3_15 => (intro w hSw; (try dsimp only at hSw); go_simp; try with_reducible rfl)
                  try simp only [Act.put, List.setIfInBounds_toArray, List.set_cons_zero, List.set_cons_succ]
                  refine take_at (i := 16) 131 (v := ?vv3_16) rfl rfl (by kernel_rfl) (by kernel_rfl) (by kernel_rfl) (fun _ _ _ h => h) (Or.inl ⟨rfl, ?hy3_16⟩) (by assumption) ?rr3_16
                  case hy3_16 => (intro w hSw; (try dsimp only at hSw); go_simp; try with_reducible rfl)
                  try simp only [Act.put, List.setIfInBounds_toArray, List.set_cons_zero, List.set_cons_succ]
                  refine take_at (i := 17) 132 (v := ?vv3_17) rfl rfl (by kernel_rfl) (by kernel_rfl) (by kernel_rfl) (fun _ _ _ h => h) (Or.inl ⟨rfl, ?hy3_17⟩) (by assumption) ?rr3_17
                  case hy3_17 => (intro w hSw; (try dsimp only at hSw); go_simp; try with_reducible rfl)
                  try simp only [Act.put, List.setIfInBounds_toArray, List.set_cons_zero, List.set_cons_succ]
                  refine take_at (i := 18) 133 (v := ?vv3_18) rfl rfl (by kernel_rfl) (by kernel_rfl) (by kernel_rfl) (fun _ _ _ h => h) (Or.inl ⟨rfl, ?hy3_18⟩) (by assumption) ?rr3_18
                  case hy3_18 => (intro w hSw; (try dsimp only at hSw); go_simp; try with_reducible rfl)
                  try simp only [Act.put, List.setIfInBounds_toArray, List.set_cons_zero, List.set_cons_succ]
                  refine take_at (i := 19) 134 (v := ?vv3_19) rfl rfl (by kernel_rfl) (by kernel_rfl) (by kernel_rfl) (fun _ _ _ h => h) (Or.inl ⟨rfl, ?hy3_19⟩) (by assumption) ?rr3_19
                  case hy3_19 => (intro w hSw; (try dsimp only at hSw); go_simp; try with_reducible rfl)
                  try simp only [Act.put, List.setIfInBounds_toArray, List.set_cons_zero, List.set_cons_succ]
                  refine take_at (i := 20) 135 (v := ?vv3_20) rfl rfl (by kernel_rfl) (by kernel_rfl) (by kernel_rfl) (fun _ _ _ h => h) (Or.inl ⟨rfl, ?hy3_20⟩) (by assumption) ?rr3_20
                  case hy3_20 => (intro w hSw; (try dsimp only at hSw); go_simp; try with_reducible rfl)
                  try simp only [Act.put, List.setIfInBounds_toArray, List.set_cons_zero, List.set_cons_succ]
                  refine take_at (i := 21) 136 (v := ?vv3_21) rfl rfl (by kernel_rfl) (by kernel_rfl) (by kernel_rfl) (fun _ _ _ h => h) (Or.inl ⟨rfl, ?hy3_21⟩) (by assumption) ?rr3_21
                  case hy3_21 => (intro w hSw; (try dsimp only at hSw); go_simp; try with_reducible rfl)
                  try simp only [Act.put, List.setIfInBounds_toArray, List.set_cons_zero, List.set_cons_succ]
                  refine take_at (i := 22) 137 (v := ?vv3_22) rfl rfl (by kernel_rfl) (by kernel_rfl) (by kernel_rfl) (fun _ _ _ h => h) (Or.inl ⟨rfl, ?hy3_22⟩) (by assumption) ?rr3_22
                  case hy3_22 => (intro w hSw; (try dsimp only at hSw); go_simp; try with_reducible rfl)
                  try simp only [Act.put, List.setIfInBounds_toArray, List.set_cons_zero, List.set_cons_succ]
                  refine take_at (i := 23) 138 (v := ?vv3_23) rfl rfl (by kernel_rfl) (by kernel_rfl) (by kernel_rfl) (fun _ _ _ h => h) (Or.inl ⟨rfl, ?hy3_23⟩) (by assumption) ?rr3_23
                  case hy3_23 => (intro w hSw; (try dsimp only at hSw); go_simp; try with_reducible rfl)
                  try simp only [Act.put, List.setIfInBounds_toArray, List.set_cons_zero, List.set_cons_succ]
                  refine call_at (i := 24) 139 rfl rfl (by kernel_rfl) (fun K hK => ?_)
                  go_simp
                  go_at_call 46
                  refine (equal_yes M HM.out _ _ q _ (NU.out.mono (ext_trans hww.out hx2.out)) (NQ5.out.mono (ext_trans hww.out hx2.out)) BQ.out (TB5.out.mono (ext_trans hww.out hx2.out))).mono ?_
                  rintro e we ⟨rfl, ke⟩
                  have hx3 := Lib.hid (ext_trans hx2.out ke)
                  clear ke
                  try go_wp2_with fail
                  refine hK.out _ _ (HC.out _ (ext_trans HW2.out hx3.out)) (fun hHeld => ?_)
                  clear hK K
                  try simp only [Act.put, List.setIfInBounds_toArray, List.set_cons_zero, List.set_cons_succ]
                  refine take_at (i := 25) 140 (v := ?vv3_25) rfl rfl (by kernel_rfl) (by kernel_rfl) (by kernel_rfl) (fun _ _ _ h => h) (Or.inl ⟨rfl, ?hy3_25⟩) (by assumption) ?rr3_25
                  case hy3_25 => (intro w hSw; (try dsimp only at hSw); go_simp; try with_reducible rfl)
                  try simp only [Act.put, List.setIfInBounds_toArray, List.set_cons_zero, List.set_cons_succ]
                  refine take_at (i := 26) 141 (v := ?vv3_26) rfl rfl (by kernel_rfl) (by kernel_rfl) (by kernel_rfl) (fun _ _ _ h => h) (Or.inl ⟨rfl, ?hy3_26⟩) (by assumption) ?rr3_26
                  case hy3_26 => (intro w hSw; (try dsimp only at hSw); go_simp; try with_reducible rfl)
                  try simp only [Act.put, List.setIfInBounds_toArray, List.set_cons_zero, List.set_cons_succ]
                  refine take_at (i := 27) 142 (v := ?vv3_27) rfl rfl (by kernel_rfl) (by kernel_rfl) (by kernel_rfl) (fun _ _ _ h => h) (Or.inl ⟨rfl, ?hy3_27⟩) (by assumption) ?rr3_27
                  case hy3_27 => (intro w hSw; (try dsimp only at hSw); go_simp; try with_reducible rfl)
                  try simp only [Act.put, List.setIfInBounds_toArray, List.set_cons_zero, List.set_cons_succ]
                  refine wpAnyH_done (by kernel_rfl) ?_ _
                  refine NoPanic.normal ?_
                  go_wp2_with fail
                  go_meet
                  exact ⟨rfl, Lib.hid (ext_trans HX6.out hx3.out)⟩
                · subst h2 h3
                  have hs1 : (ss == tt) = false := by rw [beq_eq_false_iff_ne]; exact h1
                  have hs2 : (ss != tt) = true := by rw [bne, hs1]; rfl
                  rw [h4] at HSL
                  clear h1 h4 HUU
                  have hx0 := Lib.hid (ext_refl W6)
                  have hS0 := HC.out _ (ext_trans HW2.out hx0.out)
                  have e1 := Lib.hid (ext_drew W6)
                  have hx1 := Lib.hid (ext_trans hx0.out e1.out)
                  go_region_held3 (fun W => W.cell? ⟨gz, 0, none⟩ = some (.bool b201) ∧ W.cell? ⟨gz, 1, none⟩ = some (.slice A201 k201 ca201) ∧ W.cell? ⟨gz, 2, none⟩ = some (.slice B201 l201 cb201) ∧ W.cell? ⟨gu, 0, none⟩ = some (.bool b202) ∧ W.cell? ⟨gu, 1, none⟩ = some (.slice A202 k202 ca202) ∧ W.cell? ⟨gu, 2, none⟩ = some (.slice B202 l202 cb202) ∧ W.cell? ⟨gB, c * 3, none⟩ = some (.bool b) ∧ W.cell? ⟨gB, c * 3 + 1, none⟩ = some (.slice A k ca) ∧ W.cell? ⟨gB, c * 3 + 2, none⟩ = some (.slice B l cb))
                    (first
                      | exact HC.out _ (ext_trans HW2.out hx4.out)
                      | exact HC.out _ (ext_trans HW2.out hx3.out)
                      | exact HC.out _ (ext_trans HW2.out hx2.out)
                      | exact HC.out _ (ext_trans HW2.out hx1.out))
                    (first
                      | (have _q := hx3
                         go_at_call 46
                         refine (equal_yes M HM.out _ _ q _ (NU.out.mono (ext_trans hww.out hx3.out)) (NQ5.out.mono (ext_trans hww.out hx3.out)) BQ.out (TB5.out.mono (ext_trans hww.out hx3.out))).mono ?_
                         clear _q
                         rintro e we ⟨rfl, k4⟩
                         have e4 := Lib.hid k4
                         have hx4 := Lib.hid (ext_trans hx3.out k4)
                         clear k4)
                      | (have _q := hx2
                         go_at_call 54
                         refine (HSL.out _).mono ?_
                         clear _q
                         rintro e wl ⟨rfl, k3⟩
                         have e3 := Lib.hid k3
                         have hx3 := Lib.hid (ext_trans hx2.out k3)
                         clear k3)
                      | (have _q := hx1
                         go_at_call 42
                         refine (text_lit M HM4.out _ q _ HTT.out _ (NQ5.out.mono (ext_trans hww.out hx1.out)) BQ.out (TB5.out.mono (ext_trans hww.out hx1.out)).2).mono ?_
                         clear _q
                         rintro e wt ⟨rfl, k2⟩
                         have e2 := Lib.hid k2
                         have hx2 := Lib.hid (ext_trans hx1.out k2)
                         clear k2))
                  all_goals
                    go_wp2_with fail
                    go_meet
                    exact ⟨rfl, Lib.hid (ext_trans HX6.out hx4.out)⟩
              case rest =>
                obtain ⟨rfl, HX7⟩ := hcut
                go_wp2_with fail
                go_roundg (gk - 1)
                case measure => omega
                case rel => exact ⟨c + 1, by omega, by simp, Lib.hid (ext_trans HR5.out HX7.out)⟩
end Go.Proofs.YtpgdefgdboijlaaGreatDoor
