/- Numbers in lowest terms. -/
import Derived.Test.YtpgdefgdboijlaaGreatDoorN0
namespace Go.Proofs.YtpgdefgdboijlaaGreatDoor
open Go.RowKit
set_option linter.unusedVariables false

theorem Wd.form {w : World} {v : Value} {n : Nat} (h : Wd w v n) : ∃ A c, v = .slice A (dg n).length c := by
  obtain ⟨A, c, e, -⟩ := h; exact ⟨A, c, e⟩
theorem Wd.form' {w : World} {v : Value} {n : Nat} (h : Wd w v n) : ∃ A k c, v = .slice A k c := by
  obtain ⟨A, c, e, -⟩ := h; exact ⟨A, _, c, e⟩

/-- a fresh block of three cells stands as it was -/
theorem row3 {w W : World} {x y z : Value} (h : Ext (w.alloc (.cells #[x, y, z] 25)) W) : W.heap[w.heap.size]? = some (.cells #[x, y, z] 25 (0, 0)) :=
  (h.block _ (by simp)).trans (heap_alloc_new w _)
theorem row3_0 {W : World} {g : Nat} {x y z : Value} {T : TypeId} (h : W.heap[g]? = some (.cells #[x, y, z] T (0, 0))) : W.cell? ⟨g, 0, none⟩ = some x ∧ W.cell? ⟨g, 1, none⟩ = some y ∧ W.cell? ⟨g, 2, none⟩ = some z ∧ W.frozen? ⟨g, 0, none⟩ = false ∧ W.frozen? ⟨g, 1, none⟩ = false ∧ W.frozen? ⟨g, 2, none⟩ = false := by
  refine ⟨?_, ?_, ?_, ?_, ?_, ?_⟩ <;> simp [World.cell?, World.frozen?, h]
theorem nm_mk {W : World} {b : Bool} {vn vd : Value} {n d n' d' : Nat} {q : Rat} (hq : q = rat b n d) (hn : 0 < n) (hd : 0 < d) (h1 : n' = n / Nat.gcd n d) (h2 : d' = d / Nat.gcd n d) (ha : Wd W vn n') (hb : Wd W vd (if d' = 1 then 0 else d')) : Nm W (.agg #[.bool b, vn, vd]) q := by
  subst hq
  have e1 := rat_natAbs b n d (by omega)
  have e2 := rat_den b n d (by omega)
  refine ⟨vn, vd, by rw [rat_neg b n d (by omega) hn], by rw [e1, ← h1]; exact ha, ?_⟩
  unfold dn
  rw [e2, ← h2]; exact hb

/-- the three cells of a number are written -/
theorem Wd.put3 {W : World} {v : Value} {n g : Nat} {b0 : Bool} {A0 B0 : Option Addr} {k0 c0 k1 c1 : Nat} {T : TypeId} (h : Wd W v n) (hg : W.heap[g]? = some (.cells #[.bool b0, .slice A0 k0 c0, .slice B0 k1 c1] T (0, 0))) (a b c : Value) :
    Wd (((W.setCell ⟨g, 0, none⟩ a).setCell ⟨g, 1, none⟩ b).setCell ⟨g, 2, none⟩ c) v n := by
  obtain ⟨A, cc, e, hc, hcl⟩ := h
  refine ⟨A, cc, e, hc, ?_⟩
  rcases Nat.eq_zero_or_pos (dg n).length with h0 | h0
  · left; rw [List.length_eq_zero_iff.1 h0]; rfl
  · obtain ⟨bl, o, hA, hce⟩ := hcl.at_ (by simpa using h0)
    right
    refine ⟨bl, o, hA, fun j hj => ?_⟩
    have hj' : j < (dg n).length := by simpa using hj
    have h1 := hce j hj
    have hne : bl ≠ g := by
      intro hb
      subst hb
      rw [getD_map_u64 _ _ hj'] at h1
      simp only [World.cell?, hg] at h1
      rcases Nat.lt_or_ge (o + j) 3 with h3 | h3
      · rcases (show o + j = 0 ∨ o + j = 1 ∨ o + j = 2 by omega) with e | e | e <;> rw [e] at h1 <;> simp at h1
      · rw [Array.getElem?_eq_none (by simpa using h3)] at h1
        simp at h1
    rw [← h1]
    apply World.cell?_of_block
    rw [Below.heap_setCell _ _ _ _ hne, Below.heap_setCell _ _ _ _ hne, Below.heap_setCell _ _ _ _ hne]
theorem ext_put3 {w W : World} {g : Nat} (h : Ext w W) (hg : w.heap.size ≤ g) (a b c : Value) : Ext w (((W.setCell ⟨g, 0, none⟩ a).setCell ⟨g, 1, none⟩ b).setCell ⟨g, 2, none⟩ c) :=
  ((h.setCell hg _).setCell hg _).setCell hg _

set_option maxRecDepth 100000 in
set_option maxHeartbeats 1000000 in
theorem reduced_c (b : Bool) (vn vd : Value) (n d : Nat) (w : World) (ha : Wd w vn n) (hb : Wd w vd d) (sa : Sm n) (sb : Sm d) (hd : 0 < d) :
    Calls Tryz.prog 103 #[.bool b, vn, vd] w fun e w' => ∃ v, e = .returned v ∧ Nm w' v (rat b n d) ∧ Ext w w' := by
  obtain ⟨A, ca, rfl⟩ := ha.form
  obtain ⟨B, q, cb, rfl⟩ := hb.form'
  have Hb := Lib.hid hb
  have Sa := Lib.hid sa
  have Sb := Lib.hid sb
  have Hd := Lib.hid hd
  obtain ⟨p, hp⟩ : ∃ p, (dg n).length = p := ⟨_, rfl⟩
  have hz : n = 0 ↔ p = 0 := by
    rw [← hp, List.length_eq_zero_iff]; exact (dig_eq_nil B64_two).symm
  rw [hp] at ha ⊢
  have Ha := Lib.hid ha
  clear hp ha hb sa sb hd
  rcases Nat.eq_zero_or_pos p with h | h
  · have hn : n = 0 := hz.2 h
    subst hn
    subst h
    clear hz
    go_enter Tryz.func103, Tryz.ntmps103
    go_wp2_with fail
    refine bodyPost_ret (v := .agg #[.bool false, .slice none 0 0, .slice none 0 0]) (by simp [results, Tryz.f103]; go_simp) rfl ?_
    exact ⟨_, rfl, by rw [rat_zero]; exact Nm.zero _, ext_alloc _ _⟩
  · have t1 : ((p : Int) == 0) = false := by simp; omega
    have hn : 0 < n := by
      rcases Nat.eq_zero_or_pos n with h' | h'
      · have := hz.1 h'; omega
      · exact h'
    have Hn := Lib.hid hn
    clear hz hn
    go_enter Tryz.func103, Tryz.ntmps103
    go_wp2_with fail
    rcases hn1 : decide (n = 1) with _ | _
    · refine (is1_c _ n false hn1 _ (Ha.out.mono (ext_alloc _ _))).mono ?_
      rintro e w1 ⟨rfl, rfl⟩
      have Hn1 := Lib.hid (show ¬ n = 1 by simpa using hn1)
      clear hn1
      go_wp2_with fail
      rcases hd0 : decide (d = 1) with _ | _
      · refine (is1_c _ d false hd0 _ (Hb.out.mono (ext_alloc _ _))).mono ?_
        rintro e w1 ⟨rfl, rfl⟩
        have Hd0 := Lib.hid (show ¬ d = 1 by simpa using hd0)
        clear hd0
        go_wp2_with fail
        refine (divisor_c _ _ n d _ (Ha.out.mono (ext_alloc _ _)) (Hb.out.mono (ext_alloc _ _)) Sa.out Sb.out Hn.out).mono ?_
        rintro e w2 ⟨vg, rfl, hvg, hx2⟩
        have hgd : Nat.gcd n d ≤ n := Nat.gcd_le_left _ Hn.out
        have hgp : 0 < Nat.gcd n d := Nat.gcd_pos_of_pos_left _ Hn.out
        obtain ⟨G, kg, cg, rfl⟩ := hvg.form'
        have Hvg := Lib.hid hvg
        have Hx2 := Lib.hid hx2
        have Hgd := Lib.hid hgd
        have Hgp := Lib.hid hgp
        clear hvg hx2 hgd hgp
        go_wp2_with fail
        rcases hg1 : decide (Nat.gcd n d = 1) with _ | _
        · refine (is1_c _ _ false hg1 _ Hvg.out).mono ?_
          rintro e w3 ⟨rfl, rfl⟩
          clear hg1
          go_wp2_with fail
          refine (div_c _ _ n (Nat.gcd n d) _ ((Ha.out.mono (ext_alloc w (.cells #[.bool false, .slice none 0 0, .slice none 0 0] 25))).mono Hx2.out) Hvg.out Sa.out (sm_lt Hgd.out Sa.out) Hgp.out).mono ?_
          rintro e w3 ⟨q1, r1, rfl, hq1, -, hx3⟩
          obtain ⟨Q1, k1, c1, rfl⟩ := hq1.form'
          have Hq1 := Lib.hid hq1
          have Hx3 := Lib.hid hx3
          clear hq1 hx3
          go_wp2_with fail
          refine (div_c _ _ d (Nat.gcd n d) _ (((Hb.out.mono (ext_alloc w (.cells #[.bool false, .slice none 0 0, .slice none 0 0] 25))).mono Hx2.out).mono Hx3.out) (Hvg.out.mono Hx3.out) Sb.out (sm_lt Hgd.out Sa.out) Hgp.out).mono ?_
          rintro e w4 ⟨q2, r2, rfl, hq2, -, hx4⟩
          obtain ⟨Q2, k2, c2, rfl⟩ := hq2.form'
          have HB := Lib.hid hq2
          have HA := Lib.hid (Hq1.out.mono hx4)
          have Hx := Lib.hid (ext_trans Hx2.out (ext_trans Hx3.out hx4))
          clear hq2 hx4
          go_wp2_with fail
          have hrow := row3 Hx.out
          obtain ⟨hc0, hc1, hc2, hf0, hf1, hf2⟩ := row3_0 hrow
          have Hrow := Lib.hid hrow
          have Hxw := Lib.hid (ext_trans (ext_alloc w (.cells #[.bool false, .slice none 0 0, .slice none 0 0] 25)) Hx.out)
          clear hrow
          rcases hd1 : decide (d / Nat.gcd n d = 1) with _ | _
          · refine (is1_c _ (d / Nat.gcd n d) false hd1 _ HB.out).mono ?_
            rintro e w9 ⟨rfl, rfl⟩
            have Hd1 := Lib.hid (show ¬ (d / Nat.gcd n d) = 1 by simpa using hd1)
            clear hd1
            go_wp2_with fail
            refine bodyPost_ret (v := .agg #[.bool b, .slice Q1 k1 c1, .slice Q2 k2 c2]) (by simp [results, Tryz.f103]; go_simp) rfl ?_
            exact ⟨_, rfl, nm_mk (n' := n / Nat.gcd n d) (d' := d / Nat.gcd n d) rfl Hn.out Hd.out rfl rfl (HA.out.put3 Hrow.out _ _ _) (by rw [if_neg Hd1.out]; exact (HB.out.put3 Hrow.out _ _ _)), ext_put3 Hxw.out (Nat.le_refl _) _ _ _⟩
          · refine (is1_c _ (d / Nat.gcd n d) true hd1 _ HB.out).mono ?_
            rintro e w9 ⟨rfl, rfl⟩
            have Hd1 := Lib.hid (show (d / Nat.gcd n d) = 1 by simpa using hd1)
            clear hd1
            go_wp2_with fail
            refine bodyPost_ret (v := .agg #[.bool b, .slice Q1 k1 c1, .slice none 0 0]) (by simp [results, Tryz.f103]; go_simp) rfl ?_
            exact ⟨_, rfl, nm_mk (n' := n / Nat.gcd n d) (d' := d / Nat.gcd n d) rfl Hn.out Hd.out rfl rfl (HA.out.put3 Hrow.out _ _ _) (by rw [if_pos Hd1.out]; exact Wd.zero _), ext_put3 Hxw.out (Nat.le_refl _) _ _ _⟩
        · have Hg1 := Lib.hid (show Nat.gcd n d = 1 by simpa using hg1)
          refine (is1_c _ _ true hg1 _ Hvg.out).mono ?_
          rintro e w3 ⟨rfl, rfl⟩
          clear hg1
          go_wp2_with fail
          have Hx := Lib.hid Hx2.out
          have HA := Lib.hid ((Ha.out.mono (ext_alloc w (.cells #[.bool false, .slice none 0 0, .slice none 0 0] 25))).mono Hx2.out)
          have HB := Lib.hid ((Hb.out.mono (ext_alloc w (.cells #[.bool false, .slice none 0 0, .slice none 0 0] 25))).mono Hx2.out)
          have hrow := row3 Hx.out
          obtain ⟨hc0, hc1, hc2, hf0, hf1, hf2⟩ := row3_0 hrow
          have Hrow := Lib.hid hrow
          have Hxw := Lib.hid (ext_trans (ext_alloc w (.cells #[.bool false, .slice none 0 0, .slice none 0 0] 25)) Hx.out)
          clear hrow
          rcases hd1 : decide (d = 1) with _ | _
          · refine (is1_c _ (d) false hd1 _ HB.out).mono ?_
            rintro e w9 ⟨rfl, rfl⟩
            have Hd1 := Lib.hid (show ¬ (d) = 1 by simpa using hd1)
            clear hd1
            go_wp2_with fail
            refine bodyPost_ret (v := .agg #[.bool b, .slice A p ca, .slice B q cb]) (by simp [results, Tryz.f103]; go_simp) rfl ?_
            exact ⟨_, rfl, nm_mk (n' := n) (d' := d) rfl Hn.out Hd.out (by rw [Hg1.out, Nat.div_one]) (by rw [Hg1.out, Nat.div_one]) (HA.out.put3 Hrow.out _ _ _) (by rw [if_neg Hd1.out]; exact (HB.out.put3 Hrow.out _ _ _)), ext_put3 Hxw.out (Nat.le_refl _) _ _ _⟩
          · refine (is1_c _ (d) true hd1 _ HB.out).mono ?_
            rintro e w9 ⟨rfl, rfl⟩
            have Hd1 := Lib.hid (show (d) = 1 by simpa using hd1)
            clear hd1
            go_wp2_with fail
            refine bodyPost_ret (v := .agg #[.bool b, .slice A p ca, .slice none 0 0]) (by simp [results, Tryz.f103]; go_simp) rfl ?_
            exact ⟨_, rfl, nm_mk (n' := n) (d' := d) rfl Hn.out Hd.out (by rw [Hg1.out, Nat.div_one]) (by rw [Hg1.out, Nat.div_one]) (HA.out.put3 Hrow.out _ _ _) (by rw [if_pos Hd1.out]; exact Wd.zero _), ext_put3 Hxw.out (Nat.le_refl _) _ _ _⟩
      · refine (is1_c _ d true hd0 _ (Hb.out.mono (ext_alloc _ _))).mono ?_
        rintro e w1 ⟨rfl, rfl⟩
        have Hd0 := Lib.hid (show d = 1 by simpa using hd0)
        clear hd0
        go_wp2_with fail
        have Hx : Hid (Ext _ _) := ext_refl (w.alloc (.cells #[.bool false, .slice none 0 0, .slice none 0 0] 25))
        have HA : Hid (Wd _ _ _) := Ha.out.mono (ext_alloc w (.cells #[.bool false, .slice none 0 0, .slice none 0 0] 25))
        have HB : Hid (Wd _ _ _) := Hb.out.mono (ext_alloc w (.cells #[.bool false, .slice none 0 0, .slice none 0 0] 25))
        have hrow := row3 Hx.out
        obtain ⟨hc0, hc1, hc2, hf0, hf1, hf2⟩ := row3_0 hrow
        have Hrow := Lib.hid hrow
        have Hxw := Lib.hid (ext_trans (ext_alloc w (.cells #[.bool false, .slice none 0 0, .slice none 0 0] 25)) Hx.out)
        clear hrow
        rcases hd1 : decide (d = 1) with _ | _
        · refine (is1_c _ (d) false hd1 _ HB.out).mono ?_
          rintro e w9 ⟨rfl, rfl⟩
          have Hd1 := Lib.hid (show ¬ (d) = 1 by simpa using hd1)
          clear hd1
          go_wp2_with fail
          refine bodyPost_ret (v := .agg #[.bool b, .slice A p ca, .slice B q cb]) (by simp [results, Tryz.f103]; go_simp) rfl ?_
          exact ⟨_, rfl, nm_mk (n' := n) (d' := d) rfl Hn.out Hd.out (by rw [Hd0.out, Nat.gcd_one_right, Nat.div_one]) (by rw [Hd0.out, Nat.gcd_one_right, Nat.div_one]) (Ha.out.mono (ext_alloc _ _)) (by rw [if_neg Hd1.out]; exact (Hb.out.mono (ext_alloc _ _))), ext_alloc _ _⟩
        · refine (is1_c _ (d) true hd1 _ HB.out).mono ?_
          rintro e w9 ⟨rfl, rfl⟩
          have Hd1 := Lib.hid (show (d) = 1 by simpa using hd1)
          clear hd1
          go_wp2_with fail
          refine bodyPost_ret (v := .agg #[.bool b, .slice A p ca, .slice none 0 0]) (by simp [results, Tryz.f103]; go_simp) rfl ?_
          exact ⟨_, rfl, nm_mk (n' := n) (d' := d) rfl Hn.out Hd.out (by rw [Hd0.out, Nat.gcd_one_right, Nat.div_one]) (by rw [Hd0.out, Nat.gcd_one_right, Nat.div_one]) (Ha.out.mono (ext_alloc _ _)) (by rw [if_pos Hd1.out]; exact Wd.zero _), ext_alloc _ _⟩
    · refine (is1_c _ n true hn1 _ (Ha.out.mono (ext_alloc _ _))).mono ?_
      rintro e w1 ⟨rfl, rfl⟩
      have Hn1 := Lib.hid (show n = 1 by simpa using hn1)
      clear hn1
      go_wp2_with fail
      have Hx : Hid (Ext _ _) := ext_refl (w.alloc (.cells #[.bool false, .slice none 0 0, .slice none 0 0] 25))
      have HA : Hid (Wd _ _ _) := Ha.out.mono (ext_alloc w (.cells #[.bool false, .slice none 0 0, .slice none 0 0] 25))
      have HB : Hid (Wd _ _ _) := Hb.out.mono (ext_alloc w (.cells #[.bool false, .slice none 0 0, .slice none 0 0] 25))
      have hrow := row3 Hx.out
      obtain ⟨hc0, hc1, hc2, hf0, hf1, hf2⟩ := row3_0 hrow
      have Hrow := Lib.hid hrow
      have Hxw := Lib.hid (ext_trans (ext_alloc w (.cells #[.bool false, .slice none 0 0, .slice none 0 0] 25)) Hx.out)
      clear hrow
      rcases hd1 : decide (d = 1) with _ | _
      · refine (is1_c _ (d) false hd1 _ HB.out).mono ?_
        rintro e w9 ⟨rfl, rfl⟩
        have Hd1 := Lib.hid (show ¬ (d) = 1 by simpa using hd1)
        clear hd1
        go_wp2_with fail
        refine bodyPost_ret (v := .agg #[.bool b, .slice A p ca, .slice B q cb]) (by simp [results, Tryz.f103]; go_simp) rfl ?_
        exact ⟨_, rfl, nm_mk (n' := n) (d' := d) rfl Hn.out Hd.out (by rw [Hn1.out, Nat.gcd_one_left]) (by rw [Hn1.out, Nat.gcd_one_left, Nat.div_one]) (Ha.out.mono (ext_alloc _ _)) (by rw [if_neg Hd1.out]; exact (Hb.out.mono (ext_alloc _ _))), ext_alloc _ _⟩
      · refine (is1_c _ (d) true hd1 _ HB.out).mono ?_
        rintro e w9 ⟨rfl, rfl⟩
        have Hd1 := Lib.hid (show (d) = 1 by simpa using hd1)
        clear hd1
        go_wp2_with fail
        refine bodyPost_ret (v := .agg #[.bool b, .slice A p ca, .slice none 0 0]) (by simp [results, Tryz.f103]; go_simp) rfl ?_
        exact ⟨_, rfl, nm_mk (n' := n) (d' := d) rfl Hn.out Hd.out (by rw [Hn1.out, Nat.gcd_one_left]) (by rw [Hn1.out, Nat.gcd_one_left, Nat.div_one]) (Ha.out.mono (ext_alloc _ _)) (by rw [if_pos Hd1.out]; exact Wd.zero _), ext_alloc _ _⟩
end Go.Proofs.YtpgdefgdboijlaaGreatDoor
