/- The program's natural numbers: the greatest common divisor. -/
import Derived.Test.YtpgdefgdboijlaaGreatDoorWi
import Derived.Deep.LoopGhost
namespace Go.Proofs.YtpgdefgdboijlaaGreatDoor
open Go.RowKit
set_option linter.unusedVariables false

theorem dg_one_word {n : Nat} (h1 : (dg n).length = 1) : (dg n).getD 0 0 = n ∧ n < B64 := by
  have e1 : (dg n).getD 0 0 = n := by
    have e := num_dg n
    match h : dg n, h1 with
    | [d], _ => rw [h] at e; simpa using e
  exact ⟨e1, by rw [← e1]; exact getD_lt (dg_lt n) (by rw [B64_eq]; omega) 0⟩
theorem sm_lt {m n : Nat} (h : m ≤ n) (k : Sm n) : Sm m := Nat.le_trans (dig_length_mono B64_two h) k

set_option maxRecDepth 100000 in
set_option maxHeartbeats 1000000 in
theorem divisor_c (va vb : Value) (m n : Nat) (w : World) (ha : Wd w va m) (hb : Wd w vb n) (sa : Sm m) (sb : Sm n) (hm : 0 < m) :
    Calls Tryz.prog 132 #[va, vb] w fun e w' => ∃ v, e = .returned v ∧ Wd w' v (Nat.gcd m n) ∧ Ext w w' := by
  obtain ⟨G, hG⟩ : ∃ G, G = Nat.gcd m n := ⟨_, rfl⟩
  rw [← hG]
  have HG := Lib.hid hG
  have Ha := Lib.hid ha
  have Hb := Lib.hid hb
  have Sa := Lib.hid sa
  have Sb := Lib.hid sb
  have Hm := Lib.hid hm
  clear hG ha hb sa sb hm
  go_enter Tryz.func132, Tryz.ntmps132
  go_wp2_with fail
  go_loopg [0, 1, 5, 6] n (fun k a b _ _ wr => ∃ m', Wd wr a m' ∧ Wd wr b k ∧ 0 < m' ∧ Sm m' ∧ Sm k ∧ Nat.gcd m' k = G ∧ Ext w wr)
  case atStart => exact ⟨m, Ha.out, Hb.out, Hm.out, Sa.out, Sb.out, HG.out.symm, ext_refl _⟩
  case round =>
    obtain ⟨m', ha, hb, hm, sa, sb, hg, hext⟩ := hrel
    have Ha' := Lib.hid ha
    have Hb' := Lib.hid hb
    have Sa' := Lib.hid sa
    have Sb' := Lib.hid sb
    have Hm' := Lib.hid hm
    have Hg' := Lib.hid hg
    have Hext := Lib.hid hext
    obtain ⟨A, ca, rfl, hca, hA⟩ := ha
    obtain ⟨B, cb, rfl, hcb, hB⟩ := hb
    obtain ⟨p, hp⟩ : ∃ p, (dg m').length = p := ⟨_, rfl⟩
    obtain ⟨q, hq⟩ : ∃ q, (dg gk).length = q := ⟨_, rfl⟩
    have h1w := fun h => dg_one_word (n := gk) h
    have hcl := fun h : 0 < (dg gk).length => hB.u h
    have hz : (dg gk).length = 0 → gk = 0 := fun h => (dig_eq_nil B64_two).1 (List.length_eq_zero_iff.1 h)
    rw [hq] at hcb hcl h1w hz ⊢
    rw [hp] at hca ⊢
    have Hp := Lib.hid hp
    have Hq := Lib.hid hq
    have H1w := Lib.hid h1w
    have Hcl := Lib.hid hcl
    have Hz := Lib.hid hz
    clear hm sa sb hg hext hA hB hp hq h1w hcl hz
    rcases Nat.lt_or_ge 1 q with h1 | h1
    · have t1 : decide ((1 : Int) < (q : Int)) = true := by simp; omega
      have hpos : 0 < gk := by
        rcases Nat.eq_zero_or_pos gk with h | h
        · subst h
          have := Hq.out
          rw [dg_zero] at this
          simp at this; omega
        · exact h
      have hd := div_c _ _ m' gk wr Ha'.out Hb'.out Sa'.out Sb'.out hpos
      rw [Hp.out, Hq.out] at hd
      have Hd := Lib.hid hd
      have Hpos := Lib.hid hpos
      clear hd hpos
      go_wp2_with fail
      refine Hd.out.mono ?_
      rintro e w1 ⟨vq, vr, rfl, h2, h3, h4⟩
      have H3 := Lib.hid h3
      have H4 := Lib.hid h4
      clear h2 h3 h4
      go_wp2_with fail
      go_roundg (m' % gk)
      case measure => exact Nat.mod_lt _ Hpos.out
      case rel =>
        refine ⟨gk, ?_, H3.out, Hpos.out, Sb'.out, sm_lt (Nat.le_of_lt (Nat.mod_lt _ Hpos.out)) Sb'.out, ?_, ext_trans Hext.out H4.out⟩
        · have := Hb'.out.mono H4.out
          rw [Hq.out] at this; exact this
        · rw [Nat.gcd_comm, ← Nat.gcd_rec, Nat.gcd_comm]; exact Hg'.out
    · have t1 : decide ((1 : Int) < (q : Int)) = false := by simp; omega
      rcases Nat.eq_zero_or_pos q with h0 | h0
      · subst h0
        go_wp2_with fail
        go_ret
        have h2 := Hg'.out
        rw [Hz.out (by first | rfl | trivial), Nat.gcd_zero_right] at h2
        refine ⟨_, rfl, ?_, Hext.out⟩
        have := Ha'.out
        rw [Hp.out, h2] at this; exact this
      · have hq1 : q = 1 := by omega
        subst hq1
        obtain ⟨bb, ob, rfl, hc⟩ := Hcl.out (by omega)
        obtain ⟨e1, hlt⟩ := H1w.out rfl
        have hcell : wr.cell? ⟨bb, ob, none⟩ = some (.int .u64 (gk : Int)) := by
          have := hc 0 (by omega)
          rw [e1] at this; simpa using this
        have hpos : 0 < gk := by
          rcases Nat.eq_zero_or_pos gk with h | h
          · subst h
            have := Hq.out
            rw [dg_zero] at this
            simp at this
          · exact h
        have hd := by1_c _ m' gk wr Ha'.out Sa'.out hpos hlt
        rw [Hp.out] at hd
        have Hd := Lib.hid hd
        have Hpos := Lib.hid hpos
        have Hlt := Lib.hid hlt
        clear hd hpos hlt e1 hc
        go_wp2_with fail
        refine Hd.out.mono ?_
        rintro e w1 ⟨⟨vq, r, rfl, hr, -⟩, hx⟩
        have hcell1 := ext_cell hx hcell
        have Hr := Lib.hid hr
        have Hx := Lib.hid hx
        clear hr hx
        go_wp2_with fail
        go_loop [8, 9] (fun x y => ∃ a b : Nat, x = .int .u64 a ∧ y = .int .u64 b ∧ Nat.gcd b a = G ∧ a < b ∧ b < B64) (fun x _ => (intOf x).toNat)
        case atStart => exact ⟨r, gk, rfl, rfl, by rw [Hr.out, Nat.gcd_comm, ← Nat.gcd_rec, Nat.gcd_comm]; exact Hg'.out, by rw [Hr.out]; exact Nat.mod_lt _ Hpos.out, Hlt.out⟩
        case round =>
          obtain ⟨a, b, rfl, rfl, hg, hab, hbB⟩ := hrel
          have Hgab := Lib.hid hg
          have Hab := Lib.hid hab
          have HbB := Lib.hid hbB
          clear hg
          rcases Nat.eq_zero_or_pos a with h | h
          · subst h
            clear hab hbB
            go_wp2_with fail
            refine (word_c b HbB.out _).mono ?_
            rintro e w2 ⟨v, rfl, h5, h6⟩
            have H5 := Lib.hid h5
            have H6 := Lib.hid h6
            clear h5 h6
            go_wp2_with fail
            go_ret
            have h2 := Hgab.out
            rw [Nat.gcd_zero_right] at h2
            refine ⟨_, rfl, ?_, ext_trans Hext.out (ext_trans Hx.out H6.out)⟩
            rw [← h2]; exact H5.out
          · have t2 : ((a : Int) != 0) = true := by simp; omega
            have t3 : ((a : Int) == 0) = false := by simp; omega
            obtain ⟨c, hc⟩ : ∃ c, c = b % a := ⟨_, rfl⟩
            have hca' : c < a := by rw [hc]; exact Nat.mod_lt _ h
            have hw : (b : Int) % (a : Int) = (c : Int) := by rw [hc]; simp
            have Hc : Hid (Nat.gcd a c = G) := by
              show _ = _
              rw [hc, Nat.gcd_comm, ← Nat.gcd_rec, Nat.gcd_comm]; exact Hgab.out
            have Hca := Lib.hid hca'
            clear hab hbB hc hca'
            go_wp2_with fail
            go_round
            case rel => exact ⟨c, a, by rw [hw], rfl, Hc.out, Hca.out, Nat.lt_trans Hab.out HbB.out⟩
            case measure =>
              show (intOf (Value.int _ ((b : Int) % (a : Int)))).toNat < _
              rw [hw]; simp [intOf]; exact Hca.out
end Go.Proofs.YtpgdefgdboijlaaGreatDoor
