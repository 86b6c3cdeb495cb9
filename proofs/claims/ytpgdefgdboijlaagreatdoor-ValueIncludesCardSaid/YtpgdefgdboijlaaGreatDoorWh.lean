/- The program's natural numbers: division. -/
import Derived.Test.YtpgdefgdboijlaaGreatDoorWg
import Derived.Deep.RegionLawGrows
namespace Go.Proofs.YtpgdefgdboijlaaGreatDoor
open Go.RowKit
set_option linter.unusedVariables false

def DivR (m n : Nat) (w w' : World) (e : Ending) : Prop := ∃ q r : Value, e = .returned (.tuple #[q, r]) ∧ Wd w' q (m / n) ∧ Wd w' r (m % n) ∧ Ext w w'

theorem div_less (va vb : Value) (m n : Nat) (w : World) (ha : Wd w va m) (hb : Wd w vb n) (sa : Sm m) (sb : Sm n) (hlt : m < n) :
    Calls Tryz.prog 149 #[va, vb] w fun e w' => DivR m n w w' e := by
  have Ha := Lib.hid ha
  have hc := cmp_c va vb m n w ha hb sa sb
  obtain ⟨A, ca, rfl, hca, hA⟩ := ha
  obtain ⟨B, cb, rfl, hcb, hB⟩ := hb
  unfold Sm at sa sb
  generalize (dg m).length = p at *
  generalize (dg n).length = q at *
  have Hc := Lib.hid hc
  clear hA hB hc
  go_enter Tryz.func149, Tryz.ntmps149
  go_wp2_with fail
  refine Hc.out.mono ?_
  rintro e w1 ⟨⟨c, rfl, h1, h2⟩, z, rfl⟩
  have h3 : c < 0 := h1.2 hlt
  clear h1 h2
  go_wp2_with fail
  go_ret2
  refine ⟨_, _, rfl, ?_, ?_, ext_drewN _ _⟩
  · rw [Nat.div_eq_of_lt hlt]; exact Wd.zero _
  · rw [Nat.mod_eq_of_lt hlt]; exact Ha.out.mono (ext_drewN _ _)

theorem div_one (va vb : Value) (m n : Nat) (w : World) (ha : Wd w va m) (hb : Wd w vb n) (sa : Sm m) (hle : n ≤ m) (h1 : (dg n).length = 1) (h0 : 0 < n) :
    Calls Tryz.prog 149 #[va, vb] w fun e w' => DivR m n w w' e := by
  have Ha := Lib.hid ha
  have hc := cmp_c va vb m n w ha hb sa (by unfold Sm; omega)
  have e1 : (dg n).getD 0 0 = n := by
    have e := num_dg n
    match h : dg n, h1 with
    | [d], _ => rw [h] at e; simpa using e
  have hnB : n < B64 := by rw [← e1]; exact getD_lt (dg_lt n) (by rw [B64_eq]; omega) 0
  have Sa := Lib.hid sa
  obtain ⟨A, ca, rfl, hca, hA⟩ := ha
  obtain ⟨B, cb, rfl, hcb, hB⟩ := hb
  obtain ⟨bb, ob, rfl, hcb'⟩ := hB.u (by omega)
  have hcell : w.cell? ⟨bb, ob, none⟩ = some (.int .u64 (n : Int)) := by
    have := hcb' 0 (by omega)
    rw [e1] at this; simpa using this
  unfold Sm at sa
  rw [h1] at hcb hc ⊢
  generalize (dg m).length = p at *
  have Hc := Lib.hid hc
  have HnB := Lib.hid hnB
  clear hA hB hc hcb' e1 h1 hnB
  go_enter Tryz.func149, Tryz.ntmps149
  go_wp2_with fail
  refine Hc.out.mono ?_
  rintro e w1 ⟨⟨c, rfl, h1, h2⟩, z, rfl⟩
  have h3 : ¬ c < 0 := fun h => by have := h1.1 h; omega
  clear h1 h2
  go_wp2_with fail
  refine (by1_c _ m n _ (Ha.out.mono (ext_drewN _ _)) Sa.out h0 HnB.out).mono ?_
  rintro e w2 ⟨⟨v, r, rfl, hr, hv⟩, hext⟩
  have hext' := ext_trans (ext_drewN w z) hext
  have Hv := Lib.hid hv
  have Hr := Lib.hid hr
  clear hv hr hext
  go_wp2_with fail
  refine (word_c r (by rw [Hr.out]; exact Nat.lt_trans (Nat.mod_lt _ h0) HnB.out) _).mono ?_
  rintro e w3 ⟨v3, rfl, hv3, hext3⟩
  have hext'' := ext_trans hext' hext3
  go_wp2_with fail
  go_ret2
  refine ⟨_, _, rfl, Hv.out.mono hext3, ?_, hext''⟩
  rw [← Hr.out]; exact hv3

end Go.Proofs.YtpgdefgdboijlaaGreatDoor
