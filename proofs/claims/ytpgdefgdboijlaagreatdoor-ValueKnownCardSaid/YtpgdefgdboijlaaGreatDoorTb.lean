/- Texts: the number that decimal digits are. -/
import Derived.Test.YtpgdefgdboijlaaGreatDoorTa
import Derived.Test.YtpgdefgdboijlaaGreatDoorBits
import Derived.Test.YtpgdefgdboijlaaGreatDoorNk
import Derived.Lib.OthersKept
import Derived.Deep.LoopGhost
namespace Go.Proofs.YtpgdefgdboijlaaGreatDoor
open Go.RowKit
set_option linter.unusedVariables false

theorem Wd.iterAt {W : World} {v : Value} {n g : Nat} {s : ByteArray} {pos : Nat} (h : Wd W v n) (hg : W.heap[g]? = some (.stringIter s pos)) (p : Nat) : Wd (W.iterAt g s p) v n := by
  obtain ⟨A, c, e, hc, hcl⟩ := h
  refine ⟨A, c, e, hc, ?_⟩
  rcases Nat.eq_zero_or_pos (dg n).length with h0 | h0
  · left; rw [List.length_eq_zero_iff.1 h0]; rfl
  · obtain ⟨bl, o, hA, hce⟩ := hcl.at_ (by simpa using h0)
    right
    refine ⟨bl, o, hA, fun j hj => ?_⟩
    have hj' : j < (dg n).length := by simpa using hj
    have h1 := hce j hj
    have hne : bl ≠ g := by
      intro hb
      subst hb
      rw [getD_map_u64 _ _ hj'] at h1
      simp [World.cell?, hg] at h1
    rw [← h1]
    apply World.cell?_of_block
    exact Lib.iterAt_other _ _ _ _ _ hne
theorem natOf_take_succ (l : List UInt8) (p : Nat) (h : p < l.length) : natOf (l.take (p + 1)) = 10 * natOf (l.take p) + ((l[p]'h).toNat - 48) := by
  rw [List.take_succ_eq_append_getElem h, natOf_snoc]
theorem pow18 : (10 : Nat) ^ 18 = 1000000000000000000 := rfl
theorem dig_bits (l : List UInt8) (h : ∀ c ∈ l, isDig c = true) : natOf l < 2 ^ (4 * l.length + 1) :=
  Nat.lt_trans (natOf_lt l h) (ten_lt _)
theorem word_c' (k : Nat) (z : Int) (hz : z = (k : Int)) (hk : k < B64) (w : World) : Calls Tryz.prog 117 #[.int .u64 z] w fun e w' => ∃ v, e = .returned v ∧ Wd w' v k ∧ Ext w w' := by
  subst hz; exact word_c k hk w
def U64ok (p f : Nat) : Prop := p < f ∧ ∃ r, r < 18 ∧ f = 10 ^ r
theorem U64ok.le {p f : Nat} (h : U64ok p f) : f ≤ 100000000000000000 := by
  obtain ⟨-, r, hr, rfl⟩ := h
  exact (Nat.pow_le_pow_right (by decide) (show r ≤ 17 by omega) : 10 ^ r ≤ 10 ^ 17)
theorem U64ok.next {p f d : Nat} (h : U64ok p f) (hd : d < 10) : 10 * f = 1000000000000000000 ∨ U64ok (10 * p + d) (10 * f) := by
  obtain ⟨h1, r, hr, rfl⟩ := h
  rcases (show r = 17 ∨ r + 1 < 18 by omega) with e | e
  · left; subst e; rfl
  · exact .inr ⟨by omega, r + 1, e, by rw [Nat.pow_succ, Nat.mul_comm]⟩
set_option maxRecDepth 100000 in
set_option maxHeartbeats 2000000 in
theorem taken_c (l : List UInt8) (hl : ∀ c ∈ l, isDig c = true) (hs : l.length ≤ 1073741824) (w : World) :
    Calls Tryz.prog 104 #[.string ⟨l.toArray⟩] w fun e w' => ∃ v, e = .returned v ∧ Wd w' v (natOf l) ∧ Ext w w' := by
  have HL := Lib.hid hl
  have HSZ := Lib.hid hs
  have hbd := Lib.hid (show ∀ p N, N ≤ natOf (l.take p) → Sm N from fun p N hN => by
    have h1 := dig_bits (l.take p) (fun c hc => hl c (List.mem_of_mem_take hc))
    have h2 : (l.take p).length ≤ 1073741824 := by rw [List.length_take]; omega
    exact sm_lt hN (sm_of_lt h1 (by omega)))
  clear hl hs
  have hz0 : (ByteArray.mk l.toArray).size = l.length := rfl
  have HSI := Lib.hid hz0
  clear hz0
  go_enter Tryz.func104, Tryz.ntmps104
  go_wp2_with fail
  go_loopg [3, 4, 5] l.length (fun k o p f wr => ∃ (pos N p' f' : Nat), pos + k = l.length ∧ p = .int .u64 (p' : Int) ∧ f = .int .u64 (f' : Int) ∧ Wd wr o N ∧ N * f' + p' = natOf (l.take pos) ∧ U64ok p' f' ∧ wr.heap[w.heap.size]? = some (.stringIter ⟨l.toArray⟩ pos) ∧ Ext w wr)
  case atStart => exact ⟨0, 0, 0, 1, by omega, rfl, rfl, Wd.zero _, rfl, ⟨by omega, 0, by omega, rfl⟩, World.iter_heap w _ 0, (Below.refl _ _).alloc (Nat.le_refl _) _⟩
  case round =>
    obtain ⟨pos, N, p', f', hpos, rfl, rfl, hN, hv, hok, hit, hext⟩ := hrel
    obtain ⟨P1, p1, c1, rfl⟩ := hN.form'
    have HN := Lib.hid hN
    have HV := Lib.hid hv
    have HOK := Lib.hid hok
    have HIT := Lib.hid hit
    have HEX := Lib.hid hext
    have HPOS := Lib.hid hpos
    have hfle := hok.le
    have hplt := hok.1
    clear hN hv hok hit hext
    rcases Nat.eq_zero_or_pos gk with hz | hz
    · subst hz
      obtain rfl : pos = l.length := by omega
      have hnx : ∀ ty, (Instr.next (.pointer (some ⟨w.heap.size, 0, none⟩)) true ty).run Tryz.prog wr = _ := fun ty => Lib.run_next_end_at wr w.heap.size ⟨l.toArray⟩ l.length ty HIT.out (by rw [HSI.out]; omega)
      have Fl := Lib.hid (show f' < B64 by rw [B64_eq]; omega)
      have Pl := Lib.hid (show p' < B64 by rw [B64_eq]; omega)
      have V := HV.out
      rw [List.take_length] at V
      have Sn := Lib.hid (hbd.out l.length N (by
        rw [List.take_length, ← V]
        have h1 : N * 1 ≤ N * f' := Nat.mul_le_mul_left _ (by omega)
        omega))
      have Snf := Lib.hid (hbd.out l.length (N * f') (by rw [List.take_length]; omega))
      have VV := Lib.hid V
      clear V hpos hfle hplt
      go_wp2_with fail
      refine (word_c f' Fl.out _).mono ?_
      rintro e w1 ⟨v1, rfl, h1, k1⟩
      have G1 := Lib.hid h1
      have K1 := Lib.hid k1
      clear h1 k1 hnx
      go_wp2_with fail
      refine (mul_c _ _ _ _ _ (HN.out.mono K1.out) G1.out Sn.out (sm_small _ (Nat.lt_of_lt_of_le Fl.out (by rw [B64_eq]; decide)))).mono ?_
      rintro e w2 ⟨v2, rfl, h2, k2⟩
      have G2 := Lib.hid h2
      have K2 := Lib.hid k2
      clear h2 k2
      go_wp2_with fail
      refine (word_c p' Pl.out _).mono ?_
      rintro e w3 ⟨v3, rfl, h3, k3⟩
      have G3 := Lib.hid h3
      have K3 := Lib.hid k3
      clear h3 k3
      go_wp2_with fail
      refine (add_c _ _ _ _ _ (G2.out.mono K3.out) G3.out Snf.out (sm_small _ (Nat.lt_of_lt_of_le Pl.out (by rw [B64_eq]; decide)))).mono ?_
      rintro e w4 ⟨v4, rfl, h4, k4⟩
      have G4 := Lib.hid h4
      have K4 := Lib.hid k4
      clear h4 k4
      go_wp2_with fail
      go_ret
      refine ⟨_, rfl, ?_, ext_trans HEX.out (ext_trans K1.out (ext_trans K2.out (ext_trans K3.out K4.out)))⟩
      rw [← VV.out]
      exact G4.out
    · have hp : pos < (ByteArray.mk l.toArray).size := by rw [HSI.out]; omega
      have hpl : pos < l.length := by omega
      have hdg := (isDig_iff _).1 (HL.out (l[pos]'hpl) (List.getElem_mem hpl))
      have hnx : ∀ ty, (Instr.next (.pointer (some ⟨w.heap.size, 0, none⟩)) true ty).run Tryz.prog wr = _ := fun ty => Lib.run_next_ascii_at wr w.heap.size ⟨l.toArray⟩ pos ty HIT.out hp (by
        show (l[pos]'hpl).toNat < 128
        omega)
      have hcv : ((ByteArray.mk l.toArray)[pos]'hp).toNat = (l[pos]'hpl).toNat := rfl
      rw [hcv] at hnx
      have hst := natOf_take_succ l pos hpl
      obtain ⟨d, hd⟩ : ∃ d, d = (l[pos]'hpl).toNat - 48 := ⟨_, rfl⟩
      obtain ⟨c, hc⟩ : ∃ c, c = (l[pos]'hpl).toNat := ⟨_, rfl⟩
      rw [← hd] at hst
      rw [← hc] at hnx hdg
      rw [← hc] at hd
      have hd10 : d < 10 := by omega
      have HST := Lib.hid hst
      have HNEXT := Lib.hid (HOK.out.next hd10)
      have hit2 := Lib.iterAt_heap wr w.heap.size ⟨l.toArray⟩ pos (pos + 1) HIT.out
      have hex2 := Lib.below_iterAt HEX.out (k := w.heap.size) (Nat.le_refl _) ⟨l.toArray⟩ (pos + 1)
      have hN2 := HN.out.iterAt HIT.out (pos + 1)
      obtain ⟨W1, hW1⟩ : ∃ W1, W1 = wr.iterAt w.heap.size ⟨l.toArray⟩ (pos + 1) := ⟨_, rfl⟩
      rw [← hW1] at hnx hit2 hex2 hN2
      have HIT2 := Lib.hid hit2
      have HEX2 := Lib.hid hex2
      have HN2 := Lib.hid hN2
      have u1 : IntKind.i32.wrap ((c : Int) - 48) = (d : Int) := (IntWalk.i32_in _ (by omega)).trans (by omega)
      have u2 : IntKind.u64.wrap (d : Int) = (d : Int) := IntWalk.u64_in _ (by omega)
      have u3 : IntKind.u64.wrap (10 * (p' : Int)) = 10 * (p' : Int) := IntWalk.u64_in _ (by omega)
      have u4 : IntKind.u64.wrap (10 * (p' : Int) + (d : Int)) = 10 * (p' : Int) + (d : Int) := IntWalk.u64_in _ (by omega)
      have u5 : IntKind.u64.wrap (10 * (f' : Int)) = 10 * (f' : Int) := IntWalk.u64_in _ (by omega)
      have hlt2 := Lib.hid (show 10 * p' + d < 1000000000000000000 by omega)
      have U1 := Lib.hid u1
      have U2 := Lib.hid u2
      have U3 := Lib.hid u3
      have U4 := Lib.hid u4
      have U5 := Lib.hid u5
      have HZ0 := Lib.hid hz
      clear hW1 hst hit2 hex2 hN2 hpos u1 u2 u3 u4 u5 hd hc hcv hfle hplt hdg hz hp hpl hd10
      have u1 := U1.out
      have u2 := U2.out
      have u3 := U3.out
      have u4 := U4.out
      have u5 := U5.out
      rcases Decidable.em (10 * f' = 1000000000000000000) with hf | hf
      · have t1 : (10 * (f' : Int) == 1000000000000000000) = true := by rw [beq_iff_eq]; omega
        have Fl := Lib.hid (show 10 * f' < B64 by rw [B64_eq]; omega)
        have Pl := Lib.hid (show 10 * p' + d < B64 by rw [B64_eq]; have := hlt2.out; omega)
        have hval : N * (10 * f') + (10 * p' + d) = natOf (l.take (pos + 1)) := by
          rw [HST.out, ← HV.out]
          have : N * (10 * f') = 10 * (N * f') := by rw [Nat.mul_left_comm]
          omega
        have Sn := Lib.hid (hbd.out (pos + 1) N (by
          rw [← hval]
          have h1 : N * 1 ≤ N * (10 * f') := Nat.mul_le_mul_left _ (by omega)
          omega))
        have Snf := Lib.hid (hbd.out (pos + 1) (N * (10 * f')) (by rw [← hval]; omega))
        have HVAL := Lib.hid hval
        have HF := Lib.hid hf
        clear hval hf
        go_wp2_with fail
        refine (word_c' (10 * f') _ (by push_cast; rfl) Fl.out _).mono ?_
        rintro e w1 ⟨v1, rfl, h1, k1⟩
        have G1 := Lib.hid h1
        have K1 := Lib.hid k1
        clear h1 k1 hnx
        go_wp2_with fail
        refine (mul_c _ _ _ _ _ (HN2.out.mono K1.out) G1.out Sn.out (sm_small _ (Nat.lt_of_lt_of_le Fl.out (by rw [B64_eq]; decide)))).mono ?_
        rintro e w2 ⟨v2, rfl, h2, k2⟩
        have G2 := Lib.hid h2
        have K2 := Lib.hid k2
        clear h2 k2
        go_wp2_with fail
        refine (word_c' (10 * p' + d) _ (by push_cast; rfl) Pl.out _).mono ?_
        rintro e w3 ⟨v3, rfl, h3, k3⟩
        have G3 := Lib.hid h3
        have K3 := Lib.hid k3
        clear h3 k3
        go_wp2_with fail
        refine (add_c _ _ _ _ _ (G2.out.mono K3.out) G3.out Snf.out (sm_small _ (Nat.lt_of_lt_of_le Pl.out (by rw [B64_eq]; decide)))).mono ?_
        rintro e w4 ⟨v4, rfl, h4, k4⟩
        have G4 := Lib.hid h4
        have K4 := Lib.hid (ext_trans K1.out (ext_trans K2.out (ext_trans K3.out k4)))
        clear h4 k4
        go_wp2_with fail
        go_roundg (gk - 1)
        case measure => have := HZ0.out; omega
        case rel => exact ⟨pos + 1, _, 0, 1, by have := HPOS.out; have := HZ0.out; omega, rfl, rfl, G4.out, by rw [← HVAL.out]; omega, ⟨by omega, 0, by omega, rfl⟩, (K4.out.block _ (lt_of_block HIT2.out)).trans HIT2.out, ext_trans HEX2.out K4.out⟩
      · have t1 : (10 * (f' : Int) == 1000000000000000000) = false := by rw [beq_eq_false_iff_ne]; omega
        have HF := Lib.hid hf
        clear hf
        go_wp2_with fail
        go_roundg (gk - 1)
        case measure => have := HZ0.out; omega
        case rel => exact ⟨pos + 1, N, 10 * p' + d, 10 * f', by have := HPOS.out; have := HZ0.out; omega, by push_cast; rfl, by push_cast; rfl, HN2.out, by
          rw [HST.out, ← HV.out]
          have : N * (10 * f') = 10 * (N * f') := by rw [Nat.mul_left_comm]
          omega, by
          rcases HNEXT.out with h | h
          · exact absurd h HF.out
          · exact h, HIT2.out, HEX2.out⟩
end Go.Proofs.YtpgdefgdboijlaaGreatDoor
