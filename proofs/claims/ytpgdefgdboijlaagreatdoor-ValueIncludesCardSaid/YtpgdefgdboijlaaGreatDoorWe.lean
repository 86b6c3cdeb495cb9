/- The program's natural numbers: dividing by one word, size, shifting. -/
import Derived.Test.YtpgdefgdboijlaaGreatDoorWd
namespace Go.Proofs.YtpgdefgdboijlaaGreatDoor
open Go.RowKit
set_option linter.unusedVariables false

theorem drop_set_self (l : List Nat) (k v : Nat) (h : k < l.length) : (l.set k v).drop k = v :: l.drop (k + 1) := by
  rw [List.drop_eq_getElem_cons (by simpa using h)]
  simp [List.drop_set]
theorem drop_getD (l : List Nat) (k : Nat) (h : k < l.length) : l.drop k = l.getD k 0 :: l.drop (k + 1) := by
  rw [List.drop_eq_getElem_cons h]; simp [List.getD_eq_getElem?_getD, h]
theorem by1_step {B N M q b r a r' c : Nat} (h : M * b + r = N) (hd : q * b + r' = r * B + a) : (q + B * M) * b + r' = a + B * N := by subst h; grind

set_option maxHeartbeats 400000 in
theorem by1_c (va : Value) (n b : Nat) (w : World) (ha : Wd w va n) (sa : Sm n) (h0 : 0 < b) (hb : b < B64) :
    Calls Tryz.prog 155 #[va, .int .u64 b] w fun e w' => (∃ v r : _, e = .returned (.tuple #[v, .int .u64 ((r : Nat) : Int)]) ∧ r = n % b ∧ Wd w' v (n / b)) ∧ Ext w w' := by
  obtain ⟨A, ca, rfl, hca, hA⟩ := ha
  have la := dg_lt n
  have en := num_dg n
  unfold Sm at sa
  generalize dg n = xs at *
  obtain ⟨p, hp⟩ : ∃ p, xs.length = p := ⟨_, rfl⟩
  rw [hp] at hca sa ⊢
  have Hp := Lib.hid hp
  have La := Lib.hid la
  have En := Lib.hid en
  have Hb := Lib.hid hb
  have hmk := mk_words p (p : Int) rfl (by omega)
  clear hp la en hb
  go_enter Tryz.func155, Tryz.ntmps155
  go_wp2
  go_loopw [7, 8] (fun c i wr => ∃ (k rest : Nat) (r : List Nat), k ≤ p ∧ i = .int .i64 ((k : Int) - 1) ∧ c = .int .u64 rest ∧ rest < b ∧ r.length = p ∧ (∀ d ∈ r, d < B64) ∧ BkU wr w.heap.size r ∧ Below w.heap.size w wr ∧
    num B64 (r.drop k) * b + rest = num B64 (xs.drop k)) (fun _ i _ => (intOf i + 1).toNat)
  case atStart => exact ⟨p, 0, zs p, Nat.le_refl _, rfl, rfl, h0, zs_length _, zs_lt (by rw [B64_eq]; omega) _, BkU.new _ _, ext_alloc _ _, by
    rw [List.drop_of_length_le (by rw [zs_length]; omega), List.drop_of_length_le (by rw [Hp.out]; omega)]; simp⟩
  case round =>
    obtain ⟨k, rest, r, hk, rfl, rfl, hrest, hr, hrl, hbk, hbel, hnum⟩ := hrel
    have Hr := Lib.hid hr
    have Hrl := Lib.hid hrl
    have Hbk : Hid (BkU wr w.heap.size r) := hbk
    have Hnum := Lib.hid hnum
    clear hr hrl hbk hnum
    by_cases hz : k = 0
    · subst hz
      have HC := Lib.hid Hbk.out.cl
      go_wp2_with fail
      refine (cut_c _ r _ _ HC.out p Hr.out (by omega) (by omega)).mono ?_
      rintro e w2 ⟨rfl, rfl⟩
      go_wp2_with fail
      go_ret2
      have h1 := Hnum.out
      simp only [List.drop_zero] at h1
      rw [En.out] at h1
      have h2 : n / b = num B64 r ∧ n % b = rest := by
        rw [← h1, Nat.mul_comm]
        constructor
        · rw [Nat.mul_add_div h0, Nat.div_eq_of_lt hrest, Nat.add_zero]
        · rw [Nat.mul_add_mod, Nat.mod_eq_of_lt hrest]
      refine ⟨⟨_, rest, rfl, h2.2.symm, ?_⟩, hbel⟩
      rw [h2.1]
      exact cut_w Hrl.out HC.out (by rw [Hr.out]; omega)
    · obtain ⟨k, rfl⟩ : ∃ j, k = j + 1 := ⟨k - 1, by omega⟩
      obtain ⟨ba, oa, rfl, hca'⟩ := hA.u (by rw [Hp.out]; omega)
      have ea := ext_cell hbel (hca' k (by rw [Hp.out]; omega))
      have hxl := getD_lt La.out (by rw [B64_eq]; omega) k
      have Hdx : Hid (xs.drop k = xs.getD k 0 :: xs.drop (k + 1)) := drop_getD xs k (by rw [Hp.out]; omega)
      clear hca' hA hz
      generalize xs.getD k 0 = x at *
      have Hxl := Lib.hid hxl
      clear hxl
      go_wp2_with fail
      refine (div64_c rest x b hrest Hxl.out Hb.out _).mono ?_
      rintro e w1 ⟨⟨q, s, rfl, hqs, hs, hq⟩, hext⟩
      have hbel1 := hbel.trans (hext.mono hbel.size)
      have Hbk1 : Hid (BkU w1 w.heap.size r) := Hbk.out.ext hext
      have hci := Hbk1.out.cell k (by rw [Hr.out]; omega)
      have hfi := Hbk1.out.frozen k
      have Hset := Lib.hid (Hbk1.out.set_ k q)
      have Hqs := Lib.hid hqs
      have Hq := Lib.hid hq
      clear hqs hq ea
      go_wp2_with fail
      go_roundw
      case rel =>
        refine ⟨k, s, r.set k q, by omega, by simp, rfl, hs, by rw [List.length_set, Hr.out], set_lt Hrl.out Hq.out k, Hset.out, hbel1.setCell (Nat.le_refl _) _, ?_⟩
        rw [drop_set_self r k q (by rw [Hr.out]; omega), Hdx.out, num_cons, num_cons]
        exact by1_step (c := 0) Hnum.out Hqs.out
      case measure => simp [intOf]

theorem dg_length_size {n : Nat} (h0 : 0 < n) : (dg n).getD ((dg n).length - 1) 0 < B64 ∧ 0 < (dg n).getD ((dg n).length - 1) 0 ∧ 0 < (dg n).length ∧
    n = num B64 ((dg n).take ((dg n).length - 1)) + B64 ^ ((dg n).length - 1) * (dg n).getD ((dg n).length - 1) 0 ∧ num B64 ((dg n).take ((dg n).length - 1)) < B64 ^ ((dg n).length - 1) := by
  have h1 := dg_norm n
  have h2 : dg n ≠ [] := dig_ne_nil B64_two h0
  have h3 : 0 < (dg n).length := List.length_pos_iff.2 h2
  have e := num_dg n
  generalize dg n = l at *
  have h4 := num_take_succ B64 l (l.length - 1) (by omega)
  rw [show l.length - 1 + 1 = l.length by omega, List.take_length, e] at h4
  refine ⟨getD_lt h1.lt (by rw [B64_eq]; omega) _, ?_, h3, h4, ?_⟩
  · rcases Nat.eq_zero_or_pos (l.getD (l.length - 1) 0) with h5 | h5
    · exfalso
      apply h1.last
      rw [List.getLast?_eq_getElem?]
      rw [List.getD_eq_getElem?_getD] at h5
      rw [List.getElem?_eq_getElem (by omega)] at h5 ⊢
      simpa using h5
    · exact h5
  · have := num_lt B64 (l.take (l.length - 1)) (fun d hd => h1.lt d (List.mem_of_mem_take hd))
    rwa [List.length_take, Nat.min_eq_left (by omega)] at this

/-- how many binary digits -/
def bl (n : Nat) : Nat := if n = 0 then 0 else Nat.log2 n + 1
theorem bl_unique {n k : Nat} (h1 : n < 2 ^ k) (h2 : k = 0 ∨ 2 ^ (k - 1) ≤ n) : bl n = k := by
  unfold bl
  rcases h2 with rfl | h2
  · simp at h1; simp [h1]
  · have h0 : n ≠ 0 := by have := Nat.pow_pos (n := k - 1) (show 0 < 2 by omega); omega
    have h3 : k ≠ 0 := by rintro rfl; simp at h1; omega
    rw [if_neg h0]
    have h4 : Nat.log2 n < k := (Nat.log2_lt h0).2 h1
    have h5 : k - 1 ≤ Nat.log2 n := (Nat.le_log2 h0).2 h2
    omega

theorem size_c (va : Value) (n : Nat) (w : World) (ha : Wd w va n) (sa : Sm n) :
    Calls Tryz.prog 193 #[va] w fun e w' => e = .returned (.int .i64 (bl n : Nat)) ∧ w = w' := by
  obtain ⟨A, ca, rfl, hca, hA⟩ := ha
  unfold Sm at sa
  rcases Nat.eq_zero_or_pos n with rfl | h0
  · have e0 : (dg 0).length = 0 := by rw [dg_zero]; rfl
    rw [e0] at *
    clear e0 hA
    go_enter Tryz.func193, Tryz.ntmps193
    go_wp2
    go_ret
    exact ⟨rfl, rfl⟩
  · obtain ⟨h1, h2, h3, h4, h5⟩ := dg_length_size h0
    obtain ⟨p, hp⟩ : ∃ p, (dg n).length = p + 1 := ⟨(dg n).length - 1, by omega⟩
    rw [hp, Nat.add_sub_cancel] at h1 h2 h4 h5
    obtain ⟨ba, oa, rfl, hc⟩ := hA.u (by omega)
    have h0' := hc p (by omega)
    rw [hp] at hca sa ⊢
    clear hc hA h3 hp
    generalize (dg n).getD p 0 = x at *
    obtain ⟨b1, b2, b3⟩ := bitLen_spec x h1
    have b2 := b2 h2
    have HB : Hid (bl n = 64 * p + Lib.bitLen x) := by
      apply bl_unique
      · rw [h4, Nat.pow_add, Nat.pow_mul, show 2 ^ 64 = B64 from rfl]
        have : B64 ^ p * (x + 1) ≤ B64 ^ p * 2 ^ Lib.bitLen x := Nat.mul_le_mul_left _ b1
        rw [Nat.mul_add] at this; omega
      · right
        have hb0 : Lib.bitLen x ≠ 0 := by intro e; rw [e] at b1; simp at b1; omega
        rw [show 64 * p + Lib.bitLen x - 1 = 64 * p + (Lib.bitLen x - 1) by omega, Nat.pow_add, Nat.pow_mul, show 2 ^ 64 = B64 from rfl, h4]
        have := Nat.mul_le_mul_left (B64 ^ p) b2
        omega
    have Hx := Lib.hid h1
    clear h4 h5 h1 h2 b1 b2
    go_enter Tryz.func193, Tryz.ntmps193
    go_wp2_with fail
    refine (Tryz.bits_Len64 (x : Int) _ (by omega) (by have := Hx.out; rw [B64_eq] at this; omega)).mono ?_
    rintro e w1 ⟨rfl, hw⟩
    subst hw
    rw [Int.toNat_natCast]
    generalize Lib.bitLen x = y at *
    go_wp2_with fail
    go_ret
    refine ⟨?_, rfl⟩
    rw [HB.out]
    simp
end Go.Proofs.YtpgdefgdboijlaaGreatDoor
