/- Plain laws: what is written is read back. Digits, Check, and the laws' helper slash. Printed by gen_tx.py. -/
import Derived.Test.YtpgdefgdboijlaaGreatDoorUa
import Derived.Test.YtpgdefgdboijlaaGreatDoorVe
import Derived.Test.YtpgdefgdboijlaaGreatDoorNb
namespace Go.Proofs.YtpgdefgdboijlaaGreatDoor
open Go Go.Lib
set_option linter.unusedVariables false
theorem dec_iff {p : Prop} [Decidable p] {b : Bool} (h : decide p = b) : p ↔ b = true := by subst h; simp
theorem dec_plain (n : Nat) : plainB (decDigits n) = true := by
  unfold plainB digB
  have h1 := dec_ne_nil n
  have h2 := dec_isDig n
  have e1 : (decDigits n).isEmpty = false := by simpa using h1
  have e2 : (decDigits n).all isDig = true := List.all_eq_true.2 h2
  rw [e1, e2]
  by_cases h : n = 0
  · subst h; rw [dec_zero]; rfl
  · have := dec_head n h
    simp [this]
theorem dig_not {l : List UInt8} (h : ∀ c ∈ l, isDig c = true) (c : UInt8) (hc : isDig c = false) : c ∉ l := fun hm => by
  rw [h c hm] at hc; cases hc
theorem dec_one {n : Nat} {c : UInt8} (h : decDigits n = [c]) : n = c.toNat - 48 := by
  have := natOf_dec n
  rw [h] at this
  rw [← this]; simp [natOf]
theorem txt_parts (q : Rat) : minusB (txt q) = decide (q.num < 0) ∧ restB (txt q) = decDigits q.num.natAbs ++ (if q.den = 1 then [] else 47 :: decDigits q.den) := by
  unfold minusB restB txt trimPrefix hasPrefix
  by_cases h : q.num < 0
  · simp [h, List.isPrefixOf]
  · rw [if_neg h]
    simp only [List.nil_append]
    have hd := dec_isDig q.num.natAbs
    cases hq : decDigits q.num.natAbs with
    | nil => exact absurd hq (dec_ne_nil _)
    | cons c m =>
      have h1 := hd c (by rw [hq]; exact List.mem_cons_self ..)
      have hc : ((45 : UInt8) == c) = false := by
        rw [beq_eq_false_iff_ne]; intro e; rw [← e] at h1; exact absurd h1 (by decide)
      have hne : ¬ (45 : UInt8) = c := by simpa using hc
      simp [h, List.isPrefixOf, hne]
theorem txt_cut (q : Rat) : cutB 47 (restB (txt q)) = (decDigits q.num.natAbs, (if q.den = 1 then [] else decDigits q.den), decide (q.den ≠ 1)) := by
  rw [(txt_parts q).2]
  have h := dig_not (dec_isDig q.num.natAbs) 47 (by decide)
  by_cases hd : q.den = 1
  · rw [if_pos hd, if_pos hd, List.append_nil, cutB_no _ _ h]; simp [hd]
  · rw [if_neg hd, if_neg hd, cutB_yes _ _ _ h]; simp [hd]
/-- too long for a text -/
def longQ (q : Rat) : Prop := 1000 < (decDigits q.num.natAbs).length ∨ (q.den ≠ 1 ∧ 1000 < (decDigits q.den).length)
instance (q : Rat) : Decidable (longQ q) := by unfold longQ; infer_instance
theorem parse_txt (q : Rat) : parseS (txt q) = if longQ q then (3, 0) else (0, q) := by
  unfold parseS
  rw [txt_cut, (txt_parts q).1]
  dsimp only
  rw [if_neg (by rw [dec_plain]; simp)]
  have hz : decDigits q.num.natAbs = [48] → q = 0 := fun e => by
    have := dec_one e
    have h48 : (48 : UInt8).toNat = 48 := rfl
    exact Rat.num_eq_zero.1 (by omega)
  rw [if_neg (by
    rintro ⟨h1, h2⟩
    have := hz h1
    subst this
    simp at h2)]
  rw [if_neg (by
    rintro ⟨h1, h2⟩
    have h1' : q.den ≠ 1 := by simpa using h1
    rw [if_neg h1'] at h2
    rcases h2 with h2 | h2 | h2
    · rw [dec_plain] at h2; cases h2
    · have := dec_one h2
      have h48 : (48 : UInt8).toNat = 48 := rfl
      have := q.den_pos
      omega
    · have := dec_one h2
      have h49 : (49 : UInt8).toNat = 49 := rfl
      omega)]
  have hl : (1000 < (decDigits q.num.natAbs).length ∨ 1000 < (if q.den = 1 then ([] : List UInt8) else decDigits q.den).length) ↔ longQ q := by
    unfold longQ
    by_cases hd : q.den = 1
    · simp [hd]
    · simp [hd]
  by_cases hL : longQ q
  · rw [if_pos (hl.2 hL), if_pos hL]
  · rw [if_neg (fun h => hL (hl.1 h)), if_neg hL]
    have hs := rat_self q
    by_cases hd : q.den = 1
    · rw [if_pos (by simp [hd]), natOf_dec]
      rw [hd] at hs
      rw [hs]
    · rw [if_neg (by simp [hd]), if_neg hd, natOf_dec, natOf_dec, if_pos q.reduced, hs]
theorem cutB_join (c : UInt8) (l : List UInt8) : l = (cutB c l).1 ++ (if (cutB c l).2.2 = true then c :: (cutB c l).2.1 else []) := by
  rcases split_at l c with h | ⟨a, b, rfl, h⟩
  · rw [cutB_no l c h]; simp
  · rw [cutB_yes a b c h]; simp
theorem rest_join (l : List UInt8) : l = (if minusB l = true then [45] else []) ++ restB l := by
  unfold minusB restB trimPrefix
  cases l with
  | nil => rfl
  | cons c l =>
    by_cases h : hasPrefix (c :: l) [45] = true
    · have hc : c = 45 := by
        simp only [hasPrefix, List.isPrefixOf, Bool.and_true, beq_iff_eq] at h
        exact h.symm
      rw [h, hc]; rfl
    · simp [h]
theorem txt_parse (l : List UInt8) (h : (parseS l).1 = 0) : txt (parseS l).2 = l := by
  have hj := rest_join l
  have hc := cutB_join 47 (restB l)
  have hcb : (cutB 47 (restB l)).2.2 = false → (cutB 47 (restB l)).2.1 = [] := fun e => by
    rcases split_at (restB l) 47 with h1 | ⟨a, b, h0, h1⟩
    · rw [cutB_no _ _ h1]
    · rw [h0, cutB_yes a b 47 h1] at e; cases e
  conv => rhs; rw [hj, hc]
  unfold parseS at h ⊢
  dsimp only at h ⊢
  generalize cutB 47 (restB l) = c at *
  obtain ⟨top, bot, two⟩ := c
  dsimp only at h hcb ⊢
  generalize minusB l = neg at *
  clear hj hc
  by_cases p1 : plainB top = false
  · rw [if_pos p1] at h; exact absurd h (by decide)
  rw [if_neg p1] at h ⊢
  by_cases p2 : top = [48] ∧ (neg = true ∨ two = true)
  · rw [if_pos p2] at h; exact absurd h (by decide)
  rw [if_neg p2] at h ⊢
  by_cases p3 : two = true ∧ (plainB bot = false ∨ bot = [48] ∨ bot = [49])
  · rw [if_pos p3] at h; exact absurd h (by decide)
  rw [if_neg p3] at h ⊢
  by_cases p4 : 1000 < top.length ∨ 1000 < bot.length
  · rw [if_pos p4] at h; exact absurd h (by decide)
  rw [if_neg p4] at h ⊢
  have p1' : plainB top = true := by simpa using p1
  have hn := plain_dec p1'
  cases two with
  | false =>
    rw [if_pos rfl]
    have hb := hcb rfl
    subst hb
    dsimp only
    unfold txt
    have hnum : (rat neg (natOf top) 1).num.natAbs = natOf top := by rw [rat_natAbs _ _ _ (by decide)]; simp
    have hden : (rat neg (natOf top) 1).den = 1 := by rw [rat_den _ _ _ (by decide)]; simp
    rw [hnum, hden, hn, if_pos rfl]
    have hneg : (rat neg (natOf top) 1).num < 0 ↔ neg = true := by
      by_cases h0 : top = [48]
      · have : neg = false := by
          cases neg
          · rfl
          · exact absurd ⟨h0, .inl rfl⟩ p2
        subst this
        subst h0
        simp [natOf, rat_zero]
      · exact dec_iff (rat_neg neg (natOf top) 1 (by decide) (plain_pos p1' h0))
    by_cases hh : neg = true
    · rw [if_pos (hneg.2 hh), if_pos hh]; simp
    · rw [if_neg (fun x => hh (hneg.1 x)), if_neg hh]; simp
  | true =>
    rw [if_neg (by simp)] at h ⊢
    by_cases p5 : Nat.gcd (natOf top) (natOf bot) = 1
    · rw [if_pos p5]
      dsimp only
      have h48 : ¬ top = [48] := fun e => p2 ⟨e, .inr rfl⟩
      have hb0 : plainB bot = true := by
        cases hq : plainB bot
        · exact absurd ⟨rfl, .inl hq⟩ p3
        · rfl
      have hb1 : ¬ bot = [48] := fun e => p3 ⟨rfl, .inr (.inl e)⟩
      have hb2 : ¬ bot = [49] := fun e => p3 ⟨rfl, .inr (.inr e)⟩
      have hbp := plain_pos hb0 hb1
      have hbo := plain_one hb0 hb2
      unfold txt
      have hnum : (rat neg (natOf top) (natOf bot)).num.natAbs = natOf top := by rw [rat_natAbs _ _ _ (by omega), p5]; simp
      have hden : (rat neg (natOf top) (natOf bot)).den = natOf bot := by rw [rat_den _ _ _ (by omega), p5]; simp
      rw [hnum, hden, hn, plain_dec hb0, if_neg hbo]
      have hneg : (rat neg (natOf top) (natOf bot)).num < 0 ↔ neg = true := dec_iff (rat_neg neg (natOf top) (natOf bot) (by omega) (plain_pos p1' h48))
      by_cases hh : neg = true
      · rw [if_pos (hneg.2 hh), if_pos hh]; simp
      · rw [if_neg (fun x => hh (hneg.1 x)), if_neg hh]; simp
    · rw [if_neg p5] at h; exact absurd h (by decide)
/-- powers of ten -/
def T10 (k : Int) : Rat := (10 : Rat) ^ k
theorem t10_add (a b : Int) : T10 (a + b) = T10 a * T10 b := Rat.zpow_add (by decide) a b
theorem t10_zero : T10 0 = 1 := Rat.zpow_zero 10
theorem t10_inv (k : Int) : T10 k * T10 (-k) = 1 := by rw [← t10_add, Int.add_right_neg, t10_zero]
theorem t10_nat (n : Nat) : T10 n = ((10 ^ n : Nat) : Rat) := by
  unfold T10; rw [Rat.zpow_natCast, Rat.natCast_pow]; rfl
theorem t10_pos (k : Int) : 0 < T10 k := Rat.zpow_pos (by decide)
theorem rat_nat' (n : Nat) : rat false n 1 = (n : Rat) := by
  have h := rat_self (n : Rat)
  have e : decide (((n : Rat)).num < 0) = false := by
    rw [decide_eq_false_iff_not]
    show ¬ ((n : Int) < 0)
    omega
  rw [e] at h
  simpa using h
theorem rat_inv' (d : Nat) (hd : d ≠ 0) : rat false 1 d * (d : Rat) = 1 := by
  rw [← rat_nat' d, rat_mul]
  have := rat_scale false 1 1 d hd
  simp only [Nat.one_mul, Nat.mul_one] at this ⊢
  show rat false d d = 1
  rw [this, rat_nat']; rfl
theorem inv_same {a b c : Rat} (h : a * b = 1) (k : c * b = 1) : a = c := by
  have h1 : a * b * c = c := by rw [h, Rat.one_mul]
  rw [Rat.mul_assoc, Rat.mul_comm b c, k, Rat.mul_one] at h1
  exact h1
theorem tens_t10 (x : Rat) (k : Int) : tensQ x k = x * T10 k := by
  unfold tensQ
  have hs := rat_self x
  split
  · rename_i h
    have e : T10 k = rat false 1 (10 ^ k.natAbs) := by
      refine inv_same (t10_inv k) ?_
      have h2 : T10 (-k) = ((10 ^ k.natAbs : Nat) : Rat) := by
        rw [show -k = (k.natAbs : Int) by omega]; exact t10_nat _
      rw [h2]; exact rat_inv' _ (Nat.ne_of_gt (Nat.pow_pos (by decide)))
    rw [e]
    conv => rhs; lhs; rw [← hs]
    rw [rat_mul]; simp
  · rename_i h
    have e : T10 k = rat false (10 ^ k.natAbs) 1 := by
      rw [rat_nat', ← t10_nat, show (k.natAbs : Int) = k by omega]
    rw [e]
    conv => rhs; lhs; rw [← hs]
    rw [rat_mul]; simp
theorem pick_mem (sz : Rat) (p : List UInt8 × Int) (l : List (List UInt8 × Int)) : pickP sz p l = p ∨ pickP sz p l ∈ l := by
  induction l generalizing p with
  | nil => exact .inl rfl
  | cons q qs ih =>
    unfold pickP
    rcases ih (if 0 ≤ cmpQ sz (tensQ 1 q.2) then q else p) with h | h
    · rw [h]
      split
      · exact .inr (List.mem_cons_self ..)
      · exact .inl rfl
    · exact .inr (List.mem_cons_of_mem _ h)
theorem point_spec (f : Nat) (m : Rat) (b : Nat) : (pointL f m b).1 = m * T10 (((pointL f m b).2 : Int) - b) ∧ b ≤ (pointL f m b).2 ∧ (pointL f m b).2 ≤ b + f := by
  induction f generalizing m b with
  | zero => unfold pointL; dsimp only; rw [Int.sub_self, t10_zero, Rat.mul_one]; exact ⟨rfl, Nat.le_refl _, Nat.le_refl _⟩
  | succ f ih =>
    unfold pointL
    split
    · dsimp only; rw [Int.sub_self, t10_zero, Rat.mul_one]; exact ⟨rfl, Nat.le_refl _, by omega⟩
    · obtain ⟨h1, h2, h3⟩ := ih (tensQ m 1) (b + 1)
      refine ⟨?_, by omega, by omega⟩
      rw [h1, tens_t10, Rat.mul_assoc, ← t10_add]
      congr 2
      omega
theorem pad_spec (b : Nat) (s : List UInt8) (h : ∀ c ∈ s, isDig c = true) : natOf (padS b s) = natOf s ∧ b + 1 ≤ (padS b s).length ∧ ∀ c ∈ padS b s, isDig c = true := by
  unfold padS
  refine ⟨natOf_zeros _ _, by simp; omega, ?_⟩
  intro c hc
  rcases List.mem_append.1 hc with h1 | h1
  · rw [List.mem_replicate] at h1; rw [h1.2]; rfl
  · exact h c h1
theorem suffix_one (r : List UInt8) (c d : UInt8) : hasSuffix (r ++ [c]) [d] = (d == c) := by
  unfold hasSuffix List.isSuffixOf
  simp [List.isPrefixOf]
theorem trim_one (r : List UInt8) (c : UInt8) : trimSuffix (r ++ [c]) [c] = r := by
  unfold trimSuffix
  rw [suffix_one]; simp
theorem suffix_dig (r : List UInt8) (h0 : r ≠ []) (hl : isDig (r.getLast h0) = true) (d : UInt8) (hd : isDig d = false) : hasSuffix r [d] = false := by
  rw [← List.dropLast_concat_getLast h0, suffix_one, beq_eq_false_iff_ne]
  intro e
  rw [← e, hd] at hl
  cases hl
theorem pfxL_none (r : List UInt8) (h0 : r ≠ []) (hl : isDig (r.getLast h0) = true) : pfxL r pfxs = (0, r) := by
  have s := suffix_dig r h0 hl
  unfold pfxs
  simp only [pfxL_cons, s 102 (by decide), s 112 (by decide), s 110 (by decide), s 117 (by decide), s 109 (by decide), s 107 (by decide), s 77 (by decide), s 71 (by decide), s 84 (by decide)]
  simp [pfxL]
theorem pfxL_at (r : List UInt8) (h0 : r ≠ []) (hl : isDig (r.getLast h0) = true) (p : List UInt8 × Int) (hp : p ∈ pfxs) : pfxL (r ++ p.1) pfxs = (p.2, r) := by
  have key : ∀ c : UInt8, ∀ k : Int, ([c], k) ∈ pfxs → pfxL (r ++ [c]) pfxs = (k, r) := by
    intro c k hm
    have ht := trim_one r c
    have hs := suffix_one r c
    simp only [pfxs, List.mem_cons, Prod.mk.injEq, List.cons.injEq, and_true, List.not_mem_nil, or_false] at hm
    unfold pfxs
    rcases hm with ⟨rfl, rfl⟩ | ⟨rfl, rfl⟩ | ⟨rfl, rfl⟩ | ⟨rfl, rfl⟩ | ⟨rfl, rfl⟩ | ⟨h, rfl⟩ | ⟨rfl, rfl⟩ | ⟨rfl, rfl⟩ | ⟨rfl, rfl⟩ | ⟨rfl, rfl⟩
    all_goals first
      | (simp only [pfxL_cons, hs, ht]; simp; done)
      | (cases h; done)
      | (exact absurd h (by simp))
  obtain ⟨t, k⟩ := p
  simp only [pfxs, List.mem_cons, Prod.mk.injEq, List.not_mem_nil, or_false] at hp
  dsimp only
  rcases hp with ⟨rfl, rfl⟩ | ⟨rfl, rfl⟩ | ⟨rfl, rfl⟩ | ⟨rfl, rfl⟩ | ⟨rfl, rfl⟩ | ⟨rfl, rfl⟩ | ⟨rfl, rfl⟩ | ⟨rfl, rfl⟩ | ⟨rfl, rfl⟩ | ⟨rfl, rfl⟩
  case inr.inr.inr.inr.inr.inl => rw [List.append_nil]; exact pfxL_none r h0 hl
  all_goals exact key _ _ (by simp [pfxs])
theorem digB_of {l : List UInt8} (h : ∀ c ∈ l, isDig c = true) (h0 : l ≠ []) : digB l = true := by
  unfold digB
  have e1 : l.isEmpty = false := by simpa using h0
  rw [e1, List.all_eq_true.2 h]; rfl
theorem head_dig {c : UInt8} {l : List UInt8} (h : isDig c = true) : minusB (c :: l) = false ∧ restB (c :: l) = c :: l := by
  have hne : ¬ (45 : UInt8) = c := fun e => by rw [← e] at h; exact absurd h (by decide)
  unfold minusB restB trimPrefix hasPrefix
  simp [List.isPrefixOf, hne]
theorem minus_head (l : List UInt8) : minusB (45 :: l) = true ∧ restB (45 :: l) = l := by
  unfold minusB restB trimPrefix hasPrefix
  simp [List.isPrefixOf]
theorem sign_rest (b : Bool) (c : UInt8) (l : List UInt8) (h : isDig c = true) : minusB ((if b = true then [45] else []) ++ c :: l) = b ∧ restB ((if b = true then [45] else []) ++ c :: l) = c :: l := by
  cases b
  · exact head_dig h
  · exact minus_head _
theorem abs_sign (x : Rat) : x = (if x.num < 0 then -(absQ x) else absQ x) := by
  unfold absQ
  split <;> simp
theorem rat_sign (b : Bool) (n : Nat) : rat b n 1 = (if b = true then -((n : Nat) : Rat) else (n : Rat)) := by
  have h := rat_nat' n
  cases b
  · simp [h]
  · simp only [if_true]
    rw [← h]
    unfold rat sg
    rw [if_pos rfl, if_neg (by simp), Rat.neg_mkRat]
theorem abs_nonneg (x : Rat) : 0 ≤ (absQ x).num := by
  unfold absQ
  split
  · rw [Rat.neg_num]; omega
  · omega
theorem whole_nat {m : Rat} (h : m.den = 1) (h0 : 0 ≤ m.num) : m = ((m.num.natAbs : Nat) : Rat) := by
  have hs := rat_self m
  rw [h, decide_eq_false (by omega), rat_nat'] at hs
  exact hs.symm
theorem mul_num_nonneg {a b : Rat} (h : 0 ≤ a.num) (k : 0 < b) : 0 ≤ (a * b).num := by
  rw [Rat.num_nonneg] at h ⊢
  exact Rat.mul_nonneg h (Rat.le_of_lt k)
/-- what a short text is, and what is read from it -/
theorem short_read (x : Rat) (tp : List UInt8) (kp : Int) (mm : Rat) (bh : Nat) (ps : List UInt8) (hp : (tp, kp) ∈ pfxs)
    (hmm : mm = absQ x * T10 ((bh : Int) - kp)) (hd : mm.den = 1) (hps : ps = padS bh (decDigits mm.num.natAbs)) (hlen : ps.length ≤ 400) :
    (47 : UInt8) ∉ ((if x.num < 0 then [45] else []) ++ (if 0 < bh then ps.take (ps.length - bh) ++ 46 :: ps.drop (ps.length - bh) else ps) ++ tp) ∧
    readA ((if x.num < 0 then [45] else []) ++ (if 0 < bh then ps.take (ps.length - bh) ++ 46 :: ps.drop (ps.length - bh) else ps) ++ tp) = (0, x) := by
  obtain ⟨hn, hl, hdg⟩ := pad_spec bh (decDigits mm.num.natAbs) (dec_isDig _)
  rw [← hps] at hn hl hdg
  rw [natOf_dec] at hn
  obtain ⟨rs, hrs⟩ : ∃ rs, rs = (if 0 < bh then ps.take (ps.length - bh) ++ 46 :: ps.drop (ps.length - bh) else ps) := ⟨_, rfl⟩
  rw [← hrs]
  have hps0 : ps ≠ [] := by intro e; rw [e] at hl; simp at hl
  have hcut : ∃ a b : List UInt8, cutB 46 rs = (a, b, decide (0 < bh)) ∧ a ++ b = ps ∧ b.length = bh ∧ a ≠ [] ∧ (b = [] → bh = 0) := by
    have hno : ∀ l : List UInt8, (∀ c ∈ l, isDig c = true) → (46 : UInt8) ∉ l := fun l h => dig_not h 46 (by decide)
    by_cases hb : 0 < bh
    · rw [hrs, if_pos hb]
      refine ⟨ps.take (ps.length - bh), ps.drop (ps.length - bh), ?_, List.take_append_drop _ _, ?_, ?_, ?_⟩
      · rw [cutB_yes _ _ _ (hno _ fun c hc => hdg c (List.mem_of_mem_take hc))]; simp [hb]
      · rw [List.length_drop]; omega
      · intro e
        have := congrArg List.length e
        rw [List.length_take] at this
        simp at this
        omega
      · intro e
        have := congrArg List.length e
        rw [List.length_drop] at this
        simp at this
        omega
    · rw [hrs, if_neg hb]
      refine ⟨ps, [], ?_, List.append_nil _, by simp; omega, hps0, fun _ => by omega⟩
      rw [cutB_no _ _ (hno _ hdg)]; simp [hb]
  obtain ⟨a, b, hc, hab, hbl, ha0, hb0⟩ := hcut
  have hrm : ∀ c ∈ rs, isDig c = true ∨ c = 46 := by
    intro c hcm
    rw [hrs] at hcm
    split at hcm
    · rcases List.mem_append.1 hcm with h | h
      · exact .inl (hdg c (List.mem_of_mem_take h))
      · rcases List.mem_cons.1 h with h | h
        · exact .inr h
        · exact .inl (hdg c (List.mem_of_mem_drop h))
    · exact .inl (hdg c hcm)
  have hr0 : rs ≠ [] := by
    intro e; rw [e] at hc
    have := congrArg (fun q => q.1) hc
    exact ha0 this.symm
  have hrl : isDig (rs.getLast hr0) = true := by
    by_cases hb : 0 < bh
    · have hbn : b ≠ [] := fun e => by have := hb0 e; omega
      have e : rs = a ++ 46 :: b := by
        have hj := cutB_join 46 rs
        rw [hc] at hj
        simpa [hb] using hj
      have e2 : rs.getLast hr0 = b.getLast hbn := by
        simp only [e]
        rw [List.getLast_append_of_ne_nil _ (List.cons_ne_nil _ _), List.getLast_cons hbn]
      rw [e2]
      exact hdg _ (by rw [← hab]; exact List.mem_append_right _ (List.getLast_mem hbn))
    · have e : rs = ps := by rw [hrs, if_neg hb]
      exact hdg _ (by rw [← e]; exact List.getLast_mem hr0)
  have hrh : ∃ c t, rs = c :: t ∧ isDig c = true := by
    cases ha : a with
    | nil => exact absurd ha ha0
    | cons c t =>
      have hj := cutB_join 46 rs
      rw [hc, ha] at hj
      exact ⟨c, _, hj, hdg c (by rw [← hab, ha]; simp)⟩
  obtain ⟨c, t, hct, hcd⟩ := hrh
  have htp : ∀ d ∈ tp, d ≠ 47 := by
    intro d hdm e
    subst e
    simp only [pfxs, List.mem_cons, Prod.mk.injEq, List.not_mem_nil, or_false] at hp
    rcases hp with ⟨rfl, rfl⟩ | ⟨rfl, rfl⟩ | ⟨rfl, rfl⟩ | ⟨rfl, rfl⟩ | ⟨rfl, rfl⟩ | ⟨rfl, rfl⟩ | ⟨rfl, rfl⟩ | ⟨rfl, rfl⟩ | ⟨rfl, rfl⟩ | ⟨rfl, rfl⟩ <;> simp at hdm
  have hsl : (47 : UInt8) ∉ ((if x.num < 0 then [45] else []) ++ rs ++ tp) := by
    intro h
    rcases List.mem_append.1 h with h | h
    · rcases List.mem_append.1 h with h | h
      · split at h <;> simp at h
      · rcases hrm _ h with h | h
        · exact absurd h (by decide)
        · exact absurd h (by decide)
    · exact htp _ h rfl
  refine ⟨hsl, ?_⟩
  unfold readA
  rw [if_neg hsl]
  have hsr := sign_rest (decide (x.num < 0)) c (t ++ tp) hcd
  have hsp : (if x.num < 0 then [45] else []) ++ rs ++ tp = (if decide (x.num < 0) = true then [45] else []) ++ c :: (t ++ tp) := by
    rw [hct]; simp
  rw [hsp, hsr.1, hsr.2]
  have e3 : c :: (t ++ tp) = rs ++ tp := by rw [hct]; rfl
  rw [e3]
  unfold readS
  have hpl := pfxL_at rs hr0 hrl (tp, kp) hp
  dsimp only at hpl
  rw [hpl]
  dsimp only
  rw [hc]
  dsimp only
  have hda : digB a = true := digB_of (fun d hd => hdg d (by rw [← hab]; exact List.mem_append_left _ hd)) ha0
  rw [if_neg (by
    rintro (h | ⟨h1, h2⟩)
    · rw [hda] at h; cases h
    · have hb : 0 < bh := by simpa using h1
      have hbn : b ≠ [] := fun e => by have := hb0 e; omega
      rw [digB_of (fun d hd => hdg d (by rw [← hab]; exact List.mem_append_right _ hd)) hbn] at h2
      cases h2)]
  rw [if_neg (by rw [← List.length_append, hab]; omega), hab, hn, hbl, tens_t10]
  have hA : absQ x = ((mm.num.natAbs : Nat) : Rat) * T10 (kp - bh) := by
    have h0 : 0 ≤ mm.num := by rw [hmm]; exact mul_num_nonneg (abs_nonneg x) (t10_pos _)
    rw [← whole_nat hd h0, hmm, Rat.mul_assoc, ← t10_add, show ((bh : Int) - kp + (kp - bh)) = 0 by omega, t10_zero, Rat.mul_one]
  congr 1
  rw [rat_sign]
  conv => rhs; rw [abs_sign x, hA]
  by_cases hx : x.num < 0
  · simp [hx, Rat.neg_mul]
  · simp [hx]
theorem read_text (x : Rat) (h : (readA (txt x)).1 = 0) : (readA (txt x)).2 = x := by
  have hp := parse_txt x
  unfold readA at h ⊢
  by_cases h47 : (47 : UInt8) ∈ txt x
  · rw [if_pos h47, hp] at h ⊢
    by_cases hL : longQ x
    · rw [if_pos hL] at h; exact absurd h (by decide)
    · rw [if_neg hL]
  · rw [if_neg h47] at h ⊢
    obtain ⟨e1, e2⟩ := txt_parts x
    have hd : x.den = 1 := by
      apply Classical.byContradiction
      intro hd
      apply h47
      unfold txt
      rw [if_neg hd]; simp
    rw [if_pos hd, List.append_nil] at e2
    rw [e1, e2] at h ⊢
    unfold readS at h ⊢
    have hdg := dec_isDig x.num.natAbs
    have hne := dec_ne_nil x.num.natAbs
    have hpl := pfxL_none (decDigits x.num.natAbs) hne (hdg _ (List.getLast_mem hne))
    rw [hpl] at h ⊢
    dsimp only at h ⊢
    rw [cutB_no _ _ (dig_not hdg 46 (by decide))] at h ⊢
    dsimp only at h ⊢
    rw [if_neg (by rw [digB_of hdg hne]; simp)] at h ⊢
    by_cases hL : 400 < (decDigits x.num.natAbs).length + ([] : List UInt8).length
    · rw [if_pos hL] at h; exact absurd h (by decide)
    · rw [if_neg hL, List.append_nil, natOf_dec, tens_t10]
      have hs := rat_self x
      rw [hd] at hs
      rw [hs]
      show x * T10 0 = x
      rw [t10_zero, Rat.mul_one]
theorem show_cases (x : Rat) : showS x = txt x ∨ ((47 : UInt8) ∉ showS x ∧ readA (showS x) = (0, x)) := by
  by_cases h0 : x = 0
  · left
    subst h0
    unfold showS txt
    rw [if_pos rfl]
    show [48] = (if (0 : Rat).num < 0 then [45] else []) ++ decDigits 0 ++ (if (0 : Rat).den = 1 then [] else _)
    rw [dec_zero]; rfl
  unfold showS
  rw [if_neg h0]
  obtain ⟨⟨tp, kp⟩, hp⟩ : ∃ p, p = pickP (absQ x) ([102], -15) pfxs.tail := ⟨_, rfl⟩
  have hm : (tp, kp) ∈ pfxs := by
    rw [hp]
    rcases pick_mem (absQ x) ([102], -15) pfxs.tail with h | h
    · rw [h]; exact List.mem_cons_self ..
    · exact List.mem_of_mem_tail h
  rw [← hp]
  dsimp only
  obtain ⟨h1, -, -⟩ := point_spec 12 (tensQ (absQ x) (-kp)) 0
  obtain ⟨⟨mm, bh⟩, hr⟩ : ∃ r, r = pointL 12 (tensQ (absQ x) (-kp)) 0 := ⟨_, rfl⟩
  rw [← hr] at h1 ⊢
  dsimp only at h1 ⊢
  by_cases hc : ¬ mm.den = 1 ∨ 400 < (padS bh (decDigits mm.num.natAbs)).length
  · rw [if_pos hc]; exact .inl rfl
  · rw [if_neg hc]
    right
    have hd : mm.den = 1 := Classical.byContradiction fun h => hc (.inl h)
    have hl : (padS bh (decDigits mm.num.natAbs)).length ≤ 400 := by
      have : ¬ 400 < (padS bh (decDigits mm.num.natAbs)).length := fun h => hc (.inr h)
      omega
    refine short_read x tp kp mm bh _ hm ?_ hd rfl hl
    rw [h1, tens_t10, Rat.mul_assoc, ← t10_add]
    congr 2
    show -kp + ((bh : Int) - (0 : Nat)) = bh - kp
    omega
theorem read_show (x : Rat) (h : (readA (showS x)).1 = 0) : (readA (showS x)).2 = x := by
  rcases show_cases x with e | ⟨-, e⟩
  · rw [e] at h ⊢; exact read_text x h
  · rw [e]
theorem show_inj (v w : List UInt8) (hv : (parseS v).1 = 0) (hw : (parseS w).1 = 0) (h : showS (parseS v).2 = showS (parseS w).2) : v = w := by
  have key : ∀ x y : Rat, showS x = showS y → ((47 : UInt8) ∉ showS x ∧ readA (showS x) = (0, x)) → x = y := fun x y e ⟨_, k⟩ => by
    have hy := read_show y (by rw [← e, k])
    rw [← e, k] at hy
    exact hy
  have t1 := txt_parse v hv
  have t2 := txt_parse w hw
  rcases show_cases (parseS v).2 with e1 | e1
  · rcases show_cases (parseS w).2 with e2 | e2
    · rw [← t1, ← t2, ← e1, ← e2, h]
    · rw [← t1, ← t2, key _ _ h.symm e2]
  · rw [← t1, ← t2, key _ _ h e1]
end Go.Proofs.YtpgdefgdboijlaaGreatDoor
namespace Go.Proofs.YtpgdefgdboijlaaGreatDoor
open Go.RowKit
set_option linter.unusedVariables false
set_option maxRecDepth 100000 in
set_option maxHeartbeats 4000000 in
theorem check_c (l : List UInt8) (hs : l.length ≤ 9223372036854775807) (w : World) :
    Calls Tryz.prog 41 #[.string ⟨l.toArray⟩] w fun e w' => e = .returned (.int .i64 (parseS l).1) ∧ Ext w w' := by
  have PP := Lib.hid (parse_c l hs)
  unfold ParseR at PP
  go_enter Tryz.func41, Tryz.ntmps41
  go_wp2_with fail
  refine (PP.out _).mono ?_
  rintro e w1 ⟨v1, rfl, h1, k1⟩
  obtain ⟨b1, A, k, ca, B, l1, cb, rfl⟩ := h1.form2
  go_wp2_with fail
  go_ret
  exact ⟨rfl, ext_trans k1 (ext_alloc _ _)⟩
set_option maxRecDepth 100000 in
set_option maxHeartbeats 4000000 in
theorem digits_q (M : Nat) (hM : M ≤ 1099511627776) (vx : Value) (x : Rat) (w : World) (hx : Nm w vx x) (bx : Bq M x) (htab : Tens w) :
    Calls Tryz.prog 43 #[vx] w fun e w' => e = .returned (.int .i64 (max ((Lib.decDigits x.num.natAbs).length : Int) ((Lib.decDigits x.den).length : Int))) ∧ Ext w w' := by
  have HT := Lib.hid htab
  have BX1 := Lib.hid bx.1
  have BX2 := Lib.hid bx.2
  have HM := Lib.hid hM
  obtain ⟨A, k, ca, B, l, cb, rfl, hxn, hxd, hkx, hlx⟩ := hx.form
  have Hx := Lib.hid hx
  have Hxn := Lib.hid hxn
  generalize hbx : decide (x.num < 0) = b1 at *
  clear hbx hx hxn hxd hkx hlx bx hM htab
  obtain ⟨hS, -, hw1, -⟩ := setup1 w (.bool b1) (.slice A k ca) (.slice B l cb)
  have HS := Lib.hid hS
  have hww := Lib.hid hw1
  have HW2 := Lib.hid (ext_refl (w.alloc (.cells #[.bool b1, .slice A k ca, .slice B l cb] 25)))
  clear hS hw1
  obtain ⟨dl, hdl⟩ : ∃ d, d = Lib.decDigits x.num.natAbs := ⟨_, rfl⟩
  obtain ⟨dd, hdd⟩ : ∃ d, d = Lib.decDigits x.den := ⟨_, rfl⟩
  have HDL := Lib.hid hdl
  have HDD := Lib.hid hdd
  rw [← hdl, ← hdd]
  clear hdl hdd
  go_enter Tryz.func43, Tryz.ntmps43
  go_wp2_with fail
  generalize World.alloc w (.cells #[.bool b1, .slice A k ca, .slice B l cb] _) = W2 at *
  generalize w.heap.size = g0 at *
  have hx0 := Lib.hid (ext_refl W2)
  have hS0 := HS.out _ (ext_trans HW2.out hx0.out)
  have e1 := Lib.hid (ext_drew W2)
  have hx1 := Lib.hid (ext_trans hx0.out e1.out)
  go_region_held3 (fun W => W.cell? ⟨g0, 0, none⟩ = some (.bool b1) ∧ W.cell? ⟨g0, 1, none⟩ = some (.slice A k ca) ∧ W.cell? ⟨g0, 2, none⟩ = some (.slice B l cb))
    (first
      | exact HS.out _ (ext_trans HW2.out hx4.out)
      | exact HS.out _ (ext_trans HW2.out hx3.out)
      | exact HS.out _ (ext_trans HW2.out hx2.out)
      | exact HS.out _ (ext_trans HW2.out hx1.out))
    (first
      | (have _q := hx3
         go_at_call 120
         refine (row_c M HM.out _ x.den _ H3.out BX2.out (HT.out.mono (ext_trans hww.out hx3.out))).mono ?_
         clear _q
         rintro e w3 ⟨rfl, k4⟩
         rw [← HDD.out]
         have e4 := Lib.hid k4
         have hx4 := Lib.hid (ext_trans hx3.out k4)
         clear k4)
      | (have _q := hx2
         go_at_call 115
         refine (under_c _ x _ (Hx.out.mono (ext_trans hww.out hx2.out))).mono ?_
         clear _q
         rintro e w2 ⟨vv, rfl, h3, k3⟩
         obtain ⟨P9, p9, c9, rfl⟩ := h3.form'
         have H3 := Lib.hid h3
         clear h3
         have e3 := Lib.hid k3
         have hx3 := Lib.hid (ext_trans hx2.out k3)
         clear k3)
      | (have _q := hx1
         go_at_call 120
         refine (row_c M HM.out _ x.num.natAbs _ (Hxn.out.mono (ext_trans hww.out hx1.out)) BX1.out (HT.out.mono (ext_trans hww.out hx1.out))).mono ?_
         clear _q
         rintro e w1 ⟨rfl, k2⟩
         rw [← HDL.out]
         have e2 := Lib.hid k2
         have hx2 := Lib.hid (ext_trans hx1.out k2)
         clear k2))
  all_goals
    go_wp2_with fail
    go_ret
    exact ⟨rfl, ext_trans hww.out hx4.out⟩
set_option maxRecDepth 100000 in
set_option maxHeartbeats 4000000 in
theorem slash_c (l : List UInt8) (hs : l.length ≤ 9223372036854775807) (w : World) :
    Calls Tryz.prog 54 #[.string ⟨l.toArray⟩] w fun e w' => e = .returned (.bool (decide ((47 : UInt8) ∈ l))) ∧ Ext w w' := by
  have hsz : (⟨l.toArray⟩ : ByteArray).size = l.length := by simp [ByteArray.size]
  go_enter Tryz.func54, Tryz.ntmps54
  go_wp2_with fail
  go_loopg [3] (l.length) (fun k i wr => ∃ c : Nat, c + k = l.length ∧ i = .int .i64 (c : Int) ∧ Hid ((47 : UInt8) ∉ l.take c) ∧ wr = w)
  case atStart => exact ⟨0, by omega, rfl, Lib.hid (by simp), rfl⟩
  case round =>
    obtain ⟨c, hc, rfl, HN, rfl⟩ := hrel
    rcases Nat.eq_zero_or_pos gk with hz | hz
    · subst hz
      obtain rfl : c = l.length := by omega
      have hno := HN.out
      rw [List.take_length] at hno
      have HNO := Lib.hid hno
      clear hno
      go_wp2_with fail
      go_ret
      exact ⟨by rw [decide_eq_false HNO.out]; rfl, ext_refl _⟩
    · have hlt : (c : Int) < (l.length : Int) := by omega
      have hcl : c < l.length := by omega
      have hz1 : c < (⟨l.toArray⟩ : ByteArray).size := by rw [hsz]; exact hcl
      have hge : (⟨l.toArray⟩ : ByteArray)[c]'hz1 = l[c] := by rfl
      have HC := Lib.hid hc
      have HZ0 := Lib.hid hz
      by_cases hb : l[c] = 47
      · have ht : ((((⟨l.toArray⟩ : ByteArray)[c]'hz1).toNat : Int) == 47) = true := by rw [hge, hb]; rfl
        have HM := Lib.hid (show (47 : UInt8) ∈ l by rw [← hb]; exact List.getElem_mem _)
        clear hb hge
        go_wp2_with fail
        go_ret
        exact ⟨by rw [decide_eq_true HM.out]; rfl, ext_refl _⟩
      · have ht : ((((⟨l.toArray⟩ : ByteArray)[c]'hz1).toNat : Int) == 47) = false := by
          rw [hge, beq_eq_false_iff_ne]
          intro e
          apply hb
          apply UInt8.toNat_inj.1
          have e47 : (47 : UInt8).toNat = 47 := rfl
          omega
        have HB := Lib.hid hb
        have HL := Lib.hid hcl
        clear hb hge
        go_wp2_with fail
        go_roundg (gk - 1)
        case measure => have := HZ0.out; omega
        case rel =>
          refine ⟨c + 1, by have := HC.out; have := HZ0.out; omega, by go_num, Lib.hid ?_, rfl⟩
          rw [List.take_succ_eq_append_getElem HL.out]
          intro h
          rcases List.mem_append.1 h with h | h
          · exact HN.out h
          · exact HB.out (List.mem_singleton.1 h).symm
end Go.Proofs.YtpgdefgdboijlaaGreatDoor
