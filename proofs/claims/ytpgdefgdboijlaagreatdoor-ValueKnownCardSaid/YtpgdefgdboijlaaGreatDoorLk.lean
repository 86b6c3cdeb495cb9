/- Plain facts on the document's examples. Printed by gen_pk.py. The examples of the document: the walk. Printed by gen_lk.py. -/
import Derived.Test.YtpgdefgdboijlaaGreatDoorVd
import Derived.Test.YtpgdefgdboijlaaGreatDoorPt
import Derived.Test.YtpgdefgdboijlaaGreatDoorPi
import Derived.Test.YtpgdefgdboijlaaGreatDoorVt
import Derived.Test.YtpgdefgdboijlaaGreatDoorTx
import Derived.Test.YtpgdefgdboijlaaGreatDoorVe
namespace Go.Proofs.YtpgdefgdboijlaaGreatDoor
set_option linter.unusedVariables false
theorem txt_of (l : List UInt8) (x : Rat) (h : parseS l = (0, x)) : txt x = l := by
  have := txt_parse l (by rw [h])
  rw [h] at this; exact this
/-- the short text of a number, step by step -/
theorem show_of (x : Rat) (p : List UInt8 × Int) (m : Rat) (b : Nat) (ds r : List UInt8) (h0 : (x == 0) = false) (hp : pickP (absQ x) ([102], -15) pfxs.tail = p)
    (hm : pointL 12 (tensQ (absQ x) (-p.2)) 0 = (m, b)) (hd : m.den = 1) (hds : m.num.natAbs = natOf ds) (h1 : ds.all isDig = true) (h2 : ds.isEmpty = false) (h3 : (ds.head? == some 48) = false ∨ ds.length = 1)
    (hl : decide ((padS b ds).length ≤ 400) = true)
    (hr : (if x.num < 0 then [45] else []) ++ (if 0 < b then (padS b ds).take ((padS b ds).length - b) ++ 46 :: (padS b ds).drop ((padS b ds).length - b) else padS b ds) ++ p.1 = r) : showS x = r := by
  have hdd : Lib.decDigits m.num.natAbs = ds := by
    rw [hds]
    refine dec_natOf ds (List.all_eq_true.1 h1) (by intro e; rw [e] at h2; cases h2) ?_
    rcases h3 with h3 | h3
    · left; intro e; rw [e] at h3; simp at h3
    · exact .inr h3
  have h0' : x ≠ 0 := by rw [beq_eq_false_iff_ne] at h0; exact h0
  have hl' := of_decide_eq_true hl
  unfold showS
  rw [if_neg h0', hp]
  dsimp only
  rw [hm]
  dsimp only
  rw [hdd, if_neg (by intro h; rcases h with h | h; exact h hd; omega)]
  exact hr
theorem show_as_text (x : Rat) (l : List UInt8) (p : List UInt8 × Int) (m : Rat) (b : Nat) (h0 : (x == 0) = false) (ht : parseS l = (0, x)) (hp : pickP (absQ x) ([102], -15) pfxs.tail = p)
    (hm : pointL 12 (tensQ (absQ x) (-p.2)) 0 = (m, b)) (hd : (m.den == 1) = false) : showS x = l := by
  have h0' : x ≠ 0 := by rw [beq_eq_false_iff_ne] at h0; exact h0
  rw [beq_eq_false_iff_ne] at hd
  unfold showS
  rw [if_neg h0', hp]
  dsimp only
  rw [hm]
  dsimp only
  rw [if_pos (.inl hd)]
  exact txt_of l x ht
theorem kb0 : (parseS [54, 47, 56]).1 = 6 := by kernel_rfl
theorem kb1 : (parseS [45, 48]).1 = 6 := by kernel_rfl
theorem kb2 : (parseS [48, 53]).1 = 6 := by kernel_rfl
theorem kb3 : (parseS [51, 47, 49]).1 = 6 := by kernel_rfl
theorem kb4 : (parseS [48, 47, 51]).1 = 6 := by kernel_rfl
theorem kb5 : (parseS [43, 49]).1 = 6 := by kernel_rfl
theorem kb6 : (parseS [49, 47]).1 = 6 := by kernel_rfl
theorem kn0 : (readA [46, 53]).1 = 6 := by kernel_rfl
theorem kn1 : (readA [49, 46]).1 = 6 := by kernel_rfl
theorem kn2 : (readA [50, 75]).1 = 6 := by kernel_rfl
theorem kn3 : (readA [49, 101, 51]).1 = 6 := by kernel_rfl
theorem kn4 : (readA [51, 32, 107]).1 = 6 := by kernel_rfl
theorem kr0 : (readA [52, 46, 55, 107]).1 = 0 ∧ txt (readA [52, 46, 55, 107]).2 = [52, 55, 48, 48] := by
  have e : readA [52, 46, 55, 107] = (0, 4700) := by kernel_rfl
  rw [e]
  exact ⟨rfl, txt_of _ _ (by kernel_rfl)⟩
theorem kr1 : (readA [45, 49, 48, 48, 110]).1 = 0 ∧ txt (readA [45, 49, 48, 48, 110]).2 = [45, 49, 47, 49, 48, 48, 48, 48, 48, 48, 48] := by
  have e : readA [45, 49, 48, 48, 110] = (0, -1/10000000) := by kernel_rfl
  rw [e]
  exact ⟨rfl, txt_of _ _ (by kernel_rfl)⟩
theorem kr2 : (readA [48, 48, 55]).1 = 0 ∧ txt (readA [48, 48, 55]).2 = [55] := by
  have e : readA [48, 48, 55] = (0, 7) := by kernel_rfl
  rw [e]
  exact ⟨rfl, txt_of _ _ (by kernel_rfl)⟩
theorem kr3 : (readA [48, 46, 48, 48, 55, 107]).1 = 0 ∧ txt (readA [48, 46, 48, 48, 55, 107]).2 = [55] := by
  have e : readA [48, 46, 48, 48, 55, 107] = (0, 7) := by kernel_rfl
  rw [e]
  exact ⟨rfl, txt_of _ _ (by kernel_rfl)⟩
theorem kr4 : (readA [49, 47, 51]).1 = 0 ∧ txt (readA [49, 47, 51]).2 = [49, 47, 51] := by
  have e : readA [49, 47, 51] = (0, 1/3) := by kernel_rfl
  rw [e]
  exact ⟨rfl, txt_of _ _ (by kernel_rfl)⟩
theorem ks0 : showS (parseS [52, 55, 48, 48]).2 = [52, 46, 55, 107] := by
  rw [show parseS [52, 55, 48, 48] = (0, 4700) by kernel_rfl]
  exact show_of (4700) ([107], 3) 47 1 [52, 55] _ (by kernel_rfl) (by kernel_rfl) (by kernel_rfl) (by kernel_rfl) (by kernel_rfl) (by kernel_rfl) (by kernel_rfl) (.inl (by kernel_rfl)) (by kernel_rfl) (by kernel_rfl)
theorem ks1 : showS (parseS [49, 47, 51]).2 = [49, 47, 51] := by
  rw [show parseS [49, 47, 51] = (0, 1/3) by kernel_rfl]
  exact show_as_text (1/3) [49, 47, 51] ([109], -3) (1000000000000000/3) 12 (by kernel_rfl) (by kernel_rfl) (by kernel_rfl) (by kernel_rfl) (by kernel_rfl)
theorem ks2 : showS (parseS [45, 49, 47, 49, 48, 48, 48, 48, 48, 48, 48]).2 = [45, 49, 48, 48, 110] := by
  rw [show parseS [45, 49, 47, 49, 48, 48, 48, 48, 48, 48, 48] = (0, -1/10000000) by kernel_rfl]
  exact show_of (-1/10000000) ([110], -9) 100 0 [49, 48, 48] _ (by kernel_rfl) (by kernel_rfl) (by kernel_rfl) (by kernel_rfl) (by kernel_rfl) (by kernel_rfl) (by kernel_rfl) (.inl (by kernel_rfl)) (by kernel_rfl) (by kernel_rfl)
theorem ks3 : showS (parseS [49, 48, 48, 48]).2 = [49, 107] := by
  rw [show parseS [49, 48, 48, 48] = (0, 1000) by kernel_rfl]
  exact show_of (1000) ([107], 3) 1 0 [49] _ (by kernel_rfl) (by kernel_rfl) (by kernel_rfl) (by kernel_rfl) (by kernel_rfl) (by kernel_rfl) (by kernel_rfl) (.inl (by kernel_rfl)) (by kernel_rfl) (by kernel_rfl)
theorem ks4 : showS (parseS [57, 57, 57]).2 = [57, 57, 57] := by
  rw [show parseS [57, 57, 57] = (0, 999) by kernel_rfl]
  exact show_of (999) ([], 0) 999 0 [57, 57, 57] _ (by kernel_rfl) (by kernel_rfl) (by kernel_rfl) (by kernel_rfl) (by kernel_rfl) (by kernel_rfl) (by kernel_rfl) (.inl (by kernel_rfl)) (by kernel_rfl) (by kernel_rfl)
theorem ks5 : showS (parseS [49, 47, 50, 48, 48, 48, 48, 48, 48, 48, 48, 48, 48, 48, 48, 48, 48, 48]).2 = [48, 46, 53, 102] := by
  rw [show parseS [49, 47, 50, 48, 48, 48, 48, 48, 48, 48, 48, 48, 48, 48, 48, 48, 48, 48] = (0, 1/2000000000000000) by kernel_rfl]
  exact show_of (1/2000000000000000) ([102], -15) 5 1 [53] _ (by kernel_rfl) (by kernel_rfl) (by kernel_rfl) (by kernel_rfl) (by kernel_rfl) (by kernel_rfl) (by kernel_rfl) (.inl (by kernel_rfl)) (by kernel_rfl) (by kernel_rfl)
theorem ks6 : showS (parseS [49, 48, 48, 48, 48, 48, 48, 48, 48, 48, 48, 48, 48, 48, 48, 48, 48, 48, 48]).2 = [49, 48, 48, 48, 48, 48, 48, 84] := by
  rw [show parseS [49, 48, 48, 48, 48, 48, 48, 48, 48, 48, 48, 48, 48, 48, 48, 48, 48, 48, 48] = (0, 1000000000000000000) by kernel_rfl]
  exact show_of (1000000000000000000) ([84], 12) 1000000 0 [49, 48, 48, 48, 48, 48, 48] _ (by kernel_rfl) (by kernel_rfl) (by kernel_rfl) (by kernel_rfl) (by kernel_rfl) (by kernel_rfl) (by kernel_rfl) (.inl (by kernel_rfl)) (by kernel_rfl) (by kernel_rfl)
theorem ks7 : showS (parseS [48]).2 = [48] := by
  rw [show parseS [48] = (0, 0) by kernel_rfl]
  show showS 0 = _
  unfold showS; rw [if_pos rfl]
theorem ks8 : showS (parseS [49, 47, 49, 48, 50, 52]).2 = [57, 55, 54, 46, 53, 54, 50, 53, 117] := by
  rw [show parseS [49, 47, 49, 48, 50, 52] = (0, 1/1024) by kernel_rfl]
  exact show_of (1/1024) ([117], -6) 9765625 4 [57, 55, 54, 53, 54, 50, 53] _ (by kernel_rfl) (by kernel_rfl) (by kernel_rfl) (by kernel_rfl) (by kernel_rfl) (by kernel_rfl) (by kernel_rfl) (.inl (by kernel_rfl)) (by kernel_rfl) (by kernel_rfl)
theorem kv1 : ((1 : Int) : Rat) / ((3 : Int) : Rat) = 1/3 := by kernel_rfl
theorem kv2 : roundQ (1/3) 3 (decide ((1/3 : Rat).num < 0)) = 5/16 := by kernel_rfl
theorem kv3 : roundQ 7 2 (!decide ((7 : Rat).num < 0)) = 8 := by kernel_rfl
theorem kv4 : mulS (-1) 2 (-3) 5 = (-6, 10) := by kernel_rfl
theorem kt1 : txt (5/16) = [53, 47, 49, 54] := txt_of _ _ (by kernel_rfl)
theorem kt2 : txt 8 = [56] := txt_of _ _ (by kernel_rfl)
theorem kt3 : txt (-6) = [45, 54] := txt_of _ _ (by kernel_rfl)
theorem kt4 : txt 10 = [49, 48] := txt_of _ _ (by kernel_rfl)
end Go.Proofs.YtpgdefgdboijlaaGreatDoor
namespace Go.Proofs.YtpgdefgdboijlaaGreatDoor
open Go.RowKit
set_option linter.unusedVariables false
theorem check_e (l : List UInt8) (hs : l.length ≤ 100) (k : Int) (h : (parseS l).1 = k) (w : World) :
    Calls Tryz.prog 41 #[.string ⟨l.toArray⟩] w fun e w' => e = .returned (.int .i64 k) ∧ Ext w w' := by
  subst h; exact check_c l (Nat.le_trans hs (by decide)) w
theorem read_e (l : List UInt8) (hs : l.length ≤ 100) (k : Int) (h : (readA l).1 = k) (w : World) (ht : Tab w) :
    Calls Tryz.prog 16 #[.string ⟨l.toArray⟩] w fun e w' => ∃ v, e = .returned (.tuple #[v, .int .i64 k]) ∧ Nm w' v (readA l).2 ∧ Ext w w' := by
  subst h; exact read_c l (Nat.le_trans hs (by decide)) w ht.1
theorem parse_e (l : List UInt8) (hs : l.length ≤ 100) (w : World) :
    Calls Tryz.prog 39 #[.string ⟨l.toArray⟩] w fun e w' => ∃ v, e = .returned (.tuple #[v, .int .i64 (parseS l).1]) ∧ Nm w' v (parseS l).2 ∧ Ext w w' := parse_c l (Nat.le_trans hs (by decide)) w
theorem kernel_i1 : ((-1 : Int) : Rat) = -1 := by kernel_rfl
theorem kernel_i2 : ((2 : Int) : Rat) = 2 := by kernel_rfl
theorem kernel_i3 : ((-3 : Int) : Rat) = -3 := by kernel_rfl
theorem kernel_i5 : ((5 : Int) : Rat) = 5 := by kernel_rfl
theorem kernel_ii1 : ((1 : Int) : Rat) = 1 := by kernel_rfl
theorem kernel_i33 : ((3 : Int) : Rat) = 3 := by kernel_rfl
theorem kernel_i7 : ((7 : Int) : Rat) = 7 := by kernel_rfl
theorem int_v (z : Int) (q : Rat) (h : (z : Rat) = q) (h1 : -9223372036854775808 ≤ z) (h2 : z < 9223372036854775808) (w : World) :
    Calls Tryz.prog 24 #[.int .i64 z] w fun e w' => ∃ v, e = .returned v ∧ Nm w' v q ∧ Ext w w' := by
  subst h; exact int_q z h1 h2 w
theorem ratio_v (w : World) :
    Calls Tryz.prog 20 #[.int .i64 1, .int .i64 3] w fun e w' => ∃ v, e = .returned (.tuple #[v, .int .i64 0]) ∧ Nm w' v (1/3) ∧ Ext w w' := by
  have h := ratio_q 1 3 (by decide) (by decide) (by decide) (by decide) (by decide) w
  rw [kv1] at h
  exact h
theorem bq_of (x : Rat) (h : decide (x.num.natAbs < 18446744073709551616) && decide (x.den < 18446744073709551616) = true) : Bq 64 x := by
  simp only [Bool.and_eq_true, decide_eq_true_eq] at h
  exact ⟨by rw [show (2 : Nat) ^ 64 = 18446744073709551616 by decide]; exact h.1, by rw [show (2 : Nat) ^ 64 = 18446744073709551616 by decide]; exact h.2⟩
theorem bqk0 : Bq 64 (1/3 : Rat) := bq_of _ (by kernel_rfl)
theorem bqk1 : Bq 64 (5/16 : Rat) := bq_of _ (by kernel_rfl)
theorem bqk2 : Bq 64 (8 : Rat) := bq_of _ (by kernel_rfl)
theorem bqk3 : Bq 64 (-6 : Rat) := bq_of _ (by kernel_rfl)
theorem bqk4 : Bq 64 (10 : Rat) := bq_of _ (by kernel_rfl)
theorem bqk5 : Bq 64 (-1 : Rat) := bq_of _ (by kernel_rfl)
theorem bqk6 : Bq 64 (2 : Rat) := bq_of _ (by kernel_rfl)
theorem bqk7 : Bq 64 (-3 : Rat) := bq_of _ (by kernel_rfl)
theorem bqk8 : Bq 64 (5 : Rat) := bq_of _ (by kernel_rfl)
theorem bqk9 : Bq 64 (0 : Rat) := bq_of _ (by kernel_rfl)
theorem bqk10 : Bq 64 (1 : Rat) := bq_of _ (by kernel_rfl)
theorem bqk11 : Bq 64 (3 : Rat) := bq_of _ (by kernel_rfl)
theorem bqk12 : Bq 64 (7 : Rat) := bq_of _ (by kernel_rfl)
theorem mul_v (va vb : Value) (w : World) (ha : Sp w va (-1) 2) (hb : Sp w vb (-3) 5) :
    Calls Tryz.prog 67 #[va, vb] w fun e w' => ∃ v, e = .returned v ∧ Sp w' v (-6) 10 ∧ Ext w w' := by
  have h := mulS_c 64 (by decide) va vb (-1) 2 (-3) 5 w ha hb bqk5 bqk6 bqk7 bqk8
  rw [kv4] at h
  exact h
theorem kv5 : (!decide (minQ (sortQ 0 1).2 (sortQ 3 2).2 < maxQ (sortQ 0 1).1 (sortQ 3 2).1)) = false := by kernel_rfl
theorem meet_v (va vb : Value) (w : World) (ha : Sp w va 0 1) (hb : Sp w vb 3 2) :
    Calls Tryz.prog 68 #[va, vb] w fun e w' => ∃ v, e = .returned (.tuple #[v, .bool false]) ∧ Sp w' v (meetQ (sortQ 0 1) (sortQ 3 2)).1 (meetQ (sortQ 0 1) (sortQ 3 2)).2 ∧ Ext w w' := by
  have h := meet_c 64 (by decide) va vb 0 1 3 2 w ha hb bqk9 bqk10 bqk11 bqk6
  rw [kv5] at h
  exact h
theorem down_v (vx : Value) (w : World) (hx : Nm w vx (1/3)) :
    Calls Tryz.prog 31 #[vx, .int .i64 3] w fun e w' => ∃ v, e = .returned v ∧ Nm w' v (5/16) ∧ Ext w w' := by
  have h := down_q 64 (by decide) 3 vx (1/3) w hx bqk0
  rw [kv2] at h
  exact h
theorem up_v (vx : Value) (w : World) (hx : Nm w vx 7) :
    Calls Tryz.prog 33 #[vx, .int .i64 2] w fun e w' => ∃ v, e = .returned v ∧ Nm w' v 8 ∧ Ext w w' := by
  have h := up_q 64 (by decide) 2 vx 7 w hx bqk12
  rw [kv3] at h
  exact h
set_option maxRecDepth 100000 in
set_option maxHeartbeats 8000000 in
theorem known_c (w : World) (ht : Tab w) :
    Calls Tryz.prog 13 #[] w fun e w' => e = .returned (.bool true) ∧ Ext w w' := by
  have HT := Lib.hid ht
  clear ht
  go_enter Tryz.func13, Tryz.ntmps13
  go_upto_region 3 with (fail)
  have RF1 := Lib.hid (show (World.alloc w (.cells #[.string ⟨#[54, 47, 56]⟩, .string ⟨#[45, 48]⟩, .string ⟨#[48, 53]⟩, .string ⟨#[51, 47, 49]⟩, .string ⟨#[48, 47, 51]⟩, .string ⟨#[43, 49]⟩, .string ⟨#[49, 47]⟩] 9)).heap[w.heap.size]? = some (.cells #[.string ⟨#[54, 47, 56]⟩, .string ⟨#[45, 48]⟩, .string ⟨#[48, 53]⟩, .string ⟨#[51, 47, 49]⟩, .string ⟨#[48, 47, 51]⟩, .string ⟨#[43, 49]⟩, .string ⟨#[49, 47]⟩] 9 (0, 0)) from heap_alloc_new w _)
  have EF1 := Lib.hid (ext_alloc w (.cells #[.string ⟨#[54, 47, 56]⟩, .string ⟨#[45, 48]⟩, .string ⟨#[48, 53]⟩, .string ⟨#[51, 47, 49]⟩, .string ⟨#[48, 47, 51]⟩, .string ⟨#[43, 49]⟩, .string ⟨#[49, 47]⟩] 9))
  generalize World.alloc w (.cells #[.string ⟨#[54, 47, 56]⟩, .string ⟨#[45, 48]⟩, .string ⟨#[48, 53]⟩, .string ⟨#[51, 47, 49]⟩, .string ⟨#[48, 47, 51]⟩, .string ⟨#[43, 49]⟩, .string ⟨#[49, 47]⟩] 9) = V1 at *
  generalize w.heap.size = g1 at *
  have F1 := Lib.hid (show ∀ c : Nat, c < 7 → ∃ l : List UInt8, (∀ W' : World, Ext V1 W' → W'.cell? ⟨g1, c, none⟩ = some (.string ⟨l.toArray⟩)) ∧ l.length ≤ 100 ∧ (parseS l).1 = 6 from by
    intro c hc
    have key : ∀ (W' : World), Ext V1 W' → ∀ (n : Nat) (v : Value), #[.string ⟨#[54, 47, 56]⟩, .string ⟨#[45, 48]⟩, .string ⟨#[48, 53]⟩, .string ⟨#[51, 47, 49]⟩, .string ⟨#[48, 47, 51]⟩, .string ⟨#[43, 49]⟩, .string ⟨#[49, 47]⟩][n]? = some v → W'.cell? ⟨g1, n, none⟩ = some v := fun W' h n v hv => by
      rw [cell_of_row W' g1 n _ _ _ ((h.block _ (lt_of_block RF1.out)).trans RF1.out)]; exact hv
    rcases (show c = 0 ∨ c = 1 ∨ c = 2 ∨ c = 3 ∨ c = 4 ∨ c = 5 ∨ c = 6 by omega) with rfl | rfl | rfl | rfl | rfl | rfl | rfl
    · exact ⟨[54, 47, 56], fun W' h => key W' h 0 _ rfl, by decide, kb0⟩
    · exact ⟨[45, 48], fun W' h => key W' h 1 _ rfl, by decide, kb1⟩
    · exact ⟨[48, 53], fun W' h => key W' h 2 _ rfl, by decide, kb2⟩
    · exact ⟨[51, 47, 49], fun W' h => key W' h 3 _ rfl, by decide, kb3⟩
    · exact ⟨[48, 47, 51], fun W' h => key W' h 4 _ rfl, by decide, kb4⟩
    · exact ⟨[43, 49], fun W' h => key W' h 5 _ rfl, by decide, kb5⟩
    · exact ⟨[49, 47], fun W' h => key W' h 6 _ rfl, by decide, kb6⟩
  )
  clear RF1
  go_loopg [2] 7 (fun k i wr => ∃ c : Nat, c + k = 7 ∧ i = .int .i64 (c : Int) ∧ Hid (Ext V1 wr))
  case atStart => exact ⟨0, rfl, rfl, Lib.hid (ext_refl _)⟩
  case round =>
    obtain ⟨c, hc, rfl, HR⟩ := hrel
    rcases Nat.eq_zero_or_pos gk with hz | hz
    rotate_left
    · have hlt : (c : Int) < 7 := by omega
      have hcl : c < 7 := by omega
      obtain ⟨l, hcell, hll, hl⟩ := F1.out c hcl
      have e0 := hcell _ HR.out
      have HC := Lib.hid (check_e l hll 6 hl)
      clear hcell hll hl
      go_wp2_with fail
      refine (HC.out _).mono ?_
      rintro e w1 ⟨rfl, k1⟩
      go_wp2_with fail
      go_roundg (gk - 1)
      case measure => omega
      case rel => exact ⟨c + 1, by omega, by simp, Lib.hid (ext_trans HR.out k1)⟩
    · have hcl : c = 7 := by omega
      subst hcl
      clear hc hz
      have H1 := Lib.hid (ext_trans EF1.out HR.out)
      clear HR F1 EF1
      rename World => U1
      go_upto_region 9 with (fail)
      have RF2 := Lib.hid (show (World.alloc U1 (.cells #[.string ⟨#[46, 53]⟩, .string ⟨#[49, 46]⟩, .string ⟨#[50, 75]⟩, .string ⟨#[49, 101, 51]⟩, .string ⟨#[51, 32, 107]⟩] 9)).heap[U1.heap.size]? = some (.cells #[.string ⟨#[46, 53]⟩, .string ⟨#[49, 46]⟩, .string ⟨#[50, 75]⟩, .string ⟨#[49, 101, 51]⟩, .string ⟨#[51, 32, 107]⟩] 9 (0, 0)) from heap_alloc_new U1 _)
      have EF2 := Lib.hid (ext_alloc U1 (.cells #[.string ⟨#[46, 53]⟩, .string ⟨#[49, 46]⟩, .string ⟨#[50, 75]⟩, .string ⟨#[49, 101, 51]⟩, .string ⟨#[51, 32, 107]⟩] 9))
      generalize World.alloc U1 (.cells #[.string ⟨#[46, 53]⟩, .string ⟨#[49, 46]⟩, .string ⟨#[50, 75]⟩, .string ⟨#[49, 101, 51]⟩, .string ⟨#[51, 32, 107]⟩] 9) = V2 at *
      generalize U1.heap.size = g2 at *
      have F2 := Lib.hid (show ∀ c : Nat, c < 5 → ∃ l : List UInt8, (∀ W' : World, Ext V2 W' → W'.cell? ⟨g2, c, none⟩ = some (.string ⟨l.toArray⟩)) ∧ l.length ≤ 100 ∧ (readA l).1 = 6 from by
        intro c hc
        have key : ∀ (W' : World), Ext V2 W' → ∀ (n : Nat) (v : Value), #[.string ⟨#[46, 53]⟩, .string ⟨#[49, 46]⟩, .string ⟨#[50, 75]⟩, .string ⟨#[49, 101, 51]⟩, .string ⟨#[51, 32, 107]⟩][n]? = some v → W'.cell? ⟨g2, n, none⟩ = some v := fun W' h n v hv => by
          rw [cell_of_row W' g2 n _ _ _ ((h.block _ (lt_of_block RF2.out)).trans RF2.out)]; exact hv
        rcases (show c = 0 ∨ c = 1 ∨ c = 2 ∨ c = 3 ∨ c = 4 by omega) with rfl | rfl | rfl | rfl | rfl
        · exact ⟨[46, 53], fun W' h => key W' h 0 _ rfl, by decide, kn0⟩
        · exact ⟨[49, 46], fun W' h => key W' h 1 _ rfl, by decide, kn1⟩
        · exact ⟨[50, 75], fun W' h => key W' h 2 _ rfl, by decide, kn2⟩
        · exact ⟨[49, 101, 51], fun W' h => key W' h 3 _ rfl, by decide, kn3⟩
        · exact ⟨[51, 32, 107], fun W' h => key W' h 4 _ rfl, by decide, kn4⟩
      )
      have H2 := Lib.hid (ext_trans H1.out EF2.out)
      have TB := Lib.hid (HT.out.mono H2.out)
      clear RF2 EF2 H1
      go_loopg [4] 5 (fun k i wr => ∃ c : Nat, c + k = 5 ∧ i = .int .i64 (c : Int) ∧ Hid (Ext V2 wr))
      case atStart => exact ⟨0, rfl, rfl, Lib.hid (ext_refl _)⟩
      case round =>
        obtain ⟨c, hc, rfl, HR⟩ := hrel
        rcases Nat.eq_zero_or_pos gk with hz | hz
        rotate_left
        · have hlt : (c : Int) < 5 := by omega
          have hcl : c < 5 := by omega
          obtain ⟨l, hcell, hll, hl⟩ := F2.out c hcl
          have e0 := hcell _ HR.out
          have HC := Lib.hid (read_e l hll 6 hl)
          clear hcell hll hl
          go_wp2_with fail
          refine (HC.out _ (TB.out.mono HR.out)).mono ?_
          rintro e w1 ⟨v1, rfl, h1, kk1⟩
          obtain ⟨b1, A1, k1, ca1, B1, l1, cb1, rfl⟩ := h1.form2
          have HR2 := Lib.hid (ext_trans HR.out (ext_trans kk1 (ext_alloc w1 (.cells #[.bool b1, .slice A1 k1 ca1, .slice B1 l1 cb1] 25))))
          clear h1 kk1
          go_wp2_with fail
          go_roundg (gk - 1)
          case measure => omega
          case rel => exact ⟨c + 1, by omega, by simp, HR2⟩
        · have hcl : c = 5 := by omega
          subst hcl
          clear hc hz
          have H3 := Lib.hid (ext_trans H2.out HR.out)
          clear HR F2 H2 TB
          rename World => U2
          go_upto_region 15 with (fail)
          have RF3 := Lib.hid (show (World.alloc U2 (.cells #[.string ⟨#[52, 46, 55, 107]⟩, .string ⟨#[45, 49, 48, 48, 110]⟩, .string ⟨#[48, 48, 55]⟩, .string ⟨#[48, 46, 48, 48, 55, 107]⟩, .string ⟨#[49, 47, 51]⟩] 9)).heap[U2.heap.size]? = some (.cells #[.string ⟨#[52, 46, 55, 107]⟩, .string ⟨#[45, 49, 48, 48, 110]⟩, .string ⟨#[48, 48, 55]⟩, .string ⟨#[48, 46, 48, 48, 55, 107]⟩, .string ⟨#[49, 47, 51]⟩] 9 (0, 0)) from heap_alloc_new U2 _)
          have EF3 := Lib.hid (ext_alloc U2 (.cells #[.string ⟨#[52, 46, 55, 107]⟩, .string ⟨#[45, 49, 48, 48, 110]⟩, .string ⟨#[48, 48, 55]⟩, .string ⟨#[48, 46, 48, 48, 55, 107]⟩, .string ⟨#[49, 47, 51]⟩] 9))
          generalize World.alloc U2 (.cells #[.string ⟨#[52, 46, 55, 107]⟩, .string ⟨#[45, 49, 48, 48, 110]⟩, .string ⟨#[48, 48, 55]⟩, .string ⟨#[48, 46, 48, 48, 55, 107]⟩, .string ⟨#[49, 47, 51]⟩] 9) = V3 at *
          generalize U2.heap.size = g3 at *
          go_upto_region 17 with (fail)
          have RF4 := Lib.hid (show (World.alloc V3 (.cells #[.string ⟨#[52, 55, 48, 48]⟩, .string ⟨#[45, 49, 47, 49, 48, 48, 48, 48, 48, 48, 48]⟩, .string ⟨#[55]⟩, .string ⟨#[55]⟩, .string ⟨#[49, 47, 51]⟩] 44)).heap[V3.heap.size]? = some (.cells #[.string ⟨#[52, 55, 48, 48]⟩, .string ⟨#[45, 49, 47, 49, 48, 48, 48, 48, 48, 48, 48]⟩, .string ⟨#[55]⟩, .string ⟨#[55]⟩, .string ⟨#[49, 47, 51]⟩] 44 (0, 0)) from heap_alloc_new V3 _)
          have EF4 := Lib.hid (ext_alloc V3 (.cells #[.string ⟨#[52, 55, 48, 48]⟩, .string ⟨#[45, 49, 47, 49, 48, 48, 48, 48, 48, 48, 48]⟩, .string ⟨#[55]⟩, .string ⟨#[55]⟩, .string ⟨#[49, 47, 51]⟩] 44))
          generalize World.alloc V3 (.cells #[.string ⟨#[52, 55, 48, 48]⟩, .string ⟨#[45, 49, 47, 49, 48, 48, 48, 48, 48, 48, 48]⟩, .string ⟨#[55]⟩, .string ⟨#[55]⟩, .string ⟨#[49, 47, 51]⟩] 44) = V4 at *
          generalize V3.heap.size = g4 at *
          have RF3' := Lib.hid ((EF4.out.block _ (lt_of_block RF3.out)).trans RF3.out)
          have FB := Lib.hid (show ∀ c : Nat, c < 5 → ∃ l m : List UInt8, (∀ W' : World, Ext V4 W' → W'.cell? ⟨g3, c, none⟩ = some (.string ⟨l.toArray⟩) ∧ W'.cell? ⟨g4, c, none⟩ = some (.string ⟨m.toArray⟩)) ∧ l.length ≤ 100 ∧ (readA l).1 = 0 ∧ txt (readA l).2 = m from by
            intro c hc
            have key : ∀ (W' : World), Ext V4 W' → ∀ (n : Nat) (v : Value), #[.string ⟨#[52, 46, 55, 107]⟩, .string ⟨#[45, 49, 48, 48, 110]⟩, .string ⟨#[48, 48, 55]⟩, .string ⟨#[48, 46, 48, 48, 55, 107]⟩, .string ⟨#[49, 47, 51]⟩][n]? = some v → W'.cell? ⟨g3, n, none⟩ = some v := fun W' h n v hv => by
              rw [cell_of_row W' g3 n _ _ _ ((h.block _ (lt_of_block RF3'.out)).trans RF3'.out)]; exact hv
            have key2 : ∀ (W' : World), Ext V4 W' → ∀ (n : Nat) (v : Value), #[.string ⟨#[52, 55, 48, 48]⟩, .string ⟨#[45, 49, 47, 49, 48, 48, 48, 48, 48, 48, 48]⟩, .string ⟨#[55]⟩, .string ⟨#[55]⟩, .string ⟨#[49, 47, 51]⟩][n]? = some v → W'.cell? ⟨g4, n, none⟩ = some v := fun W' h n v hv => by
              rw [cell_of_row W' g4 n _ _ _ ((h.block _ (lt_of_block RF4.out)).trans RF4.out)]; exact hv
            rcases (show c = 0 ∨ c = 1 ∨ c = 2 ∨ c = 3 ∨ c = 4 by omega) with rfl | rfl | rfl | rfl | rfl
            · exact ⟨[52, 46, 55, 107], [52, 55, 48, 48], fun W' h => ⟨key W' h 0 _ rfl, key2 W' h 0 _ rfl⟩, by decide, kr0.1, kr0.2⟩
            · exact ⟨[45, 49, 48, 48, 110], [45, 49, 47, 49, 48, 48, 48, 48, 48, 48, 48], fun W' h => ⟨key W' h 1 _ rfl, key2 W' h 1 _ rfl⟩, by decide, kr1.1, kr1.2⟩
            · exact ⟨[48, 48, 55], [55], fun W' h => ⟨key W' h 2 _ rfl, key2 W' h 2 _ rfl⟩, by decide, kr2.1, kr2.2⟩
            · exact ⟨[48, 46, 48, 48, 55, 107], [55], fun W' h => ⟨key W' h 3 _ rfl, key2 W' h 3 _ rfl⟩, by decide, kr3.1, kr3.2⟩
            · exact ⟨[49, 47, 51], [49, 47, 51], fun W' h => ⟨key W' h 4 _ rfl, key2 W' h 4 _ rfl⟩, by decide, kr4.1, kr4.2⟩
          )
          have H4 := Lib.hid (ext_trans H3.out (ext_trans EF3.out EF4.out))
          have TB := Lib.hid (HT.out.mono H4.out)
          clear RF3 RF3' RF4 EF3 EF4 H3
          go_loopg [9] 5 (fun k i wr => ∃ c : Nat, c + k = 5 ∧ i = .int .i64 (c : Int) ∧ Hid (Ext V4 wr))
          case atStart => exact ⟨0, rfl, rfl, Lib.hid (ext_refl _)⟩
          case round =>
            obtain ⟨c, hc, rfl, HR⟩ := hrel
            rcases Nat.eq_zero_or_pos gk with hz | hz
            rotate_left
            · have hlt : (c : Int) < 5 := by omega
              have hcl : c < 5 := by omega
              obtain ⟨l, m, hcell, hll, hl, hm⟩ := FB.out c hcl
              obtain ⟨e0, -⟩ := hcell _ HR.out
              have HC := Lib.hid (read_e l hll 0 hl)
              have HCC := Lib.hid hcell
              have HM := Lib.hid hm
              have BQ := Lib.hid (read_small l)
              generalize (readA l).2 = q at *
              clear hcell hll hl hm
              go_wp2_with fail
              refine (HC.out _ (TB.out.mono HR.out)).mono ?_
              rintro e w1 ⟨v1, rfl, h1, kk1⟩
              obtain ⟨b1, A1, k1, ca1, B1, l1, cb1, rfl⟩ := h1.form2
              have RZ := Lib.hid (show (w1.alloc (.cells #[.bool b1, .slice A1 k1 ca1, .slice B1 l1 cb1] 25)).heap[w1.heap.size]? = some (.cells #[.bool b1, .slice A1 k1 ca1, .slice B1 l1 cb1] 25 (0, 0)) from heap_alloc_new _ _)
              have NZ := Lib.hid (h1.mono (ext_alloc w1 (.cells #[.bool b1, .slice A1 k1 ca1, .slice B1 l1 cb1] 25)))
              have HR2 := Lib.hid (ext_trans HR.out (ext_trans kk1 (ext_alloc w1 (.cells #[.bool b1, .slice A1 k1 ca1, .slice B1 l1 cb1] 25))))
              clear h1 kk1
              clear e0
              go_upto_region 20 with (fail)
              generalize World.alloc w1 (.cells #[.bool b1, .slice A1 k1 ca1, .slice B1 l1 cb1] _) = WR at *
              generalize w1.heap.size = gz at *
              have HCS := Lib.hid (show ∀ W : World, Ext WR W → W.cell? ⟨gz, 0, none⟩ = some (.bool b1) ∧ W.cell? ⟨gz, 1, none⟩ = some (.slice A1 k1 ca1) ∧ W.cell? ⟨gz, 2, none⟩ = some (.slice B1 l1 cb1) ∧ W.cell? ⟨g4, c, none⟩ = some (.string ⟨m.toArray⟩) from fun W h => by
                obtain ⟨p0, p1, p2, -⟩ := row3_0 ((h.block _ (lt_of_block RZ.out)).trans RZ.out)
                obtain ⟨-, q0⟩ := HCC.out W (ext_trans HR2.out h)
                exact ⟨p0, p1, p2, q0⟩)
              have HW2 := Lib.hid (ext_refl WR)
              have hww := Lib.hid (ext_refl WR)
              go_cut [78] (fun r wx => r = .bool false ∧ Hid (Ext WR wx))
              case first =>
                have hs1 : (m == m) = true := by simp
                have hs2 : (m != m) = false := by simp
                have hx0 := Lib.hid (ext_refl WR)
                have hS0 := HCS.out _ (ext_trans HW2.out hx0.out)
                have e1 := Lib.hid (ext_drew WR)
                have hx1 := Lib.hid (ext_trans hx0.out e1.out)
                go_region_held3 (fun W => W.cell? ⟨gz, 0, none⟩ = some (.bool b1) ∧ W.cell? ⟨gz, 1, none⟩ = some (.slice A1 k1 ca1) ∧ W.cell? ⟨gz, 2, none⟩ = some (.slice B1 l1 cb1) ∧ W.cell? ⟨g4, c, none⟩ = some (.string ⟨m.toArray⟩))
                  (first
                    | exact HCS.out _ (ext_trans HW2.out hx2.out)
                    | exact HCS.out _ (ext_trans HW2.out hx1.out))
                  (first
                    | (have _q := hx1
                       go_at_call 42
                       refine (text_lit 4001 (by decide) _ q _ HM.out _ (NZ.out.mono (ext_trans hww.out hx1.out)) BQ.out (TB.out.mono (ext_trans HR2.out (ext_trans hww.out hx1.out))).2).mono ?_
                       clear _q
                       rintro e wt ⟨rfl, k2⟩
                       have e2 := Lib.hid k2
                       have hx2 := Lib.hid (ext_trans hx1.out k2)
                       clear k2))
                all_goals
                  go_wp2_with fail
                  go_meet
                  exact ⟨rfl, hx2⟩
              case rest =>
                obtain ⟨rfl, HX⟩ := hcut
                go_wp2_with fail
                go_roundg (gk - 1)
                case measure => omega
                case rel => exact ⟨c + 1, by omega, by simp, Lib.hid (ext_trans HR2.out HX.out)⟩
            · have hcl : c = 5 := by omega
              subst hcl
              clear hc hz
              have H5 := Lib.hid (ext_trans H4.out HR.out)
              clear HR FB H4 TB
              rename World => U3
              go_upto_region 23 with (fail)
              have RF5 := Lib.hid (show (World.alloc U3 (.cells #[.string ⟨#[52, 55, 48, 48]⟩, .string ⟨#[49, 47, 51]⟩, .string ⟨#[45, 49, 47, 49, 48, 48, 48, 48, 48, 48, 48]⟩, .string ⟨#[49, 48, 48, 48]⟩, .string ⟨#[57, 57, 57]⟩, .string ⟨#[49, 47, 50, 48, 48, 48, 48, 48, 48, 48, 48, 48, 48, 48, 48, 48, 48, 48]⟩, .string ⟨#[49, 48, 48, 48, 48, 48, 48, 48, 48, 48, 48, 48, 48, 48, 48, 48, 48, 48, 48]⟩, .string ⟨#[48]⟩, .string ⟨#[49, 47, 49, 48, 50, 52]⟩] 44)).heap[U3.heap.size]? = some (.cells #[.string ⟨#[52, 55, 48, 48]⟩, .string ⟨#[49, 47, 51]⟩, .string ⟨#[45, 49, 47, 49, 48, 48, 48, 48, 48, 48, 48]⟩, .string ⟨#[49, 48, 48, 48]⟩, .string ⟨#[57, 57, 57]⟩, .string ⟨#[49, 47, 50, 48, 48, 48, 48, 48, 48, 48, 48, 48, 48, 48, 48, 48, 48, 48]⟩, .string ⟨#[49, 48, 48, 48, 48, 48, 48, 48, 48, 48, 48, 48, 48, 48, 48, 48, 48, 48, 48]⟩, .string ⟨#[48]⟩, .string ⟨#[49, 47, 49, 48, 50, 52]⟩] 44 (0, 0)) from heap_alloc_new U3 _)
              have EF5 := Lib.hid (ext_alloc U3 (.cells #[.string ⟨#[52, 55, 48, 48]⟩, .string ⟨#[49, 47, 51]⟩, .string ⟨#[45, 49, 47, 49, 48, 48, 48, 48, 48, 48, 48]⟩, .string ⟨#[49, 48, 48, 48]⟩, .string ⟨#[57, 57, 57]⟩, .string ⟨#[49, 47, 50, 48, 48, 48, 48, 48, 48, 48, 48, 48, 48, 48, 48, 48, 48, 48]⟩, .string ⟨#[49, 48, 48, 48, 48, 48, 48, 48, 48, 48, 48, 48, 48, 48, 48, 48, 48, 48, 48]⟩, .string ⟨#[48]⟩, .string ⟨#[49, 47, 49, 48, 50, 52]⟩] 44))
              generalize World.alloc U3 (.cells #[.string ⟨#[52, 55, 48, 48]⟩, .string ⟨#[49, 47, 51]⟩, .string ⟨#[45, 49, 47, 49, 48, 48, 48, 48, 48, 48, 48]⟩, .string ⟨#[49, 48, 48, 48]⟩, .string ⟨#[57, 57, 57]⟩, .string ⟨#[49, 47, 50, 48, 48, 48, 48, 48, 48, 48, 48, 48, 48, 48, 48, 48, 48, 48]⟩, .string ⟨#[49, 48, 48, 48, 48, 48, 48, 48, 48, 48, 48, 48, 48, 48, 48, 48, 48, 48, 48]⟩, .string ⟨#[48]⟩, .string ⟨#[49, 47, 49, 48, 50, 52]⟩] 44) = V5 at *
              generalize U3.heap.size = g5 at *
              go_upto_region 25 with (fail)
              have RF6 := Lib.hid (show (World.alloc V5 (.cells #[.string ⟨#[52, 46, 55, 107]⟩, .string ⟨#[49, 47, 51]⟩, .string ⟨#[45, 49, 48, 48, 110]⟩, .string ⟨#[49, 107]⟩, .string ⟨#[57, 57, 57]⟩, .string ⟨#[48, 46, 53, 102]⟩, .string ⟨#[49, 48, 48, 48, 48, 48, 48, 84]⟩, .string ⟨#[48]⟩, .string ⟨#[57, 55, 54, 46, 53, 54, 50, 53, 117]⟩] 9)).heap[V5.heap.size]? = some (.cells #[.string ⟨#[52, 46, 55, 107]⟩, .string ⟨#[49, 47, 51]⟩, .string ⟨#[45, 49, 48, 48, 110]⟩, .string ⟨#[49, 107]⟩, .string ⟨#[57, 57, 57]⟩, .string ⟨#[48, 46, 53, 102]⟩, .string ⟨#[49, 48, 48, 48, 48, 48, 48, 84]⟩, .string ⟨#[48]⟩, .string ⟨#[57, 55, 54, 46, 53, 54, 50, 53, 117]⟩] 9 (0, 0)) from heap_alloc_new V5 _)
              have EF6 := Lib.hid (ext_alloc V5 (.cells #[.string ⟨#[52, 46, 55, 107]⟩, .string ⟨#[49, 47, 51]⟩, .string ⟨#[45, 49, 48, 48, 110]⟩, .string ⟨#[49, 107]⟩, .string ⟨#[57, 57, 57]⟩, .string ⟨#[48, 46, 53, 102]⟩, .string ⟨#[49, 48, 48, 48, 48, 48, 48, 84]⟩, .string ⟨#[48]⟩, .string ⟨#[57, 55, 54, 46, 53, 54, 50, 53, 117]⟩] 9))
              generalize World.alloc V5 (.cells #[.string ⟨#[52, 46, 55, 107]⟩, .string ⟨#[49, 47, 51]⟩, .string ⟨#[45, 49, 48, 48, 110]⟩, .string ⟨#[49, 107]⟩, .string ⟨#[57, 57, 57]⟩, .string ⟨#[48, 46, 53, 102]⟩, .string ⟨#[49, 48, 48, 48, 48, 48, 48, 84]⟩, .string ⟨#[48]⟩, .string ⟨#[57, 55, 54, 46, 53, 54, 50, 53, 117]⟩] 9) = V6 at *
              generalize V5.heap.size = g6 at *
              have RF5' := Lib.hid ((EF6.out.block _ (lt_of_block RF5.out)).trans RF5.out)
              have FB := Lib.hid (show ∀ c : Nat, c < 9 → ∃ l m : List UInt8, (∀ W' : World, Ext V6 W' → W'.cell? ⟨g5, c, none⟩ = some (.string ⟨l.toArray⟩) ∧ W'.cell? ⟨g6, c, none⟩ = some (.string ⟨m.toArray⟩)) ∧ l.length ≤ 100 ∧ showS (parseS l).2 = m from by
                intro c hc
                have key : ∀ (W' : World), Ext V6 W' → ∀ (n : Nat) (v : Value), #[.string ⟨#[52, 55, 48, 48]⟩, .string ⟨#[49, 47, 51]⟩, .string ⟨#[45, 49, 47, 49, 48, 48, 48, 48, 48, 48, 48]⟩, .string ⟨#[49, 48, 48, 48]⟩, .string ⟨#[57, 57, 57]⟩, .string ⟨#[49, 47, 50, 48, 48, 48, 48, 48, 48, 48, 48, 48, 48, 48, 48, 48, 48, 48]⟩, .string ⟨#[49, 48, 48, 48, 48, 48, 48, 48, 48, 48, 48, 48, 48, 48, 48, 48, 48, 48, 48]⟩, .string ⟨#[48]⟩, .string ⟨#[49, 47, 49, 48, 50, 52]⟩][n]? = some v → W'.cell? ⟨g5, n, none⟩ = some v := fun W' h n v hv => by
                  rw [cell_of_row W' g5 n _ _ _ ((h.block _ (lt_of_block RF5'.out)).trans RF5'.out)]; exact hv
                have key2 : ∀ (W' : World), Ext V6 W' → ∀ (n : Nat) (v : Value), #[.string ⟨#[52, 46, 55, 107]⟩, .string ⟨#[49, 47, 51]⟩, .string ⟨#[45, 49, 48, 48, 110]⟩, .string ⟨#[49, 107]⟩, .string ⟨#[57, 57, 57]⟩, .string ⟨#[48, 46, 53, 102]⟩, .string ⟨#[49, 48, 48, 48, 48, 48, 48, 84]⟩, .string ⟨#[48]⟩, .string ⟨#[57, 55, 54, 46, 53, 54, 50, 53, 117]⟩][n]? = some v → W'.cell? ⟨g6, n, none⟩ = some v := fun W' h n v hv => by
                  rw [cell_of_row W' g6 n _ _ _ ((h.block _ (lt_of_block RF6.out)).trans RF6.out)]; exact hv
                rcases (show c = 0 ∨ c = 1 ∨ c = 2 ∨ c = 3 ∨ c = 4 ∨ c = 5 ∨ c = 6 ∨ c = 7 ∨ c = 8 by omega) with rfl | rfl | rfl | rfl | rfl | rfl | rfl | rfl | rfl
                · exact ⟨[52, 55, 48, 48], [52, 46, 55, 107], fun W' h => ⟨key W' h 0 _ rfl, key2 W' h 0 _ rfl⟩, by decide, ks0⟩
                · exact ⟨[49, 47, 51], [49, 47, 51], fun W' h => ⟨key W' h 1 _ rfl, key2 W' h 1 _ rfl⟩, by decide, ks1⟩
                · exact ⟨[45, 49, 47, 49, 48, 48, 48, 48, 48, 48, 48], [45, 49, 48, 48, 110], fun W' h => ⟨key W' h 2 _ rfl, key2 W' h 2 _ rfl⟩, by decide, ks2⟩
                · exact ⟨[49, 48, 48, 48], [49, 107], fun W' h => ⟨key W' h 3 _ rfl, key2 W' h 3 _ rfl⟩, by decide, ks3⟩
                · exact ⟨[57, 57, 57], [57, 57, 57], fun W' h => ⟨key W' h 4 _ rfl, key2 W' h 4 _ rfl⟩, by decide, ks4⟩
                · exact ⟨[49, 47, 50, 48, 48, 48, 48, 48, 48, 48, 48, 48, 48, 48, 48, 48, 48, 48], [48, 46, 53, 102], fun W' h => ⟨key W' h 5 _ rfl, key2 W' h 5 _ rfl⟩, by decide, ks5⟩
                · exact ⟨[49, 48, 48, 48, 48, 48, 48, 48, 48, 48, 48, 48, 48, 48, 48, 48, 48, 48, 48], [49, 48, 48, 48, 48, 48, 48, 84], fun W' h => ⟨key W' h 6 _ rfl, key2 W' h 6 _ rfl⟩, by decide, ks6⟩
                · exact ⟨[48], [48], fun W' h => ⟨key W' h 7 _ rfl, key2 W' h 7 _ rfl⟩, by decide, ks7⟩
                · exact ⟨[49, 47, 49, 48, 50, 52], [57, 55, 54, 46, 53, 54, 50, 53, 117], fun W' h => ⟨key W' h 8 _ rfl, key2 W' h 8 _ rfl⟩, by decide, ks8⟩
              )
              have H6 := Lib.hid (ext_trans H5.out (ext_trans EF5.out EF6.out))
              have TB := Lib.hid (HT.out.mono H6.out)
              clear RF5 RF5' RF6 EF5 EF6 H5
              go_loopg [14] 9 (fun k i wr => ∃ c : Nat, c + k = 9 ∧ i = .int .i64 (c : Int) ∧ Hid (Ext V6 wr))
              case atStart => exact ⟨0, rfl, rfl, Lib.hid (ext_refl _)⟩
              case round =>
                obtain ⟨c, hc, rfl, HR⟩ := hrel
                rcases Nat.eq_zero_or_pos gk with hz | hz
                rotate_left
                · have hlt : (c : Int) < 9 := by omega
                  have hcl : c < 9 := by omega
                  obtain ⟨l, m, hcell, hll, hm⟩ := FB.out c hcl
                  obtain ⟨e0, -⟩ := hcell _ HR.out
                  have HC := Lib.hid (parse_e l hll)
                  have HCC := Lib.hid hcell
                  have HM := Lib.hid hm
                  have BQ := Lib.hid (parse_small l)
                  generalize (parseS l).2 = q at *
                  generalize (parseS l).1 = ee at *
                  clear hcell hll hm
                  go_wp2_with fail
                  refine (HC.out _).mono ?_
                  rintro e w1 ⟨v1, rfl, h1, kk1⟩
                  obtain ⟨b1, A1, k1, ca1, B1, l1, cb1, rfl⟩ := h1.form2
                  have RZ := Lib.hid (show (w1.alloc (.cells #[.bool b1, .slice A1 k1 ca1, .slice B1 l1 cb1] 25)).heap[w1.heap.size]? = some (.cells #[.bool b1, .slice A1 k1 ca1, .slice B1 l1 cb1] 25 (0, 0)) from heap_alloc_new _ _)
                  have NZ := Lib.hid (h1.mono (ext_alloc w1 (.cells #[.bool b1, .slice A1 k1 ca1, .slice B1 l1 cb1] 25)))
                  have HR2 := Lib.hid (ext_trans HR.out (ext_trans kk1 (ext_alloc w1 (.cells #[.bool b1, .slice A1 k1 ca1, .slice B1 l1 cb1] 25))))
                  clear h1 kk1
                  clear e0
                  go_upto_region 28 with (fail)
                  generalize World.alloc w1 (.cells #[.bool b1, .slice A1 k1 ca1, .slice B1 l1 cb1] _) = WR at *
                  generalize w1.heap.size = gz at *
                  have HCS := Lib.hid (show ∀ W : World, Ext WR W → W.cell? ⟨gz, 0, none⟩ = some (.bool b1) ∧ W.cell? ⟨gz, 1, none⟩ = some (.slice A1 k1 ca1) ∧ W.cell? ⟨gz, 2, none⟩ = some (.slice B1 l1 cb1) ∧ W.cell? ⟨g6, c, none⟩ = some (.string ⟨m.toArray⟩) from fun W h => by
                    obtain ⟨p0, p1, p2, -⟩ := row3_0 ((h.block _ (lt_of_block RZ.out)).trans RZ.out)
                    obtain ⟨-, q0⟩ := HCC.out W (ext_trans HR2.out h)
                    exact ⟨p0, p1, p2, q0⟩)
                  have HW2 := Lib.hid (ext_refl WR)
                  have hww := Lib.hid (ext_refl WR)
                  go_cut [101] (fun r wx => r = .bool false ∧ Hid (Ext WR wx))
                  case first =>
                    have hs1 : (m == m) = true := by simp
                    have hs2 : (m != m) = false := by simp
                    have hx0 := Lib.hid (ext_refl WR)
                    have hS0 := HCS.out _ (ext_trans HW2.out hx0.out)
                    have e1 := Lib.hid (ext_drew WR)
                    have hx1 := Lib.hid (ext_trans hx0.out e1.out)
                    go_region_held3 (fun W => W.cell? ⟨gz, 0, none⟩ = some (.bool b1) ∧ W.cell? ⟨gz, 1, none⟩ = some (.slice A1 k1 ca1) ∧ W.cell? ⟨gz, 2, none⟩ = some (.slice B1 l1 cb1) ∧ W.cell? ⟨g6, c, none⟩ = some (.string ⟨m.toArray⟩))
                      (first
                        | exact HCS.out _ (ext_trans HW2.out hx2.out)
                        | exact HCS.out _ (ext_trans HW2.out hx1.out))
                      (first
                        | (have _q := hx1
                           go_at_call 27
                           refine (show_lit 4001 (by decide) _ q _ HM.out _ (NZ.out.mono (ext_trans hww.out hx1.out)) BQ.out (TB.out.mono (ext_trans HR2.out (ext_trans hww.out hx1.out)))).mono ?_
                           clear _q
                           rintro e wt ⟨rfl, k2⟩
                           have e2 := Lib.hid k2
                           have hx2 := Lib.hid (ext_trans hx1.out k2)
                           clear k2))
                    all_goals
                      go_wp2_with fail
                      go_meet
                      exact ⟨rfl, hx2⟩
                  case rest =>
                    obtain ⟨rfl, HX⟩ := hcut
                    go_wp2_with fail
                    go_roundg (gk - 1)
                    case measure => omega
                    case rel => exact ⟨c + 1, by omega, by simp, Lib.hid (ext_trans HR2.out HX.out)⟩
                · have hcl : c = 9 := by omega
                  subst hcl
                  clear hc hz
                  have H7 := Lib.hid (ext_trans H6.out HR.out)
                  clear HR FB H6 TB
                  rename World => U4
                  go_wp2_with fail
                  refine (ratio_v _).mono ?_
                  rintro e w1 ⟨v1, rfl, h1, xx1⟩
                  obtain ⟨b1, A1, k1, ca1, B1, l1, cb1, rfl⟩ := h1.form2
                  have N1 := Lib.hid h1
                  have X1 := Lib.hid xx1
                  clear h1 xx1
                  have RT := Lib.hid (show (w1.alloc (.cells #[.bool b1, .slice A1 k1 ca1, .slice B1 l1 cb1] 25)).heap[w1.heap.size]? = some (.cells #[.bool b1, .slice A1 k1 ca1, .slice B1 l1 cb1] 25 (0, 0)) from heap_alloc_new _ _)
                  have NT := Lib.hid (N1.out.mono (ext_alloc w1 (.cells #[.bool b1, .slice A1 k1 ca1, .slice B1 l1 cb1] 25)))
                  have H8 := Lib.hid (ext_trans H7.out (ext_trans X1.out (ext_alloc w1 (.cells #[.bool b1, .slice A1 k1 ca1, .slice B1 l1 cb1] 25))))
                  clear N1 X1 H7
                  go_wp2_with fail
                  refine (int_v (-1) (-1) kernel_i1 (by decide) (by decide) _).mono ?_
                  rintro e w2 ⟨v2, rfl, h2, xx2⟩
                  obtain ⟨b2, A2, k2, ca2, B2, l2, cb2, rfl⟩ := h2.form2
                  have N2 := Lib.hid h2
                  have X2 := Lib.hid xx2
                  clear h2 xx2
                  generalize World.alloc w1 (.cells #[.bool b1, .slice A1 k1 ca1, .slice B1 l1 cb1] _) = WA at *
                  generalize w1.heap.size = gt at *
                  go_wp2_with fail
                  refine (int_v 2 2 kernel_i2 (by decide) (by decide) _).mono ?_
                  rintro e w3 ⟨v3, rfl, h3, xx3⟩
                  obtain ⟨b3, A3, k3, ca3, B3, l3, cb3, rfl⟩ := h3.form2
                  have N3 := Lib.hid h3
                  have X3 := Lib.hid xx3
                  clear h3 xx3
                  go_wp2_with fail
                  refine (int_v (-3) (-3) kernel_i3 (by decide) (by decide) _).mono ?_
                  rintro e w4 ⟨v4, rfl, h4, xx4⟩
                  obtain ⟨b4, A4, k4, ca4, B4, l4, cb4, rfl⟩ := h4.form2
                  have N4 := Lib.hid h4
                  have X4 := Lib.hid xx4
                  clear h4 xx4
                  go_wp2_with fail
                  refine (int_v 5 5 kernel_i5 (by decide) (by decide) _).mono ?_
                  rintro e w5 ⟨v5, rfl, h5, xx5⟩
                  obtain ⟨b5, A5, k5, ca5, B5, l5, cb5, rfl⟩ := h5.form2
                  have N5 := Lib.hid h5
                  have X5 := Lib.hid xx5
                  clear h5 xx5
                  have SA := Lib.hid (show Sp w5 (.agg #[.bool b2, .slice A2 k2 ca2, .slice B2 l2 cb2, .bool b3, .slice A3 k3 ca3, .slice B3 l3 cb3]) (-1) 2 from ⟨_, _, _, _, _, _, rfl, N2.out.mono (ext_trans X3.out (ext_trans X4.out X5.out)), N3.out.mono (ext_trans X4.out X5.out)⟩)
                  have SB := Lib.hid (show Sp w5 (.agg #[.bool b4, .slice A4 k4 ca4, .slice B4 l4 cb4, .bool b5, .slice A5 k5 ca5, .slice B5 l5 cb5]) (-3) 5 from ⟨_, _, _, _, _, _, rfl, N4.out.mono X5.out, N5.out⟩)
                  have H9 := Lib.hid (ext_trans X2.out (ext_trans X3.out (ext_trans X4.out X5.out)))
                  clear N2 N3 N4 N5 X2 X3 X4 X5
                  go_wp2_with fail
                  refine (mul_v _ _ _ SA.out SB.out).mono ?_
                  rintro e w6 ⟨v6, rfl, h6, xx6⟩
                  obtain ⟨b6, A6, k6, ca6, B6, l6, cb6, b7, A7, k7, ca7, B7, l7, cb7, rfl, hn6, hn7⟩ := h6.form
                  have N6 := Lib.hid hn6
                  have N7 := Lib.hid hn7
                  have H10 := Lib.hid (ext_trans H9.out (ext_trans xx6 (ext_alloc w6 (.cells #[.bool b6, .slice A6 k6 ca6, .slice B6 l6 cb6, .bool b7, .slice A7 k7 ca7, .slice B7 l7 cb7] 68))))
                  have RS := Lib.hid (show (w6.alloc (.cells #[.bool b6, .slice A6 k6 ca6, .slice B6 l6 cb6, .bool b7, .slice A7 k7 ca7, .slice B7 l7 cb7] 68)).heap[w6.heap.size]? = some (.cells #[.bool b6, .slice A6 k6 ca6, .slice B6 l6 cb6, .bool b7, .slice A7 k7 ca7, .slice B7 l7 cb7] 68 (0, 0)) from heap_alloc_new _ _)
                  have N6' := Lib.hid (N6.out.mono (ext_alloc w6 (.cells #[.bool b6, .slice A6 k6 ca6, .slice B6 l6 cb6, .bool b7, .slice A7 k7 ca7, .slice B7 l7 cb7] 68)))
                  have N7' := Lib.hid (N7.out.mono (ext_alloc w6 (.cells #[.bool b6, .slice A6 k6 ca6, .slice B6 l6 cb6, .bool b7, .slice A7 k7 ca7, .slice B7 l7 cb7] 68)))
                  clear h6 hn6 hn7 xx6 N6 N7 H9 SA SB
                  go_wp2_with fail
                  refine (int_v 1 1 kernel_ii1 (by decide) (by decide) _).mono ?_
                  rintro e w8 ⟨v8, rfl, h8, xx8⟩
                  obtain ⟨b8, A8, k8, ca8, B8, l8, cb8, rfl⟩ := h8.form2
                  have N8 := Lib.hid h8
                  have X8 := Lib.hid xx8
                  clear h8 xx8
                  generalize World.alloc w6 (.cells #[.bool b6, .slice A6 k6 ca6, .slice B6 l6 cb6, .bool b7, .slice A7 k7 ca7, .slice B7 l7 cb7] _) = WB at *
                  generalize w6.heap.size = gs at *
                  go_wp2_with fail
                  refine (int_v 3 3 kernel_i33 (by decide) (by decide) _).mono ?_
                  rintro e w9 ⟨v9, rfl, h9, xx9⟩
                  obtain ⟨b9, A9, k9, ca9, B9, l9, cb9, rfl⟩ := h9.form2
                  have N9 := Lib.hid h9
                  have X9 := Lib.hid xx9
                  clear h9 xx9
                  go_wp2_with fail
                  refine (int_v 2 2 kernel_i2 (by decide) (by decide) _).mono ?_
                  rintro e w10 ⟨v10, rfl, h10, xx10⟩
                  obtain ⟨b10, A10, k10, ca10, B10, l10, cb10, rfl⟩ := h10.form2
                  have N10 := Lib.hid h10
                  have X10 := Lib.hid xx10
                  clear h10 xx10
                  have SA := Lib.hid (show Sp w10 (.agg #[.bool false, .slice none 0 0, .slice none 0 0, .bool b8, .slice A8 k8 ca8, .slice B8 l8 cb8]) 0 1 from ⟨_, _, _, _, _, _, rfl, Nm.zero _, N8.out.mono (ext_trans X9.out X10.out)⟩)
                  have SB := Lib.hid (show Sp w10 (.agg #[.bool b9, .slice A9 k9 ca9, .slice B9 l9 cb9, .bool b10, .slice A10 k10 ca10, .slice B10 l10 cb10]) 3 2 from ⟨_, _, _, _, _, _, rfl, N9.out.mono X10.out, N10.out⟩)
                  have H11 := Lib.hid (ext_trans X8.out (ext_trans X9.out X10.out))
                  clear N8 N9 N10 X8 X9 X10
                  go_wp2_with fail
                  refine (meet_v _ _ _ SA.out SB.out).mono ?_
                  rintro e w11 ⟨v11, rfl, h11, xx11⟩
                  obtain ⟨b11, A11, k11, ca11, B11, l11, cb11, b12, A12, k12, ca12, B12, l12, cb12, rfl, -, -⟩ := h11.form
                  have H12 := Lib.hid (ext_trans H11.out (ext_trans xx11 (ext_alloc w11 (.cells #[.bool b11, .slice A11 k11 ca11, .slice B11 l11 cb11, .bool b12, .slice A12 k12 ca12, .slice B12 l12 cb12] 68))))
                  clear h11 xx11 H11 SA SB
                  have E2 := Lib.hid (ext_trans H10.out H12.out)
                  obtain ⟨x0, x1, x2, -⟩ := row3_0 ((E2.out.block _ (lt_of_block RT.out)).trans RT.out)
                  go_wp2_with fail
                  refine (down_v _ _ (NT.out.mono E2.out)).mono ?_
                  rintro e w13 ⟨v13, rfl, h13, xx13⟩
                  obtain ⟨b13, A13, k13, ca13, B13, l13, cb13, rfl⟩ := h13.form2
                  have N13 := Lib.hid h13
                  have X13 := Lib.hid xx13
                  clear h13 xx13
                  clear x0 x1 x2
                  have Y13 := Lib.hid (ext_trans H12.out X13.out)
                  have TB7 := Lib.hid (HT.out.mono (ext_trans H8.out H10.out))
                  go_wp2_with fail
                  refine (text_lit 64 (by decide) _ (5/16) _ kt1 _ N13.out bqk1 (TB7.out.mono Y13.out).2).mono ?_
                  rintro e w14 ⟨rfl, xx⟩
                  have Y14 := Lib.hid (ext_trans Y13.out xx)
                  clear xx
                  go_wp2_with fail
                  refine (int_v 7 7 kernel_i7 (by decide) (by decide) _).mono ?_
                  rintro e w15 ⟨v15, rfl, h15, xx15⟩
                  obtain ⟨b15, A15, k15, ca15, B15, l15, cb15, rfl⟩ := h15.form2
                  have N15 := Lib.hid h15
                  have X15 := Lib.hid xx15
                  clear h15 xx15
                  go_wp2_with fail
                  refine (up_v _ _ N15.out).mono ?_
                  rintro e w16 ⟨v16, rfl, h16, xx16⟩
                  obtain ⟨b16, A16, k16, ca16, B16, l16, cb16, rfl⟩ := h16.form2
                  have N16 := Lib.hid h16
                  have X16 := Lib.hid xx16
                  clear h16 xx16
                  have Y16 := Lib.hid (ext_trans Y14.out (ext_trans X15.out X16.out))
                  clear X15 X16 X13 Y13 N13 N15
                  go_wp2_with fail
                  refine (text_lit 64 (by decide) _ 8 _ kt2 _ N16.out bqk2 (TB7.out.mono Y16.out).2).mono ?_
                  rintro e w17 ⟨rfl, xx⟩
                  have Y17 := Lib.hid (ext_trans Y16.out xx)
                  clear xx
                  have rs := (Y17.out.block _ (lt_of_block RS.out)).trans RS.out
                  obtain ⟨x0, x1, x2, x3, x4, x5, xf0, xf1, xf2, xf3, xf4, xf5⟩ := row6_0 rs
                  go_wp2_with fail
                  refine (text_lit 64 (by decide) _ (-6) _ kt3 _ (N6'.out.mono Y17.out) bqk3 (TB7.out.mono Y17.out).2).mono ?_
                  rintro e w18 ⟨rfl, xx⟩
                  have Y18 := Lib.hid (ext_trans Y17.out xx)
                  clear xx
                  clear rs x0 x1 x2 x3 x4 x5 xf0 xf1 xf2 xf3 xf4 xf5
                  have rs := (Y18.out.block _ (lt_of_block RS.out)).trans RS.out
                  obtain ⟨x0, x1, x2, x3, x4, x5, xf0, xf1, xf2, xf3, xf4, xf5⟩ := row6_0 rs
                  go_wp2_with fail
                  refine (text_lit 64 (by decide) _ 10 _ kt4 _ (N7'.out.mono Y18.out) bqk4 (TB7.out.mono Y18.out).2).mono ?_
                  rintro e w19 ⟨rfl, xx⟩
                  have Y19 := Lib.hid (ext_trans Y18.out xx)
                  clear xx
                  go_wp2_with fail
                  refine (awake_c _ (TB7.out.mono Y19.out)).mono ?_
                  rintro e w20 ⟨rfl, xx⟩
                  go_wp2_with fail
                  go_ret
                  exact ⟨rfl, ext_trans H8.out (ext_trans H10.out (ext_trans Y19.out xx))⟩
end Go.Proofs.YtpgdefgdboijlaaGreatDoor
