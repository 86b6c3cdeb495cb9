/- The reference's engineering texts, read. Printed by gen_rw.py. -/
import Derived.Test.YtpgdefgdboijlaaGreatDoorRv
import Derived.Test.YtpgdefgdboijlaaGreatDoorPs
import Derived.Test.YtpgdefgdboijlaaGreatDoorRo
import Derived.Deep.DeepCutAuto
import Derived.Deep.LoopGhost
import Derived.BigQuiet
namespace Go.Proofs.YtpgdefgdboijlaaGreatDoor
open Go.RowKit
set_option linter.unusedVariables false
theorem cutB_has (c : UInt8) (l : List UInt8) : (cutB c l).2.2 = true ↔ c ∈ l := by
  rcases split_at l c with h | ⟨a, b, rfl, h⟩
  · rw [cutB_no l c h]; simp [h]
  · rw [cutB_yes a b c h]; simp
def ReadN (l : List UInt8) (w w' : World) (e : Ending) : Prop := ∃ v, e = .returned (.tuple #[v, .int .i64 (readA l).1]) ∧ Nr w' v (readA l).2 ∧ Ext w w'
set_option maxRecDepth 100000 in
set_option maxHeartbeats 8000000 in
theorem read_n_slash (l : List UInt8) (hs : l.length ≤ 9223372036854775807) (h : (47 : UInt8) ∈ l) (w : World) :
    Calls Tryz.prog 17 #[.string ⟨l.toArray⟩] w fun e w' => ReadN l w w' e := by
  have SP := Lib.hid (fun W => split_r l 47 hs W)
  have PR := Lib.hid (parse_r l hs)
  unfold ParseN at PR
  have hA : readA l = parseS l := by unfold readA; rw [if_pos h]
  unfold ReadN
  rw [hA]
  have hc := (cutB_has 47 l).2 h
  rw [hc] at SP
  obtain ⟨hw1, hZ⟩ := setupT w
  have HZ := Lib.hid hZ
  have hww := Lib.hid hw1
  clear hs h hA hc hw1 hZ
  generalize (parseS l).1 = k at *
  generalize (parseS l).2 = q at *
  generalize (cutB 47 l).1 = c1 at *
  generalize (cutB 47 l).2.1 = c2 at *
  go_enter Tryz.func17, Tryz.ntmps17
  go_wp2_with fail
  refine (SP.out _).mono ?_
  rintro e w1 ⟨rfl, q1, rfl⟩
  have K1 := Lib.hid (ext_drewN (w.alloc (.cells #[.int .i64 0, .slice none 0 0, .slice none 0 0] 31)) q1)
  go_wp2_with fail
  refine (PR.out _).mono ?_
  rintro e w2 ⟨v2, rfl, h2, k2⟩
  obtain ⟨s7, A7, k7, c7, B7, l7, d7, h7e, -⟩ := h2.form
  subst h7e
  have G7 := Lib.hid h2
  have K2 := Lib.hid (ext_trans K1.out k2)
  have hr := HZ.out _ K2.out
  have RZ := Lib.hid hr
  obtain ⟨z0, z1, z2, f0, f1, f2⟩ := rowR_0 hr
  clear h2 k2 hr
  go_wp2_with fail
  refine bodyPost_ret (v := .tuple #[.agg #[.int .i64 s7, .slice A7 k7 c7, .slice B7 l7 d7], .int .i64 k]) (by simp [results, Tryz.f17]; go_simp) rfl ?_
  exact ⟨_, rfl, Nr.put_z G7.out RZ.out _ _ _, ext_put3r (ext_trans hww.out K2.out) (Nat.le_refl _) _ _ _⟩
theorem pfxc_at (c : Nat) (h : c < (⟨#[102, 112, 110, 117, 109, 32, 107, 77, 71, 84]⟩ : ByteArray).size) : (⟨#[102, 112, 110, 117, 109, 32, 107, 77, 71, 84]⟩ : ByteArray)[c]'h = pfxc.getD c 0 := by
  have h' : c < 10 := h
  rcases (show c = 0 ∨ c = 1 ∨ c = 2 ∨ c = 3 ∨ c = 4 ∨ c = 5 ∨ c = 6 ∨ c = 7 ∨ c = 8 ∨ c = 9 by omega) with rfl | rfl | rfl | rfl | rfl | rfl | rfl | rfl | rfl | rfl <;> rfl
theorem byte_dec (a c : UInt8) (b : Bool) (h : (a == c) = b) : ((((a.toNat : Nat) : Int) == ((c.toNat : Nat) : Int))) = b := by
  rw [← h, Bool.eq_iff_iff, byte_eq, beq_iff_eq]
theorem pfxL_miss_at {s r : List UInt8} {c : UInt8} {i : Nat} (hs : s = r ++ [c]) (hi : i < 10) (h : ¬ (c = pfxc.getD i 0 ∧ pfxc.getD i 0 ≠ 32)) : Hid (pfxL s pfxs = pfxL s (pfxs.drop i)) = Hid (pfxL s pfxs = pfxL s (pfxs.drop (i + 1))) := by
  subst hs; rw [pfxL_miss r c i hi h]
theorem cells_put3 {W : World} {g7 g : Nat} {a b c : Value} (h : W.cell? ⟨g7, 0, none⟩ = some a ∧ W.cell? ⟨g7, 1, none⟩ = some b ∧ W.cell? ⟨g7, 2, none⟩ = some c) (hg : g < g7) (x y z : Value) :
    (((W.setCell ⟨g, 0, none⟩ x).setCell ⟨g, 1, none⟩ y).setCell ⟨g, 2, none⟩ z).cell? ⟨g7, 0, none⟩ = some a ∧ (((W.setCell ⟨g, 0, none⟩ x).setCell ⟨g, 1, none⟩ y).setCell ⟨g, 2, none⟩ z).cell? ⟨g7, 1, none⟩ = some b ∧ (((W.setCell ⟨g, 0, none⟩ x).setCell ⟨g, 1, none⟩ y).setCell ⟨g, 2, none⟩ z).cell? ⟨g7, 2, none⟩ = some c := by
  have hne : g7 ≠ g := by omega
  have e : (((W.setCell ⟨g, 0, none⟩ x).setCell ⟨g, 1, none⟩ y).setCell ⟨g, 2, none⟩ z).heap[g7]? = W.heap[g7]? := by
    rw [Below.heap_setCell _ _ _ _ hne, Below.heap_setCell _ _ _ _ hne, Below.heap_setCell _ _ _ _ hne]
  refine ⟨?_, ?_, ?_⟩
  · rw [World.cell?_of_block e]; exact h.1
  · rw [World.cell?_of_block e]; exact h.2.1
  · rw [World.cell?_of_block e]; exact h.2.2
set_option maxRecDepth 100000 in
set_option maxHeartbeats 8000000 in
theorem read_n_main (l s1 : List UInt8) (neg : Bool) (sg : Int) (hsg : sgnB neg = sg) (w : World) (h47 : (cutB 47 l).2.2 = false) (hs : l.length ≤ 9223372036854775807) (hs1 : s1.length ≤ 9223372036854775807)
    (hsn : ∀ W, Calls Tryz.prog 108 #[.string ⟨l.toArray⟩] W fun e w' => e = .returned (.tuple #[.string ⟨s1.toArray⟩, .int .i64 sg]) ∧ w' = W) :
    Calls Tryz.prog 17 #[.string ⟨l.toArray⟩] w fun e w' => ∃ v, e = .returned (.tuple #[v, .int .i64 (readS neg s1).1]) ∧ Nr w' v (readS neg s1).2 ∧ Ext w w' := by
  have SP := Lib.hid (fun W => split_r l 47 hs W)
  rw [h47] at SP
  have HSN := Lib.hid hsn
  have HS1 := Lib.hid hs1
  have HSG := Lib.hid hsg
  obtain ⟨hw1, hZ⟩ := setupT w
  have HZ := Lib.hid hZ
  have hww := Lib.hid hw1
  have HPB := Lib.hid (pfxL_bound s1)
  obtain ⟨rs, hrs⟩ : ∃ r, r = readS neg s1 := ⟨_, rfl⟩
  rw [← hrs]
  have HRS := Lib.hid hrs
  clear hs h47 hsn hs1 hsg hw1 hZ hrs
  generalize (cutB 47 l).1 = c1 at *
  generalize (cutB 47 l).2.1 = c2 at *
  have hsz : (⟨s1.toArray⟩ : ByteArray).size = s1.length := by simp [ByteArray.size]
  go_enter Tryz.func17, Tryz.ntmps17
  go_wp2_with fail
  refine (SP.out _).mono ?_
  rintro e w1 ⟨rfl, q1, rfl⟩
  have K1 := Lib.hid (ext_drewN (w.alloc (.cells #[.int .i64 0, .slice none 0 0, .slice none 0 0] 31)) q1)
  go_wp2_with fail
  refine (HSN.out _).mono ?_
  rintro e w2 ⟨rfl, rfl⟩
  generalize (w.alloc (.cells #[.int .i64 0, .slice none 0 0, .slice none 0 0] _)).drewN q1 = W2 at *
  generalize w.alloc (.cells #[.int .i64 0, .slice none 0 0, .slice none 0 0] _) = W1 at *
  go_upto_block 0 with (fail)
  go_cut [0, 8] (fun s p wx => ∃ (s2 : List UInt8) (pw : Int), s = .string ⟨s2.toArray⟩ ∧ p = .int .i64 pw ∧ Hid (pfxL s1 pfxs = (pw, s2)) ∧ Ext W1 wx)
  case first =>
    go_wp2_with fail
    go_loopg [0, 8, 9] 10 (fun k s p i wr => ∃ c : Nat, c + k = 10 ∧ s = .string ⟨s1.toArray⟩ ∧ p = .int .i64 0 ∧ i = .int .i64 (c : Int) ∧ Hid (pfxL s1 pfxs = pfxL s1 (pfxs.drop c)) ∧ Ext W1 wr)
    case atStart => exact ⟨0, rfl, rfl, rfl, rfl, rfl, K1.out⟩
    case round =>
      obtain ⟨c, hc, rfl, rfl, rfl, HPX, hext⟩ := hrel
      have HEX := Lib.hid hext
      clear hext
      rcases Nat.eq_zero_or_pos gk with hz | hz
      · subst hz
        obtain rfl : c = 10 := by omega
        go_wp2_with fail
        go_meet
        exact ⟨_, _, rfl, rfl, HPX.out, HEX.out⟩
      · have hc10 : decide ((c : Int) < 10) = true := by rw [decide_eq_true_eq]; omega
        have hc10' : c < 10 := by omega
        have HC10 := Lib.hid hc10'
        have HZ0 := Lib.hid hz
        have HC := Lib.hid hc
        clear hz hc
        rcases Nat.eq_zero_or_pos s1.length with h0 | h0
        · have hn : s1 = [] := List.length_eq_zero_iff.1 h0
          have HN := Lib.hid hn
          clear hn
          go_wp2_with fail
          go_meet
          exact ⟨s1, 0, rfl, rfl, by rw [HN.out, pfxL_nil]; exact rfl, HEX.out⟩
        · obtain ⟨m, hm⟩ : ∃ m, s1.length = m + 1 := ⟨s1.length - 1, by omega⟩
          have hml : m < s1.length := by omega
          obtain ⟨ch, hch⟩ : ∃ ch, s1[m]'hml = ch := ⟨_, rfl⟩
          have HSP := Lib.hid (show s1 = s1.take m ++ [ch] by rw [← hch]; have := List.take_append_drop m s1; rw [List.drop_eq_getElem_cons hml, List.drop_of_length_le (by omega)] at this; exact this.symm)
          have hpos : decide ((0 : Int) < (s1.length : Int)) = true := by rw [decide_eq_true_eq]; omega
          have hpos' : decide (0 < s1.length) = true := by rw [decide_eq_true_eq]; omega
          have hw1 : IntKind.i64.wrap ((s1.length : Int) - 1) = (m : Int) := (IntWalk.i64_in _ (by have := HS1.out; omega)).trans (by omega)
          have hmI : (m : Int) < (s1.length : Int) := by omega
          have hmI' : (m : Int) ≤ (s1.length : Int) := by omega
          have hz1 : m < (⟨s1.toArray⟩ : ByteArray).size := by rw [hsz]; exact hml
          have hge : (⟨s1.toArray⟩ : ByteArray)[m]'hz1 = ch := hch
          have hzc : c < (⟨#[102, 112, 110, 117, 109, 32, 107, 77, 71, 84]⟩ : ByteArray).size := hc10'
          have hcs : (⟨#[102, 112, 110, 117, 109, 32, 107, 77, 71, 84]⟩ : ByteArray).size = 10 := rfl
          have hcI : (c : Int) < 10 := by omega
          have hcI0 : (0 : Int) ≤ (c : Int) := by omega
          have hx1 : (⟨s1.toArray⟩ : ByteArray).extract 0 m = ⟨(s1.take m).toArray⟩ := by apply ByteArray.ext; simp
          clear hm
          by_cases hb : ch = pfxc.getD c 0 ∧ pfxc.getD c 0 ≠ 32
          · have HB := Lib.hid hb
            have t1 : ((((⟨s1.toArray⟩ : ByteArray)[m]'hz1).toNat : Int) == (((⟨#[102, 112, 110, 117, 109, 32, 107, 77, 71, 84]⟩ : ByteArray)[c]'hzc).toNat : Int)) = true := by rw [hge, pfxc_at, byte_dec _ _ true]; rw [hb.1]; simp
            have t2 : ((((⟨#[102, 112, 110, 117, 109, 32, 107, 77, 71, 84]⟩ : ByteArray)[c]'hzc).toNat : Int) == 32) = false := by rw [pfxc_at]; exact byte_dec _ 32 false (by rw [beq_eq_false_iff_ne]; exact hb.2)
            have w1 : IntKind.i64.wrap (3 * (c : Int)) = 3 * (c : Int) := IntWalk.i64_in _ (by omega)
            have w2 : IntKind.i64.wrap (3 * (c : Int) - 15) = 3 * (c : Int) - 15 := IntWalk.i64_in _ (by omega)
            clear hge hch hb h0
            go_wp2_with fail
            go_quiet (fail)
            go_wp2_with fail
            go_meet
            refine ⟨s1.take m, 3 * (c : Int) - 15, rfl, rfl, ?_, ext_trans HEX.out (ext_drewN _ _)⟩
            rw [HPX.out, HSP.out, pfxL_hit _ ch c HC10.out HB.out.1 (by rw [HB.out.1]; exact HB.out.2)]
            rw [← HSP.out]; exact rfl
          · have HB := Lib.hid hb
            rcases (show (ch == pfxc.getD c 0) = false ∨ ((ch == pfxc.getD c 0) = true ∧ (pfxc.getD c 0 == 32) = true) by
              cases h1 : (ch == pfxc.getD c 0) with
              | false => exact .inl rfl
              | true => refine .inr ⟨rfl, ?_⟩; cases h2 : (pfxc.getD c 0 == 32) with | true => rfl | false => exact absurd ⟨beq_iff_eq.1 h1, beq_eq_false_iff_ne.1 h2⟩ hb) with h1 | ⟨h1, h2⟩
            · have t1 : ((((⟨s1.toArray⟩ : ByteArray)[m]'hz1).toNat : Int) == (((⟨#[102, 112, 110, 117, 109, 32, 107, 77, 71, 84]⟩ : ByteArray)[c]'hzc).toNat : Int)) = false := by rw [hge, pfxc_at]; exact byte_dec _ _ false h1
              have w3 : IntKind.i64.wrap ((c : Int) + 1) = (c : Int) + 1 := IntWalk.i64_in _ (by omega)
              clear hge hch hb h0 h1
              go_wp2_with fail
              go_quiet (fail)
              go_wp2_with fail
              go_roundg (gk - 1)
              case measure => have := HZ0.out; omega
              case rel => exact ⟨c + 1, by have := HC.out; have := HZ0.out; omega, rfl, rfl, by go_num, by rw [← pfxL_miss_at HSP.out HC10.out HB.out]; exact HPX, ext_trans HEX.out (ext_drewN _ _)⟩
            · have t1 : ((((⟨s1.toArray⟩ : ByteArray)[m]'hz1).toNat : Int) == (((⟨#[102, 112, 110, 117, 109, 32, 107, 77, 71, 84]⟩ : ByteArray)[c]'hzc).toNat : Int)) = true := by rw [hge, pfxc_at]; exact byte_dec _ _ true h1
              have t2 : ((((⟨#[102, 112, 110, 117, 109, 32, 107, 77, 71, 84]⟩ : ByteArray)[c]'hzc).toNat : Int) == 32) = true := by rw [pfxc_at]; exact byte_dec _ 32 true h2
              have w3 : IntKind.i64.wrap ((c : Int) + 1) = (c : Int) + 1 := IntWalk.i64_in _ (by omega)
              clear hge hch hb h0 h1 h2
              go_wp2_with fail
              go_quiet (fail)
              go_wp2_with fail
              go_roundg (gk - 1)
              case measure => have := HZ0.out; omega
              case rel => exact ⟨c + 1, by have := HC.out; have := HZ0.out; omega, rfl, rfl, by go_num, by rw [← pfxL_miss_at HSP.out HC10.out HB.out]; exact HPX, ext_trans HEX.out (ext_drewN _ _)⟩
  case rest =>
    obtain ⟨s2, pw, rfl, rfl, HPX, hext⟩ := hcut
    rename World => W3
    obtain ⟨hp1, hp2, hp3⟩ := HPB.out
    rw [HPX.out] at hp1 hp2 hp3
    dsimp only at hp1 hp2 hp3
    have hl2 : s2.length ≤ 9223372036854775807 := by have := HS1.out; omega
    have SQ := Lib.hid (fun W => split_r s2 46 hl2 W)
    have hsum := cutB_sum 46 s2
    obtain ⟨bf, hbf⟩ : ∃ a, (cutB 46 s2).1 = a := ⟨_, rfl⟩
    obtain ⟨bh, hbh⟩ : ∃ a, (cutB 46 s2).2.1 = a := ⟨_, rfl⟩
    obtain ⟨pt, hpt⟩ : ∃ a, (cutB 46 s2).2.2 = a := ⟨_, rfl⟩
    rw [hbf, hbh] at hsum
    rw [hpt] at hsum
    rw [hbf, hbh, hpt] at SQ
    have HRD := Lib.hid (show rs = (if digB bf = false ∨ (pt = true ∧ digB bh = false) then (6, 0) else if 400 < bf.length + bh.length then (3, 0) else (0, tensQ (rat neg (natOf (bf ++ bh)) 1) (pw - bh.length))) by
      rw [HRS.out]; unfold readS; rw [HPX.out]; dsimp only; rw [hbf, hbh, hpt])
    have HD1 := Lib.hid (fun W => digits_r bf (by omega) W)
    have HD2 := Lib.hid (fun W => digits_r bh (by omega) W)
    have HX := Lib.hid hext
    have HPW := Lib.hid (show -15 ≤ pw ∧ pw ≤ 12 from ⟨hp1, hp2⟩)
    have HSM := Lib.hid hsum
    have HL2 := Lib.hid hl2
    have hszf : (⟨bf.toArray⟩ : ByteArray).size = bf.length := by simp [ByteArray.size]
    have hszh : (⟨bh.toArray⟩ : ByteArray).size = bh.length := by simp [ByteArray.size]
    clear hbf hbh hpt hp1 hp2 hp3 hext hl2 hsum HPX HPB HRS hsz
    go_wp2_with fail
    refine (SQ.out _).mono ?_
    rintro e w4 ⟨rfl, q4, rfl⟩
    have X4 := Lib.hid (ext_trans HX.out (ext_drewN W3 q4))
    generalize W3.drewN q4 = W4 at *
    clear HX SQ
    rcases hd1 : digB bf with _ | _
    · have HRR := Lib.hid (show rs = (6, 0) by rw [HRD.out, if_pos (.inl hd1)])
      rw [hd1] at HD1
      clear HRD hd1
      go_wp2_with fail
      refine (HD1.out _).mono ?_
      rintro e w5 ⟨rfl, rfl⟩
      obtain ⟨z0, z1, z2, f0, f1, f2⟩ := rowR_0 (HZ.out _ X4.out)
      go_wp2_with fail
      refine bodyPost_ret (v := .tuple #[.agg #[.int .i64 0, .slice none 0 0, .slice none 0 0], .int .i64 6]) (by simp [results, Tryz.f17]; go_simp) rfl ?_
      exact ⟨_, by rw [HRR.out], by rw [HRR.out]; exact Nr.zero _, ext_put3r (ext_trans hww.out X4.out) (Nat.le_refl _) _ _ _⟩
    · rw [hd1] at HD1
      have HG1 := Lib.hid hd1
      rcases hp : pt with _ | _
      · subst hp
        have HRE := Lib.hid (show rs = (if 400 < bf.length + bh.length then (3, 0) else (0, tensQ (rat neg (natOf (bf ++ bh)) 1) (pw - bh.length))) by rw [HRD.out, if_neg (by rw [hd1]; simp)])
        have HG2 := Lib.hid (show ∀ c ∈ bh, isDig c = true from by rw [HSM.out.2 rfl]; simp)
        clear HRD hd1
        go_wp2_with fail
        refine (HD1.out _).mono ?_
        rintro e w5 ⟨rfl, rfl⟩
        by_cases hlen : 400 < bf.length + bh.length
        · have HRR := Lib.hid (show rs = (3, 0) by rw [HRE.out, if_pos hlen])
          have ww : IntKind.i64.wrap ((bf.length : Int) + (bh.length : Int)) = (bf.length : Int) + (bh.length : Int) := IntWalk.i64_in _ (by have := HSM.out; have := HL2.out; omega)
          have tt : decide ((400 : Int) < (bf.length : Int) + (bh.length : Int)) = true := by rw [decide_eq_true_eq]; omega
          have tt' : decide (400 < bf.length + bh.length) = true := by rw [decide_eq_true_eq]; omega
          clear hlen
          obtain ⟨z0, z1, z2, f0, f1, f2⟩ := rowR_0 (HZ.out _ X4.out)
          go_wp2_with fail
          refine bodyPost_ret (v := .tuple #[.agg #[.int .i64 0, .slice none 0 0, .slice none 0 0], .int .i64 3]) (by simp [results, Tryz.f17]; go_simp) rfl ?_
          exact ⟨_, by rw [HRR.out], by rw [HRR.out]; exact Nr.zero _, ext_put3r (ext_trans hww.out X4.out) (Nat.le_refl _) _ _ _⟩
        · have HRR := Lib.hid (show rs = (0, tensQ (rat neg (natOf (bf ++ bh)) 1) (pw - bh.length)) by rw [HRE.out, if_neg hlen])
          have ww : IntKind.i64.wrap ((bf.length : Int) + (bh.length : Int)) = (bf.length : Int) + (bh.length : Int) := IntWalk.i64_in _ (by omega)
          have tt : decide ((400 : Int) < (bf.length : Int) + (bh.length : Int)) = false := by rw [decide_eq_false_iff_not]; omega
          have tt' : decide (400 < bf.length + bh.length) = false := by rw [decide_eq_false_iff_not]; omega
          have hap : (⟨bf.toArray⟩ : ByteArray) ++ ⟨bh.toArray⟩ = ⟨(bf ++ bh).toArray⟩ := str_append _ _
          have hlm : bf.length + bh.length ≤ 9223372036854775807 := by omega
          have HCL := Lib.hid (show (bf ++ bh).length ≤ 400 by rw [List.length_append]; omega)
          have HCD := Lib.hid (show ∀ c ∈ bf ++ bh, isDig c = true from fun c hc => (List.mem_append.1 hc).elim (dig_all HG1.out c) (HG2.out c))
          have w7 : IntKind.i64.wrap (pw - (bh.length : Int)) = pw - (bh.length : Int) := IntWalk.i64_in _ (by have := HPW.out; omega)
          have HTZ := Lib.hid (show (pw - (bh.length : Int)).natAbs ≤ 1000000 by have := HPW.out; omega)
          clear hlen
          go_wp2_with fail
          refine (natural_r (bf ++ bh) HCD.out (Nat.le_trans HCL.out (by decide)) _).mono ?_
          rintro e w5 ⟨V5, rfl, h2, k2⟩
          obtain ⟨PV5, pV5, cV5, rfl⟩ := h2.form'
          have G5 := Lib.hid h2
          have K5 := Lib.hid (ext_trans X4.out k2)
          clear h2 k2
          go_wp2_with fail
          refine (one_r _).mono ?_
          rintro e w6 ⟨V6, rfl, h2, k2⟩
          obtain ⟨P6, p6, c6, rfl⟩ := h2.form'
          have G6 := Lib.hid h2
          have G5' := Lib.hid (G5.out.mono k2)
          have K6 := Lib.hid (ext_trans K5.out k2)
          clear h2 k2
          have HNT := Lib.hid (dr_ten (natOf_lt (bf ++ bh) HCD.out))
          have HNB := Lib.hid (show Bq 5000 (rat neg (natOf (bf ++ bh)) 1) from bq_nat_le (A := 4 * (bf ++ bh).length + 1) (Nat.lt_trans (natOf_lt _ HCD.out) (ten_lt _)) (by have := HCL.out; omega) (by decide))
          go_wp2_with fail
          refine (made_r neg sg HSG.out _ _ (natOf (bf ++ bh)) 1 (by omega) _ G5'.out G6.out (by have := HNT.out; have := HCL.out; omega) (by rw [dr_one]; simp)).mono ?_
          rintro e w7 ⟨V7, rfl, h2, k2⟩
          obtain ⟨s7, A7, k7, c7, B7, l7, d7, rfl, -⟩ := h2.form
          have G7 := Lib.hid h2
          have K7 := Lib.hid (ext_trans K6.out k2)
          clear h2 k2
          go_upto_region 18 with (fail)
          have G8 := Lib.hid (G7.out.mono (ext_alloc w7 (.cells #[.int .i64 s7, .slice A7 k7 c7, .slice B7 l7 d7] 31)))
          have K8 := Lib.hid (ext_trans K7.out (ext_alloc w7 (.cells #[.int .i64 s7, .slice A7 k7 c7, .slice B7 l7 d7] 31)))
          have HR8 := Lib.hid (fun W (h : Ext (w7.alloc (.cells #[.int .i64 s7, .slice A7 k7 c7, .slice B7 l7 d7] 31)) W) => rowR_0 (rowR h))
          have LT7 := Lib.hid (show W1.heap.size ≤ w7.heap.size from K7.out.size)
          have HCLL := Lib.hid (fun W (h : Ext (w7.alloc (.cells #[.int .i64 s7, .slice A7 k7 c7, .slice B7 l7 d7] 31)) W) => (show W.cell? ⟨w7.heap.size, 0, none⟩ = some (.int .i64 s7) ∧ W.cell? ⟨w7.heap.size, 1, none⟩ = some (.slice A7 k7 c7) ∧ W.cell? ⟨w7.heap.size, 2, none⟩ = some (.slice B7 l7 d7) from ⟨(HR8.out W h).1, (HR8.out W h).2.1, (HR8.out W h).2.2.1⟩))
          clear K7 G7 HR8
          generalize w7.alloc (.cells #[.int .i64 s7, .slice A7 k7 c7, .slice B7 l7 d7] _) = W8 at *
          generalize w7.heap.size = g7 at *
          have HNE := Lib.hid (show w.heap.size < g7 from Nat.lt_of_lt_of_le (lt_of_block (HZ.out W1 (ext_refl _))) LT7.out)
          have hS0 := HCLL.out W8 (ext_refl _)
          have hx1 := Lib.hid (ext_drew W8)
          go_region_held3 (fun W => W.cell? ⟨g7, 0, none⟩ = some (.int .i64 s7) ∧ W.cell? ⟨g7, 1, none⟩ = some (.slice A7 k7 c7) ∧ W.cell? ⟨g7, 2, none⟩ = some (.slice B7 l7 d7))
            (first
              | exact cells_put3 (HCLL.out _ hx3.out) HNE.out _ _ _
              | exact HCLL.out _ hx3.out
              | exact HCLL.out _ hx2.out
              | exact HCLL.out _ hx1.out)
            (first
              | (have _q := hx2
                 go_at_call 30
                 refine (mul_n 4000065 (by decide) _ _ (rat neg (natOf (bf ++ bh)) 1) (tensQ 1 (pw - bh.length)) _ (G8.out.mono hx2.out) JT.out (HNB.out.mono (by decide)) ((Bq.tens bq_one).mono (by have := HTZ.out; omega))).mono ?_
                 clear _q
                 rintro e w9 ⟨v9, rfl, h9, k9⟩
                 rw [tens_mul] at h9
                 obtain ⟨s9, A9, k9', c9, B9, l9, d9, h9e, -⟩ := h9.form
                 subst h9e
                 have H9 := Lib.hid h9
                 have hx3 := Lib.hid (ext_trans hx2.out k9)
                 have hr := HZ.out _ (ext_trans K8.out hx3.out)
                 have RZ := Lib.hid hr
                 obtain ⟨z0, z1, z2, f0, f1, f2⟩ := rowR_0 hr
                 clear hr h9 k9)
              | (have _q := hx1
                 go_at_call 113
                 refine (ten_n (pw - bh.length) HTZ.out _).mono ?_
                 clear _q
                 rintro e wt ⟨vt, rfl, h9, k9⟩
                 have JT := Lib.hid h9
                 have hx2 := Lib.hid (ext_trans hx1.out k9)
                 clear h9 k9))
          all_goals
            go_wp2_with fail
            refine bodyPost_ret (v := .tuple #[.agg #[.int .i64 s9, .slice A9 k9' c9, .slice B9 l9 d9], .int .i64 0]) (by simp [results, Tryz.f17]; go_simp) rfl ?_
            exact ⟨_, by rw [HRR.out], by rw [HRR.out]; exact Nr.put_z H9.out RZ.out _ _ _, ext_put3r (ext_trans hww.out (ext_trans K8.out hx3.out)) (Nat.le_refl _) _ _ _⟩
      · subst hp
        rcases hd2 : digB bh with _ | _
        · have HRR := Lib.hid (show rs = (6, 0) by rw [HRD.out, if_pos (.inr ⟨rfl, hd2⟩)])
          rw [hd2] at HD2
          clear HRD hd1 hd2
          go_wp2_with fail
          refine (HD1.out _).mono ?_
          rintro e w5 ⟨rfl, rfl⟩
          go_wp2_with fail
          refine (HD2.out _).mono ?_
          rintro e w6 ⟨rfl, rfl⟩
          obtain ⟨z0, z1, z2, f0, f1, f2⟩ := rowR_0 (HZ.out _ X4.out)
          go_wp2_with fail
          refine bodyPost_ret (v := .tuple #[.agg #[.int .i64 0, .slice none 0 0, .slice none 0 0], .int .i64 6]) (by simp [results, Tryz.f17]; go_simp) rfl ?_
          exact ⟨_, by rw [HRR.out], by rw [HRR.out]; exact Nr.zero _, ext_put3r (ext_trans hww.out X4.out) (Nat.le_refl _) _ _ _⟩
        · have HRE := Lib.hid (show rs = (if 400 < bf.length + bh.length then (3, 0) else (0, tensQ (rat neg (natOf (bf ++ bh)) 1) (pw - bh.length))) by rw [HRD.out, if_neg (by rw [hd1, hd2]; simp)])
          have HG2 := Lib.hid (dig_all hd2)
          rw [hd2] at HD2
          clear HRD hd1 hd2
          go_wp2_with fail
          refine (HD1.out _).mono ?_
          rintro e w5 ⟨rfl, rfl⟩
          go_wp2_with fail
          refine (HD2.out _).mono ?_
          rintro e w6 ⟨rfl, rfl⟩
          by_cases hlen : 400 < bf.length + bh.length
          · have HRR := Lib.hid (show rs = (3, 0) by rw [HRE.out, if_pos hlen])
            have ww : IntKind.i64.wrap ((bf.length : Int) + (bh.length : Int)) = (bf.length : Int) + (bh.length : Int) := IntWalk.i64_in _ (by have := HSM.out; have := HL2.out; omega)
            have tt : decide ((400 : Int) < (bf.length : Int) + (bh.length : Int)) = true := by rw [decide_eq_true_eq]; omega
            have tt' : decide (400 < bf.length + bh.length) = true := by rw [decide_eq_true_eq]; omega
            clear hlen
            obtain ⟨z0, z1, z2, f0, f1, f2⟩ := rowR_0 (HZ.out _ X4.out)
            go_wp2_with fail
            refine bodyPost_ret (v := .tuple #[.agg #[.int .i64 0, .slice none 0 0, .slice none 0 0], .int .i64 3]) (by simp [results, Tryz.f17]; go_simp) rfl ?_
            exact ⟨_, by rw [HRR.out], by rw [HRR.out]; exact Nr.zero _, ext_put3r (ext_trans hww.out X4.out) (Nat.le_refl _) _ _ _⟩
          · have HRR := Lib.hid (show rs = (0, tensQ (rat neg (natOf (bf ++ bh)) 1) (pw - bh.length)) by rw [HRE.out, if_neg hlen])
            have ww : IntKind.i64.wrap ((bf.length : Int) + (bh.length : Int)) = (bf.length : Int) + (bh.length : Int) := IntWalk.i64_in _ (by omega)
            have tt : decide ((400 : Int) < (bf.length : Int) + (bh.length : Int)) = false := by rw [decide_eq_false_iff_not]; omega
            have tt' : decide (400 < bf.length + bh.length) = false := by rw [decide_eq_false_iff_not]; omega
            have hap : (⟨bf.toArray⟩ : ByteArray) ++ ⟨bh.toArray⟩ = ⟨(bf ++ bh).toArray⟩ := str_append _ _
            have hlm : bf.length + bh.length ≤ 9223372036854775807 := by omega
            have HCL := Lib.hid (show (bf ++ bh).length ≤ 400 by rw [List.length_append]; omega)
            have HCD := Lib.hid (show ∀ c ∈ bf ++ bh, isDig c = true from fun c hc => (List.mem_append.1 hc).elim (dig_all HG1.out c) (HG2.out c))
            have w7 : IntKind.i64.wrap (pw - (bh.length : Int)) = pw - (bh.length : Int) := IntWalk.i64_in _ (by have := HPW.out; omega)
            have HTZ := Lib.hid (show (pw - (bh.length : Int)).natAbs ≤ 1000000 by have := HPW.out; omega)
            clear hlen
            go_wp2_with fail
            refine (natural_r (bf ++ bh) HCD.out (Nat.le_trans HCL.out (by decide)) _).mono ?_
            rintro e w5 ⟨V5, rfl, h2, k2⟩
            obtain ⟨PV5, pV5, cV5, rfl⟩ := h2.form'
            have G5 := Lib.hid h2
            have K5 := Lib.hid (ext_trans X4.out k2)
            clear h2 k2
            go_wp2_with fail
            refine (one_r _).mono ?_
            rintro e w6 ⟨V6, rfl, h2, k2⟩
            obtain ⟨P6, p6, c6, rfl⟩ := h2.form'
            have G6 := Lib.hid h2
            have G5' := Lib.hid (G5.out.mono k2)
            have K6 := Lib.hid (ext_trans K5.out k2)
            clear h2 k2
            have HNT := Lib.hid (dr_ten (natOf_lt (bf ++ bh) HCD.out))
            have HNB := Lib.hid (show Bq 5000 (rat neg (natOf (bf ++ bh)) 1) from bq_nat_le (A := 4 * (bf ++ bh).length + 1) (Nat.lt_trans (natOf_lt _ HCD.out) (ten_lt _)) (by have := HCL.out; omega) (by decide))
            go_wp2_with fail
            refine (made_r neg sg HSG.out _ _ (natOf (bf ++ bh)) 1 (by omega) _ G5'.out G6.out (by have := HNT.out; have := HCL.out; omega) (by rw [dr_one]; simp)).mono ?_
            rintro e w7 ⟨V7, rfl, h2, k2⟩
            obtain ⟨s7, A7, k7, c7, B7, l7, d7, rfl, -⟩ := h2.form
            have G7 := Lib.hid h2
            have K7 := Lib.hid (ext_trans K6.out k2)
            clear h2 k2
            go_upto_region 18 with (fail)
            have G8 := Lib.hid (G7.out.mono (ext_alloc w7 (.cells #[.int .i64 s7, .slice A7 k7 c7, .slice B7 l7 d7] 31)))
            have K8 := Lib.hid (ext_trans K7.out (ext_alloc w7 (.cells #[.int .i64 s7, .slice A7 k7 c7, .slice B7 l7 d7] 31)))
            have HR8 := Lib.hid (fun W (h : Ext (w7.alloc (.cells #[.int .i64 s7, .slice A7 k7 c7, .slice B7 l7 d7] 31)) W) => rowR_0 (rowR h))
            have LT7 := Lib.hid (show W1.heap.size ≤ w7.heap.size from K7.out.size)
            have HCLL := Lib.hid (fun W (h : Ext (w7.alloc (.cells #[.int .i64 s7, .slice A7 k7 c7, .slice B7 l7 d7] 31)) W) => (show W.cell? ⟨w7.heap.size, 0, none⟩ = some (.int .i64 s7) ∧ W.cell? ⟨w7.heap.size, 1, none⟩ = some (.slice A7 k7 c7) ∧ W.cell? ⟨w7.heap.size, 2, none⟩ = some (.slice B7 l7 d7) from ⟨(HR8.out W h).1, (HR8.out W h).2.1, (HR8.out W h).2.2.1⟩))
            clear K7 G7 HR8
            generalize w7.alloc (.cells #[.int .i64 s7, .slice A7 k7 c7, .slice B7 l7 d7] _) = W8 at *
            generalize w7.heap.size = g7 at *
            have HNE := Lib.hid (show w.heap.size < g7 from Nat.lt_of_lt_of_le (lt_of_block (HZ.out W1 (ext_refl _))) LT7.out)
            have hS0 := HCLL.out W8 (ext_refl _)
            have hx1 := Lib.hid (ext_drew W8)
            go_region_held3 (fun W => W.cell? ⟨g7, 0, none⟩ = some (.int .i64 s7) ∧ W.cell? ⟨g7, 1, none⟩ = some (.slice A7 k7 c7) ∧ W.cell? ⟨g7, 2, none⟩ = some (.slice B7 l7 d7))
              (first
                | exact cells_put3 (HCLL.out _ hx3.out) HNE.out _ _ _
                | exact HCLL.out _ hx3.out
                | exact HCLL.out _ hx2.out
                | exact HCLL.out _ hx1.out)
              (first
                | (have _q := hx2
                   go_at_call 30
                   refine (mul_n 4000065 (by decide) _ _ (rat neg (natOf (bf ++ bh)) 1) (tensQ 1 (pw - bh.length)) _ (G8.out.mono hx2.out) JT.out (HNB.out.mono (by decide)) ((Bq.tens bq_one).mono (by have := HTZ.out; omega))).mono ?_
                   clear _q
                   rintro e w9 ⟨v9, rfl, h9, k9⟩
                   rw [tens_mul] at h9
                   obtain ⟨s9, A9, k9', c9, B9, l9, d9, h9e, -⟩ := h9.form
                   subst h9e
                   have H9 := Lib.hid h9
                   have hx3 := Lib.hid (ext_trans hx2.out k9)
                   have hr := HZ.out _ (ext_trans K8.out hx3.out)
                   have RZ := Lib.hid hr
                   obtain ⟨z0, z1, z2, f0, f1, f2⟩ := rowR_0 hr
                   clear hr h9 k9)
                | (have _q := hx1
                   go_at_call 113
                   refine (ten_n (pw - bh.length) HTZ.out _).mono ?_
                   clear _q
                   rintro e wt ⟨vt, rfl, h9, k9⟩
                   have JT := Lib.hid h9
                   have hx2 := Lib.hid (ext_trans hx1.out k9)
                   clear h9 k9))
            all_goals
              go_wp2_with fail
              refine bodyPost_ret (v := .tuple #[.agg #[.int .i64 s9, .slice A9 k9' c9, .slice B9 l9 d9], .int .i64 0]) (by simp [results, Tryz.f17]; go_simp) rfl ?_
              exact ⟨_, by rw [HRR.out], by rw [HRR.out]; exact Nr.put_z H9.out RZ.out _ _ _, ext_put3r (ext_trans hww.out (ext_trans K8.out hx3.out)) (Nat.le_refl _) _ _ _⟩
theorem read_n (l : List UInt8) (hs : l.length ≤ 9223372036854775807) (w : World) :
    Calls Tryz.prog 17 #[.string ⟨l.toArray⟩] w fun e w' => ReadN l w w' e := by
  by_cases h : (47 : UInt8) ∈ l
  · exact read_n_slash l hs h w
  · have h0 : (cutB 47 l).2.2 = false := by
      cases hc : (cutB 47 l).2.2 with
      | false => rfl
      | true => exact absurd ((cutB_has 47 l).1 hc) h
    have hA : readA l = readS (minusB l) (restB l) := by unfold readA; rw [if_neg h]
    unfold ReadN
    rw [hA]
    exact read_n_main l (restB l) (minusB l) _ rfl w h0 hs (Nat.le_trans (restB_len l) hs) (fun W => signed_r l hs W)
end Go.Proofs.YtpgdefgdboijlaaGreatDoor
