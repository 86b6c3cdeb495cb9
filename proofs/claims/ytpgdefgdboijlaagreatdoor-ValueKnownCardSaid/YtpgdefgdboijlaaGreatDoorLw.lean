/- The law of a field: the walk. Printed by gen_lw.py. -/
import Derived.Test.YtpgdefgdboijlaaGreatDoorVe
import Derived.Test.YtpgdefgdboijlaaGreatDoorVc
import Derived.Test.YtpgdefgdboijlaaGreatDoorVd
import Derived.Test.YtpgdefgdboijlaaGreatDoorNc
import Derived.Test.YtpgdefgdboijlaaGreatDoorNe
import Derived.Test.YtpgdefgdboijlaaGreatDoorNf
import Derived.Test.YtpgdefgdboijlaaGreatDoorNg
import Derived.Deep.RegionHeld3
import Derived.Deep.DeepCutAuto
namespace Go.Proofs.YtpgdefgdboijlaaGreatDoor
open Go.RowKit
set_option linter.unusedVariables false
theorem div_q' (M : Nat) (hM : M ≤ 1099511627776) (vx vy : Value) (x y q : Rat) (hq : x / y = q) (w : World) (hx : Nm w vx x) (hy : Nm w vy y) (bx : Bq M x) (by_ : Bq M y) (h0 : y ≠ 0) :
    Calls Tryz.prog 53 #[vx, vy] w fun e w' => ∃ v, e = .returned (.tuple #[v, .int .i64 0]) ∧ Nm w' v q ∧ Ext w w' := by
  subst hq; exact div_q M hM vx vy x y w hx hy bx by_ h0
theorem ext_al {a b : World} (h : Ext a b) (o : Obj) : Ext a (b.alloc o) := ext_trans h (ext_alloc _ _)
theorem ext_dr {a b : World} (h : Ext a b) : Ext a b.drew := ext_trans h (ext_drew _)
theorem put3_rowz {W : World} {g : Nat} (h : W.heap[g]? = some (.cells #[.bool false, .slice none 0 0, .slice none 0 0] 25 (0, 0))) (a b c : Value) :
    (((W.setCell ⟨g, 0, none⟩ a).setCell ⟨g, 1, none⟩ b).setCell ⟨g, 2, none⟩ c).heap[g]? = some (.cells #[a, b, c] 25 (0, 0)) := put3_row h a b c
theorem nm_putz {W : World} {v : Value} {q : Rat} {g : Nat} (h : Nm W v q)
    (hg : W.heap[g]? = some (.cells #[.bool false, .slice none 0 0, .slice none 0 0] 25 (0, 0))) (a b c : Value) :
    Nm (((W.setCell ⟨g, 0, none⟩ a).setCell ⟨g, 1, none⟩ b).setCell ⟨g, 2, none⟩ c) v q := h.put3' hg a b c
theorem row_dr {W : World} {g : Nat} {o : Obj} (h : W.heap[g]? = some o) : W.drew.heap[g]? = some o := h
theorem row_al {W : World} {g : Nat} {o o' : Obj} (h : W.heap[g]? = some o) : (W.alloc o').heap[g]? = some o := ((ext_alloc W o').block _ (lt_of_block h)).trans h
theorem row_new1 (W : World) (a b : Obj) : ((W.alloc a).alloc b).heap[W.heap.size + 1]? = some b := by
  rw [← heap_size_alloc' W a]; exact heap_alloc_new _ _
theorem row_newp (W : World) (g : Nat) (a b c : Value) (o : Obj) : ((((W.setCell ⟨g, 0, none⟩ a).setCell ⟨g, 1, none⟩ b).setCell ⟨g, 2, none⟩ c).alloc o).heap[W.heap.size]? = some o := by
  have h : (((W.setCell ⟨g, 0, none⟩ a).setCell ⟨g, 1, none⟩ b).setCell ⟨g, 2, none⟩ c).heap.size = W.heap.size := by simp [World.setCell]
  rw [← h]; exact heap_alloc_new _ _
theorem nm_dr {W : World} {v : Value} {q : Rat} (h : Nm W v q) : Nm W.drew v q := h.mono (ext_drew _)
theorem nm_al {W : World} {v : Value} {q : Rat} {o : Obj} (h : Nm W v q) : Nm (W.alloc o) v q := h.mono (ext_alloc _ _)
/-- two new numbers -/
def TwoR (W0 : World) (q1 q2 : Rat) (gs gp : Nat) (wx : World) : Prop := ∃ b A k c B l d b' A' k' c' B' l' d',
  wx.heap[gs]? = some (.cells #[.bool b, .slice A k c, .slice B l d] 25 (0, 0)) ∧ wx.heap[gp]? = some (.cells #[.bool b', .slice A' k' c', .slice B' l' d'] 25 (0, 0)) ∧
  Nm wx (.agg #[.bool b, .slice A k c, .slice B l d]) q1 ∧ Nm wx (.agg #[.bool b', .slice A' k' c', .slice B' l' d']) q2 ∧ Ext W0 wx
set_option maxRecDepth 100000 in
set_option maxHeartbeats 8000000 in
theorem field_c (u v s : List UInt8) (hu : u.length ≤ 9223372036854775807) (hv : v.length ≤ 9223372036854775807) (hs : s.length ≤ 9223372036854775807) (w : World) (ht : Tab w) :
    Calls Tryz.prog 9 #[.string ⟨u.toArray⟩, .string ⟨v.toArray⟩, .string ⟨s.toArray⟩] w fun e w' => e = .returned (.bool true) ∧ Ext w w' := by
  have HT := Lib.hid ht
  clear ht
  obtain ⟨M, hM⟩ : ∃ M, M = 65536 := ⟨_, rfl⟩
  have HM := Lib.hid (show M ≤ 1073741824 by omega)
  have HM4 := Lib.hid (show M ≤ 1099511627776 by omega)
  have BU := Lib.hid ((parse_small u).mono (show 4001 ≤ M by omega))
  have BV := Lib.hid ((parse_small v).mono (show 4001 ≤ M by omega))
  have BX := Lib.hid ((parse_small s).mono (show 4001 ≤ M by omega))
  have BS := Lib.hid (((parse_small u).add (parse_small v)).mono (show 4001 + 4001 + 1 ≤ M by omega))
  have BP := Lib.hid (((parse_small u).mul (parse_small v)).mono (show 4001 + 4001 ≤ M by omega))
  have BB1 := Lib.hid ((((parse_small u).add (parse_small v)).add (parse_small s)).mono (show 4001 + 4001 + 1 + 4001 + 1 ≤ M by omega))
  have BB2 := Lib.hid (((parse_small v).add (parse_small s)).mono (show 4001 + 4001 + 1 ≤ M by omega))
  have BB3 := Lib.hid ((((parse_small u).mul (parse_small v)).mul (parse_small s)).mono (show 4001 + 4001 + 4001 ≤ M by omega))
  have BB4 := Lib.hid (((parse_small v).mul (parse_small s)).mono (show 4001 + 4001 ≤ M by omega))
  have BB5 := Lib.hid (((parse_small u).mul (parse_small s)).mono (show 4001 + 4001 ≤ M by omega))
  have BB6 := Lib.hid ((((parse_small u).add (parse_small v)).mul (parse_small s)).mono (show 4001 + 4001 + 1 + 4001 ≤ M by omega))
  have BNX := Lib.hid BU.out.neg
  go_enter Tryz.func9, Tryz.ntmps9
  go_wp2_with fail
  refine (three_c u v s hu hv hs _).mono ?_
  rintro e w1 ⟨v1, v2, v3, rfl, h1, h2, h3, j1⟩
  obtain ⟨b1, A1, k1, ca1, B1, l1, cb1, rfl⟩ := h1.form2
  obtain ⟨b2, A2, k2, ca2, B2, l2, cb2, rfl⟩ := h2.form2
  obtain ⟨b3, A3, k3, ca3, B3, l3, cb3, rfl⟩ := h3.form2
  generalize ((parseS u).1 == 0 && (parseS v).1 == 0 && (parseS s).1 == 0) = is
  generalize (parseS u).2 = x at *
  generalize (parseS v).2 = y at *
  generalize (parseS s).2 = z at *
  have H1 := Lib.hid h1
  have H2 := Lib.hid h2
  have H3 := Lib.hid h3
  have J1 := Lib.hid j1
  clear h1 h2 h3 j1 hM
  cases is
  · go_wp2_with fail
    refine (awake_c _ (HT.out.mono (ext_trans J1.out (ext_trans (ext_alloc _ _) (ext_trans (ext_alloc _ _) (ext_alloc _ _)))))).mono ?_
    rintro e w2 ⟨rfl, k2⟩
    go_wp2_with fail
    go_ret
    exact ⟨rfl, ext_trans J1.out (ext_trans (ext_trans (ext_alloc _ _) (ext_trans (ext_alloc _ _) (ext_alloc _ _))) k2)⟩
  · go_upto_region 4 with (fail)
    have EA := Lib.hid (show Ext w1 (((w1.alloc (.cells #[.bool b1, .slice A1 k1 ca1, .slice B1 l1 cb1] 25)).alloc (.cells #[.bool b2, .slice A2 k2 ca2, .slice B2 l2 cb2] 25)).alloc (.cells #[.bool b3, .slice A3 k3 ca3, .slice B3 l3 cb3] 25)) from ext_trans (ext_alloc _ _) (ext_trans (ext_alloc _ _) (ext_alloc _ _)))
    have R1 := Lib.hid (show (((w1.alloc (.cells #[.bool b1, .slice A1 k1 ca1, .slice B1 l1 cb1] 25)).alloc (.cells #[.bool b2, .slice A2 k2 ca2, .slice B2 l2 cb2] 25)).alloc (.cells #[.bool b3, .slice A3 k3 ca3, .slice B3 l3 cb3] 25)).heap[w1.heap.size]? = some (.cells #[.bool b1, .slice A1 k1 ca1, .slice B1 l1 cb1] 25 (0, 0)) from row3 (ext_trans (ext_alloc _ _) (ext_alloc _ _)))
    have R2 := Lib.hid (show (((w1.alloc (.cells #[.bool b1, .slice A1 k1 ca1, .slice B1 l1 cb1] 25)).alloc (.cells #[.bool b2, .slice A2 k2 ca2, .slice B2 l2 cb2] 25)).alloc (.cells #[.bool b3, .slice A3 k3 ca3, .slice B3 l3 cb3] 25)).heap[w1.heap.size + 1]? = some (.cells #[.bool b2, .slice A2 k2 ca2, .slice B2 l2 cb2] 25 (0, 0)) from by rw [← heap_size_alloc' w1 (.cells #[.bool b1, .slice A1 k1 ca1, .slice B1 l1 cb1] 25)]; exact row3 (ext_alloc _ _))
    have R3 := Lib.hid (show (((w1.alloc (.cells #[.bool b1, .slice A1 k1 ca1, .slice B1 l1 cb1] 25)).alloc (.cells #[.bool b2, .slice A2 k2 ca2, .slice B2 l2 cb2] 25)).alloc (.cells #[.bool b3, .slice A3 k3 ca3, .slice B3 l3 cb3] 25)).heap[w1.heap.size + 1 + 1]? = some (.cells #[.bool b3, .slice A3 k3 ca3, .slice B3 l3 cb3] 25 (0, 0)) from by rw [← heap_size_alloc' w1 (.cells #[.bool b1, .slice A1 k1 ca1, .slice B1 l1 cb1] 25), ← heap_size_alloc' (w1.alloc (.cells #[.bool b1, .slice A1 k1 ca1, .slice B1 l1 cb1] 25)) (.cells #[.bool b2, .slice A2 k2 ca2, .slice B2 l2 cb2] 25)]; exact heap_alloc_new _ _)
    have E1 := Lib.hid (ext_trans J1.out EA.out)
    have NX := Lib.hid (H1.out.mono EA.out)
    have NY := Lib.hid (H2.out.mono EA.out)
    have NZ := Lib.hid (H3.out.mono EA.out)
    clear EA H1 H2 H3 J1
    generalize World.alloc (World.alloc (World.alloc w1 (.cells #[.bool b1, .slice A1 k1 ca1, .slice B1 l1 cb1] _)) (.cells #[.bool b2, .slice A2 k2 ca2, .slice B2 l2 cb2] _)) (.cells #[.bool b3, .slice A3 k3 ca3, .slice B3 l3 cb3] _) = WX at *
    generalize w1.heap.size = g1 at *
    have HC := Lib.hid (show ∀ W : World, Ext WX W → W.cell? ⟨g1, 0, none⟩ = some (.bool b1) ∧ W.cell? ⟨g1, 1, none⟩ = some (.slice A1 k1 ca1) ∧ W.cell? ⟨g1, 2, none⟩ = some (.slice B1 l1 cb1) ∧ W.cell? ⟨g1 + 1, 0, none⟩ = some (.bool b2) ∧ W.cell? ⟨g1 + 1, 1, none⟩ = some (.slice A2 k2 ca2) ∧ W.cell? ⟨g1 + 1, 2, none⟩ = some (.slice B2 l2 cb2) ∧ W.cell? ⟨g1 + 1 + 1, 0, none⟩ = some (.bool b3) ∧ W.cell? ⟨g1 + 1 + 1, 1, none⟩ = some (.slice A3 k3 ca3) ∧ W.cell? ⟨g1 + 1 + 1, 2, none⟩ = some (.slice B3 l3 cb3) from fun W h => by
      obtain ⟨p0, p1, p2, -⟩ := row3_0 ((h.block _ (lt_of_block R1.out)).trans R1.out)
      obtain ⟨q0, q1, q2, -⟩ := row3_0 ((h.block _ (lt_of_block R2.out)).trans R2.out)
      obtain ⟨s0, s1, s2, -⟩ := row3_0 ((h.block _ (lt_of_block R3.out)).trans R3.out)
      exact ⟨p0, p1, p2, q0, q1, q2, s0, s1, s2⟩)
    go_cut [11, 12] (fun p q wx => ∃ gs gp : Nat, p = .pointer (some ⟨gs, 0, none⟩) ∧ q = .pointer (some ⟨gp, 0, none⟩) ∧ TwoR WX (x + y) (x * y) gs gp wx)
    case first =>
      have hx0 := Lib.hid (ext_refl WX)
      have hS0 := HC.out WX hx0.out
      have hza := Lib.hid (show WX.heap.size ≤ WX.heap.size from Nat.le_refl _)
      have hzb := Lib.hid (show WX.heap.size ≤ WX.heap.size + 1 from Nat.le_succ _)
      have HGS := Lib.hid (lt_of_block R3.out)
      have hqx : g1 + 1 + 1 < WX.heap.size := HGS.out
      have nex00 : g1 ≠ WX.heap.size := by omega
      have nex01 : g1 ≠ WX.heap.size + 1 := by omega
      have nex10 : g1 + 1 ≠ WX.heap.size := by omega
      have nex11 : g1 + 1 ≠ WX.heap.size + 1 := by omega
      have nex20 : g1 + 1 + 1 ≠ WX.heap.size := by omega
      have nex21 : g1 + 1 + 1 ≠ WX.heap.size + 1 := by omega
      clear hqx
      go_region_held3 (fun W => W.cell? ⟨g1, 0, none⟩ = some (.bool b1) ∧ W.cell? ⟨g1, 1, none⟩ = some (.slice A1 k1 ca1) ∧ W.cell? ⟨g1, 2, none⟩ = some (.slice B1 l1 cb1) ∧ W.cell? ⟨g1 + 1, 0, none⟩ = some (.bool b2) ∧ W.cell? ⟨g1 + 1, 1, none⟩ = some (.slice A2 k2 ca2) ∧ W.cell? ⟨g1 + 1, 2, none⟩ = some (.slice B2 l2 cb2) ∧ W.cell? ⟨g1 + 1 + 1, 0, none⟩ = some (.bool b3) ∧ W.cell? ⟨g1 + 1 + 1, 1, none⟩ = some (.slice A3 k3 ca3) ∧ W.cell? ⟨g1 + 1 + 1, 2, none⟩ = some (.slice B3 l3 cb3))
        ((refine HC.out _ ?_; (repeat (first | with_reducible refine ext_dr ?_ | with_reducible refine ext_put3 ?_ (by first | with_reducible exact hza.out | with_reducible exact hzb.out | with_reducible exact hzc.out | with_reducible exact hzd.out | with_reducible exact hze.out | with_reducible exact hzf.out) _ _ _ | with_reducible refine ext_al ?_ _ | with_reducible exact hx2.out | with_reducible exact hx1.out | with_reducible exact hx0.out)); done))
        (first
        | (go_at_call 50
           with_reducible refine (add_q M HM4.out _ _ x y ((WX.alloc (.cells #[.bool false, .slice none 0 0, .slice none 0 0] 25)).alloc (.cells #[.bool false, .slice none 0 0, .slice none 0 0] 25)).drew (NX.out.mono (by (repeat (first | with_reducible refine ext_dr ?_ | with_reducible refine ext_put3 ?_ (by first | with_reducible exact hza.out | with_reducible exact hzb.out | with_reducible exact hzc.out | with_reducible exact hzd.out | with_reducible exact hze.out | with_reducible exact hzf.out) _ _ _ | with_reducible refine ext_al ?_ _ | with_reducible exact hx2.out | with_reducible exact hx1.out | with_reducible exact hx0.out)))) (NY.out.mono (by (repeat (first | with_reducible refine ext_dr ?_ | with_reducible refine ext_put3 ?_ (by first | with_reducible exact hza.out | with_reducible exact hzb.out | with_reducible exact hzc.out | with_reducible exact hzd.out | with_reducible exact hze.out | with_reducible exact hzf.out) _ _ _ | with_reducible refine ext_al ?_ _ | with_reducible exact hx2.out | with_reducible exact hx1.out | with_reducible exact hx0.out)))) BU.out BV.out).mono ?_
           rintro e w4 ⟨v4, rfl, h4, kk4⟩
           obtain ⟨b4, A4, k4, ca4, B4, l4, cb4, rfl⟩ := h4.form2
           have H4 := Lib.hid h4
           have hx1 := Lib.hid (show Ext WX w4 from ext_trans (by (repeat (first | with_reducible refine ext_dr ?_ | with_reducible refine ext_put3 ?_ (by first | with_reducible exact hza.out | with_reducible exact hzb.out | with_reducible exact hzc.out | with_reducible exact hzd.out | with_reducible exact hze.out | with_reducible exact hzf.out) _ _ _ | with_reducible refine ext_al ?_ _ | with_reducible exact hx2.out | with_reducible exact hx1.out | with_reducible exact hx0.out))) kk4)
           have za := Lib.hid (row3 (w := WX) (show Ext (WX.alloc (.cells #[.bool false, .slice none 0 0, .slice none 0 0] 25)) w4 from ext_trans (ext_alloc (WX.alloc (.cells #[.bool false, .slice none 0 0, .slice none 0 0] 25)) _) (ext_trans (ext_drew _) kk4)))
           have zb := Lib.hid (show w4.heap[WX.heap.size + 1]? = some (.cells #[.bool false, .slice none 0 0, .slice none 0 0] 25 (0, 0)) by rw [← heap_size_alloc' WX (.cells #[.bool false, .slice none 0 0, .slice none 0 0] 25)]; exact row3 (w := WX.alloc (.cells #[.bool false, .slice none 0 0, .slice none 0 0] 25)) (ext_trans (ext_drew _) kk4))
           have e1 := Lib.hid (ext_refl w4)
           have hqy : g1 + 1 + 1 < w4.heap.size := Nat.lt_of_lt_of_le HGS.out hx1.out.size
           have ney00 : g1 ≠ w4.heap.size := by omega
           have ney01 : g1 ≠ w4.heap.size + 1 := by omega
           have ney10 : g1 + 1 ≠ w4.heap.size := by omega
           have ney11 : g1 + 1 ≠ w4.heap.size + 1 := by omega
           have ney20 : g1 + 1 + 1 ≠ w4.heap.size := by omega
           have ney21 : g1 + 1 + 1 ≠ w4.heap.size + 1 := by omega
           clear hqy
           have hzc := Lib.hid (show WX.heap.size ≤ w4.heap.size from hx1.out.size)
           have hzd := Lib.hid (show WX.heap.size ≤ w4.heap.size + 1 from Nat.le_succ_of_le hx1.out.size)
           clear h4 kk4)
        | (go_at_call 50
           with_reducible refine (add_q M HM4.out _ _ x y (WX.alloc (.cells #[.bool false, .slice none 0 0, .slice none 0 0] 25)).drew (NX.out.mono (by (repeat (first | with_reducible refine ext_dr ?_ | with_reducible refine ext_put3 ?_ (by first | with_reducible exact hza.out | with_reducible exact hzb.out | with_reducible exact hzc.out | with_reducible exact hzd.out | with_reducible exact hze.out | with_reducible exact hzf.out) _ _ _ | with_reducible refine ext_al ?_ _ | with_reducible exact hx2.out | with_reducible exact hx1.out | with_reducible exact hx0.out)))) (NY.out.mono (by (repeat (first | with_reducible refine ext_dr ?_ | with_reducible refine ext_put3 ?_ (by first | with_reducible exact hza.out | with_reducible exact hzb.out | with_reducible exact hzc.out | with_reducible exact hzd.out | with_reducible exact hze.out | with_reducible exact hzf.out) _ _ _ | with_reducible refine ext_al ?_ _ | with_reducible exact hx2.out | with_reducible exact hx1.out | with_reducible exact hx0.out)))) BU.out BV.out).mono ?_
           rintro e w4 ⟨v4, rfl, h4, kk4⟩
           obtain ⟨b4, A4, k4, ca4, B4, l4, cb4, rfl⟩ := h4.form2
           have H4 := Lib.hid h4
           have hx1 := Lib.hid (show Ext WX w4 from ext_trans (by (repeat (first | with_reducible refine ext_dr ?_ | with_reducible refine ext_put3 ?_ (by first | with_reducible exact hza.out | with_reducible exact hzb.out | with_reducible exact hzc.out | with_reducible exact hzd.out | with_reducible exact hze.out | with_reducible exact hzf.out) _ _ _ | with_reducible refine ext_al ?_ _ | with_reducible exact hx2.out | with_reducible exact hx1.out | with_reducible exact hx0.out))) kk4)
           have za := Lib.hid (row3 (ext_trans (ext_drew _) kk4))
           have e1 := Lib.hid (ext_refl w4)
           have hqy : g1 + 1 + 1 < w4.heap.size := Nat.lt_of_lt_of_le HGS.out hx1.out.size
           have ney00 : g1 ≠ w4.heap.size := by omega
           have ney01 : g1 ≠ w4.heap.size + 1 := by omega
           have ney10 : g1 + 1 ≠ w4.heap.size := by omega
           have ney11 : g1 + 1 ≠ w4.heap.size + 1 := by omega
           have ney20 : g1 + 1 + 1 ≠ w4.heap.size := by omega
           have ney21 : g1 + 1 + 1 ≠ w4.heap.size + 1 := by omega
           clear hqy
           have hzc := Lib.hid (show WX.heap.size ≤ w4.heap.size from hx1.out.size)
           have hzd := Lib.hid (show WX.heap.size ≤ w4.heap.size + 1 from Nat.le_succ_of_le hx1.out.size)
           clear h4 kk4)
        | (go_at_call 50
           with_reducible refine (add_q M HM4.out _ _ x y WX.drew (NX.out.mono (by (repeat (first | with_reducible refine ext_dr ?_ | with_reducible refine ext_put3 ?_ (by first | with_reducible exact hza.out | with_reducible exact hzb.out | with_reducible exact hzc.out | with_reducible exact hzd.out | with_reducible exact hze.out | with_reducible exact hzf.out) _ _ _ | with_reducible refine ext_al ?_ _ | with_reducible exact hx2.out | with_reducible exact hx1.out | with_reducible exact hx0.out)))) (NY.out.mono (by (repeat (first | with_reducible refine ext_dr ?_ | with_reducible refine ext_put3 ?_ (by first | with_reducible exact hza.out | with_reducible exact hzb.out | with_reducible exact hzc.out | with_reducible exact hzd.out | with_reducible exact hze.out | with_reducible exact hzf.out) _ _ _ | with_reducible refine ext_al ?_ _ | with_reducible exact hx2.out | with_reducible exact hx1.out | with_reducible exact hx0.out)))) BU.out BV.out).mono ?_
           rintro e w4 ⟨v4, rfl, h4, kk4⟩
           obtain ⟨b4, A4, k4, ca4, B4, l4, cb4, rfl⟩ := h4.form2
           have H4 := Lib.hid h4
           have hx1 := Lib.hid (show Ext WX w4 from ext_trans (by (repeat (first | with_reducible refine ext_dr ?_ | with_reducible refine ext_put3 ?_ (by first | with_reducible exact hza.out | with_reducible exact hzb.out | with_reducible exact hzc.out | with_reducible exact hzd.out | with_reducible exact hze.out | with_reducible exact hzf.out) _ _ _ | with_reducible refine ext_al ?_ _ | with_reducible exact hx2.out | with_reducible exact hx1.out | with_reducible exact hx0.out))) kk4)
           have e1 := Lib.hid (ext_refl w4)
           have hqy : g1 + 1 + 1 < w4.heap.size := Nat.lt_of_lt_of_le HGS.out hx1.out.size
           have ney00 : g1 ≠ w4.heap.size := by omega
           have ney01 : g1 ≠ w4.heap.size + 1 := by omega
           have ney10 : g1 + 1 ≠ w4.heap.size := by omega
           have ney11 : g1 + 1 ≠ w4.heap.size + 1 := by omega
           have ney20 : g1 + 1 + 1 ≠ w4.heap.size := by omega
           have ney21 : g1 + 1 + 1 ≠ w4.heap.size + 1 := by omega
           clear hqy
           have hzc := Lib.hid (show WX.heap.size ≤ w4.heap.size from hx1.out.size)
           have hzd := Lib.hid (show WX.heap.size ≤ w4.heap.size + 1 from Nat.le_succ_of_le hx1.out.size)
           clear h4 kk4)
        | (go_at_call 29
           have _q := hx1
           rename_i hh _ _
           clear hh
           with_reducible refine (mul_q M HM4.out _ _ x y ((w4.alloc (.cells #[.bool false, .slice none 0 0, .slice none 0 0] 25)).alloc (.cells #[.bool false, .slice none 0 0, .slice none 0 0] 25)) (NX.out.mono (by (repeat (first | with_reducible refine ext_dr ?_ | with_reducible refine ext_put3 ?_ (by first | with_reducible exact hza.out | with_reducible exact hzb.out | with_reducible exact hzc.out | with_reducible exact hzd.out | with_reducible exact hze.out | with_reducible exact hzf.out) _ _ _ | with_reducible refine ext_al ?_ _ | with_reducible exact hx2.out | with_reducible exact hx1.out | with_reducible exact hx0.out)))) (NY.out.mono (by (repeat (first | with_reducible refine ext_dr ?_ | with_reducible refine ext_put3 ?_ (by first | with_reducible exact hza.out | with_reducible exact hzb.out | with_reducible exact hzc.out | with_reducible exact hzd.out | with_reducible exact hze.out | with_reducible exact hzf.out) _ _ _ | with_reducible refine ext_al ?_ _ | with_reducible exact hx2.out | with_reducible exact hx1.out | with_reducible exact hx0.out)))) BU.out BV.out).mono ?_
           rintro e w5 ⟨v5, rfl, h5, kk5⟩
           obtain ⟨b5, A5, k5, ca5, B5, l5, cb5, rfl⟩ := h5.form2
           have H5 := Lib.hid h5
           have hx2 := Lib.hid (show Ext WX w5 from ext_trans (by (repeat (first | with_reducible refine ext_dr ?_ | with_reducible refine ext_put3 ?_ (by first | with_reducible exact hza.out | with_reducible exact hzb.out | with_reducible exact hzc.out | with_reducible exact hzd.out | with_reducible exact hze.out | with_reducible exact hzf.out) _ _ _ | with_reducible refine ext_al ?_ _ | with_reducible exact hx2.out | with_reducible exact hx1.out | with_reducible exact hx0.out))) kk5)
           have zc' := Lib.hid (row3 (w := w4) (show Ext (w4.alloc (.cells #[.bool false, .slice none 0 0, .slice none 0 0] 25)) w5 from ext_trans (ext_alloc (w4.alloc (.cells #[.bool false, .slice none 0 0, .slice none 0 0] 25)) _) kk5))
           have zd' := Lib.hid (show w5.heap[w4.heap.size + 1]? = some (.cells #[.bool false, .slice none 0 0, .slice none 0 0] 25 (0, 0)) by rw [← heap_size_alloc' w4 (.cells #[.bool false, .slice none 0 0, .slice none 0 0] 25)]; exact row3 (w := w4.alloc (.cells #[.bool false, .slice none 0 0, .slice none 0 0] 25)) kk5)
           obtain ⟨zc0, zc1, zc2, zcf0, zcf1, zcf2⟩ := row3_0 zc'.out
           obtain ⟨zd0, zd1, zd2, zdf0, zdf1, zdf2⟩ := row3_0 zd'.out
           have la := lt_of_block zc'.out
           have lb := lt_of_block zd'.out
           have nn : w4.heap.size ≠ w4.heap.size + 1 := Nat.ne_of_lt (Nat.lt_succ_self _)
           have nm : w4.heap.size + 1 ≠ w4.heap.size := Nat.succ_ne_self _
           have H4' := Lib.hid (H4.out.mono (ext_trans (ext_alloc _ _) (ext_trans (ext_alloc _ _) kk5)))
           have hqz : g1 + 1 + 1 < w5.heap.size := Nat.lt_of_lt_of_le HGS.out hx2.out.size
           have nez00 : g1 ≠ w5.heap.size := by omega
           have nez01 : g1 ≠ w5.heap.size + 1 := by omega
           have nez10 : g1 + 1 ≠ w5.heap.size := by omega
           have nez11 : g1 + 1 ≠ w5.heap.size + 1 := by omega
           have nez20 : g1 + 1 + 1 ≠ w5.heap.size := by omega
           have nez21 : g1 + 1 + 1 ≠ w5.heap.size + 1 := by omega
           clear hqz
           have hze := Lib.hid (show WX.heap.size ≤ w5.heap.size from hx2.out.size)
           have hzf := Lib.hid (show WX.heap.size ≤ w5.heap.size + 1 from Nat.le_succ_of_le hx2.out.size)
           try generalize w4.heap.size + 1 = g4b at *
           try generalize w4.heap.size = g4 at *
           try generalize WX.heap.size + 1 = gxb at *
           clear h5 kk5)
        | (go_at_call 29
           have _q := hx1
           rename_i hh _ _
           clear hh
           with_reducible refine (mul_q M HM4.out _ _ x y (w4.alloc (.cells #[.bool false, .slice none 0 0, .slice none 0 0] 25)) (NX.out.mono (by (repeat (first | with_reducible refine ext_dr ?_ | with_reducible refine ext_put3 ?_ (by first | with_reducible exact hza.out | with_reducible exact hzb.out | with_reducible exact hzc.out | with_reducible exact hzd.out | with_reducible exact hze.out | with_reducible exact hzf.out) _ _ _ | with_reducible refine ext_al ?_ _ | with_reducible exact hx2.out | with_reducible exact hx1.out | with_reducible exact hx0.out)))) (NY.out.mono (by (repeat (first | with_reducible refine ext_dr ?_ | with_reducible refine ext_put3 ?_ (by first | with_reducible exact hza.out | with_reducible exact hzb.out | with_reducible exact hzc.out | with_reducible exact hzd.out | with_reducible exact hze.out | with_reducible exact hzf.out) _ _ _ | with_reducible refine ext_al ?_ _ | with_reducible exact hx2.out | with_reducible exact hx1.out | with_reducible exact hx0.out)))) BU.out BV.out).mono ?_
           rintro e w5 ⟨v5, rfl, h5, kk5⟩
           obtain ⟨b5, A5, k5, ca5, B5, l5, cb5, rfl⟩ := h5.form2
           have H5 := Lib.hid h5
           have hx2 := Lib.hid (show Ext WX w5 from ext_trans (by (repeat (first | with_reducible refine ext_dr ?_ | with_reducible refine ext_put3 ?_ (by first | with_reducible exact hza.out | with_reducible exact hzb.out | with_reducible exact hzc.out | with_reducible exact hzd.out | with_reducible exact hze.out | with_reducible exact hzf.out) _ _ _ | with_reducible refine ext_al ?_ _ | with_reducible exact hx2.out | with_reducible exact hx1.out | with_reducible exact hx0.out))) kk5)
           have za' := Lib.hid (((ext_trans (ext_alloc _ _) kk5).block _ (lt_of_block za.out)).trans za.out)
           have zc' := Lib.hid (row3 kk5)
           obtain ⟨za0, za1, za2, zaf0, zaf1, zaf2⟩ := row3_0 za'.out
           obtain ⟨zc0, zc1, zc2, zcf0, zcf1, zcf2⟩ := row3_0 zc'.out
           have la := lt_of_block za.out
           have lan := Nat.ne_of_lt la
           have lag := Nat.ne_of_gt la
           have H4' := Lib.hid (H4.out.mono (ext_trans (ext_alloc _ _) kk5))
           have hqz : g1 + 1 + 1 < w5.heap.size := Nat.lt_of_lt_of_le HGS.out hx2.out.size
           have nez00 : g1 ≠ w5.heap.size := by omega
           have nez01 : g1 ≠ w5.heap.size + 1 := by omega
           have nez10 : g1 + 1 ≠ w5.heap.size := by omega
           have nez11 : g1 + 1 ≠ w5.heap.size + 1 := by omega
           have nez20 : g1 + 1 + 1 ≠ w5.heap.size := by omega
           have nez21 : g1 + 1 + 1 ≠ w5.heap.size + 1 := by omega
           clear hqz
           have hze := Lib.hid (show WX.heap.size ≤ w5.heap.size from hx2.out.size)
           have hzf := Lib.hid (show WX.heap.size ≤ w5.heap.size + 1 from Nat.le_succ_of_le hx2.out.size)
           try generalize w4.heap.size + 1 = g4b at *
           try generalize w4.heap.size = g4 at *
           try generalize WX.heap.size + 1 = gxb at *
           clear h5 kk5)
        | (go_at_call 29
           have _q := hx1
           rename_i hh _ _
           clear hh
           with_reducible refine (mul_q M HM4.out _ _ x y (w4.alloc (.cells #[.bool false, .slice none 0 0, .slice none 0 0] 25)) (NX.out.mono (by (repeat (first | with_reducible refine ext_dr ?_ | with_reducible refine ext_put3 ?_ (by first | with_reducible exact hza.out | with_reducible exact hzb.out | with_reducible exact hzc.out | with_reducible exact hzd.out | with_reducible exact hze.out | with_reducible exact hzf.out) _ _ _ | with_reducible refine ext_al ?_ _ | with_reducible exact hx2.out | with_reducible exact hx1.out | with_reducible exact hx0.out)))) (NY.out.mono (by (repeat (first | with_reducible refine ext_dr ?_ | with_reducible refine ext_put3 ?_ (by first | with_reducible exact hza.out | with_reducible exact hzb.out | with_reducible exact hzc.out | with_reducible exact hzd.out | with_reducible exact hze.out | with_reducible exact hzf.out) _ _ _ | with_reducible refine ext_al ?_ _ | with_reducible exact hx2.out | with_reducible exact hx1.out | with_reducible exact hx0.out)))) BU.out BV.out).mono ?_
           rintro e w5 ⟨v5, rfl, h5, kk5⟩
           obtain ⟨b5, A5, k5, ca5, B5, l5, cb5, rfl⟩ := h5.form2
           have H5 := Lib.hid h5
           have hx2 := Lib.hid (show Ext WX w5 from ext_trans (by (repeat (first | with_reducible refine ext_dr ?_ | with_reducible refine ext_put3 ?_ (by first | with_reducible exact hza.out | with_reducible exact hzb.out | with_reducible exact hzc.out | with_reducible exact hzd.out | with_reducible exact hze.out | with_reducible exact hzf.out) _ _ _ | with_reducible refine ext_al ?_ _ | with_reducible exact hx2.out | with_reducible exact hx1.out | with_reducible exact hx0.out))) kk5)
           have zc' := Lib.hid (row3 kk5)
           obtain ⟨zc0, zc1, zc2, zcf0, zcf1, zcf2⟩ := row3_0 zc'.out
           obtain ⟨zc0', zc1', zc2', zcf0', zcf1', zcf2'⟩ := row3_0 (((ext_alloc w5 (.cells #[.bool false, .slice none 0 0, .slice none 0 0] 25)).block _ (lt_of_block zc'.out)).trans zc'.out)
           have la := lt_of_block zc'.out
           have lan := Nat.ne_of_lt la
           have lag := Nat.ne_of_gt la
           have H4' := Lib.hid (H4.out.mono (ext_trans (ext_alloc _ _) kk5))
           have hqz : g1 + 1 + 1 < w5.heap.size := Nat.lt_of_lt_of_le HGS.out hx2.out.size
           have nez00 : g1 ≠ w5.heap.size := by omega
           have nez01 : g1 ≠ w5.heap.size + 1 := by omega
           have nez10 : g1 + 1 ≠ w5.heap.size := by omega
           have nez11 : g1 + 1 ≠ w5.heap.size + 1 := by omega
           have nez20 : g1 + 1 + 1 ≠ w5.heap.size := by omega
           have nez21 : g1 + 1 + 1 ≠ w5.heap.size + 1 := by omega
           clear hqz
           have hze := Lib.hid (show WX.heap.size ≤ w5.heap.size from hx2.out.size)
           have hzf := Lib.hid (show WX.heap.size ≤ w5.heap.size + 1 from Nat.le_succ_of_le hx2.out.size)
           try generalize w4.heap.size + 1 = g4b at *
           try generalize w4.heap.size = g4 at *
           try generalize WX.heap.size + 1 = gxb at *
           clear h5 kk5)
        | (go_at_call 29
           have _q := hx1
           rename_i hh _ _
           clear hh
           with_reducible refine (mul_q M HM4.out _ _ x y w4 (NX.out.mono (by (repeat (first | with_reducible refine ext_dr ?_ | with_reducible refine ext_put3 ?_ (by first | with_reducible exact hza.out | with_reducible exact hzb.out | with_reducible exact hzc.out | with_reducible exact hzd.out | with_reducible exact hze.out | with_reducible exact hzf.out) _ _ _ | with_reducible refine ext_al ?_ _ | with_reducible exact hx2.out | with_reducible exact hx1.out | with_reducible exact hx0.out)))) (NY.out.mono (by (repeat (first | with_reducible refine ext_dr ?_ | with_reducible refine ext_put3 ?_ (by first | with_reducible exact hza.out | with_reducible exact hzb.out | with_reducible exact hzc.out | with_reducible exact hzd.out | with_reducible exact hze.out | with_reducible exact hzf.out) _ _ _ | with_reducible refine ext_al ?_ _ | with_reducible exact hx2.out | with_reducible exact hx1.out | with_reducible exact hx0.out)))) BU.out BV.out).mono ?_
           rintro e w5 ⟨v5, rfl, h5, kk5⟩
           obtain ⟨b5, A5, k5, ca5, B5, l5, cb5, rfl⟩ := h5.form2
           have H5 := Lib.hid h5
           have hx2 := Lib.hid (show Ext WX w5 from ext_trans (by (repeat (first | with_reducible refine ext_dr ?_ | with_reducible refine ext_put3 ?_ (by first | with_reducible exact hza.out | with_reducible exact hzb.out | with_reducible exact hzc.out | with_reducible exact hzd.out | with_reducible exact hze.out | with_reducible exact hzf.out) _ _ _ | with_reducible refine ext_al ?_ _ | with_reducible exact hx2.out | with_reducible exact hx1.out | with_reducible exact hx0.out))) kk5)
           have za' := Lib.hid ((kk5.block _ (lt_of_block za.out)).trans za.out)
           have zb' := Lib.hid ((kk5.block _ (lt_of_block zb.out)).trans zb.out)
           obtain ⟨za0, za1, za2, zaf0, zaf1, zaf2⟩ := row3_0 za'.out
           obtain ⟨zb0, zb1, zb2, zbf0, zbf1, zbf2⟩ := row3_0 zb'.out
           have la := lt_of_block za'.out
           have lb := lt_of_block zb'.out
           have nn : WX.heap.size ≠ WX.heap.size + 1 := Nat.ne_of_lt (Nat.lt_succ_self _)
           have nm : WX.heap.size + 1 ≠ WX.heap.size := Nat.succ_ne_self _
           have H4' := Lib.hid (H4.out.mono kk5)
           have hqz : g1 + 1 + 1 < w5.heap.size := Nat.lt_of_lt_of_le HGS.out hx2.out.size
           have nez00 : g1 ≠ w5.heap.size := by omega
           have nez01 : g1 ≠ w5.heap.size + 1 := by omega
           have nez10 : g1 + 1 ≠ w5.heap.size := by omega
           have nez11 : g1 + 1 ≠ w5.heap.size + 1 := by omega
           have nez20 : g1 + 1 + 1 ≠ w5.heap.size := by omega
           have nez21 : g1 + 1 + 1 ≠ w5.heap.size + 1 := by omega
           clear hqz
           have hze := Lib.hid (show WX.heap.size ≤ w5.heap.size from hx2.out.size)
           have hzf := Lib.hid (show WX.heap.size ≤ w5.heap.size + 1 from Nat.le_succ_of_le hx2.out.size)
           try generalize w4.heap.size + 1 = g4b at *
           try generalize w4.heap.size = g4 at *
           try generalize WX.heap.size + 1 = gxb at *
           clear h5 kk5)
        | (go_at_call 29
           have _q := hx1
           rename_i hh _ _
           clear hh
           with_reducible refine (mul_q M HM4.out _ _ x y w4 (NX.out.mono (by (repeat (first | with_reducible refine ext_dr ?_ | with_reducible refine ext_put3 ?_ (by first | with_reducible exact hza.out | with_reducible exact hzb.out | with_reducible exact hzc.out | with_reducible exact hzd.out | with_reducible exact hze.out | with_reducible exact hzf.out) _ _ _ | with_reducible refine ext_al ?_ _ | with_reducible exact hx2.out | with_reducible exact hx1.out | with_reducible exact hx0.out)))) (NY.out.mono (by (repeat (first | with_reducible refine ext_dr ?_ | with_reducible refine ext_put3 ?_ (by first | with_reducible exact hza.out | with_reducible exact hzb.out | with_reducible exact hzc.out | with_reducible exact hzd.out | with_reducible exact hze.out | with_reducible exact hzf.out) _ _ _ | with_reducible refine ext_al ?_ _ | with_reducible exact hx2.out | with_reducible exact hx1.out | with_reducible exact hx0.out)))) BU.out BV.out).mono ?_
           rintro e w5 ⟨v5, rfl, h5, kk5⟩
           obtain ⟨b5, A5, k5, ca5, B5, l5, cb5, rfl⟩ := h5.form2
           have H5 := Lib.hid h5
           have hx2 := Lib.hid (show Ext WX w5 from ext_trans (by (repeat (first | with_reducible refine ext_dr ?_ | with_reducible refine ext_put3 ?_ (by first | with_reducible exact hza.out | with_reducible exact hzb.out | with_reducible exact hzc.out | with_reducible exact hzd.out | with_reducible exact hze.out | with_reducible exact hzf.out) _ _ _ | with_reducible refine ext_al ?_ _ | with_reducible exact hx2.out | with_reducible exact hx1.out | with_reducible exact hx0.out))) kk5)
           have za' := Lib.hid ((kk5.block _ (lt_of_block za.out)).trans za.out)
           obtain ⟨za0, za1, za2, zaf0, zaf1, zaf2⟩ := row3_0 za'.out
           obtain ⟨za0', za1', za2', zaf0', zaf1', zaf2'⟩ := row3_0 (((ext_alloc w5 (.cells #[.bool false, .slice none 0 0, .slice none 0 0] 25)).block _ (lt_of_block za'.out)).trans za'.out)
           have la := lt_of_block za'.out
           have lan := Nat.ne_of_lt la
           have lag := Nat.ne_of_gt la
           have H4' := Lib.hid (H4.out.mono kk5)
           have hqz : g1 + 1 + 1 < w5.heap.size := Nat.lt_of_lt_of_le HGS.out hx2.out.size
           have nez00 : g1 ≠ w5.heap.size := by omega
           have nez01 : g1 ≠ w5.heap.size + 1 := by omega
           have nez10 : g1 + 1 ≠ w5.heap.size := by omega
           have nez11 : g1 + 1 ≠ w5.heap.size + 1 := by omega
           have nez20 : g1 + 1 + 1 ≠ w5.heap.size := by omega
           have nez21 : g1 + 1 + 1 ≠ w5.heap.size + 1 := by omega
           clear hqz
           have hze := Lib.hid (show WX.heap.size ≤ w5.heap.size from hx2.out.size)
           have hzf := Lib.hid (show WX.heap.size ≤ w5.heap.size + 1 from Nat.le_succ_of_le hx2.out.size)
           try generalize w4.heap.size + 1 = g4b at *
           try generalize w4.heap.size = g4 at *
           try generalize WX.heap.size + 1 = gxb at *
           clear h5 kk5)
        | (go_at_call 29
           have _q := hx1
           rename_i hh _ _
           clear hh
           with_reducible refine (mul_q M HM4.out _ _ x y w4 (NX.out.mono (by (repeat (first | with_reducible refine ext_dr ?_ | with_reducible refine ext_put3 ?_ (by first | with_reducible exact hza.out | with_reducible exact hzb.out | with_reducible exact hzc.out | with_reducible exact hzd.out | with_reducible exact hze.out | with_reducible exact hzf.out) _ _ _ | with_reducible refine ext_al ?_ _ | with_reducible exact hx2.out | with_reducible exact hx1.out | with_reducible exact hx0.out)))) (NY.out.mono (by (repeat (first | with_reducible refine ext_dr ?_ | with_reducible refine ext_put3 ?_ (by first | with_reducible exact hza.out | with_reducible exact hzb.out | with_reducible exact hzc.out | with_reducible exact hzd.out | with_reducible exact hze.out | with_reducible exact hzf.out) _ _ _ | with_reducible refine ext_al ?_ _ | with_reducible exact hx2.out | with_reducible exact hx1.out | with_reducible exact hx0.out)))) BU.out BV.out).mono ?_
           rintro e w5 ⟨v5, rfl, h5, kk5⟩
           obtain ⟨b5, A5, k5, ca5, B5, l5, cb5, rfl⟩ := h5.form2
           have H5 := Lib.hid h5
           have hx2 := Lib.hid (show Ext WX w5 from ext_trans (by (repeat (first | with_reducible refine ext_dr ?_ | with_reducible refine ext_put3 ?_ (by first | with_reducible exact hza.out | with_reducible exact hzb.out | with_reducible exact hzc.out | with_reducible exact hzd.out | with_reducible exact hze.out | with_reducible exact hzf.out) _ _ _ | with_reducible refine ext_al ?_ _ | with_reducible exact hx2.out | with_reducible exact hx1.out | with_reducible exact hx0.out))) kk5)
           have H4' := Lib.hid (H4.out.mono kk5)
           have hqz : g1 + 1 + 1 < w5.heap.size := Nat.lt_of_lt_of_le HGS.out hx2.out.size
           have nez00 : g1 ≠ w5.heap.size := by omega
           have nez01 : g1 ≠ w5.heap.size + 1 := by omega
           have nez10 : g1 + 1 ≠ w5.heap.size := by omega
           have nez11 : g1 + 1 ≠ w5.heap.size + 1 := by omega
           have nez20 : g1 + 1 + 1 ≠ w5.heap.size := by omega
           have nez21 : g1 + 1 + 1 ≠ w5.heap.size + 1 := by omega
           clear hqz
           have hze := Lib.hid (show WX.heap.size ≤ w5.heap.size from hx2.out.size)
           have hzf := Lib.hid (show WX.heap.size ≤ w5.heap.size + 1 from Nat.le_succ_of_le hx2.out.size)
           try generalize w4.heap.size + 1 = g4b at *
           try generalize w4.heap.size = g4 at *
           try generalize WX.heap.size + 1 = gxb at *
           clear h5 kk5))
      all_goals
        go_wp2_with fail
        go_meet
        refine ⟨_, _, rfl, rfl, b4, A4, k4, ca4, B4, l4, cb4, b5, A5, k5, ca5, B5, l5, cb5, ?_, ?_, ?_, ?_, ?_⟩
        all_goals
          repeat (first | with_reducible exact H5.out | with_reducible exact H4'.out | with_reducible exact za'.out | with_reducible exact zb'.out | with_reducible exact zc'.out | with_reducible exact zd'.out | with_reducible refine nm_dr ?_ | with_reducible refine nm_al ?_ | with_reducible refine nm_putz ?_ ?_ _ _ _ | with_reducible refine row_dr ?_ | with_reducible exact heap_alloc_new _ _ | with_reducible exact row_new1 _ _ _ | with_reducible exact row_newp _ _ _ _ _ _ | with_reducible refine put3_rowz ?_ _ _ _ | with_reducible refine put3_other ?_ (by first | with_reducible exact nn | with_reducible exact nm | with_reducible exact lan | with_reducible exact lag) _ _ _ | with_reducible refine row_al ?_ | (first | with_reducible refine ext_dr ?_ | with_reducible refine ext_put3 ?_ (by first | with_reducible exact hza.out | with_reducible exact hzb.out | with_reducible exact hzc.out | with_reducible exact hzd.out | with_reducible exact hze.out | with_reducible exact hzf.out) _ _ _ | with_reducible refine ext_al ?_ _ | with_reducible exact hx2.out | with_reducible exact hx1.out | with_reducible exact hx0.out))
    case rest =>
      obtain ⟨gs, gp, rfl, rfl, b6, A6, k6, ca6, B6_, l6, cb6, b7, A7, k7, ca7, B7, l7, cb7, r6, r7, n6, n7, e6⟩ := hcut
      have R6 := Lib.hid r6
      have R7 := Lib.hid r7
      have N6 := Lib.hid n6
      have N7 := Lib.hid n7
      have KB := Lib.hid e6
      clear r6 r7 n6 n7 e6
      have HS := Lib.hid (show ∀ W : World, Ext wc W → W.cell? ⟨g1, 0, none⟩ = some (.bool b1) ∧ W.cell? ⟨g1, 1, none⟩ = some (.slice A1 k1 ca1) ∧ W.cell? ⟨g1, 2, none⟩ = some (.slice B1 l1 cb1) ∧ W.cell? ⟨g1 + 1, 0, none⟩ = some (.bool b2) ∧ W.cell? ⟨g1 + 1, 1, none⟩ = some (.slice A2 k2 ca2) ∧ W.cell? ⟨g1 + 1, 2, none⟩ = some (.slice B2 l2 cb2) ∧ W.cell? ⟨g1 + 1 + 1, 0, none⟩ = some (.bool b3) ∧ W.cell? ⟨g1 + 1 + 1, 1, none⟩ = some (.slice A3 k3 ca3) ∧ W.cell? ⟨g1 + 1 + 1, 2, none⟩ = some (.slice B3 l3 cb3) ∧ W.cell? ⟨gs, 0, none⟩ = some (.bool b6) ∧ W.cell? ⟨gs, 1, none⟩ = some (.slice A6 k6 ca6) ∧ W.cell? ⟨gs, 2, none⟩ = some (.slice B6_ l6 cb6) ∧ W.cell? ⟨gp, 0, none⟩ = some (.bool b7) ∧ W.cell? ⟨gp, 1, none⟩ = some (.slice A7 k7 ca7) ∧ W.cell? ⟨gp, 2, none⟩ = some (.slice B7 l7 cb7) from fun W h => by
        obtain ⟨p0, p1, p2, q0, q1, q2, s0, s1, s2⟩ := HC.out W (ext_trans KB.out h)
        obtain ⟨t0, t1, t2, -⟩ := row3_0 ((h.block _ (lt_of_block R6.out)).trans R6.out)
        obtain ⟨y0, y1, y2, -⟩ := row3_0 ((h.block _ (lt_of_block R7.out)).trans R7.out)
        exact ⟨p0, p1, p2, q0, q1, q2, s0, s1, s2, t0, t1, t2, y0, y1, y2⟩)
      have MX := Lib.hid (NX.out.mono KB.out)
      have MY := Lib.hid (NY.out.mono KB.out)
      have MZ := Lib.hid (NZ.out.mono KB.out)
      have TB := Lib.hid (HT.out.mono (ext_trans E1.out KB.out))
      have EW := Lib.hid (ext_trans E1.out KB.out)
      clear HC NX NY NZ E1 KB R1 R2 R3 R6 R7 HT
      have HW2 := Lib.hid (ext_refl wc)
      have hww := Lib.hid (ext_refl wc)
      go_upto_region 5 with (fail)
      have HXY := Lib.hid (show x + y - y = x by rw [Rat.sub_eq_add_neg, Rat.add_assoc, Rat.add_neg_cancel, Rat.add_zero])
      have HXX := Lib.hid (show x + -x = 0 from Rat.add_neg_cancel x)
      have hx0 := Lib.hid (ext_refl wc)
      have hS0 := HS.out _ (ext_trans HW2.out hx0.out)
      have e1 := Lib.hid (ext_drew wc)
      have hx1 := Lib.hid (ext_trans hx0.out e1.out)
      go_region_held3 (fun W => W.cell? ⟨g1, 0, none⟩ = some (.bool b1) ∧ W.cell? ⟨g1, 1, none⟩ = some (.slice A1 k1 ca1) ∧ W.cell? ⟨g1, 2, none⟩ = some (.slice B1 l1 cb1) ∧ W.cell? ⟨g1 + 1, 0, none⟩ = some (.bool b2) ∧ W.cell? ⟨g1 + 1, 1, none⟩ = some (.slice A2 k2 ca2) ∧ W.cell? ⟨g1 + 1, 2, none⟩ = some (.slice B2 l2 cb2) ∧ W.cell? ⟨g1 + 1 + 1, 0, none⟩ = some (.bool b3) ∧ W.cell? ⟨g1 + 1 + 1, 1, none⟩ = some (.slice A3 k3 ca3) ∧ W.cell? ⟨g1 + 1 + 1, 2, none⟩ = some (.slice B3 l3 cb3) ∧ W.cell? ⟨gs, 0, none⟩ = some (.bool b6) ∧ W.cell? ⟨gs, 1, none⟩ = some (.slice A6 k6 ca6) ∧ W.cell? ⟨gs, 2, none⟩ = some (.slice B6_ l6 cb6) ∧ W.cell? ⟨gp, 0, none⟩ = some (.bool b7) ∧ W.cell? ⟨gp, 1, none⟩ = some (.slice A7 k7 ca7) ∧ W.cell? ⟨gp, 2, none⟩ = some (.slice B7 l7 cb7))
        (first
          | exact HS.out _ (ext_trans HW2.out hx13.out)
          | exact HS.out _ (ext_trans HW2.out hx12.out)
          | exact HS.out _ (ext_trans HW2.out hx11.out)
          | exact HS.out _ (ext_trans HW2.out hx10.out)
          | exact HS.out _ (ext_trans HW2.out hx9.out)
          | exact HS.out _ (ext_trans HW2.out hx8.out)
          | exact HS.out _ (ext_trans HW2.out hx7.out)
          | exact HS.out _ (ext_trans HW2.out hx6.out)
          | exact HS.out _ (ext_trans HW2.out hx5.out)
          | exact HS.out _ (ext_trans HW2.out hx4.out)
          | exact HS.out _ (ext_trans HW2.out hx3.out)
          | exact HS.out _ (ext_trans HW2.out hx2.out)
          | exact HS.out _ (ext_trans HW2.out hx1.out))
        (first
          | (have _q := hx12
             go_at_call 46
             refine (equal_yes M HM.out _ _ (x * y * z) _ (H10.out.mono (ext_trans e11.out e12.out)) H12.out BB3.out (TB.out.mono (ext_trans hww.out hx12.out))).mono ?_
             clear _q
             rintro e w16 ⟨rfl, k13⟩
             have e13 := Lib.hid k13
             have hx13 := Lib.hid (ext_trans hx12.out k13)
             clear k13)
          | (have _q := hx11
             go_at_call 29
             refine (mul_q M HM4.out _ _ (x) (y * z) _ (MX.out.mono (ext_trans hww.out hx11.out)) H11.out BU.out BB4.out).mono ?_
             clear _q
             rintro e w15 ⟨vv, rfl, h12, k12⟩
             rw [← Rat.mul_assoc] at h12
             obtain ⟨b112, P112, p112, c112, Q112, q112, d112, rfl⟩ := h12.form2
             have H12 := Lib.hid h12
             clear h12
             have e12 := Lib.hid k12
             have hx12 := Lib.hid (ext_trans hx11.out k12)
             clear k12)
          | (have _q := hx10
             go_at_call 29
             refine (mul_q M HM4.out _ _ (y) (z) _ (MY.out.mono (ext_trans hww.out hx10.out)) (MZ.out.mono (ext_trans hww.out hx10.out)) BV.out BX.out).mono ?_
             clear _q
             rintro e w14 ⟨vv, rfl, h11, k11⟩
             obtain ⟨b111, P111, p111, c111, Q111, q111, d111, rfl⟩ := h11.form2
             have H11 := Lib.hid h11
             clear h11
             have e11 := Lib.hid k11
             have hx11 := Lib.hid (ext_trans hx10.out k11)
             clear k11)
          | (have _q := hx9
             go_at_call 29
             refine (mul_q M HM4.out _ _ (x * y) (z) _ (N7.out.mono (ext_trans hww.out hx9.out)) (MZ.out.mono (ext_trans hww.out hx9.out)) BP.out BX.out).mono ?_
             clear _q
             rintro e w13 ⟨vv, rfl, h10, k10⟩
             obtain ⟨b110, P110, p110, c110, Q110, q110, d110, rfl⟩ := h10.form2
             have H10 := Lib.hid h10
             clear h10
             have e10 := Lib.hid k10
             have hx10 := Lib.hid (ext_trans hx9.out k10)
             clear k10)
          | (have _q := hx8
             go_at_call 46
             refine (equal_yes M HM.out _ _ (x + y + z) _ (H6.out.mono (ext_trans e7.out e8.out)) H8.out BB1.out (TB.out.mono (ext_trans hww.out hx8.out))).mono ?_
             clear _q
             rintro e w12 ⟨rfl, k9⟩
             have e9 := Lib.hid k9
             have hx9 := Lib.hid (ext_trans hx8.out k9)
             clear k9)
          | (have _q := hx7
             go_at_call 50
             refine (add_q M HM4.out _ _ (x) (y + z) _ (MX.out.mono (ext_trans hww.out hx7.out)) H7.out BU.out BB2.out).mono ?_
             clear _q
             rintro e w11 ⟨vv, rfl, h8, k8⟩
             rw [← Rat.add_assoc] at h8
             obtain ⟨b108, P108, p108, c108, Q108, q108, d108, rfl⟩ := h8.form2
             have H8 := Lib.hid h8
             clear h8
             have e8 := Lib.hid k8
             have hx8 := Lib.hid (ext_trans hx7.out k8)
             clear k8)
          | (have _q := hx6
             go_at_call 50
             refine (add_q M HM4.out _ _ (y) (z) _ (MY.out.mono (ext_trans hww.out hx6.out)) (MZ.out.mono (ext_trans hww.out hx6.out)) BV.out BX.out).mono ?_
             clear _q
             rintro e w10 ⟨vv, rfl, h7, k7⟩
             obtain ⟨b107, P107, p107, c107, Q107, q107, d107, rfl⟩ := h7.form2
             have H7 := Lib.hid h7
             clear h7
             have e7 := Lib.hid k7
             have hx7 := Lib.hid (ext_trans hx6.out k7)
             clear k7)
          | (have _q := hx5
             go_at_call 50
             refine (add_q M HM4.out _ _ (x + y) (z) _ (N6.out.mono (ext_trans hww.out hx5.out)) (MZ.out.mono (ext_trans hww.out hx5.out)) BS.out BX.out).mono ?_
             clear _q
             rintro e w9 ⟨vv, rfl, h6, k6⟩
             obtain ⟨b106, P106, p106, c106, Q106, q106, d106, rfl⟩ := h6.form2
             have H6 := Lib.hid h6
             clear h6
             have e6 := Lib.hid k6
             have hx6 := Lib.hid (ext_trans hx5.out k6)
             clear k6)
          | (have _q := hx4
             go_at_call 46
             refine (equal_yes M HM.out _ _ (x * y) _ (N7.out.mono (ext_trans hww.out hx4.out)) H4.out BP.out (TB.out.mono (ext_trans hww.out hx4.out))).mono ?_
             clear _q
             rintro e w8 ⟨rfl, k5⟩
             have e5 := Lib.hid k5
             have hx5 := Lib.hid (ext_trans hx4.out k5)
             clear k5)
          | (have _q := hx3
             go_at_call 29
             refine (mul_q M HM4.out _ _ (y) (x) _ (MY.out.mono (ext_trans hww.out hx3.out)) (MX.out.mono (ext_trans hww.out hx3.out)) BV.out BU.out).mono ?_
             clear _q
             rintro e w7 ⟨vv, rfl, h4, k4⟩
             rw [Rat.mul_comm y x] at h4
             obtain ⟨b104, P104, p104, c104, Q104, q104, d104, rfl⟩ := h4.form2
             have H4 := Lib.hid h4
             clear h4
             have e4 := Lib.hid k4
             have hx4 := Lib.hid (ext_trans hx3.out k4)
             clear k4)
          | (have _q := hx2
             go_at_call 46
             refine (equal_yes M HM.out _ _ (x + y) _ (N6.out.mono (ext_trans hww.out hx2.out)) H2.out BS.out (TB.out.mono (ext_trans hww.out hx2.out))).mono ?_
             clear _q
             rintro e w6 ⟨rfl, k3⟩
             have e3 := Lib.hid k3
             have hx3 := Lib.hid (ext_trans hx2.out k3)
             clear k3)
          | (have _q := hx1
             go_at_call 50
             refine (add_q M HM4.out _ _ (y) (x) _ (MY.out.mono (ext_trans hww.out hx1.out)) (MX.out.mono (ext_trans hww.out hx1.out)) BV.out BU.out).mono ?_
             clear _q
             rintro e w5 ⟨vv, rfl, h2, k2⟩
             rw [Rat.add_comm y x] at h2
             obtain ⟨b102, P102, p102, c102, Q102, q102, d102, rfl⟩ := h2.form2
             have H2 := Lib.hid h2
             clear h2
             have e2 := Lib.hid k2
             have hx2 := Lib.hid (ext_trans hx1.out k2)
             clear k2))
      go_upto_region 7 with (fail)
      have hS13 := HS.out _ (ext_trans HW2.out hx13.out)
      have e14 := Lib.hid (ext_drew w16)
      have hx14 := Lib.hid (ext_trans hx13.out e14.out)
      go_region_held3 (fun W => W.cell? ⟨g1, 0, none⟩ = some (.bool b1) ∧ W.cell? ⟨g1, 1, none⟩ = some (.slice A1 k1 ca1) ∧ W.cell? ⟨g1, 2, none⟩ = some (.slice B1 l1 cb1) ∧ W.cell? ⟨g1 + 1, 0, none⟩ = some (.bool b2) ∧ W.cell? ⟨g1 + 1, 1, none⟩ = some (.slice A2 k2 ca2) ∧ W.cell? ⟨g1 + 1, 2, none⟩ = some (.slice B2 l2 cb2) ∧ W.cell? ⟨g1 + 1 + 1, 0, none⟩ = some (.bool b3) ∧ W.cell? ⟨g1 + 1 + 1, 1, none⟩ = some (.slice A3 k3 ca3) ∧ W.cell? ⟨g1 + 1 + 1, 2, none⟩ = some (.slice B3 l3 cb3) ∧ W.cell? ⟨gs, 0, none⟩ = some (.bool b6) ∧ W.cell? ⟨gs, 1, none⟩ = some (.slice A6 k6 ca6) ∧ W.cell? ⟨gs, 2, none⟩ = some (.slice B6_ l6 cb6) ∧ W.cell? ⟨gp, 0, none⟩ = some (.bool b7) ∧ W.cell? ⟨gp, 1, none⟩ = some (.slice A7 k7 ca7) ∧ W.cell? ⟨gp, 2, none⟩ = some (.slice B7 l7 cb7))
        (first
          | exact HS.out _ (ext_trans HW2.out hx24.out)
          | exact HS.out _ (ext_trans HW2.out hx23.out)
          | exact HS.out _ (ext_trans HW2.out hx22.out)
          | exact HS.out _ (ext_trans HW2.out hx21.out)
          | exact HS.out _ (ext_trans HW2.out hx20.out)
          | exact HS.out _ (ext_trans HW2.out hx19.out)
          | exact HS.out _ (ext_trans HW2.out hx18.out)
          | exact HS.out _ (ext_trans HW2.out hx17.out)
          | exact HS.out _ (ext_trans HW2.out hx16.out)
          | exact HS.out _ (ext_trans HW2.out hx15.out)
          | exact HS.out _ (ext_trans HW2.out hx14.out))
        (first
          | (have _q := hx23
             go_at_call 52
             refine (sign_q' _ 0 _ 0 rfl H23.out).mono ?_
             clear _q
             rintro e w27 ⟨rfl, k24⟩
             have e24 := Lib.hid k24
             have hx24 := Lib.hid (ext_trans hx23.out k24)
             clear k24)
          | (have _q := hx22
             go_at_call 50
             refine (add_q M HM4.out _ _ (x) (-x) _ (MX.out.mono (ext_trans hww.out hx22.out)) H22.out BU.out BNX.out).mono ?_
             clear _q
             rintro e w26 ⟨vv, rfl, h23, k23⟩
             rw [HXX.out] at h23
             obtain ⟨b123, P123, p123, c123, Q123, q123, d123, rfl⟩ := h23.form2
             have H23 := Lib.hid h23
             clear h23
             have e23 := Lib.hid k23
             have hx23 := Lib.hid (ext_trans hx22.out k23)
             clear k23)
          | (have _q := hx21
             go_at_call 47
             refine (neg_q _ (x) _ (MX.out.mono (ext_trans hww.out hx21.out))).mono ?_
             clear _q
             rintro e w25 ⟨vv, rfl, h22, k22⟩
             obtain ⟨b122, P122, p122, c122, Q122, q122, d122, rfl⟩ := h22.form2
             have H22 := Lib.hid h22
             clear h22
             have e22 := Lib.hid k22
             have hx22 := Lib.hid (ext_trans hx21.out k22)
             clear k22)
          | (have _q := hx20
             go_at_call 46
             refine (equal_yes M HM.out _ _ (x) _ H20.out (MX.out.mono (ext_trans hww.out hx20.out)) BU.out (TB.out.mono (ext_trans hww.out hx20.out))).mono ?_
             clear _q
             rintro e w24 ⟨rfl, k21⟩
             have e21 := Lib.hid k21
             have hx21 := Lib.hid (ext_trans hx20.out k21)
             clear k21)
          | (have _q := hx19
             go_at_call 51
             refine (sub_q M HM4.out _ _ (x + y) (y) _ (N6.out.mono (ext_trans hww.out hx19.out)) (MY.out.mono (ext_trans hww.out hx19.out)) BS.out BV.out).mono ?_
             clear _q
             rintro e w23 ⟨vv, rfl, h20, k20⟩
             rw [HXY.out] at h20
             obtain ⟨b120, P120, p120, c120, Q120, q120, d120, rfl⟩ := h20.form2
             have H20 := Lib.hid h20
             clear h20
             have e20 := Lib.hid k20
             have hx20 := Lib.hid (ext_trans hx19.out k20)
             clear k20)
          | (have _q := hx18
             go_at_call 46
             refine (equal_yes M HM.out _ _ ((x + y) * z) _ (H15.out.mono (ext_trans e16.out (ext_trans e17.out e18.out))) H18.out BB6.out (TB.out.mono (ext_trans hww.out hx18.out))).mono ?_
             clear _q
             rintro e w22 ⟨rfl, k19⟩
             have e19 := Lib.hid k19
             have hx19 := Lib.hid (ext_trans hx18.out k19)
             clear k19)
          | (have _q := hx17
             go_at_call 50
             refine (add_q M HM4.out _ _ (x * z) (y * z) _ (H16.out.mono e17.out) H17.out BB5.out BB4.out).mono ?_
             clear _q
             rintro e w21 ⟨vv, rfl, h18, k18⟩
             rw [← Rat.add_mul] at h18
             obtain ⟨b118, P118, p118, c118, Q118, q118, d118, rfl⟩ := h18.form2
             have H18 := Lib.hid h18
             clear h18
             have e18 := Lib.hid k18
             have hx18 := Lib.hid (ext_trans hx17.out k18)
             clear k18)
          | (have _q := hx16
             go_at_call 29
             refine (mul_q M HM4.out _ _ (y) (z) _ (MY.out.mono (ext_trans hww.out hx16.out)) (MZ.out.mono (ext_trans hww.out hx16.out)) BV.out BX.out).mono ?_
             clear _q
             rintro e w20 ⟨vv, rfl, h17, k17⟩
             obtain ⟨b117, P117, p117, c117, Q117, q117, d117, rfl⟩ := h17.form2
             have H17 := Lib.hid h17
             clear h17
             have e17 := Lib.hid k17
             have hx17 := Lib.hid (ext_trans hx16.out k17)
             clear k17)
          | (have _q := hx15
             go_at_call 29
             refine (mul_q M HM4.out _ _ (x) (z) _ (MX.out.mono (ext_trans hww.out hx15.out)) (MZ.out.mono (ext_trans hww.out hx15.out)) BU.out BX.out).mono ?_
             clear _q
             rintro e w19 ⟨vv, rfl, h16, k16⟩
             obtain ⟨b116, P116, p116, c116, Q116, q116, d116, rfl⟩ := h16.form2
             have H16 := Lib.hid h16
             clear h16
             have e16 := Lib.hid k16
             have hx16 := Lib.hid (ext_trans hx15.out k16)
             clear k16)
          | (have _q := hx14
             go_at_call 29
             refine (mul_q M HM4.out _ _ (x + y) (z) _ (N6.out.mono (ext_trans hww.out hx14.out)) (MZ.out.mono (ext_trans hww.out hx14.out)) BS.out BX.out).mono ?_
             clear _q
             rintro e w18 ⟨vv, rfl, h15, k15⟩
             obtain ⟨b115, P115, p115, c115, Q115, q115, d115, rfl⟩ := h15.form2
             have H15 := Lib.hid h15
             clear h15
             have e15 := Lib.hid k15
             have hx15 := Lib.hid (ext_trans hx14.out k15)
             clear k15))
      have hq := HS.out _ hx24.out
      obtain ⟨p0, p1, p2, q0, q1, q2, s0, s1, s2, t0, t1, t2, y0, y1, y2⟩ := hq
      by_cases hy : y = 0
      · subst hy
        go_wp2_with fail
        refine (div_q_zero _ _ _ _ (N7.out.mono hx24.out) (MY.out.mono hx24.out)).mono ?_
        rintro e wa ⟨va, rfl, ha, ja⟩
        obtain ⟨b90, A90, k90, ca90, B90, l90, cb90, rfl⟩ := ha.form2
        clear p0 p1 p2 q0 q1 q2 s0 s1 s2 t0 t1 t2 y0 y1 y2
        have KA := Lib.hid (ext_trans hx24.out ja)
        have KA1 := Lib.hid (ext_trans KA.out (ext_alloc wa (.cells #[.bool b90, .slice A90 k90 ca90, .slice B90 l90 cb90] 25)))
        obtain ⟨p0, p1, p2, q0, q1, q2, s0, s1, s2, t0, t1, t2, y0, y1, y2⟩ := HS.out _ KA1.out
        have HA := Lib.hid (ha.mono (ext_alloc wa (.cells #[.bool b90, .slice A90 k90 ca90, .slice B90 l90 cb90] 25)))
        have RA := Lib.hid (show (wa.alloc (.cells #[.bool b90, .slice A90 k90 ca90, .slice B90 l90 cb90] 25)).heap[wa.heap.size]? = some (.cells #[.bool b90, .slice A90 k90 ca90, .slice B90 l90 cb90] 25 (0, 0)) from heap_alloc_new _ _)
        obtain ⟨u0, u1, u2, -⟩ := row3_0 RA.out
        clear ha ja KA
        go_wp2_with fail
        generalize wa.alloc (.cells #[.bool b90, .slice A90 k90 ca90, .slice B90 l90 cb90] _) = WA at *
        generalize wa.heap.size = ga at *
        refine (sign_q' _ _ _ 0 rfl (MY.out.mono KA1.out)).mono ?_
        rintro e wb ⟨rfl, jb⟩
        clear p0 p1 p2 q0 q1 q2 s0 s1 s2 t0 t1 t2 y0 y1 y2 u0 u1 u2
        obtain ⟨u0, u1, u2, -⟩ := row3_0 ((jb.block _ (lt_of_block RA.out)).trans RA.out)
        obtain ⟨p0, p1, p2, q0, q1, q2, s0, s1, s2, t0, t1, t2, y0, y1, y2⟩ := HS.out _ (ext_trans KA1.out jb)
        have JB := Lib.hid jb
        clear jb
        go_wp2_with fail
        refine (sign_q' _ 0 _ 0 rfl (HA.out.mono JB.out)).mono ?_
        rintro e wcc ⟨rfl, jc⟩
        have JC := Lib.hid jc
        clear jc
        go_wp2_with fail
        refine (awake_c _ (TB.out.mono (ext_trans KA1.out (ext_trans JB.out JC.out)))).mono ?_
        rintro e wd ⟨rfl, jd⟩
        go_wp2_with fail
        go_ret
        exact ⟨rfl, ext_trans EW.out (ext_trans KA1.out (ext_trans JB.out (ext_trans JC.out jd)))⟩
      · have HY := Lib.hid hy
        have HQ := Lib.hid (show x * y / y = x from Rat.mul_div_cancel hy)
        obtain ⟨s0_, hs0⟩ : ∃ s0_, y.num.sign = s0_ := ⟨_, rfl⟩
        have hs1 : (s0_ == 0) = false := by
          rw [beq_eq_false_iff_ne, ← hs0]
          intro e
          exact hy (Rat.num_eq_zero.1 (Int.sign_eq_zero_iff_zero.1 e))
        have HSG := Lib.hid hs0
        clear hs0 hy
        go_wp2_with fail
        refine (div_q' M HM4.out _ _ _ _ _ HQ.out _ (N7.out.mono hx24.out) (MY.out.mono hx24.out) BP.out BV.out HY.out).mono ?_
        rintro e wa ⟨va, rfl, ha, ja⟩
        obtain ⟨b90, A90, k90, ca90, B90, l90, cb90, rfl⟩ := ha.form2
        clear p0 p1 p2 q0 q1 q2 s0 s1 s2 t0 t1 t2 y0 y1 y2
        have KA := Lib.hid (ext_trans hx24.out ja)
        have KA1 := Lib.hid (ext_trans KA.out (ext_alloc wa (.cells #[.bool b90, .slice A90 k90 ca90, .slice B90 l90 cb90] 25)))
        obtain ⟨p0, p1, p2, q0, q1, q2, s0, s1, s2, t0, t1, t2, y0, y1, y2⟩ := HS.out _ KA1.out
        have HA := Lib.hid (ha.mono (ext_alloc wa (.cells #[.bool b90, .slice A90 k90 ca90, .slice B90 l90 cb90] 25)))
        have RA := Lib.hid (show (wa.alloc (.cells #[.bool b90, .slice A90 k90 ca90, .slice B90 l90 cb90] 25)).heap[wa.heap.size]? = some (.cells #[.bool b90, .slice A90 k90 ca90, .slice B90 l90 cb90] 25 (0, 0)) from heap_alloc_new _ _)
        obtain ⟨u0, u1, u2, -⟩ := row3_0 RA.out
        clear ha ja KA
        go_wp2_with fail
        generalize wa.alloc (.cells #[.bool b90, .slice A90 k90 ca90, .slice B90 l90 cb90] _) = WA at *
        generalize wa.heap.size = ga at *
        refine (sign_q' _ _ _ s0_ HSG.out (MY.out.mono KA1.out)).mono ?_
        rintro e wb ⟨rfl, jb⟩
        clear p0 p1 p2 q0 q1 q2 s0 s1 s2 t0 t1 t2 y0 y1 y2 u0 u1 u2
        obtain ⟨u0, u1, u2, -⟩ := row3_0 ((jb.block _ (lt_of_block RA.out)).trans RA.out)
        obtain ⟨p0, p1, p2, q0, q1, q2, s0, s1, s2, t0, t1, t2, y0, y1, y2⟩ := HS.out _ (ext_trans KA1.out jb)
        have JB := Lib.hid jb
        clear jb
        go_wp2_with fail
        refine (equal_yes M HM.out _ _ x _ (HA.out.mono JB.out) (MX.out.mono (ext_trans KA1.out JB.out)) BU.out (TB.out.mono (ext_trans KA1.out JB.out))).mono ?_
        rintro e wcc ⟨rfl, jc⟩
        have JC := Lib.hid jc
        clear jc
        go_wp2_with fail
        refine (awake_c _ (TB.out.mono (ext_trans KA1.out (ext_trans JB.out JC.out)))).mono ?_
        rintro e wd ⟨rfl, jd⟩
        go_wp2_with fail
        go_ret
        exact ⟨rfl, ext_trans EW.out (ext_trans KA1.out (ext_trans JB.out (ext_trans JC.out jd)))⟩
end Go.Proofs.YtpgdefgdboijlaaGreatDoor
