/- The reference beside the program: one text for equal numbers; regions walked by hand. Printed by gen_lp.py. -/
import Derived.Test.YtpgdefgdboijlaaGreatDoorR2
import Derived.Test.YtpgdefgdboijlaaGreatDoorVd
import Derived.Deep.DeepCutAuto
import Derived.Deep.RegionHeld3
namespace Go.Proofs.YtpgdefgdboijlaaGreatDoor
open Go.RowKit
set_option linter.unusedVariables false
section
variable {P : Program} {md : Region.Mode} {ops : Array Oper} {Q : Exit → Act → World → Prop} {S : World → Prop}
theorem take_w {i : Nat} (d : Tmp) {oi : Oper} {v : Value} {fuel : Nat} {listed : Array Bool} {a : Act} {w : World} (hi : ops[i]? = some oi) (hd : oi.dst = some d)
    (hs : Region.noSelect ops = true) (hf : Region.free md ops listed i = true) (hr : (Region.ready md ops listed).contains i = true)
    (hQ : ∀ c a w, Q (.panic c) (a.put (some d) v) w → Q (.panic c) a w) (hy : YieldsIf P ops S oi v a) (hS : S w)
    (h : wpAnyH P md ops Q S fuel (listed.setIfInBounds i true) (a.put (some d) v) w) : wpAnyH P md ops Q S (fuel + 1) listed a w := by
  rw [← hd] at hQ h; exact wpAnyH_take hi hs hf hr hQ hy hS h
theorem call_w {fuel : Nat} {listed : Array Bool} {a : Act} {w : World} {i : Nat} (d : Tmp) {o : Oper} (ho : ops[i]? = some o) (hd : o.dst = some d)
    (hr : Region.ready md ops listed = [i])
    (h : ∀ K' : Act → World → Prop, Shut (∀ a w, S w → (S w → wpAnyH P md ops Q S fuel (listed.setIfInBounds i true) a w) → K' a w) → if Region.wanted o (yielded ops a.tmps) = true then Oper.wp P o a w K' Q else K' (a.put (some d) undef) w) :
    wpAnyH P md ops Q S (fuel + 1) listed a w := by
  rw [← hd] at h; exact wpAnyH_ready hr (by simp) (AllReadyH.cons ho h AllReadyH.nil)
end
theorem setupM (w : World) (x0 x1 x2 y0 y1 y2 : Value) :
    (∀ W, Ext ((w.alloc (.cells #[x0, x1, x2] 25)).alloc (.cells #[y0, y1, y2] 31)) W → W.cell? ⟨w.heap.size, 0, none⟩ = some x0 ∧ W.cell? ⟨w.heap.size, 1, none⟩ = some x1 ∧ W.cell? ⟨w.heap.size, 2, none⟩ = some x2 ∧
      W.cell? ⟨w.heap.size + 1, 0, none⟩ = some y0 ∧ W.cell? ⟨w.heap.size + 1, 1, none⟩ = some y1 ∧ W.cell? ⟨w.heap.size + 1, 2, none⟩ = some y2) ∧
    Ext w ((w.alloc (.cells #[x0, x1, x2] 25)).alloc (.cells #[y0, y1, y2] 31)) := by
  have z0 : (w.alloc (.cells #[x0, x1, x2] 25)).heap.size = w.heap.size + 1 := by simp
  have e0 : Ext w (w.alloc (.cells #[x0, x1, x2] 25)) := ext_alloc _ _
  generalize hw0 : w.alloc (.cells #[x0, x1, x2] 25) = w0 at *
  have e1 : Ext w0 (w0.alloc (.cells #[y0, y1, y2] 31)) := ext_alloc _ _
  refine ⟨fun W h => ?_, ext_trans e0 e1⟩
  have r0 := row3 (hw0 ▸ (ext_trans e1 h) : Ext (w.alloc (.cells #[x0, x1, x2] 25)) W)
  have r1 := rowR h
  rw [z0] at r1
  obtain ⟨a, b, c, -⟩ := rowR_0 r0
  obtain ⟨a', b', c', -⟩ := rowR_0 r1
  exact ⟨a, b, c, a', b', c'⟩
set_option maxRecDepth 100000 in
set_option maxHeartbeats 4000000 in
theorem same_c (M : Nat) (hM : M ≤ 1099511627776) (vx vy : Value) (x : Rat) (w : World) (hx : Nm w vx x) (hy : Nr w vy x) (bx : Bq M x) (ht : Tens w) :
    Calls Tryz.prog 18 #[vx, vy] w fun e w' => e = .returned (.bool true) ∧ Ext w w' := by
  obtain ⟨b1, A, k, ca, B, l, cb, rfl⟩ := hx.form2
  obtain ⟨s, C, m, cc, D, n, cd, rfl, -, -, -⟩ := hy.form
  have HM := Lib.hid hM
  have BX := Lib.hid bx
  have HT := Lib.hid ht
  have Hx := Lib.hid hx
  have Hy := Lib.hid hy
  obtain ⟨hS, hww⟩ := setupM w (.bool b1) (.slice A k ca) (.slice B l cb) (.int .i64 s) (.slice C m cc) (.slice D n cd)
  have HS := Lib.hid hS
  have HWW := Lib.hid hww
  obtain ⟨tt, htt⟩ : ∃ l, txt x = l := ⟨_, rfl⟩
  have HTT := Lib.hid htt
  have hlit : ∀ (vx : Value) (w : World), Nr w vx x → Calls Tryz.prog 114 #[vx] w fun e w' => e = .returned (.string ⟨tt.toArray⟩) ∧ Ext w w' := fun vx w h => by
    rw [← htt]; exact text_r M hM vx x w h bx
  have HLIT := Lib.hid hlit
  clear hM bx ht hx hy hS hww htt hlit
  go_enter Tryz.func18, Tryz.ntmps18
  go_wp2_with fail
  generalize World.alloc (World.alloc w (.cells #[.bool b1, .slice A k ca, .slice B l cb] _)) (.cells #[.int .i64 s, .slice C m cc, .slice D n cd] _) = W2 at *
  generalize w.heap.size = g0 at *
  have hS0 := HS.out _ (ext_refl W2)
  have hx1 := Lib.hid (ext_drew W2)
  go_region_held3 (fun W => W.cell? ⟨g0, 0, none⟩ = some (.bool b1) ∧ W.cell? ⟨g0, 1, none⟩ = some (.slice A k ca) ∧ W.cell? ⟨g0, 2, none⟩ = some (.slice B l cb) ∧ W.cell? ⟨g0 + 1, 0, none⟩ = some (.int .i64 s) ∧ W.cell? ⟨g0 + 1, 1, none⟩ = some (.slice C m cc) ∧ W.cell? ⟨g0 + 1, 2, none⟩ = some (.slice D n cd))
    (first
      | exact HS.out _ hx3.out
      | exact HS.out _ hx2.out
      | exact HS.out _ hx1.out)
    (first
      | (have _q := hx2
         go_at_call 114
         refine (HLIT.out _ _ (Hy.out.mono (ext_trans HWW.out hx2.out))).mono ?_
         clear _q
         rintro e w2 ⟨rfl, k3⟩
         have hx3 := Lib.hid (ext_trans hx2.out k3)
         clear k3)
      | (have _q := hx1
         go_at_call 42
         refine (text_lit M HM.out _ x tt HTT.out _ (Hx.out.mono (ext_trans HWW.out hx1.out)) BX.out (HT.out.mono (ext_trans HWW.out hx1.out))).mono ?_
         clear _q
         rintro e w1 ⟨rfl, k2⟩
         have hx2 := Lib.hid (ext_trans hx1.out k2)
         clear k2))
  all_goals
    go_wp2_with fail
    go_ret
    exact ⟨by simp, ext_trans HWW.out hx3.out⟩
end Go.Proofs.YtpgdefgdboijlaaGreatDoor
