/- What the values of the program and of the reference say: natural numbers as slices of words. -/
import Derived.Test.YtpgdefgdboijlaaGreatDoorNat
import Derived.Test.YtpgdefgdboijlaaGreatDoorProg
import Derived.WalkKit
import Derived.OpenShut
import Derived.Handy
import Derived.Deep.QuietTactic
import Derived.BigQuiet
import Derived.Deep.RegionHeld3
import Derived.WalkSpells
import Derived.WalkLawsBesides
namespace Go.Proofs.YtpgdefgdboijlaaGreatDoor
open Go.RowKit
set_option linter.unusedVariables false

def B64 : Nat := 18446744073709551616
theorem B64_eq : B64 = 18446744073709551616 := rfl
theorem B64_two : 2 ≤ B64 := by rw [B64_eq]; omega
def B30 : Nat := 1073741824
theorem B30_eq : B30 = 1073741824 := rfl
theorem B30_two : 2 ≤ B30 := by rw [B30_eq]; omega
/-- the words of a natural number -/
def dg (n : Nat) : List Nat := dig B64 n
/-- the digits of the reference -/
def dr (n : Nat) : List Nat := dig B30 n
theorem num_dg (n : Nat) : num B64 (dg n) = n := num_dig B64_two n
theorem num_dr (n : Nat) : num B30 (dr n) = n := num_dig B30_two n
theorem dg_norm (n : Nat) : Norm B64 (dg n) := norm_dig B64_two n
theorem dr_norm (n : Nat) : Norm B30 (dr n) := norm_dig B30_two n

abbrev Ext (w w' : World) : Prop := Below w.heap.size w w'
theorem ext_refl (w : World) : Ext w w := Below.refl _ _
theorem ext_trans {a b c : World} (h : Ext a b) (k : Ext b c) : Ext a c := h.trans (k.mono h.size)
theorem ext_drewN (w : World) (n : Nat) : Ext w (w.drewN n) := ⟨rfl, rfl, rfl, Nat.le_refl _, fun _ _ => rfl⟩
theorem ext_drew (w : World) : Ext w w.drew := ⟨rfl, rfl, rfl, Nat.le_refl _, fun _ _ => rfl⟩
theorem ext_alloc (w : World) (o : Obj) : Ext w (w.alloc o) := (Below.refl _ _).alloc (Nat.le_refl _) _
theorem ext_cell {w w' : World} (h : Ext w w') {a : Addr} {v : Value} (hc : w.cell? a = some v) : w'.cell? a = some v :=
  (h.cell (block_lt_of_cell hc)).trans hc
theorem ext_frozen {w w' : World} (h : Ext w w') {a : Addr} {v : Value} (hc : w.cell? a = some v) : w'.frozen? a = w.frozen? a :=
  h.frozen (block_lt_of_cell hc)

/-- the cells of a slice -/
def Cl (w : World) (A : Option Addr) (xs : List Value) : Prop :=
  xs = [] ∨ ∃ b o, A = some ⟨b, o, none⟩ ∧ ∀ j, j < xs.length → w.cell? ⟨b, o + j, none⟩ = some (xs.getD j undef)
theorem Cl.mono {w w' : World} {A : Option Addr} {xs : List Value} (h : Cl w A xs) (k : Ext w w') : Cl w' A xs := by
  rcases h with h | ⟨b, o, h1, h2⟩
  · exact .inl h
  · exact .inr ⟨b, o, h1, fun j hj => ext_cell k (h2 j hj)⟩
theorem Cl.nil (w : World) (A : Option Addr) : Cl w A [] := .inl rfl
theorem Cl.at_ {w : World} {A : Option Addr} {xs : List Value} (h : Cl w A xs) (hx : 0 < xs.length) :
    ∃ b o, A = some ⟨b, o, none⟩ ∧ ∀ j, j < xs.length → w.cell? ⟨b, o + j, none⟩ = some (xs.getD j undef) := by
  rcases h with h | h
  · rw [h] at hx; simp at hx
  · exact h

def u64 (k : Nat) : Value := .int .u64 k
def i64n (k : Nat) : Value := .int .i64 k
theorem getD_map_u64 (l : List Nat) (j : Nat) (h : j < l.length) : (l.map u64).getD j undef = .int .u64 ((l.getD j 0 : Nat) : Int) := by
  simp [List.getD_eq_getElem?_getD, h, u64]
theorem getD_map_i64 (l : List Nat) (j : Nat) (h : j < l.length) : (l.map i64n).getD j undef = .int .i64 ((l.getD j 0 : Nat) : Int) := by
  simp [List.getD_eq_getElem?_getD, h, i64n]
theorem Cl.u {w : World} {A : Option Addr} {l : List Nat} (h : Cl w A (l.map u64)) (hx : 0 < l.length) :
    ∃ b o, A = some ⟨b, o, none⟩ ∧ ∀ j, j < l.length → w.cell? ⟨b, o + j, none⟩ = some (.int .u64 ((l.getD j 0 : Nat) : Int)) := by
  obtain ⟨b, o, h1, h2⟩ := h.at_ (by simpa using hx)
  exact ⟨b, o, h1, fun j hj => by rw [h2 j (by simpa using hj), getD_map_u64 l j hj]⟩
theorem Cl.i {w : World} {A : Option Addr} {l : List Nat} (h : Cl w A (l.map i64n)) (hx : 0 < l.length) :
    ∃ b o, A = some ⟨b, o, none⟩ ∧ ∀ j, j < l.length → w.cell? ⟨b, o + j, none⟩ = some (.int .i64 ((l.getD j 0 : Nat) : Int)) := by
  obtain ⟨b, o, h1, h2⟩ := h.at_ (by simpa using hx)
  exact ⟨b, o, h1, fun j hj => by rw [h2 j (by simpa using hj), getD_map_i64 l j hj]⟩

/-- a value of type 'words' that is a natural number -/
def Wd (w : World) (v : Value) (n : Nat) : Prop := ∃ A c, v = .slice A (dg n).length c ∧ (dg n).length ≤ c ∧ Cl w A ((dg n).map u64)
/-- a natural number of the reference -/
def Wr (w : World) (v : Value) (n : Nat) : Prop := ∃ A c, v = .slice A (dr n).length c ∧ (dr n).length ≤ c ∧ Cl w A ((dr n).map i64n)
theorem Wd.mono {w w' : World} {v : Value} {n : Nat} (h : Wd w v n) (k : Ext w w') : Wd w' v n := by
  obtain ⟨A, c, h1, h2, h3⟩ := h; exact ⟨A, c, h1, h2, h3.mono k⟩
theorem Wr.mono {w w' : World} {v : Value} {n : Nat} (h : Wr w v n) (k : Ext w w') : Wr w' v n := by
  obtain ⟨A, c, h1, h2, h3⟩ := h; exact ⟨A, c, h1, h2, h3.mono k⟩
theorem dg_zero : dg 0 = [] := dig_zero _
theorem dr_zero : dr 0 = [] := dig_zero _
theorem Wd.zero (w : World) : Wd w (.slice none 0 0) 0 := ⟨none, 0, by rw [dg_zero]; rfl, by rw [dg_zero]; simp, by rw [dg_zero]; exact .inl rfl⟩
theorem Wr.zero (w : World) : Wr w (.slice none 0 0) 0 := ⟨none, 0, by rw [dr_zero]; rfl, by rw [dr_zero]; simp, by rw [dr_zero]; exact .inl rfl⟩
/-- of a size that lies in memory -/
def Sm (n : Nat) : Prop := (dg n).length ≤ 1099511627776

def CmpR (a b : Nat) (e : Ending) : Prop := ∃ c : Int, e = .returned (.int .i64 c) ∧ (c < 0 ↔ a < b) ∧ (0 < c ↔ b < a)
end Go.Proofs.YtpgdefgdboijlaaGreatDoor
