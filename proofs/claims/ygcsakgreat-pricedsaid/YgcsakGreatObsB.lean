/-
  obs: worlds in memory; accountOK.
-/
import Derived.Test.YgcsakGreatObsA
namespace Go.Proofs.YgcsakGreat
set_option linter.unusedVariables false
set_option linter.unusedSimpArgs false
set_option maxRecDepth 100000
open Go.RowKit

/-- an account of a given world, plainly -/
structure OAcct where
  addr : List Int
  nonce : Nat
  bal : List Int
  code : List Int
  slots : List (List Int × List Int)

/-- a slot's 64 cells -/
def OSlotRow (r : List Value) (s : List Int × List Int) : Prop := r = bv s.1 ++ bv s.2 ∧ IsW s.1 ∧ IsW s.2
theorem OSlotRow.len {r : List Value} {s : List Int × List Int} (h : OSlotRow r s) : r.length = 64 := by
  obtain ⟨rfl, h1, h2⟩ := h
  simp [bv_len, h1.len, h2.len]
def OSlotsR (w : World) (ao : Option Addr) (l c : Nat) (ss : List (List Int × List Int)) : Prop := ∃ rows, Rws w 64 ao l c rows ∧ Each OSlotRow rows ss
theorem OSlotsR.kept {w w' : World} {ao : Option Addr} {l c : Nat} {ss : List (List Int × List Int)} (h : OSlotsR w ao l c ss) (hb : Below w.heap.size w w') : OSlotsR w' ao l c ss := by
  obtain ⟨rows, h1, h2⟩ := h
  exact ⟨rows, h1.kept hb, h2⟩
theorem OSlotsR.len {w : World} {ao : Option Addr} {l c : Nat} {ss : List (List Int × List Int)} (h : OSlotsR w ao l c ss) : ss.length = l := by
  obtain ⟨rows, h1, h2⟩ := h
  rw [← h2.len, h1.len_eq]

/-- an account's 55 cells -/
def OAcctRow (w : World) (r : List Value) (d : OAcct) : Prop := ∃ A3 k3 c3 A4 k4 c4, r = bv d.addr ++ (.int .u64 d.nonce :: (bv d.bal ++ [.slice A3 k3 c3, .slice A4 k4 c4])) ∧
  IsAddr d.addr ∧ d.nonce < 256 ^ 8 ∧ IsW d.bal ∧ Src w A3 k3 c3 d.code ∧ OSlotsR w A4 k4 c4 d.slots
theorem OAcctRow.kept {w w' : World} {r : List Value} {d : OAcct} (h : OAcctRow w r d) (hb : Below w.heap.size w w') : OAcctRow w' r d := by
  obtain ⟨A3, k3, c3, A4, k4, c4, h1, h2, h3, h4, h5, h6⟩ := h
  exact ⟨A3, k3, c3, A4, k4, c4, h1, h2, h3, h4, h5.kept hb, h6.kept hb⟩

end Go.Proofs.YgcsakGreat
