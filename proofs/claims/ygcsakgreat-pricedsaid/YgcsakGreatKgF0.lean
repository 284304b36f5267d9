/-
  yp: bareCost at any instruction.
-/
import Derived.Test.YgcsakGreatKgE
import Derived.Test.YgcsakGreatKgA
namespace Go.Proofs.YgcsakGreat
set_option linter.unusedVariables false
set_option linter.unusedSimpArgs false
set_option maxRecDepth 100000
open Go.RowKit

/-- instructions that may lengthen the world's lists -/
def growO (p : Nat) : Prop := p = 49 ∨ p = 59 ∨ p = 60 ∨ p = 63 ∨ p = 84 ∨ p = 85 ∨ p = 93 ∨ p = 255 ∨ (160 ≤ p ∧ p ≤ 164) ∨ p = 240 ∨ p = 241 ∨ p = 242 ∨ p = 244 ∨ p = 245 ∨ p = 250
/-- what is known of the cost -/
structure Low (p : Nat) (s : List Nat) (n : Nat) : Prop where
  one : p ≠ 0 → p ≠ 243 → p ≠ 253 → 1 ≤ n
  grow : growO p → 100 ≤ n
  val : (p = 241 ∨ p = 242) → argN s 2 ≠ 0 → 9100 ≤ n
  log : 160 ≤ p → p ≤ 164 → 8 * argN s 1 ≤ n
def BareR (p : Nat) (s : List Nat) (w : World) (e : Ending) (w' : World) : Prop := ∃ A k c n, e = .returned (.slice A k c) ∧ IsNat w' A k c n ∧ New w A ∧ n < 256 ^ 41 ∧ Low p s n ∧ Below w.heap.size w w'
theorem copyN_le {m : Nat} (h : m < P256) : copyN m ≤ 256 * P256 := by unfold copyN; have := p256_ge; omega
theorem pow41_ge : 256 * 256 ^ 40 ≤ 256 ^ 41 := by rw [← Nat.pow_succ']; exact Nat.le_refl _

end Go.Proofs.YgcsakGreat
