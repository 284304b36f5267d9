/-
  each instruction of Alu gives a word.
-/
import Derived.Test.YgcsakGreatAluD
namespace Go.Proofs.YgcsakGreat
set_option linter.unusedVariables false
set_option linter.unusedSimpArgs false
set_option maxRecDepth 100000

theorem powL_lt (a e : Nat) : ∀ (i p : Nat), p < P256 → powL a e i p < P256
  | 0, p, h => h
  | i + 1, p, h => by
    rw [powL]
    refine powL_lt a e i _ ?_
    split
    · exact Nat.mod_lt _ p256_pos
    · exact Nat.mod_lt _ p256_pos
theorem p256_k : 1000 < P256 := by
  unfold P256
  exact Nat.lt_of_lt_of_le (show 1000 < 256 ^ 2 by omega) (Nat.pow_le_pow_right (by omega) (by omega))
theorem truthN_lt (b : Bool) : truthN b < P256 := by
  have := p256_k
  unfold truthN
  split <;> omega
theorem modN_lt2 {m n : Nat} (h : n < P256) : modN m n < P256 := by
  unfold modN
  split
  · exact p256_pos
  · exact Nat.lt_trans (Nat.mod_lt _ (by omega)) h
theorem pickN_lt (m n : Nat) : pickN m n < P256 := by
  have := p256_k
  unfold pickN
  split
  · have : n / 256 ^ (31 - m) % 256 < 256 := Nat.mod_lt _ (by omega)
    omega
  · omega
theorem sextN_lt {m n : Nat} (h : n < P256) : sextN m n < P256 := by
  unfold sextN
  split
  · have hp : 2 ^ (8 * m + 8) ≤ P256 := pow_le_P (by omega)
    have hm : n % 2 ^ (8 * m + 8) < 2 ^ (8 * m + 8) := Nat.mod_lt _ (Nat.pow_pos (by omega))
    split <;> omega
  · exact h
theorem shN_lt {o m n : Nat} (h : n < P256) : shN o m n < P256 := by
  unfold shN
  split
  · exact Nat.mod_lt _ p256_pos
  · split
    · exact bwN_lt _ _ _
    · exact Nat.lt_of_le_of_lt (Nat.div_le_self _ _) h
theorem div_lt {m n : Nat} (h : m < P256) : m / n < P256 := Nat.lt_of_le_of_lt (Nat.div_le_self _ _) h
theorem ite_lt {p : Prop} [Decidable p] {x y K : Nat} (h1 : x < K) (h2 : y < K) : (if p then x else y) < K := by
  split
  · exact h1
  · exact h2
theorem aluN_lt (o a b c : Nat) (ha : a < P256) (hb : b < P256) (hc : c < P256) : aluN o a b c < P256 := by
  have h1 := p256_k
  unfold aluN
  refine ite_lt (Nat.mod_lt _ p256_pos) ?_
  refine ite_lt (Nat.mod_lt _ p256_pos) ?_
  refine ite_lt (Nat.mod_lt _ p256_pos) ?_
  refine ite_lt (div_lt ha) ?_
  refine ite_lt (signN_lt _ (div_lt (magN_lt ha))) ?_
  refine ite_lt (modN_lt ha) ?_
  refine ite_lt (signN_lt _ (modN_lt (magN_lt ha))) ?_
  refine ite_lt (modN_lt2 hc) ?_
  refine ite_lt (modN_lt2 hc) ?_
  refine ite_lt (powL_lt _ _ _ _ (by omega)) ?_
  refine ite_lt (sextN_lt hb) ?_
  refine ite_lt (truthN_lt _) ?_
  refine ite_lt (truthN_lt _) ?_
  refine ite_lt (truthN_lt _) ?_
  refine ite_lt (truthN_lt _) ?_
  refine ite_lt (truthN_lt _) ?_
  refine ite_lt (truthN_lt _) ?_
  refine ite_lt (bwN_lt _ _ _) ?_
  refine ite_lt (bwN_lt _ _ _) ?_
  refine ite_lt (bwN_lt _ _ _) ?_
  refine ite_lt (bwN_lt _ _ _) ?_
  refine ite_lt (pickN_lt _ _) ?_
  refine ite_lt (shN_lt hb) ?_
  refine ite_lt (shN_lt hb) ?_
  refine ite_lt (shN_lt hb) ?_
  exact p256_pos

end Go.Proofs.YgcsakGreat
