/-
  law: zeroGasList, specAluHolds.
-/
import Derived.Test.YgcsakGreatLwB
import Derived.Test.YgcsakGreatRunA
import Derived.Test.YgcsakGreatFinA
namespace Go.Proofs.YgcsakGreat
set_option linter.unusedVariables false
set_option linter.unusedSimpArgs false
set_option maxRecDepth 100000
open Go.RowKit

def gasT : List Nat := [0, 3, 5, 3, 5, 5, 5, 5, 8, 8, 10, 5, 0, 0, 0, 0, 3, 3, 3, 3, 3, 3, 3, 3, 3, 3, 3, 3, 3, 3, 0, 0, 30, 0, 0, 0, 0, 0, 0, 0, 0, 0, 0, 0, 0, 0, 0, 0, 2, 2600, 2, 2, 2, 3, 2, 3, 2, 3, 2, 2600, 2600, 2, 3, 2600, 20, 2, 2, 2, 2, 2, 2, 5, 2, 0, 0, 0, 0, 0, 0, 0, 2, 6, 6, 6, 2100, 2200, 8, 10, 2, 2, 2, 1, 100, 100, 3, 2, 3, 3, 3, 3, 3, 3, 3, 3, 3, 3, 3, 3, 3, 3, 3, 3, 3, 3, 3, 3, 3, 3, 3, 3, 3, 3, 3, 3, 3, 3, 3, 3, 3, 3, 3, 3, 3, 3, 3, 3, 3, 3, 3, 3, 3, 3, 3, 3, 3, 3, 3, 3, 3, 3, 3, 3, 3, 3, 3, 3, 3, 3, 3, 3, 375, 750, 1125, 1500, 1875, 0, 0, 0, 0, 0, 0, 0, 0, 0, 0, 0, 0, 0, 0, 0, 0, 0, 0, 0, 0, 0, 0, 0, 0, 0, 0, 0, 0, 0, 0, 0, 0, 0, 0, 0, 0, 0, 0, 0, 0, 0, 0, 0, 0, 0, 0, 0, 0, 0, 0, 0, 0, 0, 0, 0, 0, 0, 0, 0, 0, 0, 0, 0, 0, 0, 0, 0, 0, 0, 0, 0, 0, 0, 0, 0, 32000, 2600, 2600, 0, 2600, 32000, 0, 0, 0, 0, 2600, 0, 0, 0, 0, 7600]
def gasRow : List Value := gasT.map fun (n : Nat) => Value.int .u16 (n : Int)
def zeroGas : List Value := List.replicate 256 (.int .u16 0)
theorem infoGas : (Sakg.prog.info? 128).map (fun i => (i.zero, i.size)) = some (some (.agg zeroGas.toArray), 256) := by kernel_rfl
theorem sizeGas : (Sakg.prog.info? 128).map (·.size) = some 256 := by kernel_rfl
theorem gasRow_one : ∀ v ∈ gasRow, v.oneCell' = true := all_one (by kernel_rfl)
theorem gasRow_len : gasRow.length = 256 := by kernel_rfl
theorem zeroGas_len : zeroGas.length = 256 := by kernel_rfl
set_option maxHeartbeats 8000000 in
theorem zeroGasList_any (w : World) : Calls Sakg.prog 73 #[] w fun e w' => e = .returned (.agg gasRow.toArray) ∧ Below w.heap.size w w' := by
  obtain ⟨W, hW⟩ : ∃ W, W = w.alloc (.cells zeroGas.toArray 128) := ⟨_, rfl⟩
  have hb0 : Below w.heap.size w W := by rw [hW]; exact (Below.refl _ _).alloc (Nat.le_refl _) _
  have r0 : RowT 128 W w.heap.size zeroGas := by rw [hW]; exact RowT.new _ _ _
  have hsz : (Sakg.prog.info? 128).map (·.size) = some gasRow.length := by rw [gasRow_len]; exact sizeGas
  have hzl : zeroGas.length = gasRow.length := by rw [zeroGas_len, gasRow_len]
  have R0 := hide r0
  clear r0
  go_enter Sakg.func73, Sakg.ntmps73
  go_upto_region 1 with ((with_reducible refine at_alloc 128 ?_); refine wpList_alloc_g (by rfl) 128 rfl zeroGas 256 infoGas zeroGas_len ?_)
  rw [← hW]
  clear hW
  go_wp2_with (first
    | ((with_reducible refine at_build 128 ?_); refine wpList_build_run (by rfl) 128 _ rfl (.agg gasRow.toArray) (by kernel_rfl) ?_)
    | ((with_reducible refine at_store 128 ?_); refine wpList_store_whole rfl 128 (.tmp 0) (.tmp 1) rfl w.heap.size 128 zeroGas gasRow rfl rfl (unhide R0) hzl hsz gasRow_one ?_; intro w9 hr9 ho9))
  refine bodyPost_ret (results_cell_row rfl _ _ _ _ _ _ _ rfl hr9 Sakg.underlying128 rfl (by simpa using hsz)) rfl ?_
  exact ⟨rfl, hb0.trans (ho9.below _ (Nat.le_refl _))⟩
/-- the table's gas is the instruction's, but for the exponent -/
theorem gasT_at (o B : Nat) (ho : aluO o) : gasA o B = gasT.getD o 0 + (if o = 10 then 50 * dlen B else 0) := by
  have h : (1 ≤ o ∧ o ≤ 11) ∨ (16 ≤ o ∧ o ≤ 29) := ho
  by_cases h10 : o = 10
  · subst h10
    rfl
  · rw [if_neg h10, Nat.add_zero]
    have e : gasA o B = gasA o 0 := by
      unfold gasA bareN
      rw [if_neg h10, if_neg h10]
    rw [e]
    have hx : o = 1 ∨ o = 2 ∨ o = 3 ∨ o = 4 ∨ o = 5 ∨ o = 6 ∨ o = 7 ∨ o = 8 ∨ o = 9 ∨ o = 11 ∨ o = 16 ∨ o = 17 ∨ o = 18 ∨ o = 19 ∨ o = 20 ∨ o = 21 ∨ o = 22 ∨ o = 23 ∨ o = 24 ∨ o = 25 ∨ o = 26 ∨ o = 27 ∨ o = 28 ∨ o = 29 := by omega
    rcases hx with rfl | rfl | rfl | rfl | rfl | rfl | rfl | rfl | rfl | rfl | rfl | rfl | rfl | rfl | rfl | rfl | rfl | rfl | rfl | rfl | rfl | rfl | rfl | rfl <;> rfl

end Go.Proofs.YgcsakGreat
