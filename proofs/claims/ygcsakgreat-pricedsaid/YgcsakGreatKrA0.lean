/-
  yp: a receipt's row with logs.
-/
import Derived.Test.YgcsakGreatFinA
namespace Go.Proofs.YgcsakGreat
set_option linter.unusedVariables false
set_option linter.unusedSimpArgs false
set_option maxRecDepth 100000
open Go.RowKit

def rcptG (s : Nat) (o lg : Value) (u : Nat) (m : List Int) : List Value := .int .u8 0 :: .int .u8 s :: .int .u64 u :: o :: lg :: bv m
theorem rcptG_len (s : Nat) (o lg : Value) (u : Nat) (m : List Int) (hm : m.length = 20) : (rcptG s o lg u m).length = 25 := by simp [rcptG, bv_len, hm]
theorem rcptG_one (s : Nat) (A L : Option Addr) (k c lk lc u : Nat) (m : List Int) : ∀ v ∈ rcptG s (.slice A k c) (.slice L lk lc) u m, v.oneCell' = true := by
  intro v hv
  simp only [rcptG, List.mem_cons] at hv
  rcases hv with rfl | rfl | rfl | rfl | rfl | hv
  · rfl
  · rfl
  · rfl
  · rfl
  · rfl
  · exact bv_one _ v hv
theorem run_rcptG (wx : World) (s : Nat) (A L : Option Addr) (k c lk lc : Nat) : (Instr.build 48 #[(1, .int .u8 s), (3, .slice A k c), (4, .slice L lk lc)]).run Sakg.prog wx = .ok (.agg (rcptG s (.slice A k c) (.slice L lk lc) 0 (zeros 20)).toArray) wx := by
  cases hi : Sakg.prog.info? 48 with
  | none => have := infoRcpt; rw [hi] at this; cases this
  | some i0 =>
    have hz := infoRcpt
    rw [hi] at hz
    simp only [Option.map_some, Option.some.injEq, Prod.mk.injEq] at hz
    refine run_build_struct wx 48 _ placesRcpt i0 _ hi hz.1 (rcptRow 0 nilS 0 (zeros 20)) rfl _ _ ?_
    rw [fill_cons _ _ 1 (.int .u8 s) _ 1 1 rfl [.int .u8 s] rfl rfl (by simp [rcptRow, bv_len, zeros_len]),
      fill_cons _ _ 3 (.slice A k c) _ 3 1 rfl [.slice A k c] rfl rfl (by simp [spl, rcptRow, bv_len, zeros_len]),
      fill_cons _ _ 4 (.slice L lk lc) _ 4 1 rfl [.slice L lk lc] rfl rfl (by simp [spl, rcptRow, bv_len, zeros_len])]
    rfl

end Go.Proofs.YgcsakGreat
