/-
  yp: wordsOf.
-/
import Derived.Test.YgcsakGreatYpK
namespace Go.Proofs.YgcsakGreat
set_option linter.unusedVariables false
set_option linter.unusedSimpArgs false
set_option maxRecDepth 100000
open Go.RowKit

theorem infoW : (Sakg.prog.info? 29).map (fun i => (i.zero, i.size, i.bytes)) = some (some (.agg (bv (zeros 32)).toArray), 32, 32) := by kernel_rfl

/-- a copy of a list of words -/
def CopiesW (w : World) (rows : List (List Value)) (e : Ending) (w' : World) : Prop := ∃ A k c, e = .returned (.slice A k c) ∧ Rws w' 32 A k c rows ∧ New w A ∧ Below w.heap.size w w'

set_option maxHeartbeats 1000000 in
theorem wordsOf_any (ao : Option Addr) (l c : Nat) (rows : List (List Value)) (w : World) (h : Rws w 32 ao l c rows) (h1 : ∀ r ∈ rows, ∀ v ∈ r, v.oneCell' = true) (hm : l ≤ 1000000) :
    Calls Sakg.prog 96 #[.slice ao l c] w (CopiesW w rows) := by
  obtain ⟨i0, hi0, hz0, hz1, hz2⟩ := info_parts infoW
  have HI0 := hide hi0
  have HZ0 := hide hz0
  have HZ1 := hide hz1
  have HZ2 := hide hz2
  have hn := fun (wx : World) (x : Option Addr) (n c n' c' : Nat) => Lib.run_eql_slice_nil (P := Sakg.prog) wx 62 29 x n c n' c' Sakg.underlying62
  have H1 := hide h
  have HO := hide h1
  clear h hi0 hz0 hz1 hz2 h1
  cases ao with
  | none =>
    go_enter Sakg.func96, Sakg.ntmps96
    go_wp2
    go_ret
    obtain ⟨rfl, rfl⟩ := (unhide H1).nil rfl
    exact ⟨none, 0, 0, rfl, unhide H1, New.nil _, Below.refl _ _⟩
  | some ad =>
    go_enter Sakg.func96, Sakg.ntmps96
    go_wp2_with (first
      | (at_make; refine wpList_make_rows rfl _ _ 62 rfl 29 Sakg.underlying62 i0 _ 32 32 (unhide HI0) (unhide HZ0) (unhide HZ1) (unhide HZ2) _ _ l rfl rfl rfl rfl (by omega) (by omega) ?_; intro w2 zs hr2 hzl hb2 hs2)
      | (with_reducible refine at_copy ?_; refine wpList_copy_rows rfl _ _ _ _ rfl 29 Sakg.underlying62 i0 32 (unhide HI0) (unhide HZ1) _ l _ rfl _ zs hr2 hzl ad c rfl rows ((unhide H1).kept hb2) (unhide HO) ?_; intro w3 hr3 hon3))
    go_ret
    have hl := (unhide H1).len_eq
    exact ⟨_, l, l, rfl, Rws.ofRow hr3 (unhide H1).sz_eq hl (by unfold maxLen; omega), New.at _ _ _ (Nat.le_refl _), hb2.trans (hon3.below _ (Nat.le_refl _))⟩

end Go.Proofs.YgcsakGreat
