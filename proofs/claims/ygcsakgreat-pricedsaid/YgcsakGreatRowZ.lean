/-
  SpecAlu's row: what an argument's reading gives.
-/
import Derived.Test.YgcsakGreatLwA
import Derived.OpenShut
import Derived.ChangeOld
import Derived.SizedLaws
import Derived.Deep.Slices
namespace Go.Proofs.YgcsakGreat
open Go.ChangeShapes Go.WideShapes Go.RowKit Go.Deep
set_option linter.unusedVariables false
set_option linter.unusedSimpArgs false
set_option maxRecDepth 100000

section
variable {H : Type} {enc : TypeId × Value → H} {W : World}

/-- a reading of old memory -/
noncomputable abbrev rd (enc : TypeId × Value → H) (W : World) (n : Nat) (t : TypeId) (cs : List Value) : Option (DataW H × List MemPlace) := DataW.trod enc Sakg.prog W 0 (fun _ => true) true n t cs
/-- within the form's reach -/
def Light (t : TypeId) (d : DataW H) : Prop := ∀ z ∈ d.weights Sakg.prog t, z ≤ reachBytes

theorem rd_arr {n : Nat} {t e : TypeId} {m : Nat} {cs : List Value} {x : DataW H × List MemPlace} (ht : Sakg.prog.underlying t = some (.array m e)) (he : Sakg.prog.underlying e = some (.int .u8)) (hc : Sakg.prog.cellsOf e = 1) (hm : Sakg.prog.cellsOf t = m) (h : rd enc W n t cs = some x) : ∃ xs, cs = bv xs ∧ xs.length = m ∧ Byt xs := by
  cases n with
  | zero => simp [rd, DataW.trod] at h
  | succ k =>
    unfold rd DataW.trod at h
    rw [ht] at h
    simp only [hc, hm] at h
    split at h
    case isFalse => cases h
    case isTrue hl =>
      simp only [Option.map_eq_some_iff] at h
      obtain ⟨ys, hy, _⟩ := h
      have hyl := mapM_some_length hy
      rw [List.length_range] at hyl
      have hg : ∀ i, i < m → ∃ z : Int, cs[i]? = some (.int .u8 z) ∧ 0 ≤ z ∧ z ≤ 255 := fun i hi => by
        have h1 := mapM_some_get hy i i (by simp [hi])
        rw [List.getElem?_eq_getElem (by omega)] at h1
        obtain ⟨z, hz, _, hw⟩ := DataW.trod_int he h1
        have h2 : cs[i]? = some (.int .u8 z) := by
          have h3 : ((cs.drop (i * 1)).take 1)[0]? = some (.int .u8 z) := by rw [hz]; rfl
          rw [List.getElem?_take, if_pos (by omega), List.getElem?_drop, Nat.mul_one, Nat.add_zero] at h3
          exact h3
        exact ⟨z, h2, bounds_u8 hw⟩
      obtain ⟨f, hf⟩ := choose_lt hg
      refine ⟨(List.range m).map f, ?_, by simp, ?_⟩
      · apply List.ext_getElem?
        intro i
        by_cases hi : i < m
        · rw [(hf i hi).1]
          simp [bv, hi]
        · rw [List.getElem?_eq_none (by omega), List.getElem?_eq_none (by simp [bv]; omega)]
      · intro z hz
        obtain ⟨i, hi, rfl⟩ := List.mem_map.1 hz
        exact (hf i (List.mem_range.1 hi)).2

theorem cells32 : Sakg.prog.cellsOf 28 = 32 := by kernel_rfl
theorem cellsU8 : Sakg.prog.cellsOf 5 = 1 := by kernel_rfl
theorem rd_32 {n : Nat} {cs : List Value} {x : DataW H × List MemPlace} (h : rd enc W n 28 cs = some x) : ∃ a, cs = bv a ∧ IsW a := by
  obtain ⟨a, h1, h2, h3⟩ := rd_arr Sakg.underlying28 Sakg.underlying5 cellsU8 cells32 h
  exact ⟨a, h1, ⟨h2, h3⟩⟩
theorem rd_u8 {n : Nat} {cs : List Value} {x : DataW H × List MemPlace} (h : rd enc W n 5 cs = some x) : ∃ k : Nat, cs = [.int .u8 k] ∧ k ≤ 255 := by
  obtain ⟨z, h1, _, h3⟩ := DataW.trod_int Sakg.underlying5 h
  have h4 := bounds_u8 h3
  refine ⟨z.toNat, by rw [h1]; congr 2; omega, by omega⟩
end
theorem okWide_array {P : Program} {w : World} {r : Reach} {base : Nat} {t : TypeId} {v : Value} {n : Nat} {e : TypeId} (ht : P.underlying t = some (.array n e)) (h : Value.okWide P w r base t v) : ∃ cs, v = .agg cs := by
  unfold Value.okWide at h
  rw [ht] at h
  cases v <;> simp at h
  exact ⟨_, rfl⟩

end Go.Proofs.YgcsakGreat
