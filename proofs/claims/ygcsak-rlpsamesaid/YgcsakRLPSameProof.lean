/-
  'Rows.RLPSameSaid' ('yellow/law.RLPSame'): the row's step, after the skeleton tool's shell, with the form's own reach.
-/
import Derived.Test.YgcsakRows
import Derived.Test.YgcsakSame
import Derived.WalkKit
import Derived.ProofKit
import Derived.OpenShut
import Derived.ShutString
import Derived.ChangeOld
import Derived.SizedLaws
import Derived.Below
namespace Go.Proofs.Ygcsak.rLPSame
open Go.ChangeShapes Go.WideShapes Go.ChangeAt Go.RowKit
open Go.ChangeMaps (open_string shut_string)
set_option linter.unusedVariables false
set_option linter.unusedSimpArgs false

theorem own : ownKnob Sakg.prog.godebug = none := by kernel_rfl
theorem laidOut : laidOutB Sakg.prog = true := by kernel_rfl
theorem bytes5 : Sakg.prog.bytesOf 5 = 1 := by kernel_rfl

/-- an argument's reading gives the walk's -/
theorem src_of_row {W : World} {a : Addr} {len cap : Nat} {zs : List Int} (hl : len ≤ cap) (hm : cap ≤ maxLen) (hz : zs.length = cap) (hcell : ∀ i, i < zs.length → W.cell? (a.add i) = some (.int .u8 (zs.getD i 0)))
    (hwz : ∀ n ∈ zs, (Lit.int .u8 n).wf = true) : Src W (some a) len cap (zs.take len) := by
  refine ⟨by simp; omega, hl, hm, ?_, (fun h => by cases h), fun h0 => ?_⟩
  · intro x hx
    have := hwz x (List.mem_of_mem_take hx)
    have := bounds_u8 this
    omega
  · obtain ⟨b, off, spot⟩ := a
    have hspot : spot = none := by simpa [Addr.add] using World.cell?_spot (hcell 0 (by omega))
    subst hspot
    refine ⟨b, off, rfl, fun i hi => ?_⟩
    have := hcell i (by omega)
    rw [addAt] at this
    rw [this, List.getD_eq_getElem?_getD, List.getD_eq_getElem?_getD, List.getElem?_take, if_pos hi]

set_option maxRecDepth 100000 in
theorem lifted (os : Os) (started : os.Started) (H : Type) (enc : TypeId × Value → H) :
    ReturnsInHanded {} Sakg.checked os 5 .any (Rows.rLPSameSpec.pre6 enc Sakg.prog Sakg.f5 Rows.rLPSameRow.domain false) (Rows.rLPSameSpec.post enc Sakg.prog Sakg.f5 false true false false) := by
  refine returnsInHanded_of_change_sized (C := Sakg.checked) own started (by kernel_rfl) Sakg.func5
    (ChangeSpec.witness6 (enc := enc) (C := Sakg.checked) false ⟨#[], #[.slice none 0 0], []⟩ 8 (by kernel_rfl) (by kernel_rfl) (by kernel_rfl) (by kernel_rfl)) ?_
  intro W base args ds gs before hval0 hW hcnd hsz0 _
  have hval : ∀ (j : Nat) t v, Sakg.f5.params[j]? = some t → args[j]? = some v → Value.okWide Sakg.prog W .any base t v := hval0
  have hsz : (DataW.weightsEach Sakg.prog (Sakg.f5.params.toList ++ Rows.rLPSameSpec.plain.varTypes Sakg.prog) (ds ++ gs)).all (· ≤ reachBytes) = true := hsz0
  have hW' := hW
  obtain ⟨p, q, hA0, hV, rfl, hfz, hnd⟩ := hW
  have hA : DataW.TrodAll enc Sakg.prog W 0 (fun _ => true) true Sakg.f5.params.toList args.toList ds p := hA0
  rw [Sakg.params5] at hA hval hsz
  obtain ⟨v0, vs0, d0, ds0, p0, q0, hargs, rfl, rfl, h0, r0⟩ := trodAll_cons hA
  obtain ⟨rfl, rfl, rfl⟩ := trodAll_nil r0
  obtain rfl : args = #[v0] := by cases args; simp_all
  obtain ⟨rfl, rfl⟩ := trodVars_none hV
  obtain ⟨a0, len0, cap0, rfl⟩ := okWide_slice Sakg.underlying23 (hval 0 23 v0 rfl rfl)
  have k0 := h0
  have lt0 : ∀ x ∈ p0, x.block < W.heap.size := by obtain ⟨m, hm⟩ := k0; exact DataW.trod_lt m _ _ _ hm
  obtain ⟨z0, w0, b0⟩ : ∃ zs, Src W a0 len0 cap0 zs ∧ len0 ≤ 140737488351232 := by
    obtain ⟨fuel, hf⟩ := h0
    rcases open_ints Sakg.underlying23 Sakg.underlying5 (by kernel_rfl) hf with ⟨hcs, _⟩ | ⟨x, l, c, zs, hcs, _, hl, hm, hz, hx, hcell, hwz⟩
    · simp [Value.cells] at hcs
      obtain ⟨rfl, rfl, rfl⟩ := hcs
      exact ⟨[], Src.ofNil W, by omega⟩
    · simp [Value.cells] at hcs
      obtain ⟨rfl, rfl, rfl⟩ := hcs
      simp only [Prod.mk.injEq] at hx
      obtain ⟨rfl, _⟩ := hx
      have hzl : zs.length = cap0 := by simpa using hz
      have := sized_slice hsz (j := 0) (t := 23) (e := 5) rfl rfl Sakg.underlying23
      rw [bytes5] at this
      simp only [lits, List.length_map, List.length_take, List.length_drop, reachBytes] at this
      exact ⟨zs.take len0, src_of_row hl hm hzl hcell hwz, by omega⟩
  clear hA0 hval0 hsz hsz0
  refine (same_walk a0 len0 cap0 z0 W w0 b0).mono fun e W' ⟨he, bel⟩ => ?_
  subst he
  exact ⟨_, rfl, _, _, _, [], _, [], hW', trodAll_mk1 (shut_bool Sakg.underlying4 _), (trodAll_cons_mk (Below.trod laidOut (by kernel_rfl) (of_decide_eq_true (by kernel_rfl)) k0 bel lt0) trodAll_mk0), rfl, bel.frame _, fun h => by cases h⟩

theorem over : Rows.rLPSameRow.holds Sakg.pinned (OpenSpec.ofChange Rows.rLPSameSpec) :=
  OpenClaim.holds_of_wide 5 Sakg.f5 rfl rfl rfl rfl rfl rfl rfl ⟨rfl, rfl, rfl, rfl, rfl⟩ rfl rfl rfl rfl rfl (by kernel_rfl) Sakg.func5 (by kernel_rfl)
    (of_decide_eq_true (by kernel_rfl)) (by unfold Func.isWrapper; first | (rw [if_pos (by decide +kernel)]; kernel_rfl) | (rw [if_neg (by decide +kernel)]; exact ⟨rfl, rfl⟩))
    (fun os started H enc _ => lifted os started H enc)

end Go.Proofs.Ygcsak.rLPSame
namespace Go.Proofs.Ygcsak
/-- THE STATEMENT -/
theorem rLPSame_proved : Rows.RLPSameSaid := rLPSame.over
end Go.Proofs.Ygcsak
