/-
  'Rows.GasBoundsSaid' ('yellow/law.GasBounds'): the row.
-/
import Derived.Test.YgcsakGreatRows
import Derived.Test.YgcsakGreatRowD
import Derived.Test.YgcsakGreatLbD
import Derived.Test.YgcsakGreatJoinG
import Derived.WalkKit
import Derived.ProofKit
import Derived.OpenShut
import Derived.ShutString
import Derived.ChangeOld
import Derived.SizedLaws
import Derived.Below
namespace Go.Proofs.YgcsakGreat.gasBounds
open Go.ChangeShapes Go.WideShapes Go.ChangeAt Go.RowKit
set_option linter.unusedVariables false
set_option linter.unusedSimpArgs false

theorem own : ownKnob Sakg.prog.godebug = none := by kernel_rfl
theorem laidOut : laidOutB Sakg.prog = true := by kernel_rfl
def zeroE : List Value := bv (zeros 20) ++ ([.int .u64 0, .int .u64 0, .int .u64 0] ++ (bv (zeros 96) ++ [nilS]))
def zeroT : List Value := bv (zeros 40) ++ ([.bool false, .int .u64 0, .int .u64 0] ++ (bv (zeros 64) ++ ([nilS, .bool false] ++ (bv (zeros 64) ++ [nilS]))))

set_option maxHeartbeats 4000000 in
set_option maxRecDepth 100000 in
theorem lifted (os : Os) (started : os.Started) (H : Type) (enc : TypeId × Value → H) :
    ReturnsInHanded {} Sakg.checked os 8 .any (Rows.gasBoundsSpec.pre6 enc Sakg.prog Sakg.f8 Rows.gasBoundsRow.domain false) (Rows.gasBoundsSpec.post enc Sakg.prog Sakg.f8 false true false false) := by
  refine returnsInHanded_of_change_sized (C := Sakg.checked) own started (by kernel_rfl) Sakg.func8
    (ChangeSpec.witness6 (enc := enc) (C := Sakg.checked) false ⟨#[], #[.slice none 0 0, .agg zeroE.toArray, .agg zeroT.toArray], []⟩ 8 (by kernel_rfl) (by kernel_rfl) (by kernel_rfl) (by kernel_rfl)) ?_
  intro W base args ds gs before hval0 hW hcnd hsz0 _
  have hval : ∀ (j : Nat) t v, Sakg.f8.params[j]? = some t → args[j]? = some v → Value.okWide Sakg.prog W .any base t v := hval0
  have hsz : (DataW.weightsEach Sakg.prog (Sakg.f8.params.toList ++ Rows.gasBoundsSpec.plain.varTypes Sakg.prog) (ds ++ gs)).all (· ≤ reachBytes) = true := hsz0
  have hW' := hW
  obtain ⟨p, q, hA0, hV, rfl, hfz, hnd⟩ := hW
  have hA : DataW.TrodAll enc Sakg.prog W 0 (fun _ => true) true Sakg.f8.params.toList args.toList ds p := hA0
  rw [Sakg.params8] at hA hval hsz
  obtain ⟨v0, vs0, d0, ds0, p0, q0, hargs, rfl, rfl, h0, r0⟩ := trodAll_cons hA
  obtain ⟨v1, vs1, d1, ds1, p1, q1, rfl, rfl, rfl, h1, r1⟩ := trodAll_cons r0
  obtain ⟨v2, vs2, d2, ds2, p2, q2, rfl, rfl, rfl, h2, r2⟩ := trodAll_cons r1
  obtain ⟨rfl, rfl, rfl⟩ := trodAll_nil r2
  obtain rfl : args = #[v0, v1, v2] := by cases args; simp_all
  obtain ⟨rfl, rfl⟩ := trodVars_none hV
  obtain ⟨a0, len0, cap0, rfl⟩ := okWide_slice Sakg.underlying37 (hval 0 37 v0 rfl rfl)
  obtain ⟨e1, rfl, -⟩ := okWide_struct Sakg.underlying64 (hval 1 64 v1 rfl rfl)
  obtain ⟨e2, rfl, -⟩ := okWide_struct Sakg.underlying33 (hval 2 33 v2 rfl rfl)
  have k0 := h0
  have k1 := h1
  have k2 := h2
  have lt0 : ∀ x ∈ p0, x.block < W.heap.size := by obtain ⟨m, hm⟩ := k0; exact DataW.trod_lt m _ _ _ hm
  have lt1 : ∀ x ∈ p1, x.block < W.heap.size := by obtain ⟨m, hm⟩ := k1; exact DataW.trod_lt m _ _ _ hm
  have lt2 : ∀ x ∈ p2, x.block < W.heap.size := by obtain ⟨m, hm⟩ := k2; exact DataW.trod_lt m _ _ _ hm
  have w0 : Light 37 d0 := fun z hz => by
    have := List.all_eq_true.1 hsz _ (DataW.weights_mem_each (j := 0) (t := 37) (d := d0) rfl rfl z hz)
    simpa using this
  have w1 : Light 64 d1 := fun z hz => by
    have := List.all_eq_true.1 hsz _ (DataW.weights_mem_each (j := 1) (t := 64) (d := d1) rfl rfl z hz)
    simpa using this
  have w2 : Light 33 d2 := fun z hz => by
    have := List.all_eq_true.1 hsz _ (DataW.weights_mem_each (j := 2) (t := 33) (d := d2) rfl rfl z hz)
    simpa using this
  obtain ⟨m0, hm0⟩ := h0
  obtain ⟨m1, hm1⟩ := h1
  obtain ⟨m2, hm2⟩ := h2
  obtain ⟨A, l, c, rows, os', hcs, hrws, heach, hlen⟩ := rd_rows (R := OAcctRow W) Sakg.underlying37 cellsAcct (by omega) bytesAc hm0 w0 (fun k cs' d' ps' g1 g2 _ => rd_acct g1 g2)
  obtain ⟨cb, nm, tm, gl, rn, ch, fee, A3, k3, c3, ks, henv, hks, hk3⟩ := rd_env hm1 w1
  obtain ⟨x, A1, j1, c1, A2, j2, c2, htx, hsrc, hacc, hreach⟩ := rd_tx hm2 w2
  have hcs' : [Value.slice a0 len0 cap0] = [Value.slice A l c] := hcs
  obtain ⟨rfl, rfl, rfl⟩ : a0 = A ∧ len0 = l ∧ cap0 = c := by simpa using hcs'
  have hl0 : len0 ≤ 140737488355328 := by unfold reachBytes at hlen; omega
  clear hA0 hval0 hsz hsz0
  have hwalk := gasBounds_any a0 len0 cap0 os' e1.toList cb nm tm gl rn ch fee A3 k3 c3 ks e2.toList x A1 j1 c1 A2 j2 c2 W ⟨rows, hrws, heach⟩ hl0 henv hks hk3 (each_small heach) htx hsrc hacc
  rw [Array.toArray_toList, Array.toArray_toList] at hwalk
  refine hwalk.mono fun e W' ⟨he, bel⟩ => ?_
  subst he
  exact ⟨_, rfl, _, _, _, [], _, [], hW', trodAll_mk1 (shut_bool Sakg.underlying4 _), (trodAll_cons_mk (Below.trod laidOut (by kernel_rfl) (of_decide_eq_true (by kernel_rfl)) k0 bel lt0) (trodAll_cons_mk (Below.trod laidOut (by kernel_rfl) (of_decide_eq_true (by kernel_rfl)) k1 bel lt1) (trodAll_cons_mk (Below.trod laidOut (by kernel_rfl) (of_decide_eq_true (by kernel_rfl)) k2 bel lt2) trodAll_mk0))), rfl, bel.frame _, fun h => by cases h⟩

theorem closed : joinedFacts Sakg.prog 8 Sakg.f8 Rows.gasBoundsSpec Rows.gasBoundsRow = true := by
  unfold joinedFacts
  rw [laidOut, roadInPlace, roadFollowed, roadRecurses, roadNamed]
  kernel_rfl
theorem named : Sakg.prog.funcNamed Rows.gasBoundsRow.func = some 8 := by kernel_rfl
theorem inst : Sakg.f8.isInstance Sakg.prog Rows.gasBoundsRow.origin Rows.gasBoundsRow.targs := of_decide_eq_true (by kernel_rfl)
theorem wrap : Sakg.f8.isWrapper Sakg.prog Rows.gasBoundsRow.wrapper Rows.gasBoundsRow.mainSum := by
  unfold Func.isWrapper
  first | (rw [if_pos (by decide +kernel)]; kernel_rfl) | (rw [if_neg (by decide +kernel)]; exact ⟨rfl, rfl⟩)
theorem over : Rows.gasBoundsRow.holds Sakg.pinned (OpenSpec.ofChange Rows.gasBoundsSpec) :=
  OpenClaim.holds_of_wide 8 Sakg.f8 rfl rfl rfl rfl rfl rfl rfl ⟨rfl, rfl, rfl, rfl, rfl⟩ rfl rfl rfl rfl rfl named Sakg.func8 closed inst wrap
    (fun os started H enc _ => lifted os started H enc)

end Go.Proofs.YgcsakGreat.gasBounds
namespace Go.Proofs.YgcsakGreat
/-- THE STATEMENT -/
theorem gasBounds_proved : Rows.GasBoundsSaid := gasBounds.over
end Go.Proofs.YgcsakGreat
