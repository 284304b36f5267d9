/-
  'Rows.ConservesSaid' ('yellow/law.Conserves'): the row.
-/
import Derived.Test.YgcsakGreatRows
import Derived.Test.YgcsakGreatRowD
import Derived.Test.YgcsakGreatLcG
import Derived.Test.YgcsakGreatJoinC
import Derived.WalkKit
import Derived.ProofKit
import Derived.OpenShut
import Derived.ShutString
import Derived.ChangeOld
import Derived.SizedLaws
import Derived.Below
namespace Go.Proofs.YgcsakGreat.conserves
open Go.ChangeShapes Go.WideShapes Go.ChangeAt Go.RowKit
set_option linter.unusedVariables false
set_option linter.unusedSimpArgs false

theorem own : ownKnob Sakg.prog.godebug = none := by kernel_rfl
theorem laidOut : laidOutB Sakg.prog = true := by kernel_rfl
def zeroE : List Value := bv (zeros 20) ++ ([.int .u64 0, .int .u64 0, .int .u64 0] ++ (bv (zeros 96) ++ [nilS]))

instance : Inhabited YTx := ⟨⟨[], [], false, 0, 0, [], [], [], false, [], [], []⟩⟩
theorem rd_txRow {H : Type} {enc : TypeId × Value → H} {W : World} {n : Nat} {cs : List Value} {d : DataW H} {ps : List MemPlace} (h : rd enc W n 33 cs = some (d, ps)) (hw : Light 33 d) : ∃ x, TxRow W cs x := by
  obtain ⟨x, A1, k1, c1, A2, k2, c2, h1, h2, h3, -⟩ := rd_tx h hw
  exact ⟨x, A1, k1, c1, A2, k2, c2, h1, h2, h3⟩

set_option maxHeartbeats 4000000 in
set_option maxRecDepth 100000 in
theorem lifted (os : Os) (started : os.Started) (H : Type) (enc : TypeId × Value → H) :
    ReturnsInHanded {} Sakg.checked os 6 .any (Rows.conservesSpec.pre6 enc Sakg.prog Sakg.f6 Rows.conservesRow.domain false) (Rows.conservesSpec.post enc Sakg.prog Sakg.f6 false true false false) := by
  refine returnsInHanded_of_change_sized (C := Sakg.checked) own started (by kernel_rfl) Sakg.func6
    (ChangeSpec.witness6 (enc := enc) (C := Sakg.checked) false ⟨#[], #[.slice none 0 0, .agg zeroE.toArray, .slice none 0 0], []⟩ 8 (by kernel_rfl) (by kernel_rfl) (by kernel_rfl) (by kernel_rfl)) ?_
  intro W base args ds gs before hval0 hW hcnd hsz0 _
  have hval : ∀ (j : Nat) t v, Sakg.f6.params[j]? = some t → args[j]? = some v → Value.okWide Sakg.prog W .any base t v := hval0
  have hsz : (DataW.weightsEach Sakg.prog (Sakg.f6.params.toList ++ Rows.conservesSpec.plain.varTypes Sakg.prog) (ds ++ gs)).all (· ≤ reachBytes) = true := hsz0
  have hW' := hW
  obtain ⟨p, q, hA0, hV, rfl, hfz, hnd⟩ := hW
  have hA : DataW.TrodAll enc Sakg.prog W 0 (fun _ => true) true Sakg.f6.params.toList args.toList ds p := hA0
  rw [Sakg.params6] at hA hval hsz
  obtain ⟨v0, vs0, d0, ds0, p0, q0, hargs, rfl, rfl, h0, r0⟩ := trodAll_cons hA
  obtain ⟨v1, vs1, d1, ds1, p1, q1, rfl, rfl, rfl, h1, r1⟩ := trodAll_cons r0
  obtain ⟨v2, vs2, d2, ds2, p2, q2, rfl, rfl, rfl, h2, r2⟩ := trodAll_cons r1
  obtain ⟨rfl, rfl, rfl⟩ := trodAll_nil r2
  obtain rfl : args = #[v0, v1, v2] := by cases args; simp_all
  obtain ⟨rfl, rfl⟩ := trodVars_none hV
  obtain ⟨a0, len0, cap0, rfl⟩ := okWide_slice Sakg.underlying37 (hval 0 37 v0 rfl rfl)
  obtain ⟨e1, rfl, -⟩ := okWide_struct Sakg.underlying64 (hval 1 64 v1 rfl rfl)
  obtain ⟨a2, len2, cap2, rfl⟩ := okWide_slice Sakg.underlying65 (hval 2 65 v2 rfl rfl)
  have k0 := h0
  have k1 := h1
  have k2 := h2
  have lt0 : ∀ x ∈ p0, x.block < W.heap.size := by obtain ⟨m, hm⟩ := k0; exact DataW.trod_lt m _ _ _ hm
  have lt1 : ∀ x ∈ p1, x.block < W.heap.size := by obtain ⟨m, hm⟩ := k1; exact DataW.trod_lt m _ _ _ hm
  have lt2 : ∀ x ∈ p2, x.block < W.heap.size := by obtain ⟨m, hm⟩ := k2; exact DataW.trod_lt m _ _ _ hm
  have w0 : Light 37 d0 := fun z hz => by
    have := List.all_eq_true.1 hsz _ (DataW.weights_mem_each (j := 0) (t := 37) (d := d0) rfl rfl z hz)
    simpa using this
  have w1 : Light 64 d1 := fun z hz => by
    have := List.all_eq_true.1 hsz _ (DataW.weights_mem_each (j := 1) (t := 64) (d := d1) rfl rfl z hz)
    simpa using this
  have w2 : Light 65 d2 := fun z hz => by
    have := List.all_eq_true.1 hsz _ (DataW.weights_mem_each (j := 2) (t := 65) (d := d2) rfl rfl z hz)
    simpa using this
  obtain ⟨m0, hm0⟩ := h0
  obtain ⟨m1, hm1⟩ := h1
  obtain ⟨m2, hm2⟩ := h2
  obtain ⟨A, l, c, rows, os', hcs, hrws, heach, hlen⟩ := rd_rows (R := OAcctRow W) Sakg.underlying37 cellsAcct (by omega) bytesAc hm0 w0 (fun k cs' d' ps' g1 g2 _ => rd_acct g1 g2)
  obtain ⟨cb, nm, tm, gl, rn, ch, fee, A3, k3, c3, ks, henv, hks, hk3⟩ := rd_env hm1 w1
  obtain ⟨A2, l2, c2, rows2, xs, hcs2, hrws2, heach2, -⟩ := rd_rows (R := TxRow W) (by_ := Sakg.prog.bytesOf 33) Sakg.underlying65 cellsTx (by omega) rfl hm2 w2 (fun k cs' d' ps' g1 g2 _ => rd_txRow g1 g2)
  have hcs' : [Value.slice a0 len0 cap0] = [Value.slice A l c] := hcs
  obtain ⟨rfl, rfl, rfl⟩ : a0 = A ∧ len0 = l ∧ cap0 = c := by simpa using hcs'
  have hcs2' : [Value.slice a2 len2 cap2] = [Value.slice A2 l2 c2] := hcs2
  obtain ⟨rfl, rfl, rfl⟩ : a2 = A2 ∧ len2 = l2 ∧ cap2 = c2 := by simpa using hcs2'
  have hl0 : len0 ≤ 140737488355328 := by unfold reachBytes at hlen; omega
  clear hA0 hval0 hsz hsz0
  have hwalk := conserves_any a0 len0 cap0 os' e1.toList cb nm tm gl rn ch fee A3 k3 c3 ks a2 len2 cap2 rows2 xs W ⟨rows, hrws, heach⟩ hl0 henv hks hk3 (each_small heach) hrws2 heach2
  rw [Array.toArray_toList] at hwalk
  refine hwalk.mono fun e W' ⟨he, bel⟩ => ?_
  subst he
  exact ⟨_, rfl, _, _, _, [], _, [], hW', trodAll_mk1 (shut_bool Sakg.underlying4 _), (trodAll_cons_mk (Below.trod laidOut (by kernel_rfl) (of_decide_eq_true (by kernel_rfl)) k0 bel lt0) (trodAll_cons_mk (Below.trod laidOut (by kernel_rfl) (of_decide_eq_true (by kernel_rfl)) k1 bel lt1) (trodAll_cons_mk (Below.trod laidOut (by kernel_rfl) (of_decide_eq_true (by kernel_rfl)) k2 bel lt2) trodAll_mk0))), rfl, bel.frame _, fun h => by cases h⟩

theorem closed : joinedFacts Sakg.prog 6 Sakg.f6 Rows.conservesSpec Rows.conservesRow = true := by
  unfold joinedFacts
  rw [laidOut, roadInPlace, roadFollowed, roadRecurses, roadNamed]
  kernel_rfl
theorem named : Sakg.prog.funcNamed Rows.conservesRow.func = some 6 := by kernel_rfl
theorem inst : Sakg.f6.isInstance Sakg.prog Rows.conservesRow.origin Rows.conservesRow.targs := of_decide_eq_true (by kernel_rfl)
theorem wrap : Sakg.f6.isWrapper Sakg.prog Rows.conservesRow.wrapper Rows.conservesRow.mainSum := by
  unfold Func.isWrapper
  first | (rw [if_pos (by decide +kernel)]; kernel_rfl) | (rw [if_neg (by decide +kernel)]; exact ⟨rfl, rfl⟩)
theorem over : Rows.conservesRow.holds Sakg.pinned (OpenSpec.ofChange Rows.conservesSpec) :=
  OpenClaim.holds_of_wide 6 Sakg.f6 rfl rfl rfl rfl rfl rfl rfl ⟨rfl, rfl, rfl, rfl, rfl⟩ rfl rfl rfl rfl rfl named Sakg.func6 closed inst wrap
    (fun os started H enc _ => lifted os started H enc)

end Go.Proofs.YgcsakGreat.conserves
namespace Go.Proofs.YgcsakGreat
/-- THE STATEMENT -/
theorem conserves_proved : Rows.ConservesSaid := conserves.over
end Go.Proofs.YgcsakGreat
