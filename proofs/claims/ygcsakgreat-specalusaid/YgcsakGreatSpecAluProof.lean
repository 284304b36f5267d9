/-
  'Rows.SpecAluSaid' ('yellow/law.SpecAlu'): the row.
-/
import Derived.Test.YgcsakGreatRows
import Derived.Test.YgcsakGreatRowZ
import Derived.Test.YgcsakGreatLwI
import Derived.Test.YgcsakGreatJoinZ
import Derived.WalkKit
import Derived.ProofKit
import Derived.OpenShut
import Derived.ShutString
import Derived.ChangeOld
import Derived.SizedLaws
import Derived.Below
namespace Go.Proofs.YgcsakGreat.specAlu
open Go.ChangeShapes Go.WideShapes Go.ChangeAt Go.RowKit
set_option linter.unusedVariables false
set_option linter.unusedSimpArgs false

theorem own : ownKnob Sakg.prog.godebug = none := by kernel_rfl
theorem laidOut : laidOutB Sakg.prog = true := by kernel_rfl

set_option maxHeartbeats 4000000 in
set_option maxRecDepth 100000 in
theorem lifted (os : Os) (started : os.Started) (H : Type) (enc : TypeId × Value → H) :
    ReturnsInHanded {} Sakg.checked os 4 .any (Rows.specAluSpec.pre6 enc Sakg.prog Sakg.f4 Rows.specAluRow.domain false) (Rows.specAluSpec.post enc Sakg.prog Sakg.f4 false true false false) := by
  refine returnsInHanded_of_change_sized (C := Sakg.checked) own started (by kernel_rfl) Sakg.func4
    (ChangeSpec.witness6 (enc := enc) (C := Sakg.checked) false ⟨#[], #[.int .u8 0, .agg (bv (zeros 32)).toArray, .agg (bv (zeros 32)).toArray, .agg (bv (zeros 32)).toArray], []⟩ 8 (by kernel_rfl) (by kernel_rfl) (by kernel_rfl) (by kernel_rfl)) ?_
  intro W base args ds gs before hval0 hW hcnd hsz0 _
  have hval : ∀ (j : Nat) t v, Sakg.f4.params[j]? = some t → args[j]? = some v → Value.okWide Sakg.prog W .any base t v := hval0
  have hW' := hW
  obtain ⟨p, q, hA0, hV, rfl, hfz, hnd⟩ := hW
  have hA : DataW.TrodAll enc Sakg.prog W 0 (fun _ => true) true Sakg.f4.params.toList args.toList ds p := hA0
  rw [Sakg.params4] at hA hval
  obtain ⟨v0, vs0, d0, ds0, p0, q0, hargs, rfl, rfl, h0, r0⟩ := trodAll_cons hA
  obtain ⟨v1, vs1, d1, ds1, p1, q1, rfl, rfl, rfl, h1, r1⟩ := trodAll_cons r0
  obtain ⟨v2, vs2, d2, ds2, p2, q2, rfl, rfl, rfl, h2, r2⟩ := trodAll_cons r1
  obtain ⟨v3, vs3, d3, ds3, p3, q3, rfl, rfl, rfl, h3, r3⟩ := trodAll_cons r2
  obtain ⟨rfl, rfl, rfl⟩ := trodAll_nil r3
  obtain rfl : args = #[v0, v1, v2, v3] := by cases args; simp_all
  obtain ⟨rfl, rfl⟩ := trodVars_none hV
  obtain ⟨z0, rfl⟩ := okWide_int Sakg.underlying5 (hval 0 5 v0 rfl rfl)
  obtain ⟨e1, rfl⟩ := okWide_array Sakg.underlying28 (hval 1 28 v1 rfl rfl)
  obtain ⟨e2, rfl⟩ := okWide_array Sakg.underlying28 (hval 2 28 v2 rfl rfl)
  obtain ⟨e3, rfl⟩ := okWide_array Sakg.underlying28 (hval 3 28 v3 rfl rfl)
  have k0 := h0
  have k1 := h1
  have k2 := h2
  have k3 := h3
  have lt0 : ∀ x ∈ p0, x.block < W.heap.size := by obtain ⟨m, hm⟩ := k0; exact DataW.trod_lt m _ _ _ hm
  have lt1 : ∀ x ∈ p1, x.block < W.heap.size := by obtain ⟨m, hm⟩ := k1; exact DataW.trod_lt m _ _ _ hm
  have lt2 : ∀ x ∈ p2, x.block < W.heap.size := by obtain ⟨m, hm⟩ := k2; exact DataW.trod_lt m _ _ _ hm
  have lt3 : ∀ x ∈ p3, x.block < W.heap.size := by obtain ⟨m, hm⟩ := k3; exact DataW.trod_lt m _ _ _ hm
  obtain ⟨m0, hm0⟩ := h0
  obtain ⟨m1, hm1⟩ := h1
  obtain ⟨m2, hm2⟩ := h2
  obtain ⟨m3, hm3⟩ := h3
  obtain ⟨o, ho, ho255⟩ := rd_u8 hm0
  obtain ⟨a, hae, ha⟩ := rd_32 hm1
  obtain ⟨b, hbe, hb⟩ := rd_32 hm2
  obtain ⟨c, hce, hc⟩ := rd_32 hm3
  have ho' : [Value.int IntKind.u8 z0] = [Value.int .u8 (o : Int)] := ho
  obtain rfl : z0 = (o : Int) := by simpa using ho'
  have hwalk := specAlu_any o ho255 a b c ha hb hc W
  have g1 : (bv a).toArray = e1 := by rw [← hae]; exact Array.toArray_toList
  have g2 : (bv b).toArray = e2 := by rw [← hbe]; exact Array.toArray_toList
  have g3 : (bv c).toArray = e3 := by rw [← hce]; exact Array.toArray_toList
  rw [g1, g2, g3] at hwalk
  refine hwalk.mono fun e W' ⟨he, bel⟩ => ?_
  subst he
  exact ⟨_, rfl, _, _, _, [], _, [], hW', trodAll_mk1 (shut_bool Sakg.underlying4 _), (trodAll_cons_mk (Below.trod laidOut (by kernel_rfl) (of_decide_eq_true (by kernel_rfl)) k0 bel lt0) (trodAll_cons_mk (Below.trod laidOut (by kernel_rfl) (of_decide_eq_true (by kernel_rfl)) k1 bel lt1) (trodAll_cons_mk (Below.trod laidOut (by kernel_rfl) (of_decide_eq_true (by kernel_rfl)) k2 bel lt2) (trodAll_cons_mk (Below.trod laidOut (by kernel_rfl) (of_decide_eq_true (by kernel_rfl)) k3 bel lt3) trodAll_mk0)))), rfl, bel.frame _, fun h => by cases h⟩

theorem closed : joinedFacts Sakg.prog 4 Sakg.f4 Rows.specAluSpec Rows.specAluRow = true := by
  unfold joinedFacts
  rw [laidOut, roadInPlace, roadFollowed, roadRecurses, roadNamed]
  kernel_rfl
theorem named : Sakg.prog.funcNamed Rows.specAluRow.func = some 4 := by kernel_rfl
theorem inst : Sakg.f4.isInstance Sakg.prog Rows.specAluRow.origin Rows.specAluRow.targs := of_decide_eq_true (by kernel_rfl)
theorem wrap : Sakg.f4.isWrapper Sakg.prog Rows.specAluRow.wrapper Rows.specAluRow.mainSum := by
  unfold Func.isWrapper
  first | (rw [if_pos (by decide +kernel)]; kernel_rfl) | (rw [if_neg (by decide +kernel)]; exact ⟨rfl, rfl⟩)
theorem over : Rows.specAluRow.holds Sakg.pinned (OpenSpec.ofChange Rows.specAluSpec) :=
  OpenClaim.holds_of_wide 4 Sakg.f4 rfl rfl rfl rfl rfl rfl rfl ⟨rfl, rfl, rfl, rfl, rfl⟩ rfl rfl rfl rfl rfl named Sakg.func4 closed inst wrap
    (fun os started H enc _ => lifted os started H enc)

end Go.Proofs.YgcsakGreat.specAlu
namespace Go.Proofs.YgcsakGreat
/-- THE STATEMENT -/
theorem specAlu_proved : Rows.SpecAluSaid := specAlu.over
end Go.Proofs.YgcsakGreat
