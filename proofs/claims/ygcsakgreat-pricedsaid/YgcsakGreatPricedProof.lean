/-
  'Rows.PricedSaid' ('yellow/law.Priced'): the row.
-/
import Derived.Test.YgcsakGreatRows
import Derived.Test.YgcsakGreatRowZ
import Derived.Test.YgcsakGreatLpQ
import Derived.Test.YgcsakGreatJoinP
import Derived.WalkKit
import Derived.ProofKit
import Derived.OpenShut
import Derived.ShutString
import Derived.ChangeOld
import Derived.SizedLaws
import Derived.Below
namespace Go.Proofs.YgcsakGreat.priced
open Go.ChangeShapes Go.WideShapes Go.ChangeAt Go.RowKit
set_option linter.unusedVariables false
set_option linter.unusedSimpArgs false

theorem own : ownKnob Sakg.prog.godebug = none := by kernel_rfl
theorem laidOut : laidOutB Sakg.prog = true := by kernel_rfl
theorem rd_u16 {H : Type} {enc : TypeId × Value → H} {W : World} {n : Nat} {cs : List Value} {x : DataW H × List MemPlace} (h : rd enc W n 22 cs = some x) : ∃ k : Nat, cs = [.int .u16 k] ∧ k < 65536 := by
  obtain ⟨z, h1, _, h3⟩ := DataW.trod_int Sakg.underlying22 h
  have h4 := bounds_u16 h3
  refine ⟨z.toNat, by rw [h1]; congr 2; omega, by omega⟩

set_option maxHeartbeats 4000000 in
set_option maxRecDepth 100000 in
theorem lifted (os : Os) (started : os.Started) (H : Type) (enc : TypeId × Value → H) :
    ReturnsInHanded {} Sakg.checked os 3 .any (Rows.pricedSpec.pre6 enc Sakg.prog Sakg.f3 Rows.pricedRow.domain false) (Rows.pricedSpec.post enc Sakg.prog Sakg.f3 false true false false) := by
  refine returnsInHanded_of_change_sized (C := Sakg.checked) own started (by kernel_rfl) Sakg.func3
    (ChangeSpec.witness6 (enc := enc) (C := Sakg.checked) false ⟨#[], #[.int .u8 0, .int .u16 0], []⟩ 8 (by kernel_rfl) (by kernel_rfl) (by kernel_rfl) (by kernel_rfl)) ?_
  intro W base args ds gs before hval0 hW hcnd hsz0 _
  have hval : ∀ (j : Nat) t v, Sakg.f3.params[j]? = some t → args[j]? = some v → Value.okWide Sakg.prog W .any base t v := hval0
  have hW' := hW
  obtain ⟨p, q, hA0, hV, rfl, hfz, hnd⟩ := hW
  have hA : DataW.TrodAll enc Sakg.prog W 0 (fun _ => true) true Sakg.f3.params.toList args.toList ds p := hA0
  rw [Sakg.params3] at hA hval
  obtain ⟨v0, vs0, d0, ds0, p0, q0, hargs, rfl, rfl, h0, r0⟩ := trodAll_cons hA
  obtain ⟨v1, vs1, d1, ds1, p1, q1, rfl, rfl, rfl, h1, r1⟩ := trodAll_cons r0
  obtain ⟨rfl, rfl, rfl⟩ := trodAll_nil r1
  obtain rfl : args = #[v0, v1] := by cases args; simp_all
  obtain ⟨rfl, rfl⟩ := trodVars_none hV
  obtain ⟨z0, rfl⟩ := okWide_int Sakg.underlying5 (hval 0 5 v0 rfl rfl)
  obtain ⟨z1, rfl⟩ := okWide_int Sakg.underlying22 (hval 1 22 v1 rfl rfl)
  have k0 := h0
  have k1 := h1
  have lt0 : ∀ x ∈ p0, x.block < W.heap.size := by obtain ⟨m, hm⟩ := k0; exact DataW.trod_lt m _ _ _ hm
  have lt1 : ∀ x ∈ p1, x.block < W.heap.size := by obtain ⟨m, hm⟩ := k1; exact DataW.trod_lt m _ _ _ hm
  obtain ⟨m0, hm0⟩ := h0
  obtain ⟨m1, hm1⟩ := h1
  obtain ⟨o, ho, ho255⟩ := rd_u8 hm0
  obtain ⟨n, hn, hn16⟩ := rd_u16 hm1
  have ho' : [Value.int IntKind.u8 z0] = [Value.int .u8 (o : Int)] := ho
  obtain rfl : z0 = (o : Int) := by simpa using ho'
  have hn' : [Value.int IntKind.u16 z1] = [Value.int .u16 (n : Int)] := hn
  obtain rfl : z1 = (n : Int) := by simpa using hn'
  have hwalk := priced_any o n ho255 hn16 W
  refine hwalk.mono fun e W' ⟨he, bel⟩ => ?_
  subst he
  exact ⟨_, rfl, _, _, _, [], _, [], hW', trodAll_mk1 (shut_bool Sakg.underlying4 _), (trodAll_cons_mk (Below.trod laidOut (by kernel_rfl) (of_decide_eq_true (by kernel_rfl)) k0 bel lt0) (trodAll_cons_mk (Below.trod laidOut (by kernel_rfl) (of_decide_eq_true (by kernel_rfl)) k1 bel lt1) trodAll_mk0)), rfl, bel.frame _, fun h => by cases h⟩

theorem closed : joinedFacts Sakg.prog 3 Sakg.f3 Rows.pricedSpec Rows.pricedRow = true := by
  unfold joinedFacts
  rw [laidOut, roadInPlace, roadFollowed, roadRecurses, roadNamed]
  kernel_rfl
theorem named : Sakg.prog.funcNamed Rows.pricedRow.func = some 3 := by kernel_rfl
theorem inst : Sakg.f3.isInstance Sakg.prog Rows.pricedRow.origin Rows.pricedRow.targs := of_decide_eq_true (by kernel_rfl)
theorem wrap : Sakg.f3.isWrapper Sakg.prog Rows.pricedRow.wrapper Rows.pricedRow.mainSum := by
  unfold Func.isWrapper
  first | (rw [if_pos (by decide +kernel)]; kernel_rfl) | (rw [if_neg (by decide +kernel)]; exact ⟨rfl, rfl⟩)
theorem over : Rows.pricedRow.holds Sakg.pinned (OpenSpec.ofChange Rows.pricedSpec) :=
  OpenClaim.holds_of_wide 3 Sakg.f3 rfl rfl rfl rfl rfl rfl rfl ⟨rfl, rfl, rfl, rfl, rfl⟩ rfl rfl rfl rfl rfl named Sakg.func3 closed inst wrap
    (fun os started H enc _ => lifted os started H enc)

end Go.Proofs.YgcsakGreat.priced
namespace Go.Proofs.YgcsakGreat
/-- THE STATEMENT -/
theorem priced_proved : Rows.PricedSaid := priced.over
end Go.Proofs.YgcsakGreat
