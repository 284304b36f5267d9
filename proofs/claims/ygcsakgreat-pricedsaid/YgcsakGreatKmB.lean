/-
  kmodel: Const, Offset, bit.
-/
import Derived.Test.YgcsakGreatKmA
namespace Go.Proofs.YgcsakGreat
set_option linter.unusedVariables false
set_option linter.unusedSimpArgs false
set_option maxRecDepth 100000
open Go.RowKit

def bitI (b : Bool) : Int := if b then 1 else 0
set_option maxHeartbeats 1000000 in
theorem bit_any (b : Bool) (w : World) : Calls Sakg.prog 492 #[.bool b] w fun e w' => e = .returned (.int .u8 (bitI b)) ∧ w = w' := by
  go_enter Sakg.func492, Sakg.ntmps492
  cases b
  · go_wp2
    go_ret
    exact ⟨rfl, rfl⟩
  · go_wp2
    go_ret
    exact ⟨rfl, rfl⟩

set_option maxHeartbeats 4000000 in
theorem const_any (i : Nat) (w : World) (hi : i < 256) : Calls Sakg.prog 493 #[.int .u8 i] w fun e w' => (∃ c : Int, e = .returned (.int .u64 c)) ∧ Below w.heap.size w w' := by
  by_cases h24 : i < 24
  · have d1 : decide ((24 : Int) ≤ (i : Int)) = false := decide_eq_false (by omega)
    have hb1 : Below w.heap.size w (w.alloc (.cells #[.bool true, .bool false, .bool false, .bool false, .bool false, .bool false, .bool false, .bool false] 535)) := (Below.refl _ _).alloc (Nat.le_refl _) _
    have hr1 : BT 535 (w.alloc (.cells #[.bool true, .bool false, .bool false, .bool false, .bool false, .bool false, .bool false, .bool false] 535)) w.heap.size 8 (fun k => k == 0) := by unfold BT; rw [bools8]; exact RowT.new _ _ _
    go_enter Sakg.func493, Sakg.ntmps493
    go_wp2_with fail
    go_loopg [4] (7 * i) (fun gk tv wr => ∃ t : Nat, t + gk = 7 * i ∧ tv = .int .i64 t ∧ (∃ f, BT 535 wr w.heap.size 8 f) ∧ Below w.heap.size w wr)
    case atStart => exact ⟨0, by omega, rfl, ⟨_, hr1⟩, hb1⟩
    case round =>
      obtain ⟨t, ht, rfl, ⟨f, hf⟩, hbe⟩ := hrel
      clear hr1 hb1
      by_cases htl : t < 7 * i
      · have d2 : decide ((t : Int) < 7 * (i : Int)) = true := decide_eq_true (by omega)
        go_wp2_with fail
        refine (turn_any w.heap.size f wr hf).mono ?_
        rintro e w2 ⟨rfl, ⟨f2, hf2⟩, ho⟩
        have hb2 : Below w.heap.size w w2 := hbe.trans (ho.below _ (Nat.le_refl _))
        go_wp2
        go_roundg (gk - 1)
        case measure => omega
        case rel => exact ⟨t + 1, by omega, rfl, ⟨f2, hf2⟩, hb2⟩
      · obtain rfl : t = 7 * i := by omega
        go_wp2_with fail
        go_loopg [5, 6] 7 (fun gk cv jv wr => ∃ (j : Nat) (c : Int), j + gk = 7 ∧ jv = .int .i64 j ∧ cv = .int .u64 c ∧ (∃ f, BT 535 wr w.heap.size 8 f) ∧ Below w.heap.size w wr)
        case atStart => exact ⟨0, 0, by omega, rfl, rfl, ⟨_, hf⟩, hbe⟩
        case round =>
          obtain ⟨j, c, hj, rfl, rfl, ⟨f', hf'⟩, hbe'⟩ := hrel
          clear hf hbe
          by_cases hjl : j < 7
          · have c0 := hf'.cell 0 (by omega)
            obtain ⟨b0, hb0⟩ : ∃ b0, f' 0 = b0 := ⟨_, rfl⟩
            rw [hb0] at c0
            cases b0 with
            | false =>
              go_wp2_with fail
              refine (turn_any w.heap.size f' wr hf').mono ?_
              rintro e w2 ⟨rfl, ⟨f2, hf2⟩, ho⟩
              have hb2 : Below w.heap.size w w2 := hbe'.trans (ho.below _ (Nat.le_refl _))
              go_wp2
              go_roundg (gk - 1)
              case measure => omega
              case rel => exact ⟨j + 1, c, by omega, rfl, rfl, ⟨f2, hf2⟩, hb2⟩
            | true =>
              go_wp2_with fail
              refine (turn_any w.heap.size f' wr hf').mono ?_
              rintro e w2 ⟨rfl, ⟨f2, hf2⟩, ho⟩
              have hb2 : Below w.heap.size w w2 := hbe'.trans (ho.below _ (Nat.le_refl _))
              go_wp2
              go_roundg (gk - 1)
              case measure => omega
              case rel => exact ⟨j + 1, _, by omega, rfl, rfl, ⟨f2, hf2⟩, hb2⟩
          · go_wp2
            go_ret
            exact ⟨⟨c, rfl⟩, hbe'⟩
  · have d1 : decide ((24 : Int) ≤ (i : Int)) = true := decide_eq_true (by omega)
    go_enter Sakg.func493, Sakg.ntmps493
    go_wp2
    go_ret
    exact ⟨⟨0, rfl⟩, Below.refl _ _⟩

set_option maxHeartbeats 4000000 in
theorem offset_any (x y : Nat) (w : World) (hx : x < 5) (hy : y < 5) : Calls Sakg.prog 491 #[.int .u8 x, .int .u8 y] w fun e w' => (∃ k : Nat, e = .returned (.int .u8 k)) ∧ w = w' := by
  have d1 : decide ((5 : Int) ≤ (x : Int)) = false := decide_eq_false (by omega)
  have d2 : decide ((5 : Int) ≤ (y : Int)) = false := decide_eq_false (by omega)
  go_enter Sakg.func491, Sakg.ntmps491
  go_wp2_with fail
  go_loopg [5, 6, 7] 24 (fun gk uv vv tv wr => ∃ t u v : Nat, t + gk = 24 ∧ tv = .int .i64 t ∧ uv = .int .i64 u ∧ vv = .int .i64 v ∧ u < 5 ∧ v < 5 ∧ w = wr)
  case atStart => exact ⟨0, 1, 0, by omega, rfl, rfl, rfl, by omega, by omega, rfl⟩
  case round =>
    obtain ⟨t, u, v, ht, rfl, rfl, rfl, hu, hv, rfl⟩ := hrel
    by_cases htl : t < 24
    · obtain ⟨b1, hb1⟩ : ∃ b, ((u : Int) == (x : Int)) = b := ⟨_, rfl⟩
      obtain ⟨b2, hb2⟩ : ∃ b, ((v : Int) == (y : Int)) = b := ⟨_, rfl⟩
      cases b1 with
      | false =>
        go_wp2
        go_roundg (gk - 1)
        case measure => omega
        case rel => exact ⟨t + 1, v, (2 * u + 3 * v) % 5, by omega, rfl, rfl, congrArg (Value.int .i64) (by omega), hv, by omega, rfl⟩
      | true =>
        cases b2 with
        | false =>
          go_wp2
          go_roundg (gk - 1)
          case measure => omega
          case rel => exact ⟨t + 1, v, (2 * u + 3 * v) % 5, by omega, rfl, rfl, congrArg (Value.int .i64) (by omega), hv, by omega, rfl⟩
        | true =>
          obtain ⟨q, hq⟩ : ∃ q : Nat, ((t : Int) + 1) * ((t : Int) + 2) = (q : Int) := ⟨(t + 1) * (t + 2), by simp⟩
          have hq0 : q ≤ 1000 := by
            have h1 : (t + 1) * (t + 2) ≤ 25 * 26 := Nat.mul_le_mul (by omega) (by omega)
            have h2 : ((t + 1) * (t + 2) : Nat) = q := by
              have : (((t + 1) * (t + 2) : Nat) : Int) = (q : Int) := by rw [← hq]; simp
              omega
            omega
          go_wp2
          go_ret
          exact ⟨⟨q / 2 % 64, congrArg (fun z => Ending.returned (Value.int .u8 z)) (by omega)⟩, rfl⟩
    · go_wp2
      go_ret
      exact ⟨⟨0, rfl⟩, rfl⟩

end Go.Proofs.YgcsakGreat
