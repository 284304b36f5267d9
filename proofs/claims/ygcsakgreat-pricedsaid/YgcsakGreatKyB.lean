/-
  kmodel, exactly: Const, Offset.
-/
import Derived.Test.YgcsakGreatKyA
import Derived.Laws.Bits64b
namespace Go.Proofs.YgcsakGreat
set_option linter.unusedVariables false
set_option linter.unusedSimpArgs false
set_option maxRecDepth 100000
open Go.RowKit

/-- the register, as a list -/
def turnL : List Bool → List Bool
  | [a0, a1, a2, a3, a4, a5, a6, a7] => [a7, a0, a1, a2, a3 != a7, a4 != a7, a5 != a7, a6]
  | l => l
def regL : Nat → List Bool
  | 0 => [true, false, false, false, false, false, false, false]
  | n + 1 => turnL (regL n)
theorem turnL_len {l : List Bool} (h : l.length = 8) : (turnL l).length = 8 := by
  match l, h with
  | [a0, a1, a2, a3, a4, a5, a6, a7], _ => rfl
theorem regL_len : ∀ n, (regL n).length = 8
  | 0 => rfl
  | n + 1 => turnL_len (regL_len n)
def Reg (f : Nat → Bool) (n : Nat) : Prop := ∀ k, k < 8 → f k = (regL n).getD k false
theorem Reg.turn {f f' : Nat → Bool} {n : Nat} (h : Reg f n) (h' : ∀ k, k < 8 → f' k = turnR f k) : Reg f' (n + 1) := by
  intro k hk
  rw [h' k hk]
  show turnR f k = (turnL (regL n)).getD k false
  have hl := regL_len n
  unfold Reg at h
  generalize regL n = l at h hl
  match l, hl with
  | [a0, a1, a2, a3, a4, a5, a6, a7], _ =>
    have q0 := h 0 (by omega)
    have q1 := h 1 (by omega)
    have q2 := h 2 (by omega)
    have q3 := h 3 (by omega)
    have q4 := h 4 (by omega)
    have q5 := h 5 (by omega)
    have q6 := h 6 (by omega)
    have q7 := h 7 (by omega)
    simp at q0 q1 q2 q3 q4 q5 q6 q7
    have hc : k = 0 ∨ k = 1 ∨ k = 2 ∨ k = 3 ∨ k = 4 ∨ k = 5 ∨ k = 6 ∨ k = 7 := by omega
    rcases hc with rfl | rfl | rfl | rfl | rfl | rfl | rfl | rfl <;> simp [turnR, turnL, q0, q1, q2, q3, q4, q5, q6, q7]
theorem Reg.start : Reg (fun k => k == 0) 0 := by
  intro k hk
  have hc : k = 0 ∨ k = 1 ∨ k = 2 ∨ k = 3 ∨ k = 4 ∨ k = 5 ∨ k = 6 ∨ k = 7 := by omega
  rcases hc with rfl | rfl | rfl | rfl | rfl | rfl | rfl | rfl <;> rfl
/-- a round's constant, its first j bits -/
def cN (i : Nat) : Nat → Nat
  | 0 => 0
  | j + 1 => if (regL (7 * i + j)).getD 0 false = true then cN i j ||| 2 ^ (2 ^ j - 1) else cN i j
def rcN (i : Nat) : Nat := cN i 7
theorem cN_lt (i : Nat) : ∀ j, j ≤ 7 → cN i j < 18446744073709551616
  | 0, _ => by unfold cN; omega
  | j + 1, h => by
    have ih := cN_lt i j (by omega)
    unfold cN
    split
    · have hp : 2 ^ (2 ^ j - 1) < 2 ^ 64 := Nat.pow_lt_pow_right (by omega) (by
        have : 2 ^ j ≤ 2 ^ 6 := Nat.pow_le_pow_right (by omega) (by omega)
        omega)
      exact Nat.or_lt_two_pow (n := 64) ih hp
    · exact ih
theorem cN_no {i j c : Nat} {f : Nat → Bool} (h : c = cN i j) (hr : Reg f (7 * i + j)) (hb : f 0 = false) : c = cN i (j + 1) := by
  have h0 := hr 0 (by omega)
  rw [hb] at h0
  rw [h]
  show _ = if (regL (7 * i + j)).getD 0 false = true then cN i j ||| 2 ^ (2 ^ j - 1) else cN i j
  rw [if_neg (by rw [← h0]; simp)]
theorem cN_yes {i j c : Nat} {f : Nat → Bool} (h : c = cN i j) (hr : Reg f (7 * i + j)) (hb : f 0 = true) : c ||| 2 ^ (2 ^ j - 1) = cN i (j + 1) := by
  have h0 := hr 0 (by omega)
  rw [hb] at h0
  rw [h]
  show _ = if (regL (7 * i + j)).getD 0 false = true then cN i j ||| 2 ^ (2 ^ j - 1) else cN i j
  rw [if_pos h0.symm]
set_option maxHeartbeats 4000000 in
theorem const_x (i : Nat) (w : World) (hi : i < 24) : Calls Sakg.prog 493 #[.int .u8 i] w fun e w' => e = .returned (.int .u64 (rcN i : Int)) ∧ Below w.heap.size w w' := by
  · have d1 : decide ((24 : Int) ≤ (i : Int)) = false := decide_eq_false (by omega)
    have hb1 : Below w.heap.size w (w.alloc (.cells #[.bool true, .bool false, .bool false, .bool false, .bool false, .bool false, .bool false, .bool false] 535)) := (Below.refl _ _).alloc (Nat.le_refl _) _
    have hr1 : BT 535 (w.alloc (.cells #[.bool true, .bool false, .bool false, .bool false, .bool false, .bool false, .bool false, .bool false] 535)) w.heap.size 8 (fun k => k == 0) := by unfold BT; rw [bools8]; exact RowT.new _ _ _
    go_enter Sakg.func493, Sakg.ntmps493
    go_wp2_with fail
    go_loopg [4] (7 * i) (fun gk tv wr => ∃ t : Nat, t + gk = 7 * i ∧ tv = .int .i64 t ∧ (∃ f, BT 535 wr w.heap.size 8 f ∧ Reg f t) ∧ Below w.heap.size w wr)
    case atStart => exact ⟨0, by omega, rfl, ⟨_, hr1, Reg.start⟩, hb1⟩
    case round =>
      obtain ⟨t, ht, rfl, ⟨f, hf, hg⟩, hbe⟩ := hrel
      have HG := hide hg
      clear hg
      clear hr1 hb1
      by_cases htl : t < 7 * i
      · have d2 : decide ((t : Int) < 7 * (i : Int)) = true := decide_eq_true (by omega)
        go_wp2_with fail
        refine (turn_x w.heap.size f wr hf).mono ?_
        rintro e w2 ⟨rfl, ⟨f2, hf2, hg2⟩, ho⟩
        have HG2 := hide ((unhide HG).turn hg2)
        clear hg2
        have hb2 : Below w.heap.size w w2 := hbe.trans (ho.below _ (Nat.le_refl _))
        go_wp2
        go_roundg (gk - 1)
        case measure => omega
        case rel => exact ⟨t + 1, by omega, rfl, ⟨f2, hf2, unhide HG2⟩, hb2⟩
      · obtain rfl : t = 7 * i := by omega
        go_wp2_with fail
        go_loopg [5, 6] 7 (fun gk cv jv wr => ∃ (j c : Nat), j + gk = 7 ∧ jv = .int .i64 j ∧ cv = .int .u64 (c : Int) ∧ c = cN i j ∧ (∃ f, BT 535 wr w.heap.size 8 f ∧ Reg f (7 * i + j)) ∧ Below w.heap.size w wr)
        case atStart => exact ⟨0, 0, by omega, rfl, rfl, rfl, ⟨_, hf, unhide HG⟩, hbe⟩
        case round =>
          obtain ⟨j, c, hj, rfl, rfl, hcN, ⟨f', hf', hg'⟩, hbe'⟩ := hrel
          have HG' := hide hg'
          have HCN := hide hcN
          clear hg' hcN
          clear hf hbe
          by_cases hjl : j < 7
          · have c0 := hf'.cell 0 (by omega)
            obtain ⟨b0, hb0⟩ : ∃ b0, f' 0 = b0 := ⟨_, rfl⟩
            rw [hb0] at c0
            have HB0 := hide hb0
            clear hb0
            cases b0 with
            | false =>
              go_wp2_with fail
              refine (turn_x w.heap.size f' wr hf').mono ?_
              rintro e w2 ⟨rfl, ⟨f2, hf2, hg2⟩, ho⟩
              have HG2 := hide ((unhide HG').turn hg2)
              clear hg2
              have hb2 : Below w.heap.size w w2 := hbe'.trans (ho.below _ (Nat.le_refl _))
              go_wp2
              go_roundg (gk - 1)
              case measure => omega
              case rel => exact ⟨j + 1, c, by omega, rfl, rfl, cN_no (unhide HCN) (unhide HG') (unhide HB0), ⟨f2, hf2, unhide HG2⟩, hb2⟩
            | true =>
              have hj7 : j = 0 ∨ j = 1 ∨ j = 2 ∨ j = 3 ∨ j = 4 ∨ j = 5 ∨ j = 6 := by omega
              rcases hj7 with rfl | rfl | rfl | rfl | rfl | rfl | rfl
              all_goals
               go_wp2_with fail
               refine (turn_x w.heap.size f' wr hf').mono ?_
               rintro e w2 ⟨rfl, ⟨f2, hf2, hg2⟩, ho⟩
               have HG2 := hide ((unhide HG').turn hg2)
               clear hg2
               have hb2 : Below w.heap.size w w2 := hbe'.trans (ho.below _ (Nat.le_refl _))
               go_wp2
               go_roundg (gk - 1)
               case measure => omega
               case rel =>
                refine ⟨_, c ||| _, ?_, rfl, ?_, cN_yes (unhide HCN) (unhide HG') (unhide HB0), ⟨f2, hf2, unhide HG2⟩, hb2⟩
                · first | (obtain rfl : gk = 7 := (by omega); rfl) | (obtain rfl : gk = 6 := (by omega); rfl) | (obtain rfl : gk = 5 := (by omega); rfl) | (obtain rfl : gk = 4 := (by omega); rfl) | (obtain rfl : gk = 3 := (by omega); rfl) | (obtain rfl : gk = 2 := (by omega); rfl) | (obtain rfl : gk = 1 := (by omega); rfl)
                · exact congrArg (Value.int .u64) (bits_or_u64_nat c _ (by rw [unhide HCN]; exact cN_lt i _ (by omega)) (by decide))
          · go_wp2
            go_ret
            obtain rfl : j = 7 := by omega
            exact ⟨by rw [unhide HCN]; rfl, hbe'⟩

/-- the walk of the offsets -/
def offF (x y : Nat) : Nat → Nat → Nat → Nat → Nat
  | 0, _, _, _ => 0
  | n + 1, t, u, v => if u = x ∧ v = y then (t + 1) * (t + 2) / 2 % 64 else offF x y n (t + 1) v ((2 * u + 3 * v) % 5)
def offN (x y : Nat) : Nat := offF x y 24 0 1 0
theorem offF_no {x y n t u v k : Nat} (h : offF x y (n + 1) t u v = k) (hn : ¬ (u = x ∧ v = y)) : offF x y n (t + 1) v ((2 * u + 3 * v) % 5) = k := by
  unfold offF at h
  rw [if_neg hn] at h
  exact h
theorem offF_yes {x y n t u v k : Nat} (h : offF x y (n + 1) t u v = k) (hn : u = x ∧ v = y) : (t + 1) * (t + 2) / 2 % 64 = k := by
  unfold offF at h
  rw [if_pos hn] at h
  exact h
set_option maxHeartbeats 4000000 in
theorem offset_x (x y : Nat) (w : World) (hx : x < 5) (hy : y < 5) : Calls Sakg.prog 491 #[.int .u8 x, .int .u8 y] w fun e w' => e = .returned (.int .u8 (offN x y : Int)) ∧ w = w' := by
  have d1 : decide ((5 : Int) ≤ (x : Int)) = false := decide_eq_false (by omega)
  have d2 : decide ((5 : Int) ≤ (y : Int)) = false := decide_eq_false (by omega)
  go_enter Sakg.func491, Sakg.ntmps491
  go_wp2_with fail
  go_loopg [5, 6, 7] 24 (fun gk uv vv tv wr => ∃ t u v : Nat, t + gk = 24 ∧ tv = .int .i64 t ∧ uv = .int .i64 u ∧ vv = .int .i64 v ∧ u < 5 ∧ v < 5 ∧ offF x y gk t u v = offN x y ∧ w = wr)
  case atStart => exact ⟨0, 1, 0, by omega, rfl, rfl, rfl, by omega, by omega, rfl, rfl⟩
  case round =>
    obtain ⟨t, u, v, ht, rfl, rfl, rfl, hu, hv, hof, rfl⟩ := hrel
    have HOF := hide hof
    clear hof
    by_cases htl : t < 24
    · obtain ⟨gk', rfl⟩ : ∃ gk', gk = gk' + 1 := ⟨gk - 1, by omega⟩
      obtain ⟨b1, hb1⟩ : ∃ b, ((u : Int) == (x : Int)) = b := ⟨_, rfl⟩
      obtain ⟨b2, hb2⟩ : ∃ b, ((v : Int) == (y : Int)) = b := ⟨_, rfl⟩
      cases b1 with
      | false =>
        go_wp2
        go_roundg gk'
        case measure => omega
        case rel => exact ⟨t + 1, v, (2 * u + 3 * v) % 5, by omega, rfl, rfl, congrArg (Value.int .i64) (by omega), hv, by omega, offF_no (unhide HOF) (fun h => by simp [h.1] at hb1), rfl⟩
      | true =>
        cases b2 with
        | false =>
          go_wp2
          go_roundg gk'
          case measure => omega
          case rel => exact ⟨t + 1, v, (2 * u + 3 * v) % 5, by omega, rfl, rfl, congrArg (Value.int .i64) (by omega), hv, by omega, offF_no (unhide HOF) (fun h => by simp [h.2] at hb2), rfl⟩
        | true =>
          have hoy := offF_yes (unhide HOF) ⟨by have h1 : (u : Int) = (x : Int) := (by simpa using hb1); omega, by have h1 : (v : Int) = (y : Int) := (by simpa using hb2); omega⟩
          have HOY := hide hoy
          clear hoy
          obtain ⟨q, hq⟩ : ∃ q : Nat, ((t : Int) + 1) * ((t : Int) + 2) = (q : Int) := ⟨(t + 1) * (t + 2), by simp⟩
          have hq2 : (t + 1) * (t + 2) = q := by
            have : (((t + 1) * (t + 2) : Nat) : Int) = (q : Int) := by rw [← hq]; simp
            omega
          have HQ2 := hide hq2
          clear hq2
          have hq0 : q ≤ 1000 := by
            have h1 : (t + 1) * (t + 2) ≤ 25 * 26 := Nat.mul_le_mul (by omega) (by omega)
            have h2 : ((t + 1) * (t + 2) : Nat) = q := by
              have : (((t + 1) * (t + 2) : Nat) : Int) = (q : Int) := by rw [← hq]; simp
              omega
            omega
          go_wp2
          go_ret
          exact ⟨congrArg (fun z => Ending.returned (Value.int .u8 z)) (by rw [← unhide HOY, unhide HQ2]; omega), rfl⟩
    · go_wp2
      go_ret
      obtain rfl : gk = 0 := by omega
      exact ⟨by rw [← unhide HOF]; rfl, rfl⟩

end Go.Proofs.YgcsakGreat
