/-
  op.Family, op.Imm, yp.arity at the instructions that SpecAlu's program comes to.
-/
import Derived.Test.YgcsakGreatAluD
namespace Go.Proofs.YgcsakGreat
set_option linter.unusedVariables false
set_option linter.unusedSimpArgs false
set_option maxRecDepth 100000
open Go.RowKit

def famN (o : Nat) : Nat := if o = 243 then 31 else if 82 ≤ o then 2 else 1
def takN (o : Nat) : Nat := if o = 8 ∨ o = 9 then 3 else if o = 21 ∨ o = 25 then 1 else if 95 ≤ o ∧ o ≤ 127 then 0 else 2
def givN (o : Nat) : Nat := if o = 82 ∨ o = 243 then 0 else 1
def immN (o : Nat) : Nat := if o = 96 then 1 else if o = 127 then 32 else 0
def opO (o : Nat) : Prop := aluO o ∨ o = 82 ∨ o = 95 ∨ o = 96 ∨ o = 127 ∨ o = 243

set_option maxHeartbeats 1000000 in
theorem family_1 (w : World) : Calls Sakg.prog 120 #[.int .u8 1] w fun e w' => e = .returned (.int .u8 1) ∧ w = w' := by
  go_enter Sakg.func120, Sakg.ntmps120
  go_wp2
  go_ret
  exact ⟨rfl, rfl⟩
set_option maxHeartbeats 1000000 in
theorem imm_1 (w : World) : Calls Sakg.prog 216 #[.int .u8 1] w fun e w' => e = .returned (.int .u8 0) ∧ w = w' := by
  go_enter Sakg.func216, Sakg.ntmps216
  go_wp2
  go_ret
  exact ⟨rfl, rfl⟩
set_option maxHeartbeats 2000000 in
theorem arity_1 (w : World) : Calls Sakg.prog 202 #[.int .u8 1] w fun e w' => e = .returned (.tuple #[.int .i64 2, .int .i64 1, .bool true]) ∧ w = w' := by
  have HF := hide (family_1 w)
  go_enter Sakg.func202, Sakg.ntmps202
  go_wp2_with (go_at_call 120; refine (unhide HF).mono ?_; rintro e w1 ⟨rfl, rfl⟩)
  go_ret3
  exact ⟨rfl, rfl⟩
set_option maxHeartbeats 1000000 in
theorem family_2 (w : World) : Calls Sakg.prog 120 #[.int .u8 2] w fun e w' => e = .returned (.int .u8 1) ∧ w = w' := by
  go_enter Sakg.func120, Sakg.ntmps120
  go_wp2
  go_ret
  exact ⟨rfl, rfl⟩
set_option maxHeartbeats 1000000 in
theorem imm_2 (w : World) : Calls Sakg.prog 216 #[.int .u8 2] w fun e w' => e = .returned (.int .u8 0) ∧ w = w' := by
  go_enter Sakg.func216, Sakg.ntmps216
  go_wp2
  go_ret
  exact ⟨rfl, rfl⟩
set_option maxHeartbeats 2000000 in
theorem arity_2 (w : World) : Calls Sakg.prog 202 #[.int .u8 2] w fun e w' => e = .returned (.tuple #[.int .i64 2, .int .i64 1, .bool true]) ∧ w = w' := by
  have HF := hide (family_2 w)
  go_enter Sakg.func202, Sakg.ntmps202
  go_wp2_with (go_at_call 120; refine (unhide HF).mono ?_; rintro e w1 ⟨rfl, rfl⟩)
  go_ret3
  exact ⟨rfl, rfl⟩
set_option maxHeartbeats 1000000 in
theorem family_3 (w : World) : Calls Sakg.prog 120 #[.int .u8 3] w fun e w' => e = .returned (.int .u8 1) ∧ w = w' := by
  go_enter Sakg.func120, Sakg.ntmps120
  go_wp2
  go_ret
  exact ⟨rfl, rfl⟩
set_option maxHeartbeats 1000000 in
theorem imm_3 (w : World) : Calls Sakg.prog 216 #[.int .u8 3] w fun e w' => e = .returned (.int .u8 0) ∧ w = w' := by
  go_enter Sakg.func216, Sakg.ntmps216
  go_wp2
  go_ret
  exact ⟨rfl, rfl⟩
set_option maxHeartbeats 2000000 in
theorem arity_3 (w : World) : Calls Sakg.prog 202 #[.int .u8 3] w fun e w' => e = .returned (.tuple #[.int .i64 2, .int .i64 1, .bool true]) ∧ w = w' := by
  have HF := hide (family_3 w)
  go_enter Sakg.func202, Sakg.ntmps202
  go_wp2_with (go_at_call 120; refine (unhide HF).mono ?_; rintro e w1 ⟨rfl, rfl⟩)
  go_ret3
  exact ⟨rfl, rfl⟩
set_option maxHeartbeats 1000000 in
theorem family_4 (w : World) : Calls Sakg.prog 120 #[.int .u8 4] w fun e w' => e = .returned (.int .u8 1) ∧ w = w' := by
  go_enter Sakg.func120, Sakg.ntmps120
  go_wp2
  go_ret
  exact ⟨rfl, rfl⟩
set_option maxHeartbeats 1000000 in
theorem imm_4 (w : World) : Calls Sakg.prog 216 #[.int .u8 4] w fun e w' => e = .returned (.int .u8 0) ∧ w = w' := by
  go_enter Sakg.func216, Sakg.ntmps216
  go_wp2
  go_ret
  exact ⟨rfl, rfl⟩
set_option maxHeartbeats 2000000 in
theorem arity_4 (w : World) : Calls Sakg.prog 202 #[.int .u8 4] w fun e w' => e = .returned (.tuple #[.int .i64 2, .int .i64 1, .bool true]) ∧ w = w' := by
  have HF := hide (family_4 w)
  go_enter Sakg.func202, Sakg.ntmps202
  go_wp2_with (go_at_call 120; refine (unhide HF).mono ?_; rintro e w1 ⟨rfl, rfl⟩)
  go_ret3
  exact ⟨rfl, rfl⟩
set_option maxHeartbeats 1000000 in
theorem family_5 (w : World) : Calls Sakg.prog 120 #[.int .u8 5] w fun e w' => e = .returned (.int .u8 1) ∧ w = w' := by
  go_enter Sakg.func120, Sakg.ntmps120
  go_wp2
  go_ret
  exact ⟨rfl, rfl⟩
set_option maxHeartbeats 1000000 in
theorem imm_5 (w : World) : Calls Sakg.prog 216 #[.int .u8 5] w fun e w' => e = .returned (.int .u8 0) ∧ w = w' := by
  go_enter Sakg.func216, Sakg.ntmps216
  go_wp2
  go_ret
  exact ⟨rfl, rfl⟩
set_option maxHeartbeats 2000000 in
theorem arity_5 (w : World) : Calls Sakg.prog 202 #[.int .u8 5] w fun e w' => e = .returned (.tuple #[.int .i64 2, .int .i64 1, .bool true]) ∧ w = w' := by
  have HF := hide (family_5 w)
  go_enter Sakg.func202, Sakg.ntmps202
  go_wp2_with (go_at_call 120; refine (unhide HF).mono ?_; rintro e w1 ⟨rfl, rfl⟩)
  go_ret3
  exact ⟨rfl, rfl⟩
set_option maxHeartbeats 1000000 in
theorem family_6 (w : World) : Calls Sakg.prog 120 #[.int .u8 6] w fun e w' => e = .returned (.int .u8 1) ∧ w = w' := by
  go_enter Sakg.func120, Sakg.ntmps120
  go_wp2
  go_ret
  exact ⟨rfl, rfl⟩
set_option maxHeartbeats 1000000 in
theorem imm_6 (w : World) : Calls Sakg.prog 216 #[.int .u8 6] w fun e w' => e = .returned (.int .u8 0) ∧ w = w' := by
  go_enter Sakg.func216, Sakg.ntmps216
  go_wp2
  go_ret
  exact ⟨rfl, rfl⟩
set_option maxHeartbeats 2000000 in
theorem arity_6 (w : World) : Calls Sakg.prog 202 #[.int .u8 6] w fun e w' => e = .returned (.tuple #[.int .i64 2, .int .i64 1, .bool true]) ∧ w = w' := by
  have HF := hide (family_6 w)
  go_enter Sakg.func202, Sakg.ntmps202
  go_wp2_with (go_at_call 120; refine (unhide HF).mono ?_; rintro e w1 ⟨rfl, rfl⟩)
  go_ret3
  exact ⟨rfl, rfl⟩
set_option maxHeartbeats 1000000 in
theorem family_7 (w : World) : Calls Sakg.prog 120 #[.int .u8 7] w fun e w' => e = .returned (.int .u8 1) ∧ w = w' := by
  go_enter Sakg.func120, Sakg.ntmps120
  go_wp2
  go_ret
  exact ⟨rfl, rfl⟩
set_option maxHeartbeats 1000000 in
theorem imm_7 (w : World) : Calls Sakg.prog 216 #[.int .u8 7] w fun e w' => e = .returned (.int .u8 0) ∧ w = w' := by
  go_enter Sakg.func216, Sakg.ntmps216
  go_wp2
  go_ret
  exact ⟨rfl, rfl⟩
set_option maxHeartbeats 2000000 in
theorem arity_7 (w : World) : Calls Sakg.prog 202 #[.int .u8 7] w fun e w' => e = .returned (.tuple #[.int .i64 2, .int .i64 1, .bool true]) ∧ w = w' := by
  have HF := hide (family_7 w)
  go_enter Sakg.func202, Sakg.ntmps202
  go_wp2_with (go_at_call 120; refine (unhide HF).mono ?_; rintro e w1 ⟨rfl, rfl⟩)
  go_ret3
  exact ⟨rfl, rfl⟩
set_option maxHeartbeats 1000000 in
theorem family_8 (w : World) : Calls Sakg.prog 120 #[.int .u8 8] w fun e w' => e = .returned (.int .u8 1) ∧ w = w' := by
  go_enter Sakg.func120, Sakg.ntmps120
  go_wp2
  go_ret
  exact ⟨rfl, rfl⟩
set_option maxHeartbeats 1000000 in
theorem imm_8 (w : World) : Calls Sakg.prog 216 #[.int .u8 8] w fun e w' => e = .returned (.int .u8 0) ∧ w = w' := by
  go_enter Sakg.func216, Sakg.ntmps216
  go_wp2
  go_ret
  exact ⟨rfl, rfl⟩
set_option maxHeartbeats 2000000 in
theorem arity_8 (w : World) : Calls Sakg.prog 202 #[.int .u8 8] w fun e w' => e = .returned (.tuple #[.int .i64 3, .int .i64 1, .bool true]) ∧ w = w' := by
  have HF := hide (family_8 w)
  go_enter Sakg.func202, Sakg.ntmps202
  go_wp2_with (go_at_call 120; refine (unhide HF).mono ?_; rintro e w1 ⟨rfl, rfl⟩)
  go_ret3
  exact ⟨rfl, rfl⟩
set_option maxHeartbeats 1000000 in
theorem family_9 (w : World) : Calls Sakg.prog 120 #[.int .u8 9] w fun e w' => e = .returned (.int .u8 1) ∧ w = w' := by
  go_enter Sakg.func120, Sakg.ntmps120
  go_wp2
  go_ret
  exact ⟨rfl, rfl⟩
set_option maxHeartbeats 1000000 in
theorem imm_9 (w : World) : Calls Sakg.prog 216 #[.int .u8 9] w fun e w' => e = .returned (.int .u8 0) ∧ w = w' := by
  go_enter Sakg.func216, Sakg.ntmps216
  go_wp2
  go_ret
  exact ⟨rfl, rfl⟩
set_option maxHeartbeats 2000000 in
theorem arity_9 (w : World) : Calls Sakg.prog 202 #[.int .u8 9] w fun e w' => e = .returned (.tuple #[.int .i64 3, .int .i64 1, .bool true]) ∧ w = w' := by
  have HF := hide (family_9 w)
  go_enter Sakg.func202, Sakg.ntmps202
  go_wp2_with (go_at_call 120; refine (unhide HF).mono ?_; rintro e w1 ⟨rfl, rfl⟩)
  go_ret3
  exact ⟨rfl, rfl⟩
set_option maxHeartbeats 1000000 in
theorem family_10 (w : World) : Calls Sakg.prog 120 #[.int .u8 10] w fun e w' => e = .returned (.int .u8 1) ∧ w = w' := by
  go_enter Sakg.func120, Sakg.ntmps120
  go_wp2
  go_ret
  exact ⟨rfl, rfl⟩
set_option maxHeartbeats 1000000 in
theorem imm_10 (w : World) : Calls Sakg.prog 216 #[.int .u8 10] w fun e w' => e = .returned (.int .u8 0) ∧ w = w' := by
  go_enter Sakg.func216, Sakg.ntmps216
  go_wp2
  go_ret
  exact ⟨rfl, rfl⟩
set_option maxHeartbeats 2000000 in
theorem arity_10 (w : World) : Calls Sakg.prog 202 #[.int .u8 10] w fun e w' => e = .returned (.tuple #[.int .i64 2, .int .i64 1, .bool true]) ∧ w = w' := by
  have HF := hide (family_10 w)
  go_enter Sakg.func202, Sakg.ntmps202
  go_wp2_with (go_at_call 120; refine (unhide HF).mono ?_; rintro e w1 ⟨rfl, rfl⟩)
  go_ret3
  exact ⟨rfl, rfl⟩
set_option maxHeartbeats 1000000 in
theorem family_11 (w : World) : Calls Sakg.prog 120 #[.int .u8 11] w fun e w' => e = .returned (.int .u8 1) ∧ w = w' := by
  go_enter Sakg.func120, Sakg.ntmps120
  go_wp2
  go_ret
  exact ⟨rfl, rfl⟩
set_option maxHeartbeats 1000000 in
theorem imm_11 (w : World) : Calls Sakg.prog 216 #[.int .u8 11] w fun e w' => e = .returned (.int .u8 0) ∧ w = w' := by
  go_enter Sakg.func216, Sakg.ntmps216
  go_wp2
  go_ret
  exact ⟨rfl, rfl⟩
set_option maxHeartbeats 2000000 in
theorem arity_11 (w : World) : Calls Sakg.prog 202 #[.int .u8 11] w fun e w' => e = .returned (.tuple #[.int .i64 2, .int .i64 1, .bool true]) ∧ w = w' := by
  have HF := hide (family_11 w)
  go_enter Sakg.func202, Sakg.ntmps202
  go_wp2_with (go_at_call 120; refine (unhide HF).mono ?_; rintro e w1 ⟨rfl, rfl⟩)
  go_ret3
  exact ⟨rfl, rfl⟩
set_option maxHeartbeats 1000000 in
theorem family_16 (w : World) : Calls Sakg.prog 120 #[.int .u8 16] w fun e w' => e = .returned (.int .u8 1) ∧ w = w' := by
  go_enter Sakg.func120, Sakg.ntmps120
  go_wp2
  go_ret
  exact ⟨rfl, rfl⟩
set_option maxHeartbeats 1000000 in
theorem imm_16 (w : World) : Calls Sakg.prog 216 #[.int .u8 16] w fun e w' => e = .returned (.int .u8 0) ∧ w = w' := by
  go_enter Sakg.func216, Sakg.ntmps216
  go_wp2
  go_ret
  exact ⟨rfl, rfl⟩
set_option maxHeartbeats 2000000 in
theorem arity_16 (w : World) : Calls Sakg.prog 202 #[.int .u8 16] w fun e w' => e = .returned (.tuple #[.int .i64 2, .int .i64 1, .bool true]) ∧ w = w' := by
  have HF := hide (family_16 w)
  go_enter Sakg.func202, Sakg.ntmps202
  go_wp2_with (go_at_call 120; refine (unhide HF).mono ?_; rintro e w1 ⟨rfl, rfl⟩)
  go_ret3
  exact ⟨rfl, rfl⟩
set_option maxHeartbeats 1000000 in
theorem family_17 (w : World) : Calls Sakg.prog 120 #[.int .u8 17] w fun e w' => e = .returned (.int .u8 1) ∧ w = w' := by
  go_enter Sakg.func120, Sakg.ntmps120
  go_wp2
  go_ret
  exact ⟨rfl, rfl⟩
set_option maxHeartbeats 1000000 in
theorem imm_17 (w : World) : Calls Sakg.prog 216 #[.int .u8 17] w fun e w' => e = .returned (.int .u8 0) ∧ w = w' := by
  go_enter Sakg.func216, Sakg.ntmps216
  go_wp2
  go_ret
  exact ⟨rfl, rfl⟩
set_option maxHeartbeats 2000000 in
theorem arity_17 (w : World) : Calls Sakg.prog 202 #[.int .u8 17] w fun e w' => e = .returned (.tuple #[.int .i64 2, .int .i64 1, .bool true]) ∧ w = w' := by
  have HF := hide (family_17 w)
  go_enter Sakg.func202, Sakg.ntmps202
  go_wp2_with (go_at_call 120; refine (unhide HF).mono ?_; rintro e w1 ⟨rfl, rfl⟩)
  go_ret3
  exact ⟨rfl, rfl⟩
set_option maxHeartbeats 1000000 in
theorem family_18 (w : World) : Calls Sakg.prog 120 #[.int .u8 18] w fun e w' => e = .returned (.int .u8 1) ∧ w = w' := by
  go_enter Sakg.func120, Sakg.ntmps120
  go_wp2
  go_ret
  exact ⟨rfl, rfl⟩
set_option maxHeartbeats 1000000 in
theorem imm_18 (w : World) : Calls Sakg.prog 216 #[.int .u8 18] w fun e w' => e = .returned (.int .u8 0) ∧ w = w' := by
  go_enter Sakg.func216, Sakg.ntmps216
  go_wp2
  go_ret
  exact ⟨rfl, rfl⟩
set_option maxHeartbeats 2000000 in
theorem arity_18 (w : World) : Calls Sakg.prog 202 #[.int .u8 18] w fun e w' => e = .returned (.tuple #[.int .i64 2, .int .i64 1, .bool true]) ∧ w = w' := by
  have HF := hide (family_18 w)
  go_enter Sakg.func202, Sakg.ntmps202
  go_wp2_with (go_at_call 120; refine (unhide HF).mono ?_; rintro e w1 ⟨rfl, rfl⟩)
  go_ret3
  exact ⟨rfl, rfl⟩
set_option maxHeartbeats 1000000 in
theorem family_19 (w : World) : Calls Sakg.prog 120 #[.int .u8 19] w fun e w' => e = .returned (.int .u8 1) ∧ w = w' := by
  go_enter Sakg.func120, Sakg.ntmps120
  go_wp2
  go_ret
  exact ⟨rfl, rfl⟩
set_option maxHeartbeats 1000000 in
theorem imm_19 (w : World) : Calls Sakg.prog 216 #[.int .u8 19] w fun e w' => e = .returned (.int .u8 0) ∧ w = w' := by
  go_enter Sakg.func216, Sakg.ntmps216
  go_wp2
  go_ret
  exact ⟨rfl, rfl⟩
set_option maxHeartbeats 2000000 in
theorem arity_19 (w : World) : Calls Sakg.prog 202 #[.int .u8 19] w fun e w' => e = .returned (.tuple #[.int .i64 2, .int .i64 1, .bool true]) ∧ w = w' := by
  have HF := hide (family_19 w)
  go_enter Sakg.func202, Sakg.ntmps202
  go_wp2_with (go_at_call 120; refine (unhide HF).mono ?_; rintro e w1 ⟨rfl, rfl⟩)
  go_ret3
  exact ⟨rfl, rfl⟩
set_option maxHeartbeats 1000000 in
theorem family_20 (w : World) : Calls Sakg.prog 120 #[.int .u8 20] w fun e w' => e = .returned (.int .u8 1) ∧ w = w' := by
  go_enter Sakg.func120, Sakg.ntmps120
  go_wp2
  go_ret
  exact ⟨rfl, rfl⟩
set_option maxHeartbeats 1000000 in
theorem imm_20 (w : World) : Calls Sakg.prog 216 #[.int .u8 20] w fun e w' => e = .returned (.int .u8 0) ∧ w = w' := by
  go_enter Sakg.func216, Sakg.ntmps216
  go_wp2
  go_ret
  exact ⟨rfl, rfl⟩
set_option maxHeartbeats 2000000 in
theorem arity_20 (w : World) : Calls Sakg.prog 202 #[.int .u8 20] w fun e w' => e = .returned (.tuple #[.int .i64 2, .int .i64 1, .bool true]) ∧ w = w' := by
  have HF := hide (family_20 w)
  go_enter Sakg.func202, Sakg.ntmps202
  go_wp2_with (go_at_call 120; refine (unhide HF).mono ?_; rintro e w1 ⟨rfl, rfl⟩)
  go_ret3
  exact ⟨rfl, rfl⟩
set_option maxHeartbeats 1000000 in
theorem family_21 (w : World) : Calls Sakg.prog 120 #[.int .u8 21] w fun e w' => e = .returned (.int .u8 1) ∧ w = w' := by
  go_enter Sakg.func120, Sakg.ntmps120
  go_wp2
  go_ret
  exact ⟨rfl, rfl⟩
set_option maxHeartbeats 1000000 in
theorem imm_21 (w : World) : Calls Sakg.prog 216 #[.int .u8 21] w fun e w' => e = .returned (.int .u8 0) ∧ w = w' := by
  go_enter Sakg.func216, Sakg.ntmps216
  go_wp2
  go_ret
  exact ⟨rfl, rfl⟩
set_option maxHeartbeats 2000000 in
theorem arity_21 (w : World) : Calls Sakg.prog 202 #[.int .u8 21] w fun e w' => e = .returned (.tuple #[.int .i64 1, .int .i64 1, .bool true]) ∧ w = w' := by
  have HF := hide (family_21 w)
  go_enter Sakg.func202, Sakg.ntmps202
  go_wp2_with (go_at_call 120; refine (unhide HF).mono ?_; rintro e w1 ⟨rfl, rfl⟩)
  go_ret3
  exact ⟨rfl, rfl⟩
set_option maxHeartbeats 1000000 in
theorem family_22 (w : World) : Calls Sakg.prog 120 #[.int .u8 22] w fun e w' => e = .returned (.int .u8 1) ∧ w = w' := by
  go_enter Sakg.func120, Sakg.ntmps120
  go_wp2
  go_ret
  exact ⟨rfl, rfl⟩
set_option maxHeartbeats 1000000 in
theorem imm_22 (w : World) : Calls Sakg.prog 216 #[.int .u8 22] w fun e w' => e = .returned (.int .u8 0) ∧ w = w' := by
  go_enter Sakg.func216, Sakg.ntmps216
  go_wp2
  go_ret
  exact ⟨rfl, rfl⟩
set_option maxHeartbeats 2000000 in
theorem arity_22 (w : World) : Calls Sakg.prog 202 #[.int .u8 22] w fun e w' => e = .returned (.tuple #[.int .i64 2, .int .i64 1, .bool true]) ∧ w = w' := by
  have HF := hide (family_22 w)
  go_enter Sakg.func202, Sakg.ntmps202
  go_wp2_with (go_at_call 120; refine (unhide HF).mono ?_; rintro e w1 ⟨rfl, rfl⟩)
  go_ret3
  exact ⟨rfl, rfl⟩
set_option maxHeartbeats 1000000 in
theorem family_23 (w : World) : Calls Sakg.prog 120 #[.int .u8 23] w fun e w' => e = .returned (.int .u8 1) ∧ w = w' := by
  go_enter Sakg.func120, Sakg.ntmps120
  go_wp2
  go_ret
  exact ⟨rfl, rfl⟩
set_option maxHeartbeats 1000000 in
theorem imm_23 (w : World) : Calls Sakg.prog 216 #[.int .u8 23] w fun e w' => e = .returned (.int .u8 0) ∧ w = w' := by
  go_enter Sakg.func216, Sakg.ntmps216
  go_wp2
  go_ret
  exact ⟨rfl, rfl⟩
set_option maxHeartbeats 2000000 in
theorem arity_23 (w : World) : Calls Sakg.prog 202 #[.int .u8 23] w fun e w' => e = .returned (.tuple #[.int .i64 2, .int .i64 1, .bool true]) ∧ w = w' := by
  have HF := hide (family_23 w)
  go_enter Sakg.func202, Sakg.ntmps202
  go_wp2_with (go_at_call 120; refine (unhide HF).mono ?_; rintro e w1 ⟨rfl, rfl⟩)
  go_ret3
  exact ⟨rfl, rfl⟩
set_option maxHeartbeats 1000000 in
theorem family_24 (w : World) : Calls Sakg.prog 120 #[.int .u8 24] w fun e w' => e = .returned (.int .u8 1) ∧ w = w' := by
  go_enter Sakg.func120, Sakg.ntmps120
  go_wp2
  go_ret
  exact ⟨rfl, rfl⟩
set_option maxHeartbeats 1000000 in
theorem imm_24 (w : World) : Calls Sakg.prog 216 #[.int .u8 24] w fun e w' => e = .returned (.int .u8 0) ∧ w = w' := by
  go_enter Sakg.func216, Sakg.ntmps216
  go_wp2
  go_ret
  exact ⟨rfl, rfl⟩
set_option maxHeartbeats 2000000 in
theorem arity_24 (w : World) : Calls Sakg.prog 202 #[.int .u8 24] w fun e w' => e = .returned (.tuple #[.int .i64 2, .int .i64 1, .bool true]) ∧ w = w' := by
  have HF := hide (family_24 w)
  go_enter Sakg.func202, Sakg.ntmps202
  go_wp2_with (go_at_call 120; refine (unhide HF).mono ?_; rintro e w1 ⟨rfl, rfl⟩)
  go_ret3
  exact ⟨rfl, rfl⟩
set_option maxHeartbeats 1000000 in
theorem family_25 (w : World) : Calls Sakg.prog 120 #[.int .u8 25] w fun e w' => e = .returned (.int .u8 1) ∧ w = w' := by
  go_enter Sakg.func120, Sakg.ntmps120
  go_wp2
  go_ret
  exact ⟨rfl, rfl⟩
set_option maxHeartbeats 1000000 in
theorem imm_25 (w : World) : Calls Sakg.prog 216 #[.int .u8 25] w fun e w' => e = .returned (.int .u8 0) ∧ w = w' := by
  go_enter Sakg.func216, Sakg.ntmps216
  go_wp2
  go_ret
  exact ⟨rfl, rfl⟩
set_option maxHeartbeats 2000000 in
theorem arity_25 (w : World) : Calls Sakg.prog 202 #[.int .u8 25] w fun e w' => e = .returned (.tuple #[.int .i64 1, .int .i64 1, .bool true]) ∧ w = w' := by
  have HF := hide (family_25 w)
  go_enter Sakg.func202, Sakg.ntmps202
  go_wp2_with (go_at_call 120; refine (unhide HF).mono ?_; rintro e w1 ⟨rfl, rfl⟩)
  go_ret3
  exact ⟨rfl, rfl⟩
set_option maxHeartbeats 1000000 in
theorem family_26 (w : World) : Calls Sakg.prog 120 #[.int .u8 26] w fun e w' => e = .returned (.int .u8 1) ∧ w = w' := by
  go_enter Sakg.func120, Sakg.ntmps120
  go_wp2
  go_ret
  exact ⟨rfl, rfl⟩
set_option maxHeartbeats 1000000 in
theorem imm_26 (w : World) : Calls Sakg.prog 216 #[.int .u8 26] w fun e w' => e = .returned (.int .u8 0) ∧ w = w' := by
  go_enter Sakg.func216, Sakg.ntmps216
  go_wp2
  go_ret
  exact ⟨rfl, rfl⟩
set_option maxHeartbeats 2000000 in
theorem arity_26 (w : World) : Calls Sakg.prog 202 #[.int .u8 26] w fun e w' => e = .returned (.tuple #[.int .i64 2, .int .i64 1, .bool true]) ∧ w = w' := by
  have HF := hide (family_26 w)
  go_enter Sakg.func202, Sakg.ntmps202
  go_wp2_with (go_at_call 120; refine (unhide HF).mono ?_; rintro e w1 ⟨rfl, rfl⟩)
  go_ret3
  exact ⟨rfl, rfl⟩
set_option maxHeartbeats 1000000 in
theorem family_27 (w : World) : Calls Sakg.prog 120 #[.int .u8 27] w fun e w' => e = .returned (.int .u8 1) ∧ w = w' := by
  go_enter Sakg.func120, Sakg.ntmps120
  go_wp2
  go_ret
  exact ⟨rfl, rfl⟩
set_option maxHeartbeats 1000000 in
theorem imm_27 (w : World) : Calls Sakg.prog 216 #[.int .u8 27] w fun e w' => e = .returned (.int .u8 0) ∧ w = w' := by
  go_enter Sakg.func216, Sakg.ntmps216
  go_wp2
  go_ret
  exact ⟨rfl, rfl⟩
set_option maxHeartbeats 2000000 in
theorem arity_27 (w : World) : Calls Sakg.prog 202 #[.int .u8 27] w fun e w' => e = .returned (.tuple #[.int .i64 2, .int .i64 1, .bool true]) ∧ w = w' := by
  have HF := hide (family_27 w)
  go_enter Sakg.func202, Sakg.ntmps202
  go_wp2_with (go_at_call 120; refine (unhide HF).mono ?_; rintro e w1 ⟨rfl, rfl⟩)
  go_ret3
  exact ⟨rfl, rfl⟩
set_option maxHeartbeats 1000000 in
theorem family_28 (w : World) : Calls Sakg.prog 120 #[.int .u8 28] w fun e w' => e = .returned (.int .u8 1) ∧ w = w' := by
  go_enter Sakg.func120, Sakg.ntmps120
  go_wp2
  go_ret
  exact ⟨rfl, rfl⟩
set_option maxHeartbeats 1000000 in
theorem imm_28 (w : World) : Calls Sakg.prog 216 #[.int .u8 28] w fun e w' => e = .returned (.int .u8 0) ∧ w = w' := by
  go_enter Sakg.func216, Sakg.ntmps216
  go_wp2
  go_ret
  exact ⟨rfl, rfl⟩
set_option maxHeartbeats 2000000 in
theorem arity_28 (w : World) : Calls Sakg.prog 202 #[.int .u8 28] w fun e w' => e = .returned (.tuple #[.int .i64 2, .int .i64 1, .bool true]) ∧ w = w' := by
  have HF := hide (family_28 w)
  go_enter Sakg.func202, Sakg.ntmps202
  go_wp2_with (go_at_call 120; refine (unhide HF).mono ?_; rintro e w1 ⟨rfl, rfl⟩)
  go_ret3
  exact ⟨rfl, rfl⟩
set_option maxHeartbeats 1000000 in
theorem family_29 (w : World) : Calls Sakg.prog 120 #[.int .u8 29] w fun e w' => e = .returned (.int .u8 1) ∧ w = w' := by
  go_enter Sakg.func120, Sakg.ntmps120
  go_wp2
  go_ret
  exact ⟨rfl, rfl⟩
set_option maxHeartbeats 1000000 in
theorem imm_29 (w : World) : Calls Sakg.prog 216 #[.int .u8 29] w fun e w' => e = .returned (.int .u8 0) ∧ w = w' := by
  go_enter Sakg.func216, Sakg.ntmps216
  go_wp2
  go_ret
  exact ⟨rfl, rfl⟩
set_option maxHeartbeats 2000000 in
theorem arity_29 (w : World) : Calls Sakg.prog 202 #[.int .u8 29] w fun e w' => e = .returned (.tuple #[.int .i64 2, .int .i64 1, .bool true]) ∧ w = w' := by
  have HF := hide (family_29 w)
  go_enter Sakg.func202, Sakg.ntmps202
  go_wp2_with (go_at_call 120; refine (unhide HF).mono ?_; rintro e w1 ⟨rfl, rfl⟩)
  go_ret3
  exact ⟨rfl, rfl⟩
set_option maxHeartbeats 1000000 in
theorem family_82 (w : World) : Calls Sakg.prog 120 #[.int .u8 82] w fun e w' => e = .returned (.int .u8 2) ∧ w = w' := by
  go_enter Sakg.func120, Sakg.ntmps120
  go_wp2
  go_ret
  exact ⟨rfl, rfl⟩
set_option maxHeartbeats 1000000 in
theorem imm_82 (w : World) : Calls Sakg.prog 216 #[.int .u8 82] w fun e w' => e = .returned (.int .u8 0) ∧ w = w' := by
  go_enter Sakg.func216, Sakg.ntmps216
  go_wp2
  go_ret
  exact ⟨rfl, rfl⟩
set_option maxHeartbeats 2000000 in
theorem arity_82 (w : World) : Calls Sakg.prog 202 #[.int .u8 82] w fun e w' => e = .returned (.tuple #[.int .i64 2, .int .i64 0, .bool true]) ∧ w = w' := by
  have HF := hide (family_82 w)
  go_enter Sakg.func202, Sakg.ntmps202
  go_wp2_with (go_at_call 120; refine (unhide HF).mono ?_; rintro e w1 ⟨rfl, rfl⟩)
  go_ret3
  exact ⟨rfl, rfl⟩
set_option maxHeartbeats 1000000 in
theorem family_95 (w : World) : Calls Sakg.prog 120 #[.int .u8 95] w fun e w' => e = .returned (.int .u8 2) ∧ w = w' := by
  go_enter Sakg.func120, Sakg.ntmps120
  go_wp2
  go_ret
  exact ⟨rfl, rfl⟩
set_option maxHeartbeats 1000000 in
theorem imm_95 (w : World) : Calls Sakg.prog 216 #[.int .u8 95] w fun e w' => e = .returned (.int .u8 0) ∧ w = w' := by
  go_enter Sakg.func216, Sakg.ntmps216
  go_wp2
  go_ret
  exact ⟨rfl, rfl⟩
set_option maxHeartbeats 2000000 in
theorem arity_95 (w : World) : Calls Sakg.prog 202 #[.int .u8 95] w fun e w' => e = .returned (.tuple #[.int .i64 0, .int .i64 1, .bool true]) ∧ w = w' := by
  have HF := hide (family_95 w)
  go_enter Sakg.func202, Sakg.ntmps202
  go_wp2_with (go_at_call 120; refine (unhide HF).mono ?_; rintro e w1 ⟨rfl, rfl⟩)
  go_ret3
  exact ⟨rfl, rfl⟩
set_option maxHeartbeats 1000000 in
theorem family_96 (w : World) : Calls Sakg.prog 120 #[.int .u8 96] w fun e w' => e = .returned (.int .u8 2) ∧ w = w' := by
  go_enter Sakg.func120, Sakg.ntmps120
  go_wp2
  go_ret
  exact ⟨rfl, rfl⟩
set_option maxHeartbeats 1000000 in
theorem imm_96 (w : World) : Calls Sakg.prog 216 #[.int .u8 96] w fun e w' => e = .returned (.int .u8 1) ∧ w = w' := by
  go_enter Sakg.func216, Sakg.ntmps216
  go_wp2
  go_ret
  exact ⟨rfl, rfl⟩
set_option maxHeartbeats 2000000 in
theorem arity_96 (w : World) : Calls Sakg.prog 202 #[.int .u8 96] w fun e w' => e = .returned (.tuple #[.int .i64 0, .int .i64 1, .bool true]) ∧ w = w' := by
  have HF := hide (family_96 w)
  go_enter Sakg.func202, Sakg.ntmps202
  go_wp2_with (go_at_call 120; refine (unhide HF).mono ?_; rintro e w1 ⟨rfl, rfl⟩)
  go_ret3
  exact ⟨rfl, rfl⟩
set_option maxHeartbeats 1000000 in
theorem family_127 (w : World) : Calls Sakg.prog 120 #[.int .u8 127] w fun e w' => e = .returned (.int .u8 2) ∧ w = w' := by
  go_enter Sakg.func120, Sakg.ntmps120
  go_wp2
  go_ret
  exact ⟨rfl, rfl⟩
set_option maxHeartbeats 1000000 in
theorem imm_127 (w : World) : Calls Sakg.prog 216 #[.int .u8 127] w fun e w' => e = .returned (.int .u8 32) ∧ w = w' := by
  go_enter Sakg.func216, Sakg.ntmps216
  go_wp2
  go_ret
  exact ⟨rfl, rfl⟩
set_option maxHeartbeats 2000000 in
theorem arity_127 (w : World) : Calls Sakg.prog 202 #[.int .u8 127] w fun e w' => e = .returned (.tuple #[.int .i64 0, .int .i64 1, .bool true]) ∧ w = w' := by
  have HF := hide (family_127 w)
  go_enter Sakg.func202, Sakg.ntmps202
  go_wp2_with (go_at_call 120; refine (unhide HF).mono ?_; rintro e w1 ⟨rfl, rfl⟩)
  go_ret3
  exact ⟨rfl, rfl⟩
set_option maxHeartbeats 1000000 in
theorem family_243 (w : World) : Calls Sakg.prog 120 #[.int .u8 243] w fun e w' => e = .returned (.int .u8 31) ∧ w = w' := by
  go_enter Sakg.func120, Sakg.ntmps120
  go_wp2
  go_ret
  exact ⟨rfl, rfl⟩
set_option maxHeartbeats 1000000 in
theorem imm_243 (w : World) : Calls Sakg.prog 216 #[.int .u8 243] w fun e w' => e = .returned (.int .u8 0) ∧ w = w' := by
  go_enter Sakg.func216, Sakg.ntmps216
  go_wp2
  go_ret
  exact ⟨rfl, rfl⟩
set_option maxHeartbeats 2000000 in
theorem arity_243 (w : World) : Calls Sakg.prog 202 #[.int .u8 243] w fun e w' => e = .returned (.tuple #[.int .i64 2, .int .i64 0, .bool true]) ∧ w = w' := by
  have HF := hide (family_243 w)
  go_enter Sakg.func202, Sakg.ntmps202
  go_wp2_with (go_at_call 120; refine (unhide HF).mono ?_; rintro e w1 ⟨rfl, rfl⟩)
  go_ret3
  exact ⟨rfl, rfl⟩
theorem family_op (o : Nat) (h : opO o) (w : World) : Calls Sakg.prog 120 #[.int .u8 o] w fun e w' => e = .returned (.int .u8 (famN o)) ∧ w = w' := by
  unfold opO aluO at h
  obtain rfl | rfl | rfl | rfl | rfl | rfl | rfl | rfl | rfl | rfl | rfl | rfl | rfl | rfl | rfl | rfl | rfl | rfl | rfl | rfl | rfl | rfl | rfl | rfl | rfl | rfl | rfl | rfl | rfl | rfl := (by omega : o = 1 ∨ o = 2 ∨ o = 3 ∨ o = 4 ∨ o = 5 ∨ o = 6 ∨ o = 7 ∨ o = 8 ∨ o = 9 ∨ o = 10 ∨ o = 11 ∨ o = 16 ∨ o = 17 ∨ o = 18 ∨ o = 19 ∨ o = 20 ∨ o = 21 ∨ o = 22 ∨ o = 23 ∨ o = 24 ∨ o = 25 ∨ o = 26 ∨ o = 27 ∨ o = 28 ∨ o = 29 ∨ o = 82 ∨ o = 95 ∨ o = 96 ∨ o = 127 ∨ o = 243)
  · exact family_1 w
  · exact family_2 w
  · exact family_3 w
  · exact family_4 w
  · exact family_5 w
  · exact family_6 w
  · exact family_7 w
  · exact family_8 w
  · exact family_9 w
  · exact family_10 w
  · exact family_11 w
  · exact family_16 w
  · exact family_17 w
  · exact family_18 w
  · exact family_19 w
  · exact family_20 w
  · exact family_21 w
  · exact family_22 w
  · exact family_23 w
  · exact family_24 w
  · exact family_25 w
  · exact family_26 w
  · exact family_27 w
  · exact family_28 w
  · exact family_29 w
  · exact family_82 w
  · exact family_95 w
  · exact family_96 w
  · exact family_127 w
  · exact family_243 w
theorem imm_op (o : Nat) (h : opO o) (w : World) : Calls Sakg.prog 216 #[.int .u8 o] w fun e w' => e = .returned (.int .u8 (immN o)) ∧ w = w' := by
  unfold opO aluO at h
  obtain rfl | rfl | rfl | rfl | rfl | rfl | rfl | rfl | rfl | rfl | rfl | rfl | rfl | rfl | rfl | rfl | rfl | rfl | rfl | rfl | rfl | rfl | rfl | rfl | rfl | rfl | rfl | rfl | rfl | rfl := (by omega : o = 1 ∨ o = 2 ∨ o = 3 ∨ o = 4 ∨ o = 5 ∨ o = 6 ∨ o = 7 ∨ o = 8 ∨ o = 9 ∨ o = 10 ∨ o = 11 ∨ o = 16 ∨ o = 17 ∨ o = 18 ∨ o = 19 ∨ o = 20 ∨ o = 21 ∨ o = 22 ∨ o = 23 ∨ o = 24 ∨ o = 25 ∨ o = 26 ∨ o = 27 ∨ o = 28 ∨ o = 29 ∨ o = 82 ∨ o = 95 ∨ o = 96 ∨ o = 127 ∨ o = 243)
  · exact imm_1 w
  · exact imm_2 w
  · exact imm_3 w
  · exact imm_4 w
  · exact imm_5 w
  · exact imm_6 w
  · exact imm_7 w
  · exact imm_8 w
  · exact imm_9 w
  · exact imm_10 w
  · exact imm_11 w
  · exact imm_16 w
  · exact imm_17 w
  · exact imm_18 w
  · exact imm_19 w
  · exact imm_20 w
  · exact imm_21 w
  · exact imm_22 w
  · exact imm_23 w
  · exact imm_24 w
  · exact imm_25 w
  · exact imm_26 w
  · exact imm_27 w
  · exact imm_28 w
  · exact imm_29 w
  · exact imm_82 w
  · exact imm_95 w
  · exact imm_96 w
  · exact imm_127 w
  · exact imm_243 w
theorem arity_op (o : Nat) (h : opO o) (w : World) : Calls Sakg.prog 202 #[.int .u8 o] w fun e w' => e = .returned (.tuple #[.int .i64 (takN o), .int .i64 (givN o), .bool true]) ∧ w = w' := by
  unfold opO aluO at h
  obtain rfl | rfl | rfl | rfl | rfl | rfl | rfl | rfl | rfl | rfl | rfl | rfl | rfl | rfl | rfl | rfl | rfl | rfl | rfl | rfl | rfl | rfl | rfl | rfl | rfl | rfl | rfl | rfl | rfl | rfl := (by omega : o = 1 ∨ o = 2 ∨ o = 3 ∨ o = 4 ∨ o = 5 ∨ o = 6 ∨ o = 7 ∨ o = 8 ∨ o = 9 ∨ o = 10 ∨ o = 11 ∨ o = 16 ∨ o = 17 ∨ o = 18 ∨ o = 19 ∨ o = 20 ∨ o = 21 ∨ o = 22 ∨ o = 23 ∨ o = 24 ∨ o = 25 ∨ o = 26 ∨ o = 27 ∨ o = 28 ∨ o = 29 ∨ o = 82 ∨ o = 95 ∨ o = 96 ∨ o = 127 ∨ o = 243)
  · exact arity_1 w
  · exact arity_2 w
  · exact arity_3 w
  · exact arity_4 w
  · exact arity_5 w
  · exact arity_6 w
  · exact arity_7 w
  · exact arity_8 w
  · exact arity_9 w
  · exact arity_10 w
  · exact arity_11 w
  · exact arity_16 w
  · exact arity_17 w
  · exact arity_18 w
  · exact arity_19 w
  · exact arity_20 w
  · exact arity_21 w
  · exact arity_22 w
  · exact arity_23 w
  · exact arity_24 w
  · exact arity_25 w
  · exact arity_26 w
  · exact arity_27 w
  · exact arity_28 w
  · exact arity_29 w
  · exact arity_82 w
  · exact arity_95 w
  · exact arity_96 w
  · exact arity_127 w
  · exact arity_243 w

end Go.Proofs.YgcsakGreat
