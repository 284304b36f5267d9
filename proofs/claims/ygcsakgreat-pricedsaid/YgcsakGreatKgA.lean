/-
  op.Family and yp.arity at any instruction.
-/
import Derived.Test.YgcsakGreatGbB
namespace Go.Proofs.YgcsakGreat
set_option linter.unusedVariables false
set_option linter.unusedSimpArgs false
set_option maxRecDepth 100000
open Go.RowKit

def famA (o : Nat) : Nat :=
  if o = 0 ∨ o = 243 ∨ o = 253 then 31
  else if (1 ≤ o ∧ o ≤ 11) ∨ (16 ≤ o ∧ o ≤ 29) ∨ o = 32 then 1
  else if (48 ≤ o ∧ o ≤ 72) ∨ (80 ≤ o ∧ o ≤ 83) ∨ o = 89 ∨ (94 ≤ o ∧ o ≤ 159) then 2
  else if (86 ≤ o ∧ o ≤ 88) ∨ o = 90 ∨ o = 91 then 4
  else if o = 84 ∨ o = 85 ∨ o = 92 ∨ o = 93 ∨ (160 ≤ o ∧ o ≤ 164) then 8
  else if o = 240 ∨ o = 241 ∨ o = 242 ∨ o = 244 ∨ o = 245 ∨ o = 250 ∨ o = 255 then 16
  else 0
def takA (o : Nat) : Nat :=
  if famA o = 0 then 0
  else if 128 ≤ o ∧ o ≤ 143 then o - 127
  else if 144 ≤ o ∧ o ≤ 159 then o - 142
  else if 160 ≤ o ∧ o ≤ 164 then o - 158
  else if o = 0 ∨ o = 91 then 0
  else if o = 255 ∨ o = 80 ∨ o = 86 then 1
  else if o = 8 ∨ o = 9 ∨ o = 240 then 3
  else if o = 21 ∨ o = 25 ∨ o = 49 ∨ o = 53 ∨ o = 59 ∨ o = 63 ∨ o = 64 ∨ o = 81 ∨ o = 84 ∨ o = 92 then 1
  else if o = 82 ∨ o = 83 ∨ o = 85 ∨ o = 93 ∨ o = 87 ∨ o = 243 ∨ o = 253 then 2
  else if o = 55 ∨ o = 57 ∨ o = 62 ∨ o = 94 then 3
  else if o = 60 then 4
  else if o = 245 then 4
  else if o = 241 ∨ o = 242 then 7
  else if o = 244 ∨ o = 250 then 6
  else if famA o = 1 then 2
  else 0
def givA (o : Nat) : Nat :=
  if famA o = 0 then 0
  else if 128 ≤ o ∧ o ≤ 143 then o - 126
  else if 144 ≤ o ∧ o ≤ 159 then o - 142
  else if 160 ≤ o ∧ o ≤ 164 then 0
  else if o = 0 ∨ o = 91 then 0
  else if o = 255 ∨ o = 80 ∨ o = 86 then 0
  else if o = 8 ∨ o = 9 ∨ o = 240 then 1
  else if o = 21 ∨ o = 25 ∨ o = 49 ∨ o = 53 ∨ o = 59 ∨ o = 63 ∨ o = 64 ∨ o = 81 ∨ o = 84 ∨ o = 92 then 1
  else if o = 82 ∨ o = 83 ∨ o = 85 ∨ o = 93 ∨ o = 87 ∨ o = 243 ∨ o = 253 then 0
  else if o = 55 ∨ o = 57 ∨ o = 62 ∨ o = 94 then 0
  else if o = 60 then 0
  else 1
set_option maxHeartbeats 1000000 in
theorem fam_0 (w : World) : Calls Sakg.prog 120 #[.int .u8 0] w fun e w' => e = .returned (.int .u8 31) ∧ w = w' := by
  go_enter Sakg.func120, Sakg.ntmps120
  go_wp2
  go_ret
  exact ⟨rfl, rfl⟩
set_option maxHeartbeats 1000000 in
theorem fam_1 (p : Nat) (h1 : 1 ≤ p) (h2 : p ≤ 11) (w : World) : Calls Sakg.prog 120 #[.int .u8 p] w fun e w' => e = .returned (.int .u8 1) ∧ w = w' := by
  have t0 : ((p : Int) == 0) = false := by rw [beq_eq_false_iff_ne]; omega
  have t243 : ((p : Int) == 243) = false := by rw [beq_eq_false_iff_ne]; omega
  have t253 : ((p : Int) == 253) = false := by rw [beq_eq_false_iff_ne]; omega
  have u1 : decide ((1 : Int) ≤ (p : Int)) = true := decide_eq_true (by omega)
  have v11 : decide ((p : Int) ≤ 11) = true := decide_eq_true (by omega)
  go_enter Sakg.func120, Sakg.ntmps120
  go_wp2
  go_ret
  exact ⟨rfl, rfl⟩
set_option maxHeartbeats 1000000 in
theorem fam_12 (p : Nat) (h1 : 12 ≤ p) (h2 : p ≤ 15) (w : World) : Calls Sakg.prog 120 #[.int .u8 p] w fun e w' => e = .returned (.int .u8 0) ∧ w = w' := by
  have t0 : ((p : Int) == 0) = false := by rw [beq_eq_false_iff_ne]; omega
  have t243 : ((p : Int) == 243) = false := by rw [beq_eq_false_iff_ne]; omega
  have t253 : ((p : Int) == 253) = false := by rw [beq_eq_false_iff_ne]; omega
  have u1 : decide ((1 : Int) ≤ (p : Int)) = true := decide_eq_true (by omega)
  have v11 : decide ((p : Int) ≤ 11) = false := decide_eq_false (by omega)
  have u16 : decide ((16 : Int) ≤ (p : Int)) = false := decide_eq_false (by omega)
  have t32 : ((p : Int) == 32) = false := by rw [beq_eq_false_iff_ne]; omega
  have u48 : decide ((48 : Int) ≤ (p : Int)) = false := decide_eq_false (by omega)
  have u80 : decide ((80 : Int) ≤ (p : Int)) = false := decide_eq_false (by omega)
  have t89 : ((p : Int) == 89) = false := by rw [beq_eq_false_iff_ne]; omega
  have u94 : decide ((94 : Int) ≤ (p : Int)) = false := decide_eq_false (by omega)
  have u86 : decide ((86 : Int) ≤ (p : Int)) = false := decide_eq_false (by omega)
  have t90 : ((p : Int) == 90) = false := by rw [beq_eq_false_iff_ne]; omega
  have t91 : ((p : Int) == 91) = false := by rw [beq_eq_false_iff_ne]; omega
  have t84 : ((p : Int) == 84) = false := by rw [beq_eq_false_iff_ne]; omega
  have t85 : ((p : Int) == 85) = false := by rw [beq_eq_false_iff_ne]; omega
  have t92 : ((p : Int) == 92) = false := by rw [beq_eq_false_iff_ne]; omega
  have t93 : ((p : Int) == 93) = false := by rw [beq_eq_false_iff_ne]; omega
  have u160 : decide ((160 : Int) ≤ (p : Int)) = false := decide_eq_false (by omega)
  have t240 : ((p : Int) == 240) = false := by rw [beq_eq_false_iff_ne]; omega
  have t241 : ((p : Int) == 241) = false := by rw [beq_eq_false_iff_ne]; omega
  have t242 : ((p : Int) == 242) = false := by rw [beq_eq_false_iff_ne]; omega
  have t244 : ((p : Int) == 244) = false := by rw [beq_eq_false_iff_ne]; omega
  have t245 : ((p : Int) == 245) = false := by rw [beq_eq_false_iff_ne]; omega
  have t250 : ((p : Int) == 250) = false := by rw [beq_eq_false_iff_ne]; omega
  have t255 : ((p : Int) == 255) = false := by rw [beq_eq_false_iff_ne]; omega
  go_enter Sakg.func120, Sakg.ntmps120
  go_wp2
  go_ret
  exact ⟨rfl, rfl⟩
set_option maxHeartbeats 1000000 in
theorem fam_16 (p : Nat) (h1 : 16 ≤ p) (h2 : p ≤ 29) (w : World) : Calls Sakg.prog 120 #[.int .u8 p] w fun e w' => e = .returned (.int .u8 1) ∧ w = w' := by
  have t0 : ((p : Int) == 0) = false := by rw [beq_eq_false_iff_ne]; omega
  have t243 : ((p : Int) == 243) = false := by rw [beq_eq_false_iff_ne]; omega
  have t253 : ((p : Int) == 253) = false := by rw [beq_eq_false_iff_ne]; omega
  have u1 : decide ((1 : Int) ≤ (p : Int)) = true := decide_eq_true (by omega)
  have v11 : decide ((p : Int) ≤ 11) = false := decide_eq_false (by omega)
  have u16 : decide ((16 : Int) ≤ (p : Int)) = true := decide_eq_true (by omega)
  have v29 : decide ((p : Int) ≤ 29) = true := decide_eq_true (by omega)
  go_enter Sakg.func120, Sakg.ntmps120
  go_wp2
  go_ret
  exact ⟨rfl, rfl⟩
set_option maxHeartbeats 1000000 in
theorem fam_30 (p : Nat) (h1 : 30 ≤ p) (h2 : p ≤ 31) (w : World) : Calls Sakg.prog 120 #[.int .u8 p] w fun e w' => e = .returned (.int .u8 0) ∧ w = w' := by
  have t0 : ((p : Int) == 0) = false := by rw [beq_eq_false_iff_ne]; omega
  have t243 : ((p : Int) == 243) = false := by rw [beq_eq_false_iff_ne]; omega
  have t253 : ((p : Int) == 253) = false := by rw [beq_eq_false_iff_ne]; omega
  have u1 : decide ((1 : Int) ≤ (p : Int)) = true := decide_eq_true (by omega)
  have v11 : decide ((p : Int) ≤ 11) = false := decide_eq_false (by omega)
  have u16 : decide ((16 : Int) ≤ (p : Int)) = true := decide_eq_true (by omega)
  have v29 : decide ((p : Int) ≤ 29) = false := decide_eq_false (by omega)
  have t32 : ((p : Int) == 32) = false := by rw [beq_eq_false_iff_ne]; omega
  have u48 : decide ((48 : Int) ≤ (p : Int)) = false := decide_eq_false (by omega)
  have u80 : decide ((80 : Int) ≤ (p : Int)) = false := decide_eq_false (by omega)
  have t89 : ((p : Int) == 89) = false := by rw [beq_eq_false_iff_ne]; omega
  have u94 : decide ((94 : Int) ≤ (p : Int)) = false := decide_eq_false (by omega)
  have u86 : decide ((86 : Int) ≤ (p : Int)) = false := decide_eq_false (by omega)
  have t90 : ((p : Int) == 90) = false := by rw [beq_eq_false_iff_ne]; omega
  have t91 : ((p : Int) == 91) = false := by rw [beq_eq_false_iff_ne]; omega
  have t84 : ((p : Int) == 84) = false := by rw [beq_eq_false_iff_ne]; omega
  have t85 : ((p : Int) == 85) = false := by rw [beq_eq_false_iff_ne]; omega
  have t92 : ((p : Int) == 92) = false := by rw [beq_eq_false_iff_ne]; omega
  have t93 : ((p : Int) == 93) = false := by rw [beq_eq_false_iff_ne]; omega
  have u160 : decide ((160 : Int) ≤ (p : Int)) = false := decide_eq_false (by omega)
  have t240 : ((p : Int) == 240) = false := by rw [beq_eq_false_iff_ne]; omega
  have t241 : ((p : Int) == 241) = false := by rw [beq_eq_false_iff_ne]; omega
  have t242 : ((p : Int) == 242) = false := by rw [beq_eq_false_iff_ne]; omega
  have t244 : ((p : Int) == 244) = false := by rw [beq_eq_false_iff_ne]; omega
  have t245 : ((p : Int) == 245) = false := by rw [beq_eq_false_iff_ne]; omega
  have t250 : ((p : Int) == 250) = false := by rw [beq_eq_false_iff_ne]; omega
  have t255 : ((p : Int) == 255) = false := by rw [beq_eq_false_iff_ne]; omega
  go_enter Sakg.func120, Sakg.ntmps120
  go_wp2
  go_ret
  exact ⟨rfl, rfl⟩
set_option maxHeartbeats 1000000 in
theorem fam_32 (w : World) : Calls Sakg.prog 120 #[.int .u8 32] w fun e w' => e = .returned (.int .u8 1) ∧ w = w' := by
  go_enter Sakg.func120, Sakg.ntmps120
  go_wp2
  go_ret
  exact ⟨rfl, rfl⟩
set_option maxHeartbeats 1000000 in
theorem fam_33 (p : Nat) (h1 : 33 ≤ p) (h2 : p ≤ 47) (w : World) : Calls Sakg.prog 120 #[.int .u8 p] w fun e w' => e = .returned (.int .u8 0) ∧ w = w' := by
  have t0 : ((p : Int) == 0) = false := by rw [beq_eq_false_iff_ne]; omega
  have t243 : ((p : Int) == 243) = false := by rw [beq_eq_false_iff_ne]; omega
  have t253 : ((p : Int) == 253) = false := by rw [beq_eq_false_iff_ne]; omega
  have u1 : decide ((1 : Int) ≤ (p : Int)) = true := decide_eq_true (by omega)
  have v11 : decide ((p : Int) ≤ 11) = false := decide_eq_false (by omega)
  have u16 : decide ((16 : Int) ≤ (p : Int)) = true := decide_eq_true (by omega)
  have v29 : decide ((p : Int) ≤ 29) = false := decide_eq_false (by omega)
  have t32 : ((p : Int) == 32) = false := by rw [beq_eq_false_iff_ne]; omega
  have u48 : decide ((48 : Int) ≤ (p : Int)) = false := decide_eq_false (by omega)
  have u80 : decide ((80 : Int) ≤ (p : Int)) = false := decide_eq_false (by omega)
  have t89 : ((p : Int) == 89) = false := by rw [beq_eq_false_iff_ne]; omega
  have u94 : decide ((94 : Int) ≤ (p : Int)) = false := decide_eq_false (by omega)
  have u86 : decide ((86 : Int) ≤ (p : Int)) = false := decide_eq_false (by omega)
  have t90 : ((p : Int) == 90) = false := by rw [beq_eq_false_iff_ne]; omega
  have t91 : ((p : Int) == 91) = false := by rw [beq_eq_false_iff_ne]; omega
  have t84 : ((p : Int) == 84) = false := by rw [beq_eq_false_iff_ne]; omega
  have t85 : ((p : Int) == 85) = false := by rw [beq_eq_false_iff_ne]; omega
  have t92 : ((p : Int) == 92) = false := by rw [beq_eq_false_iff_ne]; omega
  have t93 : ((p : Int) == 93) = false := by rw [beq_eq_false_iff_ne]; omega
  have u160 : decide ((160 : Int) ≤ (p : Int)) = false := decide_eq_false (by omega)
  have t240 : ((p : Int) == 240) = false := by rw [beq_eq_false_iff_ne]; omega
  have t241 : ((p : Int) == 241) = false := by rw [beq_eq_false_iff_ne]; omega
  have t242 : ((p : Int) == 242) = false := by rw [beq_eq_false_iff_ne]; omega
  have t244 : ((p : Int) == 244) = false := by rw [beq_eq_false_iff_ne]; omega
  have t245 : ((p : Int) == 245) = false := by rw [beq_eq_false_iff_ne]; omega
  have t250 : ((p : Int) == 250) = false := by rw [beq_eq_false_iff_ne]; omega
  have t255 : ((p : Int) == 255) = false := by rw [beq_eq_false_iff_ne]; omega
  go_enter Sakg.func120, Sakg.ntmps120
  go_wp2
  go_ret
  exact ⟨rfl, rfl⟩
set_option maxHeartbeats 1000000 in
theorem fam_48 (p : Nat) (h1 : 48 ≤ p) (h2 : p ≤ 72) (w : World) : Calls Sakg.prog 120 #[.int .u8 p] w fun e w' => e = .returned (.int .u8 2) ∧ w = w' := by
  have t0 : ((p : Int) == 0) = false := by rw [beq_eq_false_iff_ne]; omega
  have t243 : ((p : Int) == 243) = false := by rw [beq_eq_false_iff_ne]; omega
  have t253 : ((p : Int) == 253) = false := by rw [beq_eq_false_iff_ne]; omega
  have u1 : decide ((1 : Int) ≤ (p : Int)) = true := decide_eq_true (by omega)
  have v11 : decide ((p : Int) ≤ 11) = false := decide_eq_false (by omega)
  have u16 : decide ((16 : Int) ≤ (p : Int)) = true := decide_eq_true (by omega)
  have v29 : decide ((p : Int) ≤ 29) = false := decide_eq_false (by omega)
  have t32 : ((p : Int) == 32) = false := by rw [beq_eq_false_iff_ne]; omega
  have u48 : decide ((48 : Int) ≤ (p : Int)) = true := decide_eq_true (by omega)
  have v72 : decide ((p : Int) ≤ 72) = true := decide_eq_true (by omega)
  go_enter Sakg.func120, Sakg.ntmps120
  go_wp2
  go_ret
  exact ⟨rfl, rfl⟩
set_option maxHeartbeats 1000000 in
theorem fam_73 (p : Nat) (h1 : 73 ≤ p) (h2 : p ≤ 79) (w : World) : Calls Sakg.prog 120 #[.int .u8 p] w fun e w' => e = .returned (.int .u8 0) ∧ w = w' := by
  have t0 : ((p : Int) == 0) = false := by rw [beq_eq_false_iff_ne]; omega
  have t243 : ((p : Int) == 243) = false := by rw [beq_eq_false_iff_ne]; omega
  have t253 : ((p : Int) == 253) = false := by rw [beq_eq_false_iff_ne]; omega
  have u1 : decide ((1 : Int) ≤ (p : Int)) = true := decide_eq_true (by omega)
  have v11 : decide ((p : Int) ≤ 11) = false := decide_eq_false (by omega)
  have u16 : decide ((16 : Int) ≤ (p : Int)) = true := decide_eq_true (by omega)
  have v29 : decide ((p : Int) ≤ 29) = false := decide_eq_false (by omega)
  have t32 : ((p : Int) == 32) = false := by rw [beq_eq_false_iff_ne]; omega
  have u48 : decide ((48 : Int) ≤ (p : Int)) = true := decide_eq_true (by omega)
  have v72 : decide ((p : Int) ≤ 72) = false := decide_eq_false (by omega)
  have u80 : decide ((80 : Int) ≤ (p : Int)) = false := decide_eq_false (by omega)
  have t89 : ((p : Int) == 89) = false := by rw [beq_eq_false_iff_ne]; omega
  have u94 : decide ((94 : Int) ≤ (p : Int)) = false := decide_eq_false (by omega)
  have u86 : decide ((86 : Int) ≤ (p : Int)) = false := decide_eq_false (by omega)
  have t90 : ((p : Int) == 90) = false := by rw [beq_eq_false_iff_ne]; omega
  have t91 : ((p : Int) == 91) = false := by rw [beq_eq_false_iff_ne]; omega
  have t84 : ((p : Int) == 84) = false := by rw [beq_eq_false_iff_ne]; omega
  have t85 : ((p : Int) == 85) = false := by rw [beq_eq_false_iff_ne]; omega
  have t92 : ((p : Int) == 92) = false := by rw [beq_eq_false_iff_ne]; omega
  have t93 : ((p : Int) == 93) = false := by rw [beq_eq_false_iff_ne]; omega
  have u160 : decide ((160 : Int) ≤ (p : Int)) = false := decide_eq_false (by omega)
  have t240 : ((p : Int) == 240) = false := by rw [beq_eq_false_iff_ne]; omega
  have t241 : ((p : Int) == 241) = false := by rw [beq_eq_false_iff_ne]; omega
  have t242 : ((p : Int) == 242) = false := by rw [beq_eq_false_iff_ne]; omega
  have t244 : ((p : Int) == 244) = false := by rw [beq_eq_false_iff_ne]; omega
  have t245 : ((p : Int) == 245) = false := by rw [beq_eq_false_iff_ne]; omega
  have t250 : ((p : Int) == 250) = false := by rw [beq_eq_false_iff_ne]; omega
  have t255 : ((p : Int) == 255) = false := by rw [beq_eq_false_iff_ne]; omega
  go_enter Sakg.func120, Sakg.ntmps120
  go_wp2
  go_ret
  exact ⟨rfl, rfl⟩
set_option maxHeartbeats 1000000 in
theorem fam_80 (p : Nat) (h1 : 80 ≤ p) (h2 : p ≤ 83) (w : World) : Calls Sakg.prog 120 #[.int .u8 p] w fun e w' => e = .returned (.int .u8 2) ∧ w = w' := by
  have t0 : ((p : Int) == 0) = false := by rw [beq_eq_false_iff_ne]; omega
  have t243 : ((p : Int) == 243) = false := by rw [beq_eq_false_iff_ne]; omega
  have t253 : ((p : Int) == 253) = false := by rw [beq_eq_false_iff_ne]; omega
  have u1 : decide ((1 : Int) ≤ (p : Int)) = true := decide_eq_true (by omega)
  have v11 : decide ((p : Int) ≤ 11) = false := decide_eq_false (by omega)
  have u16 : decide ((16 : Int) ≤ (p : Int)) = true := decide_eq_true (by omega)
  have v29 : decide ((p : Int) ≤ 29) = false := decide_eq_false (by omega)
  have t32 : ((p : Int) == 32) = false := by rw [beq_eq_false_iff_ne]; omega
  have u48 : decide ((48 : Int) ≤ (p : Int)) = true := decide_eq_true (by omega)
  have v72 : decide ((p : Int) ≤ 72) = false := decide_eq_false (by omega)
  have u80 : decide ((80 : Int) ≤ (p : Int)) = true := decide_eq_true (by omega)
  have v83 : decide ((p : Int) ≤ 83) = true := decide_eq_true (by omega)
  go_enter Sakg.func120, Sakg.ntmps120
  go_wp2
  go_ret
  exact ⟨rfl, rfl⟩
set_option maxHeartbeats 1000000 in
theorem fam_84 (w : World) : Calls Sakg.prog 120 #[.int .u8 84] w fun e w' => e = .returned (.int .u8 8) ∧ w = w' := by
  go_enter Sakg.func120, Sakg.ntmps120
  go_wp2
  go_ret
  exact ⟨rfl, rfl⟩
set_option maxHeartbeats 1000000 in
theorem fam_85 (w : World) : Calls Sakg.prog 120 #[.int .u8 85] w fun e w' => e = .returned (.int .u8 8) ∧ w = w' := by
  go_enter Sakg.func120, Sakg.ntmps120
  go_wp2
  go_ret
  exact ⟨rfl, rfl⟩
set_option maxHeartbeats 1000000 in
theorem fam_86 (p : Nat) (h1 : 86 ≤ p) (h2 : p ≤ 88) (w : World) : Calls Sakg.prog 120 #[.int .u8 p] w fun e w' => e = .returned (.int .u8 4) ∧ w = w' := by
  have t0 : ((p : Int) == 0) = false := by rw [beq_eq_false_iff_ne]; omega
  have t243 : ((p : Int) == 243) = false := by rw [beq_eq_false_iff_ne]; omega
  have t253 : ((p : Int) == 253) = false := by rw [beq_eq_false_iff_ne]; omega
  have u1 : decide ((1 : Int) ≤ (p : Int)) = true := decide_eq_true (by omega)
  have v11 : decide ((p : Int) ≤ 11) = false := decide_eq_false (by omega)
  have u16 : decide ((16 : Int) ≤ (p : Int)) = true := decide_eq_true (by omega)
  have v29 : decide ((p : Int) ≤ 29) = false := decide_eq_false (by omega)
  have t32 : ((p : Int) == 32) = false := by rw [beq_eq_false_iff_ne]; omega
  have u48 : decide ((48 : Int) ≤ (p : Int)) = true := decide_eq_true (by omega)
  have v72 : decide ((p : Int) ≤ 72) = false := decide_eq_false (by omega)
  have u80 : decide ((80 : Int) ≤ (p : Int)) = true := decide_eq_true (by omega)
  have v83 : decide ((p : Int) ≤ 83) = false := decide_eq_false (by omega)
  have t89 : ((p : Int) == 89) = false := by rw [beq_eq_false_iff_ne]; omega
  have u94 : decide ((94 : Int) ≤ (p : Int)) = false := decide_eq_false (by omega)
  have u86 : decide ((86 : Int) ≤ (p : Int)) = true := decide_eq_true (by omega)
  have v88 : decide ((p : Int) ≤ 88) = true := decide_eq_true (by omega)
  go_enter Sakg.func120, Sakg.ntmps120
  go_wp2
  go_ret
  exact ⟨rfl, rfl⟩
set_option maxHeartbeats 1000000 in
theorem fam_89 (w : World) : Calls Sakg.prog 120 #[.int .u8 89] w fun e w' => e = .returned (.int .u8 2) ∧ w = w' := by
  go_enter Sakg.func120, Sakg.ntmps120
  go_wp2
  go_ret
  exact ⟨rfl, rfl⟩
set_option maxHeartbeats 1000000 in
theorem fam_90 (w : World) : Calls Sakg.prog 120 #[.int .u8 90] w fun e w' => e = .returned (.int .u8 4) ∧ w = w' := by
  go_enter Sakg.func120, Sakg.ntmps120
  go_wp2
  go_ret
  exact ⟨rfl, rfl⟩
set_option maxHeartbeats 1000000 in
theorem fam_91 (w : World) : Calls Sakg.prog 120 #[.int .u8 91] w fun e w' => e = .returned (.int .u8 4) ∧ w = w' := by
  go_enter Sakg.func120, Sakg.ntmps120
  go_wp2
  go_ret
  exact ⟨rfl, rfl⟩
set_option maxHeartbeats 1000000 in
theorem fam_92 (w : World) : Calls Sakg.prog 120 #[.int .u8 92] w fun e w' => e = .returned (.int .u8 8) ∧ w = w' := by
  go_enter Sakg.func120, Sakg.ntmps120
  go_wp2
  go_ret
  exact ⟨rfl, rfl⟩
set_option maxHeartbeats 1000000 in
theorem fam_93 (w : World) : Calls Sakg.prog 120 #[.int .u8 93] w fun e w' => e = .returned (.int .u8 8) ∧ w = w' := by
  go_enter Sakg.func120, Sakg.ntmps120
  go_wp2
  go_ret
  exact ⟨rfl, rfl⟩
set_option maxHeartbeats 1000000 in
theorem fam_94 (p : Nat) (h1 : 94 ≤ p) (h2 : p ≤ 159) (w : World) : Calls Sakg.prog 120 #[.int .u8 p] w fun e w' => e = .returned (.int .u8 2) ∧ w = w' := by
  have t0 : ((p : Int) == 0) = false := by rw [beq_eq_false_iff_ne]; omega
  have t243 : ((p : Int) == 243) = false := by rw [beq_eq_false_iff_ne]; omega
  have t253 : ((p : Int) == 253) = false := by rw [beq_eq_false_iff_ne]; omega
  have u1 : decide ((1 : Int) ≤ (p : Int)) = true := decide_eq_true (by omega)
  have v11 : decide ((p : Int) ≤ 11) = false := decide_eq_false (by omega)
  have u16 : decide ((16 : Int) ≤ (p : Int)) = true := decide_eq_true (by omega)
  have v29 : decide ((p : Int) ≤ 29) = false := decide_eq_false (by omega)
  have t32 : ((p : Int) == 32) = false := by rw [beq_eq_false_iff_ne]; omega
  have u48 : decide ((48 : Int) ≤ (p : Int)) = true := decide_eq_true (by omega)
  have v72 : decide ((p : Int) ≤ 72) = false := decide_eq_false (by omega)
  have u80 : decide ((80 : Int) ≤ (p : Int)) = true := decide_eq_true (by omega)
  have v83 : decide ((p : Int) ≤ 83) = false := decide_eq_false (by omega)
  have t89 : ((p : Int) == 89) = false := by rw [beq_eq_false_iff_ne]; omega
  have u94 : decide ((94 : Int) ≤ (p : Int)) = true := decide_eq_true (by omega)
  have v159 : decide ((p : Int) ≤ 159) = true := decide_eq_true (by omega)
  go_enter Sakg.func120, Sakg.ntmps120
  go_wp2
  go_ret
  exact ⟨rfl, rfl⟩
set_option maxHeartbeats 1000000 in
theorem fam_160 (p : Nat) (h1 : 160 ≤ p) (h2 : p ≤ 164) (w : World) : Calls Sakg.prog 120 #[.int .u8 p] w fun e w' => e = .returned (.int .u8 8) ∧ w = w' := by
  have t0 : ((p : Int) == 0) = false := by rw [beq_eq_false_iff_ne]; omega
  have t243 : ((p : Int) == 243) = false := by rw [beq_eq_false_iff_ne]; omega
  have t253 : ((p : Int) == 253) = false := by rw [beq_eq_false_iff_ne]; omega
  have u1 : decide ((1 : Int) ≤ (p : Int)) = true := decide_eq_true (by omega)
  have v11 : decide ((p : Int) ≤ 11) = false := decide_eq_false (by omega)
  have u16 : decide ((16 : Int) ≤ (p : Int)) = true := decide_eq_true (by omega)
  have v29 : decide ((p : Int) ≤ 29) = false := decide_eq_false (by omega)
  have t32 : ((p : Int) == 32) = false := by rw [beq_eq_false_iff_ne]; omega
  have u48 : decide ((48 : Int) ≤ (p : Int)) = true := decide_eq_true (by omega)
  have v72 : decide ((p : Int) ≤ 72) = false := decide_eq_false (by omega)
  have u80 : decide ((80 : Int) ≤ (p : Int)) = true := decide_eq_true (by omega)
  have v83 : decide ((p : Int) ≤ 83) = false := decide_eq_false (by omega)
  have t89 : ((p : Int) == 89) = false := by rw [beq_eq_false_iff_ne]; omega
  have u94 : decide ((94 : Int) ≤ (p : Int)) = true := decide_eq_true (by omega)
  have v159 : decide ((p : Int) ≤ 159) = false := decide_eq_false (by omega)
  have u86 : decide ((86 : Int) ≤ (p : Int)) = true := decide_eq_true (by omega)
  have v88 : decide ((p : Int) ≤ 88) = false := decide_eq_false (by omega)
  have t90 : ((p : Int) == 90) = false := by rw [beq_eq_false_iff_ne]; omega
  have t91 : ((p : Int) == 91) = false := by rw [beq_eq_false_iff_ne]; omega
  have t84 : ((p : Int) == 84) = false := by rw [beq_eq_false_iff_ne]; omega
  have t85 : ((p : Int) == 85) = false := by rw [beq_eq_false_iff_ne]; omega
  have t92 : ((p : Int) == 92) = false := by rw [beq_eq_false_iff_ne]; omega
  have t93 : ((p : Int) == 93) = false := by rw [beq_eq_false_iff_ne]; omega
  have u160 : decide ((160 : Int) ≤ (p : Int)) = true := decide_eq_true (by omega)
  have v164 : decide ((p : Int) ≤ 164) = true := decide_eq_true (by omega)
  go_enter Sakg.func120, Sakg.ntmps120
  go_wp2
  go_ret
  exact ⟨rfl, rfl⟩
set_option maxHeartbeats 1000000 in
theorem fam_165 (p : Nat) (h1 : 165 ≤ p) (h2 : p ≤ 239) (w : World) : Calls Sakg.prog 120 #[.int .u8 p] w fun e w' => e = .returned (.int .u8 0) ∧ w = w' := by
  have t0 : ((p : Int) == 0) = false := by rw [beq_eq_false_iff_ne]; omega
  have t243 : ((p : Int) == 243) = false := by rw [beq_eq_false_iff_ne]; omega
  have t253 : ((p : Int) == 253) = false := by rw [beq_eq_false_iff_ne]; omega
  have u1 : decide ((1 : Int) ≤ (p : Int)) = true := decide_eq_true (by omega)
  have v11 : decide ((p : Int) ≤ 11) = false := decide_eq_false (by omega)
  have u16 : decide ((16 : Int) ≤ (p : Int)) = true := decide_eq_true (by omega)
  have v29 : decide ((p : Int) ≤ 29) = false := decide_eq_false (by omega)
  have t32 : ((p : Int) == 32) = false := by rw [beq_eq_false_iff_ne]; omega
  have u48 : decide ((48 : Int) ≤ (p : Int)) = true := decide_eq_true (by omega)
  have v72 : decide ((p : Int) ≤ 72) = false := decide_eq_false (by omega)
  have u80 : decide ((80 : Int) ≤ (p : Int)) = true := decide_eq_true (by omega)
  have v83 : decide ((p : Int) ≤ 83) = false := decide_eq_false (by omega)
  have t89 : ((p : Int) == 89) = false := by rw [beq_eq_false_iff_ne]; omega
  have u94 : decide ((94 : Int) ≤ (p : Int)) = true := decide_eq_true (by omega)
  have v159 : decide ((p : Int) ≤ 159) = false := decide_eq_false (by omega)
  have u86 : decide ((86 : Int) ≤ (p : Int)) = true := decide_eq_true (by omega)
  have v88 : decide ((p : Int) ≤ 88) = false := decide_eq_false (by omega)
  have t90 : ((p : Int) == 90) = false := by rw [beq_eq_false_iff_ne]; omega
  have t91 : ((p : Int) == 91) = false := by rw [beq_eq_false_iff_ne]; omega
  have t84 : ((p : Int) == 84) = false := by rw [beq_eq_false_iff_ne]; omega
  have t85 : ((p : Int) == 85) = false := by rw [beq_eq_false_iff_ne]; omega
  have t92 : ((p : Int) == 92) = false := by rw [beq_eq_false_iff_ne]; omega
  have t93 : ((p : Int) == 93) = false := by rw [beq_eq_false_iff_ne]; omega
  have u160 : decide ((160 : Int) ≤ (p : Int)) = true := decide_eq_true (by omega)
  have v164 : decide ((p : Int) ≤ 164) = false := decide_eq_false (by omega)
  have t240 : ((p : Int) == 240) = false := by rw [beq_eq_false_iff_ne]; omega
  have t241 : ((p : Int) == 241) = false := by rw [beq_eq_false_iff_ne]; omega
  have t242 : ((p : Int) == 242) = false := by rw [beq_eq_false_iff_ne]; omega
  have t244 : ((p : Int) == 244) = false := by rw [beq_eq_false_iff_ne]; omega
  have t245 : ((p : Int) == 245) = false := by rw [beq_eq_false_iff_ne]; omega
  have t250 : ((p : Int) == 250) = false := by rw [beq_eq_false_iff_ne]; omega
  have t255 : ((p : Int) == 255) = false := by rw [beq_eq_false_iff_ne]; omega
  go_enter Sakg.func120, Sakg.ntmps120
  go_wp2
  go_ret
  exact ⟨rfl, rfl⟩
set_option maxHeartbeats 1000000 in
theorem fam_240 (w : World) : Calls Sakg.prog 120 #[.int .u8 240] w fun e w' => e = .returned (.int .u8 16) ∧ w = w' := by
  go_enter Sakg.func120, Sakg.ntmps120
  go_wp2
  go_ret
  exact ⟨rfl, rfl⟩
set_option maxHeartbeats 1000000 in
theorem fam_241 (w : World) : Calls Sakg.prog 120 #[.int .u8 241] w fun e w' => e = .returned (.int .u8 16) ∧ w = w' := by
  go_enter Sakg.func120, Sakg.ntmps120
  go_wp2
  go_ret
  exact ⟨rfl, rfl⟩
set_option maxHeartbeats 1000000 in
theorem fam_242 (w : World) : Calls Sakg.prog 120 #[.int .u8 242] w fun e w' => e = .returned (.int .u8 16) ∧ w = w' := by
  go_enter Sakg.func120, Sakg.ntmps120
  go_wp2
  go_ret
  exact ⟨rfl, rfl⟩
set_option maxHeartbeats 1000000 in
theorem fam_243 (w : World) : Calls Sakg.prog 120 #[.int .u8 243] w fun e w' => e = .returned (.int .u8 31) ∧ w = w' := by
  go_enter Sakg.func120, Sakg.ntmps120
  go_wp2
  go_ret
  exact ⟨rfl, rfl⟩
set_option maxHeartbeats 1000000 in
theorem fam_244 (w : World) : Calls Sakg.prog 120 #[.int .u8 244] w fun e w' => e = .returned (.int .u8 16) ∧ w = w' := by
  go_enter Sakg.func120, Sakg.ntmps120
  go_wp2
  go_ret
  exact ⟨rfl, rfl⟩
set_option maxHeartbeats 1000000 in
theorem fam_245 (w : World) : Calls Sakg.prog 120 #[.int .u8 245] w fun e w' => e = .returned (.int .u8 16) ∧ w = w' := by
  go_enter Sakg.func120, Sakg.ntmps120
  go_wp2
  go_ret
  exact ⟨rfl, rfl⟩
set_option maxHeartbeats 1000000 in
theorem fam_246 (p : Nat) (h1 : 246 ≤ p) (h2 : p ≤ 249) (w : World) : Calls Sakg.prog 120 #[.int .u8 p] w fun e w' => e = .returned (.int .u8 0) ∧ w = w' := by
  have t0 : ((p : Int) == 0) = false := by rw [beq_eq_false_iff_ne]; omega
  have t243 : ((p : Int) == 243) = false := by rw [beq_eq_false_iff_ne]; omega
  have t253 : ((p : Int) == 253) = false := by rw [beq_eq_false_iff_ne]; omega
  have u1 : decide ((1 : Int) ≤ (p : Int)) = true := decide_eq_true (by omega)
  have v11 : decide ((p : Int) ≤ 11) = false := decide_eq_false (by omega)
  have u16 : decide ((16 : Int) ≤ (p : Int)) = true := decide_eq_true (by omega)
  have v29 : decide ((p : Int) ≤ 29) = false := decide_eq_false (by omega)
  have t32 : ((p : Int) == 32) = false := by rw [beq_eq_false_iff_ne]; omega
  have u48 : decide ((48 : Int) ≤ (p : Int)) = true := decide_eq_true (by omega)
  have v72 : decide ((p : Int) ≤ 72) = false := decide_eq_false (by omega)
  have u80 : decide ((80 : Int) ≤ (p : Int)) = true := decide_eq_true (by omega)
  have v83 : decide ((p : Int) ≤ 83) = false := decide_eq_false (by omega)
  have t89 : ((p : Int) == 89) = false := by rw [beq_eq_false_iff_ne]; omega
  have u94 : decide ((94 : Int) ≤ (p : Int)) = true := decide_eq_true (by omega)
  have v159 : decide ((p : Int) ≤ 159) = false := decide_eq_false (by omega)
  have u86 : decide ((86 : Int) ≤ (p : Int)) = true := decide_eq_true (by omega)
  have v88 : decide ((p : Int) ≤ 88) = false := decide_eq_false (by omega)
  have t90 : ((p : Int) == 90) = false := by rw [beq_eq_false_iff_ne]; omega
  have t91 : ((p : Int) == 91) = false := by rw [beq_eq_false_iff_ne]; omega
  have t84 : ((p : Int) == 84) = false := by rw [beq_eq_false_iff_ne]; omega
  have t85 : ((p : Int) == 85) = false := by rw [beq_eq_false_iff_ne]; omega
  have t92 : ((p : Int) == 92) = false := by rw [beq_eq_false_iff_ne]; omega
  have t93 : ((p : Int) == 93) = false := by rw [beq_eq_false_iff_ne]; omega
  have u160 : decide ((160 : Int) ≤ (p : Int)) = true := decide_eq_true (by omega)
  have v164 : decide ((p : Int) ≤ 164) = false := decide_eq_false (by omega)
  have t240 : ((p : Int) == 240) = false := by rw [beq_eq_false_iff_ne]; omega
  have t241 : ((p : Int) == 241) = false := by rw [beq_eq_false_iff_ne]; omega
  have t242 : ((p : Int) == 242) = false := by rw [beq_eq_false_iff_ne]; omega
  have t244 : ((p : Int) == 244) = false := by rw [beq_eq_false_iff_ne]; omega
  have t245 : ((p : Int) == 245) = false := by rw [beq_eq_false_iff_ne]; omega
  have t250 : ((p : Int) == 250) = false := by rw [beq_eq_false_iff_ne]; omega
  have t255 : ((p : Int) == 255) = false := by rw [beq_eq_false_iff_ne]; omega
  go_enter Sakg.func120, Sakg.ntmps120
  go_wp2
  go_ret
  exact ⟨rfl, rfl⟩
set_option maxHeartbeats 1000000 in
theorem fam_250 (w : World) : Calls Sakg.prog 120 #[.int .u8 250] w fun e w' => e = .returned (.int .u8 16) ∧ w = w' := by
  go_enter Sakg.func120, Sakg.ntmps120
  go_wp2
  go_ret
  exact ⟨rfl, rfl⟩
set_option maxHeartbeats 1000000 in
theorem fam_251 (p : Nat) (h1 : 251 ≤ p) (h2 : p ≤ 252) (w : World) : Calls Sakg.prog 120 #[.int .u8 p] w fun e w' => e = .returned (.int .u8 0) ∧ w = w' := by
  have t0 : ((p : Int) == 0) = false := by rw [beq_eq_false_iff_ne]; omega
  have t243 : ((p : Int) == 243) = false := by rw [beq_eq_false_iff_ne]; omega
  have t253 : ((p : Int) == 253) = false := by rw [beq_eq_false_iff_ne]; omega
  have u1 : decide ((1 : Int) ≤ (p : Int)) = true := decide_eq_true (by omega)
  have v11 : decide ((p : Int) ≤ 11) = false := decide_eq_false (by omega)
  have u16 : decide ((16 : Int) ≤ (p : Int)) = true := decide_eq_true (by omega)
  have v29 : decide ((p : Int) ≤ 29) = false := decide_eq_false (by omega)
  have t32 : ((p : Int) == 32) = false := by rw [beq_eq_false_iff_ne]; omega
  have u48 : decide ((48 : Int) ≤ (p : Int)) = true := decide_eq_true (by omega)
  have v72 : decide ((p : Int) ≤ 72) = false := decide_eq_false (by omega)
  have u80 : decide ((80 : Int) ≤ (p : Int)) = true := decide_eq_true (by omega)
  have v83 : decide ((p : Int) ≤ 83) = false := decide_eq_false (by omega)
  have t89 : ((p : Int) == 89) = false := by rw [beq_eq_false_iff_ne]; omega
  have u94 : decide ((94 : Int) ≤ (p : Int)) = true := decide_eq_true (by omega)
  have v159 : decide ((p : Int) ≤ 159) = false := decide_eq_false (by omega)
  have u86 : decide ((86 : Int) ≤ (p : Int)) = true := decide_eq_true (by omega)
  have v88 : decide ((p : Int) ≤ 88) = false := decide_eq_false (by omega)
  have t90 : ((p : Int) == 90) = false := by rw [beq_eq_false_iff_ne]; omega
  have t91 : ((p : Int) == 91) = false := by rw [beq_eq_false_iff_ne]; omega
  have t84 : ((p : Int) == 84) = false := by rw [beq_eq_false_iff_ne]; omega
  have t85 : ((p : Int) == 85) = false := by rw [beq_eq_false_iff_ne]; omega
  have t92 : ((p : Int) == 92) = false := by rw [beq_eq_false_iff_ne]; omega
  have t93 : ((p : Int) == 93) = false := by rw [beq_eq_false_iff_ne]; omega
  have u160 : decide ((160 : Int) ≤ (p : Int)) = true := decide_eq_true (by omega)
  have v164 : decide ((p : Int) ≤ 164) = false := decide_eq_false (by omega)
  have t240 : ((p : Int) == 240) = false := by rw [beq_eq_false_iff_ne]; omega
  have t241 : ((p : Int) == 241) = false := by rw [beq_eq_false_iff_ne]; omega
  have t242 : ((p : Int) == 242) = false := by rw [beq_eq_false_iff_ne]; omega
  have t244 : ((p : Int) == 244) = false := by rw [beq_eq_false_iff_ne]; omega
  have t245 : ((p : Int) == 245) = false := by rw [beq_eq_false_iff_ne]; omega
  have t250 : ((p : Int) == 250) = false := by rw [beq_eq_false_iff_ne]; omega
  have t255 : ((p : Int) == 255) = false := by rw [beq_eq_false_iff_ne]; omega
  go_enter Sakg.func120, Sakg.ntmps120
  go_wp2
  go_ret
  exact ⟨rfl, rfl⟩
set_option maxHeartbeats 1000000 in
theorem fam_253 (w : World) : Calls Sakg.prog 120 #[.int .u8 253] w fun e w' => e = .returned (.int .u8 31) ∧ w = w' := by
  go_enter Sakg.func120, Sakg.ntmps120
  go_wp2
  go_ret
  exact ⟨rfl, rfl⟩
set_option maxHeartbeats 1000000 in
theorem fam_254 (w : World) : Calls Sakg.prog 120 #[.int .u8 254] w fun e w' => e = .returned (.int .u8 0) ∧ w = w' := by
  go_enter Sakg.func120, Sakg.ntmps120
  go_wp2
  go_ret
  exact ⟨rfl, rfl⟩
set_option maxHeartbeats 1000000 in
theorem fam_255 (w : World) : Calls Sakg.prog 120 #[.int .u8 255] w fun e w' => e = .returned (.int .u8 16) ∧ w = w' := by
  go_enter Sakg.func120, Sakg.ntmps120
  go_wp2
  go_ret
  exact ⟨rfl, rfl⟩
set_option maxHeartbeats 16000000 in
theorem family_any (p : Nat) (hp : p ≤ 255) (w : World) : Calls Sakg.prog 120 #[.int .u8 p] w fun e w' => e = .returned (.int .u8 (famA p)) ∧ w = w' := by
  by_cases h0 : p ≤ 0
  · obtain rfl : p = 0 := by omega
    exact fam_0 w
  by_cases h1 : p ≤ 11
  · have e : famA p = 1 := by unfold famA; repeat (first | rw [if_pos (by omega)] | rw [if_neg (by omega)])
    rw [e]
    exact fam_1 p (by omega) (by omega) w
  by_cases h12 : p ≤ 15
  · have e : famA p = 0 := by unfold famA; repeat (first | rw [if_pos (by omega)] | rw [if_neg (by omega)])
    rw [e]
    exact fam_12 p (by omega) (by omega) w
  by_cases h16 : p ≤ 29
  · have e : famA p = 1 := by unfold famA; repeat (first | rw [if_pos (by omega)] | rw [if_neg (by omega)])
    rw [e]
    exact fam_16 p (by omega) (by omega) w
  by_cases h30 : p ≤ 31
  · have e : famA p = 0 := by unfold famA; repeat (first | rw [if_pos (by omega)] | rw [if_neg (by omega)])
    rw [e]
    exact fam_30 p (by omega) (by omega) w
  by_cases h32 : p ≤ 32
  · obtain rfl : p = 32 := by omega
    exact fam_32 w
  by_cases h33 : p ≤ 47
  · have e : famA p = 0 := by unfold famA; repeat (first | rw [if_pos (by omega)] | rw [if_neg (by omega)])
    rw [e]
    exact fam_33 p (by omega) (by omega) w
  by_cases h48 : p ≤ 72
  · have e : famA p = 2 := by unfold famA; repeat (first | rw [if_pos (by omega)] | rw [if_neg (by omega)])
    rw [e]
    exact fam_48 p (by omega) (by omega) w
  by_cases h73 : p ≤ 79
  · have e : famA p = 0 := by unfold famA; repeat (first | rw [if_pos (by omega)] | rw [if_neg (by omega)])
    rw [e]
    exact fam_73 p (by omega) (by omega) w
  by_cases h80 : p ≤ 83
  · have e : famA p = 2 := by unfold famA; repeat (first | rw [if_pos (by omega)] | rw [if_neg (by omega)])
    rw [e]
    exact fam_80 p (by omega) (by omega) w
  by_cases h84 : p ≤ 84
  · obtain rfl : p = 84 := by omega
    exact fam_84 w
  by_cases h85 : p ≤ 85
  · obtain rfl : p = 85 := by omega
    exact fam_85 w
  by_cases h86 : p ≤ 88
  · have e : famA p = 4 := by unfold famA; repeat (first | rw [if_pos (by omega)] | rw [if_neg (by omega)])
    rw [e]
    exact fam_86 p (by omega) (by omega) w
  by_cases h89 : p ≤ 89
  · obtain rfl : p = 89 := by omega
    exact fam_89 w
  by_cases h90 : p ≤ 90
  · obtain rfl : p = 90 := by omega
    exact fam_90 w
  by_cases h91 : p ≤ 91
  · obtain rfl : p = 91 := by omega
    exact fam_91 w
  by_cases h92 : p ≤ 92
  · obtain rfl : p = 92 := by omega
    exact fam_92 w
  by_cases h93 : p ≤ 93
  · obtain rfl : p = 93 := by omega
    exact fam_93 w
  by_cases h94 : p ≤ 159
  · have e : famA p = 2 := by unfold famA; repeat (first | rw [if_pos (by omega)] | rw [if_neg (by omega)])
    rw [e]
    exact fam_94 p (by omega) (by omega) w
  by_cases h160 : p ≤ 164
  · have e : famA p = 8 := by unfold famA; repeat (first | rw [if_pos (by omega)] | rw [if_neg (by omega)])
    rw [e]
    exact fam_160 p (by omega) (by omega) w
  by_cases h165 : p ≤ 239
  · have e : famA p = 0 := by unfold famA; repeat (first | rw [if_pos (by omega)] | rw [if_neg (by omega)])
    rw [e]
    exact fam_165 p (by omega) (by omega) w
  by_cases h240 : p ≤ 240
  · obtain rfl : p = 240 := by omega
    exact fam_240 w
  by_cases h241 : p ≤ 241
  · obtain rfl : p = 241 := by omega
    exact fam_241 w
  by_cases h242 : p ≤ 242
  · obtain rfl : p = 242 := by omega
    exact fam_242 w
  by_cases h243 : p ≤ 243
  · obtain rfl : p = 243 := by omega
    exact fam_243 w
  by_cases h244 : p ≤ 244
  · obtain rfl : p = 244 := by omega
    exact fam_244 w
  by_cases h245 : p ≤ 245
  · obtain rfl : p = 245 := by omega
    exact fam_245 w
  by_cases h246 : p ≤ 249
  · have e : famA p = 0 := by unfold famA; repeat (first | rw [if_pos (by omega)] | rw [if_neg (by omega)])
    rw [e]
    exact fam_246 p (by omega) (by omega) w
  by_cases h250 : p ≤ 250
  · obtain rfl : p = 250 := by omega
    exact fam_250 w
  by_cases h251 : p ≤ 252
  · have e : famA p = 0 := by unfold famA; repeat (first | rw [if_pos (by omega)] | rw [if_neg (by omega)])
    rw [e]
    exact fam_251 p (by omega) (by omega) w
  by_cases h253 : p ≤ 253
  · obtain rfl : p = 253 := by omega
    exact fam_253 w
  by_cases h254 : p ≤ 254
  · obtain rfl : p = 254 := by omega
    exact fam_254 w
  obtain rfl : p = 255 := by omega
  exact fam_255 w
set_option maxHeartbeats 2000000 in
theorem ari_0 (w : World) : Calls Sakg.prog 202 #[.int .u8 0] w fun e w' => e = .returned (.tuple #[.int .i64 0, .int .i64 0, .bool true]) ∧ w = w' := by
  have HF := hide (family_any 0 (by omega) w)
  rw [show famA 0 = 31 from rfl] at HF
  go_enter Sakg.func202, Sakg.ntmps202
  go_wp2_with (go_at_call 120; refine (unhide HF).mono ?_; rintro e w1 ⟨rfl, rfl⟩)
  go_ret3
  exact ⟨rfl, rfl⟩
set_option maxHeartbeats 2000000 in
theorem ari_1 (p : Nat) (h1 : 1 ≤ p) (h2 : p ≤ 7) (w : World) : Calls Sakg.prog 202 #[.int .u8 p] w fun e w' => e = .returned (.tuple #[.int .i64 2, .int .i64 1, .bool true]) ∧ w = w' := by
  have HF := hide (family_any p (by omega) w)
  have q0 : famA p ≠ 0 := by unfold famA; repeat (first | omega | split)
  have q1 : famA p = 1 := by unfold famA; repeat (first | omega | split)
  have hf0 : ((famA p : Int) == 0) = false := by rw [beq_eq_false_iff_ne]; omega
  have hf1 : ((famA p : Int) == 1) = true := by rw [beq_iff_eq]; omega
  have hfl : famA p ≤ 31 := by unfold famA; repeat (first | omega | split)
  clear q0 q1
  generalize famA p = F at HF hf0 hf1 hfl
  have u128 : decide ((128 : Int) ≤ (p : Int)) = false := decide_eq_false (by omega)
  have u144 : decide ((144 : Int) ≤ (p : Int)) = false := decide_eq_false (by omega)
  have u160 : decide ((160 : Int) ≤ (p : Int)) = false := decide_eq_false (by omega)
  have t0 : ((p : Int) == 0) = false := by rw [beq_eq_false_iff_ne]; omega
  have t91 : ((p : Int) == 91) = false := by rw [beq_eq_false_iff_ne]; omega
  have t255 : ((p : Int) == 255) = false := by rw [beq_eq_false_iff_ne]; omega
  have t80 : ((p : Int) == 80) = false := by rw [beq_eq_false_iff_ne]; omega
  have t86 : ((p : Int) == 86) = false := by rw [beq_eq_false_iff_ne]; omega
  have t8 : ((p : Int) == 8) = false := by rw [beq_eq_false_iff_ne]; omega
  have t9 : ((p : Int) == 9) = false := by rw [beq_eq_false_iff_ne]; omega
  have t240 : ((p : Int) == 240) = false := by rw [beq_eq_false_iff_ne]; omega
  have t21 : ((p : Int) == 21) = false := by rw [beq_eq_false_iff_ne]; omega
  have t25 : ((p : Int) == 25) = false := by rw [beq_eq_false_iff_ne]; omega
  have t49 : ((p : Int) == 49) = false := by rw [beq_eq_false_iff_ne]; omega
  have t53 : ((p : Int) == 53) = false := by rw [beq_eq_false_iff_ne]; omega
  have t59 : ((p : Int) == 59) = false := by rw [beq_eq_false_iff_ne]; omega
  have t63 : ((p : Int) == 63) = false := by rw [beq_eq_false_iff_ne]; omega
  have t64 : ((p : Int) == 64) = false := by rw [beq_eq_false_iff_ne]; omega
  have t81 : ((p : Int) == 81) = false := by rw [beq_eq_false_iff_ne]; omega
  have t84 : ((p : Int) == 84) = false := by rw [beq_eq_false_iff_ne]; omega
  have t92 : ((p : Int) == 92) = false := by rw [beq_eq_false_iff_ne]; omega
  have t82 : ((p : Int) == 82) = false := by rw [beq_eq_false_iff_ne]; omega
  have t83 : ((p : Int) == 83) = false := by rw [beq_eq_false_iff_ne]; omega
  have t85 : ((p : Int) == 85) = false := by rw [beq_eq_false_iff_ne]; omega
  have t93 : ((p : Int) == 93) = false := by rw [beq_eq_false_iff_ne]; omega
  have t87 : ((p : Int) == 87) = false := by rw [beq_eq_false_iff_ne]; omega
  have t243 : ((p : Int) == 243) = false := by rw [beq_eq_false_iff_ne]; omega
  have t253 : ((p : Int) == 253) = false := by rw [beq_eq_false_iff_ne]; omega
  have t55 : ((p : Int) == 55) = false := by rw [beq_eq_false_iff_ne]; omega
  have t57 : ((p : Int) == 57) = false := by rw [beq_eq_false_iff_ne]; omega
  have t62 : ((p : Int) == 62) = false := by rw [beq_eq_false_iff_ne]; omega
  have t94 : ((p : Int) == 94) = false := by rw [beq_eq_false_iff_ne]; omega
  have t60 : ((p : Int) == 60) = false := by rw [beq_eq_false_iff_ne]; omega
  have t245 : ((p : Int) == 245) = false := by rw [beq_eq_false_iff_ne]; omega
  have t241 : ((p : Int) == 241) = false := by rw [beq_eq_false_iff_ne]; omega
  have t242 : ((p : Int) == 242) = false := by rw [beq_eq_false_iff_ne]; omega
  have t244 : ((p : Int) == 244) = false := by rw [beq_eq_false_iff_ne]; omega
  have t250 : ((p : Int) == 250) = false := by rw [beq_eq_false_iff_ne]; omega
  go_enter Sakg.func202, Sakg.ntmps202
  go_wp2_with (go_at_call 120; refine (unhide HF).mono ?_; rintro e w1 ⟨rfl, rfl⟩)
  go_ret3
  exact ⟨rfl, rfl⟩
set_option maxHeartbeats 2000000 in
theorem ari_8 (w : World) : Calls Sakg.prog 202 #[.int .u8 8] w fun e w' => e = .returned (.tuple #[.int .i64 3, .int .i64 1, .bool true]) ∧ w = w' := by
  have HF := hide (family_any 8 (by omega) w)
  rw [show famA 8 = 1 from rfl] at HF
  go_enter Sakg.func202, Sakg.ntmps202
  go_wp2_with (go_at_call 120; refine (unhide HF).mono ?_; rintro e w1 ⟨rfl, rfl⟩)
  go_ret3
  exact ⟨rfl, rfl⟩
set_option maxHeartbeats 2000000 in
theorem ari_9 (w : World) : Calls Sakg.prog 202 #[.int .u8 9] w fun e w' => e = .returned (.tuple #[.int .i64 3, .int .i64 1, .bool true]) ∧ w = w' := by
  have HF := hide (family_any 9 (by omega) w)
  rw [show famA 9 = 1 from rfl] at HF
  go_enter Sakg.func202, Sakg.ntmps202
  go_wp2_with (go_at_call 120; refine (unhide HF).mono ?_; rintro e w1 ⟨rfl, rfl⟩)
  go_ret3
  exact ⟨rfl, rfl⟩
set_option maxHeartbeats 2000000 in
theorem ari_10 (p : Nat) (h1 : 10 ≤ p) (h2 : p ≤ 11) (w : World) : Calls Sakg.prog 202 #[.int .u8 p] w fun e w' => e = .returned (.tuple #[.int .i64 2, .int .i64 1, .bool true]) ∧ w = w' := by
  have HF := hide (family_any p (by omega) w)
  have q0 : famA p ≠ 0 := by unfold famA; repeat (first | omega | split)
  have q1 : famA p = 1 := by unfold famA; repeat (first | omega | split)
  have hf0 : ((famA p : Int) == 0) = false := by rw [beq_eq_false_iff_ne]; omega
  have hf1 : ((famA p : Int) == 1) = true := by rw [beq_iff_eq]; omega
  have hfl : famA p ≤ 31 := by unfold famA; repeat (first | omega | split)
  clear q0 q1
  generalize famA p = F at HF hf0 hf1 hfl
  have u128 : decide ((128 : Int) ≤ (p : Int)) = false := decide_eq_false (by omega)
  have u144 : decide ((144 : Int) ≤ (p : Int)) = false := decide_eq_false (by omega)
  have u160 : decide ((160 : Int) ≤ (p : Int)) = false := decide_eq_false (by omega)
  have t0 : ((p : Int) == 0) = false := by rw [beq_eq_false_iff_ne]; omega
  have t91 : ((p : Int) == 91) = false := by rw [beq_eq_false_iff_ne]; omega
  have t255 : ((p : Int) == 255) = false := by rw [beq_eq_false_iff_ne]; omega
  have t80 : ((p : Int) == 80) = false := by rw [beq_eq_false_iff_ne]; omega
  have t86 : ((p : Int) == 86) = false := by rw [beq_eq_false_iff_ne]; omega
  have t8 : ((p : Int) == 8) = false := by rw [beq_eq_false_iff_ne]; omega
  have t9 : ((p : Int) == 9) = false := by rw [beq_eq_false_iff_ne]; omega
  have t240 : ((p : Int) == 240) = false := by rw [beq_eq_false_iff_ne]; omega
  have t21 : ((p : Int) == 21) = false := by rw [beq_eq_false_iff_ne]; omega
  have t25 : ((p : Int) == 25) = false := by rw [beq_eq_false_iff_ne]; omega
  have t49 : ((p : Int) == 49) = false := by rw [beq_eq_false_iff_ne]; omega
  have t53 : ((p : Int) == 53) = false := by rw [beq_eq_false_iff_ne]; omega
  have t59 : ((p : Int) == 59) = false := by rw [beq_eq_false_iff_ne]; omega
  have t63 : ((p : Int) == 63) = false := by rw [beq_eq_false_iff_ne]; omega
  have t64 : ((p : Int) == 64) = false := by rw [beq_eq_false_iff_ne]; omega
  have t81 : ((p : Int) == 81) = false := by rw [beq_eq_false_iff_ne]; omega
  have t84 : ((p : Int) == 84) = false := by rw [beq_eq_false_iff_ne]; omega
  have t92 : ((p : Int) == 92) = false := by rw [beq_eq_false_iff_ne]; omega
  have t82 : ((p : Int) == 82) = false := by rw [beq_eq_false_iff_ne]; omega
  have t83 : ((p : Int) == 83) = false := by rw [beq_eq_false_iff_ne]; omega
  have t85 : ((p : Int) == 85) = false := by rw [beq_eq_false_iff_ne]; omega
  have t93 : ((p : Int) == 93) = false := by rw [beq_eq_false_iff_ne]; omega
  have t87 : ((p : Int) == 87) = false := by rw [beq_eq_false_iff_ne]; omega
  have t243 : ((p : Int) == 243) = false := by rw [beq_eq_false_iff_ne]; omega
  have t253 : ((p : Int) == 253) = false := by rw [beq_eq_false_iff_ne]; omega
  have t55 : ((p : Int) == 55) = false := by rw [beq_eq_false_iff_ne]; omega
  have t57 : ((p : Int) == 57) = false := by rw [beq_eq_false_iff_ne]; omega
  have t62 : ((p : Int) == 62) = false := by rw [beq_eq_false_iff_ne]; omega
  have t94 : ((p : Int) == 94) = false := by rw [beq_eq_false_iff_ne]; omega
  have t60 : ((p : Int) == 60) = false := by rw [beq_eq_false_iff_ne]; omega
  have t245 : ((p : Int) == 245) = false := by rw [beq_eq_false_iff_ne]; omega
  have t241 : ((p : Int) == 241) = false := by rw [beq_eq_false_iff_ne]; omega
  have t242 : ((p : Int) == 242) = false := by rw [beq_eq_false_iff_ne]; omega
  have t244 : ((p : Int) == 244) = false := by rw [beq_eq_false_iff_ne]; omega
  have t250 : ((p : Int) == 250) = false := by rw [beq_eq_false_iff_ne]; omega
  go_enter Sakg.func202, Sakg.ntmps202
  go_wp2_with (go_at_call 120; refine (unhide HF).mono ?_; rintro e w1 ⟨rfl, rfl⟩)
  go_ret3
  exact ⟨rfl, rfl⟩
set_option maxHeartbeats 2000000 in
theorem ari_12 (p : Nat) (h1 : 12 ≤ p) (h2 : p ≤ 15) (w : World) : Calls Sakg.prog 202 #[.int .u8 p] w fun e w' => e = .returned (.tuple #[.int .i64 0, .int .i64 0, .bool false]) ∧ w = w' := by
  have HF := hide (family_any p (by omega) w)
  have q0 : famA p = 0 := by unfold famA; repeat (first | omega | split)
  have q1 : famA p ≠ 1 := by unfold famA; repeat (first | omega | split)
  have hf0 : ((famA p : Int) == 0) = true := by rw [beq_iff_eq]; omega
  have hf1 : ((famA p : Int) == 1) = false := by rw [beq_eq_false_iff_ne]; omega
  have hfl : famA p ≤ 31 := by unfold famA; repeat (first | omega | split)
  clear q0 q1
  generalize famA p = F at HF hf0 hf1 hfl
  have u128 : decide ((128 : Int) ≤ (p : Int)) = false := decide_eq_false (by omega)
  have u144 : decide ((144 : Int) ≤ (p : Int)) = false := decide_eq_false (by omega)
  have u160 : decide ((160 : Int) ≤ (p : Int)) = false := decide_eq_false (by omega)
  have t0 : ((p : Int) == 0) = false := by rw [beq_eq_false_iff_ne]; omega
  have t91 : ((p : Int) == 91) = false := by rw [beq_eq_false_iff_ne]; omega
  have t255 : ((p : Int) == 255) = false := by rw [beq_eq_false_iff_ne]; omega
  have t80 : ((p : Int) == 80) = false := by rw [beq_eq_false_iff_ne]; omega
  have t86 : ((p : Int) == 86) = false := by rw [beq_eq_false_iff_ne]; omega
  have t8 : ((p : Int) == 8) = false := by rw [beq_eq_false_iff_ne]; omega
  have t9 : ((p : Int) == 9) = false := by rw [beq_eq_false_iff_ne]; omega
  have t240 : ((p : Int) == 240) = false := by rw [beq_eq_false_iff_ne]; omega
  have t21 : ((p : Int) == 21) = false := by rw [beq_eq_false_iff_ne]; omega
  have t25 : ((p : Int) == 25) = false := by rw [beq_eq_false_iff_ne]; omega
  have t49 : ((p : Int) == 49) = false := by rw [beq_eq_false_iff_ne]; omega
  have t53 : ((p : Int) == 53) = false := by rw [beq_eq_false_iff_ne]; omega
  have t59 : ((p : Int) == 59) = false := by rw [beq_eq_false_iff_ne]; omega
  have t63 : ((p : Int) == 63) = false := by rw [beq_eq_false_iff_ne]; omega
  have t64 : ((p : Int) == 64) = false := by rw [beq_eq_false_iff_ne]; omega
  have t81 : ((p : Int) == 81) = false := by rw [beq_eq_false_iff_ne]; omega
  have t84 : ((p : Int) == 84) = false := by rw [beq_eq_false_iff_ne]; omega
  have t92 : ((p : Int) == 92) = false := by rw [beq_eq_false_iff_ne]; omega
  have t82 : ((p : Int) == 82) = false := by rw [beq_eq_false_iff_ne]; omega
  have t83 : ((p : Int) == 83) = false := by rw [beq_eq_false_iff_ne]; omega
  have t85 : ((p : Int) == 85) = false := by rw [beq_eq_false_iff_ne]; omega
  have t93 : ((p : Int) == 93) = false := by rw [beq_eq_false_iff_ne]; omega
  have t87 : ((p : Int) == 87) = false := by rw [beq_eq_false_iff_ne]; omega
  have t243 : ((p : Int) == 243) = false := by rw [beq_eq_false_iff_ne]; omega
  have t253 : ((p : Int) == 253) = false := by rw [beq_eq_false_iff_ne]; omega
  have t55 : ((p : Int) == 55) = false := by rw [beq_eq_false_iff_ne]; omega
  have t57 : ((p : Int) == 57) = false := by rw [beq_eq_false_iff_ne]; omega
  have t62 : ((p : Int) == 62) = false := by rw [beq_eq_false_iff_ne]; omega
  have t94 : ((p : Int) == 94) = false := by rw [beq_eq_false_iff_ne]; omega
  have t60 : ((p : Int) == 60) = false := by rw [beq_eq_false_iff_ne]; omega
  have t245 : ((p : Int) == 245) = false := by rw [beq_eq_false_iff_ne]; omega
  have t241 : ((p : Int) == 241) = false := by rw [beq_eq_false_iff_ne]; omega
  have t242 : ((p : Int) == 242) = false := by rw [beq_eq_false_iff_ne]; omega
  have t244 : ((p : Int) == 244) = false := by rw [beq_eq_false_iff_ne]; omega
  have t250 : ((p : Int) == 250) = false := by rw [beq_eq_false_iff_ne]; omega
  go_enter Sakg.func202, Sakg.ntmps202
  go_wp2_with (go_at_call 120; refine (unhide HF).mono ?_; rintro e w1 ⟨rfl, rfl⟩)
  go_ret3
  exact ⟨rfl, rfl⟩
set_option maxHeartbeats 2000000 in
theorem ari_16 (p : Nat) (h1 : 16 ≤ p) (h2 : p ≤ 20) (w : World) : Calls Sakg.prog 202 #[.int .u8 p] w fun e w' => e = .returned (.tuple #[.int .i64 2, .int .i64 1, .bool true]) ∧ w = w' := by
  have HF := hide (family_any p (by omega) w)
  have q0 : famA p ≠ 0 := by unfold famA; repeat (first | omega | split)
  have q1 : famA p = 1 := by unfold famA; repeat (first | omega | split)
  have hf0 : ((famA p : Int) == 0) = false := by rw [beq_eq_false_iff_ne]; omega
  have hf1 : ((famA p : Int) == 1) = true := by rw [beq_iff_eq]; omega
  have hfl : famA p ≤ 31 := by unfold famA; repeat (first | omega | split)
  clear q0 q1
  generalize famA p = F at HF hf0 hf1 hfl
  have u128 : decide ((128 : Int) ≤ (p : Int)) = false := decide_eq_false (by omega)
  have u144 : decide ((144 : Int) ≤ (p : Int)) = false := decide_eq_false (by omega)
  have u160 : decide ((160 : Int) ≤ (p : Int)) = false := decide_eq_false (by omega)
  have t0 : ((p : Int) == 0) = false := by rw [beq_eq_false_iff_ne]; omega
  have t91 : ((p : Int) == 91) = false := by rw [beq_eq_false_iff_ne]; omega
  have t255 : ((p : Int) == 255) = false := by rw [beq_eq_false_iff_ne]; omega
  have t80 : ((p : Int) == 80) = false := by rw [beq_eq_false_iff_ne]; omega
  have t86 : ((p : Int) == 86) = false := by rw [beq_eq_false_iff_ne]; omega
  have t8 : ((p : Int) == 8) = false := by rw [beq_eq_false_iff_ne]; omega
  have t9 : ((p : Int) == 9) = false := by rw [beq_eq_false_iff_ne]; omega
  have t240 : ((p : Int) == 240) = false := by rw [beq_eq_false_iff_ne]; omega
  have t21 : ((p : Int) == 21) = false := by rw [beq_eq_false_iff_ne]; omega
  have t25 : ((p : Int) == 25) = false := by rw [beq_eq_false_iff_ne]; omega
  have t49 : ((p : Int) == 49) = false := by rw [beq_eq_false_iff_ne]; omega
  have t53 : ((p : Int) == 53) = false := by rw [beq_eq_false_iff_ne]; omega
  have t59 : ((p : Int) == 59) = false := by rw [beq_eq_false_iff_ne]; omega
  have t63 : ((p : Int) == 63) = false := by rw [beq_eq_false_iff_ne]; omega
  have t64 : ((p : Int) == 64) = false := by rw [beq_eq_false_iff_ne]; omega
  have t81 : ((p : Int) == 81) = false := by rw [beq_eq_false_iff_ne]; omega
  have t84 : ((p : Int) == 84) = false := by rw [beq_eq_false_iff_ne]; omega
  have t92 : ((p : Int) == 92) = false := by rw [beq_eq_false_iff_ne]; omega
  have t82 : ((p : Int) == 82) = false := by rw [beq_eq_false_iff_ne]; omega
  have t83 : ((p : Int) == 83) = false := by rw [beq_eq_false_iff_ne]; omega
  have t85 : ((p : Int) == 85) = false := by rw [beq_eq_false_iff_ne]; omega
  have t93 : ((p : Int) == 93) = false := by rw [beq_eq_false_iff_ne]; omega
  have t87 : ((p : Int) == 87) = false := by rw [beq_eq_false_iff_ne]; omega
  have t243 : ((p : Int) == 243) = false := by rw [beq_eq_false_iff_ne]; omega
  have t253 : ((p : Int) == 253) = false := by rw [beq_eq_false_iff_ne]; omega
  have t55 : ((p : Int) == 55) = false := by rw [beq_eq_false_iff_ne]; omega
  have t57 : ((p : Int) == 57) = false := by rw [beq_eq_false_iff_ne]; omega
  have t62 : ((p : Int) == 62) = false := by rw [beq_eq_false_iff_ne]; omega
  have t94 : ((p : Int) == 94) = false := by rw [beq_eq_false_iff_ne]; omega
  have t60 : ((p : Int) == 60) = false := by rw [beq_eq_false_iff_ne]; omega
  have t245 : ((p : Int) == 245) = false := by rw [beq_eq_false_iff_ne]; omega
  have t241 : ((p : Int) == 241) = false := by rw [beq_eq_false_iff_ne]; omega
  have t242 : ((p : Int) == 242) = false := by rw [beq_eq_false_iff_ne]; omega
  have t244 : ((p : Int) == 244) = false := by rw [beq_eq_false_iff_ne]; omega
  have t250 : ((p : Int) == 250) = false := by rw [beq_eq_false_iff_ne]; omega
  go_enter Sakg.func202, Sakg.ntmps202
  go_wp2_with (go_at_call 120; refine (unhide HF).mono ?_; rintro e w1 ⟨rfl, rfl⟩)
  go_ret3
  exact ⟨rfl, rfl⟩
set_option maxHeartbeats 2000000 in
theorem ari_21 (w : World) : Calls Sakg.prog 202 #[.int .u8 21] w fun e w' => e = .returned (.tuple #[.int .i64 1, .int .i64 1, .bool true]) ∧ w = w' := by
  have HF := hide (family_any 21 (by omega) w)
  rw [show famA 21 = 1 from rfl] at HF
  go_enter Sakg.func202, Sakg.ntmps202
  go_wp2_with (go_at_call 120; refine (unhide HF).mono ?_; rintro e w1 ⟨rfl, rfl⟩)
  go_ret3
  exact ⟨rfl, rfl⟩
set_option maxHeartbeats 2000000 in
theorem ari_22 (p : Nat) (h1 : 22 ≤ p) (h2 : p ≤ 24) (w : World) : Calls Sakg.prog 202 #[.int .u8 p] w fun e w' => e = .returned (.tuple #[.int .i64 2, .int .i64 1, .bool true]) ∧ w = w' := by
  have HF := hide (family_any p (by omega) w)
  have q0 : famA p ≠ 0 := by unfold famA; repeat (first | omega | split)
  have q1 : famA p = 1 := by unfold famA; repeat (first | omega | split)
  have hf0 : ((famA p : Int) == 0) = false := by rw [beq_eq_false_iff_ne]; omega
  have hf1 : ((famA p : Int) == 1) = true := by rw [beq_iff_eq]; omega
  have hfl : famA p ≤ 31 := by unfold famA; repeat (first | omega | split)
  clear q0 q1
  generalize famA p = F at HF hf0 hf1 hfl
  have u128 : decide ((128 : Int) ≤ (p : Int)) = false := decide_eq_false (by omega)
  have u144 : decide ((144 : Int) ≤ (p : Int)) = false := decide_eq_false (by omega)
  have u160 : decide ((160 : Int) ≤ (p : Int)) = false := decide_eq_false (by omega)
  have t0 : ((p : Int) == 0) = false := by rw [beq_eq_false_iff_ne]; omega
  have t91 : ((p : Int) == 91) = false := by rw [beq_eq_false_iff_ne]; omega
  have t255 : ((p : Int) == 255) = false := by rw [beq_eq_false_iff_ne]; omega
  have t80 : ((p : Int) == 80) = false := by rw [beq_eq_false_iff_ne]; omega
  have t86 : ((p : Int) == 86) = false := by rw [beq_eq_false_iff_ne]; omega
  have t8 : ((p : Int) == 8) = false := by rw [beq_eq_false_iff_ne]; omega
  have t9 : ((p : Int) == 9) = false := by rw [beq_eq_false_iff_ne]; omega
  have t240 : ((p : Int) == 240) = false := by rw [beq_eq_false_iff_ne]; omega
  have t21 : ((p : Int) == 21) = false := by rw [beq_eq_false_iff_ne]; omega
  have t25 : ((p : Int) == 25) = false := by rw [beq_eq_false_iff_ne]; omega
  have t49 : ((p : Int) == 49) = false := by rw [beq_eq_false_iff_ne]; omega
  have t53 : ((p : Int) == 53) = false := by rw [beq_eq_false_iff_ne]; omega
  have t59 : ((p : Int) == 59) = false := by rw [beq_eq_false_iff_ne]; omega
  have t63 : ((p : Int) == 63) = false := by rw [beq_eq_false_iff_ne]; omega
  have t64 : ((p : Int) == 64) = false := by rw [beq_eq_false_iff_ne]; omega
  have t81 : ((p : Int) == 81) = false := by rw [beq_eq_false_iff_ne]; omega
  have t84 : ((p : Int) == 84) = false := by rw [beq_eq_false_iff_ne]; omega
  have t92 : ((p : Int) == 92) = false := by rw [beq_eq_false_iff_ne]; omega
  have t82 : ((p : Int) == 82) = false := by rw [beq_eq_false_iff_ne]; omega
  have t83 : ((p : Int) == 83) = false := by rw [beq_eq_false_iff_ne]; omega
  have t85 : ((p : Int) == 85) = false := by rw [beq_eq_false_iff_ne]; omega
  have t93 : ((p : Int) == 93) = false := by rw [beq_eq_false_iff_ne]; omega
  have t87 : ((p : Int) == 87) = false := by rw [beq_eq_false_iff_ne]; omega
  have t243 : ((p : Int) == 243) = false := by rw [beq_eq_false_iff_ne]; omega
  have t253 : ((p : Int) == 253) = false := by rw [beq_eq_false_iff_ne]; omega
  have t55 : ((p : Int) == 55) = false := by rw [beq_eq_false_iff_ne]; omega
  have t57 : ((p : Int) == 57) = false := by rw [beq_eq_false_iff_ne]; omega
  have t62 : ((p : Int) == 62) = false := by rw [beq_eq_false_iff_ne]; omega
  have t94 : ((p : Int) == 94) = false := by rw [beq_eq_false_iff_ne]; omega
  have t60 : ((p : Int) == 60) = false := by rw [beq_eq_false_iff_ne]; omega
  have t245 : ((p : Int) == 245) = false := by rw [beq_eq_false_iff_ne]; omega
  have t241 : ((p : Int) == 241) = false := by rw [beq_eq_false_iff_ne]; omega
  have t242 : ((p : Int) == 242) = false := by rw [beq_eq_false_iff_ne]; omega
  have t244 : ((p : Int) == 244) = false := by rw [beq_eq_false_iff_ne]; omega
  have t250 : ((p : Int) == 250) = false := by rw [beq_eq_false_iff_ne]; omega
  go_enter Sakg.func202, Sakg.ntmps202
  go_wp2_with (go_at_call 120; refine (unhide HF).mono ?_; rintro e w1 ⟨rfl, rfl⟩)
  go_ret3
  exact ⟨rfl, rfl⟩
set_option maxHeartbeats 2000000 in
theorem ari_25 (w : World) : Calls Sakg.prog 202 #[.int .u8 25] w fun e w' => e = .returned (.tuple #[.int .i64 1, .int .i64 1, .bool true]) ∧ w = w' := by
  have HF := hide (family_any 25 (by omega) w)
  rw [show famA 25 = 1 from rfl] at HF
  go_enter Sakg.func202, Sakg.ntmps202
  go_wp2_with (go_at_call 120; refine (unhide HF).mono ?_; rintro e w1 ⟨rfl, rfl⟩)
  go_ret3
  exact ⟨rfl, rfl⟩
set_option maxHeartbeats 2000000 in
theorem ari_26 (p : Nat) (h1 : 26 ≤ p) (h2 : p ≤ 29) (w : World) : Calls Sakg.prog 202 #[.int .u8 p] w fun e w' => e = .returned (.tuple #[.int .i64 2, .int .i64 1, .bool true]) ∧ w = w' := by
  have HF := hide (family_any p (by omega) w)
  have q0 : famA p ≠ 0 := by unfold famA; repeat (first | omega | split)
  have q1 : famA p = 1 := by unfold famA; repeat (first | omega | split)
  have hf0 : ((famA p : Int) == 0) = false := by rw [beq_eq_false_iff_ne]; omega
  have hf1 : ((famA p : Int) == 1) = true := by rw [beq_iff_eq]; omega
  have hfl : famA p ≤ 31 := by unfold famA; repeat (first | omega | split)
  clear q0 q1
  generalize famA p = F at HF hf0 hf1 hfl
  have u128 : decide ((128 : Int) ≤ (p : Int)) = false := decide_eq_false (by omega)
  have u144 : decide ((144 : Int) ≤ (p : Int)) = false := decide_eq_false (by omega)
  have u160 : decide ((160 : Int) ≤ (p : Int)) = false := decide_eq_false (by omega)
  have t0 : ((p : Int) == 0) = false := by rw [beq_eq_false_iff_ne]; omega
  have t91 : ((p : Int) == 91) = false := by rw [beq_eq_false_iff_ne]; omega
  have t255 : ((p : Int) == 255) = false := by rw [beq_eq_false_iff_ne]; omega
  have t80 : ((p : Int) == 80) = false := by rw [beq_eq_false_iff_ne]; omega
  have t86 : ((p : Int) == 86) = false := by rw [beq_eq_false_iff_ne]; omega
  have t8 : ((p : Int) == 8) = false := by rw [beq_eq_false_iff_ne]; omega
  have t9 : ((p : Int) == 9) = false := by rw [beq_eq_false_iff_ne]; omega
  have t240 : ((p : Int) == 240) = false := by rw [beq_eq_false_iff_ne]; omega
  have t21 : ((p : Int) == 21) = false := by rw [beq_eq_false_iff_ne]; omega
  have t25 : ((p : Int) == 25) = false := by rw [beq_eq_false_iff_ne]; omega
  have t49 : ((p : Int) == 49) = false := by rw [beq_eq_false_iff_ne]; omega
  have t53 : ((p : Int) == 53) = false := by rw [beq_eq_false_iff_ne]; omega
  have t59 : ((p : Int) == 59) = false := by rw [beq_eq_false_iff_ne]; omega
  have t63 : ((p : Int) == 63) = false := by rw [beq_eq_false_iff_ne]; omega
  have t64 : ((p : Int) == 64) = false := by rw [beq_eq_false_iff_ne]; omega
  have t81 : ((p : Int) == 81) = false := by rw [beq_eq_false_iff_ne]; omega
  have t84 : ((p : Int) == 84) = false := by rw [beq_eq_false_iff_ne]; omega
  have t92 : ((p : Int) == 92) = false := by rw [beq_eq_false_iff_ne]; omega
  have t82 : ((p : Int) == 82) = false := by rw [beq_eq_false_iff_ne]; omega
  have t83 : ((p : Int) == 83) = false := by rw [beq_eq_false_iff_ne]; omega
  have t85 : ((p : Int) == 85) = false := by rw [beq_eq_false_iff_ne]; omega
  have t93 : ((p : Int) == 93) = false := by rw [beq_eq_false_iff_ne]; omega
  have t87 : ((p : Int) == 87) = false := by rw [beq_eq_false_iff_ne]; omega
  have t243 : ((p : Int) == 243) = false := by rw [beq_eq_false_iff_ne]; omega
  have t253 : ((p : Int) == 253) = false := by rw [beq_eq_false_iff_ne]; omega
  have t55 : ((p : Int) == 55) = false := by rw [beq_eq_false_iff_ne]; omega
  have t57 : ((p : Int) == 57) = false := by rw [beq_eq_false_iff_ne]; omega
  have t62 : ((p : Int) == 62) = false := by rw [beq_eq_false_iff_ne]; omega
  have t94 : ((p : Int) == 94) = false := by rw [beq_eq_false_iff_ne]; omega
  have t60 : ((p : Int) == 60) = false := by rw [beq_eq_false_iff_ne]; omega
  have t245 : ((p : Int) == 245) = false := by rw [beq_eq_false_iff_ne]; omega
  have t241 : ((p : Int) == 241) = false := by rw [beq_eq_false_iff_ne]; omega
  have t242 : ((p : Int) == 242) = false := by rw [beq_eq_false_iff_ne]; omega
  have t244 : ((p : Int) == 244) = false := by rw [beq_eq_false_iff_ne]; omega
  have t250 : ((p : Int) == 250) = false := by rw [beq_eq_false_iff_ne]; omega
  go_enter Sakg.func202, Sakg.ntmps202
  go_wp2_with (go_at_call 120; refine (unhide HF).mono ?_; rintro e w1 ⟨rfl, rfl⟩)
  go_ret3
  exact ⟨rfl, rfl⟩
set_option maxHeartbeats 2000000 in
theorem ari_30 (p : Nat) (h1 : 30 ≤ p) (h2 : p ≤ 31) (w : World) : Calls Sakg.prog 202 #[.int .u8 p] w fun e w' => e = .returned (.tuple #[.int .i64 0, .int .i64 0, .bool false]) ∧ w = w' := by
  have HF := hide (family_any p (by omega) w)
  have q0 : famA p = 0 := by unfold famA; repeat (first | omega | split)
  have q1 : famA p ≠ 1 := by unfold famA; repeat (first | omega | split)
  have hf0 : ((famA p : Int) == 0) = true := by rw [beq_iff_eq]; omega
  have hf1 : ((famA p : Int) == 1) = false := by rw [beq_eq_false_iff_ne]; omega
  have hfl : famA p ≤ 31 := by unfold famA; repeat (first | omega | split)
  clear q0 q1
  generalize famA p = F at HF hf0 hf1 hfl
  have u128 : decide ((128 : Int) ≤ (p : Int)) = false := decide_eq_false (by omega)
  have u144 : decide ((144 : Int) ≤ (p : Int)) = false := decide_eq_false (by omega)
  have u160 : decide ((160 : Int) ≤ (p : Int)) = false := decide_eq_false (by omega)
  have t0 : ((p : Int) == 0) = false := by rw [beq_eq_false_iff_ne]; omega
  have t91 : ((p : Int) == 91) = false := by rw [beq_eq_false_iff_ne]; omega
  have t255 : ((p : Int) == 255) = false := by rw [beq_eq_false_iff_ne]; omega
  have t80 : ((p : Int) == 80) = false := by rw [beq_eq_false_iff_ne]; omega
  have t86 : ((p : Int) == 86) = false := by rw [beq_eq_false_iff_ne]; omega
  have t8 : ((p : Int) == 8) = false := by rw [beq_eq_false_iff_ne]; omega
  have t9 : ((p : Int) == 9) = false := by rw [beq_eq_false_iff_ne]; omega
  have t240 : ((p : Int) == 240) = false := by rw [beq_eq_false_iff_ne]; omega
  have t21 : ((p : Int) == 21) = false := by rw [beq_eq_false_iff_ne]; omega
  have t25 : ((p : Int) == 25) = false := by rw [beq_eq_false_iff_ne]; omega
  have t49 : ((p : Int) == 49) = false := by rw [beq_eq_false_iff_ne]; omega
  have t53 : ((p : Int) == 53) = false := by rw [beq_eq_false_iff_ne]; omega
  have t59 : ((p : Int) == 59) = false := by rw [beq_eq_false_iff_ne]; omega
  have t63 : ((p : Int) == 63) = false := by rw [beq_eq_false_iff_ne]; omega
  have t64 : ((p : Int) == 64) = false := by rw [beq_eq_false_iff_ne]; omega
  have t81 : ((p : Int) == 81) = false := by rw [beq_eq_false_iff_ne]; omega
  have t84 : ((p : Int) == 84) = false := by rw [beq_eq_false_iff_ne]; omega
  have t92 : ((p : Int) == 92) = false := by rw [beq_eq_false_iff_ne]; omega
  have t82 : ((p : Int) == 82) = false := by rw [beq_eq_false_iff_ne]; omega
  have t83 : ((p : Int) == 83) = false := by rw [beq_eq_false_iff_ne]; omega
  have t85 : ((p : Int) == 85) = false := by rw [beq_eq_false_iff_ne]; omega
  have t93 : ((p : Int) == 93) = false := by rw [beq_eq_false_iff_ne]; omega
  have t87 : ((p : Int) == 87) = false := by rw [beq_eq_false_iff_ne]; omega
  have t243 : ((p : Int) == 243) = false := by rw [beq_eq_false_iff_ne]; omega
  have t253 : ((p : Int) == 253) = false := by rw [beq_eq_false_iff_ne]; omega
  have t55 : ((p : Int) == 55) = false := by rw [beq_eq_false_iff_ne]; omega
  have t57 : ((p : Int) == 57) = false := by rw [beq_eq_false_iff_ne]; omega
  have t62 : ((p : Int) == 62) = false := by rw [beq_eq_false_iff_ne]; omega
  have t94 : ((p : Int) == 94) = false := by rw [beq_eq_false_iff_ne]; omega
  have t60 : ((p : Int) == 60) = false := by rw [beq_eq_false_iff_ne]; omega
  have t245 : ((p : Int) == 245) = false := by rw [beq_eq_false_iff_ne]; omega
  have t241 : ((p : Int) == 241) = false := by rw [beq_eq_false_iff_ne]; omega
  have t242 : ((p : Int) == 242) = false := by rw [beq_eq_false_iff_ne]; omega
  have t244 : ((p : Int) == 244) = false := by rw [beq_eq_false_iff_ne]; omega
  have t250 : ((p : Int) == 250) = false := by rw [beq_eq_false_iff_ne]; omega
  go_enter Sakg.func202, Sakg.ntmps202
  go_wp2_with (go_at_call 120; refine (unhide HF).mono ?_; rintro e w1 ⟨rfl, rfl⟩)
  go_ret3
  exact ⟨rfl, rfl⟩
set_option maxHeartbeats 2000000 in
theorem ari_32 (w : World) : Calls Sakg.prog 202 #[.int .u8 32] w fun e w' => e = .returned (.tuple #[.int .i64 2, .int .i64 1, .bool true]) ∧ w = w' := by
  have HF := hide (family_any 32 (by omega) w)
  rw [show famA 32 = 1 from rfl] at HF
  go_enter Sakg.func202, Sakg.ntmps202
  go_wp2_with (go_at_call 120; refine (unhide HF).mono ?_; rintro e w1 ⟨rfl, rfl⟩)
  go_ret3
  exact ⟨rfl, rfl⟩
set_option maxHeartbeats 2000000 in
theorem ari_33 (p : Nat) (h1 : 33 ≤ p) (h2 : p ≤ 47) (w : World) : Calls Sakg.prog 202 #[.int .u8 p] w fun e w' => e = .returned (.tuple #[.int .i64 0, .int .i64 0, .bool false]) ∧ w = w' := by
  have HF := hide (family_any p (by omega) w)
  have q0 : famA p = 0 := by unfold famA; repeat (first | omega | split)
  have q1 : famA p ≠ 1 := by unfold famA; repeat (first | omega | split)
  have hf0 : ((famA p : Int) == 0) = true := by rw [beq_iff_eq]; omega
  have hf1 : ((famA p : Int) == 1) = false := by rw [beq_eq_false_iff_ne]; omega
  have hfl : famA p ≤ 31 := by unfold famA; repeat (first | omega | split)
  clear q0 q1
  generalize famA p = F at HF hf0 hf1 hfl
  have u128 : decide ((128 : Int) ≤ (p : Int)) = false := decide_eq_false (by omega)
  have u144 : decide ((144 : Int) ≤ (p : Int)) = false := decide_eq_false (by omega)
  have u160 : decide ((160 : Int) ≤ (p : Int)) = false := decide_eq_false (by omega)
  have t0 : ((p : Int) == 0) = false := by rw [beq_eq_false_iff_ne]; omega
  have t91 : ((p : Int) == 91) = false := by rw [beq_eq_false_iff_ne]; omega
  have t255 : ((p : Int) == 255) = false := by rw [beq_eq_false_iff_ne]; omega
  have t80 : ((p : Int) == 80) = false := by rw [beq_eq_false_iff_ne]; omega
  have t86 : ((p : Int) == 86) = false := by rw [beq_eq_false_iff_ne]; omega
  have t8 : ((p : Int) == 8) = false := by rw [beq_eq_false_iff_ne]; omega
  have t9 : ((p : Int) == 9) = false := by rw [beq_eq_false_iff_ne]; omega
  have t240 : ((p : Int) == 240) = false := by rw [beq_eq_false_iff_ne]; omega
  have t21 : ((p : Int) == 21) = false := by rw [beq_eq_false_iff_ne]; omega
  have t25 : ((p : Int) == 25) = false := by rw [beq_eq_false_iff_ne]; omega
  have t49 : ((p : Int) == 49) = false := by rw [beq_eq_false_iff_ne]; omega
  have t53 : ((p : Int) == 53) = false := by rw [beq_eq_false_iff_ne]; omega
  have t59 : ((p : Int) == 59) = false := by rw [beq_eq_false_iff_ne]; omega
  have t63 : ((p : Int) == 63) = false := by rw [beq_eq_false_iff_ne]; omega
  have t64 : ((p : Int) == 64) = false := by rw [beq_eq_false_iff_ne]; omega
  have t81 : ((p : Int) == 81) = false := by rw [beq_eq_false_iff_ne]; omega
  have t84 : ((p : Int) == 84) = false := by rw [beq_eq_false_iff_ne]; omega
  have t92 : ((p : Int) == 92) = false := by rw [beq_eq_false_iff_ne]; omega
  have t82 : ((p : Int) == 82) = false := by rw [beq_eq_false_iff_ne]; omega
  have t83 : ((p : Int) == 83) = false := by rw [beq_eq_false_iff_ne]; omega
  have t85 : ((p : Int) == 85) = false := by rw [beq_eq_false_iff_ne]; omega
  have t93 : ((p : Int) == 93) = false := by rw [beq_eq_false_iff_ne]; omega
  have t87 : ((p : Int) == 87) = false := by rw [beq_eq_false_iff_ne]; omega
  have t243 : ((p : Int) == 243) = false := by rw [beq_eq_false_iff_ne]; omega
  have t253 : ((p : Int) == 253) = false := by rw [beq_eq_false_iff_ne]; omega
  have t55 : ((p : Int) == 55) = false := by rw [beq_eq_false_iff_ne]; omega
  have t57 : ((p : Int) == 57) = false := by rw [beq_eq_false_iff_ne]; omega
  have t62 : ((p : Int) == 62) = false := by rw [beq_eq_false_iff_ne]; omega
  have t94 : ((p : Int) == 94) = false := by rw [beq_eq_false_iff_ne]; omega
  have t60 : ((p : Int) == 60) = false := by rw [beq_eq_false_iff_ne]; omega
  have t245 : ((p : Int) == 245) = false := by rw [beq_eq_false_iff_ne]; omega
  have t241 : ((p : Int) == 241) = false := by rw [beq_eq_false_iff_ne]; omega
  have t242 : ((p : Int) == 242) = false := by rw [beq_eq_false_iff_ne]; omega
  have t244 : ((p : Int) == 244) = false := by rw [beq_eq_false_iff_ne]; omega
  have t250 : ((p : Int) == 250) = false := by rw [beq_eq_false_iff_ne]; omega
  go_enter Sakg.func202, Sakg.ntmps202
  go_wp2_with (go_at_call 120; refine (unhide HF).mono ?_; rintro e w1 ⟨rfl, rfl⟩)
  go_ret3
  exact ⟨rfl, rfl⟩
set_option maxHeartbeats 2000000 in
theorem ari_48 (w : World) : Calls Sakg.prog 202 #[.int .u8 48] w fun e w' => e = .returned (.tuple #[.int .i64 0, .int .i64 1, .bool true]) ∧ w = w' := by
  have HF := hide (family_any 48 (by omega) w)
  rw [show famA 48 = 2 from rfl] at HF
  go_enter Sakg.func202, Sakg.ntmps202
  go_wp2_with (go_at_call 120; refine (unhide HF).mono ?_; rintro e w1 ⟨rfl, rfl⟩)
  go_ret3
  exact ⟨rfl, rfl⟩
set_option maxHeartbeats 2000000 in
theorem ari_49 (w : World) : Calls Sakg.prog 202 #[.int .u8 49] w fun e w' => e = .returned (.tuple #[.int .i64 1, .int .i64 1, .bool true]) ∧ w = w' := by
  have HF := hide (family_any 49 (by omega) w)
  rw [show famA 49 = 2 from rfl] at HF
  go_enter Sakg.func202, Sakg.ntmps202
  go_wp2_with (go_at_call 120; refine (unhide HF).mono ?_; rintro e w1 ⟨rfl, rfl⟩)
  go_ret3
  exact ⟨rfl, rfl⟩
set_option maxHeartbeats 2000000 in
theorem ari_50 (p : Nat) (h1 : 50 ≤ p) (h2 : p ≤ 52) (w : World) : Calls Sakg.prog 202 #[.int .u8 p] w fun e w' => e = .returned (.tuple #[.int .i64 0, .int .i64 1, .bool true]) ∧ w = w' := by
  have HF := hide (family_any p (by omega) w)
  have q0 : famA p ≠ 0 := by unfold famA; repeat (first | omega | split)
  have q1 : famA p ≠ 1 := by unfold famA; repeat (first | omega | split)
  have hf0 : ((famA p : Int) == 0) = false := by rw [beq_eq_false_iff_ne]; omega
  have hf1 : ((famA p : Int) == 1) = false := by rw [beq_eq_false_iff_ne]; omega
  have hfl : famA p ≤ 31 := by unfold famA; repeat (first | omega | split)
  clear q0 q1
  generalize famA p = F at HF hf0 hf1 hfl
  have u128 : decide ((128 : Int) ≤ (p : Int)) = false := decide_eq_false (by omega)
  have u144 : decide ((144 : Int) ≤ (p : Int)) = false := decide_eq_false (by omega)
  have u160 : decide ((160 : Int) ≤ (p : Int)) = false := decide_eq_false (by omega)
  have t0 : ((p : Int) == 0) = false := by rw [beq_eq_false_iff_ne]; omega
  have t91 : ((p : Int) == 91) = false := by rw [beq_eq_false_iff_ne]; omega
  have t255 : ((p : Int) == 255) = false := by rw [beq_eq_false_iff_ne]; omega
  have t80 : ((p : Int) == 80) = false := by rw [beq_eq_false_iff_ne]; omega
  have t86 : ((p : Int) == 86) = false := by rw [beq_eq_false_iff_ne]; omega
  have t8 : ((p : Int) == 8) = false := by rw [beq_eq_false_iff_ne]; omega
  have t9 : ((p : Int) == 9) = false := by rw [beq_eq_false_iff_ne]; omega
  have t240 : ((p : Int) == 240) = false := by rw [beq_eq_false_iff_ne]; omega
  have t21 : ((p : Int) == 21) = false := by rw [beq_eq_false_iff_ne]; omega
  have t25 : ((p : Int) == 25) = false := by rw [beq_eq_false_iff_ne]; omega
  have t49 : ((p : Int) == 49) = false := by rw [beq_eq_false_iff_ne]; omega
  have t53 : ((p : Int) == 53) = false := by rw [beq_eq_false_iff_ne]; omega
  have t59 : ((p : Int) == 59) = false := by rw [beq_eq_false_iff_ne]; omega
  have t63 : ((p : Int) == 63) = false := by rw [beq_eq_false_iff_ne]; omega
  have t64 : ((p : Int) == 64) = false := by rw [beq_eq_false_iff_ne]; omega
  have t81 : ((p : Int) == 81) = false := by rw [beq_eq_false_iff_ne]; omega
  have t84 : ((p : Int) == 84) = false := by rw [beq_eq_false_iff_ne]; omega
  have t92 : ((p : Int) == 92) = false := by rw [beq_eq_false_iff_ne]; omega
  have t82 : ((p : Int) == 82) = false := by rw [beq_eq_false_iff_ne]; omega
  have t83 : ((p : Int) == 83) = false := by rw [beq_eq_false_iff_ne]; omega
  have t85 : ((p : Int) == 85) = false := by rw [beq_eq_false_iff_ne]; omega
  have t93 : ((p : Int) == 93) = false := by rw [beq_eq_false_iff_ne]; omega
  have t87 : ((p : Int) == 87) = false := by rw [beq_eq_false_iff_ne]; omega
  have t243 : ((p : Int) == 243) = false := by rw [beq_eq_false_iff_ne]; omega
  have t253 : ((p : Int) == 253) = false := by rw [beq_eq_false_iff_ne]; omega
  have t55 : ((p : Int) == 55) = false := by rw [beq_eq_false_iff_ne]; omega
  have t57 : ((p : Int) == 57) = false := by rw [beq_eq_false_iff_ne]; omega
  have t62 : ((p : Int) == 62) = false := by rw [beq_eq_false_iff_ne]; omega
  have t94 : ((p : Int) == 94) = false := by rw [beq_eq_false_iff_ne]; omega
  have t60 : ((p : Int) == 60) = false := by rw [beq_eq_false_iff_ne]; omega
  have t245 : ((p : Int) == 245) = false := by rw [beq_eq_false_iff_ne]; omega
  have t241 : ((p : Int) == 241) = false := by rw [beq_eq_false_iff_ne]; omega
  have t242 : ((p : Int) == 242) = false := by rw [beq_eq_false_iff_ne]; omega
  have t244 : ((p : Int) == 244) = false := by rw [beq_eq_false_iff_ne]; omega
  have t250 : ((p : Int) == 250) = false := by rw [beq_eq_false_iff_ne]; omega
  go_enter Sakg.func202, Sakg.ntmps202
  go_wp2_with (go_at_call 120; refine (unhide HF).mono ?_; rintro e w1 ⟨rfl, rfl⟩)
  go_ret3
  exact ⟨rfl, rfl⟩
set_option maxHeartbeats 2000000 in
theorem ari_53 (w : World) : Calls Sakg.prog 202 #[.int .u8 53] w fun e w' => e = .returned (.tuple #[.int .i64 1, .int .i64 1, .bool true]) ∧ w = w' := by
  have HF := hide (family_any 53 (by omega) w)
  rw [show famA 53 = 2 from rfl] at HF
  go_enter Sakg.func202, Sakg.ntmps202
  go_wp2_with (go_at_call 120; refine (unhide HF).mono ?_; rintro e w1 ⟨rfl, rfl⟩)
  go_ret3
  exact ⟨rfl, rfl⟩
set_option maxHeartbeats 2000000 in
theorem ari_54 (w : World) : Calls Sakg.prog 202 #[.int .u8 54] w fun e w' => e = .returned (.tuple #[.int .i64 0, .int .i64 1, .bool true]) ∧ w = w' := by
  have HF := hide (family_any 54 (by omega) w)
  rw [show famA 54 = 2 from rfl] at HF
  go_enter Sakg.func202, Sakg.ntmps202
  go_wp2_with (go_at_call 120; refine (unhide HF).mono ?_; rintro e w1 ⟨rfl, rfl⟩)
  go_ret3
  exact ⟨rfl, rfl⟩
set_option maxHeartbeats 2000000 in
theorem ari_55 (w : World) : Calls Sakg.prog 202 #[.int .u8 55] w fun e w' => e = .returned (.tuple #[.int .i64 3, .int .i64 0, .bool true]) ∧ w = w' := by
  have HF := hide (family_any 55 (by omega) w)
  rw [show famA 55 = 2 from rfl] at HF
  go_enter Sakg.func202, Sakg.ntmps202
  go_wp2_with (go_at_call 120; refine (unhide HF).mono ?_; rintro e w1 ⟨rfl, rfl⟩)
  go_ret3
  exact ⟨rfl, rfl⟩
set_option maxHeartbeats 2000000 in
theorem ari_56 (w : World) : Calls Sakg.prog 202 #[.int .u8 56] w fun e w' => e = .returned (.tuple #[.int .i64 0, .int .i64 1, .bool true]) ∧ w = w' := by
  have HF := hide (family_any 56 (by omega) w)
  rw [show famA 56 = 2 from rfl] at HF
  go_enter Sakg.func202, Sakg.ntmps202
  go_wp2_with (go_at_call 120; refine (unhide HF).mono ?_; rintro e w1 ⟨rfl, rfl⟩)
  go_ret3
  exact ⟨rfl, rfl⟩
set_option maxHeartbeats 2000000 in
theorem ari_57 (w : World) : Calls Sakg.prog 202 #[.int .u8 57] w fun e w' => e = .returned (.tuple #[.int .i64 3, .int .i64 0, .bool true]) ∧ w = w' := by
  have HF := hide (family_any 57 (by omega) w)
  rw [show famA 57 = 2 from rfl] at HF
  go_enter Sakg.func202, Sakg.ntmps202
  go_wp2_with (go_at_call 120; refine (unhide HF).mono ?_; rintro e w1 ⟨rfl, rfl⟩)
  go_ret3
  exact ⟨rfl, rfl⟩
set_option maxHeartbeats 2000000 in
theorem ari_58 (w : World) : Calls Sakg.prog 202 #[.int .u8 58] w fun e w' => e = .returned (.tuple #[.int .i64 0, .int .i64 1, .bool true]) ∧ w = w' := by
  have HF := hide (family_any 58 (by omega) w)
  rw [show famA 58 = 2 from rfl] at HF
  go_enter Sakg.func202, Sakg.ntmps202
  go_wp2_with (go_at_call 120; refine (unhide HF).mono ?_; rintro e w1 ⟨rfl, rfl⟩)
  go_ret3
  exact ⟨rfl, rfl⟩
set_option maxHeartbeats 2000000 in
theorem ari_59 (w : World) : Calls Sakg.prog 202 #[.int .u8 59] w fun e w' => e = .returned (.tuple #[.int .i64 1, .int .i64 1, .bool true]) ∧ w = w' := by
  have HF := hide (family_any 59 (by omega) w)
  rw [show famA 59 = 2 from rfl] at HF
  go_enter Sakg.func202, Sakg.ntmps202
  go_wp2_with (go_at_call 120; refine (unhide HF).mono ?_; rintro e w1 ⟨rfl, rfl⟩)
  go_ret3
  exact ⟨rfl, rfl⟩
set_option maxHeartbeats 2000000 in
theorem ari_60 (w : World) : Calls Sakg.prog 202 #[.int .u8 60] w fun e w' => e = .returned (.tuple #[.int .i64 4, .int .i64 0, .bool true]) ∧ w = w' := by
  have HF := hide (family_any 60 (by omega) w)
  rw [show famA 60 = 2 from rfl] at HF
  go_enter Sakg.func202, Sakg.ntmps202
  go_wp2_with (go_at_call 120; refine (unhide HF).mono ?_; rintro e w1 ⟨rfl, rfl⟩)
  go_ret3
  exact ⟨rfl, rfl⟩
set_option maxHeartbeats 2000000 in
theorem ari_61 (w : World) : Calls Sakg.prog 202 #[.int .u8 61] w fun e w' => e = .returned (.tuple #[.int .i64 0, .int .i64 1, .bool true]) ∧ w = w' := by
  have HF := hide (family_any 61 (by omega) w)
  rw [show famA 61 = 2 from rfl] at HF
  go_enter Sakg.func202, Sakg.ntmps202
  go_wp2_with (go_at_call 120; refine (unhide HF).mono ?_; rintro e w1 ⟨rfl, rfl⟩)
  go_ret3
  exact ⟨rfl, rfl⟩
set_option maxHeartbeats 2000000 in
theorem ari_62 (w : World) : Calls Sakg.prog 202 #[.int .u8 62] w fun e w' => e = .returned (.tuple #[.int .i64 3, .int .i64 0, .bool true]) ∧ w = w' := by
  have HF := hide (family_any 62 (by omega) w)
  rw [show famA 62 = 2 from rfl] at HF
  go_enter Sakg.func202, Sakg.ntmps202
  go_wp2_with (go_at_call 120; refine (unhide HF).mono ?_; rintro e w1 ⟨rfl, rfl⟩)
  go_ret3
  exact ⟨rfl, rfl⟩
set_option maxHeartbeats 2000000 in
theorem ari_63 (w : World) : Calls Sakg.prog 202 #[.int .u8 63] w fun e w' => e = .returned (.tuple #[.int .i64 1, .int .i64 1, .bool true]) ∧ w = w' := by
  have HF := hide (family_any 63 (by omega) w)
  rw [show famA 63 = 2 from rfl] at HF
  go_enter Sakg.func202, Sakg.ntmps202
  go_wp2_with (go_at_call 120; refine (unhide HF).mono ?_; rintro e w1 ⟨rfl, rfl⟩)
  go_ret3
  exact ⟨rfl, rfl⟩
set_option maxHeartbeats 2000000 in
theorem ari_64 (w : World) : Calls Sakg.prog 202 #[.int .u8 64] w fun e w' => e = .returned (.tuple #[.int .i64 1, .int .i64 1, .bool true]) ∧ w = w' := by
  have HF := hide (family_any 64 (by omega) w)
  rw [show famA 64 = 2 from rfl] at HF
  go_enter Sakg.func202, Sakg.ntmps202
  go_wp2_with (go_at_call 120; refine (unhide HF).mono ?_; rintro e w1 ⟨rfl, rfl⟩)
  go_ret3
  exact ⟨rfl, rfl⟩
set_option maxHeartbeats 2000000 in
theorem ari_65 (p : Nat) (h1 : 65 ≤ p) (h2 : p ≤ 72) (w : World) : Calls Sakg.prog 202 #[.int .u8 p] w fun e w' => e = .returned (.tuple #[.int .i64 0, .int .i64 1, .bool true]) ∧ w = w' := by
  have HF := hide (family_any p (by omega) w)
  have q0 : famA p ≠ 0 := by unfold famA; repeat (first | omega | split)
  have q1 : famA p ≠ 1 := by unfold famA; repeat (first | omega | split)
  have hf0 : ((famA p : Int) == 0) = false := by rw [beq_eq_false_iff_ne]; omega
  have hf1 : ((famA p : Int) == 1) = false := by rw [beq_eq_false_iff_ne]; omega
  have hfl : famA p ≤ 31 := by unfold famA; repeat (first | omega | split)
  clear q0 q1
  generalize famA p = F at HF hf0 hf1 hfl
  have u128 : decide ((128 : Int) ≤ (p : Int)) = false := decide_eq_false (by omega)
  have u144 : decide ((144 : Int) ≤ (p : Int)) = false := decide_eq_false (by omega)
  have u160 : decide ((160 : Int) ≤ (p : Int)) = false := decide_eq_false (by omega)
  have t0 : ((p : Int) == 0) = false := by rw [beq_eq_false_iff_ne]; omega
  have t91 : ((p : Int) == 91) = false := by rw [beq_eq_false_iff_ne]; omega
  have t255 : ((p : Int) == 255) = false := by rw [beq_eq_false_iff_ne]; omega
  have t80 : ((p : Int) == 80) = false := by rw [beq_eq_false_iff_ne]; omega
  have t86 : ((p : Int) == 86) = false := by rw [beq_eq_false_iff_ne]; omega
  have t8 : ((p : Int) == 8) = false := by rw [beq_eq_false_iff_ne]; omega
  have t9 : ((p : Int) == 9) = false := by rw [beq_eq_false_iff_ne]; omega
  have t240 : ((p : Int) == 240) = false := by rw [beq_eq_false_iff_ne]; omega
  have t21 : ((p : Int) == 21) = false := by rw [beq_eq_false_iff_ne]; omega
  have t25 : ((p : Int) == 25) = false := by rw [beq_eq_false_iff_ne]; omega
  have t49 : ((p : Int) == 49) = false := by rw [beq_eq_false_iff_ne]; omega
  have t53 : ((p : Int) == 53) = false := by rw [beq_eq_false_iff_ne]; omega
  have t59 : ((p : Int) == 59) = false := by rw [beq_eq_false_iff_ne]; omega
  have t63 : ((p : Int) == 63) = false := by rw [beq_eq_false_iff_ne]; omega
  have t64 : ((p : Int) == 64) = false := by rw [beq_eq_false_iff_ne]; omega
  have t81 : ((p : Int) == 81) = false := by rw [beq_eq_false_iff_ne]; omega
  have t84 : ((p : Int) == 84) = false := by rw [beq_eq_false_iff_ne]; omega
  have t92 : ((p : Int) == 92) = false := by rw [beq_eq_false_iff_ne]; omega
  have t82 : ((p : Int) == 82) = false := by rw [beq_eq_false_iff_ne]; omega
  have t83 : ((p : Int) == 83) = false := by rw [beq_eq_false_iff_ne]; omega
  have t85 : ((p : Int) == 85) = false := by rw [beq_eq_false_iff_ne]; omega
  have t93 : ((p : Int) == 93) = false := by rw [beq_eq_false_iff_ne]; omega
  have t87 : ((p : Int) == 87) = false := by rw [beq_eq_false_iff_ne]; omega
  have t243 : ((p : Int) == 243) = false := by rw [beq_eq_false_iff_ne]; omega
  have t253 : ((p : Int) == 253) = false := by rw [beq_eq_false_iff_ne]; omega
  have t55 : ((p : Int) == 55) = false := by rw [beq_eq_false_iff_ne]; omega
  have t57 : ((p : Int) == 57) = false := by rw [beq_eq_false_iff_ne]; omega
  have t62 : ((p : Int) == 62) = false := by rw [beq_eq_false_iff_ne]; omega
  have t94 : ((p : Int) == 94) = false := by rw [beq_eq_false_iff_ne]; omega
  have t60 : ((p : Int) == 60) = false := by rw [beq_eq_false_iff_ne]; omega
  have t245 : ((p : Int) == 245) = false := by rw [beq_eq_false_iff_ne]; omega
  have t241 : ((p : Int) == 241) = false := by rw [beq_eq_false_iff_ne]; omega
  have t242 : ((p : Int) == 242) = false := by rw [beq_eq_false_iff_ne]; omega
  have t244 : ((p : Int) == 244) = false := by rw [beq_eq_false_iff_ne]; omega
  have t250 : ((p : Int) == 250) = false := by rw [beq_eq_false_iff_ne]; omega
  go_enter Sakg.func202, Sakg.ntmps202
  go_wp2_with (go_at_call 120; refine (unhide HF).mono ?_; rintro e w1 ⟨rfl, rfl⟩)
  go_ret3
  exact ⟨rfl, rfl⟩
set_option maxHeartbeats 2000000 in
theorem ari_73 (p : Nat) (h1 : 73 ≤ p) (h2 : p ≤ 79) (w : World) : Calls Sakg.prog 202 #[.int .u8 p] w fun e w' => e = .returned (.tuple #[.int .i64 0, .int .i64 0, .bool false]) ∧ w = w' := by
  have HF := hide (family_any p (by omega) w)
  have q0 : famA p = 0 := by unfold famA; repeat (first | omega | split)
  have q1 : famA p ≠ 1 := by unfold famA; repeat (first | omega | split)
  have hf0 : ((famA p : Int) == 0) = true := by rw [beq_iff_eq]; omega
  have hf1 : ((famA p : Int) == 1) = false := by rw [beq_eq_false_iff_ne]; omega
  have hfl : famA p ≤ 31 := by unfold famA; repeat (first | omega | split)
  clear q0 q1
  generalize famA p = F at HF hf0 hf1 hfl
  have u128 : decide ((128 : Int) ≤ (p : Int)) = false := decide_eq_false (by omega)
  have u144 : decide ((144 : Int) ≤ (p : Int)) = false := decide_eq_false (by omega)
  have u160 : decide ((160 : Int) ≤ (p : Int)) = false := decide_eq_false (by omega)
  have t0 : ((p : Int) == 0) = false := by rw [beq_eq_false_iff_ne]; omega
  have t91 : ((p : Int) == 91) = false := by rw [beq_eq_false_iff_ne]; omega
  have t255 : ((p : Int) == 255) = false := by rw [beq_eq_false_iff_ne]; omega
  have t80 : ((p : Int) == 80) = false := by rw [beq_eq_false_iff_ne]; omega
  have t86 : ((p : Int) == 86) = false := by rw [beq_eq_false_iff_ne]; omega
  have t8 : ((p : Int) == 8) = false := by rw [beq_eq_false_iff_ne]; omega
  have t9 : ((p : Int) == 9) = false := by rw [beq_eq_false_iff_ne]; omega
  have t240 : ((p : Int) == 240) = false := by rw [beq_eq_false_iff_ne]; omega
  have t21 : ((p : Int) == 21) = false := by rw [beq_eq_false_iff_ne]; omega
  have t25 : ((p : Int) == 25) = false := by rw [beq_eq_false_iff_ne]; omega
  have t49 : ((p : Int) == 49) = false := by rw [beq_eq_false_iff_ne]; omega
  have t53 : ((p : Int) == 53) = false := by rw [beq_eq_false_iff_ne]; omega
  have t59 : ((p : Int) == 59) = false := by rw [beq_eq_false_iff_ne]; omega
  have t63 : ((p : Int) == 63) = false := by rw [beq_eq_false_iff_ne]; omega
  have t64 : ((p : Int) == 64) = false := by rw [beq_eq_false_iff_ne]; omega
  have t81 : ((p : Int) == 81) = false := by rw [beq_eq_false_iff_ne]; omega
  have t84 : ((p : Int) == 84) = false := by rw [beq_eq_false_iff_ne]; omega
  have t92 : ((p : Int) == 92) = false := by rw [beq_eq_false_iff_ne]; omega
  have t82 : ((p : Int) == 82) = false := by rw [beq_eq_false_iff_ne]; omega
  have t83 : ((p : Int) == 83) = false := by rw [beq_eq_false_iff_ne]; omega
  have t85 : ((p : Int) == 85) = false := by rw [beq_eq_false_iff_ne]; omega
  have t93 : ((p : Int) == 93) = false := by rw [beq_eq_false_iff_ne]; omega
  have t87 : ((p : Int) == 87) = false := by rw [beq_eq_false_iff_ne]; omega
  have t243 : ((p : Int) == 243) = false := by rw [beq_eq_false_iff_ne]; omega
  have t253 : ((p : Int) == 253) = false := by rw [beq_eq_false_iff_ne]; omega
  have t55 : ((p : Int) == 55) = false := by rw [beq_eq_false_iff_ne]; omega
  have t57 : ((p : Int) == 57) = false := by rw [beq_eq_false_iff_ne]; omega
  have t62 : ((p : Int) == 62) = false := by rw [beq_eq_false_iff_ne]; omega
  have t94 : ((p : Int) == 94) = false := by rw [beq_eq_false_iff_ne]; omega
  have t60 : ((p : Int) == 60) = false := by rw [beq_eq_false_iff_ne]; omega
  have t245 : ((p : Int) == 245) = false := by rw [beq_eq_false_iff_ne]; omega
  have t241 : ((p : Int) == 241) = false := by rw [beq_eq_false_iff_ne]; omega
  have t242 : ((p : Int) == 242) = false := by rw [beq_eq_false_iff_ne]; omega
  have t244 : ((p : Int) == 244) = false := by rw [beq_eq_false_iff_ne]; omega
  have t250 : ((p : Int) == 250) = false := by rw [beq_eq_false_iff_ne]; omega
  go_enter Sakg.func202, Sakg.ntmps202
  go_wp2_with (go_at_call 120; refine (unhide HF).mono ?_; rintro e w1 ⟨rfl, rfl⟩)
  go_ret3
  exact ⟨rfl, rfl⟩
set_option maxHeartbeats 2000000 in
theorem ari_80 (w : World) : Calls Sakg.prog 202 #[.int .u8 80] w fun e w' => e = .returned (.tuple #[.int .i64 1, .int .i64 0, .bool true]) ∧ w = w' := by
  have HF := hide (family_any 80 (by omega) w)
  rw [show famA 80 = 2 from rfl] at HF
  go_enter Sakg.func202, Sakg.ntmps202
  go_wp2_with (go_at_call 120; refine (unhide HF).mono ?_; rintro e w1 ⟨rfl, rfl⟩)
  go_ret3
  exact ⟨rfl, rfl⟩
set_option maxHeartbeats 2000000 in
theorem ari_81 (w : World) : Calls Sakg.prog 202 #[.int .u8 81] w fun e w' => e = .returned (.tuple #[.int .i64 1, .int .i64 1, .bool true]) ∧ w = w' := by
  have HF := hide (family_any 81 (by omega) w)
  rw [show famA 81 = 2 from rfl] at HF
  go_enter Sakg.func202, Sakg.ntmps202
  go_wp2_with (go_at_call 120; refine (unhide HF).mono ?_; rintro e w1 ⟨rfl, rfl⟩)
  go_ret3
  exact ⟨rfl, rfl⟩
set_option maxHeartbeats 2000000 in
theorem ari_82 (w : World) : Calls Sakg.prog 202 #[.int .u8 82] w fun e w' => e = .returned (.tuple #[.int .i64 2, .int .i64 0, .bool true]) ∧ w = w' := by
  have HF := hide (family_any 82 (by omega) w)
  rw [show famA 82 = 2 from rfl] at HF
  go_enter Sakg.func202, Sakg.ntmps202
  go_wp2_with (go_at_call 120; refine (unhide HF).mono ?_; rintro e w1 ⟨rfl, rfl⟩)
  go_ret3
  exact ⟨rfl, rfl⟩
set_option maxHeartbeats 2000000 in
theorem ari_83 (w : World) : Calls Sakg.prog 202 #[.int .u8 83] w fun e w' => e = .returned (.tuple #[.int .i64 2, .int .i64 0, .bool true]) ∧ w = w' := by
  have HF := hide (family_any 83 (by omega) w)
  rw [show famA 83 = 2 from rfl] at HF
  go_enter Sakg.func202, Sakg.ntmps202
  go_wp2_with (go_at_call 120; refine (unhide HF).mono ?_; rintro e w1 ⟨rfl, rfl⟩)
  go_ret3
  exact ⟨rfl, rfl⟩
set_option maxHeartbeats 2000000 in
theorem ari_84 (w : World) : Calls Sakg.prog 202 #[.int .u8 84] w fun e w' => e = .returned (.tuple #[.int .i64 1, .int .i64 1, .bool true]) ∧ w = w' := by
  have HF := hide (family_any 84 (by omega) w)
  rw [show famA 84 = 8 from rfl] at HF
  go_enter Sakg.func202, Sakg.ntmps202
  go_wp2_with (go_at_call 120; refine (unhide HF).mono ?_; rintro e w1 ⟨rfl, rfl⟩)
  go_ret3
  exact ⟨rfl, rfl⟩
set_option maxHeartbeats 2000000 in
theorem ari_85 (w : World) : Calls Sakg.prog 202 #[.int .u8 85] w fun e w' => e = .returned (.tuple #[.int .i64 2, .int .i64 0, .bool true]) ∧ w = w' := by
  have HF := hide (family_any 85 (by omega) w)
  rw [show famA 85 = 8 from rfl] at HF
  go_enter Sakg.func202, Sakg.ntmps202
  go_wp2_with (go_at_call 120; refine (unhide HF).mono ?_; rintro e w1 ⟨rfl, rfl⟩)
  go_ret3
  exact ⟨rfl, rfl⟩
set_option maxHeartbeats 2000000 in
theorem ari_86 (w : World) : Calls Sakg.prog 202 #[.int .u8 86] w fun e w' => e = .returned (.tuple #[.int .i64 1, .int .i64 0, .bool true]) ∧ w = w' := by
  have HF := hide (family_any 86 (by omega) w)
  rw [show famA 86 = 4 from rfl] at HF
  go_enter Sakg.func202, Sakg.ntmps202
  go_wp2_with (go_at_call 120; refine (unhide HF).mono ?_; rintro e w1 ⟨rfl, rfl⟩)
  go_ret3
  exact ⟨rfl, rfl⟩
set_option maxHeartbeats 2000000 in
theorem ari_87 (w : World) : Calls Sakg.prog 202 #[.int .u8 87] w fun e w' => e = .returned (.tuple #[.int .i64 2, .int .i64 0, .bool true]) ∧ w = w' := by
  have HF := hide (family_any 87 (by omega) w)
  rw [show famA 87 = 4 from rfl] at HF
  go_enter Sakg.func202, Sakg.ntmps202
  go_wp2_with (go_at_call 120; refine (unhide HF).mono ?_; rintro e w1 ⟨rfl, rfl⟩)
  go_ret3
  exact ⟨rfl, rfl⟩
set_option maxHeartbeats 2000000 in
theorem ari_88 (p : Nat) (h1 : 88 ≤ p) (h2 : p ≤ 90) (w : World) : Calls Sakg.prog 202 #[.int .u8 p] w fun e w' => e = .returned (.tuple #[.int .i64 0, .int .i64 1, .bool true]) ∧ w = w' := by
  have HF := hide (family_any p (by omega) w)
  have q0 : famA p ≠ 0 := by unfold famA; repeat (first | omega | split)
  have q1 : famA p ≠ 1 := by unfold famA; repeat (first | omega | split)
  have hf0 : ((famA p : Int) == 0) = false := by rw [beq_eq_false_iff_ne]; omega
  have hf1 : ((famA p : Int) == 1) = false := by rw [beq_eq_false_iff_ne]; omega
  have hfl : famA p ≤ 31 := by unfold famA; repeat (first | omega | split)
  clear q0 q1
  generalize famA p = F at HF hf0 hf1 hfl
  have u128 : decide ((128 : Int) ≤ (p : Int)) = false := decide_eq_false (by omega)
  have u144 : decide ((144 : Int) ≤ (p : Int)) = false := decide_eq_false (by omega)
  have u160 : decide ((160 : Int) ≤ (p : Int)) = false := decide_eq_false (by omega)
  have t0 : ((p : Int) == 0) = false := by rw [beq_eq_false_iff_ne]; omega
  have t91 : ((p : Int) == 91) = false := by rw [beq_eq_false_iff_ne]; omega
  have t255 : ((p : Int) == 255) = false := by rw [beq_eq_false_iff_ne]; omega
  have t80 : ((p : Int) == 80) = false := by rw [beq_eq_false_iff_ne]; omega
  have t86 : ((p : Int) == 86) = false := by rw [beq_eq_false_iff_ne]; omega
  have t8 : ((p : Int) == 8) = false := by rw [beq_eq_false_iff_ne]; omega
  have t9 : ((p : Int) == 9) = false := by rw [beq_eq_false_iff_ne]; omega
  have t240 : ((p : Int) == 240) = false := by rw [beq_eq_false_iff_ne]; omega
  have t21 : ((p : Int) == 21) = false := by rw [beq_eq_false_iff_ne]; omega
  have t25 : ((p : Int) == 25) = false := by rw [beq_eq_false_iff_ne]; omega
  have t49 : ((p : Int) == 49) = false := by rw [beq_eq_false_iff_ne]; omega
  have t53 : ((p : Int) == 53) = false := by rw [beq_eq_false_iff_ne]; omega
  have t59 : ((p : Int) == 59) = false := by rw [beq_eq_false_iff_ne]; omega
  have t63 : ((p : Int) == 63) = false := by rw [beq_eq_false_iff_ne]; omega
  have t64 : ((p : Int) == 64) = false := by rw [beq_eq_false_iff_ne]; omega
  have t81 : ((p : Int) == 81) = false := by rw [beq_eq_false_iff_ne]; omega
  have t84 : ((p : Int) == 84) = false := by rw [beq_eq_false_iff_ne]; omega
  have t92 : ((p : Int) == 92) = false := by rw [beq_eq_false_iff_ne]; omega
  have t82 : ((p : Int) == 82) = false := by rw [beq_eq_false_iff_ne]; omega
  have t83 : ((p : Int) == 83) = false := by rw [beq_eq_false_iff_ne]; omega
  have t85 : ((p : Int) == 85) = false := by rw [beq_eq_false_iff_ne]; omega
  have t93 : ((p : Int) == 93) = false := by rw [beq_eq_false_iff_ne]; omega
  have t87 : ((p : Int) == 87) = false := by rw [beq_eq_false_iff_ne]; omega
  have t243 : ((p : Int) == 243) = false := by rw [beq_eq_false_iff_ne]; omega
  have t253 : ((p : Int) == 253) = false := by rw [beq_eq_false_iff_ne]; omega
  have t55 : ((p : Int) == 55) = false := by rw [beq_eq_false_iff_ne]; omega
  have t57 : ((p : Int) == 57) = false := by rw [beq_eq_false_iff_ne]; omega
  have t62 : ((p : Int) == 62) = false := by rw [beq_eq_false_iff_ne]; omega
  have t94 : ((p : Int) == 94) = false := by rw [beq_eq_false_iff_ne]; omega
  have t60 : ((p : Int) == 60) = false := by rw [beq_eq_false_iff_ne]; omega
  have t245 : ((p : Int) == 245) = false := by rw [beq_eq_false_iff_ne]; omega
  have t241 : ((p : Int) == 241) = false := by rw [beq_eq_false_iff_ne]; omega
  have t242 : ((p : Int) == 242) = false := by rw [beq_eq_false_iff_ne]; omega
  have t244 : ((p : Int) == 244) = false := by rw [beq_eq_false_iff_ne]; omega
  have t250 : ((p : Int) == 250) = false := by rw [beq_eq_false_iff_ne]; omega
  go_enter Sakg.func202, Sakg.ntmps202
  go_wp2_with (go_at_call 120; refine (unhide HF).mono ?_; rintro e w1 ⟨rfl, rfl⟩)
  go_ret3
  exact ⟨rfl, rfl⟩
set_option maxHeartbeats 2000000 in
theorem ari_91 (w : World) : Calls Sakg.prog 202 #[.int .u8 91] w fun e w' => e = .returned (.tuple #[.int .i64 0, .int .i64 0, .bool true]) ∧ w = w' := by
  have HF := hide (family_any 91 (by omega) w)
  rw [show famA 91 = 4 from rfl] at HF
  go_enter Sakg.func202, Sakg.ntmps202
  go_wp2_with (go_at_call 120; refine (unhide HF).mono ?_; rintro e w1 ⟨rfl, rfl⟩)
  go_ret3
  exact ⟨rfl, rfl⟩
set_option maxHeartbeats 2000000 in
theorem ari_92 (w : World) : Calls Sakg.prog 202 #[.int .u8 92] w fun e w' => e = .returned (.tuple #[.int .i64 1, .int .i64 1, .bool true]) ∧ w = w' := by
  have HF := hide (family_any 92 (by omega) w)
  rw [show famA 92 = 8 from rfl] at HF
  go_enter Sakg.func202, Sakg.ntmps202
  go_wp2_with (go_at_call 120; refine (unhide HF).mono ?_; rintro e w1 ⟨rfl, rfl⟩)
  go_ret3
  exact ⟨rfl, rfl⟩
set_option maxHeartbeats 2000000 in
theorem ari_93 (w : World) : Calls Sakg.prog 202 #[.int .u8 93] w fun e w' => e = .returned (.tuple #[.int .i64 2, .int .i64 0, .bool true]) ∧ w = w' := by
  have HF := hide (family_any 93 (by omega) w)
  rw [show famA 93 = 8 from rfl] at HF
  go_enter Sakg.func202, Sakg.ntmps202
  go_wp2_with (go_at_call 120; refine (unhide HF).mono ?_; rintro e w1 ⟨rfl, rfl⟩)
  go_ret3
  exact ⟨rfl, rfl⟩
set_option maxHeartbeats 2000000 in
theorem ari_94 (w : World) : Calls Sakg.prog 202 #[.int .u8 94] w fun e w' => e = .returned (.tuple #[.int .i64 3, .int .i64 0, .bool true]) ∧ w = w' := by
  have HF := hide (family_any 94 (by omega) w)
  rw [show famA 94 = 2 from rfl] at HF
  go_enter Sakg.func202, Sakg.ntmps202
  go_wp2_with (go_at_call 120; refine (unhide HF).mono ?_; rintro e w1 ⟨rfl, rfl⟩)
  go_ret3
  exact ⟨rfl, rfl⟩
set_option maxHeartbeats 2000000 in
theorem ari_95 (p : Nat) (h1 : 95 ≤ p) (h2 : p ≤ 127) (w : World) : Calls Sakg.prog 202 #[.int .u8 p] w fun e w' => e = .returned (.tuple #[.int .i64 0, .int .i64 1, .bool true]) ∧ w = w' := by
  have HF := hide (family_any p (by omega) w)
  have q0 : famA p ≠ 0 := by unfold famA; repeat (first | omega | split)
  have q1 : famA p ≠ 1 := by unfold famA; repeat (first | omega | split)
  have hf0 : ((famA p : Int) == 0) = false := by rw [beq_eq_false_iff_ne]; omega
  have hf1 : ((famA p : Int) == 1) = false := by rw [beq_eq_false_iff_ne]; omega
  have hfl : famA p ≤ 31 := by unfold famA; repeat (first | omega | split)
  clear q0 q1
  generalize famA p = F at HF hf0 hf1 hfl
  have u128 : decide ((128 : Int) ≤ (p : Int)) = false := decide_eq_false (by omega)
  have u144 : decide ((144 : Int) ≤ (p : Int)) = false := decide_eq_false (by omega)
  have u160 : decide ((160 : Int) ≤ (p : Int)) = false := decide_eq_false (by omega)
  have t0 : ((p : Int) == 0) = false := by rw [beq_eq_false_iff_ne]; omega
  have t91 : ((p : Int) == 91) = false := by rw [beq_eq_false_iff_ne]; omega
  have t255 : ((p : Int) == 255) = false := by rw [beq_eq_false_iff_ne]; omega
  have t80 : ((p : Int) == 80) = false := by rw [beq_eq_false_iff_ne]; omega
  have t86 : ((p : Int) == 86) = false := by rw [beq_eq_false_iff_ne]; omega
  have t8 : ((p : Int) == 8) = false := by rw [beq_eq_false_iff_ne]; omega
  have t9 : ((p : Int) == 9) = false := by rw [beq_eq_false_iff_ne]; omega
  have t240 : ((p : Int) == 240) = false := by rw [beq_eq_false_iff_ne]; omega
  have t21 : ((p : Int) == 21) = false := by rw [beq_eq_false_iff_ne]; omega
  have t25 : ((p : Int) == 25) = false := by rw [beq_eq_false_iff_ne]; omega
  have t49 : ((p : Int) == 49) = false := by rw [beq_eq_false_iff_ne]; omega
  have t53 : ((p : Int) == 53) = false := by rw [beq_eq_false_iff_ne]; omega
  have t59 : ((p : Int) == 59) = false := by rw [beq_eq_false_iff_ne]; omega
  have t63 : ((p : Int) == 63) = false := by rw [beq_eq_false_iff_ne]; omega
  have t64 : ((p : Int) == 64) = false := by rw [beq_eq_false_iff_ne]; omega
  have t81 : ((p : Int) == 81) = false := by rw [beq_eq_false_iff_ne]; omega
  have t84 : ((p : Int) == 84) = false := by rw [beq_eq_false_iff_ne]; omega
  have t92 : ((p : Int) == 92) = false := by rw [beq_eq_false_iff_ne]; omega
  have t82 : ((p : Int) == 82) = false := by rw [beq_eq_false_iff_ne]; omega
  have t83 : ((p : Int) == 83) = false := by rw [beq_eq_false_iff_ne]; omega
  have t85 : ((p : Int) == 85) = false := by rw [beq_eq_false_iff_ne]; omega
  have t93 : ((p : Int) == 93) = false := by rw [beq_eq_false_iff_ne]; omega
  have t87 : ((p : Int) == 87) = false := by rw [beq_eq_false_iff_ne]; omega
  have t243 : ((p : Int) == 243) = false := by rw [beq_eq_false_iff_ne]; omega
  have t253 : ((p : Int) == 253) = false := by rw [beq_eq_false_iff_ne]; omega
  have t55 : ((p : Int) == 55) = false := by rw [beq_eq_false_iff_ne]; omega
  have t57 : ((p : Int) == 57) = false := by rw [beq_eq_false_iff_ne]; omega
  have t62 : ((p : Int) == 62) = false := by rw [beq_eq_false_iff_ne]; omega
  have t94 : ((p : Int) == 94) = false := by rw [beq_eq_false_iff_ne]; omega
  have t60 : ((p : Int) == 60) = false := by rw [beq_eq_false_iff_ne]; omega
  have t245 : ((p : Int) == 245) = false := by rw [beq_eq_false_iff_ne]; omega
  have t241 : ((p : Int) == 241) = false := by rw [beq_eq_false_iff_ne]; omega
  have t242 : ((p : Int) == 242) = false := by rw [beq_eq_false_iff_ne]; omega
  have t244 : ((p : Int) == 244) = false := by rw [beq_eq_false_iff_ne]; omega
  have t250 : ((p : Int) == 250) = false := by rw [beq_eq_false_iff_ne]; omega
  go_enter Sakg.func202, Sakg.ntmps202
  go_wp2_with (go_at_call 120; refine (unhide HF).mono ?_; rintro e w1 ⟨rfl, rfl⟩)
  go_ret3
  exact ⟨rfl, rfl⟩
set_option maxHeartbeats 2000000 in
theorem ari_128 (p : Nat) (h1 : 128 ≤ p) (h2 : p ≤ 143) (T V : Nat) (hT : T = p - 127) (hV : V = p - 126) (w : World) : Calls Sakg.prog 202 #[.int .u8 p] w fun e w' => e = .returned (.tuple #[.int .i64 T, .int .i64 V, .bool true]) ∧ w = w' := by
  have HF := hide (family_any p (by omega) w)
  have q0 : famA p ≠ 0 := by unfold famA; repeat (first | omega | split)
  have q1 : famA p ≠ 1 := by unfold famA; repeat (first | omega | split)
  have hf0 : ((famA p : Int) == 0) = false := by rw [beq_eq_false_iff_ne]; omega
  have hf1 : ((famA p : Int) == 1) = false := by rw [beq_eq_false_iff_ne]; omega
  have hfl : famA p ≤ 31 := by unfold famA; repeat (first | omega | split)
  clear q0 q1
  generalize famA p = F at HF hf0 hf1 hfl
  have u128 : decide ((128 : Int) ≤ (p : Int)) = true := decide_eq_true (by omega)
  have v143 : decide ((p : Int) ≤ 143) = true := decide_eq_true (by omega)
  have e1 : ((p : Int) - 128) = ((p - 128 : Nat) : Int) := by omega
  obtain ⟨q, hq⟩ : ∃ q, q = p - 128 := ⟨_, rfl⟩
  rw [← hq] at e1
  have hql : q ≤ 16 := by omega
  have e2 : ((q : Int) + 1) = ((q + 1 : Nat) : Int) := by omega
  have e3 : ((q : Int) + 2) = ((q + 2 : Nat) : Int) := by omega
  obtain rfl : T = q + 1 := by omega
  obtain rfl : V = q + 2 := by omega
  clear hq hT hV e2 e3
  go_enter Sakg.func202, Sakg.ntmps202
  go_wp2_with (go_at_call 120; refine (unhide HF).mono ?_; rintro e w1 ⟨rfl, rfl⟩)
  go_ret3
  exact ⟨rfl, rfl⟩
set_option maxHeartbeats 2000000 in
theorem ari_144 (p : Nat) (h1 : 144 ≤ p) (h2 : p ≤ 159) (T V : Nat) (hT : T = p - 142) (hV : V = p - 142) (w : World) : Calls Sakg.prog 202 #[.int .u8 p] w fun e w' => e = .returned (.tuple #[.int .i64 T, .int .i64 V, .bool true]) ∧ w = w' := by
  have HF := hide (family_any p (by omega) w)
  have q0 : famA p ≠ 0 := by unfold famA; repeat (first | omega | split)
  have q1 : famA p ≠ 1 := by unfold famA; repeat (first | omega | split)
  have hf0 : ((famA p : Int) == 0) = false := by rw [beq_eq_false_iff_ne]; omega
  have hf1 : ((famA p : Int) == 1) = false := by rw [beq_eq_false_iff_ne]; omega
  have hfl : famA p ≤ 31 := by unfold famA; repeat (first | omega | split)
  clear q0 q1
  generalize famA p = F at HF hf0 hf1 hfl
  have u128 : decide ((128 : Int) ≤ (p : Int)) = true := decide_eq_true (by omega)
  have v143 : decide ((p : Int) ≤ 143) = false := decide_eq_false (by omega)
  have u144 : decide ((144 : Int) ≤ (p : Int)) = true := decide_eq_true (by omega)
  have v159 : decide ((p : Int) ≤ 159) = true := decide_eq_true (by omega)
  have e1 : ((p : Int) - 144) = ((p - 144 : Nat) : Int) := by omega
  obtain ⟨q, hq⟩ : ∃ q, q = p - 144 := ⟨_, rfl⟩
  rw [← hq] at e1
  have hql : q ≤ 16 := by omega
  have e2 : ((q : Int) + 1) = ((q + 1 : Nat) : Int) := by omega
  have e3 : ((q : Int) + 2) = ((q + 2 : Nat) : Int) := by omega
  obtain rfl : T = q + 2 := by omega
  obtain rfl : V = q + 2 := by omega
  clear hq hT hV e2 e3
  go_enter Sakg.func202, Sakg.ntmps202
  go_wp2_with (go_at_call 120; refine (unhide HF).mono ?_; rintro e w1 ⟨rfl, rfl⟩)
  go_ret3
  exact ⟨rfl, rfl⟩
set_option maxHeartbeats 2000000 in
theorem ari_160 (p : Nat) (h1 : 160 ≤ p) (h2 : p ≤ 164) (T V : Nat) (hT : T = p - 158) (hV : V = 0) (w : World) : Calls Sakg.prog 202 #[.int .u8 p] w fun e w' => e = .returned (.tuple #[.int .i64 T, .int .i64 V, .bool true]) ∧ w = w' := by
  have HF := hide (family_any p (by omega) w)
  have q0 : famA p ≠ 0 := by unfold famA; repeat (first | omega | split)
  have q1 : famA p ≠ 1 := by unfold famA; repeat (first | omega | split)
  have hf0 : ((famA p : Int) == 0) = false := by rw [beq_eq_false_iff_ne]; omega
  have hf1 : ((famA p : Int) == 1) = false := by rw [beq_eq_false_iff_ne]; omega
  have hfl : famA p ≤ 31 := by unfold famA; repeat (first | omega | split)
  clear q0 q1
  generalize famA p = F at HF hf0 hf1 hfl
  have u128 : decide ((128 : Int) ≤ (p : Int)) = true := decide_eq_true (by omega)
  have v143 : decide ((p : Int) ≤ 143) = false := decide_eq_false (by omega)
  have u144 : decide ((144 : Int) ≤ (p : Int)) = true := decide_eq_true (by omega)
  have v159 : decide ((p : Int) ≤ 159) = false := decide_eq_false (by omega)
  have u160 : decide ((160 : Int) ≤ (p : Int)) = true := decide_eq_true (by omega)
  have v164 : decide ((p : Int) ≤ 164) = true := decide_eq_true (by omega)
  have e1 : ((p : Int) - 160) = ((p - 160 : Nat) : Int) := by omega
  obtain ⟨q, hq⟩ : ∃ q, q = p - 160 := ⟨_, rfl⟩
  rw [← hq] at e1
  have hql : q ≤ 16 := by omega
  have e2 : ((q : Int) + 1) = ((q + 1 : Nat) : Int) := by omega
  have e3 : ((q : Int) + 2) = ((q + 2 : Nat) : Int) := by omega
  obtain rfl : T = q + 2 := by omega
  obtain rfl : V = 0 := by omega
  clear hq hT hV e2 e3
  go_enter Sakg.func202, Sakg.ntmps202
  go_wp2_with (go_at_call 120; refine (unhide HF).mono ?_; rintro e w1 ⟨rfl, rfl⟩)
  go_ret3
  exact ⟨rfl, rfl⟩
set_option maxHeartbeats 2000000 in
theorem ari_165 (p : Nat) (h1 : 165 ≤ p) (h2 : p ≤ 239) (w : World) : Calls Sakg.prog 202 #[.int .u8 p] w fun e w' => e = .returned (.tuple #[.int .i64 0, .int .i64 0, .bool false]) ∧ w = w' := by
  have HF := hide (family_any p (by omega) w)
  have q0 : famA p = 0 := by unfold famA; repeat (first | omega | split)
  have q1 : famA p ≠ 1 := by unfold famA; repeat (first | omega | split)
  have hf0 : ((famA p : Int) == 0) = true := by rw [beq_iff_eq]; omega
  have hf1 : ((famA p : Int) == 1) = false := by rw [beq_eq_false_iff_ne]; omega
  have hfl : famA p ≤ 31 := by unfold famA; repeat (first | omega | split)
  clear q0 q1
  generalize famA p = F at HF hf0 hf1 hfl
  have u128 : decide ((128 : Int) ≤ (p : Int)) = true := decide_eq_true (by omega)
  have v143 : decide ((p : Int) ≤ 143) = false := decide_eq_false (by omega)
  have u144 : decide ((144 : Int) ≤ (p : Int)) = true := decide_eq_true (by omega)
  have v159 : decide ((p : Int) ≤ 159) = false := decide_eq_false (by omega)
  have u160 : decide ((160 : Int) ≤ (p : Int)) = true := decide_eq_true (by omega)
  have v164 : decide ((p : Int) ≤ 164) = false := decide_eq_false (by omega)
  have t0 : ((p : Int) == 0) = false := by rw [beq_eq_false_iff_ne]; omega
  have t91 : ((p : Int) == 91) = false := by rw [beq_eq_false_iff_ne]; omega
  have t255 : ((p : Int) == 255) = false := by rw [beq_eq_false_iff_ne]; omega
  have t80 : ((p : Int) == 80) = false := by rw [beq_eq_false_iff_ne]; omega
  have t86 : ((p : Int) == 86) = false := by rw [beq_eq_false_iff_ne]; omega
  have t8 : ((p : Int) == 8) = false := by rw [beq_eq_false_iff_ne]; omega
  have t9 : ((p : Int) == 9) = false := by rw [beq_eq_false_iff_ne]; omega
  have t240 : ((p : Int) == 240) = false := by rw [beq_eq_false_iff_ne]; omega
  have t21 : ((p : Int) == 21) = false := by rw [beq_eq_false_iff_ne]; omega
  have t25 : ((p : Int) == 25) = false := by rw [beq_eq_false_iff_ne]; omega
  have t49 : ((p : Int) == 49) = false := by rw [beq_eq_false_iff_ne]; omega
  have t53 : ((p : Int) == 53) = false := by rw [beq_eq_false_iff_ne]; omega
  have t59 : ((p : Int) == 59) = false := by rw [beq_eq_false_iff_ne]; omega
  have t63 : ((p : Int) == 63) = false := by rw [beq_eq_false_iff_ne]; omega
  have t64 : ((p : Int) == 64) = false := by rw [beq_eq_false_iff_ne]; omega
  have t81 : ((p : Int) == 81) = false := by rw [beq_eq_false_iff_ne]; omega
  have t84 : ((p : Int) == 84) = false := by rw [beq_eq_false_iff_ne]; omega
  have t92 : ((p : Int) == 92) = false := by rw [beq_eq_false_iff_ne]; omega
  have t82 : ((p : Int) == 82) = false := by rw [beq_eq_false_iff_ne]; omega
  have t83 : ((p : Int) == 83) = false := by rw [beq_eq_false_iff_ne]; omega
  have t85 : ((p : Int) == 85) = false := by rw [beq_eq_false_iff_ne]; omega
  have t93 : ((p : Int) == 93) = false := by rw [beq_eq_false_iff_ne]; omega
  have t87 : ((p : Int) == 87) = false := by rw [beq_eq_false_iff_ne]; omega
  have t243 : ((p : Int) == 243) = false := by rw [beq_eq_false_iff_ne]; omega
  have t253 : ((p : Int) == 253) = false := by rw [beq_eq_false_iff_ne]; omega
  have t55 : ((p : Int) == 55) = false := by rw [beq_eq_false_iff_ne]; omega
  have t57 : ((p : Int) == 57) = false := by rw [beq_eq_false_iff_ne]; omega
  have t62 : ((p : Int) == 62) = false := by rw [beq_eq_false_iff_ne]; omega
  have t94 : ((p : Int) == 94) = false := by rw [beq_eq_false_iff_ne]; omega
  have t60 : ((p : Int) == 60) = false := by rw [beq_eq_false_iff_ne]; omega
  have t245 : ((p : Int) == 245) = false := by rw [beq_eq_false_iff_ne]; omega
  have t241 : ((p : Int) == 241) = false := by rw [beq_eq_false_iff_ne]; omega
  have t242 : ((p : Int) == 242) = false := by rw [beq_eq_false_iff_ne]; omega
  have t244 : ((p : Int) == 244) = false := by rw [beq_eq_false_iff_ne]; omega
  have t250 : ((p : Int) == 250) = false := by rw [beq_eq_false_iff_ne]; omega
  go_enter Sakg.func202, Sakg.ntmps202
  go_wp2_with (go_at_call 120; refine (unhide HF).mono ?_; rintro e w1 ⟨rfl, rfl⟩)
  go_ret3
  exact ⟨rfl, rfl⟩
set_option maxHeartbeats 2000000 in
theorem ari_240 (w : World) : Calls Sakg.prog 202 #[.int .u8 240] w fun e w' => e = .returned (.tuple #[.int .i64 3, .int .i64 1, .bool true]) ∧ w = w' := by
  have HF := hide (family_any 240 (by omega) w)
  rw [show famA 240 = 16 from rfl] at HF
  go_enter Sakg.func202, Sakg.ntmps202
  go_wp2_with (go_at_call 120; refine (unhide HF).mono ?_; rintro e w1 ⟨rfl, rfl⟩)
  go_ret3
  exact ⟨rfl, rfl⟩
set_option maxHeartbeats 2000000 in
theorem ari_241 (w : World) : Calls Sakg.prog 202 #[.int .u8 241] w fun e w' => e = .returned (.tuple #[.int .i64 7, .int .i64 1, .bool true]) ∧ w = w' := by
  have HF := hide (family_any 241 (by omega) w)
  rw [show famA 241 = 16 from rfl] at HF
  go_enter Sakg.func202, Sakg.ntmps202
  go_wp2_with (go_at_call 120; refine (unhide HF).mono ?_; rintro e w1 ⟨rfl, rfl⟩)
  go_ret3
  exact ⟨rfl, rfl⟩
set_option maxHeartbeats 2000000 in
theorem ari_242 (w : World) : Calls Sakg.prog 202 #[.int .u8 242] w fun e w' => e = .returned (.tuple #[.int .i64 7, .int .i64 1, .bool true]) ∧ w = w' := by
  have HF := hide (family_any 242 (by omega) w)
  rw [show famA 242 = 16 from rfl] at HF
  go_enter Sakg.func202, Sakg.ntmps202
  go_wp2_with (go_at_call 120; refine (unhide HF).mono ?_; rintro e w1 ⟨rfl, rfl⟩)
  go_ret3
  exact ⟨rfl, rfl⟩
set_option maxHeartbeats 2000000 in
theorem ari_243 (w : World) : Calls Sakg.prog 202 #[.int .u8 243] w fun e w' => e = .returned (.tuple #[.int .i64 2, .int .i64 0, .bool true]) ∧ w = w' := by
  have HF := hide (family_any 243 (by omega) w)
  rw [show famA 243 = 31 from rfl] at HF
  go_enter Sakg.func202, Sakg.ntmps202
  go_wp2_with (go_at_call 120; refine (unhide HF).mono ?_; rintro e w1 ⟨rfl, rfl⟩)
  go_ret3
  exact ⟨rfl, rfl⟩
set_option maxHeartbeats 2000000 in
theorem ari_244 (w : World) : Calls Sakg.prog 202 #[.int .u8 244] w fun e w' => e = .returned (.tuple #[.int .i64 6, .int .i64 1, .bool true]) ∧ w = w' := by
  have HF := hide (family_any 244 (by omega) w)
  rw [show famA 244 = 16 from rfl] at HF
  go_enter Sakg.func202, Sakg.ntmps202
  go_wp2_with (go_at_call 120; refine (unhide HF).mono ?_; rintro e w1 ⟨rfl, rfl⟩)
  go_ret3
  exact ⟨rfl, rfl⟩
set_option maxHeartbeats 2000000 in
theorem ari_245 (w : World) : Calls Sakg.prog 202 #[.int .u8 245] w fun e w' => e = .returned (.tuple #[.int .i64 4, .int .i64 1, .bool true]) ∧ w = w' := by
  have HF := hide (family_any 245 (by omega) w)
  rw [show famA 245 = 16 from rfl] at HF
  go_enter Sakg.func202, Sakg.ntmps202
  go_wp2_with (go_at_call 120; refine (unhide HF).mono ?_; rintro e w1 ⟨rfl, rfl⟩)
  go_ret3
  exact ⟨rfl, rfl⟩
set_option maxHeartbeats 2000000 in
theorem ari_246 (p : Nat) (h1 : 246 ≤ p) (h2 : p ≤ 249) (w : World) : Calls Sakg.prog 202 #[.int .u8 p] w fun e w' => e = .returned (.tuple #[.int .i64 0, .int .i64 0, .bool false]) ∧ w = w' := by
  have HF := hide (family_any p (by omega) w)
  have q0 : famA p = 0 := by unfold famA; repeat (first | omega | split)
  have q1 : famA p ≠ 1 := by unfold famA; repeat (first | omega | split)
  have hf0 : ((famA p : Int) == 0) = true := by rw [beq_iff_eq]; omega
  have hf1 : ((famA p : Int) == 1) = false := by rw [beq_eq_false_iff_ne]; omega
  have hfl : famA p ≤ 31 := by unfold famA; repeat (first | omega | split)
  clear q0 q1
  generalize famA p = F at HF hf0 hf1 hfl
  have u128 : decide ((128 : Int) ≤ (p : Int)) = true := decide_eq_true (by omega)
  have v143 : decide ((p : Int) ≤ 143) = false := decide_eq_false (by omega)
  have u144 : decide ((144 : Int) ≤ (p : Int)) = true := decide_eq_true (by omega)
  have v159 : decide ((p : Int) ≤ 159) = false := decide_eq_false (by omega)
  have u160 : decide ((160 : Int) ≤ (p : Int)) = true := decide_eq_true (by omega)
  have v164 : decide ((p : Int) ≤ 164) = false := decide_eq_false (by omega)
  have t0 : ((p : Int) == 0) = false := by rw [beq_eq_false_iff_ne]; omega
  have t91 : ((p : Int) == 91) = false := by rw [beq_eq_false_iff_ne]; omega
  have t255 : ((p : Int) == 255) = false := by rw [beq_eq_false_iff_ne]; omega
  have t80 : ((p : Int) == 80) = false := by rw [beq_eq_false_iff_ne]; omega
  have t86 : ((p : Int) == 86) = false := by rw [beq_eq_false_iff_ne]; omega
  have t8 : ((p : Int) == 8) = false := by rw [beq_eq_false_iff_ne]; omega
  have t9 : ((p : Int) == 9) = false := by rw [beq_eq_false_iff_ne]; omega
  have t240 : ((p : Int) == 240) = false := by rw [beq_eq_false_iff_ne]; omega
  have t21 : ((p : Int) == 21) = false := by rw [beq_eq_false_iff_ne]; omega
  have t25 : ((p : Int) == 25) = false := by rw [beq_eq_false_iff_ne]; omega
  have t49 : ((p : Int) == 49) = false := by rw [beq_eq_false_iff_ne]; omega
  have t53 : ((p : Int) == 53) = false := by rw [beq_eq_false_iff_ne]; omega
  have t59 : ((p : Int) == 59) = false := by rw [beq_eq_false_iff_ne]; omega
  have t63 : ((p : Int) == 63) = false := by rw [beq_eq_false_iff_ne]; omega
  have t64 : ((p : Int) == 64) = false := by rw [beq_eq_false_iff_ne]; omega
  have t81 : ((p : Int) == 81) = false := by rw [beq_eq_false_iff_ne]; omega
  have t84 : ((p : Int) == 84) = false := by rw [beq_eq_false_iff_ne]; omega
  have t92 : ((p : Int) == 92) = false := by rw [beq_eq_false_iff_ne]; omega
  have t82 : ((p : Int) == 82) = false := by rw [beq_eq_false_iff_ne]; omega
  have t83 : ((p : Int) == 83) = false := by rw [beq_eq_false_iff_ne]; omega
  have t85 : ((p : Int) == 85) = false := by rw [beq_eq_false_iff_ne]; omega
  have t93 : ((p : Int) == 93) = false := by rw [beq_eq_false_iff_ne]; omega
  have t87 : ((p : Int) == 87) = false := by rw [beq_eq_false_iff_ne]; omega
  have t243 : ((p : Int) == 243) = false := by rw [beq_eq_false_iff_ne]; omega
  have t253 : ((p : Int) == 253) = false := by rw [beq_eq_false_iff_ne]; omega
  have t55 : ((p : Int) == 55) = false := by rw [beq_eq_false_iff_ne]; omega
  have t57 : ((p : Int) == 57) = false := by rw [beq_eq_false_iff_ne]; omega
  have t62 : ((p : Int) == 62) = false := by rw [beq_eq_false_iff_ne]; omega
  have t94 : ((p : Int) == 94) = false := by rw [beq_eq_false_iff_ne]; omega
  have t60 : ((p : Int) == 60) = false := by rw [beq_eq_false_iff_ne]; omega
  have t245 : ((p : Int) == 245) = false := by rw [beq_eq_false_iff_ne]; omega
  have t241 : ((p : Int) == 241) = false := by rw [beq_eq_false_iff_ne]; omega
  have t242 : ((p : Int) == 242) = false := by rw [beq_eq_false_iff_ne]; omega
  have t244 : ((p : Int) == 244) = false := by rw [beq_eq_false_iff_ne]; omega
  have t250 : ((p : Int) == 250) = false := by rw [beq_eq_false_iff_ne]; omega
  go_enter Sakg.func202, Sakg.ntmps202
  go_wp2_with (go_at_call 120; refine (unhide HF).mono ?_; rintro e w1 ⟨rfl, rfl⟩)
  go_ret3
  exact ⟨rfl, rfl⟩
set_option maxHeartbeats 2000000 in
theorem ari_250 (w : World) : Calls Sakg.prog 202 #[.int .u8 250] w fun e w' => e = .returned (.tuple #[.int .i64 6, .int .i64 1, .bool true]) ∧ w = w' := by
  have HF := hide (family_any 250 (by omega) w)
  rw [show famA 250 = 16 from rfl] at HF
  go_enter Sakg.func202, Sakg.ntmps202
  go_wp2_with (go_at_call 120; refine (unhide HF).mono ?_; rintro e w1 ⟨rfl, rfl⟩)
  go_ret3
  exact ⟨rfl, rfl⟩
set_option maxHeartbeats 2000000 in
theorem ari_251 (p : Nat) (h1 : 251 ≤ p) (h2 : p ≤ 252) (w : World) : Calls Sakg.prog 202 #[.int .u8 p] w fun e w' => e = .returned (.tuple #[.int .i64 0, .int .i64 0, .bool false]) ∧ w = w' := by
  have HF := hide (family_any p (by omega) w)
  have q0 : famA p = 0 := by unfold famA; repeat (first | omega | split)
  have q1 : famA p ≠ 1 := by unfold famA; repeat (first | omega | split)
  have hf0 : ((famA p : Int) == 0) = true := by rw [beq_iff_eq]; omega
  have hf1 : ((famA p : Int) == 1) = false := by rw [beq_eq_false_iff_ne]; omega
  have hfl : famA p ≤ 31 := by unfold famA; repeat (first | omega | split)
  clear q0 q1
  generalize famA p = F at HF hf0 hf1 hfl
  have u128 : decide ((128 : Int) ≤ (p : Int)) = true := decide_eq_true (by omega)
  have v143 : decide ((p : Int) ≤ 143) = false := decide_eq_false (by omega)
  have u144 : decide ((144 : Int) ≤ (p : Int)) = true := decide_eq_true (by omega)
  have v159 : decide ((p : Int) ≤ 159) = false := decide_eq_false (by omega)
  have u160 : decide ((160 : Int) ≤ (p : Int)) = true := decide_eq_true (by omega)
  have v164 : decide ((p : Int) ≤ 164) = false := decide_eq_false (by omega)
  have t0 : ((p : Int) == 0) = false := by rw [beq_eq_false_iff_ne]; omega
  have t91 : ((p : Int) == 91) = false := by rw [beq_eq_false_iff_ne]; omega
  have t255 : ((p : Int) == 255) = false := by rw [beq_eq_false_iff_ne]; omega
  have t80 : ((p : Int) == 80) = false := by rw [beq_eq_false_iff_ne]; omega
  have t86 : ((p : Int) == 86) = false := by rw [beq_eq_false_iff_ne]; omega
  have t8 : ((p : Int) == 8) = false := by rw [beq_eq_false_iff_ne]; omega
  have t9 : ((p : Int) == 9) = false := by rw [beq_eq_false_iff_ne]; omega
  have t240 : ((p : Int) == 240) = false := by rw [beq_eq_false_iff_ne]; omega
  have t21 : ((p : Int) == 21) = false := by rw [beq_eq_false_iff_ne]; omega
  have t25 : ((p : Int) == 25) = false := by rw [beq_eq_false_iff_ne]; omega
  have t49 : ((p : Int) == 49) = false := by rw [beq_eq_false_iff_ne]; omega
  have t53 : ((p : Int) == 53) = false := by rw [beq_eq_false_iff_ne]; omega
  have t59 : ((p : Int) == 59) = false := by rw [beq_eq_false_iff_ne]; omega
  have t63 : ((p : Int) == 63) = false := by rw [beq_eq_false_iff_ne]; omega
  have t64 : ((p : Int) == 64) = false := by rw [beq_eq_false_iff_ne]; omega
  have t81 : ((p : Int) == 81) = false := by rw [beq_eq_false_iff_ne]; omega
  have t84 : ((p : Int) == 84) = false := by rw [beq_eq_false_iff_ne]; omega
  have t92 : ((p : Int) == 92) = false := by rw [beq_eq_false_iff_ne]; omega
  have t82 : ((p : Int) == 82) = false := by rw [beq_eq_false_iff_ne]; omega
  have t83 : ((p : Int) == 83) = false := by rw [beq_eq_false_iff_ne]; omega
  have t85 : ((p : Int) == 85) = false := by rw [beq_eq_false_iff_ne]; omega
  have t93 : ((p : Int) == 93) = false := by rw [beq_eq_false_iff_ne]; omega
  have t87 : ((p : Int) == 87) = false := by rw [beq_eq_false_iff_ne]; omega
  have t243 : ((p : Int) == 243) = false := by rw [beq_eq_false_iff_ne]; omega
  have t253 : ((p : Int) == 253) = false := by rw [beq_eq_false_iff_ne]; omega
  have t55 : ((p : Int) == 55) = false := by rw [beq_eq_false_iff_ne]; omega
  have t57 : ((p : Int) == 57) = false := by rw [beq_eq_false_iff_ne]; omega
  have t62 : ((p : Int) == 62) = false := by rw [beq_eq_false_iff_ne]; omega
  have t94 : ((p : Int) == 94) = false := by rw [beq_eq_false_iff_ne]; omega
  have t60 : ((p : Int) == 60) = false := by rw [beq_eq_false_iff_ne]; omega
  have t245 : ((p : Int) == 245) = false := by rw [beq_eq_false_iff_ne]; omega
  have t241 : ((p : Int) == 241) = false := by rw [beq_eq_false_iff_ne]; omega
  have t242 : ((p : Int) == 242) = false := by rw [beq_eq_false_iff_ne]; omega
  have t244 : ((p : Int) == 244) = false := by rw [beq_eq_false_iff_ne]; omega
  have t250 : ((p : Int) == 250) = false := by rw [beq_eq_false_iff_ne]; omega
  go_enter Sakg.func202, Sakg.ntmps202
  go_wp2_with (go_at_call 120; refine (unhide HF).mono ?_; rintro e w1 ⟨rfl, rfl⟩)
  go_ret3
  exact ⟨rfl, rfl⟩
set_option maxHeartbeats 2000000 in
theorem ari_253 (w : World) : Calls Sakg.prog 202 #[.int .u8 253] w fun e w' => e = .returned (.tuple #[.int .i64 2, .int .i64 0, .bool true]) ∧ w = w' := by
  have HF := hide (family_any 253 (by omega) w)
  rw [show famA 253 = 31 from rfl] at HF
  go_enter Sakg.func202, Sakg.ntmps202
  go_wp2_with (go_at_call 120; refine (unhide HF).mono ?_; rintro e w1 ⟨rfl, rfl⟩)
  go_ret3
  exact ⟨rfl, rfl⟩
set_option maxHeartbeats 2000000 in
theorem ari_254 (w : World) : Calls Sakg.prog 202 #[.int .u8 254] w fun e w' => e = .returned (.tuple #[.int .i64 0, .int .i64 0, .bool false]) ∧ w = w' := by
  have HF := hide (family_any 254 (by omega) w)
  rw [show famA 254 = 0 from rfl] at HF
  go_enter Sakg.func202, Sakg.ntmps202
  go_wp2_with (go_at_call 120; refine (unhide HF).mono ?_; rintro e w1 ⟨rfl, rfl⟩)
  go_ret3
  exact ⟨rfl, rfl⟩
set_option maxHeartbeats 2000000 in
theorem ari_255 (w : World) : Calls Sakg.prog 202 #[.int .u8 255] w fun e w' => e = .returned (.tuple #[.int .i64 1, .int .i64 0, .bool true]) ∧ w = w' := by
  have HF := hide (family_any 255 (by omega) w)
  rw [show famA 255 = 16 from rfl] at HF
  go_enter Sakg.func202, Sakg.ntmps202
  go_wp2_with (go_at_call 120; refine (unhide HF).mono ?_; rintro e w1 ⟨rfl, rfl⟩)
  go_ret3
  exact ⟨rfl, rfl⟩
set_option maxHeartbeats 16000000 in
theorem arity_any (p : Nat) (hp : p ≤ 255) (w : World) : Calls Sakg.prog 202 #[.int .u8 p] w fun e w' => e = .returned (.tuple #[.int .i64 (takA p), .int .i64 (givA p), .bool (decide (famA p ≠ 0))]) ∧ w = w' := by
  by_cases h0 : p ≤ 0
  · obtain rfl : p = 0 := by omega
    exact ari_0 w
  by_cases h1 : p ≤ 7
  · have hk : decide (famA p ≠ 0) = true := decide_eq_true (by unfold famA; repeat (first | omega | split))
    have ht : takA p = 2 := by
      have hk' := of_decide_eq_true hk
      have h1 : famA p = 1 := by unfold famA; repeat (first | omega | split)
      unfold takA; repeat (first | rw [if_pos (by omega)] | rw [if_neg (by omega)])
    have hg : givA p = 1 := by
      have hk' := of_decide_eq_true hk
      unfold givA; repeat (first | rw [if_pos (by omega)] | rw [if_neg (by omega)])
    rw [hk, ht, hg]
    exact ari_1 p (by omega) (by omega) w
  by_cases h8 : p ≤ 8
  · obtain rfl : p = 8 := by omega
    exact ari_8 w
  by_cases h9 : p ≤ 9
  · obtain rfl : p = 9 := by omega
    exact ari_9 w
  by_cases h10 : p ≤ 11
  · have hk : decide (famA p ≠ 0) = true := decide_eq_true (by unfold famA; repeat (first | omega | split))
    have ht : takA p = 2 := by
      have hk' := of_decide_eq_true hk
      have h1 : famA p = 1 := by unfold famA; repeat (first | omega | split)
      unfold takA; repeat (first | rw [if_pos (by omega)] | rw [if_neg (by omega)])
    have hg : givA p = 1 := by
      have hk' := of_decide_eq_true hk
      unfold givA; repeat (first | rw [if_pos (by omega)] | rw [if_neg (by omega)])
    rw [hk, ht, hg]
    exact ari_10 p (by omega) (by omega) w
  by_cases h12 : p ≤ 15
  · have hk : decide (famA p ≠ 0) = false := decide_eq_false (by unfold famA; repeat (first | omega | split))
    have ht : takA p = 0 := by
      have hk' := of_decide_eq_false hk
      have h1 : famA p ≠ 1 := by unfold famA; repeat (first | omega | split)
      unfold takA; repeat (first | rw [if_pos (by omega)] | rw [if_neg (by omega)])
    have hg : givA p = 0 := by
      have hk' := of_decide_eq_false hk
      unfold givA; repeat (first | rw [if_pos (by omega)] | rw [if_neg (by omega)])
    rw [hk, ht, hg]
    exact ari_12 p (by omega) (by omega) w
  by_cases h16 : p ≤ 20
  · have hk : decide (famA p ≠ 0) = true := decide_eq_true (by unfold famA; repeat (first | omega | split))
    have ht : takA p = 2 := by
      have hk' := of_decide_eq_true hk
      have h1 : famA p = 1 := by unfold famA; repeat (first | omega | split)
      unfold takA; repeat (first | rw [if_pos (by omega)] | rw [if_neg (by omega)])
    have hg : givA p = 1 := by
      have hk' := of_decide_eq_true hk
      unfold givA; repeat (first | rw [if_pos (by omega)] | rw [if_neg (by omega)])
    rw [hk, ht, hg]
    exact ari_16 p (by omega) (by omega) w
  by_cases h21 : p ≤ 21
  · obtain rfl : p = 21 := by omega
    exact ari_21 w
  by_cases h22 : p ≤ 24
  · have hk : decide (famA p ≠ 0) = true := decide_eq_true (by unfold famA; repeat (first | omega | split))
    have ht : takA p = 2 := by
      have hk' := of_decide_eq_true hk
      have h1 : famA p = 1 := by unfold famA; repeat (first | omega | split)
      unfold takA; repeat (first | rw [if_pos (by omega)] | rw [if_neg (by omega)])
    have hg : givA p = 1 := by
      have hk' := of_decide_eq_true hk
      unfold givA; repeat (first | rw [if_pos (by omega)] | rw [if_neg (by omega)])
    rw [hk, ht, hg]
    exact ari_22 p (by omega) (by omega) w
  by_cases h25 : p ≤ 25
  · obtain rfl : p = 25 := by omega
    exact ari_25 w
  by_cases h26 : p ≤ 29
  · have hk : decide (famA p ≠ 0) = true := decide_eq_true (by unfold famA; repeat (first | omega | split))
    have ht : takA p = 2 := by
      have hk' := of_decide_eq_true hk
      have h1 : famA p = 1 := by unfold famA; repeat (first | omega | split)
      unfold takA; repeat (first | rw [if_pos (by omega)] | rw [if_neg (by omega)])
    have hg : givA p = 1 := by
      have hk' := of_decide_eq_true hk
      unfold givA; repeat (first | rw [if_pos (by omega)] | rw [if_neg (by omega)])
    rw [hk, ht, hg]
    exact ari_26 p (by omega) (by omega) w
  by_cases h30 : p ≤ 31
  · have hk : decide (famA p ≠ 0) = false := decide_eq_false (by unfold famA; repeat (first | omega | split))
    have ht : takA p = 0 := by
      have hk' := of_decide_eq_false hk
      have h1 : famA p ≠ 1 := by unfold famA; repeat (first | omega | split)
      unfold takA; repeat (first | rw [if_pos (by omega)] | rw [if_neg (by omega)])
    have hg : givA p = 0 := by
      have hk' := of_decide_eq_false hk
      unfold givA; repeat (first | rw [if_pos (by omega)] | rw [if_neg (by omega)])
    rw [hk, ht, hg]
    exact ari_30 p (by omega) (by omega) w
  by_cases h32 : p ≤ 32
  · obtain rfl : p = 32 := by omega
    exact ari_32 w
  by_cases h33 : p ≤ 47
  · have hk : decide (famA p ≠ 0) = false := decide_eq_false (by unfold famA; repeat (first | omega | split))
    have ht : takA p = 0 := by
      have hk' := of_decide_eq_false hk
      have h1 : famA p ≠ 1 := by unfold famA; repeat (first | omega | split)
      unfold takA; repeat (first | rw [if_pos (by omega)] | rw [if_neg (by omega)])
    have hg : givA p = 0 := by
      have hk' := of_decide_eq_false hk
      unfold givA; repeat (first | rw [if_pos (by omega)] | rw [if_neg (by omega)])
    rw [hk, ht, hg]
    exact ari_33 p (by omega) (by omega) w
  by_cases h48 : p ≤ 48
  · obtain rfl : p = 48 := by omega
    exact ari_48 w
  by_cases h49 : p ≤ 49
  · obtain rfl : p = 49 := by omega
    exact ari_49 w
  by_cases h50 : p ≤ 52
  · have hk : decide (famA p ≠ 0) = true := decide_eq_true (by unfold famA; repeat (first | omega | split))
    have ht : takA p = 0 := by
      have hk' := of_decide_eq_true hk
      have h1 : famA p ≠ 1 := by unfold famA; repeat (first | omega | split)
      unfold takA; repeat (first | rw [if_pos (by omega)] | rw [if_neg (by omega)])
    have hg : givA p = 1 := by
      have hk' := of_decide_eq_true hk
      unfold givA; repeat (first | rw [if_pos (by omega)] | rw [if_neg (by omega)])
    rw [hk, ht, hg]
    exact ari_50 p (by omega) (by omega) w
  by_cases h53 : p ≤ 53
  · obtain rfl : p = 53 := by omega
    exact ari_53 w
  by_cases h54 : p ≤ 54
  · obtain rfl : p = 54 := by omega
    exact ari_54 w
  by_cases h55 : p ≤ 55
  · obtain rfl : p = 55 := by omega
    exact ari_55 w
  by_cases h56 : p ≤ 56
  · obtain rfl : p = 56 := by omega
    exact ari_56 w
  by_cases h57 : p ≤ 57
  · obtain rfl : p = 57 := by omega
    exact ari_57 w
  by_cases h58 : p ≤ 58
  · obtain rfl : p = 58 := by omega
    exact ari_58 w
  by_cases h59 : p ≤ 59
  · obtain rfl : p = 59 := by omega
    exact ari_59 w
  by_cases h60 : p ≤ 60
  · obtain rfl : p = 60 := by omega
    exact ari_60 w
  by_cases h61 : p ≤ 61
  · obtain rfl : p = 61 := by omega
    exact ari_61 w
  by_cases h62 : p ≤ 62
  · obtain rfl : p = 62 := by omega
    exact ari_62 w
  by_cases h63 : p ≤ 63
  · obtain rfl : p = 63 := by omega
    exact ari_63 w
  by_cases h64 : p ≤ 64
  · obtain rfl : p = 64 := by omega
    exact ari_64 w
  by_cases h65 : p ≤ 72
  · have hk : decide (famA p ≠ 0) = true := decide_eq_true (by unfold famA; repeat (first | omega | split))
    have ht : takA p = 0 := by
      have hk' := of_decide_eq_true hk
      have h1 : famA p ≠ 1 := by unfold famA; repeat (first | omega | split)
      unfold takA; repeat (first | rw [if_pos (by omega)] | rw [if_neg (by omega)])
    have hg : givA p = 1 := by
      have hk' := of_decide_eq_true hk
      unfold givA; repeat (first | rw [if_pos (by omega)] | rw [if_neg (by omega)])
    rw [hk, ht, hg]
    exact ari_65 p (by omega) (by omega) w
  by_cases h73 : p ≤ 79
  · have hk : decide (famA p ≠ 0) = false := decide_eq_false (by unfold famA; repeat (first | omega | split))
    have ht : takA p = 0 := by
      have hk' := of_decide_eq_false hk
      have h1 : famA p ≠ 1 := by unfold famA; repeat (first | omega | split)
      unfold takA; repeat (first | rw [if_pos (by omega)] | rw [if_neg (by omega)])
    have hg : givA p = 0 := by
      have hk' := of_decide_eq_false hk
      unfold givA; repeat (first | rw [if_pos (by omega)] | rw [if_neg (by omega)])
    rw [hk, ht, hg]
    exact ari_73 p (by omega) (by omega) w
  by_cases h80 : p ≤ 80
  · obtain rfl : p = 80 := by omega
    exact ari_80 w
  by_cases h81 : p ≤ 81
  · obtain rfl : p = 81 := by omega
    exact ari_81 w
  by_cases h82 : p ≤ 82
  · obtain rfl : p = 82 := by omega
    exact ari_82 w
  by_cases h83 : p ≤ 83
  · obtain rfl : p = 83 := by omega
    exact ari_83 w
  by_cases h84 : p ≤ 84
  · obtain rfl : p = 84 := by omega
    exact ari_84 w
  by_cases h85 : p ≤ 85
  · obtain rfl : p = 85 := by omega
    exact ari_85 w
  by_cases h86 : p ≤ 86
  · obtain rfl : p = 86 := by omega
    exact ari_86 w
  by_cases h87 : p ≤ 87
  · obtain rfl : p = 87 := by omega
    exact ari_87 w
  by_cases h88 : p ≤ 90
  · have hk : decide (famA p ≠ 0) = true := decide_eq_true (by unfold famA; repeat (first | omega | split))
    have ht : takA p = 0 := by
      have hk' := of_decide_eq_true hk
      have h1 : famA p ≠ 1 := by unfold famA; repeat (first | omega | split)
      unfold takA; repeat (first | rw [if_pos (by omega)] | rw [if_neg (by omega)])
    have hg : givA p = 1 := by
      have hk' := of_decide_eq_true hk
      unfold givA; repeat (first | rw [if_pos (by omega)] | rw [if_neg (by omega)])
    rw [hk, ht, hg]
    exact ari_88 p (by omega) (by omega) w
  by_cases h91 : p ≤ 91
  · obtain rfl : p = 91 := by omega
    exact ari_91 w
  by_cases h92 : p ≤ 92
  · obtain rfl : p = 92 := by omega
    exact ari_92 w
  by_cases h93 : p ≤ 93
  · obtain rfl : p = 93 := by omega
    exact ari_93 w
  by_cases h94 : p ≤ 94
  · obtain rfl : p = 94 := by omega
    exact ari_94 w
  by_cases h95 : p ≤ 127
  · have hk : decide (famA p ≠ 0) = true := decide_eq_true (by unfold famA; repeat (first | omega | split))
    have ht : takA p = 0 := by
      have hk' := of_decide_eq_true hk
      have h1 : famA p ≠ 1 := by unfold famA; repeat (first | omega | split)
      unfold takA; repeat (first | rw [if_pos (by omega)] | rw [if_neg (by omega)])
    have hg : givA p = 1 := by
      have hk' := of_decide_eq_true hk
      unfold givA; repeat (first | rw [if_pos (by omega)] | rw [if_neg (by omega)])
    rw [hk, ht, hg]
    exact ari_95 p (by omega) (by omega) w
  by_cases h128 : p ≤ 143
  · have hk : decide (famA p ≠ 0) = true := decide_eq_true (by unfold famA; repeat (first | omega | split))
    have ht : takA p = p - 127 := by
      have hk' := of_decide_eq_true hk
      have h1 : famA p ≠ 1 := by unfold famA; repeat (first | omega | split)
      unfold takA; repeat (first | rw [if_pos (by omega)] | rw [if_neg (by omega)])
    have hg : givA p = p - 126 := by
      have hk' := of_decide_eq_true hk
      unfold givA; repeat (first | rw [if_pos (by omega)] | rw [if_neg (by omega)])
    rw [hk, ht, hg]
    exact ari_128 p (by omega) (by omega) _ _ rfl rfl w
  by_cases h144 : p ≤ 159
  · have hk : decide (famA p ≠ 0) = true := decide_eq_true (by unfold famA; repeat (first | omega | split))
    have ht : takA p = p - 142 := by
      have hk' := of_decide_eq_true hk
      have h1 : famA p ≠ 1 := by unfold famA; repeat (first | omega | split)
      unfold takA; repeat (first | rw [if_pos (by omega)] | rw [if_neg (by omega)])
    have hg : givA p = p - 142 := by
      have hk' := of_decide_eq_true hk
      unfold givA; repeat (first | rw [if_pos (by omega)] | rw [if_neg (by omega)])
    rw [hk, ht, hg]
    exact ari_144 p (by omega) (by omega) _ _ rfl rfl w
  by_cases h160 : p ≤ 164
  · have hk : decide (famA p ≠ 0) = true := decide_eq_true (by unfold famA; repeat (first | omega | split))
    have ht : takA p = p - 158 := by
      have hk' := of_decide_eq_true hk
      have h1 : famA p ≠ 1 := by unfold famA; repeat (first | omega | split)
      unfold takA; repeat (first | rw [if_pos (by omega)] | rw [if_neg (by omega)])
    have hg : givA p = 0 := by
      have hk' := of_decide_eq_true hk
      unfold givA; repeat (first | rw [if_pos (by omega)] | rw [if_neg (by omega)])
    rw [hk, ht, hg]
    exact ari_160 p (by omega) (by omega) _ _ rfl rfl w
  by_cases h165 : p ≤ 239
  · have hk : decide (famA p ≠ 0) = false := decide_eq_false (by unfold famA; repeat (first | omega | split))
    have ht : takA p = 0 := by
      have hk' := of_decide_eq_false hk
      have h1 : famA p ≠ 1 := by unfold famA; repeat (first | omega | split)
      unfold takA; repeat (first | rw [if_pos (by omega)] | rw [if_neg (by omega)])
    have hg : givA p = 0 := by
      have hk' := of_decide_eq_false hk
      unfold givA; repeat (first | rw [if_pos (by omega)] | rw [if_neg (by omega)])
    rw [hk, ht, hg]
    exact ari_165 p (by omega) (by omega) w
  by_cases h240 : p ≤ 240
  · obtain rfl : p = 240 := by omega
    exact ari_240 w
  by_cases h241 : p ≤ 241
  · obtain rfl : p = 241 := by omega
    exact ari_241 w
  by_cases h242 : p ≤ 242
  · obtain rfl : p = 242 := by omega
    exact ari_242 w
  by_cases h243 : p ≤ 243
  · obtain rfl : p = 243 := by omega
    exact ari_243 w
  by_cases h244 : p ≤ 244
  · obtain rfl : p = 244 := by omega
    exact ari_244 w
  by_cases h245 : p ≤ 245
  · obtain rfl : p = 245 := by omega
    exact ari_245 w
  by_cases h246 : p ≤ 249
  · have hk : decide (famA p ≠ 0) = false := decide_eq_false (by unfold famA; repeat (first | omega | split))
    have ht : takA p = 0 := by
      have hk' := of_decide_eq_false hk
      have h1 : famA p ≠ 1 := by unfold famA; repeat (first | omega | split)
      unfold takA; repeat (first | rw [if_pos (by omega)] | rw [if_neg (by omega)])
    have hg : givA p = 0 := by
      have hk' := of_decide_eq_false hk
      unfold givA; repeat (first | rw [if_pos (by omega)] | rw [if_neg (by omega)])
    rw [hk, ht, hg]
    exact ari_246 p (by omega) (by omega) w
  by_cases h250 : p ≤ 250
  · obtain rfl : p = 250 := by omega
    exact ari_250 w
  by_cases h251 : p ≤ 252
  · have hk : decide (famA p ≠ 0) = false := decide_eq_false (by unfold famA; repeat (first | omega | split))
    have ht : takA p = 0 := by
      have hk' := of_decide_eq_false hk
      have h1 : famA p ≠ 1 := by unfold famA; repeat (first | omega | split)
      unfold takA; repeat (first | rw [if_pos (by omega)] | rw [if_neg (by omega)])
    have hg : givA p = 0 := by
      have hk' := of_decide_eq_false hk
      unfold givA; repeat (first | rw [if_pos (by omega)] | rw [if_neg (by omega)])
    rw [hk, ht, hg]
    exact ari_251 p (by omega) (by omega) w
  by_cases h253 : p ≤ 253
  · obtain rfl : p = 253 := by omega
    exact ari_253 w
  by_cases h254 : p ≤ 254
  · obtain rfl : p = 254 := by omega
    exact ari_254 w
  obtain rfl : p = 255 := by omega
  exact ari_255 w

end Go.Proofs.YgcsakGreat
