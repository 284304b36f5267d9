/-
  law: pricedUsed.
-/
import Derived.Test.YgcsakGreatLpC
namespace Go.Proofs.YgcsakGreat
set_option linter.unusedVariables false
set_option linter.unusedSimpArgs false
set_option maxRecDepth 100000
open Go.RowKit

set_option maxHeartbeats 4000000 in
theorem used_k0 (n : Nat) (hn : n ≤ 1024) (w : World) : Calls Sakg.prog 51 #[.int .u8 0, .int .u16 n] w fun e w' => e = .returned (.int .u64 (21035 + 6 * ((n + 31) / 32) + (memN ((n + 31) / 32)) : Nat)) ∧ w = w' := by
  have hm1 := memN_130 ((n + 31) / 32) (by omega)
  have HW := hide (wordsOf_x n (by omega) w)
  have HM := hide (memOf_x ((n + 31) / 32) (by omega) w)
  obtain ⟨mm, hmm⟩ : ∃ mm, mm = (memN ((n + 31) / 32)) := ⟨_, rfl⟩
  rw [← hmm] at HM hm1 ⊢
  obtain ⟨wd, hwd⟩ : ∃ wd, wd = ((n + 31) / 32) := ⟨_, rfl⟩
  have hwl : wd ≤ 40 := by omega
  clear hmm
  rw [← hwd] at HW HM ⊢
  clear hwd
  have e : ((21035 + 6 * wd + mm : Nat) : Int) = 21035 + 6 * (wd : Int) + (mm : Int) := by omega
  rw [e]
  clear e
  go_enter Sakg.func51, Sakg.ntmps51
  go_wp2_with (first | (go_at_call 128; refine (unhide HW).mono ?_; rintro e w1 ⟨rfl, rfl⟩) | (go_at_call 129; refine (unhide HM).mono ?_; rintro e w2 ⟨rfl, rfl⟩))
  go_ret
  exact ⟨rfl, rfl⟩
set_option maxHeartbeats 4000000 in
theorem used_k1 (n : Nat) (hn : n ≤ 1024) (w : World) : Calls Sakg.prog 51 #[.int .u8 1, .int .u16 n] w fun e w' => e = .returned (.int .u64 (21380 + 8 * n + (memN ((n + 31) / 32)) : Nat)) ∧ w = w' := by
  have hm1 := memN_130 ((n + 31) / 32) (by omega)
  have HW := hide (wordsOf_x n (by omega) w)
  have HM := hide (memOf_x ((n + 31) / 32) (by omega) w)
  obtain ⟨mm, hmm⟩ : ∃ mm, mm = (memN ((n + 31) / 32)) := ⟨_, rfl⟩
  rw [← hmm] at HM hm1 ⊢
  obtain ⟨wd, hwd⟩ : ∃ wd, wd = ((n + 31) / 32) := ⟨_, rfl⟩
  have hwl : wd ≤ 40 := by omega
  clear hmm
  rw [← hwd] at HW HM 
  clear hwd
  have e : ((21380 + 8 * n + mm : Nat) : Int) = 21380 + 8 * (n : Int) + (mm : Int) := by omega
  rw [e]
  clear e
  go_enter Sakg.func51, Sakg.ntmps51
  go_wp2_with (first | (go_at_call 128; refine (unhide HW).mono ?_; rintro e w1 ⟨rfl, rfl⟩) | (go_at_call 129; refine (unhide HM).mono ?_; rintro e w2 ⟨rfl, rfl⟩))
  go_ret
  exact ⟨rfl, rfl⟩
set_option maxHeartbeats 4000000 in
theorem used_k2 (n : Nat) (hn : n ≤ 1024) (w : World) : Calls Sakg.prog 51 #[.int .u8 2, .int .u16 n] w fun e w' => e = .returned (.int .u64 (21010 + 3 * ((n + 31) / 32) + (memN ((n + 31) / 32)) : Nat)) ∧ w = w' := by
  have hm1 := memN_130 ((n + 31) / 32) (by omega)
  have HW := hide (wordsOf_x n (by omega) w)
  have HM := hide (memOf_x ((n + 31) / 32) (by omega) w)
  obtain ⟨mm, hmm⟩ : ∃ mm, mm = (memN ((n + 31) / 32)) := ⟨_, rfl⟩
  rw [← hmm] at HM hm1 ⊢
  obtain ⟨wd, hwd⟩ : ∃ wd, wd = ((n + 31) / 32) := ⟨_, rfl⟩
  have hwl : wd ≤ 40 := by omega
  clear hmm
  rw [← hwd] at HW HM ⊢
  clear hwd
  have e : ((21010 + 3 * wd + mm : Nat) : Int) = 21010 + 3 * (wd : Int) + (mm : Int) := by omega
  rw [e]
  clear e
  go_enter Sakg.func51, Sakg.ntmps51
  go_wp2_with (first | (go_at_call 128; refine (unhide HW).mono ?_; rintro e w1 ⟨rfl, rfl⟩) | (go_at_call 129; refine (unhide HM).mono ?_; rintro e w2 ⟨rfl, rfl⟩))
  go_ret
  exact ⟨rfl, rfl⟩
set_option maxHeartbeats 4000000 in
theorem used_k3 (n : Nat) (hn : n ≤ 1024) (w : World) : Calls Sakg.prog 51 #[.int .u8 3, .int .u16 n] w fun e w' => e = .returned (.int .u64 (23704 : Nat)) ∧ w = w' := by
  have hm1 := memN_130 ((n + 31) / 32) (by omega)
  have HW := hide (wordsOf_x n (by omega) w)
  have HM := hide (memOf_x ((n + 31) / 32) (by omega) w)
  obtain ⟨mm, hmm⟩ : ∃ mm, mm = (memN ((n + 31) / 32)) := ⟨_, rfl⟩
  rw [← hmm] at HM hm1 
  obtain ⟨wd, hwd⟩ : ∃ wd, wd = ((n + 31) / 32) := ⟨_, rfl⟩
  have hwl : wd ≤ 40 := by omega
  clear hmm
  rw [← hwd] at HW HM 
  clear hwd
  have e : ((23704 : Nat) : Int) = 23704 := by omega
  rw [e]
  clear e
  go_enter Sakg.func51, Sakg.ntmps51
  go_wp2_with (first | (go_at_call 128; refine (unhide HW).mono ?_; rintro e w1 ⟨rfl, rfl⟩) | (go_at_call 129; refine (unhide HM).mono ?_; rintro e w2 ⟨rfl, rfl⟩))
  go_ret
  exact ⟨rfl, rfl⟩
set_option maxHeartbeats 4000000 in
theorem used_k4 (n : Nat) (hn : n ≤ 1024) (w : World) : Calls Sakg.prog 51 #[.int .u8 4, .int .u16 n] w fun e w' => e = .returned (.int .u64 (55316 : Nat)) ∧ w = w' := by
  have hm1 := memN_130 ((n + 31) / 32) (by omega)
  have HW := hide (wordsOf_x n (by omega) w)
  have HM := hide (memOf_x ((n + 31) / 32) (by omega) w)
  obtain ⟨mm, hmm⟩ : ∃ mm, mm = (memN ((n + 31) / 32)) := ⟨_, rfl⟩
  rw [← hmm] at HM hm1 
  obtain ⟨wd, hwd⟩ : ∃ wd, wd = ((n + 31) / 32) := ⟨_, rfl⟩
  have hwl : wd ≤ 40 := by omega
  clear hmm
  rw [← hwd] at HW HM 
  clear hwd
  have e : ((55316 : Nat) : Int) = 55316 := by omega
  rw [e]
  clear e
  go_enter Sakg.func51, Sakg.ntmps51
  go_wp2_with (first | (go_at_call 128; refine (unhide HW).mono ?_; rintro e w1 ⟨rfl, rfl⟩) | (go_at_call 129; refine (unhide HM).mono ?_; rintro e w2 ⟨rfl, rfl⟩))
  go_ret
  exact ⟨rfl, rfl⟩
set_option maxHeartbeats 4000000 in
theorem used_k5 (n : Nat) (hn : n ≤ 1024) (w : World) : Calls Sakg.prog 51 #[.int .u8 5, .int .u16 n] w fun e w' => e = .returned (.int .u64 (55316 : Nat)) ∧ w = w' := by
  have hm1 := memN_130 ((n + 31) / 32) (by omega)
  have HW := hide (wordsOf_x n (by omega) w)
  have HM := hide (memOf_x ((n + 31) / 32) (by omega) w)
  obtain ⟨mm, hmm⟩ : ∃ mm, mm = (memN ((n + 31) / 32)) := ⟨_, rfl⟩
  rw [← hmm] at HM hm1 
  obtain ⟨wd, hwd⟩ : ∃ wd, wd = ((n + 31) / 32) := ⟨_, rfl⟩
  have hwl : wd ≤ 40 := by omega
  clear hmm
  rw [← hwd] at HW HM 
  clear hwd
  have e : ((55316 : Nat) : Int) = 55316 := by omega
  rw [e]
  clear e
  go_enter Sakg.func51, Sakg.ntmps51
  go_wp2_with (first | (go_at_call 128; refine (unhide HW).mono ?_; rintro e w1 ⟨rfl, rfl⟩) | (go_at_call 129; refine (unhide HM).mono ?_; rintro e w2 ⟨rfl, rfl⟩))
  go_ret
  exact ⟨rfl, rfl⟩
set_option maxHeartbeats 4000000 in
theorem used_k6 (n : Nat) (hn : n ≤ 1024) (w : World) : Calls Sakg.prog 51 #[.int .u8 6, .int .u16 n] w fun e w' => e = .returned (.int .u64 (197244 : Nat)) ∧ w = w' := by
  have hm1 := memN_130 ((n + 31) / 32) (by omega)
  have HW := hide (wordsOf_x n (by omega) w)
  have HM := hide (memOf_x ((n + 31) / 32) (by omega) w)
  obtain ⟨mm, hmm⟩ : ∃ mm, mm = (memN ((n + 31) / 32)) := ⟨_, rfl⟩
  rw [← hmm] at HM hm1 
  obtain ⟨wd, hwd⟩ : ∃ wd, wd = ((n + 31) / 32) := ⟨_, rfl⟩
  have hwl : wd ≤ 40 := by omega
  clear hmm
  rw [← hwd] at HW HM 
  clear hwd
  have e : ((197244 : Nat) : Int) = 197244 := by omega
  rw [e]
  clear e
  go_enter Sakg.func51, Sakg.ntmps51
  go_wp2_with (first | (go_at_call 128; refine (unhide HW).mono ?_; rintro e w1 ⟨rfl, rfl⟩) | (go_at_call 129; refine (unhide HM).mono ?_; rintro e w2 ⟨rfl, rfl⟩))
  go_ret
  exact ⟨rfl, rfl⟩
set_option maxHeartbeats 4000000 in
theorem used_k8 (n : Nat) (hn : n ≤ 1024) (w : World) : Calls Sakg.prog 51 #[.int .u8 8, .int .u16 n] w fun e w' => e = .returned (.int .u64 (24808 : Nat)) ∧ w = w' := by
  have hm1 := memN_130 ((n + 31) / 32) (by omega)
  have HW := hide (wordsOf_x n (by omega) w)
  have HM := hide (memOf_x ((n + 31) / 32) (by omega) w)
  obtain ⟨mm, hmm⟩ : ∃ mm, mm = (memN ((n + 31) / 32)) := ⟨_, rfl⟩
  rw [← hmm] at HM hm1 
  obtain ⟨wd, hwd⟩ : ∃ wd, wd = ((n + 31) / 32) := ⟨_, rfl⟩
  have hwl : wd ≤ 40 := by omega
  clear hmm
  rw [← hwd] at HW HM 
  clear hwd
  have e : ((24808 : Nat) : Int) = 24808 := by omega
  rw [e]
  clear e
  go_enter Sakg.func51, Sakg.ntmps51
  go_wp2_with (first | (go_at_call 128; refine (unhide HW).mono ?_; rintro e w1 ⟨rfl, rfl⟩) | (go_at_call 129; refine (unhide HM).mono ?_; rintro e w2 ⟨rfl, rfl⟩))
  go_ret
  exact ⟨rfl, rfl⟩
set_option maxHeartbeats 4000000 in
theorem used_k9 (n : Nat) (hn : n ≤ 1024) (w : World) : Calls Sakg.prog 51 #[.int .u8 9, .int .u16 n] w fun e w' => e = .returned (.int .u64 (53007 + 2 * ((n + 31) / 32) + (memN ((n + 31) / 32)) : Nat)) ∧ w = w' := by
  have hm1 := memN_130 ((n + 31) / 32) (by omega)
  have HW := hide (wordsOf_x n (by omega) w)
  have HM := hide (memOf_x ((n + 31) / 32) (by omega) w)
  obtain ⟨mm, hmm⟩ : ∃ mm, mm = (memN ((n + 31) / 32)) := ⟨_, rfl⟩
  rw [← hmm] at HM hm1 ⊢
  obtain ⟨wd, hwd⟩ : ∃ wd, wd = ((n + 31) / 32) := ⟨_, rfl⟩
  have hwl : wd ≤ 40 := by omega
  clear hmm
  rw [← hwd] at HW HM ⊢
  clear hwd
  have e : ((53007 + 2 * wd + mm : Nat) : Int) = 53007 + 2 * (wd : Int) + (mm : Int) := by omega
  rw [e]
  clear e
  go_enter Sakg.func51, Sakg.ntmps51
  go_wp2_with (first | (go_at_call 128; refine (unhide HW).mono ?_; rintro e w1 ⟨rfl, rfl⟩) | (go_at_call 129; refine (unhide HM).mono ?_; rintro e w2 ⟨rfl, rfl⟩))
  go_ret
  exact ⟨rfl, rfl⟩
set_option maxHeartbeats 4000000 in
theorem used_k10 (n : Nat) (hn : n ≤ 1024) (w : World) : Calls Sakg.prog 51 #[.int .u8 10, .int .u16 n] w fun e w' => e = .returned (.int .u64 (53009 + 8 * ((n + 31) / 32) + (memN ((n + 31) / 32)) : Nat)) ∧ w = w' := by
  have hm1 := memN_130 ((n + 31) / 32) (by omega)
  have HW := hide (wordsOf_x n (by omega) w)
  have HM := hide (memOf_x ((n + 31) / 32) (by omega) w)
  obtain ⟨mm, hmm⟩ : ∃ mm, mm = (memN ((n + 31) / 32)) := ⟨_, rfl⟩
  rw [← hmm] at HM hm1 ⊢
  obtain ⟨wd, hwd⟩ : ∃ wd, wd = ((n + 31) / 32) := ⟨_, rfl⟩
  have hwl : wd ≤ 40 := by omega
  clear hmm
  rw [← hwd] at HW HM ⊢
  clear hwd
  have e : ((53009 + 8 * wd + mm : Nat) : Int) = 53009 + 8 * (wd : Int) + (mm : Int) := by omega
  rw [e]
  clear e
  go_enter Sakg.func51, Sakg.ntmps51
  go_wp2_with (first | (go_at_call 128; refine (unhide HW).mono ?_; rintro e w1 ⟨rfl, rfl⟩) | (go_at_call 129; refine (unhide HM).mono ?_; rintro e w2 ⟨rfl, rfl⟩))
  go_ret
  exact ⟨rfl, rfl⟩
set_option maxHeartbeats 4000000 in
theorem used_k11 (n : Nat) (hn : n ≤ 1024) (w : World) : Calls Sakg.prog 51 #[.int .u8 11, .int .u16 n] w fun e w' => e = .returned (.int .u64 (21010 + 3 * ((n + 31) / 32) + (memN ((n + 31) / 32)) : Nat)) ∧ w = w' := by
  have hm1 := memN_130 ((n + 31) / 32) (by omega)
  have HW := hide (wordsOf_x n (by omega) w)
  have HM := hide (memOf_x ((n + 31) / 32) (by omega) w)
  obtain ⟨mm, hmm⟩ : ∃ mm, mm = (memN ((n + 31) / 32)) := ⟨_, rfl⟩
  rw [← hmm] at HM hm1 ⊢
  obtain ⟨wd, hwd⟩ : ∃ wd, wd = ((n + 31) / 32) := ⟨_, rfl⟩
  have hwl : wd ≤ 40 := by omega
  clear hmm
  rw [← hwd] at HW HM ⊢
  clear hwd
  have e : ((21010 + 3 * wd + mm : Nat) : Int) = 21010 + 3 * (wd : Int) + (mm : Int) := by omega
  rw [e]
  clear e
  go_enter Sakg.func51, Sakg.ntmps51
  go_wp2_with (first | (go_at_call 128; refine (unhide HW).mono ?_; rintro e w1 ⟨rfl, rfl⟩) | (go_at_call 129; refine (unhide HM).mono ?_; rintro e w2 ⟨rfl, rfl⟩))
  go_ret
  exact ⟨rfl, rfl⟩
set_option maxHeartbeats 4000000 in
theorem used_k12 (n : Nat) (hn : n ≤ 1024) (w : World) : Calls Sakg.prog 51 #[.int .u8 12, .int .u16 n] w fun e w' => e = .returned (.int .u64 (23609 + 3 * ((n + 31) / 32) + (memN ((n + 31) / 32)) : Nat)) ∧ w = w' := by
  have hm1 := memN_130 ((n + 31) / 32) (by omega)
  have HW := hide (wordsOf_x n (by omega) w)
  have HM := hide (memOf_x ((n + 31) / 32) (by omega) w)
  obtain ⟨mm, hmm⟩ : ∃ mm, mm = (memN ((n + 31) / 32)) := ⟨_, rfl⟩
  rw [← hmm] at HM hm1 ⊢
  obtain ⟨wd, hwd⟩ : ∃ wd, wd = ((n + 31) / 32) := ⟨_, rfl⟩
  have hwl : wd ≤ 40 := by omega
  clear hmm
  rw [← hwd] at HW HM ⊢
  clear hwd
  have e : ((23609 + 3 * wd + mm : Nat) : Int) = 23609 + 3 * (wd : Int) + (mm : Int) := by omega
  rw [e]
  clear e
  go_enter Sakg.func51, Sakg.ntmps51
  go_wp2_with (first | (go_at_call 128; refine (unhide HW).mono ?_; rintro e w1 ⟨rfl, rfl⟩) | (go_at_call 129; refine (unhide HM).mono ?_; rintro e w2 ⟨rfl, rfl⟩))
  go_ret
  exact ⟨rfl, rfl⟩
set_option maxHeartbeats 4000000 in
theorem used_k13 (n : Nat) (hn : n ≤ 1024) (w : World) : Calls Sakg.prog 51 #[.int .u8 13, .int .u16 n] w fun e w' => e = .returned (.int .u64 ((if n = 0 then 21011 else 21011 + 3 * ((n + 31) / 32) + memN ((64 + n + 31) / 32) : Nat) : Nat)) ∧ w = w' := by
  have hm1 := memN_130 ((64 + n + 31) / 32) (by omega)
  have HW := hide (wordsOf_x n (by omega) w)
  have HW2 := hide (wordsOf_x (64 + n) (by omega) w)
  have e64 : ((64 + n : Nat) : Int) = 64 + (n : Int) := by omega
  have HM := hide (memOf_x ((64 + n + 31) / 32) (by omega) w)
  obtain ⟨mm, hmm⟩ : ∃ mm, mm = memN ((64 + n + 31) / 32) := ⟨_, rfl⟩
  rw [← hmm] at HM hm1 ⊢
  obtain ⟨w2, hw2⟩ : ∃ w2, w2 = (64 + n + 31) / 32 := ⟨_, rfl⟩
  clear hmm
  have hwl2 : w2 ≤ 40 := by omega
  rw [← hw2] at HW2 HM
  rw [e64] at HW2
  clear hw2 e64
  obtain ⟨wd, hwd⟩ : ∃ wd, wd = (n + 31) / 32 := ⟨_, rfl⟩
  have hwl : wd ≤ 40 := by omega
  rw [← hwd] at HW ⊢
  clear hwd
  by_cases h0 : n = 0
  · rw [if_pos h0]
    subst h0
    clear HW2 HM
    go_enter Sakg.func51, Sakg.ntmps51
    go_wp2_with (go_at_call 128; refine (unhide HW).mono ?_; rintro e w1 ⟨rfl, rfl⟩)
    go_ret
    exact ⟨rfl, rfl⟩
  · rw [if_neg h0]
    have t0 : ((n : Int) == 0) = false := by rw [beq_eq_false_iff_ne]; omega
    have e : ((21011 + 3 * wd + mm : Nat) : Int) = 21011 + 3 * (wd : Int) + (mm : Int) := by omega
    rw [e]
    clear e
    go_enter Sakg.func51, Sakg.ntmps51
    go_wp2_with (first | (go_at_call 128; refine (unhide HW).mono ?_; rintro e w1 ⟨rfl, rfl⟩) | (go_at_call 128; refine (unhide HW2).mono ?_; rintro e w1 ⟨rfl, rfl⟩) | (go_at_call 129; refine (unhide HM).mono ?_; rintro e w2 ⟨rfl, rfl⟩))
    go_ret
    exact ⟨rfl, rfl⟩
theorem and255 (n : Nat) : n &&& 255 = n % 256 := by
  have := Nat.and_two_pow_sub_one_eq_mod n 8
  exact this
set_option maxHeartbeats 4000000 in
theorem used_k7 (n : Nat) (hn : n ≤ 1024) (w : World) : Calls Sakg.prog 51 #[.int .u8 7, .int .u16 n] w fun e w' => e = .returned (.int .u64 ((53087 - 12 * z7 n + memN ((n + 31) / 32) + 200 * n : Nat) : Nat)) ∧ w = w' := by
  have hm1 := memN_130 ((n + 31) / 32) (by omega)
  have HW := hide (wordsOf_x n (by omega) w)
  have HM := hide (memOf_x ((n + 31) / 32) (by omega) w)
  obtain ⟨mm, hmm⟩ : ∃ mm, mm = memN ((n + 31) / 32) := ⟨_, rfl⟩
  rw [← hmm] at HM hm1 ⊢
  obtain ⟨wd, hwd⟩ : ∃ wd, wd = (n + 31) / 32 := ⟨_, rfl⟩
  have hwl : wd ≤ 40 := by omega
  clear hmm
  rw [← hwd] at HW HM
  clear hwd
  obtain ⟨z, hz⟩ : ∃ z, z = z7 n := ⟨_, rfl⟩
  rw [← hz]
  have HZ := hide hz
  clear hz
  have hz7 := z7_le n
  have hzd : z7 n = (if n / 256 = 0 then 1 else 0) + (if n % 256 = 0 then 1 else 0) := rfl
  rw [← unhide HZ] at hz7 hzd
  clear HZ
  have hb : bits .and .u16 (n : Int) 255 = ((n % 256 : Nat) : Int) := by
    have := u16_and_nat n 255 (by omega) (by omega)
    rw [and255] at this
    exact this
  have t1 : (((n : Int) / 256) == 0) = decide (n / 256 = 0) := by
    by_cases h : n / 256 = 0
    · rw [decide_eq_true h, beq_iff_eq]; omega
    · rw [decide_eq_false h, beq_eq_false_iff_ne]; omega
  have t2 : (bits .and .u16 (n : Int) 255 == 0) = decide (n % 256 = 0) := by
    rw [hb]
    by_cases h : n % 256 = 0
    · rw [decide_eq_true h, beq_iff_eq]; omega
    · rw [decide_eq_false h, beq_eq_false_iff_ne]; omega
  clear hb
  by_cases h1 : n / 256 = 0 <;> by_cases h2 : n % 256 = 0
  · rw [decide_eq_true h1] at t1
    rw [decide_eq_true h2] at t2
    rw [if_pos h1, if_pos h2] at hzd
    have e : ((53087 - 12 * z + mm + 200 * n : Nat) : Int) = 53087 + (mm : Int) + 200 * (n : Int) - 12 - 12 := by omega
    rw [e]
    clear e hzd h1 h2
    go_enter Sakg.func51, Sakg.ntmps51
    go_wp2_with (first | (go_at_call 128; refine (unhide HW).mono ?_; rintro e w1 ⟨rfl, rfl⟩) | (go_at_call 129; refine (unhide HM).mono ?_; rintro e w2 ⟨rfl, rfl⟩))
    go_ret
    exact ⟨rfl, rfl⟩
  · rw [decide_eq_true h1] at t1
    rw [decide_eq_false h2] at t2
    rw [if_pos h1, if_neg h2] at hzd
    have e : ((53087 - 12 * z + mm + 200 * n : Nat) : Int) = 53087 + (mm : Int) + 200 * (n : Int) - 12 := by omega
    rw [e]
    clear e hzd h1 h2
    go_enter Sakg.func51, Sakg.ntmps51
    go_wp2_with (first | (go_at_call 128; refine (unhide HW).mono ?_; rintro e w1 ⟨rfl, rfl⟩) | (go_at_call 129; refine (unhide HM).mono ?_; rintro e w2 ⟨rfl, rfl⟩))
    go_ret
    exact ⟨rfl, rfl⟩
  · rw [decide_eq_false h1] at t1
    rw [decide_eq_true h2] at t2
    rw [if_neg h1, if_pos h2] at hzd
    have e : ((53087 - 12 * z + mm + 200 * n : Nat) : Int) = 53087 + (mm : Int) + 200 * (n : Int) - 12 := by omega
    rw [e]
    clear e hzd h1 h2
    go_enter Sakg.func51, Sakg.ntmps51
    go_wp2_with (first | (go_at_call 128; refine (unhide HW).mono ?_; rintro e w1 ⟨rfl, rfl⟩) | (go_at_call 129; refine (unhide HM).mono ?_; rintro e w2 ⟨rfl, rfl⟩))
    go_ret
    exact ⟨rfl, rfl⟩
  · rw [decide_eq_false h1] at t1
    rw [decide_eq_false h2] at t2
    rw [if_neg h1, if_neg h2] at hzd
    have e : ((53087 - 12 * z + mm + 200 * n : Nat) : Int) = 53087 + (mm : Int) + 200 * (n : Int) := by omega
    rw [e]
    clear e hzd h1 h2
    go_enter Sakg.func51, Sakg.ntmps51
    go_wp2_with (first | (go_at_call 128; refine (unhide HW).mono ?_; rintro e w1 ⟨rfl, rfl⟩) | (go_at_call 129; refine (unhide HM).mono ?_; rintro e w2 ⟨rfl, rfl⟩))
    go_ret
    exact ⟨rfl, rfl⟩

end Go.Proofs.YgcsakGreat
