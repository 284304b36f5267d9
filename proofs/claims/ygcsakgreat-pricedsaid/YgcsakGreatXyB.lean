/-
  law: the runs of Priced that tell the gas alone.
-/
import Derived.Test.YgcsakGreatXyA
namespace Go.Proofs.YgcsakGreat
set_option linter.unusedVariables false
set_option linter.unusedSimpArgs false
set_option maxRecDepth 100000
open Go.RowKit

def u1Y (code : List Int) (ss : List (Nat × Nat)) : YAcct := ⟨lowAddr 1, 1, 0, code, ss⟩
theorem ahead1 (code : List Int) (ss : List (Nat × Nat)) : Ahead [u1Y code ss] := by
  intro u hu
  rw [List.mem_singleton.mp hu]
  exact ⟨by show beforeB (lowAddr 1) (lowAddr 240) = true; decide +kernel, by show lowAddr 1 ≠ lowAddr 240; decide⟩
section
variable {bw : Nat} {x : XD} {n : Nat}
theorem run_k0 (hn : n ≤ 1024) : CallRuns bw [u1Y (p2Y n ++ [95, 32]) []] (p2Y n ++ [95, 32]) x (zeros 32) (UsedIs (21035 + 6 * ((n + 31) / 32) + memN ((n + 31) / 32))) := by
  intro GW W w B als hal hg h
  have hm := memN_130 ((n + 31) / 32) (by omega)
  refine ⟨4, ?_⟩
  refine goX_push h 97 (by omega) (by omega) rfl n (p2Y_val n [] _ (.inl rfl)) 3 rfl (by omega) (by simp) (by omega) (fun w2 h2 => ?_)
  refine goX_push h2 95 (by omega) (by omega) rfl 0 rfl 2 rfl (by omega) (by simp) (by decide) (fun w3 h3 => ?_)
  have hrc : reachA 32 [n, 0] = n := end_zero n
  refine goX_32 (n := 30 + 6 * ((n + 31) / 32) + memN ((n + 31) / 32)) h3 rfl (by show 2 ≤ 2; omega) (by show 2 ≤ 60; omega) (by show 4 ≤ 900; omega) (by show n ≤ 1000000; omega) (by show reachA 32 [n, 0] ≤ 900000; omega) (costB_new hrc) (by show _ ≤ 179000 - 3 - 2; omega) (fun v w4 h4 => ?_)
  refine run_stop_outer h4 rfl (fun w5 h5 => ⟨_, _, used_plain rfl ?_, rfl, ?_, h5.upto (by omega) (by omega)⟩)
  · show 179000 - 3 - 2 - (30 + 6 * ((n + 31) / 32) + memN ((n + 31) / 32)) + (21035 + 6 * ((n + 31) / 32) + memN ((n + 31) / 32)) = 200000
    omega
  · show 179000 - 3 - 2 - (30 + 6 * ((n + 31) / 32) + memN ((n + 31) / 32)) ≤ 200000
    omega
theorem run_k1 (hn : n ≤ 1024) : CallRuns bw [u1Y (p2Y n ++ [95, 160]) []] (p2Y n ++ [95, 160]) x (zeros 32) (UsedIs (21380 + 8 * n + memN ((n + 31) / 32))) := by
  intro GW W w B als hal hg h
  have hm := memN_130 ((n + 31) / 32) (by omega)
  refine ⟨4, ?_⟩
  refine goX_push h 97 (by omega) (by omega) rfl n (p2Y_val n [] _ (.inl rfl)) 3 rfl (by omega) (by simp) (by omega) (fun w2 h2 => ?_)
  refine goX_push h2 95 (by omega) (by omega) rfl 0 rfl 2 rfl (by omega) (by simp) (by decide) (fun w3 h3 => ?_)
  have hrc : reachA 160 [n, 0] = n := end_zero n
  refine goX_160 (n := 375 + 8 * n + memN ((n + 31) / 32)) h3 rfl (by show 2 ≤ 2; omega) (by show 2 ≤ 60; omega) (by show 4 ≤ 900; omega) (by show n ≤ 1000000; omega) (by show reachA 160 [n, 0] ≤ 900000; omega) (costB_new hrc) (by show _ ≤ 179000 - 3 - 2; omega) (by omega) (fun als2 w4 h4 => ?_)
  refine run_stop_outer h4 rfl (fun w5 h5 => ⟨_, _, used_plain rfl ?_, rfl, ?_, h5.upto (by omega) (by omega)⟩)
  · show 179000 - 3 - 2 - (375 + 8 * n + memN ((n + 31) / 32)) + (21380 + 8 * n + memN ((n + 31) / 32)) = 200000
    omega
  · show 179000 - 3 - 2 - (375 + 8 * n + memN ((n + 31) / 32)) ≤ 200000
    omega
theorem run_k2 (hn : n ≤ 1024) : CallRuns bw [u1Y (p2Y n ++ [95, 95, 57]) []] (p2Y n ++ [95, 95, 57]) x (zeros 32) (UsedIs (21010 + 3 * ((n + 31) / 32) + memN ((n + 31) / 32))) := by
  intro GW W w B als hal hg h
  have hm := memN_130 ((n + 31) / 32) (by omega)
  refine ⟨5, ?_⟩
  refine goX_push h 97 (by omega) (by omega) rfl n (p2Y_val n [] _ (.inl rfl)) 3 rfl (by omega) (by simp) (by omega) (fun w2 h2 => ?_)
  refine goX_push h2 95 (by omega) (by omega) rfl 0 rfl 2 rfl (by omega) (by simp) (by decide) (fun w3 h3 => ?_)
  refine goX_push h3 95 (by omega) (by omega) rfl 0 rfl 2 rfl (by omega) (by simp) (by decide) (fun w3 h3 => ?_)
  have hrc : reachA 57 [n, 0, 0] = n := end_zero n
  refine goX_57 (n := 3 + copyN n + memN ((n + 31) / 32)) h3 rfl (by show 3 ≤ 3; omega) (by show 3 ≤ 60; omega) (by show 5 ≤ 900; omega) (by show n ≤ 1000000; omega) (by show reachA 57 [n, 0, 0] ≤ 900000; omega) (costB_new hrc) (by show 3 + 3 * ((n + 31) / 32) + memN ((n + 31) / 32) ≤ 179000 - 3 - 2 - 2; omega) (fun w4 h4 => ?_)
  refine run_stop_outer h4 rfl (fun w5 h5 => ⟨_, _, used_plain rfl ?_, rfl, ?_, h5.upto (by omega) (by omega)⟩)
  · show 179000 - 3 - 2 - 2 - (3 + 3 * ((n + 31) / 32) + memN ((n + 31) / 32)) + (21010 + 3 * ((n + 31) / 32) + memN ((n + 31) / 32)) = 200000
    omega
  · show 179000 - 3 - 2 - 2 - (3 + 3 * ((n + 31) / 32) + memN ((n + 31) / 32)) ≤ 200000
    omega
theorem run_k11 (hn : n ≤ 1024) : CallRuns bw [u1Y (p2Y n ++ [95, 95, 55]) []] (p2Y n ++ [95, 95, 55]) x (zeros 32) (UsedIs (21010 + 3 * ((n + 31) / 32) + memN ((n + 31) / 32))) := by
  intro GW W w B als hal hg h
  have hm := memN_130 ((n + 31) / 32) (by omega)
  refine ⟨5, ?_⟩
  refine goX_push h 97 (by omega) (by omega) rfl n (p2Y_val n [] _ (.inl rfl)) 3 rfl (by omega) (by simp) (by omega) (fun w2 h2 => ?_)
  refine goX_push h2 95 (by omega) (by omega) rfl 0 rfl 2 rfl (by omega) (by simp) (by decide) (fun w3 h3 => ?_)
  refine goX_push h3 95 (by omega) (by omega) rfl 0 rfl 2 rfl (by omega) (by simp) (by decide) (fun w3 h3 => ?_)
  have hrc : reachA 55 [n, 0, 0] = n := end_zero n
  refine goX_55 (n := 3 + copyN n + memN ((n + 31) / 32)) h3 rfl (by show 3 ≤ 3; omega) (by show 3 ≤ 60; omega) (by show 5 ≤ 900; omega) (by show n ≤ 1000000; omega) (by show reachA 55 [n, 0, 0] ≤ 900000; omega) (costB_new hrc) (by show 3 + 3 * ((n + 31) / 32) + memN ((n + 31) / 32) ≤ 179000 - 3 - 2 - 2; omega) (fun w4 h4 => ?_)
  refine run_stop_outer h4 rfl (fun w5 h5 => ⟨_, _, used_plain rfl ?_, rfl, ?_, h5.upto (by omega) (by omega)⟩)
  · show 179000 - 3 - 2 - 2 - (3 + 3 * ((n + 31) / 32) + memN ((n + 31) / 32)) + (21010 + 3 * ((n + 31) / 32) + memN ((n + 31) / 32)) = 200000
    omega
  · show 179000 - 3 - 2 - 2 - (3 + 3 * ((n + 31) / 32) + memN ((n + 31) / 32)) ≤ 200000
    omega
theorem cold_low {us : List YAcct} {als : List (List Int)} {q : Nat} (hal : Warm0 (lowAddr 1) als) (d : WD) (hd : d.warmA = als) (h : lowAddr q ≠ lowAddr 5 ∧ lowAddr q ≠ lowAddr 4 ∧ lowAddr q ≠ lowAddr 1 ∧ lowAddr q ≠ lowAddr 192 ∧ lowAddr q ≠ lowAddr 240) : accX d (lowAddr q) = 2600 := by
  unfold accX
  rw [if_neg]
  rw [hd, hal]
  rintro (e | e | e | e | e)
  · exact h.1 e
  · exact h.2.1 e
  · exact h.2.2.1 e
  · exact h.2.2.2.1 e
  · exact h.2.2.2.2 e
theorem run_k3 : CallRuns bw [u1Y [95, 49, 95, 49] []] [95, 49, 95, 49] x (zeros 32) (UsedIs 23704) := by
  intro GW W w B als hal hg h
  refine ⟨5, ?_⟩
  refine goX_push h 95 (by omega) (by omega) rfl 0 rfl 2 rfl (by omega) (by simp) (by omega) (fun w2 h2 => ?_)
  refine goX_49 (n := 2600) h2 rfl (by show 1 ≤ 1; omega) (by show 1 ≤ 60; omega) (by show 1 ≤ 900; omega) (by show 0 < 256; omega) (cold_low (q := 0) (us := []) hal _ rfl (by decide)) (by show _ ≤ 179000 - 2; omega) (by omega) (fun v als2 w3 hm3 h3 => ?_)
  have h3' : RunX GW W bw B (4000000 + 2500) { bDY [u1Y [95, 49, 95, 49] []] als with accts := moveY ([u1Y [95, 49, 95, 49] []] ++ [s1Y]) (lowAddr 240) (lowAddr 1) (beN (zeros 32)), warmA := als2 } (at4 (oFY [95, 49, 95, 49] (beN (zeros 32)) (bDY [u1Y [95, 49, 95, 49] []] als)) (179000 - 2 - 2600) 2 [v] 0) [] (begX (stgY [u1Y [95, 49, 95, 49] []]) x (txY false (zeros 32) []) (zeros 20)) true w3 := h3
  refine goX_push h3' 95 (by omega) (by omega) rfl 0 rfl 2 rfl (by omega) (by simp) (by omega) (fun w4 h4 => ?_)
  refine goX_49 (n := 100) h4 rfl (by show 1 ≤ 2; omega) (by show 2 ≤ 60; omega) (by show 3 ≤ 900; omega) (by show 0 < 256; omega) ?_ (by show _ ≤ 179000 - 2 - 2600 - 2; omega) (by omega) (fun v2 als3 w5 hm5 h5 => ?_)
  · show accX { bDY [u1Y [95, 49, 95, 49] []] als with accts := moveY ([u1Y [95, 49, 95, 49] []] ++ [s1Y]) (lowAddr 240) (lowAddr 1) (beN (zeros 32)), warmA := als2 } (lowAddr (0 : Nat)) = 100
    unfold accX
    exact if_pos ((hm3 _).mpr (.inl rfl))
  refine run_stop_outer h5 rfl (fun w6 h6 => ⟨_, _, used_plain rfl ?_, rfl, ?_, h6.upto (by omega) (by omega)⟩)
  · show 179000 - 2 - 2600 - 2 - 100 + 23704 = 200000
    omega
  · show 179000 - 2 - 2600 - 2 - 100 ≤ 200000
    omega
theorem run_k12 (hn : n ≤ 1024) : CallRuns bw [u1Y (p2Y n ++ [95, 95, 95, 60]) []] (p2Y n ++ [95, 95, 95, 60]) x (zeros 32) (UsedIs (23609 + 3 * ((n + 31) / 32) + memN ((n + 31) / 32))) := by
  intro GW W w B als hal hg h
  have hm := memN_130 ((n + 31) / 32) (by omega)
  refine ⟨6, ?_⟩
  refine goX_push h 97 (by omega) (by omega) rfl n (p2Y_val n [] _ (.inl rfl)) 3 rfl (by omega) (by simp) (by omega) (fun w2 h2 => ?_)
  refine goX_push h2 95 (by omega) (by omega) rfl 0 rfl 2 rfl (by omega) (by simp) (by decide) (fun w3 h3 => ?_)
  refine goX_push h3 95 (by omega) (by omega) rfl 0 rfl 2 rfl (by omega) (by simp) (by decide) (fun w3 h3 => ?_)
  refine goX_push h3 95 (by omega) (by omega) rfl 0 rfl 2 rfl (by omega) (by simp) (by decide) (fun w3 h3 => ?_)
  have hrc : reachA 60 [n, 0, 0, 0] = n := end_zero n
  have hc := cold_low (q := 0) (us := []) hal { bDY [u1Y (p2Y n ++ [95, 95, 95, 60]) []] als with accts := moveY ([u1Y (p2Y n ++ [95, 95, 95, 60]) []] ++ [s1Y]) (lowAddr 240) (lowAddr 1) (beN (zeros 32)) } rfl (by decide)
  refine goX_60 (n := 2600 + 3 * ((n + 31) / 32) + memN ((n + 31) / 32)) h3 rfl (by show 4 ≤ 4; omega) (by show 4 ≤ 60; omega) (by show 6 ≤ 900; omega) (by show 0 < 256; omega) (by show n ≤ 1000000; omega) (by show reachA 60 [n, 0, 0, 0] ≤ 900000; omega) ?_ (by show _ ≤ 179000 - 3 - 2 - 2 - 2; omega) (by omega) (fun als2 w4 h4 => ?_)
  · show costB 60 [n, 0, 0, 0] 0 (accX { bDY [u1Y (p2Y n ++ [95, 95, 95, 60]) []] als with accts := moveY ([u1Y (p2Y n ++ [95, 95, 95, 60]) []] ++ [s1Y]) (lowAddr 240) (lowAddr 1) (beN (zeros 32)) } (lowAddr (0 : Nat)) + copyN n) = _
    rw [hc, costB_new hrc]
    rfl
  refine run_stop_outer h4 rfl (fun w5 h5 => ⟨_, _, used_plain rfl ?_, rfl, ?_, h5.upto (by omega) (by omega)⟩)
  · show 179000 - 3 - 2 - 2 - 2 - (2600 + 3 * ((n + 31) / 32) + memN ((n + 31) / 32)) + (23609 + 3 * ((n + 31) / 32) + memN ((n + 31) / 32)) = 200000
    omega
  · show 179000 - 3 - 2 - 2 - 2 - (2600 + 3 * ((n + 31) / 32) + memN ((n + 31) / 32)) ≤ 200000
    omega
theorem run_k13 (hn : n ≤ 1024) : CallRuns bw [u1Y (p2Y n ++ [96, 64, 95, 94]) []] (p2Y n ++ [96, 64, 95, 94]) x (zeros 32) (UsedIs (if n = 0 then 21011 else 21011 + 3 * ((n + 31) / 32) + memN ((64 + n + 31) / 32))) := by
  intro GW W w B als hal hg h
  have hm := memN_130 ((64 + n + 31) / 32) (by omega)
  refine ⟨5, ?_⟩
  refine goX_push h 97 (by omega) (by omega) rfl n (p2Y_val n [] _ (.inl rfl)) 3 rfl (by omega) (by simp) (by omega) (fun w2 h2 => ?_)
  refine goX_push h2 96 (by omega) (by omega) rfl 64 rfl 3 rfl (by omega) (by simp) (by decide) (fun w3 h3 => ?_)
  refine goX_push h3 95 (by omega) (by omega) rfl 0 rfl 2 rfl (by omega) (by simp) (by decide) (fun w3 h3 => ?_)
  have hrc : reachA 94 [n, 64, 0] = if n = 0 then 0 else 64 + n := by
    show max (endN 0 n) (endN 64 n) = _
    unfold endN
    split <;> omega
  have hle : reachA 94 [n, 64, 0] ≤ 900000 := by rw [hrc]; split <;> omega
  obtain ⟨t, ht⟩ : ∃ t, t = if n = 0 then 0 else memN ((64 + n + 31) / 32) := ⟨_, rfl⟩
  have htl : t ≤ 130 := by rw [ht]; split <;> omega
  refine goX_94 (n := 3 + 3 * ((n + 31) / 32) + t) h3 rfl (by show 3 ≤ 3; omega) (by show 3 ≤ 60; omega) (by show 6 ≤ 900; omega) (by show n ≤ 1000000; omega) hle ?_ (by show _ ≤ 179000 - 3 - 3 - 2; omega) (fun w4 h4 => ?_)
  · show costB 94 [n, 64, 0] 0 (3 + copyN n) = _
    rw [costB_new hrc, ht]
    unfold copyN
    split
    · have : memN ((0 + 31) / 32) = 0 := rfl
      omega
    · rfl
  refine run_stop_outer h4 rfl (fun w5 h5 => ⟨_, _, used_plain rfl ?_, rfl, ?_, h5.upto (by omega) (by omega)⟩)
  · show 179000 - 3 - 3 - 2 - (3 + 3 * ((n + 31) / 32) + t) + (if n = 0 then 21011 else 21011 + 3 * ((n + 31) / 32) + memN ((64 + n + 31) / 32)) = 200000
    split at ht
    · rename_i h0
      rw [if_pos h0]
      omega
    · rename_i h0
      rw [if_neg h0]
      omega
  · show 179000 - 3 - 3 - 2 - (3 + 3 * ((n + 31) / 32) + t) ≤ 200000
    omega
def codeK8 : List Int := [95, 95, 85, 95, 96, 1, 85]
def u8Y : YAcct := u1Y codeK8 [(0, 1), (1, 1)]
theorem run_k8 : CallRuns bw [u8Y] codeK8 x (zeros 32) (UsedIs 24808) := by
  intro GW W w B als hal hg h
  refine ⟨7, ?_⟩
  have hmv : moveY ([u8Y] ++ [s1Y]) (lowAddr 240) (lowAddr 1) (beN (zeros 32)) = [u8Y, s1Y] := by
    rw [beN_zeros, move_zero]
    rfl
  rw [hmv] at h
  refine goX_push h 95 (by omega) (by omega) rfl 0 rfl 2 rfl (by omega) (by simp) (by omega) (fun w2 h2 => ?_)
  refine goX_push h2 95 (by omega) (by omega) rfl 0 rfl 2 rfl (by omega) (by simp) (by decide) (fun w3 h3 => ?_)
  refine goX_85 h3 rfl (by show 2 ≤ 2; omega) (by show 2 ≤ 60; omega) (by show 2 ≤ 900; omega) rfl ?_ ⟨?_, ?_, ?_, rfl⟩ (by show _ ≤ 179000 - 2 - 2; omega) (by omega) (fun ms w4 hms h4 => ?_)
  · show Live [u8Y, s1Y] (lowAddr 1)
    exact .inl (by decide)
  · intro hh
    cases hh
  · show (∃ t ∈ startOf [u8Y, s0Y], t.addr = lowAddr 1 ∧ t.key = 0) ∧ ∀ t ∈ startOf [u8Y, s0Y], t.addr = lowAddr 1 → t.key = 0 → t.val = 1
    exact ⟨⟨_, List.mem_cons_self .., rfl, rfl⟩, by decide⟩
  · show (∃ t ∈ (lookY [u8Y, s1Y] (lowAddr 1)).slots, t.1 = 0) ∧ ∀ t ∈ (lookY [u8Y, s1Y] (lowAddr 1)).slots, t.1 = 0 → t.2 = 1
    decide
  have h4' : RunX GW W bw B (4000000 + 32500) { bDY [u8Y] als with refund := 0 + 4800, warmS := ms, accts := stoY [u8Y, s1Y] (lowAddr 1) 0 0 } (at4 (oFY codeK8 (beN (zeros 32)) (bDY [u8Y] als)) (179000 - 2 - 2 - 5000) 3 [] 0) [] (begX (stgY [u8Y]) x (txY false (zeros 32) []) (zeros 20)) true w4 := h4
  refine goX_push h4' 95 (by omega) (by omega) rfl 0 rfl 2 rfl (by omega) (by simp) (by omega) (fun w2 h2 => ?_)
  refine goX_push h2 96 (by omega) (by omega) rfl 1 rfl 3 rfl (by omega) (by simp) (by decide) (fun w3 h3 => ?_)
  refine goX_85 h3 rfl (by show 2 ≤ 2; omega) (by show 2 ≤ 60; omega) (by show 6 ≤ 900; omega) rfl ?_ ⟨?_, ?_, ?_, rfl⟩ (by show _ ≤ 179000 - 2 - 2 - 5000 - 2 - 3; omega) (by omega) (fun ms2 w5 hms2 h5 => ?_)
  · show Live (stoY [u8Y, s1Y] (lowAddr 1) 0 0) (lowAddr 1)
    exact .inl (by decide +kernel)
  · show (lowAddr 1, 1) ∉ ms
    rw [hms]
    rintro (hh | hh)
    · have h10 : (1 : Nat) = 0 := congrArg Prod.snd hh
      omega
    · cases hh
  · show (∃ t ∈ startOf [u8Y, s0Y], t.addr = lowAddr 1 ∧ t.key = 1) ∧ ∀ t ∈ startOf [u8Y, s0Y], t.addr = lowAddr 1 → t.key = 1 → t.val = 1
    exact ⟨⟨_, List.mem_cons_of_mem _ (List.mem_cons_self ..), rfl, rfl⟩, by decide⟩
  · show (∃ t ∈ (lookY (stoY [u8Y, s1Y] (lowAddr 1) 0 0) (lowAddr 1)).slots, t.1 = 1) ∧ ∀ t ∈ (lookY (stoY [u8Y, s1Y] (lowAddr 1) 0 0) (lowAddr 1)).slots, t.1 = 1 → t.2 = 1
    decide +kernel
  refine run_stop_outer h5 rfl (fun w6 h6 => ⟨_, _, ?_, rfl, ?_, h6.upto (by omega) (by omega)⟩)
  · show usedN 200000 (179000 - 2 - 2 - 5000 - 2 - 3 - 5000) (0 + 4800 + 4800) = 24808
    rfl
  · show 179000 - 2 - 2 - 5000 - 2 - 3 - 5000 ≤ 200000
    omega
end

end Go.Proofs.YgcsakGreat
