/-
  law: the runs of Priced with CREATE and CREATE2.
-/
import Derived.Test.YgcsakGreatXyC
import Derived.Test.YgcsakGreatXkD
namespace Go.Proofs.YgcsakGreat
set_option linter.unusedVariables false
set_option linter.unusedSimpArgs false
set_option maxRecDepth 100000
open Go.RowKit

/-- an address that is none of the low ones -/
def High (a : List Int) : Prop := IsAddr a ∧ ∀ z : Int, a ≠ lowAddr z
theorem look_high {a : List Int} (h : High a) {us : List YAcct} (hu : ∀ u ∈ us, ∃ z : Int, u.addr = lowAddr z) : lookY us a = zeroAcct a :=
  lookY_none us a (fun u hm e => by obtain ⟨z, hz⟩ := hu u hm; exact h.2 z (e.symm.trans hz))
theorem low_two (c : List Int) (ss : List (Nat × Nat)) : ∀ u ∈ [u1Y c ss, s1Y], ∃ z : Int, u.addr = lowAddr z := by
  intro u hu
  rcases List.mem_cons.mp hu with rfl | hu
  · exact ⟨1, rfl⟩
  · rw [List.mem_singleton.mp hu]
    exact ⟨240, rfl⟩
theorem free_high {a c : List Int} {ss : List (Nat × Nat)} (h : High a) : (lookY (nonY [u1Y c ss, s1Y] (lowAddr 1) 2) a).nonce = 0 ∧ (lookY (nonY [u1Y c ss, s1Y] (lowAddr 1) 2) a).code = [] := by
  have e : lookY (nonY [u1Y c ss, s1Y] (lowAddr 1) 2) a = zeroAcct a := by
    have hne : ¬ ({ lookY [u1Y c ss, s1Y] (lowAddr 1) with nonce := 2 } : YAcct).addr = a := fun e => h.2 1 (e.symm.trans (lookY_addr _ _))
    exact (lookY_putY _ _ _ hne).trans (look_high h (low_two c ss))
  rw [e]
  exact ⟨rfl, rfl⟩
theorem high_240 {a ys : List Int} {m : Nat} (ha : IsAddr a) (h : CrA 240 (lowAddr 1) m ys a) : High a := by
  rcases h with ⟨-, h⟩ | ⟨h, -⟩
  · exact ⟨ha, high_ne (high_create (lowAddr_is 1 (by omega) (by omega)) ⟨by omega, by omega⟩ (by decide +kernel) h)⟩
  · omega
theorem high_245 {a : List Int} {n : Nat} (hn : n ≤ 512) (ha : IsAddr a) (h : CrA 245 (lowAddr 1) 0 (zeros n) a) : High a := by
  rcases h with ⟨h, -⟩ | ⟨-, hs, h1, h2, h3, h4⟩
  · omega
  · exact ⟨ha, high_ne (high_create2 (by omega) h1 h2 h3 h4)⟩
section
variable {bw : Nat} {x : XD} {n : Nat}
/-- what a creation leaves -/
def MadeOne (c : List Int) (D : WD) : Prop := ∃ a, High a ∧ D.accts = nonY (nonY [u1Y c [], s1Y] (lowAddr 1) 2) a 1
theorem zeros_first (n : Nat) : ((zeros n).getD 0 0).toNat = 0 := by
  cases n with
  | zero => rfl
  | succ n => rfl
theorem back_gas (g s : Nat) (h : s ≤ g) : g - s + s = g := by omega
theorem run_k9 (hn : n ≤ 512) : CallRuns bw [u1Y (p2Y n ++ [95, 95, 240]) []] (p2Y n ++ [95, 95, 240]) x (zeros 32) (fun D left => UsedIs (53007 + 2 * ((n + 31) / 32) + memN ((n + 31) / 32)) D left ∧ MadeOne (p2Y n ++ [95, 95, 240]) D) := by
  intro GW W w B als hal hg h
  have hm := memN_130 ((n + 31) / 32) (by omega)
  have hP := p256_ge
  refine ⟨6, ?_⟩
  have hmv : moveY ([u1Y (p2Y n ++ [95, 95, 240]) []] ++ [s1Y]) (lowAddr 240) (lowAddr 1) (beN (zeros 32)) = [u1Y (p2Y n ++ [95, 95, 240]) [], s1Y] := by
    rw [beN_zeros, move_zero]
    rfl
  rw [hmv] at h
  refine goX_push h 97 (by omega) (by omega) rfl n (p2Y_val n [] _ (.inl rfl)) 3 rfl (by omega) (by simp) (by omega) (fun w2 h2 => ?_)
  refine goX_push h2 95 (by omega) (by omega) rfl 0 rfl 2 rfl (by omega) (by simp) (by decide) (fun w2 h2 => ?_)
  refine goX_push h2 95 (by omega) (by omega) rfl 0 rfl 2 rfl (by omega) (by simp) (by decide) (fun w2 h2 => ?_)
  have h2' : RunX GW W bw B 4000000 { bDY [u1Y (p2Y n ++ [95, 95, 240]) []] als with accts := [u1Y (p2Y n ++ [95, 95, 240]) [], s1Y] } (at4 (oFY (p2Y n ++ [95, 95, 240]) (beN (zeros 32)) (bDY [u1Y (p2Y n ++ [95, 95, 240]) []] als)) 178993 5 [n, 0, 0] 0) [] (begX (stgY [u1Y (p2Y n ++ [95, 95, 240]) []]) x (txY false (zeros 32) []) (zeros 20)) true w2 := h2
  have hrc : reachA 240 [n, 0, 0] = n := end_zero n
  obtain ⟨N, hN⟩ : ∃ N, N = 32000 + 2 * ((n + 31) / 32) + memN ((n + 31) / 32) := ⟨_, rfl⟩
  have hcost : costB 240 [n, 0, 0] 0 (32000 + 2 * ((n + 31) / 32)) = N := by rw [hN, costB_new hrc]
  refine goX_create (p := 240) (n := N) h2' rfl (by omega) (by show 3 ≤ 3; omega) (by show 3 ≤ 60; omega) (by show 5 ≤ 900; omega) (by show n ≤ 512; omega) rfl rfl (by show reachA 240 [n, 0, 0] ≤ 900000; omega) hcost (by show N ≤ 178993; omega) (by simp) (by omega) (fun a ha hcr => free_high (high_240 ha hcr)) (fun als2 ms a mo w3 ha hcr hmo h3 => ?_)
  have hha := high_240 ha hcr
  have hsl := sent_le (178993 - N) (178993 - N)
  have hmlq : (paidF (at4 (oFY (p2Y n ++ [95, 95, 240]) (beN (zeros 32)) (bDY [u1Y (p2Y n ++ [95, 95, 240]) []] als)) 178993 5 [n, 0, 0] 0) 240 N).ml ≤ 900000 := by
    have hre : reachA 240 (at4 (oFY (p2Y n ++ [95, 95, 240]) (beN (zeros 32)) (bDY [u1Y (p2Y n ++ [95, 95, 240]) []] als)) 178993 5 [n, 0, 0] 0).stk ≤ 900000 := by
      show reachA 240 [n, 0, 0] ≤ 900000
      omega
    exact growN_900 _ _ h2'.ml hre
  have hwait : WaitF { paidF (at4 (oFY (p2Y n ++ [95, 95, 240]) (beN (zeros 32)) (bDY [u1Y (p2Y n ++ [95, 95, 240]) []] als)) 178993 5 [n, 0, 0] 0) 240 N with gas := 178993 - N - sentN (178993 - N) (178993 - N), stk := [], outOff := mo, outLen := 0 } := by
    exact ⟨⟨by show 5 < P256; omega, by show beN (zeros 32) < P256; rw [beN_zeros]; omega, hmo, by show 0 < P256; omega, (fun y hy => by cases hy), by show 0 ≤ 64; omega, by show 6 ≤ 1000; omega, by show 0 ≤ 1000000; omega, by show 0 ≤ 7; omega, by show 0 ≤ 255; omega⟩, by show 5 < 1000; omega, by show 0 ≤ 63; omega⟩
  refine run_stop_child h3 (zeros_first n) hwait hmlq (by show 178993 - N - sentN (178993 - N) (178993 - N) + sentN (178993 - N) (178993 - N) ≤ 1048576; omega) rfl rfl (fun w4 h4 => ?_)
  refine run_stop_outer h4 rfl (fun w5 h5 => ⟨_, _, ⟨used_plain rfl ?_, a, hha, ?_⟩, rfl, ?_, h5.upto (by omega) (by omega)⟩)
  · show 178993 - N - sentN (178993 - N) (178993 - N) + sentN (178993 - N) (178993 - N) + (53007 + 2 * ((n + 31) / 32) + memN ((n + 31) / 32)) = 200000
    rw [back_gas _ _ hsl]
    omega
  · exact move_zero _ (lowAddr 1) a
  · show 178993 - N - sentN (178993 - N) (178993 - N) + sentN (178993 - N) (178993 - N) ≤ 200000
    omega
theorem run_k10 (hn : n ≤ 512) : CallRuns bw [u1Y ([95] ++ p2Y n ++ [95, 95, 245]) []] ([95] ++ p2Y n ++ [95, 95, 245]) x (zeros 32) (fun D left => UsedIs (53009 + 8 * ((n + 31) / 32) + memN ((n + 31) / 32)) D left ∧ MadeOne ([95] ++ p2Y n ++ [95, 95, 245]) D) := by
  intro GW W w B als hal hg h
  have hm := memN_130 ((n + 31) / 32) (by omega)
  have hP := p256_ge
  refine ⟨7, ?_⟩
  have hmv : moveY ([u1Y ([95] ++ p2Y n ++ [95, 95, 245]) []] ++ [s1Y]) (lowAddr 240) (lowAddr 1) (beN (zeros 32)) = [u1Y ([95] ++ p2Y n ++ [95, 95, 245]) [], s1Y] := by
    rw [beN_zeros, move_zero]
    rfl
  rw [hmv] at h
  refine goX_push h 95 (by omega) (by omega) rfl 0 rfl 2 rfl (by omega) (by simp) (by omega) (fun w2 h2 => ?_)
  refine goX_push h2 97 (by omega) (by omega) rfl n (p2Y_val n [95] _ (.inr rfl)) 3 rfl (by omega) (by simp) (by decide) (fun w2 h2 => ?_)
  refine goX_push h2 95 (by omega) (by omega) rfl 0 rfl 2 rfl (by omega) (by simp) (by decide) (fun w2 h2 => ?_)
  refine goX_push h2 95 (by omega) (by omega) rfl 0 rfl 2 rfl (by omega) (by simp) (by decide) (fun w2 h2 => ?_)
  have h2' : RunX GW W bw B 4000000 { bDY [u1Y ([95] ++ p2Y n ++ [95, 95, 245]) []] als with accts := [u1Y ([95] ++ p2Y n ++ [95, 95, 245]) [], s1Y] } (at4 (oFY ([95] ++ p2Y n ++ [95, 95, 245]) (beN (zeros 32)) (bDY [u1Y ([95] ++ p2Y n ++ [95, 95, 245]) []] als)) 178991 6 [0, n, 0, 0] 0) [] (begX (stgY [u1Y ([95] ++ p2Y n ++ [95, 95, 245]) []]) x (txY false (zeros 32) []) (zeros 20)) true w2 := h2
  have hrc : reachA 245 [0, n, 0, 0] = n := end_zero n
  obtain ⟨N, hN⟩ : ∃ N, N = 32000 + 8 * ((n + 31) / 32) + memN ((n + 31) / 32) := ⟨_, rfl⟩
  have hcost : costB 245 [0, n, 0, 0] 0 (32000 + 8 * ((n + 31) / 32)) = N := by rw [hN, costB_new hrc]
  refine goX_create (p := 245) (n := N) h2' rfl (by omega) (by show 4 ≤ 4; omega) (by show 4 ≤ 60; omega) (by show 6 ≤ 900; omega) (by show n ≤ 512; omega) rfl rfl (by show reachA 245 [0, n, 0, 0] ≤ 900000; omega) hcost (by show N ≤ 178991; omega) (by simp) (by omega) (fun a ha hcr => free_high (high_245 hn ha hcr)) (fun als2 ms a mo w3 ha hcr hmo h3 => ?_)
  have hha := high_245 hn ha hcr
  have hsl := sent_le (178991 - N) (178991 - N)
  have hmlq : (paidF (at4 (oFY ([95] ++ p2Y n ++ [95, 95, 245]) (beN (zeros 32)) (bDY [u1Y ([95] ++ p2Y n ++ [95, 95, 245]) []] als)) 178991 6 [0, n, 0, 0] 0) 245 N).ml ≤ 900000 := by
    have hre : reachA 245 (at4 (oFY ([95] ++ p2Y n ++ [95, 95, 245]) (beN (zeros 32)) (bDY [u1Y ([95] ++ p2Y n ++ [95, 95, 245]) []] als)) 178991 6 [0, n, 0, 0] 0).stk ≤ 900000 := by
      show reachA 245 [0, n, 0, 0] ≤ 900000
      omega
    exact growN_900 _ _ h2'.ml hre
  have hwait : WaitF { paidF (at4 (oFY ([95] ++ p2Y n ++ [95, 95, 245]) (beN (zeros 32)) (bDY [u1Y ([95] ++ p2Y n ++ [95, 95, 245]) []] als)) 178991 6 [0, n, 0, 0] 0) 245 N with gas := 178991 - N - sentN (178991 - N) (178991 - N), stk := [], outOff := mo, outLen := 0 } := by
    exact ⟨⟨by show 6 < P256; omega, by show beN (zeros 32) < P256; rw [beN_zeros]; omega, hmo, by show 0 < P256; omega, (fun y hy => by cases hy), by show 0 ≤ 64; omega, by show 7 ≤ 1000; omega, by show 0 ≤ 1000000; omega, by show 0 ≤ 7; omega, by show 0 ≤ 255; omega⟩, by show 6 < 1000; omega, by show 0 ≤ 63; omega⟩
  refine run_stop_child h3 (zeros_first n) hwait hmlq (by show 178991 - N - sentN (178991 - N) (178991 - N) + sentN (178991 - N) (178991 - N) ≤ 1048576; omega) rfl rfl (fun w4 h4 => ?_)
  refine run_stop_outer h4 rfl (fun w5 h5 => ⟨_, _, ⟨used_plain rfl ?_, a, hha, ?_⟩, rfl, ?_, h5.upto (by omega) (by omega)⟩)
  · show 178991 - N - sentN (178991 - N) (178991 - N) + sentN (178991 - N) (178991 - N) + (53009 + 8 * ((n + 31) / 32) + memN ((n + 31) / 32)) = 200000
    rw [back_gas _ _ hsl]
    omega
  · exact move_zero _ (lowAddr 1) a
  · show 178991 - N - sentN (178991 - N) (178991 - N) + sentN (178991 - N) (178991 - N) ≤ 200000
    omega
end

end Go.Proofs.YgcsakGreat
