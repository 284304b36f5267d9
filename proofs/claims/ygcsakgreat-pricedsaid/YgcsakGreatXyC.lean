/-
  law: the runs of Priced with CALL.
-/
import Derived.Test.YgcsakGreatXyB
namespace Go.Proofs.YgcsakGreat
set_option linter.unusedVariables false
set_option linter.unusedSimpArgs false
set_option maxRecDepth 100000
open Go.RowKit

def codeK4 : List Int := [95, 95, 95, 95, 96, 1, 96, 153, 95, 241]
def u4Y : YAcct := u1Y codeK4 []
section
variable {bw : Nat} {x : XD} {n : Nat}
theorem cold_call {als : List (List Int)} {q : Nat} (hal : Warm0 (lowAddr 1) als) (d : WD) (hd : d.warmA = als) (h : lowAddr q ≠ lowAddr 5 ∧ lowAddr q ≠ lowAddr 4 ∧ lowAddr q ≠ lowAddr 1 ∧ lowAddr q ≠ lowAddr 192 ∧ lowAddr q ≠ lowAddr 240) (he : emptyY (lookY d.accts (lowAddr q)) = true) : callX d (lowAddr q) 1 = 36600 := by
  rw [callX_e (by omega) he, cold_low (us := []) hal d hd h]
theorem codeK4_at (n : Nat) (h : n ≤ 9) : True := trivial
/-- the pushes ahead of the call -/
theorem pre_k4 {GW : Nat → Prop} {W w : World} {B m : Nat} {d : WD} {Q : World → Prop} {X : XD} {v : Nat} {sv : WD} (h : RunX GW W bw B 4000000 d (at4 (oFY codeK4 v sv) 179000 0 [] 0) [] X true w) (k : ∀ w', RunX GW W bw B 4000000 d (at4 (oFY codeK4 v sv) 178984 9 [0, 0, 0, 0, 1, 153, 0] 0) [] X true w' → Goes bw Q m w') : Goes bw Q (m + 7) w := by
  refine goX_push h 95 (by omega) (by omega) rfl 0 rfl 2 rfl (by omega) (by simp) (by omega) (fun w2 h2 => ?_)
  refine goX_push h2 95 (by omega) (by omega) rfl 0 rfl 2 rfl (by omega) (by simp) (by decide) (fun w2 h2 => ?_)
  refine goX_push h2 95 (by omega) (by omega) rfl 0 rfl 2 rfl (by omega) (by simp) (by decide) (fun w2 h2 => ?_)
  refine goX_push h2 95 (by omega) (by omega) rfl 0 rfl 2 rfl (by omega) (by simp) (by decide) (fun w2 h2 => ?_)
  refine goX_push h2 96 (by omega) (by omega) rfl 1 rfl 3 rfl (by omega) (by simp) (by decide) (fun w2 h2 => ?_)
  refine goX_push h2 96 (by omega) (by omega) rfl 153 rfl 3 rfl (by omega) (by simp) (by decide) (fun w2 h2 => ?_)
  refine goX_push h2 95 (by omega) (by omega) rfl 0 rfl 2 rfl (by omega) (by simp) (by decide) (fun w2 h2 => ?_)
  exact k w2 h2
theorem reach_k4 : reachA 241 [0, 0, 0, 0, 1, 153, 0] = 0 := rfl
def accK4 : List YAcct := moveY [u4Y, s1Y] (lowAddr 240) (lowAddr 1) 1
def accE4 : List YAcct := moveY accK4 (lowAddr 1) (lowAddr 153) 1
/-- with a value of one: it reaches account 0x99 -/
theorem run_k4 {v : List Int} (hv : beN v = 1) : CallRuns bw [u4Y] codeK4 x v (fun D left => UsedIs 55316 D left ∧ D.accts = accE4) := by
  intro GW W w B als hal hg h
  refine ⟨10, ?_⟩
  rw [hv] at h
  have h' : RunX GW W bw B 4000000 { bDY [u4Y] als with accts := accK4 } (at4 (oFY codeK4 1 (bDY [u4Y] als)) 179000 0 [] 0) [] (begX (stgY [u4Y]) x (txY false v []) (zeros 20)) true w := h
  refine pre_k4 h' (fun w2 h2 => ?_)
  have hcx := cold_call (q := 153) hal { bDY [u4Y] als with accts := accK4 } rfl (by decide) (by show emptyY (lookY accK4 (lowAddr 153)) = true; decide +kernel)
  refine goX_call (n := 36600) h2 rfl (by show 7 ≤ 7; omega) (by show 7 ≤ 60; omega) (by show 9 ≤ 900; omega) (by show 153 < 256; omega) (by show nativeN (lowAddr (153 : Nat)) = 0; decide) (by show 0 ≤ 1000000; omega) (by show reachA 241 [0, 0, 0, 0, 1, 153, 0] ≤ 900000; rw [reach_k4]; omega) ?_ (by show _ ≤ 178984; omega) (by show 178984 ≤ 1000000; omega) (by simp) (by omega) ?_ ?_
  · show costB 241 [0, 0, 0, 0, 1, 153, 0] 0 (callX { bDY [u4Y] als with accts := accK4 } (lowAddr (153 : Nat)) 1) = 36600
    rw [hcx, costB_far reach_k4]
  · intro hb
    have hb' : (lookY accK4 (lowAddr 1)).bal < 1 := hb
    have : (lookY accK4 (lowAddr 1)).bal = 1 := by decide +kernel
    omega
  · intro _ als2 mo ys w3 hmo hgs hws h3
    have hcode : (lookY accK4 (lowAddr (153 : Nat))).code = [] := by decide +kernel
    have hmlq : (paidF (at4 (oFY codeK4 1 (bDY [u4Y] als)) 178984 9 [0, 0, 0, 0, 1, 153, 0] 0) 241 36600).ml ≤ 900000 := by
      have hre : reachA 241 (at4 (oFY codeK4 1 (bDY [u4Y] als)) 178984 9 [0, 0, 0, 0, 1, 153, 0] 0).stk ≤ 900000 := by
        show reachA 241 [0, 0, 0, 0, 1, 153, 0] ≤ 900000
        rw [reach_k4]
        omega
      exact growN_900 _ _ h2.ml hre
    have hwait : WaitF { paidF (at4 (oFY codeK4 1 (bDY [u4Y] als)) 178984 9 [0, 0, 0, 0, 1, 153, 0] 0) 241 36600 with gas := 178984 - 36600 - sentN (178984 - 36600) 0, stk := [], outOff := mo, outLen := 0 } := by
      have hP := p256_ge
      exact ⟨⟨by show 9 < P256; omega, by show 1 < P256; omega, hmo, by show 0 < P256; omega, (fun y hy => by cases hy), by show 0 ≤ 64; omega, by show 10 ≤ 1000; omega, by show 0 ≤ 1000000; omega, by show 0 ≤ 7; omega, by show 0 ≤ 255; omega⟩, by show 9 < 1000; omega, by show 0 ≤ 63; omega⟩
    refine run_stop_child h3 ?_ hwait hmlq (by show 178984 - 36600 - sentN (178984 - 36600) 0 + (sentN (178984 - 36600) 0 + 2300) ≤ 1048576; decide) rfl rfl (fun w4 h4 => ?_)
    · show (((lookY accK4 (lowAddr (153 : Nat))).code).getD 0 0).toNat = 0
      rw [hcode]
      rfl
    refine run_stop_outer h4 rfl (fun w5 h5 => ⟨_, _, ⟨used_plain rfl ?_, rfl⟩, rfl, ?_, h5.upto (by omega) (by omega)⟩)
    · show 178984 - 36600 - sentN (178984 - 36600) 0 + (sentN (178984 - 36600) 0 + 2300) + 55316 = 200000
      decide
    · show 178984 - 36600 - sentN (178984 - 36600) 0 + (sentN (178984 - 36600) 0 + 2300) ≤ 200000
      decide
/-- without: it does not -/
theorem run_k5 {v : List Int} (hv : beN v = 0) : CallRuns bw [u4Y] codeK4 x v (fun D left => UsedIs 55316 D left ∧ D.accts = [u4Y, s1Y]) := by
  intro GW W w B als hal hg h
  refine ⟨9, ?_⟩
  rw [hv, move_zero] at h
  have h' : RunX GW W bw B 4000000 { bDY [u4Y] als with accts := [u4Y, s1Y] } (at4 (oFY codeK4 0 (bDY [u4Y] als)) 179000 0 [] 0) [] (begX (stgY [u4Y]) x (txY false v []) (zeros 20)) true w := h
  refine pre_k4 h' (fun w2 h2 => ?_)
  have hcx := cold_call (q := 153) hal { bDY [u4Y] als with accts := [u4Y, s1Y] } rfl (by decide) (by show emptyY (lookY [u4Y, s1Y] (lowAddr 153)) = true; decide)
  refine goX_call (n := 36600) h2 rfl (by show 7 ≤ 7; omega) (by show 7 ≤ 60; omega) (by show 9 ≤ 900; omega) (by show 153 < 256; omega) (by show nativeN (lowAddr (153 : Nat)) = 0; decide) (by show 0 ≤ 1000000; omega) (by show reachA 241 [0, 0, 0, 0, 1, 153, 0] ≤ 900000; rw [reach_k4]; omega) ?_ (by show _ ≤ 178984; omega) (by show 178984 ≤ 1000000; omega) (by simp) (by omega) ?_ ?_
  · show costB 241 [0, 0, 0, 0, 1, 153, 0] 0 (callX { bDY [u4Y] als with accts := [u4Y, s1Y] } (lowAddr (153 : Nat)) 1) = 36600
    rw [hcx, costB_far reach_k4]
  · intro _ als2 w3 h3
    refine run_stop_outer h3 rfl (fun w5 h5 => ⟨_, _, ⟨used_plain rfl ?_, rfl⟩, rfl, ?_, h5.upto (by omega) (by omega)⟩)
    · show 178984 - 36600 - sentN (178984 - 36600) 0 + (sentN (178984 - 36600) 0 + 2300) + 55316 = 200000
      decide
    · show 178984 - 36600 - sentN (178984 - 36600) 0 + (sentN (178984 - 36600) 0 + 2300) ≤ 200000
      decide
  · intro hb
    exact absurd (show (lookY [u4Y, s1Y] (lowAddr 1)).bal < 1 by decide) hb
def codeK6 : List Int := [95, 95, 95, 95, 95, 96, 2, 127] ++ List.replicate 32 255 ++ [241]
def u6Y : YAcct := u1Y codeK6 []
def v6Y : YAcct := ⟨lowAddr 2, 1, 0, [254], []⟩
theorem ahead6 : Ahead [u6Y, v6Y] := by
  intro u hu
  rcases List.mem_cons.mp hu with rfl | hu
  · exact ⟨by show beforeB (lowAddr 1) (lowAddr 240) = true; decide +kernel, by show lowAddr 1 ≠ lowAddr 240; decide⟩
  · rw [List.mem_singleton.mp hu]
    exact ⟨by show beforeB (lowAddr 2) (lowAddr 240) = true; decide +kernel, by show lowAddr 2 ≠ lowAddr 240; decide⟩
theorem push32_k6 : val (cutL codeK6 (7 + 1) (immA 127)).reverse = P256 - 1 := by decide +kernel
theorem run_k6 : CallRuns bw [u6Y, v6Y] codeK6 x (zeros 32) (UsedIs 197244) := by
  intro GW W w B als hal hg h
  refine ⟨10, ?_⟩
  have hP := p256_ge
  have hmv : moveY ([u6Y, v6Y] ++ [s1Y]) (lowAddr 240) (lowAddr 1) (beN (zeros 32)) = [u6Y, v6Y, s1Y] := by
    rw [beN_zeros, move_zero]
    rfl
  rw [hmv] at h
  refine goX_push h 95 (by omega) (by omega) rfl 0 rfl 2 rfl (by omega) (by simp) (by omega) (fun w2 h2 => ?_)
  refine goX_push h2 95 (by omega) (by omega) rfl 0 rfl 2 rfl (by omega) (by simp) (by decide) (fun w2 h2 => ?_)
  refine goX_push h2 95 (by omega) (by omega) rfl 0 rfl 2 rfl (by omega) (by simp) (by decide) (fun w2 h2 => ?_)
  refine goX_push h2 95 (by omega) (by omega) rfl 0 rfl 2 rfl (by omega) (by simp) (by decide) (fun w2 h2 => ?_)
  refine goX_push h2 95 (by omega) (by omega) rfl 0 rfl 2 rfl (by omega) (by simp) (by decide) (fun w2 h2 => ?_)
  refine goX_push h2 96 (by omega) (by omega) rfl 2 rfl 3 rfl (by omega) (by simp) (by decide) (fun w2 h2 => ?_)
  refine goX_push h2 127 (by omega) (by omega) rfl (P256 - 1) push32_k6 3 rfl (by omega) (by simp) (by decide) (fun w2 h2 => ?_)
  have h2' : RunX GW W bw B 4000000 { bDY [u6Y, v6Y] als with accts := [u6Y, v6Y, s1Y] } (at4 (oFY codeK6 (beN (zeros 32)) (bDY [u6Y, v6Y] als)) 178984 40 [0, 0, 0, 0, 0, 2, P256 - 1] 0) [] (begX (stgY [u6Y, v6Y]) x (txY false (zeros 32) []) (zeros 20)) true w2 := h2
  have hrc : reachA 241 [0, 0, 0, 0, 0, 2, P256 - 1] = 0 := rfl
  have hcx : callX { bDY [u6Y, v6Y] als with accts := [u6Y, v6Y, s1Y] } (lowAddr (2 : Nat)) 0 = 2600 := by
    rw [callX_z rfl]
    exact cold_low (q := 2) (us := []) hal _ rfl (by decide)
  refine goX_call (n := 2600) h2' rfl (by show 7 ≤ 7; omega) (by show 7 ≤ 60; omega) (by show 40 ≤ 900; omega) (by show 2 < 256; omega) (by show nativeN (lowAddr (2 : Nat)) = 0; decide) (by show 0 ≤ 1000000; omega) (by show reachA 241 [0, 0, 0, 0, 0, 2, P256 - 1] ≤ 900000; rw [hrc]; omega) ?_ (by show _ ≤ 178984; omega) (by show 178984 ≤ 1000000; omega) (by simp) (by omega) ?_ ?_
  · show costB 241 [0, 0, 0, 0, 0, 2, P256 - 1] 0 (callX { bDY [u6Y, v6Y] als with accts := [u6Y, v6Y, s1Y] } (lowAddr (2 : Nat)) 0) = 2600
    rw [hcx, costB_far hrc]
  · intro hb
    have hb' : (lookY [u6Y, v6Y, s1Y] (lowAddr 1)).bal < 0 := hb
    omega
  · intro _ als2 mo ys w3 hmo hgs hws h3
    have hsent : sentN (178984 - 2600) (P256 - 1) = 173628 := by unfold sentN; omega
    have hsent2 : sentN 176384 (P256 - 1) = 173628 := hsent
    have harg : argN [0, 0, 0, 0, 0, 2, P256 - 1] 0 = P256 - 1 := rfl
    have hgas : (178984 - 2600 - sentN (178984 - 2600) (P256 - 1) : Nat) = 2756 := by rw [hsent]
    have hmlq : (paidF (at4 (oFY codeK6 (beN (zeros 32)) (bDY [u6Y, v6Y] als)) 178984 40 [0, 0, 0, 0, 0, 2, P256 - 1] 0) 241 2600).ml ≤ 900000 := by
      have hre : reachA 241 (at4 (oFY codeK6 (beN (zeros 32)) (bDY [u6Y, v6Y] als)) 178984 40 [0, 0, 0, 0, 0, 2, P256 - 1] 0).stk ≤ 900000 := by
        show reachA 241 [0, 0, 0, 0, 0, 2, P256 - 1] ≤ 900000
        rw [hrc]
        omega
      exact growN_900 _ _ h2'.ml hre
    have hwait : WaitF { paidF (at4 (oFY codeK6 (beN (zeros 32)) (bDY [u6Y, v6Y] als)) 178984 40 [0, 0, 0, 0, 0, 2, P256 - 1] 0) 241 2600 with gas := 178984 - 2600 - sentN (178984 - 2600) (P256 - 1), stk := [], outOff := mo, outLen := 0 } := by
      exact ⟨⟨by show 40 < P256; omega, by show beN (zeros 32) < P256; rw [beN_zeros]; omega, hmo, by show 0 < P256; omega, (fun y hy => by cases hy), by show 0 ≤ 64; omega, by show 41 ≤ 1000; omega, by show 0 ≤ 1000000; omega, by show 0 ≤ 7; omega, by show 0 ≤ 255; omega⟩, by show 40 < 1000; omega, by show 0 ≤ 63; omega⟩
    refine run_bad_child (p := 254) h3 rfl (by omega) (by decide) hwait hmlq (by show 178984 - 2600 - sentN (178984 - 2600) (P256 - 1) ≤ 1048576; omega) rfl rfl hgs hws (fun w4 h4 => ?_)
    refine run_stop_outer h4 rfl (fun w5 h5 => ⟨_, _, used_plain rfl ?_, rfl, ?_, h5.upto (by omega) (by omega)⟩)
    · simp only [paidF, at4, oFY, harg, hsent2]
    · simp only [paidF, at4, oFY, harg, hsent2]
      omega
end

end Go.Proofs.YgcsakGreat
