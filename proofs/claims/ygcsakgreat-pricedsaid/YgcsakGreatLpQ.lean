/-
  law: Priced, kind by kind: the rows.
-/
import Derived.Test.YgcsakGreatLpP
namespace Go.Proofs.YgcsakGreat
set_option linter.unusedVariables false
set_option linter.unusedSimpArgs false
set_option maxRecDepth 100000
open Go.RowKit

theorem siz_le {kd n0 : Nat} : sizN kd n0 ≤ 1024 := by
  unfold sizN
  split
  · omega
  · split <;> omega
theorem siz_7 {n0 : Nat} : sizN 7 n0 ≤ 256 := by
  unfold sizN
  rw [if_pos rfl]
  omega
theorem siz_9 {kd n0 : Nat} (h : kd = 9 ∨ kd = 10) : sizN kd n0 ≤ 512 := by
  unfold sizN
  rw [if_neg (by omega), if_pos h]
  omega
theorem vone_val : beN (zeros 31 ++ [1]) = 1 := by decide +kernel
section
variable {k0 n0 : Nat}
theorem priced_k0 (hk0 : k0 ≤ 255) (hn0 : n0 < 65536) (hkd : k0 % 14 = 0) (w : World) : Calls Sakg.prog 3 #[.int .u8 k0, .int .u16 n0] w fun e w' => e = .returned (.bool true) ∧ Below w.heap.size w w' := by
  have hn : sizN 0 n0 ≤ 1024 := siz_le
  refine priced_gen (kd := 0) (n := sizN 0 n0) (m := 1) (u := 21035 + 6 * (((sizN 0 n0) + 31) / 32) + memN (((sizN 0 n0) + 31) / 32)) (xs := fun _ => p2Y (sizN 0 n0) ++ [95, 32]) (d := txY false (zeros 32) []) (PF := fun _ _ => True) hk0 hn0 hkd.symm rfl (by decide) ⟨fun wz => play_k0 _ hn wz, by omega, fun wz => used_k0 _ hn wz, fun wz A L W0 k l lw cw md F B hmd _ _ _ _ => world_k0 _ _ A L W0 k l lw cw md wz⟩ (world_one (by show 5 ≤ 256; omega)) ?_ w
  exact applies_call (code := p2Y (sizN 0 n0) ++ [95, 32]) (by show 5 ≤ 256; omega) (by rw [beN_zeros]; omega) (fun bw x => run_k0 hn) (fun md D left h => ⟨h, trivial⟩)
theorem priced_k1 (hk0 : k0 ≤ 255) (hn0 : n0 < 65536) (hkd : k0 % 14 = 1) (w : World) : Calls Sakg.prog 3 #[.int .u8 k0, .int .u16 n0] w fun e w' => e = .returned (.bool true) ∧ Below w.heap.size w w' := by
  have hn : sizN 1 n0 ≤ 1024 := siz_le
  refine priced_gen (kd := 1) (n := sizN 1 n0) (m := 1) (u := 21380 + 8 * (sizN 1 n0) + memN (((sizN 1 n0) + 31) / 32)) (xs := fun _ => p2Y (sizN 1 n0) ++ [95, 160]) (d := txY false (zeros 32) []) (PF := fun _ _ => True) hk0 hn0 hkd.symm rfl (by decide) ⟨fun wz => play_k1 _ hn wz, by omega, fun wz => used_k1 _ hn wz, fun wz A L W0 k l lw cw md F B hmd _ _ _ _ => world_k1 _ _ A L W0 k l lw cw md wz⟩ (world_one (by show 5 ≤ 256; omega)) ?_ w
  exact applies_call (code := p2Y (sizN 1 n0) ++ [95, 160]) (by show 5 ≤ 256; omega) (by rw [beN_zeros]; omega) (fun bw x => run_k1 hn) (fun md D left h => ⟨h, trivial⟩)
theorem priced_k2 (hk0 : k0 ≤ 255) (hn0 : n0 < 65536) (hkd : k0 % 14 = 2) (w : World) : Calls Sakg.prog 3 #[.int .u8 k0, .int .u16 n0] w fun e w' => e = .returned (.bool true) ∧ Below w.heap.size w w' := by
  have hn : sizN 2 n0 ≤ 1024 := siz_le
  refine priced_gen (kd := 2) (n := sizN 2 n0) (m := 1) (u := 21010 + 3 * (((sizN 2 n0) + 31) / 32) + memN (((sizN 2 n0) + 31) / 32)) (xs := fun _ => p2Y (sizN 2 n0) ++ [95, 95, 57]) (d := txY false (zeros 32) []) (PF := fun _ _ => True) hk0 hn0 hkd.symm rfl (by decide) ⟨fun wz => play_k2 _ hn wz, by omega, fun wz => used_k2 _ hn wz, fun wz A L W0 k l lw cw md F B hmd _ _ _ _ => world_k2 _ _ A L W0 k l lw cw md wz⟩ (world_one (by show 6 ≤ 256; omega)) ?_ w
  exact applies_call (code := p2Y (sizN 2 n0) ++ [95, 95, 57]) (by show 6 ≤ 256; omega) (by rw [beN_zeros]; omega) (fun bw x => run_k2 hn) (fun md D left h => ⟨h, trivial⟩)
theorem priced_k3 (hk0 : k0 ≤ 255) (hn0 : n0 < 65536) (hkd : k0 % 14 = 3) (w : World) : Calls Sakg.prog 3 #[.int .u8 k0, .int .u16 n0] w fun e w' => e = .returned (.bool true) ∧ Below w.heap.size w w' := by
  have hn : sizN 3 n0 ≤ 1024 := siz_le
  refine priced_gen (kd := 3) (n := sizN 3 n0) (m := 1) (u := 23704) (xs := fun _ => [95, 49, 95, 49]) (d := txY false (zeros 32) []) (PF := fun _ _ => True) hk0 hn0 hkd.symm rfl (by decide) ⟨fun wz => play_k3 _ hn wz, by omega, fun wz => used_k3 _ hn wz, fun wz A L W0 k l lw cw md F B hmd _ _ _ _ => world_k3 _ _ A L W0 k l lw cw md wz⟩ (world_one (by show 4 ≤ 256; omega)) ?_ w
  exact applies_call (code := [95, 49, 95, 49]) (by show 4 ≤ 256; omega) (by rw [beN_zeros]; omega) (fun bw x => run_k3) (fun md D left h => ⟨h, trivial⟩)
theorem priced_k11 (hk0 : k0 ≤ 255) (hn0 : n0 < 65536) (hkd : k0 % 14 = 11) (w : World) : Calls Sakg.prog 3 #[.int .u8 k0, .int .u16 n0] w fun e w' => e = .returned (.bool true) ∧ Below w.heap.size w w' := by
  have hn : sizN 11 n0 ≤ 1024 := siz_le
  refine priced_gen (kd := 11) (n := sizN 11 n0) (m := 1) (u := 21010 + 3 * (((sizN 11 n0) + 31) / 32) + memN (((sizN 11 n0) + 31) / 32)) (xs := fun _ => p2Y (sizN 11 n0) ++ [95, 95, 55]) (d := txY false (zeros 32) []) (PF := fun _ _ => True) hk0 hn0 hkd.symm rfl (by decide) ⟨fun wz => play_k11 _ hn wz, by omega, fun wz => used_k11 _ hn wz, fun wz A L W0 k l lw cw md F B hmd _ _ _ _ => world_k11 _ _ A L W0 k l lw cw md wz⟩ (world_one (by show 6 ≤ 256; omega)) ?_ w
  exact applies_call (code := p2Y (sizN 11 n0) ++ [95, 95, 55]) (by show 6 ≤ 256; omega) (by rw [beN_zeros]; omega) (fun bw x => run_k11 hn) (fun md D left h => ⟨h, trivial⟩)
theorem priced_k12 (hk0 : k0 ≤ 255) (hn0 : n0 < 65536) (hkd : k0 % 14 = 12) (w : World) : Calls Sakg.prog 3 #[.int .u8 k0, .int .u16 n0] w fun e w' => e = .returned (.bool true) ∧ Below w.heap.size w w' := by
  have hn : sizN 12 n0 ≤ 1024 := siz_le
  refine priced_gen (kd := 12) (n := sizN 12 n0) (m := 1) (u := 23609 + 3 * (((sizN 12 n0) + 31) / 32) + memN (((sizN 12 n0) + 31) / 32)) (xs := fun _ => p2Y (sizN 12 n0) ++ [95, 95, 95, 60]) (d := txY false (zeros 32) []) (PF := fun _ _ => True) hk0 hn0 hkd.symm rfl (by decide) ⟨fun wz => play_k12 _ hn wz, by omega, fun wz => used_k12 _ hn wz, fun wz A L W0 k l lw cw md F B hmd _ _ _ _ => world_k12 _ _ A L W0 k l lw cw md wz⟩ (world_one (by show 7 ≤ 256; omega)) ?_ w
  exact applies_call (code := p2Y (sizN 12 n0) ++ [95, 95, 95, 60]) (by show 7 ≤ 256; omega) (by rw [beN_zeros]; omega) (fun bw x => run_k12 hn) (fun md D left h => ⟨h, trivial⟩)
theorem priced_k13 (hk0 : k0 ≤ 255) (hn0 : n0 < 65536) (hkd : k0 % 14 = 13) (w : World) : Calls Sakg.prog 3 #[.int .u8 k0, .int .u16 n0] w fun e w' => e = .returned (.bool true) ∧ Below w.heap.size w w' := by
  have hn : sizN 13 n0 ≤ 1024 := siz_le
  refine priced_gen (kd := 13) (n := sizN 13 n0) (m := 1) (u := if (sizN 13 n0) = 0 then 21011 else 21011 + 3 * (((sizN 13 n0) + 31) / 32) + memN ((64 + (sizN 13 n0) + 31) / 32)) (xs := fun _ => p2Y (sizN 13 n0) ++ [96, 64, 95, 94]) (d := txY false (zeros 32) []) (PF := fun _ _ => True) hk0 hn0 hkd.symm rfl (by decide) ⟨fun wz => play_k13 _ hn wz, by omega, fun wz => used_k13 _ hn wz, fun wz A L W0 k l lw cw md F B hmd _ _ _ _ => world_k13 _ _ A L W0 k l lw cw md wz⟩ (world_one (by show 7 ≤ 256; omega)) ?_ w
  exact applies_call (code := p2Y (sizN 13 n0) ++ [96, 64, 95, 94]) (by show 7 ≤ 256; omega) (by rw [beN_zeros]; omega) (fun bw x => run_k13 hn) (fun md D left h => ⟨h, trivial⟩)
theorem priced_k4 (hk0 : k0 ≤ 255) (hn0 : n0 < 65536) (hkd : k0 % 14 = 4) (w : World) : Calls Sakg.prog 3 #[.int .u8 k0, .int .u16 n0] w fun e w' => e = .returned (.bool true) ∧ Below w.heap.size w w' := by
  have hn : sizN 4 n0 ≤ 1024 := siz_le
  refine priced_gen (kd := 4) (n := sizN 4 n0) (m := 1) (u := 55316) (xs := fun _ => codeK4) (d := txY false (zeros 31 ++ [1]) []) (PF := fun _ F => F = finS accE4) hk0 hn0 hkd.symm rfl (by decide) ⟨fun wz => play_k4 _ hn wz, by omega, fun wz => used_k4 _ hn wz, fun wz A L W0 k l lw cw md F B hmd h _ ho _ => by rw [h] at ho; exact world_k4 _ _ A L W0 k l lw cw md _ wz ho fin4⟩ (world_one (by show 10 ≤ 256; omega)) ?_ w
  exact applies_call (code := codeK4) (by show 10 ≤ 256; omega) (by rw [vone_val]; omega) (fun bw x => run_k4 vone_val) (fun md D left h => ⟨h.1, by rw [h.2]⟩)
theorem priced_k5 (hk0 : k0 ≤ 255) (hn0 : n0 < 65536) (hkd : k0 % 14 = 5) (w : World) : Calls Sakg.prog 3 #[.int .u8 k0, .int .u16 n0] w fun e w' => e = .returned (.bool true) ∧ Below w.heap.size w w' := by
  have hn : sizN 5 n0 ≤ 1024 := siz_le
  refine priced_gen (kd := 5) (n := sizN 5 n0) (m := 1) (u := 55316) (xs := fun _ => codeK4) (d := txY false (zeros 32) []) (PF := fun _ F => F = finS [u4Y, s1Y]) hk0 hn0 hkd.symm rfl (by decide) ⟨fun wz => play_k5 _ hn wz, by omega, fun wz => used_k5 _ hn wz, fun wz A L W0 k l lw cw md F B hmd h _ ho _ => by rw [h] at ho; have hl := ho.len; rw [fin5.1] at hl; subst hl; exact world_k5 _ _ A L W0 k l cw md _ wz ho fin5.2⟩ (world_one (by show 10 ≤ 256; omega)) ?_ w
  exact applies_call (code := codeK4) (by show 10 ≤ 256; omega) (by rw [beN_zeros]; omega) (fun bw x => run_k5 beN_zeros) (fun md D left h => ⟨h.1, by rw [h.2]⟩)
theorem priced_k9 (hk0 : k0 ≤ 255) (hn0 : n0 < 65536) (hkd : k0 % 14 = 9) (w : World) : Calls Sakg.prog 3 #[.int .u8 k0, .int .u16 n0] w fun e w' => e = .returned (.bool true) ∧ Below w.heap.size w w' := by
  have hn : sizN 9 n0 ≤ 1024 := siz_le
  have hn5 : sizN 9 n0 ≤ 512 := siz_9 (by omega)
  refine priced_gen (kd := 9) (n := sizN 9 n0) (m := 1) (u := 53007 + 2 * (((sizN 9 n0) + 31) / 32) + memN (((sizN 9 n0) + 31) / 32)) (xs := fun _ => p2Y (sizN 9 n0) ++ [95, 95, 240]) (d := txY false (zeros 32) []) (PF := fun _ F => ∃ a, High a ∧ F = finS (nonY (nonY [u1Y (p2Y (sizN 9 n0) ++ [95, 95, 240]) [], s1Y] (lowAddr 1) 2) a 1)) hk0 hn0 hkd.symm rfl (by decide) ⟨fun wz => play_k9 _ hn wz, by omega, fun wz => used_k9 _ hn wz, fun wz A L W0 k l lw cw md F B hmd h hg ho hlw => ?_⟩ (world_one (by show 6 ≤ 256; omega)) ?_ w
  · obtain ⟨a, ha, hF⟩ := h
    have h9 := fin9 ha hF hg.acc.srt
    exact world_k9 _ _ A L W0 k l lw cw md _ wz ho hlw h9.1 h9.2
  · refine applies_call (code := p2Y (sizN 9 n0) ++ [95, 95, 240]) (by show 6 ≤ 256; omega) (by rw [beN_zeros]; omega) (fun bw x => run_k9 hn5) (fun md D left h => ⟨h.1, ?_⟩)
    obtain ⟨a, ha, hacc⟩ := h.2
    exact ⟨a, ha, by rw [hacc]⟩
theorem priced_k10 (hk0 : k0 ≤ 255) (hn0 : n0 < 65536) (hkd : k0 % 14 = 10) (w : World) : Calls Sakg.prog 3 #[.int .u8 k0, .int .u16 n0] w fun e w' => e = .returned (.bool true) ∧ Below w.heap.size w w' := by
  have hn : sizN 10 n0 ≤ 1024 := siz_le
  have hn5 : sizN 10 n0 ≤ 512 := siz_9 (by omega)
  refine priced_gen (kd := 10) (n := sizN 10 n0) (m := 1) (u := 53009 + 8 * (((sizN 10 n0) + 31) / 32) + memN (((sizN 10 n0) + 31) / 32)) (xs := fun _ => [95] ++ p2Y (sizN 10 n0) ++ [95, 95, 245]) (d := txY false (zeros 32) []) (PF := fun _ F => ∃ a, High a ∧ F = finS (nonY (nonY [u1Y ([95] ++ p2Y (sizN 10 n0) ++ [95, 95, 245]) [], s1Y] (lowAddr 1) 2) a 1)) hk0 hn0 hkd.symm rfl (by decide) ⟨fun wz => play_k10 _ hn wz, by omega, fun wz => used_k10 _ hn wz, fun wz A L W0 k l lw cw md F B hmd h hg ho hlw => ?_⟩ (world_one (by show 7 ≤ 256; omega)) ?_ w
  · obtain ⟨a, ha, hF⟩ := h
    have h9 := fin9 ha hF hg.acc.srt
    exact world_k10 _ _ A L W0 k l lw cw md _ wz ho hlw h9.1 h9.2
  · refine applies_call (code := [95] ++ p2Y (sizN 10 n0) ++ [95, 95, 245]) (by show 7 ≤ 256; omega) (by rw [beN_zeros]; omega) (fun bw x => run_k10 hn5) (fun md D left h => ⟨h.1, ?_⟩)
    obtain ⟨a, ha, hacc⟩ := h.2
    exact ⟨a, ha, by rw [hacc]⟩
theorem priced_k6 (hk0 : k0 ≤ 255) (hn0 : n0 < 65536) (hkd : k0 % 14 = 6) (w : World) : Calls Sakg.prog 3 #[.int .u8 k0, .int .u16 n0] w fun e w' => e = .returned (.bool true) ∧ Below w.heap.size w w' := by
  have hn : sizN 6 n0 ≤ 1024 := siz_le
  refine priced_gen (kd := 6) (n := sizN 6 n0) (m := 2) (u := 197244) (xs := fun i => if i = 0 then codeK6 else [254]) (d := txY false (zeros 32) []) (PF := fun _ _ => True) hk0 hn0 hkd.symm rfl (by decide) ⟨fun wz => play_k6 _ hn wz, by omega, fun wz => used_k6 _ hn wz, fun wz A L W0 k l lw cw md F B hmd _ _ _ _ => world_k6 _ _ A L W0 k l lw cw md wz⟩ (world_two (c1 := codeK6) (c2 := [254]) (by show 41 ≤ 256; omega) (by show 1 ≤ 256; omega)) ?_ w
  have hm2 : acctOf (o2 [254]) = v6Y := by
    unfold acctOf o2 v6Y
    rw [beN_zeros]
    rfl
  refine applies_of (os := [o1 codeK6, o2 [254], sndO]) (us := [u6Y, v6Y]) (by show [acctOf (o1 codeK6), acctOf (o2 [254]), acctOf sndO] = _; rw [acct_o1, hm2, acct_snd]; rfl) (world_two (by show 41 ≤ 256; omega) (by show 1 ≤ 256; omega)) (small_two _ _) ahead6 ?_ (by simp) (by rw [beN_zeros]; omega) (by rw [intr_call]; omega) (PD := fun _ md D left => md = zeros 20 ∧ UsedIs 197244 D left) (fun bw tot => runs_call ahead6 rfl rfl rfl run_k6) ?_
  · intro u hu
    rcases List.mem_cons.mp hu with rfl | hu
    · exact ⟨1, rfl⟩
    · rw [List.mem_singleton.mp hu]
      exact ⟨2, rfl⟩
  · rintro tg md D left ⟨-, h⟩
    exact ⟨h, trivial⟩
theorem priced_k7 (hk0 : k0 ≤ 255) (hn0 : n0 < 65536) (hkd : k0 % 14 = 7) (w : World) : Calls Sakg.prog 3 #[.int .u8 k0, .int .u16 n0] w fun e w' => e = .returned (.bool true) ∧ Below w.heap.size w w' := by
  have hn : sizN 7 n0 ≤ 1024 := siz_le
  have hn2 : sizN 7 n0 ≤ 256 := siz_7
  have hz := z7_le (sizN 7 n0)
  refine priced_gen (kd := 7) (n := sizN 7 n0) (m := 1) (u := 53087 - 12 * z7 (sizN 7 n0) + memN ((sizN 7 n0 + 31) / 32) + 200 * sizN 7 n0) (xs := fun _ => []) (d := txY true (zeros 32) (dataK7 (sizN 7 n0))) (PF := fun md F => ∃ S, F = finS S ∧ High md ∧ (lookY S md).nonce = 1 ∧ (lookY S md).code = zeros (sizN 7 n0)) hk0 hn0 hkd.symm rfl (by decide) ⟨fun wz => play_k7 _ hn wz, by omega, fun wz => used_k7 _ hn wz, fun wz A L W0 k l lw cw md F B hmd h hg ho hlw => ?_⟩ (world_one (by show 0 ≤ 256; omega)) ?_ w
  · obtain ⟨S, hF, hh, h1, h2⟩ := h
    have hs := hg.acc.srt
    have e2 : (freshD F).accts = F := rfl
    rw [e2, hF] at hs
    refine world_k7 _ _ hn A L W0 k l lw cw md hmd _ wz ho ?_
    rw [hF]
    exact fin7 hh h1 h2 hs
  · refine applies_of (os := [o1 [], sndO]) (us := [u1Y [] []]) (by show [acctOf (o1 []), acctOf sndO] = _; rw [acct_o1, acct_snd]; rfl) (world_one (by show 0 ≤ 256; omega)) (small_one []) (ahead1 [] []) (low_one [] []) (by show 5 ≤ 5; omega) (by rw [beN_zeros]; omega) (by rw [intr_k7]; omega) (PD := MadeK7 (sizN 7 n0)) (fun bw tot => run_k7 hn2 rfl rfl) ?_
    rintro tg md D left ⟨h1, h2, h3, h4, h5, -⟩
    subst h2
    exact ⟨h1, D.accts, rfl, h3, h4, h5⟩
theorem world_eight : worldB [o8 codeK8, sndO] = true := by decide +kernel
theorem priced_k8 (hk0 : k0 ≤ 255) (hn0 : n0 < 65536) (hkd : k0 % 14 = 8) (w : World) : Calls Sakg.prog 3 #[.int .u8 k0, .int .u16 n0] w fun e w' => e = .returned (.bool true) ∧ Below w.heap.size w w' := by
  have hn : sizN 8 n0 ≤ 1024 := siz_le
  refine priced_8 (kd := 8) (n := sizN 8 n0) (u := 24808) (xs := fun _ => codeK8) (d := txY false (zeros 32) []) (PF := fun _ _ => True) hk0 hn0 hkd.symm rfl rfl ⟨fun wz => play_k8 _ hn wz, by omega, fun wz => used_k8 _ hn wz, fun wz A L W0 k l lw cw md F B hmd _ _ _ _ => world_k8 _ _ A L W0 k l lw cw md wz⟩ world_eight ?_ w
  have hm8 : acctOf (o8 codeK8) = u8Y := by
    unfold acctOf o8 u8Y u1Y
    simp only [List.map_cons, List.map_nil, beN_zeros]
    rw [show beN oneW = 1 from vone_val]
  refine applies_of (os := [o8 codeK8, sndO]) (us := [u8Y]) (by show [acctOf (o8 codeK8), acctOf sndO] = _; rw [hm8, acct_snd]; rfl) world_eight ?_ (ahead1 _ _) (low_one _ _) (by simp) (by rw [beN_zeros]; omega) (by rw [intr_call]; omega) (PD := fun _ md D left => md = zeros 20 ∧ UsedIs 24808 D left) (fun bw tot => runs_call (ahead1 _ _) rfl rfl rfl run_k8) ?_
  · intro o ho
    rcases List.mem_cons.mp ho with rfl | ho
    · refine ⟨lowAddr_is 1 (by omega) (by omega), (show 1 < 256 ^ 8 by omega), zeroW_is, fun s hs => ?_⟩
      rcases List.mem_cons.mp hs with rfl | hs
      · exact ⟨zeroW_is, oneW_is⟩
      · rw [List.mem_singleton.mp hs]
        exact ⟨oneW_is, oneW_is⟩
    · rw [List.mem_singleton.mp ho]
      exact small_snd
  · rintro tg md D left ⟨-, h⟩
    exact ⟨h, trivial⟩
end
/-- Priced answers true -/
theorem priced_any (k0 n0 : Nat) (hk0 : k0 ≤ 255) (hn0 : n0 < 65536) (w : World) : Calls Sakg.prog 3 #[.int .u8 k0, .int .u16 n0] w fun e w' => e = .returned (.bool true) ∧ Below w.heap.size w w' := by
  have h : k0 % 14 < 14 := Nat.mod_lt _ (by omega)
  rcases (show k0 % 14 = 0 ∨ k0 % 14 = 1 ∨ k0 % 14 = 2 ∨ k0 % 14 = 3 ∨ k0 % 14 = 4 ∨ k0 % 14 = 5 ∨ k0 % 14 = 6 ∨ k0 % 14 = 7 ∨ k0 % 14 = 8 ∨ k0 % 14 = 9 ∨ k0 % 14 = 10 ∨ k0 % 14 = 11 ∨ k0 % 14 = 12 ∨ k0 % 14 = 13 by omega) with h | h | h | h | h | h | h | h | h | h | h | h | h | h
  · exact priced_k0 hk0 hn0 h w
  · exact priced_k1 hk0 hn0 h w
  · exact priced_k2 hk0 hn0 h w
  · exact priced_k3 hk0 hn0 h w
  · exact priced_k4 hk0 hn0 h w
  · exact priced_k5 hk0 hn0 h w
  · exact priced_k6 hk0 hn0 h w
  · exact priced_k7 hk0 hn0 h w
  · exact priced_k8 hk0 hn0 h w
  · exact priced_k9 hk0 hn0 h w
  · exact priced_k10 hk0 hn0 h w
  · exact priced_k11 hk0 hn0 h w
  · exact priced_k12 hk0 hn0 h w
  · exact priced_k13 hk0 hn0 h w

end Go.Proofs.YgcsakGreat
