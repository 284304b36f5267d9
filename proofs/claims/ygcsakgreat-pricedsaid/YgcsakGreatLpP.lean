/-
  law: Priced, kind by kind.
-/
import Derived.Test.YgcsakGreatLpO
namespace Go.Proofs.YgcsakGreat
set_option linter.unusedVariables false
set_option linter.unusedSimpArgs false
set_option maxRecDepth 100000
open Go.RowKit

theorem bal128_val : beN bal128 = 2 ^ 128 := by decide +kernel
def o1 (code : List Int) : OAcct := ⟨lowAddr 1, 1, zeros 32, code, []⟩
def o2 (code : List Int) : OAcct := ⟨lowAddr 2, 1, zeros 32, code, []⟩
theorem acct_o1 (code : List Int) : acctOf (o1 code) = u1Y code [] := by
  unfold acctOf o1 u1Y
  rw [beN_zeros]
  rfl
theorem acct_snd : acctOf sndO = s0Y := by
  unfold acctOf sndO s0Y
  rw [bal128_val]
  rfl
theorem acc_one (code : List Int) : accO (fun _ => code) 1 ++ [sndO] = [o1 code, sndO] := rfl
theorem okA_code {z : Int} {xs : List Int} (h : xs.length ≤ 256) : okA ⟨lowAddr z, 1, zeros 32, xs, []⟩ = true := by
  unfold okA
  have e : decide (256 < xs.length) = false := decide_eq_false (by omega)
  simp only [e]
  rfl
theorem world_one {code : List Int} (h : code.length ≤ 256) : worldB [o1 code, sndO] = true := by
  have h1 : okA (o1 code) = true := okA_code h
  have h2 : okA sndO = true := by kernel_rfl
  have h3 : addW (zeros 32) (zeros 32) = (0, zeros 32) := by kernel_rfl
  have h4 : (addW (zeros 32) bal128).1 = 0 := by kernel_rfl
  have h5 : beforeB (lowAddr 1) (lowAddr 240) = true := by kernel_rfl
  have e1 : (o1 code).addr = lowAddr 1 := rfl
  have e2 : (o1 code).bal = zeros 32 := rfl
  have e3 : sndO.addr = lowAddr 240 := rfl
  have e4 : sndO.bal = bal128 := rfl
  unfold worldB
  simp only [okWs, h1, h2, e1, e2, e3, e4, h3, h4, h5]
  rfl
theorem world_two {c1 c2 : List Int} (h : c1.length ≤ 256) (h' : c2.length ≤ 256) : worldB [o1 c1, o2 c2, sndO] = true := by
  have h1 : okA (o1 c1) = true := okA_code h
  have h1' : okA (o2 c2) = true := okA_code h'
  have h2 : okA sndO = true := by kernel_rfl
  have h3 : addW (zeros 32) (zeros 32) = (0, zeros 32) := by kernel_rfl
  have h4 : (addW (zeros 32) bal128).1 = 0 := by kernel_rfl
  have h5 : beforeB (lowAddr 2) (lowAddr 240) = true := by kernel_rfl
  have h6 : beforeB (lowAddr 1) (lowAddr 2) = true := by kernel_rfl
  have e1 : (o1 c1).addr = lowAddr 1 := rfl
  have e2 : (o1 c1).bal = zeros 32 := rfl
  have e1' : (o2 c2).addr = lowAddr 2 := rfl
  have e2' : (o2 c2).bal = zeros 32 := rfl
  have e3 : sndO.addr = lowAddr 240 := rfl
  have e4 : sndO.bal = bal128 := rfl
  unfold worldB
  simp only [okWs, h1, h1', h2, e1, e2, e1', e2', e3, e4, h3, h4, h5, h6]
  rfl
theorem small_snd : IsAddr sndO.addr ∧ sndO.nonce < 256 ^ 8 ∧ IsW sndO.bal ∧ ∀ s ∈ sndO.slots, IsW s.1 ∧ IsW s.2 := ⟨addr240_is, by decide, bal128_is, fun s hs => by cases hs⟩
theorem small_one (code : List Int) : Small [o1 code, sndO] := by
  intro o ho
  rcases List.mem_cons.mp ho with rfl | ho
  · exact ⟨lowAddr_is 1 (by omega) (by omega), (show 1 < 256 ^ 8 by omega), zeroW_is, fun s hs => by cases hs⟩
  · rw [List.mem_singleton.mp ho]
    exact small_snd
theorem small_two (c1 c2 : List Int) : Small [o1 c1, o2 c2, sndO] := by
  intro o ho
  rcases List.mem_cons.mp ho with rfl | ho
  · exact ⟨lowAddr_is 1 (by omega) (by omega), (show 1 < 256 ^ 8 by omega), zeroW_is, fun s hs => by cases hs⟩
  · rcases List.mem_cons.mp ho with rfl | ho
    · exact ⟨lowAddr_is 2 (by omega) (by omega), (show 1 < 256 ^ 8 by omega), zeroW_is, fun s hs => by cases hs⟩
    · rw [List.mem_singleton.mp ho]
      exact small_snd
theorem applies_of {os : List OAcct} {us : List YAcct} (hmap : os.map acctOf = stgY us) (hw : worldB os = true) (hsm : Small os) (hus : Ahead us) (hlow : ∀ u ∈ us, ∃ z : Int, u.addr = lowAddr z) {cr : Bool} {v data : List Int} (hd : data.length ≤ 5) (hv : beN v ≤ 1) (hi : intrN (txY cr v data) ≤ 200000) {PD : List Int → List Int → WD → Nat → Prop} {u : Nat} {PF : List Int → List YAcct → Prop}
    (hrun : ∀ bw tot, RunsTo bw (stgY us) (xS tot) (txY cr v data) PD) (hPD : ∀ tg md D left, PD tg md D left → usedN 200000 left D.refund = u ∧ PF md (finS D.accts)) : Applies os u (txY cr v data) PF := by
  intro bw tot cs w w0 row A1 k1 c1 hbw hbelow hsi hx htx hsrc
  obtain ⟨hgd, hB, hsz⟩ := good_world hw hsm
  rw [hmap] at hsi hgd hsz
  have hg : Good (balsN os) (freshD (stgY us)) := ⟨hgd, fun t ht => (by cases ht), fun t ht => (by cases ht), by
    have e : szW (freshD (stgY us)) = szA (stgY us) + 0 + 0 + 0 + 0 + 0 + 0 := rfl
    omega, Nat.pow_pos (by omega), hB⟩
  have hwt : wt (freshD (stgY us)) ≤ 400000 := by rw [wt_fresh]; omega
  refine (apply_stg hus hlow hbw hbelow hsi hx hg hwt row cr v data A1 k1 c1 htx hsrc hd hv hi PD (hrun bw tot)).mono ?_
  rintro e w' ⟨A, L, k, l, G', cs', tg, md, rt, D, left, B', x', rfl, -, -, hmd, hpd, -, h1, h2, -, h4⟩
  obtain ⟨e1, e2⟩ := hPD tg md D left hpd
  rw [finA_stg] at h1 h2
  have e3 : (txY cr v data).gas = 200000 := rfl
  rw [e3, e1]
  exact ⟨A, L, k, l, md, _, B', G', cs', x', rfl, hmd, h1, h2, e2, h4⟩
theorem low_one (code : List Int) (ss : List (Nat × Nat)) : ∀ u ∈ [u1Y code ss], ∃ z : Int, u.addr = lowAddr z := by
  intro u hu
  rw [List.mem_singleton.mp hu]
  exact ⟨1, rfl⟩
/-- a call of account 1, one code -/
theorem applies_call {code : List Int} (hc : code.length ≤ 256) {v : List Int} (hv : beN v ≤ 1) {PW : WD → Nat → Prop} {u : Nat} {PF : List Int → List YAcct → Prop} (hrun : ∀ bw x, CallRuns bw [u1Y code []] code x v PW) (hPW : ∀ md D left, PW D left → usedN 200000 left D.refund = u ∧ PF md (finS D.accts)) :
    Applies [o1 code, sndO] u (txY false v []) PF := by
  refine applies_of (us := [u1Y code []]) (by show [acctOf (o1 code), acctOf sndO] = _; rw [acct_o1, acct_snd]; rfl) (world_one hc) (small_one code) (ahead1 code []) (low_one code []) (by simp) hv (by rw [intr_call]; omega) (PD := fun _ md D left => md = zeros 20 ∧ PW D left) (fun bw tot => runs_call (ahead1 code []) rfl rfl rfl (hrun bw (xS tot))) ?_
  rintro tg md D left ⟨-, h⟩
  exact hPW md D left h

end Go.Proofs.YgcsakGreat
