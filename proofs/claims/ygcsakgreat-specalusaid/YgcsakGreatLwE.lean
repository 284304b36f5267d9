/-
  law: specOf on the stage; the stage's verdict.
-/
import Derived.Test.YgcsakGreatLwD
namespace Go.Proofs.YgcsakGreat
set_option linter.unusedVariables false
set_option linter.unusedSimpArgs false
set_option maxRecDepth 100000
open Go.RowKit

theorem stage_world (xs : List Int) (h : xs.length ≤ 256) : worldB (stageDs xs) = true := by
  have h1 : okA ⟨lowAddr 1, 1, zeros 32, xs, []⟩ = true := by
    unfold okA
    have e : decide (256 < xs.length) = false := decide_eq_false (by omega)
    simp only [e]
    rfl
  have h2 : okA ⟨lowAddr 240, 0, bal128, [], []⟩ = true := by kernel_rfl
  have h3 : addW (zeros 32) (zeros 32) = (0, zeros 32) := by kernel_rfl
  have h4 : (addW (zeros 32) bal128).1 = 0 := by kernel_rfl
  have h5 : beforeB (lowAddr 1) (lowAddr 240) = true := by kernel_rfl
  unfold worldB stageDs
  simp only [okWs, h1, h2, h3, h4, h5]
  rfl
theorem stage_look1 (xs : List Int) : lookY ((stageDs xs).map acctOf) (lowAddr 1) = acctOf ⟨lowAddr 1, 1, zeros 32, xs, []⟩ := by
  unfold stageDs
  rw [List.map_cons, lookY]
  exact if_pos rfl
theorem stage_look2 (xs : List Int) : lookY ((stageDs xs).map acctOf) (lowAddr 240) = acctOf ⟨lowAddr 240, 0, bal128, [], []⟩ := by
  unfold stageDs
  have hne : ¬ lowAddr 1 = lowAddr 240 := by
    unfold lowAddr
    intro h
    have := List.append_cancel_left h
    simp at this
  rw [List.map_cons, lookY]
  show (if lowAddr 1 = lowAddr 240 then _ else _) = _
  rw [if_neg hne, List.map_cons, lookY]
  exact if_pos rfl
theorem intr_A1 : intrN dA1 = 21000 := by kernel_rfl
theorem price_A1 : priceN dA1 (zeros 32) = 0 := by kernel_rfl
theorem most_A1 : beN (mostW dA1) = 0 := by kernel_rfl
theorem tip_A1 : beN (tipW dA1) = 0 := by kernel_rfl
theorem value_A1 : beN dA1.value = 0 := by kernel_rfl
theorem fee_A1 : beN (zeros 32) = 0 := by kernel_rfl
theorem native_A1 : nativeN dA1.dst = 0 := by kernel_rfl
theorem ne_A1 : ¬ dA1.frm = dA1.dst := by
  show ¬ lowAddr 240 = lowAddr 1
  unfold lowAddr
  intro h
  have := List.append_cancel_left h
  simp at this
theorem stage_verd (xs : List Int) : verdN ((stageDs xs).map acctOf) 1048576 (zeros 32) dA1 = 0 := by
  have hg : dA1.gas = 200000 := rfl
  have hd : dA1.data.length = 0 := rfl
  have hn : dA1.nonce = 0 := rfl
  have hf : dA1.frm = lowAddr 240 := rfl
  have hl : listB dA1.access = true := by kernel_rfl
  unfold verdN
  rw [hf, stage_look2, intr_A1, most_A1, tip_A1, value_A1, fee_A1, hg, hd, hn, hl]
  have e1 : (acctOf ⟨lowAddr 240, 0, bal128, [], []⟩).nonce = 0 := rfl
  have e2 : (acctOf ⟨lowAddr 240, 0, bal128, [], []⟩).code.length = 0 := rfl
  rw [e1, e2]
  rw [if_neg (by omega), if_neg (by omega), if_neg (by simp), if_neg (by omega), if_neg (by omega), if_neg (by omega), if_neg (by omega), if_neg (by omega), if_neg (by omega), if_neg (by omega), if_neg (by omega), if_neg (by omega)]
theorem stage_small (xs : List Int) : Small (stageDs xs) := by
  intro o ho
  unfold stageDs at ho
  simp only [List.mem_cons, List.not_mem_nil, or_false] at ho
  rcases ho with rfl | rfl
  · exact ⟨addr1_is, (show 1 < 256 ^ 8 by omega), zeroW_is, fun s hs => by cases hs⟩
  · exact ⟨addr240_is, (show 0 < 256 ^ 8 by omega), bal128_is, fun s hs => by cases hs⟩
theorem stage_slots (xs : List Int) : ∀ o ∈ stageDs xs, o.slots = [] := by
  intro o ho
  unfold stageDs at ho
  simp only [List.mem_cons, List.not_mem_nil, or_false] at ho
  rcases ho with rfl | rfl <;> rfl

set_option maxHeartbeats 8000000 in
theorem specOf_stage (A : Option Addr) (c : Nat) (xs : List Int) (w : World) (h : OAcctsR w A 2 c (stageDs xs)) (hx : xs.length ≤ 256) :
    Calls Sakg.prog 12 #[.slice A 2 c] w fun e w' => ∃ bw cs, e = .returned (.pointer (some ⟨bw, 0, none⟩)) ∧ w.heap.size ≤ bw ∧ NewOK bw cs stageEnv w' 2 (stageDs xs) ∧ TotOK bw cs w' 2 ∧ Below w.heap.size w w' := by
  have HE := hide (stageEnv_any w)
  have HN : ∀ wz, Below w.heap.size w wz → Hid (Calls Sakg.prog 46 #[.slice A 2 c, .agg stageEnv.toArray] wz fun e w' => ∃ bw cs, e = .returned (.tuple #[.pointer (some ⟨bw, 0, none⟩), .bool true]) ∧ w.heap.size ≤ bw ∧ NewOK bw cs stageEnv w' 2 (stageDs xs) ∧ TotOK bw cs w' 2 ∧ Below wz.heap.size wz w') := fun wz hz => hide (by
    refine (new_any A 2 c (stageDs xs) stageEnv (lowAddr 192) 1048576 (zeros 32) none 0 0 [] wz (h.kept hz) (by omega) stageEnv_c (Rws.ofNil _ 32) (fun r hr => by cases hr) (by omega)).mono ?_
    rintro e w' ⟨hb, hor⟩
    rcases hor with ⟨hf, -⟩ | ⟨-, bw, cs, he, hl, hn, ht⟩
    · rw [stage_world xs hx] at hf
      cases hf
    · exact ⟨bw, cs, he, Nat.le_trans hz.size hl, hn, ht, hb⟩)
  clear h
  go_enter Sakg.func12, Sakg.ntmps12
  go_wp2_with fail
  refine (unhide HE).mono ?_
  rintro e w1 ⟨rfl, b1⟩
  go_wp2_with fail
  refine (unhide (HN w1 b1)).mono ?_
  rintro e w2 ⟨bw, cs, rfl, hl, hn, ht, b2⟩
  have HNN := hide hn
  have HTT := hide ht
  clear hn ht
  go_wp2
  go_ret
  exact ⟨bw, cs, rfl, hl, unhide HNN, unhide HTT, b1.trans (b2.mono b1.size)⟩

end Go.Proofs.YgcsakGreat
