/-
  the addresses that Priced makes are none of the low ones: the hashes, reckoned.
-/
import Derived.Test.YgcsakGreatXkB
import Derived.Test.YgcsakGreatXkC
import Derived.Test.YgcsakGreatYpJ
namespace Go.Proofs.YgcsakGreat
set_option linter.unusedVariables false
set_option linter.unusedSimpArgs false
set_option maxRecDepth 1000000

/-- the third lane of the hash of (255, account 1, a zero salt, the hash of n zeros) -/
def chkC (n : Nat) : Bool := fz (hashV (hashL 0 n)) fun h => fz ((hashL (255 + 256 ^ 20 + 256 ^ 53 * h) 85).getD 2 0 % 2 ^ 64) fun v => Nat.blt 0 v
def chkTo (a : Nat) : Nat → Bool
  | 0 => true
  | k + 1 => chkTo a k && chkC (a + k)
theorem chk_0 : chkTo 0 33 = true := by decide +kernel
theorem chk_33 : chkTo 33 33 = true := by decide +kernel
theorem chk_66 : chkTo 66 33 = true := by decide +kernel
theorem chk_99 : chkTo 99 33 = true := by decide +kernel
theorem chk_132 : chkTo 132 33 = true := by decide +kernel
theorem chk_165 : chkTo 165 33 = true := by decide +kernel
theorem chk_198 : chkTo 198 33 = true := by decide +kernel
theorem chk_231 : chkTo 231 33 = true := by decide +kernel
theorem chk_264 : chkTo 264 33 = true := by decide +kernel
theorem chk_297 : chkTo 297 33 = true := by decide +kernel
theorem chk_330 : chkTo 330 33 = true := by decide +kernel
theorem chk_363 : chkTo 363 33 = true := by decide +kernel
theorem chk_396 : chkTo 396 33 = true := by decide +kernel
theorem chk_429 : chkTo 429 33 = true := by decide +kernel
theorem chk_462 : chkTo 462 33 = true := by decide +kernel
theorem chk_495 : chkTo 495 18 = true := by decide +kernel
theorem chkTo_at {a : Nat} : ∀ {k : Nat}, chkTo a k = true → ∀ i, i < k → chkC (a + i) = true
  | 0, _, i, h => absurd h (by omega)
  | k + 1, h, i, hi => by
    have h' : (chkTo a k && chkC (a + k)) = true := h
    rw [Bool.and_eq_true] at h'
    rcases Nat.lt_or_ge i k with hl | hl
    · exact chkTo_at h'.1 i hl
    · obtain rfl : i = k := by omega
      exact h'.2
theorem chk_all (n : Nat) (hn : n < 513) : chkC n = true := by
  by_cases h0 : n < 33
  · have := chkTo_at chk_0 (n - 0) (by omega)
    rwa [show 0 + (n - 0) = n by omega] at this
  by_cases h33 : n < 66
  · have := chkTo_at chk_33 (n - 33) (by omega)
    rwa [show 33 + (n - 33) = n by omega] at this
  by_cases h66 : n < 99
  · have := chkTo_at chk_66 (n - 66) (by omega)
    rwa [show 66 + (n - 66) = n by omega] at this
  by_cases h99 : n < 132
  · have := chkTo_at chk_99 (n - 99) (by omega)
    rwa [show 99 + (n - 99) = n by omega] at this
  by_cases h132 : n < 165
  · have := chkTo_at chk_132 (n - 132) (by omega)
    rwa [show 132 + (n - 132) = n by omega] at this
  by_cases h165 : n < 198
  · have := chkTo_at chk_165 (n - 165) (by omega)
    rwa [show 165 + (n - 165) = n by omega] at this
  by_cases h198 : n < 231
  · have := chkTo_at chk_198 (n - 198) (by omega)
    rwa [show 198 + (n - 198) = n by omega] at this
  by_cases h231 : n < 264
  · have := chkTo_at chk_231 (n - 231) (by omega)
    rwa [show 231 + (n - 231) = n by omega] at this
  by_cases h264 : n < 297
  · have := chkTo_at chk_264 (n - 264) (by omega)
    rwa [show 264 + (n - 264) = n by omega] at this
  by_cases h297 : n < 330
  · have := chkTo_at chk_297 (n - 297) (by omega)
    rwa [show 297 + (n - 297) = n by omega] at this
  by_cases h330 : n < 363
  · have := chkTo_at chk_330 (n - 330) (by omega)
    rwa [show 330 + (n - 330) = n by omega] at this
  by_cases h363 : n < 396
  · have := chkTo_at chk_363 (n - 363) (by omega)
    rwa [show 363 + (n - 363) = n by omega] at this
  by_cases h396 : n < 429
  · have := chkTo_at chk_396 (n - 396) (by omega)
    rwa [show 396 + (n - 396) = n by omega] at this
  by_cases h429 : n < 462
  · have := chkTo_at chk_429 (n - 429) (by omega)
    rwa [show 429 + (n - 429) = n by omega] at this
  by_cases h462 : n < 495
  · have := chkTo_at chk_462 (n - 462) (by omega)
    rwa [show 462 + (n - 462) = n by omega] at this
  have := chkTo_at chk_495 (n - 495) (by omega)
  rwa [show 495 + (n - 495) = n by omega] at this
theorem val_zerosX (n : Nat) : val (zeros n) = 0 := by
  induction n with
  | zero => rfl
  | succ k ih =>
    show (0 : Int).toNat + 256 * val (zeros k) = 0
    rw [ih]
    rfl
theorem val_low1 : val (lowAddr 1) = 256 ^ 19 := by decide +kernel
theorem be32_zero : be32 0 = zeros 32 := by decide +kernel
/-- CREATE2 from account 1 with n zeros -/
theorem high_create2 {n : Nat} (hn : n < 513) {hs b : List Int} (hl : hs.length = 32) (hb : Byt hs) (h : HashIs (zeros n) hs) (ha : AddrIs ([255] ++ lowAddr 1 ++ be32 0 ++ hs) b) : ∃ q, 4 ≤ q ∧ q < 12 ∧ b.getD q 0 ≠ 0 := by
  have h1 := hash_val (zeros_byt n) hb hl h
  rw [val_zerosX, zeros_len] at h1
  have hbyt : Byt ([255] ++ lowAddr 1 ++ be32 0 ++ hs) := by
    refine Byt.append (Byt.append (Byt.append (fun x hx => by simp at hx; omega) (lowAddr_is 1 (by omega) (by omega)).byt) ?_) hb
    rw [be32_zero]
    exact zeros_byt 32
  have hv : val ([255] ++ lowAddr 1 ++ be32 0 ++ hs) = 255 + 256 ^ 20 + 256 ^ 53 * val hs := by
    rw [be32_zero, val_append, val_append, val_append, val_zerosX, val_low1]
    have e1 : ([255] ++ lowAddr 1 ++ zeros 32 : List Int).length = 53 := by decide
    have e2 : ([255] : List Int).length = 1 := rfl
    rw [e1, e2, Nat.mul_zero, Nat.add_zero]
    show (255 : Int).toNat + 256 * 0 + 256 ^ 1 * 256 ^ 19 + _ = _
    rw [← Nat.pow_add]
    rfl
  have hlen : ([255] ++ lowAddr 1 ++ be32 0 ++ hs : List Int).length = 85 := by
    rw [be32_zero, List.length_append, hl]
    decide
  refine addr_high hbyt ha ?_
  rw [hv, hlen, h1]
  have hc := chk_all n hn
  unfold chkC at hc
  rw [fz_eq, fz_eq] at hc
  intro h0
  rw [h0] at hc
  cases hc
/-- CREATE: the sender's first, and account 1's second -/
theorem chk_7 : (hashL (val ([214, 148] ++ lowAddr 240 ++ [128])) 23).getD 2 0 % 2 ^ 64 ≠ 0 := by decide +kernel
theorem chk_9 : (hashL (val ([214, 148] ++ lowAddr 1 ++ [1])) 23).getD 2 0 % 2 ^ 64 ≠ 0 := by decide +kernel
theorem high_create {a b : List Int} {z : Int} (ha : IsAddr a) (hz : 0 ≤ z ∧ z ≤ 255) (hne : (hashL (val ([214, 148] ++ a ++ [z])) 23).getD 2 0 % 2 ^ 64 ≠ 0) (h : AddrIs ([214, 148] ++ a ++ [z]) b) : ∃ q, 4 ≤ q ∧ q < 12 ∧ b.getD q 0 ≠ 0 := by
  have hbyt : Byt ([214, 148] ++ a ++ [z]) := Byt.append (Byt.append (fun x hx => by simp at hx; omega) ha.byt) (fun x hx => by simp at hx; omega)
  have hlen : ([214, 148] ++ a ++ [z] : List Int).length = 23 := by simp [ha.len]
  refine addr_high hbyt h ?_
  rw [hlen]
  exact hne
theorem high_ne {b : List Int} (h : ∃ q, 4 ≤ q ∧ q < 12 ∧ b.getD q 0 ≠ 0) (z : Int) : b ≠ lowAddr z := by
  rintro rfl
  obtain ⟨q, h1, h2, h3⟩ := h
  apply h3
  unfold lowAddr zeros
  rw [List.getD_eq_getElem?_getD, List.getElem?_append_left (by simp; omega), List.getElem?_replicate, if_pos (by omega)]
  rfl

end Go.Proofs.YgcsakGreat
