/-
  Keccak-256 reckoned on lanes.
-/
import Derived.Test.YgcsakGreatKyH
namespace Go.Proofs.YgcsakGreat
set_option linter.unusedVariables false
set_option linter.unusedSimpArgs false
set_option maxRecDepth 100000

def laneT (T b i : Nat) : Nat := (T >>> (1088 * b + 64 * i)) % 18446744073709551616
theorem lane_bit (T b i Z : Nat) (hZ : Z < 64) : (laneT T b i).testBit Z = T.testBit (1088 * b + 64 * i + Z) := by
  unfold laneT
  rw [show (18446744073709551616 : Nat) = 2 ^ 64 from rfl, Nat.testBit_mod_two_pow, decide_eq_true hZ, Bool.true_and, Nat.testBit_shiftRight]
def xorL (L : List Nat) (T b : Nat) : List Nat :=
  match L with
  | [a0, a1, a2, a3, a4, a5, a6, a7, a8, a9, a10, a11, a12, a13, a14, a15, a16, a17, a18, a19, a20, a21, a22, a23, a24] => [a0 ^^^ laneT T b 0, a1 ^^^ laneT T b 1, a2 ^^^ laneT T b 2, a3 ^^^ laneT T b 3, a4 ^^^ laneT T b 4, a5 ^^^ laneT T b 5, a6 ^^^ laneT T b 6, a7 ^^^ laneT T b 7, a8 ^^^ laneT T b 8, a9 ^^^ laneT T b 9, a10 ^^^ laneT T b 10, a11 ^^^ laneT T b 11, a12 ^^^ laneT T b 12, a13 ^^^ laneT T b 13, a14 ^^^ laneT T b 14, a15 ^^^ laneT T b 15, a16 ^^^ laneT T b 16, a17, a18, a19, a20, a21, a22, a23, a24]
  | _ => []
theorem xorL_len {L : List Nat} (h : L.length = 25) (T b : Nat) : (xorL L T b).length = 25 := by
  match L, h with
  | [a0, a1, a2, a3, a4, a5, a6, a7, a8, a9, a10, a11, a12, a13, a14, a15, a16, a17, a18, a19, a20, a21, a22, a23, a24], _ => rfl
theorem xorL_at {L : List Nat} (h : L.length = 25) (T b P Q : Nat) (hP : P < 5) (hQ : Q < 5) : listA (xorL L T b) P Q = if 5 * Q + P < 17 then listA L P Q ^^^ laneT T b (5 * Q + P) else listA L P Q := by
  match L, h with
  | [a0, a1, a2, a3, a4, a5, a6, a7, a8, a9, a10, a11, a12, a13, a14, a15, a16, a17, a18, a19, a20, a21, a22, a23, a24], _ =>
    have hp : P = 0 ∨ P = 1 ∨ P = 2 ∨ P = 3 ∨ P = 4 := by omega
    have hq : Q = 0 ∨ Q = 1 ∨ Q = 2 ∨ Q = 3 ∨ Q = 4 := by omega
    rcases hp with rfl | rfl | rfl | rfl | rfl <;> rcases hq with rfl | rfl | rfl | rfl | rfl <;> rfl
def absorbE (T : Nat) : Nat → List Nat
  | 0 => [0, 0, 0, 0, 0, 0, 0, 0, 0, 0, 0, 0, 0, 0, 0, 0, 0, 0, 0, 0, 0, 0, 0, 0, 0]
  | b + 1 => permE (xorL (absorbE T b) T b)
theorem abs_part {xs : List Int} {N b : Nat} : ∀ r, r ≤ 1087 → ∀ P Q Z, P < 5 → Q < 5 → Z < 64 → absS xs N (1088 * b + r) P Q Z = if 64 * (5 * Q + P) + Z < r then !absS xs N (1088 * b) P Q Z == padB xs N (1088 * b + (64 * (5 * Q + P) + Z)) else absS xs N (1088 * b) P Q Z
  | 0, _, P, Q, Z, _, _, _ => by rw [if_neg (by omega)]; rfl
  | r + 1, hr, P, Q, Z, hP, hQ, hZ => by
    have ih := abs_part (xs := xs) (N := N) (b := b) r (by omega) P Q Z hP hQ hZ
    have hj : (1088 * b + r) % 1088 = r := by omega
    show (if (1088 * b + r) % 1088 = 1087 then permS (xorAt (absS xs N (1088 * b + r)) (1088 * b + r) (padB xs N (1088 * b + r))) 24 else xorAt (absS xs N (1088 * b + r)) (1088 * b + r) (padB xs N (1088 * b + r))) P Q Z = _
    rw [if_neg (by omega)]
    unfold xorAt
    rw [hj, ih]
    by_cases h1 : 64 * (5 * Q + P) + Z = r
    · rw [if_pos h1, if_neg (show ¬ 64 * (5 * Q + P) + Z < r by omega), if_pos (show 64 * (5 * Q + P) + Z < r + 1 by omega), h1]
    · rw [if_neg h1]
      by_cases h2 : 64 * (5 * Q + P) + Z < r
      · rw [if_pos h2, if_pos (by omega)]
      · rw [if_neg h2, if_neg (by omega)]
theorem absorb_at {xs : List Int} {N T : Nat} (hT : ∀ k, k ≤ N → T.testBit k = padB xs N k) : ∀ b, 1088 * b ≤ N + 1 → (absorbE T b).length = 25 ∧ La (listA (absorbE T b)) (absS xs N (1088 * b))
  | 0, _ => by
    refine ⟨rfl, fun P Q Z hP hQ hZ => ?_⟩
    have hp : P = 0 ∨ P = 1 ∨ P = 2 ∨ P = 3 ∨ P = 4 := by omega
    have hq : Q = 0 ∨ Q = 1 ∨ Q = 2 ∨ Q = 3 ∨ Q = 4 := by omega
    have h0 : listA (absorbE T 0) P Q = 0 := by rcases hp with rfl | rfl | rfl | rfl | rfl <;> rcases hq with rfl | rfl | rfl | rfl | rfl <;> rfl
    rw [h0, Nat.zero_testBit]
    rfl
  | b + 1, hb => by
    obtain ⟨h1, h2⟩ := absorb_at hT b (by omega)
    have hx : La (listA (xorL (absorbE T b) T b)) (xorAt (absS xs N (1088 * b + 1087)) (1088 * b + 1087) (padB xs N (1088 * b + 1087))) := by
      intro P Q Z hP hQ hZ
      unfold xorAt
      rw [show (1088 * b + 1087) % 1088 = 1087 by omega, abs_part 1087 (by omega) P Q Z hP hQ hZ, xorL_at h1 T b P Q hP hQ, h2 P Q Z hP hQ hZ]
      by_cases hi : 5 * Q + P < 17
      · rw [if_pos hi, Nat.testBit_xor, lane_bit _ _ _ _ hZ, show 1088 * b + 64 * (5 * Q + P) + Z = 1088 * b + (64 * (5 * Q + P) + Z) by omega, hT _ (by omega)]
        by_cases h3 : 64 * (5 * Q + P) + Z = 1087
        · rw [if_pos h3, if_neg (by omega), h3]
          cases (listA (absorbE T b) P Q).testBit Z <;> cases padB xs N (1088 * b + 1087) <;> rfl
        · rw [if_neg h3, if_pos (by omega)]
          cases (listA (absorbE T b) P Q).testBit Z <;> cases padB xs N (1088 * b + (64 * (5 * Q + P) + Z)) <;> rfl
      · rw [if_neg hi, if_neg (by omega), if_neg (by omega)]
    obtain ⟨g1, g2⟩ := La.list (xorL_len h1 T b) hx 24 (Nat.le_refl _)
    refine ⟨g1, fun P Q Z hP hQ hZ => ?_⟩
    have e : absS xs N (1088 * (b + 1)) = permS (xorAt (absS xs N (1088 * b + 1087)) (1088 * b + 1087) (padB xs N (1088 * b + 1087))) 24 := by
      rw [show 1088 * (b + 1) = (1088 * b + 1087) + 1 by omega]
      show (if (1088 * b + 1087) % 1088 = 1087 then _ else _) = _
      rw [if_pos (by omega)]
    rw [e]
    exact g2 P Q Z hP hQ hZ
/-- the bits of bytes -/
theorem val_bit : ∀ (xs : List Int), Byt xs → ∀ k, (val xs).testBit k = (xs.getD (k / 8) 0).toNat.testBit (k % 8)
  | [], _, k => by simp [val]
  | x :: xs, hb, k => by
    have hx := hb x (by simp)
    have ih := val_bit xs (fun y hy => hb y (by simp [hy]))
    have e : val (x :: xs) = 2 ^ 8 * val xs + x.toNat := by show x.toNat + 256 * val xs = _; omega
    rw [e, Nat.testBit_two_pow_mul_add _ (by omega)]
    by_cases h : k < 8
    · rw [if_pos h, show k / 8 = 0 by omega, show k % 8 = k by omega]
      rfl
    · rw [if_neg h, ih (k - 8), show k / 8 = (k - 8) / 8 + 1 by omega, show k % 8 = (k - 8) % 8 by omega]
      rfl
/-- the padded message as a number -/
def tN (v l : Nat) : Nat := 2 ^ (8 * l) * (2 ^ (lastN l - 8 * l) * 1 + 1) + v
theorem tN_bit {xs : List Int} (hb : Byt xs) (k : Nat) (hk : k ≤ lastN xs.length) : (tN (val xs) xs.length).testBit k = padB xs (lastN xs.length) k := by
  have hl : val xs < 2 ^ (8 * xs.length) := by
    have := val_lt xs hb
    rwa [show (256 : Nat) = 2 ^ 8 from rfl, ← Nat.pow_mul] at this
  have hN : 8 * xs.length < lastN xs.length := by unfold lastN; omega
  unfold tN padB
  rw [Nat.testBit_two_pow_mul_add _ hl]
  by_cases h : k < 8 * xs.length
  · rw [if_pos h, if_pos h, val_bit xs hb]
  · rw [if_neg h, if_neg h, Nat.testBit_two_pow_mul_add _ (Nat.one_lt_two_pow (by omega))]
    by_cases h1 : k = 8 * xs.length
    · subst h1
      rw [if_pos (by omega), Nat.sub_self]
      simp
    · by_cases h2 : k = lastN xs.length
      · subst h2
        rw [if_neg (by omega), Nat.sub_self]
        simp
      · have e1 : (k == 8 * xs.length) = false := by rw [beq_eq_false_iff_ne]; exact h1
        have e2 : (k == lastN xs.length) = false := by rw [beq_eq_false_iff_ne]; exact h2
        rw [if_pos (by omega), e1, e2, Nat.testBit_lt_two_pow (Nat.one_lt_two_pow (by omega))]
        rfl
/-- the lanes of the hash of l bytes of the value v -/
def hashL (v l : Nat) : List Nat := absorbE (tN v l) ((lastN l + 1) / 1088)
theorem hash_lanes {xs ys : List Int} (hb : Byt xs) (h : HashIs xs ys) (i : Nat) (hi : i < 256) : (ys.getD (i / 8) 0).toNat.testBit (i % 8) = ((hashL (val xs) xs.length).getD (i / 64) 0).testBit (i % 64) := by
  rw [h i hi]
  have hd : 1088 * ((lastN xs.length + 1) / 1088) = lastN xs.length + 1 := by unfold lastN; omega
  obtain ⟨-, h2⟩ := absorb_at (xs := xs) (N := lastN xs.length) (T := tN (val xs) xs.length) (fun k hk => tN_bit hb k hk) ((lastN xs.length + 1) / 1088) (by omega)
  rw [hd] at h2
  have h3 := h2 (i / 64) 0 (i % 64) (by omega) (by omega) (by omega)
  show absS xs (lastN xs.length) (lastN xs.length + 1) (i / 64) 0 (i % 64) = _
  rw [h3]
  show ((absorbE (tN (val xs) xs.length) ((lastN xs.length + 1) / 1088)).getD (5 * 0 + i / 64) 0).testBit (i % 64) = _
  rw [Nat.mul_zero, Nat.zero_add]
  rfl
/-- the hash as a number -/
def hashV (L : List Nat) : Nat := 2 ^ 64 * (2 ^ 64 * (2 ^ 64 * (L.getD 3 0 % 2 ^ 64) + L.getD 2 0 % 2 ^ 64) + L.getD 1 0 % 2 ^ 64) + L.getD 0 0 % 2 ^ 64
theorem hashV_bit (L : List Nat) (i : Nat) : (hashV L).testBit i = (decide (i < 256) && (L.getD (i / 64) 0).testBit (i % 64)) := by
  have hm : ∀ n : Nat, n % 2 ^ 64 < 2 ^ 64 := fun n => Nat.mod_lt _ (by decide)
  unfold hashV
  rw [Nat.testBit_two_pow_mul_add _ (hm _)]
  by_cases h0 : i < 64
  · rw [if_pos h0, Nat.testBit_mod_two_pow, show i / 64 = 0 by omega, show i % 64 = i by omega, decide_eq_true h0, decide_eq_true (show i < 256 by omega)]
  · rw [if_neg h0, Nat.testBit_two_pow_mul_add _ (hm _)]
    by_cases h1 : i - 64 < 64
    · rw [if_pos h1, Nat.testBit_mod_two_pow, show i / 64 = 1 by omega, show i % 64 = i - 64 by omega, decide_eq_true h1, decide_eq_true (show i < 256 by omega)]
    · rw [if_neg h1, Nat.testBit_two_pow_mul_add _ (hm _)]
      by_cases h2 : i - 64 - 64 < 64
      · rw [if_pos h2, Nat.testBit_mod_two_pow, show i / 64 = 2 by omega, show i % 64 = i - 64 - 64 by omega, decide_eq_true h2, decide_eq_true (show i < 256 by omega)]
      · rw [if_neg h2, Nat.testBit_mod_two_pow]
        by_cases h3 : i - 64 - 64 - 64 < 64
        · rw [show i / 64 = 3 by omega, show i % 64 = i - 64 - 64 - 64 by omega, decide_eq_true h3, decide_eq_true (show i < 256 by omega)]
        · rw [decide_eq_false h3, decide_eq_false (show ¬ i < 256 by omega), Bool.false_and, Bool.false_and]
theorem hash_val {xs ys : List Int} (hb : Byt xs) (hyb : Byt ys) (hyl : ys.length = 32) (h : HashIs xs ys) : val ys = hashV (hashL (val xs) xs.length) := by
  apply Nat.eq_of_testBit_eq
  intro i
  rw [val_bit ys hyb, hashV_bit]
  by_cases hi : i < 256
  · rw [decide_eq_true hi, Bool.true_and, hash_lanes hb h i hi]
  · rw [decide_eq_false hi, Bool.false_and, List.getD_eq_getElem?_getD, List.getElem?_eq_none (by omega)]
    exact Nat.zero_testBit _
/-- a byte of the hash between 16 and 24 is not zero where the third lane is not -/
theorem hash_third {xs ys : List Int} (hb : Byt xs) (h : HashIs xs ys) (hne : (hashL (val xs) xs.length).getD 2 0 % 2 ^ 64 ≠ 0) : ∃ q, 16 ≤ q ∧ q < 24 ∧ ys.getD q 0 ≠ 0 := by
  have hex : ∃ Z, ((hashL (val xs) xs.length).getD 2 0 % 2 ^ 64).testBit Z = true := Classical.byContradiction fun hno => hne (Nat.eq_of_testBit_eq fun i => by
    rw [Nat.zero_testBit]
    cases hc : ((hashL (val xs) xs.length).getD 2 0 % 2 ^ 64).testBit i with
    | false => rfl
    | true => exact absurd ⟨i, hc⟩ hno)
  obtain ⟨Z, hZ⟩ := hex
  rw [Nat.testBit_mod_two_pow, Bool.and_eq_true, decide_eq_true_eq] at hZ
  have h1 := hash_lanes hb h (128 + Z) (by omega)
  rw [show (128 + Z) / 64 = 2 by omega, show (128 + Z) % 64 = Z by omega, hZ.2] at h1
  refine ⟨(128 + Z) / 8, by omega, by omega, fun h0 => ?_⟩
  rw [h0] at h1
  simp at h1

end Go.Proofs.YgcsakGreat
