/-
  Keccak's permutation on lanes.
-/
import Derived.Test.YgcsakGreatKyG
namespace Go.Proofs.YgcsakGreat
set_option linter.unusedVariables false
set_option linter.unusedSimpArgs false
set_option maxRecDepth 100000

/-- the number is reckoned first -/
def fz {α : Type} (x : Nat) (k : Nat → α) : α :=
  match x with
  | 0 => k 0
  | n + 1 => k (n + 1)
theorem fz_eq {α : Type} (x : Nat) (k : Nat → α) : fz x k = k x := by cases x <;> rfl
def rotN (n v : Nat) : Nat := ((v <<< n) ||| ((v % 18446744073709551616) >>> (64 - n))) % 18446744073709551616
theorem rot_bit (n v Z : Nat) (hn : n < 64) (hZ : Z < 64) : (rotN n v).testBit Z = v.testBit ((Z + 64 - n) % 64) := by
  unfold rotN
  rw [show (18446744073709551616 : Nat) = 2 ^ 64 from rfl, Nat.testBit_mod_two_pow, decide_eq_true hZ, Bool.true_and, Nat.testBit_or, Nat.testBit_shiftLeft, Nat.testBit_shiftRight, Nat.testBit_mod_two_pow]
  by_cases h : n ≤ Z
  · rw [decide_eq_true (show Z ≥ n from h), decide_eq_false (show ¬ 64 - n + Z < 64 by omega), show (Z + 64 - n) % 64 = Z - n by omega]
    simp
  · rw [decide_eq_false (show ¬ Z ≥ n from h), decide_eq_true (show 64 - n + Z < 64 by omega), show (Z + 64 - n) % 64 = 64 - n + Z by omega]
    simp
theorem mask_bit (v Z : Nat) (hZ : Z < 64) : (v ^^^ 18446744073709551615).testBit Z = !v.testBit Z := by
  rw [Nat.testBit_xor, show (18446744073709551615 : Nat) = 2 ^ 64 - 1 from rfl, Nat.testBit_two_pow_sub_one, decide_eq_true hZ]
  simp
/-- the lanes of a state -/
abbrev KL := Nat → Nat → Nat
def La (A : KL) (s : KS) : Prop := ∀ P Q Z, P < 5 → Q < 5 → Z < 64 → s P Q Z = (A P Q).testBit Z
def cA (A : KL) (x : Nat) : Nat := A x 0 ^^^ A x 1 ^^^ A x 2 ^^^ A x 3 ^^^ A x 4
def thA (A : KL) : KL := fun P Q => A P Q ^^^ (cA A ((P + 4) % 5) ^^^ rotN 1 (cA A ((P + 1) % 5)))
def rhA (A : KL) : KL := fun P Q => rotN (offN P Q % 64) (A P Q)
def piA (A : KL) : KL := fun P Q => A ((P + 3 * Q) % 5) P
def chA (A : KL) : KL := fun P Q => A P Q ^^^ (A ((P + 2) % 5) Q &&& (A ((P + 1) % 5) Q ^^^ 18446744073709551615))
def ioA (A : KL) (c : Nat) : KL := fun P Q => if P = 0 ∧ Q = 0 then A 0 0 ^^^ c else A P Q
theorem cA_bit {A : KL} {s : KS} (h : La A s) {x Z : Nat} (hx : x < 5) (hZ : Z < 64) : colT s x Z = (cA A x).testBit Z := by
  unfold cA colT
  simp only [colS, Nat.testBit_xor]
  rw [h x 0 Z hx (by omega) hZ, h x 1 Z hx (by omega) hZ, h x 2 Z hx (by omega) hZ, h x 3 Z hx (by omega) hZ, h x 4 Z hx (by omega) hZ]
  simp
theorem La.th {A : KL} {s : KS} (h : La A s) : La (thA A) (thetaS s) := by
  intro P Q Z hP hQ hZ
  unfold thA thetaS thetaD
  simp only [Nat.testBit_xor]
  rw [h P Q Z hP hQ hZ, cA_bit h (by omega) hZ, cA_bit h (by omega) (by omega), rot_bit _ _ _ (by omega) hZ, show (Z + 64 - 1) % 64 = (Z + 63) % 64 by omega]
theorem La.rh {A : KL} {s : KS} (h : La A s) : La (rhA A) (rhoS s) := by
  intro P Q Z hP hQ hZ
  unfold rhA rhoS
  rw [rot_bit _ _ _ (by omega) hZ]
  exact h P Q _ hP hQ (by omega)
theorem La.pi {A : KL} {s : KS} (h : La A s) : La (piA A) (piS s) := fun P Q Z hP hQ hZ => h _ P Z (by omega) hP hZ
theorem La.ch {A : KL} {s : KS} (h : La A s) : La (chA A) (chiS s) := by
  intro P Q Z hP hQ hZ
  unfold chA chiS
  rw [Nat.testBit_xor, Nat.testBit_and, mask_bit _ _ hZ, h P Q Z hP hQ hZ, h ((P + 2) % 5) Q Z (by omega) hQ hZ, h ((P + 1) % 5) Q Z (by omega) hQ hZ]
theorem La.io {A : KL} {s : KS} (h : La A s) (c : Nat) : La (ioA A c) (iotaS s c) := by
  intro P Q Z hP hQ hZ
  unfold ioA iotaS
  by_cases h0 : P = 0 ∧ Q = 0
  · rw [if_pos h0, if_pos h0, Nat.testBit_xor, h 0 0 Z (by omega) (by omega) hZ]
  · rw [if_neg h0, if_neg h0]
    exact h P Q Z hP hQ hZ
def rnA (A : KL) (c : Nat) : KL := ioA (chA (piA (rhA (thA A)))) c
theorem La.rn {A : KL} {s : KS} (h : La A s) (i : Nat) : La (rnA A (rcN i)) (roundS s i) := (h.th.rh.pi.ch).io _
/-- a round on a list of lanes, each reckoned at once -/
def roundE (L : List Nat) (c : Nat) : List Nat :=
  match L with
  | [a0, a1, a2, a3, a4, a5, a6, a7, a8, a9, a10, a11, a12, a13, a14, a15, a16, a17, a18, a19, a20, a21, a22, a23, a24] =>
    fz (a0 ^^^ a5 ^^^ a10 ^^^ a15 ^^^ a20) fun c0 =>
    fz (a1 ^^^ a6 ^^^ a11 ^^^ a16 ^^^ a21) fun c1 =>
    fz (a2 ^^^ a7 ^^^ a12 ^^^ a17 ^^^ a22) fun c2 =>
    fz (a3 ^^^ a8 ^^^ a13 ^^^ a18 ^^^ a23) fun c3 =>
    fz (a4 ^^^ a9 ^^^ a14 ^^^ a19 ^^^ a24) fun c4 =>
    fz (c4 ^^^ rotN 1 c1) fun d0 =>
    fz (c0 ^^^ rotN 1 c2) fun d1 =>
    fz (c1 ^^^ rotN 1 c3) fun d2 =>
    fz (c2 ^^^ rotN 1 c4) fun d3 =>
    fz (c3 ^^^ rotN 1 c0) fun d4 =>
    fz (rotN 0 (a0 ^^^ d0)) fun b0 =>
    fz (rotN 44 (a6 ^^^ d1)) fun b1 =>
    fz (rotN 43 (a12 ^^^ d2)) fun b2 =>
    fz (rotN 21 (a18 ^^^ d3)) fun b3 =>
    fz (rotN 14 (a24 ^^^ d4)) fun b4 =>
    fz (rotN 28 (a3 ^^^ d3)) fun b5 =>
    fz (rotN 20 (a9 ^^^ d4)) fun b6 =>
    fz (rotN 3 (a10 ^^^ d0)) fun b7 =>
    fz (rotN 45 (a16 ^^^ d1)) fun b8 =>
    fz (rotN 61 (a22 ^^^ d2)) fun b9 =>
    fz (rotN 1 (a1 ^^^ d1)) fun b10 =>
    fz (rotN 6 (a7 ^^^ d2)) fun b11 =>
    fz (rotN 25 (a13 ^^^ d3)) fun b12 =>
    fz (rotN 8 (a19 ^^^ d4)) fun b13 =>
    fz (rotN 18 (a20 ^^^ d0)) fun b14 =>
    fz (rotN 27 (a4 ^^^ d4)) fun b15 =>
    fz (rotN 36 (a5 ^^^ d0)) fun b16 =>
    fz (rotN 10 (a11 ^^^ d1)) fun b17 =>
    fz (rotN 15 (a17 ^^^ d2)) fun b18 =>
    fz (rotN 56 (a23 ^^^ d3)) fun b19 =>
    fz (rotN 62 (a2 ^^^ d2)) fun b20 =>
    fz (rotN 55 (a8 ^^^ d3)) fun b21 =>
    fz (rotN 39 (a14 ^^^ d4)) fun b22 =>
    fz (rotN 41 (a15 ^^^ d0)) fun b23 =>
    fz (rotN 2 (a21 ^^^ d1)) fun b24 =>
    fz ((b0 ^^^ (b2 &&& (b1 ^^^ 18446744073709551615))) ^^^ c) fun e0 =>
    fz (b1 ^^^ (b3 &&& (b2 ^^^ 18446744073709551615))) fun e1 =>
    fz (b2 ^^^ (b4 &&& (b3 ^^^ 18446744073709551615))) fun e2 =>
    fz (b3 ^^^ (b0 &&& (b4 ^^^ 18446744073709551615))) fun e3 =>
    fz (b4 ^^^ (b1 &&& (b0 ^^^ 18446744073709551615))) fun e4 =>
    fz (b5 ^^^ (b7 &&& (b6 ^^^ 18446744073709551615))) fun e5 =>
    fz (b6 ^^^ (b8 &&& (b7 ^^^ 18446744073709551615))) fun e6 =>
    fz (b7 ^^^ (b9 &&& (b8 ^^^ 18446744073709551615))) fun e7 =>
    fz (b8 ^^^ (b5 &&& (b9 ^^^ 18446744073709551615))) fun e8 =>
    fz (b9 ^^^ (b6 &&& (b5 ^^^ 18446744073709551615))) fun e9 =>
    fz (b10 ^^^ (b12 &&& (b11 ^^^ 18446744073709551615))) fun e10 =>
    fz (b11 ^^^ (b13 &&& (b12 ^^^ 18446744073709551615))) fun e11 =>
    fz (b12 ^^^ (b14 &&& (b13 ^^^ 18446744073709551615))) fun e12 =>
    fz (b13 ^^^ (b10 &&& (b14 ^^^ 18446744073709551615))) fun e13 =>
    fz (b14 ^^^ (b11 &&& (b10 ^^^ 18446744073709551615))) fun e14 =>
    fz (b15 ^^^ (b17 &&& (b16 ^^^ 18446744073709551615))) fun e15 =>
    fz (b16 ^^^ (b18 &&& (b17 ^^^ 18446744073709551615))) fun e16 =>
    fz (b17 ^^^ (b19 &&& (b18 ^^^ 18446744073709551615))) fun e17 =>
    fz (b18 ^^^ (b15 &&& (b19 ^^^ 18446744073709551615))) fun e18 =>
    fz (b19 ^^^ (b16 &&& (b15 ^^^ 18446744073709551615))) fun e19 =>
    fz (b20 ^^^ (b22 &&& (b21 ^^^ 18446744073709551615))) fun e20 =>
    fz (b21 ^^^ (b23 &&& (b22 ^^^ 18446744073709551615))) fun e21 =>
    fz (b22 ^^^ (b24 &&& (b23 ^^^ 18446744073709551615))) fun e22 =>
    fz (b23 ^^^ (b20 &&& (b24 ^^^ 18446744073709551615))) fun e23 =>
    fz (b24 ^^^ (b21 &&& (b20 ^^^ 18446744073709551615))) fun e24 =>
    [e0, e1, e2, e3, e4, e5, e6, e7, e8, e9, e10, e11, e12, e13, e14, e15, e16, e17, e18, e19, e20, e21, e22, e23, e24]
  | _ => []
def listA (L : List Nat) : KL := fun P Q => L.getD (5 * Q + P) 0
theorem roundE_len {L : List Nat} (h : L.length = 25) (c : Nat) : (roundE L c).length = 25 := by
  match L, h with
  | [a0, a1, a2, a3, a4, a5, a6, a7, a8, a9, a10, a11, a12, a13, a14, a15, a16, a17, a18, a19, a20, a21, a22, a23, a24], _ =>
    simp only [roundE, fz_eq]
    rfl
theorem roundE_at {L : List Nat} (h : L.length = 25) (c P Q : Nat) (hP : P < 5) (hQ : Q < 5) : listA (roundE L c) P Q = rnA (listA L) c P Q := by
  match L, h with
  | [a0, a1, a2, a3, a4, a5, a6, a7, a8, a9, a10, a11, a12, a13, a14, a15, a16, a17, a18, a19, a20, a21, a22, a23, a24], _ =>
    simp only [roundE, fz_eq]
    have hp : P = 0 ∨ P = 1 ∨ P = 2 ∨ P = 3 ∨ P = 4 := by omega
    have hq : Q = 0 ∨ Q = 1 ∨ Q = 2 ∨ Q = 3 ∨ Q = 4 := by omega
    rcases hp with rfl | rfl | rfl | rfl | rfl <;> rcases hq with rfl | rfl | rfl | rfl | rfl <;> rfl
/-- the rounds' constants -/
def rcT : List Nat := [1, 32898, 9223372036854808714, 9223372039002292224, 32907, 2147483649, 9223372039002292353, 9223372036854808585, 138, 136, 2147516425, 2147483658, 2147516555, 9223372036854775947, 9223372036854808713, 9223372036854808579, 9223372036854808578, 9223372036854775936, 32778, 9223372039002259466, 9223372039002292353, 9223372036854808704, 2147483649, 9223372039002292232]
theorem rcT_at : ∀ i, i < 24 → rcT.getD i 0 = rcN i := by decide
def roundsE (L : List Nat) : Nat → List Nat
  | 0 => L
  | n + 1 => roundE (roundsE L n) (rcT.getD n 0)
def permE (L : List Nat) : List Nat := roundsE L 24
theorem La.list {L : List Nat} {s : KS} (hl : L.length = 25) (h : La (listA L) s) : ∀ n, n ≤ 24 → (roundsE L n).length = 25 ∧ La (listA (roundsE L n)) (permS s n)
  | 0, _ => ⟨hl, h⟩
  | n + 1, hn => by
    obtain ⟨h1, h2⟩ := La.list hl h n (by omega)
    refine ⟨roundE_len h1 _, fun P Q Z hP hQ hZ => ?_⟩
    show roundS (permS s n) n P Q Z = (listA (roundE (roundsE L n) (rcT.getD n 0)) P Q).testBit Z
    rw [roundE_at h1 _ P Q hP hQ, rcT_at n (by omega)]
    exact h2.rn n P Q Z hP hQ hZ

end Go.Proofs.YgcsakGreat
