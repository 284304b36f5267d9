/-
  Plain mathematics for rlp: no Go in sight.
-/
namespace Go.Proofs.Ygcsak
set_option linter.unusedVariables false
set_option linter.unusedSimpArgs false

/-- the number of bytes of n without zeros ahead (with fuel) -/
def lbF : Nat → Nat → Nat
  | 0, _ => 0
  | f + 1, n => if n = 0 then 0 else lbF f (n / 256) + 1

/-- the k lowest bytes of n, the most significant first -/
def be : Nat → Nat → List Int
  | 0, _ => []
  | k + 1, n => ((n / 256 ^ k % 256 : Nat) : Int) :: be k n

def headB (n short : Nat) : List Int :=
  if n < 56 then [((short + n : Nat) : Int)] else ((short + 55 + lbF 8 n : Nat) : Int) :: be (lbF 8 n) n

theorem be_len : ∀ k n, (be k n).length = k
  | 0, _ => rfl
  | k + 1, n => by simp [be, be_len k n]

theorem lbF_le : ∀ f n, lbF f n ≤ f
  | 0, _ => Nat.le_refl _
  | f + 1, n => by
    unfold lbF
    split
    · omega
    · have := lbF_le f (n / 256); omega

theorem lbF_lt : ∀ f n, n < 256 ^ f → n < 256 ^ lbF f n
  | 0, n, h => by simpa [lbF] using h
  | f + 1, n, h => by
    unfold lbF
    split
    · rename_i h0; subst h0; exact Nat.pow_pos (by omega)
    · have h1 : n / 256 < 256 ^ f := by rw [Nat.pow_succ] at h; exact Nat.div_lt_of_lt_mul (by omega)
      have := lbF_lt f (n / 256) h1
      rw [Nat.pow_succ]
      omega

theorem lbF_ge : ∀ f n, n ≠ 0 → n < 256 ^ f → 256 ^ (lbF f n - 1) ≤ n
  | 0, n, h0, h => by simp at h; omega
  | f + 1, n, h0, h => by
    unfold lbF
    rw [if_neg h0]
    have h1 : n / 256 < 256 ^ f := by rw [Nat.pow_succ] at h; exact Nat.div_lt_of_lt_mul (by omega)
    by_cases hz : n / 256 = 0
    · have : lbF f (n / 256) = 0 := by
        rw [hz]
        cases f with
        | zero => rfl
        | succ f => simp [lbF]
      rw [this]
      simp
      omega
    · have h2 := lbF_ge f (n / 256) hz h1
      have h3 : lbF f (n / 256) ≠ 0 := by
        intro h4
        have := lbF_lt f (n / 256) h1
        rw [h4] at this
        simp at this
        omega
      have h5 : lbF f (n / 256) + 1 - 1 = (lbF f (n / 256) - 1) + 1 := by omega
      rw [h5, Nat.pow_succ]
      omega

/-- the length is told by its bounds -/
theorem lbF_eq (f n k : Nat) (hk : k ≠ 0) (h0 : 256 ^ (k - 1) ≤ n) (h1 : n < 256 ^ k) (h2 : n < 256 ^ f) : lbF f n = k := by
  have hn : n ≠ 0 := by have := Nat.pow_pos (n := k - 1) (show 0 < 256 by omega); omega
  have a := lbF_lt f n h2
  have b := lbF_ge f n hn h2
  rcases Nat.lt_trichotomy (lbF f n) k with h | h | h
  · exfalso
    have : 256 ^ lbF f n ≤ 256 ^ (k - 1) := Nat.pow_le_pow_right (by omega) (by omega)
    omega
  · exact h
  · exfalso
    have : 256 ^ k ≤ 256 ^ (lbF f n - 1) := Nat.pow_le_pow_right (by omega) (by omega)
    omega

/-- what the bytes of a number read as -/
def rd : List Int → Nat → Nat
  | [], s => s
  | c :: l, s => rd l (s * 256 + c.toNat)

theorem rd_be : ∀ k n s, rd (be k n) s = s * 256 ^ k + n % 256 ^ k
  | 0, n, s => by simp [be, rd, Nat.mod_one]
  | k + 1, n, s => by
    simp only [be, rd, Int.toNat_natCast]
    rw [rd_be k n]
    have h1 : n % 256 ^ (k + 1) = n % 256 ^ k + 256 ^ k * (n / 256 ^ k % 256) := by rw [Nat.pow_succ, Nat.mod_mul]
    rw [h1, Nat.pow_succ, Nat.add_mul, Nat.mul_assoc, Nat.mul_comm 256 (256 ^ k), Nat.mul_comm (n / 256 ^ k % 256)]
    omega

theorem rd_lt : ∀ (l : List Int) (s m : Nat), (∀ x ∈ l, 0 ≤ x ∧ x ≤ 255) → s < m → rd l s < m * 256 ^ l.length
  | [], s, m, _, h => by simpa [rd] using h
  | c :: l, s, m, hb, h => by
    simp only [rd, List.length_cons]
    have hc := hb c (by simp)
    have := rd_lt l (s * 256 + c.toNat) (m * 256) (fun x hx => hb x (by simp [hx])) (by omega)
    rw [Nat.pow_succ, Nat.mul_comm (256 ^ l.length) 256, ← Nat.mul_assoc]
    exact this

theorem rd_ge : ∀ (l : List Int) (s m : Nat), m ≤ s → m * 256 ^ l.length ≤ rd l s
  | [], s, m, h => by simpa [rd] using h
  | c :: l, s, m, h => by
    simp only [rd, List.length_cons]
    have := rd_ge l (s * 256 + c.toNat) (m * 256) (by omega)
    rw [Nat.pow_succ, Nat.mul_comm (256 ^ l.length) 256, ← Nat.mul_assoc]
    exact this

theorem rd_append : ∀ (a b : List Int) (s : Nat), rd (a ++ b) s = rd b (rd a s)
  | [], _, _ => rfl
  | c :: a, b, s => by simp only [List.cons_append, rd]; exact rd_append a b _

/-- bytes that read as a number are that number's bytes -/
theorem be_rd : ∀ (l : List Int) (s : Nat), (∀ x ∈ l, 0 ≤ x ∧ x ≤ 255) → be l.length (rd l s) = l
  | [], _, _ => rfl
  | c :: l, s, hb => by
    have hc := hb c (by simp)
    have hl : ∀ x ∈ l, 0 ≤ x ∧ x ≤ 255 := fun x hx => hb x (by simp [hx])
    simp only [rd, List.length_cons, be]
    have ih := be_rd l (s * 256 + c.toNat) hl
    rw [ih]
    have h1 := rd_lt l (s * 256 + c.toNat) (s * 256 + c.toNat + 1) hl (by omega)
    have h2 := rd_ge l (s * 256 + c.toNat) (s * 256 + c.toNat) (Nat.le_refl _)
    have h3 : rd l (s * 256 + c.toNat) / 256 ^ l.length = s * 256 + c.toNat := by
      apply Nat.div_eq_of_lt_le
      · exact h2
      · exact h1
    rw [h3]
    congr 1
    omega

theorem be_byte : ∀ k n, ∀ x ∈ be k n, 0 ≤ x ∧ x ≤ 255
  | 0, _, x, h => by simp [be] at h
  | k + 1, n, x, h => by
    simp only [be, List.mem_cons] at h
    rcases h with rfl | h
    · omega
    · exact be_byte k n x h

end Go.Proofs.Ygcsak
