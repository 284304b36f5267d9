/-
  nat.Cmp.
-/
import Derived.Test.YgcsakGreatNatC
namespace Go.Proofs.YgcsakGreat
set_option linter.unusedVariables false
set_option linter.unusedSimpArgs false
set_option maxRecDepth 100000
open Go.RowKit

/-- the bound of all numbers that are met -/
def BIG : Nat := 256 ^ 200
theorem big_pow (k : Nat) (h : k ≤ 200) : 256 ^ k ≤ BIG := Nat.pow_le_pow_right (by omega) h
theorem big_two (k m : Nat) (h : k ≤ 8 * m) (hm : m ≤ 200) : 2 ^ k ≤ BIG := by
  refine Nat.le_trans ?_ (big_pow m hm)
  rw [show (256 : Nat) = 2 ^ 8 from rfl, ← Nat.pow_mul]
  exact Nat.pow_le_pow_right (by omega) h

def cmpI (a b : Nat) : Int := if a < b then -1 else if a = b then 0 else 1

/-- nothing but draws -/
def Quiet (w w' : World) : Prop := ∃ n, w' = w.drewN n
theorem Quiet.below {w w' : World} (h : Quiet w w') (B : Nat) : Below B w w' := by
  obtain ⟨n, rfl⟩ := h
  exact ⟨rfl, rfl, rfl, Nat.le_refl _, fun _ _ => rfl⟩
theorem Quiet.refl (w : World) : Quiet w w := ⟨0, rfl⟩
theorem Quiet.trans {a b c : World} (h : Quiet a b) (k : Quiet b c) : Quiet a c := by
  obtain ⟨n, rfl⟩ := h
  obtain ⟨m, rfl⟩ := k
  exact ⟨n + m, by simp⟩
theorem Quiet.size {w w' : World} (h : Quiet w w') : w'.heap.size = w.heap.size := by obtain ⟨n, rfl⟩ := h; rfl

theorem val_split (xs : List Int) (j : Nat) (h : j < xs.length) : val xs = val (xs.take j) + 256 ^ j * ((xs.getD j 0).toNat + 256 * val (xs.drop (j + 1))) := by
  conv => lhs; rw [← List.take_append_drop j xs, val_append, drop_cons xs j h]
  have : (xs.take j).length = j := by simp; omega
  rw [this]
  rfl

theorem val_lt_at (xs ys : List Int) (j : Nat) (hx : Byt xs) (hy : Byt ys) (h1 : j < xs.length) (h2 : j < ys.length) (hd : xs.drop (j + 1) = ys.drop (j + 1)) (h : xs.getD j 0 < ys.getD j 0) : val xs < val ys := by
  rw [val_split xs j h1, val_split ys j h2, hd]
  have h3 := val_lt (xs.take j) (hx.take j)
  have h4 : (xs.take j).length = j := by simp; omega
  rw [h4] at h3
  have h5 := hx.get j
  have h6 := hy.get j
  obtain ⟨q, hq⟩ : ∃ q, (ys.getD j 0).toNat = (xs.getD j 0).toNat + 1 + q := ⟨(ys.getD j 0).toNat - (xs.getD j 0).toNat - 1, by omega⟩
  rw [hq]
  generalize 256 ^ j = P at *
  generalize val (ys.drop (j + 1)) = V
  generalize (xs.getD j 0).toNat = X
  have e : P * (X + 1 + q + 256 * V) = P * (X + 256 * V) + P + P * q := by
    simp only [Nat.mul_add, Nat.mul_one]
    omega
  omega

theorem val_lt_len (xs ys : List Int) (hx : Byt xs) (hy : Byt ys) (ny : Nrm ys) (h : xs.length < ys.length) : val xs < val ys := by
  have h1 := val_lt xs hx
  have hne : ys ≠ [] := by intro h0; subst h0; simp at h
  have h2 := val_pos ys hy hne ny
  have h3 : 256 ^ xs.length ≤ 256 ^ (ys.length - 1) := Nat.pow_le_pow_right (by omega) (by omega)
  omega

theorem cmpI_lt {a b : Nat} (h : a < b) : cmpI a b = -1 := by unfold cmpI; rw [if_pos h]
theorem cmpI_gt {a b : Nat} (h : b < a) : cmpI a b = 1 := by unfold cmpI; rw [if_neg (by omega), if_neg (by omega)]
theorem cmpI_eq {a b : Nat} (h : a = b) : cmpI a b = 0 := by unfold cmpI; rw [if_neg (by omega), if_pos h]

theorem ret_i8 {a b : Int} (h : a = b) : Ending.returned (.int .i8 a) = .returned (.int .i8 b) := by rw [h]

set_option maxHeartbeats 2000000 in
theorem cmp_any (a b : Option Addr) (la lb ca cb : Nat) (xs ys : List Int) (w : World) (h1 : Src w a la ca xs) (h2 : Src w b lb cb ys) (hm : la ≤ 140737488355328) (hm2 : lb ≤ 140737488355328) :
    Calls Sakg.prog 68 #[.slice a la ca, .slice b lb cb] w fun e w' => e = .returned (.int .i8 (cmpI (val xs) (val ys))) ∧ Quiet w w' := by
  have H1 := hide h1
  have H2 := hide h2
  have e1 := val_trimL xs
  have e2 := val_trimL ys
  have b1 := trimL_byt h1.byt
  have b2 := trimL_byt h2.byt
  have n1 : Nrm (trimL xs) := trimL_idem xs
  have n2 : Nrm (trimL ys) := trimL_idem ys
  rw [← e1, ← e2]
  have HC1 := hide (trim_any a la ca xs w h1 hm)
  have HC2 := hide (trim_any b lb cb ys w h2 hm2)
  clear h1 h2 e1 e2 H1 H2
  generalize trimL xs = us at *
  generalize trimL ys = vs at *
  have HB1 := hide b1
  have HB2 := hide b2
  have HN1 := hide n1
  have HN2 := hide n2
  clear b1 b2 n1 n2
  go_enter Sakg.func68, Sakg.ntmps68
  go_wp2_with fail
  refine (unhide HC1).mono ?_
  rintro e w1 ⟨⟨k1, rfl, s1⟩, rfl⟩
  go_wp2_with fail
  refine (unhide HC2).mono ?_
  rintro e w1 ⟨⟨k2, rfl, s2⟩, rfl⟩
  have l1 := s1.len_eq
  have l2 := s2.len_eq
  have m1 := s1.max
  have m2 := s2.max
  unfold maxLen at m1 m2
  have S1 := hide s1
  have S2 := hide s2
  have L1 := hide l1
  have L2 := hide l2
  clear HC1 HC2
  by_cases hlt : k1 < k2
  · have hv := cmpI_lt (val_lt_len us vs (unhide HB1) (unhide HB2) (unhide HN2) (by omega))
    have HV := hide hv
    clear s1 s2 l1 l2 hv
    go_wp2
    go_ret
    exact ⟨ret_i8 (unhide HV).symm, Quiet.refl _⟩
  by_cases hgt : k2 < k1
  · have hv := cmpI_gt (val_lt_len vs us (unhide HB2) (unhide HB1) (unhide HN1) (by omega))
    have HV := hide hv
    clear s1 s2 l1 l2 hv
    go_wp2
    go_ret
    exact ⟨ret_i8 (unhide HV).symm, Quiet.refl _⟩
  obtain rfl : k1 = k2 := by omega
  have d1 : decide ((k1 : Int) < (k1 : Int)) = false := decide_eq_false (by omega)
  clear s1 s2 l1 l2
  go_wp2_with fail
  go_loopw [5] (fun i wr => ∃ j : Nat, j ≤ k1 ∧ i = .int .i64 j ∧ us.drop j = vs.drop j ∧ Quiet w wr) (fun i _ => (intOf i).toNat)
  case atStart => exact ⟨k1, Nat.le_refl _, rfl, by rw [List.drop_eq_nil_of_le (by have := unhide L1; omega), List.drop_eq_nil_of_le (by have := unhide L2; omega)], Quiet.refl _⟩
  case round =>
    obtain ⟨j, hj, rfl, hd, n, rfl⟩ := hrel
    have HD := hide hd
    clear hd
    by_cases hj0 : 0 < j
    · obtain ⟨i, rfl⟩ : ∃ i, j = i + 1 := ⟨j - 1, by omega⟩
      obtain ⟨p1, o1, rfl, c1⟩ := (unhide S1).at_ (by omega)
      obtain ⟨p2, o2, rfl, c2⟩ := (unhide S2).at_ (by omega)
      have x1 := c1 i (by omega)
      have x2 := c2 i (by omega)
      have hA := val_lt_at us vs i (unhide HB1) (unhide HB2) (by have := unhide L1; omega) (by have := unhide L2; omega) (unhide HD)
      have hB := val_lt_at vs us i (unhide HB2) (unhide HB1) (by have := unhide L2; omega) (by have := unhide L1; omega) (unhide HD).symm
      have hE1 := drop_cons us i (by have := unhide L1; omega)
      have hE2 := drop_cons vs i (by have := unhide L2; omega)
      obtain ⟨x, hx⟩ : ∃ x, x = us.getD i 0 := ⟨_, rfl⟩
      obtain ⟨y, hy⟩ : ∃ y, y = vs.getD i 0 := ⟨_, rfl⟩
      rw [← hx] at x1 hA hB hE1
      rw [← hy] at x2 hA hB hE2
      clear c1 c2 hx hy
      by_cases h3 : x < y
      · have HV := hide (cmpI_lt (hA h3))
        clear hA hB hE1 hE2
        go_wp2_with fail
        go_quiet (fail)
        go_wp2
        go_ret
        exact ⟨ret_i8 (unhide HV).symm, Quiet.trans ⟨n, rfl⟩ ⟨_, rfl⟩⟩
      by_cases h4 : y < x
      · have HV := hide (cmpI_gt (hB h4))
        clear hA hB hE1 hE2
        go_wp2_with fail
        go_quiet (fail)
        go_wp2_with fail
        go_quiet (fail)
        go_wp2
        go_ret
        exact ⟨ret_i8 (unhide HV).symm, Quiet.trans ⟨n, rfl⟩ (Quiet.trans ⟨_, rfl⟩ ⟨_, rfl⟩)⟩
      obtain rfl : x = y := by omega
      have hE : us.drop i = vs.drop i := by rw [hE1, hE2, unhide HD]
      have HE := hide hE
      clear hA hB hE1 hE2 hE h4
      go_wp2_with fail
      go_quiet (fail)
      go_wp2_with fail
      go_quiet (fail)
      go_wp2
      go_roundw
      case rel => exact ⟨i, by omega, by go_num, unhide HE, ⟨_, rfl⟩⟩
      case measure => simp [intOf]
    · obtain rfl : j = 0 := by omega
      have hE : us = vs := by simpa using unhide HD
      have HV := hide (cmpI_eq (congrArg val hE))
      clear hE
      go_wp2
      go_ret
      exact ⟨ret_i8 (unhide HV).symm, ⟨_, rfl⟩⟩

theorem IsNat.cmp {w : World} {a b : Option Addr} {la lb ca cb m n : Nat} (h1 : IsNat w a la ca m) (h2 : IsNat w b lb cb n) (hm : m < BIG) (hn : n < BIG) :
    Calls Sakg.prog 68 #[.slice a la ca, .slice b lb cb] w fun e w' => e = .returned (.int .i8 (cmpI m n)) ∧ Quiet w w' := by
  have := h1.len 200 hm
  have := h2.len 200 hn
  obtain ⟨xs, s1, _, e1, _⟩ := h1
  obtain ⟨ys, s2, _, e2, _⟩ := h2
  rw [← e1, ← e2]
  exact cmp_any a b la lb ca cb xs ys w s1 s2 (by omega) (by omega)

end Go.Proofs.YgcsakGreat
