/-
  yp: the small functions.
-/
import Derived.Test.YgcsakGreatArr
namespace Go.Proofs.YgcsakGreat
set_option linter.unusedVariables false
set_option linter.unusedSimpArgs false
set_option maxRecDepth 100000
open Go.RowKit

set_option maxHeartbeats 1000000 in
theorem num_any (x : Nat) (w : World) (hx : x < 256 ^ 8) : Calls Sakg.prog 97 #[.int .u64 x] w (MakesNat w x) := by
  have HC := hide (fromU64_any x w hx)
  go_enter Sakg.func97, Sakg.ntmps97
  go_wp2_with fail
  refine (unhide HC).mono ?_
  rintro e w1 ⟨A, k, c, rfl, hn, hN, hb⟩
  go_wp2
  go_ret
  exact ⟨A, k, c, rfl, hn, hN, hb⟩

set_option maxHeartbeats 1000000 in
theorem less_any (a b : Option Addr) (la lb ca cb m n : Nat) (w : World) (h1 : IsNat w a la ca m) (h2 : IsNat w b lb cb n) (hm : m < BIG) (hn : n < BIG) :
    Calls Sakg.prog 101 #[.slice a la ca, .slice b lb cb] w (MakesNat w (m - n)) := by
  have HC := hide (h1.sub h2 hm hn)
  clear h1 h2 hm hn
  go_enter Sakg.func101, Sakg.ntmps101
  go_wp2_with fail
  refine (unhide HC).mono ?_
  rintro e w1 ⟨A, k, c, rfl, hn, hN, hb⟩
  go_wp2
  go_ret
  exact ⟨A, k, c, rfl, hn, hN, hb⟩

set_option maxHeartbeats 1000000 in
theorem divided_any (a : Option Addr) (la ca m x : Nat) (w : World) (h1 : IsNat w a la ca m) (hm : m < BIG) (hx0 : 0 < x) (hx : x < 256 ^ 8) :
    Calls Sakg.prog 124 #[.slice a la ca, .int .u64 x] w (MakesNat w (m / x)) := by
  have HN := hide (num_any x w hx)
  have H1 := hide h1
  have hx2 : x < BIG := Nat.lt_of_lt_of_le hx (big_pow 8 (by omega))
  have HM := hide hm
  have HX := hide hx2
  clear h1 hm hx2 hx
  go_enter Sakg.func124, Sakg.ntmps124
  go_wp2_with fail
  refine (unhide HN).mono ?_
  rintro e w1 ⟨A, k, c, rfl, hn, hN, hb⟩
  have HD := hide (((unhide H1).kept hb).divmod hn (unhide HM) (unhide HX) hx0)
  clear hn
  go_wp2_with fail
  refine (unhide HD).mono ?_
  rintro e w2 ⟨A2, k2, c2, A3, k3, c3, rfl, hq, hr, hN2, hN3, hb2⟩
  go_wp2
  go_ret
  exact ⟨A2, k2, c2, rfl, hq, hN2.later hb.size, hb.trans (hb2.mono hb.size)⟩

set_option maxHeartbeats 1000000 in
theorem words_any (a : Option Addr) (la ca m : Nat) (w : World) (h1 : IsNat w a la ca m) (hm : m + 31 < BIG) :
    Calls Sakg.prog 191 #[.slice a la ca] w (MakesNat w ((m + 31) / 32)) := by
  have H1 := hide h1
  have HM := hide hm
  clear h1 hm
  go_enter Sakg.func191, Sakg.ntmps191
  go_wp2_with fail
  refine (num_any 31 _ (by omega)).mono ?_
  rintro e w1 ⟨A, k, c, rfl, hn, hN, hb⟩
  go_wp2_with fail
  refine (((unhide H1).kept hb).add hn ?_ ?_).mono ?_
  · have := unhide HM; omega
  · have := unhide HM; omega
  rintro e w2 ⟨A2, k2, c2, rfl, hn2, hN2, hb2⟩
  go_wp2_with fail
  refine (divided_any _ _ _ _ 32 _ hn2 (unhide HM) (by omega) (by omega)).mono ?_
  rintro e w3 ⟨A3, k3, c3, rfl, hn3, hN3, hb3⟩
  go_wp2
  go_ret
  have hb12 := hb.trans (hb2.mono hb.size)
  exact ⟨A3, k3, c3, rfl, hn3, hN3.later hb12.size, hb12.trans (hb3.mono hb12.size)⟩

set_option maxHeartbeats 1000000 in
theorem isZero_any (a : Option Addr) (la ca m : Nat) (w : World) (h1 : IsNat w a la ca m) (hm : m < BIG) :
    Calls Sakg.prog 130 #[.slice a la ca] w fun e w' => e = .returned (.bool (decide (m = 0))) ∧ Quiet w w' := by
  have HC := hide (h1.cmp (IsNat.nil w) hm (Nat.pow_pos (by omega)))
  clear h1 hm
  have hd : (cmpI m 0 == 0) = decide (m = 0) := by
    unfold cmpI
    by_cases h : m = 0
    · subst h; rfl
    · rw [if_neg (by omega), if_neg h, decide_eq_false h]; rfl
  generalize cmpI m 0 = cr at HC hd
  generalize decide (m = 0) = r at hd
  have HD := hide hd
  clear hd
  go_enter Sakg.func130, Sakg.ntmps130
  go_wp2_with fail
  refine (unhide HC).mono ?_
  rintro e w1 ⟨rfl, hq⟩
  go_wp2
  go_ret
  exact ⟨by show Ending.returned (.bool (cr == 0)) = _; rw [unhide HD], hq⟩

set_option maxHeartbeats 1000000 in
theorem minNat_any (a b : Option Addr) (la lb ca cb m n : Nat) (w : World) (h1 : IsNat w a la ca m) (h2 : IsNat w b lb cb n) (hm : m < BIG) (hn : n < BIG) :
    Calls Sakg.prog 123 #[.slice a la ca, .slice b lb cb] w fun e w' => ∃ A k c, e = .returned (.slice A k c) ∧ IsNat w' A k c (min m n) ∧ (A = a ∨ A = b) ∧ Quiet w w' := by
  have HC := hide (h1.cmp h2 hm hn)
  have H1 := hide h1
  have H2 := hide h2
  clear h1 h2 hm hn
  by_cases h : m < n
  · rw [cmpI_lt h] at HC
    have e : min m n = m := by omega
    rw [e]
    clear e
    go_enter Sakg.func123, Sakg.ntmps123
    go_wp2_with fail
    refine (unhide HC).mono ?_
    rintro e w1 ⟨rfl, hq⟩
    go_wp2
    go_ret
    exact ⟨_, _, _, rfl, (unhide H1).kept (hq.below _), .inl rfl, hq⟩
  · have hge : (0 : Int) ≤ cmpI m n := by unfold cmpI; rw [if_neg h]; split <;> omega
    have e : min m n = n := by omega
    rw [e]
    clear e
    have d0 : decide (cmpI m n < 0) = false := decide_eq_false (by omega)
    generalize cmpI m n = cr at HC hge d0
    go_enter Sakg.func123, Sakg.ntmps123
    go_wp2_with fail
    refine (unhide HC).mono ?_
    rintro e w1 ⟨rfl, hq⟩
    go_wp2
    go_ret
    exact ⟨_, _, _, rfl, (unhide H2).kept (hq.below _), .inr rfl, hq⟩

/-- a copy of bytes: nil stays nil -/
def Copies (w : World) (ao : Option Addr) (xs : List Int) (e : Ending) (w' : World) : Prop := ∃ A k, e = .returned (.slice A k k) ∧ Src w' A k k xs ∧ (A = none ↔ ao = none) ∧ New w A ∧ Below w.heap.size w w'

set_option maxHeartbeats 1000000 in
theorem bytesOf_any (ao : Option Addr) (l c : Nat) (xs : List Int) (w : World) (h : Src w ao l c xs) (hm : l ≤ 140737488355328) :
    Calls Sakg.prog 57 #[.slice ao l c] w (Copies w ao xs) := by
  have hn := fun (wx : World) (x : Option Addr) (n c n' c' : Nat) => Lib.run_eql_slice_nil (P := Sakg.prog) wx 30 5 x n c n' c' Sakg.underlying30
  have H := hide h
  clear h
  cases ao with
  | none =>
    go_enter Sakg.func57, Sakg.ntmps57
    go_wp2
    go_ret
    have h0 := (unhide H).nil rfl
    obtain ⟨rfl, rfl⟩ := h0
    exact ⟨none, 0, rfl, unhide H, Iff.rfl, New.nil _, Below.refl _ _⟩
  | some a =>
    go_enter Sakg.func57, Sakg.ntmps57
    go_wp2_with (first
      | (at_make; refine wpList_make_bytes rfl _ _ 30 rfl Sakg.underlying30 _ _ l rfl rfl rfl rfl (by omega) ?_; intro w2 ho2 hb2 hz2)
      | (with_reducible refine at_copy ?_; refine wpList_copy_bytes rfl _ _ _ _ rfl Sakg.underlying30 _ l _ rfl (zeros l) ho2 (zeros_len l) _ _ _ rfl _ ((unhide H).kept hb2) rfl ?_; intro w3 ho3 hb3 hz3))
    go_ret
    have hl := (unhide H).len_eq
    exact ⟨_, l, rfl, ho3.src_all (unhide H).byt l hl.symm (by unfold maxLen; omega), by simp, New.at _ _ _ (Nat.le_refl _), hb2.trans (hb3 _ (Nat.le_refl _))⟩

set_option maxHeartbeats 1000000 in
theorem natOf_any (a : Option Addr) (la ca m : Nat) (w : World) (h1 : IsNat w a la ca m) (hm : m < BIG) :
    Calls Sakg.prog 294 #[.slice a la ca] w (MakesNat w m) := by
  have hk := h1.len 200 hm
  obtain ⟨xs, s, hn, hv, h0⟩ := h1
  have HC := hide (bytesOf_any a la ca xs w s (by omega))
  have HNX := hide hn
  have HV := hide hv
  have HL := hide s.len_eq
  have H0 := hide h0
  clear s hn hv h0
  go_enter Sakg.func294, Sakg.ntmps294
  go_wp2_with fail
  refine (unhide HC).mono ?_
  rintro e w1 ⟨A, k, rfl, hs, hA, hN, hb⟩
  go_wp2
  go_ret
  refine ⟨A, k, k, rfl, ⟨xs, hs, unhide HNX, unhide HV, fun hk0 => ?_⟩, hN, hb⟩
  have h3 := hs.len_eq
  have h4 := unhide HL
  exact hA.2 (unhide H0 (by omega))

end Go.Proofs.YgcsakGreat
