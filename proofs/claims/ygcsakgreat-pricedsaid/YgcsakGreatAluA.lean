/-
  yp: the small functions of Alu.
-/
import Derived.Test.YgcsakGreatNatI
namespace Go.Proofs.YgcsakGreat
set_option linter.unusedVariables false
set_option linter.unusedSimpArgs false
set_option maxRecDepth 100000
open Go.RowKit

theorem val_take (xs : List Int) (K : Nat) (hb : Byt xs) (hK : K ≤ xs.length) : val (xs.take K) = val xs % 256 ^ K := by
  have e : val xs = val (xs.take K) + 256 ^ K * val (xs.drop K) := by
    conv => lhs; rw [← List.take_append_drop K xs]
    rw [val_append, List.length_take, Nat.min_eq_left hK]
  have hl : val (xs.take K) < 256 ^ K := by
    have := val_lt (xs.take K) (hb.take K)
    rwa [List.length_take, Nat.min_eq_left hK] at this
  rw [e, Nat.add_mul_mod_self_left, Nat.mod_eq_of_lt hl]

set_option maxHeartbeats 1000000 in
theorem wrapped_any (a : Option Addr) (la ca m : Nat) (w : World) (h : IsNat w a la ca m) (hm : m < BIG) :
    Calls Sakg.prog 58 #[.slice a la ca] w (MakesNat w (m % 256 ^ 32)) := by
  have hl := h.len 200 hm
  obtain ⟨xs, h1, h2, h3, h4⟩ := h
  have hlen := h1.len_eq
  have hle := h1.le
  by_cases h32 : la ≤ 32
  · have hmin : min (la : Int) 32 = (la : Int) := by omega
    have hval : m % 256 ^ 32 = m := by
      rw [← h3]
      refine Nat.mod_eq_of_lt (Nat.lt_of_lt_of_le (val_lt xs h1.byt) (Nat.pow_le_pow_right (by omega) (by omega)))
    have HC := hide (norm_nat a la ca xs w h1 (by omega))
    rw [h3] at HC
    have HV := hide hval
    clear h1 h2 h3 h4 hval
    go_enter Sakg.func58, Sakg.ntmps58
    go_wp2_with fail
    refine (unhide HC).mono ?_
    rintro e w1 ⟨A, k, c, rfl, hn, hN, hb⟩
    go_wp2
    go_ret
    rw [unhide HV]
    exact ⟨A, k, c, rfl, hn, hN, hb⟩
  · have hmin : min (la : Int) 32 = 32 := by omega
    have hs : Src w a 32 ca (xs.take 32) := by
      obtain ⟨b, off, rfl, hc⟩ := h1.at_ (by omega)
      refine ⟨by simp; omega, by omega, h1.max, h1.byt.take 32, (fun h => by cases h), fun _ => ⟨b, off, rfl, fun i hi => ?_⟩⟩
      rw [hc i (by omega), List.getD_eq_getElem?_getD, List.getD_eq_getElem?_getD, List.getElem?_take, if_pos hi]
    have HC := hide (norm_nat a 32 ca (xs.take 32) w hs (by omega))
    rw [val_take xs 32 h1.byt (by omega), h3] at HC
    obtain ⟨b, off, rfl, hc⟩ := h1.at_ (by omega)
    clear h1 h2 h3 h4 hs hc
    go_enter Sakg.func58, Sakg.ntmps58
    go_wp2_with fail
    refine (unhide HC).mono ?_
    rintro e w1 ⟨A, k, c, rfl, hn, hN, hb⟩
    go_wp2
    go_ret
    exact ⟨A, k, c, rfl, hn, hN, hb⟩

def P256 : Nat := 256 ^ 32
theorem p256_big : P256 ≤ BIG := big_pow 32 (by omega)
def negN (m : Nat) : Nat := (P256 - m) % P256
theorem two256 : (2 : Nat) ^ 256 = P256 := by unfold P256; rw [show (256 : Nat) = 2 ^ 8 from rfl, ← Nat.pow_mul]

set_option maxHeartbeats 1000000 in
theorem negated_any (a : Option Addr) (la ca m : Nat) (w : World) (h : IsNat w a la ca m) (hm : m < BIG) :
    Calls Sakg.prog 60 #[.slice a la ca] w (MakesNat w (negN m)) := by
  have H := hide h
  have HP := hide (pow2_any 256 w (by omega))
  rw [two256] at HP
  have hB : P256 < BIG := by unfold P256; exact Nat.lt_of_lt_of_le (Nat.pow_lt_pow_right (by omega) (show 32 < 33 by omega)) (big_pow 33 (by omega))
  clear h
  go_enter Sakg.func60, Sakg.ntmps60
  go_wp2_with fail
  refine (unhide HP).mono ?_
  rintro e w1 ⟨A, k, c, rfl, hn, hN, hb⟩
  have HS := hide (hn.sub ((unhide H).kept hb) hB hm)
  clear hn
  go_wp2_with fail
  refine (unhide HS).mono ?_
  rintro e w2 ⟨A2, k2, c2, rfl, hn2, hN2, hb2⟩
  have HW := hide (wrapped_any A2 k2 c2 _ w2 hn2 (Nat.lt_of_le_of_lt (Nat.sub_le _ _) hB))
  clear hn2
  go_wp2_with fail
  refine (unhide HW).mono ?_
  rintro e w3 ⟨A3, k3, c3, rfl, hn3, hN3, hb3⟩
  have HN3 := hide hn3
  clear hn3
  go_wp2
  go_ret
  have b12 := hb.trans (hb2.mono hb.size)
  exact ⟨A3, k3, c3, rfl, unhide HN3, hN3.later b12.size, b12.trans (hb3.mono b12.size)⟩

def negB (m : Nat) : Bool := bitB m 255
set_option maxHeartbeats 1000000 in
theorem isNegative_any (a : Option Addr) (la ca m : Nat) (w : World) (h : IsNat w a la ca m) (hm : m < BIG) :
    Calls Sakg.prog 64 #[.slice a la ca] w fun e w' => e = .returned (.bool (negB m)) ∧ w = w' := by
  have HC := hide (natBit_any a la ca m 255 w h hm (by omega))
  clear h
  go_enter Sakg.func64, Sakg.ntmps64
  go_wp2_with fail
  refine (unhide HC).mono ?_
  rintro e w1 ⟨rfl, rfl⟩
  go_wp2
  go_ret
  exact ⟨rfl, rfl⟩

def signN (m : Nat) (b : Bool) : Nat := if b then negN m else m
set_option maxHeartbeats 1000000 in
theorem withSign_any (a : Option Addr) (la ca m : Nat) (b : Bool) (w : World) (h : IsNat w a la ca m) (hm : m < BIG) :
    Calls Sakg.prog 63 #[.slice a la ca, .bool b] w (MakesNat w (signN m b)) := by
  cases b with
  | true =>
    have HC := hide (negated_any a la ca m w h hm)
    clear h
    go_enter Sakg.func63, Sakg.ntmps63
    go_wp2_with fail
    refine (unhide HC).mono ?_
    rintro e w1 ⟨A, k, c, rfl, hn, hN, hb⟩
    have HN := hide hn
    clear hn
    go_wp2
    go_ret
    exact ⟨A, k, c, rfl, unhide HN, hN, hb⟩
  | false =>
    have hl := h.len 200 hm
    obtain ⟨xs, h1, h2, h3, h4⟩ := h
    have HC := hide (norm_nat a la ca xs w h1 (by omega))
    rw [h3] at HC
    clear h1 h2 h3 h4
    go_enter Sakg.func63, Sakg.ntmps63
    go_wp2_with fail
    refine (unhide HC).mono ?_
    rintro e w1 ⟨A, k, c, rfl, hn, hN, hb⟩
    have HN := hide hn
    clear hn
    go_wp2
    go_ret
    exact ⟨A, k, c, rfl, unhide HN, hN, hb⟩

def magN (m : Nat) : Nat := signN m (negB m)
set_option maxHeartbeats 1000000 in
theorem magnitude_any (a : Option Addr) (la ca m : Nat) (w : World) (h : IsNat w a la ca m) (hm : m < BIG) :
    Calls Sakg.prog 62 #[.slice a la ca] w (MakesNat w (magN m)) := by
  have HC := hide (isNegative_any a la ca m w h hm)
  have HS := hide (withSign_any a la ca m (negB m) w h hm)
  clear h
  go_enter Sakg.func62, Sakg.ntmps62
  go_wp2_with fail
  refine (unhide HC).mono ?_
  rintro e w1 ⟨rfl, rfl⟩
  go_wp2_with fail
  refine (unhide HS).mono ?_
  rintro e w1 ⟨A, k, c, rfl, hn, hN, hb⟩
  have HN := hide hn
  clear hn
  go_wp2
  go_ret
  exact ⟨A, k, c, rfl, unhide HN, hN, hb⟩

def sltB (m n : Nat) : Bool := if negB m = negB n then decide (m < n) else negB m
set_option maxHeartbeats 1000000 in
theorem signedBelow_any (a b : Option Addr) (la ca lb cb m n : Nat) (w : World) (h1 : IsNat w a la ca m) (h2 : IsNat w b lb cb n) (hm : m < BIG) (hn : n < BIG) :
    Calls Sakg.prog 69 #[.slice a la ca, .slice b lb cb] w fun e w' => e = .returned (.bool (sltB m n)) ∧ Below w.heap.size w w' := by
  have HA := hide (isNegative_any a la ca m w h1 hm)
  have HB := hide (isNegative_any b lb cb n w h2 hn)
  have HC := hide (h1.cmp h2 hm hn)
  have hcm : decide (cmpI m n < 0) = decide (m < n) := by
    unfold cmpI
    by_cases h : m < n
    · rw [if_pos h, decide_eq_true h]; rfl
    · rw [if_neg h, decide_eq_false h]; split <;> rfl
  have hs : sltB m n = if negB m = negB n then decide (m < n) else negB m := rfl
  generalize hsl : sltB m n = sb at hs
  have HS := hide hs
  generalize negB m = nm at HA HS
  generalize negB n = nn at HB HS
  clear h1 h2 hs hsl
  generalize decide (m < n) = lt at hcm HS
  generalize cmpI m n = ci at HC hcm
  go_enter Sakg.func69, Sakg.ntmps69
  cases nm with
  | true =>
    cases nn with
    | true =>
      go_wp2_with (first
        | (refine (unhide HA).mono ?_; rintro e w1 ⟨rfl, rfl⟩)
        | (refine (unhide HB).mono ?_; rintro e w1 ⟨rfl, rfl⟩)
        | (refine (unhide HC).mono ?_; rintro e w1 ⟨rfl, q1⟩))
      go_ret
      exact ⟨by rw [unhide HS]; rfl, q1.below _⟩
    | false =>
      go_wp2_with (first
        | (refine (unhide HA).mono ?_; rintro e w1 ⟨rfl, rfl⟩)
        | (refine (unhide HB).mono ?_; rintro e w1 ⟨rfl, rfl⟩)
        | (refine (unhide HC).mono ?_; rintro e w1 ⟨rfl, q1⟩))
      go_ret
      exact ⟨by rw [unhide HS]; rfl, Below.refl _ _⟩
  | false =>
    cases nn with
    | true =>
      go_wp2_with (first
        | (refine (unhide HA).mono ?_; rintro e w1 ⟨rfl, rfl⟩)
        | (refine (unhide HB).mono ?_; rintro e w1 ⟨rfl, rfl⟩)
        | (refine (unhide HC).mono ?_; rintro e w1 ⟨rfl, q1⟩))
      go_ret
      exact ⟨by rw [unhide HS]; rfl, Below.refl _ _⟩
    | false =>
      go_wp2_with (first
        | (refine (unhide HA).mono ?_; rintro e w1 ⟨rfl, rfl⟩)
        | (refine (unhide HB).mono ?_; rintro e w1 ⟨rfl, rfl⟩)
        | (refine (unhide HC).mono ?_; rintro e w1 ⟨rfl, q1⟩))
      go_ret
      exact ⟨by rw [unhide HS]; rfl, q1.below _⟩

end Go.Proofs.YgcsakGreat
