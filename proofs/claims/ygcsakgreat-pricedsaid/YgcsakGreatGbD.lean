/-
  yp, for GasBounds: bits, ModExp.
-/
import Derived.Test.YgcsakGreatGbC
namespace Go.Proofs.YgcsakGreat
set_option linter.unusedVariables false
set_option linter.unusedSimpArgs false
set_option maxRecDepth 100000
open Go.RowKit

set_option maxHeartbeats 2000000 in
theorem natBit_wide (a : Option Addr) (la ca m i : Nat) (w : World) (h : IsNat w a la ca m) (hm : m < BIG) (hi : i ≤ 2000) :
    Calls Sakg.prog 134 #[.slice a la ca, .int .u16 i] w fun e w' => e = .returned (.bool (bitB m i)) ∧ w = w' := by
  obtain ⟨q, hqe⟩ : ∃ q, q = i / 8 := ⟨_, rfl⟩
  obtain ⟨r, hre⟩ : ∃ r, r = i % 8 := ⟨_, rfl⟩
  have e1 : (i : Int) / 8 = (q : Int) := by omega
  have e2 : (i : Int) % 8 = (r : Int) := by omega
  have hr8 : r < 8 := by omega
  have hq40 : q ≤ 250 := by omega
  have hbit : bitB m i = decide (m / 256 ^ q % 256 / 2 ^ r % 2 = 1) := by unfold bitB; rw [← hqe, ← hre]
  have hl200 := h.len 200 hm
  by_cases hql : q < la
  · obtain ⟨xs, h1, h2, h3, h4⟩ := h
    obtain ⟨b, off, rfl, hcs⟩ := h1.at_ (by omega)
    have hcq := hcs q hql
    have hd := dig_at xs q h1.byt (by rw [h1.len_eq]; exact hql)
    have hxb := h1.byt (xs.getD q 0) (by rw [List.getD_eq_getElem?_getD, List.getElem?_eq_getElem (by rw [h1.len_eq]; exact hql)]; simp)
    obtain ⟨x, hx⟩ : ∃ x : Nat, (x : Int) = xs.getD q 0 := ⟨(xs.getD q 0).toNat, by omega⟩
    rw [← hx] at hcq hd hxb
    rw [h3, Int.toNat_natCast] at hd
    rw [hd] at hbit
    have ha := and_bit x r (by omega)
    have HB := hide hbit
    have t0 : decide ((q : Int) < (la : Int)) = true := decide_eq_true (by omega)
    clear hcs hd hx hqe hre h1 h2 h3 hbit
    go_enter Sakg.func134, Sakg.ntmps134
    go_wp2_with fail
    go_ret
    have e3 : ((x : Int) / 2 ^ r % 2 == 1) = decide (x / 2 ^ r % 2 = 1) := by
      have e4 : (x : Int) / 2 ^ r % 2 = ((x / 2 ^ r % 2 : Nat) : Int) := by simp
      rw [e4]
      rcases Nat.mod_two_eq_zero_or_one (x / 2 ^ r) with h | h <;> simp [h]
    rw [unhide HB, ← e3]
    exact ⟨rfl, rfl⟩
  · have hlt : m < 256 ^ q := by
      obtain ⟨xs, h1, h2, rfl, h4⟩ := h
      refine Nat.lt_of_lt_of_le (val_lt xs h1.byt) (Nat.pow_le_pow_right (by omega) ?_)
      rw [h1.len_eq]; omega
    have hbf : bitB m i = false := by
      rw [hbit, Nat.div_eq_of_lt hlt]
      simp
    have t0 : decide ((q : Int) < (la : Int)) = false := decide_eq_false (by omega)
    have HB := hide hbf
    clear hbf hbit hqe hre hlt
    go_enter Sakg.func134, Sakg.ntmps134
    go_wp2_with fail
    go_ret
    rw [unhide HB]
    exact ⟨rfl, rfl⟩

set_option maxHeartbeats 4000000 in
theorem bits_any (a : Option Addr) (la ca m : Nat) (w : World) (h : IsNat w a la ca m) (hm : m < BIG) :
    Calls Sakg.prog 297 #[.slice a la ca] w fun e w' => (∃ k : Nat, e = .returned (.int .u64 k) ∧ k ≤ 8 * la) ∧ w = w' := by
  have hl200 := h.len 200 hm
  have HB : ∀ i : Nat, i ≤ 2000 → Hid (Calls Sakg.prog 134 #[.slice a la ca, .int .u16 i] w fun e w' => e = .returned (.bool (bitB m i)) ∧ w = w') := fun i hi => hide (natBit_wide a la ca m i w h hm hi)
  obtain ⟨n0, hn0⟩ : ∃ n0, n0 = 8 * la := ⟨_, rfl⟩
  have e0 : (8 : Int) * (la : Int) = (n0 : Int) := by omega
  have hn0l : n0 ≤ 1600 := by omega
  rw [← hn0]
  clear h hn0
  go_enter Sakg.func297, Sakg.ntmps297
  go_wp2_with fail
  go_loopg [3] n0 (fun gk kv wr => kv = .int .i64 gk ∧ gk ≤ n0 ∧ wr = w)
  case atStart => exact ⟨rfl, Nat.le_refl _, rfl⟩
  case round =>
    obtain ⟨rfl, hgk, rfl⟩ := hrel
    by_cases h0 : gk = 0
    · subst h0
      go_wp2
      go_ret
      exact ⟨⟨0, rfl, by omega⟩, rfl⟩
    · obtain ⟨j, rfl⟩ : ∃ j, gk = j + 1 := ⟨gk - 1, by omega⟩
      have t0 : decide ((0 : Int) < ((j + 1 : Nat) : Int)) = true := decide_eq_true (by omega)
      have ej : ((j + 1 : Nat) : Int) - 1 = (j : Int) := by omega
      have hw16 : IntKind.u16.wrap (j : Int) = (j : Int) := by rw [IntKind.wrap_u16]; omega
      have HBj := HB j (by omega)
      cases hbb : bitB m j with
      | true =>
        rw [hbb] at HBj
        clear hbb h0
        go_wp2_with fail
        refine (unhide HBj).mono ?_
        rintro e w1 ⟨rfl, rfl⟩
        go_wp2
        go_ret
        exact ⟨⟨j + 1, rfl, hgk⟩, rfl⟩
      | false =>
        rw [hbb] at HBj
        clear hbb h0
        go_wp2_with fail
        refine (unhide HBj).mono ?_
        rintro e w1 ⟨rfl, rfl⟩
        go_wp2
        go_roundg j
        case measure => omega
        case rel => exact ⟨rfl, by omega, rfl⟩

theorem modN_bnd (x n : Nat) : modN x n ≤ n := by
  unfold modN
  split
  · omega
  · exact Nat.le_of_lt (Nat.mod_lt _ (by omega))
theorem modN_lt3 {x n : Nat} (h : n ≠ 0) : modN x n < n := by
  unfold modN
  rw [if_neg h]
  exact Nat.mod_lt _ (by omega)
theorem mul_64 {x y : Nat} (hx : x ≤ 256 ^ 64) (hy : y ≤ 256 ^ 64) : x * y < BIG := by
  refine Nat.lt_of_le_of_lt (Nat.mul_le_mul hx hy) ?_
  rw [← Nat.pow_add]
  exact Nat.lt_of_lt_of_le (Nat.pow_lt_pow_right (by omega) (show 64 + 64 < 129 by omega)) (big_pow 129 (by omega))

/-- a number that is below n, or zero -/
def Under (n r : Nat) : Prop := r ≤ n ∧ (n ≠ 0 → r < n)
theorem under_mod (x n : Nat) : Under n (modN x n) := ⟨modN_bnd x n, fun h => modN_lt3 h⟩
set_option maxHeartbeats 8000000 in
theorem modExp_any (a b c : Option Addr) (la ca lb cb lc cc x y n : Nat) (w : World) (h1 : IsNat w a la ca x) (h2 : IsNat w b lb cb y) (h3 : IsNat w c lc cc n) (hx : x < 256 ^ 64) (hy : y < 256 ^ 64) (hn : n < 256 ^ 64) :
    Calls Sakg.prog 299 #[.slice a la ca, .slice b lb cb, .slice c lc cc] w fun e w' => ∃ A k c' r, e = .returned (.slice A k c') ∧ IsNat w' A k c' r ∧ Under n r ∧ Below w.heap.size w w' := by
  have hBB := big_ge
  have h64 : (256 : Nat) ^ 64 < BIG := Nat.lt_of_lt_of_le (Nat.pow_lt_pow_right (by omega) (show 64 < 65 by omega)) (big_pow 65 (by omega))
  have hlb := h2.len 64 hy
  have H1 := hide h1
  have H2 := hide h2
  have H3 := hide h3
  have HN := hide (num_any 1 w (by omega))
  clear h1 h2 h3
  go_enter Sakg.func299, Sakg.ntmps299
  go_wp2_with fail
  refine (unhide HN).mono ?_
  rintro e w1 ⟨A1, k1, c1, rfl, n1, N1, b1⟩
  have HD := hide (n1.dm ((unhide H3).kept b1) (by omega) (by omega))
  clear n1
  go_wp2_with fail
  refine (unhide HD).mono ?_
  rintro e w2 ⟨A2, k2, c2, A3, k3, c3, ok, rfl, n2, n3, N2, N3, b2⟩
  have d2 : Below w.heap.size w w2 := b1.trans (b2.mono b1.size)
  have NN3 := hide n3
  have hu3 := under_mod 1 n
  generalize modN 1 n = r0 at NN3 hu3
  have HBI := hide (bits_any b lb cb y w2 ((unhide H2).kept d2) (by omega))
  clear n2 n3
  go_wp2_with fail
  refine (unhide HBI).mono ?_
  rintro e w3 ⟨⟨kb, rfl, hkb⟩, rfl⟩
  have hkb2 : kb ≤ 512 := by omega
  clear hkb
  go_wp2_with fail
  go_loopg [8, 10] kb (fun gk v8 kv wr => ∃ A k c' r, v8 = .slice A k c' ∧ kv = .int .u64 gk ∧ gk ≤ kb ∧ IsNat wr A k c' r ∧ Under n r ∧ Below w.heap.size w wr)
  case atStart => exact ⟨A3, k3, c3, r0, rfl, rfl, Nat.le_refl _, unhide NN3, hu3, d2⟩
  case round =>
    obtain ⟨A, k, c', r, rfl, rfl, hgk, hr, hur, hbe⟩ := hrel
    by_cases h0 : gk = 0
    · subst h0
      have HR := hide hr
      clear hr
      go_wp2
      go_ret
      exact ⟨A, k, c', r, rfl, unhide HR, hur, hbe⟩
    · obtain ⟨j, rfl⟩ : ∃ j, gk = j + 1 := ⟨gk - 1, by omega⟩
      have t0 : decide ((0 : Int) < ((j + 1 : Nat) : Int)) = true := decide_eq_true (by omega)
      have ej : ((j + 1 : Nat) : Int) - 1 = (j : Int) := by omega
      have hw16 : IntKind.u16.wrap (j : Int) = (j : Int) := by rw [IntKind.wrap_u16]; omega
      have hrl : r ≤ 256 ^ 64 := by have := hur.1; omega
      have HM := hide (hr.mul hr (by omega) (by omega))
      have hrr := mul_64 hrl hrl
      clear hr h0
      go_wp2_with fail
      refine (unhide HM).mono ?_
      rintro e w4 ⟨A4, k4, c4, rfl, n4, N4, b4⟩
      have d4 : Below w.heap.size w w4 := hbe.trans (b4.mono hbe.size)
      have HD2 := hide (n4.dm ((unhide H3).kept d4) hrr (by omega))
      clear n4
      go_wp2_with fail
      refine (unhide HD2).mono ?_
      rintro e w5 ⟨A5, k5, c5, A6, k6, c6, ok2, rfl, n5, n6, N5, N6, b5⟩
      have d5 : Below w.heap.size w w5 := d4.trans (b5.mono d4.size)
      have hu6 := under_mod (r * r) n
      generalize modN (r * r) n = r2 at n6 hu6
      have NN6 := hide n6
      have HBT := hide (natBit_wide b lb cb y j w5 ((unhide H2).kept d5) (by omega) (by omega))
      clear n5 n6
      cases hbb : bitB y j with
      | true =>
        rw [hbb] at HBT
        have hr2l : r2 ≤ 256 ^ 64 := by have := hu6.1; omega
        have HM2 := hide ((unhide NN6).mul ((unhide H1).kept d5) (by omega) (by omega))
        have hrx := mul_64 hr2l (Nat.le_of_lt hx)
        clear hbb
        go_wp2_with fail
        refine (unhide HBT).mono ?_
        rintro e w6 ⟨rfl, rfl⟩
        go_wp2_with fail
        refine (unhide HM2).mono ?_
        rintro e w7 ⟨A7, k7, c7, rfl, n7, N7, b7⟩
        have d7 : Below w.heap.size w w7 := d5.trans (b7.mono d5.size)
        have HD3 := hide (n7.dm ((unhide H3).kept d7) hrx (by omega))
        clear n7
        go_wp2_with fail
        refine (unhide HD3).mono ?_
        rintro e w8 ⟨A8, k8, c8, A9, k9, c9, ok3, rfl, n8, n9, N8, N9, b8⟩
        have d8 : Below w.heap.size w w8 := d7.trans (b8.mono d7.size)
        have NN9 := hide n9
        clear n8 n9
        go_wp2
        go_roundg j
        case measure => omega
        case rel => exact ⟨A9, k9, c9, _, rfl, rfl, by omega, unhide NN9, under_mod _ n, d8⟩
      | false =>
        rw [hbb] at HBT
        clear hbb
        go_wp2_with fail
        refine (unhide HBT).mono ?_
        rintro e w6 ⟨rfl, rfl⟩
        go_wp2
        go_roundg j
        case measure => omega
        case rel => exact ⟨A6, k6, c6, r2, rfl, rfl, by omega, unhide NN6, hu6, d5⟩

end Go.Proofs.YgcsakGreat
