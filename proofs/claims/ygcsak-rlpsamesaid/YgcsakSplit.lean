/-
  rlp.sizeOf and rlp.Split.
-/
import Derived.Test.YgcsakJoin
namespace Go.Proofs.Ygcsak
set_option linter.unusedVariables false
set_option linter.unusedSimpArgs false
open Go.RowKit

def sizeP (xs : List Int) (n : Nat) : Nat × Nat × Bool :=
  if n < 56 then (n, 1, true)
  else if 7 < n - 55 ∨ xs.length ≤ n - 55 ∨ xs.getD 1 0 = 0 then (0, 0, false)
  else (rd ((xs.drop 1).take (n - 55)) 0, 1 + (n - 55), decide (56 ≤ rd ((xs.drop 1).take (n - 55)) 0))

def sizeV (r : Nat × Nat × Bool) : Value := .tuple #[.int .i64 r.1, .int .i64 r.2.1, .bool r.2.2]

set_option maxHeartbeats 1000000 in
theorem size_short (v : Value) (xs : List Int) (n : Nat) (w : World) (hn : n < 56) :
    Calls Sakg.prog 35 #[v, .int .u8 n] w fun e w' => e = .returned (sizeV (n, 1, true)) ∧ w = w' := by
  go_enter Sakg.func35, Sakg.ntmps35
  go_wp2
  go_ret3
  exact ⟨rfl, rfl⟩

set_option maxHeartbeats 1000000 in
theorem size_big (v : Value) (xs : List Int) (n : Nat) (w : World) (hn : 63 ≤ n) (hn2 : n < 256) :
    Calls Sakg.prog 35 #[v, .int .u8 n] w fun e w' => e = .returned (sizeV (0, 0, false)) ∧ w = w' := by
  go_enter Sakg.func35, Sakg.ntmps35
  go_wp2
  go_ret3
  exact ⟨rfl, rfl⟩

set_option maxHeartbeats 1000000 in
theorem size_cut (ao : Option Addr) (len cap : Nat) (n : Nat) (w : World) (hn : 56 ≤ n) (hn2 : n < 63) (hl : len ≤ n - 55) :
    Calls Sakg.prog 35 #[.slice ao len cap, .int .u8 n] w fun e w' => e = .returned (sizeV (0, 0, false)) ∧ w = w' := by
  go_enter Sakg.func35, Sakg.ntmps35
  go_wp2
  go_ret3
  exact ⟨rfl, rfl⟩

set_option maxHeartbeats 1000000 in
theorem size_zero (b off : Nat) (len cap : Nat) (n : Nat) (w : World) (hn : 56 ≤ n) (hn2 : n < 63) (hl : n - 55 < len) (hm : len ≤ 140737488355328) (hc : w.cell? ⟨b, off + 1, none⟩ = some (.int .u8 0)) :
    Calls Sakg.prog 35 #[.slice (some ⟨b, off, none⟩) len cap, .int .u8 n] w fun e w' => e = .returned (sizeV (0, 0, false)) ∧ w = w' := by
  go_enter Sakg.func35, Sakg.ntmps35
  go_wp2
  go_ret3
  exact ⟨rfl, rfl⟩

theorem wraps_i64 (n : Int) (h₀ : 0 ≤ n) (h₁ : n < 2 ^ 63) : IntKind.i64.wrap n = n := by rw [IntKind.wrap_i64]; omega
theorem i64_or8 (x y : Int) (hx₀ : 0 ≤ x) (hx : x % 256 = 0) (hx₁ : x < 9223372036854775808) (h₀ : 0 ≤ y) (h₁ : y < 256) : bits .or .i64 x y = x + y :=
  bits_join .i64 63 (by decide) wraps_i64 8 x y hx₀ hx hx₁ h₀ h₁ (by omega)

theorem rd_snoc (xs : List Int) (j : Nat) (h : 1 + j < xs.length) : rd ((xs.drop 1).take (j + 1)) 0 = rd ((xs.drop 1).take j) 0 * 256 + (xs.getD (1 + j) 0).toNat := by
  have h1 : j < (xs.drop 1).length := by simp; omega
  rw [List.take_succ_eq_append_getElem h1, rd_append]
  simp only [rd, List.getElem_drop]
  rw [List.getD_eq_getElem?_getD, List.getElem?_eq_getElem h]
  rfl

theorem size_ret (s : Nat) (k : Nat) (a : Int) (h : a = ((1 + k : Nat) : Int)) : Ending.returned (.tuple #[.int .i64 s, .int .i64 a, .bool (decide ((56 : Int) ≤ (s : Int)))]) = .returned (sizeV (s, 1 + k, decide (56 ≤ s))) := by
  subst h
  have : decide ((56 : Int) ≤ (s : Int)) = decide (56 ≤ s) := by simp; omega
  simp [sizeV, this]

set_option maxHeartbeats 1000000 in
theorem size_long (b off : Nat) (len cap : Nat) (n : Nat) (xs : List Int) (w : World) (hn : 56 ≤ n) (hn2 : n < 63) (hl : n - 55 < len) (hle : len ≤ cap) (hm : len ≤ 140737488355328) (hx : xs.length = len) (hby : Byt xs)
    (hc : ∀ i, i < len → w.cell? ⟨b, off + i, none⟩ = some (.int .u8 (xs.getD i 0))) (hz : xs.getD 1 0 ≠ 0) :
    Calls Sakg.prog 35 #[.slice (some ⟨b, off, none⟩) len cap, .int .u8 n] w fun e w' => e = .returned (sizeV (rd ((xs.drop 1).take (n - 55)) 0, 1 + (n - 55), decide (56 ≤ rd ((xs.drop 1).take (n - 55)) 0))) ∧ w = w' := by
  have HB := hide hby
  have HX := hide hx
  have HC := hide hc
  have h1 := hc 1 (by omega)
  have hcap : ¬ cap = 1 := by omega
  have hy0 := hby.get 1
  clear hby hx hc
  obtain ⟨y, hy⟩ : ∃ y, y = xs.getD 1 0 := ⟨_, rfl⟩
  rw [← hy] at h1 hz hy0
  have hz1 : (y == 0) = false := by simpa using hz
  clear hy hz
  have d1 : decide ((7 : Int) < (n : Int) - 55) = false := by simp; omega
  have d2 : decide ((len : Int) - 1 < (n : Int) - 55) = false := by simp; omega
  have d3 : decide ((n : Int) < 56) = false := by simp; omega
  go_enter Sakg.func35, Sakg.ntmps35
  go_wp2
  go_loop [4, 37] (fun t i => ∃ j s : Nat, j ≤ n - 55 ∧ s < 256 ^ j ∧ i = .int .i64 j ∧ t = .int .i64 s ∧ s = rd ((xs.drop 1).take j) 0) (fun _ i => n - 55 - (intOf i).toNat)
  case atStart => exact ⟨0, 0, by omega, by omega, rfl, rfl, by simp [rd]⟩
  case round =>
    obtain ⟨j, s, hj, hs, rfl, rfl, hsr⟩ := hrel
    have HS := hide hsr
    have HP := hide hs
    clear hsr hs
    by_cases hlt : j < n - 55
    · have hc := unhide HC (1 + j) (by omega)
      have hcb := (unhide HB).get (1 + j)
      have hsn := rd_snoc xs j (by have := unhide HX; omega)
      have hp : 256 ^ j ≤ 256 ^ 6 := Nat.pow_le_pow_right (by omega) (by omega)
      have hs2 : s < 281474976710656 := by have := unhide HP; omega
      obtain ⟨c, hcv⟩ : ∃ c, c = xs.getD (1 + j) 0 := ⟨_, rfl⟩
      rw [← hcv] at hc hcb hsn
      rw [← unhide HS] at hsn
      have hor := i64_or8 ((s : Int) * 256) c (by omega) (by omega) (by omega) hcb.1 (by omega)
      have HSN := hide hsn
      clear hcv hp hsn
      rw [← Nat.add_assoc] at hc
      go_wp2
      go_round
      case rel =>
        have h3 := unhide HP
        refine ⟨j + 1, s * 256 + c.toNat, by omega, by rw [Nat.pow_succ]; omega, by go_num, ?_, (unhide HSN).symm⟩
        congr 1
        omega
      case measure => simp [intOf]; omega
    · obtain rfl : j = n - 55 := by omega
      have hp : 256 ^ (n - 55) ≤ 256 ^ 7 := Nat.pow_le_pow_right (by omega) (by omega)
      have hs2 : s < 72057594037927936 := by have := unhide HP; omega
      clear hp
      go_wp2
      go_ret3
      have hse := unhide HS
      rw [List.drop_one] at hse
      rw [← hse]
      exact ⟨size_ret _ _ _ (by omega), rfl⟩

theorem size_any (ao : Option Addr) (len cap : Nat) (n : Nat) (xs : List Int) (w : World) (hn : n < 256) (hm : len ≤ 140737488355328) (hs : Src w ao len cap xs) :
    Calls Sakg.prog 35 #[.slice ao len cap, .int .u8 n] w fun e w' => e = .returned (sizeV (sizeP xs n)) ∧ w = w' := by
  have hl := hs.len_eq
  unfold sizeP
  by_cases h1 : n < 56
  · rw [if_pos h1]; exact size_short _ xs n w h1
  · rw [if_neg h1]
    by_cases h2 : 63 ≤ n
    · rw [if_pos (Or.inl (by omega))]; exact size_big _ xs n w h2 hn
    · by_cases h3 : len ≤ n - 55
      · rw [if_pos (Or.inr (Or.inl (by omega)))]; exact size_cut ao len cap n w (by omega) (by omega) h3
      · obtain ⟨b, off, rfl, hc⟩ := hs.at_ (by omega)
        by_cases h4 : xs.getD 1 0 = 0
        · rw [if_pos (Or.inr (Or.inr h4))]
          have := hc 1 (by omega)
          rw [h4] at this
          exact size_zero b off len cap n w (by omega) (by omega) (by omega) hm this
        · rw [if_neg (by omega)]
          exact size_long b off len cap n xs w (by omega) (by omega) (by omega) hs.le hm hl hs.byt hc h4

end Go.Proofs.Ygcsak
