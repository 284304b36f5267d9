/-
  nat.trim, clip, Norm, FromBE, FromU64, Cmp.
-/
import Derived.Test.YgcsakGreatNatA
import Derived.RegionTactic
import Derived.BigRegion
namespace Go.Proofs.YgcsakGreat
set_option linter.unusedVariables false
set_option linter.unusedSimpArgs false
set_option maxRecDepth 100000
open Go.RowKit

theorem take_snoc (xs : List Int) (k : Nat) (h : k < xs.length) : xs.take (k + 1) = xs.take k ++ [xs.getD k 0] := by
  rw [List.take_succ_eq_append_getElem h]
  simp [List.getD, h]

theorem Src.pre {w : World} {ao : Option Addr} {l c : Nat} {xs : List Int} (h : Src w ao l c xs) (k : Nat) (hk : k ≤ l) : ao ≠ none ∨ l = 0 → Src w ao k k (xs.take k) := by
  intro _
  have hl := h.len_eq
  have hle := h.le
  have hm := h.max
  refine ⟨by simp; omega, Nat.le_refl _, by omega, h.byt.take k, ?_, fun h0 => ?_⟩
  · intro hn; have := h.nil hn; omega
  · obtain ⟨b, off, rfl, hc⟩ := h.at_ (by omega)
    refine ⟨b, off, rfl, fun i hi => ?_⟩
    rw [hc i (by omega)]
    simp [List.getD, List.getElem?_take, hi]

theorem Src.some_of {w : World} {ao : Option Addr} {l c : Nat} {xs : List Int} (h : Src w ao l c xs) : ao ≠ none ∨ l = 0 := by
  by_cases h0 : ao = none
  · exact .inr (h.nil h0).1
  · exact .inl h0

theorem Src.trim {w : World} {ao : Option Addr} {l c : Nat} {xs : List Int} (h : Src w ao l c xs) : Src w ao (trimL xs).length (trimL xs).length (trimL xs) := by
  have h1 := h.pre (trimL xs).length (by have := trimL_len xs; have := h.len_eq; omega) h.some_of
  rw [← trimL_take] at h1
  exact h1

set_option maxHeartbeats 1000000 in
theorem trim_any (ao : Option Addr) (l c : Nat) (xs : List Int) (w : World) (h : Src w ao l c xs) (hm : l ≤ 140737488355328) :
    Calls Sakg.prog 88 #[.slice ao l c] w fun e w' => (∃ k, e = .returned (.slice ao k k) ∧ Src w ao k k (trimL xs)) ∧ w = w' := by
  have hl := h.len_eq
  have hT := hide h.trim
  have hle := h.le
  have H := hide h
  by_cases h0 : l = 0
  · subst h0
    obtain rfl : xs = [] := List.eq_nil_of_length_eq_zero hl
    clear h
    go_enter Sakg.func88, Sakg.ntmps88
    go_wp2_with fail
    go_loop [3] (fun i => i = .int .i64 0) (fun i => 0)
    case atStart => rfl
    case round =>
      subst hrel
      go_wp2
      go_ret
      exact ⟨⟨0, rfl, unhide hT⟩, rfl⟩
  obtain ⟨b, off, rfl, hc⟩ := h.at_ (by omega)
  have HC := hide hc
  have hmx := h.max
  have HL := hide hl
  unfold maxLen at hmx
  have hb := hide h.byt
  clear h hc
  go_enter Sakg.func88, Sakg.ntmps88
  go_wp2_with fail
  go_loop [3] (fun i => ∃ k : Nat, k ≤ l ∧ i = .int .i64 k ∧ trimL (xs.take k) = trimL xs) (fun i => (intOf i).toNat)
  case atStart => exact ⟨l, Nat.le_refl _, rfl, by rw [List.take_of_length_le (by omega)]⟩
  case round =>
    obtain ⟨k, hk, rfl, ht⟩ := hrel
    have HT := hide ht
    clear ht
    by_cases hk0 : 0 < k
    · obtain ⟨j, rfl⟩ : ∃ j, k = j + 1 := ⟨k - 1, by omega⟩
      have hcj := unhide HC j (by omega)
      have hts := take_snoc xs j (by omega)
      obtain ⟨y, hy⟩ : ∃ y, y = xs.getD j 0 := ⟨_, rfl⟩
      rw [← hy] at hcj hts
      by_cases hy0 : y = 0
      · have ht2 : trimL (xs.take j) = trimL xs := by
          have := unhide HT
          rw [hts, hy0, trimL_snoc_zero] at this
          exact this
        have H2 := hide ht2
        clear hts ht2 hy hl
        subst hy0
        go_wp2
        go_round
        case rel => exact ⟨j, by omega, by go_num, unhide H2⟩
        case measure => simp [intOf]
      · have ht2 : trimL xs = xs.take (j + 1) := by
          have := unhide HT
          rw [hts, trimL_snoc _ _ hy0] at this
          rw [hts, this]
        have H2 := hide ht2
        have hz1 : (y == 0) = false := by simpa using hy0
        clear hts ht2 hy hl hy0
        go_wp2
        go_ret
        refine ⟨⟨j + 1, rfl, ?_⟩, rfl⟩
        have h3 := unhide hT
        have h4 := unhide H2
        have h5 : (trimL xs).length = j + 1 := by rw [h4]; have := unhide HL; simp; omega
        rw [h5] at h3
        exact h3
    · obtain rfl : k = 0 := by omega
      have h4 : trimL xs = [] := by rw [← unhide HT]; rfl
      have H4 := hide h4
      clear h4 hl
      go_wp2
      go_ret
      refine ⟨⟨0, rfl, ?_⟩, rfl⟩
      have h3 := unhide hT
      rw [unhide H4] at h3 ⊢
      exact h3

/-- a number in memory: normal digits; zero is nil -/
def IsNat (w : World) (A : Option Addr) (k c : Nat) (n : Nat) : Prop := ∃ xs, Src w A k c xs ∧ Nrm xs ∧ val xs = n ∧ (k = 0 → A = none)

theorem IsNat.kept {w w' : World} {A : Option Addr} {k c n : Nat} (h : IsNat w A k c n) (hb : Below w.heap.size w w') : IsNat w' A k c n := by
  obtain ⟨xs, h1, h2, h3, h4⟩ := h
  exact ⟨xs, h1.kept hb, h2, h3, h4⟩

theorem IsNat.nil (w : World) : IsNat w none 0 0 0 := ⟨[], Src.ofNil w, rfl, rfl, fun _ => rfl⟩

theorem IsNat.len {w : World} {A : Option Addr} {k c n : Nat} (h : IsNat w A k c n) (K : Nat) (hn : n < 256 ^ K) : k ≤ K := by
  obtain ⟨xs, h1, h2, h3, h4⟩ := h
  have := nrm_len xs h1.byt h2 K (by omega)
  have := h1.len_eq
  omega

theorem IsNat.zero {w : World} {A : Option Addr} {k c n : Nat} (h : IsNat w A k c n) : k = 0 ↔ n = 0 := by
  obtain ⟨xs, h1, h2, h3, h4⟩ := h
  have hl := h1.len_eq
  constructor
  · intro hk
    obtain rfl : xs = [] := List.eq_nil_of_length_eq_zero (by omega)
    exact h3.symm
  · intro hn
    rcases Nat.eq_zero_or_pos k with hk | hk
    · exact hk
    · exfalso
      have hne : xs ≠ [] := by intro h0; subst h0; simp at hl; omega
      have := val_pos xs h1.byt hne h2
      have := Nat.pow_pos (n := xs.length - 1) (show 0 < 256 by omega)
      omega

/-- it lies in memory that was not there -/
def New (w : World) (A : Option Addr) : Prop := ∀ x, A = some x → w.heap.size ≤ x.block
theorem New.nil (w : World) : New w none := fun x h => by cases h
theorem New.at (w : World) (g o : Nat) (h : w.heap.size ≤ g) : New w (some ⟨g, o, none⟩) := fun x hx => by obtain rfl := Option.some.inj hx; exact h
theorem New.later {w w' : World} {A : Option Addr} (h : New w' A) (hb : w.heap.size ≤ w'.heap.size) : New w A := fun x hx => Nat.le_trans hb (h x hx)
theorem New.or {w : World} {A ao : Option Addr} (h : A = .none ∨ A = ao) (hn : New w ao) : New w A := by
  rcases h with rfl | rfl
  · exact New.nil w
  · exact hn

/-- a call makes a number -/
def MakesNat (w : World) (n : Nat) (e : Ending) (w' : World) : Prop := ∃ A k c, e = .returned (.slice A k c) ∧ IsNat w' A k c n ∧ New w A ∧ Below w.heap.size w w'

theorem isNat_of_trim {w : World} {A : Option Addr} {k c : Nat} {xs : List Int} (h : Src w A k c (trimL xs)) (hk : k = 0 → A = none) : IsNat w A k c (val xs) :=
  ⟨trimL xs, h, trimL_idem xs, val_trimL xs, hk⟩

set_option maxHeartbeats 1000000 in
theorem clip_any (ao : Option Addr) (l c : Nat) (xs : List Int) (w : World) (h : Src w ao l c xs) (hm : l ≤ 140737488355328) :
    Calls Sakg.prog 89 #[.slice ao l c] w fun e w' => (∃ A k, e = .returned (.slice A k k) ∧ Src w A k k (trimL xs) ∧ (k = 0 → A = none) ∧ (A = none ∨ A = ao)) ∧ w = w' := by
  have HC := hide (trim_any ao l c xs w h hm)
  clear h
  go_enter Sakg.func89, Sakg.ntmps89
  go_wp2_with fail
  refine (unhide HC).mono ?_
  rintro e w1 ⟨⟨k, rfl, hs⟩, rfl⟩
  by_cases hk : k = 0
  · subst hk
    go_wp2
    go_ret
    refine ⟨⟨none, 0, rfl, ?_, fun _ => rfl, .inl rfl⟩, rfl⟩
    have := List.eq_nil_of_length_eq_zero hs.len_eq
    rw [this]
    exact Src.ofNil _
  · obtain ⟨b, off, rfl, hc⟩ := hs.at_ (by omega)
    have hz : ((k : Int) == 0) = false := by simp; omega
    have hmx := hs.max
    unfold maxLen at hmx
    have HS := hide hs
    clear hs hc
    go_wp2
    go_ret
    exact ⟨⟨_, k, rfl, unhide HS, fun h => absurd h hk, .inr rfl⟩, rfl⟩

set_option maxHeartbeats 1000000 in
theorem norm_own (ao : Option Addr) (l c : Nat) (xs : List Int) (w : World) (h : Src w ao l c xs) (hm : l ≤ 140737488355328) :
    Calls Sakg.prog 90 #[.slice ao l c] w fun e w' => ∃ A k, e = .returned (.slice A k k) ∧
      ((A = none ∧ k = 0 ∧ trimL xs = [] ∧ w = w') ∨ (A = some ⟨w.heap.size, 0, none⟩ ∧ k = (trimL xs).length ∧ 0 < k ∧ Own w' w.heap.size (trimL xs) ∧ w'.heap.size = w.heap.size + 1 ∧ Below w.heap.size w w')) := by
  have HC := hide (trim_any ao l c xs w h hm)
  have hlen := trimL_len xs
  have hl := h.len_eq
  clear h
  go_enter Sakg.func90, Sakg.ntmps90
  go_wp2_with fail
  refine (unhide HC).mono ?_
  rintro e w1 ⟨⟨k, rfl, hs⟩, rfl⟩
  have hkl := hs.len_eq
  by_cases hk : k = 0
  · subst hk
    have := List.eq_nil_of_length_eq_zero hs.len_eq
    have HT := hide this
    clear hs hkl this hlen
    go_wp2
    go_ret
    exact ⟨none, 0, rfl, .inl ⟨rfl, rfl, unhide HT, rfl⟩⟩
  · have hz : ((k : Int) == 0) = false := by simp; omega
    have hkm : k ≤ 140737488355328 := by omega
    have HS := hide hs
    have HK := hide hkl
    clear hs hkl hlen hl
    go_wp2_with (first
      | (at_make; refine wpList_make_bytes rfl _ _ 54 rfl Sakg.underlying54 _ _ k rfl rfl rfl rfl (by omega) ?_; intro w2 ho2 hb2 hz2)
      | (with_reducible refine at_copy ?_; refine wpList_copy_bytes rfl _ _ _ _ rfl Sakg.underlying54 _ k _ rfl (zeros k) ho2 (zeros_len k) _ _ _ rfl _ ((unhide HS).kept hb2) rfl ?_; intro w3 ho3 hb3 hz3))
    go_ret
    exact ⟨_, k, rfl, .inr ⟨rfl, (unhide HK).symm, by omega, ho3, by omega, hb2.trans (hb3 _ (Nat.le_refl _))⟩⟩

end Go.Proofs.YgcsakGreat
