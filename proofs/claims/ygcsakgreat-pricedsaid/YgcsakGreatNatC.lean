/-
  nat.FromBE, FromU64, Cmp.
-/
import Derived.Test.YgcsakGreatNatB
import Derived.Deep.QuietTactic
import Derived.BigQuiet
namespace Go.Proofs.YgcsakGreat
set_option linter.unusedVariables false
set_option linter.unusedSimpArgs false
set_option maxRecDepth 100000
open Go.RowKit

/-- the first i of R, then zeros, n in all -/
def fillL (R : List Int) (n i : Nat) : List Int := R.take i ++ zeros (n - i)
theorem fillL_zero (R : List Int) (n : Nat) : fillL R n 0 = zeros n := by simp [fillL]
theorem fillL_all (R : List Int) : fillL R R.length R.length = R := by simp [fillL, zeros]
theorem fillL_len (R : List Int) (n i : Nat) (h : R.length = n) (hi : i ≤ n) : (fillL R n i).length = n := by simp [fillL, zeros]; omega
theorem fillL_step (R : List Int) (n i : Nat) (h : R.length = n) (hi : i < n) : (fillL R n i).set i (R.getD i 0) = fillL R n (i + 1) := by
  unfold fillL
  obtain ⟨m, hm⟩ : ∃ m, n - i = m + 1 := ⟨n - i - 1, by omega⟩
  have hm2 : n - (i + 1) = m := by omega
  rw [hm, hm2, List.set_append_right _ _ (by simp; omega)]
  have hlen : (R.take i).length = i := by simp; omega
  rw [hlen, Nat.sub_self, take_snoc R i (by omega), List.append_assoc]
  simp [zeros, List.replicate_succ]
theorem fillL_byt (R : List Int) (n i : Nat) (h : Byt R) : Byt (fillL R n i) := (h.take i).append (zeros_byt _)

theorem drop_cons (xs : List Int) (k : Nat) (h : k < xs.length) : xs.drop k = xs.getD k 0 :: xs.drop (k + 1) := by
  rw [List.drop_eq_getElem_cons h]
  simp [List.getD, h]

theorem rev_getD (xs : List Int) (k i : Nat) (hk : k + i < xs.length) : ((xs.drop k).reverse).getD i 0 = xs.getD (xs.length - 1 - i) 0 := by
  rw [List.getD_eq_getElem?_getD, List.getD_eq_getElem?_getD, List.getElem?_reverse (by simp; omega), List.getElem?_drop]
  congr 2
  simp
  omega

theorem Byt.reverse {l : List Int} (h : Byt l) : Byt l.reverse := fun x hx => h x (by simpa using hx)

set_option maxHeartbeats 2000000 in
theorem fromBE_any (ao : Option Addr) (l c : Nat) (xs : List Int) (w : World) (h : Src w ao l c xs) (hm : l ≤ 140737488355328) :
    Calls Sakg.prog 17 #[.slice ao l c] w (MakesNat w (val xs.reverse)) := by
  have hl := h.len_eq
  by_cases h0 : l = 0
  · subst h0
    obtain rfl : xs = [] := List.eq_nil_of_length_eq_zero hl
    clear h hl
    go_enter Sakg.func17, Sakg.ntmps17
    go_wp2_with fail
    go_loop [3] (fun i => i = .int .i64 0) (fun i => 0)
    case atStart => rfl
    case round =>
      subst hrel
      go_wp2
      go_ret
      exact ⟨none, 0, 0, rfl, IsNat.nil _, New.nil _, Below.refl _ _⟩
  obtain ⟨b, off, rfl, hc⟩ := h.at_ (by omega)
  have HC := hide hc
  have HL := hide hl
  have hb := hide h.byt
  have hblt : b < w.heap.size := World.block_lt_of_cell? w _ (hc 0 (by omega))
  clear h hc hl
  go_enter Sakg.func17, Sakg.ntmps17
  go_wp2_with fail
  go_loop [3] (fun i => ∃ k : Nat, k ≤ l ∧ i = .int .i64 k ∧ trimL (xs.drop k).reverse = trimL xs.reverse) (fun i => l - (intOf i).toNat)
  case atStart => exact ⟨0, by omega, rfl, rfl⟩
  case round =>
    obtain ⟨k, hk, rfl, ht⟩ := hrel
    have HT := hide ht
    clear ht
    by_cases hk0 : k < l
    · have hcj := unhide HC k hk0
      have hdc := drop_cons xs k (by have := unhide HL; omega)
      obtain ⟨y, hy⟩ : ∃ y, y = xs.getD k 0 := ⟨_, rfl⟩
      rw [← hy] at hcj hdc
      by_cases hy0 : y = 0
      · have ht2 : trimL (xs.drop (k + 1)).reverse = trimL xs.reverse := by
          have := unhide HT
          rw [hdc, hy0, List.reverse_cons, trimL_snoc_zero] at this
          exact this
        have H2 := hide ht2
        clear hdc ht2 hy
        subst hy0
        go_wp2
        go_round
        case rel => exact ⟨k + 1, by omega, by go_num, unhide H2⟩
        case measure => simp [intOf]; omega
      · have ht2 : trimL xs.reverse = (xs.drop k).reverse := by
          have := unhide HT
          rw [hdc, List.reverse_cons, trimL_snoc _ _ hy0] at this
          rw [hdc, List.reverse_cons, this]
        have hR : (xs.drop k).reverse.length = l - k := by have := unhide HL; simp; omega
        have hRb : Byt (xs.drop k).reverse := ((unhide hb).drop k).reverse
        have hget : ∀ i, i < l - k → (xs.drop k).reverse.getD i 0 = xs.getD (l - 1 - i) 0 := fun i hi => by
          have := unhide HL
          rw [rev_getD xs k i (by omega), this]
        obtain ⟨R, hRe⟩ : ∃ R, R = (xs.drop k).reverse := ⟨_, rfl⟩
        rw [← hRe] at ht2 hR hRb hget
        have H2 := hide ht2
        have HR := hide hR
        have HRB := hide hRb
        have HG := hide hget
        have hz1 : (y == 0) = false := by simpa using hy0
        have hne : ((k : Int) == (l : Int)) = false := by simp; omega
        clear hdc ht2 hy hy0 hR hRb hget hRe
        go_wp2_with (at_make; refine wpList_make_bytes rfl _ _ 54 rfl Sakg.underlying54 _ _ (l - k) rfl rfl (by omega) (by omega) (by omega) ?_; intro w2 ho2 hb2 hz2)
        go_loopw [30] (fun i wr => ∃ j : Nat, j ≤ l - k ∧ i = .int .i64 j ∧ Own wr w.heap.size (fillL R (l - k) j) ∧ Below w.heap.size w wr) (fun i _ => l - k - (intOf i).toNat)
        case atStart => exact ⟨0, by omega, rfl, by rw [fillL_zero]; exact ho2, hb2⟩
        case round =>
          obtain ⟨j, hj, rfl, ho, hbe⟩ := hrel
          by_cases hjl : j < l - k
          · have hcr : wr.cell? ⟨b, off + (l - 1 - j), none⟩ = some (.int .u8 (R.getD j 0)) := by
              rw [hbe.cell (p := ⟨b, off + (l - 1 - j), none⟩) hblt, unhide HG j hjl]
              exact unhide HC (l - 1 - j) (by omega)
            have hcg := ho.cell j (by rw [fillL_len R _ _ (unhide HR) hj]; exact hjl)
            have hfg := ho.froz j
            have hst := ho.set j (R.getD j 0)
            rw [fillL_step R _ _ (unhide HR) hjl] at hst
            have HST := hide hst
            obtain ⟨z, hz⟩ : ∃ z, z = R.getD j 0 := ⟨_, rfl⟩
            obtain ⟨u, hu⟩ : ∃ u, u = (fillL R (l - k) j).getD j 0 := ⟨_, rfl⟩
            rw [← hz] at hcr HST
            rw [← hu] at hcg
            have hbe2 := hbe.setCell (p := ⟨w.heap.size, j, none⟩) (Nat.le_refl _) (.int .u8 z)
            clear hst hz hu ho
            go_wp2
            go_roundw
            case rel => exact ⟨j + 1, by omega, by go_num, unhide HST, hbe2⟩
            case measure => simp [intOf]; omega
          · obtain rfl : j = l - k := by omega
            have hR := unhide HR
            have ho' : Own wr w.heap.size R := by
              rw [← hR, fillL_all] at ho
              exact ho
            have HO := hide (ho'.src_all (unhide HRB) (l - k) hR.symm (by unfold maxLen; omega))
            clear ho ho' hR
            go_wp2
            go_ret
            refine ⟨_, _, _, rfl, ⟨R, unhide HO, ?_, ?_, fun h => by omega⟩, New.at _ _ _ (Nat.le_refl _), hbe⟩
            · have h2 := unhide H2; unfold Nrm; rw [← h2, trimL_idem]
            · rw [← unhide H2, val_trimL]
    · obtain rfl : k = l := by omega
      have hv : val xs.reverse = 0 := by
        have h1 := unhide HT
        rw [List.drop_eq_nil_of_le (by have := unhide HL; omega)] at h1
        rw [← val_trimL, ← h1]
        rfl
      have HV := hide hv
      clear hv
      go_wp2
      go_ret
      refine ⟨none, 0, 0, rfl, ?_, New.nil _, Below.refl _ _⟩
      rw [unhide HV]
      exact IsNat.nil _

theorem norm_nat (ao : Option Addr) (l c : Nat) (xs : List Int) (w : World) (h : Src w ao l c xs) (hm : l ≤ 140737488355328) :
    Calls Sakg.prog 90 #[.slice ao l c] w (MakesNat w (val xs)) := by
  have hb := trimL_byt h.byt
  have hlen := trimL_len xs
  have hl := h.len_eq
  refine (norm_own ao l c xs w h hm).mono ?_
  rintro e w' ⟨A, k, rfl, ⟨rfl, rfl, h1, rfl⟩ | ⟨rfl, hk, h0, ho, hz, hbe⟩⟩
  · refine ⟨none, 0, 0, rfl, ?_, New.nil _, Below.refl _ _⟩
    rw [← val_trimL, h1]
    exact IsNat.nil _
  · exact ⟨_, k, k, rfl, isNat_of_trim (ho.src_all hb k hk (by unfold maxLen; omega)) (fun h => by omega), New.at _ _ _ (Nat.le_refl _), hbe⟩

/-- the digits of a uint64 -/
def dig8 (x : Nat) : Nat → List Int
  | 0 => []
  | i + 1 => dig8 x i ++ [((x / 256 ^ i % 256 : Nat) : Int)]
theorem dig8_len (x i : Nat) : (dig8 x i).length = i := by
  induction i with
  | zero => rfl
  | succ i ih => simp [dig8, ih]
theorem dig8_byt (x i : Nat) : Byt (dig8 x i) := by
  induction i with
  | zero => intro y hy; simp [dig8] at hy
  | succ i ih =>
    refine ih.append ?_
    intro y hy
    simp at hy
    omega
theorem dig8_val (x i : Nat) : val (dig8 x i) = x % 256 ^ i := by
  induction i with
  | zero => simp [dig8, val, Nat.mod_one]
  | succ i ih =>
    rw [dig8, val_append, ih, dig8_len]
    simp only [val, Int.toNat_natCast, Nat.mul_zero, Nat.add_zero]
    rw [Nat.pow_succ, Nat.mod_mul]
theorem dig8_fill (x i : Nat) (hi : i < 8) : (dig8 x i ++ zeros (8 - i)).set i ((x / 256 ^ i % 256 : Nat) : Int) = dig8 x (i + 1) ++ zeros (8 - (i + 1)) := by
  obtain ⟨m, hm⟩ : ∃ m, 8 - i = m + 1 := ⟨7 - i, by omega⟩
  have hm2 : 8 - (i + 1) = m := by omega
  rw [hm, hm2, List.set_append_right _ _ (by rw [dig8_len]; omega), dig8_len, Nat.sub_self, dig8, List.append_assoc]
  simp [zeros, List.replicate_succ]

theorem own_zero8 (w : World) (t : TypeId) : OwnT t (w.alloc (.cells #[.int .u8 0, .int .u8 0, .int .u8 0, .int .u8 0, .int .u8 0, .int .u8 0, .int .u8 0, .int .u8 0] t)) w.heap.size (zeros 8) := by
  unfold OwnT
  rw [heap_alloc_new]
  rfl

set_option maxHeartbeats 2000000 in
theorem fromU64_any (x : Nat) (w : World) (hx : x < 256 ^ 8) :
    Calls Sakg.prog 34 #[.int .u64 x] w (MakesNat w x) := by
  have HX := hide hx
  have hx2 : x < 18446744073709551616 := hx
  clear hx
  go_enter Sakg.func34, Sakg.ntmps34
  go_wp2_with fail
  go_loopw [0, 5] (fun y i wr => ∃ j m : Nat, j ≤ 8 ∧ m < 18446744073709551616 ∧ i = .int .i64 j ∧ y = .int .u64 m ∧ m = x / 256 ^ j ∧ OwnT 176 wr w.heap.size (dig8 x j ++ zeros (8 - j)) ∧ Below w.heap.size w wr) (fun _ i _ => 8 - (intOf i).toNat)
  case atStart => exact ⟨0, x, by omega, hx2, rfl, rfl, by simp, own_zero8 w _, (Below.refl _ _).alloc (Nat.le_refl _) _⟩
  case round =>
    obtain ⟨j, m, hj, hm, rfl, rfl, hmx, ho, hbe⟩ := hrel
    have HM := hide hmx
    clear hmx
    by_cases hjl : j < 8
    · have hcg := ho.cell j (by simp [dig8_len, zeros_len]; omega)
      have hfg := ho.froz j
      have hst := ho.set j ((m % 256 : Nat) : Int)
      rw [show (dig8 x j ++ zeros (8 - j)).set j ((m % 256 : Nat) : Int) = dig8 x (j + 1) ++ zeros (8 - (j + 1)) from by rw [unhide HM]; exact dig8_fill x j hjl] at hst
      obtain ⟨u, hu⟩ : ∃ u, u = (dig8 x j ++ zeros (8 - j)).getD j 0 := ⟨_, rfl⟩
      rw [← hu] at hcg
      have hbe2 := hbe.setCell (p := ⟨w.heap.size, j, none⟩) (Nat.le_refl _) (.int .u8 ((m % 256 : Nat) : Int))
      have HST := hide hst
      have HB2 := hide hbe2
      clear hst hu ho hbe2
      go_wp2
      go_roundw
      case rel => exact ⟨j + 1, m / 256, by omega, by omega, by go_num, by go_num, by rw [unhide HM, Nat.pow_succ, Nat.div_div_eq_div_mul], unhide HST, unhide HB2⟩
      case measure => simp [intOf]; omega
    · obtain rfl : j = 8 := by omega
      have hs : Src wr (some ⟨w.heap.size, 0, none⟩) 8 8 (dig8 x 8) := by
        have := ho.src_all (by simpa [zeros] using dig8_byt x 8) 8 (by simp [zeros, dig8_len]) (by unfold maxLen; omega)
        simpa [zeros] using this
      have HC := hide (norm_nat _ _ _ _ _ hs (by omega))
      clear hs ho
      go_wp2_with fail
      refine (unhide HC).mono ?_
      rintro e w1 ⟨A, k, c, rfl, hn, hN, hb1⟩
      go_wp2
      go_ret
      refine ⟨A, k, c, rfl, ?_, hN.later hbe.size, hbe.trans (hb1.mono hbe.size)⟩
      have h8 := unhide HX
      rw [dig8_val, Nat.mod_eq_of_lt h8] at hn
      exact hn

end Go.Proofs.YgcsakGreat
