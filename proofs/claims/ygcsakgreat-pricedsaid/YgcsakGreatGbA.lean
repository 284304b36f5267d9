/-
  yp, for GasBounds: maxNat, CopyCost, SentGas, addrOf, IsDest.
-/
import Derived.Test.YgcsakGreatCutA
namespace Go.Proofs.YgcsakGreat
set_option linter.unusedVariables false
set_option linter.unusedSimpArgs false
set_option maxRecDepth 100000
open Go.RowKit

set_option maxHeartbeats 1000000 in
theorem maxNat_any (a b : Option Addr) (la lb ca cb m n : Nat) (w : World) (h1 : IsNat w a la ca m) (h2 : IsNat w b lb cb n) (hm : m < BIG) (hn : n < BIG) :
    Calls Sakg.prog 210 #[.slice a la ca, .slice b lb cb] w fun e w' => ∃ A k c, e = .returned (.slice A k c) ∧ IsNat w' A k c (max m n) ∧ (A = a ∨ A = b) ∧ Quiet w w' := by
  have HC := hide (h1.cmp h2 hm hn)
  have H1 := hide h1
  have H2 := hide h2
  clear h1 h2 hm hn
  by_cases h : n < m
  · have hgt : (0 : Int) < cmpI m n := by unfold cmpI; rw [if_neg (by omega), if_neg (by omega)]; omega
    have e : max m n = m := by omega
    rw [e]
    clear e
    have d0 : decide ((0 : Int) < cmpI m n) = true := decide_eq_true hgt
    generalize cmpI m n = cr at HC hgt d0
    go_enter Sakg.func210, Sakg.ntmps210
    go_wp2_with fail
    refine (unhide HC).mono ?_
    rintro e w1 ⟨rfl, hq⟩
    go_wp2
    go_ret
    exact ⟨_, _, _, rfl, (unhide H1).kept (hq.below _), .inl rfl, hq⟩
  · have hle : cmpI m n ≤ (0 : Int) := by unfold cmpI; split <;> (try split) <;> omega
    have e : max m n = n := by omega
    rw [e]
    clear e
    have d0 : decide ((0 : Int) < cmpI m n) = false := decide_eq_false (by omega)
    generalize cmpI m n = cr at HC hle d0
    go_enter Sakg.func210, Sakg.ntmps210
    go_wp2_with fail
    refine (unhide HC).mono ?_
    rintro e w1 ⟨rfl, hq⟩
    go_wp2
    go_ret
    exact ⟨_, _, _, rfl, (unhide H2).kept (hq.below _), .inr rfl, hq⟩

def copyN (m : Nat) : Nat := 3 * ((m + 31) / 32)
set_option maxHeartbeats 2000000 in
theorem copyCost_any (a : Option Addr) (la ca m : Nat) (w : World) (h : IsNat w a la ca m) (hm : m + 31 < BIG) :
    Calls Sakg.prog 421 #[.slice a la ca] w (MakesNat w (copyN m)) := by
  have hBB := big_ge
  have H := hide h
  have HN := hide (num_any 3 w (by omega))
  clear h
  go_enter Sakg.func421, Sakg.ntmps421
  go_wp2_with fail
  refine (unhide HN).mono ?_
  rintro e w1 ⟨A1, k1, c1, rfl, n1, N1, b1⟩
  have NN1 := hide n1
  have HW := hide (words_any a la ca m w1 ((unhide H).kept b1) hm)
  clear n1
  go_wp2_with fail
  refine (unhide HW).mono ?_
  rintro e w2 ⟨A2, k2, c2, rfl, n2, N2, b2⟩
  have d2 : Below w.heap.size w w2 := b1.trans (b2.mono b1.size)
  have hw : (m + 31) / 32 < BIG := Nat.lt_of_le_of_lt (Nat.div_le_self _ _) hm
  have HM := hide (((unhide NN1).kept b2).mul n2 (by omega) hw)
  clear n2
  go_wp2_with fail
  refine (unhide HM).mono ?_
  rintro e w3 ⟨A3, k3, c3, rfl, n3, N3, b3⟩
  have NN3 := hide n3
  clear n3
  go_wp2
  go_ret
  exact ⟨A3, k3, c3, rfl, unhide NN3, N3.later d2.size, d2.trans (b3.mono d2.size)⟩

def sentN (left asked : Nat) : Nat := min asked (left - left / 64)
set_option maxHeartbeats 2000000 in
theorem sentGas_any (a b : Option Addr) (la ca lb cb m n : Nat) (w : World) (h1 : IsNat w a la ca m) (h2 : IsNat w b lb cb n) (hm : m < BIG) (hn : n < BIG) :
    Calls Sakg.prog 303 #[.slice a la ca, .slice b lb cb] w fun e w' => ∃ A k c, e = .returned (.slice A k c) ∧ IsNat w' A k c (sentN m n) ∧ (New w A ∨ A = b) ∧ Below w.heap.size w w' := by
  have hBB := big_ge
  have HD := hide (divided_any a la ca m 64 w h1 hm (by omega) (by omega))
  have H1 := hide h1
  have H2 := hide h2
  clear h1 h2
  go_enter Sakg.func303, Sakg.ntmps303
  go_wp2_with fail
  refine (unhide HD).mono ?_
  rintro e w1 ⟨A1, k1, c1, rfl, n1, N1, b1⟩
  have hq : m / 64 ≤ m := Nat.div_le_self _ _
  have HL := hide (less_any a A1 la k1 ca c1 m (m / 64) w1 ((unhide H1).kept b1) n1 hm (by omega))
  clear n1
  go_wp2_with fail
  refine (unhide HL).mono ?_
  rintro e w2 ⟨A2, k2, c2, rfl, n2, N2, b2⟩
  have d2 : Below w.heap.size w w2 := b1.trans (b2.mono b1.size)
  have HM := hide (minNat_any b A2 lb k2 cb c2 n (m - m / 64) w2 ((unhide H2).kept d2) n2 hn (by omega))
  clear n2
  go_wp2_with fail
  refine (unhide HM).mono ?_
  rintro e w3 ⟨A3, k3, c3, rfl, n3, hA3, q3⟩
  have NN3 := hide n3
  clear n3
  go_wp2
  go_ret
  refine ⟨A3, k3, c3, rfl, unhide NN3, ?_, d2.trans (q3.below _)⟩
  rcases hA3 with rfl | rfl
  · exact .inr rfl
  · exact .inl (N2.later b1.size)

theorem bv_set (xs : List Int) (j : Nat) (y : Int) : (bv xs).set j (.int .u8 y) = bv (xs.set j y) := by unfold bv; rw [List.map_set]
set_option maxHeartbeats 4000000 in
theorem addrOf_any (a : Option Addr) (la ca m : Nat) (w : World) (h : IsNat w a la ca m) (hm : m < BIG) :
    Calls Sakg.prog 212 #[.slice a la ca] w fun e w' => (∃ x, e = .returned (.agg (bv x).toArray) ∧ IsAddr x) ∧ Below w.heap.size w w' := by
  have hl200 := h.len 200 hm
  obtain ⟨ds, hsrc, -, -, -⟩ := h
  obtain ⟨W, hW⟩ : ∃ W, W = (w.alloc (.cells (bv (zeros 20)).toArray 26)).alloc (.cells (bv (zeros 20)).toArray 26) := ⟨_, rfl⟩
  have hb0 : Below w.heap.size w W := by rw [hW]; exact ((Below.refl _ _).alloc (Nat.le_refl _) _).alloc (by simp) _
  have r0 : RowT 26 W w.heap.size (bv (zeros 20)) := by rw [hW]; exact (RowT.new _ _ _).alloc _
  have r1 : RowT 26 W (w.heap.size + 1) (bv (zeros 20)) := by
    rw [hW]
    have := RowT.new 26 (w.alloc (.cells (bv (zeros 20)).toArray 26)) (bv (zeros 20))
    rwa [World.size_alloc] at this
  have hz20 : (bv (zeros 20)).length = 20 := by rw [bv_len, zeros_len]
  have hlen := hsrc.len_eq
  have hW2 := r1.lt
  have R0 := hide r0
  have R1 := hide r1
  have HS := hide hsrc
  have hu := Sakg.underlying26
  clear r0 r1 hsrc
  go_enter Sakg.func212, Sakg.ntmps212
  go_upto_region 2 with ((with_reducible refine at_alloc 26 ?_); refine wpList_alloc_g (by rfl) 26 rfl (bv (zeros 20)) 20 infoAddr2 hz20 ?_)
  rw [← hW]
  clear hW
  go_wp2_with fail
  go_loopg [4] 20 (fun gk iv wr => ∃ (i : Nat) (xs : List Int), i + gk = 20 ∧ iv = .int .i64 i ∧ i ≤ la ∧ RowT 26 wr (w.heap.size + 1) (bv xs) ∧ IsAddr xs ∧ RowT 26 wr w.heap.size (bv (zeros 20)) ∧ Below w.heap.size w wr)
  case atStart => exact ⟨0, zeros 20, by omega, rfl, by omega, unhide R1, ⟨zeros_len 20, zeros_byt 20⟩, unhide R0, hb0⟩
  case round =>
    obtain ⟨i, xs, hi, rfl, hil, q1, hx, q0, hbe⟩ := hrel
    by_cases hlt : i < la ∧ i < 20
    · have t1 : decide ((i : Int) < (la : Int)) = true := decide_eq_true (by omega)
      have t2 : decide ((i : Int) < 20) = true := decide_eq_true (by omega)
      obtain ⟨j, hj⟩ : ∃ j, j = 19 - i := ⟨_, rfl⟩
      have ej : (19 : Int) - (i : Int) = (j : Int) := by omega
      have hjl : j < 20 := by omega
      have hila : i < la := hlt.1
      obtain ⟨b, off, rfl, hc⟩ := ((unhide HS).kept hbe).at_ (by omega)
      have hci := hc i (by omega)
      have hby := (unhide HS).byt.get i
      generalize ds.getD i 0 = y at hci hby
      have x1 : ∃ v, wr.cell? ⟨w.heap.size + 1, j, none⟩ = some v := by rw [q1.cell, List.getElem?_eq_getElem (by rw [bv_len, hx.len]; exact hjl)]; exact ⟨_, rfl⟩
      obtain ⟨v1, x1⟩ := x1
      have f1 := q1.froz j
      have hset := q1.set j (.int .u8 y)
      rw [bv_set] at hset
      have hx2 : IsAddr (xs.set j y) := ⟨by rw [List.length_set]; exact hx.len, hx.byt.set j y hby⟩
      have o1 : Only (w.heap.size + 1) wr (wr.setCell ⟨w.heap.size + 1, j, none⟩ (.int .u8 y)) := (Only.refl _ _).setCell _ _
      have q0' := q0.only o1 (by omega)
      have hbe' : Below w.heap.size w (wr.setCell ⟨w.heap.size + 1, j, none⟩ (.int .u8 y)) := hbe.trans (o1.below _ (by omega))
      have HSET := hide hset
      have Q0' := hide q0'
      have HBE' := hide hbe'
      clear hc hj q0 q1 hset q0' hbe' hlt
      go_wp2
      go_roundg (20 - 1 - i)
      case measure => omega
      case rel => exact ⟨i + 1, _, by omega, rfl, by omega, unhide HSET, hx2, unhide Q0', unhide HBE'⟩
    · have hend : decide ((i : Int) < (la : Int)) = false ∨ decide ((i : Int) < 20) = false := by
        rcases Nat.lt_or_ge i la with h' | h'
        · exact .inr (decide_eq_false (by omega))
        · exact .inl (decide_eq_false (by omega))
      have HR := hide q1.rangeAll
      have Q0 := hide q0
      have hszx := hx.size
      have hlx : (bv (zeros 20)).length = (bv xs).length := by rw [hz20, bv_len, hx.len]
      clear q0 q1 hlt
      by_cases hila : i < la
      · have t1 : decide ((i : Int) < (la : Int)) = true := decide_eq_true (by omega)
        have t2 : decide ((i : Int) < 20) = false := by rcases hend with h' | h'; (rw [t1] at h'; cases h'); (exact h')
        clear hend
        go_wp2_with (first
          | ((with_reducible refine at_load 26 ?_); refine wpList_load_g (by rfl) 26 (.tmp 3) rfl (w.heap.size + 1) 0 rfl (bv xs) _ (unhide HR) hu rfl hszx ?_)
          | ((with_reducible refine at_store 26 ?_); refine wpList_store_whole rfl 26 (.tmp 2) (.tmp 22) rfl w.heap.size 26 (bv (zeros 20)) (bv xs) rfl rfl (unhide Q0) hlx hszx (bv_one _) ?_; intro w9 hr9 ho9))
        refine bodyPost_ret (results_cell_row rfl _ _ _ _ _ _ _ rfl hr9 Sakg.underlying26 rfl (by simpa using hszx)) rfl ?_
        exact ⟨⟨xs, rfl, hx⟩, hbe.trans (ho9.below _ (Nat.le_refl _))⟩
      · have t1 : decide ((i : Int) < (la : Int)) = false := decide_eq_false (by omega)
        clear hend
        go_wp2_with (first
          | ((with_reducible refine at_load 26 ?_); refine wpList_load_g (by rfl) 26 (.tmp 3) rfl (w.heap.size + 1) 0 rfl (bv xs) _ (unhide HR) hu rfl hszx ?_)
          | ((with_reducible refine at_store 26 ?_); refine wpList_store_whole rfl 26 (.tmp 2) (.tmp 22) rfl w.heap.size 26 (bv (zeros 20)) (bv xs) rfl rfl (unhide Q0) hlx hszx (bv_one _) ?_; intro w9 hr9 ho9))
        refine bodyPost_ret (results_cell_row rfl _ _ _ _ _ _ _ rfl hr9 Sakg.underlying26 rfl (by simpa using hszx)) rfl ?_
        exact ⟨⟨xs, rfl, hx⟩, hbe.trans (ho9.below _ (Nat.le_refl _))⟩

end Go.Proofs.YgcsakGreat
