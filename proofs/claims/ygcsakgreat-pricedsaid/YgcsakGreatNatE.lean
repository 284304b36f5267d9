/-
  nat.Add.
-/
import Derived.Test.YgcsakGreatNatD
namespace Go.Proofs.YgcsakGreat
set_option linter.unusedVariables false
set_option linter.unusedSimpArgs false
set_option maxRecDepth 100000
open Go.RowKit

theorem val_take_succ (xs : List Int) (j : Nat) : val (xs.take (j + 1)) = val (xs.take j) + 256 ^ j * (xs.getD j 0).toNat := by
  rcases Nat.lt_or_ge j xs.length with h | h
  · rw [take_snoc xs j h, val_append]
    have : (xs.take j).length = j := by simp; omega
    rw [this]
    simp [val]
  · rw [List.take_of_length_le (by omega), List.take_of_length_le h, List.getD_eq_getElem?_getD, List.getElem?_eq_none h]
    simp

theorem set_zeros (D : List Int) (j n : Nat) (d : Int) (hD : D.length = j) (h : j < n) : (D ++ zeros (n - j)).set j d = (D ++ [d]) ++ zeros (n - (j + 1)) := by
  obtain ⟨m, hm⟩ : ∃ m, n - j = m + 1 := ⟨n - j - 1, by omega⟩
  have hm2 : n - (j + 1) = m := by omega
  rw [hm, hm2, List.set_append_right _ _ (by omega), hD, Nat.sub_self, List.append_assoc]
  simp [zeros, List.replicate_succ]

theorem Byt.snoc {l : List Int} (h : Byt l) (d : Int) (hd : 0 ≤ d ∧ d ≤ 255) : Byt (l ++ [d]) := h.append (fun x hx => by simp at hx; subst hx; exact hd)

theorem add_step (D us vs : List Int) (j c x y : Nat) (hD : D.length = j) (hx : us.getD j 0 = (x : Int)) (hy : vs.getD j 0 = (y : Int)) (hv : val D + 256 ^ j * c = val (us.take j) + val (vs.take j)) :
    val (D ++ [(((c + x + y) % 256 : Nat) : Int)]) + 256 ^ (j + 1) * ((c + x + y) / 256) = val (us.take (j + 1)) + val (vs.take (j + 1)) := by
  rw [val_append, val_take_succ us, val_take_succ vs, hx, hy, hD]
  simp only [val, Int.toNat_natCast, Nat.mul_zero, Nat.add_zero, Nat.pow_succ]
  have h1 := Nat.div_add_mod (c + x + y) 256
  generalize (c + x + y) / 256 = q at *
  generalize (c + x + y) % 256 = r at *
  generalize 256 ^ j = P at *
  have h2 : P * r + P * 256 * q = P * (c + x + y) := by
    rw [← h1, Nat.mul_add, Nat.mul_assoc]
    omega
  rw [Nat.mul_add, Nat.mul_add] at h2
  omega

set_option maxHeartbeats 4000000 in
theorem add_any (a b : Option Addr) (la lb ca cb : Nat) (xs ys : List Int) (w : World) (h1 : Src w a la ca xs) (h2 : Src w b lb cb ys) (hm : la ≤ 100000000) (hm2 : lb ≤ 100000000) :
    Calls Sakg.prog 59 #[.slice a la ca, .slice b lb cb] w (MakesNat w (val xs + val ys)) := by
  have e1 := val_trimL xs
  have e2 := val_trimL ys
  have b1 := trimL_byt h1.byt
  have b2 := trimL_byt h2.byt
  have q1 := trimL_len xs
  have q2 := trimL_len ys
  have q3 := h1.len_eq
  have q4 := h2.len_eq
  rw [← e1, ← e2]
  have HC1 := hide (trim_any a la ca xs w h1 (by omega))
  have HC2 := hide (trim_any b lb cb ys w h2 (by omega))
  clear h1 h2 e1 e2
  have r1 : (trimL xs).length ≤ 100000000 := by omega
  have r2 : (trimL ys).length ≤ 100000000 := by omega
  clear q1 q2 q3 q4
  generalize trimL xs = us at *
  generalize trimL ys = vs at *
  have HB1 := hide b1
  have HB2 := hide b2
  have R1 := hide r1
  have R2 := hide r2
  clear b1 b2 r1 r2
  go_enter Sakg.func59, Sakg.ntmps59
  go_wp2_with fail
  refine (unhide HC1).mono ?_
  rintro e w1 ⟨⟨k1, rfl, s1⟩, rfl⟩
  go_wp2_with fail
  refine (unhide HC2).mono ?_
  rintro e w1 ⟨⟨k2, rfl, s2⟩, rfl⟩
  have l1 := s1.len_eq
  have l2 := s2.len_eq
  have r1 := unhide R1
  have r2 := unhide R2
  rw [l1] at r1
  rw [l2] at r2
  have S1 := hide s1
  have S2 := hide s2
  have L1 := hide l1
  have L2 := hide l2
  clear HC1 HC2 s1 s2 l1 l2 R1 R2
  by_cases hlt : k1 < k2
  · have d1 : decide ((k1 : Int) < (k2 : Int)) = true := decide_eq_true (by omega)
    have hm3 : k2 ≤ 140737488355328 := by omega
    go_wp2_with (at_make; refine wpList_make_bytes rfl _ _ 54 rfl Sakg.underlying54 _ _ (k2 + 1) rfl rfl (by omega) (by omega) (by omega) ?_; intro w2 ho2 hb2 hz2)
    go_loopw [6, 26] (fun cy i wr => ∃ (j c : Nat) (D : List Int), j ≤ k2 ∧ c ≤ 1 ∧ i = .int .i64 j ∧ cy = .int .u16 c ∧ D.length = j ∧ Byt D ∧ Own wr w.heap.size (D ++ zeros (k2 + 1 - j)) ∧ val D + 256 ^ j * c = val (vs.take j) + val (us.take j) ∧ Below w.heap.size w wr) (fun _ i _ => k2 - (intOf i).toNat)
    case atStart => exact ⟨0, 0, [], by omega, by omega, rfl, rfl, rfl, (fun x hx => by simp at hx), ho2, by simp [val], hb2⟩
    case round =>
      obtain ⟨j, c, D, hj, hc1, rfl, rfl, hDl, hDb, ho, hv, hbe⟩ := hrel
      have HDL := hide hDl
      have HDB := hide hDb
      have HV := hide hv
      by_cases hjl : j < k2
      · obtain ⟨p1, o1, rfl, c1⟩ := (unhide S2).at_ (by omega)
        have hp1 : p1 < w.heap.size := World.block_lt_of_cell? w _ (c1 0 (by omega))
        have x1 : wr.cell? ⟨p1, o1 + j, none⟩ = some (.int .u8 (vs.getD j 0)) := (hbe.cell (p := ⟨p1, o1 + j, none⟩) hp1).trans (c1 j hjl)
        have xb := (unhide HB2).get j
        have hcg := ho.cell j (by simp [zeros_len]; omega)
        have hfg := ho.froz j
        obtain ⟨u, hu⟩ : ∃ u, u = (D ++ zeros (k2 + 1 - j)).getD j 0 := ⟨_, rfl⟩
        rw [← hu] at hcg
        clear c1 hu hDl hDb hv
        obtain ⟨x, hx⟩ : ∃ x : Nat, vs.getD j 0 = (x : Int) := ⟨(vs.getD j 0).toNat, by omega⟩
        rw [hx] at x1 xb
        have HX := hide hx
        clear hx
        by_cases hjb : j < k1
        · obtain ⟨p2, o2, rfl, c2⟩ := (unhide S1).at_ (by omega)
          have hp2 : p2 < w.heap.size := World.block_lt_of_cell? w _ (c2 0 (by omega))
          have x2 : wr.cell? ⟨p2, o2 + j, none⟩ = some (.int .u8 (us.getD j 0)) := (hbe.cell (p := ⟨p2, o2 + j, none⟩) hp2).trans (c2 j hjb)
          have yb := (unhide HB1).get j
          clear c2
          obtain ⟨y, hy⟩ : ∃ y : Nat, us.getD j 0 = (y : Int) := ⟨(us.getD j 0).toNat, by omega⟩
          rw [hy] at x2 yb
          have hstep := add_step D vs us j c x y (unhide HDL) (unhide HX) hy (unhide HV)
          have hst := ho.set j (((c + x + y) % 256 : Nat) : Int)
          rw [set_zeros D _ _ _ (unhide HDL) (by omega)] at hst
          have hbe2 := hbe.setCell (p := ⟨w.heap.size, j, none⟩) (Nat.le_refl _) (.int .u8 (((c + x + y) % 256 : Nat) : Int))
          have HST := hide hst
          have HB2 := hide hbe2
          have HS := hide hstep
          clear hst hbe2 hstep hy ho
          go_wp2
          go_roundw
          case rel => exact ⟨j + 1, (c + x + y) / 256, _, by omega, by omega, by go_num, by go_num, by simp [unhide HDL], (unhide HDB).snoc _ (by omega), unhide HST, unhide HS, unhide HB2⟩
          case measure => simp [intOf]; omega
        · have hy : us.getD j 0 = ((0 : Nat) : Int) := by rw [List.getD_eq_getElem?_getD, List.getElem?_eq_none (by have := unhide L1; omega)]; rfl
          have hstep := add_step D vs us j c x 0 (unhide HDL) (unhide HX) hy (unhide HV)
          have hst := ho.set j (((c + x) % 256 : Nat) : Int)
          rw [set_zeros D _ _ _ (unhide HDL) (by omega)] at hst
          have hbe2 := hbe.setCell (p := ⟨w.heap.size, j, none⟩) (Nat.le_refl _) (.int .u8 (((c + x) % 256 : Nat) : Int))
          have HST := hide hst
          have HB2 := hide hbe2
          have HS := hide hstep
          clear hst hbe2 hstep hy ho
          go_wp2
          go_roundw
          case rel => exact ⟨j + 1, (c + x) / 256, _, by omega, by omega, by go_num, by go_num, by simp [unhide HDL], (unhide HDB).snoc _ (by omega), unhide HST, by simpa using unhide HS, unhide HB2⟩
          case measure => simp [intOf]; omega
      · obtain rfl : j = k2 := by omega
        have hcg := ho.cell j (by simp [zeros_len]; omega)
        have hfg := ho.froz j
        have hst := ho.set j ((c : Nat) : Int)
        rw [set_zeros D _ _ _ hDl (by omega)] at hst
        rw [show j + 1 - (j + 1) = 0 from by omega, show zeros 0 = [] from rfl, List.append_nil] at hst
        obtain ⟨u, hu⟩ : ∃ u, u = (D ++ zeros (j + 1 - j)).getD j 0 := ⟨_, rfl⟩
        rw [← hu] at hcg
        have hbe2 := hbe.setCell (p := ⟨w.heap.size, j, none⟩) (Nat.le_refl _) (.int .u8 ((c : Nat) : Int))
        have hval : val (D ++ [((c : Nat) : Int)]) = val vs + val us := by
          rw [val_append, hDl]
          simp only [val, Int.toNat_natCast, Nat.mul_zero, Nat.add_zero]
          rw [hv, List.take_of_length_le (by have := unhide L2; omega), List.take_of_length_le (by have := unhide L1; omega)]
        have hFb : Byt (D ++ [((c : Nat) : Int)]) := hDb.snoc _ (by omega)
        have hsrc := hst.src_all hFb (j + 1) (by simp [hDl]) (by unfold maxLen; omega)
        have HC := hide (clip_any _ _ _ _ _ hsrc (by omega))
        have HVAL := hide hval
        have HB2 := hide hbe2
        clear hst hbe2 hsrc hval hFb hu ho hv hDl hDb
        go_wp2_with fail
        refine (unhide HC).mono ?_
        rintro e w3 ⟨⟨A, k, rfl, hs3, hk0, hA⟩, rfl⟩
        go_wp2
        go_ret
        refine ⟨A, k, k, rfl, ?_, New.or hA (New.at _ _ _ (Nat.le_refl _)), unhide HB2⟩
        have := isNat_of_trim hs3 hk0
        rw [unhide HVAL] at this
        exact (by rw [Nat.add_comm]; exact this)
  · have d1 : decide ((k1 : Int) < (k2 : Int)) = false := decide_eq_false (by omega)
    have hm3 : k1 ≤ 140737488355328 := by omega
    go_wp2_with (at_make; refine wpList_make_bytes rfl _ _ 54 rfl Sakg.underlying54 _ _ (k1 + 1) rfl rfl (by omega) (by omega) (by omega) ?_; intro w2 ho2 hb2 hz2)
    go_loopw [6, 26] (fun cy i wr => ∃ (j c : Nat) (D : List Int), j ≤ k1 ∧ c ≤ 1 ∧ i = .int .i64 j ∧ cy = .int .u16 c ∧ D.length = j ∧ Byt D ∧ Own wr w.heap.size (D ++ zeros (k1 + 1 - j)) ∧ val D + 256 ^ j * c = val (us.take j) + val (vs.take j) ∧ Below w.heap.size w wr) (fun _ i _ => k1 - (intOf i).toNat)
    case atStart => exact ⟨0, 0, [], by omega, by omega, rfl, rfl, rfl, (fun x hx => by simp at hx), ho2, by simp [val], hb2⟩
    case round =>
      obtain ⟨j, c, D, hj, hc1, rfl, rfl, hDl, hDb, ho, hv, hbe⟩ := hrel
      have HDL := hide hDl
      have HDB := hide hDb
      have HV := hide hv
      by_cases hjl : j < k1
      · obtain ⟨p1, o1, rfl, c1⟩ := (unhide S1).at_ (by omega)
        have hp1 : p1 < w.heap.size := World.block_lt_of_cell? w _ (c1 0 (by omega))
        have x1 : wr.cell? ⟨p1, o1 + j, none⟩ = some (.int .u8 (us.getD j 0)) := (hbe.cell (p := ⟨p1, o1 + j, none⟩) hp1).trans (c1 j hjl)
        have xb := (unhide HB1).get j
        have hcg := ho.cell j (by simp [zeros_len]; omega)
        have hfg := ho.froz j
        obtain ⟨u, hu⟩ : ∃ u, u = (D ++ zeros (k1 + 1 - j)).getD j 0 := ⟨_, rfl⟩
        rw [← hu] at hcg
        clear c1 hu hDl hDb hv
        obtain ⟨x, hx⟩ : ∃ x : Nat, us.getD j 0 = (x : Int) := ⟨(us.getD j 0).toNat, by omega⟩
        rw [hx] at x1 xb
        have HX := hide hx
        clear hx
        by_cases hjb : j < k2
        · obtain ⟨p2, o2, rfl, c2⟩ := (unhide S2).at_ (by omega)
          have hp2 : p2 < w.heap.size := World.block_lt_of_cell? w _ (c2 0 (by omega))
          have x2 : wr.cell? ⟨p2, o2 + j, none⟩ = some (.int .u8 (vs.getD j 0)) := (hbe.cell (p := ⟨p2, o2 + j, none⟩) hp2).trans (c2 j hjb)
          have yb := (unhide HB2).get j
          clear c2
          obtain ⟨y, hy⟩ : ∃ y : Nat, vs.getD j 0 = (y : Int) := ⟨(vs.getD j 0).toNat, by omega⟩
          rw [hy] at x2 yb
          have hstep := add_step D us vs j c x y (unhide HDL) (unhide HX) hy (unhide HV)
          have hst := ho.set j (((c + x + y) % 256 : Nat) : Int)
          rw [set_zeros D _ _ _ (unhide HDL) (by omega)] at hst
          have hbe2 := hbe.setCell (p := ⟨w.heap.size, j, none⟩) (Nat.le_refl _) (.int .u8 (((c + x + y) % 256 : Nat) : Int))
          have HST := hide hst
          have HB2 := hide hbe2
          have HS := hide hstep
          clear hst hbe2 hstep hy ho
          go_wp2
          go_roundw
          case rel => exact ⟨j + 1, (c + x + y) / 256, _, by omega, by omega, by go_num, by go_num, by simp [unhide HDL], (unhide HDB).snoc _ (by omega), unhide HST, unhide HS, unhide HB2⟩
          case measure => simp [intOf]; omega
        · have hy : vs.getD j 0 = ((0 : Nat) : Int) := by rw [List.getD_eq_getElem?_getD, List.getElem?_eq_none (by have := unhide L2; omega)]; rfl
          have hstep := add_step D us vs j c x 0 (unhide HDL) (unhide HX) hy (unhide HV)
          have hst := ho.set j (((c + x) % 256 : Nat) : Int)
          rw [set_zeros D _ _ _ (unhide HDL) (by omega)] at hst
          have hbe2 := hbe.setCell (p := ⟨w.heap.size, j, none⟩) (Nat.le_refl _) (.int .u8 (((c + x) % 256 : Nat) : Int))
          have HST := hide hst
          have HB2 := hide hbe2
          have HS := hide hstep
          clear hst hbe2 hstep hy ho
          go_wp2
          go_roundw
          case rel => exact ⟨j + 1, (c + x) / 256, _, by omega, by omega, by go_num, by go_num, by simp [unhide HDL], (unhide HDB).snoc _ (by omega), unhide HST, by simpa using unhide HS, unhide HB2⟩
          case measure => simp [intOf]; omega
      · obtain rfl : j = k1 := by omega
        have hcg := ho.cell j (by simp [zeros_len]; omega)
        have hfg := ho.froz j
        have hst := ho.set j ((c : Nat) : Int)
        rw [set_zeros D _ _ _ hDl (by omega)] at hst
        rw [show j + 1 - (j + 1) = 0 from by omega, show zeros 0 = [] from rfl, List.append_nil] at hst
        obtain ⟨u, hu⟩ : ∃ u, u = (D ++ zeros (j + 1 - j)).getD j 0 := ⟨_, rfl⟩
        rw [← hu] at hcg
        have hbe2 := hbe.setCell (p := ⟨w.heap.size, j, none⟩) (Nat.le_refl _) (.int .u8 ((c : Nat) : Int))
        have hval : val (D ++ [((c : Nat) : Int)]) = val us + val vs := by
          rw [val_append, hDl]
          simp only [val, Int.toNat_natCast, Nat.mul_zero, Nat.add_zero]
          rw [hv, List.take_of_length_le (by have := unhide L1; omega), List.take_of_length_le (by have := unhide L2; omega)]
        have hFb : Byt (D ++ [((c : Nat) : Int)]) := hDb.snoc _ (by omega)
        have hsrc := hst.src_all hFb (j + 1) (by simp [hDl]) (by unfold maxLen; omega)
        have HC := hide (clip_any _ _ _ _ _ hsrc (by omega))
        have HVAL := hide hval
        have HB2 := hide hbe2
        clear hst hbe2 hsrc hval hFb hu ho hv hDl hDb
        go_wp2_with fail
        refine (unhide HC).mono ?_
        rintro e w3 ⟨⟨A, k, rfl, hs3, hk0, hA⟩, rfl⟩
        go_wp2
        go_ret
        refine ⟨A, k, k, rfl, ?_, New.or hA (New.at _ _ _ (Nat.le_refl _)), unhide HB2⟩
        have := isNat_of_trim hs3 hk0
        rw [unhide HVAL] at this
        exact this

theorem IsNat.add {w : World} {a b : Option Addr} {la lb ca cb m n : Nat} (h1 : IsNat w a la ca m) (h2 : IsNat w b lb cb n) (hm : m < BIG) (hn : n < BIG) :
    Calls Sakg.prog 59 #[.slice a la ca, .slice b lb cb] w (MakesNat w (m + n)) := by
  have := h1.len 200 hm
  have := h2.len 200 hn
  obtain ⟨xs, s1, _, e1, _⟩ := h1
  obtain ⟨ys, s2, _, e2, _⟩ := h2
  rw [← e1, ← e2]
  exact add_any a b la lb ca cb xs ys w s1 s2 (by omega) (by omega)

end Go.Proofs.YgcsakGreat
