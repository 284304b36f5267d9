/-
  yp, for GasBounds: NativeCost.
-/
import Derived.Test.YgcsakGreatGbE
namespace Go.Proofs.YgcsakGreat
set_option linter.unusedVariables false
set_option linter.unusedSimpArgs false
set_option maxRecDepth 100000
open Go.RowKit

def CostR (w : World) (e : Ending) (w' : World) : Prop := ∃ A k c n ok, e = .returned (.tuple #[.slice A k c, .bool ok]) ∧ IsNat w' A k c n ∧ n < 256 ^ 40 ∧ New w A ∧ Below w.heap.size w w'
theorem pow_le40 {n k : Nat} (h : n < 256 ^ k) (hk : k ≤ 40) : n < 256 ^ 40 := Nat.lt_of_lt_of_le h (Nat.pow_le_pow_right (by omega) hk)

set_option maxHeartbeats 8000000 in
theorem nativeCost_4 (A : Option Addr) (l c : Nat) (xs : List Int) (w : World) (hx : Src w A l c xs) (hl : l ≤ 1000000) :
    Calls Sakg.prog 199 #[.int .u8 4, .slice A l c] w (CostR w) := by
  have hBB := big_ge
  have hwl : IntKind.u64.wrap (l : Int) = (l : Int) := by rw [IntKind.wrap_u64]; omega
  have HN1 := hide (num_any 15 w (by omega))
  clear hx
  go_enter Sakg.func199, Sakg.ntmps199
  go_wp2_with fail
  refine (unhide HN1).mono ?_
  rintro e w1 ⟨A1, k1, c1, rfl, n1, N1, b1⟩
  have NN1 := hide n1
  have HN2 := hide (num_any 3 w1 (by omega))
  clear n1
  go_wp2_with fail
  refine (unhide HN2).mono ?_
  rintro e w2 ⟨A2, k2, c2, rfl, n2, N2, b2⟩
  have NN2 := hide n2
  have HN3 := hide (num_any l w2 (by omega))
  clear n2
  go_wp2_with fail
  refine (unhide HN3).mono ?_
  rintro e w3 ⟨A3, k3, c3, rfl, n3, N3, b3⟩
  have HW := hide (words_any A3 k3 c3 l w3 n3 (by omega))
  clear n3
  go_wp2_with fail
  refine (unhide HW).mono ?_
  rintro e w4 ⟨A4, k4, c4, rfl, n4, N4, b4⟩
  have b24 : Below w2.heap.size w2 w4 := b3.trans (b4.mono b3.size)
  have HM := hide (((unhide NN2).kept b24).mul n4 (by omega) (by omega))
  clear n4
  go_wp2_with fail
  refine (unhide HM).mono ?_
  rintro e w5 ⟨A5, k5, c5, rfl, n5, N5, b5⟩
  have b15 : Below w1.heap.size w1 w5 := b2.trans ((b24.trans (b5.mono b24.size)).mono b2.size)
  have HA := hide (((unhide NN1).kept b15).add n5 (by omega) (by omega))
  clear n5
  go_wp2_with fail
  refine (unhide HA).mono ?_
  rintro e w6 ⟨A6, k6, c6, rfl, n6, N6, b6⟩
  have d5 : Below w.heap.size w w5 := b1.trans (b15.mono b1.size)
  have NN6 := hide n6
  clear n6
  go_wp2
  refine bodyPost_ret (results_tmp2 rfl _ _ _) rfl ?_
  exact ⟨A6, k6, c6, _, true, rfl, unhide NN6, pow_le40 (k := 8) (by omega) (by omega), N6.later d5.size, d5.trans (b6.mono d5.size)⟩

set_option maxHeartbeats 4000000 in
theorem nativeCost_none (kd : Nat) (h4 : kd ≠ 4) (h5 : kd ≠ 5) (A : Option Addr) (l c : Nat) (w : World) : Calls Sakg.prog 199 #[.int .u8 kd, .slice A l c] w (CostR w) := by
  have t4 : ((kd : Int) == 4) = false := by rw [beq_eq_false_iff_ne]; omega
  have t5 : ((kd : Int) == 5) = false := by rw [beq_eq_false_iff_ne]; omega
  go_enter Sakg.func199, Sakg.ntmps199
  go_wp2
  refine bodyPost_ret (results_tmp2 rfl _ _ _) rfl ?_
  exact ⟨none, 0, 0, 0, false, rfl, IsNat.nil _, Nat.pow_pos (by omega), New.nil _, Below.refl _ _⟩

set_option maxHeartbeats 16000000 in
theorem nativeCost_5 (A : Option Addr) (l c : Nat) (xs : List Int) (w : World) (hx : Src w A l c xs) (hl : l ≤ 1000000) :
    Calls Sakg.prog 199 #[.int .u8 5, .slice A l c] w (CostR w) := by
  have hBB := big_ge
  have HX := hide hx
  have HL := hide (lengths_any A l c xs w hx hl)
  clear hx
  go_enter Sakg.func199, Sakg.ntmps199
  go_wp2_with fail
  refine (unhide HL).mono ?_
  rintro e w1 ⟨⟨b, ex, m, ok, rfl, hb, he, hm⟩, b1⟩
  cases ok with
  | false =>
    go_wp2
    refine bodyPost_ret (results_tmp2 rfl _ _ _) rfl ?_
    exact ⟨none, 0, 0, 0, false, rfl, IsNat.nil _, Nat.pow_pos (by omega), New.nil _, b1⟩
  | true =>
    have HN1 := hide (num_any b w1 (by omega))
    go_wp2_with fail
    refine (unhide HN1).mono ?_
    rintro e w2 ⟨A2, k2, c2, rfl, n2, N2, b2⟩
    have NN2 := hide n2
    have HN2 := hide (num_any m w2 (by omega))
    clear n2
    go_wp2_with fail
    refine (unhide HN2).mono ?_
    rintro e w3 ⟨A3, k3, c3, rfl, n3, N3, b3⟩
    have HMX := hide (maxNat_any A2 A3 k2 k3 c2 c3 b m w3 ((unhide NN2).kept b3) n3 (by omega) (by omega))
    clear n3
    go_wp2_with fail
    refine (unhide HMX).mono ?_
    rintro e w4 ⟨A4, k4, c4, rfl, n4, -, q4⟩
    have NN4 := hide n4
    have HN7 := hide (num_any 7 w4 (by omega))
    clear n4
    go_wp2_with fail
    refine (unhide HN7).mono ?_
    rintro e w5 ⟨A5, k5, c5, rfl, n5, N5, b5⟩
    have HA := hide (((unhide NN4).kept b5).add n5 (by omega) (by omega))
    clear n5
    go_wp2_with fail
    refine (unhide HA).mono ?_
    rintro e w6 ⟨A6, k6, c6, rfl, n6, N6, b6⟩
    have HD := hide (divided_any A6 k6 c6 _ 8 w6 n6 (by omega) (by omega) (by omega))
    clear n6
    go_wp2_with fail
    refine (unhide HD).mono ?_
    rintro e w7 ⟨A7, k7, c7, rfl, n7, N7, b7⟩
    obtain ⟨wd, hwd⟩ : ∃ wd, wd = (max b m + 7) / 8 := ⟨_, rfl⟩
    rw [← hwd] at n7
    have hwdl : wd ≤ 9 := by omega
    have NN7 := hide n7
    have d7 : Below w.heap.size w w7 := b1.trans (((b2.trans (b3.mono b2.size)).trans (((q4.below _).trans ((b5.trans ((b6.trans (b7.mono b6.size)).mono b5.size)).mono (q4.below 0).size)).mono (Nat.le_trans b2.size b3.size))).mono b1.size)
    obtain ⟨of, hof⟩ : ∃ of, of = 96 + b := ⟨_, rfl⟩
    have eof : (96 : Int) + (b : Int) = (of : Int) := by omega
    have hofl : of ≤ 160 := by omega
    clear n7 hwd hof
    go_upto_region 10 with fail
    go_cut [12] (fun s12 wc => ∃ k : Nat, s12 = .int .u64 k ∧ k ≤ 300 ∧ Below w7.heap.size w7 wc)
    case first =>
      have hmn : ∃ mn : Nat, mn ≤ 32 ∧ (ex ≤ 32 ∧ mn = ex ∨ 32 < ex ∧ mn = 32) := by
        rcases Nat.lt_or_ge 32 ex with h' | h'
        · exact ⟨32, by omega, .inr ⟨h', rfl⟩⟩
        · exact ⟨ex, by omega, .inl ⟨h', rfl⟩⟩
      obtain ⟨mn, hmnl, hor⟩ := hmn
      have HP := hide (part_any A l c xs of mn w7 ((unhide HX).kept d7) (by omega) (by omega) hl)
      have hfin : ∀ wz g ys, OwnT 5 wz g ys → ys.length = mn → Byt ys → Hid (Calls Sakg.prog 17 #[.slice (some ⟨g, 0, none⟩) mn mn] wz (MakesNat wz (val ys.reverse))) ∧ val ys.reverse < 256 ^ 32 := fun wz g ys ho hyl hyb => by
        have s1 : Src wz (some ⟨g, 0, none⟩) mn mn ys := ho.src_all hyb mn hyl.symm (by unfold maxLen; omega)
        refine ⟨hide (fromBE_any _ mn mn ys wz s1 (by omega)), ?_⟩
        have := val_lt ys.reverse hyb.reverse
        rw [List.length_reverse, hyl] at this
        exact Nat.lt_of_lt_of_le this (Nat.pow_le_pow_right (by omega) hmnl)
      have HFIN := hide hfin
      clear hfin
      rcases hor with ⟨h32, rfl⟩ | ⟨h32, rfl⟩
      · have q32 : (mn : Int) ≤ 32 := by omega
        clear h32
        go_wp2_with fail
        refine (unhide HP).mono ?_
        rintro e w8 ⟨g, ys, rfl, o8, hyl, hyb, hg8, b8⟩
        obtain ⟨HF, hyv⟩ := unhide HFIN w8 g ys o8 hyl hyb
        clear o8
        go_wp2_with fail
        refine (unhide HF).mono ?_
        rintro e w9 ⟨A9, k9, c9, rfl, n9, N9, b9⟩
        generalize val ys.reverse = v at n9 hyv
        have hvB : v < BIG := Nat.lt_of_lt_of_le hyv (big_pow 32 (by omega))
        have hk9 := n9.len 32 hyv
        have HBI := hide (bits_any A9 k9 c9 v w9 n9 hvB)
        clear n9
        go_wp2_with fail
        refine (unhide HBI).mono ?_
        rintro e w10 ⟨⟨kb, rfl, hkb⟩, rfl⟩
        go_wp2_with fail
        go_meet
        case rel => exact ⟨kb, rfl, by omega, b8.trans (b9.mono b8.size)⟩
      · have q32 : (32 : Int) < (ex : Int) := by omega
        clear h32
        go_wp2_with fail
        refine (unhide HP).mono ?_
        rintro e w8 ⟨g, ys, rfl, o8, hyl, hyb, hg8, b8⟩
        obtain ⟨HF, hyv⟩ := unhide HFIN w8 g ys o8 hyl hyb
        clear o8
        go_wp2_with fail
        refine (unhide HF).mono ?_
        rintro e w9 ⟨A9, k9, c9, rfl, n9, N9, b9⟩
        generalize val ys.reverse = v at n9 hyv
        have hvB : v < BIG := Nat.lt_of_lt_of_le hyv (big_pow 32 (by omega))
        have hk9 := n9.len 32 hyv
        have HBI := hide (bits_any A9 k9 c9 v w9 n9 hvB)
        clear n9
        go_wp2_with fail
        refine (unhide HBI).mono ?_
        rintro e w10 ⟨⟨kb, rfl, hkb⟩, rfl⟩
        go_wp2_with fail
        go_meet
        case rel => exact ⟨kb, rfl, by omega, b8.trans (b9.mono b8.size)⟩
    case rest =>
      obtain ⟨kb, rfl, hkb, b10⟩ := hcut
      obtain ⟨w10, hw10⟩ : ∃ x, x = wc := ⟨_, rfl⟩
      subst hw10
      have d10 : Below w.heap.size w w10 := d7.trans (b10.mono d7.size)
      have B10 := hide b10
      go_upto_if 54 with fail
      go_cut [11] (fun s11 wc => ∃ (A : Option Addr) (k c t : Nat), s11 = .slice A k c ∧ IsNat wc A k c t ∧ t ≤ 300 ∧ New w A ∧ Below w10.heap.size w10 wc)
      case first =>
        by_cases h1 : 1 < kb
        · have t1 : decide ((1 : Int) < (kb : Int)) = true := decide_eq_true (by omega)
          obtain ⟨j, hj⟩ : ∃ j, j = kb - 1 := ⟨_, rfl⟩
          have ej : (kb : Int) - 1 = (j : Int) := by omega
          have hjl : j ≤ 300 := by omega
          have HN := hide (num_any j w10 (by omega))
          clear hj
          go_wp2_with fail
          refine (unhide HN).mono ?_
          rintro e w11 ⟨A11, k11, c11, rfl, n11, N11, b11⟩
          have NN11 := hide n11
          clear n11
          go_wp2_with fail
          go_meet
          case rel => exact ⟨A11, k11, c11, j, rfl, unhide NN11, hjl, N11.later d10.size, b11⟩
        · have t1 : decide ((1 : Int) < (kb : Int)) = false := decide_eq_false (by omega)
          go_wp2_with fail
          go_meet
          case rel => exact ⟨none, 0, 0, 0, rfl, IsNat.nil _, by omega, New.nil _, Below.refl _ _⟩
      case rest =>
        obtain ⟨A11, k11, c11, t, rfl, n11, ht, N11, b11⟩ := hcut
        obtain ⟨w11, hw11⟩ : ∃ x, x = wc := ⟨_, rfl⟩
        subst hw11
        have d11 : Below w.heap.size w w11 := d10.trans (b11.mono d10.size)
        have NN11 := hide n11
        clear n11
        go_upto_if 59 with fail
        go_cut [11] (fun s11 wc => ∃ (A : Option Addr) (k c t : Nat), s11 = .slice A k c ∧ IsNat wc A k c t ∧ t ≤ 1000 ∧ New w A ∧ Below w11.heap.size w11 wc)
        case first =>
          by_cases h1 : 32 < ex
          · have t1 : decide ((32 : Int) < (ex : Int)) = true := decide_eq_true (by omega)
            obtain ⟨j, hj⟩ : ∃ j, j = ex - 32 := ⟨_, rfl⟩
            have ej : (ex : Int) - 32 = (j : Int) := by omega
            obtain ⟨j8, hj8⟩ : ∃ j8, j8 = 8 * j := ⟨_, rfl⟩
            have ej8 : (8 : Int) * (j : Int) = (j8 : Int) := by omega
            have hjl : j8 ≤ 300 := by omega
            have HN := hide (num_any j8 w11 (by omega))
            clear hj hj8
            go_wp2_with fail
            refine (unhide HN).mono ?_
            rintro e w12 ⟨A12, k12, c12, rfl, n12, N12, b12⟩
            have HA := hide (((unhide NN11).kept b12).add n12 (by omega) (by omega))
            clear n12
            go_wp2_with fail
            refine (unhide HA).mono ?_
            rintro e w13 ⟨A13, k13, c13, rfl, n13, N13, b13⟩
            have NN13 := hide n13
            clear n13
            go_wp2_with fail
            go_meet
            case rel => exact ⟨A13, k13, c13, t + j8, rfl, unhide NN13, by omega, N13.later (Nat.le_trans d11.size b12.size), b12.trans (b13.mono b12.size)⟩
          · have t1 : decide ((32 : Int) < (ex : Int)) = false := decide_eq_false (by omega)
            go_wp2_with fail
            go_meet
            case rel => exact ⟨A11, k11, c11, t, rfl, unhide NN11, by omega, N11, Below.refl _ _⟩
        case rest =>
          obtain ⟨A13, k13, c13, t2, rfl, n13, ht2, N13, b13⟩ := hcut
          obtain ⟨w13, hw13⟩ : ∃ x, x = wc := ⟨_, rfl⟩
          subst hw13
          have d13 : Below w.heap.size w w13 := d11.trans (b13.mono d11.size)
          have b713 : Below w7.heap.size w7 w13 := (unhide B10).trans ((b11.trans (b13.mono b11.size)).mono (unhide B10).size)
          have m7 := (unhide NN7).kept b713
          have HM := hide (m7.mul m7 (by omega) (by omega))
          have hww : wd * wd ≤ 81 := Nat.mul_le_mul hwdl hwdl
          have NN13 := hide n13
          clear n13 m7
          go_wp2_with fail
          refine (unhide HM).mono ?_
          rintro e w14 ⟨A14, k14, c14, rfl, n14, N14, b14⟩
          have NN14 := hide n14
          have HN := hide (num_any 1 w14 (by omega))
          clear n14
          go_wp2_with fail
          refine (unhide HN).mono ?_
          rintro e w15 ⟨A15, k15, c15, rfl, n15, N15, b15⟩
          have b1315 : Below w13.heap.size w13 w15 := b14.trans (b15.mono b14.size)
          have HX2 := hide (maxNat_any A13 A15 k13 k15 c13 c15 t2 1 w15 ((unhide NN13).kept b1315) n15 (by omega) (by omega))
          clear n15
          go_wp2_with fail
          refine (unhide HX2).mono ?_
          rintro e w16 ⟨A16, k16, c16, rfl, n16, -, q16⟩
          have hmx : max t2 1 ≤ 1000 := by omega
          generalize max t2 1 = mx at n16 hmx
          have b1416 : Below w14.heap.size w14 w16 := b15.trans (q16.below _)
          have HM2 := hide (((unhide NN14).kept b1416).mul n16 (by omega) (by omega))
          have hpr : wd * wd * mx ≤ 81 * 1000 := Nat.mul_le_mul hww hmx
          clear n16
          go_wp2_with fail
          refine (unhide HM2).mono ?_
          rintro e w17 ⟨A17, k17, c17, rfl, n17, N17, b17⟩
          generalize wd * wd * mx = pr at n17 hpr
          have NN17 := hide n17
          have HN2 := hide (num_any 200 w17 (by omega))
          have d16 : Below w.heap.size w w16 := d13.trans ((b14.trans (b1416.mono b14.size)).mono d13.size)
          have d17 : Below w.heap.size w w17 := d16.trans (b17.mono d16.size)
          clear n17
          go_wp2_with fail
          refine (unhide HN2).mono ?_
          rintro e w18 ⟨A18, k18, c18, rfl, n18, N18, b18⟩
          have NN18 := hide n18
          have HD2 := hide (divided_any A17 k17 c17 pr 3 w18 ((unhide NN17).kept b18) (by omega) (by omega) (by omega))
          clear n18
          go_wp2_with fail
          refine (unhide HD2).mono ?_
          rintro e w19 ⟨A19, k19, c19, rfl, n19, N19, b19⟩
          have hdv : pr / 3 ≤ pr := Nat.div_le_self _ _
          have HX3 := hide (maxNat_any A18 A19 k18 k19 c18 c19 200 (pr / 3) w19 ((unhide NN18).kept b19) n19 (by omega) (by omega))
          have d18 : Below w.heap.size w w18 := d17.trans (b18.mono d17.size)
          clear n19
          go_wp2_with fail
          refine (unhide HX3).mono ?_
          rintro e w20 ⟨A20, k20, c20, rfl, n20, hA20, q20⟩
          have hm20 : max 200 (pr / 3) ≤ 100000 := by omega
          have NN20 := hide n20
          clear n20
          go_wp2
          refine bodyPost_ret (results_tmp2 rfl _ _ _) rfl ?_
          refine ⟨A20, k20, c20, _, true, rfl, unhide NN20, pow_le40 (k := 8) (by omega) (by omega), ?_, (d18.trans (b19.mono d18.size)).trans (q20.below _)⟩
          rcases hA20 with rfl | rfl
          · exact N18.later d17.size
          · exact N19.later d18.size

end Go.Proofs.YgcsakGreat
