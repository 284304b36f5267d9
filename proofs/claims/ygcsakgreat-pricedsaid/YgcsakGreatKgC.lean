/-
  yp.Sstore: what a store costs and does to the refund counter, in bounds.
-/
import Derived.Test.YgcsakGreatKgB
import Derived.Deep.CutBlock
namespace Go.Proofs.YgcsakGreat
set_option linter.unusedVariables false
set_option linter.unusedSimpArgs false
set_option maxRecDepth 100000
open Go.RowKit

def SstR (w : World) (e : Ending) (w' : World) : Prop := ∃ A k c a A' k' c' p A'' k'' c'' m, e = .returned (.tuple #[.slice A k c, .slice A' k' c', .slice A'' k'' c'']) ∧ IsNat w' A k c a ∧ IsNat w' A' k' c' p ∧ IsNat w' A'' k'' c'' m ∧ New w A ∧ New w A' ∧ New w A'' ∧ 100 ≤ a ∧ a ≤ 30000 ∧ p ≤ 25000 ∧ m ≤ 5000 ∧ Below w.heap.size w w'
/-- a new number at most so great -/
def UpTo (w0 : World) (v : Value) (w : World) (lo hi : Nat) : Prop := ∃ A k c n, v = .slice A k c ∧ IsNat w A k c n ∧ New w0 A ∧ lo ≤ n ∧ n ≤ hi
theorem UpTo.kept {w0 w w' : World} {v : Value} {lo hi : Nat} (h : UpTo w0 v w lo hi) (hb : Below w.heap.size w w') : UpTo w0 v w' lo hi := by
  obtain ⟨A, k, c, n, h1, h2, h3, h4⟩ := h
  exact ⟨A, k, c, n, h1, h2.kept hb, h3, h4⟩
theorem UpTo.nil (w0 w : World) (hi : Nat) : UpTo w0 (.slice none 0 0) w 0 hi := ⟨none, 0, 0, 0, rfl, IsNat.nil _, New.nil _, Nat.le_refl _, Nat.zero_le _⟩

set_option maxHeartbeats 16000000 in
theorem sstoreF_same (Ao Av An : Option Addr) (lo co lv cv ln cn o v n : Nat) (cold : Bool) (w : World) (ho : IsNat w Ao lo co o) (hv : IsNat w Av lv cv v) (hn : IsNat w An ln cn n) (xo : o < BIG) (xv : v < BIG) (xn : n < BIG) (h1 : n = v) :
    Calls Sakg.prog 485 #[.slice Ao lo co, .slice Av lv cv, .slice An ln cn, .bool cold] w (SstR w) := by
  have hBB := big_ge
  have t1 : (cmpI n v == 0) = true := by rw [cmp_zero]; simp [h1]
  have t2 : (cmpI v o == 0) = decide (v = o) := by rw [cmp_zero]
  generalize decide (v = o) = b2 at t2
  have HO := hide ho
  have HV := hide hv
  have HN := hide hn
  have HC1 := hide (hn.cmp hv xn xv)
  generalize cmpI n v = c1 at HC1 t1
  generalize hc2 : cmpI v o = c2 at t2
  have HC2 := hide hc2
  clear ho hv hn hc2 h1
  go_enter Sakg.func485, Sakg.ntmps485
  go_wp2_with fail
  refine (unhide HC1).mono ?_
  rintro e w1 ⟨rfl, q1⟩
  have b1 : Below w.heap.size w w1 := q1.below _
  have HC := hide (((unhide HV).kept b1).cmp ((unhide HO).kept b1) xv xo)
  rw [unhide HC2] at HC
  clear q1
  go_wp2_with fail
  refine (unhide HC).mono ?_
  rintro e w2 ⟨rfl, q2⟩
  have d2 : Below w.heap.size w w2 := b1.thn (q2.below _)
  clear q2 HC HC1
  go_upto_block 0 with fail
  go_cut [8] (fun s8 wc => UpTo w s8 wc 100 20000 ∧ Below w.heap.size w wc)
  case first =>
    go_wp2_with (go_at_call 97; refine (num_any 100 w2 (by omega)).mono ?_; rintro e w3 ⟨A3, k3, c3, rfl, n3, N3, b3⟩; have NN3 := hide n3; clear n3)
    go_meet
    case rel => exact ⟨⟨A3, k3, c3, 100, rfl, unhide NN3, N3.later d2.size, by omega, by omega⟩, d2.thn b3⟩
  case rest =>
  obtain ⟨wA, hwA⟩ : ∃ wA, wA = wc := ⟨_, rfl⟩
  subst hwA
  obtain ⟨⟨A8, k8, c8, n8, rfl, m8, M8, l8, u8⟩, dA⟩ := hcut
  have NN8 := hide m8
  clear m8 d2 b1
  go_upto_if 34 with fail
  go_cut [8] (fun s8 wc => UpTo w s8 wc 100 30000 ∧ Below w.heap.size w wc)
  case first =>
    cases cold
    · go_wp2_with fail
      go_meet
      case rel => exact ⟨⟨A8, k8, c8, n8, rfl, unhide NN8, M8, by omega, by omega⟩, dA⟩
    · have HN1 := hide (num_any 2100 wA (by omega))
      go_wp2_with fail
      refine (unhide HN1).mono ?_
      rintro e w3 ⟨A3, k3, c3, rfl, n3, N3, b3⟩
      have HAD := hide (((unhide NN8).kept b3).add n3 (by omega) (by omega))
      clear n3
      go_wp2_with (go_at_call 59; refine (unhide HAD).mono ?_; rintro e w4 ⟨A4, k4, c4, rfl, n4, N4, b4⟩; have NN4 := hide n4; clear n4)
      go_meet
      case rel => exact ⟨⟨A4, k4, c4, n8 + 2100, rfl, unhide NN4, N4.later (Nat.le_trans dA.size b3.size), by omega, by omega⟩, dA.thn (b3.thn b4)⟩
  case rest =>
  obtain ⟨wB, hwB⟩ : ∃ wB, wB = wc := ⟨_, rfl⟩
  subst hwB
  obtain ⟨⟨A9, k9, c9, n9, rfl, m9, M9, l9, u9⟩, dB⟩ := hcut
  have NN9 := hide m9
  clear m9 dA NN8
  go_wp2
  go_ret3
  exact ⟨A9, k9, c9, n9, none, 0, 0, 0, none, 0, 0, 0, rfl, unhide NN9, IsNat.nil _, IsNat.nil _, M9, New.nil _, New.nil _, by omega, by omega, by omega, by omega, dB⟩
set_option maxHeartbeats 16000000 in
theorem sstoreF_late (Ao Av An : Option Addr) (lo co lv cv ln cn o v n : Nat) (cold : Bool) (w : World) (ho : IsNat w Ao lo co o) (hv : IsNat w Av lv cv v) (hn : IsNat w An ln cn n) (xo : o < BIG) (xv : v < BIG) (xn : n < BIG) (h1 : n ≠ v) (h2 : v ≠ o) :
    Calls Sakg.prog 485 #[.slice Ao lo co, .slice Av lv cv, .slice An ln cn, .bool cold] w (SstR w) := by
  have hBB := big_ge
  have t1 : (cmpI n v == 0) = false := by rw [cmp_zero]; simp [h1]
  have t2 : (cmpI v o == 0) = false := by rw [cmp_zero]; simp [h2]
  
  have HO := hide ho
  have HV := hide hv
  have HN := hide hn
  have HC1 := hide (hn.cmp hv xn xv)
  generalize cmpI n v = c1 at HC1 t1
  generalize hc2 : cmpI v o = c2 at t2
  have HC2 := hide hc2
  clear ho hv hn hc2
  go_enter Sakg.func485, Sakg.ntmps485
  go_wp2_with fail
  refine (unhide HC1).mono ?_
  rintro e w1 ⟨rfl, q1⟩
  have b1 : Below w.heap.size w w1 := q1.below _
  have HC := hide (((unhide HV).kept b1).cmp ((unhide HO).kept b1) xv xo)
  rw [unhide HC2] at HC
  clear q1
  go_wp2_with fail
  refine (unhide HC).mono ?_
  rintro e w2 ⟨rfl, q2⟩
  have d2 : Below w.heap.size w w2 := b1.thn (q2.below _)
  clear q2 HC HC1
  go_upto_block 0 with fail
  go_cut [8] (fun s8 wc => UpTo w s8 wc 100 20000 ∧ Below w.heap.size w wc)
  case first =>
    go_wp2_with (go_at_call 97; refine (num_any 100 w2 (by omega)).mono ?_; rintro e w3 ⟨A3, k3, c3, rfl, n3, N3, b3⟩; have NN3 := hide n3; clear n3)
    go_meet
    case rel => exact ⟨⟨A3, k3, c3, 100, rfl, unhide NN3, N3.later d2.size, by omega, by omega⟩, d2.thn b3⟩
  case rest =>
  obtain ⟨wA, hwA⟩ : ∃ wA, wA = wc := ⟨_, rfl⟩
  subst hwA
  obtain ⟨⟨A8, k8, c8, n8, rfl, m8, M8, l8, u8⟩, dA⟩ := hcut
  have NN8 := hide m8
  clear m8 d2 b1
  go_upto_if 34 with fail
  go_cut [8] (fun s8 wc => UpTo w s8 wc 100 30000 ∧ Below w.heap.size w wc)
  case first =>
    cases cold
    · go_wp2_with fail
      go_meet
      case rel => exact ⟨⟨A8, k8, c8, n8, rfl, unhide NN8, M8, by omega, by omega⟩, dA⟩
    · have HN1 := hide (num_any 2100 wA (by omega))
      go_wp2_with fail
      refine (unhide HN1).mono ?_
      rintro e w3 ⟨A3, k3, c3, rfl, n3, N3, b3⟩
      have HAD := hide (((unhide NN8).kept b3).add n3 (by omega) (by omega))
      clear n3
      go_wp2_with (go_at_call 59; refine (unhide HAD).mono ?_; rintro e w4 ⟨A4, k4, c4, rfl, n4, N4, b4⟩; have NN4 := hide n4; clear n4)
      go_meet
      case rel => exact ⟨⟨A4, k4, c4, n8 + 2100, rfl, unhide NN4, N4.later (Nat.le_trans dA.size b3.size), by omega, by omega⟩, dA.thn (b3.thn b4)⟩
  case rest =>
  obtain ⟨wB, hwB⟩ : ∃ wB, wB = wc := ⟨_, rfl⟩
  subst hwB
  obtain ⟨⟨A9, k9, c9, n9, rfl, m9, M9, l9, u9⟩, dB⟩ := hcut
  have NN9 := hide m9
  clear m9 dA NN8
  have HZ := hide (isZero_any Ao lo co o wB ((unhide HO).kept dB) xo)
  generalize hoz : decide (o = 0) = oz at HZ
  have HOZ := hide hoz
  clear hoz
  go_upto_if 53 with (go_at_call 130; refine (unhide HZ).mono ?_; rintro e w3 ⟨rfl, q3⟩; have b3 : Below wB.heap.size wB w3 := q3.below _; have d3 : Below w.heap.size w w3 := dB.thn b3; clear q3)
  go_cut [9, 10] (fun s9 s10 wc => UpTo w s9 wc 0 4800 ∧ UpTo w s10 wc 0 4800 ∧ Below w3.heap.size w3 wc)
  case first =>
    cases oz
    · have HZ2 := hide (isZero_any Av lv cv v w3 ((unhide HV).kept d3) xv)
      generalize decide (v = 0) = vz at HZ2
      go_wp2_with (go_at_call 130; refine (unhide HZ2).mono ?_; rintro e w4 ⟨rfl, q4⟩; have b4 : Below w3.heap.size w3 w4 := q4.below _; have d4 : Below w.heap.size w w4 := d3.thn b4; clear q4; cases vz)
      · have HZ3 := hide (isZero_any An ln cn n w4 ((unhide HN).kept d4) xn)
        generalize decide (n = 0) = nz at HZ3
        go_wp2_with (go_at_call 130; refine (unhide HZ3).mono ?_; rintro e w5 ⟨rfl, q5⟩; have b5 : Below w3.heap.size w3 w5 := b4.thn (q5.below _); have d5 : Below w.heap.size w w5 := d3.thn b5; clear q5; cases nz)
        · go_meet
          case rel => exact ⟨UpTo.nil _ _ _, UpTo.nil _ _ _, b5⟩
        · go_wp2_with (go_at_call 97; refine (num_any 4800 w5 (by omega)).mono ?_; rintro e w6 ⟨A6, k6, c6, rfl, n6, N6, b6⟩; have NN6 := hide n6; clear n6)
          go_meet
          case rel => exact ⟨⟨A6, k6, c6, 4800, rfl, unhide NN6, N6.later d5.size, by omega, by omega⟩, UpTo.nil _ _ _, b5.thn b6⟩
      · go_wp2_with (go_at_call 97; refine (num_any 4800 w4 (by omega)).mono ?_; rintro e w6 ⟨A6, k6, c6, rfl, n6, N6, b6⟩; have NN6 := hide n6; clear n6)
        go_meet
        case rel => exact ⟨UpTo.nil _ _ _, ⟨A6, k6, c6, 4800, rfl, unhide NN6, N6.later d4.size, by omega, by omega⟩, b4.thn b6⟩
    · go_wp2_with fail
      go_meet
      case rel => exact ⟨UpTo.nil _ _ _, UpTo.nil _ _ _, Below.refl _ _⟩
  case rest =>
  obtain ⟨wC, hwC⟩ : ∃ wC, wC = wc := ⟨_, rfl⟩
  subst hwC
  obtain ⟨⟨Ap, kp, cp, np, rfl, mp, Mp, lp, up⟩, ⟨Am, km, cm, nm, rfl, mm, Mm, lm, um⟩, bC⟩ := hcut
  have dC : Below w.heap.size w wC := d3.thn bC
  have bBC : Below wB.heap.size wB wC := b3.thn bC
  have NNp := hide mp
  have NNm := hide mm
  have HC3 := hide (((unhide HN).kept dC).cmp ((unhide HO).kept dC) xn xo)
  have t3 : (cmpI n o == 0) = decide (n = o) := cmp_zero n o
  generalize cmpI n o = c3 at HC3 t3
  generalize decide (n = o) = no at t3
  clear mp mm
  go_wp2_with fail
  refine (unhide HC3).mono ?_
  rintro e w5 ⟨rfl, q5⟩
  have b5 : Below wC.heap.size wC w5 := q5.below _
  have d5 : Below w.heap.size w w5 := dC.thn b5
  clear q5
  cases no
  · go_wp2
    go_ret3
    exact ⟨A9, k9, c9, n9, Ap, kp, cp, np, Am, km, cm, nm, rfl, (unhide NN9).kept (bBC.thn b5), (unhide NNp).kept b5, (unhide NNm).kept b5, M9, Mp, Mm, by omega, by omega, by omega, by omega, d5⟩
  · have HN6 := hide (num_any 19900 w5 (by omega))
    go_wp2_with fail
    refine (unhide HN6).mono ?_
    rintro e w6 ⟨A6, k6, c6, rfl, n6, N6, b6⟩
    have d6 : Below w.heap.size w w6 := d5.thn b6
    have NN6 := hide n6
    have HZ6 := hide (isZero_any Ao lo co o w6 ((unhide HO).kept d6) xo)
    generalize decide (o = 0) = oz2 at HZ6
    clear n6
    go_upto_if 67 with (go_at_call 130; refine (unhide HZ6).mono ?_; rintro e w7 ⟨rfl, q7⟩; have b7 : Below w6.heap.size w6 w7 := q7.below _; clear q7)
    go_cut [13] (fun s13 wc => UpTo w s13 wc 0 19900 ∧ Below w7.heap.size w7 wc)
    case first =>
      cases oz2
      · go_wp2_with (go_at_call 97; refine (num_any 2800 w7 (by omega)).mono ?_; rintro e w8 ⟨A8, k8, c8, rfl, n8, N8, b8⟩; have NN8 := hide n8; clear n8)
        go_meet
        case rel => exact ⟨⟨A8, k8, c8, 2800, rfl, unhide NN8, N8.later (d6.thn b7).size, by omega, by omega⟩, b8⟩
      · go_wp2_with fail
        go_meet
        case rel => exact ⟨⟨A6, k6, c6, 19900, rfl, (unhide NN6).kept b7, N6.later d5.size, by omega, by omega⟩, Below.refl _ _⟩
    case rest =>
    obtain ⟨wD, hwD⟩ : ∃ wD, wD = wc := ⟨_, rfl⟩
    subst hwD
    obtain ⟨⟨Ab, kb, cb, nb, rfl, mb, Mb, lb, ub⟩, bD⟩ := hcut
    have bCD : Below wC.heap.size wC wD := b5.thn (b6.thn (b7.thn bD))
    have HAD := hide (((unhide NNp).kept bCD).add mb (by omega) (by omega))
    clear mb
    go_wp2_with (go_at_call 59; refine (unhide HAD).mono ?_; rintro e w9 ⟨Az, kz, cz, rfl, nz, Nz, bz⟩; have NNz := hide nz; clear nz)
    go_ret3
    exact ⟨A9, k9, c9, n9, Az, kz, cz, np + nb, Am, km, cm, nm, rfl, (unhide NN9).kept (bBC.thn (bCD.thn bz)), unhide NNz, (unhide NNm).kept (bCD.thn bz), M9, Nz.later (dC.thn bCD).size, Mm, by omega, by omega, by omega, by omega, dC.thn (bCD.thn bz)⟩
set_option maxHeartbeats 16000000 in
theorem sstoreF_first (Ao Av An : Option Addr) (lo co lv cv ln cn o v n : Nat) (cold : Bool) (w : World) (ho : IsNat w Ao lo co o) (hv : IsNat w Av lv cv v) (hn : IsNat w An ln cn n) (xo : o < BIG) (xv : v < BIG) (xn : n < BIG) (h1 : n ≠ v) (h2 : v = o) :
    Calls Sakg.prog 485 #[.slice Ao lo co, .slice Av lv cv, .slice An ln cn, .bool cold] w (SstR w) := by
  have hBB := big_ge
  have t1 : (cmpI n v == 0) = false := by rw [cmp_zero]; simp [h1]
  have t2 : (cmpI v o == 0) = true := by rw [cmp_zero]; simp [h2]
  
  have HO := hide ho
  have HV := hide hv
  have HN := hide hn
  have HC1 := hide (hn.cmp hv xn xv)
  generalize cmpI n v = c1 at HC1 t1
  generalize hc2 : cmpI v o = c2 at t2
  have HC2 := hide hc2
  clear ho hv hn hc2
  go_enter Sakg.func485, Sakg.ntmps485
  go_wp2_with fail
  refine (unhide HC1).mono ?_
  rintro e w1 ⟨rfl, q1⟩
  have b1 : Below w.heap.size w w1 := q1.below _
  have HC := hide (((unhide HV).kept b1).cmp ((unhide HO).kept b1) xv xo)
  rw [unhide HC2] at HC
  clear q1
  go_wp2_with fail
  refine (unhide HC).mono ?_
  rintro e w2 ⟨rfl, q2⟩
  have d2 : Below w.heap.size w w2 := b1.thn (q2.below _)
  clear q2 HC HC1
  go_upto_block 0 with fail
  go_cut [8] (fun s8 wc => UpTo w s8 wc 100 20000 ∧ Below w.heap.size w wc)
  case first =>
    have HZ := hide (isZero_any Ao lo co o w2 ((unhide HO).kept d2) xo)
    generalize decide (o = 0) = oz at HZ
    go_wp2_with (go_at_call 130; refine (unhide HZ).mono ?_; rintro e w3 ⟨rfl, q3⟩; have d3 : Below w.heap.size w w3 := d2.thn (q3.below _); clear q3; cases oz)
    · go_wp2_with (go_at_call 97; refine (num_any 2900 w3 (by omega)).mono ?_; rintro e w4 ⟨A3, k3, c3, rfl, n3, N3, b3⟩; have NN3 := hide n3; clear n3)
      go_meet
      case rel => exact ⟨⟨A3, k3, c3, 2900, rfl, unhide NN3, N3.later d3.size, by omega, by omega⟩, d3.thn b3⟩
    · go_wp2_with (go_at_call 97; refine (num_any 20000 w3 (by omega)).mono ?_; rintro e w4 ⟨A3, k3, c3, rfl, n3, N3, b3⟩; have NN3 := hide n3; clear n3)
      go_meet
      case rel => exact ⟨⟨A3, k3, c3, 20000, rfl, unhide NN3, N3.later d3.size, by omega, by omega⟩, d3.thn b3⟩
  case rest =>
  obtain ⟨wA, hwA⟩ : ∃ wA, wA = wc := ⟨_, rfl⟩
  subst hwA
  obtain ⟨⟨A8, k8, c8, n8, rfl, m8, M8, l8, u8⟩, dA⟩ := hcut
  have NN8 := hide m8
  clear m8 d2 b1
  go_upto_if 34 with fail
  go_cut [8] (fun s8 wc => UpTo w s8 wc 100 30000 ∧ Below w.heap.size w wc)
  case first =>
    cases cold
    · go_wp2_with fail
      go_meet
      case rel => exact ⟨⟨A8, k8, c8, n8, rfl, unhide NN8, M8, by omega, by omega⟩, dA⟩
    · have HN1 := hide (num_any 2100 wA (by omega))
      go_wp2_with fail
      refine (unhide HN1).mono ?_
      rintro e w3 ⟨A3, k3, c3, rfl, n3, N3, b3⟩
      have HAD := hide (((unhide NN8).kept b3).add n3 (by omega) (by omega))
      clear n3
      go_wp2_with (go_at_call 59; refine (unhide HAD).mono ?_; rintro e w4 ⟨A4, k4, c4, rfl, n4, N4, b4⟩; have NN4 := hide n4; clear n4)
      go_meet
      case rel => exact ⟨⟨A4, k4, c4, n8 + 2100, rfl, unhide NN4, N4.later (Nat.le_trans dA.size b3.size), by omega, by omega⟩, dA.thn (b3.thn b4)⟩
  case rest =>
  obtain ⟨wB, hwB⟩ : ∃ wB, wB = wc := ⟨_, rfl⟩
  subst hwB
  obtain ⟨⟨A9, k9, c9, n9, rfl, m9, M9, l9, u9⟩, dB⟩ := hcut
  have NN9 := hide m9
  clear m9 dA NN8
  have HZ := hide (isZero_any Ao lo co o wB ((unhide HO).kept dB) xo)
  generalize decide (o = 0) = oz at HZ
  go_wp2_with (go_at_call 130; refine (unhide HZ).mono ?_; rintro e w3 ⟨rfl, q3⟩; have b3 : Below wB.heap.size wB w3 := q3.below _; have d3 : Below w.heap.size w w3 := dB.thn b3; clear q3; cases oz)
  · have HZ2 := hide (isZero_any An ln cn n w3 ((unhide HN).kept d3) xn)
    generalize decide (n = 0) = nz at HZ2
    go_wp2_with (go_at_call 130; refine (unhide HZ2).mono ?_; rintro e w4 ⟨rfl, q4⟩; have b4 : Below wB.heap.size wB w4 := b3.thn (q4.below _); have d4 : Below w.heap.size w w4 := dB.thn b4; clear q4; cases nz)
    · go_ret3
      exact ⟨A9, k9, c9, n9, none, 0, 0, 0, none, 0, 0, 0, rfl, (unhide NN9).kept b4, IsNat.nil _, IsNat.nil _, M9, New.nil _, New.nil _, by omega, by omega, by omega, by omega, d4⟩
    · go_wp2_with (go_at_call 97; refine (num_any 4800 w4 (by omega)).mono ?_; rintro e w5 ⟨A5, k5, c5, rfl, n5, N5, b5⟩; have NN5 := hide n5; clear n5)
      go_ret3
      exact ⟨A9, k9, c9, n9, A5, k5, c5, 4800, none, 0, 0, 0, rfl, (unhide NN9).kept (b4.thn b5), unhide NN5, IsNat.nil _, M9, N5.later d4.size, New.nil _, by omega, by omega, by omega, by omega, d4.thn b5⟩
  · go_wp2
    go_ret3
    exact ⟨A9, k9, c9, n9, none, 0, 0, 0, none, 0, 0, 0, rfl, (unhide NN9).kept b3, IsNat.nil _, IsNat.nil _, M9, New.nil _, New.nil _, by omega, by omega, by omega, by omega, d3⟩
theorem sstoreF_any (Ao Av An : Option Addr) (lo co lv cv ln cn o v n : Nat) (cold : Bool) (w : World) (ho : IsNat w Ao lo co o) (hv : IsNat w Av lv cv v) (hn : IsNat w An ln cn n) (xo : o < BIG) (xv : v < BIG) (xn : n < BIG) :
    Calls Sakg.prog 485 #[.slice Ao lo co, .slice Av lv cv, .slice An ln cn, .bool cold] w (SstR w) := by
  by_cases h1 : n = v
  · exact sstoreF_same Ao Av An lo co lv cv ln cn o v n cold w ho hv hn xo xv xn h1
  by_cases h2 : v = o
  · exact sstoreF_first Ao Av An lo co lv cv ln cn o v n cold w ho hv hn xo xv xn h1 h2
  · exact sstoreF_late Ao Av An lo co lv cv ln cn o v n cold w ho hv hn xo xv xn h1 h2

end Go.Proofs.YgcsakGreat
