/-
  yp: deposit.
-/
import Derived.Test.YgcsakGreatKiA
namespace Go.Proofs.YgcsakGreat
set_option linter.unusedVariables false
set_option linter.unusedSimpArgs false
set_option maxRecDepth 100000
open Go.RowKit

/-- what a creation's output leaves, and how it is judged -/
def DepR (gas l : Nat) (w : World) (e : Ending) (w' : World) : Prop := ∃ A k c n, ∃ st : Nat, e = .returned (.tuple #[.slice A k c, .int .u8 st]) ∧ IsNat w' A k c n ∧ New w A ∧ st ≤ 13 ∧ n ≤ gas ∧ (st = 0 → l ≤ 256) ∧ (st = 0 ∨ 1 < st) ∧ Below w.heap.size w w'
set_option maxHeartbeats 8000000 in
theorem deposit_any (gb : Nat) (rb : List Value) (gas : Nat) (w : World) (hr : RowT 194 w gb rb) (A4 : Option Addr) (k4 c4 : Nat) (h4 : rb[4]? = some (.slice A4 k4 c4)) (hn : IsNat w A4 k4 c4 gas) (hgas : gas ≤ 1048576) (A : Option Addr) (l c : Nat) (ys : List Int) (hs : Src w A l c ys) (hl : l ≤ 1000000) :
    Calls Sakg.prog 206 #[.pointer (some ⟨gb, 0, none⟩), .slice A l c] w (DepR gas l w) := by
  have hBB := big_ge
  have x4 : ∀ wz, Below w.heap.size w wz → wz.cell? ⟨gb, 4, none⟩ = some (.slice A4 k4 c4) ∧ IsNat wz A4 k4 c4 gas := fun wz hz => ⟨by rw [(hr.kept hz).cell]; exact h4, hn.kept hz⟩
  have X4 := hide x4
  have HS := hide hs
  clear hr h4 hn hs x4
  go_enter Sakg.func206, Sakg.ntmps206
  have HC1 := hide (num_any 200 w (by omega))
  go_wp2_with fail
  refine (unhide HC1).mono ?_
  rintro e w1 ⟨A1, k1, c1, rfl, n1, N1, b1⟩
  have NN1 := hide n1
  clear HC1 n1
  have HC2 := hide (num_any l w1 (by omega))
  go_wp2_with fail
  refine (unhide HC2).mono ?_
  rintro e w2 ⟨A2, k2, c2, rfl, n2, N2, b2⟩
  have NN2 := hide n2
  clear HC2 n2
  have HC3 := hide (((unhide NN1).kept b2).mul (unhide NN2) (by omega) (by omega))
  go_wp2_with fail
  refine (unhide HC3).mono ?_
  rintro e w3 ⟨A3, k3, c3, rfl, n3, N3, b3⟩
  have NN3 := hide n3
  clear HC3 n3
  have d3 : Below w.heap.size w w3 := b1.thn (b2.thn b3)
  by_cases hbig : 256 < l
  · have tb : decide ((256 : Int) < (l : Int)) = true := decide_eq_true (by omega)
    go_wp2
    refine bodyPost_ret (results_tmp2 rfl _ _ _) rfl ?_
    exact ⟨none, 0, 0, 0, 10, rfl, IsNat.nil _, New.nil _, by omega, by omega, fun h => by omega, by omega, d3⟩
  have tb : decide ((256 : Int) < (l : Int)) = false := decide_eq_false (by omega)
  have tbn : ¬ (256 < l) := hbig
  go_upto_region 4 with fail
  go_cut [17] (fun s17 wc => (∃ b, s17 = .bool b) ∧ wc = w3)
  case first =>
    by_cases h0 : 0 < l
    · have t0 : decide ((0 : Int) < (l : Int)) = true := decide_eq_true (by omega)
      have hs3 := (unhide HS).kept d3
      obtain ⟨bb, off, rfl, hcs⟩ := hs3.at_ h0
      have hc0 := hcs 0 h0
      rw [Nat.add_zero] at hc0
      have hby := hs3.byt (ys.getD 0 0) (by have := hs3.len_eq; rw [List.getD_eq_getElem?_getD, List.getElem?_eq_getElem (by omega)]; simp)
      generalize ys.getD 0 0 = y0 at hc0 hby
      clear hcs hs3
      go_wp2_with fail
      go_meet
      case rel => exact ⟨⟨_, rfl⟩, rfl⟩
    · obtain rfl : l = 0 := by omega
      go_wp2_with fail
      go_meet
      case rel => exact ⟨⟨_, rfl⟩, rfl⟩
  case rest =>
  obtain ⟨⟨ef, rfl⟩, hwc⟩ := hcut
  subst hwc
  cases ef
  rotate_left
  · go_wp2
    refine bodyPost_ret (results_tmp2 rfl _ _ _) rfl ?_
    exact ⟨none, 0, 0, 0, 11, rfl, IsNat.nil _, New.nil _, by omega, by omega, fun h => by omega, by omega, d3⟩
  have y4 := (unhide X4 _ d3).1
  have HCM := hide ((unhide NN3).cmp (unhide X4 _ d3).2 (by omega) (by omega))
  have hcg := cmp_gt (200 * l) gas
  generalize cmpI (200 * l) gas = cg at HCM hcg
  go_wp2_with fail
  refine (unhide HCM).mono ?_
  rintro e w4 ⟨rfl, q4⟩
  have b4 : Below wc.heap.size wc w4 := q4.below _
  have d4 : Below w.heap.size w w4 := d3.thn b4
  clear q4 y4
  by_cases hog : gas < 200 * l
  · rw [decide_eq_true hog] at hcg
    go_wp2
    refine bodyPost_ret (results_tmp2 rfl _ _ _) rfl ?_
    exact ⟨none, 0, 0, 0, 2, rfl, IsNat.nil _, New.nil _, by omega, by omega, fun h => by omega, by omega, d4⟩
  rw [decide_eq_false hog] at hcg
  have z4 := (unhide X4 _ d4).1
  have HL := hide (less_any A4 A3 k4 k3 c4 c3 gas (200 * l) w4 (unhide X4 _ d4).2 ((unhide NN3).kept b4) (by omega) (by omega))
  go_wp2_with (go_at_call 101; refine (unhide HL).mono ?_; rintro e w5 ⟨A5, k5, c5, rfl, n5, N5, b5⟩; have NN5 := hide n5; clear n5)
  refine bodyPost_ret (results_tmp2 rfl _ _ _) rfl ?_
  exact ⟨A5, k5, c5, gas - 200 * l, 0, rfl, unhide NN5, N5.later d4.size, by omega, by omega, fun _ => by omega, by omega, d4.thn b5⟩

end Go.Proofs.YgcsakGreat
