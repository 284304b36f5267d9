/-
  yp: a frame in memory; arg, place, opcode, small, end, MemCost, ExpCost.
-/
import Derived.Test.YgcsakGreatOpA
import Derived.Test.YgcsakGreatStG
import Derived.Deep.QuietTactic
namespace Go.Proofs.YgcsakGreat
set_option linter.unusedVariables false
set_option linter.unusedSimpArgs false
set_option maxRecDepth 100000
open Go.RowKit

set_option maxHeartbeats 1000000 in
theorem small_any (a : Option Addr) (la ca m : Nat) (w : World) (h : IsNat w a la ca m) (hm : m < BIG) :
    Calls Sakg.prog 55 #[.slice a la ca] w fun e w' => e = .returned (.int .u64 (u64N m)) ∧ w = w' := by
  have HC := hide (u64_any a la ca m w h hm)
  clear h
  go_enter Sakg.func55, Sakg.ntmps55
  go_wp2_with fail
  refine (unhide HC).mono ?_
  rintro e w1 ⟨rfl, rfl⟩
  go_wp2
  go_ret
  exact ⟨rfl, rfl⟩

/-- an index that lies within -/
def placeN (m l : Nat) : Nat := if m < l then m else 0
set_option maxHeartbeats 1000000 in
theorem place_any (a : Option Addr) (la ca m l : Nat) (w : World) (h : IsNat w a la ca m) (hm : m < BIG) (hl : l ≤ 1000000000) :
    Calls Sakg.prog 201 #[.slice a la ca, .int .i64 l] w fun e w' => e = .returned (.tuple #[.int .i64 (placeN m l), .bool (decide (m < l))]) ∧ w = w' := by
  have HC := hide (u64_any a la ca m w h hm)
  clear h
  by_cases hlt : m < l
  · have hu : u64N m = m := by unfold u64N; rw [if_pos (by omega)]
    have hf : fits64 m = true := by unfold fits64; exact decide_eq_true (by omega)
    have hp : placeN m l = m := if_pos hlt
    have hge : decide ((l : Int) ≤ (m : Int)) = false := decide_eq_false (by omega)
    rw [hu, hf] at HC
    rw [hp, decide_eq_true hlt]
    clear hu hf hp
    go_enter Sakg.func201, Sakg.ntmps201
    go_wp2_with (go_at_call 131; refine (unhide HC).mono ?_; rintro e w1 ⟨rfl, rfl⟩)
    refine bodyPost_ret (results_tmp2 rfl _ _ _) rfl ?_
    exact ⟨rfl, rfl⟩
  · have hp : placeN m l = 0 := if_neg hlt
    rw [hp, decide_eq_false hlt]
    clear hp
    cases hf : fits64 m with
    | false =>
      rw [hf] at HC
      generalize u64N m = um at HC
      clear hf
      go_enter Sakg.func201, Sakg.ntmps201
      go_wp2_with (go_at_call 131; refine (unhide HC).mono ?_; rintro e w1 ⟨rfl, rfl⟩)
      refine bodyPost_ret (results_tmp2 rfl _ _ _) rfl ?_
      exact ⟨rfl, rfl⟩
    | true =>
      have hu : u64N m = m := by unfold u64N; rw [if_pos (of_decide_eq_true hf)]
      rw [hf, hu] at HC
      have hge : decide ((l : Int) ≤ (m : Int)) = true := decide_eq_true (by omega)
      clear hf hu
      go_enter Sakg.func201, Sakg.ntmps201
      go_wp2_with (go_at_call 131; refine (unhide HC).mono ?_; rintro e w1 ⟨rfl, rfl⟩)
      refine bodyPost_ret (results_tmp2 rfl _ _ _) rfl ?_
      exact ⟨rfl, rfl⟩

def endN (m n : Nat) : Nat := if n = 0 then 0 else m + n
set_option maxHeartbeats 1000000 in
theorem end_any (a b : Option Addr) (la ca lb cb m n : Nat) (w : World) (h1 : IsNat w a la ca m) (h2 : IsNat w b lb cb n) (hm : m < BIG) (hn : n < BIG) :
    Calls Sakg.prog 209 #[.slice a la ca, .slice b lb cb] w (MakesNat w (endN m n)) := by
  have HZ := hide (isZero_any b lb cb n w h2 hn)
  have H1 := hide h1
  have H2 := hide h2
  clear h1 h2
  by_cases h0 : n = 0
  · have hz : decide (n = 0) = true := decide_eq_true h0
    have hr : endN m n = 0 := if_pos h0
    rw [hz] at HZ
    rw [hr]
    clear hz hr
    go_enter Sakg.func209, Sakg.ntmps209
    go_wp2_with (go_at_call 130; refine (unhide HZ).mono ?_; rintro e w1 ⟨rfl, n1, rfl⟩)
    go_ret
    exact ⟨_, _, _, rfl, IsNat.nil _, New.nil _, Quiet.below ⟨n1, rfl⟩ _⟩
  · have hz : decide (n = 0) = false := decide_eq_false h0
    have hr : endN m n = m + n := if_neg h0
    rw [hz] at HZ
    rw [hr]
    clear hz hr
    go_enter Sakg.func209, Sakg.ntmps209
    go_wp2_with (go_at_call 130; refine (unhide HZ).mono ?_; rintro e w1 ⟨rfl, n1, rfl⟩)
    have b1 : Below w.heap.size w (w.drewN n1) := Quiet.below ⟨n1, rfl⟩ _
    refine (((unhide H1).kept b1).add ((unhide H2).kept b1) hm hn).mono ?_
    rintro e w2 ⟨A, k, c, rfl, n2, N2, b2⟩
    have HN2 := hide n2
    clear n2
    go_wp2
    go_ret
    exact ⟨A, k, c, rfl, unhide HN2, N2.later b1.size, b1.trans (b2.mono b1.size)⟩

def memN (m : Nat) : Nat := 3 * m + m * m / 512
set_option maxHeartbeats 2000000 in
theorem memCost_any (a : Option Addr) (la ca m : Nat) (w : World) (h : IsNat w a la ca m) (hm : m < 1000000) :
    Calls Sakg.prog 301 #[.slice a la ca] w (MakesNat w (memN m)) := by
  have hBB := big_ge
  have hmB : m < BIG := by omega
  have hsq : m * m < 1000000000000 := by
    have := Nat.mul_lt_mul'' hm hm
    omega
  have H := hide h
  have HN := hide (num_any 3 w (by omega))
  clear h
  go_enter Sakg.func301, Sakg.ntmps301
  go_wp2_with fail
  refine (unhide HN).mono ?_
  rintro e w1 ⟨A1, k1, c1, rfl, n1, N1, b1⟩
  have HM := hide (n1.mul ((unhide H).kept b1) (by omega) hmB)
  clear n1
  go_wp2_with fail
  refine (unhide HM).mono ?_
  rintro e w2 ⟨A2, k2, c2, rfl, n2, N2, b2⟩
  have d2 : Below w.heap.size w w2 := b1.trans (b2.mono b1.size)
  have NN2 := hide n2
  have HM2 := hide (((unhide H).kept d2).mul ((unhide H).kept d2) hmB hmB)
  clear n2
  go_wp2_with fail
  refine (unhide HM2).mono ?_
  rintro e w3 ⟨A3, k3, c3, rfl, n3, N3, b3⟩
  have HD := hide (divided_any A3 k3 c3 _ 512 w3 n3 (by omega) (by omega) (by omega))
  clear n3
  go_wp2_with fail
  refine (unhide HD).mono ?_
  rintro e w4 ⟨A4, k4, c4, rfl, n4, N4, b4⟩
  have b24 : Below w2.heap.size w2 w4 := b3.trans (b4.mono b3.size)
  have d4 : Below w.heap.size w w4 := d2.trans (b24.mono d2.size)
  have hq : m * m / 512 ≤ m * m := Nat.div_le_self _ _
  have HA := hide (((unhide NN2).kept b24).add n4 (by omega) (by omega))
  clear n4
  go_wp2_with fail
  refine (unhide HA).mono ?_
  rintro e w5 ⟨A5, k5, c5, rfl, n5, N5, b5⟩
  have HN5 := hide n5
  clear n5
  go_wp2
  go_ret
  exact ⟨A5, k5, c5, rfl, unhide HN5, N5.later d4.size, d4.trans (b5.mono d4.size)⟩

def expN (m : Nat) : Nat := 10 + 50 * dlen m
set_option maxHeartbeats 2000000 in
theorem expCost_any (a : Option Addr) (la ca m : Nat) (w : World) (h : IsNat w a la ca m) (hm : m < P256) :
    Calls Sakg.prog 420 #[.slice a la ca] w (MakesNat w (expN m)) := by
  have hBB := big_ge
  have hmB : m < BIG := Nat.lt_trans hm p256_lt
  have hl := h.len 32 hm
  have H := hide h
  have HN := hide (num_any 10 w (by omega))
  clear h
  go_enter Sakg.func420, Sakg.ntmps420
  go_wp2_with fail
  refine (unhide HN).mono ?_
  rintro e w1 ⟨A1, k1, c1, rfl, n1, N1, b1⟩
  have NN1 := hide n1
  have HN2 := hide (num_any 50 w1 (by omega))
  clear n1
  go_wp2_with fail
  refine (unhide HN2).mono ?_
  rintro e w2 ⟨A2, k2, c2, rfl, n2, N2, b2⟩
  have NN2 := hide n2
  have d2 : Below w.heap.size w w2 := b1.trans (b2.mono b1.size)
  obtain ⟨xs, s1, s2, s3, s4⟩ := (unhide H).kept d2
  have HNN := hide (norm_nat a la ca xs w2 s1 (by omega))
  rw [s3] at HNN
  clear n2 s1 s2 s3 s4
  go_wp2_with fail
  refine (unhide HNN).mono ?_
  rintro e w3 ⟨A3, k3, c3, rfl, n3, N3, b3⟩
  have HK3 := hide (n3.dlen hmB)
  have hk3l := n3.len 32 hm
  have HN3 := hide (num_any k3 w3 (by omega))
  clear n3
  go_wp2_with fail
  refine (unhide HN3).mono ?_
  rintro e w4 ⟨A4, k4, c4, rfl, n4, N4, b4⟩
  have b24 : Below w2.heap.size w2 w4 := b3.trans (b4.mono b3.size)
  have HM := hide (((unhide NN2).kept b24).mul n4 (by omega) (by omega))
  clear n4
  go_wp2_with fail
  refine (unhide HM).mono ?_
  rintro e w5 ⟨A5, k5, c5, rfl, n5, N5, b5⟩
  have b15 : Below w1.heap.size w1 w5 := b2.trans ((b24.trans (b5.mono b24.size)).mono b2.size)
  have d5 : Below w.heap.size w w5 := b1.trans (b15.mono b1.size)
  have HA := hide (((unhide NN1).kept b15).add n5 (by omega) (by omega))
  clear n5
  go_wp2_with fail
  refine (unhide HA).mono ?_
  rintro e w6 ⟨A6, k6, c6, rfl, n6, N6, b6⟩
  have hex : expN m = 10 + 50 * k3 := by unfold expN; rw [unhide HK3]
  rw [← hex] at n6
  have HN6 := hide n6
  clear n6 hex
  go_wp2
  go_ret
  exact ⟨A6, k6, c6, rfl, unhide HN6, N6.later d5.size, d5.trans (b6.mono d5.size)⟩

end Go.Proofs.YgcsakGreat
