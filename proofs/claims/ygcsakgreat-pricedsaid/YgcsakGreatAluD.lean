/-
  yp.Alu as a plain function.
-/
import Derived.Test.YgcsakGreatAluC
namespace Go.Proofs.YgcsakGreat
set_option linter.unusedVariables false
set_option linter.unusedSimpArgs false
set_option maxRecDepth 100000
open Go.RowKit

def aluN (o a b c : Nat) : Nat :=
  if o = 1 then (a + b) % P256 else if o = 2 then a * b % P256 else if o = 3 then (a + negN b) % P256 else if o = 4 then a / b
  else if o = 5 then signN (magN a / magN b) (negB a != negB b) else if o = 6 then modN a b else if o = 7 then signN (modN (magN a) (magN b)) (negB a)
  else if o = 8 then modN (a + b) c else if o = 9 then modN (a * b) c else if o = 10 then powN a b else if o = 11 then sextN a b
  else if o = 16 then truthN (decide (a < b)) else if o = 17 then truthN (decide (b < a)) else if o = 18 then truthN (sltB a b) else if o = 19 then truthN (sltB b a)
  else if o = 20 then truthN (decide (a = b)) else if o = 21 then truthN (decide (a = 0))
  else if o = 22 then bwN 22 a b else if o = 23 then bwN 23 a b else if o = 24 then bwN 24 a b else if o = 25 then bwN 25 a b
  else if o = 26 then pickN a b else if o = 27 then shN 27 a b else if o = 28 then shN 28 a b else if o = 29 then shN 29 a b else 0

theorem negN_lt (m : Nat) : negN m < P256 := Nat.mod_lt _ p256_pos
theorem signN_lt {m : Nat} (b : Bool) (h : m < P256) : signN m b < P256 := by
  unfold signN
  split
  · exact negN_lt m
  · exact h
theorem magN_lt {m : Nat} (h : m < P256) : magN m < P256 := signN_lt _ h
theorem modN_lt {m n K : Nat} (h : m < K) : modN m n < K := Nat.lt_of_le_of_lt (modN_le m n) h
theorem add_big {m n : Nat} (hm : m < P256) (hn : n < P256) : m + n < BIG := by
  have h2 : P256 + P256 ≤ BIG := by
    have : P256 + P256 ≤ 256 * P256 := by omega
    refine Nat.le_trans this ?_
    unfold P256
    rw [← Nat.pow_succ']
    exact big_pow 33 (by omega)
  omega
theorem cmp_lt (m n : Nat) : decide (cmpI m n < 0) = decide (m < n) := by
  unfold cmpI
  by_cases h : m < n
  · rw [if_pos h, decide_eq_true h]; rfl
  · rw [if_neg h, decide_eq_false h]; split <;> rfl
theorem cmp_gt (m n : Nat) : decide (0 < cmpI m n) = decide (n < m) := by
  unfold cmpI
  by_cases h : m < n
  · rw [if_pos h, decide_eq_false (show ¬ n < m by omega)]; rfl
  · rw [if_neg h]
    by_cases h2 : m = n
    · rw [if_pos h2, decide_eq_false (show ¬ n < m by omega)]; rfl
    · rw [if_neg h2, decide_eq_true (show n < m by omega)]; rfl


set_option maxHeartbeats 4000000 in
theorem alu_1 (a b c : Option Addr) (la ca lb cb lc cc m n p : Nat) (w : World) (h1 : IsNat w a la ca m) (h2 : IsNat w b lb cb n) (h3 : IsNat w c lc cc p) (hm : m < P256) (hn : n < P256) (hp : p < P256) :
    Calls Sakg.prog 18 #[.int .u8 1, .slice a la ca, .slice b lb cb, .slice c lc cc] w (MakesNat w (aluN 1 m n p)) := by
  have hmB : m < BIG := Nat.lt_trans hm p256_lt
  have hnB : n < BIG := Nat.lt_trans hn p256_lt
  have hpB : p < BIG := Nat.lt_trans hp p256_lt
  have hres : aluN 1 m n p = (m + n) % P256 := by simp [aluN]
  have HRES := hide hres
  have H1 := hide h1
  have H2 := hide h2
  have H3 := hide h3
  clear h1 h2 h3 hres
  go_enter Sakg.func18, Sakg.ntmps18
  have HC1 := hide ((unhide H1).add (unhide H2) hmB hnB)
  go_wp2_with fail
  refine (unhide HC1).mono ?_
  rintro e w1 ⟨A1, k1, c1, rfl, n1, N1, b1⟩
  have NN1 := hide n1
  clear n1
  have d1 : Below w.heap.size w w1 := b1
  have HC2 := hide (wrapped_any A1 k1 c1 _ w1 (unhide NN1) (add_big hm hn))
  go_wp2_with fail
  refine (unhide HC2).mono ?_
  rintro e w2 ⟨A2, k2, c2, rfl, n2, N2, b2⟩
  have NN2 := hide n2
  clear n2
  have d2 : Below w.heap.size w w2 := d1.trans (b2.mono d1.size)
  go_wp2
  go_ret
  rw [unhide HRES]
  exact ⟨A2, k2, c2, rfl, (unhide NN2), (N2.later d1.size), d2⟩

set_option maxHeartbeats 4000000 in
theorem alu_2 (a b c : Option Addr) (la ca lb cb lc cc m n p : Nat) (w : World) (h1 : IsNat w a la ca m) (h2 : IsNat w b lb cb n) (h3 : IsNat w c lc cc p) (hm : m < P256) (hn : n < P256) (hp : p < P256) :
    Calls Sakg.prog 18 #[.int .u8 2, .slice a la ca, .slice b lb cb, .slice c lc cc] w (MakesNat w (aluN 2 m n p)) := by
  have hmB : m < BIG := Nat.lt_trans hm p256_lt
  have hnB : n < BIG := Nat.lt_trans hn p256_lt
  have hpB : p < BIG := Nat.lt_trans hp p256_lt
  have hres : aluN 2 m n p = m * n % P256 := by simp [aluN]
  have HRES := hide hres
  have H1 := hide h1
  have H2 := hide h2
  have H3 := hide h3
  clear h1 h2 h3 hres
  go_enter Sakg.func18, Sakg.ntmps18
  have HC1 := hide ((unhide H1).mul (unhide H2) hmB hnB)
  go_wp2_with fail
  refine (unhide HC1).mono ?_
  rintro e w1 ⟨A1, k1, c1, rfl, n1, N1, b1⟩
  have NN1 := hide n1
  clear n1
  have d1 : Below w.heap.size w w1 := b1
  have HC2 := hide (wrapped_any A1 k1 c1 _ w1 (unhide NN1) (mul_big hm hn))
  go_wp2_with fail
  refine (unhide HC2).mono ?_
  rintro e w2 ⟨A2, k2, c2, rfl, n2, N2, b2⟩
  have NN2 := hide n2
  clear n2
  have d2 : Below w.heap.size w w2 := d1.trans (b2.mono d1.size)
  go_wp2
  go_ret
  rw [unhide HRES]
  exact ⟨A2, k2, c2, rfl, (unhide NN2), (N2.later d1.size), d2⟩

set_option maxHeartbeats 4000000 in
theorem alu_3 (a b c : Option Addr) (la ca lb cb lc cc m n p : Nat) (w : World) (h1 : IsNat w a la ca m) (h2 : IsNat w b lb cb n) (h3 : IsNat w c lc cc p) (hm : m < P256) (hn : n < P256) (hp : p < P256) :
    Calls Sakg.prog 18 #[.int .u8 3, .slice a la ca, .slice b lb cb, .slice c lc cc] w (MakesNat w (aluN 3 m n p)) := by
  have hmB : m < BIG := Nat.lt_trans hm p256_lt
  have hnB : n < BIG := Nat.lt_trans hn p256_lt
  have hpB : p < BIG := Nat.lt_trans hp p256_lt
  have hres : aluN 3 m n p = (m + negN n) % P256 := by simp [aluN]
  have HRES := hide hres
  have H1 := hide h1
  have H2 := hide h2
  have H3 := hide h3
  clear h1 h2 h3 hres
  go_enter Sakg.func18, Sakg.ntmps18
  have HC1 := hide (negated_any b lb cb n w (unhide H2) hnB)
  go_wp2_with fail
  refine (unhide HC1).mono ?_
  rintro e w1 ⟨A1, k1, c1, rfl, n1, N1, b1⟩
  have NN1 := hide n1
  clear n1
  have d1 : Below w.heap.size w w1 := b1
  have HC2 := hide (((unhide H1).kept d1).add (unhide NN1) hmB (Nat.lt_trans (negN_lt n) p256_lt))
  go_wp2_with fail
  refine (unhide HC2).mono ?_
  rintro e w2 ⟨A2, k2, c2, rfl, n2, N2, b2⟩
  have NN2 := hide n2
  clear n2
  have d2 : Below w.heap.size w w2 := d1.trans (b2.mono d1.size)
  have HC3 := hide (wrapped_any A2 k2 c2 _ w2 (unhide NN2) (add_big hm (negN_lt n)))
  go_wp2_with fail
  refine (unhide HC3).mono ?_
  rintro e w3 ⟨A3, k3, c3, rfl, n3, N3, b3⟩
  have NN3 := hide n3
  clear n3
  have d3 : Below w.heap.size w w3 := d2.trans (b3.mono d2.size)
  go_wp2
  go_ret
  rw [unhide HRES]
  exact ⟨A3, k3, c3, rfl, (unhide NN3), (N3.later d2.size), d3⟩

set_option maxHeartbeats 4000000 in
theorem alu_4 (a b c : Option Addr) (la ca lb cb lc cc m n p : Nat) (w : World) (h1 : IsNat w a la ca m) (h2 : IsNat w b lb cb n) (h3 : IsNat w c lc cc p) (hm : m < P256) (hn : n < P256) (hp : p < P256) :
    Calls Sakg.prog 18 #[.int .u8 4, .slice a la ca, .slice b lb cb, .slice c lc cc] w (MakesNat w (aluN 4 m n p)) := by
  have hmB : m < BIG := Nat.lt_trans hm p256_lt
  have hnB : n < BIG := Nat.lt_trans hn p256_lt
  have hpB : p < BIG := Nat.lt_trans hp p256_lt
  have hres : aluN 4 m n p = m / n := by simp [aluN]
  have HRES := hide hres
  have H1 := hide h1
  have H2 := hide h2
  have H3 := hide h3
  clear h1 h2 h3 hres
  go_enter Sakg.func18, Sakg.ntmps18
  have HC1 := hide ((unhide H1).dm (unhide H2) hmB hnB)
  go_wp2_with fail
  refine (unhide HC1).mono ?_
  rintro e w1 ⟨A1, k1, c1, A1x, k1x, c1x, ok1, rfl, n1, n1x, N1, N1x, b1⟩
  have NN1 := hide n1
  have NN1x := hide n1x
  clear n1 n1x
  have d1 : Below w.heap.size w w1 := b1
  go_wp2
  go_ret
  rw [unhide HRES]
  exact ⟨A1, k1, c1, rfl, (unhide NN1), N1, d1⟩

set_option maxHeartbeats 4000000 in
theorem alu_5 (a b c : Option Addr) (la ca lb cb lc cc m n p : Nat) (w : World) (h1 : IsNat w a la ca m) (h2 : IsNat w b lb cb n) (h3 : IsNat w c lc cc p) (hm : m < P256) (hn : n < P256) (hp : p < P256) :
    Calls Sakg.prog 18 #[.int .u8 5, .slice a la ca, .slice b lb cb, .slice c lc cc] w (MakesNat w (aluN 5 m n p)) := by
  have hmB : m < BIG := Nat.lt_trans hm p256_lt
  have hnB : n < BIG := Nat.lt_trans hn p256_lt
  have hpB : p < BIG := Nat.lt_trans hp p256_lt
  have hres : aluN 5 m n p = signN (magN m / magN n) (negB m != negB n) := by simp [aluN]
  have HRES := hide hres
  have H1 := hide h1
  have H2 := hide h2
  have H3 := hide h3
  clear h1 h2 h3 hres
  go_enter Sakg.func18, Sakg.ntmps18
  have HC1 := hide (magnitude_any a la ca m w (unhide H1) hmB)
  go_wp2_with fail
  refine (unhide HC1).mono ?_
  rintro e w1 ⟨A1, k1, c1, rfl, n1, N1, b1⟩
  have NN1 := hide n1
  clear n1
  have d1 : Below w.heap.size w w1 := b1
  have HC2 := hide (magnitude_any b lb cb n w1 ((unhide H2).kept d1) hnB)
  go_wp2_with fail
  refine (unhide HC2).mono ?_
  rintro e w2 ⟨A2, k2, c2, rfl, n2, N2, b2⟩
  have NN2 := hide n2
  clear n2
  have d2 : Below w.heap.size w w2 := d1.trans (b2.mono d1.size)
  have HC3 := hide (((unhide NN1).kept b2).dm (unhide NN2) (Nat.lt_trans (magN_lt hm) p256_lt) (Nat.lt_trans (magN_lt hn) p256_lt))
  go_wp2_with fail
  refine (unhide HC3).mono ?_
  rintro e w3 ⟨A3, k3, c3, A3x, k3x, c3x, ok3, rfl, n3, n3x, N3, N3x, b3⟩
  have NN3 := hide n3
  have NN3x := hide n3x
  clear n3 n3x
  have d3 : Below w.heap.size w w3 := d2.trans (b3.mono d2.size)
  have HC4 := hide (isNegative_any a la ca m w3 ((unhide H1).kept d3) hmB)
  go_wp2_with fail
  refine (unhide HC4).mono ?_
  rintro e w4 ⟨rfl, rfl⟩
  have HC5 := hide (isNegative_any b lb cb n w3 ((unhide H2).kept d3) hnB)
  go_wp2_with fail
  refine (unhide HC5).mono ?_
  rintro e w5 ⟨rfl, rfl⟩
  have HC6 := hide (withSign_any A3 k3 c3 _ (negB m != negB n) w3 (unhide NN3) (Nat.lt_of_le_of_lt (Nat.div_le_self _ _) (Nat.lt_trans (magN_lt hm) p256_lt)))
  go_wp2_with fail
  refine (unhide HC6).mono ?_
  rintro e w6 ⟨A6, k6, c6, rfl, n6, N6, b6⟩
  have NN6 := hide n6
  clear n6
  have d6 : Below w.heap.size w w6 := d3.trans (b6.mono d3.size)
  go_wp2
  go_ret
  rw [unhide HRES]
  exact ⟨A6, k6, c6, rfl, (unhide NN6), (N6.later d3.size), d6⟩

set_option maxHeartbeats 4000000 in
theorem alu_7 (a b c : Option Addr) (la ca lb cb lc cc m n p : Nat) (w : World) (h1 : IsNat w a la ca m) (h2 : IsNat w b lb cb n) (h3 : IsNat w c lc cc p) (hm : m < P256) (hn : n < P256) (hp : p < P256) :
    Calls Sakg.prog 18 #[.int .u8 7, .slice a la ca, .slice b lb cb, .slice c lc cc] w (MakesNat w (aluN 7 m n p)) := by
  have hmB : m < BIG := Nat.lt_trans hm p256_lt
  have hnB : n < BIG := Nat.lt_trans hn p256_lt
  have hpB : p < BIG := Nat.lt_trans hp p256_lt
  have hres : aluN 7 m n p = signN (modN (magN m) (magN n)) (negB m) := by simp [aluN]
  have HRES := hide hres
  have H1 := hide h1
  have H2 := hide h2
  have H3 := hide h3
  clear h1 h2 h3 hres
  go_enter Sakg.func18, Sakg.ntmps18
  have HC1 := hide (magnitude_any a la ca m w (unhide H1) hmB)
  go_wp2_with fail
  refine (unhide HC1).mono ?_
  rintro e w1 ⟨A1, k1, c1, rfl, n1, N1, b1⟩
  have NN1 := hide n1
  clear n1
  have d1 : Below w.heap.size w w1 := b1
  have HC2 := hide (magnitude_any b lb cb n w1 ((unhide H2).kept d1) hnB)
  go_wp2_with fail
  refine (unhide HC2).mono ?_
  rintro e w2 ⟨A2, k2, c2, rfl, n2, N2, b2⟩
  have NN2 := hide n2
  clear n2
  have d2 : Below w.heap.size w w2 := d1.trans (b2.mono d1.size)
  have HC3 := hide (((unhide NN1).kept b2).dm (unhide NN2) (Nat.lt_trans (magN_lt hm) p256_lt) (Nat.lt_trans (magN_lt hn) p256_lt))
  go_wp2_with fail
  refine (unhide HC3).mono ?_
  rintro e w3 ⟨A3, k3, c3, A3x, k3x, c3x, ok3, rfl, n3, n3x, N3, N3x, b3⟩
  have NN3 := hide n3
  have NN3x := hide n3x
  clear n3 n3x
  have d3 : Below w.heap.size w w3 := d2.trans (b3.mono d2.size)
  have HC4 := hide (isNegative_any a la ca m w3 ((unhide H1).kept d3) hmB)
  go_wp2_with fail
  refine (unhide HC4).mono ?_
  rintro e w4 ⟨rfl, rfl⟩
  have HC5 := hide (withSign_any A3x k3x c3x _ (negB m) w3 (unhide NN3x) (modN_lt (Nat.lt_trans (magN_lt hm) p256_lt)))
  go_wp2_with fail
  refine (unhide HC5).mono ?_
  rintro e w5 ⟨A5, k5, c5, rfl, n5, N5, b5⟩
  have NN5 := hide n5
  clear n5
  have d5 : Below w.heap.size w w5 := d3.trans (b5.mono d3.size)
  go_wp2
  go_ret
  rw [unhide HRES]
  exact ⟨A5, k5, c5, rfl, (unhide NN5), (N5.later d3.size), d5⟩

set_option maxHeartbeats 4000000 in
theorem alu_16 (a b c : Option Addr) (la ca lb cb lc cc m n p : Nat) (w : World) (h1 : IsNat w a la ca m) (h2 : IsNat w b lb cb n) (h3 : IsNat w c lc cc p) (hm : m < P256) (hn : n < P256) (hp : p < P256) :
    Calls Sakg.prog 18 #[.int .u8 16, .slice a la ca, .slice b lb cb, .slice c lc cc] w (MakesNat w (aluN 16 m n p)) := by
  have hmB : m < BIG := Nat.lt_trans hm p256_lt
  have hnB : n < BIG := Nat.lt_trans hn p256_lt
  have hpB : p < BIG := Nat.lt_trans hp p256_lt
  have hres : aluN 16 m n p = truthN (decide (m < n)) := by simp [aluN]
  have HRES := hide hres
  have H1 := hide h1
  have H2 := hide h2
  have H3 := hide h3
  clear h1 h2 h3 hres
  go_enter Sakg.func18, Sakg.ntmps18
  have HC1 := hide ((unhide H1).cmp (unhide H2) hmB hnB)
  generalize hci : cmpI m n = ci at HC1
  have HCI := hide hci
  clear hci
  go_wp2_with fail
  refine (unhide HC1).mono ?_
  rintro e w1 ⟨rfl, q1⟩
  have b1 := q1.below w.heap.size
  have d1 : Below w.heap.size w w1 := b1
  have HC2 := hide (truth_any (decide (ci < 0)) w1)
  go_wp2_with fail
  refine (unhide HC2).mono ?_
  rintro e w2 ⟨A2, k2, c2, rfl, n2, N2, b2⟩
  have NN2 := hide n2
  clear n2
  have d2 : Below w.heap.size w w2 := d1.trans (b2.mono d1.size)
  go_wp2
  go_ret
  rw [unhide HRES]; rw [← cmp_lt m n, unhide HCI]
  exact ⟨A2, k2, c2, rfl, (unhide NN2), (N2.later d1.size), d2⟩

set_option maxHeartbeats 4000000 in
theorem alu_17 (a b c : Option Addr) (la ca lb cb lc cc m n p : Nat) (w : World) (h1 : IsNat w a la ca m) (h2 : IsNat w b lb cb n) (h3 : IsNat w c lc cc p) (hm : m < P256) (hn : n < P256) (hp : p < P256) :
    Calls Sakg.prog 18 #[.int .u8 17, .slice a la ca, .slice b lb cb, .slice c lc cc] w (MakesNat w (aluN 17 m n p)) := by
  have hmB : m < BIG := Nat.lt_trans hm p256_lt
  have hnB : n < BIG := Nat.lt_trans hn p256_lt
  have hpB : p < BIG := Nat.lt_trans hp p256_lt
  have hres : aluN 17 m n p = truthN (decide (n < m)) := by simp [aluN]
  have HRES := hide hres
  have H1 := hide h1
  have H2 := hide h2
  have H3 := hide h3
  clear h1 h2 h3 hres
  go_enter Sakg.func18, Sakg.ntmps18
  have HC1 := hide ((unhide H1).cmp (unhide H2) hmB hnB)
  generalize hci : cmpI m n = ci at HC1
  have HCI := hide hci
  clear hci
  go_wp2_with fail
  refine (unhide HC1).mono ?_
  rintro e w1 ⟨rfl, q1⟩
  have b1 := q1.below w.heap.size
  have d1 : Below w.heap.size w w1 := b1
  have HC2 := hide (truth_any (decide (0 < ci)) w1)
  go_wp2_with fail
  refine (unhide HC2).mono ?_
  rintro e w2 ⟨A2, k2, c2, rfl, n2, N2, b2⟩
  have NN2 := hide n2
  clear n2
  have d2 : Below w.heap.size w w2 := d1.trans (b2.mono d1.size)
  go_wp2
  go_ret
  rw [unhide HRES]; rw [← cmp_gt m n, unhide HCI]
  exact ⟨A2, k2, c2, rfl, (unhide NN2), (N2.later d1.size), d2⟩

set_option maxHeartbeats 4000000 in
theorem alu_20 (a b c : Option Addr) (la ca lb cb lc cc m n p : Nat) (w : World) (h1 : IsNat w a la ca m) (h2 : IsNat w b lb cb n) (h3 : IsNat w c lc cc p) (hm : m < P256) (hn : n < P256) (hp : p < P256) :
    Calls Sakg.prog 18 #[.int .u8 20, .slice a la ca, .slice b lb cb, .slice c lc cc] w (MakesNat w (aluN 20 m n p)) := by
  have hmB : m < BIG := Nat.lt_trans hm p256_lt
  have hnB : n < BIG := Nat.lt_trans hn p256_lt
  have hpB : p < BIG := Nat.lt_trans hp p256_lt
  have hres : aluN 20 m n p = truthN (decide (m = n)) := by simp [aluN]
  have HRES := hide hres
  have H1 := hide h1
  have H2 := hide h2
  have H3 := hide h3
  clear h1 h2 h3 hres
  go_enter Sakg.func18, Sakg.ntmps18
  have HC1 := hide ((unhide H1).cmp (unhide H2) hmB hnB)
  generalize hci : cmpI m n = ci at HC1
  have HCI := hide hci
  clear hci
  go_wp2_with fail
  refine (unhide HC1).mono ?_
  rintro e w1 ⟨rfl, q1⟩
  have b1 := q1.below w.heap.size
  have d1 : Below w.heap.size w w1 := b1
  have HC2 := hide (truth_any (ci == 0) w1)
  go_wp2_with fail
  refine (unhide HC2).mono ?_
  rintro e w2 ⟨A2, k2, c2, rfl, n2, N2, b2⟩
  have NN2 := hide n2
  clear n2
  have d2 : Below w.heap.size w w2 := d1.trans (b2.mono d1.size)
  go_wp2
  go_ret
  rw [unhide HRES]; rw [← cmp_zero m n, unhide HCI]
  exact ⟨A2, k2, c2, rfl, (unhide NN2), (N2.later d1.size), d2⟩

set_option maxHeartbeats 4000000 in
theorem alu_21 (a b c : Option Addr) (la ca lb cb lc cc m n p : Nat) (w : World) (h1 : IsNat w a la ca m) (h2 : IsNat w b lb cb n) (h3 : IsNat w c lc cc p) (hm : m < P256) (hn : n < P256) (hp : p < P256) :
    Calls Sakg.prog 18 #[.int .u8 21, .slice a la ca, .slice b lb cb, .slice c lc cc] w (MakesNat w (aluN 21 m n p)) := by
  have hmB : m < BIG := Nat.lt_trans hm p256_lt
  have hnB : n < BIG := Nat.lt_trans hn p256_lt
  have hpB : p < BIG := Nat.lt_trans hp p256_lt
  have hres : aluN 21 m n p = truthN (decide (m = 0)) := by simp [aluN]
  have HRES := hide hres
  have H1 := hide h1
  have H2 := hide h2
  have H3 := hide h3
  clear h1 h2 h3 hres
  go_enter Sakg.func18, Sakg.ntmps18
  have HC1 := hide ((unhide H1).cmp (IsNat.nil w) hmB big_pos)
  generalize hci : cmpI m 0 = ci at HC1
  have HCI := hide hci
  clear hci
  go_wp2_with fail
  refine (unhide HC1).mono ?_
  rintro e w1 ⟨rfl, q1⟩
  have b1 := q1.below w.heap.size
  have d1 : Below w.heap.size w w1 := b1
  have HC2 := hide (truth_any (ci == 0) w1)
  go_wp2_with fail
  refine (unhide HC2).mono ?_
  rintro e w2 ⟨A2, k2, c2, rfl, n2, N2, b2⟩
  have NN2 := hide n2
  clear n2
  have d2 : Below w.heap.size w w2 := d1.trans (b2.mono d1.size)
  go_wp2
  go_ret
  rw [unhide HRES]; rw [← cmp_zero m 0, unhide HCI]
  exact ⟨A2, k2, c2, rfl, (unhide NN2), (N2.later d1.size), d2⟩

set_option maxHeartbeats 4000000 in
theorem alu_6 (a b c : Option Addr) (la ca lb cb lc cc m n p : Nat) (w : World) (h1 : IsNat w a la ca m) (h2 : IsNat w b lb cb n) (h3 : IsNat w c lc cc p) (hm : m < P256) (hn : n < P256) (hp : p < P256) :
    Calls Sakg.prog 18 #[.int .u8 6, .slice a la ca, .slice b lb cb, .slice c lc cc] w (MakesNat w (aluN 6 m n p)) := by
  have hmB : m < BIG := Nat.lt_trans hm p256_lt
  have hnB : n < BIG := Nat.lt_trans hn p256_lt
  have hpB : p < BIG := Nat.lt_trans hp p256_lt
  have hres : aluN 6 m n p = modN m n := by simp [aluN]
  have HRES := hide hres
  have H1 := hide h1
  have H2 := hide h2
  have H3 := hide h3
  clear h1 h2 h3 hres
  go_enter Sakg.func18, Sakg.ntmps18
  have HC1 := hide ((unhide H1).dm (unhide H2) hmB hnB)
  go_wp2_with fail
  refine (unhide HC1).mono ?_
  rintro e w1 ⟨A1, k1, c1, A1x, k1x, c1x, ok1, rfl, n1, n1x, N1, N1x, b1⟩
  have NN1 := hide n1
  have NN1x := hide n1x
  clear n1 n1x
  have d1 : Below w.heap.size w w1 := b1
  go_wp2
  go_ret
  rw [unhide HRES]
  exact ⟨A1x, k1x, c1x, rfl, (unhide NN1x), N1x, d1⟩

set_option maxHeartbeats 4000000 in
theorem alu_8 (a b c : Option Addr) (la ca lb cb lc cc m n p : Nat) (w : World) (h1 : IsNat w a la ca m) (h2 : IsNat w b lb cb n) (h3 : IsNat w c lc cc p) (hm : m < P256) (hn : n < P256) (hp : p < P256) :
    Calls Sakg.prog 18 #[.int .u8 8, .slice a la ca, .slice b lb cb, .slice c lc cc] w (MakesNat w (aluN 8 m n p)) := by
  have hmB : m < BIG := Nat.lt_trans hm p256_lt
  have hnB : n < BIG := Nat.lt_trans hn p256_lt
  have hpB : p < BIG := Nat.lt_trans hp p256_lt
  have hres : aluN 8 m n p = modN (m + n) p := by simp [aluN]
  have HRES := hide hres
  have H1 := hide h1
  have H2 := hide h2
  have H3 := hide h3
  clear h1 h2 h3 hres
  go_enter Sakg.func18, Sakg.ntmps18
  have HC1 := hide ((unhide H1).add (unhide H2) hmB hnB)
  go_wp2_with fail
  refine (unhide HC1).mono ?_
  rintro e w1 ⟨A1, k1, c1, rfl, n1, N1, b1⟩
  have NN1 := hide n1
  clear n1
  have d1 : Below w.heap.size w w1 := b1
  have HC2 := hide ((unhide NN1).dm ((unhide H3).kept d1) (add_big hm hn) hpB)
  go_wp2_with fail
  refine (unhide HC2).mono ?_
  rintro e w2 ⟨A2, k2, c2, A2x, k2x, c2x, ok2, rfl, n2, n2x, N2, N2x, b2⟩
  have NN2 := hide n2
  have NN2x := hide n2x
  clear n2 n2x
  have d2 : Below w.heap.size w w2 := d1.trans (b2.mono d1.size)
  go_wp2
  go_ret
  rw [unhide HRES]
  exact ⟨A2x, k2x, c2x, rfl, (unhide NN2x), (N2x.later d1.size), d2⟩

set_option maxHeartbeats 4000000 in
theorem alu_9 (a b c : Option Addr) (la ca lb cb lc cc m n p : Nat) (w : World) (h1 : IsNat w a la ca m) (h2 : IsNat w b lb cb n) (h3 : IsNat w c lc cc p) (hm : m < P256) (hn : n < P256) (hp : p < P256) :
    Calls Sakg.prog 18 #[.int .u8 9, .slice a la ca, .slice b lb cb, .slice c lc cc] w (MakesNat w (aluN 9 m n p)) := by
  have hmB : m < BIG := Nat.lt_trans hm p256_lt
  have hnB : n < BIG := Nat.lt_trans hn p256_lt
  have hpB : p < BIG := Nat.lt_trans hp p256_lt
  have hres : aluN 9 m n p = modN (m * n) p := by simp [aluN]
  have HRES := hide hres
  have H1 := hide h1
  have H2 := hide h2
  have H3 := hide h3
  clear h1 h2 h3 hres
  go_enter Sakg.func18, Sakg.ntmps18
  have HC1 := hide ((unhide H1).mul (unhide H2) hmB hnB)
  go_wp2_with fail
  refine (unhide HC1).mono ?_
  rintro e w1 ⟨A1, k1, c1, rfl, n1, N1, b1⟩
  have NN1 := hide n1
  clear n1
  have d1 : Below w.heap.size w w1 := b1
  have HC2 := hide ((unhide NN1).dm ((unhide H3).kept d1) (mul_big hm hn) hpB)
  go_wp2_with fail
  refine (unhide HC2).mono ?_
  rintro e w2 ⟨A2, k2, c2, A2x, k2x, c2x, ok2, rfl, n2, n2x, N2, N2x, b2⟩
  have NN2 := hide n2
  have NN2x := hide n2x
  clear n2 n2x
  have d2 : Below w.heap.size w w2 := d1.trans (b2.mono d1.size)
  go_wp2
  go_ret
  rw [unhide HRES]
  exact ⟨A2x, k2x, c2x, rfl, (unhide NN2x), (N2x.later d1.size), d2⟩

set_option maxHeartbeats 4000000 in
theorem alu_10 (a b c : Option Addr) (la ca lb cb lc cc m n p : Nat) (w : World) (h1 : IsNat w a la ca m) (h2 : IsNat w b lb cb n) (h3 : IsNat w c lc cc p) (hm : m < P256) (hn : n < P256) (hp : p < P256) :
    Calls Sakg.prog 18 #[.int .u8 10, .slice a la ca, .slice b lb cb, .slice c lc cc] w (MakesNat w (aluN 10 m n p)) := by
  have hmB : m < BIG := Nat.lt_trans hm p256_lt
  have hnB : n < BIG := Nat.lt_trans hn p256_lt
  have hpB : p < BIG := Nat.lt_trans hp p256_lt
  have hres : aluN 10 m n p = powN m n := by simp [aluN]
  have HRES := hide hres
  have H1 := hide h1
  have H2 := hide h2
  have H3 := hide h3
  clear h1 h2 h3 hres
  go_enter Sakg.func18, Sakg.ntmps18
  have HC1 := hide (power_any a b la ca lb cb m n w (unhide H1) (unhide H2) hm hn)
  go_wp2_with fail
  refine (unhide HC1).mono ?_
  rintro e w1 ⟨A1, k1, c1, rfl, n1, N1, b1⟩
  have NN1 := hide n1
  clear n1
  have d1 : Below w.heap.size w w1 := b1
  go_wp2
  go_ret
  rw [unhide HRES]
  exact ⟨A1, k1, c1, rfl, (unhide NN1), N1, d1⟩

set_option maxHeartbeats 4000000 in
theorem alu_11 (a b c : Option Addr) (la ca lb cb lc cc m n p : Nat) (w : World) (h1 : IsNat w a la ca m) (h2 : IsNat w b lb cb n) (h3 : IsNat w c lc cc p) (hm : m < P256) (hn : n < P256) (hp : p < P256) :
    Calls Sakg.prog 18 #[.int .u8 11, .slice a la ca, .slice b lb cb, .slice c lc cc] w (MakesNat w (aluN 11 m n p)) := by
  have hmB : m < BIG := Nat.lt_trans hm p256_lt
  have hnB : n < BIG := Nat.lt_trans hn p256_lt
  have hpB : p < BIG := Nat.lt_trans hp p256_lt
  have hres : aluN 11 m n p = sextN m n := by simp [aluN]
  have HRES := hide hres
  have H1 := hide h1
  have H2 := hide h2
  have H3 := hide h3
  clear h1 h2 h3 hres
  go_enter Sakg.func18, Sakg.ntmps18
  have HC1 := hide (signExtended_any a b la ca lb cb m n w (unhide H1) (unhide H2) hm hn)
  go_wp2_with fail
  refine (unhide HC1).mono ?_
  rintro e w1 ⟨A1, k1, c1, rfl, n1, N1, b1⟩
  have NN1 := hide n1
  clear n1
  have d1 : Below w.heap.size w w1 := b1
  go_wp2
  go_ret
  rw [unhide HRES]
  exact ⟨A1, k1, c1, rfl, (unhide NN1), N1, d1⟩

set_option maxHeartbeats 4000000 in
theorem alu_18 (a b c : Option Addr) (la ca lb cb lc cc m n p : Nat) (w : World) (h1 : IsNat w a la ca m) (h2 : IsNat w b lb cb n) (h3 : IsNat w c lc cc p) (hm : m < P256) (hn : n < P256) (hp : p < P256) :
    Calls Sakg.prog 18 #[.int .u8 18, .slice a la ca, .slice b lb cb, .slice c lc cc] w (MakesNat w (aluN 18 m n p)) := by
  have hmB : m < BIG := Nat.lt_trans hm p256_lt
  have hnB : n < BIG := Nat.lt_trans hn p256_lt
  have hpB : p < BIG := Nat.lt_trans hp p256_lt
  have hres : aluN 18 m n p = truthN (sltB m n) := by simp [aluN]
  have HRES := hide hres
  have H1 := hide h1
  have H2 := hide h2
  have H3 := hide h3
  clear h1 h2 h3 hres
  go_enter Sakg.func18, Sakg.ntmps18
  have HC1 := hide (signedBelow_any a b la ca lb cb m n w (unhide H1) (unhide H2) hmB hnB)
  go_wp2_with fail
  refine (unhide HC1).mono ?_
  rintro e w1 ⟨rfl, b1⟩
  have d1 : Below w.heap.size w w1 := b1
  have HC2 := hide (truth_any (sltB m n) w1)
  go_wp2_with fail
  refine (unhide HC2).mono ?_
  rintro e w2 ⟨A2, k2, c2, rfl, n2, N2, b2⟩
  have NN2 := hide n2
  clear n2
  have d2 : Below w.heap.size w w2 := d1.trans (b2.mono d1.size)
  go_wp2
  go_ret
  rw [unhide HRES]
  exact ⟨A2, k2, c2, rfl, (unhide NN2), (N2.later d1.size), d2⟩

set_option maxHeartbeats 4000000 in
theorem alu_19 (a b c : Option Addr) (la ca lb cb lc cc m n p : Nat) (w : World) (h1 : IsNat w a la ca m) (h2 : IsNat w b lb cb n) (h3 : IsNat w c lc cc p) (hm : m < P256) (hn : n < P256) (hp : p < P256) :
    Calls Sakg.prog 18 #[.int .u8 19, .slice a la ca, .slice b lb cb, .slice c lc cc] w (MakesNat w (aluN 19 m n p)) := by
  have hmB : m < BIG := Nat.lt_trans hm p256_lt
  have hnB : n < BIG := Nat.lt_trans hn p256_lt
  have hpB : p < BIG := Nat.lt_trans hp p256_lt
  have hres : aluN 19 m n p = truthN (sltB n m) := by simp [aluN]
  have HRES := hide hres
  have H1 := hide h1
  have H2 := hide h2
  have H3 := hide h3
  clear h1 h2 h3 hres
  go_enter Sakg.func18, Sakg.ntmps18
  have HC1 := hide (signedBelow_any b a lb cb la ca n m w (unhide H2) (unhide H1) hnB hmB)
  go_wp2_with fail
  refine (unhide HC1).mono ?_
  rintro e w1 ⟨rfl, b1⟩
  have d1 : Below w.heap.size w w1 := b1
  have HC2 := hide (truth_any (sltB n m) w1)
  go_wp2_with fail
  refine (unhide HC2).mono ?_
  rintro e w2 ⟨A2, k2, c2, rfl, n2, N2, b2⟩
  have NN2 := hide n2
  clear n2
  have d2 : Below w.heap.size w w2 := d1.trans (b2.mono d1.size)
  go_wp2
  go_ret
  rw [unhide HRES]
  exact ⟨A2, k2, c2, rfl, (unhide NN2), (N2.later d1.size), d2⟩

set_option maxHeartbeats 4000000 in
theorem alu_22 (a b c : Option Addr) (la ca lb cb lc cc m n p : Nat) (w : World) (h1 : IsNat w a la ca m) (h2 : IsNat w b lb cb n) (h3 : IsNat w c lc cc p) (hm : m < P256) (hn : n < P256) (hp : p < P256) :
    Calls Sakg.prog 18 #[.int .u8 22, .slice a la ca, .slice b lb cb, .slice c lc cc] w (MakesNat w (aluN 22 m n p)) := by
  have hmB : m < BIG := Nat.lt_trans hm p256_lt
  have hnB : n < BIG := Nat.lt_trans hn p256_lt
  have hpB : p < BIG := Nat.lt_trans hp p256_lt
  have hres : aluN 22 m n p = bwN 22 m n := by simp [aluN]
  have HRES := hide hres
  have H1 := hide h1
  have H2 := hide h2
  have H3 := hide h3
  clear h1 h2 h3 hres
  go_enter Sakg.func18, Sakg.ntmps18
  have HC1 := hide (bitwise_22 a b la ca lb cb m n w (unhide H1) (unhide H2) hmB hnB)
  go_wp2_with fail
  refine (unhide HC1).mono ?_
  rintro e w1 ⟨A1, k1, c1, rfl, n1, N1, b1⟩
  have NN1 := hide n1
  clear n1
  have d1 : Below w.heap.size w w1 := b1
  go_wp2
  go_ret
  rw [unhide HRES]
  exact ⟨A1, k1, c1, rfl, (unhide NN1), N1, d1⟩

set_option maxHeartbeats 4000000 in
theorem alu_23 (a b c : Option Addr) (la ca lb cb lc cc m n p : Nat) (w : World) (h1 : IsNat w a la ca m) (h2 : IsNat w b lb cb n) (h3 : IsNat w c lc cc p) (hm : m < P256) (hn : n < P256) (hp : p < P256) :
    Calls Sakg.prog 18 #[.int .u8 23, .slice a la ca, .slice b lb cb, .slice c lc cc] w (MakesNat w (aluN 23 m n p)) := by
  have hmB : m < BIG := Nat.lt_trans hm p256_lt
  have hnB : n < BIG := Nat.lt_trans hn p256_lt
  have hpB : p < BIG := Nat.lt_trans hp p256_lt
  have hres : aluN 23 m n p = bwN 23 m n := by simp [aluN]
  have HRES := hide hres
  have H1 := hide h1
  have H2 := hide h2
  have H3 := hide h3
  clear h1 h2 h3 hres
  go_enter Sakg.func18, Sakg.ntmps18
  have HC1 := hide (bitwise_23 a b la ca lb cb m n w (unhide H1) (unhide H2) hmB hnB)
  go_wp2_with fail
  refine (unhide HC1).mono ?_
  rintro e w1 ⟨A1, k1, c1, rfl, n1, N1, b1⟩
  have NN1 := hide n1
  clear n1
  have d1 : Below w.heap.size w w1 := b1
  go_wp2
  go_ret
  rw [unhide HRES]
  exact ⟨A1, k1, c1, rfl, (unhide NN1), N1, d1⟩

set_option maxHeartbeats 4000000 in
theorem alu_24 (a b c : Option Addr) (la ca lb cb lc cc m n p : Nat) (w : World) (h1 : IsNat w a la ca m) (h2 : IsNat w b lb cb n) (h3 : IsNat w c lc cc p) (hm : m < P256) (hn : n < P256) (hp : p < P256) :
    Calls Sakg.prog 18 #[.int .u8 24, .slice a la ca, .slice b lb cb, .slice c lc cc] w (MakesNat w (aluN 24 m n p)) := by
  have hmB : m < BIG := Nat.lt_trans hm p256_lt
  have hnB : n < BIG := Nat.lt_trans hn p256_lt
  have hpB : p < BIG := Nat.lt_trans hp p256_lt
  have hres : aluN 24 m n p = bwN 24 m n := by simp [aluN]
  have HRES := hide hres
  have H1 := hide h1
  have H2 := hide h2
  have H3 := hide h3
  clear h1 h2 h3 hres
  go_enter Sakg.func18, Sakg.ntmps18
  have HC1 := hide (bitwise_24 a b la ca lb cb m n w (unhide H1) (unhide H2) hmB hnB)
  go_wp2_with fail
  refine (unhide HC1).mono ?_
  rintro e w1 ⟨A1, k1, c1, rfl, n1, N1, b1⟩
  have NN1 := hide n1
  clear n1
  have d1 : Below w.heap.size w w1 := b1
  go_wp2
  go_ret
  rw [unhide HRES]
  exact ⟨A1, k1, c1, rfl, (unhide NN1), N1, d1⟩

set_option maxHeartbeats 4000000 in
theorem alu_25 (a b c : Option Addr) (la ca lb cb lc cc m n p : Nat) (w : World) (h1 : IsNat w a la ca m) (h2 : IsNat w b lb cb n) (h3 : IsNat w c lc cc p) (hm : m < P256) (hn : n < P256) (hp : p < P256) :
    Calls Sakg.prog 18 #[.int .u8 25, .slice a la ca, .slice b lb cb, .slice c lc cc] w (MakesNat w (aluN 25 m n p)) := by
  have hmB : m < BIG := Nat.lt_trans hm p256_lt
  have hnB : n < BIG := Nat.lt_trans hn p256_lt
  have hpB : p < BIG := Nat.lt_trans hp p256_lt
  have hres : aluN 25 m n p = bwN 25 m n := by simp [aluN]
  have HRES := hide hres
  have H1 := hide h1
  have H2 := hide h2
  have H3 := hide h3
  clear h1 h2 h3 hres
  go_enter Sakg.func18, Sakg.ntmps18
  have HC1 := hide (bitwise_25 a b la ca lb cb m n w (unhide H1) (unhide H2) hmB hnB)
  go_wp2_with fail
  refine (unhide HC1).mono ?_
  rintro e w1 ⟨A1, k1, c1, rfl, n1, N1, b1⟩
  have NN1 := hide n1
  clear n1
  have d1 : Below w.heap.size w w1 := b1
  go_wp2
  go_ret
  rw [unhide HRES]
  exact ⟨A1, k1, c1, rfl, (unhide NN1), N1, d1⟩

set_option maxHeartbeats 4000000 in
theorem alu_26 (a b c : Option Addr) (la ca lb cb lc cc m n p : Nat) (w : World) (h1 : IsNat w a la ca m) (h2 : IsNat w b lb cb n) (h3 : IsNat w c lc cc p) (hm : m < P256) (hn : n < P256) (hp : p < P256) :
    Calls Sakg.prog 18 #[.int .u8 26, .slice a la ca, .slice b lb cb, .slice c lc cc] w (MakesNat w (aluN 26 m n p)) := by
  have hmB : m < BIG := Nat.lt_trans hm p256_lt
  have hnB : n < BIG := Nat.lt_trans hn p256_lt
  have hpB : p < BIG := Nat.lt_trans hp p256_lt
  have hres : aluN 26 m n p = pickN m n := by simp [aluN]
  have HRES := hide hres
  have H1 := hide h1
  have H2 := hide h2
  have H3 := hide h3
  clear h1 h2 h3 hres
  go_enter Sakg.func18, Sakg.ntmps18
  have HC1 := hide (pickedByte_any a b la ca lb cb m n w (unhide H1) (unhide H2) hm hn)
  go_wp2_with fail
  refine (unhide HC1).mono ?_
  rintro e w1 ⟨A1, k1, c1, rfl, n1, N1, b1⟩
  have NN1 := hide n1
  clear n1
  have d1 : Below w.heap.size w w1 := b1
  go_wp2
  go_ret
  rw [unhide HRES]
  exact ⟨A1, k1, c1, rfl, (unhide NN1), N1, d1⟩

set_option maxHeartbeats 4000000 in
theorem alu_27 (a b c : Option Addr) (la ca lb cb lc cc m n p : Nat) (w : World) (h1 : IsNat w a la ca m) (h2 : IsNat w b lb cb n) (h3 : IsNat w c lc cc p) (hm : m < P256) (hn : n < P256) (hp : p < P256) :
    Calls Sakg.prog 18 #[.int .u8 27, .slice a la ca, .slice b lb cb, .slice c lc cc] w (MakesNat w (aluN 27 m n p)) := by
  have hmB : m < BIG := Nat.lt_trans hm p256_lt
  have hnB : n < BIG := Nat.lt_trans hn p256_lt
  have hpB : p < BIG := Nat.lt_trans hp p256_lt
  have hres : aluN 27 m n p = shN 27 m n := by simp [aluN]
  have HRES := hide hres
  have H1 := hide h1
  have H2 := hide h2
  have H3 := hide h3
  clear h1 h2 h3 hres
  go_enter Sakg.func18, Sakg.ntmps18
  have HC1 := hide (shifted_any 27 (by omega) a b la ca lb cb m n w (unhide H1) (unhide H2) hm hn)
  go_wp2_with fail
  refine (unhide HC1).mono ?_
  rintro e w1 ⟨A1, k1, c1, rfl, n1, N1, b1⟩
  have NN1 := hide n1
  clear n1
  have d1 : Below w.heap.size w w1 := b1
  go_wp2
  go_ret
  rw [unhide HRES]
  exact ⟨A1, k1, c1, rfl, (unhide NN1), N1, d1⟩

set_option maxHeartbeats 4000000 in
theorem alu_28 (a b c : Option Addr) (la ca lb cb lc cc m n p : Nat) (w : World) (h1 : IsNat w a la ca m) (h2 : IsNat w b lb cb n) (h3 : IsNat w c lc cc p) (hm : m < P256) (hn : n < P256) (hp : p < P256) :
    Calls Sakg.prog 18 #[.int .u8 28, .slice a la ca, .slice b lb cb, .slice c lc cc] w (MakesNat w (aluN 28 m n p)) := by
  have hmB : m < BIG := Nat.lt_trans hm p256_lt
  have hnB : n < BIG := Nat.lt_trans hn p256_lt
  have hpB : p < BIG := Nat.lt_trans hp p256_lt
  have hres : aluN 28 m n p = shN 28 m n := by simp [aluN]
  have HRES := hide hres
  have H1 := hide h1
  have H2 := hide h2
  have H3 := hide h3
  clear h1 h2 h3 hres
  go_enter Sakg.func18, Sakg.ntmps18
  have HC1 := hide (shifted_any 28 (by omega) a b la ca lb cb m n w (unhide H1) (unhide H2) hm hn)
  go_wp2_with fail
  refine (unhide HC1).mono ?_
  rintro e w1 ⟨A1, k1, c1, rfl, n1, N1, b1⟩
  have NN1 := hide n1
  clear n1
  have d1 : Below w.heap.size w w1 := b1
  go_wp2
  go_ret
  rw [unhide HRES]
  exact ⟨A1, k1, c1, rfl, (unhide NN1), N1, d1⟩

set_option maxHeartbeats 4000000 in
theorem alu_29 (a b c : Option Addr) (la ca lb cb lc cc m n p : Nat) (w : World) (h1 : IsNat w a la ca m) (h2 : IsNat w b lb cb n) (h3 : IsNat w c lc cc p) (hm : m < P256) (hn : n < P256) (hp : p < P256) :
    Calls Sakg.prog 18 #[.int .u8 29, .slice a la ca, .slice b lb cb, .slice c lc cc] w (MakesNat w (aluN 29 m n p)) := by
  have hmB : m < BIG := Nat.lt_trans hm p256_lt
  have hnB : n < BIG := Nat.lt_trans hn p256_lt
  have hpB : p < BIG := Nat.lt_trans hp p256_lt
  have hres : aluN 29 m n p = shN 29 m n := by simp [aluN]
  have HRES := hide hres
  have H1 := hide h1
  have H2 := hide h2
  have H3 := hide h3
  clear h1 h2 h3 hres
  go_enter Sakg.func18, Sakg.ntmps18
  have HC1 := hide (shifted_any 29 (by omega) a b la ca lb cb m n w (unhide H1) (unhide H2) hm hn)
  go_wp2_with fail
  refine (unhide HC1).mono ?_
  rintro e w1 ⟨A1, k1, c1, rfl, n1, N1, b1⟩
  have NN1 := hide n1
  clear n1
  have d1 : Below w.heap.size w w1 := b1
  go_wp2
  go_ret
  rw [unhide HRES]
  exact ⟨A1, k1, c1, rfl, (unhide NN1), N1, d1⟩

def aluO (o : Nat) : Prop := (1 ≤ o ∧ o ≤ 11) ∨ (16 ≤ o ∧ o ≤ 29)
theorem aluN_none {o : Nat} (h : ¬ aluO o) (a b c : Nat) : aluN o a b c = 0 := by
  unfold aluO at h
  unfold aluN
  repeat rw [if_neg (by omega)]
set_option maxHeartbeats 4000000 in
theorem alu_none (o : Nat) (ho : o < 256) (h : ¬ aluO o) (a b c : Option Addr) (la ca lb cb lc cc : Nat) (w : World) :
    Calls Sakg.prog 18 #[.int .u8 o, .slice a la ca, .slice b lb cb, .slice c lc cc] w (MakesNat w 0) := by
  unfold aluO at h
  have t1 : ((o : Int) == 1) = false := by rw [beq_eq_false_iff_ne]; omega
  have t2 : ((o : Int) == 2) = false := by rw [beq_eq_false_iff_ne]; omega
  have t3 : ((o : Int) == 3) = false := by rw [beq_eq_false_iff_ne]; omega
  have t4 : ((o : Int) == 4) = false := by rw [beq_eq_false_iff_ne]; omega
  have t5 : ((o : Int) == 5) = false := by rw [beq_eq_false_iff_ne]; omega
  have t6 : ((o : Int) == 6) = false := by rw [beq_eq_false_iff_ne]; omega
  have t7 : ((o : Int) == 7) = false := by rw [beq_eq_false_iff_ne]; omega
  have t8 : ((o : Int) == 8) = false := by rw [beq_eq_false_iff_ne]; omega
  have t9 : ((o : Int) == 9) = false := by rw [beq_eq_false_iff_ne]; omega
  have t10 : ((o : Int) == 10) = false := by rw [beq_eq_false_iff_ne]; omega
  have t11 : ((o : Int) == 11) = false := by rw [beq_eq_false_iff_ne]; omega
  have t16 : ((o : Int) == 16) = false := by rw [beq_eq_false_iff_ne]; omega
  have t17 : ((o : Int) == 17) = false := by rw [beq_eq_false_iff_ne]; omega
  have t18 : ((o : Int) == 18) = false := by rw [beq_eq_false_iff_ne]; omega
  have t19 : ((o : Int) == 19) = false := by rw [beq_eq_false_iff_ne]; omega
  have t20 : ((o : Int) == 20) = false := by rw [beq_eq_false_iff_ne]; omega
  have t21 : ((o : Int) == 21) = false := by rw [beq_eq_false_iff_ne]; omega
  have t22 : ((o : Int) == 22) = false := by rw [beq_eq_false_iff_ne]; omega
  have t23 : ((o : Int) == 23) = false := by rw [beq_eq_false_iff_ne]; omega
  have t24 : ((o : Int) == 24) = false := by rw [beq_eq_false_iff_ne]; omega
  have t25 : ((o : Int) == 25) = false := by rw [beq_eq_false_iff_ne]; omega
  have t26 : ((o : Int) == 26) = false := by rw [beq_eq_false_iff_ne]; omega
  have t27 : ((o : Int) == 27) = false := by rw [beq_eq_false_iff_ne]; omega
  have t28 : ((o : Int) == 28) = false := by rw [beq_eq_false_iff_ne]; omega
  have t29 : ((o : Int) == 29) = false := by rw [beq_eq_false_iff_ne]; omega
  clear h
  go_enter Sakg.func18, Sakg.ntmps18
  go_wp2
  go_ret
  exact ⟨_, _, _, rfl, IsNat.nil _, New.nil _, Below.refl _ _⟩

/-- Alu, for whatever instruction -/
theorem alu_any (o : Nat) (ho : o < 256) (a b c : Option Addr) (la ca lb cb lc cc m n p : Nat) (w : World) (h1 : IsNat w a la ca m) (h2 : IsNat w b lb cb n) (h3 : IsNat w c lc cc p) (hm : m < P256) (hn : n < P256) (hp : p < P256) :
    Calls Sakg.prog 18 #[.int .u8 o, .slice a la ca, .slice b lb cb, .slice c lc cc] w (MakesNat w (aluN o m n p)) := by
  by_cases h : aluO o
  · unfold aluO at h
    obtain rfl | rfl | rfl | rfl | rfl | rfl | rfl | rfl | rfl | rfl | rfl | rfl | rfl | rfl | rfl | rfl | rfl | rfl | rfl | rfl | rfl | rfl | rfl | rfl | rfl := (by omega : o = 1 ∨ o = 2 ∨ o = 3 ∨ o = 4 ∨ o = 5 ∨ o = 6 ∨ o = 7 ∨ o = 8 ∨ o = 9 ∨ o = 10 ∨ o = 11 ∨ o = 16 ∨ o = 17 ∨ o = 18 ∨ o = 19 ∨ o = 20 ∨ o = 21 ∨ o = 22 ∨ o = 23 ∨ o = 24 ∨ o = 25 ∨ o = 26 ∨ o = 27 ∨ o = 28 ∨ o = 29)
    · exact alu_1 a b c la ca lb cb lc cc m n p w h1 h2 h3 hm hn hp
    · exact alu_2 a b c la ca lb cb lc cc m n p w h1 h2 h3 hm hn hp
    · exact alu_3 a b c la ca lb cb lc cc m n p w h1 h2 h3 hm hn hp
    · exact alu_4 a b c la ca lb cb lc cc m n p w h1 h2 h3 hm hn hp
    · exact alu_5 a b c la ca lb cb lc cc m n p w h1 h2 h3 hm hn hp
    · exact alu_6 a b c la ca lb cb lc cc m n p w h1 h2 h3 hm hn hp
    · exact alu_7 a b c la ca lb cb lc cc m n p w h1 h2 h3 hm hn hp
    · exact alu_8 a b c la ca lb cb lc cc m n p w h1 h2 h3 hm hn hp
    · exact alu_9 a b c la ca lb cb lc cc m n p w h1 h2 h3 hm hn hp
    · exact alu_10 a b c la ca lb cb lc cc m n p w h1 h2 h3 hm hn hp
    · exact alu_11 a b c la ca lb cb lc cc m n p w h1 h2 h3 hm hn hp
    · exact alu_16 a b c la ca lb cb lc cc m n p w h1 h2 h3 hm hn hp
    · exact alu_17 a b c la ca lb cb lc cc m n p w h1 h2 h3 hm hn hp
    · exact alu_18 a b c la ca lb cb lc cc m n p w h1 h2 h3 hm hn hp
    · exact alu_19 a b c la ca lb cb lc cc m n p w h1 h2 h3 hm hn hp
    · exact alu_20 a b c la ca lb cb lc cc m n p w h1 h2 h3 hm hn hp
    · exact alu_21 a b c la ca lb cb lc cc m n p w h1 h2 h3 hm hn hp
    · exact alu_22 a b c la ca lb cb lc cc m n p w h1 h2 h3 hm hn hp
    · exact alu_23 a b c la ca lb cb lc cc m n p w h1 h2 h3 hm hn hp
    · exact alu_24 a b c la ca lb cb lc cc m n p w h1 h2 h3 hm hn hp
    · exact alu_25 a b c la ca lb cb lc cc m n p w h1 h2 h3 hm hn hp
    · exact alu_26 a b c la ca lb cb lc cc m n p w h1 h2 h3 hm hn hp
    · exact alu_27 a b c la ca lb cb lc cc m n p w h1 h2 h3 hm hn hp
    · exact alu_28 a b c la ca lb cb lc cc m n p w h1 h2 h3 hm hn hp
    · exact alu_29 a b c la ca lb cb lc cc m n p w h1 h2 h3 hm hn hp
  · rw [aluN_none h]
    exact alu_none o ho h a b c la ca lb cb lc cc w

end Go.Proofs.YgcsakGreat
