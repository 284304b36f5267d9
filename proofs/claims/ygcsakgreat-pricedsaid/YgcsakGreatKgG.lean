/-
  yp: MemCost of any number, cost, writes.
-/
import Derived.Test.YgcsakGreatKgF
namespace Go.Proofs.YgcsakGreat
set_option linter.unusedVariables false
set_option linter.unusedSimpArgs false
set_option maxRecDepth 100000
open Go.RowKit

theorem sq_lt {m : Nat} (h : m < 256 ^ 40) : m * m < 256 ^ 80 := by
  have := Nat.mul_lt_mul'' h h
  rwa [← Nat.pow_add] at this
theorem pow80_big : 256 * 256 ^ 80 ≤ BIG := by rw [← Nat.pow_succ']; exact big_pow 81 (by omega)
theorem pow82_big : 256 * (256 * 256 ^ 80) ≤ BIG := by rw [← Nat.pow_succ', ← Nat.pow_succ']; exact big_pow 82 (by omega)
theorem pow80_ge : 256 ^ 40 ≤ 256 ^ 80 := Nat.pow_le_pow_right (by omega) (by omega)
set_option maxHeartbeats 4000000 in
theorem memCost_big (a : Option Addr) (la ca m : Nat) (w : World) (h : IsNat w a la ca m) (hm : m < 256 ^ 40) :
    Calls Sakg.prog 301 #[.slice a la ca] w (MakesNat w (memN m)) := by
  have hBB := big_ge
  have h40 := pow40_big
  have h80 := pow80_big
  have h81 := pow80_ge
  have hmB : m < BIG := by omega
  have hsq := sq_lt hm
  have hmm : memN m = 3 * m + m * m / 512 := rfl
  have hq : m * m / 512 ≤ m * m := Nat.div_le_self _ _
  have hm1 : 1 ≤ m → m ≤ m * m := fun h1 => Nat.le_mul_of_pos_left m h1
  rw [hmm]
  obtain ⟨sq, hsqe⟩ : ∃ sq, sq = m * m := ⟨_, rfl⟩
  rw [← hsqe] at hsq hq hm1 ⊢
  have HSQ := hide hsqe
  have H := hide h
  clear h hmm hsqe
  go_enter Sakg.func301, Sakg.ntmps301
  have HC1 := hide (num_any 3 w (by omega))
  go_wp2_with fail
  refine (unhide HC1).mono ?_
  rintro e w1 ⟨A1, k1, c1, rfl, n1, N1, b1⟩
  have NN1 := hide n1
  clear HC1 n1
  have HC2 := hide ((unhide NN1).mul ((unhide H).kept b1) (by omega) hmB)
  go_wp2_with fail
  refine (unhide HC2).mono ?_
  rintro e w2 ⟨A2, k2, c2, rfl, n2, N2, b2⟩
  have NN2 := hide n2
  clear HC2 n2
  have HC3 := hide (((unhide H).kept (b1.thn b2)).mul ((unhide H).kept (b1.thn b2)) hmB hmB)
  go_wp2_with fail
  refine (unhide HC3).mono ?_
  rintro e w3 ⟨A3, k3, c3, rfl, n3, N3, b3⟩
  have NN3 := hide n3
  clear HC3 n3
  rw [← unhide HSQ] at NN3
  have HC4 := hide (divided_any A3 k3 c3 _ 512 w3 (unhide NN3) (by omega) (by omega) (by omega))
  go_wp2_with fail
  refine (unhide HC4).mono ?_
  rintro e w4 ⟨A4, k4, c4, rfl, n4, N4, b4⟩
  have NN4 := hide n4
  clear HC4 n4
  have HC5 := hide (((unhide NN2).kept (b3.thn b4)).add (unhide NN4) (by omega) (by omega))
  go_wp2_with fail
  refine (unhide HC5).mono ?_
  rintro e w5 ⟨A5, k5, c5, rfl, n5, N5, b5⟩
  have NN5 := hide n5
  clear HC5 n5
  go_wp2
  go_ret
  exact ⟨A5, k5, c5, rfl, (unhide NN5), N5.later (b1.thn (b2.thn (b3.thn b4))).size, (b1.thn (b2.thn (b3.thn (b4.thn b5))))⟩

def needA (p : Nat) (s : List Nat) : Nat := (reachA p s + 31) / 32
/-- the whole cost -/
structure Paid (p : Nat) (s : List Nat) (ml n : Nat) : Prop where
  low : ∃ b, Low p s b ∧ b ≤ n ∧ memN (max (needA p s) (ml / 32)) + b = memN (ml / 32) + n
def CostR2 (p : Nat) (s : List Nat) (ml : Nat) (w : World) (e : Ending) (w' : World) : Prop := ∃ A k c n, e = .returned (.slice A k c) ∧ IsNat w' A k c n ∧ New w A ∧ n < BIG ∧ Paid p s ml n ∧ Below w.heap.size w w'
theorem needA_lt (p : Nat) (s : List Nat) (hs : ∀ i, argN s i < P256) : needA p s < 256 ^ 40 := by
  have := reachA_lt p s hs
  have := pow40_ge
  have := p256_ge
  unfold needA
  omega
theorem memN_lt {m : Nat} (h : m < 256 ^ 40) : memN m < 256 * 256 ^ 80 := by
  have := sq_lt h
  have := pow80_ge
  unfold memN
  have hq : m * m / 512 ≤ m * m := Nat.div_le_self _ _
  omega
section
variable {G : Nat → Prop} {bw gf : Nat} {cs fr : List Value} {d : WD} {f : FD} {r : List FD} {x : XD} {w : World} {B : Nat}
set_option maxHeartbeats 8000000 in
theorem SR.cost (h : SR G bw gf cs fr d (f :: r) x w) (hx : XB x) (hg : Good B d) (hf : AnyF f) (hml : f.ml ≤ 1000000) (p : Nat) (hp : p ≤ 255) :
    Calls Sakg.prog 204 #[.pointer (some ⟨bw, 0, none⟩), .pointer (some ⟨gf, 60 * r.length, none⟩), .int .u8 p] w (CostR2 p f.stk f.ml w) := by
  have hBB := big_ge
  have h41B : 256 ^ 41 ≤ 256 ^ 80 := Nat.pow_le_pow_right (by omega) (by omega)
  have h80 := pow80_big
  have h82 := pow82_big
  have h40 := pow40_big
  have hs := argN_lt hf.stk
  have hsl := hf.slen
  have hfx := h.fx
  have hB := h.bareCost hx hg hf p hp
  obtain ⟨o, ho⟩ : ∃ o, o = 60 * r.length := ⟨_, rfl⟩
  rw [← ho] at hfx hB ⊢
  have HF := hide hfx
  have HS := hide hs
  have HB := hide hB
  have hnd := needA_lt p f.stk hs
  have hre := reachA_lt p f.stk hs
  have hPB := p256_big2
  have hP := p256_ge
  obtain ⟨A9, c9, m1, m2⟩ := hfx.kf.mem
  have x9 : ∀ wz, Below w.heap.size w wz → wz.cell? ⟨gf, o + 9, none⟩ = some (.slice A9 f.ml c9) := fun wz hz => (hfx.kept hz).cell m1
  have X9 := hide x9
  obtain ⟨hv, hhv⟩ : ∃ hv, hv = f.ml / 32 := ⟨_, rfl⟩
  have e32 : (f.ml : Int) / 32 = (hv : Int) := by omega
  have hvl : hv ≤ 100000 := by omega
  have hv40 : hv < 256 ^ 40 := Nat.lt_of_le_of_lt hvl (Nat.lt_of_lt_of_le (by decide : 100000 < 256 ^ 3) (Nat.pow_le_pow_right (by omega) (by omega)))
  have hnde : needA p f.stk = (reachA p f.stk + 31) / 32 := rfl
  have HND := hide hnde
  have HHV := hide hhv
  generalize hml2 : f.ml = ml at X9 e32
  have HML := hide hml2
  have hmh := memN_lt hv40
  have hmn := memN_lt hnd
  generalize hnd2 : needA p f.stk = nd at HND hnd hmn
  have HN2 := hide hnd2
  generalize hre2 : reachA p f.stk = rc at HND hre
  have HRE := hide hre2
  clear h hfx hx hg hB hs ho m1 m2 x9 hnde hhv hml2 hnd2 hre2
  go_enter Sakg.func204, Sakg.ntmps204
  go_wp2_with fail
  refine (unhide HB).mono ?_
  rintro e w1 ⟨A1, k1, c1, bN, rfl, n1, N1, hb41, hlow, b1⟩
  have NN1 := hide n1
  have HLOW := hide hlow
  have y9 := unhide X9 w1 b1
  clear n1 hlow
  have HC2 := hide (num_any hv w1 (by omega))
  go_wp2_with fail
  refine (unhide HC2).mono ?_
  rintro e w2 ⟨A2, k2, c2, rfl, n2, N2, b2⟩
  have NN2 := hide n2
  clear HC2 n2
  clear y9
  have HC3 := hide (((unhide HF).kept (b1.thn b2)).reach hsl (unhide HS) p hp)
  go_wp2_with fail
  refine (unhide HC3).mono ?_
  rintro e w3 ⟨A3, k3, c3, rfl, n3, N3, b3⟩
  have NN3 := hide n3
  clear HC3 n3
  rw [unhide HRE] at NN3
  have HC4 := hide (words_any A3 k3 c3 _ w3 (unhide NN3) (by omega))
  go_wp2_with fail
  refine (unhide HC4).mono ?_
  rintro e w4 ⟨A4, k4, c4, rfl, n4, N4, b4⟩
  have NN4 := hide n4
  clear HC4 n4
  rw [← unhide HND] at NN4
  have HC := hide ((unhide NN4).cmp ((unhide NN2).kept (b3.thn b4)) (by omega) (by omega))
  by_cases hle : nd ≤ hv
  · have hci : decide (cmpI nd hv ≤ 0) = true := by
      unfold cmpI
      by_cases h1 : nd < hv
      · rw [if_pos h1]; rfl
      · rw [if_neg h1, if_pos (by omega)]; rfl
    generalize cmpI nd hv = ci at HC hci
    go_wp2_with fail
    refine (unhide HC).mono ?_
    rintro e w5 ⟨rfl, q5⟩
    have b5 : Below w4.heap.size w4 w5 := q5.below _
    clear q5
    go_wp2
    go_ret
    refine ⟨A1, k1, c1, bN, rfl, (unhide NN1).kept ((b2.thn (b3.thn b4)).thn b5), N1, by omega, ⟨bN, unhide HLOW, Nat.le_refl _, ?_⟩, (b1.thn (b2.thn (b3.thn b4))).thn b5⟩
    rw [unhide HN2, ← unhide HML, ← unhide HHV, Nat.max_eq_right hle]
  · have hci : decide (cmpI nd hv ≤ 0) = false := by
      unfold cmpI
      rw [if_neg (by omega), if_neg (by omega)]; rfl
    generalize cmpI nd hv = ci at HC hci
    go_wp2_with fail
    refine (unhide HC).mono ?_
    rintro e w5 ⟨rfl, q5⟩
    have b5 : Below w4.heap.size w4 w5 := q5.below _
    clear q5
    have HC6 := hide (memCost_big A4 k4 c4 _ w5 ((unhide NN4).kept b5) hnd)
    go_wp2_with fail
    refine (unhide HC6).mono ?_
    rintro e w6 ⟨A6, k6, c6, rfl, n6, N6, b6⟩
    have NN6 := hide n6
    clear HC6 n6
    have HC7 := hide (memCost_big A2 k2 c2 _ w6 ((unhide NN2).kept (b3.thn (b4.thn (b5.thn b6)))) hv40)
    go_wp2_with fail
    refine (unhide HC7).mono ?_
    rintro e w7 ⟨A7, k7, c7, rfl, n7, N7, b7⟩
    have NN7 := hide n7
    clear HC7 n7
    have HC8 := hide (less_any A6 A7 k6 k7 c6 c7 _ _ w7 ((unhide NN6).kept b7) (unhide NN7) (by omega) (by omega))
    go_wp2_with fail
    refine (unhide HC8).mono ?_
    rintro e w8 ⟨A8, k8, c8, rfl, n8, N8, b8⟩
    have NN8 := hide n8
    clear HC8 n8
    have HC9 := hide (((unhide NN1).kept (b2.thn (b3.thn (b4.thn (b5.thn (b6.thn (b7.thn b8))))))).add (unhide NN8) (by omega) (by omega))
    go_wp2_with fail
    refine (unhide HC9).mono ?_
    rintro e w9 ⟨A9, k9, c9, rfl, n9, N9, b9⟩
    have NN9 := hide n9
    clear HC9 n9
    go_wp2
    go_ret
    have hmono := memN_mono (show hv ≤ nd by omega)
    refine ⟨A9, k9, c9, bN + (memN nd - memN hv), rfl, (unhide NN9), N9.later (b1.thn (b2.thn (b3.thn (b4.thn (b5.thn (b6.thn (b7.thn b8))))))).size, by omega, ⟨bN, unhide HLOW, by omega, ?_⟩, (b1.thn (b2.thn (b3.thn (b4.thn (b5.thn (b6.thn (b7.thn (b8.thn b9))))))))⟩
    rw [unhide HN2, ← unhide HML, ← unhide HHV, Nat.max_eq_left (by omega)]
    omega
end

set_option maxHeartbeats 4000000 in
theorem writes_0 {G : Nat → Prop} {gf o : Nat} {fr : List Value} {f : FD} {w : World} (p : Nat) (h1 : 0 ≤ p) (h2 : p ≤ 84) (h : FX G gf o fr f w) (hf : AnyF f) :
    Calls Sakg.prog 203 #[.pointer (some ⟨gf, o, none⟩), .int .u8 p] w fun e w' => (∃ b, e = .returned (.bool b)) ∧ Below w.heap.size w w' := by
  have t85 : ((p : Int) == 85) = false := by rw [beq_eq_false_iff_ne]; omega
  have t93 : ((p : Int) == 93) = false := by rw [beq_eq_false_iff_ne]; omega
  have t255 : ((p : Int) == 255) = false := by rw [beq_eq_false_iff_ne]; omega
  have u160 : decide ((160 : Int) ≤ (p : Int)) = false := decide_eq_false (by omega)
  have t240 : ((p : Int) == 240) = false := by rw [beq_eq_false_iff_ne]; omega
  have t245 : ((p : Int) == 245) = false := by rw [beq_eq_false_iff_ne]; omega
  have t241 : ((p : Int) == 241) = false := by rw [beq_eq_false_iff_ne]; omega
  clear h hf
  go_enter Sakg.func203, Sakg.ntmps203
  go_wp2
  go_ret
  exact ⟨⟨_, rfl⟩, Below.refl _ _⟩
set_option maxHeartbeats 4000000 in
theorem writes_85 {G : Nat → Prop} {gf o : Nat} {fr : List Value} {f : FD} {w : World} (h : FX G gf o fr f w) (hf : AnyF f) :
    Calls Sakg.prog 203 #[.pointer (some ⟨gf, o, none⟩), .int .u8 85] w fun e w' => (∃ b, e = .returned (.bool b)) ∧ Below w.heap.size w w' := by
  clear h hf
  go_enter Sakg.func203, Sakg.ntmps203
  go_wp2
  go_ret
  exact ⟨⟨_, rfl⟩, Below.refl _ _⟩
set_option maxHeartbeats 4000000 in
theorem writes_86 {G : Nat → Prop} {gf o : Nat} {fr : List Value} {f : FD} {w : World} (p : Nat) (h1 : 86 ≤ p) (h2 : p ≤ 92) (h : FX G gf o fr f w) (hf : AnyF f) :
    Calls Sakg.prog 203 #[.pointer (some ⟨gf, o, none⟩), .int .u8 p] w fun e w' => (∃ b, e = .returned (.bool b)) ∧ Below w.heap.size w w' := by
  have t85 : ((p : Int) == 85) = false := by rw [beq_eq_false_iff_ne]; omega
  have t93 : ((p : Int) == 93) = false := by rw [beq_eq_false_iff_ne]; omega
  have t255 : ((p : Int) == 255) = false := by rw [beq_eq_false_iff_ne]; omega
  have u160 : decide ((160 : Int) ≤ (p : Int)) = false := decide_eq_false (by omega)
  have t240 : ((p : Int) == 240) = false := by rw [beq_eq_false_iff_ne]; omega
  have t245 : ((p : Int) == 245) = false := by rw [beq_eq_false_iff_ne]; omega
  have t241 : ((p : Int) == 241) = false := by rw [beq_eq_false_iff_ne]; omega
  clear h hf
  go_enter Sakg.func203, Sakg.ntmps203
  go_wp2
  go_ret
  exact ⟨⟨_, rfl⟩, Below.refl _ _⟩
set_option maxHeartbeats 4000000 in
theorem writes_93 {G : Nat → Prop} {gf o : Nat} {fr : List Value} {f : FD} {w : World} (h : FX G gf o fr f w) (hf : AnyF f) :
    Calls Sakg.prog 203 #[.pointer (some ⟨gf, o, none⟩), .int .u8 93] w fun e w' => (∃ b, e = .returned (.bool b)) ∧ Below w.heap.size w w' := by
  clear h hf
  go_enter Sakg.func203, Sakg.ntmps203
  go_wp2
  go_ret
  exact ⟨⟨_, rfl⟩, Below.refl _ _⟩
set_option maxHeartbeats 4000000 in
theorem writes_94 {G : Nat → Prop} {gf o : Nat} {fr : List Value} {f : FD} {w : World} (p : Nat) (h1 : 94 ≤ p) (h2 : p ≤ 159) (h : FX G gf o fr f w) (hf : AnyF f) :
    Calls Sakg.prog 203 #[.pointer (some ⟨gf, o, none⟩), .int .u8 p] w fun e w' => (∃ b, e = .returned (.bool b)) ∧ Below w.heap.size w w' := by
  have t85 : ((p : Int) == 85) = false := by rw [beq_eq_false_iff_ne]; omega
  have t93 : ((p : Int) == 93) = false := by rw [beq_eq_false_iff_ne]; omega
  have t255 : ((p : Int) == 255) = false := by rw [beq_eq_false_iff_ne]; omega
  have u160 : decide ((160 : Int) ≤ (p : Int)) = false := decide_eq_false (by omega)
  have t240 : ((p : Int) == 240) = false := by rw [beq_eq_false_iff_ne]; omega
  have t245 : ((p : Int) == 245) = false := by rw [beq_eq_false_iff_ne]; omega
  have t241 : ((p : Int) == 241) = false := by rw [beq_eq_false_iff_ne]; omega
  clear h hf
  go_enter Sakg.func203, Sakg.ntmps203
  go_wp2
  go_ret
  exact ⟨⟨_, rfl⟩, Below.refl _ _⟩
set_option maxHeartbeats 4000000 in
theorem writes_160 {G : Nat → Prop} {gf o : Nat} {fr : List Value} {f : FD} {w : World} (p : Nat) (h1 : 160 ≤ p) (h2 : p ≤ 164) (h : FX G gf o fr f w) (hf : AnyF f) :
    Calls Sakg.prog 203 #[.pointer (some ⟨gf, o, none⟩), .int .u8 p] w fun e w' => (∃ b, e = .returned (.bool b)) ∧ Below w.heap.size w w' := by
  have t85 : ((p : Int) == 85) = false := by rw [beq_eq_false_iff_ne]; omega
  have t93 : ((p : Int) == 93) = false := by rw [beq_eq_false_iff_ne]; omega
  have t255 : ((p : Int) == 255) = false := by rw [beq_eq_false_iff_ne]; omega
  have u160 : decide ((160 : Int) ≤ (p : Int)) = true := decide_eq_true (by omega)
  have v164 : decide ((p : Int) ≤ 164) = true := decide_eq_true (by omega)
  clear h hf
  go_enter Sakg.func203, Sakg.ntmps203
  go_wp2
  go_ret
  exact ⟨⟨_, rfl⟩, Below.refl _ _⟩
set_option maxHeartbeats 4000000 in
theorem writes_165 {G : Nat → Prop} {gf o : Nat} {fr : List Value} {f : FD} {w : World} (p : Nat) (h1 : 165 ≤ p) (h2 : p ≤ 239) (h : FX G gf o fr f w) (hf : AnyF f) :
    Calls Sakg.prog 203 #[.pointer (some ⟨gf, o, none⟩), .int .u8 p] w fun e w' => (∃ b, e = .returned (.bool b)) ∧ Below w.heap.size w w' := by
  have t85 : ((p : Int) == 85) = false := by rw [beq_eq_false_iff_ne]; omega
  have t93 : ((p : Int) == 93) = false := by rw [beq_eq_false_iff_ne]; omega
  have t255 : ((p : Int) == 255) = false := by rw [beq_eq_false_iff_ne]; omega
  have u160 : decide ((160 : Int) ≤ (p : Int)) = true := decide_eq_true (by omega)
  have v164 : decide ((p : Int) ≤ 164) = false := decide_eq_false (by omega)
  have t240 : ((p : Int) == 240) = false := by rw [beq_eq_false_iff_ne]; omega
  have t245 : ((p : Int) == 245) = false := by rw [beq_eq_false_iff_ne]; omega
  have t241 : ((p : Int) == 241) = false := by rw [beq_eq_false_iff_ne]; omega
  clear h hf
  go_enter Sakg.func203, Sakg.ntmps203
  go_wp2
  go_ret
  exact ⟨⟨_, rfl⟩, Below.refl _ _⟩
set_option maxHeartbeats 4000000 in
theorem writes_240 {G : Nat → Prop} {gf o : Nat} {fr : List Value} {f : FD} {w : World} (h : FX G gf o fr f w) (hf : AnyF f) :
    Calls Sakg.prog 203 #[.pointer (some ⟨gf, o, none⟩), .int .u8 240] w fun e w' => (∃ b, e = .returned (.bool b)) ∧ Below w.heap.size w w' := by
  clear h hf
  go_enter Sakg.func203, Sakg.ntmps203
  go_wp2
  go_ret
  exact ⟨⟨_, rfl⟩, Below.refl _ _⟩
set_option maxHeartbeats 4000000 in
theorem writes_241 {G : Nat → Prop} {gf o : Nat} {fr : List Value} {f : FD} {w : World} (h : FX G gf o fr f w) (hf : AnyF f) :
    Calls Sakg.prog 203 #[.pointer (some ⟨gf, o, none⟩), .int .u8 241] w fun e w' => (∃ b, e = .returned (.bool b)) ∧ Below w.heap.size w w' := by
  have hs := argN_lt hf.stk 2
  have hsl := hf.slen
  have ha2 : argN f.stk 2 < BIG := Nat.lt_trans hs p256_lt
  have HA := hide (h.arg (by omega) 2 (by omega))
  generalize argN f.stk 2 = a2 at HA ha2
  clear h hs
  go_enter Sakg.func203, Sakg.ntmps203
  go_wp2_with fail
  refine (unhide HA).mono ?_
  rintro e w1 ⟨⟨A1, k1, c1, rfl, s1⟩, q1⟩
  have b1 : Below w.heap.size w w1 := q1.below _
  have HZ := hide (isZero_any A1 k1 c1 a2 w1 (s1.kp (ChgS.of b1)).now ha2)
  clear s1 q1
  go_wp2_with (go_at_call 130; refine (unhide HZ).mono ?_; rintro e w2 ⟨rfl, q2⟩; have b2 : Below w1.heap.size w1 w2 := q2.below _; clear q2)
  go_ret
  exact ⟨⟨_, rfl⟩, b1.thn b2⟩
set_option maxHeartbeats 4000000 in
theorem writes_242 {G : Nat → Prop} {gf o : Nat} {fr : List Value} {f : FD} {w : World} (p : Nat) (h1 : 242 ≤ p) (h2 : p ≤ 244) (h : FX G gf o fr f w) (hf : AnyF f) :
    Calls Sakg.prog 203 #[.pointer (some ⟨gf, o, none⟩), .int .u8 p] w fun e w' => (∃ b, e = .returned (.bool b)) ∧ Below w.heap.size w w' := by
  have t85 : ((p : Int) == 85) = false := by rw [beq_eq_false_iff_ne]; omega
  have t93 : ((p : Int) == 93) = false := by rw [beq_eq_false_iff_ne]; omega
  have t255 : ((p : Int) == 255) = false := by rw [beq_eq_false_iff_ne]; omega
  have u160 : decide ((160 : Int) ≤ (p : Int)) = true := decide_eq_true (by omega)
  have v164 : decide ((p : Int) ≤ 164) = false := decide_eq_false (by omega)
  have t240 : ((p : Int) == 240) = false := by rw [beq_eq_false_iff_ne]; omega
  have t245 : ((p : Int) == 245) = false := by rw [beq_eq_false_iff_ne]; omega
  have t241 : ((p : Int) == 241) = false := by rw [beq_eq_false_iff_ne]; omega
  clear h hf
  go_enter Sakg.func203, Sakg.ntmps203
  go_wp2
  go_ret
  exact ⟨⟨_, rfl⟩, Below.refl _ _⟩
set_option maxHeartbeats 4000000 in
theorem writes_245 {G : Nat → Prop} {gf o : Nat} {fr : List Value} {f : FD} {w : World} (h : FX G gf o fr f w) (hf : AnyF f) :
    Calls Sakg.prog 203 #[.pointer (some ⟨gf, o, none⟩), .int .u8 245] w fun e w' => (∃ b, e = .returned (.bool b)) ∧ Below w.heap.size w w' := by
  clear h hf
  go_enter Sakg.func203, Sakg.ntmps203
  go_wp2
  go_ret
  exact ⟨⟨_, rfl⟩, Below.refl _ _⟩
set_option maxHeartbeats 4000000 in
theorem writes_246 {G : Nat → Prop} {gf o : Nat} {fr : List Value} {f : FD} {w : World} (p : Nat) (h1 : 246 ≤ p) (h2 : p ≤ 254) (h : FX G gf o fr f w) (hf : AnyF f) :
    Calls Sakg.prog 203 #[.pointer (some ⟨gf, o, none⟩), .int .u8 p] w fun e w' => (∃ b, e = .returned (.bool b)) ∧ Below w.heap.size w w' := by
  have t85 : ((p : Int) == 85) = false := by rw [beq_eq_false_iff_ne]; omega
  have t93 : ((p : Int) == 93) = false := by rw [beq_eq_false_iff_ne]; omega
  have t255 : ((p : Int) == 255) = false := by rw [beq_eq_false_iff_ne]; omega
  have u160 : decide ((160 : Int) ≤ (p : Int)) = true := decide_eq_true (by omega)
  have v164 : decide ((p : Int) ≤ 164) = false := decide_eq_false (by omega)
  have t240 : ((p : Int) == 240) = false := by rw [beq_eq_false_iff_ne]; omega
  have t245 : ((p : Int) == 245) = false := by rw [beq_eq_false_iff_ne]; omega
  have t241 : ((p : Int) == 241) = false := by rw [beq_eq_false_iff_ne]; omega
  clear h hf
  go_enter Sakg.func203, Sakg.ntmps203
  go_wp2
  go_ret
  exact ⟨⟨_, rfl⟩, Below.refl _ _⟩
set_option maxHeartbeats 4000000 in
theorem writes_255 {G : Nat → Prop} {gf o : Nat} {fr : List Value} {f : FD} {w : World} (h : FX G gf o fr f w) (hf : AnyF f) :
    Calls Sakg.prog 203 #[.pointer (some ⟨gf, o, none⟩), .int .u8 255] w fun e w' => (∃ b, e = .returned (.bool b)) ∧ Below w.heap.size w w' := by
  clear h hf
  go_enter Sakg.func203, Sakg.ntmps203
  go_wp2
  go_ret
  exact ⟨⟨_, rfl⟩, Below.refl _ _⟩
theorem FX.writes {G : Nat → Prop} {gf o : Nat} {fr : List Value} {f : FD} {w : World} (h : FX G gf o fr f w) (hf : AnyF f) (p : Nat) (hp : p ≤ 255) :
    Calls Sakg.prog 203 #[.pointer (some ⟨gf, o, none⟩), .int .u8 p] w fun e w' => (∃ b, e = .returned (.bool b)) ∧ Below w.heap.size w w' := by
  by_cases h0 : p ≤ 84
  · exact writes_0 p (by omega) (by omega) h hf
  by_cases h85 : p ≤ 85
  · obtain rfl : p = 85 := by omega
    exact writes_85 h hf
  by_cases h86 : p ≤ 92
  · exact writes_86 p (by omega) (by omega) h hf
  by_cases h93 : p ≤ 93
  · obtain rfl : p = 93 := by omega
    exact writes_93 h hf
  by_cases h94 : p ≤ 159
  · exact writes_94 p (by omega) (by omega) h hf
  by_cases h160 : p ≤ 164
  · exact writes_160 p (by omega) (by omega) h hf
  by_cases h165 : p ≤ 239
  · exact writes_165 p (by omega) (by omega) h hf
  by_cases h240 : p ≤ 240
  · obtain rfl : p = 240 := by omega
    exact writes_240 h hf
  by_cases h241 : p ≤ 241
  · obtain rfl : p = 241 := by omega
    exact writes_241 h hf
  by_cases h242 : p ≤ 244
  · exact writes_242 p (by omega) (by omega) h hf
  by_cases h245 : p ≤ 245
  · obtain rfl : p = 245 := by omega
    exact writes_245 h hf
  by_cases h246 : p ≤ 254
  · exact writes_246 p (by omega) (by omega) h hf
  obtain rfl : p = 255 := by omega
  exact writes_255 h hf

end Go.Proofs.YgcsakGreat
