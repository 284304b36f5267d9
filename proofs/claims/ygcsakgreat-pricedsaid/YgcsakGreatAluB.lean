/-
  yp: truth, power, signExtended, pickedByte.
-/
import Derived.Test.YgcsakGreatAluA
namespace Go.Proofs.YgcsakGreat
set_option linter.unusedVariables false
set_option linter.unusedSimpArgs false
set_option maxRecDepth 100000
open Go.RowKit

def modN (m n : Nat) : Nat := if n = 0 then 0 else m % n
theorem modN_le (m n : Nat) : modN m n ≤ m := by
  unfold modN
  split
  · omega
  · exact Nat.mod_le _ _
/-- DivMod, also by zero -/
theorem IsNat.dm {w : World} {a b : Option Addr} {la lb ca cb m n : Nat} (h1 : IsNat w a la ca m) (h2 : IsNat w b lb cb n) (hm : m < BIG) (hn : n < BIG) :
    Calls Sakg.prog 61 #[.slice a la ca, .slice b lb cb] w fun e w' => ∃ A k c A' k' c' ok, e = .returned (.tuple #[.slice A k c, .slice A' k' c', .bool ok]) ∧ IsNat w' A k c (m / n) ∧ IsNat w' A' k' c' (modN m n) ∧ New w A ∧ New w A' ∧ Below w.heap.size w w' := by
  by_cases h0 : n = 0
  · subst h0
    have l1 := h1.len 200 hm
    have l2 := h2.len 200 hn
    obtain ⟨xs, s1, _, e1, _⟩ := h1
    obtain ⟨ys, s2, _, e2, _⟩ := h2
    refine (divmod_zero a b la lb ca cb xs ys w s1 s2 (by omega) (by omega) e2).mono ?_
    rintro e w' ⟨rfl, rfl⟩
    refine ⟨none, 0, 0, none, 0, 0, false, rfl, ?_, ?_, New.nil _, New.nil _, Below.refl _ _⟩
    · rw [Nat.div_zero]; exact IsNat.nil _
    · exact IsNat.nil _
  · refine (h1.divmod h2 hm hn (by omega)).mono ?_
    rintro e w' ⟨A, k, c, A', k', c', rfl, q1, q2, q3, q4, q5⟩
    exact ⟨A, k, c, A', k', c', true, rfl, q1, by unfold modN; rw [if_neg h0]; exact q2, q3, q4, q5⟩

/-- how many digits a number has -/
def dlen (m : Nat) : Nat := (trimL (dig8 m 200)).length
theorem IsNat.dlen {w : World} {a : Option Addr} {la ca m : Nat} (h : IsNat w a la ca m) (hm : m < BIG) : la = dlen m := by
  obtain ⟨xs, h1, h2, h3, _⟩ := h
  have e : xs = trimL (dig8 m 200) := nrm_inj xs _ h1.byt (trimL_byt (dig8_byt m 200)) h2 (trimL_idem _) (by rw [val_trimL, dig8_val, h3]; exact (Nat.mod_eq_of_lt hm).symm)
  rw [← h1.len_eq, e]
  rfl

theorem isNat_one (w : World) : IsNat (w.alloc (.cells #[.int .u8 1] 5)) (some ⟨w.heap.size, 0, none⟩) 1 1 1 := by
  have ho : OwnT 5 (w.alloc (.cells #[.int .u8 1] 5)) w.heap.size [1] := by
    unfold OwnT
    rw [heap_alloc_new]
    rfl
  exact ⟨[1], ho.src_all (fun y hy => by rw [List.mem_singleton.1 hy]; omega) 1 rfl (by unfold maxLen; omega), rfl, rfl, fun h => by omega⟩

def truthN (b : Bool) : Nat := if b then 1 else 0
set_option maxHeartbeats 1000000 in
theorem truth_any (b : Bool) (w : World) : Calls Sakg.prog 67 #[.bool b] w (MakesNat w (truthN b)) := by
  cases b with
  | true =>
    go_enter Sakg.func67, Sakg.ntmps67
    go_wp2
    go_ret
    exact ⟨_, _, _, rfl, isNat_one w, New.at _ _ _ (Nat.le_refl _), (Below.refl _ _).alloc (Nat.le_refl _) _⟩
  | false =>
    go_enter Sakg.func67, Sakg.ntmps67
    go_wp2
    go_ret
    exact ⟨_, _, _, rfl, IsNat.nil _, New.nil _, Below.refl _ _⟩

def powL (a e : Nat) : Nat → Nat → Nat
  | 0, p => p
  | i + 1, p => powL a e i (if bitB e i then (p * p % P256) * a % P256 else p * p % P256)
def powN (a e : Nat) : Nat := powL a e (8 * min (dlen e) 32) 1
theorem p256_pos : 0 < P256 := Nat.pow_pos (by omega)
theorem p256_lt : P256 < BIG := by unfold P256; exact Nat.lt_of_lt_of_le (Nat.pow_lt_pow_right (by omega) (show 32 < 33 by omega)) (big_pow 33 (by omega))
theorem mul_big {m n : Nat} (hm : m < P256) (hn : n < P256) : m * n < BIG := by
  refine Nat.lt_of_lt_of_le (Nat.mul_lt_mul'' hm hn) ?_
  unfold P256
  rw [← Nat.pow_add]
  exact big_pow 64 (by omega)

set_option maxHeartbeats 4000000 in
theorem power_any (a b : Option Addr) (la ca lb cb m n : Nat) (w : World) (h1 : IsNat w a la ca m) (h2 : IsNat w b lb cb n) (hm : m < P256) (hn : n < P256) :
    Calls Sakg.prog 65 #[.slice a la ca, .slice b lb cb] w (MakesNat w (powN m n)) := by
  have hmB : m < BIG := Nat.lt_trans hm p256_lt
  have hnB : n < BIG := Nat.lt_trans hn p256_lt
  have hdl := h2.dlen hnB
  have hl32 := h2.len 32 hn
  have hmin : min (lb : Int) 32 = (lb : Int) := by omega
  have hmn : min (dlen n) 32 = lb := by rw [← hdl]; omega
  have hgoal : powN m n = powL m n (8 * lb) 1 := by unfold powN; rw [hmn]
  rw [hgoal]
  have H1 := hide h1
  have H2 := hide h2
  have HP := hide hm
  clear h1 h2 hdl hmn hgoal
  obtain ⟨W, hW⟩ : ∃ W, W = w.alloc (.cells #[.int .u8 1] 5) := ⟨_, rfl⟩
  have hb0 : Below w.heap.size w W := by rw [hW]; exact (Below.refl _ _).alloc (Nat.le_refl _) _
  have hn0 : IsNat W (some ⟨w.heap.size, 0, none⟩) 1 1 1 := by rw [hW]; exact isNat_one w
  have HN0 := hide hn0
  clear hn0
  go_enter Sakg.func65, Sakg.ntmps65
  go_wp2_with fail
  rw [← hW]
  clear hW
  go_loopg [5, 6] (8 * lb) (fun gk pv iv wr => ∃ (i p : Nat) (A : Option Addr) (k c : Nat), i = gk ∧ i ≤ 8 * lb ∧ iv = .int .i64 i ∧ pv = .slice A k c ∧ IsNat wr A k c p ∧ New w A ∧ p < P256 ∧ powL m n i p = powL m n (8 * lb) 1 ∧ Below w.heap.size w wr)
  case atStart => exact ⟨8 * lb, 1, _, _, _, rfl, Nat.le_refl _, by push_cast; rfl, rfl, unhide HN0, New.at _ _ _ (Nat.le_refl _), Nat.lt_of_lt_of_le (by decide) (Nat.pow_le_pow_right (show 0 < 256 by omega) (show 1 ≤ 32 by omega)), rfl, hb0⟩
  case round =>
    obtain ⟨i, p, A, k, c, rfl, hil, rfl, rfl, hp, hN, hpl, hrec, hbe⟩ := hrel
    have HREC := hide hrec
    rcases i with _ | j
    case succ =>
      have HMM := hide (hp.mul hp (Nat.lt_trans hpl p256_lt) (Nat.lt_trans hpl p256_lt))
      have hpp := mul_big hpl hpl
      clear hp hrec
      have hcv : IntKind.u16.wrap (j : Int) = (j : Int) := by rw [IntKind.wrap_u16]; omega
      go_wp2_with fail
      refine (unhide HMM).mono ?_
      rintro e w1 ⟨A1, k1, c1, rfl, n1, N1, b1⟩
      have HW := hide (wrapped_any A1 k1 c1 _ w1 n1 hpp)
      clear n1
      go_wp2_with fail
      refine (unhide HW).mono ?_
      rintro e w2 ⟨A2, k2, c2, rfl, n2, N2, b2⟩
      have b12 : Below wr.heap.size wr w2 := b1.trans (b2.mono b1.size)
      have bw2 : Below w.heap.size w w2 := hbe.trans (b12.mono hbe.size)
      have hq : p * p % 256 ^ 32 < P256 := Nat.mod_lt _ p256_pos
      have HB := hide (natBit_any b lb cb n j w2 ((unhide H2).kept bw2) hnB (by omega))
      have HM2 := hide (n2.mul ((unhide H1).kept bw2) (Nat.lt_trans hq p256_lt) hmB)
      have hqm := mul_big hq (unhide HP)
      have NN2 := hide n2
      have NW2 : New w A2 := N2.later (Nat.le_trans hbe.size b1.size)
      clear n2
      go_wp2_with fail
      refine (unhide HB).mono ?_
      rintro e w3 ⟨rfl, rfl⟩
      cases hbit : bitB n j with
      | true =>
        have hr2 : powL m n j ((p * p % 256 ^ 32) * m % 256 ^ 32) = powL m n (8 * lb) 1 := by rw [← unhide HREC, powL, hbit]; rfl
        have HR2 := hide hr2
        clear hr2 hbit
        go_wp2_with fail
        refine (unhide HM2).mono ?_
        rintro e w4 ⟨A4, k4, c4, rfl, n4, N4, b4⟩
        have HW4 := hide (wrapped_any A4 k4 c4 _ w4 n4 hqm)
        clear n4
        go_wp2_with fail
        refine (unhide HW4).mono ?_
        rintro e w5 ⟨A5, k5, c5, rfl, n5, N5, b5⟩
        have bw4 : Below w.heap.size w w4 := bw2.trans (b4.mono bw2.size)
        have HN5 := hide n5
        clear n5
        go_wp2
        go_roundg j
        case measure => omega
        case rel => exact ⟨j, _, A5, k5, c5, rfl, by omega, rfl, rfl, unhide HN5, N5.later bw4.size, Nat.mod_lt _ p256_pos, unhide HR2, bw4.trans (b5.mono bw4.size)⟩
      | false =>
        have hr2 : powL m n j (p * p % 256 ^ 32) = powL m n (8 * lb) 1 := by rw [← unhide HREC, powL, hbit]; rfl
        have HR2 := hide hr2
        clear hr2 hbit
        go_wp2
        go_roundg j
        case measure => omega
        case rel => exact ⟨j, _, A2, k2, c2, rfl, by omega, rfl, rfl, unhide NN2, NW2, hq, unhide HR2, bw2⟩
    case zero =>
      have hfin : p = powL m n (8 * lb) 1 := by rw [← hrec]; rfl
      have HF := hide hfin
      have HPP := hide hp
      clear hfin hp hrec
      go_wp2
      go_ret
      rw [← unhide HF]
      exact ⟨A, k, c, rfl, unhide HPP, hN, hbe⟩

def pickN (m n : Nat) : Nat := if m < 32 then n / 256 ^ (31 - m) % 256 else 0
set_option maxHeartbeats 2000000 in
theorem pickedByte_any (a b : Option Addr) (la ca lb cb m n : Nat) (w : World) (h1 : IsNat w a la ca m) (h2 : IsNat w b lb cb n) (hm : m < P256) (hn : n < P256) :
    Calls Sakg.prog 71 #[.slice a la ca, .slice b lb cb] w (MakesNat w (pickN m n)) := by
  have hmB : m < BIG := Nat.lt_trans hm p256_lt
  have HU := hide (u64_any a la ca m w h1 hmB)
  have hl32 := h2.len 32 hn
  by_cases h32 : m < 32
  · have hu : u64N m = m := by unfold u64N; rw [if_pos (by omega)]
    have hf : fits64 m = true := by unfold fits64; exact decide_eq_true (by omega)
    rw [hu, hf] at HU
    have hge : decide ((32 : Int) ≤ (m : Int)) = false := decide_eq_false (by omega)
    by_cases hlb : 31 - m < lb
    · have hge2 : decide ((lb : Int) ≤ 31 - (m : Int)) = false := decide_eq_false (by omega)
      obtain ⟨ys, s2, t2, v2, _⟩ := h2
      obtain ⟨bb, off, rfl, hcs⟩ := s2.at_ (by omega)
      have hc := hcs (31 - m) hlb
      have hd := dig_at ys (31 - m) s2.byt (by rw [s2.len_eq]; exact hlb)
      have hxb := s2.byt (ys.getD (31 - m) 0) (by rw [List.getD_eq_getElem?_getD, List.getElem?_eq_getElem (by rw [s2.len_eq]; exact hlb)]; simp)
      obtain ⟨x, hx⟩ : ∃ x : Nat, (x : Int) = ys.getD (31 - m) 0 := ⟨(ys.getD (31 - m) 0).toNat, by omega⟩
      rw [← hx] at hc hd hxb
      rw [v2, Int.toNat_natCast] at hd
      have hres : pickN m n = x := by unfold pickN; rw [if_pos h32, hd]
      obtain ⟨p, hp⟩ : ∃ p, p = 31 - m := ⟨_, rfl⟩
      rw [← hp] at hc
      have e1 : (31 : Int) - (m : Int) = (p : Int) := by omega
      have hpl : p < lb := by omega
      have hwp : IntKind.u64.wrap ((31 : Int) - (m : Int)) = (p : Int) := by rw [IntKind.wrap_u64]; omega
      have HRES := hide hres
      clear hcs hd hx hres s2 t2 v2 h1 hp
      obtain ⟨W, hW⟩ : ∃ W, W = w.alloc (.cells #[.int .u8 (x : Int)] 5) := ⟨_, rfl⟩
      have hb0 : Below w.heap.size w W := by rw [hW]; exact (Below.refl _ _).alloc (Nat.le_refl _) _
      have ho : OwnT 5 W w.heap.size [(x : Int)] := by
        rw [hW]
        unfold OwnT
        rw [heap_alloc_new]
        rfl
      have hs : Src W (some ⟨w.heap.size, 0, none⟩) 1 1 [(x : Int)] := ho.src_all (fun y hy => by rw [List.mem_singleton.1 hy]; omega) 1 rfl (by unfold maxLen; omega)
      have HNN := hide (norm_nat _ 1 1 _ W hs (by omega))
      clear ho hs
      go_enter Sakg.func71, Sakg.ntmps71
      go_wp2_with (go_at_call 131; refine (unhide HU).mono ?_; rintro e w1 ⟨rfl, rfl⟩)
      rw [← hW]
      refine (unhide HNN).mono ?_
      rintro e w2 ⟨A, k, c, rfl, hn2, hN, hb⟩
      have hv : val [(x : Int)] = x := by simp [val]
      rw [hv] at hn2
      have HN2 := hide hn2
      clear hn2 hW
      go_wp2
      go_ret
      rw [unhide HRES]
      exact ⟨A, k, c, rfl, unhide HN2, hN.later hb0.size, hb0.trans (hb.mono hb0.size)⟩
    · have hge2 : decide ((lb : Int) ≤ 31 - (m : Int)) = true := decide_eq_true (by omega)
      have hlt : n < 256 ^ (31 - m) := by
        obtain ⟨ys, s2, t2, rfl, _⟩ := h2
        refine Nat.lt_of_lt_of_le (val_lt ys s2.byt) (Nat.pow_le_pow_right (by omega) ?_)
        rw [s2.len_eq]; omega
      have hres : pickN m n = 0 := by unfold pickN; rw [if_pos h32, Nat.div_eq_of_lt hlt]
      rw [hres]
      clear hlt hres h1 h2
      go_enter Sakg.func71, Sakg.ntmps71
      go_wp2_with (go_at_call 131; refine (unhide HU).mono ?_; rintro e w1 ⟨rfl, rfl⟩)
      go_ret
      exact ⟨_, _, _, rfl, IsNat.nil _, New.nil _, Below.refl _ _⟩
  · have hres : pickN m n = 0 := by unfold pickN; rw [if_neg h32]
    rw [hres]
    clear h1 h2 hres
    cases hf : fits64 m with
    | false =>
      rw [hf] at HU
      generalize u64N m = um at HU
      go_enter Sakg.func71, Sakg.ntmps71
      go_wp2_with (go_at_call 131; refine (unhide HU).mono ?_; rintro e w1 ⟨rfl, rfl⟩)
      go_ret
      exact ⟨_, _, _, rfl, IsNat.nil _, New.nil _, Below.refl _ _⟩
    | true =>
      have hu : u64N m = m := by unfold u64N; rw [if_pos (of_decide_eq_true hf)]
      rw [hf, hu] at HU
      have hge : decide ((32 : Int) ≤ (m : Int)) = true := decide_eq_true (by omega)
      go_enter Sakg.func71, Sakg.ntmps71
      go_wp2_with (go_at_call 131; refine (unhide HU).mono ?_; rintro e w1 ⟨rfl, rfl⟩)
      go_ret
      exact ⟨_, _, _, rfl, IsNat.nil _, New.nil _, Below.refl _ _⟩

def sextN (m n : Nat) : Nat := if m < 31 then (if bitB n (8 * m + 7) then n % 2 ^ (8 * m + 8) + (P256 - 2 ^ (8 * m + 8)) else n % 2 ^ (8 * m + 8)) else n
set_option maxHeartbeats 4000000 in
theorem signExtended_any (a b : Option Addr) (la ca lb cb m n : Nat) (w : World) (h1 : IsNat w a la ca m) (h2 : IsNat w b lb cb n) (hm : m < P256) (hn : n < P256) :
    Calls Sakg.prog 66 #[.slice a la ca, .slice b lb cb] w (MakesNat w (sextN m n)) := by
  have hmB : m < BIG := Nat.lt_trans hm p256_lt
  have hnB : n < BIG := Nat.lt_trans hn p256_lt
  have HU := hide (u64_any a la ca m w h1 hmB)
  have hl32 := h2.len 32 hn
  by_cases h31 : m < 31
  · have hu : u64N m = m := by unfold u64N; rw [if_pos (by omega)]
    have hf : fits64 m = true := by unfold fits64; exact decide_eq_true (by omega)
    rw [hu, hf] at HU
    have hge : decide ((31 : Int) ≤ (m : Int)) = false := decide_eq_false (by omega)
    obtain ⟨s, hs⟩ : ∃ s, s = 8 * m + 7 := ⟨_, rfl⟩
    have hsl : s ≤ 254 := by omega
    obtain ⟨t, ht⟩ : ∃ t, t = s + 1 := ⟨_, rfl⟩
    have htl : t ≤ 255 := by omega
    have e7 : 8 * (m : Int) + 7 = (s : Int) := by omega
    have ew4 : (s : Int) + 1 = (t : Int) := by omega
    have hres : sextN m n = (if bitB n s then n % 2 ^ t + (P256 - 2 ^ t) else n % 2 ^ t) := by unfold sextN; rw [if_pos h31, ← hs, show 8 * m + 8 = t from by omega]
    have hple : 2 ^ t ≤ P256 := by rw [← two256]; exact Nat.pow_le_pow_right (by omega) (by omega)
    have hplt : 2 ^ t < BIG := Nat.lt_of_le_of_lt hple p256_lt
    have hpp : 0 < 2 ^ t := Nat.pow_pos (by omega)
    have HRES := hide hres
    have HPLE := hide hple
    have HPLT := hide hplt
    have HPP := hide hpp
    have H2 := hide h2
    have HS := hide hs
    clear h1 h2 hres hple hplt hpp ht
    go_enter Sakg.func66, Sakg.ntmps66
    go_upto_region 5 with (go_at_call 131; refine (unhide HU).mono ?_; rintro e w1 ⟨rfl, rfl⟩)
    clear hs
    have HP := hide (pow2_any t w (by omega))
    go_wp2_with fail
    refine (unhide HP).mono ?_
    rintro e w1 ⟨A1, k1, c1, rfl, n1, N1, b1⟩
    have HD := hide (((unhide H2).kept b1).dm n1 hnB (unhide HPLT))
    clear n1
    go_wp2_with fail
    refine (unhide HD).mono ?_
    rintro e w2 ⟨A2, k2, c2, A3, k3, c3, ok, rfl, -, n3, -, N3, b2⟩
    have hmod : modN n (2 ^ t) = n % 2 ^ t := by unfold modN; rw [if_neg (by have := unhide HPP; omega)]
    rw [hmod] at n3
    have NN3 := hide n3
    have bw2 : Below w.heap.size w w2 := b1.trans (b2.mono b1.size)
    have HB := hide (natBit_any b lb cb n s w2 ((unhide H2).kept bw2) hnB (by omega))
    clear n3 hmod
    go_wp2_with fail
    refine (unhide HB).mono ?_
    rintro e w3 ⟨rfl, rfl⟩
    cases hbit : bitB n s with
    | false =>
      have hr2 : sextN m n = n % 2 ^ t := by rw [unhide HRES, hbit, if_neg (by simp)]
      have HR2 := hide hr2
      clear hr2 hbit
      go_wp2
      go_ret
      rw [unhide HR2]
      exact ⟨A3, k3, c3, rfl, unhide NN3, N3.later b1.size, bw2⟩
    | true =>
      have hr2 : sextN m n = n % 2 ^ t + (P256 - 2 ^ t) := by rw [unhide HRES, hbit, if_pos rfl]
      have HR2 := hide hr2
      have HQ := hide (pow2_any 256 w2 (by omega))
      rw [two256] at HQ
      clear hr2 hbit
      go_wp2_with fail
      refine (unhide HQ).mono ?_
      rintro e w4 ⟨A4, k4, c4, rfl, n4, N4, b4⟩
      have HP2 := hide (pow2_any t w4 (by omega))
      have NN4 := hide n4
      clear n4
      go_wp2_with fail
      refine (unhide HP2).mono ?_
      rintro e w5 ⟨A5, k5, c5, rfl, n5, N5, b5⟩
      have HSB := hide (((unhide NN4).kept b5).sub n5 p256_lt (unhide HPLT))
      clear n5
      go_wp2_with fail
      refine (unhide HSB).mono ?_
      rintro e w6 ⟨A6, k6, c6, rfl, n6, N6, b6⟩
      have b26 : Below w2.heap.size w2 w6 := b4.trans ((b5.trans (b6.mono b5.size)).mono b4.size)
      have hA : n % 2 ^ t < BIG := Nat.lt_of_le_of_lt (Nat.mod_le _ _) hnB
      have HAD := hide (((unhide NN3).kept b26).add n6 hA (Nat.lt_of_le_of_lt (Nat.sub_le _ _) p256_lt))
      clear n6
      go_wp2_with fail
      refine (unhide HAD).mono ?_
      rintro e w7 ⟨A7, k7, c7, rfl, n7, N7, b7⟩
      have HN7 := hide n7
      clear n7
      have bw6 : Below w.heap.size w w6 := bw2.trans (b26.mono bw2.size)
      go_wp2
      go_ret
      rw [unhide HR2]
      exact ⟨A7, k7, c7, rfl, unhide HN7, N7.later bw6.size, bw6.trans (b7.mono bw6.size)⟩
  · have hres : sextN m n = n := by unfold sextN; rw [if_neg h31]
    rw [hres]
    obtain ⟨ys, s2, t2, v2, _⟩ := h2
    have HNN := hide (norm_nat b lb cb ys w s2 (by omega))
    rw [v2] at HNN
    clear h1 hres s2 t2 v2
    cases hf : fits64 m with
    | false =>
      rw [hf] at HU
      generalize u64N m = um at HU
      go_enter Sakg.func66, Sakg.ntmps66
      go_wp2_with (go_at_call 131; refine (unhide HU).mono ?_; rintro e w1 ⟨rfl, rfl⟩)
      refine (unhide HNN).mono ?_
      rintro e w2 ⟨A, k, c, rfl, n2, N2, b2⟩
      have HN2 := hide n2
      clear n2
      go_wp2
      go_ret
      exact ⟨A, k, c, rfl, unhide HN2, N2, b2⟩
    | true =>
      have hu : u64N m = m := by unfold u64N; rw [if_pos (of_decide_eq_true hf)]
      rw [hf, hu] at HU
      have hge : decide ((31 : Int) ≤ (m : Int)) = true := decide_eq_true (by omega)
      go_enter Sakg.func66, Sakg.ntmps66
      go_wp2_with (go_at_call 131; refine (unhide HU).mono ?_; rintro e w1 ⟨rfl, rfl⟩)
      refine (unhide HNN).mono ?_
      rintro e w2 ⟨A, k, c, rfl, n2, N2, b2⟩
      have HN2 := hide n2
      clear n2
      go_wp2
      go_ret
      exact ⟨A, k, c, rfl, unhide HN2, N2, b2⟩

end Go.Proofs.YgcsakGreat
