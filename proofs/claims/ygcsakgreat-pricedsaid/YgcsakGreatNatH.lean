/-
  nat.DivMod.
-/
import Derived.Test.YgcsakGreatNatG
namespace Go.Proofs.YgcsakGreat
set_option linter.unusedVariables false
set_option linter.unusedSimpArgs false
set_option maxRecDepth 100000
open Go.RowKit

set_option maxHeartbeats 1000000 in
theorem divmod_zero (a b : Option Addr) (la lb ca cb : Nat) (xs ys : List Int) (w : World) (h1 : Src w a la ca xs) (h2 : Src w b lb cb ys) (hm : la ≤ 100000000) (hm2 : lb ≤ 100000000) (hz : val ys = 0) :
    Calls Sakg.prog 61 #[.slice a la ca, .slice b lb cb] w fun e w' => e = .returned (.tuple #[.slice none 0 0, .slice none 0 0, .bool false]) ∧ w = w' := by
  have HC1 := hide (trim_any a la ca xs w h1 (by omega))
  have HC2 := hide (trim_any b lb cb ys w h2 (by omega))
  have ht : trimL ys = [] := by
    have h3 := val_trimL ys
    cases h4 : trimL ys with
    | nil => rfl
    | cons d l =>
      exfalso
      have h5 := val_pos (trimL ys) (trimL_byt h2.byt) (by rw [h4]; simp) (trimL_idem ys)
      have := Nat.pow_pos (n := (trimL ys).length - 1) (show 0 < 256 by omega)
      omega
  have HT := hide ht
  clear h1 h2 ht hz
  go_enter Sakg.func61, Sakg.ntmps61
  go_wp2_with fail
  refine (unhide HC1).mono ?_
  rintro e w1 ⟨⟨n1, rfl, s1⟩, rfl⟩
  go_wp2_with fail
  refine (unhide HC2).mono ?_
  rintro e w1 ⟨⟨n2, rfl, s2⟩, rfl⟩
  obtain rfl : n2 = 0 := by have h6 := s2.len_eq; rw [unhide HT] at h6; simp at h6; omega
  clear s1 s2
  go_wp2
  go_ret3
  exact ⟨rfl, rfl⟩

theorem and_bit (x bit : Nat) (hx : x < 256) : bits .and .u8 ((x : Int) / 2 ^ bit) 1 = ((x / 2 ^ bit % 2 : Nat) : Int) := by
  have h1 : x / 2 ^ bit ≤ x := Nat.div_le_self _ _
  have e : ((x : Int) / 2 ^ bit) = ((x / 2 ^ bit : Nat) : Int) := by simp
  rw [e]
  generalize x / 2 ^ bit = q at *
  have := bits_mask .u8 8 (by decide) wraps_u8 1 (by decide) ((q : Nat) : Int) (by omega) (by omega)
  rw [show ((2 : Int) ^ 1 - 1) = 1 from rfl] at this
  rw [this]
  omega

theorem or_low (y c : Nat) (hy : y < 256) (hc : c ≤ 1) : bits .or .u8 ((y : Int) * 2 % 256) (c : Int) = ((y * 2 % 256 + c : Nat) : Int) := by
  have := bits_join .u8 8 (by decide) wraps_u8 1 ((y : Int) * 2 % 256) (c : Int) (by omega) (by omega) (by omega) (by omega) (by omega) (by omega)
  rw [this]
  omega

theorem dbl_step (D rs : List Int) (k c y t d c' : Nat) (hD : D.length = k) (hy : rs.getD k 0 = (y : Int)) (hv : val D + 256 ^ k * c = 2 * val (rs.take k) + t) (hd : d + 256 * c' = 2 * y + c) :
    val (D ++ [(d : Int)]) + 256 ^ (k + 1) * c' = 2 * val (rs.take (k + 1)) + t := by
  rw [val_append, val_take_succ rs, hy, hD]
  simp only [val, Int.toNat_natCast, Nat.mul_zero, Nat.add_zero, Nat.pow_succ]
  generalize 256 ^ k = P at *
  have h2 : P * (d + 256 * c') = P * (2 * y + c) := by rw [hd]
  rw [Nat.mul_add, Nat.mul_add, ← Nat.mul_assoc, ← Nat.mul_assoc, Nat.mul_comm P 2, Nat.mul_assoc 2] at h2
  rw [Nat.mul_add]
  omega

theorem bit_of (us : List Int) (at_ bit x : Nat) (h : at_ < us.length) (hx : us.getD at_ 0 = (x : Int)) (hb : Byt us) (hbit : bit < 8) : val us / 2 ^ (8 * at_ + bit) % 2 = x / 2 ^ bit % 2 := by
  have h1 := val_split us at_ h
  rw [hx, Int.toNat_natCast] at h1
  have h2 := val_lt (us.take at_) (hb.take at_)
  have h3 : (us.take at_).length = at_ := by simp; omega
  rw [h3] at h2
  have h4 : val us / 256 ^ at_ = x + 256 * val (us.drop (at_ + 1)) := by
    rw [h1, Nat.add_mul_div_left _ _ (Nat.pow_pos (by omega)), Nat.div_eq_of_lt h2, Nat.zero_add]
  rw [Nat.pow_add, ← Nat.div_div_eq_div_mul, Nat.pow_mul, show (2 : Nat) ^ 8 = 256 from rfl, h4]
  generalize val (us.drop (at_ + 1)) = V
  have hb' : bit = 0 ∨ bit = 1 ∨ bit = 2 ∨ bit = 3 ∨ bit = 4 ∨ bit = 5 ∨ bit = 6 ∨ bit = 7 := by omega
  rcases hb' with rfl | rfl | rfl | rfl | rfl | rfl | rfl | rfl <;> simp <;> omega

theorem low_bits (qs : List Int) (at_ bit q : Nat) (h : at_ < qs.length) (hq : qs.getD at_ 0 = (q : Int)) (hb : Byt qs) (hbit : bit < 8) (hd : val qs % 2 ^ (8 * at_ + bit + 1) = 0) (hq2 : q ≤ 255) : q % 2 ^ (bit + 1) = 0 ∧ q + 2 ^ bit ≤ 255 := by
  have h1 := val_split qs at_ h
  rw [hq, Int.toNat_natCast] at h1
  have h2 := val_lt (qs.take at_) (hb.take at_)
  have h3 : (qs.take at_).length = at_ := by simp; omega
  rw [h3] at h2
  have h4 : val qs / 256 ^ at_ = q + 256 * val (qs.drop (at_ + 1)) := by
    rw [h1, Nat.add_mul_div_left _ _ (Nat.pow_pos (by omega)), Nat.div_eq_of_lt h2, Nat.zero_add]
  have h5 : val qs / 256 ^ at_ % 2 ^ (bit + 1) = 0 := by
    rw [show 8 * at_ + bit + 1 = 8 * at_ + (bit + 1) from by omega, Nat.pow_add, Nat.pow_mul, show (2 : Nat) ^ 8 = 256 from rfl] at hd
    obtain ⟨z, hz⟩ := Nat.dvd_of_mod_eq_zero hd
    rw [hz, Nat.mul_assoc, Nat.mul_div_cancel_left _ (Nat.pow_pos (by omega)), Nat.mul_mod_right]
  rw [h4] at h5
  generalize val (qs.drop (at_ + 1)) = V at *
  have hb' : bit = 0 ∨ bit = 1 ∨ bit = 2 ∨ bit = 3 ∨ bit = 4 ∨ bit = 5 ∨ bit = 6 ∨ bit = 7 := by omega
  rcases hb' with rfl | rfl | rfl | rfl | rfl | rfl | rfl | rfl <;> simp at h5 ⊢ <;> omega

theorem or_bit_at (q bit : Nat) (hbit : bit < 8) (h : q % 2 ^ (bit + 1) = 0) (h2 : q + 2 ^ bit ≤ 255) : bits .or .u8 (q : Int) (2 ^ bit % 256) = ((q + 2 ^ bit : Nat) : Int) := by
  have e : ((2 : Int) ^ bit % 256) = ((2 ^ bit : Nat) : Int) := by
    rw [show ((2 : Int) ^ bit) = ((2 ^ bit : Nat) : Int) from by simp]
    omega
  have hp : 2 ^ bit < 2 ^ (bit + 1) := Nat.pow_lt_pow_right (by omega) (by omega)
  have := bits_join .u8 8 (by decide) wraps_u8 (bit + 1) (q : Int) ((2 ^ bit : Nat) : Int) (by omega) (by exact_mod_cast h) (by omega) (by omega) (by exact_mod_cast hp) (by omega)
  rw [e, this]
  simp

/-- one bit of the division -/
theorem div_step (A B Q R m t : Nat) (hinv : Q * B + R * 2 ^ (m + 1) + A % 2 ^ (m + 1) = A) (ht : t = A / 2 ^ m % 2) : Q * B + (2 * R + t) * 2 ^ m + A % 2 ^ m = A := by
  have h1 : A % 2 ^ (m + 1) = A % 2 ^ m + 2 ^ m * t := by rw [Nat.pow_succ, Nat.mod_mul, ht]
  rw [h1, Nat.pow_succ] at hinv
  generalize 2 ^ m = P at *
  generalize A % P = Y at *
  rw [Nat.add_mul]
  have e1 : R * (P * 2) = 2 * R * P := by rw [Nat.mul_comm P 2, ← Nat.mul_assoc, Nat.mul_comm R 2]
  have e2 : P * t = t * P := Nat.mul_comm _ _
  omega

theorem div_take (A B Q R m : Nat) (hinv : Q * B + R * 2 ^ m + A % 2 ^ m = A) (h : B ≤ R) : (Q + 2 ^ m) * B + (R - B) * 2 ^ m + A % 2 ^ m = A := by
  obtain ⟨z, rfl⟩ : ∃ z, R = B + z := ⟨R - B, by omega⟩
  rw [Nat.add_sub_cancel_left]
  rw [Nat.add_mul] at hinv ⊢
  have : 2 ^ m * B = B * 2 ^ m := Nat.mul_comm _ _
  omega

theorem div_end (A B Q R : Nat) (h : Q * B + R = A) (hlt : R < B) : Q = A / B ∧ R = A % B := by
  subst h
  constructor
  · rw [Nat.add_comm, Nat.add_mul_div_right _ _ (by omega), Nat.div_eq_of_lt hlt, Nat.zero_add]
  · rw [Nat.add_comm, Nat.add_mul_mod_self_right, Nat.mod_eq_of_lt hlt]

set_option maxHeartbeats 4000000 in
theorem divmod_pos (a b : Option Addr) (la lb ca cb : Nat) (xs ys : List Int) (w : World) (h1 : Src w a la ca xs) (h2 : Src w b lb cb ys) (hm : la ≤ 100000000) (hm2 : lb ≤ 100000000) (hz : 0 < val ys) :
    Calls Sakg.prog 61 #[.slice a la ca, .slice b lb cb] w fun e w' => ∃ A k c A' k' c', e = .returned (.tuple #[.slice A k c, .slice A' k' c', .bool true]) ∧ IsNat w' A k c (val xs / val ys) ∧ IsNat w' A' k' c' (val xs % val ys) ∧ New w A ∧ New w A' ∧ Below w.heap.size w w' := by
  have e1 := val_trimL xs
  have e2 := val_trimL ys
  have b1 := trimL_byt h1.byt
  have b2 := trimL_byt h2.byt
  have q1 := trimL_len xs
  have q2 := trimL_len ys
  have q3 := h1.len_eq
  have q4 := h2.len_eq
  rw [← e2] at hz
  rw [← e1, ← e2]
  have HC1 := hide (trim_any a la ca xs w h1 (by omega))
  have HC2 := hide (trim_any b lb cb ys w h2 (by omega))
  clear h1 h2 e1 e2
  have r1 : (trimL xs).length ≤ 100000000 := by omega
  have r2 : (trimL ys).length ≤ 100000000 := by omega
  clear q1 q2 q3 q4
  generalize trimL xs = us at *
  generalize trimL ys = vs at *
  have HB1 := hide b1
  have HB2 := hide b2
  have R1 := hide r1
  have R2 := hide r2
  have HZ := hide hz
  clear b1 b2 r1 r2 hz
  go_enter Sakg.func61, Sakg.ntmps61
  go_wp2_with fail
  refine (unhide HC1).mono ?_
  rintro e w1 ⟨⟨n1, rfl, s1⟩, rfl⟩
  go_wp2_with fail
  refine (unhide HC2).mono ?_
  rintro e w1 ⟨⟨n2, rfl, s2⟩, rfl⟩
  have l1 := s1.len_eq
  have l2 := s2.len_eq
  have r1 := unhide R1
  have r2 := unhide R2
  rw [l1] at r1
  rw [l2] at r2
  have hn2 : 0 < n2 := by
    rcases Nat.eq_zero_or_pos n2 with h | h
    · exfalso
      have h3 := unhide HZ
      rw [h] at l2
      rw [List.eq_nil_of_length_eq_zero l2] at h3
      simp [val] at h3
    · exact h
  have d2 : ((n2 : Int) == 0) = false := by simp; omega
  have S1 := hide s1
  have S2 := hide s2
  have L1 := hide l1
  have L2 := hide l2
  clear HC1 HC2 s1 s2 l1 l2 R1 R2
  go_wp2_with (first
    | (at_make; refine wpList_make_bytes rfl (.tmp 23) (.tmp 23) 54 rfl Sakg.underlying54 _ _ n1 rfl rfl rfl rfl (by omega) ?_; intro w2 ho2 hb2 hz2)
    | (at_make; refine wpList_make_bytes rfl (.tmp 27) (.tmp 27) 54 rfl Sakg.underlying54 _ _ (n2 + 1) rfl rfl (by omega) (by omega) (by omega) ?_; intro w3 ho3 hb3 hz3))
  have HO2 := hide (ho2.kept hb3)
  rw [hz2] at ho3
  have HO3 := hide ho3
  have hb4 := hb2.trans (hb3.mono (by omega))
  clear ho2 ho3 hb2 hb3 hz2 hz3
  go_loopw [9] (fun ct wr => ∃ (i : Nat) (qs rs : List Int), i ≤ 8 * n1 ∧ ct = .int .i64 i ∧ qs.length = n1 ∧ Byt qs ∧ rs.length = n2 + 1 ∧ Byt rs ∧ Own wr w.heap.size qs ∧ Own wr (w.heap.size + 1) rs ∧ val qs * val vs + val rs * 2 ^ i + val us % 2 ^ i = val us ∧ val rs < val vs ∧ val qs % 2 ^ i = 0 ∧ Below w.heap.size w wr) (fun ct _ => (intOf ct).toNat)
  case atStart =>
    refine ⟨8 * n1, zeros n1, zeros (n2 + 1), Nat.le_refl _, by go_num, zeros_len _, zeros_byt _, zeros_len _, zeros_byt _, unhide HO2, unhide HO3, ?_, ?_, ?_, hb4⟩
    · have h3 := val_lt us (unhide HB1)
      rw [unhide L1] at h3
      simp only [zeros, val_zeros, Nat.zero_mul, Nat.zero_add]
      rw [Nat.mod_eq_of_lt (by rw [Nat.pow_mul]; exact h3)]
    · simp only [zeros, val_zeros]; exact unhide HZ
    · simp [zeros, val_zeros]
  case round =>
    obtain ⟨i, qs, rs, hi, rfl, hql, hqb, hrl, hrb, hoq, hor, hinv, hlt, hdiv, hbe⟩ := hrel
    by_cases hi0 : 0 < i
    · obtain ⟨m, rfl⟩ : ∃ m, i = m + 1 := ⟨i - 1, by omega⟩
      obtain ⟨at_, bit, hmb, hbit⟩ : ∃ at_ bit, m = 8 * at_ + bit ∧ bit < 8 := ⟨m / 8, m % 8, by omega, by omega⟩
      have hat : at_ < n1 := by omega
      obtain ⟨p1, o1, rfl, c1⟩ := (unhide S1).at_ (by omega)
      have hp1 : p1 < w.heap.size := World.block_lt_of_cell? w _ (c1 0 (by omega))
      have x1 : wr.cell? ⟨p1, o1 + at_, none⟩ = some (.int .u8 (us.getD at_ 0)) := (hbe.cell (p := ⟨p1, o1 + at_, none⟩) hp1).trans (c1 at_ hat)
      have xb := (unhide HB1).get at_
      obtain ⟨x, hx⟩ : ∃ x : Nat, us.getD at_ 0 = (x : Int) := ⟨(us.getD at_ 0).toNat, by omega⟩
      rw [hx] at x1 xb
      have f1 : (m : Int) / 8 = (at_ : Int) := by omega
      have f2 : (m : Int) % 8 = (bit : Int) := by omega
      have HMB := hide hmb
      clear hmb c1
      have A1 := hide hql
      have A2 := hide hqb
      have A3 := hide hrl
      have A4 := hide hrb
      have A5 := hide hoq
      have A6 := hide hor
      have A7 := hide hinv
      have A8 := hide hlt
      have A9 := hide hdiv
      have HX := hide hx
      clear hql hqb hrl hrb hoq hor hinv hlt hdiv hx
      obtain ⟨t, ht⟩ : ∃ t, t = x / 2 ^ bit % 2 := ⟨_, rfl⟩
      have hand := and_bit x bit (by omega)
      rw [← ht] at hand
      have ht1 : t ≤ 1 := by omega
      have HT := hide ht
      clear ht
      go_wp2_with fail
      go_loopw [12, 52] (fun cy ct wq => ∃ (k c : Nat) (D : List Int), k ≤ n2 + 1 ∧ c ≤ 1 ∧ ct = .int .i64 k ∧ cy = .int .u8 c ∧ D.length = k ∧ Byt D ∧ Own wq (w.heap.size + 1) (D ++ rs.drop k) ∧ Own wq w.heap.size qs ∧ val D + 256 ^ k * c = 2 * val (rs.take k) + t ∧ Below w.heap.size w wq) (fun _ ct _ => n2 + 1 - (intOf ct).toNat)
      case atStart => exact ⟨0, t, [], by omega, ht1, rfl, rfl, rfl, (fun x hx => by simp at hx), unhide A6, unhide A5, by simp [val], hbe⟩
      case round =>
        obtain ⟨k, c, D, hk, hc1, rfl, rfl, hDl, hDb, hoD, hoQ, hvD, hbq⟩ := hrel
        by_cases hkl : k < n2 + 1
        · have hrl := unhide A3
          have hcg := hoD.cell k (by simp; omega)
          have hfg := hoD.froz k
          have hgu : (D ++ rs.drop k).getD k 0 = rs.getD k 0 := by
            rw [List.getD_eq_getElem?_getD, List.getElem?_append_right (by omega), hDl, Nat.sub_self, List.getElem?_drop]
            simp
          rw [hgu] at hcg
          have yb := (unhide A4).get k
          obtain ⟨y, hy⟩ : ∃ y : Nat, rs.getD k 0 = (y : Int) := ⟨(rs.getD k 0).toNat, by omega⟩
          rw [hy] at hcg yb
          have hor := or_low y c (by omega) hc1
          have hst := dbl_step D rs k c y t (y * 2 % 256 + c) (y / 128) hDl hy hvD (by omega)
          have hso := hoD.set k ((y * 2 % 256 + c : Nat) : Int)
          rw [set_drop D rs k _ hDl (by omega)] at hso
          have hDl2 : (D ++ [((y * 2 % 256 + c : Nat) : Int)]).length = k + 1 := by simp [hDl]
          have hDb2 : Byt (D ++ [((y * 2 % 256 + c : Nat) : Int)]) := hDb.snoc _ (by omega)
          have hon : Only (w.heap.size + 1) wr (wr.setCell ⟨w.heap.size + 1, k, none⟩ (.int .u8 ((y * 2 % 256 + c : Nat) : Int))) := (Only.refl _ _).setCell _ _
          have hoQ2 := hon.own hoQ (by omega)
          have hbs := hbq.trans (hon.below w.heap.size (by omega))
          have B1 := hide hst
          have B2 := hide hso
          have B3 := hide hDl2
          have B4 := hide hDb2
          have B5 := hide hoQ2
          have B6 := hide hbs
          clear hgu hrl hy hst hso hDl2 hDb2 hoQ2 hbs hon hDl hDb hoD hoQ hvD
          obtain ⟨d, hd⟩ : ∃ d : Nat, y * 2 % 256 + c = d := ⟨_, rfl⟩
          rw [hd] at hor B1 B2 B3 B4 B5 B6
          clear hd
          go_wp2
          go_roundw
          case rel => exact ⟨k + 1, y / 128, _, by omega, by omega, by go_num, by go_num, unhide B3, unhide B4, unhide B2, unhide B5, unhide B1, unhide B6⟩
          case measure => simp [intOf]; omega
        · obtain rfl : k = n2 + 1 := by omega
          have hrl := unhide A3
          rw [List.drop_eq_nil_of_le (by omega), List.append_nil] at hoD
          rw [List.take_of_length_le (by omega)] at hvD
          have hvlt := val_lt vs (unhide HB2)
          rw [unhide L2] at hvlt
          have hlt := unhide A8
          have hc0 : c = 0 := by
            rcases Nat.eq_zero_or_pos c with h | h
            · exact h
            · exfalso
              obtain rfl : c = 1 := by omega
              rw [Nat.pow_succ] at hvD
              omega
          subst hc0
          have hvD2 : val D = 2 * val rs + t := by omega
          have htA : t = val us / 2 ^ m % 2 := by
            rw [unhide HT, unhide HMB]
            exact (bit_of us at_ bit x (by have := unhide L1; omega) (unhide HX) (unhide HB1) hbit).symm
          have hinv := div_step (val us) (val vs) (val qs) (val rs) m t (unhide A7) htA
          rw [← hvD2] at hinv
          have hqd := unhide A9
          have hqd2 : val qs % 2 ^ m = 0 := by
            rw [Nat.pow_succ] at hqd
            obtain ⟨z, hz⟩ := Nat.dvd_of_mod_eq_zero hqd
            rw [hz, Nat.mul_assoc, Nat.mul_mod_right]
          have hsD := hoD.src_all hDb (n2 + 1) hDl.symm (by unfold maxLen; omega)
          have hlt2 := (unhide S2).lt
          have hsV := (unhide S2).kept hbq
          have HCM := hide (cmp_any _ _ _ _ _ _ _ _ _ hsD hsV (by omega) (by omega))
          have C1 := hide hoD
          have C2 := hide hoQ
          have C3 := hide hDl
          have C4 := hide hDb
          have C5 := hide hinv
          have C6 := hide hqd
          have C7 := hide hqd2
          have C8 := hide hsV
          have C9 := hide hlt2
          have C10 := hide hvD2
          have C11 := hide hlt
          clear hoD hoQ hDl hDb hinv hqd hqd2 hsV hlt2 hvD hvD2 htA hlt hsD hrl hvlt
          by_cases hge : val vs ≤ val D
          · have hc : (0 : Int) ≤ cmpI (val D) (val vs) := by unfold cmpI; rw [if_neg (by omega)]; split <;> omega
            have d0 : decide ((0 : Int) ≤ cmpI (val D) (val vs)) = true := decide_eq_true hc
            have HGE := hide hge
            clear hge
            generalize cmpI (val D) (val vs) = cr at HCM hc d0
            go_wp2_with fail
            refine (unhide HCM).mono ?_
            rintro e w5 ⟨rfl, hq5⟩
            have hb5 := hbq.trans (hq5.below _)
            have hoD5 : Own w5 (w.heap.size + 1) D := (unhide C1).kept (hq5.below _)
            have hoQ5 : Own w5 w.heap.size qs := (unhide C2).kept (hq5.below _)
            have hsV5 := (unhide C8).kept (hq5.below _)
            have HTK := hide (take_any (w.heap.size + 1) (n2 + 1) b n2 n2 D vs w5 hoD5 (unhide C4) (unhide C3) hsV5 (by
              intro z hz hl
              have := unhide C9 z hz hl
              omega) (by omega) (by omega))
            have D1 := hide hoQ5
            clear hoD5 hoQ5 hsV5 hq5
            go_wp2_with fail
            refine (unhide HTK).mono ?_
            rintro e w6 ⟨E, c6, rfl, hc6, hoE, hEl, hEb, hvE, hon6⟩
            have hb6 := hb5.trans (hon6.below w.heap.size (by omega))
            have hoQ6 := hon6.own (unhide D1) (by omega)
            have hql := unhide A1
            have hqb := unhide A2
            have qb := hqb.get at_
            have hcg := hoQ6.cell at_ (by omega)
            have hfg := hoQ6.froz at_
            obtain ⟨q, hq⟩ : ∃ q : Nat, qs.getD at_ 0 = (q : Int) := ⟨(qs.getD at_ 0).toNat, by omega⟩
            rw [hq] at hcg qb
            have hqd := unhide C6
            rw [unhide HMB] at hqd
            have hlow := low_bits qs at_ bit q (by omega) hq hqb hbit hqd (by omega)
            have hor := or_bit_at q bit hbit hlow.1 hlow.2
            have hvs := val_set qs at_ q (q + 2 ^ bit) (by omega) hq
            have hvq : val (qs.set at_ ((q + 2 ^ bit : Nat) : Int)) = val qs + 2 ^ m := by
              have e : 256 ^ at_ * (q + 2 ^ bit) = 256 ^ at_ * q + 2 ^ m := by
                rw [Nat.mul_add, unhide HMB, Nat.pow_add 2, Nat.pow_mul]
              omega
            have hvE2 : val E = val D - val vs := by
              have h3 := val_lt E hEb
              rw [hEl] at h3
              have h4 := unhide HGE
              rcases Nat.eq_zero_or_pos c6 with h | h
              · subst h; omega
              · exfalso
                obtain rfl : c6 = 1 := by omega
                omega
            have hinv2 := div_take (val us) (val vs) (val qs) (val D) m (unhide C5) (unhide HGE)
            rw [← hvq, ← hvE2] at hinv2
            have hElt : val E < val vs := by
              have h5 := unhide C10
              have h6 := unhide C11
              have h7 := unhide HGE
              omega
            have hqd3 : val (qs.set at_ ((q + 2 ^ bit : Nat) : Int)) % 2 ^ m = 0 := by
              rw [hvq, Nat.add_mod_right]
              exact unhide C7
            have hso := hoQ6.set at_ ((q + 2 ^ bit : Nat) : Int)
            have hon7 : Only w.heap.size w6 (w6.setCell ⟨w.heap.size, at_, none⟩ (.int .u8 ((q + 2 ^ bit : Nat) : Int))) := (Only.refl _ _).setCell _ _
            have hoE7 := hon7.own hoE (by omega)
            have hb7 := hb6.trans (hon7.below w.heap.size (by omega))
            have hsl : (qs.set at_ ((q + 2 ^ bit : Nat) : Int)).length = n1 := by simp [hql]
            have hsb : Byt (qs.set at_ ((q + 2 ^ bit : Nat) : Int)) := hqb.set _ _ (by have := hlow.2; omega)
            have E1 := hide hso
            have E2 := hide hoE7
            have E3 := hide hb7
            have E4 := hide hsl
            have E5 := hide hsb
            have E6 := hide hinv2
            have E7 := hide hElt
            have E8 := hide hqd3
            have E9 := hide hEl
            have E10 := hide hEb
            have E11 := hide hlow
            clear hso hoE7 hb7 hsl hsb hinv2 hElt hqd3 hEl hEb hvE hvE2 hvq hvs hlow hqd hq hql hqb hoE hoQ6 hon6 hon7 HTK
            obtain ⟨z, hz⟩ : ∃ z : Nat, q + 2 ^ bit = z := ⟨_, rfl⟩
            rw [hz] at hor E1 E2 E3 E4 E5 E6 E8
            clear hz
            go_wp2
            go_roundw
            case rel => exact ⟨m, _, E, by omega, by go_num, unhide E4, unhide E5, unhide E9, unhide E10, unhide E1, unhide E2, unhide E6, unhide E7, unhide E8, unhide E3⟩
            case measure => simp [intOf]
          · have hc := cmpI_lt (show val D < val vs by omega)
            rw [hc] at HCM
            have HGE := hide hge
            clear hge hc
            go_wp2_with fail
            refine (unhide HCM).mono ?_
            rintro e w5 ⟨rfl, hq5⟩
            have hb5 := hbq.trans (hq5.below _)
            have hoD5 : Own w5 (w.heap.size + 1) D := (unhide C1).kept (hq5.below _)
            have hoQ5 : Own w5 w.heap.size qs := (unhide C2).kept (hq5.below _)
            have E1 := hide hoD5
            have E2 := hide hoQ5
            clear hoD5 hoQ5 hq5
            go_wp2
            go_roundw
            case rel => exact ⟨m, qs, D, by omega, by go_num, unhide A1, unhide A2, unhide C3, unhide C4, unhide E2, unhide E1, unhide C5, by have := unhide HGE; omega, unhide C7, hb5⟩
            case measure => simp [intOf]
    · obtain rfl : i = 0 := by omega
      rw [Nat.pow_zero, Nat.mul_one, Nat.mod_one, Nat.add_zero] at hinv
      have hend := div_end (val us) (val vs) (val qs) (val rs) hinv hlt
      have hs1 := hoq.src_all hqb n1 hql.symm (by unfold maxLen; omega)
      have hs2 := hor.src_all hrb (n2 + 1) hrl.symm (by unfold maxLen; omega)
      have HC1 := hide (clip_any _ _ _ _ _ hs1 (by omega))
      have HC2 := hide (clip_any _ _ _ _ _ hs2 (by omega))
      have HE := hide hend
      clear hinv hend hs1 hs2 hoq hor hql hqb hrl hrb hlt hdiv
      go_wp2_with fail
      refine (unhide HC1).mono ?_
      rintro e w3 ⟨⟨A, k, rfl, s3, hA, hAo⟩, rfl⟩
      go_wp2_with fail
      refine (unhide HC2).mono ?_
      rintro e w4 ⟨⟨A', k', rfl, s4, hA', hAo'⟩, rfl⟩
      go_wp2
      go_ret3
      have he := unhide HE
      refine ⟨A, k, k, A', k', k', rfl, ?_, ?_, New.or hAo (New.at _ _ _ (Nat.le_refl _)), New.or hAo' (New.at _ _ _ (by omega)), hbe⟩
      · rw [← he.1]; exact isNat_of_trim s3 hA
      · rw [← he.2]; exact isNat_of_trim s4 hA'

theorem IsNat.divmod {w : World} {a b : Option Addr} {la lb ca cb m n : Nat} (h1 : IsNat w a la ca m) (h2 : IsNat w b lb cb n) (hm : m < BIG) (hn : n < BIG) (h0 : 0 < n) :
    Calls Sakg.prog 61 #[.slice a la ca, .slice b lb cb] w fun e w' => ∃ A k c A' k' c', e = .returned (.tuple #[.slice A k c, .slice A' k' c', .bool true]) ∧ IsNat w' A k c (m / n) ∧ IsNat w' A' k' c' (m % n) ∧ New w A ∧ New w A' ∧ Below w.heap.size w w' := by
  have := h1.len 200 hm
  have := h2.len 200 hn
  obtain ⟨xs, s1, _, e1, _⟩ := h1
  obtain ⟨ys, s2, _, e2, _⟩ := h2
  rw [← e1, ← e2]
  exact divmod_pos a b la lb ca cb xs ys w s1 s2 (by omega) (by omega) (by omega)

end Go.Proofs.YgcsakGreat
