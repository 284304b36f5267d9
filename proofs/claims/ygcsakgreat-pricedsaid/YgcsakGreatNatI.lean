/-
  nat: U64, Pow2, Bit, BE32.
-/
import Derived.Test.YgcsakGreatTxA0
import Derived.Test.YgcsakGreatYpL
namespace Go.Proofs.YgcsakGreat
set_option linter.unusedVariables false
set_option linter.unusedSimpArgs false
set_option maxRecDepth 100000
open Go.RowKit

theorem wraps_u64' (n : Int) (h₀ : 0 ≤ n) (h₁ : n < 2 ^ 64) : IntKind.u64.wrap n = n := by rw [IntKind.wrap_u64]; omega
theorem IsNat.pos_len {w : World} {a : Option Addr} {la ca m : Nat} (h : IsNat w a la ca m) (K : Nat) (hk : K < la) : 256 ^ K ≤ m := by
  obtain ⟨xs, h1, h2, rfl, h4⟩ := h
  have hl := h1.len_eq
  refine Nat.le_trans ?_ (val_pos xs h1.byt (fun h => by rw [h] at hl; simp at hl; omega) h2)
  exact Nat.pow_le_pow_right (by omega) (by omega)

def u64N (m : Nat) : Nat := if m < 256 ^ 8 then m else 0
def fits64 (m : Nat) : Bool := decide (m < 256 ^ 8)
set_option maxHeartbeats 2000000 in
theorem u64_any (a : Option Addr) (la ca m : Nat) (w : World) (h : IsNat w a la ca m) (hm : m < BIG) :
    Calls Sakg.prog 131 #[.slice a la ca] w fun e w' => e = .returned (.tuple #[.int .u64 (u64N m), .bool (fits64 m)]) ∧ w = w' := by
  have hl200 := h.len 200 hm
  by_cases h8 : 8 < la
  · have hge := h.pos_len 8 h8
    have hno : ¬ m < 256 ^ 8 := by omega
    obtain ⟨xs, h1, h2, h3, h4⟩ := h
    have hl := h1.len_eq
    have HT := hide (trim_any a la ca xs w h1 (by omega))
    have hT : trimL xs = xs := h2
    rw [hT] at HT
    go_enter Sakg.func131, Sakg.ntmps131
    have h8' : decide ((8 : Int) < (la : Int)) = true := decide_eq_true (by omega)
    go_wp2_with (go_at_call 88; refine (unhide HT).mono ?_; rintro e w2 ⟨⟨k, rfl, hk⟩, rfl⟩; obtain rfl : k = la := by { rw [← hk.len_eq, hl] }; clear hk)
    refine bodyPost_ret (results_tmp2 rfl _ _ _) rfl ?_
    unfold u64N fits64
    rw [if_neg hno, decide_eq_false hno]
    exact ⟨rfl, rfl⟩
  · have hlt : m < 256 ^ 8 := by
      obtain ⟨xs, h1, h2, rfl, h4⟩ := h
      refine Nat.lt_of_lt_of_le (val_lt xs h1.byt) (Nat.pow_le_pow_right (by omega) ?_)
      rw [h1.len_eq]; omega
    obtain ⟨xs, h1, h2, h3, h4⟩ := h
    have hl := h1.len_eq
    have HT := hide (trim_any a la ca xs w h1 (by omega))
    have hT : trimL xs = xs := h2
    rw [hT] at HT
    have H1 := hide h1
    have hby := h1.byt
    have HBY := hide hby
    have HL := hide hl
    have HV := hide h3
    have HLT := hide hlt
    clear h1 h2 h3 h4 hT hby hl hlt
    have h8' : decide ((8 : Int) < (la : Int)) = false := decide_eq_false (by omega)
    go_enter Sakg.func131, Sakg.ntmps131
    go_wp2_with (go_at_call 88; refine (unhide HT).mono ?_; rintro e w2 ⟨⟨k, rfl, hk⟩, rfl⟩; obtain rfl : k = la := by { rw [← hk.len_eq, unhide HL] }; clear hk)
    go_loopg [4, 5] k (fun gk xv iv wr => ∃ i : Nat, i = gk ∧ i ≤ k ∧ iv = .int .i64 i ∧ xv = .int .u64 (val (xs.drop i)) ∧ wr = w)
    case atStart => exact ⟨k, rfl, Nat.le_refl _, rfl, by rw [List.drop_of_length_le (by have := unhide HL; omega)]; rfl, rfl⟩
    case round =>
      obtain ⟨i, rfl, hik, rfl, rfl, hw⟩ := hrel
      subst hw
      rcases i with _ | j
      case succ =>
        obtain ⟨b, off, rfl, hcs⟩ := (unhide H1).at_ (by omega)
        have hci := hcs j (by omega)
        have hdrop := drop_cons xs j (by have := unhide HL; omega)
        have hxb := unhide HBY (xs.getD j 0) (by rw [List.getD_eq_getElem?_getD, List.getElem?_eq_getElem (by have := unhide HL; omega)]; simp)
        obtain ⟨x, hx⟩ : ∃ x, x = xs.getD j 0 := ⟨_, rfl⟩
        rw [← hx] at hci hdrop hxb
        obtain ⟨V, hV⟩ : ∃ V, V = val (xs.drop (j + 1)) := ⟨_, rfl⟩
        have hVl : V < 256 ^ (k - (j + 1)) := by
          rw [hV]
          have := val_lt (xs.drop (j + 1)) (fun y hy => unhide HBY y (List.mem_of_mem_drop hy))
          rwa [List.length_drop, unhide HL] at this
        have hVl2 : V < 72057594037927936 := Nat.lt_of_lt_of_le hVl (Nat.pow_le_pow_right (by omega) (show k - (j + 1) ≤ 7 by omega))
        have hstep : val (xs.drop j) = x.toNat + 256 * V := by rw [hdrop, hV]; rfl
        rw [← hV]
        have HSTEP := hide hstep
        clear hstep hdrop hV hx hcs hVl
        have hwr : IntKind.u64.wrap ((V : Int) * 256) = ((V * 256 : Nat) : Int) := by rw [IntKind.wrap_u64]; omega
        go_wp2_with fail
        have hor : bits .or .u64 ((V : Int) * 256) x = ((x.toNat + 256 * V : Nat) : Int) := by
          have := bits_join .u64 64 (by decide) wraps_u64' 8 ((V : Int) * 256) x (by omega) (by omega) (by omega) (by omega) (by omega) (by omega)
          rw [this]
          omega
        go_roundg j
        case measure => omega
        case rel => exact ⟨j, rfl, by omega, rfl, by rw [hor, unhide HSTEP], rfl⟩
      case zero =>
        go_wp2
        refine bodyPost_ret (results_tmp2 rfl _ _ _) rfl ?_
        unfold u64N fits64
        rw [if_pos (unhide HLT), decide_eq_true (unhide HLT), ← unhide HV]
        exact ⟨rfl, rfl⟩

theorem dig_at (xs : List Int) (j : Nat) (hb : Byt xs) (hj : j < xs.length) : val xs / 256 ^ j % 256 = (xs.getD j 0).toNat := by
  have e : xs = xs.take j ++ (xs.getD j 0 :: xs.drop (j + 1)) := by rw [← drop_cons xs j hj, List.take_append_drop]
  have hx := hb (xs.getD j 0) (by rw [List.getD_eq_getElem?_getD, List.getElem?_eq_getElem hj]; simp)
  have hv : val xs = val (xs.take j) + 256 ^ j * ((xs.getD j 0).toNat + 256 * val (xs.drop (j + 1))) := by
    conv => lhs; rw [e]
    rw [val_append, List.length_take, Nat.min_eq_left (by omega)]
    rfl
  have hl : val (xs.take j) < 256 ^ j := by
    have := val_lt (xs.take j) (hb.take j)
    rwa [List.length_take, Nat.min_eq_left (by omega)] at this
  rw [hv, Nat.add_mul_div_left _ _ (Nat.pow_pos (by omega)), Nat.div_eq_of_lt hl, Nat.zero_add, Nat.add_mul_mod_self_left]
  omega

theorem val_top (q r : Nat) : val (zeros q ++ [((2 ^ r : Nat) : Int)]) = 2 ^ (8 * q + r) := by
  rw [val_append, zeros_len]
  simp only [zeros, val_zeros, val, Int.toNat_natCast, Nat.mul_zero, Nat.add_zero, Nat.zero_add]
  rw [Nat.pow_add, Nat.pow_mul]

set_option maxHeartbeats 2000000 in
theorem pow2_any (k : Nat) (w : World) (hk : k ≤ 256) : Calls Sakg.prog 133 #[.int .u16 k] w (MakesNat w (2 ^ k)) := by
  have hq : k / 8 ≤ 32 := by omega
  have hr : k % 8 < 8 := by omega
  obtain ⟨q, hqe⟩ : ∃ q, q = k / 8 := ⟨_, rfl⟩
  obtain ⟨r, hre⟩ : ∃ r, r = k % 8 := ⟨_, rfl⟩
  have hkq : k = 8 * q + r := by omega
  have e1 : (k : Int) / 8 = (q : Int) := by omega
  have e2 : (k : Int) % 8 = (r : Int) := by omega
  have hp : 2 ^ r < 256 := Nat.lt_of_lt_of_le (Nat.pow_lt_pow_right (by omega) (show r < 8 by omega)) (by decide)
  have HK := hide hkq
  have HQ := hide hqe
  have HRE := hide hre
  clear hkq hqe hre
  go_enter Sakg.func133, Sakg.ntmps133
  go_wp2_with (at_make; refine wpList_make_bytes rfl _ _ 54 rfl Sakg.underlying54 _ _ (q + 1) rfl rfl (by omega) (by omega) (by omega) ?_; intro w2 ho2 hb2 hs2; have hc2 := ho2.cell q (by rw [zeros_len]; omega); have hf2 := ho2.froz q; have HO2 := hide ho2; have HB2 := hide hb2; clear ho2 hb2)
  go_ret
  have e3 : (2 : Int) ^ r % 256 = ((2 ^ r : Nat) : Int) := by rw [Int.emod_eq_of_lt (Int.pow_nonneg (by omega)) (by exact_mod_cast hp)]; simp
  rw [e3]
  have hset := (unhide HO2).set q ((2 ^ r : Nat) : Int)
  have ezs : (zeros (q + 1)).set q ((2 ^ r : Nat) : Int) = zeros q ++ [((2 ^ r : Nat) : Int)] := by
    rw [show zeros (q + 1) = zeros q ++ [0] from by simp [zeros, List.replicate_succ'], List.set_append_right _ _ (by rw [zeros_len]; omega), zeros_len, Nat.sub_self]
    rfl
  rw [ezs] at hset
  have hby : Byt (zeros q ++ [((2 ^ r : Nat) : Int)]) := (zeros_byt q).append (fun y hy => by rw [List.mem_singleton.1 hy]; omega)
  have hlen : (zeros q ++ [((2 ^ r : Nat) : Int)]).length = q + 1 := by simp [zeros_len]
  refine ⟨_, _, _, rfl, ⟨_, hset.src_all hby (q + 1) hlen.symm (by unfold maxLen; omega), trimL_snoc _ _ (by have : 0 < 2 ^ r := Nat.pow_pos (by omega); omega), ?_, fun h => by omega⟩, New.at _ _ _ (Nat.le_refl _), (unhide HB2).setCell (p := ⟨w.heap.size, q, none⟩) (Nat.le_refl _) _⟩
  rw [val_top, ← unhide HK]

def bitB (m i : Nat) : Bool := decide (m / 256 ^ (i / 8) % 256 / 2 ^ (i % 8) % 2 = 1)
set_option maxHeartbeats 2000000 in
theorem natBit_any (a : Option Addr) (la ca m i : Nat) (w : World) (h : IsNat w a la ca m) (hm : m < BIG) (hi : i ≤ 300) :
    Calls Sakg.prog 134 #[.slice a la ca, .int .u16 i] w fun e w' => e = .returned (.bool (bitB m i)) ∧ w = w' := by
  obtain ⟨q, hqe⟩ : ∃ q, q = i / 8 := ⟨_, rfl⟩
  obtain ⟨r, hre⟩ : ∃ r, r = i % 8 := ⟨_, rfl⟩
  have e1 : (i : Int) / 8 = (q : Int) := by omega
  have e2 : (i : Int) % 8 = (r : Int) := by omega
  have hr8 : r < 8 := by omega
  have hq40 : q ≤ 40 := by omega
  have hbit : bitB m i = decide (m / 256 ^ q % 256 / 2 ^ r % 2 = 1) := by unfold bitB; rw [← hqe, ← hre]
  have hl200 := h.len 200 hm
  by_cases hql : q < la
  · obtain ⟨xs, h1, h2, h3, h4⟩ := h
    obtain ⟨b, off, rfl, hcs⟩ := h1.at_ (by omega)
    have hcq := hcs q hql
    have hd := dig_at xs q h1.byt (by rw [h1.len_eq]; exact hql)
    have hxb := h1.byt (xs.getD q 0) (by rw [List.getD_eq_getElem?_getD, List.getElem?_eq_getElem (by rw [h1.len_eq]; exact hql)]; simp)
    obtain ⟨x, hx⟩ : ∃ x : Nat, (x : Int) = xs.getD q 0 := ⟨(xs.getD q 0).toNat, by omega⟩
    rw [← hx] at hcq hd hxb
    rw [h3, Int.toNat_natCast] at hd
    rw [hd] at hbit
    have ha := and_bit x r (by omega)
    have HB := hide hbit
    have t0 : decide ((q : Int) < (la : Int)) = true := decide_eq_true (by omega)
    clear hcs hd hx hqe hre h1 h2 h3 hbit
    go_enter Sakg.func134, Sakg.ntmps134
    go_wp2_with fail
    go_ret
    have e3 : ((x : Int) / 2 ^ r % 2 == 1) = decide (x / 2 ^ r % 2 = 1) := by
      have e4 : (x : Int) / 2 ^ r % 2 = ((x / 2 ^ r % 2 : Nat) : Int) := by simp
      rw [e4]
      rcases Nat.mod_two_eq_zero_or_one (x / 2 ^ r) with h | h <;> simp [h]
    rw [unhide HB, ← e3]
    exact ⟨rfl, rfl⟩
  · have hlt : m < 256 ^ q := by
      obtain ⟨xs, h1, h2, rfl, h4⟩ := h
      refine Nat.lt_of_lt_of_le (val_lt xs h1.byt) (Nat.pow_le_pow_right (by omega) ?_)
      rw [h1.len_eq]; omega
    have hbf : bitB m i = false := by
      rw [hbit, Nat.div_eq_of_lt hlt]
      simp
    have t0 : decide ((q : Int) < (la : Int)) = false := decide_eq_false (by omega)
    have HB := hide hbf
    clear hbf hbit hqe hre hlt
    go_enter Sakg.func134, Sakg.ntmps134
    go_wp2_with fail
    go_ret
    rw [unhide HB]
    exact ⟨rfl, rfl⟩

/-- two lists of digits of one length with one value are one -/
theorem val_inj : ∀ (a b : List Int), Byt a → Byt b → a.length = b.length → val a = val b → a = b
  | [], [], _, _, _, _ => rfl
  | x :: xs, y :: ys, ha, hb, hl, hv => by
    have h1 := ha x (by simp)
    have h2 := hb y (by simp)
    simp only [val] at hv
    have hxy : x = y := by omega
    have hr : val xs = val ys := by omega
    rw [hxy, val_inj xs ys (fun z hz => ha z (by simp [hz])) (fun z hz => hb z (by simp [hz])) (by simpa using hl) hr]
  | [], _ :: _, _, _, hl, _ => by simp at hl
  | _ :: _, [], _, _, hl, _ => by simp at hl
/-- 32 bytes, the most significant first -/
def be32 (m : Nat) : List Int := (dig8 m 32).reverse
theorem be32_len (m : Nat) : (be32 m).length = 32 := by unfold be32; rw [List.length_reverse, dig8_len]
theorem be32_byt (m : Nat) : Byt (be32 m) := (dig8_byt m 32).reverse
theorem be32_val (m : Nat) (h : m < 256 ^ 32) : val (be32 m).reverse = m := by
  unfold be32
  rw [List.reverse_reverse, dig8_val, Nat.mod_eq_of_lt h]

end Go.Proofs.YgcsakGreat
