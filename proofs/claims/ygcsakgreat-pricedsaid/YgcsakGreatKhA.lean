/-
  yp: blockValue, accountValue.
-/
import Derived.Test.YgcsakGreatKgB
import Derived.Test.YgcsakGreatKfC
namespace Go.Proofs.YgcsakGreat
set_option linter.unusedVariables false
set_option linter.unusedSimpArgs false
set_option maxRecDepth 100000
open Go.RowKit

section
variable {x : XD}
theorem env_coin (hx : XB x) (j : Nat) (hj : j < 20) : (envRow x)[j]? = (bv x.coin)[j]? := by
  unfold envRow
  rw [List.getElem?_append_left (by rw [bv_len, hx.coin.len]; exact hj)]
theorem env_from (hx : XB x) (j : Nat) : (envRow x)[20 + j]? = ([Value.int .u64 x.number, .int .u64 x.time, .int .u64 x.glimit] ++ (bv x.randao ++ (bv x.chain ++ bv x.fee)))[j]? := by
  unfold envRow
  rw [List.getElem?_append_right (by rw [bv_len, hx.coin.len]; omega), bv_len, hx.coin.len, Nat.add_sub_cancel_left]
theorem env_number (hx : XB x) : (envRow x)[20]? = some (.int .u64 x.number) := (env_from hx 0).trans rfl
theorem env_time (hx : XB x) : (envRow x)[21]? = some (.int .u64 x.time) := (env_from hx 1).trans rfl
theorem env_glimit (hx : XB x) : (envRow x)[22]? = some (.int .u64 x.glimit) := (env_from hx 2).trans rfl
theorem env_rest (hx : XB x) (j : Nat) : (envRow x)[23 + j]? = (bv x.randao ++ (bv x.chain ++ bv x.fee))[j]? := by
  rw [show 23 + j = 20 + (3 + j) by omega, env_from hx (3 + j), List.getElem?_append_right (by simp), show (3 + j) - [Value.int .u64 x.number, .int .u64 x.time, .int .u64 x.glimit].length = j by simp]
theorem env_randao (hx : XB x) (j : Nat) (hj : j < 32) : (envRow x)[23 + j]? = (bv x.randao)[j]? := by
  rw [env_rest hx, List.getElem?_append_left (by rw [bv_len, hx.randao.len]; exact hj)]
theorem env_chain (hx : XB x) (j : Nat) (hj : j < 32) : (envRow x)[55 + j]? = (bv x.chain)[j]? := by
  rw [show 55 + j = 23 + (32 + j) by omega, env_rest hx, List.getElem?_append_right (by rw [bv_len, hx.randao.len]; omega), bv_len, hx.randao.len, Nat.add_sub_cancel_left, List.getElem?_append_left (by rw [bv_len, hx.chain.len]; exact hj)]
theorem env_fee (hx : XB x) (j : Nat) (hj : j < 32) : (envRow x)[87 + j]? = (bv x.fee)[j]? := by
  rw [show 87 + j = 23 + (64 + j) by omega, env_rest hx, List.getElem?_append_right (by rw [bv_len, hx.randao.len]; omega), bv_len, hx.randao.len, show 64 + j - 32 = 32 + j by omega, List.getElem?_append_right (by rw [bv_len, hx.chain.len]; omega), bv_len, hx.chain.len, Nat.add_sub_cancel_left]
end
theorem rng_cells {w : World} {bw o n : Nat} {cs : List Value} {xs : List Int} (hr : ∀ i, w.cell? ⟨bw, i, none⟩ = cs[i]?) (hl : xs.length = n) (h : ∀ j, j < n → cs[o + j]? = (bv xs)[j]?) : w.rangeAt bw o (bv xs) := by
  intro j v hv
  have hj : j < n := by
    rcases Nat.lt_or_ge j n with h' | h'
    · exact h'
    · rw [List.getElem?_eq_none (by rw [bv_len, hl]; exact h')] at hv; cases hv
  rw [hr, h j hj]
  exact hv
section
variable {G : Nat → Prop} {bw gf : Nat} {cs fr : List Value} {d : WD} {f : FD} {fs : List FD} {x : XD} {w : World} {B : Nat}
theorem SR.coinR (h : SR G bw gf cs fr d fs x w) (hx : XB x) : w.rangeAt bw 59 (bv x.coin) := rng_cells h.cw.row.cell hx.coin.len (fun j hj => (h.xs.env j (by omega)).trans (env_coin hx j hj))
theorem SR.randaoR (h : SR G bw gf cs fr d fs x w) (hx : XB x) : w.rangeAt bw 82 (bv x.randao) := rng_cells h.cw.row.cell hx.randao.len (fun j hj => by rw [show 82 + j = 59 + (23 + j) by omega]; exact (h.xs.env (23 + j) (by omega)).trans (env_randao hx j hj))
theorem SR.chainR (h : SR G bw gf cs fr d fs x w) (hx : XB x) : w.rangeAt bw 114 (bv x.chain) := rng_cells h.cw.row.cell hx.chain.len (fun j hj => by rw [show 114 + j = 59 + (55 + j) by omega]; exact (h.xs.env (55 + j) (by omega)).trans (env_chain hx j hj))
theorem SR.feeR (h : SR G bw gf cs fr d fs x w) (hx : XB x) : w.rangeAt bw 146 (bv x.fee) := rng_cells h.cw.row.cell hx.fee.len (fun j hj => by rw [show 146 + j = 59 + (87 + j) by omega]; exact (h.xs.env (87 + j) (by omega)).trans (env_fee hx j hj))
theorem SR.originR (h : SR G bw gf cs fr d fs x w) (hx : XB x) : w.rangeAt bw 19 (bv x.origin) := rng_cells h.cw.row.cell hx.origin.len (fun j hj => h.xs.origin j hj)
end

/-- a new number below 2^256 -/
def LtR (w : World) (e : Ending) (w' : World) : Prop := ∃ A k c n, e = .returned (.slice A k c) ∧ IsNat w' A k c n ∧ New w A ∧ n < P256 ∧ Below w.heap.size w w'
theorem beN_lt256 {xs : List Int} (hb : Byt xs) (hl : xs.length ≤ 32) : val xs.reverse < P256 := by
  refine Nat.lt_of_lt_of_le (val_lt _ hb.reverse) ?_
  rw [List.length_reverse]
  exact Nat.pow_le_pow_right (by omega) hl
theorem pow8_lt {n : Nat} (h : n < 256 ^ 8) : n < P256 := Nat.lt_of_lt_of_le h (Nat.pow_le_pow_right (by omega) (by omega))
section
variable {G : Nat → Prop} {bw gf : Nat} {cs fr : List Value} {d : WD} {f : FD} {fs : List FD} {x : XD} {w : World} {B : Nat}
set_option maxHeartbeats 4000000 in
theorem blockV_65 (h : SR G bw gf cs fr d fs x w) (hx : XB x) (A : Option Addr) (k c m : Nat) (hn : IsNat w A k c m) (hm : m < P256) :
    Calls Sakg.prog 306 #[.pointer (some ⟨bw, 0, none⟩), .int .u8 65, .slice A k c] w (LtR w) := by
  have hBB := big_ge
  have hB8 : (256 : Nat) ^ 8 ≤ BIG := big_pow 8 (by omega)
  have hl := beN_lt256 hx.coin.byt (by have := hx.coin.len; omega)
  have HC := hide (fromBE_any (some ⟨bw, 59, none⟩) 20 20 x.coin w (src_of_range (h.coinR hx) hx.coin.byt hx.coin.len (by unfold maxLen; omega)) (by omega))
  generalize val x.coin.reverse = v at HC hl
  clear h hx hn
  go_enter Sakg.func306, Sakg.ntmps306
  go_wp2_with (go_at_call 17; refine (unhide HC).mono ?_; rintro e w1 ⟨A1, k1, c1, rfl, n1, N1, b1⟩; have NN1 := hide n1; clear n1)
  go_ret
  exact ⟨A1, k1, c1, v, rfl, unhide NN1, N1, hl, b1⟩
set_option maxHeartbeats 4000000 in
theorem blockV_68 (h : SR G bw gf cs fr d fs x w) (hx : XB x) (A : Option Addr) (k c m : Nat) (hn : IsNat w A k c m) (hm : m < P256) :
    Calls Sakg.prog 306 #[.pointer (some ⟨bw, 0, none⟩), .int .u8 68, .slice A k c] w (LtR w) := by
  have hBB := big_ge
  have hB8 : (256 : Nat) ^ 8 ≤ BIG := big_pow 8 (by omega)
  have hl := beN_lt256 hx.randao.byt (by have := hx.randao.len; omega)
  have HC := hide (fromBE_any (some ⟨bw, 82, none⟩) 32 32 x.randao w (src_of_range (h.randaoR hx) hx.randao.byt hx.randao.len (by unfold maxLen; omega)) (by omega))
  generalize val x.randao.reverse = v at HC hl
  clear h hx hn
  go_enter Sakg.func306, Sakg.ntmps306
  go_wp2_with (go_at_call 17; refine (unhide HC).mono ?_; rintro e w1 ⟨A1, k1, c1, rfl, n1, N1, b1⟩; have NN1 := hide n1; clear n1)
  go_ret
  exact ⟨A1, k1, c1, v, rfl, unhide NN1, N1, hl, b1⟩
set_option maxHeartbeats 4000000 in
theorem blockV_70 (h : SR G bw gf cs fr d fs x w) (hx : XB x) (A : Option Addr) (k c m : Nat) (hn : IsNat w A k c m) (hm : m < P256) :
    Calls Sakg.prog 306 #[.pointer (some ⟨bw, 0, none⟩), .int .u8 70, .slice A k c] w (LtR w) := by
  have hBB := big_ge
  have hB8 : (256 : Nat) ^ 8 ≤ BIG := big_pow 8 (by omega)
  have hl := beN_lt256 hx.chain.byt (by have := hx.chain.len; omega)
  have HC := hide (fromBE_any (some ⟨bw, 114, none⟩) 32 32 x.chain w (src_of_range (h.chainR hx) hx.chain.byt hx.chain.len (by unfold maxLen; omega)) (by omega))
  generalize val x.chain.reverse = v at HC hl
  clear h hx hn
  go_enter Sakg.func306, Sakg.ntmps306
  go_wp2_with (go_at_call 17; refine (unhide HC).mono ?_; rintro e w1 ⟨A1, k1, c1, rfl, n1, N1, b1⟩; have NN1 := hide n1; clear n1)
  go_ret
  exact ⟨A1, k1, c1, v, rfl, unhide NN1, N1, hl, b1⟩
set_option maxHeartbeats 4000000 in
theorem blockV_66 (h : SR G bw gf cs fr d fs x w) (hx : XB x) (A : Option Addr) (k c m : Nat) (hn : IsNat w A k c m) (hm : m < P256) :
    Calls Sakg.prog 306 #[.pointer (some ⟨bw, 0, none⟩), .int .u8 66, .slice A k c] w (LtR w) := by
  have hBB := big_ge
  have hB8 : (256 : Nat) ^ 8 ≤ BIG := big_pow 8 (by omega)
  have hl := pow8_lt hx.time
  have h8 := hx.time
  have hc : w.cell? ⟨bw, 80, none⟩ = some (.int .u64 x.time) := by rw [h.cw.row.cell]; exact (h.xs.env 21 (by omega)).trans (env_time hx)
  have HC := hide (num_any x.time w (by omega))
  generalize x.time = v at HC hl hc h8
  clear h hx hn
  go_enter Sakg.func306, Sakg.ntmps306
  go_wp2_with (go_at_call 97; refine (unhide HC).mono ?_; rintro e w1 ⟨A1, k1, c1, rfl, n1, N1, b1⟩; have NN1 := hide n1; clear n1)
  go_ret
  exact ⟨A1, k1, c1, v, rfl, unhide NN1, N1, hl, b1⟩
set_option maxHeartbeats 4000000 in
theorem blockV_67 (h : SR G bw gf cs fr d fs x w) (hx : XB x) (A : Option Addr) (k c m : Nat) (hn : IsNat w A k c m) (hm : m < P256) :
    Calls Sakg.prog 306 #[.pointer (some ⟨bw, 0, none⟩), .int .u8 67, .slice A k c] w (LtR w) := by
  have hBB := big_ge
  have hB8 : (256 : Nat) ^ 8 ≤ BIG := big_pow 8 (by omega)
  have hl := pow8_lt hx.number
  have h8 := hx.number
  have hc : w.cell? ⟨bw, 79, none⟩ = some (.int .u64 x.number) := by rw [h.cw.row.cell]; exact (h.xs.env 20 (by omega)).trans (env_number hx)
  have HC := hide (num_any x.number w (by omega))
  generalize x.number = v at HC hl hc h8
  clear h hx hn
  go_enter Sakg.func306, Sakg.ntmps306
  go_wp2_with (go_at_call 97; refine (unhide HC).mono ?_; rintro e w1 ⟨A1, k1, c1, rfl, n1, N1, b1⟩; have NN1 := hide n1; clear n1)
  go_ret
  exact ⟨A1, k1, c1, v, rfl, unhide NN1, N1, hl, b1⟩
set_option maxHeartbeats 4000000 in
theorem blockV_69 (h : SR G bw gf cs fr d fs x w) (hx : XB x) (A : Option Addr) (k c m : Nat) (hn : IsNat w A k c m) (hm : m < P256) :
    Calls Sakg.prog 306 #[.pointer (some ⟨bw, 0, none⟩), .int .u8 69, .slice A k c] w (LtR w) := by
  have hBB := big_ge
  have hB8 : (256 : Nat) ^ 8 ≤ BIG := big_pow 8 (by omega)
  have hl := pow8_lt hx.glimit
  have h8 := hx.glimit
  have hc : w.cell? ⟨bw, 81, none⟩ = some (.int .u64 x.glimit) := by rw [h.cw.row.cell]; exact (h.xs.env 22 (by omega)).trans (env_glimit hx)
  have HC := hide (num_any x.glimit w (by omega))
  generalize x.glimit = v at HC hl hc h8
  clear h hx hn
  go_enter Sakg.func306, Sakg.ntmps306
  go_wp2_with (go_at_call 97; refine (unhide HC).mono ?_; rintro e w1 ⟨A1, k1, c1, rfl, n1, N1, b1⟩; have NN1 := hide n1; clear n1)
  go_ret
  exact ⟨A1, k1, c1, v, rfl, unhide NN1, N1, hl, b1⟩
set_option maxHeartbeats 4000000 in
theorem blockV_72 (h : SR G bw gf cs fr d fs x w) (hx : XB x) (A : Option Addr) (k c m : Nat) (hn : IsNat w A k c m) (hm : m < P256) :
    Calls Sakg.prog 306 #[.pointer (some ⟨bw, 0, none⟩), .int .u8 72, .slice A k c] w (LtR w) := by
  have hBB := big_ge
  have hB8 : (256 : Nat) ^ 8 ≤ BIG := big_pow 8 (by omega)
  have hl := beN_lt256 hx.fee.byt (by have := hx.fee.len; omega)
  have HC := hide (baseFee_any bw x.fee w (h.feeR hx) hx.fee)
  unfold beN at HC
  generalize val x.fee.reverse = v at HC hl
  clear h hx hn
  go_enter Sakg.func306, Sakg.ntmps306
  go_wp2_with (go_at_call 125; refine (unhide HC).mono ?_; rintro e w1 ⟨A1, k1, c1, rfl, n1, N1, b1⟩; have NN1 := hide n1; clear n1)
  go_ret
  exact ⟨A1, k1, c1, v, rfl, unhide NN1, N1, hl, b1⟩
set_option maxHeartbeats 4000000 in
theorem blockV_64 (h : SR G bw gf cs fr d fs x w) (hx : XB x) (A : Option Addr) (k c m : Nat) (hn : IsNat w A k c m) (hm : m < P256) :
    Calls Sakg.prog 306 #[.pointer (some ⟨bw, 0, none⟩), .int .u8 64, .slice A k c] w (LtR w) := by
  have hBB := big_ge
  have hB8 : (256 : Nat) ^ 8 ≤ BIG := big_pow 8 (by omega)
  have h8 := hx.number
  have hPB := p256_lt
  have hc : w.cell? ⟨bw, 79, none⟩ = some (.int .u64 x.number) := by rw [h.cw.row.cell]; exact (h.xs.env 20 (by omega)).trans (env_number hx)
  obtain ⟨Ah, kh, ch, rows, g1, g2, g3, g4⟩ := h.xs.hashes
  have HC := hide (num_any x.number w (by omega))
  have hch : ∀ wz, Below w.heap.size w wz → wz.cell? ⟨bw, 178, none⟩ = some (.slice Ah kh ch) := fun wz hz => (h.cw.kept hz).cell g1
  have HCH := hide hch
  have HRW := hide g2
  have HG3 := hide g3
  generalize x.number = v at HC hc h8
  have HN := hide hn
  clear h hx hn hch g1 g2 g3
  go_enter Sakg.func306, Sakg.ntmps306
  have HC1 := hide (unhide HC)
  go_wp2_with fail
  refine (unhide HC1).mono ?_
  rintro e w1 ⟨A1, k1, c1, rfl, n1, N1, b1⟩
  have NN1 := hide n1
  clear HC1 n1
  clear hc HC
  have HC2 := hide (num_any 1 w1 (by omega))
  go_wp2_with fail
  refine (unhide HC2).mono ?_
  rintro e w2 ⟨A2, k2, c2, rfl, n2, N2, b2⟩
  have NN2 := hide n2
  clear HC2 n2
  have HC3 := hide (((unhide HN).kept (b1.thn b2)).add (unhide NN2) (by omega) (by omega))
  go_wp2_with fail
  refine (unhide HC3).mono ?_
  rintro e w3 ⟨A3, k3, c3, rfl, n3, N3, b3⟩
  have NN3 := hide n3
  clear HC3 n3
  have hmB : m + 1 < BIG := by omega
  have HSB := hide (((unhide NN1).kept (b2.thn b3)).sub (unhide NN3) (by omega) hmB)
  by_cases hle : m + 1 ≤ v
  rotate_left
  · rw [decide_eq_false hle] at HSB
    go_wp2_with (go_at_call 35; refine (unhide HSB).mono ?_; rintro e w4 ⟨A4, k4, c4, rfl, n4, N4, b4⟩; have NN4 := hide n4; clear n4)
    go_ret
    exact ⟨none, 0, 0, 0, rfl, IsNat.nil _, New.nil _, p256_pos, (b1.thn (b2.thn b3)).thn b4⟩
  rw [decide_eq_true hle] at HSB
  go_wp2_with fail
  refine (unhide HSB).mono ?_
  rintro e w4 ⟨A4, k4, c4, rfl, n4, N4, b4⟩
  have d4 : Below w.heap.size w w4 := (b1.thn (b2.thn b3)).thn b4
  have HPL := hide (place_any A4 k4 c4 (v - (m + 1)) kh w4 n4 (by omega) (by omega))
  have y178 := unhide HCH w4 d4
  clear n4
  generalize v - (m + 1) = j at HPL
  by_cases hj : j < kh
  rotate_left
  · rw [decide_eq_false hj, show placeN j kh = 0 from if_neg hj] at HPL
    go_wp2_with (go_at_call 201; refine (unhide HPL).mono ?_; rintro e w5 ⟨rfl, rfl⟩)
    go_ret
    exact ⟨none, 0, 0, 0, rfl, IsNat.nil _, New.nil _, p256_pos, d4⟩
  rw [decide_eq_true hj, show placeN j kh = j from if_pos hj] at HPL
  obtain ⟨bb, off, rfl, hlt, hat⟩ := (unhide HRW).now.at_ (by omega)
  have hlr := (unhide HRW).now.len_eq
  obtain ⟨a, ha, hw⟩ := unhide HG3 (rows.getD j []) (by rw [List.getD_eq_getElem?_getD, List.getElem?_eq_getElem (by omega)]; simp)
  have hrg : w.rangeAt bb (off + j * 32) (bv a) := fun i u hu => hat j hj i u (by rw [ha]; exact hu)
  have hrg4 := range_below hrg d4 (fun _ => hlt)
  have hlv := beN_lt256 hw.byt (by have := hw.len; omega)
  have HFB := hide (fromBE_any (some ⟨bb, off + j * 32, none⟩) 32 32 a w4 (src_of_range hrg4 hw.byt hw.len max32) (by omega))
  generalize val a.reverse = vv at HFB hlv
  clear hrg hrg4 ha hat
  go_wp2_with (first
    | (go_at_call 201; refine (unhide HPL).mono ?_; rintro e w5 ⟨rfl, rfl⟩)
    | (go_at_call 17; refine (unhide HFB).mono ?_; rintro e w6 ⟨A6, k6, c6, rfl, n6, N6, b6⟩; have NN6 := hide n6; clear n6))
  go_ret
  exact ⟨A6, k6, c6, vv, rfl, unhide NN6, N6.later d4.size, hlv, d4.thn b6⟩
theorem SR.blockValue (h : SR G bw gf cs fr d fs x w) (hx : XB x) (o : Nat) (ho : (64 ≤ o ∧ o ≤ 70) ∨ o = 72) (A : Option Addr) (k c m : Nat) (hn : IsNat w A k c m) (hm : m < P256) :
    Calls Sakg.prog 306 #[.pointer (some ⟨bw, 0, none⟩), .int .u8 o, .slice A k c] w (LtR w) := by
  obtain rfl | rfl | rfl | rfl | rfl | rfl | rfl | rfl : o = 64 ∨ o = 65 ∨ o = 66 ∨ o = 67 ∨ o = 68 ∨ o = 69 ∨ o = 70 ∨ o = 72 := by omega
  · exact blockV_64 h hx A k c m hn hm
  · exact blockV_65 h hx A k c m hn hm
  · exact blockV_66 h hx A k c m hn hm
  · exact blockV_67 h hx A k c m hn hm
  · exact blockV_68 h hx A k c m hn hm
  · exact blockV_69 h hx A k c m hn hm
  · exact blockV_70 h hx A k c m hn hm
  · exact blockV_72 h hx A k c m hn hm

/-- a number, normal -/
theorem norm_knat (A : Option Addr) (k c m : Nat) (w : World) (h : IsNat w A k c m) (hm : m < BIG) : Calls Sakg.prog 90 #[.slice A k c] w (MakesNat w m) := by
  have hl := h.len 200 hm
  obtain ⟨xs, s1, s2, s3, s4⟩ := h
  have := norm_nat A k c xs w s1 (by omega)
  rwa [s3] at this
set_option maxHeartbeats 8000000 in
theorem acctV_49 (r : List Value) (d : YAcct) (w : World) (h : AcctRow w r d) (hg : GoodA d) (hb : d.bal < P256) :
    Calls Sakg.prog 307 #[.agg r.toArray, .int .u8 49] w (LtR w) := by
  have hBB := big_ge
  have hP := p256_ge
  obtain ⟨W, hW⟩ : ∃ W, W = w.alloc (.cells r.toArray 113) := ⟨_, rfl⟩
  have hb0 : Below w.heap.size w W := by rw [hW]; exact (Below.refl _ _).alloc (Nat.le_refl _) _
  have hr0 : RowT 113 W w.heap.size r := by rw [hW]; exact RowT.new _ _ _
  have hrow : AcctRow W r d := h.kept hb0
  obtain ⟨A1, k1, c1, A2, k2, c2, A3, k3, c3, A4, k4, c4, hre, hia, s1, s2, s3, s4⟩ := id hrow
  have e : ∀ i, r[20 + i]? = [Value.slice A1 k1 c1, .slice A2 k2 c2, .slice A3 k3 c3, .slice A4 k4 c4][i]? := fun i => by
    rw [hre, List.getElem?_append_right (by rw [bv_len, hia.len]; omega), bv_len, hia.len, Nat.add_sub_cancel_left]
  have e21 : W.cell? ⟨w.heap.size, 21, none⟩ = some (.slice A2 k2 c2) := by rw [hr0.cell]; exact e 1
  have e22 : ∀ wz, Below W.heap.size W wz → wz.cell? ⟨w.heap.size, 22, none⟩ = some (.slice A3 k3 c3) ∧ Src wz A3 k3 c3 d.code := fun wz hz => ⟨by rw [(hr0.kept hz).cell]; exact e 2, s3.kept hz⟩
  have E22 := hide e22
  have hk3 : k3 ≤ 256 := by have := s3.len_eq; have := hg.code; omega
  have HC := hide (norm_knat A2 k2 c2 d.bal W s2 (Nat.lt_trans hb p256_lt))
  clear h hrow hre e s1 s2 s3 s4 hr0 e22
  go_enter Sakg.func307, Sakg.ntmps307
  go_upto_region 1 with fail
  rw [← hW]
  clear hW
  go_wp2_with (go_at_call 90; refine (unhide HC).mono ?_; rintro e w1 ⟨B1, j1, e1, rfl, n1, N1, b1⟩; have NN1 := hide n1; clear n1)
  go_ret
  exact ⟨B1, j1, e1, d.bal, rfl, unhide NN1, N1.later hb0.size, hb, hb0.thn b1⟩
set_option maxHeartbeats 8000000 in
theorem acctV_59 (r : List Value) (d : YAcct) (w : World) (h : AcctRow w r d) (hg : GoodA d) (hb : d.bal < P256) :
    Calls Sakg.prog 307 #[.agg r.toArray, .int .u8 59] w (LtR w) := by
  have hBB := big_ge
  have hP := p256_ge
  obtain ⟨W, hW⟩ : ∃ W, W = w.alloc (.cells r.toArray 113) := ⟨_, rfl⟩
  have hb0 : Below w.heap.size w W := by rw [hW]; exact (Below.refl _ _).alloc (Nat.le_refl _) _
  have hr0 : RowT 113 W w.heap.size r := by rw [hW]; exact RowT.new _ _ _
  have hrow : AcctRow W r d := h.kept hb0
  obtain ⟨A1, k1, c1, A2, k2, c2, A3, k3, c3, A4, k4, c4, hre, hia, s1, s2, s3, s4⟩ := id hrow
  have e : ∀ i, r[20 + i]? = [Value.slice A1 k1 c1, .slice A2 k2 c2, .slice A3 k3 c3, .slice A4 k4 c4][i]? := fun i => by
    rw [hre, List.getElem?_append_right (by rw [bv_len, hia.len]; omega), bv_len, hia.len, Nat.add_sub_cancel_left]
  have e21 : W.cell? ⟨w.heap.size, 21, none⟩ = some (.slice A2 k2 c2) := by rw [hr0.cell]; exact e 1
  have e22 : ∀ wz, Below W.heap.size W wz → wz.cell? ⟨w.heap.size, 22, none⟩ = some (.slice A3 k3 c3) ∧ Src wz A3 k3 c3 d.code := fun wz hz => ⟨by rw [(hr0.kept hz).cell]; exact e 2, s3.kept hz⟩
  have E22 := hide e22
  have hk3 : k3 ≤ 256 := by have := s3.len_eq; have := hg.code; omega
  have y22 := (e22 W (Below.refl _ _)).1
  have HC := hide (num_any k3 W (by omega))
  clear h hrow hre e s1 s2 s3 s4 hr0 e22 e21
  go_enter Sakg.func307, Sakg.ntmps307
  go_upto_region 1 with fail
  rw [← hW]
  clear hW
  go_wp2_with (go_at_call 97; refine (unhide HC).mono ?_; rintro e w1 ⟨B1, j1, e1, rfl, n1, N1, b1⟩; have NN1 := hide n1; clear n1)
  go_ret
  exact ⟨B1, j1, e1, k3, rfl, unhide NN1, N1.later hb0.size, by omega, hb0.thn b1⟩
set_option maxHeartbeats 8000000 in
theorem acctV_63 (r : List Value) (d : YAcct) (w : World) (h : AcctRow w r d) (hg : GoodA d) (hb : d.bal < P256) :
    Calls Sakg.prog 307 #[.agg r.toArray, .int .u8 63] w (LtR w) := by
  have hBB := big_ge
  have hP := p256_ge
  obtain ⟨W, hW⟩ : ∃ W, W = w.alloc (.cells r.toArray 113) := ⟨_, rfl⟩
  have hb0 : Below w.heap.size w W := by rw [hW]; exact (Below.refl _ _).alloc (Nat.le_refl _) _
  have hr0 : RowT 113 W w.heap.size r := by rw [hW]; exact RowT.new _ _ _
  have hrow : AcctRow W r d := h.kept hb0
  obtain ⟨A1, k1, c1, A2, k2, c2, A3, k3, c3, A4, k4, c4, hre, hia, s1, s2, s3, s4⟩ := id hrow
  have e : ∀ i, r[20 + i]? = [Value.slice A1 k1 c1, .slice A2 k2 c2, .slice A3 k3 c3, .slice A4 k4 c4][i]? := fun i => by
    rw [hre, List.getElem?_append_right (by rw [bv_len, hia.len]; omega), bv_len, hia.len, Nat.add_sub_cancel_left]
  have e21 : W.cell? ⟨w.heap.size, 21, none⟩ = some (.slice A2 k2 c2) := by rw [hr0.cell]; exact e 1
  have e22 : ∀ wz, Below W.heap.size W wz → wz.cell? ⟨w.heap.size, 22, none⟩ = some (.slice A3 k3 c3) ∧ Src wz A3 k3 c3 d.code := fun wz hz => ⟨by rw [(hr0.kept hz).cell]; exact e 2, s3.kept hz⟩
  have E22 := hide e22
  have hk3 : k3 ≤ 256 := by have := s3.len_eq; have := hg.code; omega
  have HE := hide (empty_any w.heap.size r d W hr0 hrow (nonce_big hg.non) (Nat.lt_trans hb p256_lt))
  generalize emptyY d = eb at HE
  have hZ32 : (bv (zeros 32)).length = 32 := by rw [bv_len, zeros_len]
  clear h hrow hre e s1 s2 s3 s4 hr0 e22 e21
  go_enter Sakg.func307, Sakg.ntmps307
  go_upto_region 1 with fail
  rw [← hW]
  clear hW
  go_wp2_with fail
  refine (unhide HE).mono ?_
  rintro e w1 ⟨rfl, q1⟩
  have b1 : Below W.heap.size W w1 := q1.below _
  clear q1
  cases eb
  rotate_left
  · go_wp2
    go_ret
    exact ⟨none, 0, 0, 0, rfl, IsNat.nil _, New.nil _, p256_pos, hb0.thn b1⟩
  have y22 := (unhide E22 w1 b1).1
  have HSM := hide (sum_any A3 k3 c3 d.code w1 (unhide E22 w1 b1).2 (by omega))
  go_wp2_with fail
  refine (unhide HSM).mono ?_
  rintro e w2 ⟨⟨ys, rfl, hyl, hyb⟩, b2⟩
  have hy32 : (bv ys).length = 32 := by rw [bv_len, hyl]
  have hys : (Sakg.prog.info? 28).map (·.size) = some (bv ys).length := by rw [hy32]; exact size32
  go_upto_region 9 with (first
    | ((with_reducible refine at_alloc 28 ?_); refine wpList_alloc_g (by rfl) 28 rfl (bv (zeros 32)) 32 info32 hZ32 ?_)
    | ((with_reducible refine at_store 28 ?_); refine wpList_store_whole rfl 28 (.tmp 5) (.tmp 22) rfl _ _ _ (bv ys) rfl rfl (RowT.new _ _ _) (by rw [hZ32, hy32]) hys (bv_one _) ?_; intro w3 hr3 hon3; have hbb3 := box_below hon3; clear hon3))
  have d3 : Below w.heap.size w w3 := hb0.thn (b1.thn (b2.thn hbb3.1))
  have hlv := beN_lt256 hyb (by omega)
  have HFB := hide (fromBE_any (some ⟨w2.heap.size, 0, none⟩) 32 32 ys w3 (src_of_range hr3.rangeAll hyb hyl max32) (by omega))
  generalize val ys.reverse = vv at HFB hlv
  clear hr3 hbb3
  go_wp2_with (go_at_call 17; refine (unhide HFB).mono ?_; rintro e w6 ⟨A6, k6, c6, rfl, n6, N6, b6⟩; have NN6 := hide n6; clear n6)
  go_ret
  exact ⟨A6, k6, c6, vv, rfl, unhide NN6, N6.later d3.size, hlv, d3.thn b6⟩
end

end Go.Proofs.YgcsakGreat
