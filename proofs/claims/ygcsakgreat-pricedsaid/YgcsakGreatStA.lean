/-
  (*State).taken, price.
-/
import Derived.Test.YgcsakGreatRegB
namespace Go.Proofs.YgcsakGreat
set_option linter.unusedVariables false
set_option linter.unusedSimpArgs false
set_option maxRecDepth 100000
open Go.RowKit

/-- account, told of an earlier world -/
theorem SAccts.accountAt {g bw ow : Nat} {w wz : World} {ao : Option Addr} {l c : Nat} {ds : List YAcct} (h : SAccts g w ao l c ds) (hc : Chg g w wz) (hcell : wz.cell? ⟨bw, ow, none⟩ = some (.slice ao l c)) (a : List Int) (ha : IsAddr a) (hl : l ≤ 1000000) :
    Calls Sakg.prog 99 #[.pointer (some ⟨bw, ow, none⟩), .agg (bv a).toArray] wz fun e w' => ∃ r, e = .returned (.agg r.toArray) ∧ SAcct g w r (lookY ds a) ∧ Below wz.heap.size wz w' := by
  obtain ⟨rows, h1, h2⟩ := h
  exact account_any (SAcct g w) (sarow g w) bw ow ao l c rows ds a wz hcell (h1.go hc).now h2 ha hl

set_option maxHeartbeats 4000000 in
theorem taken_any (T : TypeId) (bw : Nat) (cs : List Value) (w : World) (ao : Option Addr) (l c : Nat) (ds : List YAcct) (h : SAccts bw w ao l c ds) (hcs : RowT T w bw cs) (h0 : cs[0]? = some (.slice ao l c)) (hl : l ≤ 1000000) (hB : Bnd ds)
    (a : List Int) (ha : IsAddr a) :
    Calls Sakg.prog 109 #[.pointer (some ⟨bw, 0, none⟩), .agg (bv a).toArray] w fun e w' => (∃ b, e = .returned (.bool b)) ∧ Below w.heap.size w w' := by
  obtain ⟨W, hW⟩ : ∃ W, W = w.alloc (.cells (bv a).toArray 26) := ⟨_, rfl⟩
  have hbw := hcs.lt
  have hb0 : Below w.heap.size w W := by rw [hW]; exact (Below.refl _ _).alloc (Nat.le_refl _) _
  have hr0 : RowT 26 W w.heap.size (bv a) := by rw [hW]; exact RowT.new _ _ _
  have hacc : ∀ wz, Below W.heap.size W wz → Calls Sakg.prog 99 #[.pointer (some ⟨bw, 0, none⟩), .agg (bv a).toArray] wz fun e w' => ∃ r, e = .returned (.agg r.toArray) ∧ SAcct bw w r (lookY ds a) ∧ Below wz.heap.size wz w' := fun wz hz => by
    have hb : Below w.heap.size w wz := hb0.trans (hz.mono hb0.size)
    exact h.accountAt (Chg.of hb) (by rw [(hcs.kept hb).cell]; exact h0) a ha hl
  have hrg : ∀ wz, Below W.heap.size W wz → wz.rangeAt w.heap.size 0 (bv a) := fun wz hz => (hr0.kept hz).rangeAll
  have HACC := hide hacc
  have HRG := hide hrg
  have hu := Sakg.underlying26
  have hsz := ha.size
  clear hacc hrg hr0 h hcs
  go_enter Sakg.func109, Sakg.ntmps109
  go_upto_region 1 with fail
  rw [← hW]
  clear hW
  have dW : Below W.heap.size W W.drew := Quiet.below ⟨1, rfl⟩ _
  go_cut [5] (fun s5 wc => ∃ (g : Nat) (r : List Value), s5 = .pointer (some ⟨g, 0, none⟩) ∧ RowT 113 wc g r ∧ SAcct bw w r (lookY ds a) ∧ Below W.heap.size W wc)
  case first =>
    refine wp_region_noPanic ?_
    refine wp_region_held_drew (S := fun w' => w'.rangeAt w.heap.size 0 (bv a)) (by kernel_rfl) (unhide HRG _ dW) (fun hHeld => ?_)
    refine held_takeD 0 (.pointer (some ⟨bw, 0, none⟩)) (some 6) (by rfl) (by rfl) (by kernel_rfl) (by kernel_rfl) (by kernel_rfl) (fun _ _ _ h => h) (.inl ⟨by rfl, fun _ _ => by rfl⟩) (hHeld) ?_
    simp only [Act.put, List.setIfInBounds_toArray, List.set_cons_zero, List.set_cons_succ]
    refine held_takeD 1 (.pointer (some ⟨bw, 0, none⟩)) (some 7) (by rfl) (by rfl) (by kernel_rfl) (by kernel_rfl) (by kernel_rfl) (fun _ _ _ h => h) (.inl ⟨by rfl, fun _ _ => by go_simp⟩) (hHeld) ?_
    simp only [Act.put, List.setIfInBounds_toArray, List.set_cons_zero, List.set_cons_succ]
    refine held_takeD 2 (.pointer (some ⟨bw, 0, none⟩)) (some 8) (by rfl) (by rfl) (by kernel_rfl) (by kernel_rfl) (by kernel_rfl) (fun _ _ _ h => h) (.inl ⟨by rfl, fun _ _ => by go_simp⟩) (hHeld) ?_
    simp only [Act.put, List.setIfInBounds_toArray, List.set_cons_zero, List.set_cons_succ]
    refine held_takeD 3 (.agg (bv a).toArray) (some 9) (by rfl) (by rfl) (by kernel_rfl) (by kernel_rfl) (by kernel_rfl) (fun _ _ _ h => h) (yieldsIf_load_mid (by rfl) _ _ rfl _ _ rfl _ _ (fun _ h => h) hu rfl hsz) (hHeld) ?_
    simp only [Act.put, List.setIfInBounds_toArray, List.set_cons_zero, List.set_cons_succ]
    refine held_two 4 5 (by kernel_rfl) (by rfl) (by rfl) (fun K' hK' => ?_) (fun K' hK' => ?_)
    · go_simp
      refine (unhide HACC _ dW).mono ?_
      rintro e w2 ⟨r, rfl, hrow, b2⟩
      have d2 := dW.trans (b2.mono dW.size)
      have hrl := hrow.now.len
      refine hK'.out _ _ (unhide HRG _ d2) ?_
      clear hK' K'
      refine held_one 5 (by kernel_rfl) (by rfl) (fun K' hK' => ?_)
      refine if_alloc (some 5) rfl 113 rfl (by rfl) _ 24 infoAcct2 (by simp [bv_len, zeros_len]) (fun wA rA bA sA => ?_)
      have dA := d2.trans (bA.mono d2.size)
      refine hK'.out _ _ (unhide HRG _ dA) ?_
      clear hK' K'
      simp only [Act.put, List.setIfInBounds_toArray, List.set_cons_zero, List.set_cons_succ]
      refine held_one 6 (by kernel_rfl) (by rfl) (fun K' hK' => ?_)
      refine if_store rfl (by rfl) 113 (.tmp 5) (.tmp 10) rfl w2.heap.size 0 113 _ r rfl rfl rA (by rw [hrl]; simp [bv_len, zeros_len]) (by rw [hrl]; exact sizeAcct) hrow.now.one (fun wS rS oS => ?_)
      have dS : Below W.heap.size W wS := dA.trans (oS.below _ (by exact d2.size))
      refine hK'.out _ _ (unhide HRG _ dS) ?_
      clear hK' K'
      refine wpAnyH_done (by kernel_rfl) ?_ _
      refine NoPanic.normal ?_
      rw [spl_all _ _ (by rw [hrl]; simp [bv_len, zeros_len])] at rS
      go_wp2_with fail
      go_meet
      case rel => exact ⟨_, r, rfl, rS, hrow, dS⟩
    · refine if_alloc (some 5) rfl 113 rfl (by rfl) _ 24 infoAcct2 (by simp [bv_len, zeros_len]) (fun wA rA bA sA => ?_)
      have dA := dW.trans (bA.mono dW.size)
      refine hK'.out _ _ (unhide HRG _ dA) ?_
      clear hK' K'
      simp only [Act.put, List.setIfInBounds_toArray, List.set_cons_zero, List.set_cons_succ]
      refine held_one 4 (by kernel_rfl) (by rfl) (fun K' hK' => ?_)
      go_simp
      refine (unhide HACC _ dA).mono ?_
      rintro e w2 ⟨r, rfl, hrow, b2⟩
      have d2 := dA.trans (b2.mono dA.size)
      have hrl := hrow.now.len
      refine hK'.out _ _ (unhide HRG _ d2) ?_
      clear hK' K'
      refine held_one 6 (by kernel_rfl) (by rfl) (fun K' hK' => ?_)
      refine if_store rfl (by rfl) 113 (.tmp 5) (.tmp 10) rfl W.heap.size 0 113 _ r rfl rfl (rA.kept b2) (by rw [hrl]; simp [bv_len, zeros_len]) (by rw [hrl]; exact sizeAcct) hrow.now.one (fun wS rS oS => ?_)
      have dS : Below W.heap.size W wS := d2.trans (oS.below _ (by exact Nat.le_refl _))
      refine hK'.out _ _ (unhide HRG _ dS) ?_
      clear hK' K'
      refine wpAnyH_done (by kernel_rfl) ?_ _
      refine NoPanic.normal ?_
      rw [spl_all _ _ (by rw [hrl]; simp [bv_len, zeros_len])] at rS
      go_wp2_with fail
      go_meet
      case rel => exact ⟨_, r, rfl, rS, hrow, dS⟩
  case rest =>
    obtain ⟨g, r, rfl, hr, hrow, hbc⟩ := hcut
    have hbwc : Below w.heap.size w wc := hb0.trans (hbc.mono hb0.size)
    obtain ⟨A1', k1', c1', A2', k2', c2', A3', k3', c3', A4', k4', c4', q20, q21, q22, q23, s1, s2, s3, s4⟩ := hrow.cells
    have e20 : wc.cell? ⟨g, 20, none⟩ = some (.slice A1' k1' c1') := by rw [hr.cell]; exact q20
    have n1 := (s1.go (Chg.of hbwc)).now
    have HZ := hide (isZero_any A1' k1' c1' _ wc n1 (hB.look a).1)
    have e22 : ∀ n, (wc.drewN n).cell? ⟨g, 22, none⟩ = some (.slice A3' k3' c3') := fun n => by rw [(hr.kept (Quiet.below ⟨n, rfl⟩ _)).cell]; exact q22
    clear hr hrow s1 s2 s3 s4 q20 q21 q22 q23 n1
    generalize decide ((lookY ds a).nonce = 0) = zb at HZ
    cases zb with
    | false =>
      go_wp2_with (go_at_call 130; refine (unhide HZ).mono ?_; rintro e w4 ⟨rfl, n4, rfl⟩)
      go_ret
      exact ⟨⟨_, rfl⟩, hbwc.trans (Quiet.below ⟨n4, rfl⟩ _)⟩
    | true =>
      go_wp2_with (go_at_call 130; refine (unhide HZ).mono ?_; rintro e w4 ⟨rfl, n4, rfl⟩; have e22' := e22 n4)
      go_ret
      exact ⟨⟨_, rfl⟩, hbwc.trans (Quiet.below ⟨n4, rfl⟩ _)⟩

theorem row_second (t : TypeId) (w : World) (o : Obj) (cs : List Value) : RowT t ((w.alloc o).alloc (.cells cs.toArray t)) (w.heap.size + 1) cs := by
  have := RowT.new t (w.alloc o) cs
  rw [World.size_alloc] at this
  exact this
def priceN (d : YTx) (fee : List Int) : Nat := beN fee + min (beN (tipW d)) (beN (mostW d) - beN fee)
set_option maxHeartbeats 4000000 in
theorem price_exact (bw : Nat) (fee : List Int) (r : List Value) (d : YTx) (A1 : Option Addr) (k1 c1 : Nat) (A2 : Option Addr) (k2 c2 : Nat) (w : World) (hbw : bw < w.heap.size) (hr : w.rangeAt bw 146 (bv fee)) (hf : IsW fee) (h : TxC r d A1 k1 c1 A2 k2 c2) :
    Calls Sakg.prog 103 #[.pointer (some ⟨bw, 0, none⟩), .agg r.toArray] w (MakesNat w (priceN d fee)) := by
  obtain ⟨W, hW⟩ : ∃ W, W = w.alloc (.cells r.toArray 33) := ⟨_, rfl⟩
  have hb0 : Below w.heap.size w W := by rw [hW]; exact (Below.refl _ _).alloc (Nat.le_refl _) _
  have hr0 : RowT 33 W w.heap.size r := by rw [hW]; exact RowT.new _ _ _
  have HFEE := hide (fees_any w.heap.size r d A1 k1 c1 A2 k2 c2 W hr0 h)
  have hfr : ∀ wz, Below w.heap.size w wz → wz.rangeAt bw 146 (bv fee) := fun wz hz => range_below hr hz (fun _ => hbw)
  have HFR := hide hfr
  have hm := h.most
  have ht := h.tipW
  clear hfr hr hr0
  go_enter Sakg.func103, Sakg.ntmps103
  go_upto_region 1 with fail
  rw [← hW]
  clear hW
  go_upto_region 2 with (first
    | (go_at_call 188; refine (unhide HFEE).mono ?_; rintro e w2 ⟨rfl, b2⟩)
    | ((with_reducible refine at_alloc 29 ?_); refine wpList_alloc_g (by rfl) 29 rfl (bv (zeros 32)) 32 infoW2 (by rw [bv_len, zeros_len]) ?_)
    | ((with_reducible refine at_store 29 ?_); refine wpList_store_whole rfl 29 (.tmp 5) (.tmp 10) rfl w2.heap.size 29 (bv (zeros 32)) (bv (mostW d)) rfl rfl ((RowT.new _ _ _).alloc _) (by rw [bv_len, bv_len, hm.len, zeros_len]) hm.size (bv_one _) ?_; intro w3 hr3 ho3; have hq4 : RowT 29 w3 (w2.alloc (.cells (bv (zeros 32)).toArray 29)).heap.size (bv (zeros 32)) := (RowT.new 29 (w2.alloc (.cells (bv (zeros 32)).toArray 29)) (bv (zeros 32))).only ho3 (by rw [World.size_alloc]; omega); have d3 : Below w2.heap.size w2 w3 := (((Below.refl w2.heap.size w2).alloc (Nat.le_refl _) _).alloc (by simp) _).trans (ho3.below _ (Nat.le_refl _)))
    | ((with_reducible refine at_store 29 ?_); refine wpList_store_whole rfl 29 (.tmp 6) (.tmp 11) rfl _ 29 (bv (zeros 32)) (bv (tipW d)) rfl rfl hq4 (by rw [bv_len, bv_len, ht.len, zeros_len]) ht.size (bv_one _) ?_; intro w4 hr4 ho4))
  rw [World.size_alloc] at hr4 ho4
  have hr3' := hr3.only ho4 (by omega)
  have d4 : Below w2.heap.size w2 w4 := d3.trans (ho4.below _ (by omega))
  have b4 : Below w.heap.size w w4 := hb0.trans ((b2.trans (d4.mono b2.size)).mono hb0.size)
  have s5 : Src w4 (some ⟨w2.heap.size, 0, none⟩) 32 32 (mostW d) := src_of_range hr3'.rangeAll hm.byt hm.len max32
  have HR4 := hide hr4
  have HS5 := hide s5
  clear hr3 hr3' hr4 ho3 ho4 hq4 d3 d4 s5
  go_wp2_with fail
  refine (fromBE_any _ 32 32 (mostW d) w4 (unhide HS5) (by omega)).mono ?_
  rintro e w5 ⟨A5, k5, c5, rfl, n5, N5, b5⟩
  go_wp2_with fail
  have b45 : Below w.heap.size w w5 := b4.trans (b5.mono b4.size)
  refine (baseFee_any bw fee w5 (unhide HFR _ b45) hf).mono ?_
  rintro e w6 ⟨A6, k6, c6, rfl, n6, N6, b6⟩
  have b46 : Below w.heap.size w w6 := b45.trans (b6.mono b45.size)
  go_wp2_with fail
  refine (less_any A5 A6 k5 k6 c5 c6 _ _ w6 (n5.kept b6) n6 hm.big hf.big).mono ?_
  rintro e w7 ⟨A7, k7, c7, rfl, n7, N7, b7⟩
  have b47 : Below w.heap.size w w7 := b46.trans (b7.mono b46.size)
  have b4to7 : Below w4.heap.size w4 w7 := b5.trans ((b6.mono b5.size).trans (b7.mono (Nat.le_trans b5.size b6.size)))
  have hr7 := (unhide HR4).kept b4to7
  have dW : Below w7.heap.size w7 w7.drew := Quiet.below ⟨1, rfl⟩ _
  have hr7d := hr7.kept dW
  have N7' := hide n7
  clear n5 n6 n7 b5 b6 b7 hr7
  go_upto_region 3 with fail
  refine wp_region_noPanic ?_
  refine wp_region_held_drew (S := fun _ => True) (by kernel_rfl) (trivial) (fun hHeld => ?_)
  refine held_takeD 0 (.pointer (some ⟨bw, 0, none⟩)) (some 17) (by rfl) (by rfl) (by kernel_rfl) (by kernel_rfl) (by kernel_rfl) (fun _ _ _ h => h) (.inl ⟨by rfl, fun _ _ => by rfl⟩) (hHeld) ?_
  simp only [Act.put, List.setIfInBounds_toArray, List.set_cons_zero, List.set_cons_succ]
  refine held_takeD 2 (.slice (some ⟨w2.heap.size + 1, 0, none⟩) 32 32) (some 19) (by rfl) (by rfl) (by kernel_rfl) (by kernel_rfl) (by kernel_rfl) (fun _ _ _ h => h) (.inl ⟨by rfl, fun _ _ => by go_simp⟩) (hHeld) ?_
  simp only [Act.put, List.setIfInBounds_toArray, List.set_cons_zero, List.set_cons_succ]
  refine held_takeD 4 (.slice A7 k7 c7) (some 21) (by rfl) (by rfl) (by kernel_rfl) (by kernel_rfl) (by kernel_rfl) (fun _ _ _ h => h) (.inl ⟨by rfl, fun _ _ => by rfl⟩) (hHeld) ?_
  simp only [Act.put, List.setIfInBounds_toArray, List.set_cons_zero, List.set_cons_succ]
  have e0 : Below w.heap.size w w7.drew := b47.trans (Quiet.below ⟨1, rfl⟩ _)
  refine held_one 1 (by kernel_rfl) (by rfl) (fun K' hK' => ?_)
  go_simp
  refine (baseFee_any bw fee w7.drew (unhide HFR _ e0) hf).mono ?_
  rintro e w8 ⟨A8, k8, c8, rfl, n8, N8, b8⟩
  refine hK'.out _ _ (trivial) ?_
  clear hK' K'
  have s8 : Src w8 (some ⟨w2.heap.size + 1, 0, none⟩) 32 32 (tipW d) := src_of_range (hr7d.kept b8).rangeAll ht.byt ht.len max32
  refine held_one 3 (by kernel_rfl) (by rfl) (fun K' hK' => ?_)
  go_simp
  refine (fromBE_any _ 32 32 (tipW d) w8 s8 (by omega)).mono ?_
  rintro e w9 ⟨A9, k9, c9, rfl, n9, N9, b9⟩
  refine hK'.out _ _ (trivial) ?_
  clear hK' K'
  have q79 : Below w7.heap.size w7 w9 := dW.trans ((b8.trans (b9.mono b8.size)).mono dW.size)
  have hmb : beN (mostW d) - beN fee < BIG := Nat.lt_of_le_of_lt (Nat.sub_le _ _) hm.big
  refine held_one 5 (by kernel_rfl) (by rfl) (fun K' hK' => ?_)
  go_simp
  refine (minNat_any A9 A7 k9 k7 c9 c7 _ _ w9 n9 ((unhide N7').kept q79) ht.big hmb).mono ?_
  rintro e w10 ⟨A10, k10, c10, rfl, n10, N10, q10⟩
  refine hK'.out _ _ (trivial) ?_
  clear hK' K'
  have b10 : Below w9.heap.size w9 w10 := q10.below _
  have q810 : Below w8.heap.size w8 w10 := b9.trans (b10.mono b9.size)
  have hmin : min (beN (tipW d)) (beN (mostW d) - beN fee) < 256 ^ 32 := Nat.lt_of_le_of_lt (Nat.min_le_left _ _) ht.lt
  refine held_one 6 (by kernel_rfl) (by rfl) (fun K' hK' => ?_)
  go_simp
  refine ((n8.kept q810).add n10 hf.big (Nat.lt_of_lt_of_le hmin (big_pow 32 (by omega)))).mono ?_
  rintro e w11 ⟨A11, k11, c11, rfl, n11, N11, b11⟩
  refine hK'.out _ _ (trivial) ?_
  clear hK' K'
  refine held_takeD 7 (.slice A11 k11 c11) (some 4) (by rfl) (by rfl) (by kernel_rfl) (by kernel_rfl) (by kernel_rfl) (fun _ _ _ h => h) (.inl ⟨by rfl, fun _ _ => by rfl⟩) (trivial) ?_
  simp only [Act.put, List.setIfInBounds_toArray, List.set_cons_zero, List.set_cons_succ]
  refine wpAnyH_done (by kernel_rfl) ?_ _
  refine NoPanic.normal ?_
  have b1011 : Below w.heap.size w w11 := e0.trans ((b8.trans ((q810.trans (b11.mono q810.size)).mono b8.size)).mono e0.size)
  have hsz : w.heap.size ≤ w10.heap.size := Nat.le_trans e0.size (Nat.le_trans b8.size q810.size)
  have N := hide n11
  clear n8 n9 n10 n11
  go_wp2
  go_ret
  exact ⟨A11, k11, c11, rfl, unhide N, N11.later hsz, b1011⟩
theorem priceN_lt {fee : List Int} {r : List Value} {d : YTx} {A1 : Option Addr} {k1 c1 : Nat} {A2 : Option Addr} {k2 c2 : Nat} (hf : IsW fee) (h : TxC r d A1 k1 c1 A2 k2 c2) : priceN d fee < 256 ^ 33 := by
  have hmin : min (beN (tipW d)) (beN (mostW d) - beN fee) < 256 ^ 32 := Nat.lt_of_le_of_lt (Nat.min_le_left _ _) h.tipW.lt
  have hfl := hf.lt
  have : (256 : Nat) ^ 33 = 256 * 256 ^ 32 := by rw [Nat.pow_succ, Nat.mul_comm]
  unfold priceN
  omega
theorem price_any (bw : Nat) (fee : List Int) (r : List Value) (d : YTx) (A1 : Option Addr) (k1 c1 : Nat) (A2 : Option Addr) (k2 c2 : Nat) (w : World) (hbw : bw < w.heap.size) (hr : w.rangeAt bw 146 (bv fee)) (hf : IsW fee) (h : TxC r d A1 k1 c1 A2 k2 c2) :
    Calls Sakg.prog 103 #[.pointer (some ⟨bw, 0, none⟩), .agg r.toArray] w fun e w' => ∃ n, n < 256 ^ 33 ∧ MakesNat w n e w' := by
  refine (price_exact bw fee r d A1 k1 c1 A2 k2 c2 w hbw hr hf h).mono ?_
  intro e w' hm
  exact ⟨_, priceN_lt hf h, hm⟩

end Go.Proofs.YgcsakGreat
