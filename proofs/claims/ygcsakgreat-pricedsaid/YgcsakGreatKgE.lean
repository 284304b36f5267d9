/-
  yp: enterCost.
-/
import Derived.Test.YgcsakGreatKgD
import Derived.Test.YgcsakGreatKfC
namespace Go.Proofs.YgcsakGreat
set_option linter.unusedVariables false
set_option linter.unusedSimpArgs false
set_option maxRecDepth 100000
open Go.RowKit

/-- what a call or a creation costs -/
def EntR (w : World) (v : Prop) (e : Ending) (w' : World) : Prop := ∃ A k c n, e = .returned (.slice A k c) ∧ IsNat w' A k c n ∧ New w A ∧ 100 ≤ n ∧ n < 256 ^ 40 ∧ (v → 9100 ≤ n) ∧ Below w.heap.size w w'
theorem pow40_big : (256 : Nat) ^ 40 ≤ BIG := big_pow 40 (by omega)
theorem pow40_ge : 256 * P256 ≤ 256 ^ 40 := by unfold P256; rw [← Nat.pow_succ']; exact Nat.pow_le_pow_right (by omega) (by omega)
section
variable {G : Nat → Prop} {bw gf : Nat} {cs fr : List Value} {d : WD} {f : FD} {r : List FD} {x : XD} {w : World} {B : Nat}
set_option maxHeartbeats 8000000 in
theorem enterCost_240 (h : SR G bw gf cs fr d (f :: r) x w) (hg : Good B d) (hf : AnyF f) :
    Calls Sakg.prog 425 #[.pointer (some ⟨bw, 0, none⟩), .pointer (some ⟨gf, 60 * r.length, none⟩), .int .u8 240] w (EntR w False) := by
  have hBB := big_ge
  have hP := p256_ge
  have hPB := p256_big2
  have hP40 := pow40_ge
  have hs := argN_lt hf.stk
  have hsl := hf.slen
  have hfx := h.fx
  obtain ⟨o, ho⟩ : ∃ o, o = 60 * r.length := ⟨_, rfl⟩
  rw [← ho] at hfx ⊢
  have HF := hide hfx
  have h2 := hs 2
  clear h hfx ho hs
  go_enter Sakg.func425, Sakg.ntmps425
  have HC1 := hide (num_any 32000 w (by omega))
  go_wp2_with fail
  refine (unhide HC1).mono ?_
  rintro e w1 ⟨A1, k1, c1, rfl, n1, N1, b1⟩
  have NN1 := hide n1
  clear HC1 n1
  have HC2 := hide (num_any 2 w1 (by omega))
  go_wp2_with fail
  refine (unhide HC2).mono ?_
  rintro e w2 ⟨A2, k2, c2, rfl, n2, N2, b2⟩
  have NN2 := hide n2
  clear HC2 n2
  have HC3 := hide (((unhide HF).kept (b1.thn b2)).arg (by omega) 2 (by omega))
  go_wp2_with fail
  refine (unhide HC3).mono ?_
  rintro e w3 ⟨⟨A3, k3, c3, rfl, s3⟩, q3⟩
  have b3 : Below w2.heap.size w2 w3 := q3.below _
  have KK3 := hide s3
  clear HC3 s3 q3
  generalize argN f.stk 2 = a2 at KK3 h2
  have HC4 := hide (words_any A3 k3 c3 _ w3 ((unhide KK3).kp (ChgS.of b3)).now (by omega))
  go_wp2_with fail
  refine (unhide HC4).mono ?_
  rintro e w4 ⟨A4, k4, c4, rfl, n4, N4, b4⟩
  have NN4 := hide n4
  clear HC4 n4
  obtain ⟨q, hq⟩ : ∃ q, q = (a2 + 31) / 32 := ⟨_, rfl⟩
  rw [← hq] at NN4
  have hql : q < P256 := by omega
  clear hq
  have HC5 := hide (((unhide NN2).kept (b3.thn b4)).mul (unhide NN4) (by omega) (by omega))
  go_wp2_with fail
  refine (unhide HC5).mono ?_
  rintro e w5 ⟨A5, k5, c5, rfl, n5, N5, b5⟩
  have NN5 := hide n5
  clear HC5 n5
  have HC6 := hide (((unhide NN1).kept (b2.thn (b3.thn (b4.thn b5)))).add (unhide NN5) (by omega) (by omega))
  go_wp2_with fail
  refine (unhide HC6).mono ?_
  rintro e w6 ⟨A6, k6, c6, rfl, n6, N6, b6⟩
  have NN6 := hide n6
  clear HC6 n6
  go_wp2
  go_ret
  exact ⟨A6, k6, c6, 32000 + 2 * q, rfl, (unhide NN6), N6.later (b1.thn (b2.thn (b3.thn (b4.thn b5)))).size, by omega, by omega, fun h => h.elim, (b1.thn (b2.thn (b3.thn (b4.thn (b5.thn b6)))))⟩
set_option maxHeartbeats 8000000 in
theorem enterCost_245 (h : SR G bw gf cs fr d (f :: r) x w) (hg : Good B d) (hf : AnyF f) :
    Calls Sakg.prog 425 #[.pointer (some ⟨bw, 0, none⟩), .pointer (some ⟨gf, 60 * r.length, none⟩), .int .u8 245] w (EntR w False) := by
  have hBB := big_ge
  have hP := p256_ge
  have hPB := p256_big2
  have hP40 := pow40_ge
  have hs := argN_lt hf.stk
  have hsl := hf.slen
  have hfx := h.fx
  obtain ⟨o, ho⟩ : ∃ o, o = 60 * r.length := ⟨_, rfl⟩
  rw [← ho] at hfx ⊢
  have HF := hide hfx
  have h2 := hs 2
  clear h hfx ho hs
  go_enter Sakg.func425, Sakg.ntmps425
  have HC1 := hide (num_any 32000 w (by omega))
  go_wp2_with fail
  refine (unhide HC1).mono ?_
  rintro e w1 ⟨A1, k1, c1, rfl, n1, N1, b1⟩
  have NN1 := hide n1
  clear HC1 n1
  have HC2 := hide (num_any 8 w1 (by omega))
  go_wp2_with fail
  refine (unhide HC2).mono ?_
  rintro e w2 ⟨A2, k2, c2, rfl, n2, N2, b2⟩
  have NN2 := hide n2
  clear HC2 n2
  have HC3 := hide (((unhide HF).kept (b1.thn b2)).arg (by omega) 2 (by omega))
  go_wp2_with fail
  refine (unhide HC3).mono ?_
  rintro e w3 ⟨⟨A3, k3, c3, rfl, s3⟩, q3⟩
  have b3 : Below w2.heap.size w2 w3 := q3.below _
  have KK3 := hide s3
  clear HC3 s3 q3
  generalize argN f.stk 2 = a2 at KK3 h2
  have HC4 := hide (words_any A3 k3 c3 _ w3 ((unhide KK3).kp (ChgS.of b3)).now (by omega))
  go_wp2_with fail
  refine (unhide HC4).mono ?_
  rintro e w4 ⟨A4, k4, c4, rfl, n4, N4, b4⟩
  have NN4 := hide n4
  clear HC4 n4
  obtain ⟨q, hq⟩ : ∃ q, q = (a2 + 31) / 32 := ⟨_, rfl⟩
  rw [← hq] at NN4
  have hql : q < P256 := by omega
  clear hq
  have HC5 := hide (((unhide NN2).kept (b3.thn b4)).mul (unhide NN4) (by omega) (by omega))
  go_wp2_with fail
  refine (unhide HC5).mono ?_
  rintro e w5 ⟨A5, k5, c5, rfl, n5, N5, b5⟩
  have NN5 := hide n5
  clear HC5 n5
  have HC6 := hide (((unhide NN1).kept (b2.thn (b3.thn (b4.thn b5)))).add (unhide NN5) (by omega) (by omega))
  go_wp2_with fail
  refine (unhide HC6).mono ?_
  rintro e w6 ⟨A6, k6, c6, rfl, n6, N6, b6⟩
  have NN6 := hide n6
  clear HC6 n6
  go_wp2
  go_ret
  exact ⟨A6, k6, c6, 32000 + 8 * q, rfl, (unhide NN6), N6.later (b1.thn (b2.thn (b3.thn (b4.thn b5)))).size, by omega, by omega, fun h => h.elim, (b1.thn (b2.thn (b3.thn (b4.thn (b5.thn b6)))))⟩
set_option maxHeartbeats 16000000 in
theorem enterCost_241 (h : SR G bw gf cs fr d (f :: r) x w) (hg : Good B d) (hf : AnyF f) :
    Calls Sakg.prog 425 #[.pointer (some ⟨bw, 0, none⟩), .pointer (some ⟨gf, 60 * r.length, none⟩), .int .u8 241] w (EntR w (argN f.stk 2 ≠ 0)) := by
  have hBB := big_ge
  have hs := argN_lt hf.stk
  have hsl := hf.slen
  have hfx := h.fx
  obtain ⟨o, ho⟩ : ∃ o, o = 60 * r.length := ⟨_, rfl⟩
  rw [← ho] at hfx ⊢
  have hcw := h.cw
  have HCW := hide hcw
  have HF := hide hfx
  have HS := hide hs
  have hu := Sakg.underlying26
  have hZ20 : (bv (zeros 20)).length = 20 := by rw [bv_len, zeros_len]
  clear h hfx hs ho hcw
  go_enter Sakg.func425, Sakg.ntmps425
  have HC1 := hide ((unhide HF).arg (by omega) 1 (by omega))
  go_wp2_with fail
  refine (unhide HC1).mono ?_
  rintro e w1 ⟨⟨A1, k1, c1, rfl, s1⟩, q1⟩
  have b1 : Below w.heap.size w w1 := q1.below _
  have KK1 := hide s1
  clear HC1 s1 q1
  have ha1 : argN f.stk 1 < BIG := Nat.lt_trans (unhide HS 1) p256_lt
  have HC2 := hide (addrOf_any A1 k1 c1 _ w1 ((unhide KK1).kp (ChgS.of b1)).now ha1)
  go_wp2_with fail
  refine (unhide HC2).mono ?_
  rintro e w2 ⟨⟨ta, rfl, hta⟩, b2⟩
  clear HC2 
  have htz := hta.size
  have hbt : (bv ta).length = 20 := by rw [bv_len, hta.len]
  go_upto_region 7 with (first
    | ((with_reducible refine at_alloc 26 ?_); refine wpList_alloc_g (by rfl) 26 rfl (bv (zeros 20)) 20 infoAddr2 hZ20 ?_)
    | ((with_reducible refine at_store 26 ?_); refine wpList_store_whole rfl 26 (.tmp 7) (.tmp 31) rfl _ _ _ (bv ta) rfl rfl (RowT.new _ _ _) (by rw [hZ20, hbt]) htz (bv_one _) ?_; intro w4 hr4 hon4; have hbb4 := box_below hon4; clear hon4))
  have dw4 : Below w.heap.size w w4 := b1.thn (b2.thn hbb4.1)
  have hcw4 : CW G bw cs d w4 := (unhide HCW).kept dw4
  have hrg4 : ∀ wz, Below w4.heap.size w4 wz → wz.rangeAt w2.heap.size 0 (bv ta) := fun wz hz => (hr4.kept hz).rangeAll
  have HRG := hide hrg4
  have HCW4 := hide hcw4
  have HW34 := hide hbb4.2
  have d4 : Below w4.heap.size w4 w4.drew := Quiet.below ⟨1, rfl⟩ _
  clear hrg4 hcw4 hr4 hbb4
  simp only [Act.put, List.setIfInBounds_toArray, List.set_cons_zero, List.set_cons_succ]
  refine wp_region_noPanic ?_
  refine wp_region_held_drew (S := fun w' => Below w4.heap.size w4 w') (by kernel_rfl) (d4) (fun hHeld => ?_)
  refine held_takeD 0 (.pointer (some ⟨bw, 0, none⟩)) (some 32) (by rfl) (by rfl) (by kernel_rfl) (by kernel_rfl) (by kernel_rfl) (fun _ _ _ h => h) (.inl ⟨by rfl, fun _ _ => by rfl⟩) (hHeld) ?_
  simp only [Act.put, List.setIfInBounds_toArray, List.set_cons_zero, List.set_cons_succ]
  refine held_takeD 1 (.pointer (some ⟨bw, 0, none⟩)) (some 33) (by rfl) (by rfl) (by kernel_rfl) (by kernel_rfl) (by kernel_rfl) (fun _ _ _ h => h) (.inl ⟨by rfl, fun _ _ => by go_simp⟩) (hHeld) ?_
  simp only [Act.put, List.setIfInBounds_toArray, List.set_cons_zero, List.set_cons_succ]
  refine held_takeD 2 (.pointer (some ⟨bw, 0, none⟩)) (some 34) (by rfl) (by rfl) (by kernel_rfl) (by kernel_rfl) (by kernel_rfl) (fun _ _ _ h => h) (.inl ⟨by rfl, fun _ _ => by go_simp⟩) (hHeld) ?_
  simp only [Act.put, List.setIfInBounds_toArray, List.set_cons_zero, List.set_cons_succ]
  refine held_takeD 3 (.agg (bv ta).toArray) (some 35) (by rfl) (by rfl) (by kernel_rfl) (by kernel_rfl) (by kernel_rfl) (fun _ _ _ h => h) (yieldsIf_load_mid (by rfl) _ _ rfl _ _ rfl _ _ (fun wz hS => unhide HRG wz hS) hu rfl htz) (hHeld) ?_
  simp only [Act.put, List.setIfInBounds_toArray, List.set_cons_zero, List.set_cons_succ]
  refine held_one 4 (by kernel_rfl) (by rfl) (fun K' hK' => ?_)
  go_simp
  refine (((unhide HCW4).kept d4).access hg ta hta).mono ?_
  rintro e w5 ⟨A5, k5, c5, n5, rfl, m5, N5, l5, b5⟩
  refine hK'.out _ _ (d4.thn b5) ?_
  clear hK' K'
  have d5 : Below w4.heap.size w4 w5 := d4.thn b5
  refine held_takeD 5 (.slice A5 k5 c5) (some 8) (by rfl) (by rfl) (by kernel_rfl) (by kernel_rfl) (by kernel_rfl) (fun _ _ _ h => h) (.inl ⟨by rfl, fun _ _ => by rfl⟩) (d5) ?_
  simp only [Act.put, List.setIfInBounds_toArray, List.set_cons_zero, List.set_cons_succ]
  refine wpAnyH_done (by kernel_rfl) ?_ _
  refine NoPanic.normal ?_
  have M5 := hide m5
  have hd5 : Below w.heap.size w w5 := dw4.thn d5
  have NW5 : New w A5 := N5.later (dw4.thn d4).size
  have hl5 : 100 ≤ n5 ∧ n5 ≤ 2600 := by omega
  clear m5 l5
  have HA := hide (((unhide HF).kept hd5).arg (by omega) 2 (by omega))
  have ha2 : argN f.stk 2 < BIG := Nat.lt_trans (unhide HS 2) p256_lt
  generalize hA2 : argN f.stk 2 = a2 at HA ha2
  have HA2 := hide hA2
  clear hA2
  go_wp2_with fail
  refine (unhide HA).mono ?_
  rintro e w6 ⟨⟨A6, k6, c6, rfl, s6⟩, q6⟩
  have b6 : Below w5.heap.size w5 w6 := q6.below _
  have HZ := hide (isZero_any A6 k6 c6 a2 w6 (s6.kp (ChgS.of b6)).now ha2)
  clear s6 q6
  have h40 : (100000 : Nat) < 256 ^ 40 := Nat.lt_of_lt_of_le (by decide : 100000 < 256 ^ 3) (Nat.pow_le_pow_right (by omega) (by omega))
  by_cases hz : a2 = 0
  · rw [decide_eq_true hz] at HZ
    go_wp2_with (go_at_call 130; refine (unhide HZ).mono ?_; rintro e w7 ⟨rfl, q7⟩; have b7 : Below w6.heap.size w6 w7 := q7.below _; clear q7)
    go_ret
    exact ⟨A5, k5, c5, n5, rfl, (unhide M5).kept (b6.thn b7), NW5, by omega, by omega, fun h => absurd (by rw [unhide HA2]; exact hz) h, hd5.thn (b6.thn b7)⟩
  · rw [decide_eq_false hz] at HZ
    go_wp2_with fail
    refine (unhide HZ).mono ?_
    rintro e w7 ⟨rfl, q7⟩
    have b7 : Below w6.heap.size w6 w7 := q7.below _
    have b57 : Below w5.heap.size w5 w7 := b6.thn b7
    have HN8 := hide (num_any 9000 w7 (by omega))
    clear q7
    go_wp2_with fail
    refine (unhide HN8).mono ?_
    rintro e w8 ⟨A8, k8, c8, rfl, n8, N8, b8⟩
    have HAD := hide (((unhide M5).kept (b57.thn b8)).add n8 (by omega) (by omega))
    clear n8
    go_upto_region 10 with (go_at_call 59; refine (unhide HAD).mono ?_; rintro e w9 ⟨A9, k9, c9, rfl, n9, N9, b9⟩; have NN9 := hide n9; clear n9)
    obtain ⟨W, hWe⟩ : ∃ W, W = w9 := ⟨_, rfl⟩
    subst hWe
    have b5W : Below w5.heap.size w5 W := b57.thn (b8.thn b9)
    have d4W : Below w4.heap.size w4 W := d5.thn b5W
    have hWw : Below w.heap.size w W := hd5.thn b5W
    have dW : Below W.heap.size W W.drew := Quiet.below ⟨1, rfl⟩ _
    have hcwW : CW G bw cs d W := (unhide HCW4).kept d4W
    have hacc : ∀ wz, Below W.heap.size W wz → Calls Sakg.prog 99 #[.pointer (some ⟨bw, 0, none⟩), .agg (bv ta).toArray] wz fun e w' => ∃ r, e = .returned (.agg r.toArray) ∧ KAcct G W r (lookY d.accts ta) ∧ Below wz.heap.size wz w' := fun wz hz => hcwW.accountAt hg hz ta hta
    have HACC := hide hacc
    have hrgW : ∀ wz, Below W.heap.size W wz → wz.rangeAt w2.heap.size 0 (bv ta) := fun wz hz => unhide HRG wz (d4W.thn hz)
    have HRGW := hide hrgW
    clear hacc hcwW hrgW HRG d5 HAD HN8
    go_cut [9] (fun s7 wc => ∃ (g : Nat) (rr : List Value), s7 = .pointer (some ⟨g, 0, none⟩) ∧ RowT 113 wc g rr ∧ KAcct G W rr (lookY d.accts ta) ∧ Below W.heap.size W wc)
    case first =>
      refine wp_region_noPanic ?_
      refine wp_region_held_drew (S := fun w' => Below W.heap.size W w') (by kernel_rfl) (dW) (fun hHeld => ?_)
      refine held_takeD 0 (.pointer (some ⟨bw, 0, none⟩)) (some 52) (by rfl) (by rfl) (by kernel_rfl) (by kernel_rfl) (by kernel_rfl) (fun _ _ _ h => h) (.inl ⟨by rfl, fun _ _ => by rfl⟩) (hHeld) ?_
      simp only [Act.put, List.setIfInBounds_toArray, List.set_cons_zero, List.set_cons_succ]
      refine held_takeD 1 (.pointer (some ⟨bw, 0, none⟩)) (some 53) (by rfl) (by rfl) (by kernel_rfl) (by kernel_rfl) (by kernel_rfl) (fun _ _ _ h => h) (.inl ⟨by rfl, fun _ _ => by go_simp⟩) (hHeld) ?_
      simp only [Act.put, List.setIfInBounds_toArray, List.set_cons_zero, List.set_cons_succ]
      refine held_takeD 2 (.pointer (some ⟨bw, 0, none⟩)) (some 54) (by rfl) (by rfl) (by kernel_rfl) (by kernel_rfl) (by kernel_rfl) (fun _ _ _ h => h) (.inl ⟨by rfl, fun _ _ => by go_simp⟩) (hHeld) ?_
      simp only [Act.put, List.setIfInBounds_toArray, List.set_cons_zero, List.set_cons_succ]
      refine held_takeD 3 (.agg (bv ta).toArray) (some 55) (by rfl) (by rfl) (by kernel_rfl) (by kernel_rfl) (by kernel_rfl) (fun _ _ _ h => h) (yieldsIf_load_mid (by rfl) _ _ rfl _ _ rfl _ _ (fun wz hS => unhide HRGW wz hS) hu rfl htz) (hHeld) ?_
      simp only [Act.put, List.setIfInBounds_toArray, List.set_cons_zero, List.set_cons_succ]
      refine held_two 4 5 (by kernel_rfl) (by rfl) (by rfl) (fun K' hK' => ?_) (fun K' hK' => ?_)
      · go_simp
        refine (unhide HACC _ dW).mono ?_
        rintro e w2 ⟨r, rfl, hrow, b2⟩
        have d2 := dW.trans (b2.mono dW.size)
        have hrl := hrow.now.len
        refine hK'.out _ _ (d2) ?_
        clear hK' K'
        refine held_one 5 (by kernel_rfl) (by rfl) (fun K' hK' => ?_)
        refine if_alloc (some 9) rfl 113 rfl (by rfl) _ 24 infoAcct2 (by simp [bv_len, zeros_len]) (fun wA rA bA sA => ?_)
        have dA := d2.trans (bA.mono d2.size)
        refine hK'.out _ _ (dA) ?_
        clear hK' K'
        simp only [Act.put, List.setIfInBounds_toArray, List.set_cons_zero, List.set_cons_succ]
        refine held_one 6 (by kernel_rfl) (by rfl) (fun K' hK' => ?_)
        refine if_store rfl (by rfl) 113 (.tmp 9) (.tmp 56) rfl w2.heap.size 0 113 _ r rfl rfl rA (by rw [hrl]; simp [bv_len, zeros_len]) (by rw [hrl]; exact sizeAcct) hrow.now.one (fun wS rS oS => ?_)
        have dS : Below W.heap.size W wS := dA.trans (oS.below _ (by exact d2.size))
        refine hK'.out _ _ (dS) ?_
        clear hK' K'
        refine wpAnyH_done (by kernel_rfl) ?_ _
        refine NoPanic.normal ?_
        rw [spl_all _ _ (by rw [hrl]; simp [bv_len, zeros_len])] at rS
        go_wp2_with fail
        go_meet
        case rel => exact ⟨_, r, rfl, rS, hrow, dS⟩
      · refine if_alloc (some 9) rfl 113 rfl (by rfl) _ 24 infoAcct2 (by simp [bv_len, zeros_len]) (fun wA rA bA sA => ?_)
        have dA := dW.trans (bA.mono dW.size)
        refine hK'.out _ _ (dA) ?_
        clear hK' K'
        simp only [Act.put, List.setIfInBounds_toArray, List.set_cons_zero, List.set_cons_succ]
        refine held_one 4 (by kernel_rfl) (by rfl) (fun K' hK' => ?_)
        go_simp
        refine (unhide HACC _ dA).mono ?_
        rintro e w2 ⟨r, rfl, hrow, b2⟩
        have d2 := dA.trans (b2.mono dA.size)
        have hrl := hrow.now.len
        refine hK'.out _ _ (d2) ?_
        clear hK' K'
        refine held_one 6 (by kernel_rfl) (by rfl) (fun K' hK' => ?_)
        refine if_store rfl (by rfl) 113 (.tmp 9) (.tmp 56) rfl W.heap.size 0 113 _ r rfl rfl (rA.kept b2) (by rw [hrl]; simp [bv_len, zeros_len]) (by rw [hrl]; exact sizeAcct) hrow.now.one (fun wS rS oS => ?_)
        have dS : Below W.heap.size W wS := d2.trans (oS.below _ (by exact Nat.le_refl _))
        refine hK'.out _ _ (dS) ?_
        clear hK' K'
        refine wpAnyH_done (by kernel_rfl) ?_ _
        refine NoPanic.normal ?_
        rw [spl_all _ _ (by rw [hrl]; simp [bv_len, zeros_len])] at rS
        go_wp2_with fail
        go_meet
        case rel => exact ⟨_, r, rfl, rS, hrow, dS⟩
    case rest =>
    obtain ⟨V, hVe⟩ : ∃ V, V = wc := ⟨_, rfl⟩
    subst hVe
    obtain ⟨g, rr, rfl, hrr, hrow, dV⟩ := hcut
    have hE := empty_any g rr (lookY d.accts ta) V hrr (hrow.go (ChgS.of dV)).now (hg.lookB ta).1 (hg.lookB ta).2
    generalize emptyY (lookY d.accts ta) = eb at hE
    have HE := hide hE
    clear hE hrr hrow
    go_wp2_with fail
    refine (unhide HE).mono ?_
    rintro e w10 ⟨rfl, q10⟩
    have b10 : Below V.heap.size V w10 := q10.below _
    have bW10 : Below W.heap.size W w10 := dV.thn b10
    clear q10
    cases eb
    · go_wp2
      go_ret
      exact ⟨A9, k9, c9, n5 + 9000, rfl, (unhide NN9).kept bW10, N9.later (hd5.thn (b57.thn b8)).size, by omega, by omega, fun _ => by omega, hWw.thn bW10⟩
    · have HN11 := hide (num_any 25000 w10 (by omega))
      go_wp2_with fail
      refine (unhide HN11).mono ?_
      rintro e w11 ⟨A11, k11, c11, rfl, n11, N11, b11⟩
      have HAD := hide (((unhide NN9).kept (bW10.thn b11)).add n11 (by omega) (by omega))
      clear n11
      go_wp2_with (go_at_call 59; refine (unhide HAD).mono ?_; rintro e w12 ⟨A12, k12, c12, rfl, n12, N12, b12⟩; have NN12 := hide n12; clear n12)
      go_ret
      exact ⟨A12, k12, c12, n5 + 9000 + 25000, rfl, unhide NN12, N12.later (hWw.thn (bW10.thn b11)).size, by omega, by omega, fun _ => by omega, hWw.thn (bW10.thn (b11.thn b12))⟩
set_option maxHeartbeats 16000000 in
theorem enterCost_242 (h : SR G bw gf cs fr d (f :: r) x w) (hg : Good B d) (hf : AnyF f) :
    Calls Sakg.prog 425 #[.pointer (some ⟨bw, 0, none⟩), .pointer (some ⟨gf, 60 * r.length, none⟩), .int .u8 242] w (EntR w (argN f.stk 2 ≠ 0)) := by
  have hBB := big_ge
  have hs := argN_lt hf.stk
  have hsl := hf.slen
  have hfx := h.fx
  obtain ⟨o, ho⟩ : ∃ o, o = 60 * r.length := ⟨_, rfl⟩
  rw [← ho] at hfx ⊢
  have hcw := h.cw
  have HCW := hide hcw
  have HF := hide hfx
  have HS := hide hs
  have hu := Sakg.underlying26
  have hZ20 : (bv (zeros 20)).length = 20 := by rw [bv_len, zeros_len]
  clear h hfx hs ho hcw
  go_enter Sakg.func425, Sakg.ntmps425
  have HC1 := hide ((unhide HF).arg (by omega) 1 (by omega))
  go_wp2_with fail
  refine (unhide HC1).mono ?_
  rintro e w1 ⟨⟨A1, k1, c1, rfl, s1⟩, q1⟩
  have b1 : Below w.heap.size w w1 := q1.below _
  have KK1 := hide s1
  clear HC1 s1 q1
  have ha1 : argN f.stk 1 < BIG := Nat.lt_trans (unhide HS 1) p256_lt
  have HC2 := hide (addrOf_any A1 k1 c1 _ w1 ((unhide KK1).kp (ChgS.of b1)).now ha1)
  go_wp2_with fail
  refine (unhide HC2).mono ?_
  rintro e w2 ⟨⟨ta, rfl, hta⟩, b2⟩
  clear HC2 
  have htz := hta.size
  have hbt : (bv ta).length = 20 := by rw [bv_len, hta.len]
  go_upto_region 7 with (first
    | ((with_reducible refine at_alloc 26 ?_); refine wpList_alloc_g (by rfl) 26 rfl (bv (zeros 20)) 20 infoAddr2 hZ20 ?_)
    | ((with_reducible refine at_store 26 ?_); refine wpList_store_whole rfl 26 (.tmp 7) (.tmp 31) rfl _ _ _ (bv ta) rfl rfl (RowT.new _ _ _) (by rw [hZ20, hbt]) htz (bv_one _) ?_; intro w4 hr4 hon4; have hbb4 := box_below hon4; clear hon4))
  have dw4 : Below w.heap.size w w4 := b1.thn (b2.thn hbb4.1)
  have hcw4 : CW G bw cs d w4 := (unhide HCW).kept dw4
  have hrg4 : ∀ wz, Below w4.heap.size w4 wz → wz.rangeAt w2.heap.size 0 (bv ta) := fun wz hz => (hr4.kept hz).rangeAll
  have HRG := hide hrg4
  have HCW4 := hide hcw4
  have HW34 := hide hbb4.2
  have d4 : Below w4.heap.size w4 w4.drew := Quiet.below ⟨1, rfl⟩ _
  clear hrg4 hcw4 hr4 hbb4
  simp only [Act.put, List.setIfInBounds_toArray, List.set_cons_zero, List.set_cons_succ]
  refine wp_region_noPanic ?_
  refine wp_region_held_drew (S := fun w' => Below w4.heap.size w4 w') (by kernel_rfl) (d4) (fun hHeld => ?_)
  refine held_takeD 0 (.pointer (some ⟨bw, 0, none⟩)) (some 32) (by rfl) (by rfl) (by kernel_rfl) (by kernel_rfl) (by kernel_rfl) (fun _ _ _ h => h) (.inl ⟨by rfl, fun _ _ => by rfl⟩) (hHeld) ?_
  simp only [Act.put, List.setIfInBounds_toArray, List.set_cons_zero, List.set_cons_succ]
  refine held_takeD 1 (.pointer (some ⟨bw, 0, none⟩)) (some 33) (by rfl) (by rfl) (by kernel_rfl) (by kernel_rfl) (by kernel_rfl) (fun _ _ _ h => h) (.inl ⟨by rfl, fun _ _ => by go_simp⟩) (hHeld) ?_
  simp only [Act.put, List.setIfInBounds_toArray, List.set_cons_zero, List.set_cons_succ]
  refine held_takeD 2 (.pointer (some ⟨bw, 0, none⟩)) (some 34) (by rfl) (by rfl) (by kernel_rfl) (by kernel_rfl) (by kernel_rfl) (fun _ _ _ h => h) (.inl ⟨by rfl, fun _ _ => by go_simp⟩) (hHeld) ?_
  simp only [Act.put, List.setIfInBounds_toArray, List.set_cons_zero, List.set_cons_succ]
  refine held_takeD 3 (.agg (bv ta).toArray) (some 35) (by rfl) (by rfl) (by kernel_rfl) (by kernel_rfl) (by kernel_rfl) (fun _ _ _ h => h) (yieldsIf_load_mid (by rfl) _ _ rfl _ _ rfl _ _ (fun wz hS => unhide HRG wz hS) hu rfl htz) (hHeld) ?_
  simp only [Act.put, List.setIfInBounds_toArray, List.set_cons_zero, List.set_cons_succ]
  refine held_one 4 (by kernel_rfl) (by rfl) (fun K' hK' => ?_)
  go_simp
  refine (((unhide HCW4).kept d4).access hg ta hta).mono ?_
  rintro e w5 ⟨A5, k5, c5, n5, rfl, m5, N5, l5, b5⟩
  refine hK'.out _ _ (d4.thn b5) ?_
  clear hK' K'
  have d5 : Below w4.heap.size w4 w5 := d4.thn b5
  refine held_takeD 5 (.slice A5 k5 c5) (some 8) (by rfl) (by rfl) (by kernel_rfl) (by kernel_rfl) (by kernel_rfl) (fun _ _ _ h => h) (.inl ⟨by rfl, fun _ _ => by rfl⟩) (d5) ?_
  simp only [Act.put, List.setIfInBounds_toArray, List.set_cons_zero, List.set_cons_succ]
  refine wpAnyH_done (by kernel_rfl) ?_ _
  refine NoPanic.normal ?_
  have M5 := hide m5
  have hd5 : Below w.heap.size w w5 := dw4.thn d5
  have NW5 : New w A5 := N5.later (dw4.thn d4).size
  have hl5 : 100 ≤ n5 ∧ n5 ≤ 2600 := by omega
  clear m5 l5
  have HA := hide (((unhide HF).kept hd5).arg (by omega) 2 (by omega))
  have ha2 : argN f.stk 2 < BIG := Nat.lt_trans (unhide HS 2) p256_lt
  generalize hA2 : argN f.stk 2 = a2 at HA ha2
  have HA2 := hide hA2
  clear hA2
  go_wp2_with fail
  refine (unhide HA).mono ?_
  rintro e w6 ⟨⟨A6, k6, c6, rfl, s6⟩, q6⟩
  have b6 : Below w5.heap.size w5 w6 := q6.below _
  have HZ := hide (isZero_any A6 k6 c6 a2 w6 (s6.kp (ChgS.of b6)).now ha2)
  clear s6 q6
  have h40 : (100000 : Nat) < 256 ^ 40 := Nat.lt_of_lt_of_le (by decide : 100000 < 256 ^ 3) (Nat.pow_le_pow_right (by omega) (by omega))
  by_cases hz : a2 = 0
  · rw [decide_eq_true hz] at HZ
    go_wp2_with (go_at_call 130; refine (unhide HZ).mono ?_; rintro e w7 ⟨rfl, q7⟩; have b7 : Below w6.heap.size w6 w7 := q7.below _; clear q7)
    go_ret
    exact ⟨A5, k5, c5, n5, rfl, (unhide M5).kept (b6.thn b7), NW5, by omega, by omega, fun h => absurd (by rw [unhide HA2]; exact hz) h, hd5.thn (b6.thn b7)⟩
  · rw [decide_eq_false hz] at HZ
    go_wp2_with fail
    refine (unhide HZ).mono ?_
    rintro e w7 ⟨rfl, q7⟩
    have b7 : Below w6.heap.size w6 w7 := q7.below _
    have b57 : Below w5.heap.size w5 w7 := b6.thn b7
    have HN8 := hide (num_any 9000 w7 (by omega))
    clear q7
    go_wp2_with fail
    refine (unhide HN8).mono ?_
    rintro e w8 ⟨A8, k8, c8, rfl, n8, N8, b8⟩
    have HAD := hide (((unhide M5).kept (b57.thn b8)).add n8 (by omega) (by omega))
    clear n8
    go_upto_region 10 with (go_at_call 59; refine (unhide HAD).mono ?_; rintro e w9 ⟨A9, k9, c9, rfl, n9, N9, b9⟩; have NN9 := hide n9; clear n9)
    obtain ⟨W, hWe⟩ : ∃ W, W = w9 := ⟨_, rfl⟩
    subst hWe
    have b5W : Below w5.heap.size w5 W := b57.thn (b8.thn b9)
    have d4W : Below w4.heap.size w4 W := d5.thn b5W
    have hWw : Below w.heap.size w W := hd5.thn b5W
    have dW : Below W.heap.size W W.drew := Quiet.below ⟨1, rfl⟩ _
    have hcwW : CW G bw cs d W := (unhide HCW4).kept d4W
    have hacc : ∀ wz, Below W.heap.size W wz → Calls Sakg.prog 99 #[.pointer (some ⟨bw, 0, none⟩), .agg (bv ta).toArray] wz fun e w' => ∃ r, e = .returned (.agg r.toArray) ∧ KAcct G W r (lookY d.accts ta) ∧ Below wz.heap.size wz w' := fun wz hz => hcwW.accountAt hg hz ta hta
    have HACC := hide hacc
    have hrgW : ∀ wz, Below W.heap.size W wz → wz.rangeAt w2.heap.size 0 (bv ta) := fun wz hz => unhide HRG wz (d4W.thn hz)
    have HRGW := hide hrgW
    clear hacc hcwW hrgW HRG d5 HAD HN8
    go_cut [9] (fun s7 wc => ∃ (g : Nat) (rr : List Value), s7 = .pointer (some ⟨g, 0, none⟩) ∧ RowT 113 wc g rr ∧ KAcct G W rr (lookY d.accts ta) ∧ Below W.heap.size W wc)
    case first =>
      refine wp_region_noPanic ?_
      refine wp_region_held_drew (S := fun w' => Below W.heap.size W w') (by kernel_rfl) (dW) (fun hHeld => ?_)
      refine held_takeD 0 (.pointer (some ⟨bw, 0, none⟩)) (some 52) (by rfl) (by rfl) (by kernel_rfl) (by kernel_rfl) (by kernel_rfl) (fun _ _ _ h => h) (.inl ⟨by rfl, fun _ _ => by rfl⟩) (hHeld) ?_
      simp only [Act.put, List.setIfInBounds_toArray, List.set_cons_zero, List.set_cons_succ]
      refine held_takeD 1 (.pointer (some ⟨bw, 0, none⟩)) (some 53) (by rfl) (by rfl) (by kernel_rfl) (by kernel_rfl) (by kernel_rfl) (fun _ _ _ h => h) (.inl ⟨by rfl, fun _ _ => by go_simp⟩) (hHeld) ?_
      simp only [Act.put, List.setIfInBounds_toArray, List.set_cons_zero, List.set_cons_succ]
      refine held_takeD 2 (.pointer (some ⟨bw, 0, none⟩)) (some 54) (by rfl) (by rfl) (by kernel_rfl) (by kernel_rfl) (by kernel_rfl) (fun _ _ _ h => h) (.inl ⟨by rfl, fun _ _ => by go_simp⟩) (hHeld) ?_
      simp only [Act.put, List.setIfInBounds_toArray, List.set_cons_zero, List.set_cons_succ]
      refine held_takeD 3 (.agg (bv ta).toArray) (some 55) (by rfl) (by rfl) (by kernel_rfl) (by kernel_rfl) (by kernel_rfl) (fun _ _ _ h => h) (yieldsIf_load_mid (by rfl) _ _ rfl _ _ rfl _ _ (fun wz hS => unhide HRGW wz hS) hu rfl htz) (hHeld) ?_
      simp only [Act.put, List.setIfInBounds_toArray, List.set_cons_zero, List.set_cons_succ]
      refine held_two 4 5 (by kernel_rfl) (by rfl) (by rfl) (fun K' hK' => ?_) (fun K' hK' => ?_)
      · go_simp
        refine (unhide HACC _ dW).mono ?_
        rintro e w2 ⟨r, rfl, hrow, b2⟩
        have d2 := dW.trans (b2.mono dW.size)
        have hrl := hrow.now.len
        refine hK'.out _ _ (d2) ?_
        clear hK' K'
        refine held_one 5 (by kernel_rfl) (by rfl) (fun K' hK' => ?_)
        refine if_alloc (some 9) rfl 113 rfl (by rfl) _ 24 infoAcct2 (by simp [bv_len, zeros_len]) (fun wA rA bA sA => ?_)
        have dA := d2.trans (bA.mono d2.size)
        refine hK'.out _ _ (dA) ?_
        clear hK' K'
        simp only [Act.put, List.setIfInBounds_toArray, List.set_cons_zero, List.set_cons_succ]
        refine held_one 6 (by kernel_rfl) (by rfl) (fun K' hK' => ?_)
        refine if_store rfl (by rfl) 113 (.tmp 9) (.tmp 56) rfl w2.heap.size 0 113 _ r rfl rfl rA (by rw [hrl]; simp [bv_len, zeros_len]) (by rw [hrl]; exact sizeAcct) hrow.now.one (fun wS rS oS => ?_)
        have dS : Below W.heap.size W wS := dA.trans (oS.below _ (by exact d2.size))
        refine hK'.out _ _ (dS) ?_
        clear hK' K'
        refine wpAnyH_done (by kernel_rfl) ?_ _
        refine NoPanic.normal ?_
        rw [spl_all _ _ (by rw [hrl]; simp [bv_len, zeros_len])] at rS
        go_wp2_with fail
        go_meet
        case rel => exact ⟨_, r, rfl, rS, hrow, dS⟩
      · refine if_alloc (some 9) rfl 113 rfl (by rfl) _ 24 infoAcct2 (by simp [bv_len, zeros_len]) (fun wA rA bA sA => ?_)
        have dA := dW.trans (bA.mono dW.size)
        refine hK'.out _ _ (dA) ?_
        clear hK' K'
        simp only [Act.put, List.setIfInBounds_toArray, List.set_cons_zero, List.set_cons_succ]
        refine held_one 4 (by kernel_rfl) (by rfl) (fun K' hK' => ?_)
        go_simp
        refine (unhide HACC _ dA).mono ?_
        rintro e w2 ⟨r, rfl, hrow, b2⟩
        have d2 := dA.trans (b2.mono dA.size)
        have hrl := hrow.now.len
        refine hK'.out _ _ (d2) ?_
        clear hK' K'
        refine held_one 6 (by kernel_rfl) (by rfl) (fun K' hK' => ?_)
        refine if_store rfl (by rfl) 113 (.tmp 9) (.tmp 56) rfl W.heap.size 0 113 _ r rfl rfl (rA.kept b2) (by rw [hrl]; simp [bv_len, zeros_len]) (by rw [hrl]; exact sizeAcct) hrow.now.one (fun wS rS oS => ?_)
        have dS : Below W.heap.size W wS := d2.trans (oS.below _ (by exact Nat.le_refl _))
        refine hK'.out _ _ (dS) ?_
        clear hK' K'
        refine wpAnyH_done (by kernel_rfl) ?_ _
        refine NoPanic.normal ?_
        rw [spl_all _ _ (by rw [hrl]; simp [bv_len, zeros_len])] at rS
        go_wp2_with fail
        go_meet
        case rel => exact ⟨_, r, rfl, rS, hrow, dS⟩
    case rest =>
    obtain ⟨V, hVe⟩ : ∃ V, V = wc := ⟨_, rfl⟩
    subst hVe
    obtain ⟨g, rr, rfl, hrr, hrow, dV⟩ := hcut
    clear hrr hrow
    go_wp2
    go_ret
    exact ⟨A9, k9, c9, n5 + 9000, rfl, (unhide NN9).kept dV, N9.later (hd5.thn (b57.thn b8)).size, by omega, by omega, fun _ => by omega, hWw.thn dV⟩
set_option maxHeartbeats 16000000 in
theorem enterCost_244 (h : SR G bw gf cs fr d (f :: r) x w) (hg : Good B d) (hf : AnyF f) :
    Calls Sakg.prog 425 #[.pointer (some ⟨bw, 0, none⟩), .pointer (some ⟨gf, 60 * r.length, none⟩), .int .u8 244] w (EntR w (False)) := by
  have hBB := big_ge
  have hs := argN_lt hf.stk
  have hsl := hf.slen
  have hfx := h.fx
  obtain ⟨o, ho⟩ : ∃ o, o = 60 * r.length := ⟨_, rfl⟩
  rw [← ho] at hfx ⊢
  have hcw := h.cw
  have HCW := hide hcw
  have HF := hide hfx
  have HS := hide hs
  have hu := Sakg.underlying26
  have hZ20 : (bv (zeros 20)).length = 20 := by rw [bv_len, zeros_len]
  clear h hfx hs ho hcw
  go_enter Sakg.func425, Sakg.ntmps425
  have HC1 := hide ((unhide HF).arg (by omega) 1 (by omega))
  go_wp2_with fail
  refine (unhide HC1).mono ?_
  rintro e w1 ⟨⟨A1, k1, c1, rfl, s1⟩, q1⟩
  have b1 : Below w.heap.size w w1 := q1.below _
  have KK1 := hide s1
  clear HC1 s1 q1
  have ha1 : argN f.stk 1 < BIG := Nat.lt_trans (unhide HS 1) p256_lt
  have HC2 := hide (addrOf_any A1 k1 c1 _ w1 ((unhide KK1).kp (ChgS.of b1)).now ha1)
  go_wp2_with fail
  refine (unhide HC2).mono ?_
  rintro e w2 ⟨⟨ta, rfl, hta⟩, b2⟩
  clear HC2 
  have htz := hta.size
  have hbt : (bv ta).length = 20 := by rw [bv_len, hta.len]
  go_upto_region 7 with (first
    | ((with_reducible refine at_alloc 26 ?_); refine wpList_alloc_g (by rfl) 26 rfl (bv (zeros 20)) 20 infoAddr2 hZ20 ?_)
    | ((with_reducible refine at_store 26 ?_); refine wpList_store_whole rfl 26 (.tmp 7) (.tmp 31) rfl _ _ _ (bv ta) rfl rfl (RowT.new _ _ _) (by rw [hZ20, hbt]) htz (bv_one _) ?_; intro w4 hr4 hon4; have hbb4 := box_below hon4; clear hon4))
  have dw4 : Below w.heap.size w w4 := b1.thn (b2.thn hbb4.1)
  have hcw4 : CW G bw cs d w4 := (unhide HCW).kept dw4
  have hrg4 : ∀ wz, Below w4.heap.size w4 wz → wz.rangeAt w2.heap.size 0 (bv ta) := fun wz hz => (hr4.kept hz).rangeAll
  have HRG := hide hrg4
  have HCW4 := hide hcw4
  have HW34 := hide hbb4.2
  have d4 : Below w4.heap.size w4 w4.drew := Quiet.below ⟨1, rfl⟩ _
  clear hrg4 hcw4 hr4 hbb4
  simp only [Act.put, List.setIfInBounds_toArray, List.set_cons_zero, List.set_cons_succ]
  refine wp_region_noPanic ?_
  refine wp_region_held_drew (S := fun w' => Below w4.heap.size w4 w') (by kernel_rfl) (d4) (fun hHeld => ?_)
  refine held_takeD 0 (.pointer (some ⟨bw, 0, none⟩)) (some 32) (by rfl) (by rfl) (by kernel_rfl) (by kernel_rfl) (by kernel_rfl) (fun _ _ _ h => h) (.inl ⟨by rfl, fun _ _ => by rfl⟩) (hHeld) ?_
  simp only [Act.put, List.setIfInBounds_toArray, List.set_cons_zero, List.set_cons_succ]
  refine held_takeD 1 (.pointer (some ⟨bw, 0, none⟩)) (some 33) (by rfl) (by rfl) (by kernel_rfl) (by kernel_rfl) (by kernel_rfl) (fun _ _ _ h => h) (.inl ⟨by rfl, fun _ _ => by go_simp⟩) (hHeld) ?_
  simp only [Act.put, List.setIfInBounds_toArray, List.set_cons_zero, List.set_cons_succ]
  refine held_takeD 2 (.pointer (some ⟨bw, 0, none⟩)) (some 34) (by rfl) (by rfl) (by kernel_rfl) (by kernel_rfl) (by kernel_rfl) (fun _ _ _ h => h) (.inl ⟨by rfl, fun _ _ => by go_simp⟩) (hHeld) ?_
  simp only [Act.put, List.setIfInBounds_toArray, List.set_cons_zero, List.set_cons_succ]
  refine held_takeD 3 (.agg (bv ta).toArray) (some 35) (by rfl) (by rfl) (by kernel_rfl) (by kernel_rfl) (by kernel_rfl) (fun _ _ _ h => h) (yieldsIf_load_mid (by rfl) _ _ rfl _ _ rfl _ _ (fun wz hS => unhide HRG wz hS) hu rfl htz) (hHeld) ?_
  simp only [Act.put, List.setIfInBounds_toArray, List.set_cons_zero, List.set_cons_succ]
  refine held_one 4 (by kernel_rfl) (by rfl) (fun K' hK' => ?_)
  go_simp
  refine (((unhide HCW4).kept d4).access hg ta hta).mono ?_
  rintro e w5 ⟨A5, k5, c5, n5, rfl, m5, N5, l5, b5⟩
  refine hK'.out _ _ (d4.thn b5) ?_
  clear hK' K'
  have d5 : Below w4.heap.size w4 w5 := d4.thn b5
  refine held_takeD 5 (.slice A5 k5 c5) (some 8) (by rfl) (by rfl) (by kernel_rfl) (by kernel_rfl) (by kernel_rfl) (fun _ _ _ h => h) (.inl ⟨by rfl, fun _ _ => by rfl⟩) (d5) ?_
  simp only [Act.put, List.setIfInBounds_toArray, List.set_cons_zero, List.set_cons_succ]
  refine wpAnyH_done (by kernel_rfl) ?_ _
  refine NoPanic.normal ?_
  have M5 := hide m5
  have hd5 : Below w.heap.size w w5 := dw4.thn d5
  have NW5 : New w A5 := N5.later (dw4.thn d4).size
  have hl5 : 100 ≤ n5 ∧ n5 ≤ 2600 := by omega
  clear m5 l5
  go_wp2
  go_ret
  have h40 : (2600 : Nat) < 256 ^ 40 := Nat.lt_of_lt_of_le (by decide : 2600 < 256 ^ 2) (Nat.pow_le_pow_right (by omega) (by omega))
  exact ⟨A5, k5, c5, n5, rfl, unhide M5, NW5, by omega, by omega, fun h => h.elim, hd5⟩
set_option maxHeartbeats 16000000 in
theorem enterCost_250 (h : SR G bw gf cs fr d (f :: r) x w) (hg : Good B d) (hf : AnyF f) :
    Calls Sakg.prog 425 #[.pointer (some ⟨bw, 0, none⟩), .pointer (some ⟨gf, 60 * r.length, none⟩), .int .u8 250] w (EntR w (False)) := by
  have hBB := big_ge
  have hs := argN_lt hf.stk
  have hsl := hf.slen
  have hfx := h.fx
  obtain ⟨o, ho⟩ : ∃ o, o = 60 * r.length := ⟨_, rfl⟩
  rw [← ho] at hfx ⊢
  have hcw := h.cw
  have HCW := hide hcw
  have HF := hide hfx
  have HS := hide hs
  have hu := Sakg.underlying26
  have hZ20 : (bv (zeros 20)).length = 20 := by rw [bv_len, zeros_len]
  clear h hfx hs ho hcw
  go_enter Sakg.func425, Sakg.ntmps425
  have HC1 := hide ((unhide HF).arg (by omega) 1 (by omega))
  go_wp2_with fail
  refine (unhide HC1).mono ?_
  rintro e w1 ⟨⟨A1, k1, c1, rfl, s1⟩, q1⟩
  have b1 : Below w.heap.size w w1 := q1.below _
  have KK1 := hide s1
  clear HC1 s1 q1
  have ha1 : argN f.stk 1 < BIG := Nat.lt_trans (unhide HS 1) p256_lt
  have HC2 := hide (addrOf_any A1 k1 c1 _ w1 ((unhide KK1).kp (ChgS.of b1)).now ha1)
  go_wp2_with fail
  refine (unhide HC2).mono ?_
  rintro e w2 ⟨⟨ta, rfl, hta⟩, b2⟩
  clear HC2 
  have htz := hta.size
  have hbt : (bv ta).length = 20 := by rw [bv_len, hta.len]
  go_upto_region 7 with (first
    | ((with_reducible refine at_alloc 26 ?_); refine wpList_alloc_g (by rfl) 26 rfl (bv (zeros 20)) 20 infoAddr2 hZ20 ?_)
    | ((with_reducible refine at_store 26 ?_); refine wpList_store_whole rfl 26 (.tmp 7) (.tmp 31) rfl _ _ _ (bv ta) rfl rfl (RowT.new _ _ _) (by rw [hZ20, hbt]) htz (bv_one _) ?_; intro w4 hr4 hon4; have hbb4 := box_below hon4; clear hon4))
  have dw4 : Below w.heap.size w w4 := b1.thn (b2.thn hbb4.1)
  have hcw4 : CW G bw cs d w4 := (unhide HCW).kept dw4
  have hrg4 : ∀ wz, Below w4.heap.size w4 wz → wz.rangeAt w2.heap.size 0 (bv ta) := fun wz hz => (hr4.kept hz).rangeAll
  have HRG := hide hrg4
  have HCW4 := hide hcw4
  have HW34 := hide hbb4.2
  have d4 : Below w4.heap.size w4 w4.drew := Quiet.below ⟨1, rfl⟩ _
  clear hrg4 hcw4 hr4 hbb4
  simp only [Act.put, List.setIfInBounds_toArray, List.set_cons_zero, List.set_cons_succ]
  refine wp_region_noPanic ?_
  refine wp_region_held_drew (S := fun w' => Below w4.heap.size w4 w') (by kernel_rfl) (d4) (fun hHeld => ?_)
  refine held_takeD 0 (.pointer (some ⟨bw, 0, none⟩)) (some 32) (by rfl) (by rfl) (by kernel_rfl) (by kernel_rfl) (by kernel_rfl) (fun _ _ _ h => h) (.inl ⟨by rfl, fun _ _ => by rfl⟩) (hHeld) ?_
  simp only [Act.put, List.setIfInBounds_toArray, List.set_cons_zero, List.set_cons_succ]
  refine held_takeD 1 (.pointer (some ⟨bw, 0, none⟩)) (some 33) (by rfl) (by rfl) (by kernel_rfl) (by kernel_rfl) (by kernel_rfl) (fun _ _ _ h => h) (.inl ⟨by rfl, fun _ _ => by go_simp⟩) (hHeld) ?_
  simp only [Act.put, List.setIfInBounds_toArray, List.set_cons_zero, List.set_cons_succ]
  refine held_takeD 2 (.pointer (some ⟨bw, 0, none⟩)) (some 34) (by rfl) (by rfl) (by kernel_rfl) (by kernel_rfl) (by kernel_rfl) (fun _ _ _ h => h) (.inl ⟨by rfl, fun _ _ => by go_simp⟩) (hHeld) ?_
  simp only [Act.put, List.setIfInBounds_toArray, List.set_cons_zero, List.set_cons_succ]
  refine held_takeD 3 (.agg (bv ta).toArray) (some 35) (by rfl) (by rfl) (by kernel_rfl) (by kernel_rfl) (by kernel_rfl) (fun _ _ _ h => h) (yieldsIf_load_mid (by rfl) _ _ rfl _ _ rfl _ _ (fun wz hS => unhide HRG wz hS) hu rfl htz) (hHeld) ?_
  simp only [Act.put, List.setIfInBounds_toArray, List.set_cons_zero, List.set_cons_succ]
  refine held_one 4 (by kernel_rfl) (by rfl) (fun K' hK' => ?_)
  go_simp
  refine (((unhide HCW4).kept d4).access hg ta hta).mono ?_
  rintro e w5 ⟨A5, k5, c5, n5, rfl, m5, N5, l5, b5⟩
  refine hK'.out _ _ (d4.thn b5) ?_
  clear hK' K'
  have d5 : Below w4.heap.size w4 w5 := d4.thn b5
  refine held_takeD 5 (.slice A5 k5 c5) (some 8) (by rfl) (by rfl) (by kernel_rfl) (by kernel_rfl) (by kernel_rfl) (fun _ _ _ h => h) (.inl ⟨by rfl, fun _ _ => by rfl⟩) (d5) ?_
  simp only [Act.put, List.setIfInBounds_toArray, List.set_cons_zero, List.set_cons_succ]
  refine wpAnyH_done (by kernel_rfl) ?_ _
  refine NoPanic.normal ?_
  have M5 := hide m5
  have hd5 : Below w.heap.size w w5 := dw4.thn d5
  have NW5 : New w A5 := N5.later (dw4.thn d4).size
  have hl5 : 100 ≤ n5 ∧ n5 ≤ 2600 := by omega
  clear m5 l5
  go_wp2
  go_ret
  have h40 : (2600 : Nat) < 256 ^ 40 := Nat.lt_of_lt_of_le (by decide : 2600 < 256 ^ 2) (Nat.pow_le_pow_right (by omega) (by omega))
  exact ⟨A5, k5, c5, n5, rfl, unhide M5, NW5, by omega, by omega, fun h => h.elim, hd5⟩
theorem SR.enterCost (h : SR G bw gf cs fr d (f :: r) x w) (hg : Good B d) (hf : AnyF f) (o : Nat) (ho : o = 240 ∨ o = 241 ∨ o = 242 ∨ o = 244 ∨ o = 245 ∨ o = 250) :
    Calls Sakg.prog 425 #[.pointer (some ⟨bw, 0, none⟩), .pointer (some ⟨gf, 60 * r.length, none⟩), .int .u8 o] w (EntR w ((o = 241 ∨ o = 242) ∧ argN f.stk 2 ≠ 0)) := by
  have go : ∀ (v v' : Prop) e w', (v' → v) → EntR w v e w' → EntR w v' e w' := fun v v' e w' hv h => by
    obtain ⟨A, k, c, n, h1, h2, h3, h4, h5, h6, h7⟩ := h
    exact ⟨A, k, c, n, h1, h2, h3, h4, h5, fun hh => h6 (hv hh), h7⟩
  rcases ho with rfl | rfl | rfl | rfl | rfl | rfl
  · exact (enterCost_240 h hg hf).mono fun e w' hp => go _ _ e w' (fun hh => by omega) hp
  · exact (enterCost_241 h hg hf).mono fun e w' hp => go _ _ e w' (fun hh => hh.2) hp
  · exact (enterCost_242 h hg hf).mono fun e w' hp => go _ _ e w' (fun hh => hh.2) hp
  · exact (enterCost_244 h hg hf).mono fun e w' hp => go _ _ e w' (fun hh => by omega) hp
  · exact (enterCost_245 h hg hf).mono fun e w' hp => go _ _ e w' (fun hh => by omega) hp
  · exact (enterCost_250 h hg hf).mono fun e w' hp => go _ _ e w' (fun hh => by omega) hp
end

end Go.Proofs.YgcsakGreat
