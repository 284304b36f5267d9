/-
  law: pricedWorld at the creations.
-/
import Derived.Test.YgcsakGreatLpL
namespace Go.Proofs.YgcsakGreat
set_option linter.unusedVariables false
set_option linter.unusedSimpArgs false
set_option maxRecDepth 100000
open Go.RowKit

theorem newO_false1 {o : OAcct} (h : o.addr = lowAddr 1) : newO o = false := by unfold newO; rw [decide_eq_false (fun hh => hh.1 h)]
theorem newO_false2 {o : OAcct} (h : o.addr = lowAddr 240) : newO o = false := by unfold newO; rw [decide_eq_false (fun hh => hh.2 h)]
theorem OAcctRow.nonC {w : World} {r : List Value} {o : OAcct} (h : OAcctRow w r o) : r[20]? = some (.int .u64 o.nonce) := by
  obtain ⟨A3, k3, c3, A4, k4, c4, rfl, h2, h3, h4, -⟩ := h
  rw [List.getElem?_append_right (by rw [bv_len, h2.len]; omega), bv_len, h2.len]
  rfl
theorem filter_snoc {os : List OAcct} {o : OAcct} {i : Nat} (h : os.take (i + 1) = os.take i ++ [o]) : ((os.take (i + 1)).filter newO).length = ((os.take i).filter newO).length + (if newO o = true then 1 else 0) := by
  rw [h, List.filter_append, List.length_append]
  cases hn : newO o <;> simp [hn]
theorem filter_le {os : List OAcct} {i : Nat} (hc : (os.filter newO).length = 1) : ((os.take i).filter newO).length ≤ 1 := by
  have h1 : ((os.take i).filter newO).Sublist (os.filter newO) := List.Sublist.filter _ (List.take_sublist i os)
  have := h1.length_le
  omega
set_option maxHeartbeats 16000000 in
theorem world_k9 (n u : Nat) (A L W0 : Option Addr) (k l lw cw : Nat) (md : List Int) (os : List OAcct) (w : World) (hos : OAcctsR w W0 lw cw os) (hlw : lw ≤ 1000000) (hall : ∀ o ∈ os, newO o = true → o.nonce = 1 ∧ o.code = []) (hcnt : (os.filter newO).length = 1) :
    Calls Sakg.prog 15 #[.int .u8 9, .int .u16 n, .agg (rcptG 0 (.slice A k k) (.slice L l l) u md).toArray, .slice W0 lw cw] w fun e w' => e = .returned (.bool true) ∧ Below w.heap.size w w' := by
  generalize (rcptG 0 (.slice A k k) (.slice L l l) u md).toArray = R
  obtain ⟨W, hW⟩ : ∃ W, W = w.alloc (.cells R 48) := ⟨_, rfl⟩
  have hb0 : Below w.heap.size w W := by rw [hW]; exact (Below.refl _ _).alloc (Nat.le_refl _) _
  have hosW := hos.kept hb0
  have hlen := hosW.len
  obtain ⟨rows, g1, g2⟩ := hosW
  have HAT := hide (rows_at' zeroO g1 g2)
  have HLEN := hide hlen
  have HALL := hide hall
  have HCNT := hide hcnt
  have hz55 : (rowOA (zeros 20)).length = 55 := by kernel_rfl
  have ha1 : IsAddr (lowAddr 1) := lowAddr_is 1 (by omega) (by omega)
  have ha2 : IsAddr (lowAddr 240) := lowAddr_is 240 (by omega) (by omega)
  clear g1 g2 hlen hos hall hcnt
  go_enter Sakg.func15, Sakg.ntmps15
  go_upto_region 1 with fail
  rw [← hW]
  clear hW
  go_wp2_with fail
  go_loopg [9, 49] lw (fun gk mv iv wr => ∃ i m : Nat, i + gk = lw ∧ iv = .int .i64 (i : Nat) ∧ mv = .int .i64 (m : Nat) ∧ m = ((os.take i).filter newO).length ∧ Below W.heap.size W wr)
  case atStart => exact ⟨0, 0, by omega, rfl, rfl, rfl, Below.refl _ _⟩
  case round =>
    obtain ⟨i, m, hi, rfl, rfl, hm, hbe⟩ := hrel
    have hm1 : m ≤ 1 := by rw [hm]; exact filter_le (unhide HCNT)
    have HM := hide hm
    clear hm
    by_cases hil : i < lw
    · as_aux_lemma =>
      obtain ⟨b, off, rfl, hlt, hat⟩ := unhide HAT (by omega)
      obtain ⟨r, hrg, hrow⟩ := hat i hil
      have hts : os.take (i + 1) = os.take i ++ [os.getD i zeroO] := by
        rw [List.take_succ_eq_append_getElem (by have := unhide HLEN; omega)]
        simp [List.getD, show i < os.length by have := unhide HLEN; omega]
      have hmem : os.getD i zeroO ∈ os := by
        rw [List.getD_eq_getElem?_getD, List.getElem?_eq_getElem (by have := unhide HLEN; omega)]
        simp
      obtain ⟨d, hd⟩ : ∃ d, d = os.getD i zeroO := ⟨_, rfl⟩
      rw [← hd] at hrow hts hmem
      have hal := unhide HALL d hmem
      have hrl := hrow.len
      have hrg2 := range_below hrg hbe (fun _ => hlt)
      have heq1 := fun wx => addr_eq wx d.addr (lowAddr 1) hrow.is.1 ha1
      have heq2 := fun wx => addr_eq wx d.addr (lowAddr 240) hrow.is.1 ha2
      have hsz : (Sakg.prog.info? 43).map (·.size) = some r.length := by rw [hrl]; exact sizeOA
      have HRG := hide hrg2
      have HROW := hide hrow
      have HTS := hide hts
      have HSZ := hide hsz
      have HRL := hide hrl
      have HAL := hide hal
      have tl : decide ((i : Int) < (lw : Int)) = true := decide_eq_true (by omega)
      clear hat hrg hrg2 hrow hts hd hsz hrl hal hmem
      go_upto_region 14 with (first
        | ((with_reducible refine at_load 43 ?_); refine wpList_load_g (by rfl) 43 (.tmp 51) rfl b _ rfl r _ (unhide HRG) Sakg.underlying43 rfl (unhide HSZ) ?_)
        | ((with_reducible refine at_alloc 43 ?_); refine wpList_alloc_g (by rfl) 43 rfl (rowOA (zeros 20)) 55 infoOA hz55 ?_)
        | ((with_reducible refine at_store 43 ?_); refine wpList_store_whole rfl 43 (.tmp 11) (.tmp 52) rfl _ _ _ r rfl rfl (RowT.new _ _ _) (by rw [unhide HRL, hz55]) (unhide HSZ) (unhide HROW).one ?_; intro w2 hr2 hon2; have hbb := box_below hon2; clear hon2; have HR2 := hide hr2; clear hr2))
      have dr : Below w2.heap.size w2 w2.drew := Quiet.below ⟨1, rfl⟩ _
      have hR : ∀ wz, Below w2.heap.size w2 wz → wz.rangeAt wr.heap.size 0 (bv d.addr) := fun wz hz => by have := ((unhide HR2).kept hz).range 0 20; rwa [(unhide HROW).pre] at this
      have hsA := (unhide HROW).is.1.size
      have b2 := hbb.1
      have dW2 : Below W.heap.size W w2 := hbe.trans (b2.mono hbe.size)
      have hc1 := filter_snoc (unhide HTS)
      rw [← unhide HM] at hc1
      by_cases h1 : d.addr = lowAddr 1
      · as_aux_lemma =>
        have e1 : decide (d.addr = lowAddr 1) = true := decide_eq_true h1
        rw [e1] at heq1
        rw [newO_false1 h1, if_neg (by decide), Nat.add_zero] at hc1
        have HC1 := hide hc1
        clear h1 e1 hc1 heq2
        refine wp_region_noPanic ?_
        refine wp_region_held_drew (S := fun w' => Below w2.heap.size w2 w') (by kernel_rfl) (dr) (fun hHeld => ?_)
        refine held_takeD 0 (.pointer (some ⟨wr.heap.size, 0, none⟩)) (some 53) (by rfl) (by rfl) (by kernel_rfl) (by kernel_rfl) (by kernel_rfl) (fun _ _ _ h => h) (.inl ⟨by rfl, fun _ _ => by go_simp⟩) (hHeld) ?_
        simp only [Act.put, List.setIfInBounds_toArray, List.set_cons_zero, List.set_cons_succ]
        refine held_takeD 1 (.agg (bv d.addr).toArray) (some 54) (by rfl) (by rfl) (by kernel_rfl) (by kernel_rfl) (by kernel_rfl) (fun _ _ _ h => h) (yieldsIf_load_mid (by rfl) _ _ rfl _ _ rfl _ _ (fun wz hS => hR wz hS) Sakg.underlying26 rfl hsA) (hHeld) ?_
        simp only [Act.put, List.setIfInBounds_toArray, List.set_cons_zero, List.set_cons_succ]
        refine held_one 2 (by kernel_rfl) (by rfl) (fun K' hK' => ?_)
        go_simp
        refine (addrNo_any 1 (by omega) w2.drew).mono ?_
        rintro e w3 ⟨rfl, b3⟩
        refine hK'.out _ _ (dr.trans (b3.mono dr.size)) ?_
        clear hK' K'
        have d3 := dr.trans (b3.mono dr.size)
        refine held_takeD 3 (.bool false) (some 56) (by rfl) (by rfl) (by kernel_rfl) (by kernel_rfl) (by kernel_rfl) (fun _ _ _ h => h) (.inl ⟨by rfl, fun _ _ => by go_simp⟩) (d3) ?_
        simp only [Act.put, List.setIfInBounds_toArray, List.set_cons_zero, List.set_cons_succ]
        refine held_takeD 4 (.bool false) (some 57) (by rfl) (by rfl) (by kernel_rfl) (by kernel_rfl) (by kernel_rfl) (fun _ _ _ h => h) (.inl ⟨by rfl, fun _ _ => by rfl⟩) (d3) ?_
        simp only [Act.put, List.setIfInBounds_toArray, List.set_cons_zero, List.set_cons_succ]
        refine held_takeD 5 undef (some 58) (by rfl) (by rfl) (by kernel_rfl) (by kernel_rfl) (by kernel_rfl) (fun _ _ _ h => h) (.inr ⟨by rfl, rfl⟩) (d3) ?_
        simp only [Act.put, List.setIfInBounds_toArray, List.set_cons_zero, List.set_cons_succ]
        refine held_takeD 6 undef (some 59) (by rfl) (by rfl) (by kernel_rfl) (by kernel_rfl) (by kernel_rfl) (fun _ _ _ h => h) (.inr ⟨by rfl, rfl⟩) (d3) ?_
        simp only [Act.put, List.setIfInBounds_toArray, List.set_cons_zero, List.set_cons_succ]
        refine held_takeD 7 undef (some 60) (by rfl) (by rfl) (by kernel_rfl) (by kernel_rfl) (by kernel_rfl) (fun _ _ _ h => h) (.inr ⟨by rfl, rfl⟩) (d3) ?_
        simp only [Act.put, List.setIfInBounds_toArray, List.set_cons_zero, List.set_cons_succ]
        refine held_takeD 8 undef (some 61) (by rfl) (by rfl) (by kernel_rfl) (by kernel_rfl) (by kernel_rfl) (fun _ _ _ h => h) (.inr ⟨by rfl, rfl⟩) (d3) ?_
        simp only [Act.put, List.setIfInBounds_toArray, List.set_cons_zero, List.set_cons_succ]
        refine held_takeD 9 (.bool false) (some 62) (by rfl) (by rfl) (by kernel_rfl) (by kernel_rfl) (by kernel_rfl) (fun _ _ _ h => h) (.inl ⟨by rfl, fun _ _ => by go_simp⟩) (d3) ?_
        simp only [Act.put, List.setIfInBounds_toArray, List.set_cons_zero, List.set_cons_succ]
        refine wpAnyH_done (by kernel_rfl) ?_ _
        refine NoPanic.normal ?_
        go_wp2
        go_roundg (gk - 1)
        case measure => omega
        case rel => exact ⟨i + 1, m, by omega, rfl, rfl, (unhide HC1).symm, dW2.trans (d3.mono dW2.size)⟩
      · have e1 : decide (d.addr = lowAddr 1) = false := decide_eq_false h1
        rw [e1] at heq1
        by_cases h2 : d.addr = lowAddr 240
        · as_aux_lemma =>
          have e2 : decide (d.addr = lowAddr 240) = true := decide_eq_true h2
          rw [e2] at heq2
          rw [newO_false2 h2, if_neg (by decide), Nat.add_zero] at hc1
          have HC1 := hide hc1
          clear h1 e1 h2 e2 hc1
          refine wp_region_noPanic ?_
          refine wp_region_held_drew (S := fun w' => Below w2.heap.size w2 w') (by kernel_rfl) (dr) (fun hHeld => ?_)
          refine held_takeD 0 (.pointer (some ⟨wr.heap.size, 0, none⟩)) (some 53) (by rfl) (by rfl) (by kernel_rfl) (by kernel_rfl) (by kernel_rfl) (fun _ _ _ h => h) (.inl ⟨by rfl, fun _ _ => by go_simp⟩) (hHeld) ?_
          simp only [Act.put, List.setIfInBounds_toArray, List.set_cons_zero, List.set_cons_succ]
          refine held_takeD 1 (.agg (bv d.addr).toArray) (some 54) (by rfl) (by rfl) (by kernel_rfl) (by kernel_rfl) (by kernel_rfl) (fun _ _ _ h => h) (yieldsIf_load_mid (by rfl) _ _ rfl _ _ rfl _ _ (fun wz hS => hR wz hS) Sakg.underlying26 rfl hsA) (hHeld) ?_
          simp only [Act.put, List.setIfInBounds_toArray, List.set_cons_zero, List.set_cons_succ]
          refine held_one 2 (by kernel_rfl) (by rfl) (fun K' hK' => ?_)
          go_simp
          refine (addrNo_any 1 (by omega) w2.drew).mono ?_
          rintro e w3 ⟨rfl, b3⟩
          refine hK'.out _ _ (dr.trans (b3.mono dr.size)) ?_
          clear hK' K'
          have d3 := dr.trans (b3.mono dr.size)
          refine held_takeD 3 (.bool true) (some 56) (by rfl) (by rfl) (by kernel_rfl) (by kernel_rfl) (by kernel_rfl) (fun _ _ _ h => h) (.inl ⟨by rfl, fun _ _ => by go_simp⟩) (d3) ?_
          simp only [Act.put, List.setIfInBounds_toArray, List.set_cons_zero, List.set_cons_succ]
          refine held_takeD 4 (.bool true) (some 57) (by rfl) (by rfl) (by kernel_rfl) (by kernel_rfl) (by kernel_rfl) (fun _ _ _ h => h) (.inl ⟨by rfl, fun _ _ => by rfl⟩) (d3) ?_
          simp only [Act.put, List.setIfInBounds_toArray, List.set_cons_zero, List.set_cons_succ]
          refine held_takeD 5 (.pointer (some ⟨wr.heap.size, 0, none⟩)) (some 58) (by rfl) (by rfl) (by kernel_rfl) (by kernel_rfl) (by kernel_rfl) (fun _ _ _ h => h) (.inl ⟨by rfl, fun _ _ => by go_simp⟩) (d3) ?_
          simp only [Act.put, List.setIfInBounds_toArray, List.set_cons_zero, List.set_cons_succ]
          refine held_takeD 6 (.agg (bv d.addr).toArray) (some 59) (by rfl) (by rfl) (by kernel_rfl) (by kernel_rfl) (by kernel_rfl) (fun _ _ _ h => h) (yieldsIf_load_mid (by rfl) _ _ rfl _ _ rfl _ _ (fun wz hS => hR wz hS) Sakg.underlying26 rfl hsA) (d3) ?_
          simp only [Act.put, List.setIfInBounds_toArray, List.set_cons_zero, List.set_cons_succ]
          refine held_one 7 (by kernel_rfl) (by rfl) (fun K' hK' => ?_)
          go_simp
          refine (sender_any w3).mono ?_
          rintro e w4 ⟨rfl, b4⟩
          refine hK'.out _ _ (d3.trans (b4.mono d3.size)) ?_
          clear hK' K'
          have d4 := d3.trans (b4.mono d3.size)
          refine held_takeD 8 (.bool false) (some 61) (by rfl) (by rfl) (by kernel_rfl) (by kernel_rfl) (by kernel_rfl) (fun _ _ _ h => h) (.inl ⟨by rfl, fun _ _ => by go_simp⟩) (d4) ?_
          simp only [Act.put, List.setIfInBounds_toArray, List.set_cons_zero, List.set_cons_succ]
          refine held_takeD 9 (.bool false) (some 62) (by rfl) (by rfl) (by kernel_rfl) (by kernel_rfl) (by kernel_rfl) (fun _ _ _ h => h) (.inl ⟨by rfl, fun _ _ => by go_simp⟩) (d4) ?_
          simp only [Act.put, List.setIfInBounds_toArray, List.set_cons_zero, List.set_cons_succ]
          refine wpAnyH_done (by kernel_rfl) ?_ _
          refine NoPanic.normal ?_
          go_wp2
          go_roundg (gk - 1)
          case measure => omega
          case rel => exact ⟨i + 1, m, by omega, rfl, rfl, (unhide HC1).symm, dW2.trans (d4.mono dW2.size)⟩
        · as_aux_lemma =>
          have e2 : decide (d.addr = lowAddr 240) = false := decide_eq_false h2
          rw [e2] at heq2
          have hn : newO d = true := newO_iff.mpr ⟨h1, h2⟩
          obtain ⟨hnon, hcode⟩ := unhide HAL hn
          rw [hn, if_pos rfl] at hc1
          have HC1 := hide hc1
          have q20 := (unhide HROW).nonC
          rw [hnon] at q20
          obtain ⟨Ac, kc, cc, q53, hcs⟩ := (unhide HROW).codeC
          have hk0 := hcs.len_eq
          rw [hcode] at hk0
          have hk0' : kc = 0 := hk0.symm
          subst hk0'
          have Q20 := hide q20
          have Q53 := hide q53
          clear h1 e1 h2 e2 hc1 hn hnon hcode hcs hk0 q20 q53
          refine wp_region_noPanic ?_
          refine wp_region_held_drew (S := fun w' => Below w2.heap.size w2 w') (by kernel_rfl) (dr) (fun hHeld => ?_)
          refine held_takeD 0 (.pointer (some ⟨wr.heap.size, 0, none⟩)) (some 53) (by rfl) (by rfl) (by kernel_rfl) (by kernel_rfl) (by kernel_rfl) (fun _ _ _ h => h) (.inl ⟨by rfl, fun _ _ => by go_simp⟩) (hHeld) ?_
          simp only [Act.put, List.setIfInBounds_toArray, List.set_cons_zero, List.set_cons_succ]
          refine held_takeD 1 (.agg (bv d.addr).toArray) (some 54) (by rfl) (by rfl) (by kernel_rfl) (by kernel_rfl) (by kernel_rfl) (fun _ _ _ h => h) (yieldsIf_load_mid (by rfl) _ _ rfl _ _ rfl _ _ (fun wz hS => hR wz hS) Sakg.underlying26 rfl hsA) (hHeld) ?_
          simp only [Act.put, List.setIfInBounds_toArray, List.set_cons_zero, List.set_cons_succ]
          refine held_one 2 (by kernel_rfl) (by rfl) (fun K' hK' => ?_)
          go_simp
          refine (addrNo_any 1 (by omega) w2.drew).mono ?_
          rintro e w3 ⟨rfl, b3⟩
          refine hK'.out _ _ (dr.trans (b3.mono dr.size)) ?_
          clear hK' K'
          have d3 := dr.trans (b3.mono dr.size)
          refine held_takeD 3 (.bool true) (some 56) (by rfl) (by rfl) (by kernel_rfl) (by kernel_rfl) (by kernel_rfl) (fun _ _ _ h => h) (.inl ⟨by rfl, fun _ _ => by go_simp⟩) (d3) ?_
          simp only [Act.put, List.setIfInBounds_toArray, List.set_cons_zero, List.set_cons_succ]
          refine held_takeD 4 (.bool true) (some 57) (by rfl) (by rfl) (by kernel_rfl) (by kernel_rfl) (by kernel_rfl) (fun _ _ _ h => h) (.inl ⟨by rfl, fun _ _ => by rfl⟩) (d3) ?_
          simp only [Act.put, List.setIfInBounds_toArray, List.set_cons_zero, List.set_cons_succ]
          refine held_takeD 5 (.pointer (some ⟨wr.heap.size, 0, none⟩)) (some 58) (by rfl) (by rfl) (by kernel_rfl) (by kernel_rfl) (by kernel_rfl) (fun _ _ _ h => h) (.inl ⟨by rfl, fun _ _ => by go_simp⟩) (d3) ?_
          simp only [Act.put, List.setIfInBounds_toArray, List.set_cons_zero, List.set_cons_succ]
          refine held_takeD 6 (.agg (bv d.addr).toArray) (some 59) (by rfl) (by rfl) (by kernel_rfl) (by kernel_rfl) (by kernel_rfl) (fun _ _ _ h => h) (yieldsIf_load_mid (by rfl) _ _ rfl _ _ rfl _ _ (fun wz hS => hR wz hS) Sakg.underlying26 rfl hsA) (d3) ?_
          simp only [Act.put, List.setIfInBounds_toArray, List.set_cons_zero, List.set_cons_succ]
          refine held_one 7 (by kernel_rfl) (by rfl) (fun K' hK' => ?_)
          go_simp
          refine (sender_any w3).mono ?_
          rintro e w4 ⟨rfl, b4⟩
          refine hK'.out _ _ (d3.trans (b4.mono d3.size)) ?_
          clear hK' K'
          have d4 := d3.trans (b4.mono d3.size)
          refine held_takeD 8 (.bool true) (some 61) (by rfl) (by rfl) (by kernel_rfl) (by kernel_rfl) (by kernel_rfl) (fun _ _ _ h => h) (.inl ⟨by rfl, fun _ _ => by go_simp⟩) (d4) ?_
          simp only [Act.put, List.setIfInBounds_toArray, List.set_cons_zero, List.set_cons_succ]
          refine held_takeD 9 (.bool true) (some 62) (by rfl) (by rfl) (by kernel_rfl) (by kernel_rfl) (by kernel_rfl) (fun _ _ _ h => h) (.inl ⟨by rfl, fun _ _ => by go_simp⟩) (d4) ?_
          simp only [Act.put, List.setIfInBounds_toArray, List.set_cons_zero, List.set_cons_succ]
          refine wpAnyH_done (by kernel_rfl) ?_ _
          refine NoPanic.normal ?_
          have x20 : w4.cell? ⟨wr.heap.size, 20, none⟩ = some (.int .u64 (1 : Nat)) := by rw [((unhide HR2).kept d4).cell]; exact unhide Q20
          have x53 : w4.cell? ⟨wr.heap.size, 53, none⟩ = some (.slice Ac 0 cc) := by rw [((unhide HR2).kept d4).cell]; exact unhide Q53
          go_wp2
          go_roundg (gk - 1)
          case measure => omega
          case rel => exact ⟨i + 1, m + 1, by omega, rfl, rfl, (unhide HC1).symm, dW2.trans (d4.mono dW2.size)⟩
    · as_aux_lemma =>
      obtain rfl : i = lw := by omega
      have tl : decide ((i : Int) < (i : Int)) = false := decide_eq_false (by omega)
      have hmm : m = 1 := by
        rw [unhide HM, List.take_of_length_le (by have := unhide HLEN; omega)]
        exact unhide HCNT
      subst hmm
      go_wp2
      go_ret
      exact ⟨rfl, hb0.trans (hbe.mono hb0.size)⟩
set_option maxHeartbeats 16000000 in
theorem world_k10 (n u : Nat) (A L W0 : Option Addr) (k l lw cw : Nat) (md : List Int) (os : List OAcct) (w : World) (hos : OAcctsR w W0 lw cw os) (hlw : lw ≤ 1000000) (hall : ∀ o ∈ os, newO o = true → o.nonce = 1 ∧ o.code = []) (hcnt : (os.filter newO).length = 1) :
    Calls Sakg.prog 15 #[.int .u8 10, .int .u16 n, .agg (rcptG 0 (.slice A k k) (.slice L l l) u md).toArray, .slice W0 lw cw] w fun e w' => e = .returned (.bool true) ∧ Below w.heap.size w w' := by
  generalize (rcptG 0 (.slice A k k) (.slice L l l) u md).toArray = R
  obtain ⟨W, hW⟩ : ∃ W, W = w.alloc (.cells R 48) := ⟨_, rfl⟩
  have hb0 : Below w.heap.size w W := by rw [hW]; exact (Below.refl _ _).alloc (Nat.le_refl _) _
  have hosW := hos.kept hb0
  have hlen := hosW.len
  obtain ⟨rows, g1, g2⟩ := hosW
  have HAT := hide (rows_at' zeroO g1 g2)
  have HLEN := hide hlen
  have HALL := hide hall
  have HCNT := hide hcnt
  have hz55 : (rowOA (zeros 20)).length = 55 := by kernel_rfl
  have ha1 : IsAddr (lowAddr 1) := lowAddr_is 1 (by omega) (by omega)
  have ha2 : IsAddr (lowAddr 240) := lowAddr_is 240 (by omega) (by omega)
  clear g1 g2 hlen hos hall hcnt
  go_enter Sakg.func15, Sakg.ntmps15
  go_upto_region 1 with fail
  rw [← hW]
  clear hW
  go_wp2_with fail
  go_loopg [9, 49] lw (fun gk mv iv wr => ∃ i m : Nat, i + gk = lw ∧ iv = .int .i64 (i : Nat) ∧ mv = .int .i64 (m : Nat) ∧ m = ((os.take i).filter newO).length ∧ Below W.heap.size W wr)
  case atStart => exact ⟨0, 0, by omega, rfl, rfl, rfl, Below.refl _ _⟩
  case round =>
    obtain ⟨i, m, hi, rfl, rfl, hm, hbe⟩ := hrel
    have hm1 : m ≤ 1 := by rw [hm]; exact filter_le (unhide HCNT)
    have HM := hide hm
    clear hm
    by_cases hil : i < lw
    · as_aux_lemma =>
      obtain ⟨b, off, rfl, hlt, hat⟩ := unhide HAT (by omega)
      obtain ⟨r, hrg, hrow⟩ := hat i hil
      have hts : os.take (i + 1) = os.take i ++ [os.getD i zeroO] := by
        rw [List.take_succ_eq_append_getElem (by have := unhide HLEN; omega)]
        simp [List.getD, show i < os.length by have := unhide HLEN; omega]
      have hmem : os.getD i zeroO ∈ os := by
        rw [List.getD_eq_getElem?_getD, List.getElem?_eq_getElem (by have := unhide HLEN; omega)]
        simp
      obtain ⟨d, hd⟩ : ∃ d, d = os.getD i zeroO := ⟨_, rfl⟩
      rw [← hd] at hrow hts hmem
      have hal := unhide HALL d hmem
      have hrl := hrow.len
      have hrg2 := range_below hrg hbe (fun _ => hlt)
      have heq1 := fun wx => addr_eq wx d.addr (lowAddr 1) hrow.is.1 ha1
      have heq2 := fun wx => addr_eq wx d.addr (lowAddr 240) hrow.is.1 ha2
      have hsz : (Sakg.prog.info? 43).map (·.size) = some r.length := by rw [hrl]; exact sizeOA
      have HRG := hide hrg2
      have HROW := hide hrow
      have HTS := hide hts
      have HSZ := hide hsz
      have HRL := hide hrl
      have HAL := hide hal
      have tl : decide ((i : Int) < (lw : Int)) = true := decide_eq_true (by omega)
      clear hat hrg hrg2 hrow hts hd hsz hrl hal hmem
      go_upto_region 14 with (first
        | ((with_reducible refine at_load 43 ?_); refine wpList_load_g (by rfl) 43 (.tmp 51) rfl b _ rfl r _ (unhide HRG) Sakg.underlying43 rfl (unhide HSZ) ?_)
        | ((with_reducible refine at_alloc 43 ?_); refine wpList_alloc_g (by rfl) 43 rfl (rowOA (zeros 20)) 55 infoOA hz55 ?_)
        | ((with_reducible refine at_store 43 ?_); refine wpList_store_whole rfl 43 (.tmp 11) (.tmp 52) rfl _ _ _ r rfl rfl (RowT.new _ _ _) (by rw [unhide HRL, hz55]) (unhide HSZ) (unhide HROW).one ?_; intro w2 hr2 hon2; have hbb := box_below hon2; clear hon2; have HR2 := hide hr2; clear hr2))
      have dr : Below w2.heap.size w2 w2.drew := Quiet.below ⟨1, rfl⟩ _
      have hR : ∀ wz, Below w2.heap.size w2 wz → wz.rangeAt wr.heap.size 0 (bv d.addr) := fun wz hz => by have := ((unhide HR2).kept hz).range 0 20; rwa [(unhide HROW).pre] at this
      have hsA := (unhide HROW).is.1.size
      have b2 := hbb.1
      have dW2 : Below W.heap.size W w2 := hbe.trans (b2.mono hbe.size)
      have hc1 := filter_snoc (unhide HTS)
      rw [← unhide HM] at hc1
      by_cases h1 : d.addr = lowAddr 1
      · as_aux_lemma =>
        have e1 : decide (d.addr = lowAddr 1) = true := decide_eq_true h1
        rw [e1] at heq1
        rw [newO_false1 h1, if_neg (by decide), Nat.add_zero] at hc1
        have HC1 := hide hc1
        clear h1 e1 hc1 heq2
        refine wp_region_noPanic ?_
        refine wp_region_held_drew (S := fun w' => Below w2.heap.size w2 w') (by kernel_rfl) (dr) (fun hHeld => ?_)
        refine held_takeD 0 (.pointer (some ⟨wr.heap.size, 0, none⟩)) (some 53) (by rfl) (by rfl) (by kernel_rfl) (by kernel_rfl) (by kernel_rfl) (fun _ _ _ h => h) (.inl ⟨by rfl, fun _ _ => by go_simp⟩) (hHeld) ?_
        simp only [Act.put, List.setIfInBounds_toArray, List.set_cons_zero, List.set_cons_succ]
        refine held_takeD 1 (.agg (bv d.addr).toArray) (some 54) (by rfl) (by rfl) (by kernel_rfl) (by kernel_rfl) (by kernel_rfl) (fun _ _ _ h => h) (yieldsIf_load_mid (by rfl) _ _ rfl _ _ rfl _ _ (fun wz hS => hR wz hS) Sakg.underlying26 rfl hsA) (hHeld) ?_
        simp only [Act.put, List.setIfInBounds_toArray, List.set_cons_zero, List.set_cons_succ]
        refine held_one 2 (by kernel_rfl) (by rfl) (fun K' hK' => ?_)
        go_simp
        refine (addrNo_any 1 (by omega) w2.drew).mono ?_
        rintro e w3 ⟨rfl, b3⟩
        refine hK'.out _ _ (dr.trans (b3.mono dr.size)) ?_
        clear hK' K'
        have d3 := dr.trans (b3.mono dr.size)
        refine held_takeD 3 (.bool false) (some 56) (by rfl) (by rfl) (by kernel_rfl) (by kernel_rfl) (by kernel_rfl) (fun _ _ _ h => h) (.inl ⟨by rfl, fun _ _ => by go_simp⟩) (d3) ?_
        simp only [Act.put, List.setIfInBounds_toArray, List.set_cons_zero, List.set_cons_succ]
        refine held_takeD 4 (.bool false) (some 57) (by rfl) (by rfl) (by kernel_rfl) (by kernel_rfl) (by kernel_rfl) (fun _ _ _ h => h) (.inl ⟨by rfl, fun _ _ => by rfl⟩) (d3) ?_
        simp only [Act.put, List.setIfInBounds_toArray, List.set_cons_zero, List.set_cons_succ]
        refine held_takeD 5 undef (some 58) (by rfl) (by rfl) (by kernel_rfl) (by kernel_rfl) (by kernel_rfl) (fun _ _ _ h => h) (.inr ⟨by rfl, rfl⟩) (d3) ?_
        simp only [Act.put, List.setIfInBounds_toArray, List.set_cons_zero, List.set_cons_succ]
        refine held_takeD 6 undef (some 59) (by rfl) (by rfl) (by kernel_rfl) (by kernel_rfl) (by kernel_rfl) (fun _ _ _ h => h) (.inr ⟨by rfl, rfl⟩) (d3) ?_
        simp only [Act.put, List.setIfInBounds_toArray, List.set_cons_zero, List.set_cons_succ]
        refine held_takeD 7 undef (some 60) (by rfl) (by rfl) (by kernel_rfl) (by kernel_rfl) (by kernel_rfl) (fun _ _ _ h => h) (.inr ⟨by rfl, rfl⟩) (d3) ?_
        simp only [Act.put, List.setIfInBounds_toArray, List.set_cons_zero, List.set_cons_succ]
        refine held_takeD 8 undef (some 61) (by rfl) (by rfl) (by kernel_rfl) (by kernel_rfl) (by kernel_rfl) (fun _ _ _ h => h) (.inr ⟨by rfl, rfl⟩) (d3) ?_
        simp only [Act.put, List.setIfInBounds_toArray, List.set_cons_zero, List.set_cons_succ]
        refine held_takeD 9 (.bool false) (some 62) (by rfl) (by rfl) (by kernel_rfl) (by kernel_rfl) (by kernel_rfl) (fun _ _ _ h => h) (.inl ⟨by rfl, fun _ _ => by go_simp⟩) (d3) ?_
        simp only [Act.put, List.setIfInBounds_toArray, List.set_cons_zero, List.set_cons_succ]
        refine wpAnyH_done (by kernel_rfl) ?_ _
        refine NoPanic.normal ?_
        go_wp2
        go_roundg (gk - 1)
        case measure => omega
        case rel => exact ⟨i + 1, m, by omega, rfl, rfl, (unhide HC1).symm, dW2.trans (d3.mono dW2.size)⟩
      · have e1 : decide (d.addr = lowAddr 1) = false := decide_eq_false h1
        rw [e1] at heq1
        by_cases h2 : d.addr = lowAddr 240
        · as_aux_lemma =>
          have e2 : decide (d.addr = lowAddr 240) = true := decide_eq_true h2
          rw [e2] at heq2
          rw [newO_false2 h2, if_neg (by decide), Nat.add_zero] at hc1
          have HC1 := hide hc1
          clear h1 e1 h2 e2 hc1
          refine wp_region_noPanic ?_
          refine wp_region_held_drew (S := fun w' => Below w2.heap.size w2 w') (by kernel_rfl) (dr) (fun hHeld => ?_)
          refine held_takeD 0 (.pointer (some ⟨wr.heap.size, 0, none⟩)) (some 53) (by rfl) (by rfl) (by kernel_rfl) (by kernel_rfl) (by kernel_rfl) (fun _ _ _ h => h) (.inl ⟨by rfl, fun _ _ => by go_simp⟩) (hHeld) ?_
          simp only [Act.put, List.setIfInBounds_toArray, List.set_cons_zero, List.set_cons_succ]
          refine held_takeD 1 (.agg (bv d.addr).toArray) (some 54) (by rfl) (by rfl) (by kernel_rfl) (by kernel_rfl) (by kernel_rfl) (fun _ _ _ h => h) (yieldsIf_load_mid (by rfl) _ _ rfl _ _ rfl _ _ (fun wz hS => hR wz hS) Sakg.underlying26 rfl hsA) (hHeld) ?_
          simp only [Act.put, List.setIfInBounds_toArray, List.set_cons_zero, List.set_cons_succ]
          refine held_one 2 (by kernel_rfl) (by rfl) (fun K' hK' => ?_)
          go_simp
          refine (addrNo_any 1 (by omega) w2.drew).mono ?_
          rintro e w3 ⟨rfl, b3⟩
          refine hK'.out _ _ (dr.trans (b3.mono dr.size)) ?_
          clear hK' K'
          have d3 := dr.trans (b3.mono dr.size)
          refine held_takeD 3 (.bool true) (some 56) (by rfl) (by rfl) (by kernel_rfl) (by kernel_rfl) (by kernel_rfl) (fun _ _ _ h => h) (.inl ⟨by rfl, fun _ _ => by go_simp⟩) (d3) ?_
          simp only [Act.put, List.setIfInBounds_toArray, List.set_cons_zero, List.set_cons_succ]
          refine held_takeD 4 (.bool true) (some 57) (by rfl) (by rfl) (by kernel_rfl) (by kernel_rfl) (by kernel_rfl) (fun _ _ _ h => h) (.inl ⟨by rfl, fun _ _ => by rfl⟩) (d3) ?_
          simp only [Act.put, List.setIfInBounds_toArray, List.set_cons_zero, List.set_cons_succ]
          refine held_takeD 5 (.pointer (some ⟨wr.heap.size, 0, none⟩)) (some 58) (by rfl) (by rfl) (by kernel_rfl) (by kernel_rfl) (by kernel_rfl) (fun _ _ _ h => h) (.inl ⟨by rfl, fun _ _ => by go_simp⟩) (d3) ?_
          simp only [Act.put, List.setIfInBounds_toArray, List.set_cons_zero, List.set_cons_succ]
          refine held_takeD 6 (.agg (bv d.addr).toArray) (some 59) (by rfl) (by rfl) (by kernel_rfl) (by kernel_rfl) (by kernel_rfl) (fun _ _ _ h => h) (yieldsIf_load_mid (by rfl) _ _ rfl _ _ rfl _ _ (fun wz hS => hR wz hS) Sakg.underlying26 rfl hsA) (d3) ?_
          simp only [Act.put, List.setIfInBounds_toArray, List.set_cons_zero, List.set_cons_succ]
          refine held_one 7 (by kernel_rfl) (by rfl) (fun K' hK' => ?_)
          go_simp
          refine (sender_any w3).mono ?_
          rintro e w4 ⟨rfl, b4⟩
          refine hK'.out _ _ (d3.trans (b4.mono d3.size)) ?_
          clear hK' K'
          have d4 := d3.trans (b4.mono d3.size)
          refine held_takeD 8 (.bool false) (some 61) (by rfl) (by rfl) (by kernel_rfl) (by kernel_rfl) (by kernel_rfl) (fun _ _ _ h => h) (.inl ⟨by rfl, fun _ _ => by go_simp⟩) (d4) ?_
          simp only [Act.put, List.setIfInBounds_toArray, List.set_cons_zero, List.set_cons_succ]
          refine held_takeD 9 (.bool false) (some 62) (by rfl) (by rfl) (by kernel_rfl) (by kernel_rfl) (by kernel_rfl) (fun _ _ _ h => h) (.inl ⟨by rfl, fun _ _ => by go_simp⟩) (d4) ?_
          simp only [Act.put, List.setIfInBounds_toArray, List.set_cons_zero, List.set_cons_succ]
          refine wpAnyH_done (by kernel_rfl) ?_ _
          refine NoPanic.normal ?_
          go_wp2
          go_roundg (gk - 1)
          case measure => omega
          case rel => exact ⟨i + 1, m, by omega, rfl, rfl, (unhide HC1).symm, dW2.trans (d4.mono dW2.size)⟩
        · as_aux_lemma =>
          have e2 : decide (d.addr = lowAddr 240) = false := decide_eq_false h2
          rw [e2] at heq2
          have hn : newO d = true := newO_iff.mpr ⟨h1, h2⟩
          obtain ⟨hnon, hcode⟩ := unhide HAL hn
          rw [hn, if_pos rfl] at hc1
          have HC1 := hide hc1
          have q20 := (unhide HROW).nonC
          rw [hnon] at q20
          obtain ⟨Ac, kc, cc, q53, hcs⟩ := (unhide HROW).codeC
          have hk0 := hcs.len_eq
          rw [hcode] at hk0
          have hk0' : kc = 0 := hk0.symm
          subst hk0'
          have Q20 := hide q20
          have Q53 := hide q53
          clear h1 e1 h2 e2 hc1 hn hnon hcode hcs hk0 q20 q53
          refine wp_region_noPanic ?_
          refine wp_region_held_drew (S := fun w' => Below w2.heap.size w2 w') (by kernel_rfl) (dr) (fun hHeld => ?_)
          refine held_takeD 0 (.pointer (some ⟨wr.heap.size, 0, none⟩)) (some 53) (by rfl) (by rfl) (by kernel_rfl) (by kernel_rfl) (by kernel_rfl) (fun _ _ _ h => h) (.inl ⟨by rfl, fun _ _ => by go_simp⟩) (hHeld) ?_
          simp only [Act.put, List.setIfInBounds_toArray, List.set_cons_zero, List.set_cons_succ]
          refine held_takeD 1 (.agg (bv d.addr).toArray) (some 54) (by rfl) (by rfl) (by kernel_rfl) (by kernel_rfl) (by kernel_rfl) (fun _ _ _ h => h) (yieldsIf_load_mid (by rfl) _ _ rfl _ _ rfl _ _ (fun wz hS => hR wz hS) Sakg.underlying26 rfl hsA) (hHeld) ?_
          simp only [Act.put, List.setIfInBounds_toArray, List.set_cons_zero, List.set_cons_succ]
          refine held_one 2 (by kernel_rfl) (by rfl) (fun K' hK' => ?_)
          go_simp
          refine (addrNo_any 1 (by omega) w2.drew).mono ?_
          rintro e w3 ⟨rfl, b3⟩
          refine hK'.out _ _ (dr.trans (b3.mono dr.size)) ?_
          clear hK' K'
          have d3 := dr.trans (b3.mono dr.size)
          refine held_takeD 3 (.bool true) (some 56) (by rfl) (by rfl) (by kernel_rfl) (by kernel_rfl) (by kernel_rfl) (fun _ _ _ h => h) (.inl ⟨by rfl, fun _ _ => by go_simp⟩) (d3) ?_
          simp only [Act.put, List.setIfInBounds_toArray, List.set_cons_zero, List.set_cons_succ]
          refine held_takeD 4 (.bool true) (some 57) (by rfl) (by rfl) (by kernel_rfl) (by kernel_rfl) (by kernel_rfl) (fun _ _ _ h => h) (.inl ⟨by rfl, fun _ _ => by rfl⟩) (d3) ?_
          simp only [Act.put, List.setIfInBounds_toArray, List.set_cons_zero, List.set_cons_succ]
          refine held_takeD 5 (.pointer (some ⟨wr.heap.size, 0, none⟩)) (some 58) (by rfl) (by rfl) (by kernel_rfl) (by kernel_rfl) (by kernel_rfl) (fun _ _ _ h => h) (.inl ⟨by rfl, fun _ _ => by go_simp⟩) (d3) ?_
          simp only [Act.put, List.setIfInBounds_toArray, List.set_cons_zero, List.set_cons_succ]
          refine held_takeD 6 (.agg (bv d.addr).toArray) (some 59) (by rfl) (by rfl) (by kernel_rfl) (by kernel_rfl) (by kernel_rfl) (fun _ _ _ h => h) (yieldsIf_load_mid (by rfl) _ _ rfl _ _ rfl _ _ (fun wz hS => hR wz hS) Sakg.underlying26 rfl hsA) (d3) ?_
          simp only [Act.put, List.setIfInBounds_toArray, List.set_cons_zero, List.set_cons_succ]
          refine held_one 7 (by kernel_rfl) (by rfl) (fun K' hK' => ?_)
          go_simp
          refine (sender_any w3).mono ?_
          rintro e w4 ⟨rfl, b4⟩
          refine hK'.out _ _ (d3.trans (b4.mono d3.size)) ?_
          clear hK' K'
          have d4 := d3.trans (b4.mono d3.size)
          refine held_takeD 8 (.bool true) (some 61) (by rfl) (by rfl) (by kernel_rfl) (by kernel_rfl) (by kernel_rfl) (fun _ _ _ h => h) (.inl ⟨by rfl, fun _ _ => by go_simp⟩) (d4) ?_
          simp only [Act.put, List.setIfInBounds_toArray, List.set_cons_zero, List.set_cons_succ]
          refine held_takeD 9 (.bool true) (some 62) (by rfl) (by rfl) (by kernel_rfl) (by kernel_rfl) (by kernel_rfl) (fun _ _ _ h => h) (.inl ⟨by rfl, fun _ _ => by go_simp⟩) (d4) ?_
          simp only [Act.put, List.setIfInBounds_toArray, List.set_cons_zero, List.set_cons_succ]
          refine wpAnyH_done (by kernel_rfl) ?_ _
          refine NoPanic.normal ?_
          have x20 : w4.cell? ⟨wr.heap.size, 20, none⟩ = some (.int .u64 (1 : Nat)) := by rw [((unhide HR2).kept d4).cell]; exact unhide Q20
          have x53 : w4.cell? ⟨wr.heap.size, 53, none⟩ = some (.slice Ac 0 cc) := by rw [((unhide HR2).kept d4).cell]; exact unhide Q53
          go_wp2
          go_roundg (gk - 1)
          case measure => omega
          case rel => exact ⟨i + 1, m + 1, by omega, rfl, rfl, (unhide HC1).symm, dW2.trans (d4.mono dW2.size)⟩
    · as_aux_lemma =>
      obtain rfl : i = lw := by omega
      have tl : decide ((i : Int) < (i : Int)) = false := decide_eq_false (by omega)
      have hmm : m = 1 := by
        rw [unhide HM, List.take_of_length_le (by have := unhide HLEN; omega)]
        exact unhide HCNT
      subst hmm
      go_wp2
      go_ret
      exact ⟨rfl, hb0.trans (hbe.mono hb0.size)⟩

end Go.Proofs.YgcsakGreat
