/-
  yp, exactly: orig, load.
-/
import Derived.Test.YgcsakGreatKsC
namespace Go.Proofs.YgcsakGreat
set_option linter.unusedVariables false
set_option linter.unusedSimpArgs false
set_option maxRecDepth 100000
open Go.RowKit

set_option maxHeartbeats 8000000 in
theorem orig_x (G : Nat → Prop) (bw : Nat) (w : World) (ao : Option Addr) (l c : Nat) (ms : List YTemp) (h : KTemps G w ao l c ms) (h5 : w.cell? ⟨bw, 8, none⟩ = some (.slice ao l c)) (hl : l ≤ 1000000)
    (a : List Int) (ha : IsAddr a) (A : Option Addr) (k c2 m : Nat) (hn : KNat G w A k c2 m) (hm : m < BIG) :
    Calls Sakg.prog 486 #[.pointer (some ⟨bw, 0, none⟩), .agg (bv a).toArray, .slice A k c2] w fun e w' => (∃ A k c v, e = .returned (.slice A k c) ∧ KNat G w' A k c v ∧ ((v = 0 ∧ ∀ t ∈ ms, ¬ (t.addr = a ∧ t.key = m)) ∨ ∃ t ∈ ms, t.addr = a ∧ t.key = m ∧ t.val = v)) ∧ Below w.heap.size w w' := by
  obtain ⟨rows, g1, g2⟩ := h
  have HL : Hid (ms.length = l) := hide (by rw [← g2.len, g1.now.len_eq])
  have H := hide (rows_at' (⟨[], 0, 0⟩ : YTemp) g1.now g2)
  have HA := hide ha
  have HN := hide hn
  have hbw : bw < w.heap.size := World.block_lt_of_cell? w _ h5
  have hb1 : Below w.heap.size w (w.alloc (.cells (bv a).toArray 26)) := (Below.refl _ _).alloc (Nat.le_refl _) _
  have hr1 : RowT 26 (w.alloc (.cells (bv a).toArray 26)) w.heap.size (bv a) := RowT.new _ _ _
  clear g1 g2 ha hn
  go_enter Sakg.func486, Sakg.ntmps486
  go_wp2_with fail
  go_loopg [14] l (fun gk ct wr => ∃ i : Nat, i + gk = l ∧ ct = .int .i64 i ∧ RowT 26 wr w.heap.size (bv a) ∧ (∀ q, q < i → ¬ ((ms.getD q ⟨[], 0, 0⟩).addr = a ∧ (ms.getD q ⟨[], 0, 0⟩).key = m)) ∧ Below w.heap.size w wr)
  case atStart => exact ⟨0, by omega, rfl, hr1, fun q hq => absurd hq (by omega), hb1⟩
  case round =>
    obtain ⟨i, hi, rfl, hra, hno, hbe⟩ := hrel
    have HNO := hide hno
    clear hno
    have HRA := hide hra
    have hs0 : w.heap.size < wr.heap.size := hra.lt
    clear hra hr1 hb1
    by_cases hil : i < l
    · obtain ⟨b, off, rfl, hlt, hat⟩ := unhide H (by omega)
      obtain ⟨r, hrg, hrow⟩ := hat i hil
      have hmem : ms.getD i ⟨[], 0, 0⟩ ∈ ms := by
        rw [List.getD_eq_getElem?_getD, List.getElem?_eq_getElem (by have := unhide HL; omega)]; simp
      obtain ⟨d, hd⟩ : ∃ d, d = ms.getD i ⟨[], 0, 0⟩ := ⟨_, rfl⟩
      rw [← hd] at hrow hmem
      have HD := hide hd
      have hrl := hrow.len
      have hrg2 := range_below hrg hbe (fun _ => hlt)
      have heq := fun wx => addr_eq wx d.addr a hrow.isAddr (unhide HA)
      have hsz : (Sakg.prog.info? 187).map (·.size) = some r.length := by rw [hrl]; exact sizeOrig
      obtain ⟨A1, k1, c1, A2, k2, c2', q20, q21, s1, s2, s3, s4⟩ := hrow.cells
      have HQ := hide q20
      have HQ1 := hide q21
      have HS1 := hide s1
      have HS2 := hide s2
      have HRG := hide hrg2
      have HROW := hide hrow
      have HMEM := hide hmem
      have HSZ := hide hsz
      have HRL := hide hrl
      clear hat hrg hrg2 hrow hd hsz hrl q20 q21 s1 s2 hmem
      go_upto_region 4 with (first
        | ((with_reducible refine at_load 187 ?_); refine wpList_load_g rfl 187 (.tmp 16) rfl b _ rfl r _ (unhide HRG) Sakg.underlying187 rfl (unhide HSZ) ?_)
        | ((with_reducible refine at_store 187 ?_); refine wpList_store_whole rfl 187 (.tmp 8) (.tmp 17) rfl _ _ _ r rfl rfl (RowT.new _ _ _) (by rw [unhide HRL]; rfl) (unhide HSZ) (unhide HROW).one ?_; intro w2 hr2 hon2; have hbb := box_below hon2; have hra2 := (unhide HRA).kept hbb.1; clear hon2))
      have hbe2 : Below w.heap.size w w2 := hbe.trans (hbb.1.mono (by omega))
      have e20 : w2.cell? ⟨wr.heap.size, 20, none⟩ = some (.slice A1 k1 c1) := by rw [hr2.cell]; exact unhide HQ
      have HR2 := hide hr2
      have HRA2 := hide hra2
      have HCMP := hide (((unhide HS1).kp (ChgS.of hbe2)).now.cmp ((unhide HN).kp (ChgS.of hbe2)).now s3 hm)
      simp only [Act.put]
      clear hr2 hra2 HRA HRG
      obtain ⟨eb, heb⟩ : ∃ eb, eb = decide (d.addr = a ∧ d.key = m) := ⟨_, rfl⟩
      have HEB := hide heb
      clear heb
      go_cut [28] (fun s28 wc => s28 = .bool eb ∧ Quiet w2 wc)
      case first =>
        by_cases hda : d.addr = a
        · have hde : decide (d.addr = a) = true := decide_eq_true hda
          rw [hde] at heq
          have hcz : (cmpI d.key m == 0) = eb := by rw [cmp_zero, unhide HEB]; simp [hda]
          have HCZ := hide hcz
          clear hda hde hcz
          generalize cmpI d.key m = cr at *
          go_wp2_with (first
            | ((with_reducible refine at_load 26 ?_); refine wpList_load_g rfl 26 (.tmp 18) rfl _ 0 rfl (bv d.addr) _ (by have := (unhide HR2).range 0 20; rwa [(unhide HROW).pre] at this) Sakg.underlying26 rfl (unhide HROW).isAddr.size ?_)
            | ((with_reducible refine at_load 26 ?_); refine wpList_load_g rfl 26 (.tmp 4) rfl _ 0 rfl (bv a) _ (unhide HRA2).rangeAll Sakg.underlying26 rfl (unhide HA).size ?_)
            | (go_at_call 68; refine (unhide HCMP).mono ?_; rintro e w3 ⟨rfl, hq⟩))
          go_meet
          case rel => exact ⟨congrArg Value.bool (unhide HCZ), hq⟩
        · have hde : decide (d.addr = a) = false := decide_eq_false hda
          rw [hde] at heq
          have hbb2 : eb = false := by rw [unhide HEB]; simp [hda]
          have HB2 := hide hbb2
          clear hda hde hbb2
          go_wp2_with (first
            | ((with_reducible refine at_load 26 ?_); refine wpList_load_g rfl 26 (.tmp 18) rfl _ 0 rfl (bv d.addr) _ (by have := (unhide HR2).range 0 20; rwa [(unhide HROW).pre] at this) Sakg.underlying26 rfl (unhide HROW).isAddr.size ?_)
            | ((with_reducible refine at_load 26 ?_); refine wpList_load_g rfl 26 (.tmp 4) rfl _ 0 rfl (bv a) _ (unhide HRA2).rangeAll Sakg.underlying26 rfl (unhide HA).size ?_))
          go_meet
          case rel => exact ⟨congrArg Value.bool (unhide HB2).symm, ⟨0, by rw [World.drewN_zero]⟩⟩
      case rest =>
        obtain ⟨rfl, hq⟩ := hcut
        have hb3 : Below w2.heap.size w2 wc := hq.below _
        have hbe3 : Below w.heap.size w wc := hbe2.trans (hb3.mono hbe2.size)
        have hra3 := (unhide HRA2).kept hb3
        have e21 : wc.cell? ⟨wr.heap.size, 21, none⟩ = some (.slice A2 k2 c2') := by rw [((unhide HR2).kept hb3).cell]; exact unhide HQ1
        have HRA3 := hide hra3
        clear hra3 hq heq
        cases eb with
        | true =>
          go_wp2
          go_ret
          exact ⟨⟨A2, k2, c2', d.val, rfl, (unhide HS2).kp (ChgS.of hbe3), .inr ⟨d, unhide HMEM, (of_decide_eq_true (unhide HEB).symm).1, (of_decide_eq_true (unhide HEB).symm).2, rfl⟩⟩, hbe3⟩
        | false =>
          go_wp2
          go_roundg (gk - 1)
          case measure => omega
          case rel =>
            refine ⟨i + 1, by omega, by go_num, unhide HRA3, fun q hq => ?_, hbe3⟩
            by_cases hqi : q = i
            · rw [hqi, ← unhide HD]
              exact of_decide_eq_false (unhide HEB).symm
            · exact unhide HNO q (by omega)
    · obtain rfl : i = l := by omega
      go_wp2
      go_ret
      refine ⟨⟨none, 0, 0, 0, rfl, KNat.nil G _, .inl ⟨rfl, fun t ht => ?_⟩⟩, hbe⟩
      obtain ⟨q, hq, rfl⟩ := List.getElem_of_mem ht
      have h9 := unhide HNO q (by have := unhide HL; omega)
      rw [List.getD_eq_getElem?_getD, List.getElem?_eq_getElem hq] at h9
      exact h9



set_option maxHeartbeats 8000000 in
theorem load_x (G : Nat → Prop) (bw : Nat) (w : World) (ao : Option Addr) (l c : Nat) (ds : List YAcct) (h : KAccts G w ao l c ds) (h0 : w.cell? ⟨bw, 0, none⟩ = some (.slice ao l c)) (hl : l ≤ 1000000)
    (a : List Int) (ha : IsAddr a) (A : Option Addr) (k c2 m : Nat) (hn : KNat G w A k c2 m) (hm : m < BIG) (hs : ∀ s ∈ (lookY ds a).slots, s.1 < BIG) (hsl : (lookY ds a).slots.length ≤ 1000000) :
    Calls Sakg.prog 308 #[.pointer (some ⟨bw, 0, none⟩), .agg (bv a).toArray, .slice A k c2] w fun e w' => (∃ A k c v, e = .returned (.slice A k c) ∧ KNat G w' A k c v ∧ ((v = 0 ∧ ∀ t ∈ (lookY ds a).slots, t.1 ≠ m) ∨ ∃ t ∈ (lookY ds a).slots, t.1 = m ∧ t.2 = v)) ∧ Below w.heap.size w w' := by
  have HA := hide ha
  have HN := hide hn
  have hb1 : Below w.heap.size w (w.alloc (.cells (bv a).toArray 26)) := (Below.refl _ _).alloc (Nat.le_refl _) _
  have hr1 : RowT 26 (w.alloc (.cells (bv a).toArray 26)) w.heap.size (bv a) := RowT.new _ _ _
  have hbw : bw < w.heap.size := World.block_lt_of_cell? w _ h0
  obtain ⟨ss, hss⟩ : ∃ ss, ss = (lookY ds a).slots := ⟨_, rfl⟩
  rw [← hss] at hs hsl ⊢
  have HSS := hide hss
  have HAC := hide ((h.go (ChgS.of hb1)).account (bw := bw) (ow := 0) (by rw [hb1.cell (p := ⟨bw, 0, none⟩) hbw]; exact h0) a ha hl)
  have HS := hide hs
  clear h ha hn hs hss
  go_enter Sakg.func308, Sakg.ntmps308
  go_upto_region 2 with (first
    | ((with_reducible refine at_load 26 ?_); refine wpList_load_g rfl 26 (.tmp 4) rfl _ 0 rfl (bv a) _ hr1.rangeAll Sakg.underlying26 rfl (unhide HA).size ?_)
    | (go_at_call 99; refine (unhide HAC).mono ?_; rintro e w2 ⟨r, rfl, hrow, hb2⟩; obtain ⟨A1, k1, c1, A2, k2, c2', A3, k3, c3, A4, k4, c4, q20, q21, q22, q23, s1, s2, s3, s4⟩ := hrow.cells; have HS4 := hide s4; have hfld := run_field_slice fldSlots Sakg.underlying111 r _ q23; clear hrow s1 s2 s3 s4))
  have hb12 : Below w.heap.size w w2 := hb1.trans (hb2.mono (by simp))
  have hr2 := hr1.kept hb2
  obtain ⟨rows, g1, g2⟩ := unhide HS4
  rw [← unhide HSS] at g2
  have HL : Hid (ss.length = k4) := hide (by rw [← g2.len, g1.now.len_eq])
  have hk4 : k4 ≤ 1000000 := by have := unhide HL; omega
  have H := hide (rows_at' ((0, 0) : Nat × Nat) g1.now g2)
  clear hr1 hfld q20 q21 q22 q23 hb1 hb2 g1 g2 HS4 HAC hsl
  go_wp2_with fail
  go_loopg [14] k4 (fun gk ct wr => ∃ i : Nat, i + gk = k4 ∧ ct = .int .i64 i ∧ (∀ q, q < i → (ss.getD q (0, 0)).1 ≠ m) ∧ Below w2.heap.size w2 wr)
  case atStart => exact ⟨0, by omega, rfl, fun q hq => absurd hq (by omega), Below.refl _ _⟩
  case round =>
    obtain ⟨i, hi, rfl, hno, hbe⟩ := hrel
    have HNO := hide hno
    clear hno
    by_cases hil : i < k4
    · obtain ⟨b, off, rfl, hlt, hat⟩ := unhide H (by omega)
      obtain ⟨r', hrg, hrow⟩ := hat i hil
      have hmem : ss.getD i (0, 0) ∈ ss := by
        rw [List.getD_eq_getElem?_getD, List.getElem?_eq_getElem (by have := unhide HL; omega)]; simp
      obtain ⟨d, hd⟩ : ∃ d, d = ss.getD i (0, 0) := ⟨_, rfl⟩
      rw [← hd] at hrow hmem
      have HD := hide hd
      obtain ⟨A1, k1, c1, A2, k2, c2', rfl, s1, s2⟩ := hrow
      have hrg2 := range_below hrg hbe (fun _ => hlt)
      have hd1 := unhide HS d hmem
      have HS1 := hide s1
      have HS2 := hide s2
      have HRG := hide hrg2
      have HMEM := hide hmem
      clear hat hrg hrg2 hd s1 s2 hmem
      go_upto_region 4 with (first
        | ((with_reducible refine at_load 117 ?_); refine wpList_load_g rfl 117 (.tmp 16) rfl b _ rfl [.slice A1 k1 c1, .slice A2 k2 c2'] _ (unhide HRG) Sakg.underlying117 rfl sizeSlot ?_)
        | ((with_reducible refine at_store 117 ?_); refine wpList_store_whole rfl 117 (.tmp 8) (.tmp 17) rfl _ _ _ [.slice A1 k1 c1, .slice A2 k2 c2'] rfl rfl (RowT.new _ _ _) rfl sizeSlot (row2_one _ _ _ _ _ _) ?_; intro w3 hr3 hon3; have hbb := box_below hon3; clear hon3))
      have hbe3 : Below w2.heap.size w2 w3 := hbe.trans (hbb.1.mono hbe.size)
      have hbw3 : Below w.heap.size w w3 := hb12.trans (hbe3.mono hb12.size)
      have e0 : w3.cell? ⟨wr.heap.size, 0, none⟩ = some (.slice A1 k1 c1) := by rw [hr3.cell]; rfl
      have HR3 := hide hr3
      have HCMP := hide (((unhide HS1).kp (ChgS.of hbe3)).now.cmp ((unhide HN).kp (ChgS.of hbw3)).now hd1 hm)
      clear hr3
      simp only [Act.put]
      have hcz := cmp_zero d.1 m
      have HCZ := hide hcz
      clear hcz
      generalize cmpI d.1 m = cr at *
      cases hcr : (cr == 0) with
      | true =>
        go_wp2_with (go_at_call 68; refine (unhide HCMP).mono ?_; rintro e w4 ⟨rfl, hq⟩; have hb4 : Below w3.heap.size w3 w4 := hq.below _; have e1 : w4.cell? ⟨wr.heap.size, 1, none⟩ = some (.slice A2 k2 c2') := by { rw [((unhide HR3).kept hb4).cell]; rfl })
        go_ret
        have hbe4 : Below w2.heap.size w2 w4 := hbe3.trans (hb4.mono hbe3.size)
        exact ⟨⟨A2, k2, c2', d.2, rfl, (unhide HS2).kp (ChgS.of hbe4), .inr ⟨d, unhide HMEM, of_decide_eq_true ((unhide HCZ).symm.trans hcr), rfl⟩⟩, hb12.trans (hbe4.mono hb12.size)⟩
      | false =>
        go_wp2_with (go_at_call 68; refine (unhide HCMP).mono ?_; rintro e w4 ⟨rfl, hq⟩; have hb4 : Below w3.heap.size w3 w4 := hq.below _)
        go_roundg (gk - 1)
        case measure => omega
        case rel =>
          refine ⟨i + 1, by omega, by go_num, fun q hq => ?_, hbe3.trans (hb4.mono hbe3.size)⟩
          by_cases hqi : q = i
          · rw [hqi, ← unhide HD]
            exact of_decide_eq_false ((unhide HCZ).symm.trans hcr)
          · exact unhide HNO q (by omega)
    · obtain rfl : i = k4 := by omega
      go_wp2
      go_ret
      refine ⟨⟨none, 0, 0, 0, rfl, KNat.nil G _, .inl ⟨rfl, fun t ht => ?_⟩⟩, hb12.trans (hbe.mono hb12.size)⟩
      obtain ⟨q, hq, rfl⟩ := List.getElem_of_mem ht
      have h9 := unhide HNO q (by have := unhide HL; omega)
      rw [List.getD_eq_getElem?_getD, List.getElem?_eq_getElem hq] at h9
      exact h9


end Go.Proofs.YgcsakGreat
