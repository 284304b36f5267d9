/-
  (*World).clone: a deep copy.
-/
import Derived.Test.YgcsakGreatKsH
namespace Go.Proofs.YgcsakGreat
set_option linter.unusedVariables false
set_option linter.unusedSimpArgs false
set_option maxRecDepth 100000
open Go.RowKit

theorem acct_cells (a : List Int) (ha : IsAddr a) (v1 v2 v3 v4 : Value) : (bv a ++ [v1, v2, v3, v4]).length = 24 := by simp [bv_len, ha.len]
theorem acct_set23 (a : List Int) (ha : IsAddr a) (v1 v2 v3 v4 u : Value) : (bv a ++ [v1, v2, v3, v4]).set 23 u = bv a ++ [v1, v2, v3, u] := by
  rw [List.set_append_right _ _ (by rw [bv_len, ha.len]; omega), bv_len, ha.len]; rfl
theorem acct_23 (a : List Int) (ha : IsAddr a) (v1 v2 v3 v4 : Value) : (bv a ++ [v1, v2, v3, v4])[23]? = some v4 := by
  rw [List.getElem?_append_right (by rw [bv_len, ha.len]; omega), bv_len, ha.len]; rfl

theorem row3_nil (u v : Value) : ∀ i, i < 8 → i ≠ 3 → i ≠ 4 → [nilS, nilS, nilS, u, v, nilS, nilS, nilS][i]? = some nilS
  | 0, _, _, _ => rfl
  | 1, _, _, _ => rfl
  | 2, _, _, _ => rfl
  | 3, _, h, _ => absurd rfl h
  | 4, _, _, h => absurd rfl h
  | 5, _, _, _ => rfl
  | 6, _, _, _ => rfl
  | 7, _, _, _ => rfl
  | n + 8, h, _, _ => by omega

theorem infoTemp2 : (Sakg.prog.info? 363).map (fun i => (i.zero, i.size)) = some (some (.agg (bv (zeros 20) ++ [nilS, nilS]).toArray), 22) := by kernel_rfl
theorem run_temp3 (wx : World) (a : List Int) (ha : IsAddr a) (A B : Option Addr) (k c k' c' : Nat) :
    (Instr.build 363 #[(0, .agg (bv a).toArray), (1, .slice A k c), (2, .slice B k' c')]).run Sakg.prog wx = .ok (.agg (bv a ++ [Value.slice A k c, .slice B k' c']).toArray) wx := by
  obtain ⟨i0, hi0, hz0, hz1, hz2⟩ := info_parts infoTemp
  exact run_build_struct wx 363 _ placesTemp i0 _ hi0 hz0 (bv (zeros 20) ++ [nilS, nilS]) rfl _ _ (build_temp a ha A B k c k' c')
/-- an account's nonce, balance and code -/
def Tri (H : Nat → Prop) (w : World) (Aa Ab Ac : Option Addr) (ka ca kb cb kc cc : Nat) (o : YAcct) : Prop := KNat H w Aa ka ca o.nonce ∧ KNat H w Ab kb cb o.bal ∧ KSrc H w Ac kc cc o.code
theorem Tri.go {H : Nat → Prop} {w w' : World} {Aa Ab Ac : Option Addr} {ka ca kb cb kc cc : Nat} {o : YAcct} (h : Tri H w Aa Ab Ac ka ca kb cb kc cc o) (hc : ChgS H w w') : Tri H w' Aa Ab Ac ka ca kb cb kc cc o := ⟨h.1.kp hc, h.2.1.kp hc, h.2.2.kp hc⟩
theorem Tri.to {H H' : Nat → Prop} {w : World} {Aa Ab Ac : Option Addr} {ka ca kb cb kc cc : Nat} {o : YAcct} (h : Tri H w Aa Ab Ac ka ca kb cb kc cc o) (hs : ∀ i, H' i → i < w.heap.size → H i) : Tri H' w Aa Ab Ac ka ca kb cb kc cc o := ⟨h.1.to hs, h.2.1.to hs, h.2.2.to hs⟩

set_option maxHeartbeats 64000000 in
theorem CW.clone {G : Nat → Prop} {bw : Nat} {cs : List Value} {d : WD} {w : World} {B : Nat} (h : CW G bw cs d w) (hgood : Good B d) (hlogs : ∀ ao l c, cs[4]? = some (.slice ao l c) → ∀ H wz, Below w.heap.size w wz → Ther H wz → (∀ i, H i → i < w.heap.size → G i) → Calls Sakg.prog 126 #[.slice ao l c] wz fun e w' => (∃ A, e = .returned (.slice A l l) ∧ KLogs H w' A l l d.logs) ∧ Below wz.heap.size wz w') :
    Calls Sakg.prog 196 #[.pointer (some ⟨bw, 0, none⟩)] w fun e w' => (∃ r, e = .returned (.agg r.toArray) ∧ Slices 8 r ∧ KW G r d w') ∧ Below w.heap.size w w' := by
  obtain ⟨W, hW⟩ : ∃ W, W = w.alloc (.cells nils8.toArray 101) := ⟨_, rfl⟩
  have hb0 : Below w.heap.size w W := by rw [hW]; exact (Below.refl _ _).alloc (Nat.le_refl _) _
  have hr0 : RowT 101 W w.heap.size nils8 := by rw [hW]; exact RowT.new _ _ _
  have hww : ∀ wz, Below W.heap.size W wz → Below w.heap.size w wz := fun wz hz => hb0.trans (hz.mono hb0.size)
  have hcs : ∀ wz, Below W.heap.size W wz → RowT 107 wz bw cs := fun wz hz => h.row.kept (hww wz hz)
  have HCS := hide hcs
  have HWW := hide hww
  have hbw := h.row.lt
  have dW : Below W.heap.size W W.drew := Quiet.below ⟨1, rfl⟩ _
  obtain ⟨E, hEdef⟩ : ∃ E, E = Plus G w.heap.size := ⟨_, rfl⟩
  have hGW : Ther E W := by rw [hEdef]; exact (h.ther.go hb0.size).plus hr0.lt
  have hEG : ∀ i, E i → i < w.heap.size → G i := by rw [hEdef]; exact plus_new (Nat.le_refl _)
  have hGE : ∀ i, G i → E i := fun i hi => by rw [hEdef]; exact .inl hi
  have hEw : E w.heap.size := by rw [hEdef]; exact .inr rfl
  clear hEdef
  obtain ⟨a3, l3, c3, h3, n3⟩ := h.kw.refund
  obtain ⟨a4, l4, c4, h4, n4⟩ := h.kw.logs
  have hrf : d.refund < BIG := Nat.lt_of_lt_of_le hgood.refund (big_pow 20 (by omega))
  have hNR : ∀ wz, Below W.heap.size W wz → IsNat wz a3 l3 c3 d.refund := fun wz hz => (n3.kp (ChgS.of (hww wz hz))).now
  have HNR := hide hNR
  have hn4 := n4
  have hLG : ∀ H wz, Below W.heap.size W wz → Ther H wz → (∀ i, H i → i < w.heap.size → G i) → Hid (Calls Sakg.prog 126 #[.slice a4 l4 c4] wz fun e w' => (∃ A, e = .returned (.slice A l4 l4) ∧ KLogs H w' A l4 l4 d.logs) ∧ Below wz.heap.size wz w') := fun H wz hz hH hs => hide (hlogs a4 l4 c4 h4 H wz (hww wz hz) hH hs)
  have HLG := hide hLG
  have HR0 := hide hr0
  have HKW := hide h
  have hn8 : nils8.length = 8 := rfl
  have hG0 := h.ther
  clear hcs hr0 hww n3 n4 hNR hLG h hlogs
  go_enter Sakg.func196, Sakg.ntmps196
  go_upto_region 1 with ((with_reducible refine at_alloc 101 ?_); refine wpList_alloc_g (by rfl) 101 rfl nils8 8 infoWorld rfl ?_)
  rw [← hW]
  clear hW
  simp only [Act.put, List.setIfInBounds_toArray, List.set_cons_zero, List.set_cons_succ]
  go_cut [3] (fun s3 wc => ∃ (g : Nat) (r : List Value), s3 = .pointer (some ⟨g, 0, none⟩) ∧ W.heap.size ≤ g ∧ RowT 101 wc g r ∧ Slices 8 r ∧ (∀ i, i < 8 → i ≠ 3 → i ≠ 4 → r[i]? = some nilS) ∧ Below W.heap.size W wc ∧ KW (Plus E g) r ⟨[], [], [], d.refund, d.logs, [], [], []⟩ wc)
  case first =>
    --S1
    as_aux_lemma =>
    refine wp_region_noPanic ?_
    refine wp_region_held_drew (S := fun w' => Below W.heap.size W w') (by kernel_rfl) (dW) (fun hHeld => ?_)
    refine held_takeD 0 (.pointer (some ⟨bw, 0, none⟩)) (some 13) (by rfl) (by rfl) (by kernel_rfl) (by kernel_rfl) (by kernel_rfl) (fun _ _ _ h => h) (.inl ⟨by rfl, fun _ _ => by rfl⟩) (hHeld) ?_
    simp only [Act.put, List.setIfInBounds_toArray, List.set_cons_zero, List.set_cons_succ]
    refine held_takeD 1 (.pointer (some ⟨bw, 0, none⟩)) (some 14) (by rfl) (by rfl) (by kernel_rfl) (by kernel_rfl) (by kernel_rfl) (fun _ _ _ h => h) (.inl ⟨by rfl, fun _ _ => by go_simp⟩) (hHeld) ?_
    simp only [Act.put, List.setIfInBounds_toArray, List.set_cons_zero, List.set_cons_succ]
    refine held_takeD 2 (.pointer (some ⟨bw, 3, none⟩)) (some 15) (by rfl) (by rfl) (by kernel_rfl) (by kernel_rfl) (by kernel_rfl) (fun _ _ _ h => h) (.inl ⟨by rfl, fun _ _ => by go_simp⟩) (hHeld) ?_
    simp only [Act.put, List.setIfInBounds_toArray, List.set_cons_zero, List.set_cons_succ]
    refine held_takeD 3 (.slice a3 l3 c3) (some 16) (by rfl) (by rfl) (by kernel_rfl) (by kernel_rfl) (by kernel_rfl) (fun _ _ _ h => h) (.inl ⟨by rfl, fun wS hS => by have hc : wS.cell? ⟨bw, 3, none⟩ = some (.slice a3 l3 c3) := by { rw [(unhide HCS wS hS).cell]; exact h3 }; go_simp⟩) (hHeld) ?_
    simp only [Act.put, List.setIfInBounds_toArray, List.set_cons_zero, List.set_cons_succ]
    refine held_takeD 5 (.pointer (some ⟨bw, 0, none⟩)) (some 18) (by rfl) (by rfl) (by kernel_rfl) (by kernel_rfl) (by kernel_rfl) (fun _ _ _ h => h) (.inl ⟨by rfl, fun _ _ => by rfl⟩) (hHeld) ?_
    simp only [Act.put, List.setIfInBounds_toArray, List.set_cons_zero, List.set_cons_succ]
    refine held_takeD 6 (.pointer (some ⟨bw, 0, none⟩)) (some 19) (by rfl) (by rfl) (by kernel_rfl) (by kernel_rfl) (by kernel_rfl) (fun _ _ _ h => h) (.inl ⟨by rfl, fun _ _ => by go_simp⟩) (hHeld) ?_
    simp only [Act.put, List.setIfInBounds_toArray, List.set_cons_zero, List.set_cons_succ]
    refine held_takeD 7 (.pointer (some ⟨bw, 4, none⟩)) (some 20) (by rfl) (by rfl) (by kernel_rfl) (by kernel_rfl) (by kernel_rfl) (fun _ _ _ h => h) (.inl ⟨by rfl, fun _ _ => by go_simp⟩) (hHeld) ?_
    simp only [Act.put, List.setIfInBounds_toArray, List.set_cons_zero, List.set_cons_succ]
    refine held_takeD 8 (.slice a4 l4 c4) (some 21) (by rfl) (by rfl) (by kernel_rfl) (by kernel_rfl) (by kernel_rfl) (fun _ _ _ h => h) (.inl ⟨by rfl, fun wS hS => by have hc : wS.cell? ⟨bw, 4, none⟩ = some (.slice a4 l4 c4) := by { rw [(unhide HCS wS hS).cell]; exact h4 }; go_simp⟩) (hHeld) ?_
    simp only [Act.put, List.setIfInBounds_toArray, List.set_cons_zero, List.set_cons_succ]
    refine held_two 4 11 (by kernel_rfl) (by rfl) (by rfl) (fun K' hK' => ?_) (fun K' hK' => ?_)
    · go_simp
      refine (natOf_any a3 l3 c3 d.refund W.drew (unhide HNR _ dW) hrf).mono ?_
      rintro e wa ⟨Aa, ka, ca, rfl, na, Na, ba⟩
      have da := dW.trans (ba.mono dW.size)
      have KA : KNat E wa Aa ka ca d.refund := StabS.nat na (Na.offS ((hGW.go dW.size)) _)
      refine hK'.out _ _ (da) ?_
      clear hK' K'
      refine held_two 9 11 (by kernel_rfl) (by rfl) (by rfl) (fun K' hK' => ?_) (fun K' hK' => ?_)
      · go_simp
        refine (unhide (unhide HLG E wa da (hGW.go da.size) hEG)).mono ?_
        rintro e wb ⟨⟨Ab, rfl, KB⟩, bb⟩
        have db := da.trans (bb.mono da.size)
        refine hK'.out _ _ (db) ?_
        clear hK' K'
        refine held_takeD 10 (.agg [nilS, nilS, nilS, Value.slice Aa ka ca, .slice Ab l4 l4, nilS, nilS, nilS].toArray) (some 23) (by rfl) (by rfl) (by kernel_rfl) (by kernel_rfl) (by kernel_rfl) (fun _ _ _ h => h) (yieldsIf_build (by rfl) 101 [(3, .tmp 17), (4, .tmp 22)] rfl _ (fun wx => run_world3 Aa Ab ka ca l4 l4 wx)) db ?_
        simp only [Act.put, List.setIfInBounds_toArray, List.set_cons_zero, List.set_cons_succ]
        refine held_one 11 (by kernel_rfl) (by rfl) (fun K' hK' => ?_)
        refine if_alloc (some 3) rfl 101 rfl (by rfl) nils8 8 infoWorld rfl (fun wX rX bX sX => ?_)
        have dX := db.trans (bX.mono db.size)
        refine hK'.out _ _ (dX) ?_
        clear hK' K'
        simp only [Act.put, List.setIfInBounds_toArray, List.set_cons_zero, List.set_cons_succ]
        refine held_one 12 (by kernel_rfl) (by rfl) (fun K' hK' => ?_)
        refine if_store rfl (by rfl) 101 (.tmp 3) (.tmp 23) rfl (wb.heap.size) 0 101 nils8 [nilS, nilS, nilS, Value.slice Aa ka ca, .slice Ab l4 l4, nilS, nilS, nilS] rfl rfl rX (Nat.le_refl 8) sizeWorld (world_row3 Aa Ab ka ca l4 l4).one (fun wS rS oS => ?_)
        have dS : Below W.heap.size W wS := dX.trans (oS.below _ (db.size))
        refine hK'.out _ _ (dS) ?_
        clear hK' K'
        refine wpAnyH_done (by kernel_rfl) ?_ _
        refine NoPanic.normal ?_
        have rS' : RowT 101 wS (wb.heap.size) [nilS, nilS, nilS, Value.slice Aa ka ca, .slice Ab l4 l4, nilS, nilS, nilS] := by { have h0 := spl_all nils8 [nilS, nilS, nilS, Value.slice Aa ka ca, .slice Ab l4 l4, nilS, nilS, nilS] rfl; rw [h0] at rS; exact rS }
        go_wp2_with fail
        go_meet
        case rel => exact ⟨wb.heap.size, [nilS, nilS, nilS, Value.slice Aa ka ca, .slice Ab l4 l4, nilS, nilS, nilS], rfl, db.size, rS', world_row3 Aa Ab ka ca l4 l4, row3_nil _ _, dS, KW.lit (((KA.to (plus_new (g := wb.heap.size) (bb.size))).kp (ChgS.of (bb.trans (bX.mono bb.size)))).kp (ChgS.only oS (.inr rfl))) (((KB.to (plus_new (g := wb.heap.size) (Nat.le_refl _))).go (ChgS.of bX)).go (ChgS.only oS (.inr rfl)))⟩
      · refine if_alloc (some 3) rfl 101 rfl (by rfl) nils8 8 infoWorld rfl (fun wX rX bX sX => ?_)
        have dX := da.trans (bX.mono da.size)
        refine hK'.out _ _ (dX) ?_
        clear hK' K'
        simp only [Act.put, List.setIfInBounds_toArray, List.set_cons_zero, List.set_cons_succ]
        refine held_one 9 (by kernel_rfl) (by rfl) (fun K' hK' => ?_)
        go_simp
        refine (unhide (unhide HLG (Plus E (wa.heap.size)) wX dX ((hGW.go dX.size).plus (show wa.heap.size < wX.heap.size from (by have e0 : W.drew.heap.size = W.heap.size := rfl; have hx := rX.lt; omega))) (fun i hi hl => hEG i (plus_new (w := w) (Nat.le_trans hb0.size (da.size)) i hi hl) hl))).mono ?_
        rintro e wb ⟨⟨Ab, rfl, KB⟩, bb⟩
        have db := dX.trans (bb.mono dX.size)
        refine hK'.out _ _ (db) ?_
        clear hK' K'
        refine held_takeD 10 (.agg [nilS, nilS, nilS, Value.slice Aa ka ca, .slice Ab l4 l4, nilS, nilS, nilS].toArray) (some 23) (by rfl) (by rfl) (by kernel_rfl) (by kernel_rfl) (by kernel_rfl) (fun _ _ _ h => h) (yieldsIf_build (by rfl) 101 [(3, .tmp 17), (4, .tmp 22)] rfl _ (fun wx => run_world3 Aa Ab ka ca l4 l4 wx)) db ?_
        simp only [Act.put, List.setIfInBounds_toArray, List.set_cons_zero, List.set_cons_succ]
        refine held_one 12 (by kernel_rfl) (by rfl) (fun K' hK' => ?_)
        refine if_store rfl (by rfl) 101 (.tmp 3) (.tmp 23) rfl (wa.heap.size) 0 101 nils8 [nilS, nilS, nilS, Value.slice Aa ka ca, .slice Ab l4 l4, nilS, nilS, nilS] rfl rfl (rX.kept bb) (Nat.le_refl 8) sizeWorld (world_row3 Aa Ab ka ca l4 l4).one (fun wS rS oS => ?_)
        have dS : Below W.heap.size W wS := db.trans (oS.below _ (da.size))
        refine hK'.out _ _ (dS) ?_
        clear hK' K'
        refine wpAnyH_done (by kernel_rfl) ?_ _
        refine NoPanic.normal ?_
        have rS' : RowT 101 wS (wa.heap.size) [nilS, nilS, nilS, Value.slice Aa ka ca, .slice Ab l4 l4, nilS, nilS, nilS] := by { have h0 := spl_all nils8 [nilS, nilS, nilS, Value.slice Aa ka ca, .slice Ab l4 l4, nilS, nilS, nilS] rfl; rw [h0] at rS; exact rS }
        go_wp2_with fail
        go_meet
        case rel => exact ⟨wa.heap.size, [nilS, nilS, nilS, Value.slice Aa ka ca, .slice Ab l4 l4, nilS, nilS, nilS], rfl, da.size, rS', world_row3 Aa Ab ka ca l4 l4, row3_nil _ _, dS, KW.lit (((KA.to (plus_new (g := wa.heap.size) (Nat.le_refl _))).kp (ChgS.of (bX.trans (bb.mono bX.size)))).kp (ChgS.only oS (.inr rfl))) (KB.go (ChgS.only oS (.inr rfl)))⟩
    · refine if_alloc (some 3) rfl 101 rfl (by rfl) nils8 8 infoWorld rfl (fun wX rX bX sX => ?_)
      have dX := dW.trans (bX.mono dW.size)
      refine hK'.out _ _ (dX) ?_
      clear hK' K'
      simp only [Act.put, List.setIfInBounds_toArray, List.set_cons_zero, List.set_cons_succ]
      refine held_one 4 (by kernel_rfl) (by rfl) (fun K' hK' => ?_)
      go_simp
      refine (natOf_any a3 l3 c3 d.refund wX (unhide HNR _ dX) hrf).mono ?_
      rintro e wa ⟨Aa, ka, ca, rfl, na, Na, ba⟩
      have da := dX.trans (ba.mono dX.size)
      have KA : KNat (Plus E (W.heap.size)) wa Aa ka ca d.refund := StabS.nat na (Na.offS (((hGW.go dX.size).plus rX.lt)) _)
      refine hK'.out _ _ (da) ?_
      clear hK' K'
      refine held_one 9 (by kernel_rfl) (by rfl) (fun K' hK' => ?_)
      go_simp
      refine (unhide (unhide HLG (Plus E (W.heap.size)) wa da ((hGW.go da.size).plus (show W.heap.size < wa.heap.size from (by have e0 : W.drew.heap.size = W.heap.size := rfl; have hx := rX.lt; have ha := ba.size; omega))) (fun i hi hl => hEG i (plus_new (w := w) (Nat.le_trans hb0.size (Nat.le_refl _)) i hi hl) hl))).mono ?_
      rintro e wb ⟨⟨Ab, rfl, KB⟩, bb⟩
      have db := da.trans (bb.mono da.size)
      refine hK'.out _ _ (db) ?_
      clear hK' K'
      refine held_takeD 10 (.agg [nilS, nilS, nilS, Value.slice Aa ka ca, .slice Ab l4 l4, nilS, nilS, nilS].toArray) (some 23) (by rfl) (by rfl) (by kernel_rfl) (by kernel_rfl) (by kernel_rfl) (fun _ _ _ h => h) (yieldsIf_build (by rfl) 101 [(3, .tmp 17), (4, .tmp 22)] rfl _ (fun wx => run_world3 Aa Ab ka ca l4 l4 wx)) db ?_
      simp only [Act.put, List.setIfInBounds_toArray, List.set_cons_zero, List.set_cons_succ]
      refine held_one 12 (by kernel_rfl) (by rfl) (fun K' hK' => ?_)
      refine if_store rfl (by rfl) 101 (.tmp 3) (.tmp 23) rfl (W.heap.size) 0 101 nils8 [nilS, nilS, nilS, Value.slice Aa ka ca, .slice Ab l4 l4, nilS, nilS, nilS] rfl rfl (rX.kept (ba.trans (bb.mono ba.size))) (Nat.le_refl 8) sizeWorld (world_row3 Aa Ab ka ca l4 l4).one (fun wS rS oS => ?_)
      have dS : Below W.heap.size W wS := db.trans (oS.below _ (Nat.le_refl _))
      refine hK'.out _ _ (dS) ?_
      clear hK' K'
      refine wpAnyH_done (by kernel_rfl) ?_ _
      refine NoPanic.normal ?_
      have rS' : RowT 101 wS (W.heap.size) [nilS, nilS, nilS, Value.slice Aa ka ca, .slice Ab l4 l4, nilS, nilS, nilS] := by { have h0 := spl_all nils8 [nilS, nilS, nilS, Value.slice Aa ka ca, .slice Ab l4 l4, nilS, nilS, nilS] rfl; rw [h0] at rS; exact rS }
      go_wp2_with fail
      go_meet
      case rel => exact ⟨W.heap.size, [nilS, nilS, nilS, Value.slice Aa ka ca, .slice Ab l4 l4, nilS, nilS, nilS], rfl, Nat.le_refl _, rS', world_row3 Aa Ab ka ca l4 l4, row3_nil _ _, dS, KW.lit ((KA.kp (ChgS.of bb)).kp (ChgS.only oS (.inr rfl))) (KB.go (ChgS.only oS (.inr rfl)))⟩
    --E1
  case rest =>
  as_aux_lemma =>
  obtain ⟨wa, hwa⟩ : ∃ wa, wa = wc := ⟨_, rfl⟩
  subst hwa
  obtain ⟨g, r, rfl, hgW, hr, hsl, hnl, ba, hkw⟩ := hcut
  obtain ⟨ao, l, c, h0, ⟨rows, hrw, heach⟩⟩ := (unhide HKW).kw.accts
  have hlA : d.accts.length = l := by rw [← heach.len, hrw.now.len_eq]
  have hl : l ≤ 900000 := by have := hgood.na; omega
  have c0 : ∀ wz, Below W.heap.size W wz → wz.cell? ⟨bw, 0, none⟩ = some (.slice ao l c) := fun wz hz => by rw [(unhide HCS wz hz).cell]; exact h0
  have e0 := c0 wa ba
  have HC0 := hide c0
  have HAT := hide (rows_at' (zeroAcct []) hrw.now heach)
  have HNIL := hide hrw.now.nil
  obtain ⟨i0, hi0, hz0, hz1, hz2⟩ := info_parts infoAcct
  have HI0 := hide hi0
  have HZ0 := hide hz0
  have HZ1 := hide hz1
  have HZ2 := hide hz2
  have HR := hide hr
  have HSL := hide hsl
  have HK0 := hide hkw
  have HNL := hide hnl
  have hn := fun (wx : World) (x : Option Addr) (n c n' c' : Nat) => Lib.run_eql_slice_nil (P := Sakg.prog) wx 96 113 x n c n' c' Sakg.underlying96
  have hn2 := fun (wx : World) (x : Option Addr) (n c n' c' : Nat) => Lib.run_eql_slice_nil (P := Sakg.prog) wx 111 117 x n c n' c' Sakg.underlying111
  have hGa : Ther (Plus E g) wa := (hGW.go ba.size).plus hr.lt
  clear hi0 hz0 hz1 hz2 hr hsl h0 hrw c0 heach h3 h4 hkw hnl HNR HLG
  obtain ⟨d0, hd0⟩ : ∃ d0, d0 = (⟨[], [], [], d.refund, d.logs, [], [], []⟩ : WD) := ⟨_, rfl⟩
  rw [← hd0] at HK0
  have HD0 := hide hd0
  clear hd0
  go_upto_if 28 with fail
  go_cut [3] (fun s3 wd => ∃ (ga : Nat) (A : Option Addr), s3 = .pointer (some ⟨g, 0, none⟩) ∧ RowT 101 wd g (r.set 0 (.slice A l l)) ∧ Below W.heap.size W wd ∧ W.heap.size ≤ ga ∧ ga < wd.heap.size ∧ (0 < l → ga ≠ g) ∧ KW (Plus (Plus E g) ga) r d0 wd ∧ Made 113 24 (KAcct (Plus (Plus E g) ga) wd) d.accts A ga l 0 wd)
  case first =>
    cases ao with
    | none =>
      go_wp2_with fail
      go_meet
      case rel =>
        obtain ⟨rfl, -⟩ := unhide HNIL (by simp)
        have hs0 : r.set 0 (Value.slice none 0 0) = r := set_same (unhide HNL 0 (by omega) (by omega) (by omega))
        exact ⟨g, none, rfl, by rw [hs0]; exact unhide HR, ba, hgW, (unhide HR).lt, (fun h => by omega), (unhide HK0).to (plus_same (.inr rfl)), fun h => by omega⟩
    | some ad =>
      go_wp2_with (at_make; refine wpList_make_rows rfl _ _ 96 rfl 113 Sakg.underlying96 i0 _ 24 120 (unhide HI0) (unhide HZ0) (unhide HZ1) (unhide HZ2) _ _ l rfl rfl rfl rfl (by omega) (by omega) ?_; intro w2 zs hr2 hzl hb2 hs2; have HR2 := hide hr2; have HZL := hide hzl; have HB2 := hide hb2; have hq2 := (unhide HR).kept hb2; have hx2 : ∃ v, w2.cell? ⟨g, 0, none⟩ = some v := by { rw [hq2.cell, List.getElem?_eq_getElem (by rw [(unhide HSL).1]; omega)]; exact ⟨_, rfl⟩ }; obtain ⟨v2, hx2⟩ := hx2; have hf2 := hq2.froz 0; have HQ2 := hide hq2; clear hr2 hzl hb2 hq2)
      go_meet
      case rel =>
        have hgl := (unhide HR).lt
        have ho : Only g w2 (w2.setCell ⟨g, 0, none⟩ (Value.slice (some ⟨wa.heap.size, 0, none⟩) l l)) := (Only.refl g w2).setCell 0 _
        refine ⟨wa.heap.size, _, rfl, (unhide HQ2).set 0 _, (ba.trans ((unhide HB2).mono ba.size)).trans (ho.below _ hgW), ba.size, by rw [ho.size]; omega, (fun _ => by omega), (((unhide HK0).to (plus_new (Nat.le_refl _))).go (ChgS.of (unhide HB2))).go (ChgS.only ho (.inl (.inr rfl))), fun _ => ⟨rfl, Fill.start ((unhide HR2).only ho (by omega)) (unhide HZL)⟩⟩
  case rest =>
  obtain ⟨wb, hwb⟩ : ∃ wb, wb = wc := ⟨_, rfl⟩
  subst hwb
  obtain ⟨ga, Ag, rfl, hr1, bb, hgaW, hgal, hgag, hkw1, hmade⟩ := hcut
  obtain ⟨H1, hH1⟩ : ∃ H1, H1 = Plus (Plus E g) ga := ⟨_, rfl⟩
  rw [← hH1] at hkw1 hmade
  have hH1g : H1 g := by rw [hH1]; exact .inl (.inr rfl)
  have hH1a : H1 ga := by rw [hH1]; exact .inr rfl
  have hH1G : ∀ i, E i → H1 i := fun i hi => by rw [hH1]; exact .inl (.inl hi)
  have hT1 : Ther H1 wb := by rw [hH1]; exact ((hGW.go bb.size).plus hr1.lt).plus hgal
  have e1 := unhide HC0 wb bb
  have hr1l : (r.set 0 (Value.slice Ag l l)).length = 8 := by rw [List.length_set]; exact (unhide HSL).1
  have h10 : (r.set 0 (Value.slice Ag l l))[0]? = some (.slice Ag l l) := List.getElem?_set_self (by rw [(unhide HSL).1]; omega)
  have HR1 := hide hr1
  have HK1 := hide hkw1
  have HMADE := hide hmade
  clear hr1 hkw1 hmade HR e0 hGa
  obtain ⟨r1, hr1e⟩ : ∃ r1, r1 = r.set 0 (Value.slice Ag l l) := ⟨_, rfl⟩
  rw [← hr1e] at HR1 hr1l h10
  have HR1E := hide hr1e
  have H10 := hide h10
  clear hr1e h10 hH1
  go_wp2_with fail
  go_loopg [41] l (fun gk iv wr => ∃ i : Nat, i + gk = l ∧ iv = .int .i64 i ∧ RowT 101 wr g r1 ∧ Made 113 24 (KAcct H1 wr) d.accts Ag ga l i wr ∧ Below W.heap.size W wr ∧ ChgS H1 wb wr)
  case atStart => exact ⟨0, by omega, rfl, unhide HR1, unhide HMADE, bb, ChgS.refl _ _⟩
  case round =>
  obtain ⟨wo, hwo⟩ : ∃ wo, wo = wr := ⟨_, rfl⟩
  subst hwo
  obtain ⟨i, hi, rfl, hr2, hmade, hbe, hch⟩ := hrel
  have HR2 := hide hr2
  clear hr2 HR1 HMADE
  by_cases hil : i < l
  · as_aux_lemma =>
    obtain ⟨hAg, hfill⟩ := hmade (by omega)
    obtain ⟨b, off, rfl, hlt, hat⟩ := unhide HAT (by omega)
    obtain ⟨ri, hrg, hrow⟩ := hat i hil
    obtain ⟨o, ho⟩ : ∃ o, o = d.accts.getD i (zeroAcct []) := ⟨_, rfl⟩
    have hmem : o ∈ d.accts := by rw [ho, List.getD_eq_getElem?_getD, List.getElem?_eq_getElem (by omega)]; simp
    have hgo : GoodA o := hgood.acc.all o hmem
    have hbo : o.bal < BIG := Nat.lt_trans (hgood.acc.balK hgood.tot o hmem) p256_lt
    have hso : o.slots.length ≤ 900000 := by have h1 := hgood.sz; have h2 := szA_slots hmem; unfold szW at h1; omega
    rw [← ho] at hrow
    have hrl := hrow.now.len
    have hsz : (Sakg.prog.info? 113).map (·.size) = some ri.length := by rw [hrl]; exact sizeAcct
    have hrg2 := range_below hrg (unhide HWW wo hbe) (fun _ => hlt)
    have hZ24 : (bv (zeros 20) ++ [nilS, nilS, nilS, nilS]).length = 24 := by simp [bv_len, zeros_len]
    have hTo : Ther H1 wo := hT1.go hch.size
    have HFILL := hide hfill
    have HRG := hide hrg2
    have HROW := hide hrow
    have HSZ := hide hsz
    have HRL := hide hrl
    have HO := hide ho
    have HAG := hide hAg
    have HGO := hide hgo
    clear hfill hat hrg hrg2 hrow hsz hrl ho hmade hmem hAg hgo
    go_upto_region 7 with (first
      | ((with_reducible refine at_load 113 ?_); refine wpList_load_g (by rfl) 113 (.tmp 44) rfl b _ rfl ri _ (unhide HRG) Sakg.underlying113 rfl (unhide HSZ) ?_)
      | ((with_reducible refine at_alloc 113 ?_); refine wpList_alloc_g (by rfl) 113 rfl (bv (zeros 20) ++ [nilS, nilS, nilS, nilS]) 24 infoAcct2 hZ24 ?_)
      | ((with_reducible refine at_store 113 ?_); refine wpList_store_whole rfl 113 (.tmp 5) (.tmp 45) rfl _ _ _ ri rfl rfl (RowT.new _ _ _) (by rw [unhide HRL, hZ24]) (unhide HSZ) (unhide HROW).now.one ?_; intro w1 hr1 hon1; have hbb := box_below hon1; clear hon1))
    obtain ⟨A1, k1, c1, A2, k2, c2, A3, k3, c3, A4, k4, c4, q20, q21, q22, q23, s1, s2, s3, s4⟩ := (unhide HROW).cells
    have hia := (unhide HROW).now.addr
    have hbW1 : Below W.heap.size W w1 := hbe.trans (hbb.1.mono hbe.size)
    have hbx : ∀ wz, Below w1.heap.size w1 wz → RowT 113 wz wo.heap.size ri := fun wz hz => hr1.kept hz
    have hbX : ∀ wz, Below w1.heap.size w1 wz → Below w.heap.size w wz := fun wz hz => unhide HWW wz (hbW1.trans (hz.mono hbW1.size))
    have hN1 : ∀ wz, Below w1.heap.size w1 wz → IsNat wz A1 k1 c1 o.nonce := fun wz hz => (s1.kp (ChgS.of (hbX wz hz))).now
    have hN2 : ∀ wz, Below w1.heap.size w1 wz → IsNat wz A2 k2 c2 o.bal := fun wz hz => (s2.kp (ChgS.of (hbX wz hz))).now
    have hN3 : ∀ wz, Below w1.heap.size w1 wz → Src wz A3 k3 c3 o.code := fun wz hz => (s3.kp (ChgS.of (hbX wz hz))).now
    have hj3b : k3 ≤ 140737488355328 := by
      have h1 := s3.now.len_eq
      have h2 := (unhide HGO).code
      omega
    have hca : ∀ wz, Below w1.heap.size w1 wz → wz.rangeAt wo.heap.size 0 (bv o.addr) := fun wz hz => by have := (hbx wz hz).range 0 20; rwa [(unhide HROW).now.pre] at this
    obtain ⟨srows, sg1, sg2⟩ := s4
    have HSAT := hide (rows_at' ((0, 0) : Nat × Nat) sg1.now sg2)
    have HSNIL := hide sg1.now.nil
    have hlS : o.slots.length = k4 := by rw [← sg2.len, sg1.now.len_eq]
    have hk4 : k4 ≤ 900000 := by omega
    have hslf : ∀ j, (o.slots.getD j (0, 0)).1 < BIG ∧ (o.slots.getD j (0, 0)).2 < BIG := fun j => by
      rw [List.getD_eq_getElem?_getD]
      cases hx : o.slots[j]? with
      | none => exact ⟨big_pos, big_pos⟩
      | some x => exact ⟨Nat.lt_trans ((unhide HGO).slots x (List.mem_of_getElem? hx)).1 p256_lt, Nat.lt_trans ((unhide HGO).slots x (List.mem_of_getElem? hx)).2.1 p256_lt⟩
    have HSLF := hide hslf
    have HBX := hide hbx
    have HBBX := hide hbX
    have HN1 := hide hN1
    have HN2 := hide hN2
    have HN3 := hide hN3
    have HCA := hide hca
    have hu := Sakg.underlying26
    have hsz63 := hia.size
    have d1 : Below w1.heap.size w1 w1.drew := Quiet.below ⟨1, rfl⟩ _
    have HW1S := hide hbb.2
    have HBB := hide hbb.1
    have HQ23 := hide q23
    have hfn : o.nonce < BIG := nonce_big (unhide HGO).non
    have hT1w : Ther H1 w1 := hTo.go hbb.1.size
    clear hbx hbX hN1 hN2 hN3 hca hr1 hbb s1 s2 s3 sg1 sg2 hslf q23
    simp only [Act.put, List.setIfInBounds_toArray, List.set_cons_zero, List.set_cons_succ]
    have hbuild : ∀ (Aa Ab Ac : Option Addr) (ka ca kb cb kc cc : Nat) (wx : World), (Instr.build 113 #[(0, .agg (bv o.addr).toArray), (1, .slice Aa ka ca), (2, .slice Ab kb cb), (3, .slice Ac kc cc)]).run Sakg.prog wx = .ok (.agg (bv o.addr ++ [Value.slice Aa ka ca, .slice Ab kb cb, .slice Ac kc cc, nilS]).toArray) wx := fun Aa Ab Ac ka ca kb cb kc cc wx => run_acct4 wx o.addr hia _ _ _ rfl rfl rfl
    have HBUILD := hide hbuild
    clear hbuild
    go_cut [6] (fun s6 wc => ∃ (gX : Nat) (Aa Ab Ac : Option Addr) (ka ca kb cb kc cc : Nat), s6 = .pointer (some ⟨gX, 0, none⟩) ∧ w1.heap.size ≤ gX ∧ RowT 113 wc gX (bv o.addr ++ [Value.slice Aa ka ca, .slice Ab kb cb, .slice Ac kc cc, nilS]) ∧ KNat (Plus H1 gX) wc Aa ka ca o.nonce ∧ KNat (Plus H1 gX) wc Ab kb cb o.bal ∧ KSrc (Plus H1 gX) wc Ac kc cc o.code ∧ Below w1.heap.size w1 wc)
    case first =>
      --S2
      as_aux_lemma =>
      refine wp_region_noPanic ?_
      refine wp_region_held_drew (S := fun w' => Below w1.heap.size w1 w') (by kernel_rfl) (d1) (fun hHeld => ?_)
      refine held_takeD 0 (.pointer (some ⟨wo.heap.size, 0, none⟩)) (some 46) (by rfl) (by rfl) (by kernel_rfl) (by kernel_rfl) (by kernel_rfl) (fun _ _ _ h => h) (.inl ⟨by rfl, fun _ _ => by go_simp⟩) (hHeld) ?_
      simp only [Act.put, List.setIfInBounds_toArray, List.set_cons_zero, List.set_cons_succ]
      refine held_takeD 1 (.agg (bv o.addr).toArray) (some 47) (by rfl) (by rfl) (by kernel_rfl) (by kernel_rfl) (by kernel_rfl) (fun _ _ _ h => h) (yieldsIf_load_mid (by rfl) _ _ rfl _ _ rfl _ _ (fun wz hS => unhide HCA wz hS) hu rfl hsz63) (hHeld) ?_
      simp only [Act.put, List.setIfInBounds_toArray, List.set_cons_zero, List.set_cons_succ]
      refine held_takeD 2 (.pointer (some ⟨wo.heap.size, 20, none⟩)) (some 48) (by rfl) (by rfl) (by kernel_rfl) (by kernel_rfl) (by kernel_rfl) (fun _ _ _ h => h) (.inl ⟨by rfl, fun _ _ => by go_simp⟩) (hHeld) ?_
      simp only [Act.put, List.setIfInBounds_toArray, List.set_cons_zero, List.set_cons_succ]
      refine held_takeD 3 (.slice A1 k1 c1) (some 49) (by rfl) (by rfl) (by kernel_rfl) (by kernel_rfl) (by kernel_rfl) (fun _ _ _ h => h) (.inl ⟨by rfl, fun wS hS => by have hc : wS.cell? ⟨wo.heap.size, 20, none⟩ = some (.slice A1 k1 c1) := by { rw [(unhide HBX wS hS).cell]; exact q20 }; go_simp⟩) (hHeld) ?_
      simp only [Act.put, List.setIfInBounds_toArray, List.set_cons_zero, List.set_cons_succ]
      refine held_takeD 5 (.pointer (some ⟨wo.heap.size, 21, none⟩)) (some 51) (by rfl) (by rfl) (by kernel_rfl) (by kernel_rfl) (by kernel_rfl) (fun _ _ _ h => h) (.inl ⟨by rfl, fun _ _ => by go_simp⟩) (hHeld) ?_
      simp only [Act.put, List.setIfInBounds_toArray, List.set_cons_zero, List.set_cons_succ]
      refine held_takeD 6 (.slice A2 k2 c2) (some 52) (by rfl) (by rfl) (by kernel_rfl) (by kernel_rfl) (by kernel_rfl) (fun _ _ _ h => h) (.inl ⟨by rfl, fun wS hS => by have hc : wS.cell? ⟨wo.heap.size, 21, none⟩ = some (.slice A2 k2 c2) := by { rw [(unhide HBX wS hS).cell]; exact q21 }; go_simp⟩) (hHeld) ?_
      simp only [Act.put, List.setIfInBounds_toArray, List.set_cons_zero, List.set_cons_succ]
      refine held_takeD 8 (.pointer (some ⟨wo.heap.size, 22, none⟩)) (some 54) (by rfl) (by rfl) (by kernel_rfl) (by kernel_rfl) (by kernel_rfl) (fun _ _ _ h => h) (.inl ⟨by rfl, fun _ _ => by go_simp⟩) (hHeld) ?_
      simp only [Act.put, List.setIfInBounds_toArray, List.set_cons_zero, List.set_cons_succ]
      refine held_takeD 9 (.slice A3 k3 c3) (some 55) (by rfl) (by rfl) (by kernel_rfl) (by kernel_rfl) (by kernel_rfl) (fun _ _ _ h => h) (.inl ⟨by rfl, fun wS hS => by have hc : wS.cell? ⟨wo.heap.size, 22, none⟩ = some (.slice A3 k3 c3) := by { rw [(unhide HBX wS hS).cell]; exact q22 }; go_simp⟩) (hHeld) ?_
      simp only [Act.put, List.setIfInBounds_toArray, List.set_cons_zero, List.set_cons_succ]
      refine held_two 4 12 (by kernel_rfl) (by rfl) (by rfl) (fun K' hK' => ?_) (fun K' hK' => ?_)
      · go_simp
        refine (natOf_any A1 k1 c1 o.nonce w1.drew (unhide HN1 _ d1) hfn).mono ?_
        rintro e wa ⟨Aa, ka, ca, rfl, na, Na, ba⟩
        have da := d1.trans (ba.mono d1.size)
        have Ka : KNat H1 wa Aa ka ca o.nonce := StabS.nat na (Na.offS (hT1w.go (show w1.heap.size ≤ w1.drew.heap.size from Nat.le_refl _)) _)
        refine hK'.out _ _ (da) ?_
        clear hK' K'
        refine held_two 7 12 (by kernel_rfl) (by rfl) (by rfl) (fun K' hK' => ?_) (fun K' hK' => ?_)
        · go_simp
          refine (natOf_any A2 k2 c2 o.bal wa (unhide HN2 _ da) hbo).mono ?_
          rintro e wb ⟨Ab, kb, cb, rfl, nb, Nb, bb⟩
          have db := da.trans (bb.mono da.size)
          have Kb : KNat H1 wb Ab kb cb o.bal := StabS.nat nb (Nb.offS (hT1w.go (show w1.heap.size ≤ wa.heap.size from da.size)) _)
          refine hK'.out _ _ (db) ?_
          clear hK' K'
          refine held_two 10 12 (by kernel_rfl) (by rfl) (by rfl) (fun K' hK' => ?_) (fun K' hK' => ?_)
          · go_simp
            refine (bytesOf_any A3 k3 c3 o.code wb (unhide HN3 _ db) hj3b).mono ?_
            rintro e wc ⟨Ac, kc, rfl, nc, -, Nc, bc⟩
            have dc := db.trans (bc.mono db.size)
            have Kc : KSrc H1 wc Ac kc kc o.code := StabS.src nc (Nc.offS (hT1w.go (show w1.heap.size ≤ wb.heap.size from db.size)) _)
            refine hK'.out _ _ (dc) ?_
            clear hK' K'
            refine held_takeD 11 (.agg (bv o.addr ++ [Value.slice Aa ka ca, .slice Ab kb cb, .slice Ac kc kc, nilS]).toArray) (some 57) (by rfl) (by rfl) (by kernel_rfl) (by kernel_rfl) (by kernel_rfl) (fun _ _ _ h => h) (yieldsIf_build (by rfl) 113 [(0, .tmp 47), (1, .tmp 50), (2, .tmp 53), (3, .tmp 56)] rfl _ (fun wx => unhide HBUILD Aa Ab Ac ka ca kb cb kc kc wx)) dc ?_
            simp only [Act.put, List.setIfInBounds_toArray, List.set_cons_zero, List.set_cons_succ]
            refine held_one 12 (by kernel_rfl) (by rfl) (fun K' hK' => ?_)
            refine if_alloc (some 6) rfl 113 rfl (by rfl) _ 24 infoAcct2 (by simp [bv_len, zeros_len]) (fun wX rX bX sX => ?_)
            have dX := dc.trans (bX.mono dc.size)
            refine hK'.out _ _ (dX) ?_
            clear hK' K'
            simp only [Act.put, List.setIfInBounds_toArray, List.set_cons_zero, List.set_cons_succ]
            refine held_one 13 (by kernel_rfl) (by rfl) (fun K' hK' => ?_)
            refine if_store rfl (by rfl) 113 (.tmp 6) (.tmp 57) rfl (wc.heap.size) 0 113 _ (bv o.addr ++ [Value.slice Aa ka ca, .slice Ab kb cb, .slice Ac kc kc, nilS]) rfl rfl rX (by simp [bv_len, hia.len, zeros_len]) (by rw [show (bv o.addr ++ [Value.slice Aa ka ca, .slice Ab kb cb, .slice Ac kc kc, nilS]).length = 24 from by simp [bv_len, hia.len]]; exact sizeAcct) (row4_one _ _ _ _ (ka, ca, kb, cb, kc, kc)) (fun wS rS oS => ?_)
            have dS : Below w1.heap.size w1 wS := dX.trans (oS.below _ (dc.size))
            refine hK'.out _ _ (dS) ?_
            clear hK' K'
            refine wpAnyH_done (by kernel_rfl) ?_ _
            refine NoPanic.normal ?_
            rw [spl_all _ _ (by simp [bv_len, hia.len, zeros_len])] at rS
            go_wp2_with fail
            go_meet
            case rel => exact ⟨wc.heap.size, Aa, Ab, Ac, ka, ca, kb, cb, kc, kc, rfl, dc.size, rS, (((Ka.to (plus_new (g := wc.heap.size) ((bb.trans (bc.mono bb.size)).size))).kp (ChgS.of ((bb.trans (bc.mono bb.size)).trans (bX.mono (bb.trans (bc.mono bb.size)).size)))).kp (ChgS.only oS (.inr rfl))), (((Kb.to (plus_new (g := wc.heap.size) (bc.size))).kp (ChgS.of (bc.trans (bX.mono bc.size)))).kp (ChgS.only oS (.inr rfl))), (((Kc.to (plus_new (g := wc.heap.size) (Nat.le_refl _))).kp (ChgS.of bX)).kp (ChgS.only oS (.inr rfl))), dS⟩
          · refine if_alloc (some 6) rfl 113 rfl (by rfl) _ 24 infoAcct2 (by simp [bv_len, zeros_len]) (fun wX rX bX sX => ?_)
            have dX := db.trans (bX.mono db.size)
            refine hK'.out _ _ (dX) ?_
            clear hK' K'
            simp only [Act.put, List.setIfInBounds_toArray, List.set_cons_zero, List.set_cons_succ]
            refine held_one 10 (by kernel_rfl) (by rfl) (fun K' hK' => ?_)
            go_simp
            refine (bytesOf_any A3 k3 c3 o.code wX (unhide HN3 _ dX) hj3b).mono ?_
            rintro e wc ⟨Ac, kc, rfl, nc, -, Nc, bc⟩
            have dc := dX.trans (bc.mono dX.size)
            have Kc : KSrc (Plus H1 (wb.heap.size)) wc Ac kc kc o.code := StabS.src nc (Nc.offS ((hT1w.go (show w1.heap.size ≤ wX.heap.size from dX.size)).plus (show wb.heap.size < wX.heap.size from (by have e0 : w1.drew.heap.size = w1.heap.size := rfl; have hx := rX.lt; omega))) _)
            refine hK'.out _ _ (dc) ?_
            clear hK' K'
            refine held_takeD 11 (.agg (bv o.addr ++ [Value.slice Aa ka ca, .slice Ab kb cb, .slice Ac kc kc, nilS]).toArray) (some 57) (by rfl) (by rfl) (by kernel_rfl) (by kernel_rfl) (by kernel_rfl) (fun _ _ _ h => h) (yieldsIf_build (by rfl) 113 [(0, .tmp 47), (1, .tmp 50), (2, .tmp 53), (3, .tmp 56)] rfl _ (fun wx => unhide HBUILD Aa Ab Ac ka ca kb cb kc kc wx)) dc ?_
            simp only [Act.put, List.setIfInBounds_toArray, List.set_cons_zero, List.set_cons_succ]
            refine held_one 13 (by kernel_rfl) (by rfl) (fun K' hK' => ?_)
            refine if_store rfl (by rfl) 113 (.tmp 6) (.tmp 57) rfl (wb.heap.size) 0 113 _ (bv o.addr ++ [Value.slice Aa ka ca, .slice Ab kb cb, .slice Ac kc kc, nilS]) rfl rfl (rX.kept bc) (by simp [bv_len, hia.len, zeros_len]) (by rw [show (bv o.addr ++ [Value.slice Aa ka ca, .slice Ab kb cb, .slice Ac kc kc, nilS]).length = 24 from by simp [bv_len, hia.len]]; exact sizeAcct) (row4_one _ _ _ _ (ka, ca, kb, cb, kc, kc)) (fun wS rS oS => ?_)
            have dS : Below w1.heap.size w1 wS := dc.trans (oS.below _ (db.size))
            refine hK'.out _ _ (dS) ?_
            clear hK' K'
            refine wpAnyH_done (by kernel_rfl) ?_ _
            refine NoPanic.normal ?_
            rw [spl_all _ _ (by simp [bv_len, hia.len, zeros_len])] at rS
            go_wp2_with fail
            go_meet
            case rel => exact ⟨wb.heap.size, Aa, Ab, Ac, ka, ca, kb, cb, kc, kc, rfl, db.size, rS, (((Ka.to (plus_new (g := wb.heap.size) (bb.size))).kp (ChgS.of ((bb.trans (bX.mono bb.size)).trans (bc.mono (bb.trans (bX.mono bb.size)).size)))).kp (ChgS.only oS (.inr rfl))), (((Kb.to (plus_new (g := wb.heap.size) (Nat.le_refl _))).kp (ChgS.of (bX.trans (bc.mono bX.size)))).kp (ChgS.only oS (.inr rfl))), (Kc.kp (ChgS.only oS (.inr rfl))), dS⟩
        · refine if_alloc (some 6) rfl 113 rfl (by rfl) _ 24 infoAcct2 (by simp [bv_len, zeros_len]) (fun wX rX bX sX => ?_)
          have dX := da.trans (bX.mono da.size)
          refine hK'.out _ _ (dX) ?_
          clear hK' K'
          simp only [Act.put, List.setIfInBounds_toArray, List.set_cons_zero, List.set_cons_succ]
          refine held_one 7 (by kernel_rfl) (by rfl) (fun K' hK' => ?_)
          go_simp
          refine (natOf_any A2 k2 c2 o.bal wX (unhide HN2 _ dX) hbo).mono ?_
          rintro e wb ⟨Ab, kb, cb, rfl, nb, Nb, bb⟩
          have db := dX.trans (bb.mono dX.size)
          have Kb : KNat (Plus H1 (wa.heap.size)) wb Ab kb cb o.bal := StabS.nat nb (Nb.offS ((hT1w.go (show w1.heap.size ≤ wX.heap.size from dX.size)).plus (show wa.heap.size < wX.heap.size from (by have e0 : w1.drew.heap.size = w1.heap.size := rfl; have hx := rX.lt; omega))) _)
          refine hK'.out _ _ (db) ?_
          clear hK' K'
          refine held_one 10 (by kernel_rfl) (by rfl) (fun K' hK' => ?_)
          go_simp
          refine (bytesOf_any A3 k3 c3 o.code wb (unhide HN3 _ db) hj3b).mono ?_
          rintro e wc ⟨Ac, kc, rfl, nc, -, Nc, bc⟩
          have dc := db.trans (bc.mono db.size)
          have Kc : KSrc (Plus H1 (wa.heap.size)) wc Ac kc kc o.code := StabS.src nc (Nc.offS ((hT1w.go (show w1.heap.size ≤ wb.heap.size from db.size)).plus (show wa.heap.size < wb.heap.size from (by have e0 : w1.drew.heap.size = w1.heap.size := rfl; have hx := rX.lt; have hb := bb.size; omega))) _)
          refine hK'.out _ _ (dc) ?_
          clear hK' K'
          refine held_takeD 11 (.agg (bv o.addr ++ [Value.slice Aa ka ca, .slice Ab kb cb, .slice Ac kc kc, nilS]).toArray) (some 57) (by rfl) (by rfl) (by kernel_rfl) (by kernel_rfl) (by kernel_rfl) (fun _ _ _ h => h) (yieldsIf_build (by rfl) 113 [(0, .tmp 47), (1, .tmp 50), (2, .tmp 53), (3, .tmp 56)] rfl _ (fun wx => unhide HBUILD Aa Ab Ac ka ca kb cb kc kc wx)) dc ?_
          simp only [Act.put, List.setIfInBounds_toArray, List.set_cons_zero, List.set_cons_succ]
          refine held_one 13 (by kernel_rfl) (by rfl) (fun K' hK' => ?_)
          refine if_store rfl (by rfl) 113 (.tmp 6) (.tmp 57) rfl (wa.heap.size) 0 113 _ (bv o.addr ++ [Value.slice Aa ka ca, .slice Ab kb cb, .slice Ac kc kc, nilS]) rfl rfl (rX.kept (bb.trans (bc.mono bb.size))) (by simp [bv_len, hia.len, zeros_len]) (by rw [show (bv o.addr ++ [Value.slice Aa ka ca, .slice Ab kb cb, .slice Ac kc kc, nilS]).length = 24 from by simp [bv_len, hia.len]]; exact sizeAcct) (row4_one _ _ _ _ (ka, ca, kb, cb, kc, kc)) (fun wS rS oS => ?_)
          have dS : Below w1.heap.size w1 wS := dc.trans (oS.below _ (da.size))
          refine hK'.out _ _ (dS) ?_
          clear hK' K'
          refine wpAnyH_done (by kernel_rfl) ?_ _
          refine NoPanic.normal ?_
          rw [spl_all _ _ (by simp [bv_len, hia.len, zeros_len])] at rS
          go_wp2_with fail
          go_meet
          case rel => exact ⟨wa.heap.size, Aa, Ab, Ac, ka, ca, kb, cb, kc, kc, rfl, da.size, rS, (((Ka.to (plus_new (g := wa.heap.size) (Nat.le_refl _))).kp (ChgS.of ((bX.trans (bb.mono bX.size)).trans (bc.mono (bX.trans (bb.mono bX.size)).size)))).kp (ChgS.only oS (.inr rfl))), ((Kb.kp (ChgS.of bc)).kp (ChgS.only oS (.inr rfl))), (Kc.kp (ChgS.only oS (.inr rfl))), dS⟩
      · refine if_alloc (some 6) rfl 113 rfl (by rfl) _ 24 infoAcct2 (by simp [bv_len, zeros_len]) (fun wX rX bX sX => ?_)
        have dX := d1.trans (bX.mono d1.size)
        refine hK'.out _ _ (dX) ?_
        clear hK' K'
        simp only [Act.put, List.setIfInBounds_toArray, List.set_cons_zero, List.set_cons_succ]
        refine held_one 4 (by kernel_rfl) (by rfl) (fun K' hK' => ?_)
        go_simp
        refine (natOf_any A1 k1 c1 o.nonce wX (unhide HN1 _ dX) hfn).mono ?_
        rintro e wa ⟨Aa, ka, ca, rfl, na, Na, ba⟩
        have da := dX.trans (ba.mono dX.size)
        have Ka : KNat (Plus H1 (w1.heap.size)) wa Aa ka ca o.nonce := StabS.nat na (Na.offS ((hT1w.go (show w1.heap.size ≤ wX.heap.size from dX.size)).plus (show w1.heap.size < wX.heap.size from (by have e0 : w1.drew.heap.size = w1.heap.size := rfl; have hx := rX.lt; omega))) _)
        refine hK'.out _ _ (da) ?_
        clear hK' K'
        refine held_one 7 (by kernel_rfl) (by rfl) (fun K' hK' => ?_)
        go_simp
        refine (natOf_any A2 k2 c2 o.bal wa (unhide HN2 _ da) hbo).mono ?_
        rintro e wb ⟨Ab, kb, cb, rfl, nb, Nb, bb⟩
        have db := da.trans (bb.mono da.size)
        have Kb : KNat (Plus H1 (w1.heap.size)) wb Ab kb cb o.bal := StabS.nat nb (Nb.offS ((hT1w.go (show w1.heap.size ≤ wa.heap.size from da.size)).plus (show w1.heap.size < wa.heap.size from (by have e0 : w1.drew.heap.size = w1.heap.size := rfl; have hx := rX.lt; have ha := ba.size; omega))) _)
        refine hK'.out _ _ (db) ?_
        clear hK' K'
        refine held_one 10 (by kernel_rfl) (by rfl) (fun K' hK' => ?_)
        go_simp
        refine (bytesOf_any A3 k3 c3 o.code wb (unhide HN3 _ db) hj3b).mono ?_
        rintro e wc ⟨Ac, kc, rfl, nc, -, Nc, bc⟩
        have dc := db.trans (bc.mono db.size)
        have Kc : KSrc (Plus H1 (w1.heap.size)) wc Ac kc kc o.code := StabS.src nc (Nc.offS ((hT1w.go (show w1.heap.size ≤ wb.heap.size from db.size)).plus (show w1.heap.size < wb.heap.size from (by have e0 : w1.drew.heap.size = w1.heap.size := rfl; have hx := rX.lt; have ha := ba.size; have hb := bb.size; omega))) _)
        refine hK'.out _ _ (dc) ?_
        clear hK' K'
        refine held_takeD 11 (.agg (bv o.addr ++ [Value.slice Aa ka ca, .slice Ab kb cb, .slice Ac kc kc, nilS]).toArray) (some 57) (by rfl) (by rfl) (by kernel_rfl) (by kernel_rfl) (by kernel_rfl) (fun _ _ _ h => h) (yieldsIf_build (by rfl) 113 [(0, .tmp 47), (1, .tmp 50), (2, .tmp 53), (3, .tmp 56)] rfl _ (fun wx => unhide HBUILD Aa Ab Ac ka ca kb cb kc kc wx)) dc ?_
        simp only [Act.put, List.setIfInBounds_toArray, List.set_cons_zero, List.set_cons_succ]
        refine held_one 13 (by kernel_rfl) (by rfl) (fun K' hK' => ?_)
        refine if_store rfl (by rfl) 113 (.tmp 6) (.tmp 57) rfl (w1.heap.size) 0 113 _ (bv o.addr ++ [Value.slice Aa ka ca, .slice Ab kb cb, .slice Ac kc kc, nilS]) rfl rfl (rX.kept ((ba.trans (bb.mono ba.size)).trans (bc.mono (ba.trans (bb.mono ba.size)).size))) (by simp [bv_len, hia.len, zeros_len]) (by rw [show (bv o.addr ++ [Value.slice Aa ka ca, .slice Ab kb cb, .slice Ac kc kc, nilS]).length = 24 from by simp [bv_len, hia.len]]; exact sizeAcct) (row4_one _ _ _ _ (ka, ca, kb, cb, kc, kc)) (fun wS rS oS => ?_)
        have dS : Below w1.heap.size w1 wS := dc.trans (oS.below _ (Nat.le_refl _))
        refine hK'.out _ _ (dS) ?_
        clear hK' K'
        refine wpAnyH_done (by kernel_rfl) ?_ _
        refine NoPanic.normal ?_
        rw [spl_all _ _ (by simp [bv_len, hia.len, zeros_len])] at rS
        go_wp2_with fail
        go_meet
        case rel => exact ⟨w1.heap.size, Aa, Ab, Ac, ka, ca, kb, cb, kc, kc, rfl, Nat.le_refl _, rS, ((Ka.kp (ChgS.of (bb.trans (bc.mono bb.size)))).kp (ChgS.only oS (.inr rfl))), ((Kb.kp (ChgS.of bc)).kp (ChgS.only oS (.inr rfl))), (Kc.kp (ChgS.only oS (.inr rfl))), dS⟩
      --E2
    case rest =>
    as_aux_lemma =>
    obtain ⟨w4, hw4⟩ : ∃ w4, w4 = wc := ⟨_, rfl⟩
    subst hw4
    obtain ⟨gX, Aa, Ab, Ac, ka, ca, kb, cb, kc, cc, rfl, hgX, rX, KA, KB, KC, b4⟩ := hcut
    have e23 : ∀ wz, Below w1.heap.size w1 wz → wz.cell? ⟨wo.heap.size, 23, none⟩ = some (.slice A4 k4 c4) := fun wz hz => by rw [(unhide HBX wz hz).cell]; exact unhide HQ23
    have f23 := e23 w4 b4
    have HE23 := hide e23
    have hxl := acct_cells o.addr hia (.slice Aa ka ca) (.slice Ab kb cb) (.slice Ac kc cc) nilS
    have hx23 := acct_23 o.addr hia (.slice Aa ka ca) (.slice Ab kb cb) (.slice Ac kc cc) nilS
    have hxs : ∀ u, (bv o.addr ++ [Value.slice Aa ka ca, .slice Ab kb cb, .slice Ac kc cc, nilS]).set 23 u = bv o.addr ++ [Value.slice Aa ka ca, .slice Ab kb cb, .slice Ac kc cc, u] := fun u => acct_set23 o.addr hia _ _ _ _ u
    obtain ⟨xr, hxr⟩ : ∃ xr, xr = bv o.addr ++ [Value.slice Aa ka ca, .slice Ab kb cb, .slice Ac kc cc, nilS] := ⟨_, rfl⟩
    rw [← hxr] at rX hxl hx23
    simp only [← hxr] at hxs
    have HTRI : Hid (Tri (Plus H1 gX) w4 Aa Ab Ac ka ca kb cb kc cc o) := hide ⟨KA, KB, KC⟩
    have RX := hide rX
    have HXL := hide hxl
    have HX23 := hide hx23
    have HXS := hide hxs
    obtain ⟨i1, hi1, hy0, hy1, hy2⟩ := info_parts infoSlot3
    have HI1 := hide hi1
    have HY0 := hide hy0
    have HY1 := hide hy1
    have HY2 := hide hy2
    clear e23 rX hxl hx23 hxs hxr hi1 hy0 hy1 hy2 HN1 HN2 HN3 HCA HBUILD KA KB KC
    go_upto_if 60 with fail
    go_cut [6] (fun s6 wd => ∃ (gs : Nat) (As : Option Addr), s6 = .pointer (some ⟨gX, 0, none⟩) ∧ RowT 113 wd gX (xr.set 23 (.slice As k4 k4)) ∧ Below w1.heap.size w1 wd ∧ w1.heap.size ≤ gs ∧ gs < wd.heap.size ∧ (0 < k4 → gs ≠ gX) ∧ Tri (Plus (Plus H1 gX) gs) wd Aa Ab Ac ka ca kb cb kc cc o ∧ Made 117 2 (KSlot (Plus (Plus H1 gX) gs) wd) o.slots As gs k4 0 wd)
    case first =>
      cases A4 with
      | none =>
        go_wp2_with fail
        go_meet
        case rel =>
          obtain ⟨rfl, -⟩ := unhide HSNIL (by simp)
          have hs0 : xr.set 23 (Value.slice none 0 0) = xr := set_same (unhide HX23)
          exact ⟨gX, none, rfl, by rw [hs0]; exact unhide RX, b4, hgX, (unhide RX).lt, (fun h => by omega), (unhide HTRI).to (plus_same (.inr rfl)), fun h => by omega⟩
      | some ad =>
        go_wp2_with (at_make; refine wpList_make_rows rfl _ _ 111 rfl 117 Sakg.underlying111 i1 _ 2 48 (unhide HI1) (unhide HY0) (unhide HY1) (unhide HY2) _ _ k4 rfl rfl rfl rfl (by omega) (by omega) ?_; intro w2 ys hr2 hzl hb2 hs2; have HR2' := hide hr2; have HZL' := hide hzl; have HB2 := hide hb2; have hq2 := (unhide RX).kept hb2; have hx2 : ∃ v, w2.cell? ⟨gX, 23, none⟩ = some v := by { rw [hq2.cell, List.getElem?_eq_getElem (by rw [unhide HXL]; omega)]; exact ⟨_, rfl⟩ }; obtain ⟨v2, hx2⟩ := hx2; have hf2 := hq2.froz 23; have HQ2 := hide hq2; clear hr2 hzl hb2 hq2)
        go_meet
        case rel =>
          have hgl := (unhide RX).lt
          have ho : Only gX w2 (w2.setCell ⟨gX, 23, none⟩ (Value.slice (some ⟨w4.heap.size, 0, none⟩) k4 k4)) := (Only.refl gX w2).setCell 23 _
          exact ⟨w4.heap.size, _, rfl, (unhide HQ2).set 23 _, (b4.trans ((unhide HB2).mono b4.size)).trans (ho.below _ hgX), b4.size, by rw [ho.size]; omega, (fun _ => by omega), (((unhide HTRI).to (plus_new (Nat.le_refl _))).go (ChgS.of (unhide HB2))).go (ChgS.only ho (.inl (.inr rfl))), fun _ => ⟨rfl, Fill.start ((unhide HR2').only ho (by omega)) (unhide HZL')⟩⟩
    case rest =>
    as_aux_lemma =>
    obtain ⟨w5, hw5⟩ : ∃ w5, w5 = wc := ⟨_, rfl⟩
    subst hw5
    obtain ⟨gs, As, rfl, rX, b5, hgs1, hgsl, hgsX, tri5, hmade5⟩ := hcut
    obtain ⟨H3, hH3⟩ : ∃ H3, H3 = Plus (Plus H1 gX) gs := ⟨_, rfl⟩
    rw [← hH3] at tri5 hmade5
    have hH3X : H3 gX := by rw [hH3]; exact .inl (.inr rfl)
    have hH3s : H3 gs := by rw [hH3]; exact .inr rfl
    have hH31 : ∀ i, H1 i → H3 i := fun i hi => by rw [hH3]; exact .inl (.inl hi)
    have hT3 : Ther H3 w5 := by rw [hH3]; exact ((hT1w.go b5.size).plus rX.lt).plus hgsl
    have f23' := unhide HE23 w5 b5
    rw [unhide HXS] at rX
    have hx1l := acct_cells o.addr hia (.slice Aa ka ca) (.slice Ab kb cb) (.slice Ac kc cc) (.slice As k4 k4)
    have hx1g := acct_23 o.addr hia (.slice Aa ka ca) (.slice Ab kb cb) (.slice Ac kc cc) (.slice As k4 k4)
    obtain ⟨x1, hx1⟩ : ∃ x1, x1 = bv o.addr ++ [Value.slice Aa ka ca, .slice Ab kb cb, .slice Ac kc cc, .slice As k4 k4] := ⟨_, rfl⟩
    have hx1o : ∀ v ∈ x1, v.oneCell' = true := by
      rw [hx1]; intro v hv
      rcases List.mem_append.1 hv with h | h
      · exact bv_one _ v h
      · simp at h; rcases h with rfl | rfl | rfl | rfl <;> rfl
    rw [← hx1] at rX hx1l hx1g
    have RX1 := hide rX
    have HX1 := hide hx1
    have HX1L := hide hx1l
    have HX1G := hide hx1g
    have HX1O := hide hx1o
    have HTRI5 := hide tri5
    have HM5 := hide hmade5
    clear rX hx1 hx1l hx1g hx1o tri5 hmade5 f23 RX HXL HX23 HXS HTRI hH3
    go_wp2_with fail
    go_loopg [69] k4 (fun gk iv wr => ∃ j : Nat, j + gk = k4 ∧ iv = .int .i64 j ∧ RowT 113 wr gX x1 ∧ Made 117 2 (KSlot H3 wr) o.slots As gs k4 j wr ∧ Below w1.heap.size w1 wr ∧ ChgS H3 w5 wr)
    case atStart => exact ⟨0, by omega, rfl, unhide RX1, unhide HM5, b5, ChgS.refl _ _⟩
    case round =>
      obtain ⟨j, hj, rfl, rX, hmj, hbr, hcr⟩ := hrel
      by_cases hjl : j < k4
      · as_aux_lemma =>
        obtain ⟨hAs, hfj⟩ := hmj (by omega)
        subst hAs
        obtain ⟨bs, offs, rfl, hlts, hats⟩ := unhide HSAT (by omega)
        obtain ⟨rs, hrgs, hrs⟩ := hats j hjl
        have hsl2 := unhide HSLF j
        obtain ⟨sl, hsl⟩ : ∃ sl, sl = o.slots.getD j (0, 0) := ⟨_, rfl⟩
        rw [← hsl] at hrs hsl2
        obtain ⟨Ak, kk, ck, Av, kv, cv, rfl, nk, nv⟩ := hrs
        have hrg3 := range_below hrgs (unhide HBBX wr hbr) (fun _ => hlts)
        have hss : (Sakg.prog.info? 117).map (·.size) = some [Value.slice Ak kk ck, .slice Av kv cv].length := sizeSlot
        have HRG3 := hide hrg3
        have HSL2 := hide hsl
        have HFJ := hide hfj
        have RXr := hide rX
        have NK := hide nk
        have NV := hide nv
        have hones := row2_one Ak Av kk ck kv cv
        have hTr : Ther H3 wr := hT3.go hcr.size
        clear hats hrgs hrg3 hsl hfj rX nk nv hmj HM5
        go_upto_region 13 with (first
          | ((with_reducible refine at_load 117 ?_); refine wpList_load_g (by rfl) 117 (.tmp 72) rfl bs _ rfl [Value.slice Ak kk ck, .slice Av kv cv] _ (unhide HRG3) Sakg.underlying117 rfl hss ?_)
          | ((with_reducible refine at_alloc 117 ?_); refine wpList_alloc_g (by rfl) 117 rfl [nilS, nilS] 2 infoSlot2c rfl ?_)
          | ((with_reducible refine at_store 117 ?_); refine wpList_store_whole rfl 117 (.tmp 8) (.tmp 73) rfl _ _ _ [Value.slice Ak kk ck, .slice Av kv cv] rfl rfl (RowT.new _ _ _) rfl hss hones ?_; intro w3 hr3 hon3; have hbb3 := box_below hon3; clear hon3))
        simp only [Act.put, List.setIfInBounds_toArray, List.set_cons_zero, List.set_cons_succ]
        have hb3 : Below w1.heap.size w1 w3 := hbr.trans (hbb3.1.mono hbr.size)
        have d3 : Below w3.heap.size w3 w3.drew := Quiet.below ⟨1, rfl⟩ _
        have hss2 : ∀ wz, Below w3.heap.size w3 wz → RowT 113 wz gX x1 ∧ RowT 117 wz wr.heap.size [Value.slice Ak kk ck, .slice Av kv cv] := fun wz hz => ⟨((unhide RXr).kept hbb3.1).kept hz, hr3.kept hz⟩
        have HSS2 := hide hss2
        have hnks : ∀ wz, Below w3.heap.size w3 wz → IsNat wz Ak kk ck sl.1 ∧ IsNat wz Av kv cv sl.2 := fun wz hz => ⟨((unhide NK).kp (ChgS.of (unhide HBBX wz (hb3.trans (hz.mono hb3.size))))).now, ((unhide NV).kp (ChgS.of (unhide HBBX wz (hb3.trans (hz.mono hb3.size))))).now⟩
        have HNKS := hide hnks
        have HFJ3 := hide ((unhide HFJ).go (R' := KSlot H3 w3) (fun _ _ h => h.go (ChgS.of hbb3.1)) (fun zs hz => hz.kept hbb3.1))
        have hT3w : Ther H3 w3 := hTr.go hbb3.1.size
        have hgsl : gs < wr.heap.size := (unhide HFJ).lt
        have hzb := hbb3.2
        have hs3 := hbb3.1.size
        have hc3 : ChgS H3 w5 w3 := hcr.trans (ChgS.of hbb3.1)
        obtain ⟨ys, hys, hyl⟩ := (unhide HFJ3).room hjl
        have HYR3 := hide hys
        have y0 : x1[23]? = some (.slice (some ⟨gs, 0, none⟩) k4 k4) := unhide HX1G
        have Y0 := hide y0
        clear hr3 hbb3 hss2 hnks hys y0 HFJ
        refine wp_region_noPanic ?_
        refine wp_region_held_drew (S := fun w' => RowT 113 w' gX x1 ∧ RowT 117 w' wr.heap.size [Value.slice Ak kk ck, .slice Av kv cv]) (by kernel_rfl) (unhide HSS2 _ d3) (fun hHeld => ?_)
        refine held_takeD 0 (.pointer (some ⟨gX, 23, none⟩)) (some 74) (by rfl) (by rfl) (by kernel_rfl) (by kernel_rfl) (by kernel_rfl) (fun _ _ _ h => h) (.inl ⟨by rfl, fun _ _ => by go_simp⟩) (hHeld) ?_
        simp only [Act.put, List.setIfInBounds_toArray, List.set_cons_zero, List.set_cons_succ]
        refine held_takeD 1 (.slice (some ⟨gs, 0, none⟩) k4 k4) (some 75) (by rfl) (by rfl) (by kernel_rfl) (by kernel_rfl) (by kernel_rfl) (fun _ _ _ h => h) (.inl ⟨by rfl, fun wS hS => by have hc : wS.cell? ⟨gX, 23, none⟩ = some (.slice (some ⟨gs, 0, none⟩) k4 k4) := by { rw [hS.1.cell]; exact unhide Y0 }; go_simp⟩) (hHeld) ?_
        simp only [Act.put, List.setIfInBounds_toArray, List.set_cons_zero, List.set_cons_succ]
        refine held_takeD 2 (.int .i64 j) (some 76) (by rfl) (by rfl) (by kernel_rfl) (by kernel_rfl) (by kernel_rfl) (fun _ _ _ h => h) (.inl ⟨by rfl, fun _ _ => by rfl⟩) (hHeld) ?_
        simp only [Act.put, List.setIfInBounds_toArray, List.set_cons_zero, List.set_cons_succ]
        refine held_takeD 3 (.pointer (some ⟨wr.heap.size, 0, none⟩)) (some 77) (by rfl) (by rfl) (by kernel_rfl) (by kernel_rfl) (by kernel_rfl) (fun _ _ _ h => h) (.inl ⟨by rfl, fun _ _ => by go_simp⟩) (hHeld) ?_
        simp only [Act.put, List.setIfInBounds_toArray, List.set_cons_zero, List.set_cons_succ]
        refine held_takeD 4 (.slice Ak kk ck) (some 78) (by rfl) (by rfl) (by kernel_rfl) (by kernel_rfl) (by kernel_rfl) (fun _ _ _ h => h) (.inl ⟨by rfl, fun wS hS => by have hc : wS.cell? ⟨wr.heap.size, 0, none⟩ = some (.slice Ak kk ck) := by { rw [hS.2.cell]; rfl }; go_simp⟩) (hHeld) ?_
        simp only [Act.put, List.setIfInBounds_toArray, List.set_cons_zero, List.set_cons_succ]
        refine held_takeD 6 (.pointer (some ⟨wr.heap.size, 1, none⟩)) (some 80) (by rfl) (by rfl) (by kernel_rfl) (by kernel_rfl) (by kernel_rfl) (fun _ _ _ h => h) (.inl ⟨by rfl, fun _ _ => by go_simp⟩) (hHeld) ?_
        simp only [Act.put, List.setIfInBounds_toArray, List.set_cons_zero, List.set_cons_succ]
        refine held_takeD 7 (.slice Av kv cv) (some 81) (by rfl) (by rfl) (by kernel_rfl) (by kernel_rfl) (by kernel_rfl) (fun _ _ _ h => h) (.inl ⟨by rfl, fun wS hS => by have hc : wS.cell? ⟨wr.heap.size, 1, none⟩ = some (.slice Av kv cv) := by { rw [hS.2.cell]; rfl }; go_simp⟩) (hHeld) ?_
        simp only [Act.put, List.setIfInBounds_toArray, List.set_cons_zero, List.set_cons_succ]
        refine held_one 5 (by kernel_rfl) (by rfl) (fun K' hK' => ?_)
        go_simp
        refine (natOf_any Ak kk ck sl.1 _ (unhide HNKS _ d3).1 hsl2.1).mono ?_
        rintro e w6 ⟨Ba, ka', ca', rfl, n6, N6, b6⟩
        refine hK'.out _ _ (unhide HSS2 _ (d3.trans (b6.mono d3.size))) ?_
        clear hK' K'
        have d6 := d3.trans (b6.mono d3.size)
        refine held_one 8 (by kernel_rfl) (by rfl) (fun K' hK' => ?_)
        go_simp
        refine (natOf_any Av kv cv sl.2 _ (unhide HNKS _ d6).2 hsl2.2).mono ?_
        rintro e w7 ⟨Bb, kb', cb', rfl, n7, N7, b7⟩
        refine hK'.out _ _ (unhide HSS2 _ (d6.trans (b7.mono d6.size))) ?_
        clear hK' K'
        have d7 := d6.trans (b7.mono d6.size)
        have hrowN : KSlot H3 w7 [Value.slice Ba ka' ca', .slice Bb kb' cb'] sl := ⟨Ba, ka', ca', Bb, kb', cb', rfl, StabS.kp (StabS.nat n6 (N6.offS (hT3w.go d3.size) _)) (ChgS.of b7), StabS.nat n7 (N7.offS (hT3w.go d6.size) _)⟩
        have HROWN := hide hrowN
        clear hrowN n6 n7
        refine held_takeD 9 (.agg [Value.slice Ba ka' ca', .slice Bb kb' cb'].toArray) (some 83) (by rfl) (by rfl) (by kernel_rfl) (by kernel_rfl) (by kernel_rfl) (fun _ _ _ h => h) (yieldsIf_build (by rfl) 117 [(0, .tmp 79), (1, .tmp 82)] rfl _ (fun wx => run_slot2 Ba Bb ka' ca' kb' cb' wx)) (unhide HSS2 _ d7) ?_
        simp only [Act.put, List.setIfInBounds_toArray, List.set_cons_zero, List.set_cons_succ]
        refine held_takeD 10 (.pointer (some ⟨gs, j * 2, none⟩)) (some 84) (by rfl) (by rfl) (by kernel_rfl) (by kernel_rfl) (by kernel_rfl) (fun _ _ _ h => h) (.inl ⟨by rfl, fun _ _ => by go_simp⟩) (unhide HSS2 _ d7) ?_
        simp only [Act.put, List.setIfInBounds_toArray, List.set_cons_zero, List.set_cons_succ]
        refine held_store 11 (by kernel_rfl) (by rfl) rfl (by rfl) 117 (.tmp 84) (.tmp 83) rfl gs (j * 2) 117 ys [Value.slice Ba ka' ca', .slice Bb kb' cb'] rfl rfl ((unhide HYR3).kept d7) hyl sizeSlot (row2_one _ _ _ _ _ _) ?_
        intro wS rS oS
        have rSX := ((unhide HSS2 _ d7).1).only oS (by omega)
        have rSb := ((unhide HSS2 _ d7).2).only oS (by omega)
        refine ⟨⟨rSX, rSb⟩, ?_⟩
        refine wpAnyH_done (by kernel_rfl) ?_ _
        refine NoPanic.normal ?_
        have bS : Below w1.heap.size w1 wS := (hb3.trans (d7.mono hb3.size)).trans (oS.below _ hgs1)
        have hcS : ChgS H3 w7 wS := ChgS.only oS hH3s
        have hc3S : ChgS H3 w3 wS := (ChgS.of d7).trans hcS
        have hFn : Fill 117 2 (KSlot H3 wS) o.slots gs k4 (j + 1) wS := (unhide HFJ3).next hjl _ rfl (0, 0) (by omega) (fun _ _ h => h.go hc3S) (by rw [← unhide HSL2]; exact (unhide HROWN).go hcS) (fun zs hz => by rw [hz.inj (unhide HYR3)]; exact rS)
        have HFN := hide hFn
        have RSX := hide rSX
        clear rS rSX rSb hFn
        go_wp2
        go_roundg (k4 - 1 - j)
        case measure => omega
        case rel => exact ⟨j + 1, by omega, rfl, unhide RSX, fun _ => ⟨rfl, unhide HFN⟩, bS, hc3.trans hc3S⟩
      · -- the account is laid
        as_aux_lemma =>
        obtain rfl : j = k4 := by omega
        have hbO : Below wo.heap.size wo wr := (unhide HBB).trans (hbr.mono (unhide HBB).size)
        have hr2 := (unhide HR2).kept hbO
        have ec0 : wr.cell? ⟨g, 0, none⟩ = some (.slice (some ⟨ga, 0, none⟩) l l) := by rw [hr2.cell, ← unhide HAG]; exact unhide H10
        have hxs : (Sakg.prog.info? 113).map (·.size) = some x1.length := by rw [unhide HX1L]; exact sizeAcct
        obtain ⟨srows', sr1, sr2⟩ := hmj.done hlS (by unfold maxLen; omega) (H := H1) (fun _ hg => by have := hT1w _ hg; omega)
        have hH31' : ∀ i, H1 i → i < wr.heap.size → H3 i := fun i hi _ => hH31 i hi
        have hrowA : KAcct H1 wr x1 o := by
          rw [unhide HX1]
          have t := ((unhide HTRI5).go hcr).to hH31'
          exact ⟨Aa, ka, ca, Ab, kb, cb, Ac, kc, cc, As, j, j, rfl, hia, t.1, t.2.1, t.2.2, srows', sr1, sr2.imp fun _ _ h => h.to hH31'⟩
        have HROWA := hide hrowA
        have HFO := hide ((unhide HFILL).go (R' := KAcct H1 wr) (fun _ _ h => h.go (ChgS.of hbO)) (fun zs hz => hz.kept hbO))
        obtain ⟨zs, hz, hzl⟩ := (unhide HFO).room hil
        have HXS := hide hxs
        have HRA := hide rX.rangeAll
        have HZRr := hide hz
        have HR2r := hide hr2
        have hil24 : i * 24 + x1.length ≤ zs.length := by rw [unhide HX1L]; exact hzl
        have hgal2 : ga < wo.heap.size := (unhide HFILL).lt
        clear rX hz hr2 hxs hmj sr1 sr2 hrowA HM5
        go_wp2_with (first
          | ((with_reducible refine at_load 113 ?_); refine wpList_load_g (by rfl) 113 (.tmp 6) rfl gX _ rfl x1 _ (unhide HRA) Sakg.underlying113 rfl (unhide HXS) ?_)
          | ((with_reducible refine at_store 113 ?_); refine wpList_store_part rfl 113 (.tmp 90) (.tmp 89) rfl ga (i * 24) 113 zs x1 (by first | rfl | simp) rfl (unhide HZRr) hil24 (unhide HXS) (unhide HX1O) ?_; intro w8 hr8 ho8))
        have hWr : Below W.heap.size W wr := hbe.trans (hbO.mono hbe.size)
        have bW8 : Below W.heap.size W w8 := hWr.trans (ho8.below _ hgaW)
        have r28 := (unhide HR2r).only ho8 (fun e => hgag (by omega) e.symm)
        have hcA : ChgS H1 wr w8 := ChgS.only ho8 hH1a
        have hFn : Fill 113 24 (KAcct H1 w8) d.accts ga l (i + 1) w8 := (unhide HFO).next hil x1 (unhide HX1L) (zeroAcct []) (by omega) (fun _ _ h => h.go hcA) (by rw [← unhide HO]; exact (unhide HROWA).go hcA) (fun zs' hz' => by rw [hz'.inj (unhide HZRr)]; exact hr8)
        go_roundg (l - 1 - i)
        case measure => omega
        case rel => exact ⟨i + 1, by omega, rfl, r28, fun _ => ⟨unhide HAG, hFn⟩, bW8, hch.trans ((ChgS.of hbO).trans hcA)⟩
  · --S3
    as_aux_lemma =>
    have hil2 : i = l := by omega
    have hmade' : Made 113 24 (KAcct H1 wo) d.accts Ag ga l l wo := by rw [hil2] at hmade; exact hmade
    have hPT : Ther (Plus E g) wo := (hGW.go hbe.size).plus (unhide HR2).lt
    obtain ⟨P, hP⟩ : ∃ P, P = Plus E g := ⟨_, rfl⟩
    rw [← hP] at hPT
    have hPg : P g := by rw [hP]; exact .inr rfl
    have hPw : P w.heap.size := by rw [hP]; exact .inl hEw
    have hGP : ∀ i, G i → P i := fun i hi => by rw [hP]; exact .inl (hGE i hi)
    have hPW : ∀ j, P j → j < W.heap.size → E j := fun j hj hl => by rw [hP] at hj; exact plus_new hgW j hj hl
    have hPH : ∀ j, P j → j < wo.heap.size → H1 j := fun j hj _ => by rw [hP] at hj; exact hj.elim (hH1G j) (fun e => e ▸ hH1g)
    have hPga : 0 < l → ¬ P ga := fun h0 hp => by
      rw [hP] at hp
      rcases hp with hp | hp
      · have := hGW _ hp; omega
      · exact hgag h0 hp
    have hPno : ∀ j, P j → ¬ j < W.heap.size → j ≠ g → False := fun j hj hl hn => by
      rw [hP] at hj
      rcases hj with hj | hj
      · exact hl (hGW _ hj)
      · exact hn hj
    have hPlt : ∀ j, P j → ∀ {wz : World} {rz : List Value}, Below W.heap.size W wz → RowT 101 wz g rz → ¬ j < W.heap.size → j < wz.heap.size := fun j hj wz rz hb hr hl => by
      rw [hP] at hj
      rcases hj with hj | hj
      · exact absurd (hGW _ hj) hl
      · rw [hj]; exact hr.lt
    obtain ⟨arows, ar1, ar2⟩ := hmade'.done hlA (by unfold maxLen; omega) (H := P) hPga
    have hacc : KAccts P wo Ag l l d.accts := ⟨arows, ar1, ar2.imp fun _ _ h => h.to hPH⟩
    have hko : KW P r1 ⟨d.accts, [], [], d.refund, d.logs, [], [], []⟩ wo := by
      have hk2 := (((unhide HK1).go hch).to hPH).set0 hacc (by rw [(unhide HSL).1]; omega)
      rw [unhide HD0, ← unhide HR1E] at hk2
      exact hk2
    have hsl1 : Slices 8 r1 := by rw [unhide HR1E]; exact (unhide HSL).set 0 _ _ _
    have hnl1 : ∀ i, i < 8 → i ≠ 0 → i ≠ 3 → i ≠ 4 → r1[i]? = some nilS := fun i h1 h2 h3 h4 => by
      rw [unhide HR1E, List.getElem?_set_ne (Ne.symm h2)]
      exact unhide HNL i h1 h3 h4
    obtain ⟨aw, lw, cw, h1, nA⟩ := (unhide HKW).kw.warmA
    obtain ⟨ab, lb, cb, h6, nD⟩ := (unhide HKW).kw.made
    obtain ⟨ae, le, ce, h7, nE⟩ := (unhide HKW).kw.gone
    obtain ⟨aT, lT, cT, h5, ⟨trows, htr, hte⟩⟩ := (unhide HKW).kw.temps
    obtain ⟨aM, lM, cM, h2, ⟨mrows, hmr, hme⟩⟩ := (unhide HKW).kw.warmS
    have hlT : d.temps.length = lT := by rw [← hte.len, htr.now.len_eq]
    have hlM : d.warmS.length = lM := by rw [← hme.len, hmr.now.len_eq]
    have hlT9 : lT ≤ 900000 := by have := hgood.nt; omega
    have hlM9 : lM ≤ 900000 := by have := hgood.nm; omega
    have hce : ∀ wz, Below W.heap.size W wz → ∀ i v, cs[i]? = some v → wz.cell? ⟨bw, i, none⟩ = some v := fun wz hz i v hv => by rw [(unhide HCS wz hz).cell]; exact hv
    have hc1 : ∀ wz, Below W.heap.size W wz → Calls Sakg.prog 295 #[.slice aw lw cw] wz (CopiesA wz d.warmA) := fun wz hz => addrsOf_any aw lw cw d.warmA wz (nA.kp (ChgS.of (unhide HWW wz hz))).now (by have := nA.now.len; have := hgood.nw; omega)
    have hc6 : ∀ wz, Below W.heap.size W wz → Calls Sakg.prog 295 #[.slice ab lb cb] wz (CopiesA wz d.made) := fun wz hz => addrsOf_any ab lb cb d.made wz (nD.kp (ChgS.of (unhide HWW wz hz))).now (by have := nD.now.len; have := hgood.nd; omega)
    have hc7 : ∀ wz, Below W.heap.size W wz → Calls Sakg.prog 295 #[.slice ae le ce] wz (CopiesA wz d.gone) := fun wz hz => addrsOf_any ae le ce d.gone wz (nE.kp (ChgS.of (unhide HWW wz hz))).now (by have := nE.now.len; have := hgood.ng; omega)
    have HC1 := hide hc1
    have HC6 := hide hc6
    have HC7 := hide hc7
    have CE1 : Hid (∀ wz, Below W.heap.size W wz → wz.cell? ⟨bw, 1, none⟩ = some (.slice aw lw cw)) := hide fun wz hz => hce wz hz 1 _ h1
    have CE6 : Hid (∀ wz, Below W.heap.size W wz → wz.cell? ⟨bw, 6, none⟩ = some (.slice ab lb cb)) := hide fun wz hz => hce wz hz 6 _ h6
    have CE7 : Hid (∀ wz, Below W.heap.size W wz → wz.cell? ⟨bw, 7, none⟩ = some (.slice ae le ce)) := hide fun wz hz => hce wz hz 7 _ h7
    have CE5 : Hid (∀ wz, Below W.heap.size W wz → wz.cell? ⟨bw, 5, none⟩ = some (.slice aT lT cT)) := hide fun wz hz => hce wz hz 5 _ h5
    have CE2 : Hid (∀ wz, Below W.heap.size W wz → wz.cell? ⟨bw, 2, none⟩ = some (.slice aM lM cM)) := hide fun wz hz => hce wz hz 2 _ h2
    have HTAT := hide (rows_at' (⟨[], 0, 0⟩ : YTemp) htr.now hte)
    have HTNIL := hide htr.now.nil
    have HMAT := hide (rows_at' (([], 0) : YMark) hmr.now hme)
    have HMNIL := hide hmr.now.nil
    have hnT := fun (wx : World) (x : Option Addr) (n c n' c' : Nat) => Lib.run_eql_slice_nil (P := Sakg.prog) wx 99 363 x n c n' c' Sakg.underlying99
    have hnM := fun (wx : World) (x : Option Addr) (n c n' c' : Nat) => Lib.run_eql_slice_nil (P := Sakg.prog) wx 98 288 x n c n' c' Sakg.underlying98
    have HKo := hide hko
    have HSLo := hide hsl1
    have HNLo := hide hnl1
    have HRo := HR2
    have hPTo := hPT
    have hbo := hbe
    have HGP := hide hGP
    have hn1 := fun (_ : Unit) => r1
    clear hn1 h1 h6 h7 h5 h2 hmr hme htr hte hce hc1 hc6 hc7 nA nD nE e1 hn hn2 HAT HNIL HI0 HZ0 HZ1 HZ2 hmade hmade' hacc ar1 ar2 hko hsl1 hnl1 HR2 hP hPH hPga hPT hil2 hGP hch HK1 HNL H10 hr1l
    have ecp := unhide CE1 wo hbo
    go_upto_region 18 with (go_at_call 295; refine (unhide HC1 wo hbo).mono ?_; rintro e wp ⟨Ap, kp, cp, rfl, ap, Np, bp⟩; have hqp := (unhide HRo).kept bp; have hxp : ∃ v, wp.cell? ⟨g, 1, none⟩ = some v := by { rw [hqp.cell, List.getElem?_eq_getElem (by rw [(unhide HSLo).1]; omega)]; exact ⟨_, rfl⟩ }; obtain ⟨vp, hxp⟩ := hxp; have hfp := hqp.froz 1; have HQp := hide hqp; have HAp := hide ap; clear hqp ap)
    obtain ⟨xp, hxpe⟩ : ∃ x, x = wp.setCell ⟨g, 1, none⟩ (.slice Ap kp cp) := ⟨_, rfl⟩
    have hop : Only g wp xp := by rw [hxpe]; exact (Only.refl g _).setCell _ _
    have hrp : RowT 101 xp g (r1.set 1 (.slice Ap kp cp)) := by rw [hxpe]; exact (unhide HQp).set 1 _
    have hbp : Below W.heap.size W xp := (hbo.trans (bp.mono hbo.size)).trans (hop.below _ hgW)
    have hcp : ChgS P wo xp := (ChgS.of bp).trans (ChgS.only hop hPg)
    have hKp : KW P (r1.set 1 (.slice Ap kp cp)) ⟨d.accts, d.warmA, [], d.refund, d.logs, [], [], []⟩ xp := ((unhide HKo).go hcp).set1 (KAddrs.go (KAddrs.of (unhide HAp) (Np.offS hPTo _)) (ChgS.only hop hPg)) (by rw [(unhide HSLo).1]; omega)
    have hslp := (unhide HSLo).set 1 Ap kp cp
    have hnlp : ∀ i, i < 8 → i ≠ 0 → i ≠ 3 → i ≠ 4 → i ≠ 1 → (r1.set 1 (.slice Ap kp cp))[i]? = some nilS := fun i hi k0 k3 k4 k1 => by
      rw [List.getElem?_set_ne (Ne.symm k1)]
      exact unhide HNLo i hi k0 k3 k4
    obtain ⟨rp, hrpe⟩ : ∃ r', r' = r1.set 1 (.slice Ap kp cp) := ⟨_, rfl⟩
    rw [← hrpe] at hrp hKp hslp
    simp only [← hrpe] at hnlp
    have hPTp : Ther P xp := hPTo.go hcp.size
    rw [← hxpe]
    have HRp := hide hrp
    have HKp := hide hKp
    have HSLp := hide hslp
    have HNLp := hide hnlp
    clear hrp hKp hslp hnlp hrpe hxpe hxp hfp HQp HAp hop hcp ecp HRo HKo HSLo HNLo
    have ecq := unhide CE6 xp hbp
    go_upto_region 19 with (go_at_call 295; refine (unhide HC6 xp hbp).mono ?_; rintro e wq ⟨Aq, kq, cq, rfl, aq, Nq, bq⟩; have hqq := (unhide HRp).kept bq; have hxq : ∃ v, wq.cell? ⟨g, 6, none⟩ = some v := by { rw [hqq.cell, List.getElem?_eq_getElem (by rw [(unhide HSLp).1]; omega)]; exact ⟨_, rfl⟩ }; obtain ⟨vq, hxq⟩ := hxq; have hfq := hqq.froz 6; have HQq := hide hqq; have HAq := hide aq; clear hqq aq)
    obtain ⟨xq, hxqe⟩ : ∃ x, x = wq.setCell ⟨g, 6, none⟩ (.slice Aq kq cq) := ⟨_, rfl⟩
    have hoq : Only g wq xq := by rw [hxqe]; exact (Only.refl g _).setCell _ _
    have hrq : RowT 101 xq g (rp.set 6 (.slice Aq kq cq)) := by rw [hxqe]; exact (unhide HQq).set 6 _
    have hbq : Below W.heap.size W xq := (hbp.trans (bq.mono hbp.size)).trans (hoq.below _ hgW)
    have hcq : ChgS P xp xq := (ChgS.of bq).trans (ChgS.only hoq hPg)
    have hKq : KW P (rp.set 6 (.slice Aq kq cq)) ⟨d.accts, d.warmA, [], d.refund, d.logs, [], d.made, []⟩ xq := ((unhide HKp).go hcq).set6 (KAddrs.go (KAddrs.of (unhide HAq) (Nq.offS hPTp _)) (ChgS.only hoq hPg)) (by rw [(unhide HSLp).1]; omega)
    have hslq := (unhide HSLp).set 6 Aq kq cq
    have hnlq : ∀ i, i < 8 → i ≠ 0 → i ≠ 3 → i ≠ 4 → i ≠ 1 → i ≠ 6 → (rp.set 6 (.slice Aq kq cq))[i]? = some nilS := fun i hi k0 k3 k4 k1 k6 => by
      rw [List.getElem?_set_ne (Ne.symm k6)]
      exact unhide HNLp i hi k0 k3 k4 k1
    obtain ⟨rq, hrqe⟩ : ∃ r', r' = rp.set 6 (.slice Aq kq cq) := ⟨_, rfl⟩
    rw [← hrqe] at hrq hKq hslq
    simp only [← hrqe] at hnlq
    have hPTq : Ther P xq := hPTp.go hcq.size
    rw [← hxqe]
    have HRq := hide hrq
    have HKq := hide hKq
    have HSLq := hide hslq
    have HNLq := hide hnlq
    clear hrq hKq hslq hnlq hrqe hxqe hxq hfq HQq HAq hoq hcq ecq HRp HKp HSLp HNLp
    have ecj := unhide CE7 xq hbq
    go_upto_region 20 with (go_at_call 295; refine (unhide HC7 xq hbq).mono ?_; rintro e wj ⟨Aj, kj, cj, rfl, aj, Nj, bj⟩; have hqj := (unhide HRq).kept bj; have hxj : ∃ v, wj.cell? ⟨g, 7, none⟩ = some v := by { rw [hqj.cell, List.getElem?_eq_getElem (by rw [(unhide HSLq).1]; omega)]; exact ⟨_, rfl⟩ }; obtain ⟨vj, hxj⟩ := hxj; have hfj := hqj.froz 7; have HQj := hide hqj; have HAj := hide aj; clear hqj aj)
    obtain ⟨xj, hxje⟩ : ∃ x, x = wj.setCell ⟨g, 7, none⟩ (.slice Aj kj cj) := ⟨_, rfl⟩
    have hoj : Only g wj xj := by rw [hxje]; exact (Only.refl g _).setCell _ _
    have hrj : RowT 101 xj g (rq.set 7 (.slice Aj kj cj)) := by rw [hxje]; exact (unhide HQj).set 7 _
    have hbj : Below W.heap.size W xj := (hbq.trans (bj.mono hbq.size)).trans (hoj.below _ hgW)
    have hcj : ChgS P xq xj := (ChgS.of bj).trans (ChgS.only hoj hPg)
    have hKj : KW P (rq.set 7 (.slice Aj kj cj)) ⟨d.accts, d.warmA, [], d.refund, d.logs, [], d.made, d.gone⟩ xj := ((unhide HKq).go hcj).set7 (KAddrs.go (KAddrs.of (unhide HAj) (Nj.offS hPTq _)) (ChgS.only hoj hPg)) (by rw [(unhide HSLq).1]; omega)
    have hslj := (unhide HSLq).set 7 Aj kj cj
    have hnlj : ∀ i, i < 8 → i ≠ 0 → i ≠ 3 → i ≠ 4 → i ≠ 1 → i ≠ 6 → i ≠ 7 → (rq.set 7 (.slice Aj kj cj))[i]? = some nilS := fun i hi k0 k3 k4 k1 k6 k7 => by
      rw [List.getElem?_set_ne (Ne.symm k7)]
      exact unhide HNLq i hi k0 k3 k4 k1 k6
    obtain ⟨rj, hrje⟩ : ∃ r', r' = rq.set 7 (.slice Aj kj cj) := ⟨_, rfl⟩
    rw [← hrje] at hrj hKj hslj
    simp only [← hrje] at hnlj
    have hPTj : Ther P xj := hPTq.go hcj.size
    rw [← hxje]
    have HRj := hide hrj
    have HKj := hide hKj
    have HSLj := hide hslj
    have HNLj := hide hnlj
    clear hrj hKj hslj hnlj hrje hxje hxj hfj HQj HAj hoj hcj ecj HRq HKq HSLq HNLq
    as_aux_lemma =>
    obtain ⟨jt, hit, hv0t, hv1t, hv2t⟩ := info_parts infoTemp
    have HIt := hide hit
    have HV0t := hide hv0t
    have HV1t := hide hv1t
    have HV2t := hide hv2t
    have ect := unhide CE5 xj hbj
    clear hit hv0t hv1t hv2t
    go_upto_if 114 with fail
    go_cut [3] (fun s3 wd => ∃ (gt : Nat) (At : Option Addr), s3 = .pointer (some ⟨g, 0, none⟩) ∧ RowT 101 wd g (rj.set 5 (.slice At lT lT)) ∧ Below W.heap.size W wd ∧ W.heap.size ≤ gt ∧ gt < wd.heap.size ∧ (0 < lT → gt ≠ g) ∧ KW (Plus P gt) rj ⟨d.accts, d.warmA, [], d.refund, d.logs, [], d.made, d.gone⟩ wd ∧ Made 363 22 (KTemp (Plus P gt) wd) d.temps At gt lT 0 wd)
    case first =>
      cases aT with
      | none =>
        go_wp2_with fail
        go_meet
        case rel =>
          obtain ⟨rfl, -⟩ := unhide HTNIL (by simp)
          have hs0 : rj.set 5 (Value.slice none 0 0) = rj := set_same (unhide HNLj 5 (by omega) (by omega) (by omega) (by omega) (by omega) (by omega) (by omega))
          exact ⟨g, none, rfl, by rw [hs0]; exact unhide HRj, hbj, hgW, (unhide HRj).lt, (fun h => by omega), (unhide HKj).to (plus_same hPg), fun h => by omega⟩
      | some ad =>
        go_wp2_with (at_make; refine wpList_make_rows rfl _ _ 99 rfl 363 Sakg.underlying99 jt _ 22 72 (unhide HIt) (unhide HV0t) (unhide HV1t) (unhide HV2t) _ _ lT rfl rfl rfl rfl (by omega) (by omega) ?_; intro w2 ys hr2 hzl hb2 hs2; have HRm := hide hr2; have HZLm := hide hzl; have HB2 := hide hb2; have hq2 := (unhide HRj).kept hb2; have hx2 : ∃ v, w2.cell? ⟨g, 5, none⟩ = some v := by { rw [hq2.cell, List.getElem?_eq_getElem (by rw [(unhide HSLj).1]; omega)]; exact ⟨_, rfl⟩ }; obtain ⟨v2, hx2⟩ := hx2; have hf2 := hq2.froz 5; have HQ2 := hide hq2; clear hr2 hzl hb2 hq2)
        go_meet
        case rel =>
          have hgl := (unhide HRj).lt
          have ho : Only g w2 (w2.setCell ⟨g, 5, none⟩ (Value.slice (some ⟨xj.heap.size, 0, none⟩) lT lT)) := (Only.refl g w2).setCell 5 _
          exact ⟨xj.heap.size, _, rfl, (unhide HQ2).set 5 _, (hbj.trans ((unhide HB2).mono hbj.size)).trans (ho.below _ hgW), hbj.size, by rw [ho.size]; omega, (fun _ => by omega), (((unhide HKj).to (plus_new (Nat.le_refl _))).go (ChgS.of (unhide HB2))).go (ChgS.only ho (.inl hPg)), fun _ => ⟨rfl, Fill.start ((unhide HRm).only ho (by omega)) (unhide HZLm)⟩⟩
    case rest =>
    as_aux_lemma =>
    obtain ⟨wAt, hwAt⟩ : ∃ wA, wA = wc := ⟨_, rfl⟩
    subst hwAt
    obtain ⟨gt, Agt, rfl, hrt, bAt, hgtW, hgtl, hgtg, hkAt, hmAt⟩ := hcut
    have hxtg : (rj.set 5 (Value.slice Agt lT lT))[5]? = some (.slice Agt lT lT) := List.getElem?_set_self (by rw [(unhide HSLj).1]; omega)
    have hslt := (unhide HSLj).set 5 Agt lT lT
    obtain ⟨rt, hrte⟩ : ∃ r', r' = rj.set 5 (Value.slice Agt lT lT) := ⟨_, rfl⟩
    rw [← hrte] at hrt hxtg hslt
    obtain ⟨Qt, hQt⟩ : ∃ Q, Q = Plus P gt := ⟨_, rfl⟩
    rw [← hQt] at hkAt hmAt
    have hQtg : Qt g := by rw [hQt]; exact .inl hPg
    have hQtt : Qt gt := by rw [hQt]; exact .inr rfl
    have hPQt : ∀ i, P i → Qt i := fun i hi => by rw [hQt]; exact .inl hi
    have hTPt : Ther P wAt := fun i hi => by
      by_cases hl : i < W.heap.size
      · exact Nat.lt_of_lt_of_le hl bAt.size
      · exact hPlt i hi bAt hrt hl
    have hTt : Ther Qt wAt := by rw [hQt]; exact hTPt.plus hgtl
    have ect' := unhide CE5 wAt bAt
    have HRt0 := hide hrt
    have HXtG := hide hxtg
    have HSLt := hide hslt
    have HKAt := hide hkAt
    have HMAt := hide hmAt
    have HRtE := hide hrte
    have hZt : (bv (zeros 20) ++ [nilS, nilS]).length = 22 := by simp [bv_len, zeros_len]
    clear hrt hxtg hslt hkAt hmAt hrte hQt ect HRj
    go_wp2_with fail
    go_loopg [127] lT (fun gk iv wr => ∃ i : Nat, i + gk = lT ∧ iv = .int .i64 i ∧ RowT 101 wr g rt ∧ Made 363 22 (KTemp Qt wr) d.temps Agt gt lT i wr ∧ Below W.heap.size W wr ∧ ChgS Qt wAt wr)
    case atStart => exact ⟨0, by omega, rfl, unhide HRt0, unhide HMAt, bAt, ChgS.refl _ _⟩
    case round =>
    obtain ⟨wrt, hwrt⟩ : ∃ wo, wo = wr := ⟨_, rfl⟩
    subst hwrt
    obtain ⟨it, hit, rfl, hrr, hmm, hbet, hcht⟩ := hrel
    have HRR := hide hrr
    clear hrr HMAt HRt0
    by_cases hilt : it < lT
    · as_aux_lemma =>
      obtain ⟨hAg, hfj⟩ := hmm (by omega)
      subst hAg
      obtain ⟨b, off, rfl, hlt, hat⟩ := unhide HTAT (by omega)
      obtain ⟨ri, hrg, hrow⟩ := hat it hilt
      obtain ⟨x, hx⟩ : ∃ o, o = d.temps.getD it (⟨[], 0, 0⟩ : YTemp) := ⟨_, rfl⟩
      rw [← hx] at hrow
      have hrl := hrow.len
      have hri1 := hrow.one
      have hpre := hrow.pre
      have hia := hrow.isAddr
      obtain ⟨Ak, kk, ck, Av, kv, cv, q20, q21, nk, nv, hkb, hvb⟩ := hrow.cells
      have NV := hide nv
      have Q21 := hide q21
      clear nv q21
      have hsz : (Sakg.prog.info? 363).map (·.size) = some ri.length := by rw [hrl]; exact sizeTemp
      have hrg2 := range_below hrg (unhide HWW wrt hbet) (fun _ => hlt)
      have hTr : Ther Qt wrt := hTt.go hcht.size
      have hgtlr : gt < wrt.heap.size := hfj.lt
      have HFJ := hide hfj
      have HRG := hide hrg2
      have HSZ := hide hsz
      have HRL := hide hrl
      have HONE := hide hri1
      have NK := hide nk
      have HPRE := hide hpre
      have Q20 := hide q20
      have HX := hide hx
      clear hat hrg hrg2 hrow hsz hrl hx hmm hri1 nk hpre q20 hfj
      go_upto_region 25 with (first
        | ((with_reducible refine at_load 363 ?_); refine wpList_load_g (by rfl) 363 (.tmp 130) rfl b _ rfl ri _ (unhide HRG) Sakg.underlying363 rfl (unhide HSZ) ?_)
        | ((with_reducible refine at_alloc 363 ?_); refine wpList_alloc_g (by rfl) 363 rfl (bv (zeros 20) ++ [nilS, nilS]) 22 infoTemp2 hZt ?_)
        | ((with_reducible refine at_store 363 ?_); refine wpList_store_whole rfl 363 (.tmp 10) (.tmp 131) rfl _ _ _ ri rfl rfl (RowT.new _ _ _) (by rw [unhide HRL, hZt]) (unhide HSZ) (unhide HONE) ?_; intro w3 hr3 hon3; have hbb3 := box_below hon3; clear hon3))
      simp only [Act.put, List.setIfInBounds_toArray, List.set_cons_zero, List.set_cons_succ]
      have hb3 : Below W.heap.size W w3 := hbet.trans (hbb3.1.mono hbet.size)
      have d3 : Below w3.heap.size w3 w3.drew := Quiet.below ⟨1, rfl⟩ _
      have hrt3 := (unhide HRR).kept hbb3.1
      have hss2 : ∀ wz, Below w3.heap.size w3 wz → RowT 101 wz g rt ∧ RowT 363 wz wrt.heap.size ri := fun wz hz => ⟨hrt3.kept hz, hr3.kept hz⟩
      have HSS2 := hide hss2
      have hkn : ∀ wz, Below w3.heap.size w3 wz → ChgS G w wz := fun wz hz => ChgS.of (unhide HWW _ (hb3.trans (hz.mono hb3.size)))
      have HKN := hide hkn
      have hu := Sakg.underlying26
      have hsz63 := hia.size
      have HFJ3 := hide ((unhide HFJ).go (R' := KTemp Qt w3) (fun _ _ h => h.go (ChgS.of hbb3.1)) (fun zs hz => hz.kept hbb3.1))
      have hT3 : Ther Qt w3 := hTr.go hbb3.1.size
      have hc3 : ChgS Qt wAt w3 := hcht.trans (ChgS.of hbb3.1)
      have hs3 := hbb3.2
      obtain ⟨zs, hzs, hzl⟩ := (unhide HFJ3).room hilt
      have HZR3 := hide hzs
      have hg3l := hrt3.lt
      clear hr3 hbb3 hss2 hrt3 hkn hzs HFJ
      refine wp_region_noPanic ?_
      refine wp_region_held_drew (S := fun w' => RowT 101 w' g rt ∧ RowT 363 w' wrt.heap.size ri) (by kernel_rfl) (unhide HSS2 _ d3) (fun hHeld => ?_)
      refine held_takeD 0 (.pointer (some ⟨g, 5, none⟩)) (some 132) (by rfl) (by rfl) (by kernel_rfl) (by kernel_rfl) (by kernel_rfl) (fun _ _ _ h => h) (.inl ⟨by rfl, fun _ _ => by go_simp⟩) (hHeld) ?_
      simp only [Act.put, List.setIfInBounds_toArray, List.set_cons_zero, List.set_cons_succ]
      refine held_takeD 1 (.slice (some ⟨gt, 0, none⟩) lT lT) (some 133) (by rfl) (by rfl) (by kernel_rfl) (by kernel_rfl) (by kernel_rfl) (fun _ _ _ h => h) (.inl ⟨by rfl, fun wS hS => by have hc : wS.cell? ⟨g, 5, none⟩ = some (.slice (some ⟨gt, 0, none⟩) lT lT) := by { rw [hS.1.cell]; exact unhide HXtG }; go_simp⟩) (hHeld) ?_
      simp only [Act.put, List.setIfInBounds_toArray, List.set_cons_zero, List.set_cons_succ]
      refine held_takeD 2 (.int .i64 it) (some 134) (by rfl) (by rfl) (by kernel_rfl) (by kernel_rfl) (by kernel_rfl) (fun _ _ _ h => h) (.inl ⟨by rfl, fun _ _ => by rfl⟩) (hHeld) ?_
      simp only [Act.put, List.setIfInBounds_toArray, List.set_cons_zero, List.set_cons_succ]
      refine held_takeD 3 (.pointer (some ⟨wrt.heap.size, 0, none⟩)) (some 135) (by rfl) (by rfl) (by kernel_rfl) (by kernel_rfl) (by kernel_rfl) (fun _ _ _ h => h) (.inl ⟨by rfl, fun _ _ => by go_simp⟩) (hHeld) ?_
      simp only [Act.put, List.setIfInBounds_toArray, List.set_cons_zero, List.set_cons_succ]
      refine held_takeD 4 (.agg (bv x.addr).toArray) (some 136) (by rfl) (by rfl) (by kernel_rfl) (by kernel_rfl) (by kernel_rfl) (fun _ _ _ h => h) (yieldsIf_load_mid (by rfl) _ _ rfl _ _ rfl _ _ (fun wz hS => (by have := hS.2.range 0 20; rwa [unhide HPRE] at this)) hu rfl hsz63) (hHeld) ?_
      simp only [Act.put, List.setIfInBounds_toArray, List.set_cons_zero, List.set_cons_succ]
      refine held_takeD 5 (.pointer (some ⟨wrt.heap.size, 20, none⟩)) (some 137) (by rfl) (by rfl) (by kernel_rfl) (by kernel_rfl) (by kernel_rfl) (fun _ _ _ h => h) (.inl ⟨by rfl, fun _ _ => by go_simp⟩) (hHeld) ?_
      simp only [Act.put, List.setIfInBounds_toArray, List.set_cons_zero, List.set_cons_succ]
      refine held_takeD 6 (.slice Ak kk ck) (some 138) (by rfl) (by rfl) (by kernel_rfl) (by kernel_rfl) (by kernel_rfl) (fun _ _ _ h => h) (.inl ⟨by rfl, fun wS hS => by have hc : wS.cell? ⟨wrt.heap.size, 20, none⟩ = some (.slice Ak kk ck) := by { rw [hS.2.cell]; exact unhide Q20 }; go_simp⟩) (hHeld) ?_
      simp only [Act.put, List.setIfInBounds_toArray, List.set_cons_zero, List.set_cons_succ]
      refine held_takeD 8 (.pointer (some ⟨wrt.heap.size, 21, none⟩)) (some 140) (by rfl) (by rfl) (by kernel_rfl) (by kernel_rfl) (by kernel_rfl) (fun _ _ _ h => h) (.inl ⟨by rfl, fun _ _ => by go_simp⟩) (hHeld) ?_
      simp only [Act.put, List.setIfInBounds_toArray, List.set_cons_zero, List.set_cons_succ]
      refine held_takeD 9 (.slice Av kv cv) (some 141) (by rfl) (by rfl) (by kernel_rfl) (by kernel_rfl) (by kernel_rfl) (fun _ _ _ h => h) (.inl ⟨by rfl, fun wS hS => by have hc : wS.cell? ⟨wrt.heap.size, 21, none⟩ = some (.slice Av kv cv) := by { rw [hS.2.cell]; exact unhide Q21 }; go_simp⟩) (hHeld) ?_
      simp only [Act.put, List.setIfInBounds_toArray, List.set_cons_zero, List.set_cons_succ]
      refine held_one 7 (by kernel_rfl) (by rfl) (fun K' hK' => ?_)
      go_simp
      refine (natOf_any Ak kk ck x.key _ ((unhide NK).kp (unhide HKN _ d3)).now hkb).mono ?_
      rintro e w6 ⟨Ba, ka, ca, rfl, n6, N6, b6⟩
      refine hK'.out _ _ (unhide HSS2 _ (d3.trans (b6.mono d3.size))) ?_
      clear hK' K'
      have d6 := d3.trans (b6.mono d3.size)
      refine held_one 10 (by kernel_rfl) (by rfl) (fun K' hK' => ?_)
      go_simp
      refine (natOf_any Av kv cv x.val _ ((unhide NV).kp (unhide HKN _ d6)).now hvb).mono ?_
      rintro e w7 ⟨Bb, kb, cb, rfl, n7, N7, b7⟩
      refine hK'.out _ _ (unhide HSS2 _ (d6.trans (b7.mono d6.size))) ?_
      clear hK' K'
      have d7 := d6.trans (b7.mono d6.size)
      have hrowN : KTemp Qt w7 (bv x.addr ++ [Value.slice Ba ka ca, .slice Bb kb cb]) x := ⟨Ba, ka, ca, Bb, kb, cb, rfl, hia, StabS.kp (StabS.nat n6 (N6.offS (hT3.go d3.size) _)) (ChgS.of b7), StabS.nat n7 (N7.offS (hT3.go d6.size) _), hkb, hvb⟩
      have HROWN := hide hrowN
      clear hrowN n6 n7
      refine held_takeD 11 (.agg (bv x.addr ++ [Value.slice Ba ka ca, .slice Bb kb cb]).toArray) (some 143) (by rfl) (by rfl) (by kernel_rfl) (by kernel_rfl) (by kernel_rfl) (fun _ _ _ h => h) (yieldsIf_build (by rfl) 363 [(0, .tmp 136), (1, .tmp 139), (2, .tmp 142)] rfl _ (fun wx => run_temp3 wx x.addr hia Ba Bb ka ca kb cb)) (unhide HSS2 _ d7) ?_
      simp only [Act.put, List.setIfInBounds_toArray, List.set_cons_zero, List.set_cons_succ]
      refine held_takeD 12 (.pointer (some ⟨gt, it * 22, none⟩)) (some 144) (by rfl) (by rfl) (by kernel_rfl) (by kernel_rfl) (by kernel_rfl) (fun _ _ _ h => h) (.inl ⟨by rfl, fun _ _ => by go_simp⟩) (unhide HSS2 _ d7) ?_
      simp only [Act.put, List.setIfInBounds_toArray, List.set_cons_zero, List.set_cons_succ]
      have hml : (bv x.addr ++ [Value.slice Ba ka ca, .slice Bb kb cb]).length = 22 := by simp [bv_len, hia.len]
      refine held_store 13 (by kernel_rfl) (by rfl) rfl (by rfl) 363 (.tmp 144) (.tmp 143) rfl gt (it * 22) 363 zs (bv x.addr ++ [Value.slice Ba ka ca, .slice Bb kb cb]) rfl rfl ((unhide HZR3).kept d7) (by rw [hml]; exact hzl) (by rw [hml]; exact sizeTemp) (two_one _ _ _ _ _ _ _) ?_
      intro wS rS oS
      have hgne := hgtg (by omega)
      have rSX := ((unhide HSS2 _ d7).1).only oS (Ne.symm hgne)
      have rSb := ((unhide HSS2 _ d7).2).only oS (by omega)
      refine ⟨⟨rSX, rSb⟩, ?_⟩
      refine wpAnyH_done (by kernel_rfl) ?_ _
      refine NoPanic.normal ?_
      have bS : Below W.heap.size W wS := (hb3.trans (d7.mono hb3.size)).trans (oS.below _ hgtW)
      have hcS : ChgS Qt w7 wS := ChgS.only oS hQtt
      have hc3S : ChgS Qt w3 wS := (ChgS.of d7).trans hcS
      have hFn : Fill 363 22 (KTemp Qt wS) d.temps gt lT (it + 1) wS := (unhide HFJ3).next hilt _ hml (⟨[], 0, 0⟩ : YTemp) (by omega) (fun _ _ h => h.go hc3S) (by rw [← unhide HX]; exact (unhide HROWN).go hcS) (fun zs hz => by rw [hz.inj (unhide HZR3)]; exact rS)
      have HFN := hide hFn
      have RSX := hide rSX
      clear rS rSX rSb hFn
      go_wp2
      go_roundg (lT - 1 - it)
      case measure => omega
      case rel => exact ⟨it + 1, by omega, rfl, unhide RSX, fun _ => ⟨rfl, unhide HFN⟩, bS, hc3.trans hc3S⟩
    have hil2t : it = lT := by omega
    have hmm' : Made 363 22 (KTemp Qt wrt) d.temps Agt gt lT lT wrt := by rw [hil2t] at hmm; exact hmm
    have hPQ' : ∀ i, P i → i < wrt.heap.size → Qt i := fun i hi _ => hPQt i hi
    obtain ⟨brows, br1, br2⟩ := hmm'.done hlT (by unfold maxLen; omega) (H := P) (fun h0 hp => by
      by_cases hl : gt < W.heap.size
      · omega
      · exact hPno gt hp hl (hgtg h0))
    have hkt : KW P rt ⟨d.accts, d.warmA, [], d.refund, d.logs, d.temps, d.made, d.gone⟩ wrt := by
      have hk2 := (((unhide HKAt).go hcht).to hPQ').set5 (A := Agt) (n := lT) (c := lT) ⟨brows, br1, br2.imp fun _ _ h => h.to hPQ'⟩ (by rw [(unhide HSLj).1]; omega)
      rw [← unhide HRtE] at hk2
      exact hk2
    have hnlt : ∀ i, i < 8 → i ≠ 0 → i ≠ 3 → i ≠ 4 → i ≠ 1 → i ≠ 6 → i ≠ 7 → i ≠ 5 → rt[i]? = some nilS := fun i hi k0 k3 k4 k1 k6 k7 k5 => by
      rw [unhide HRtE, List.getElem?_set_ne (Ne.symm k5)]
      exact unhide HNLj i hi k0 k3 k4 k1 k6 k7
    have hbt := hbet
    have hPTt : Ther P wrt := fun i hi => (hTt.go hcht.size) i (hPQt i hi)
    obtain ⟨xt, hxt⟩ : ∃ x, x = wrt := ⟨_, rfl⟩
    subst hxt
    have HRt := HRR
    have HKt := hide hkt
    have HNLt := hide hnlt
    clear hkt hnlt HRR hmm hmm' br1 br2 hPQ' hbet hcht hTt HKAt ect' HKj HSLj HNLj hQtg hQtt hPQt hil2t
    as_aux_lemma =>
    obtain ⟨ju, hiu, hv0u, hv1u, hv2u⟩ := info_parts infoMark
    have HIu := hide hiu
    have HV0u := hide hv0u
    have HV1u := hide hv1u
    have HV2u := hide hv2u
    have ecu := unhide CE2 xt hbt
    clear hiu hv0u hv1u hv2u
    go_upto_if 150 with fail
    go_cut [3] (fun s3 wd => ∃ (gt : Nat) (At : Option Addr), s3 = .pointer (some ⟨g, 0, none⟩) ∧ RowT 101 wd g (rt.set 2 (.slice At lM lM)) ∧ Below W.heap.size W wd ∧ W.heap.size ≤ gt ∧ gt < wd.heap.size ∧ (0 < lM → gt ≠ g) ∧ KW (Plus P gt) rt ⟨d.accts, d.warmA, [], d.refund, d.logs, d.temps, d.made, d.gone⟩ wd ∧ Made 288 21 (KMark (Plus P gt) wd) d.warmS At gt lM 0 wd)
    case first =>
      cases aM with
      | none =>
        go_wp2_with fail
        go_meet
        case rel =>
          obtain ⟨rfl, -⟩ := unhide HMNIL (by simp)
          have hs0 : rt.set 2 (Value.slice none 0 0) = rt := set_same (unhide HNLt 2 (by omega) (by omega) (by omega) (by omega) (by omega) (by omega) (by omega) (by omega))
          exact ⟨g, none, rfl, by rw [hs0]; exact unhide HRt, hbt, hgW, (unhide HRt).lt, (fun h => by omega), (unhide HKt).to (plus_same hPg), fun h => by omega⟩
      | some ad =>
        go_wp2_with (at_make; refine wpList_make_rows rfl _ _ 98 rfl 288 Sakg.underlying98 ju _ 21 48 (unhide HIu) (unhide HV0u) (unhide HV1u) (unhide HV2u) _ _ lM rfl rfl rfl rfl (by omega) (by omega) ?_; intro w2 ys hr2 hzl hb2 hs2; have HRm := hide hr2; have HZLm := hide hzl; have HB2 := hide hb2; have hq2 := (unhide HRt).kept hb2; have hx2 : ∃ v, w2.cell? ⟨g, 2, none⟩ = some v := by { rw [hq2.cell, List.getElem?_eq_getElem (by rw [(unhide HSLt).1]; omega)]; exact ⟨_, rfl⟩ }; obtain ⟨v2, hx2⟩ := hx2; have hf2 := hq2.froz 2; have HQ2 := hide hq2; clear hr2 hzl hb2 hq2)
        go_meet
        case rel =>
          have hgl := (unhide HRt).lt
          have ho : Only g w2 (w2.setCell ⟨g, 2, none⟩ (Value.slice (some ⟨xt.heap.size, 0, none⟩) lM lM)) := (Only.refl g w2).setCell 2 _
          exact ⟨xt.heap.size, _, rfl, (unhide HQ2).set 2 _, (hbt.trans ((unhide HB2).mono hbt.size)).trans (ho.below _ hgW), hbt.size, by rw [ho.size]; omega, (fun _ => by omega), (((unhide HKt).to (plus_new (Nat.le_refl _))).go (ChgS.of (unhide HB2))).go (ChgS.only ho (.inl hPg)), fun _ => ⟨rfl, Fill.start ((unhide HRm).only ho (by omega)) (unhide HZLm)⟩⟩
    case rest =>
    as_aux_lemma =>
    obtain ⟨wAu, hwAu⟩ : ∃ wA, wA = wc := ⟨_, rfl⟩
    subst hwAu
    obtain ⟨gu, Agu, rfl, hru, bAu, hguW, hgul, hgug, hkAu, hmAu⟩ := hcut
    have hxug : (rt.set 2 (Value.slice Agu lM lM))[2]? = some (.slice Agu lM lM) := List.getElem?_set_self (by rw [(unhide HSLt).1]; omega)
    have hslu := (unhide HSLt).set 2 Agu lM lM
    obtain ⟨ru, hrue⟩ : ∃ r', r' = rt.set 2 (Value.slice Agu lM lM) := ⟨_, rfl⟩
    rw [← hrue] at hru hxug hslu
    obtain ⟨Qu, hQu⟩ : ∃ Q, Q = Plus P gu := ⟨_, rfl⟩
    rw [← hQu] at hkAu hmAu
    have hQug : Qu g := by rw [hQu]; exact .inl hPg
    have hQut : Qu gu := by rw [hQu]; exact .inr rfl
    have hPQu : ∀ i, P i → Qu i := fun i hi => by rw [hQu]; exact .inl hi
    have hTPu : Ther P wAu := fun i hi => by
      by_cases hl : i < W.heap.size
      · exact Nat.lt_of_lt_of_le hl bAu.size
      · exact hPlt i hi bAu hru hl
    have hTu : Ther Qu wAu := by rw [hQu]; exact hTPu.plus hgul
    have ecu' := unhide CE2 wAu bAu
    have HRu0 := hide hru
    have HXuG := hide hxug
    have HSLu := hide hslu
    have HKAu := hide hkAu
    have HMAu := hide hmAu
    have HRuE := hide hrue
    have hZu : (bv (zeros 20) ++ [nilS]).length = 21 := by simp [bv_len, zeros_len]
    clear hru hxug hslu hkAu hmAu hrue hQu ecu HRt
    go_wp2_with fail
    go_loopg [163] lM (fun gk iv wr => ∃ i : Nat, i + gk = lM ∧ iv = .int .i64 i ∧ RowT 101 wr g ru ∧ Made 288 21 (KMark Qu wr) d.warmS Agu gu lM i wr ∧ Below W.heap.size W wr ∧ ChgS Qu wAu wr)
    case atStart => exact ⟨0, by omega, rfl, unhide HRu0, unhide HMAu, bAu, ChgS.refl _ _⟩
    case round =>
    obtain ⟨wru, hwru⟩ : ∃ wo, wo = wr := ⟨_, rfl⟩
    subst hwru
    obtain ⟨iu, hiu, rfl, hrr, hmm, hbeu, hchu⟩ := hrel
    have HRR := hide hrr
    clear hrr HMAu HRu0
    by_cases hilu : iu < lM
    · as_aux_lemma =>
      obtain ⟨hAg, hfj⟩ := hmm (by omega)
      subst hAg
      obtain ⟨b, off, rfl, hlt, hat⟩ := unhide HMAT (by omega)
      obtain ⟨ri, hrg, hrow⟩ := hat iu hilu
      obtain ⟨x, hx⟩ : ∃ o, o = d.warmS.getD iu (([], 0) : YMark) := ⟨_, rfl⟩
      rw [← hx] at hrow
      have hrl := hrow.len
      have hri1 := hrow.one
      have hpre := hrow.pre
      have hia := hrow.addr
      obtain ⟨Ak, kk, ck, q20, nk, hkb⟩ := hrow.key
      have hsz : (Sakg.prog.info? 288).map (·.size) = some ri.length := by rw [hrl]; exact sizeMark
      have hrg2 := range_below hrg (unhide HWW wru hbeu) (fun _ => hlt)
      have hTr : Ther Qu wru := hTu.go hchu.size
      have hgulr : gu < wru.heap.size := hfj.lt
      have HFJ := hide hfj
      have HRG := hide hrg2
      have HSZ := hide hsz
      have HRL := hide hrl
      have HONE := hide hri1
      have NK := hide nk
      have HPRE := hide hpre
      have Q20 := hide q20
      have HX := hide hx
      clear hat hrg hrg2 hrow hsz hrl hx hmm hri1 nk hpre q20 hfj
      go_upto_region 32 with (first
        | ((with_reducible refine at_load 288 ?_); refine wpList_load_g (by rfl) 288 (.tmp 166) rfl b _ rfl ri _ (unhide HRG) Sakg.underlying288 rfl (unhide HSZ) ?_)
        | ((with_reducible refine at_alloc 288 ?_); refine wpList_alloc_g (by rfl) 288 rfl (bv (zeros 20) ++ [nilS]) 21 infoMark2 hZu ?_)
        | ((with_reducible refine at_store 288 ?_); refine wpList_store_whole rfl 288 (.tmp 12) (.tmp 167) rfl _ _ _ ri rfl rfl (RowT.new _ _ _) (by rw [unhide HRL, hZu]) (unhide HSZ) (unhide HONE) ?_; intro w3 hr3 hon3; have hbb3 := box_below hon3; clear hon3))
      simp only [Act.put, List.setIfInBounds_toArray, List.set_cons_zero, List.set_cons_succ]
      have hb3 : Below W.heap.size W w3 := hbeu.trans (hbb3.1.mono hbeu.size)
      have d3 : Below w3.heap.size w3 w3.drew := Quiet.below ⟨1, rfl⟩ _
      have hrt3 := (unhide HRR).kept hbb3.1
      have hss2 : ∀ wz, Below w3.heap.size w3 wz → RowT 101 wz g ru ∧ RowT 288 wz wru.heap.size ri := fun wz hz => ⟨hrt3.kept hz, hr3.kept hz⟩
      have HSS2 := hide hss2
      have hkn : ∀ wz, Below w3.heap.size w3 wz → ChgS G w wz := fun wz hz => ChgS.of (unhide HWW _ (hb3.trans (hz.mono hb3.size)))
      have HKN := hide hkn
      have hu := Sakg.underlying26
      have hsz63 := hia.size
      have HFJ3 := hide ((unhide HFJ).go (R' := KMark Qu w3) (fun _ _ h => h.go (ChgS.of hbb3.1)) (fun zs hz => hz.kept hbb3.1))
      have hT3 : Ther Qu w3 := hTr.go hbb3.1.size
      have hc3 : ChgS Qu wAu w3 := hchu.trans (ChgS.of hbb3.1)
      have hs3 := hbb3.2
      obtain ⟨zs, hzs, hzl⟩ := (unhide HFJ3).room hilu
      have HZR3 := hide hzs
      have hg3l := hrt3.lt
      clear hr3 hbb3 hss2 hrt3 hkn hzs HFJ
      refine wp_region_noPanic ?_
      refine wp_region_held_drew (S := fun w' => RowT 101 w' g ru ∧ RowT 288 w' wru.heap.size ri) (by kernel_rfl) (unhide HSS2 _ d3) (fun hHeld => ?_)
      refine held_takeD 0 (.pointer (some ⟨g, 2, none⟩)) (some 168) (by rfl) (by rfl) (by kernel_rfl) (by kernel_rfl) (by kernel_rfl) (fun _ _ _ h => h) (.inl ⟨by rfl, fun _ _ => by go_simp⟩) (hHeld) ?_
      simp only [Act.put, List.setIfInBounds_toArray, List.set_cons_zero, List.set_cons_succ]
      refine held_takeD 1 (.slice (some ⟨gu, 0, none⟩) lM lM) (some 169) (by rfl) (by rfl) (by kernel_rfl) (by kernel_rfl) (by kernel_rfl) (fun _ _ _ h => h) (.inl ⟨by rfl, fun wS hS => by have hc : wS.cell? ⟨g, 2, none⟩ = some (.slice (some ⟨gu, 0, none⟩) lM lM) := by { rw [hS.1.cell]; exact unhide HXuG }; go_simp⟩) (hHeld) ?_
      simp only [Act.put, List.setIfInBounds_toArray, List.set_cons_zero, List.set_cons_succ]
      refine held_takeD 2 (.int .i64 iu) (some 170) (by rfl) (by rfl) (by kernel_rfl) (by kernel_rfl) (by kernel_rfl) (fun _ _ _ h => h) (.inl ⟨by rfl, fun _ _ => by rfl⟩) (hHeld) ?_
      simp only [Act.put, List.setIfInBounds_toArray, List.set_cons_zero, List.set_cons_succ]
      refine held_takeD 3 (.pointer (some ⟨wru.heap.size, 0, none⟩)) (some 171) (by rfl) (by rfl) (by kernel_rfl) (by kernel_rfl) (by kernel_rfl) (fun _ _ _ h => h) (.inl ⟨by rfl, fun _ _ => by go_simp⟩) (hHeld) ?_
      simp only [Act.put, List.setIfInBounds_toArray, List.set_cons_zero, List.set_cons_succ]
      refine held_takeD 4 (.agg (bv x.1).toArray) (some 172) (by rfl) (by rfl) (by kernel_rfl) (by kernel_rfl) (by kernel_rfl) (fun _ _ _ h => h) (yieldsIf_load_mid (by rfl) _ _ rfl _ _ rfl _ _ (fun wz hS => (by have := hS.2.range 0 20; rwa [unhide HPRE] at this)) hu rfl hsz63) (hHeld) ?_
      simp only [Act.put, List.setIfInBounds_toArray, List.set_cons_zero, List.set_cons_succ]
      refine held_takeD 5 (.pointer (some ⟨wru.heap.size, 20, none⟩)) (some 173) (by rfl) (by rfl) (by kernel_rfl) (by kernel_rfl) (by kernel_rfl) (fun _ _ _ h => h) (.inl ⟨by rfl, fun _ _ => by go_simp⟩) (hHeld) ?_
      simp only [Act.put, List.setIfInBounds_toArray, List.set_cons_zero, List.set_cons_succ]
      refine held_takeD 6 (.slice Ak kk ck) (some 174) (by rfl) (by rfl) (by kernel_rfl) (by kernel_rfl) (by kernel_rfl) (fun _ _ _ h => h) (.inl ⟨by rfl, fun wS hS => by have hc : wS.cell? ⟨wru.heap.size, 20, none⟩ = some (.slice Ak kk ck) := by { rw [hS.2.cell]; exact unhide Q20 }; go_simp⟩) (hHeld) ?_
      simp only [Act.put, List.setIfInBounds_toArray, List.set_cons_zero, List.set_cons_succ]
      refine held_one 7 (by kernel_rfl) (by rfl) (fun K' hK' => ?_)
      go_simp
      refine (natOf_any Ak kk ck x.2 _ ((unhide NK).kp (unhide HKN _ d3)).now hkb).mono ?_
      rintro e w6 ⟨Ba, ka, ca, rfl, n6, N6, b6⟩
      refine hK'.out _ _ (unhide HSS2 _ (d3.trans (b6.mono d3.size))) ?_
      clear hK' K'
      have d6 := d3.trans (b6.mono d3.size)
      have hrowN : KMark Qu w6 (bv x.1 ++ [Value.slice Ba ka ca]) x := ⟨Ba, ka, ca, rfl, hia, StabS.nat n6 (N6.offS (hT3.go d3.size) _), hkb⟩
      have HROWN := hide hrowN
      clear hrowN n6
      refine held_takeD 8 (.agg (bv x.1 ++ [Value.slice Ba ka ca]).toArray) (some 176) (by rfl) (by rfl) (by kernel_rfl) (by kernel_rfl) (by kernel_rfl) (fun _ _ _ h => h) (yieldsIf_build (by rfl) 288 [(0, .tmp 172), (1, .tmp 175)] rfl _ (fun wx => run_mark2 wx x.1 hia Ba ka ca)) (unhide HSS2 _ d6) ?_
      simp only [Act.put, List.setIfInBounds_toArray, List.set_cons_zero, List.set_cons_succ]
      refine held_takeD 9 (.pointer (some ⟨gu, iu * 21, none⟩)) (some 177) (by rfl) (by rfl) (by kernel_rfl) (by kernel_rfl) (by kernel_rfl) (fun _ _ _ h => h) (.inl ⟨by rfl, fun _ _ => by go_simp⟩) (unhide HSS2 _ d6) ?_
      simp only [Act.put, List.setIfInBounds_toArray, List.set_cons_zero, List.set_cons_succ]
      have hml : (bv x.1 ++ [Value.slice Ba ka ca]).length = 21 := by simp [bv_len, hia.len]
      refine held_store 10 (by kernel_rfl) (by rfl) rfl (by rfl) 288 (.tmp 177) (.tmp 176) rfl gu (iu * 21) 288 zs (bv x.1 ++ [Value.slice Ba ka ca]) rfl rfl ((unhide HZR3).kept d6) (by rw [hml]; exact hzl) (by rw [hml]; exact sizeMark) (mark_one _ _ _ _) ?_
      intro wS rS oS
      have hgne := hgug (by omega)
      have rSX := ((unhide HSS2 _ d6).1).only oS (Ne.symm hgne)
      have rSb := ((unhide HSS2 _ d6).2).only oS (by omega)
      refine ⟨⟨rSX, rSb⟩, ?_⟩
      refine wpAnyH_done (by kernel_rfl) ?_ _
      refine NoPanic.normal ?_
      have bS : Below W.heap.size W wS := (hb3.trans (d6.mono hb3.size)).trans (oS.below _ hguW)
      have hcS : ChgS Qu w6 wS := ChgS.only oS hQut
      have hc3S : ChgS Qu w3 wS := (ChgS.of d6).trans hcS
      have hFn : Fill 288 21 (KMark Qu wS) d.warmS gu lM (iu + 1) wS := (unhide HFJ3).next hilu _ hml (([], 0) : YMark) (by omega) (fun _ _ h => h.go hc3S) (by rw [← unhide HX]; exact (unhide HROWN).go hcS) (fun zs hz => by rw [hz.inj (unhide HZR3)]; exact rS)
      have HFN := hide hFn
      have RSX := hide rSX
      clear rS rSX rSb hFn
      go_wp2
      go_roundg (lM - 1 - iu)
      case measure => omega
      case rel => exact ⟨iu + 1, by omega, rfl, unhide RSX, fun _ => ⟨rfl, unhide HFN⟩, bS, hc3.trans hc3S⟩
    have hil2u : iu = lM := by omega
    have hmm' : Made 288 21 (KMark Qu wru) d.warmS Agu gu lM lM wru := by rw [hil2u] at hmm; exact hmm
    have hPQ' : ∀ i, P i → i < wru.heap.size → Qu i := fun i hi _ => hPQu i hi
    obtain ⟨brows, br1, br2⟩ := hmm'.done hlM (by unfold maxLen; omega) (H := P) (fun h0 hp => by
      by_cases hl : gu < W.heap.size
      · omega
      · exact hPno gu hp hl (hgug h0))
    have hku : KW P ru ⟨d.accts, d.warmA, d.warmS, d.refund, d.logs, d.temps, d.made, d.gone⟩ wru := by
      have hk2 := (((unhide HKAu).go hchu).to hPQ').set2 (A := Agu) (n := lM) (c := lM) ⟨brows, br1, br2.imp fun _ _ h => h.to hPQ'⟩ (by rw [(unhide HSLt).1]; omega)
      rw [← unhide HRuE] at hk2
      exact hk2
    have hnlu : ∀ i, i < 8 → i ≠ 0 → i ≠ 3 → i ≠ 4 → i ≠ 1 → i ≠ 6 → i ≠ 7 → i ≠ 5 → i ≠ 2 → ru[i]? = some nilS := fun i hi k0 k3 k4 k1 k6 k7 k5 k2 => by
      rw [unhide HRuE, List.getElem?_set_ne (Ne.symm k2)]
      exact unhide HNLt i hi k0 k3 k4 k1 k6 k7 k5
    have hbu := hbeu
    have hPTu : Ther P wru := fun i hi => (hTu.go hchu.size) i (hPQu i hi)
    obtain ⟨xu, hxu⟩ : ∃ x, x = wru := ⟨_, rfl⟩
    subst hxu
    have HRu := HRR
    have HKu := hide hku
    have HNLu := hide hnlu
    clear hku hnlu HRR hmm hmm' br1 br2 hPQ' hbeu hchu hTu HKAu ecu' HKt HSLt HNLt hQug hQut hPQu hil2u
    have hr0F := (unhide HR0).kept hbu
    have HR0F := hide hr0F
    have HRA := hide (unhide HRu).rangeAll
    have hsF : (Sakg.prog.info? 101).map (·.size) = some ru.length := by rw [(unhide HSLu).1]; exact sizeWorld
    have hlF : nils8.length = ru.length := by rw [(unhide HSLu).1]; rfl
    clear hr0F
    go_wp2_with (first
      | ((with_reducible refine at_load 101 ?_); refine wpList_load_g (by rfl) 101 (.tmp 3) rfl g _ rfl ru _ (unhide HRA) Sakg.underlying101 rfl hsF ?_)
      | ((with_reducible refine at_store 101 ?_); refine wpList_store_whole rfl 101 (.tmp 2) (.tmp 179) rfl w.heap.size 101 nils8 ru rfl rfl (unhide HR0F) hlF hsF (unhide HSLu).one ?_; intro w9 hr9 ho9))
    refine bodyPost_ret (results_cell_row rfl _ _ _ _ _ _ _ rfl hr9 Sakg.underlying101 rfl (by simpa using hsF)) rfl ?_
    exact ⟨⟨ru, rfl, unhide HSLu, ((unhide HKu).go (ChgS.only ho9 hPw)).to (fun i hi _ => unhide HGP i hi)⟩, (unhide HWW _ hbu).trans (ho9.below _ (Nat.le_refl _))⟩

end Go.Proofs.YgcsakGreat
