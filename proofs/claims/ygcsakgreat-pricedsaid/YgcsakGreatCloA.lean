/-
  (*World).clone: it returns.
-/
import Derived.Test.YgcsakGreatBegS
namespace Go.Proofs.YgcsakGreat
set_option linter.unusedVariables false
set_option linter.unusedSimpArgs false
set_option maxRecDepth 100000
open Go.RowKit

def nils8 : List Value := List.replicate 8 nilS
theorem infoWorld : (Sakg.prog.info? 101).map (fun i => (i.zero, i.size)) = some (some (.agg nils8.toArray), 8) := by kernel_rfl
theorem sizeWorld : (Sakg.prog.info? 101).map (·.size) = some 8 := by kernel_rfl
theorem run_world2 (A : Option Addr) (k c : Nat) (wx : World) : (Instr.build 101 #[(3, .slice A k c), (4, .slice none 0 0)]).run Sakg.prog wx = .ok (.agg [nilS, nilS, nilS, Value.slice A k c, nilS, nilS, nilS, nilS].toArray) wx := by kernel_rfl

/-- cells that are slices -/
def Slices (n : Nat) (l : List Value) : Prop := l.length = n ∧ ∀ v ∈ l, ∃ A k c, v = .slice A k c
theorem Slices.one {n : Nat} {l : List Value} (h : Slices n l) : ∀ v ∈ l, v.oneCell' = true := fun v hv => by
  obtain ⟨A, k, c, rfl⟩ := h.2 v hv; rfl
theorem Slices.set {n : Nat} {l : List Value} (h : Slices n l) (i : Nat) (A : Option Addr) (k c : Nat) : Slices n (l.set i (.slice A k c)) := by
  refine ⟨by rw [List.length_set]; exact h.1, fun v hv => ?_⟩
  rcases List.mem_or_eq_of_mem_set hv with h1 | h1
  · exact h.2 v h1
  · exact ⟨A, k, c, h1⟩

theorem infoSlot2c : (Sakg.prog.info? 117).map (fun i => (i.zero, i.size)) = some (some (.agg [nilS, nilS].toArray), 2) := by kernel_rfl
theorem sizeSlot : (Sakg.prog.info? 117).map (·.size) = some 2 := by kernel_rfl
theorem infoMark2 : (Sakg.prog.info? 288).map (fun i => (i.zero, i.size)) = some (some (.agg (bv (zeros 20) ++ [nilS]).toArray), 21) := by kernel_rfl
theorem run_mark2 (wx : World) (a : List Int) (ha : IsAddr a) (A : Option Addr) (k c : Nat) :
    (Instr.build 288 #[(0, .agg (bv a).toArray), (1, .slice A k c)]).run Sakg.prog wx = .ok (.agg (bv a ++ [Value.slice A k c]).toArray) wx := by
  obtain ⟨i0, hi0, hz0, hz1, hz2⟩ := info_parts infoMark
  exact run_build_struct wx 288 _ placesMark i0 _ hi0 hz0 (bv (zeros 20) ++ [nilS]) rfl _ _ (build_mark a ha A k c)
theorem row2_one (A A' : Option Addr) (k c k' c' : Nat) : ∀ v ∈ [Value.slice A k c, .slice A' k' c'], v.oneCell' = true := by
  intro v hv
  simp at hv
  rcases hv with rfl | rfl <;> rfl
theorem mark_one (a : List Int) (A : Option Addr) (k c : Nat) : ∀ v ∈ bv a ++ [Value.slice A k c], v.oneCell' = true := by
  intro u hu
  rcases List.mem_append.1 hu with h | h
  · exact bv_one _ u h
  · simp at h
    subst h
    rfl
/-- the copied lists: a block of the right length -/
def Room (B : Nat) (g : Nat) (T : TypeId) (sz : Nat) (r : List Value) (i n gb : Nat) (w : World) : Prop :=
  ∃ zs, r[i]? = some (.slice (some ⟨gb, 0, none⟩) n n) ∧ B ≤ gb ∧ gb ≠ g ∧ RowT T w gb zs ∧ zs.length = n * sz

theorem world_row (A : Option Addr) (k c : Nat) : Slices 8 [nilS, nilS, nilS, Value.slice A k c, nilS, nilS, nilS, nilS] := by
  refine ⟨rfl, fun v hv => ?_⟩
  simp at hv
  rcases hv with rfl | rfl | rfl
  · exact ⟨none, 0, 0, rfl⟩
  · exact ⟨A, k, c, rfl⟩
  · exact ⟨none, 0, 0, rfl⟩
theorem logs_nil_b (w : World) : Calls Sakg.prog 126 #[.slice none 0 0] w fun e w' => e = .returned (.slice none 0 0) ∧ Below w.heap.size w w' := by
  refine (logsOf_nil w).mono ?_
  rintro e w' ⟨h1, rfl⟩
  exact ⟨h1, Below.refl _ _⟩

theorem addrs_b (ao : Option Addr) (l c : Nat) (als : List (List Int)) (w : World) (h : AddrsR w ao l c als) (hm : l ≤ 1000000) : Calls Sakg.prog 295 #[.slice ao l c] w fun e w' => (∃ A k c, e = .returned (.slice A k c)) ∧ Below w.heap.size w w' := by
  refine (addrsOf_any ao l c als w h hm).mono ?_
  rintro e w' ⟨A, k, c', h1, -, -, h4⟩
  exact ⟨⟨A, k, c', h1⟩, h4⟩
theorem addrs_nil_b (w : World) : Calls Sakg.prog 295 #[.slice none 0 0] w fun e w' => (∃ A k c, e = .returned (.slice A k c)) ∧ Below w.heap.size w w' :=
  addrs_b none 0 0 [] w ⟨Rws.ofNil w 20, fun _ h => by simp at h⟩ (by omega)

set_option maxHeartbeats 32000000 in
theorem clone_any {bw : Nat} {cs : List Value} {cb fee : List Int} {na nw nm : Nat} {w : World} (h : BS bw cs cb fee na nw nm w) (hna : na ≤ 1000000) (hnw : nw ≤ 1000000) (hnm : nm ≤ 1000000) :
    Calls Sakg.prog 196 #[.pointer (some ⟨bw, 0, none⟩)] w fun e w' => (∃ r, e = .returned (.agg r.toArray) ∧ Slices 8 r) ∧ Below w.heap.size w w' := by
  obtain ⟨W, hW⟩ : ∃ W, W = w.alloc (.cells nils8.toArray 101) := ⟨_, rfl⟩
  have hb0 : Below w.heap.size w W := by rw [hW]; exact (Below.refl _ _).alloc (Nat.le_refl _) _
  have hr0 : RowT 101 W w.heap.size nils8 := by rw [hW]; exact RowT.new _ _ _
  have hcs : ∀ wz, Below W.heap.size W wz → RowT 107 wz bw cs := fun wz hz => h.row.kept (hb0.trans (hz.mono hb0.size))
  have HCS := hide hcs
  have hbw := h.row.lt
  have dW : Below W.heap.size W W.drew := Quiet.below ⟨1, rfl⟩ _
  have h3 := h.c3
  have h4 := h.c4
  have hn8 : nils8.length = 8 := rfl
  have HR0 := hide hr0
  clear hcs hr0
  go_enter Sakg.func196, Sakg.ntmps196
  go_upto_region 1 with ((with_reducible refine at_alloc 101 ?_); refine wpList_alloc_g (by rfl) 101 rfl nils8 8 infoWorld rfl ?_)
  rw [← hW]
  clear hW
  simp only [Act.put, List.setIfInBounds_toArray, List.set_cons_zero, List.set_cons_succ]
  go_cut [3] (fun s3 wc => ∃ (g : Nat) (r : List Value), s3 = .pointer (some ⟨g, 0, none⟩) ∧ W.heap.size ≤ g ∧ RowT 101 wc g r ∧ Slices 8 r ∧ Below W.heap.size W wc)
  case first =>
    refine wp_region_noPanic ?_
    refine wp_region_held_drew (S := fun w' => Below W.heap.size W w') (by kernel_rfl) (dW) (fun hHeld => ?_)
    refine held_takeD 0 (.pointer (some ⟨bw, 0, none⟩)) (some 13) (by rfl) (by rfl) (by kernel_rfl) (by kernel_rfl) (by kernel_rfl) (fun _ _ _ h => h) (.inl ⟨by rfl, fun _ _ => by rfl⟩) (hHeld) ?_
    simp only [Act.put, List.setIfInBounds_toArray, List.set_cons_zero, List.set_cons_succ]
    refine held_takeD 1 (.pointer (some ⟨bw, 0, none⟩)) (some 14) (by rfl) (by rfl) (by kernel_rfl) (by kernel_rfl) (by kernel_rfl) (fun _ _ _ h => h) (.inl ⟨by rfl, fun _ _ => by go_simp⟩) (hHeld) ?_
    simp only [Act.put, List.setIfInBounds_toArray, List.set_cons_zero, List.set_cons_succ]
    refine held_takeD 2 (.pointer (some ⟨bw, 3, none⟩)) (some 15) (by rfl) (by rfl) (by kernel_rfl) (by kernel_rfl) (by kernel_rfl) (fun _ _ _ h => h) (.inl ⟨by rfl, fun _ _ => by go_simp⟩) (hHeld) ?_
    simp only [Act.put, List.setIfInBounds_toArray, List.set_cons_zero, List.set_cons_succ]
    refine held_takeD 3 (.slice none 0 0) (some 16) (by rfl) (by rfl) (by kernel_rfl) (by kernel_rfl) (by kernel_rfl) (fun _ _ _ h => h) (.inl ⟨by rfl, fun wS hS => by have hc : wS.cell? ⟨bw, 3, none⟩ = some nilS := by { rw [(unhide HCS wS hS).cell]; exact h3 }; go_simp⟩) (hHeld) ?_
    simp only [Act.put, List.setIfInBounds_toArray, List.set_cons_zero, List.set_cons_succ]
    refine held_takeD 5 (.pointer (some ⟨bw, 0, none⟩)) (some 18) (by rfl) (by rfl) (by kernel_rfl) (by kernel_rfl) (by kernel_rfl) (fun _ _ _ h => h) (.inl ⟨by rfl, fun _ _ => by rfl⟩) (hHeld) ?_
    simp only [Act.put, List.setIfInBounds_toArray, List.set_cons_zero, List.set_cons_succ]
    refine held_takeD 6 (.pointer (some ⟨bw, 0, none⟩)) (some 19) (by rfl) (by rfl) (by kernel_rfl) (by kernel_rfl) (by kernel_rfl) (fun _ _ _ h => h) (.inl ⟨by rfl, fun _ _ => by go_simp⟩) (hHeld) ?_
    simp only [Act.put, List.setIfInBounds_toArray, List.set_cons_zero, List.set_cons_succ]
    refine held_takeD 7 (.pointer (some ⟨bw, 4, none⟩)) (some 20) (by rfl) (by rfl) (by kernel_rfl) (by kernel_rfl) (by kernel_rfl) (fun _ _ _ h => h) (.inl ⟨by rfl, fun _ _ => by go_simp⟩) (hHeld) ?_
    simp only [Act.put, List.setIfInBounds_toArray, List.set_cons_zero, List.set_cons_succ]
    refine held_takeD 8 (.slice none 0 0) (some 21) (by rfl) (by rfl) (by kernel_rfl) (by kernel_rfl) (by kernel_rfl) (fun _ _ _ h => h) (.inl ⟨by rfl, fun wS hS => by have hc : wS.cell? ⟨bw, 4, none⟩ = some nilS := by { rw [(unhide HCS wS hS).cell]; exact h4 }; go_simp⟩) (hHeld) ?_
    simp only [Act.put, List.setIfInBounds_toArray, List.set_cons_zero, List.set_cons_succ]
    refine held_two 4 11 (by kernel_rfl) (by rfl) (by rfl) (fun K' hK' => ?_) (fun K' hK' => ?_)
    · go_simp
      refine (natOf_any none 0 0 0 W.drew (IsNat.nil _) big_pos).mono ?_
      rintro e wa ⟨Aa, ka, ca, rfl, na, Na, ba⟩
      have da := dW.trans (ba.mono dW.size)
      refine hK'.out _ _ (da) ?_
      clear hK' K'
      refine held_two 9 11 (by kernel_rfl) (by rfl) (by rfl) (fun K' hK' => ?_) (fun K' hK' => ?_)
      · go_simp
        refine (logs_nil_b wa).mono ?_
        rintro e wb ⟨rfl, bb⟩
        have db := da.trans (bb.mono da.size)
        refine hK'.out _ _ (db) ?_
        clear hK' K'
        refine held_takeD 10 (.agg [nilS, nilS, nilS, Value.slice Aa ka ca, nilS, nilS, nilS, nilS].toArray) (some 23) (by rfl) (by rfl) (by kernel_rfl) (by kernel_rfl) (by kernel_rfl) (fun _ _ _ h => h) (yieldsIf_build (by rfl) 101 [(3, .tmp 17), (4, .tmp 22)] rfl _ (fun wx => run_world2 Aa ka ca wx)) db ?_
        simp only [Act.put, List.setIfInBounds_toArray, List.set_cons_zero, List.set_cons_succ]
        refine held_one 11 (by kernel_rfl) (by rfl) (fun K' hK' => ?_)
        refine if_alloc (some 3) rfl 101 rfl (by rfl) nils8 8 infoWorld rfl (fun wX rX bX sX => ?_)
        have dX := db.trans (bX.mono db.size)
        refine hK'.out _ _ (dX) ?_
        clear hK' K'
        simp only [Act.put, List.setIfInBounds_toArray, List.set_cons_zero, List.set_cons_succ]
        refine held_one 12 (by kernel_rfl) (by rfl) (fun K' hK' => ?_)
        refine if_store rfl (by rfl) 101 (.tmp 3) (.tmp 23) rfl wb.heap.size 0 101 nils8 [nilS, nilS, nilS, Value.slice Aa ka ca, nilS, nilS, nilS, nilS] rfl rfl rX (Nat.le_refl 8) sizeWorld (world_row Aa ka ca).one (fun wS rS oS => ?_)
        have dS : Below W.heap.size W wS := dX.trans (oS.below _ (db.size))
        refine hK'.out _ _ (dS) ?_
        clear hK' K'
        refine wpAnyH_done (by kernel_rfl) ?_ _
        refine NoPanic.normal ?_
        have rS' : RowT 101 wS wb.heap.size [nilS, nilS, nilS, Value.slice Aa ka ca, nilS, nilS, nilS, nilS] := by { have h0 := spl_all nils8 [nilS, nilS, nilS, Value.slice Aa ka ca, nilS, nilS, nilS, nilS] rfl; rw [h0] at rS; exact rS }
        go_wp2_with fail
        go_meet
        case rel => exact ⟨wb.heap.size, [nilS, nilS, nilS, Value.slice Aa ka ca, nilS, nilS, nilS, nilS], rfl, db.size, rS', world_row Aa ka ca, dS⟩
      · refine if_alloc (some 3) rfl 101 rfl (by rfl) nils8 8 infoWorld rfl (fun wX rX bX sX => ?_)
        have dX := da.trans (bX.mono da.size)
        refine hK'.out _ _ (dX) ?_
        clear hK' K'
        simp only [Act.put, List.setIfInBounds_toArray, List.set_cons_zero, List.set_cons_succ]
        refine held_one 9 (by kernel_rfl) (by rfl) (fun K' hK' => ?_)
        go_simp
        refine (logs_nil_b wX).mono ?_
        rintro e wb ⟨rfl, bb⟩
        have db := dX.trans (bb.mono dX.size)
        refine hK'.out _ _ (db) ?_
        clear hK' K'
        refine held_takeD 10 (.agg [nilS, nilS, nilS, Value.slice Aa ka ca, nilS, nilS, nilS, nilS].toArray) (some 23) (by rfl) (by rfl) (by kernel_rfl) (by kernel_rfl) (by kernel_rfl) (fun _ _ _ h => h) (yieldsIf_build (by rfl) 101 [(3, .tmp 17), (4, .tmp 22)] rfl _ (fun wx => run_world2 Aa ka ca wx)) db ?_
        simp only [Act.put, List.setIfInBounds_toArray, List.set_cons_zero, List.set_cons_succ]
        refine held_one 12 (by kernel_rfl) (by rfl) (fun K' hK' => ?_)
        refine if_store rfl (by rfl) 101 (.tmp 3) (.tmp 23) rfl wa.heap.size 0 101 nils8 [nilS, nilS, nilS, Value.slice Aa ka ca, nilS, nilS, nilS, nilS] rfl rfl (rX.kept bb) (Nat.le_refl 8) sizeWorld (world_row Aa ka ca).one (fun wS rS oS => ?_)
        have dS : Below W.heap.size W wS := db.trans (oS.below _ (da.size))
        refine hK'.out _ _ (dS) ?_
        clear hK' K'
        refine wpAnyH_done (by kernel_rfl) ?_ _
        refine NoPanic.normal ?_
        have rS' : RowT 101 wS wa.heap.size [nilS, nilS, nilS, Value.slice Aa ka ca, nilS, nilS, nilS, nilS] := by { have h0 := spl_all nils8 [nilS, nilS, nilS, Value.slice Aa ka ca, nilS, nilS, nilS, nilS] rfl; rw [h0] at rS; exact rS }
        go_wp2_with fail
        go_meet
        case rel => exact ⟨wa.heap.size, [nilS, nilS, nilS, Value.slice Aa ka ca, nilS, nilS, nilS, nilS], rfl, da.size, rS', world_row Aa ka ca, dS⟩
    · refine if_alloc (some 3) rfl 101 rfl (by rfl) nils8 8 infoWorld rfl (fun wX rX bX sX => ?_)
      have dX := dW.trans (bX.mono dW.size)
      refine hK'.out _ _ (dX) ?_
      clear hK' K'
      simp only [Act.put, List.setIfInBounds_toArray, List.set_cons_zero, List.set_cons_succ]
      refine held_one 4 (by kernel_rfl) (by rfl) (fun K' hK' => ?_)
      go_simp
      refine (natOf_any none 0 0 0 wX (IsNat.nil _) big_pos).mono ?_
      rintro e wa ⟨Aa, ka, ca, rfl, na, Na, ba⟩
      have da := dX.trans (ba.mono dX.size)
      refine hK'.out _ _ (da) ?_
      clear hK' K'
      refine held_one 9 (by kernel_rfl) (by rfl) (fun K' hK' => ?_)
      go_simp
      refine (logs_nil_b wa).mono ?_
      rintro e wb ⟨rfl, bb⟩
      have db := da.trans (bb.mono da.size)
      refine hK'.out _ _ (db) ?_
      clear hK' K'
      refine held_takeD 10 (.agg [nilS, nilS, nilS, Value.slice Aa ka ca, nilS, nilS, nilS, nilS].toArray) (some 23) (by rfl) (by rfl) (by kernel_rfl) (by kernel_rfl) (by kernel_rfl) (fun _ _ _ h => h) (yieldsIf_build (by rfl) 101 [(3, .tmp 17), (4, .tmp 22)] rfl _ (fun wx => run_world2 Aa ka ca wx)) db ?_
      simp only [Act.put, List.setIfInBounds_toArray, List.set_cons_zero, List.set_cons_succ]
      refine held_one 12 (by kernel_rfl) (by rfl) (fun K' hK' => ?_)
      refine if_store rfl (by rfl) 101 (.tmp 3) (.tmp 23) rfl W.heap.size 0 101 nils8 [nilS, nilS, nilS, Value.slice Aa ka ca, nilS, nilS, nilS, nilS] rfl rfl (rX.kept (ba.trans (bb.mono ba.size))) (Nat.le_refl 8) sizeWorld (world_row Aa ka ca).one (fun wS rS oS => ?_)
      have dS : Below W.heap.size W wS := db.trans (oS.below _ (Nat.le_refl _))
      refine hK'.out _ _ (dS) ?_
      clear hK' K'
      refine wpAnyH_done (by kernel_rfl) ?_ _
      refine NoPanic.normal ?_
      have rS' : RowT 101 wS W.heap.size [nilS, nilS, nilS, Value.slice Aa ka ca, nilS, nilS, nilS, nilS] := by { have h0 := spl_all nils8 [nilS, nilS, nilS, Value.slice Aa ka ca, nilS, nilS, nilS, nilS] rfl; rw [h0] at rS; exact rS }
      go_wp2_with fail
      go_meet
      case rel => exact ⟨W.heap.size, [nilS, nilS, nilS, Value.slice Aa ka ca, nilS, nilS, nilS, nilS], rfl, Nat.le_refl _, rS', world_row Aa ka ca, dS⟩
  case rest =>
    obtain ⟨wa, hwa⟩ : ∃ wa, wa = wc := ⟨_, rfl⟩
    subst hwa
    obtain ⟨g, r, rfl, hg, hr, hsl, ba⟩ := hcut
    obtain ⟨ao, l, c, ds, h0, ⟨rows, hrw, heach⟩, hl, hfine⟩ := h.accts
    have hww : ∀ wz, Below W.heap.size W wz → Below w.heap.size w wz := fun wz hz => hb0.trans (hz.mono hb0.size)
    have c0 : ∀ wz, Below W.heap.size W wz → wz.cell? ⟨bw, 0, none⟩ = some (.slice ao l c) := fun wz hz => by rw [(unhide HCS wz hz).cell]; exact h0
    have e0 := c0 wa ba
    have HC0 := hide c0
    have HAT := hide (rows_at' (zeroAcct []) hrw.now heach)
    have HNIL := hide hrw.now.nil
    obtain ⟨i0, hi0, hz0, hz1, hz2⟩ := info_parts infoAcct
    have HI0 := hide hi0
    have HZ0 := hide hz0
    have HZ1 := hide hz1
    have HZ2 := hide hz2
    have HR := hide hr
    have HSL := hide hsl
    have HWW := hide hww
    have hn := fun (wx : World) (x : Option Addr) (n c n' c' : Nat) => Lib.run_eql_slice_nil (P := Sakg.prog) wx 96 113 x n c n' c' Sakg.underlying96
    have hn2 := fun (wx : World) (x : Option Addr) (n c n' c' : Nat) => Lib.run_eql_slice_nil (P := Sakg.prog) wx 111 117 x n c n' c' Sakg.underlying111
    clear hi0 hz0 hz1 hz2 hr hsl h0 hrw c0 hww heach h3 h4
    go_upto_if 28 with fail
    go_cut [3] (fun s3 wd => ∃ (ga : Nat) (r1 : List Value), s3 = .pointer (some ⟨g, 0, none⟩) ∧ RowT 101 wd g r1 ∧ Slices 8 r1 ∧ Below W.heap.size W wd ∧ (0 < l → Room W.heap.size g 113 24 r1 0 l ga wd))
    case first =>
      cases ao with
      | none =>
        go_wp2_with fail
        go_meet
        case rel =>
          obtain ⟨rfl, -⟩ := unhide HNIL (by simp)
          exact ⟨0, r, rfl, unhide HR, unhide HSL, ba, fun h => by omega⟩
      | some ad =>
        go_wp2_with (at_make; refine wpList_make_rows rfl _ _ 96 rfl 113 Sakg.underlying96 i0 _ 24 120 (unhide HI0) (unhide HZ0) (unhide HZ1) (unhide HZ2) _ _ l rfl rfl rfl rfl (by omega) (by omega) ?_; intro w2 zs hr2 hzl hb2 hs2; have HR2 := hide hr2; have HZL := hide hzl; have HB2 := hide hb2; have hq2 := (unhide HR).kept hb2; have hx2 : ∃ v, w2.cell? ⟨g, 0, none⟩ = some v := by { rw [hq2.cell, List.getElem?_eq_getElem (by rw [(unhide HSL).1]; omega)]; exact ⟨_, rfl⟩ }; obtain ⟨v2, hx2⟩ := hx2; have hf2 := hq2.froz 0; have HQ2 := hide hq2; clear hr2 hzl hb2 hq2)
        go_meet
        case rel =>
          have hgl := (unhide HR).lt
          refine ⟨wa.heap.size, _, rfl, (unhide HQ2).set 0 _, (unhide HSL).set 0 _ _ _, (ba.trans ((unhide HB2).mono ba.size)).trans (((Only.refl g w2).setCell 0 _).below _ hg), fun _ => ⟨zs, List.getElem?_set_self (by rw [(unhide HSL).1]; omega), ba.size, by omega, (unhide HR2).only ((Only.refl g w2).setCell 0 _) (by omega), unhide HZL⟩⟩
    case rest =>
      obtain ⟨wb, hwb⟩ : ∃ wb, wb = wc := ⟨_, rfl⟩
      subst hwb
      obtain ⟨ga, r1, rfl, hr1, hsl1, bb, hga⟩ := hcut
      have e1 := unhide HC0 wb bb
      have HR1 := hide hr1
      have HSL1 := hide hsl1
      have HGA := hide hga
      clear hr1 hsl1 hga HR HSL e0
      go_wp2_with fail
      go_loopg [41] l (fun gk iv wr => ∃ i : Nat, i + gk = l ∧ iv = .int .i64 i ∧ RowT 101 wr g r1 ∧ (0 < l → Room W.heap.size g 113 24 r1 0 l ga wr) ∧ Below W.heap.size W wr)
      case atStart => exact ⟨0, by omega, rfl, unhide HR1, unhide HGA, bb⟩
      case round =>
        obtain ⟨wo, hwo⟩ : ∃ wo, wo = wr := ⟨_, rfl⟩
        subst hwo
        obtain ⟨i, hi, rfl, hr2, hrm, hbe⟩ := hrel
        have HR2 := hide hr2
        clear hr2 HGA HR1
        by_cases hil : i < l
        · obtain ⟨zs, q0, hgaW, hgag, hzr, hzl⟩ := hrm (by omega)
          obtain ⟨b, off, rfl, hlt, hat⟩ := unhide HAT (by omega)
          obtain ⟨ri, hrg, hrow⟩ := hat i hil
          obtain ⟨o, ho⟩ : ∃ o, o = ds.getD i (zeroAcct []) := ⟨_, rfl⟩
          have hfo : FineA o := by rw [ho]; exact hfine.getD i
          rw [← ho] at hrow
          have hrl := hrow.now.len
          have hsz : (Sakg.prog.info? 113).map (·.size) = some ri.length := by rw [hrl]; exact sizeAcct
          have hrg2 := range_below hrg (unhide HWW wo hbe) (fun _ => hlt)
          have hZ24 : (bv (zeros 20) ++ [nilS, nilS, nilS, nilS]).length = 24 := by simp [bv_len, zeros_len]
          have HQ0 := hide q0
          have HZR := hide hzr
          have HZL := hide hzl
          have HRG := hide hrg2
          have HROW := hide hrow
          have HSZ := hide hsz
          have HRL := hide hrl
          clear q0 hzr hzl hat hrg hrg2 hrow hsz hrl ho hrm
          go_upto_region 7 with (first
            | ((with_reducible refine at_load 113 ?_); refine wpList_load_g (by rfl) 113 (.tmp 44) rfl b _ rfl ri _ (unhide HRG) Sakg.underlying113 rfl (unhide HSZ) ?_)
            | ((with_reducible refine at_alloc 113 ?_); refine wpList_alloc_g (by rfl) 113 rfl (bv (zeros 20) ++ [nilS, nilS, nilS, nilS]) 24 infoAcct2 hZ24 ?_)
            | ((with_reducible refine at_store 113 ?_); refine wpList_store_whole rfl 113 (.tmp 5) (.tmp 45) rfl _ _ _ ri rfl rfl (RowT.new _ _ _) (by rw [unhide HRL, hZ24]) (unhide HSZ) (unhide HROW).now.one ?_; intro w1 hr1 hon1; have hbb := box_below hon1; clear hon1))
          obtain ⟨A1, k1, c1, A2, k2, c2, A3, k3, c3, A4, k4, c4, q20, q21, q22, q23, s1, s2, s3, s4⟩ := (unhide HROW).cells
          have hia := (unhide HROW).now.addr
          have hbW1 : Below W.heap.size W w1 := hbe.trans (hbb.1.mono hbe.size)
          have hbx : ∀ wz, Below w1.heap.size w1 wz → RowT 113 wz wo.heap.size ri := fun wz hz => hr1.kept hz
          have hbX : ∀ wz, Below w1.heap.size w1 wz → Below w.heap.size w wz := fun wz hz => unhide HWW wz (hbW1.trans (hz.mono hbW1.size))
          have hN1 : ∀ wz, Below w1.heap.size w1 wz → IsNat wz A1 k1 c1 o.nonce := fun wz hz => (s1.go (Chg.of (hbX wz hz))).now
          have hN2 : ∀ wz, Below w1.heap.size w1 wz → IsNat wz A2 k2 c2 o.bal := fun wz hz => (s2.go (Chg.of (hbX wz hz))).now
          have hN3 : ∀ wz, Below w1.heap.size w1 wz → Src wz A3 k3 c3 o.code := fun wz hz => (s3.go (Chg.of (hbX wz hz))).now
          have hj3b : k3 ≤ 140737488355328 := by
            rw [← s3.now.len_eq]
            exact Nat.le_trans hfo.2.2.1 (by omega)
          have hca : ∀ wz, Below w1.heap.size w1 wz → wz.rangeAt wo.heap.size 0 (bv o.addr) := fun wz hz => by have := (hbx wz hz).range 0 20; rwa [(unhide HROW).now.pre] at this
          obtain ⟨srows, sg1, sg2⟩ := s4
          have HSAT := hide (rows_at' ((0, 0) : Nat × Nat) sg1.now sg2)
          have HSNIL := hide sg1.now.nil
          have hk4 : k4 ≤ 100000 := by rw [← sg1.now.len_eq, sg2.len]; exact hfo.2.2.2.1
          have hslf : ∀ j, (o.slots.getD j (0, 0)).1 < BIG ∧ (o.slots.getD j (0, 0)).2 < BIG := fun j => by
            rw [List.getD_eq_getElem?_getD]
            cases hx : o.slots[j]? with
            | none => exact ⟨big_pos, big_pos⟩
            | some x => exact hfo.2.2.2.2 x (List.mem_of_getElem? hx)
          have HSLF := hide hslf
          have HBX := hide hbx
          have HBBX := hide hbX
          have HN1 := hide hN1
          have HN2 := hide hN2
          have HN3 := hide hN3
          have HCA := hide hca
          have hu := Sakg.underlying26
          have hsz63 := hia.size
          have d1 : Below w1.heap.size w1 w1.drew := Quiet.below ⟨1, rfl⟩ _
          have hw1s := hbb.2
          have HW1S := hide hw1s
          have HBB := hide hbb.1
          have HQ23 := hide q23
          have hb2 : o.bal < BIG := Nat.lt_of_lt_of_le hfo.2.1 pow34
          have hfn := hfo.1
          clear hbx hbX hN1 hN2 hN3 hca hr1 hbb s1 s2 s3 sg1 sg2 hslf q23 hw1s
          simp only [Act.put, List.setIfInBounds_toArray, List.set_cons_zero, List.set_cons_succ]
          have hbuild : ∀ (Aa Ab Ac : Option Addr) (ka ca kb cb kc cc : Nat) (wx : World), (Instr.build 113 #[(0, .agg (bv o.addr).toArray), (1, .slice Aa ka ca), (2, .slice Ab kb cb), (3, .slice Ac kc cc)]).run Sakg.prog wx = .ok (.agg (bv o.addr ++ [Value.slice Aa ka ca, .slice Ab kb cb, .slice Ac kc cc, nilS]).toArray) wx := fun Aa Ab Ac ka ca kb cb kc cc wx => run_acct4 wx o.addr hia _ _ _ rfl rfl rfl
          have HBUILD := hide hbuild
          clear hbuild
          go_cut [6] (fun s6 wc => ∃ (gX : Nat) (xr : List Value), s6 = .pointer (some ⟨gX, 0, none⟩) ∧ w1.heap.size ≤ gX ∧ RowT 113 wc gX xr ∧ xr.length = 24 ∧ (∀ v ∈ xr, v.oneCell' = true) ∧ Below w1.heap.size w1 wc)
          case first =>
            refine wp_region_noPanic ?_
            refine wp_region_held_drew (S := fun w' => Below w1.heap.size w1 w') (by kernel_rfl) (d1) (fun hHeld => ?_)
            refine held_takeD 0 (.pointer (some ⟨wo.heap.size, 0, none⟩)) (some 46) (by rfl) (by rfl) (by kernel_rfl) (by kernel_rfl) (by kernel_rfl) (fun _ _ _ h => h) (.inl ⟨by rfl, fun _ _ => by go_simp⟩) (hHeld) ?_
            simp only [Act.put, List.setIfInBounds_toArray, List.set_cons_zero, List.set_cons_succ]
            refine held_takeD 1 (.agg (bv o.addr).toArray) (some 47) (by rfl) (by rfl) (by kernel_rfl) (by kernel_rfl) (by kernel_rfl) (fun _ _ _ h => h) (yieldsIf_load_mid (by rfl) _ _ rfl _ _ rfl _ _ (fun wz hS => unhide HCA wz hS) hu rfl hsz63) (hHeld) ?_
            simp only [Act.put, List.setIfInBounds_toArray, List.set_cons_zero, List.set_cons_succ]
            refine held_takeD 2 (.pointer (some ⟨wo.heap.size, 20, none⟩)) (some 48) (by rfl) (by rfl) (by kernel_rfl) (by kernel_rfl) (by kernel_rfl) (fun _ _ _ h => h) (.inl ⟨by rfl, fun _ _ => by go_simp⟩) (hHeld) ?_
            simp only [Act.put, List.setIfInBounds_toArray, List.set_cons_zero, List.set_cons_succ]
            refine held_takeD 3 (.slice A1 k1 c1) (some 49) (by rfl) (by rfl) (by kernel_rfl) (by kernel_rfl) (by kernel_rfl) (fun _ _ _ h => h) (.inl ⟨by rfl, fun wS hS => by have hc : wS.cell? ⟨wo.heap.size, 20, none⟩ = some (.slice A1 k1 c1) := by { rw [(unhide HBX wS hS).cell]; exact q20 }; go_simp⟩) (hHeld) ?_
            simp only [Act.put, List.setIfInBounds_toArray, List.set_cons_zero, List.set_cons_succ]
            refine held_takeD 5 (.pointer (some ⟨wo.heap.size, 21, none⟩)) (some 51) (by rfl) (by rfl) (by kernel_rfl) (by kernel_rfl) (by kernel_rfl) (fun _ _ _ h => h) (.inl ⟨by rfl, fun _ _ => by go_simp⟩) (hHeld) ?_
            simp only [Act.put, List.setIfInBounds_toArray, List.set_cons_zero, List.set_cons_succ]
            refine held_takeD 6 (.slice A2 k2 c2) (some 52) (by rfl) (by rfl) (by kernel_rfl) (by kernel_rfl) (by kernel_rfl) (fun _ _ _ h => h) (.inl ⟨by rfl, fun wS hS => by have hc : wS.cell? ⟨wo.heap.size, 21, none⟩ = some (.slice A2 k2 c2) := by { rw [(unhide HBX wS hS).cell]; exact q21 }; go_simp⟩) (hHeld) ?_
            simp only [Act.put, List.setIfInBounds_toArray, List.set_cons_zero, List.set_cons_succ]
            refine held_takeD 8 (.pointer (some ⟨wo.heap.size, 22, none⟩)) (some 54) (by rfl) (by rfl) (by kernel_rfl) (by kernel_rfl) (by kernel_rfl) (fun _ _ _ h => h) (.inl ⟨by rfl, fun _ _ => by go_simp⟩) (hHeld) ?_
            simp only [Act.put, List.setIfInBounds_toArray, List.set_cons_zero, List.set_cons_succ]
            refine held_takeD 9 (.slice A3 k3 c3) (some 55) (by rfl) (by rfl) (by kernel_rfl) (by kernel_rfl) (by kernel_rfl) (fun _ _ _ h => h) (.inl ⟨by rfl, fun wS hS => by have hc : wS.cell? ⟨wo.heap.size, 22, none⟩ = some (.slice A3 k3 c3) := by { rw [(unhide HBX wS hS).cell]; exact q22 }; go_simp⟩) (hHeld) ?_
            simp only [Act.put, List.setIfInBounds_toArray, List.set_cons_zero, List.set_cons_succ]
            refine held_two 4 12 (by kernel_rfl) (by rfl) (by rfl) (fun K' hK' => ?_) (fun K' hK' => ?_)
            · go_simp
              refine (natOf_any A1 k1 c1 o.nonce w1.drew (unhide HN1 _ d1) hfn).mono ?_
              rintro e wa ⟨Aa, ka, ca, rfl, -, -, ba⟩
              have da := d1.trans (ba.mono d1.size)
              refine hK'.out _ _ (da) ?_
              clear hK' K'
              refine held_two 7 12 (by kernel_rfl) (by rfl) (by rfl) (fun K' hK' => ?_) (fun K' hK' => ?_)
              · go_simp
                refine (natOf_any A2 k2 c2 o.bal wa (unhide HN2 _ da) hb2).mono ?_
                rintro e wb ⟨Ab, kb, cb, rfl, -, -, bb⟩
                have db := da.trans (bb.mono da.size)
                refine hK'.out _ _ (db) ?_
                clear hK' K'
                refine held_two 10 12 (by kernel_rfl) (by rfl) (by rfl) (fun K' hK' => ?_) (fun K' hK' => ?_)
                · go_simp
                  refine (bytesOf_any A3 k3 c3 o.code wb (unhide HN3 _ db) hj3b).mono ?_
                  rintro e wc ⟨Ac, kc, rfl, -, -, -, bc⟩
                  have dc := db.trans (bc.mono db.size)
                  refine hK'.out _ _ (dc) ?_
                  clear hK' K'
                  refine held_takeD 11 (.agg (bv o.addr ++ [Value.slice Aa ka ca, .slice Ab kb cb, .slice Ac kc kc, nilS]).toArray) (some 57) (by rfl) (by rfl) (by kernel_rfl) (by kernel_rfl) (by kernel_rfl) (fun _ _ _ h => h) (yieldsIf_build (by rfl) 113 [(0, .tmp 47), (1, .tmp 50), (2, .tmp 53), (3, .tmp 56)] rfl _ (fun wx => unhide HBUILD Aa Ab Ac ka ca kb cb kc kc wx)) dc ?_
                  simp only [Act.put, List.setIfInBounds_toArray, List.set_cons_zero, List.set_cons_succ]
                  refine held_one 12 (by kernel_rfl) (by rfl) (fun K' hK' => ?_)
                  refine if_alloc (some 6) rfl 113 rfl (by rfl) _ 24 infoAcct2 (by simp [bv_len, zeros_len]) (fun wX rX bX sX => ?_)
                  have dX := dc.trans (bX.mono dc.size)
                  refine hK'.out _ _ (dX) ?_
                  clear hK' K'
                  simp only [Act.put, List.setIfInBounds_toArray, List.set_cons_zero, List.set_cons_succ]
                  refine held_one 13 (by kernel_rfl) (by rfl) (fun K' hK' => ?_)
                  refine if_store rfl (by rfl) 113 (.tmp 6) (.tmp 57) rfl wc.heap.size 0 113 _ (bv o.addr ++ [Value.slice Aa ka ca, .slice Ab kb cb, .slice Ac kc kc, nilS]) rfl rfl rX (by simp [bv_len, hia.len, zeros_len]) (by rw [show (bv o.addr ++ [Value.slice Aa ka ca, .slice Ab kb cb, .slice Ac kc kc, nilS]).length = 24 from by simp [bv_len, hia.len]]; exact sizeAcct) (row4_one _ _ _ _ (ka, ca, kb, cb, kc, kc)) (fun wS rS oS => ?_)
                  have dS : Below w1.heap.size w1 wS := dX.trans (oS.below _ (dc.size))
                  refine hK'.out _ _ (dS) ?_
                  clear hK' K'
                  refine wpAnyH_done (by kernel_rfl) ?_ _
                  refine NoPanic.normal ?_
                  rw [spl_all _ _ (by simp [bv_len, hia.len, zeros_len])] at rS
                  go_wp2_with fail
                  go_meet
                  case rel => exact ⟨wc.heap.size, (bv o.addr ++ [Value.slice Aa ka ca, .slice Ab kb cb, .slice Ac kc kc, nilS]), rfl, dc.size, rS, by simp [bv_len, hia.len], row4_one _ _ _ _ (ka, ca, kb, cb, kc, kc), dS⟩
                · refine if_alloc (some 6) rfl 113 rfl (by rfl) _ 24 infoAcct2 (by simp [bv_len, zeros_len]) (fun wX rX bX sX => ?_)
                  have dX := db.trans (bX.mono db.size)
                  refine hK'.out _ _ (dX) ?_
                  clear hK' K'
                  simp only [Act.put, List.setIfInBounds_toArray, List.set_cons_zero, List.set_cons_succ]
                  refine held_one 10 (by kernel_rfl) (by rfl) (fun K' hK' => ?_)
                  go_simp
                  refine (bytesOf_any A3 k3 c3 o.code wX (unhide HN3 _ dX) hj3b).mono ?_
                  rintro e wc ⟨Ac, kc, rfl, -, -, -, bc⟩
                  have dc := dX.trans (bc.mono dX.size)
                  refine hK'.out _ _ (dc) ?_
                  clear hK' K'
                  refine held_takeD 11 (.agg (bv o.addr ++ [Value.slice Aa ka ca, .slice Ab kb cb, .slice Ac kc kc, nilS]).toArray) (some 57) (by rfl) (by rfl) (by kernel_rfl) (by kernel_rfl) (by kernel_rfl) (fun _ _ _ h => h) (yieldsIf_build (by rfl) 113 [(0, .tmp 47), (1, .tmp 50), (2, .tmp 53), (3, .tmp 56)] rfl _ (fun wx => unhide HBUILD Aa Ab Ac ka ca kb cb kc kc wx)) dc ?_
                  simp only [Act.put, List.setIfInBounds_toArray, List.set_cons_zero, List.set_cons_succ]
                  refine held_one 13 (by kernel_rfl) (by rfl) (fun K' hK' => ?_)
                  refine if_store rfl (by rfl) 113 (.tmp 6) (.tmp 57) rfl wb.heap.size 0 113 _ (bv o.addr ++ [Value.slice Aa ka ca, .slice Ab kb cb, .slice Ac kc kc, nilS]) rfl rfl (rX.kept bc) (by simp [bv_len, hia.len, zeros_len]) (by rw [show (bv o.addr ++ [Value.slice Aa ka ca, .slice Ab kb cb, .slice Ac kc kc, nilS]).length = 24 from by simp [bv_len, hia.len]]; exact sizeAcct) (row4_one _ _ _ _ (ka, ca, kb, cb, kc, kc)) (fun wS rS oS => ?_)
                  have dS : Below w1.heap.size w1 wS := dc.trans (oS.below _ (db.size))
                  refine hK'.out _ _ (dS) ?_
                  clear hK' K'
                  refine wpAnyH_done (by kernel_rfl) ?_ _
                  refine NoPanic.normal ?_
                  rw [spl_all _ _ (by simp [bv_len, hia.len, zeros_len])] at rS
                  go_wp2_with fail
                  go_meet
                  case rel => exact ⟨wb.heap.size, (bv o.addr ++ [Value.slice Aa ka ca, .slice Ab kb cb, .slice Ac kc kc, nilS]), rfl, db.size, rS, by simp [bv_len, hia.len], row4_one _ _ _ _ (ka, ca, kb, cb, kc, kc), dS⟩
              · refine if_alloc (some 6) rfl 113 rfl (by rfl) _ 24 infoAcct2 (by simp [bv_len, zeros_len]) (fun wX rX bX sX => ?_)
                have dX := da.trans (bX.mono da.size)
                refine hK'.out _ _ (dX) ?_
                clear hK' K'
                simp only [Act.put, List.setIfInBounds_toArray, List.set_cons_zero, List.set_cons_succ]
                refine held_one 7 (by kernel_rfl) (by rfl) (fun K' hK' => ?_)
                go_simp
                refine (natOf_any A2 k2 c2 o.bal wX (unhide HN2 _ dX) hb2).mono ?_
                rintro e wb ⟨Ab, kb, cb, rfl, -, -, bb⟩
                have db := dX.trans (bb.mono dX.size)
                refine hK'.out _ _ (db) ?_
                clear hK' K'
                refine held_one 10 (by kernel_rfl) (by rfl) (fun K' hK' => ?_)
                go_simp
                refine (bytesOf_any A3 k3 c3 o.code wb (unhide HN3 _ db) hj3b).mono ?_
                rintro e wc ⟨Ac, kc, rfl, -, -, -, bc⟩
                have dc := db.trans (bc.mono db.size)
                refine hK'.out _ _ (dc) ?_
                clear hK' K'
                refine held_takeD 11 (.agg (bv o.addr ++ [Value.slice Aa ka ca, .slice Ab kb cb, .slice Ac kc kc, nilS]).toArray) (some 57) (by rfl) (by rfl) (by kernel_rfl) (by kernel_rfl) (by kernel_rfl) (fun _ _ _ h => h) (yieldsIf_build (by rfl) 113 [(0, .tmp 47), (1, .tmp 50), (2, .tmp 53), (3, .tmp 56)] rfl _ (fun wx => unhide HBUILD Aa Ab Ac ka ca kb cb kc kc wx)) dc ?_
                simp only [Act.put, List.setIfInBounds_toArray, List.set_cons_zero, List.set_cons_succ]
                refine held_one 13 (by kernel_rfl) (by rfl) (fun K' hK' => ?_)
                refine if_store rfl (by rfl) 113 (.tmp 6) (.tmp 57) rfl wa.heap.size 0 113 _ (bv o.addr ++ [Value.slice Aa ka ca, .slice Ab kb cb, .slice Ac kc kc, nilS]) rfl rfl (rX.kept (bb.trans (bc.mono bb.size))) (by simp [bv_len, hia.len, zeros_len]) (by rw [show (bv o.addr ++ [Value.slice Aa ka ca, .slice Ab kb cb, .slice Ac kc kc, nilS]).length = 24 from by simp [bv_len, hia.len]]; exact sizeAcct) (row4_one _ _ _ _ (ka, ca, kb, cb, kc, kc)) (fun wS rS oS => ?_)
                have dS : Below w1.heap.size w1 wS := dc.trans (oS.below _ (da.size))
                refine hK'.out _ _ (dS) ?_
                clear hK' K'
                refine wpAnyH_done (by kernel_rfl) ?_ _
                refine NoPanic.normal ?_
                rw [spl_all _ _ (by simp [bv_len, hia.len, zeros_len])] at rS
                go_wp2_with fail
                go_meet
                case rel => exact ⟨wa.heap.size, (bv o.addr ++ [Value.slice Aa ka ca, .slice Ab kb cb, .slice Ac kc kc, nilS]), rfl, da.size, rS, by simp [bv_len, hia.len], row4_one _ _ _ _ (ka, ca, kb, cb, kc, kc), dS⟩
            · refine if_alloc (some 6) rfl 113 rfl (by rfl) _ 24 infoAcct2 (by simp [bv_len, zeros_len]) (fun wX rX bX sX => ?_)
              have dX := d1.trans (bX.mono d1.size)
              refine hK'.out _ _ (dX) ?_
              clear hK' K'
              simp only [Act.put, List.setIfInBounds_toArray, List.set_cons_zero, List.set_cons_succ]
              refine held_one 4 (by kernel_rfl) (by rfl) (fun K' hK' => ?_)
              go_simp
              refine (natOf_any A1 k1 c1 o.nonce wX (unhide HN1 _ dX) hfn).mono ?_
              rintro e wa ⟨Aa, ka, ca, rfl, -, -, ba⟩
              have da := dX.trans (ba.mono dX.size)
              refine hK'.out _ _ (da) ?_
              clear hK' K'
              refine held_one 7 (by kernel_rfl) (by rfl) (fun K' hK' => ?_)
              go_simp
              refine (natOf_any A2 k2 c2 o.bal wa (unhide HN2 _ da) hb2).mono ?_
              rintro e wb ⟨Ab, kb, cb, rfl, -, -, bb⟩
              have db := da.trans (bb.mono da.size)
              refine hK'.out _ _ (db) ?_
              clear hK' K'
              refine held_one 10 (by kernel_rfl) (by rfl) (fun K' hK' => ?_)
              go_simp
              refine (bytesOf_any A3 k3 c3 o.code wb (unhide HN3 _ db) hj3b).mono ?_
              rintro e wc ⟨Ac, kc, rfl, -, -, -, bc⟩
              have dc := db.trans (bc.mono db.size)
              refine hK'.out _ _ (dc) ?_
              clear hK' K'
              refine held_takeD 11 (.agg (bv o.addr ++ [Value.slice Aa ka ca, .slice Ab kb cb, .slice Ac kc kc, nilS]).toArray) (some 57) (by rfl) (by rfl) (by kernel_rfl) (by kernel_rfl) (by kernel_rfl) (fun _ _ _ h => h) (yieldsIf_build (by rfl) 113 [(0, .tmp 47), (1, .tmp 50), (2, .tmp 53), (3, .tmp 56)] rfl _ (fun wx => unhide HBUILD Aa Ab Ac ka ca kb cb kc kc wx)) dc ?_
              simp only [Act.put, List.setIfInBounds_toArray, List.set_cons_zero, List.set_cons_succ]
              refine held_one 13 (by kernel_rfl) (by rfl) (fun K' hK' => ?_)
              refine if_store rfl (by rfl) 113 (.tmp 6) (.tmp 57) rfl w1.heap.size 0 113 _ (bv o.addr ++ [Value.slice Aa ka ca, .slice Ab kb cb, .slice Ac kc kc, nilS]) rfl rfl (rX.kept ((ba.trans (bb.mono ba.size)).trans (bc.mono (ba.trans (bb.mono ba.size)).size))) (by simp [bv_len, hia.len, zeros_len]) (by rw [show (bv o.addr ++ [Value.slice Aa ka ca, .slice Ab kb cb, .slice Ac kc kc, nilS]).length = 24 from by simp [bv_len, hia.len]]; exact sizeAcct) (row4_one _ _ _ _ (ka, ca, kb, cb, kc, kc)) (fun wS rS oS => ?_)
              have dS : Below w1.heap.size w1 wS := dc.trans (oS.below _ (Nat.le_refl _))
              refine hK'.out _ _ (dS) ?_
              clear hK' K'
              refine wpAnyH_done (by kernel_rfl) ?_ _
              refine NoPanic.normal ?_
              rw [spl_all _ _ (by simp [bv_len, hia.len, zeros_len])] at rS
              go_wp2_with fail
              go_meet
              case rel => exact ⟨w1.heap.size, (bv o.addr ++ [Value.slice Aa ka ca, .slice Ab kb cb, .slice Ac kc kc, nilS]), rfl, Nat.le_refl _, rS, by simp [bv_len, hia.len], row4_one _ _ _ _ (ka, ca, kb, cb, kc, kc), dS⟩
          case rest =>
            obtain ⟨w4, hw4⟩ : ∃ w4, w4 = wc := ⟨_, rfl⟩
            subst hw4
            obtain ⟨gX, xr, rfl, hgX, rX, hxl, hxo, b4⟩ := hcut
            have e23 : ∀ wz, Below w1.heap.size w1 wz → wz.cell? ⟨wo.heap.size, 23, none⟩ = some (.slice A4 k4 c4) := fun wz hz => by rw [(unhide HBX wz hz).cell]; exact unhide HQ23
            have f23 := e23 w4 b4
            have HE23 := hide e23
            have RX := hide rX
            have HXL := hide hxl
            have HXO := hide hxo
            obtain ⟨i1, hi1, hy0, hy1, hy2⟩ := info_parts infoSlot3
            have HI1 := hide hi1
            have HY0 := hide hy0
            have HY1 := hide hy1
            have HY2 := hide hy2
            clear e23 rX hxl hxo hi1 hy0 hy1 hy2 HN1 HN2 HN3 HCA HBUILD
            go_upto_if 60 with fail
            go_cut [6] (fun s6 wd => ∃ (gs : Nat) (x1 : List Value), s6 = .pointer (some ⟨gX, 0, none⟩) ∧ RowT 113 wd gX x1 ∧ x1.length = 24 ∧ (∀ v ∈ x1, v.oneCell' = true) ∧ Below w1.heap.size w1 wd ∧ (0 < k4 → Room w1.heap.size gX 117 2 x1 23 k4 gs wd))
            case first =>
              cases A4 with
              | none =>
                go_wp2_with fail
                go_meet
                case rel =>
                  obtain ⟨rfl, -⟩ := unhide HSNIL (by simp)
                  exact ⟨0, xr, rfl, unhide RX, unhide HXL, unhide HXO, b4, fun h => by omega⟩
              | some ad =>
                go_wp2_with (at_make; refine wpList_make_rows rfl _ _ 111 rfl 117 Sakg.underlying111 i1 _ 2 48 (unhide HI1) (unhide HY0) (unhide HY1) (unhide HY2) _ _ k4 rfl rfl rfl rfl (by omega) (by omega) ?_; intro w2 ys hr2 hzl hb2 hs2; have HR2' := hide hr2; have HZL' := hide hzl; have HB2 := hide hb2; have hq2 := (unhide RX).kept hb2; have hx2 : ∃ v, w2.cell? ⟨gX, 23, none⟩ = some v := by { rw [hq2.cell, List.getElem?_eq_getElem (by rw [unhide HXL]; omega)]; exact ⟨_, rfl⟩ }; obtain ⟨v2, hx2⟩ := hx2; have hf2 := hq2.froz 23; have HQ2 := hide hq2; clear hr2 hzl hb2 hq2)
                go_meet
                case rel =>
                  have hgl := (unhide RX).lt
                  refine ⟨w4.heap.size, _, rfl, (unhide HQ2).set 23 _, by rw [List.length_set]; exact unhide HXL, ?_, (b4.trans ((unhide HB2).mono b4.size)).trans (((Only.refl gX w2).setCell 23 _).below _ hgX), fun _ => ⟨ys, List.getElem?_set_self (by rw [unhide HXL]; omega), b4.size, by omega, (unhide HR2').only ((Only.refl gX w2).setCell 23 _) (by omega), unhide HZL'⟩⟩
                  intro v hv
                  rcases List.mem_or_eq_of_mem_set hv with h1 | h1
                  · exact unhide HXO v h1
                  · rw [h1]; rfl
            case rest =>
              obtain ⟨w5, hw5⟩ : ∃ w5, w5 = wc := ⟨_, rfl⟩
              subst hw5
              obtain ⟨gs, x1, rfl, rX, hxl, hxo, b5, hgs⟩ := hcut
              have f23' := unhide HE23 w5 b5
              have RX1 := hide rX
              have HXL1 := hide hxl
              have HXO1 := hide hxo
              have HGS := hide hgs
              clear rX hxl hxo hgs f23 RX HXL HXO
              go_wp2_with fail
              go_loopg [69] k4 (fun gk iv wr => ∃ j : Nat, j + gk = k4 ∧ iv = .int .i64 j ∧ RowT 113 wr gX x1 ∧ (0 < k4 → Room w1.heap.size gX 117 2 x1 23 k4 gs wr) ∧ Below w1.heap.size w1 wr)
              case atStart => exact ⟨0, by omega, rfl, unhide RX1, unhide HGS, b5⟩
              case round =>
                obtain ⟨j, hj, rfl, rX, hgs, hbr⟩ := hrel
                by_cases hjl : j < k4
                · obtain ⟨ys, y0, hgs1, hgsX, hyr, hyl⟩ := hgs (by omega)
                  obtain ⟨bs, offs, rfl, hlts, hats⟩ := unhide HSAT (by omega)
                  obtain ⟨rs, hrgs, hrs⟩ := hats j hjl
                  have hsl2 := unhide HSLF j
                  obtain ⟨sl, hsl⟩ : ∃ sl, sl = o.slots.getD j (0, 0) := ⟨_, rfl⟩
                  rw [← hsl] at hrs hsl2
                  obtain ⟨Ak, kk, ck, Av, kv, cv, rfl, nk, nv⟩ := hrs
                  have hrg3 := range_below hrgs (unhide HBBX wr hbr) (fun _ => hlts)
                  have hss : (Sakg.prog.info? 117).map (·.size) = some [Value.slice Ak kk ck, .slice Av kv cv].length := sizeSlot
                  have HRG3 := hide hrg3
                  have Y0 := hide y0
                  have HYR := hide hyr
                  have HYL := hide hyl
                  have RXr := hide rX
                  have NK := hide nk
                  have NV := hide nv
                  have hones := row2_one Ak Av kk ck kv cv
                  clear hats hrgs hrg3 hsl y0 hyr hyl rX nk nv hgs
                  go_upto_region 13 with (first
                    | ((with_reducible refine at_load 117 ?_); refine wpList_load_g (by rfl) 117 (.tmp 72) rfl bs _ rfl [Value.slice Ak kk ck, .slice Av kv cv] _ (unhide HRG3) Sakg.underlying117 rfl hss ?_)
                    | ((with_reducible refine at_alloc 117 ?_); refine wpList_alloc_g (by rfl) 117 rfl [nilS, nilS] 2 infoSlot2c rfl ?_)
                    | ((with_reducible refine at_store 117 ?_); refine wpList_store_whole rfl 117 (.tmp 8) (.tmp 73) rfl _ _ _ [Value.slice Ak kk ck, .slice Av kv cv] rfl rfl (RowT.new _ _ _) rfl hss hones ?_; intro w3 hr3 hon3; have hbb3 := box_below hon3; clear hon3))
                  simp only [Act.put, List.setIfInBounds_toArray, List.set_cons_zero, List.set_cons_succ]
                  have hb3 : Below w1.heap.size w1 w3 := hbr.trans (hbb3.1.mono hbr.size)
                  have d3 : Below w3.heap.size w3 w3.drew := Quiet.below ⟨1, rfl⟩ _
                  have hd3 : Below w1.heap.size w1 w3.drew := hb3.trans (d3.mono hb3.size)
                  have RX3 : Hid (RowT 113 w3 gX x1) := hide ((unhide RXr).kept hbb3.1)
                  have HYR3 : Hid (RowT 117 w3 gs ys) := hide ((unhide HYR).kept hbb3.1)
                  have R3 := hide hr3
                  have hzb := hbb3.2
                  have hss2 : ∀ wz, Below w3.heap.size w3 wz → RowT 113 wz gX x1 ∧ RowT 117 wz wr.heap.size [Value.slice Ak kk ck, .slice Av kv cv] := fun wz hz => ⟨(unhide RX3).kept hz, (unhide R3).kept hz⟩
                  have HSS2 := hide hss2
                  have HZB := hide hzb
                  have hnks : ∀ wz, Below w3.heap.size w3 wz → IsNat wz Ak kk ck sl.1 ∧ IsNat wz Av kv cv sl.2 := fun wz hz => ⟨((unhide NK).go (Chg.of (unhide HBBX wz (hb3.trans (hz.mono hb3.size))))).now, ((unhide NV).go (Chg.of (unhide HBBX wz (hb3.trans (hz.mono hb3.size))))).now⟩
                  have HNKS := hide hnks
                  clear hr3 hbb3 hss2 hzb hnks
                  refine wp_region_noPanic ?_
                  refine wp_region_held_drew (S := fun w' => RowT 113 w' gX x1 ∧ RowT 117 w' wr.heap.size [Value.slice Ak kk ck, .slice Av kv cv]) (by kernel_rfl) (unhide HSS2 _ d3) (fun hHeld => ?_)
                  refine held_takeD 0 (.pointer (some ⟨gX, 23, none⟩)) (some 74) (by rfl) (by rfl) (by kernel_rfl) (by kernel_rfl) (by kernel_rfl) (fun _ _ _ h => h) (.inl ⟨by rfl, fun _ _ => by go_simp⟩) (hHeld) ?_
                  simp only [Act.put, List.setIfInBounds_toArray, List.set_cons_zero, List.set_cons_succ]
                  refine held_takeD 1 (.slice (some ⟨gs, 0, none⟩) k4 k4) (some 75) (by rfl) (by rfl) (by kernel_rfl) (by kernel_rfl) (by kernel_rfl) (fun _ _ _ h => h) (.inl ⟨by rfl, fun wS hS => by have hc : wS.cell? ⟨gX, 23, none⟩ = some (.slice (some ⟨gs, 0, none⟩) k4 k4) := by { rw [hS.1.cell]; exact unhide Y0 }; go_simp⟩) (hHeld) ?_
                  simp only [Act.put, List.setIfInBounds_toArray, List.set_cons_zero, List.set_cons_succ]
                  refine held_takeD 2 (.int .i64 j) (some 76) (by rfl) (by rfl) (by kernel_rfl) (by kernel_rfl) (by kernel_rfl) (fun _ _ _ h => h) (.inl ⟨by rfl, fun _ _ => by rfl⟩) (hHeld) ?_
                  simp only [Act.put, List.setIfInBounds_toArray, List.set_cons_zero, List.set_cons_succ]
                  refine held_takeD 3 (.pointer (some ⟨wr.heap.size, 0, none⟩)) (some 77) (by rfl) (by rfl) (by kernel_rfl) (by kernel_rfl) (by kernel_rfl) (fun _ _ _ h => h) (.inl ⟨by rfl, fun _ _ => by go_simp⟩) (hHeld) ?_
                  simp only [Act.put, List.setIfInBounds_toArray, List.set_cons_zero, List.set_cons_succ]
                  refine held_takeD 4 (.slice Ak kk ck) (some 78) (by rfl) (by rfl) (by kernel_rfl) (by kernel_rfl) (by kernel_rfl) (fun _ _ _ h => h) (.inl ⟨by rfl, fun wS hS => by have hc : wS.cell? ⟨wr.heap.size, 0, none⟩ = some (.slice Ak kk ck) := by { rw [hS.2.cell]; rfl }; go_simp⟩) (hHeld) ?_
                  simp only [Act.put, List.setIfInBounds_toArray, List.set_cons_zero, List.set_cons_succ]
                  refine held_takeD 6 (.pointer (some ⟨wr.heap.size, 1, none⟩)) (some 80) (by rfl) (by rfl) (by kernel_rfl) (by kernel_rfl) (by kernel_rfl) (fun _ _ _ h => h) (.inl ⟨by rfl, fun _ _ => by go_simp⟩) (hHeld) ?_
                  simp only [Act.put, List.setIfInBounds_toArray, List.set_cons_zero, List.set_cons_succ]
                  refine held_takeD 7 (.slice Av kv cv) (some 81) (by rfl) (by rfl) (by kernel_rfl) (by kernel_rfl) (by kernel_rfl) (fun _ _ _ h => h) (.inl ⟨by rfl, fun wS hS => by have hc : wS.cell? ⟨wr.heap.size, 1, none⟩ = some (.slice Av kv cv) := by { rw [hS.2.cell]; rfl }; go_simp⟩) (hHeld) ?_
                  simp only [Act.put, List.setIfInBounds_toArray, List.set_cons_zero, List.set_cons_succ]
                  refine held_one 5 (by kernel_rfl) (by rfl) (fun K' hK' => ?_)
                  go_simp
                  refine (natOf_any Ak kk ck sl.1 _ (unhide HNKS _ d3).1 hsl2.1).mono ?_
                  rintro e w6 ⟨Aa, ka, ca, rfl, -, -, b6⟩
                  refine hK'.out _ _ (unhide HSS2 _ (d3.trans (b6.mono d3.size))) ?_
                  clear hK' K'
                  have d6 := d3.trans (b6.mono d3.size)
                  refine held_one 8 (by kernel_rfl) (by rfl) (fun K' hK' => ?_)
                  go_simp
                  refine (natOf_any Av kv cv sl.2 _ (unhide HNKS _ d6).2 hsl2.2).mono ?_
                  rintro e w7 ⟨Ab, kb, cb', rfl, -, -, b7⟩
                  refine hK'.out _ _ (unhide HSS2 _ (d6.trans (b7.mono d6.size))) ?_
                  clear hK' K'
                  have d7 := d6.trans (b7.mono d6.size)
                  refine held_takeD 9 (.agg [Value.slice Aa ka ca, .slice Ab kb cb'].toArray) (some 83) (by rfl) (by rfl) (by kernel_rfl) (by kernel_rfl) (by kernel_rfl) (fun _ _ _ h => h) (yieldsIf_build (by rfl) 117 [(0, .tmp 79), (1, .tmp 82)] rfl _ (fun wx => run_slot2 Aa Ab ka ca kb cb' wx)) (unhide HSS2 _ d7) ?_
                  simp only [Act.put, List.setIfInBounds_toArray, List.set_cons_zero, List.set_cons_succ]
                  refine held_takeD 10 (.pointer (some ⟨gs, j * 2, none⟩)) (some 84) (by rfl) (by rfl) (by kernel_rfl) (by kernel_rfl) (by kernel_rfl) (fun _ _ _ h => h) (.inl ⟨by rfl, fun _ _ => by go_simp⟩) (unhide HSS2 _ d7) ?_
                  simp only [Act.put, List.setIfInBounds_toArray, List.set_cons_zero, List.set_cons_succ]
                  refine held_store 11 (by kernel_rfl) (by rfl) rfl (by rfl) 117 (.tmp 84) (.tmp 83) rfl gs (j * 2) 117 ys [Value.slice Aa ka ca, .slice Ab kb cb'] rfl rfl ((unhide HYR3).kept d7) (by have := unhide HYL; simp; omega) sizeSlot (row2_one _ _ _ _ _ _) ?_
                  intro wS rS oS
                  have hgsl : gs < wr.heap.size := (unhide HYR).lt
                  have rSX := ((unhide HSS2 _ d7).1).only oS (by omega)
                  have rSb := ((unhide HSS2 _ d7).2).only oS (by omega)
                  refine ⟨⟨rSX, rSb⟩, ?_⟩
                  refine wpAnyH_done (by kernel_rfl) ?_ _
                  refine NoPanic.normal ?_
                  have bS : Below w1.heap.size w1 wS := (hb3.trans (d7.mono hb3.size)).trans (oS.below _ hgs1)
                  have hSl : (spl ys (j * 2) [Value.slice Aa ka ca, .slice Ab kb cb']).length = k4 * 2 := by rw [spl_len _ _ _ (by have := unhide HYL; simp; omega)]; exact unhide HYL
                  have RS := hide rS
                  have RSX := hide rSX
                  clear rS rSX rSb
                  go_wp2
                  go_roundg (k4 - 1 - j)
                  case measure => omega
                  case rel => exact ⟨j + 1, by omega, rfl, unhide RSX, fun _ => ⟨_, unhide Y0, hgs1, hgsX, unhide RS, hSl⟩, bS⟩
                · -- the account is laid
                  have hbO : Below wo.heap.size wo wr := (unhide HBB).trans (hbr.mono (unhide HBB).size)
                  have hzr := (unhide HZR).kept hbO
                  have hr2 := (unhide HR2).kept hbO
                  have ec0 : wr.cell? ⟨g, 0, none⟩ = some (.slice (some ⟨ga, 0, none⟩) l l) := by rw [hr2.cell]; exact unhide HQ0
                  have hxs : (Sakg.prog.info? 113).map (·.size) = some x1.length := by rw [unhide HXL1]; exact sizeAcct
                  have HXS := hide hxs
                  have HRA := hide rX.rangeAll
                  have HZRr := hide hzr
                  have HR2r := hide hr2
                  have hil24 : i * 24 + x1.length ≤ zs.length := by rw [unhide HXL1, unhide HZL]; omega
                  clear rX hzr hr2 hxs hgs
                  go_wp2_with (first
                    | ((with_reducible refine at_load 113 ?_); refine wpList_load_g (by rfl) 113 (.tmp 6) rfl gX _ rfl x1 _ (unhide HRA) Sakg.underlying113 rfl (unhide HXS) ?_)
                    | ((with_reducible refine at_store 113 ?_); refine wpList_store_part rfl 113 (.tmp 90) (.tmp 89) rfl ga (i * 24) 113 zs x1 (by first | rfl | simp) rfl (unhide HZRr) hil24 (unhide HXS) (unhide HXO1) ?_; intro w8 hr8 ho8))
                  have hWr : Below W.heap.size W wr := hbe.trans (hbO.mono hbe.size)
                  have bW8 : Below W.heap.size W w8 := hWr.trans (ho8.below _ hgaW)
                  have r28 := (unhide HR2r).only ho8 (by omega)
                  have hl8 : (spl zs (i * 24) x1).length = l * 24 := by rw [spl_len _ _ _ hil24]; exact unhide HZL
                  go_roundg (l - 1 - i)
                  case measure => omega
                  case rel => exact ⟨i + 1, by omega, rfl, r28, fun _ => ⟨_, unhide HQ0, hgaW, hgag, hr8, hl8⟩, bW8⟩
        · clear hrm
          obtain ⟨aw, lw, cw, als, h1, hals, hlw⟩ := h.warmA
          obtain ⟨am, lm, cm, ms, h2, ⟨mrows, hmr, hme⟩, hlm⟩ := h.warmS
          have h5 := h.c5
          have h6 := h.c6
          have h7 := h.c7
          have hce : ∀ wz, Below W.heap.size W wz → ∀ i v, cs[i]? = some v → wz.cell? ⟨bw, i, none⟩ = some v := fun wz hz i v hv => by rw [(unhide HCS wz hz).cell]; exact hv
          have ce1 : ∀ wz, Below W.heap.size W wz → wz.cell? ⟨bw, 1, none⟩ = some (.slice aw lw cw) := fun wz hz => hce wz hz 1 _ h1
          have ce2 : ∀ wz, Below W.heap.size W wz → wz.cell? ⟨bw, 2, none⟩ = some (.slice am lm cm) := fun wz hz => hce wz hz 2 _ h2
          have ce5 : ∀ wz, Below W.heap.size W wz → wz.cell? ⟨bw, 5, none⟩ = some (.slice none 0 0) := fun wz hz => hce wz hz 5 _ h5
          have ce6 : ∀ wz, Below W.heap.size W wz → wz.cell? ⟨bw, 6, none⟩ = some (.slice none 0 0) := fun wz hz => hce wz hz 6 _ h6
          have ce7 : ∀ wz, Below W.heap.size W wz → wz.cell? ⟨bw, 7, none⟩ = some (.slice none 0 0) := fun wz hz => hce wz hz 7 _ h7
          have hca : ∀ wz, Below W.heap.size W wz → Calls Sakg.prog 295 #[.slice aw lw cw] wz fun e w' => (∃ A k c, e = .returned (.slice A k c)) ∧ Below wz.heap.size wz w' := fun wz hz => addrs_b aw lw cw als wz (Stab.go hals (Chg.of (unhide HWW wz hz))).now (by omega)
          have HCA := hide hca
          have CE1 := hide ce1
          have CE2 := hide ce2
          have CE5 := hide ce5
          have CE6 := hide ce6
          have CE7 := hide ce7
          have HMAT := hide (rows_at' (([], 0) : YMark) hmr.now hme)
          have HMNIL := hide hmr.now.nil
          have hnT := fun (wx : World) (x : Option Addr) (n c n' c' : Nat) => Lib.run_eql_slice_nil (P := Sakg.prog) wx 99 363 x n c n' c' Sakg.underlying99
          have hnM := fun (wx : World) (x : Option Addr) (n c n' c' : Nat) => Lib.run_eql_slice_nil (P := Sakg.prog) wx 98 288 x n c n' c' Sakg.underlying98
          clear h1 h2 h5 h6 h7 hals hmr hme hce ce1 ce2 ce5 ce6 ce7 hca e1 hn hn2 HAT HNIL HI0 HZ0 HZ1 HZ2
          have ecp := unhide CE1 wo hbe
          go_upto_region 18 with (go_at_call 295; refine ((unhide HCA wo hbe)).mono ?_; rintro e wp ⟨⟨Ap, kp, cp, rfl⟩, bp⟩; have hqp := (unhide HR2).kept bp; have hxp : ∃ v, wp.cell? ⟨g, 1, none⟩ = some v := by { rw [hqp.cell, List.getElem?_eq_getElem (by rw [(unhide HSL1).1]; omega)]; exact ⟨_, rfl⟩ }; obtain ⟨vp, hxp⟩ := hxp; have hfp := hqp.froz 1; have HQp := hide hqp; clear hqp)
          obtain ⟨xp, hxpe, hrp, hbp⟩ : ∃ x, x = wp.setCell ⟨g, 1, none⟩ (.slice Ap kp cp) ∧ RowT 101 x g (r1.set 1 (.slice Ap kp cp)) ∧ Below W.heap.size W x := ⟨_, rfl, (unhide HQp).set 1 _, (hbe.trans (bp.mono hbe.size)).trans (((Only.refl g wp).setCell 1 _).below _ hg)⟩
          rw [← hxpe]
          obtain ⟨rp, hslp, hrrp⟩ : ∃ r', Slices 8 r' ∧ RowT 101 xp g r' := ⟨_, (unhide HSL1).set 1 _ _ _, hrp⟩
          have HRp := hide hrrp
          have HSLp := hide hslp
          clear hxpe hxp hfp HQp hrp hrrp hslp ecp HR2 HSL1
          have ecq := unhide CE6 xp hbp
          go_upto_region 19 with (go_at_call 295; refine ((addrs_nil_b xp)).mono ?_; rintro e wq ⟨⟨Aq, kq, cq, rfl⟩, bq⟩; have hqq := (unhide HRp).kept bq; have hxq : ∃ v, wq.cell? ⟨g, 6, none⟩ = some v := by { rw [hqq.cell, List.getElem?_eq_getElem (by rw [(unhide HSLp).1]; omega)]; exact ⟨_, rfl⟩ }; obtain ⟨vq, hxq⟩ := hxq; have hfq := hqq.froz 6; have HQq := hide hqq; clear hqq)
          obtain ⟨xq, hxqe, hrq, hbq⟩ : ∃ x, x = wq.setCell ⟨g, 6, none⟩ (.slice Aq kq cq) ∧ RowT 101 x g (rp.set 6 (.slice Aq kq cq)) ∧ Below W.heap.size W x := ⟨_, rfl, (unhide HQq).set 6 _, (hbp.trans (bq.mono hbp.size)).trans (((Only.refl g wq).setCell 6 _).below _ hg)⟩
          rw [← hxqe]
          obtain ⟨rq, hslq, hrrq⟩ : ∃ r', Slices 8 r' ∧ RowT 101 xq g r' := ⟨_, (unhide HSLp).set 6 _ _ _, hrq⟩
          have HRq := hide hrrq
          have HSLq := hide hslq
          clear hxqe hxq hfq HQq hrq hrrq hslq ecq HRp HSLp
          have ecs := unhide CE7 xq hbq
          go_upto_region 20 with (go_at_call 295; refine ((addrs_nil_b xq)).mono ?_; rintro e ws ⟨⟨As, ks, cs, rfl⟩, bs⟩; have hqs := (unhide HRq).kept bs; have hxs : ∃ v, ws.cell? ⟨g, 7, none⟩ = some v := by { rw [hqs.cell, List.getElem?_eq_getElem (by rw [(unhide HSLq).1]; omega)]; exact ⟨_, rfl⟩ }; obtain ⟨vs, hxs⟩ := hxs; have hfs := hqs.froz 7; have HQs := hide hqs; clear hqs)
          obtain ⟨xs, hxse, hrs, hbs⟩ : ∃ x, x = ws.setCell ⟨g, 7, none⟩ (.slice As ks cs) ∧ RowT 101 x g (rq.set 7 (.slice As ks cs)) ∧ Below W.heap.size W x := ⟨_, rfl, (unhide HQs).set 7 _, (hbq.trans (bs.mono hbq.size)).trans (((Only.refl g ws).setCell 7 _).below _ hg)⟩
          rw [← hxse]
          obtain ⟨rs, hsls, hrrs⟩ : ∃ r', Slices 8 r' ∧ RowT 101 xs g r' := ⟨_, (unhide HSLq).set 7 _ _ _, hrs⟩
          have HRs := hide hrrs
          have HSLs := hide hsls
          clear hxse hxs hfs HQs hrs hrrs hsls ecs HRq HSLq
          have ec5 := unhide CE5 xs hbs
          go_wp2_with fail
          go_loopg [127] 0 (fun gk iv wr => iv = .int .i64 0 ∧ wr = xs)
          case atStart => exact ⟨rfl, rfl⟩
          case round =>
            obtain ⟨rfl, hxx⟩ := hrel
            obtain rfl : xs = wr := hxx.symm
            obtain ⟨i2, hi2, hv0, hv1, hv2⟩ := info_parts infoMark
            have HI2 := hide hi2
            have HV0 := hide hv0
            have HV1 := hide hv1
            have HV2 := hide hv2
            have ec2 := unhide CE2 xs hbs
            clear hi2 hv0 hv1 hv2 ec5
            go_upto_if 150 with fail
            go_cut [3] (fun s3 wd => ∃ (gm : Nat) (rt : List Value), s3 = .pointer (some ⟨g, 0, none⟩) ∧ RowT 101 wd g rt ∧ Slices 8 rt ∧ Below W.heap.size W wd ∧ (0 < lm → Room W.heap.size g 288 21 rt 2 lm gm wd))
            case first =>
              cases am with
              | none =>
                go_wp2_with fail
                go_meet
                case rel =>
                  obtain ⟨rfl, -⟩ := unhide HMNIL (by simp)
                  exact ⟨0, rs, rfl, unhide HRs, unhide HSLs, hbs, fun h => by omega⟩
              | some ad =>
                go_wp2_with (at_make; refine wpList_make_rows rfl _ _ 98 rfl 288 Sakg.underlying98 i2 _ 21 48 (unhide HI2) (unhide HV0) (unhide HV1) (unhide HV2) _ _ lm rfl rfl rfl rfl (by omega) (by omega) ?_; intro w2 ys hr2 hzl hb2 hs2; have HRm := hide hr2; have HZLm := hide hzl; have HB2 := hide hb2; have hq2 := (unhide HRs).kept hb2; have hx2 : ∃ v, w2.cell? ⟨g, 2, none⟩ = some v := by { rw [hq2.cell, List.getElem?_eq_getElem (by rw [(unhide HSLs).1]; omega)]; exact ⟨_, rfl⟩ }; obtain ⟨v2, hx2⟩ := hx2; have hf2 := hq2.froz 2; have HQ2 := hide hq2; clear hr2 hzl hb2 hq2)
                go_meet
                case rel =>
                  have hgl := (unhide HRs).lt
                  exact ⟨xs.heap.size, _, rfl, (unhide HQ2).set 2 _, (unhide HSLs).set 2 _ _ _, (hbs.trans ((unhide HB2).mono hbs.size)).trans (((Only.refl g w2).setCell 2 _).below _ hg), fun _ => ⟨ys, List.getElem?_set_self (by rw [(unhide HSLs).1]; omega), hbs.size, by omega, (unhide HRm).only ((Only.refl g w2).setCell 2 _) (by omega), unhide HZLm⟩⟩
            case rest =>
              obtain ⟨wt, hwt⟩ : ∃ wt, wt = wc := ⟨_, rfl⟩
              subst hwt
              obtain ⟨gm, rt, rfl, hrt, hslt, bt, hgm⟩ := hcut
              have ec2' := unhide CE2 wt bt
              have HRt := hide hrt
              have HSLt := hide hslt
              have HGM := hide hgm
              have hZ21 : (bv (zeros 20) ++ [nilS]).length = 21 := by simp [bv_len, zeros_len]
              clear hrt hslt hgm HRs HSLs ec2
              go_wp2_with fail
              go_loopg [163] lm (fun gk iv wr => ∃ i : Nat, i + gk = lm ∧ iv = .int .i64 i ∧ RowT 101 wr g rt ∧ (0 < lm → Room W.heap.size g 288 21 rt 2 lm gm wr) ∧ Below W.heap.size W wr)
              case atStart => exact ⟨0, by omega, rfl, unhide HRt, unhide HGM, bt⟩
              case round =>
                obtain ⟨i, hi, rfl, hrt, hrm, hbe2⟩ := hrel
                have HRu := hide hrt
                clear hrt
                by_cases hil : i < lm
                · obtain ⟨zs, q0, hgaW, hgag, hzr, hzl⟩ := hrm (by omega)
                  obtain ⟨b, off, rfl, hlt, hat⟩ := unhide HMAT (by omega)
                  obtain ⟨ri, hrg, hrow⟩ := hat i hil
                  obtain ⟨mk, hmk⟩ : ∃ o, o = ms.getD i ([], 0) := ⟨_, rfl⟩
                  rw [← hmk] at hrow
                  have hrl := hrow.len
                  have hri1 := hrow.one
                  have hia := hrow.addr
                  have hpre := hrow.pre
                  obtain ⟨Ak, kk, ck, q20, nk, hkb⟩ := hrow.key
                  have hsz : (Sakg.prog.info? 288).map (·.size) = some ri.length := by rw [hrl]; exact sizeMark
                  have hrg2 := range_below hrg (unhide HWW wr hbe2) (fun _ => hlt)
                  have HQ0 := hide q0
                  have HZR := hide hzr
                  have HZL := hide hzl
                  have HRG := hide hrg2
                  have HSZ := hide hsz
                  have HRL := hide hrl
                  have HONE := hide hri1
                  have NK := hide nk
                  have HPRE := hide hpre
                  have Q20 := hide q20
                  clear q0 hzr hzl hat hrg hrg2 hrow hsz hrl hmk hrm hri1 nk hpre q20
                  go_upto_region 32 with (first
                    | ((with_reducible refine at_load 288 ?_); refine wpList_load_g (by rfl) 288 (.tmp 166) rfl b _ rfl ri _ (unhide HRG) Sakg.underlying288 rfl (unhide HSZ) ?_)
                    | ((with_reducible refine at_alloc 288 ?_); refine wpList_alloc_g (by rfl) 288 rfl (bv (zeros 20) ++ [nilS]) 21 infoMark2 hZ21 ?_)
                    | ((with_reducible refine at_store 288 ?_); refine wpList_store_whole rfl 288 (.tmp 12) (.tmp 167) rfl _ _ _ ri rfl rfl (RowT.new _ _ _) (by rw [unhide HRL, hZ21]) (unhide HSZ) (unhide HONE) ?_; intro w3 hr3 hon3; have hbb3 := box_below hon3; clear hon3))
                  simp only [Act.put, List.setIfInBounds_toArray, List.set_cons_zero, List.set_cons_succ]
                  have hb3 : Below W.heap.size W w3 := hbe2.trans (hbb3.1.mono hbe2.size)
                  have d3 : Below w3.heap.size w3 w3.drew := Quiet.below ⟨1, rfl⟩ _
                  have HZR3 : Hid (RowT 288 w3 gm zs) := hide ((unhide HZR).kept hbb3.1)
                  have hrt3 := (unhide HRu).kept hbb3.1
                  have hss2 : ∀ wz, Below w3.heap.size w3 wz → RowT 101 wz g rt ∧ RowT 288 wz wr.heap.size ri := fun wz hz => ⟨hrt3.kept hz, hr3.kept hz⟩
                  have HSS2 := hide hss2
                  have hnks : IsNat w3.drew Ak kk ck mk.2 := ((unhide NK).go (Chg.of (unhide HWW _ (hb3.trans (d3.mono hb3.size))))).now
                  have HNKS := hide hnks
                  have hu := Sakg.underlying26
                  have hsz63 := hia.size
                  clear hr3 hbb3 hss2 hnks hrt3
                  refine wp_region_noPanic ?_
                  refine wp_region_held_drew (S := fun w' => RowT 101 w' g rt ∧ RowT 288 w' wr.heap.size ri) (by kernel_rfl) (unhide HSS2 _ d3) (fun hHeld => ?_)
                  refine held_takeD 0 (.pointer (some ⟨g, 2, none⟩)) (some 168) (by rfl) (by rfl) (by kernel_rfl) (by kernel_rfl) (by kernel_rfl) (fun _ _ _ h => h) (.inl ⟨by rfl, fun _ _ => by go_simp⟩) (hHeld) ?_
                  simp only [Act.put, List.setIfInBounds_toArray, List.set_cons_zero, List.set_cons_succ]
                  refine held_takeD 1 (.slice (some ⟨gm, 0, none⟩) lm lm) (some 169) (by rfl) (by rfl) (by kernel_rfl) (by kernel_rfl) (by kernel_rfl) (fun _ _ _ h => h) (.inl ⟨by rfl, fun wS hS => by have hc : wS.cell? ⟨g, 2, none⟩ = some (.slice (some ⟨gm, 0, none⟩) lm lm) := by { rw [hS.1.cell]; exact unhide HQ0 }; go_simp⟩) (hHeld) ?_
                  simp only [Act.put, List.setIfInBounds_toArray, List.set_cons_zero, List.set_cons_succ]
                  refine held_takeD 2 (.int .i64 i) (some 170) (by rfl) (by rfl) (by kernel_rfl) (by kernel_rfl) (by kernel_rfl) (fun _ _ _ h => h) (.inl ⟨by rfl, fun _ _ => by rfl⟩) (hHeld) ?_
                  simp only [Act.put, List.setIfInBounds_toArray, List.set_cons_zero, List.set_cons_succ]
                  refine held_takeD 3 (.pointer (some ⟨wr.heap.size, 0, none⟩)) (some 171) (by rfl) (by rfl) (by kernel_rfl) (by kernel_rfl) (by kernel_rfl) (fun _ _ _ h => h) (.inl ⟨by rfl, fun _ _ => by go_simp⟩) (hHeld) ?_
                  simp only [Act.put, List.setIfInBounds_toArray, List.set_cons_zero, List.set_cons_succ]
                  refine held_takeD 4 (.agg (bv mk.1).toArray) (some 172) (by rfl) (by rfl) (by kernel_rfl) (by kernel_rfl) (by kernel_rfl) (fun _ _ _ h => h) (yieldsIf_load_mid (by rfl) _ _ rfl _ _ rfl _ _ (fun wz hS => (by have := hS.2.range 0 20; rwa [unhide HPRE] at this)) hu rfl hsz63) (hHeld) ?_
                  simp only [Act.put, List.setIfInBounds_toArray, List.set_cons_zero, List.set_cons_succ]
                  refine held_takeD 5 (.pointer (some ⟨wr.heap.size, 20, none⟩)) (some 173) (by rfl) (by rfl) (by kernel_rfl) (by kernel_rfl) (by kernel_rfl) (fun _ _ _ h => h) (.inl ⟨by rfl, fun _ _ => by go_simp⟩) (hHeld) ?_
                  simp only [Act.put, List.setIfInBounds_toArray, List.set_cons_zero, List.set_cons_succ]
                  refine held_takeD 6 (.slice Ak kk ck) (some 174) (by rfl) (by rfl) (by kernel_rfl) (by kernel_rfl) (by kernel_rfl) (fun _ _ _ h => h) (.inl ⟨by rfl, fun wS hS => by have hc : wS.cell? ⟨wr.heap.size, 20, none⟩ = some (.slice Ak kk ck) := by { rw [hS.2.cell]; exact unhide Q20 }; go_simp⟩) (hHeld) ?_
                  simp only [Act.put, List.setIfInBounds_toArray, List.set_cons_zero, List.set_cons_succ]
                  refine held_one 7 (by kernel_rfl) (by rfl) (fun K' hK' => ?_)
                  go_simp
                  refine (natOf_any Ak kk ck mk.2 _ (unhide HNKS) hkb).mono ?_
                  rintro e w6 ⟨Aa, ka, ca, rfl, -, -, b6⟩
                  refine hK'.out _ _ (unhide HSS2 _ (d3.trans (b6.mono d3.size))) ?_
                  clear hK' K'
                  have d6 := d3.trans (b6.mono d3.size)
                  refine held_takeD 8 (.agg (bv mk.1 ++ [Value.slice Aa ka ca]).toArray) (some 176) (by rfl) (by rfl) (by kernel_rfl) (by kernel_rfl) (by kernel_rfl) (fun _ _ _ h => h) (yieldsIf_build (by rfl) 288 [(0, .tmp 172), (1, .tmp 175)] rfl _ (fun wx => run_mark2 wx mk.1 hia Aa ka ca)) (unhide HSS2 _ d6) ?_
                  simp only [Act.put, List.setIfInBounds_toArray, List.set_cons_zero, List.set_cons_succ]
                  refine held_takeD 9 (.pointer (some ⟨gm, i * 21, none⟩)) (some 177) (by rfl) (by rfl) (by kernel_rfl) (by kernel_rfl) (by kernel_rfl) (fun _ _ _ h => h) (.inl ⟨by rfl, fun _ _ => by go_simp⟩) (unhide HSS2 _ d6) ?_
                  simp only [Act.put, List.setIfInBounds_toArray, List.set_cons_zero, List.set_cons_succ]
                  have hml : (bv mk.1 ++ [Value.slice Aa ka ca]).length = 21 := by simp [bv_len, hia.len]
                  have hil21 : i * 21 + (bv mk.1 ++ [Value.slice Aa ka ca]).length ≤ zs.length := by rw [hml, unhide HZL]; omega
                  refine held_store 10 (by kernel_rfl) (by rfl) rfl (by rfl) 288 (.tmp 177) (.tmp 176) rfl gm (i * 21) 288 zs (bv mk.1 ++ [Value.slice Aa ka ca]) rfl rfl ((unhide HZR3).kept d6) hil21 (by rw [hml]; exact sizeMark) (mark_one _ _ _ _) ?_
                  intro wS rS oS
                  have hgml : gm < wr.heap.size := (unhide HZR).lt
                  have rSX := ((unhide HSS2 _ d6).1).only oS (by omega)
                  have rSb := ((unhide HSS2 _ d6).2).only oS (by omega)
                  refine ⟨⟨rSX, rSb⟩, ?_⟩
                  refine wpAnyH_done (by kernel_rfl) ?_ _
                  refine NoPanic.normal ?_
                  have bS : Below W.heap.size W wS := (hb3.trans (d6.mono hb3.size)).trans (oS.below _ hgaW)
                  have hSl : (spl zs (i * 21) (bv mk.1 ++ [Value.slice Aa ka ca])).length = lm * 21 := by rw [spl_len _ _ _ hil21]; exact unhide HZL
                  have RS := hide rS
                  have RSX := hide rSX
                  clear rS rSX rSb
                  go_wp2
                  go_roundg (lm - 1 - i)
                  case measure => omega
                  case rel => exact ⟨i + 1, by omega, rfl, unhide RSX, fun _ => ⟨_, unhide HQ0, hgaW, hgag, unhide RS, hSl⟩, bS⟩
                · have hr0F := (unhide HR0).kept hbe2
                  have HR0F := hide hr0F
                  have HRA := hide (unhide HRu).rangeAll
                  have hsF : (Sakg.prog.info? 101).map (·.size) = some rt.length := by rw [(unhide HSLt).1]; exact sizeWorld
                  have hlF : nils8.length = rt.length := by rw [(unhide HSLt).1]; rfl
                  clear hr0F hrm
                  go_wp2_with (first
                    | ((with_reducible refine at_load 101 ?_); refine wpList_load_g (by rfl) 101 (.tmp 3) rfl g _ rfl rt _ (unhide HRA) Sakg.underlying101 rfl hsF ?_)
                    | ((with_reducible refine at_store 101 ?_); refine wpList_store_whole rfl 101 (.tmp 2) (.tmp 179) rfl w.heap.size 101 nils8 rt rfl rfl (unhide HR0F) hlF hsF (unhide HSLt).one ?_; intro w9 hr9 ho9))
                  refine bodyPost_ret (results_cell_row rfl _ _ _ _ _ _ _ rfl hr9 Sakg.underlying101 rfl (by simpa using hsF)) rfl ?_
                  exact ⟨⟨rt, rfl, unhide HSLt⟩, (unhide HWW _ hbe2).trans (ho9.below _ (Nat.le_refl _))⟩

end Go.Proofs.YgcsakGreat
