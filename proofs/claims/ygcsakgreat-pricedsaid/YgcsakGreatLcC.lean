/-
  law: slotsRise.
-/
import Derived.Test.YgcsakGreatLcB
namespace Go.Proofs.YgcsakGreat
set_option linter.unusedVariables false
set_option linter.unusedSimpArgs false
set_option maxRecDepth 100000
open Go.RowKit

/-- the slots rise, and none is zero -/
def RiseO (ss : List (List Int × List Int)) : Prop := ss.Pairwise (fun x y => beforeB x.1 y.1 = true) ∧ ∀ s ∈ ss, beN s.2 ≠ 0
theorem RiseO.next {ss : List (List Int × List Int)} (h : RiseO ss) {i : Nat} (hi : i + 1 < ss.length) : beforeB (ss.getD i ([], [])).1 (ss.getD (i + 1) ([], [])).1 = true := by
  have h1 := List.pairwise_iff_getElem.1 h.1 i (i + 1) (by omega) hi (by omega)
  simpa [List.getD, hi, show i < ss.length by omega] using h1
set_option maxHeartbeats 8000000 in
theorem slotsRise_true (ao : Option Addr) (l c : Nat) (ss : List (List Int × List Int)) (w : World) (h : OSlotsR w ao l c ss) (hl : l ≤ 1000000) (hr : RiseO ss) :
    Calls Sakg.prog 181 #[.slice ao l c] w fun e w' => e = .returned (.bool true) ∧ Below w.heap.size w w' := by
  have hlen := h.len
  obtain ⟨rows, h1, h2⟩ := h
  have HRW := hide h1
  have HEA := hide h2
  have HLEN := hide hlen
  have HR := hide hr
  have hz64 : (bv (zeros 64)).length = 64 := by rw [bv_len, zeros_len]
  clear h1 h2 hlen hr
  go_enter Sakg.func181, Sakg.ntmps181
  go_wp2_with fail
  go_loopg [7] l (fun gk iv wr => ∃ i : Nat, i + gk = l ∧ iv = .int .i64 i ∧ Below w.heap.size w wr)
  case atStart => exact ⟨0, by omega, rfl, Below.refl _ _⟩
  case round =>
    obtain ⟨i, hi, rfl, hb⟩ := hrel
    by_cases hil : i < l
    · as_aux_lemma =>
      obtain ⟨b, off, rfl, hlt, hat⟩ := rows_at' (([], []) : List Int × List Int) (unhide HRW) (unhide HEA) (by omega)
      obtain ⟨ri, hrg, hrow⟩ := hat i hil
      have hil2 : i < ss.length := by have := unhide HLEN; omega
      obtain ⟨sl, hsl⟩ : ∃ sl, sl = ss.getD i ([], []) := ⟨_, rfl⟩
      have hnz : beN sl.2 ≠ 0 := (unhide HR).2 sl (by rw [hsl]; simp [List.getD, hil2])
      rw [← hsl] at hrow
      have hrl := hrow.len
      have hsz : (Sakg.prog.info? 40).map (·.size) = some ri.length := by rw [hrl]; exact sizeOSlot
      have hrg2 := range_below hrg hb (fun _ => hlt)
      have hones : ∀ v ∈ ri, v.oneCell' = true := by
        obtain ⟨g1, _, _⟩ := hrow
        rw [g1, ← bv_append]
        exact bv_one _
      have HRG := hide hrg2
      have HSZ := hide hsz
      have HRL := hide hrl
      have HROW := hide hrow
      have HAT := hide hat
      have HSL := hide hsl
      clear hat hrg hrg2 hrow hsz hrl hsl
      go_upto_region 4 with (first
        | ((with_reducible refine at_load 40 ?_); refine wpList_load_g (by rfl) 40 (.tmp 10) rfl b _ rfl ri _ (unhide HRG) Sakg.underlying40 rfl (unhide HSZ) ?_)
        | ((with_reducible refine at_alloc 40 ?_); refine wpList_alloc_g (by rfl) 40 rfl (bv (zeros 64)) 64 infoOSlot hz64 ?_)
        | ((with_reducible refine at_store 40 ?_); refine wpList_store_whole rfl 40 (.tmp 4) (.tmp 11) rfl _ _ _ ri rfl rfl (RowT.new _ _ _) (by rw [unhide HRL, hz64]) (unhide HSZ) hones ?_; intro w1 hr1 hon1; have hbb1 := box_below hon1; clear hon1))
      have b1 := hbb1.1
      have bw1 : Below w.heap.size w w1 := hb.trans (b1.mono hb.size)
      have hvs : Src w1 (some ⟨wr.heap.size, 32, none⟩) 32 32 sl.2 := src_of_range (by have := (unhide HROW).val hr1.rangeAll; rwa [Nat.zero_add] at this) (unhide HROW).2.2.byt (unhide HROW).2.2.len max32
      have HFB := hide (fromBE_any _ 32 32 sl.2 w1 hvs (by omega))
      have R1 := hide hr1
      clear hbb1 hvs hr1
      go_wp2_with fail
      refine (unhide HFB).mono ?_
      rintro e w2 ⟨A2, k2, c2, rfl, n2, N2, b2⟩
      have hA2 : ∃ ad, A2 = some ad := by
        cases A2 with
        | some ad => exact ⟨ad, rfl⟩
        | none =>
          obtain ⟨ds, hs, -, hv, -⟩ := n2
          obtain ⟨hk0, -⟩ := hs.nil rfl
          have h3 : ds = [] := List.eq_nil_of_length_eq_zero (by rw [hs.len_eq, hk0])
          rw [h3] at hv
          exact absurd hv.symm hnz
      obtain ⟨ad, rfl⟩ := hA2
      have hn := fun (wx : World) (x : Option Addr) (n c n' c' : Nat) => Lib.run_eql_slice_nil (P := Sakg.prog) wx 54 5 x n c n' c' Sakg.underlying54
      have bw2 : Below w.heap.size w w2 := bw1.trans (b2.mono bw1.size)
      have R2 := hide ((unhide R1).kept b2)
      clear n2 N2
      go_upto_region 6 with fail
      have d2 : Below w2.heap.size w2 w2.drew := Quiet.below ⟨1, rfl⟩ _
      obtain ⟨ni, hni⟩ : ∃ ni, ni = i + 1 := ⟨_, rfl⟩
      have hnI : (i : Int) + 1 = (ni : Int) := by omega
      have hwni : IntKind.i64.wrap (ni : Int) = (ni : Int) := by rw [IntKind.wrap_i64]; omega
      have hnil : ni ≤ l := by omega
      have HNI := hide hni
      clear hni
      go_cut [32] (fun s32 wc => s32 = .bool false ∧ Below w2.heap.size w2 wc)
      case first =>
        as_aux_lemma =>
        by_cases hnx : ni < l
        · have t1 : decide ((ni : Int) < (l : Int)) = true := by rw [decide_eq_true_iff]; omega
          obtain ⟨rn, hrgn, hrown⟩ := unhide HAT ni hnx
          obtain ⟨sn, hsn⟩ : ∃ sn, sn = ss.getD ni ([], []) := ⟨_, rfl⟩
          rw [← hsn] at hrown
          have hbf : beforeB sl.1 sn.1 = true := by
            rw [unhide HSL, hsn, unhide HNI]
            exact (unhide HR).next (by have := unhide HLEN; have := unhide HNI; omega)
          have hk1 : ∀ wz, Below w2.heap.size w2 wz → Src wz (some ⟨wr.heap.size, 0, none⟩) 32 32 sl.1 := fun wz hz => src_of_range ((unhide HROW).key ((unhide R2).kept hz).rangeAll) (unhide HROW).2.1.byt (unhide HROW).2.1.len max32
          have hk2 : ∀ wz, Below w2.heap.size w2 wz → Src wz (some ⟨b, off + ni * 64, none⟩) 32 32 sn.1 := fun wz hz => src_of_range (hrown.key (range_below hrgn (bw2.trans (hz.mono bw2.size)) (fun _ => hlt))) hrown.2.1.byt hrown.2.1.len max32
          have HBL := hide (below_true _ _ 32 32 32 sl.1 sn.1 w2.drew (hk1 _ d2) (hk2 _ d2) (by omega) hbf)
          clear hk1 hk2 hbf hrown hrgn hsn
          refine wp_region_noPanic ?_
          refine wp_region_held_drew (S := fun w' => Below w2.heap.size w2 w') (by kernel_rfl) (d2) (fun hHeld => ?_)
          refine held_takeD 0 (.int .i64 i) (some 16) (by rfl) (by rfl) (by kernel_rfl) (by kernel_rfl) (by kernel_rfl) (fun _ _ _ h => h) (.inl ⟨by rfl, fun _ _ => by rfl⟩) (hHeld) ?_
          simp only [Act.put, List.setIfInBounds_toArray, List.set_cons_zero, List.set_cons_succ]
          refine held_takeD 1 (.int .i64 ni) (some 17) (by rfl) (by rfl) (by kernel_rfl) (by kernel_rfl) (by kernel_rfl) (fun _ _ _ h => h) (.inl ⟨by rfl, fun _ _ => by go_simp⟩) (hHeld) ?_
          simp only [Act.put, List.setIfInBounds_toArray, List.set_cons_zero, List.set_cons_succ]
          refine held_takeD 2 (.slice (some ⟨b, off, none⟩) l c) (some 18) (by rfl) (by rfl) (by kernel_rfl) (by kernel_rfl) (by kernel_rfl) (fun _ _ _ h => h) (.inl ⟨by rfl, fun _ _ => by rfl⟩) (hHeld) ?_
          simp only [Act.put, List.setIfInBounds_toArray, List.set_cons_zero, List.set_cons_succ]
          refine held_takeD 3 (.int .i64 l) (some 19) (by rfl) (by rfl) (by kernel_rfl) (by kernel_rfl) (by kernel_rfl) (fun _ _ _ h => h) (.inl ⟨by rfl, fun _ _ => by go_simp⟩) (hHeld) ?_
          simp only [Act.put, List.setIfInBounds_toArray, List.set_cons_zero, List.set_cons_succ]
          refine held_takeD 4 (.bool true) (some 20) (by rfl) (by rfl) (by kernel_rfl) (by kernel_rfl) (by kernel_rfl) (fun _ _ _ h => h) (.inl ⟨by rfl, fun _ _ => by go_simp⟩) (hHeld) ?_
          simp only [Act.put, List.setIfInBounds_toArray, List.set_cons_zero, List.set_cons_succ]
          refine held_takeD 5 (.bool true) (some 21) (by rfl) (by rfl) (by kernel_rfl) (by kernel_rfl) (by kernel_rfl) (fun _ _ _ h => h) (.inl ⟨by rfl, fun _ _ => by rfl⟩) (hHeld) ?_
          simp only [Act.put, List.setIfInBounds_toArray, List.set_cons_zero, List.set_cons_succ]
          refine held_takeD 6 (.pointer (some ⟨wr.heap.size, 0, none⟩)) (some 22) (by rfl) (by rfl) (by kernel_rfl) (by kernel_rfl) (by kernel_rfl) (fun _ _ _ h => h) (.inl ⟨by rfl, fun _ _ => by go_simp⟩) (hHeld) ?_
          simp only [Act.put, List.setIfInBounds_toArray, List.set_cons_zero, List.set_cons_succ]
          refine held_takeD 7 (.slice (some ⟨wr.heap.size, 0, none⟩) 32 32) (some 23) (by rfl) (by rfl) (by kernel_rfl) (by kernel_rfl) (by kernel_rfl) (fun _ _ _ h => h) (.inl ⟨by rfl, fun _ _ => by go_simp⟩) (hHeld) ?_
          simp only [Act.put, List.setIfInBounds_toArray, List.set_cons_zero, List.set_cons_succ]
          refine held_takeD 8 (.slice (some ⟨b, off, none⟩) l c) (some 24) (by rfl) (by rfl) (by kernel_rfl) (by kernel_rfl) (by kernel_rfl) (fun _ _ _ h => h) (.inl ⟨by rfl, fun _ _ => by rfl⟩) (hHeld) ?_
          simp only [Act.put, List.setIfInBounds_toArray, List.set_cons_zero, List.set_cons_succ]
          refine held_takeD 9 (.int .i64 i) (some 25) (by rfl) (by rfl) (by kernel_rfl) (by kernel_rfl) (by kernel_rfl) (fun _ _ _ h => h) (.inl ⟨by rfl, fun _ _ => by rfl⟩) (hHeld) ?_
          simp only [Act.put, List.setIfInBounds_toArray, List.set_cons_zero, List.set_cons_succ]
          refine held_takeD 10 (.int .i64 ni) (some 26) (by rfl) (by rfl) (by kernel_rfl) (by kernel_rfl) (by kernel_rfl) (fun _ _ _ h => h) (.inl ⟨by rfl, fun _ _ => by go_simp⟩) (hHeld) ?_
          simp only [Act.put, List.setIfInBounds_toArray, List.set_cons_zero, List.set_cons_succ]
          refine held_takeD 11 (.pointer (some ⟨b, off + ni * 64, none⟩)) (some 27) (by rfl) (by rfl) (by kernel_rfl) (by kernel_rfl) (by kernel_rfl) (fun _ _ _ h => h) (.inl ⟨by rfl, fun _ _ => by go_simp⟩) (hHeld) ?_
          simp only [Act.put, List.setIfInBounds_toArray, List.set_cons_zero, List.set_cons_succ]
          refine held_takeD 12 (.pointer (some ⟨b, off + ni * 64, none⟩)) (some 28) (by rfl) (by rfl) (by kernel_rfl) (by kernel_rfl) (by kernel_rfl) (fun _ _ _ h => h) (.inl ⟨by rfl, fun _ _ => by go_simp⟩) (hHeld) ?_
          simp only [Act.put, List.setIfInBounds_toArray, List.set_cons_zero, List.set_cons_succ]
          refine held_takeD 13 (.slice (some ⟨b, off + ni * 64, none⟩) 32 32) (some 29) (by rfl) (by rfl) (by kernel_rfl) (by kernel_rfl) (by kernel_rfl) (fun _ _ _ h => h) (.inl ⟨by rfl, fun _ _ => by go_simp⟩) (hHeld) ?_
          simp only [Act.put, List.setIfInBounds_toArray, List.set_cons_zero, List.set_cons_succ]
          refine held_one 14 (by kernel_rfl) (by rfl) (fun K' hK' => ?_)
          go_simp
          refine (unhide HBL).mono ?_
          rintro e w3 ⟨rfl, rfl⟩
          refine hK'.out _ _ (d2) ?_
          clear hK' K'
          refine held_takeD 15 (.bool false) (some 31) (by rfl) (by rfl) (by kernel_rfl) (by kernel_rfl) (by kernel_rfl) (fun _ _ _ h => h) (.inl ⟨by rfl, fun _ _ => by go_simp⟩) (d2) ?_
          simp only [Act.put, List.setIfInBounds_toArray, List.set_cons_zero, List.set_cons_succ]
          refine held_takeD 16 (.bool false) (some 32) (by rfl) (by rfl) (by kernel_rfl) (by kernel_rfl) (by kernel_rfl) (fun _ _ _ h => h) (.inl ⟨by rfl, fun _ _ => by go_simp⟩) (d2) ?_
          simp only [Act.put, List.setIfInBounds_toArray, List.set_cons_zero, List.set_cons_succ]
          refine wpAnyH_done (by kernel_rfl) ?_ _
          refine NoPanic.normal ?_
          go_wp2_with fail
          go_meet
          case rel => exact ⟨rfl, d2⟩
        · have t1 : decide ((ni : Int) < (l : Int)) = false := by rw [decide_eq_false_iff_not]; omega
          refine wp_region_noPanic ?_
          refine wp_region_held_drew (S := fun w' => Below w2.heap.size w2 w') (by kernel_rfl) (d2) (fun hHeld => ?_)
          refine held_takeD 0 (.int .i64 i) (some 16) (by rfl) (by rfl) (by kernel_rfl) (by kernel_rfl) (by kernel_rfl) (fun _ _ _ h => h) (.inl ⟨by rfl, fun _ _ => by rfl⟩) (hHeld) ?_
          simp only [Act.put, List.setIfInBounds_toArray, List.set_cons_zero, List.set_cons_succ]
          refine held_takeD 1 (.int .i64 ni) (some 17) (by rfl) (by rfl) (by kernel_rfl) (by kernel_rfl) (by kernel_rfl) (fun _ _ _ h => h) (.inl ⟨by rfl, fun _ _ => by go_simp⟩) (hHeld) ?_
          simp only [Act.put, List.setIfInBounds_toArray, List.set_cons_zero, List.set_cons_succ]
          refine held_takeD 2 (.slice (some ⟨b, off, none⟩) l c) (some 18) (by rfl) (by rfl) (by kernel_rfl) (by kernel_rfl) (by kernel_rfl) (fun _ _ _ h => h) (.inl ⟨by rfl, fun _ _ => by rfl⟩) (hHeld) ?_
          simp only [Act.put, List.setIfInBounds_toArray, List.set_cons_zero, List.set_cons_succ]
          refine held_takeD 3 (.int .i64 l) (some 19) (by rfl) (by rfl) (by kernel_rfl) (by kernel_rfl) (by kernel_rfl) (fun _ _ _ h => h) (.inl ⟨by rfl, fun _ _ => by go_simp⟩) (hHeld) ?_
          simp only [Act.put, List.setIfInBounds_toArray, List.set_cons_zero, List.set_cons_succ]
          refine held_takeD 4 (.bool false) (some 20) (by rfl) (by rfl) (by kernel_rfl) (by kernel_rfl) (by kernel_rfl) (fun _ _ _ h => h) (.inl ⟨by rfl, fun _ _ => by go_simp⟩) (hHeld) ?_
          simp only [Act.put, List.setIfInBounds_toArray, List.set_cons_zero, List.set_cons_succ]
          refine held_takeD 5 (.bool false) (some 21) (by rfl) (by rfl) (by kernel_rfl) (by kernel_rfl) (by kernel_rfl) (fun _ _ _ h => h) (.inl ⟨by rfl, fun _ _ => by rfl⟩) (hHeld) ?_
          simp only [Act.put, List.setIfInBounds_toArray, List.set_cons_zero, List.set_cons_succ]
          refine held_takeD 6 undef (some 22) (by rfl) (by rfl) (by kernel_rfl) (by kernel_rfl) (by kernel_rfl) (fun _ _ _ h => h) (.inr ⟨by rfl, rfl⟩) (d2) ?_
          simp only [Act.put, List.setIfInBounds_toArray, List.set_cons_zero, List.set_cons_succ]
          refine held_takeD 7 undef (some 23) (by rfl) (by rfl) (by kernel_rfl) (by kernel_rfl) (by kernel_rfl) (fun _ _ _ h => h) (.inr ⟨by rfl, rfl⟩) (d2) ?_
          simp only [Act.put, List.setIfInBounds_toArray, List.set_cons_zero, List.set_cons_succ]
          refine held_takeD 8 undef (some 24) (by rfl) (by rfl) (by kernel_rfl) (by kernel_rfl) (by kernel_rfl) (fun _ _ _ h => h) (.inr ⟨by rfl, rfl⟩) (d2) ?_
          simp only [Act.put, List.setIfInBounds_toArray, List.set_cons_zero, List.set_cons_succ]
          refine held_takeD 9 undef (some 25) (by rfl) (by rfl) (by kernel_rfl) (by kernel_rfl) (by kernel_rfl) (fun _ _ _ h => h) (.inr ⟨by rfl, rfl⟩) (d2) ?_
          simp only [Act.put, List.setIfInBounds_toArray, List.set_cons_zero, List.set_cons_succ]
          refine held_takeD 10 undef (some 26) (by rfl) (by rfl) (by kernel_rfl) (by kernel_rfl) (by kernel_rfl) (fun _ _ _ h => h) (.inr ⟨by rfl, rfl⟩) (d2) ?_
          simp only [Act.put, List.setIfInBounds_toArray, List.set_cons_zero, List.set_cons_succ]
          refine held_takeD 11 undef (some 27) (by rfl) (by rfl) (by kernel_rfl) (by kernel_rfl) (by kernel_rfl) (fun _ _ _ h => h) (.inr ⟨by rfl, rfl⟩) (d2) ?_
          simp only [Act.put, List.setIfInBounds_toArray, List.set_cons_zero, List.set_cons_succ]
          refine held_takeD 12 undef (some 28) (by rfl) (by rfl) (by kernel_rfl) (by kernel_rfl) (by kernel_rfl) (fun _ _ _ h => h) (.inr ⟨by rfl, rfl⟩) (d2) ?_
          simp only [Act.put, List.setIfInBounds_toArray, List.set_cons_zero, List.set_cons_succ]
          refine held_takeD 13 undef (some 29) (by rfl) (by rfl) (by kernel_rfl) (by kernel_rfl) (by kernel_rfl) (fun _ _ _ h => h) (.inr ⟨by rfl, rfl⟩) (d2) ?_
          simp only [Act.put, List.setIfInBounds_toArray, List.set_cons_zero, List.set_cons_succ]
          refine held_takeD 14 undef (some 30) (by rfl) (by rfl) (by kernel_rfl) (by kernel_rfl) (by kernel_rfl) (fun _ _ _ h => h) (.inr ⟨by rfl, rfl⟩) (d2) ?_
          simp only [Act.put, List.setIfInBounds_toArray, List.set_cons_zero, List.set_cons_succ]
          refine held_takeD 15 undef (some 31) (by rfl) (by rfl) (by kernel_rfl) (by kernel_rfl) (by kernel_rfl) (fun _ _ _ h => h) (.inr ⟨by rfl, rfl⟩) (d2) ?_
          simp only [Act.put, List.setIfInBounds_toArray, List.set_cons_zero, List.set_cons_succ]
          refine held_takeD 16 (.bool false) (some 32) (by rfl) (by rfl) (by kernel_rfl) (by kernel_rfl) (by kernel_rfl) (fun _ _ _ h => h) (.inl ⟨by rfl, fun _ _ => by go_simp⟩) (hHeld) ?_
          simp only [Act.put, List.setIfInBounds_toArray, List.set_cons_zero, List.set_cons_succ]
          refine wpAnyH_done (by kernel_rfl) ?_ _
          refine NoPanic.normal ?_
          go_wp2_with fail
          go_meet
          case rel => exact ⟨rfl, d2⟩
      case rest =>
        as_aux_lemma =>
        obtain ⟨rfl, bc⟩ := hcut
        have bwc : Below w.heap.size w wc := bw2.trans (bc.mono bw2.size)
        clear hnI hwni hnil
        go_wp2
        go_roundg (l - 1 - i)
        case measure => omega
        case rel => exact ⟨i + 1, by omega, rfl, bwc⟩
    · as_aux_lemma =>
      go_wp2
      go_ret
      exact ⟨rfl, hb⟩

end Go.Proofs.YgcsakGreat
