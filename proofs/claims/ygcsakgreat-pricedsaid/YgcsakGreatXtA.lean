/-
  yp, exactly: taken, at an address that is free.
-/
import Derived.Test.YgcsakGreatStA
namespace Go.Proofs.YgcsakGreat
set_option linter.unusedVariables false
set_option linter.unusedSimpArgs false
set_option maxRecDepth 100000
open Go.RowKit

set_option maxHeartbeats 4000000 in
theorem taken_free (T : TypeId) (bw : Nat) (cs : List Value) (w : World) (ao : Option Addr) (l c : Nat) (ds : List YAcct) (h : SAccts bw w ao l c ds) (hcs : RowT T w bw cs) (h0 : cs[0]? = some (.slice ao l c)) (hl : l ≤ 1000000) (hB : Bnd ds)
    (a : List Int) (ha : IsAddr a) (hn0 : (lookY ds a).nonce = 0) (hc0 : (lookY ds a).code = []) :
    Calls Sakg.prog 109 #[.pointer (some ⟨bw, 0, none⟩), .agg (bv a).toArray] w fun e w' => e = .returned (.bool false) ∧ Below w.heap.size w w' := by
  obtain ⟨W, hW⟩ : ∃ W, W = w.alloc (.cells (bv a).toArray 26) := ⟨_, rfl⟩
  have hbw := hcs.lt
  have HN0 := hide hn0
  have HC0 := hide hc0
  clear hn0 hc0
  have hb0 : Below w.heap.size w W := by rw [hW]; exact (Below.refl _ _).alloc (Nat.le_refl _) _
  have hr0 : RowT 26 W w.heap.size (bv a) := by rw [hW]; exact RowT.new _ _ _
  have hacc : ∀ wz, Below W.heap.size W wz → Calls Sakg.prog 99 #[.pointer (some ⟨bw, 0, none⟩), .agg (bv a).toArray] wz fun e w' => ∃ r, e = .returned (.agg r.toArray) ∧ SAcct bw w r (lookY ds a) ∧ Below wz.heap.size wz w' := fun wz hz => by
    have hb : Below w.heap.size w wz := hb0.trans (hz.mono hb0.size)
    exact h.accountAt (Chg.of hb) (by rw [(hcs.kept hb).cell]; exact h0) a ha hl
  have hrg : ∀ wz, Below W.heap.size W wz → wz.rangeAt w.heap.size 0 (bv a) := fun wz hz => (hr0.kept hz).rangeAll
  have HACC := hide hacc
  have HRG := hide hrg
  have hu := Sakg.underlying26
  have hsz := ha.size
  clear hacc hrg hr0 h hcs
  go_enter Sakg.func109, Sakg.ntmps109
  go_upto_region 1 with fail
  rw [← hW]
  clear hW
  have dW : Below W.heap.size W W.drew := Quiet.below ⟨1, rfl⟩ _
  go_cut [5] (fun s5 wc => ∃ (g : Nat) (r : List Value), s5 = .pointer (some ⟨g, 0, none⟩) ∧ RowT 113 wc g r ∧ SAcct bw w r (lookY ds a) ∧ Below W.heap.size W wc)
  case first =>
    refine wp_region_noPanic ?_
    refine wp_region_held_drew (S := fun w' => w'.rangeAt w.heap.size 0 (bv a)) (by kernel_rfl) (unhide HRG _ dW) (fun hHeld => ?_)
    refine held_takeD 0 (.pointer (some ⟨bw, 0, none⟩)) (some 6) (by rfl) (by rfl) (by kernel_rfl) (by kernel_rfl) (by kernel_rfl) (fun _ _ _ h => h) (.inl ⟨by rfl, fun _ _ => by rfl⟩) (hHeld) ?_
    simp only [Act.put, List.setIfInBounds_toArray, List.set_cons_zero, List.set_cons_succ]
    refine held_takeD 1 (.pointer (some ⟨bw, 0, none⟩)) (some 7) (by rfl) (by rfl) (by kernel_rfl) (by kernel_rfl) (by kernel_rfl) (fun _ _ _ h => h) (.inl ⟨by rfl, fun _ _ => by go_simp⟩) (hHeld) ?_
    simp only [Act.put, List.setIfInBounds_toArray, List.set_cons_zero, List.set_cons_succ]
    refine held_takeD 2 (.pointer (some ⟨bw, 0, none⟩)) (some 8) (by rfl) (by rfl) (by kernel_rfl) (by kernel_rfl) (by kernel_rfl) (fun _ _ _ h => h) (.inl ⟨by rfl, fun _ _ => by go_simp⟩) (hHeld) ?_
    simp only [Act.put, List.setIfInBounds_toArray, List.set_cons_zero, List.set_cons_succ]
    refine held_takeD 3 (.agg (bv a).toArray) (some 9) (by rfl) (by rfl) (by kernel_rfl) (by kernel_rfl) (by kernel_rfl) (fun _ _ _ h => h) (yieldsIf_load_mid (by rfl) _ _ rfl _ _ rfl _ _ (fun _ h => h) hu rfl hsz) (hHeld) ?_
    simp only [Act.put, List.setIfInBounds_toArray, List.set_cons_zero, List.set_cons_succ]
    refine held_two 4 5 (by kernel_rfl) (by rfl) (by rfl) (fun K' hK' => ?_) (fun K' hK' => ?_)
    · go_simp
      refine (unhide HACC _ dW).mono ?_
      rintro e w2 ⟨r, rfl, hrow, b2⟩
      have d2 := dW.trans (b2.mono dW.size)
      have hrl := hrow.now.len
      refine hK'.out _ _ (unhide HRG _ d2) ?_
      clear hK' K'
      refine held_one 5 (by kernel_rfl) (by rfl) (fun K' hK' => ?_)
      refine if_alloc (some 5) rfl 113 rfl (by rfl) _ 24 infoAcct2 (by simp [bv_len, zeros_len]) (fun wA rA bA sA => ?_)
      have dA := d2.trans (bA.mono d2.size)
      refine hK'.out _ _ (unhide HRG _ dA) ?_
      clear hK' K'
      simp only [Act.put, List.setIfInBounds_toArray, List.set_cons_zero, List.set_cons_succ]
      refine held_one 6 (by kernel_rfl) (by rfl) (fun K' hK' => ?_)
      refine if_store rfl (by rfl) 113 (.tmp 5) (.tmp 10) rfl w2.heap.size 0 113 _ r rfl rfl rA (by rw [hrl]; simp [bv_len, zeros_len]) (by rw [hrl]; exact sizeAcct) hrow.now.one (fun wS rS oS => ?_)
      have dS : Below W.heap.size W wS := dA.trans (oS.below _ (by exact d2.size))
      refine hK'.out _ _ (unhide HRG _ dS) ?_
      clear hK' K'
      refine wpAnyH_done (by kernel_rfl) ?_ _
      refine NoPanic.normal ?_
      rw [spl_all _ _ (by rw [hrl]; simp [bv_len, zeros_len])] at rS
      go_wp2_with fail
      go_meet
      case rel => exact ⟨_, r, rfl, rS, hrow, dS⟩
    · refine if_alloc (some 5) rfl 113 rfl (by rfl) _ 24 infoAcct2 (by simp [bv_len, zeros_len]) (fun wA rA bA sA => ?_)
      have dA := dW.trans (bA.mono dW.size)
      refine hK'.out _ _ (unhide HRG _ dA) ?_
      clear hK' K'
      simp only [Act.put, List.setIfInBounds_toArray, List.set_cons_zero, List.set_cons_succ]
      refine held_one 4 (by kernel_rfl) (by rfl) (fun K' hK' => ?_)
      go_simp
      refine (unhide HACC _ dA).mono ?_
      rintro e w2 ⟨r, rfl, hrow, b2⟩
      have d2 := dA.trans (b2.mono dA.size)
      have hrl := hrow.now.len
      refine hK'.out _ _ (unhide HRG _ d2) ?_
      clear hK' K'
      refine held_one 6 (by kernel_rfl) (by rfl) (fun K' hK' => ?_)
      refine if_store rfl (by rfl) 113 (.tmp 5) (.tmp 10) rfl W.heap.size 0 113 _ r rfl rfl (rA.kept b2) (by rw [hrl]; simp [bv_len, zeros_len]) (by rw [hrl]; exact sizeAcct) hrow.now.one (fun wS rS oS => ?_)
      have dS : Below W.heap.size W wS := d2.trans (oS.below _ (by exact Nat.le_refl _))
      refine hK'.out _ _ (unhide HRG _ dS) ?_
      clear hK' K'
      refine wpAnyH_done (by kernel_rfl) ?_ _
      refine NoPanic.normal ?_
      rw [spl_all _ _ (by rw [hrl]; simp [bv_len, zeros_len])] at rS
      go_wp2_with fail
      go_meet
      case rel => exact ⟨_, r, rfl, rS, hrow, dS⟩
  case rest =>
    obtain ⟨g, r, rfl, hr, hrow, hbc⟩ := hcut
    have hbwc : Below w.heap.size w wc := hb0.trans (hbc.mono hb0.size)
    obtain ⟨A1', k1', c1', A2', k2', c2', A3', k3', c3', A4', k4', c4', q20, q21, q22, q23, s1, s2, s3, s4⟩ := hrow.cells
    have e20 : wc.cell? ⟨g, 20, none⟩ = some (.slice A1' k1' c1') := by rw [hr.cell]; exact q20
    have n1 := (s1.go (Chg.of hbwc)).now
    have HZ := hide (isZero_any A1' k1' c1' _ wc n1 (hB.look a).1)
    have e22 : ∀ n, (wc.drewN n).cell? ⟨g, 22, none⟩ = some (.slice A3' k3' c3') := fun n => by rw [(hr.kept (Quiet.below ⟨n, rfl⟩ _)).cell]; exact q22
    have h3len := s3.now.len_eq
    clear hr hrow s1 s2 s3 s4 q20 q21 q22 q23 n1
    rw [decide_eq_true (unhide HN0)] at HZ
    have hk3 : k3' = 0 := by rw [← h3len, unhide HC0]; rfl
    subst hk3
    go_wp2_with (go_at_call 130; refine (unhide HZ).mono ?_; rintro e w4 ⟨rfl, n4, rfl⟩; have e22' := e22 n4)
    go_ret
    exact ⟨rfl, hbwc.trans (Quiet.below ⟨n4, rfl⟩ _)⟩


end Go.Proofs.YgcsakGreat
