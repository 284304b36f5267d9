/-
  yp, exactly: warm addresses and slots.
-/
import Derived.Test.YgcsakGreatKsD
namespace Go.Proofs.YgcsakGreat
set_option linter.unusedVariables false
set_option linter.unusedSimpArgs false
set_option maxRecDepth 100000
open Go.RowKit

section
variable {G : Nat → Prop} {bw : Nat} {cs : List Value} {d : WD} {w : World} {B : Nat}
def accX (d : WD) (a : List Int) : Nat := if a ∈ d.warmA then 100 else 2600
theorem CW.warmX (h : CW G bw cs d w) (hg : Good B d) (a : List Int) (ha : IsAddr a) :
    Calls Sakg.prog 106 #[.pointer (some ⟨bw, 0, none⟩), .agg (bv a).toArray] w fun e w' => e = .returned (.tuple #[]) ∧ ∃ als, als.length ≤ d.warmA.length + 1 ∧ (∀ x, x ∈ als ↔ x = a ∨ x ∈ d.warmA) ∧ WPost G bw cs { d with warmA := als } w w' := by
  obtain ⟨ao, l, c, h1, h2⟩ := h.kw.warmA
  have hl := h2.now.len
  have := hg.nw
  refine (k_warm_any G 107 bw cs w ao l c d.warmA h.ther h.g h2 h.row h1 (by omega) a ha).mono ?_
  rintro e w' ⟨he, A', n', c', als', k1, k2, k3, k4, k5⟩
  have hl2 := k2.now.len
  exact ⟨he, als', by omega, k4, _, ⟨k1, by rw [List.length_set]; exact h.len, (h.kw.go (ChgS.chg k5 h.g)).set1 k2 (by rw [h.len]; omega), h.g, h.ther.go k5.size⟩, Same8.set (by omega) _, List.getElem?_set_ne (by omega), k5⟩
theorem CW.warmSlotX (h : CW G bw cs d w) (hg : Good B d) (a : List Int) (ha : IsAddr a) (A : Option Addr) (k c2 m : Nat) (hn : KNat G w A k c2 m) (hm : m < BIG) :
    Calls Sakg.prog 107 #[.pointer (some ⟨bw, 0, none⟩), .agg (bv a).toArray, .slice A k c2] w fun e w' => e = .returned (.tuple #[]) ∧ ∃ ms, ms.length ≤ d.warmS.length + 1 ∧ (∀ x, x ∈ ms ↔ x = (a, m) ∨ x ∈ d.warmS) ∧ WPost G bw cs { d with warmS := ms } w w' := by
  obtain ⟨ao, l, c, h1, h2⟩ := h.kw.warmS
  have hl := h2.len
  have := hg.nm
  refine (k_warmSlot_any G 107 bw cs w ao l c d.warmS h.ther h.g h2 h.row h1 (by omega) a ha A k c2 m hn hm).mono ?_
  rintro e w' ⟨he, A', n', c', ms', k1, k2, k3, k4, k5⟩
  have hl2 := k2.len
  exact ⟨he, ms', by omega, k4, _, ⟨k1, by rw [List.length_set]; exact h.len, (h.kw.go (ChgS.chg k5 h.g)).set2 k2 (by rw [h.len]; omega), h.g, h.ther.go k5.size⟩, Same8.set (by omega) _, List.getElem?_set_ne (by omega), k5⟩
theorem CW.isWarmSlotX (h : CW G bw cs d w) (hg : Good B d) (a : List Int) (ha : IsAddr a) (A : Option Addr) (k c2 m : Nat) (hn : KNat G w A k c2 m) (hm : m < BIG) :
    Calls Sakg.prog 194 #[.pointer (some ⟨bw, 0, none⟩), .agg (bv a).toArray, .slice A k c2] w fun e w' => e = .returned (.bool (decide ((a, m) ∈ d.warmS))) ∧ Below w.heap.size w w' := by
  obtain ⟨ao, l, c, h1, h2⟩ := h.kw.warmS
  have hl := h2.len
  have := hg.nm
  exact isWarmSlot_any bw w ao l c d.warmS (h2.s h.g) (h.cell h1) (by omega) a ha A k c2 m (StabS.stab hn h.g) hm
set_option maxHeartbeats 4000000 in
theorem CW.isWarmX (h : CW G bw cs d w) (hg : Good B d) (a : List Int) (ha : IsAddr a) :
    Calls Sakg.prog 484 #[.pointer (some ⟨bw, 0, none⟩), .agg (bv a).toArray] w fun e w' => e = .returned (.bool (decide (a ∈ d.warmA))) ∧ Below w.heap.size w w' := by
  obtain ⟨W, hW⟩ : ∃ W, W = w.alloc (.cells (bv a).toArray 26) := ⟨_, rfl⟩
  have hb0 : Below w.heap.size w W := by rw [hW]; exact (Below.refl _ _).alloc (Nat.le_refl _) _
  have hr0 : RowT 26 W w.heap.size (bv a) := by rw [hW]; exact RowT.new _ _ _
  obtain ⟨ao, l, c, h1, h2⟩ := h.kw.warmA
  have hl := h2.now.len
  have hnw := hg.nw
  have hww : ∀ wz, Below W.heap.size W wz → Below w.heap.size w wz := fun wz hz => hb0.trans (hz.mono hb0.size)
  have HS : ∀ wz, Below W.heap.size W wz → Hid (wz.cell? ⟨bw, 1, none⟩ = some (.slice ao l c)) := fun wz hz => hide (by rw [(h.kept (hww wz hz)).row.cell]; exact h1)
  have HR : ∀ wz, Below W.heap.size W wz → wz.rangeAt w.heap.size 0 (bv a) := fun wz hz => (hr0.kept hz).rangeAll
  have HC : ∀ wz, Below W.heap.size W wz → Hid (Calls Sakg.prog 213 #[.slice ao l c, .agg (bv a).toArray] wz fun e w' => e = .returned (.bool (decide (a ∈ d.warmA))) ∧ Below wz.heap.size wz w') := fun wz hz => hide (listed_any ao l c d.warmA a wz (h2.kp (ChgS.of (hww wz hz))).now ha (by omega))
  have hu := Sakg.underlying26
  have hsz := ha.size
  have d0 : Below W.heap.size W W.drew := Quiet.below ⟨1, rfl⟩ _
  have HRR := hide HR
  clear hr0 h2 h hl HR
  generalize decide (a ∈ d.warmA) = bb at HC ⊢
  go_enter Sakg.func484, Sakg.ntmps484
  go_upto_region 1 with fail
  rw [← hW]
  clear hW
  refine wp_region_noPanic ?_
  refine wp_region_held_drew (S := fun w' => Below W.heap.size W w') (by kernel_rfl) (d0) (fun hHeld => ?_)
  refine held_takeD 0 (.pointer (some ⟨bw, 0, none⟩)) (some 5) (by rfl) (by rfl) (by kernel_rfl) (by kernel_rfl) (by kernel_rfl) (fun _ _ _ h => h) (.inl ⟨by rfl, fun _ _ => by rfl⟩) (hHeld) ?_
  simp only [Act.put, List.setIfInBounds_toArray, List.set_cons_zero, List.set_cons_succ]
  refine held_takeD 1 (.pointer (some ⟨bw, 0, none⟩)) (some 6) (by rfl) (by rfl) (by kernel_rfl) (by kernel_rfl) (by kernel_rfl) (fun _ _ _ h => h) (.inl ⟨by rfl, fun _ _ => by go_simp⟩) (hHeld) ?_
  simp only [Act.put, List.setIfInBounds_toArray, List.set_cons_zero, List.set_cons_succ]
  refine held_takeD 2 (.pointer (some ⟨bw, 1, none⟩)) (some 7) (by rfl) (by rfl) (by kernel_rfl) (by kernel_rfl) (by kernel_rfl) (fun _ _ _ h => h) (.inl ⟨by rfl, fun _ _ => by go_simp⟩) (hHeld) ?_
  simp only [Act.put, List.setIfInBounds_toArray, List.set_cons_zero, List.set_cons_succ]
  refine held_takeD 3 (.slice ao l c) (some 8) (by rfl) (by rfl) (by kernel_rfl) (by kernel_rfl) (by kernel_rfl) (fun _ _ _ h => h) (.inl ⟨by rfl, fun wS hS => by have hc := unhide (HS wS hS); go_simp⟩) (hHeld) ?_
  simp only [Act.put, List.setIfInBounds_toArray, List.set_cons_zero, List.set_cons_succ]
  refine held_takeD 4 (.agg (bv a).toArray) (some 9) (by rfl) (by rfl) (by kernel_rfl) (by kernel_rfl) (by kernel_rfl) (fun _ _ _ h => h) (yieldsIf_load_mid (by rfl) _ _ rfl _ _ rfl _ _ (fun wz hS => unhide HRR wz hS) hu rfl hsz) (hHeld) ?_
  simp only [Act.put, List.setIfInBounds_toArray, List.set_cons_zero, List.set_cons_succ]
  refine held_one 5 (by kernel_rfl) (by rfl) (fun K' hK' => ?_)
  go_simp
  refine (unhide (HC _ d0)).mono ?_
  rintro e w2 ⟨rfl, b2⟩
  refine hK'.out _ _ (d0.trans (b2.mono d0.size)) ?_
  clear hK' K'
  refine held_takeD 6 (.bool bb) (some 4) (by rfl) (by rfl) (by kernel_rfl) (by kernel_rfl) (by kernel_rfl) (fun _ _ _ h => h) (.inl ⟨by rfl, fun _ _ => by go_simp⟩) (d0.trans (b2.mono d0.size)) ?_
  simp only [Act.put, List.setIfInBounds_toArray, List.set_cons_zero, List.set_cons_succ]
  refine wpAnyH_done (by kernel_rfl) ?_ _
  refine NoPanic.normal ?_
  go_wp2
  go_ret
  exact ⟨rfl, hww _ (d0.trans (b2.mono d0.size))⟩

set_option maxHeartbeats 4000000 in
theorem CW.accessX (h : CW G bw cs d w) (hg : Good B d) (a : List Int) (ha : IsAddr a) :
    Calls Sakg.prog 422 #[.pointer (some ⟨bw, 0, none⟩), .agg (bv a).toArray] w (MakesNat w (accX d a)) := by
  obtain ⟨W, hW⟩ : ∃ W, W = w.alloc (.cells (bv a).toArray 26) := ⟨_, rfl⟩
  have hb0 : Below w.heap.size w W := by rw [hW]; exact (Below.refl _ _).alloc (Nat.le_refl _) _
  have hr0 : RowT 26 W w.heap.size (bv a) := by rw [hW]; exact RowT.new _ _ _
  have HC := hide ((h.kept hb0).isWarmX hg a ha)
  have HA := hide ha
  have HR := hide hr0
  have haccn : accX d a = if decide (a ∈ d.warmA) = true then 100 else 2600 := by unfold accX; by_cases h9 : a ∈ d.warmA <;> simp [h9]
  rw [haccn]
  generalize decide (a ∈ d.warmA) = bb at HC ⊢
  clear h ha hr0 haccn
  go_enter Sakg.func422, Sakg.ntmps422
  go_upto_region 1 with fail
  rw [← hW]
  clear hW
  go_wp2_with (first
    | ((with_reducible refine at_load 26 ?_); refine wpList_load_g rfl 26 (.tmp 3) rfl _ 0 rfl (bv a) _ (unhide HR).rangeAll Sakg.underlying26 rfl (unhide HA).size ?_)
    | (go_at_call 484; refine (unhide HC).mono ?_; rintro e w2 ⟨rfl, b2⟩; have d2 := hb0.trans (b2.mono hb0.size); clear HC; cases bb)
    | (go_at_call 97; refine (num_any _ _ (by decide)).mono ?_; rintro e w3 ⟨A3, k3, c3, rfl, n3, N3, b3⟩; have NN := hide n3; clear n3))
  · go_ret
    exact ⟨A3, k3, c3, rfl, unhide NN, N3.later d2.size, d2.trans (b3.mono d2.size)⟩
  · go_ret
    exact ⟨A3, k3, c3, rfl, unhide NN, N3.later d2.size, d2.trans (b3.mono d2.size)⟩
end

end Go.Proofs.YgcsakGreat
