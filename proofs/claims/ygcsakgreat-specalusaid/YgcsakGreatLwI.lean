/-
  law: SpecAlu.
-/
import Derived.Test.YgcsakGreatLwC
import Derived.Test.YgcsakGreatLwF
import Derived.Test.YgcsakGreatLwH
namespace Go.Proofs.YgcsakGreat
set_option linter.unusedVariables false
set_option linter.unusedSimpArgs false
set_option maxRecDepth 100000
open Go.RowKit

theorem run_codes (wx : World) (A : Option Addr) (k c : Nat) : (Instr.buildSlice 24 1 #[(0, .slice A k c)]).run Sakg.prog wx = .ok (.slice (some ⟨wx.heap.size, 0, none⟩) 1 1) (wx.alloc (.cells [Value.slice A k c].toArray 30)) := by kernel_rfl

set_option maxHeartbeats 16000000 in
theorem sa_0 (o : Nat) (h0 : o = 0) (a b c : List Int) (ha : IsW a) (hb : IsW b) (hc : IsW c) (w : World) :
    Calls Sakg.prog 4 #[.int .u8 o, .agg (bv a).toArray, .agg (bv b).toArray, .agg (bv c).toArray] w fun e w' => e = .returned (.bool true) ∧ Below w.heap.size w w' := by
  obtain ⟨W, hW⟩ : ∃ W, W = ((w.alloc (.cells (bv a).toArray 28)).alloc (.cells (bv b).toArray 28)).alloc (.cells (bv c).toArray 28) := ⟨_, rfl⟩
  have hb0 : Below w.heap.size w W := by rw [hW]; exact (((Below.refl _ _).alloc (Nat.le_refl _) _).alloc (by simp) _).alloc (by simp; omega) _
  have ra : RowT 28 W w.heap.size (bv a) := by rw [hW]; exact ((RowT.new _ _ _).alloc _).alloc _
  have rb : RowT 28 W (w.heap.size + 1) (bv b) := by
    rw [hW]
    have := (RowT.new 28 (w.alloc (.cells (bv a).toArray 28)) (bv b)).alloc (.cells (bv c).toArray 28)
    rwa [World.size_alloc] at this
  have rc : RowT 28 W (w.heap.size + 2) (bv c) := by
    rw [hW]
    have := RowT.new 28 ((w.alloc (.cells (bv a).toArray 28)).alloc (.cells (bv b).toArray 28)) (bv c)
    rwa [World.size_alloc, World.size_alloc] at this
  have hR : ∀ wz, Below W.heap.size W wz → wz.rangeAt w.heap.size 0 (bv a) ∧ wz.rangeAt (w.heap.size + 1) 0 (bv b) ∧ wz.rangeAt (w.heap.size + 2) 0 (bv c) := fun wz hz => ⟨(ra.kept hz).rangeAll, (rb.kept hz).rangeAll, (rc.kept hz).rangeAll⟩
  have hSrc : ∀ wz, Below W.heap.size W wz → Src wz (some ⟨w.heap.size, 0, none⟩) 32 32 a ∧ Src wz (some ⟨w.heap.size + 1, 0, none⟩) 32 32 b ∧ Src wz (some ⟨w.heap.size + 2, 0, none⟩) 32 32 c := fun wz hz => ⟨src_of_range (hR wz hz).1 ha.byt ha.len max32, src_of_range (hR wz hz).2.1 hb.byt hb.len max32, src_of_range (hR wz hz).2.2 hc.byt hc.len max32⟩
  have HR := hide hR
  have HSRC := hide hSrc
  have hu := Sakg.underlying28
  have sza : (Sakg.prog.info? 28).map (·.size) = some (bv a).length := by rw [bv_len, ha.len]; exact size32
  have szb : (Sakg.prog.info? 28).map (·.size) = some (bv b).length := by rw [bv_len, hb.len]; exact size32
  have szc : (Sakg.prog.info? 28).map (·.size) = some (bv c).length := by rw [bv_len, hc.len]; exact size32
  have HF := hide (fromBE_any _ 32 32 a W (hSrc W (Below.refl _ _)).1 (by omega))
  have t1 : decide ((1 : Int) ≤ (o : Int)) = false := decide_eq_false (by omega)
  have t11 : decide ((o : Int) ≤ 11) = true := decide_eq_true (by omega)
  have t16 : decide ((16 : Int) ≤ (o : Int)) = false := decide_eq_false (by omega)
  have t29 : decide ((o : Int) ≤ 29) = true := decide_eq_true (by omega)
  have HNA : Hid (¬ aluO o) := hide (by unfold aluO; omega)
  have HLT : Hid (o < 256) := hide (by omega)
  clear h0
  clear ra rb rc hR hSrc
  go_enter Sakg.func4, Sakg.ntmps4
  go_upto_region 1 with fail
  rw [← hW]
  clear hW
  go_upto_region 2 with (go_at_call 17; refine (unhide HF).mono ?_; rintro e w1 ⟨A1, k1, c1, rfl, n1, N1, b1⟩; have NN1 := hide n1; clear n1)
  have d1 : Below w1.heap.size w1 w1.drew := Quiet.below ⟨1, rfl⟩ _
  have e1 : Below W.heap.size W w1.drew := b1.trans (d1.mono b1.size)
  refine wp_region_noPanic ?_
  refine wp_region_held_drew (S := fun _ => True) (by kernel_rfl) (trivial) (fun hHeld => ?_)
  refine held_takeD 0 (.int .u8 o) (some 13) (by rfl) (by rfl) (by kernel_rfl) (by kernel_rfl) (by kernel_rfl) (fun _ _ _ h => h) (.inl ⟨by rfl, fun _ _ => by rfl⟩) (hHeld) ?_
  simp only [Act.put, List.setIfInBounds_toArray, List.set_cons_zero, List.set_cons_succ]
  refine held_takeD 1 (.slice A1 k1 c1) (some 14) (by rfl) (by rfl) (by kernel_rfl) (by kernel_rfl) (by kernel_rfl) (fun _ _ _ h => h) (.inl ⟨by rfl, fun _ _ => by rfl⟩) (hHeld) ?_
  simp only [Act.put, List.setIfInBounds_toArray, List.set_cons_zero, List.set_cons_succ]
  refine held_takeD 2 (.slice (some ⟨w.heap.size + 1, 0, none⟩) 32 32) (some 15) (by rfl) (by rfl) (by kernel_rfl) (by kernel_rfl) (by kernel_rfl) (fun _ _ _ h => h) (.inl ⟨by rfl, fun _ _ => by go_simp⟩) (hHeld) ?_
  simp only [Act.put, List.setIfInBounds_toArray, List.set_cons_zero, List.set_cons_succ]
  refine held_takeD 4 (.slice (some ⟨w.heap.size + 2, 0, none⟩) 32 32) (some 17) (by rfl) (by rfl) (by kernel_rfl) (by kernel_rfl) (by kernel_rfl) (fun _ _ _ h => h) (.inl ⟨by rfl, fun _ _ => by go_simp⟩) (hHeld) ?_
  simp only [Act.put, List.setIfInBounds_toArray, List.set_cons_zero, List.set_cons_succ]
  refine held_one 3 (by kernel_rfl) (by rfl) (fun K' hK' => ?_)
  go_simp
  refine (fromBE_any _ 32 32 b w1.drew (unhide HSRC _ e1).2.1 (by omega)).mono ?_
  rintro e w2 ⟨A2, k2, c2, rfl, n2, N2, b2⟩
  refine hK'.out _ _ (trivial) ?_
  clear hK' K'
  have e2 := e1.trans (b2.mono e1.size)
  refine held_one 5 (by kernel_rfl) (by rfl) (fun K' hK' => ?_)
  go_simp
  refine (fromBE_any _ 32 32 c w2 (unhide HSRC _ e2).2.2 (by omega)).mono ?_
  rintro e w3 ⟨A3, k3, c3, rfl, n3, N3, b3⟩
  refine hK'.out _ _ (trivial) ?_
  clear hK' K'
  have e3 := e2.trans (b3.mono e2.size)
  have m1 := ((unhide NN1).kept d1 |>.kept b2).kept b3
  have m2 := n2.kept b3
  refine held_one 6 (by kernel_rfl) (by rfl) (fun K' hK' => ?_)
  go_simp
  refine (alu_nil o (unhide HLT) (unhide HNA) A1 A2 A3 k1 c1 k2 c2 k3 c3 w3).mono ?_
  rintro e w4 ⟨rfl, rfl⟩
  refine hK'.out _ _ (trivial) ?_
  clear hK' K'
  refine held_takeD 7 (.slice none 0 0) (some 10) (by rfl) (by rfl) (by kernel_rfl) (by kernel_rfl) (by kernel_rfl) (fun _ _ _ h => h) (.inl ⟨by rfl, fun _ _ => by rfl⟩) (trivial) ?_
  simp only [Act.put, List.setIfInBounds_toArray, List.set_cons_zero, List.set_cons_succ]
  refine wpAnyH_done (by kernel_rfl) ?_ _
  refine NoPanic.normal ?_
  have hn := fun (wx : World) (x : Option Addr) (n c n' c' : Nat) => Lib.run_eql_slice_nil (P := Sakg.prog) wx 54 5 x n c n' c' Sakg.underlying54
  clear n2 n3 m1 m2 NN1
  go_wp2
  go_ret
  exact ⟨rfl, hb0.trans (e3.mono hb0.size)⟩


set_option maxHeartbeats 16000000 in
theorem sa_12 (o : Nat) (h0 : 12 ≤ o ∧ o ≤ 15) (a b c : List Int) (ha : IsW a) (hb : IsW b) (hc : IsW c) (w : World) :
    Calls Sakg.prog 4 #[.int .u8 o, .agg (bv a).toArray, .agg (bv b).toArray, .agg (bv c).toArray] w fun e w' => e = .returned (.bool true) ∧ Below w.heap.size w w' := by
  obtain ⟨W, hW⟩ : ∃ W, W = ((w.alloc (.cells (bv a).toArray 28)).alloc (.cells (bv b).toArray 28)).alloc (.cells (bv c).toArray 28) := ⟨_, rfl⟩
  have hb0 : Below w.heap.size w W := by rw [hW]; exact (((Below.refl _ _).alloc (Nat.le_refl _) _).alloc (by simp) _).alloc (by simp; omega) _
  have ra : RowT 28 W w.heap.size (bv a) := by rw [hW]; exact ((RowT.new _ _ _).alloc _).alloc _
  have rb : RowT 28 W (w.heap.size + 1) (bv b) := by
    rw [hW]
    have := (RowT.new 28 (w.alloc (.cells (bv a).toArray 28)) (bv b)).alloc (.cells (bv c).toArray 28)
    rwa [World.size_alloc] at this
  have rc : RowT 28 W (w.heap.size + 2) (bv c) := by
    rw [hW]
    have := RowT.new 28 ((w.alloc (.cells (bv a).toArray 28)).alloc (.cells (bv b).toArray 28)) (bv c)
    rwa [World.size_alloc, World.size_alloc] at this
  have hR : ∀ wz, Below W.heap.size W wz → wz.rangeAt w.heap.size 0 (bv a) ∧ wz.rangeAt (w.heap.size + 1) 0 (bv b) ∧ wz.rangeAt (w.heap.size + 2) 0 (bv c) := fun wz hz => ⟨(ra.kept hz).rangeAll, (rb.kept hz).rangeAll, (rc.kept hz).rangeAll⟩
  have hSrc : ∀ wz, Below W.heap.size W wz → Src wz (some ⟨w.heap.size, 0, none⟩) 32 32 a ∧ Src wz (some ⟨w.heap.size + 1, 0, none⟩) 32 32 b ∧ Src wz (some ⟨w.heap.size + 2, 0, none⟩) 32 32 c := fun wz hz => ⟨src_of_range (hR wz hz).1 ha.byt ha.len max32, src_of_range (hR wz hz).2.1 hb.byt hb.len max32, src_of_range (hR wz hz).2.2 hc.byt hc.len max32⟩
  have HR := hide hR
  have HSRC := hide hSrc
  have hu := Sakg.underlying28
  have sza : (Sakg.prog.info? 28).map (·.size) = some (bv a).length := by rw [bv_len, ha.len]; exact size32
  have szb : (Sakg.prog.info? 28).map (·.size) = some (bv b).length := by rw [bv_len, hb.len]; exact size32
  have szc : (Sakg.prog.info? 28).map (·.size) = some (bv c).length := by rw [bv_len, hc.len]; exact size32
  have HF := hide (fromBE_any _ 32 32 a W (hSrc W (Below.refl _ _)).1 (by omega))
  have t1 : decide ((1 : Int) ≤ (o : Int)) = true := decide_eq_true (by omega)
  have t11 : decide ((o : Int) ≤ 11) = false := decide_eq_false (by omega)
  have t16 : decide ((16 : Int) ≤ (o : Int)) = false := decide_eq_false (by omega)
  have t29 : decide ((o : Int) ≤ 29) = true := decide_eq_true (by omega)
  have HNA : Hid (¬ aluO o) := hide (by unfold aluO; omega)
  have HLT : Hid (o < 256) := hide (by omega)
  clear h0
  clear ra rb rc hR hSrc
  go_enter Sakg.func4, Sakg.ntmps4
  go_upto_region 1 with fail
  rw [← hW]
  clear hW
  go_upto_region 2 with (go_at_call 17; refine (unhide HF).mono ?_; rintro e w1 ⟨A1, k1, c1, rfl, n1, N1, b1⟩; have NN1 := hide n1; clear n1)
  have d1 : Below w1.heap.size w1 w1.drew := Quiet.below ⟨1, rfl⟩ _
  have e1 : Below W.heap.size W w1.drew := b1.trans (d1.mono b1.size)
  refine wp_region_noPanic ?_
  refine wp_region_held_drew (S := fun _ => True) (by kernel_rfl) (trivial) (fun hHeld => ?_)
  refine held_takeD 0 (.int .u8 o) (some 13) (by rfl) (by rfl) (by kernel_rfl) (by kernel_rfl) (by kernel_rfl) (fun _ _ _ h => h) (.inl ⟨by rfl, fun _ _ => by rfl⟩) (hHeld) ?_
  simp only [Act.put, List.setIfInBounds_toArray, List.set_cons_zero, List.set_cons_succ]
  refine held_takeD 1 (.slice A1 k1 c1) (some 14) (by rfl) (by rfl) (by kernel_rfl) (by kernel_rfl) (by kernel_rfl) (fun _ _ _ h => h) (.inl ⟨by rfl, fun _ _ => by rfl⟩) (hHeld) ?_
  simp only [Act.put, List.setIfInBounds_toArray, List.set_cons_zero, List.set_cons_succ]
  refine held_takeD 2 (.slice (some ⟨w.heap.size + 1, 0, none⟩) 32 32) (some 15) (by rfl) (by rfl) (by kernel_rfl) (by kernel_rfl) (by kernel_rfl) (fun _ _ _ h => h) (.inl ⟨by rfl, fun _ _ => by go_simp⟩) (hHeld) ?_
  simp only [Act.put, List.setIfInBounds_toArray, List.set_cons_zero, List.set_cons_succ]
  refine held_takeD 4 (.slice (some ⟨w.heap.size + 2, 0, none⟩) 32 32) (some 17) (by rfl) (by rfl) (by kernel_rfl) (by kernel_rfl) (by kernel_rfl) (fun _ _ _ h => h) (.inl ⟨by rfl, fun _ _ => by go_simp⟩) (hHeld) ?_
  simp only [Act.put, List.setIfInBounds_toArray, List.set_cons_zero, List.set_cons_succ]
  refine held_one 3 (by kernel_rfl) (by rfl) (fun K' hK' => ?_)
  go_simp
  refine (fromBE_any _ 32 32 b w1.drew (unhide HSRC _ e1).2.1 (by omega)).mono ?_
  rintro e w2 ⟨A2, k2, c2, rfl, n2, N2, b2⟩
  refine hK'.out _ _ (trivial) ?_
  clear hK' K'
  have e2 := e1.trans (b2.mono e1.size)
  refine held_one 5 (by kernel_rfl) (by rfl) (fun K' hK' => ?_)
  go_simp
  refine (fromBE_any _ 32 32 c w2 (unhide HSRC _ e2).2.2 (by omega)).mono ?_
  rintro e w3 ⟨A3, k3, c3, rfl, n3, N3, b3⟩
  refine hK'.out _ _ (trivial) ?_
  clear hK' K'
  have e3 := e2.trans (b3.mono e2.size)
  have m1 := ((unhide NN1).kept d1 |>.kept b2).kept b3
  have m2 := n2.kept b3
  refine held_one 6 (by kernel_rfl) (by rfl) (fun K' hK' => ?_)
  go_simp
  refine (alu_nil o (unhide HLT) (unhide HNA) A1 A2 A3 k1 c1 k2 c2 k3 c3 w3).mono ?_
  rintro e w4 ⟨rfl, rfl⟩
  refine hK'.out _ _ (trivial) ?_
  clear hK' K'
  refine held_takeD 7 (.slice none 0 0) (some 10) (by rfl) (by rfl) (by kernel_rfl) (by kernel_rfl) (by kernel_rfl) (fun _ _ _ h => h) (.inl ⟨by rfl, fun _ _ => by rfl⟩) (trivial) ?_
  simp only [Act.put, List.setIfInBounds_toArray, List.set_cons_zero, List.set_cons_succ]
  refine wpAnyH_done (by kernel_rfl) ?_ _
  refine NoPanic.normal ?_
  have hn := fun (wx : World) (x : Option Addr) (n c n' c' : Nat) => Lib.run_eql_slice_nil (P := Sakg.prog) wx 54 5 x n c n' c' Sakg.underlying54
  clear n2 n3 m1 m2 NN1
  go_wp2
  go_ret
  exact ⟨rfl, hb0.trans (e3.mono hb0.size)⟩


set_option maxHeartbeats 16000000 in
theorem sa_30 (o : Nat) (h0 : 30 ≤ o ∧ o ≤ 255) (a b c : List Int) (ha : IsW a) (hb : IsW b) (hc : IsW c) (w : World) :
    Calls Sakg.prog 4 #[.int .u8 o, .agg (bv a).toArray, .agg (bv b).toArray, .agg (bv c).toArray] w fun e w' => e = .returned (.bool true) ∧ Below w.heap.size w w' := by
  obtain ⟨W, hW⟩ : ∃ W, W = ((w.alloc (.cells (bv a).toArray 28)).alloc (.cells (bv b).toArray 28)).alloc (.cells (bv c).toArray 28) := ⟨_, rfl⟩
  have hb0 : Below w.heap.size w W := by rw [hW]; exact (((Below.refl _ _).alloc (Nat.le_refl _) _).alloc (by simp) _).alloc (by simp; omega) _
  have ra : RowT 28 W w.heap.size (bv a) := by rw [hW]; exact ((RowT.new _ _ _).alloc _).alloc _
  have rb : RowT 28 W (w.heap.size + 1) (bv b) := by
    rw [hW]
    have := (RowT.new 28 (w.alloc (.cells (bv a).toArray 28)) (bv b)).alloc (.cells (bv c).toArray 28)
    rwa [World.size_alloc] at this
  have rc : RowT 28 W (w.heap.size + 2) (bv c) := by
    rw [hW]
    have := RowT.new 28 ((w.alloc (.cells (bv a).toArray 28)).alloc (.cells (bv b).toArray 28)) (bv c)
    rwa [World.size_alloc, World.size_alloc] at this
  have hR : ∀ wz, Below W.heap.size W wz → wz.rangeAt w.heap.size 0 (bv a) ∧ wz.rangeAt (w.heap.size + 1) 0 (bv b) ∧ wz.rangeAt (w.heap.size + 2) 0 (bv c) := fun wz hz => ⟨(ra.kept hz).rangeAll, (rb.kept hz).rangeAll, (rc.kept hz).rangeAll⟩
  have hSrc : ∀ wz, Below W.heap.size W wz → Src wz (some ⟨w.heap.size, 0, none⟩) 32 32 a ∧ Src wz (some ⟨w.heap.size + 1, 0, none⟩) 32 32 b ∧ Src wz (some ⟨w.heap.size + 2, 0, none⟩) 32 32 c := fun wz hz => ⟨src_of_range (hR wz hz).1 ha.byt ha.len max32, src_of_range (hR wz hz).2.1 hb.byt hb.len max32, src_of_range (hR wz hz).2.2 hc.byt hc.len max32⟩
  have HR := hide hR
  have HSRC := hide hSrc
  have hu := Sakg.underlying28
  have sza : (Sakg.prog.info? 28).map (·.size) = some (bv a).length := by rw [bv_len, ha.len]; exact size32
  have szb : (Sakg.prog.info? 28).map (·.size) = some (bv b).length := by rw [bv_len, hb.len]; exact size32
  have szc : (Sakg.prog.info? 28).map (·.size) = some (bv c).length := by rw [bv_len, hc.len]; exact size32
  have HF := hide (fromBE_any _ 32 32 a W (hSrc W (Below.refl _ _)).1 (by omega))
  have t1 : decide ((1 : Int) ≤ (o : Int)) = true := decide_eq_true (by omega)
  have t11 : decide ((o : Int) ≤ 11) = false := decide_eq_false (by omega)
  have t16 : decide ((16 : Int) ≤ (o : Int)) = true := decide_eq_true (by omega)
  have t29 : decide ((o : Int) ≤ 29) = false := decide_eq_false (by omega)
  have HNA : Hid (¬ aluO o) := hide (by unfold aluO; omega)
  have HLT : Hid (o < 256) := hide (by omega)
  clear h0
  clear ra rb rc hR hSrc
  go_enter Sakg.func4, Sakg.ntmps4
  go_upto_region 1 with fail
  rw [← hW]
  clear hW
  go_upto_region 2 with (go_at_call 17; refine (unhide HF).mono ?_; rintro e w1 ⟨A1, k1, c1, rfl, n1, N1, b1⟩; have NN1 := hide n1; clear n1)
  have d1 : Below w1.heap.size w1 w1.drew := Quiet.below ⟨1, rfl⟩ _
  have e1 : Below W.heap.size W w1.drew := b1.trans (d1.mono b1.size)
  refine wp_region_noPanic ?_
  refine wp_region_held_drew (S := fun _ => True) (by kernel_rfl) (trivial) (fun hHeld => ?_)
  refine held_takeD 0 (.int .u8 o) (some 13) (by rfl) (by rfl) (by kernel_rfl) (by kernel_rfl) (by kernel_rfl) (fun _ _ _ h => h) (.inl ⟨by rfl, fun _ _ => by rfl⟩) (hHeld) ?_
  simp only [Act.put, List.setIfInBounds_toArray, List.set_cons_zero, List.set_cons_succ]
  refine held_takeD 1 (.slice A1 k1 c1) (some 14) (by rfl) (by rfl) (by kernel_rfl) (by kernel_rfl) (by kernel_rfl) (fun _ _ _ h => h) (.inl ⟨by rfl, fun _ _ => by rfl⟩) (hHeld) ?_
  simp only [Act.put, List.setIfInBounds_toArray, List.set_cons_zero, List.set_cons_succ]
  refine held_takeD 2 (.slice (some ⟨w.heap.size + 1, 0, none⟩) 32 32) (some 15) (by rfl) (by rfl) (by kernel_rfl) (by kernel_rfl) (by kernel_rfl) (fun _ _ _ h => h) (.inl ⟨by rfl, fun _ _ => by go_simp⟩) (hHeld) ?_
  simp only [Act.put, List.setIfInBounds_toArray, List.set_cons_zero, List.set_cons_succ]
  refine held_takeD 4 (.slice (some ⟨w.heap.size + 2, 0, none⟩) 32 32) (some 17) (by rfl) (by rfl) (by kernel_rfl) (by kernel_rfl) (by kernel_rfl) (fun _ _ _ h => h) (.inl ⟨by rfl, fun _ _ => by go_simp⟩) (hHeld) ?_
  simp only [Act.put, List.setIfInBounds_toArray, List.set_cons_zero, List.set_cons_succ]
  refine held_one 3 (by kernel_rfl) (by rfl) (fun K' hK' => ?_)
  go_simp
  refine (fromBE_any _ 32 32 b w1.drew (unhide HSRC _ e1).2.1 (by omega)).mono ?_
  rintro e w2 ⟨A2, k2, c2, rfl, n2, N2, b2⟩
  refine hK'.out _ _ (trivial) ?_
  clear hK' K'
  have e2 := e1.trans (b2.mono e1.size)
  refine held_one 5 (by kernel_rfl) (by rfl) (fun K' hK' => ?_)
  go_simp
  refine (fromBE_any _ 32 32 c w2 (unhide HSRC _ e2).2.2 (by omega)).mono ?_
  rintro e w3 ⟨A3, k3, c3, rfl, n3, N3, b3⟩
  refine hK'.out _ _ (trivial) ?_
  clear hK' K'
  have e3 := e2.trans (b3.mono e2.size)
  have m1 := ((unhide NN1).kept d1 |>.kept b2).kept b3
  have m2 := n2.kept b3
  refine held_one 6 (by kernel_rfl) (by rfl) (fun K' hK' => ?_)
  go_simp
  refine (alu_nil o (unhide HLT) (unhide HNA) A1 A2 A3 k1 c1 k2 c2 k3 c3 w3).mono ?_
  rintro e w4 ⟨rfl, rfl⟩
  refine hK'.out _ _ (trivial) ?_
  clear hK' K'
  refine held_takeD 7 (.slice none 0 0) (some 10) (by rfl) (by rfl) (by kernel_rfl) (by kernel_rfl) (by kernel_rfl) (fun _ _ _ h => h) (.inl ⟨by rfl, fun _ _ => by rfl⟩) (trivial) ?_
  simp only [Act.put, List.setIfInBounds_toArray, List.set_cons_zero, List.set_cons_succ]
  refine wpAnyH_done (by kernel_rfl) ?_ _
  refine NoPanic.normal ?_
  have hn := fun (wx : World) (x : Option Addr) (n c n' c' : Nat) => Lib.run_eql_slice_nil (P := Sakg.prog) wx 54 5 x n c n' c' Sakg.underlying54
  clear n2 n3 m1 m2 NN1
  go_wp2
  go_ret
  exact ⟨rfl, hb0.trans (e3.mono hb0.size)⟩


set_option maxHeartbeats 16000000 in
theorem sa_1 (o : Nat) (h0 : 1 ≤ o ∧ o ≤ 11) (a b c : List Int) (ha : IsW a) (hb : IsW b) (hc : IsW c) (w : World) :
    Calls Sakg.prog 4 #[.int .u8 o, .agg (bv a).toArray, .agg (bv b).toArray, .agg (bv c).toArray] w fun e w' => e = .returned (.bool true) ∧ Below w.heap.size w w' := by
  obtain ⟨W, hW⟩ : ∃ W, W = ((w.alloc (.cells (bv a).toArray 28)).alloc (.cells (bv b).toArray 28)).alloc (.cells (bv c).toArray 28) := ⟨_, rfl⟩
  have hb0 : Below w.heap.size w W := by rw [hW]; exact (((Below.refl _ _).alloc (Nat.le_refl _) _).alloc (by simp) _).alloc (by simp; omega) _
  have ra : RowT 28 W w.heap.size (bv a) := by rw [hW]; exact ((RowT.new _ _ _).alloc _).alloc _
  have rb : RowT 28 W (w.heap.size + 1) (bv b) := by
    rw [hW]
    have := (RowT.new 28 (w.alloc (.cells (bv a).toArray 28)) (bv b)).alloc (.cells (bv c).toArray 28)
    rwa [World.size_alloc] at this
  have rc : RowT 28 W (w.heap.size + 2) (bv c) := by
    rw [hW]
    have := RowT.new 28 ((w.alloc (.cells (bv a).toArray 28)).alloc (.cells (bv b).toArray 28)) (bv c)
    rwa [World.size_alloc, World.size_alloc] at this
  have hR : ∀ wz, Below W.heap.size W wz → wz.rangeAt w.heap.size 0 (bv a) ∧ wz.rangeAt (w.heap.size + 1) 0 (bv b) ∧ wz.rangeAt (w.heap.size + 2) 0 (bv c) := fun wz hz => ⟨(ra.kept hz).rangeAll, (rb.kept hz).rangeAll, (rc.kept hz).rangeAll⟩
  have hSrc : ∀ wz, Below W.heap.size W wz → Src wz (some ⟨w.heap.size, 0, none⟩) 32 32 a ∧ Src wz (some ⟨w.heap.size + 1, 0, none⟩) 32 32 b ∧ Src wz (some ⟨w.heap.size + 2, 0, none⟩) 32 32 c := fun wz hz => ⟨src_of_range (hR wz hz).1 ha.byt ha.len max32, src_of_range (hR wz hz).2.1 hb.byt hb.len max32, src_of_range (hR wz hz).2.2 hc.byt hc.len max32⟩
  have HR := hide hR
  have HSRC := hide hSrc
  have hu := Sakg.underlying28
  have sza : (Sakg.prog.info? 28).map (·.size) = some (bv a).length := by rw [bv_len, ha.len]; exact size32
  have szb : (Sakg.prog.info? 28).map (·.size) = some (bv b).length := by rw [bv_len, hb.len]; exact size32
  have szc : (Sakg.prog.info? 28).map (·.size) = some (bv c).length := by rw [bv_len, hc.len]; exact size32
  have HF := hide (fromBE_any _ 32 32 a W (hSrc W (Below.refl _ _)).1 (by omega))
  have t1 : decide ((1 : Int) ≤ (o : Int)) = true := decide_eq_true (by omega)
  have t11 : decide ((o : Int) ≤ 11) = true := decide_eq_true (by omega)
  have t16 : decide ((16 : Int) ≤ (o : Int)) = false := decide_eq_false (by omega)
  have t29 : decide ((o : Int) ≤ 29) = true := decide_eq_true (by omega)
  have HAL : Hid (aluO o) := hide (by unfold aluO; omega)
  have HLT : Hid (o < 256) := hide (by omega)
  clear h0
  clear ra rb rc hR hSrc
  go_enter Sakg.func4, Sakg.ntmps4
  go_upto_region 1 with fail
  rw [← hW]
  clear hW
  go_upto_region 2 with (go_at_call 17; refine (unhide HF).mono ?_; rintro e w1 ⟨A1, k1, c1, rfl, n1, N1, b1⟩; have NN1 := hide n1; clear n1)
  have d1 : Below w1.heap.size w1 w1.drew := Quiet.below ⟨1, rfl⟩ _
  have e1 : Below W.heap.size W w1.drew := b1.trans (d1.mono b1.size)
  refine wp_region_noPanic ?_
  refine wp_region_held_drew (S := fun _ => True) (by kernel_rfl) (trivial) (fun hHeld => ?_)
  refine held_takeD 0 (.int .u8 o) (some 13) (by rfl) (by rfl) (by kernel_rfl) (by kernel_rfl) (by kernel_rfl) (fun _ _ _ h => h) (.inl ⟨by rfl, fun _ _ => by rfl⟩) (hHeld) ?_
  simp only [Act.put, List.setIfInBounds_toArray, List.set_cons_zero, List.set_cons_succ]
  refine held_takeD 1 (.slice A1 k1 c1) (some 14) (by rfl) (by rfl) (by kernel_rfl) (by kernel_rfl) (by kernel_rfl) (fun _ _ _ h => h) (.inl ⟨by rfl, fun _ _ => by rfl⟩) (hHeld) ?_
  simp only [Act.put, List.setIfInBounds_toArray, List.set_cons_zero, List.set_cons_succ]
  refine held_takeD 2 (.slice (some ⟨w.heap.size + 1, 0, none⟩) 32 32) (some 15) (by rfl) (by rfl) (by kernel_rfl) (by kernel_rfl) (by kernel_rfl) (fun _ _ _ h => h) (.inl ⟨by rfl, fun _ _ => by go_simp⟩) (hHeld) ?_
  simp only [Act.put, List.setIfInBounds_toArray, List.set_cons_zero, List.set_cons_succ]
  refine held_takeD 4 (.slice (some ⟨w.heap.size + 2, 0, none⟩) 32 32) (some 17) (by rfl) (by rfl) (by kernel_rfl) (by kernel_rfl) (by kernel_rfl) (fun _ _ _ h => h) (.inl ⟨by rfl, fun _ _ => by go_simp⟩) (hHeld) ?_
  simp only [Act.put, List.setIfInBounds_toArray, List.set_cons_zero, List.set_cons_succ]
  refine held_one 3 (by kernel_rfl) (by rfl) (fun K' hK' => ?_)
  go_simp
  refine (fromBE_any _ 32 32 b w1.drew (unhide HSRC _ e1).2.1 (by omega)).mono ?_
  rintro e w2 ⟨A2, k2, c2, rfl, n2, N2, b2⟩
  refine hK'.out _ _ (trivial) ?_
  clear hK' K'
  have e2 := e1.trans (b2.mono e1.size)
  refine held_one 5 (by kernel_rfl) (by rfl) (fun K' hK' => ?_)
  go_simp
  refine (fromBE_any _ 32 32 c w2 (unhide HSRC _ e2).2.2 (by omega)).mono ?_
  rintro e w3 ⟨A3, k3, c3, rfl, n3, N3, b3⟩
  refine hK'.out _ _ (trivial) ?_
  clear hK' K'
  have e3 := e2.trans (b3.mono e2.size)
  have m1 := ((unhide NN1).kept d1 |>.kept b2).kept b3
  have m2 := n2.kept b3
  have hav := ha.lt
  have hbv := hb.lt
  have hcv := hc.lt
  refine held_one 6 (by kernel_rfl) (by rfl) (fun K' hK' => ?_)
  go_simp
  refine (alu_any o (unhide HLT) A1 A2 A3 k1 c1 k2 c2 k3 c3 _ _ _ w3 m1 m2 n3 hav hbv hcv).mono ?_
  rintro e w4 ⟨A4, k4, c4, rfl, n4, N4, b4⟩
  refine hK'.out _ _ (trivial) ?_
  clear hK' K'
  have e4 := e3.trans (b4.mono e3.size)
  refine held_takeD 7 (.slice A4 k4 c4) (some 10) (by rfl) (by rfl) (by kernel_rfl) (by kernel_rfl) (by kernel_rfl) (fun _ _ _ h => h) (.inl ⟨by rfl, fun _ _ => by rfl⟩) (trivial) ?_
  simp only [Act.put, List.setIfInBounds_toArray, List.set_cons_zero, List.set_cons_succ]
  refine wpAnyH_done (by kernel_rfl) ?_ _
  refine NoPanic.normal ?_
  have NN4 := hide n4
  clear n2 n3 n4 m1 m2 NN1
  have hv := aluN_lt o (beN a) (beN b) (beN c) hav hbv hcv
  have hpl : (aluProg o a b c).length = 106 := aluProg_len o a b c ha.len hb.len hc.len
  have d4 : Below w4.heap.size w4 w4.drew := Quiet.below ⟨1, rfl⟩ _
  have e4d : Below W.heap.size W w4.drew := e4.trans (d4.mono e4.size)
  go_upto_region 5 with fail
  refine wp_region_noPanic ?_
  refine wp_region_held_drew (S := fun w' => Below W.heap.size W w') (by kernel_rfl) (e4d) (fun hHeld => ?_)
  refine held_takeD 0 (.int .u8 o) (some 37) (by rfl) (by rfl) (by kernel_rfl) (by kernel_rfl) (by kernel_rfl) (fun _ _ _ h => h) (.inl ⟨by rfl, fun _ _ => by rfl⟩) (hHeld) ?_
  simp only [Act.put, List.setIfInBounds_toArray, List.set_cons_zero, List.set_cons_succ]
  refine held_takeD 1 (.agg (bv b).toArray) (some 38) (by rfl) (by rfl) (by kernel_rfl) (by kernel_rfl) (by kernel_rfl) (fun _ _ _ h => h) (yieldsIf_load_mid (by rfl) _ _ rfl _ _ rfl _ _ (fun wz hS => (unhide HR wz hS).2.1) hu rfl szb) (hHeld) ?_
  simp only [Act.put, List.setIfInBounds_toArray, List.set_cons_zero, List.set_cons_succ]
  refine held_takeD 2 (.slice A4 k4 c4) (some 39) (by rfl) (by rfl) (by kernel_rfl) (by kernel_rfl) (by kernel_rfl) (fun _ _ _ h => h) (.inl ⟨by rfl, fun _ _ => by rfl⟩) (hHeld) ?_
  simp only [Act.put, List.setIfInBounds_toArray, List.set_cons_zero, List.set_cons_succ]
  refine held_takeD 3 (.int .u8 o) (some 40) (by rfl) (by rfl) (by kernel_rfl) (by kernel_rfl) (by kernel_rfl) (fun _ _ _ h => h) (.inl ⟨by rfl, fun _ _ => by rfl⟩) (hHeld) ?_
  simp only [Act.put, List.setIfInBounds_toArray, List.set_cons_zero, List.set_cons_succ]
  refine held_takeD 4 (.agg (bv a).toArray) (some 41) (by rfl) (by rfl) (by kernel_rfl) (by kernel_rfl) (by kernel_rfl) (fun _ _ _ h => h) (yieldsIf_load_mid (by rfl) _ _ rfl _ _ rfl _ _ (fun wz hS => (unhide HR wz hS).1) hu rfl sza) (hHeld) ?_
  simp only [Act.put, List.setIfInBounds_toArray, List.set_cons_zero, List.set_cons_succ]
  refine held_takeD 5 (.agg (bv b).toArray) (some 42) (by rfl) (by rfl) (by kernel_rfl) (by kernel_rfl) (by kernel_rfl) (fun _ _ _ h => h) (yieldsIf_load_mid (by rfl) _ _ rfl _ _ rfl _ _ (fun wz hS => (unhide HR wz hS).2.1) hu rfl szb) (hHeld) ?_
  simp only [Act.put, List.setIfInBounds_toArray, List.set_cons_zero, List.set_cons_succ]
  refine held_takeD 6 (.agg (bv c).toArray) (some 43) (by rfl) (by rfl) (by kernel_rfl) (by kernel_rfl) (by kernel_rfl) (fun _ _ _ h => h) (yieldsIf_load_mid (by rfl) _ _ rfl _ _ rfl _ _ (fun wz hS => (unhide HR wz hS).2.2) hu rfl szc) (hHeld) ?_
  simp only [Act.put, List.setIfInBounds_toArray, List.set_cons_zero, List.set_cons_succ]
  refine held_one 7 (by kernel_rfl) (by rfl) (fun K' hK' => ?_)
  go_simp
  refine (aluProgram_any o (Nat.le_of_lt_succ (unhide HLT)) a b c ha hb hc w4.drew).mono ?_
  rintro e w5 ⟨A5, k5, c5, rfl, s5, b5⟩
  refine hK'.out _ _ (e4d.trans (b5.mono e4d.size)) ?_
  clear hK' K'
  have e5 := e4d.trans (b5.mono e4d.size)
  have hk5 := s5.len_eq
  obtain ⟨bb, off, rfl, -⟩ := s5.at_ (by omega)
  have S5 := hide s5
  clear s5
  refine held_one 8 (by kernel_rfl) (by rfl) (fun K' hK' => ?_)
  refine if_build_lit (some 45) rfl (by rfl) 24 1 [(0, .tmp 44)] rfl 30 [Value.slice (some ⟨bb, off, none⟩) k5 c5] (run_codes _ _ _ _) (fun w6 r6 b6 s6 => ?_)
  have e6 := e5.trans (b6.mono e5.size)
  refine hK'.out _ _ e6 ?_
  clear hK' K'
  simp only [Act.put, List.setIfInBounds_toArray, List.set_cons_zero, List.set_cons_succ]
  have x6 : w6.cell? ⟨w5.heap.size, 0, none⟩ = some (.slice (some ⟨bb, off, none⟩) k5 c5) := by rw [r6.cell]; rfl
  refine held_one 9 (by kernel_rfl) (by rfl) (fun K' hK' => ?_)
  go_simp
  refine (stage_one w5.heap.size ⟨bb, off, none⟩ k5 c5 (aluProg o a b c) w6 x6 ((unhide S5).kept b6) (by omega)).mono ?_
  rintro e w7 ⟨A7, c7, rfl, h7, b7⟩
  refine hK'.out _ _ (e6.trans (b7.mono e6.size)) ?_
  clear hK' K'
  have e7 := e6.trans (b7.mono e6.size)
  have H7 := hide h7
  clear h7 x6 r6
  refine held_one 10 (by kernel_rfl) (by rfl) (fun K' hK' => ?_)
  go_simp
  refine (toA1_any w7).mono ?_
  rintro e w8 ⟨rfl, b8⟩
  refine hK'.out _ _ (e7.trans (b8.mono e7.size)) ?_
  clear hK' K'
  have e8 := e7.trans (b8.mono e7.size)
  refine held_one 11 (by kernel_rfl) (by rfl) (fun K' hK' => ?_)
  go_simp
  refine (applied_stage o a b c (unhide HAL) ha hb hc A7 c7 w8 ((unhide H7).kept b8)).mono ?_
  rintro e w9 ⟨A9, k9, c9, m9, rfl, hm9, s9, b9⟩
  refine hK'.out _ _ (e8.trans (b9.mono e8.size)) ?_
  clear hK' K'
  have e9 := e8.trans (b9.mono e8.size)
  have b49 : Below w4.heap.size w4 w9 := d4.trans ((b5.trans ((b6.trans ((b7.trans ((b8.trans (b9.mono b8.size)).mono b7.size)).mono b6.size)).mono b5.size)).mono d4.size)
  refine held_one 12 (by kernel_rfl) (by rfl) (fun K' hK' => ?_)
  go_simp
  refine (specAluHolds_any o (unhide HAL) b hb _ hv A4 k4 c4 A9 k9 c9 m9 hm9 w9 ((unhide NN4).kept b49) s9).mono ?_
  rintro e w10 ⟨rfl, b10⟩
  refine hK'.out _ _ (e9.trans (b10.mono e9.size)) ?_
  clear hK' K'
  have e10 := e9.trans (b10.mono e9.size)
  refine held_takeD 13 (.bool true) (some 8) (by rfl) (by rfl) (by kernel_rfl) (by kernel_rfl) (by kernel_rfl) (fun _ _ _ h => h) (.inl ⟨by rfl, fun _ _ => by rfl⟩) (e10) ?_
  simp only [Act.put, List.setIfInBounds_toArray, List.set_cons_zero, List.set_cons_succ]
  refine wpAnyH_done (by kernel_rfl) ?_ _
  refine NoPanic.normal ?_
  clear s9
  go_wp2
  go_ret
  exact ⟨rfl, hb0.trans (e10.mono hb0.size)⟩


set_option maxHeartbeats 16000000 in
theorem sa_16 (o : Nat) (h0 : 16 ≤ o ∧ o ≤ 29) (a b c : List Int) (ha : IsW a) (hb : IsW b) (hc : IsW c) (w : World) :
    Calls Sakg.prog 4 #[.int .u8 o, .agg (bv a).toArray, .agg (bv b).toArray, .agg (bv c).toArray] w fun e w' => e = .returned (.bool true) ∧ Below w.heap.size w w' := by
  obtain ⟨W, hW⟩ : ∃ W, W = ((w.alloc (.cells (bv a).toArray 28)).alloc (.cells (bv b).toArray 28)).alloc (.cells (bv c).toArray 28) := ⟨_, rfl⟩
  have hb0 : Below w.heap.size w W := by rw [hW]; exact (((Below.refl _ _).alloc (Nat.le_refl _) _).alloc (by simp) _).alloc (by simp; omega) _
  have ra : RowT 28 W w.heap.size (bv a) := by rw [hW]; exact ((RowT.new _ _ _).alloc _).alloc _
  have rb : RowT 28 W (w.heap.size + 1) (bv b) := by
    rw [hW]
    have := (RowT.new 28 (w.alloc (.cells (bv a).toArray 28)) (bv b)).alloc (.cells (bv c).toArray 28)
    rwa [World.size_alloc] at this
  have rc : RowT 28 W (w.heap.size + 2) (bv c) := by
    rw [hW]
    have := RowT.new 28 ((w.alloc (.cells (bv a).toArray 28)).alloc (.cells (bv b).toArray 28)) (bv c)
    rwa [World.size_alloc, World.size_alloc] at this
  have hR : ∀ wz, Below W.heap.size W wz → wz.rangeAt w.heap.size 0 (bv a) ∧ wz.rangeAt (w.heap.size + 1) 0 (bv b) ∧ wz.rangeAt (w.heap.size + 2) 0 (bv c) := fun wz hz => ⟨(ra.kept hz).rangeAll, (rb.kept hz).rangeAll, (rc.kept hz).rangeAll⟩
  have hSrc : ∀ wz, Below W.heap.size W wz → Src wz (some ⟨w.heap.size, 0, none⟩) 32 32 a ∧ Src wz (some ⟨w.heap.size + 1, 0, none⟩) 32 32 b ∧ Src wz (some ⟨w.heap.size + 2, 0, none⟩) 32 32 c := fun wz hz => ⟨src_of_range (hR wz hz).1 ha.byt ha.len max32, src_of_range (hR wz hz).2.1 hb.byt hb.len max32, src_of_range (hR wz hz).2.2 hc.byt hc.len max32⟩
  have HR := hide hR
  have HSRC := hide hSrc
  have hu := Sakg.underlying28
  have sza : (Sakg.prog.info? 28).map (·.size) = some (bv a).length := by rw [bv_len, ha.len]; exact size32
  have szb : (Sakg.prog.info? 28).map (·.size) = some (bv b).length := by rw [bv_len, hb.len]; exact size32
  have szc : (Sakg.prog.info? 28).map (·.size) = some (bv c).length := by rw [bv_len, hc.len]; exact size32
  have HF := hide (fromBE_any _ 32 32 a W (hSrc W (Below.refl _ _)).1 (by omega))
  have t1 : decide ((1 : Int) ≤ (o : Int)) = true := decide_eq_true (by omega)
  have t11 : decide ((o : Int) ≤ 11) = false := decide_eq_false (by omega)
  have t16 : decide ((16 : Int) ≤ (o : Int)) = true := decide_eq_true (by omega)
  have t29 : decide ((o : Int) ≤ 29) = true := decide_eq_true (by omega)
  have HAL : Hid (aluO o) := hide (by unfold aluO; omega)
  have HLT : Hid (o < 256) := hide (by omega)
  clear h0
  clear ra rb rc hR hSrc
  go_enter Sakg.func4, Sakg.ntmps4
  go_upto_region 1 with fail
  rw [← hW]
  clear hW
  go_upto_region 2 with (go_at_call 17; refine (unhide HF).mono ?_; rintro e w1 ⟨A1, k1, c1, rfl, n1, N1, b1⟩; have NN1 := hide n1; clear n1)
  have d1 : Below w1.heap.size w1 w1.drew := Quiet.below ⟨1, rfl⟩ _
  have e1 : Below W.heap.size W w1.drew := b1.trans (d1.mono b1.size)
  refine wp_region_noPanic ?_
  refine wp_region_held_drew (S := fun _ => True) (by kernel_rfl) (trivial) (fun hHeld => ?_)
  refine held_takeD 0 (.int .u8 o) (some 13) (by rfl) (by rfl) (by kernel_rfl) (by kernel_rfl) (by kernel_rfl) (fun _ _ _ h => h) (.inl ⟨by rfl, fun _ _ => by rfl⟩) (hHeld) ?_
  simp only [Act.put, List.setIfInBounds_toArray, List.set_cons_zero, List.set_cons_succ]
  refine held_takeD 1 (.slice A1 k1 c1) (some 14) (by rfl) (by rfl) (by kernel_rfl) (by kernel_rfl) (by kernel_rfl) (fun _ _ _ h => h) (.inl ⟨by rfl, fun _ _ => by rfl⟩) (hHeld) ?_
  simp only [Act.put, List.setIfInBounds_toArray, List.set_cons_zero, List.set_cons_succ]
  refine held_takeD 2 (.slice (some ⟨w.heap.size + 1, 0, none⟩) 32 32) (some 15) (by rfl) (by rfl) (by kernel_rfl) (by kernel_rfl) (by kernel_rfl) (fun _ _ _ h => h) (.inl ⟨by rfl, fun _ _ => by go_simp⟩) (hHeld) ?_
  simp only [Act.put, List.setIfInBounds_toArray, List.set_cons_zero, List.set_cons_succ]
  refine held_takeD 4 (.slice (some ⟨w.heap.size + 2, 0, none⟩) 32 32) (some 17) (by rfl) (by rfl) (by kernel_rfl) (by kernel_rfl) (by kernel_rfl) (fun _ _ _ h => h) (.inl ⟨by rfl, fun _ _ => by go_simp⟩) (hHeld) ?_
  simp only [Act.put, List.setIfInBounds_toArray, List.set_cons_zero, List.set_cons_succ]
  refine held_one 3 (by kernel_rfl) (by rfl) (fun K' hK' => ?_)
  go_simp
  refine (fromBE_any _ 32 32 b w1.drew (unhide HSRC _ e1).2.1 (by omega)).mono ?_
  rintro e w2 ⟨A2, k2, c2, rfl, n2, N2, b2⟩
  refine hK'.out _ _ (trivial) ?_
  clear hK' K'
  have e2 := e1.trans (b2.mono e1.size)
  refine held_one 5 (by kernel_rfl) (by rfl) (fun K' hK' => ?_)
  go_simp
  refine (fromBE_any _ 32 32 c w2 (unhide HSRC _ e2).2.2 (by omega)).mono ?_
  rintro e w3 ⟨A3, k3, c3, rfl, n3, N3, b3⟩
  refine hK'.out _ _ (trivial) ?_
  clear hK' K'
  have e3 := e2.trans (b3.mono e2.size)
  have m1 := ((unhide NN1).kept d1 |>.kept b2).kept b3
  have m2 := n2.kept b3
  have hav := ha.lt
  have hbv := hb.lt
  have hcv := hc.lt
  refine held_one 6 (by kernel_rfl) (by rfl) (fun K' hK' => ?_)
  go_simp
  refine (alu_any o (unhide HLT) A1 A2 A3 k1 c1 k2 c2 k3 c3 _ _ _ w3 m1 m2 n3 hav hbv hcv).mono ?_
  rintro e w4 ⟨A4, k4, c4, rfl, n4, N4, b4⟩
  refine hK'.out _ _ (trivial) ?_
  clear hK' K'
  have e4 := e3.trans (b4.mono e3.size)
  refine held_takeD 7 (.slice A4 k4 c4) (some 10) (by rfl) (by rfl) (by kernel_rfl) (by kernel_rfl) (by kernel_rfl) (fun _ _ _ h => h) (.inl ⟨by rfl, fun _ _ => by rfl⟩) (trivial) ?_
  simp only [Act.put, List.setIfInBounds_toArray, List.set_cons_zero, List.set_cons_succ]
  refine wpAnyH_done (by kernel_rfl) ?_ _
  refine NoPanic.normal ?_
  have NN4 := hide n4
  clear n2 n3 n4 m1 m2 NN1
  have hv := aluN_lt o (beN a) (beN b) (beN c) hav hbv hcv
  have hpl : (aluProg o a b c).length = 106 := aluProg_len o a b c ha.len hb.len hc.len
  have d4 : Below w4.heap.size w4 w4.drew := Quiet.below ⟨1, rfl⟩ _
  have e4d : Below W.heap.size W w4.drew := e4.trans (d4.mono e4.size)
  go_upto_region 5 with fail
  refine wp_region_noPanic ?_
  refine wp_region_held_drew (S := fun w' => Below W.heap.size W w') (by kernel_rfl) (e4d) (fun hHeld => ?_)
  refine held_takeD 0 (.int .u8 o) (some 37) (by rfl) (by rfl) (by kernel_rfl) (by kernel_rfl) (by kernel_rfl) (fun _ _ _ h => h) (.inl ⟨by rfl, fun _ _ => by rfl⟩) (hHeld) ?_
  simp only [Act.put, List.setIfInBounds_toArray, List.set_cons_zero, List.set_cons_succ]
  refine held_takeD 1 (.agg (bv b).toArray) (some 38) (by rfl) (by rfl) (by kernel_rfl) (by kernel_rfl) (by kernel_rfl) (fun _ _ _ h => h) (yieldsIf_load_mid (by rfl) _ _ rfl _ _ rfl _ _ (fun wz hS => (unhide HR wz hS).2.1) hu rfl szb) (hHeld) ?_
  simp only [Act.put, List.setIfInBounds_toArray, List.set_cons_zero, List.set_cons_succ]
  refine held_takeD 2 (.slice A4 k4 c4) (some 39) (by rfl) (by rfl) (by kernel_rfl) (by kernel_rfl) (by kernel_rfl) (fun _ _ _ h => h) (.inl ⟨by rfl, fun _ _ => by rfl⟩) (hHeld) ?_
  simp only [Act.put, List.setIfInBounds_toArray, List.set_cons_zero, List.set_cons_succ]
  refine held_takeD 3 (.int .u8 o) (some 40) (by rfl) (by rfl) (by kernel_rfl) (by kernel_rfl) (by kernel_rfl) (fun _ _ _ h => h) (.inl ⟨by rfl, fun _ _ => by rfl⟩) (hHeld) ?_
  simp only [Act.put, List.setIfInBounds_toArray, List.set_cons_zero, List.set_cons_succ]
  refine held_takeD 4 (.agg (bv a).toArray) (some 41) (by rfl) (by rfl) (by kernel_rfl) (by kernel_rfl) (by kernel_rfl) (fun _ _ _ h => h) (yieldsIf_load_mid (by rfl) _ _ rfl _ _ rfl _ _ (fun wz hS => (unhide HR wz hS).1) hu rfl sza) (hHeld) ?_
  simp only [Act.put, List.setIfInBounds_toArray, List.set_cons_zero, List.set_cons_succ]
  refine held_takeD 5 (.agg (bv b).toArray) (some 42) (by rfl) (by rfl) (by kernel_rfl) (by kernel_rfl) (by kernel_rfl) (fun _ _ _ h => h) (yieldsIf_load_mid (by rfl) _ _ rfl _ _ rfl _ _ (fun wz hS => (unhide HR wz hS).2.1) hu rfl szb) (hHeld) ?_
  simp only [Act.put, List.setIfInBounds_toArray, List.set_cons_zero, List.set_cons_succ]
  refine held_takeD 6 (.agg (bv c).toArray) (some 43) (by rfl) (by rfl) (by kernel_rfl) (by kernel_rfl) (by kernel_rfl) (fun _ _ _ h => h) (yieldsIf_load_mid (by rfl) _ _ rfl _ _ rfl _ _ (fun wz hS => (unhide HR wz hS).2.2) hu rfl szc) (hHeld) ?_
  simp only [Act.put, List.setIfInBounds_toArray, List.set_cons_zero, List.set_cons_succ]
  refine held_one 7 (by kernel_rfl) (by rfl) (fun K' hK' => ?_)
  go_simp
  refine (aluProgram_any o (Nat.le_of_lt_succ (unhide HLT)) a b c ha hb hc w4.drew).mono ?_
  rintro e w5 ⟨A5, k5, c5, rfl, s5, b5⟩
  refine hK'.out _ _ (e4d.trans (b5.mono e4d.size)) ?_
  clear hK' K'
  have e5 := e4d.trans (b5.mono e4d.size)
  have hk5 := s5.len_eq
  obtain ⟨bb, off, rfl, -⟩ := s5.at_ (by omega)
  have S5 := hide s5
  clear s5
  refine held_one 8 (by kernel_rfl) (by rfl) (fun K' hK' => ?_)
  refine if_build_lit (some 45) rfl (by rfl) 24 1 [(0, .tmp 44)] rfl 30 [Value.slice (some ⟨bb, off, none⟩) k5 c5] (run_codes _ _ _ _) (fun w6 r6 b6 s6 => ?_)
  have e6 := e5.trans (b6.mono e5.size)
  refine hK'.out _ _ e6 ?_
  clear hK' K'
  simp only [Act.put, List.setIfInBounds_toArray, List.set_cons_zero, List.set_cons_succ]
  have x6 : w6.cell? ⟨w5.heap.size, 0, none⟩ = some (.slice (some ⟨bb, off, none⟩) k5 c5) := by rw [r6.cell]; rfl
  refine held_one 9 (by kernel_rfl) (by rfl) (fun K' hK' => ?_)
  go_simp
  refine (stage_one w5.heap.size ⟨bb, off, none⟩ k5 c5 (aluProg o a b c) w6 x6 ((unhide S5).kept b6) (by omega)).mono ?_
  rintro e w7 ⟨A7, c7, rfl, h7, b7⟩
  refine hK'.out _ _ (e6.trans (b7.mono e6.size)) ?_
  clear hK' K'
  have e7 := e6.trans (b7.mono e6.size)
  have H7 := hide h7
  clear h7 x6 r6
  refine held_one 10 (by kernel_rfl) (by rfl) (fun K' hK' => ?_)
  go_simp
  refine (toA1_any w7).mono ?_
  rintro e w8 ⟨rfl, b8⟩
  refine hK'.out _ _ (e7.trans (b8.mono e7.size)) ?_
  clear hK' K'
  have e8 := e7.trans (b8.mono e7.size)
  refine held_one 11 (by kernel_rfl) (by rfl) (fun K' hK' => ?_)
  go_simp
  refine (applied_stage o a b c (unhide HAL) ha hb hc A7 c7 w8 ((unhide H7).kept b8)).mono ?_
  rintro e w9 ⟨A9, k9, c9, m9, rfl, hm9, s9, b9⟩
  refine hK'.out _ _ (e8.trans (b9.mono e8.size)) ?_
  clear hK' K'
  have e9 := e8.trans (b9.mono e8.size)
  have b49 : Below w4.heap.size w4 w9 := d4.trans ((b5.trans ((b6.trans ((b7.trans ((b8.trans (b9.mono b8.size)).mono b7.size)).mono b6.size)).mono b5.size)).mono d4.size)
  refine held_one 12 (by kernel_rfl) (by rfl) (fun K' hK' => ?_)
  go_simp
  refine (specAluHolds_any o (unhide HAL) b hb _ hv A4 k4 c4 A9 k9 c9 m9 hm9 w9 ((unhide NN4).kept b49) s9).mono ?_
  rintro e w10 ⟨rfl, b10⟩
  refine hK'.out _ _ (e9.trans (b10.mono e9.size)) ?_
  clear hK' K'
  have e10 := e9.trans (b10.mono e9.size)
  refine held_takeD 13 (.bool true) (some 8) (by rfl) (by rfl) (by kernel_rfl) (by kernel_rfl) (by kernel_rfl) (fun _ _ _ h => h) (.inl ⟨by rfl, fun _ _ => by rfl⟩) (e10) ?_
  simp only [Act.put, List.setIfInBounds_toArray, List.set_cons_zero, List.set_cons_succ]
  refine wpAnyH_done (by kernel_rfl) ?_ _
  refine NoPanic.normal ?_
  clear s9
  go_wp2
  go_ret
  exact ⟨rfl, hb0.trans (e10.mono hb0.size)⟩


theorem specAlu_any (o : Nat) (ho : o ≤ 255) (a b c : List Int) (ha : IsW a) (hb : IsW b) (hc : IsW c) (w : World) :
    Calls Sakg.prog 4 #[.int .u8 o, .agg (bv a).toArray, .agg (bv b).toArray, .agg (bv c).toArray] w fun e w' => e = .returned (.bool true) ∧ Below w.heap.size w w' := by
  have h : o = 0 ∨ (1 ≤ o ∧ o ≤ 11) ∨ (12 ≤ o ∧ o ≤ 15) ∨ (16 ≤ o ∧ o ≤ 29) ∨ (30 ≤ o ∧ o ≤ 255) := by omega
  rcases h with h | h | h | h | h
  · exact sa_0 o h a b c ha hb hc w
  · exact sa_1 o h a b c ha hb hc w
  · exact sa_12 o h a b c ha hb hc w
  · exact sa_16 o h a b c ha hb hc w
  · exact sa_30 o h a b c ha hb hc w

end Go.Proofs.YgcsakGreat
