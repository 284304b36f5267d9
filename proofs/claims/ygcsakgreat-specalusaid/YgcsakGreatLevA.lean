/-
  yp: leave at the outer frame.
-/
import Derived.Test.YgcsakGreatSteA
import Derived.Test.YgcsakGreatEntA
namespace Go.Proofs.YgcsakGreat
set_option linter.unusedVariables false
set_option linter.unusedSimpArgs false
set_option maxRecDepth 100000
open Go.RowKit

/-- three may come up -/
theorem held_three {P : Program} {ops : Array Oper} {Q : Exit → Act → World → Prop} {md : Region.Mode} {S : World → Prop} (i j k : Nat) {o1 o2 o3 : Oper} {fuel : Nat} {listed : Array Bool} {a : Act} {w : World} (hr : Region.ready md ops listed = [i, j, k]) (ho1 : ops[i]? = some o1) (ho2 : ops[j]? = some o2) (ho3 : ops[k]? = some o3)
    (h1 : ∀ K' : Act → World → Prop, Shut (∀ a w, S w → wpAnyH P md ops Q S fuel (listed.setIfInBounds i true) a w → K' a w) → if Region.wanted o1 (yielded ops a.tmps) = true then Oper.wp P o1 a w K' Q else K' (a.put o1.dst undef) w)
    (h2 : ∀ K' : Act → World → Prop, Shut (∀ a w, S w → wpAnyH P md ops Q S fuel (listed.setIfInBounds j true) a w → K' a w) → if Region.wanted o2 (yielded ops a.tmps) = true then Oper.wp P o2 a w K' Q else K' (a.put o2.dst undef) w)
    (h3 : ∀ K' : Act → World → Prop, Shut (∀ a w, S w → wpAnyH P md ops Q S fuel (listed.setIfInBounds k true) a w → K' a w) → if Region.wanted o3 (yielded ops a.tmps) = true then Oper.wp P o3 a w K' Q else K' (a.put o3.dst undef) w) : wpAnyH P md ops Q S (fuel + 1) listed a w := by
  refine wpAnyH_all hr (by simp) fun n hn => ?_
  rcases List.mem_cons.1 hn with rfl | hn
  · exact wpOp_step ho1 fun K' hK => h1 K' fun a w hS hW => hK a w ⟨hS, hW⟩
  rcases List.mem_cons.1 hn with rfl | hn
  · exact wpOp_step ho2 fun K' hK => h2 K' fun a w hS hW => hK a w ⟨hS, hW⟩
  · obtain rfl : n = k := by simpa using hn
    exact wpOp_step ho3 fun K' hK => h3 K' fun a w hS hW => hK a w ⟨hS, hW⟩

def LeavePost (bw : Nat) (cs fr : List Value) (A : Option Addr) (l c : Nat) (w w' : World) : Prop :=
  ∃ cs' A4 k4 c4, RowT 107 w' bw cs' ∧ cs'.length = 179 ∧ (∀ i, i ≠ 9 → i ≠ 10 → i ≠ 11 → i ≠ 12 → i ≠ 16 → cs'[i]? = cs[i]?) ∧ cs'[9]? = some nilS ∧ cs'[10]? = some (.slice A l c) ∧ cs'[11]? = some (.int .u8 2) ∧ cs'[12]? = some (.int .u8 0) ∧
    fr[4]? = some (.slice A4 k4 c4) ∧ cs'[16]? = some (.slice A4 k4 c4) ∧ Chg bw w w'

set_option maxHeartbeats 16000000 in
theorem leave_outer {bw gf cF : Nat} {cs fr : List Value} {pc gas : Nat} {stk : List Nat} {mem code : List Int} {w : World} (h : Play bw gf cF cs fr pc gas stk mem code w) (A : Option Addr) (l c : Nat) :
    Calls Sakg.prog 114 #[.pointer (some ⟨bw, 0, none⟩), .int .u8 0, .slice A l c] w fun e w' => e = .returned (.tuple #[]) ∧ LeavePost bw cs fr A l c w w' := by
  have hbw : bw < w.heap.size := h.chain.lt
  have hgl := h.fm.row.lt
  have hfl := h.fm.len
  obtain ⟨A4, k4, c4, g1, g2⟩ := h.fm.gasN
  obtain ⟨f1, hf1⟩ : ∃ f1, f1 = fr.take 60 := ⟨_, rfl⟩
  have hf1l : f1.length = 60 := by rw [hf1, List.length_take]; omega
  have hf1g : ∀ i, i < 60 → f1[i]? = fr[i]? := fun i hi => by rw [hf1, List.getElem?_take, if_pos hi]
  have hf1o : ∀ v ∈ f1, v.oneCell' = true := fun v hv => by
    obtain ⟨i, hi⟩ := List.mem_iff_getElem?.1 hv
    have hil : i < 60 := by
      rcases Nat.lt_or_ge i 60 with h' | h'
      · exact h'
      · rw [List.getElem?_eq_none (by omega)] at hi; cases hi
    exact h.one i v hil (by rw [← hf1g i hil]; exact hi)
  have hS9 : ∀ wz, Below w.heap.size w wz → wz.cell? ⟨bw, 9, none⟩ = some (.slice (some ⟨gf, 0, none⟩) 1 cF) := fun wz hz => by rw [(h.chain.kept hz).cell]; exact h.frames
  have hSr : ∀ wz, Below w.heap.size w wz → wz.rangeAt gf 0 f1 := fun wz hz => by
    have := (h.fm.row.kept hz).range 0 60
    rwa [List.drop_zero, ← hf1] at this
  have d0 : Below w.heap.size w w.drew := Quiet.below ⟨1, rfl⟩ _
  have huF := Sakg.underlying194
  have hsF : (Sakg.prog.info? 194).map (·.size) = some f1.length := by rw [hf1l]; exact sizeFrame
  have HCR : ∀ wz, Hid (Calls Sakg.prog 197 #[.int .u8 0] wz fun e w' => e = .returned (.bool false) ∧ wz = w') := fun wz => hide (creates_any 0 wz (by omega))
  have hwr : IntKind.i64.wrap 0 = 0 := rfl
  have HS9 := hide hS9
  have HSR := hide hSr
  have HF1G := hide hf1g
  have HP := hide h
  have G1 := hide g1
  clear hf1 hf1g hS9 hSr h g1 g2
  go_enter Sakg.func114, Sakg.ntmps114
  go_upto_region 0 with fail
  refine wp_region_noPanic ?_
  refine wp_region_held_drew (S := fun w' => Below w.heap.size w w') (by kernel_rfl) (d0) (fun hHeld => ?_)
  refine held_takeD 0 (.pointer (some ⟨bw, 0, none⟩)) (some 13) (by rfl) (by rfl) (by kernel_rfl) (by kernel_rfl) (by kernel_rfl) (fun _ _ _ h => h) (.inl ⟨by rfl, fun _ _ => by rfl⟩) (hHeld) ?_
  simp only [Act.put, List.setIfInBounds_toArray, List.set_cons_zero, List.set_cons_succ]
  refine held_takeD 1 (.pointer (some ⟨bw, 0, none⟩)) (some 14) (by rfl) (by rfl) (by kernel_rfl) (by kernel_rfl) (by kernel_rfl) (fun _ _ _ h => h) (.inl ⟨by rfl, fun _ _ => by go_simp⟩) (hHeld) ?_
  simp only [Act.put, List.setIfInBounds_toArray, List.set_cons_zero, List.set_cons_succ]
  refine held_takeD 2 (.pointer (some ⟨bw, 9, none⟩)) (some 15) (by rfl) (by rfl) (by kernel_rfl) (by kernel_rfl) (by kernel_rfl) (fun _ _ _ h => h) (.inl ⟨by rfl, fun _ _ => by go_simp⟩) (hHeld) ?_
  simp only [Act.put, List.setIfInBounds_toArray, List.set_cons_zero, List.set_cons_succ]
  refine held_takeD 3 (.slice (some ⟨gf, 0, none⟩) 1 cF) (some 16) (by rfl) (by rfl) (by kernel_rfl) (by kernel_rfl) (by kernel_rfl) (fun _ _ _ h => h) (.inl ⟨by rfl, fun wS hS => by have hc := unhide HS9 wS hS; go_simp⟩) (hHeld) ?_
  simp only [Act.put, List.setIfInBounds_toArray, List.set_cons_zero, List.set_cons_succ]
  refine held_takeD 4 (.pointer (some ⟨bw, 0, none⟩)) (some 17) (by rfl) (by rfl) (by kernel_rfl) (by kernel_rfl) (by kernel_rfl) (fun _ _ _ h => h) (.inl ⟨by rfl, fun _ _ => by rfl⟩) (hHeld) ?_
  simp only [Act.put, List.setIfInBounds_toArray, List.set_cons_zero, List.set_cons_succ]
  refine held_takeD 5 (.pointer (some ⟨bw, 0, none⟩)) (some 18) (by rfl) (by rfl) (by kernel_rfl) (by kernel_rfl) (by kernel_rfl) (fun _ _ _ h => h) (.inl ⟨by rfl, fun _ _ => by go_simp⟩) (hHeld) ?_
  simp only [Act.put, List.setIfInBounds_toArray, List.set_cons_zero, List.set_cons_succ]
  refine held_takeD 6 (.pointer (some ⟨bw, 9, none⟩)) (some 19) (by rfl) (by rfl) (by kernel_rfl) (by kernel_rfl) (by kernel_rfl) (fun _ _ _ h => h) (.inl ⟨by rfl, fun _ _ => by go_simp⟩) (hHeld) ?_
  simp only [Act.put, List.setIfInBounds_toArray, List.set_cons_zero, List.set_cons_succ]
  refine held_takeD 7 (.slice (some ⟨gf, 0, none⟩) 1 cF) (some 20) (by rfl) (by rfl) (by kernel_rfl) (by kernel_rfl) (by kernel_rfl) (fun _ _ _ h => h) (.inl ⟨by rfl, fun wS hS => by have hc := unhide HS9 wS hS; go_simp⟩) (hHeld) ?_
  simp only [Act.put, List.setIfInBounds_toArray, List.set_cons_zero, List.set_cons_succ]
  refine held_takeD 8 (.int .i64 1) (some 21) (by rfl) (by rfl) (by kernel_rfl) (by kernel_rfl) (by kernel_rfl) (fun _ _ _ h => h) (.inl ⟨by rfl, fun _ _ => by go_simp⟩) (hHeld) ?_
  simp only [Act.put, List.setIfInBounds_toArray, List.set_cons_zero, List.set_cons_succ]
  refine held_takeD 9 (.int .i64 0) (some 22) (by rfl) (by rfl) (by kernel_rfl) (by kernel_rfl) (by kernel_rfl) (fun _ _ _ h => h) (.inl ⟨by rfl, fun _ _ => by go_simp⟩) (hHeld) ?_
  simp only [Act.put, List.setIfInBounds_toArray, List.set_cons_zero, List.set_cons_succ]
  refine held_takeD 10 (.pointer (some ⟨gf, 0, none⟩)) (some 23) (by rfl) (by rfl) (by kernel_rfl) (by kernel_rfl) (by kernel_rfl) (fun _ _ _ h => h) (.inl ⟨by rfl, fun _ _ => by go_simp⟩) (hHeld) ?_
  simp only [Act.put, List.setIfInBounds_toArray, List.set_cons_zero, List.set_cons_succ]
  refine held_takeD 11 (.agg f1.toArray) (some 24) (by rfl) (by rfl) (by kernel_rfl) (by kernel_rfl) (by kernel_rfl) (fun _ _ _ h => h) (yieldsIf_load_mid (by rfl) _ _ rfl _ _ rfl _ _ (fun wz hS => unhide HSR wz hS) huF rfl hsF) (hHeld) ?_
  simp only [Act.put, List.setIfInBounds_toArray, List.set_cons_zero, List.set_cons_succ]
  refine held_one 12 (by kernel_rfl) (by rfl) (fun K' hK' => ?_)
  refine if_alloc (some 6) rfl 194 rfl (by rfl) zeroF 60 infoFrame2 zeroF_len (fun wA rA bA sA => ?_)
  have dA := d0.trans (bA.mono d0.size)
  refine hK'.out _ _ (dA) ?_
  clear hK' K'
  simp only [Act.put, List.setIfInBounds_toArray, List.set_cons_zero, List.set_cons_succ]
  refine held_one 13 (by kernel_rfl) (by rfl) (fun K' hK' => ?_)
  refine if_store rfl (by rfl) 194 (.tmp 6) (.tmp 24) rfl w.heap.size 0 194 _ f1 rfl rfl rA (by rw [hf1l, zeroF_len]; omega) hsF hf1o (fun wS rS oS => ?_)
  have dS : Below w.heap.size w wS := dA.trans (oS.below _ (Nat.le_refl _))
  refine hK'.out _ _ (dS) ?_
  clear hK' K'
  refine wpAnyH_done (by kernel_rfl) ?_ _
  refine NoPanic.normal ?_
  rw [spl_all _ _ (by rw [hf1l, zeroF_len])] at rS
  have e4 : wS.cell? ⟨w.heap.size, 4, none⟩ = some (.slice A4 k4 c4) := by rw [rS.cell, unhide HF1G 4 (by omega)]; exact unhide G1
  have e0 : wS.cell? ⟨w.heap.size, 0, none⟩ = some (.int .u8 0) := by rw [rS.cell, unhide HF1G 0 (by omega)]; exact (unhide HP).kind
  have r0 := (unhide HP).chain.kept dS
  have hl := (unhide HP).clen
  obtain ⟨v10, hx10⟩ : ∃ v, wS.cell? ⟨bw, 10, none⟩ = some v := by rw [r0.cell, List.getElem?_eq_getElem (by omega)]; exact ⟨_, rfl⟩
  have hz10 := r0.froz 10
  have R0 := hide r0
  clear r0 rS HS9 HSR
  go_upto_region 17 with (go_at_call 197; refine (unhide (HCR _)).mono ?_; rintro e w4 ⟨rfl, rfl⟩)
  obtain ⟨w5, hw5⟩ : ∃ x, x = wS.setCell ⟨bw, 10, none⟩ (.slice A l c) := ⟨_, rfl⟩
  rw [← hw5]
  have r5 := hw5 ▸ (unhide R0).set 10 (.slice A l c)
  have c5 : Chg bw w w5 := (Chg.of dS).trans (hw5 ▸ Chg.ofOnly ((Only.refl bw wS).setCell 10 (.slice A l c)))
  have h59 : (cs.set 10 (Value.slice A l c))[9]? = some (.slice (some ⟨gf, 0, none⟩) 1 cF) := by rw [List.getElem?_set_ne (by omega)]; exact (unhide HP).frames
  have h510 : (cs.set 10 (Value.slice A l c))[10]? = some (.slice A l c) := List.getElem?_set_self (by omega)
  have h5 : ∀ i, i ≠ 10 → (cs.set 10 (Value.slice A l c))[i]? = cs[i]? := fun i hi => List.getElem?_set_ne (Ne.symm hi)
  have hl5 : (cs.set 10 (Value.slice A l c)).length = 179 := by rw [List.length_set]; exact hl
  generalize cs.set 10 (Value.slice A l c) = cs5 at r5 h59 h510 h5 hl5
  have d5 : Below w5.heap.size w5 w5.drew := Quiet.below ⟨1, rfl⟩ _
  have R5 := hide r5
  have H59 := hide h59
  have H510 := hide h510
  have H5 := hide h5
  clear hw5 hx10 hz10 R0 r5 h59 h510 h5 e4 e0
  go_cut [7] (fun s7 wc => s7 = .slice A4 k4 c4 ∧ ∃ v, RowT 107 wc bw (cs5.set 9 (.slice v 0 0)) ∧ Chg bw w5 wc)
  case first =>
    refine wp_region_noPanic ?_
    refine wp_region_held_drew (S := fun w' => Chg bw w5 w') (by kernel_rfl) (Chg.of d5) (fun hHeld => ?_)
    refine held_takeD 0 (.pointer (some ⟨bw, 0, none⟩)) (some 71) (by rfl) (by rfl) (by kernel_rfl) (by kernel_rfl) (by kernel_rfl) (fun _ _ _ h => h) (.inl ⟨by rfl, fun _ _ => by rfl⟩) (hHeld) ?_
    simp only [Act.put, List.setIfInBounds_toArray, List.set_cons_zero, List.set_cons_succ]
    refine held_takeD 1 (.pointer (some ⟨bw, 0, none⟩)) (some 72) (by rfl) (by rfl) (by kernel_rfl) (by kernel_rfl) (by kernel_rfl) (fun _ _ _ h => h) (.inl ⟨by rfl, fun _ _ => by rfl⟩) (hHeld) ?_
    simp only [Act.put, List.setIfInBounds_toArray, List.set_cons_zero, List.set_cons_succ]
    refine held_takeD 2 (.pointer (some ⟨bw, 0, none⟩)) (some 73) (by rfl) (by rfl) (by kernel_rfl) (by kernel_rfl) (by kernel_rfl) (fun _ _ _ h => h) (.inl ⟨by rfl, fun _ _ => by go_simp⟩) (hHeld) ?_
    simp only [Act.put, List.setIfInBounds_toArray, List.set_cons_zero, List.set_cons_succ]
    refine held_takeD 3 (.pointer (some ⟨bw, 9, none⟩)) (some 74) (by rfl) (by rfl) (by kernel_rfl) (by kernel_rfl) (by kernel_rfl) (fun _ _ _ h => h) (.inl ⟨by rfl, fun _ _ => by go_simp⟩) (hHeld) ?_
    simp only [Act.put, List.setIfInBounds_toArray, List.set_cons_zero, List.set_cons_succ]
    refine held_takeD 5 (.pointer (some ⟨bw, 0, none⟩)) (some 76) (by rfl) (by rfl) (by kernel_rfl) (by kernel_rfl) (by kernel_rfl) (fun _ _ _ h => h) (.inl ⟨by rfl, fun _ _ => by rfl⟩) (hHeld) ?_
    simp only [Act.put, List.setIfInBounds_toArray, List.set_cons_zero, List.set_cons_succ]
    refine held_takeD 6 (.pointer (some ⟨bw, 0, none⟩)) (some 77) (by rfl) (by rfl) (by kernel_rfl) (by kernel_rfl) (by kernel_rfl) (fun _ _ _ h => h) (.inl ⟨by rfl, fun _ _ => by go_simp⟩) (hHeld) ?_
    simp only [Act.put, List.setIfInBounds_toArray, List.set_cons_zero, List.set_cons_succ]
    refine held_takeD 7 (.pointer (some ⟨bw, 9, none⟩)) (some 78) (by rfl) (by rfl) (by kernel_rfl) (by kernel_rfl) (by kernel_rfl) (fun _ _ _ h => h) (.inl ⟨by rfl, fun _ _ => by go_simp⟩) (hHeld) ?_
    simp only [Act.put, List.setIfInBounds_toArray, List.set_cons_zero, List.set_cons_succ]
    refine held_takeD 11 (.pointer (some ⟨bw, 0, none⟩)) (some 82) (by rfl) (by rfl) (by kernel_rfl) (by kernel_rfl) (by kernel_rfl) (fun _ _ _ h => h) (.inl ⟨by rfl, fun _ _ => by rfl⟩) (hHeld) ?_
    simp only [Act.put, List.setIfInBounds_toArray, List.set_cons_zero, List.set_cons_succ]
    refine held_takeD 12 (.pointer (some ⟨bw, 0, none⟩)) (some 83) (by rfl) (by rfl) (by kernel_rfl) (by kernel_rfl) (by kernel_rfl) (fun _ _ _ h => h) (.inl ⟨by rfl, fun _ _ => by go_simp⟩) (hHeld) ?_
    simp only [Act.put, List.setIfInBounds_toArray, List.set_cons_zero, List.set_cons_succ]
    refine held_takeD 13 (.pointer (some ⟨bw, 9, none⟩)) (some 84) (by rfl) (by rfl) (by kernel_rfl) (by kernel_rfl) (by kernel_rfl) (fun _ _ _ h => h) (.inl ⟨by rfl, fun _ _ => by go_simp⟩) (hHeld) ?_
    simp only [Act.put, List.setIfInBounds_toArray, List.set_cons_zero, List.set_cons_succ]
    have hcu : w5.drew.cell? ⟨bw, 9, none⟩ = some (.slice (some ⟨gf, 0, none⟩) 1 cF) := by rw [((unhide R5).kept d5).cell]; exact unhide H59
    have hfx := ((unhide R5).kept d5).froz 9
    refine held_three 4 8 14 (by kernel_rfl) (by rfl) (by rfl) (by rfl) (fun K' hK' => ?_) (fun K' hK' => ?_) (fun K' hK' => ?_) 
    · go_simp
      refine hK'.out _ _ (Chg.of d5) ?_
      clear hK' K'
      refine held_two 8 14 (by kernel_rfl) (by rfl) (by rfl) (fun K' hK' => ?_) (fun K' hK' => ?_) 
      · go_simp
        refine hK'.out _ _ (Chg.of d5) ?_
        clear hK' K'
        refine held_takeD 9 (.int .i64 1) (some 80) (by rfl) (by rfl) (by kernel_rfl) (by kernel_rfl) (by kernel_rfl) (fun _ _ _ h => h) (.inl ⟨by rfl, fun _ _ => by go_simp⟩) (Chg.of d5) ?_
        simp only [Act.put, List.setIfInBounds_toArray, List.set_cons_zero, List.set_cons_succ]
        refine held_takeD 10 (.int .i64 0) (some 81) (by rfl) (by rfl) (by kernel_rfl) (by kernel_rfl) (by kernel_rfl) (fun _ _ _ h => h) (.inl ⟨by rfl, fun _ _ => by go_simp⟩) (Chg.of d5) ?_
        simp only [Act.put, List.setIfInBounds_toArray, List.set_cons_zero, List.set_cons_succ]
        refine held_one 14 (by kernel_rfl) (by rfl) (fun K' hK' => ?_) 
        go_simp
        refine hK'.out _ _ (Chg.of d5) ?_
        clear hK' K'
        refine held_takeD 15 (.int .i64 1) (some 86) (by rfl) (by rfl) (by kernel_rfl) (by kernel_rfl) (by kernel_rfl) (fun _ _ _ h => h) (.inl ⟨by rfl, fun _ _ => by go_simp⟩) (Chg.of d5) ?_
        simp only [Act.put, List.setIfInBounds_toArray, List.set_cons_zero, List.set_cons_succ]
        refine held_takeD 16 (.int .i64 0) (some 87) (by rfl) (by rfl) (by kernel_rfl) (by kernel_rfl) (by kernel_rfl) (fun _ _ _ h => h) (.inl ⟨by rfl, fun _ _ => by go_simp⟩) (Chg.of d5) ?_
        simp only [Act.put, List.setIfInBounds_toArray, List.set_cons_zero, List.set_cons_succ]
        refine held_takeD 17 (.slice (some ⟨gf, 0, none⟩) 0 0) (some 88) (by rfl) (by rfl) (by kernel_rfl) (by kernel_rfl) (by kernel_rfl) (fun _ _ _ h => h) (.inl ⟨by rfl, fun _ _ => by go_simp⟩) (Chg.of d5) ?_
        simp only [Act.put, List.setIfInBounds_toArray, List.set_cons_zero, List.set_cons_succ]
        refine held_takeD 18 (.pointer (some ⟨bw, 0, none⟩)) (some 89) (by rfl) (by rfl) (by kernel_rfl) (by kernel_rfl) (by kernel_rfl) (fun _ _ _ h => h) (.inl ⟨by rfl, fun _ _ => by go_simp⟩) (Chg.of d5) ?_
        simp only [Act.put, List.setIfInBounds_toArray, List.set_cons_zero, List.set_cons_succ]
        refine held_takeD 19 (.pointer (some ⟨bw, 9, none⟩)) (some 90) (by rfl) (by rfl) (by kernel_rfl) (by kernel_rfl) (by kernel_rfl) (fun _ _ _ h => h) (.inl ⟨by rfl, fun _ _ => by go_simp⟩) (Chg.of d5) ?_
        simp only [Act.put, List.setIfInBounds_toArray, List.set_cons_zero, List.set_cons_succ]
        refine held_one 20 (by kernel_rfl) (by rfl) (fun K' hK' => ?_)
        go_simp
        obtain ⟨w6, hw6⟩ : ∃ x, x = (w5.setCell ⟨bw, 9, none⟩ (Value.slice (some ⟨gf, 0, none⟩) 0 0)).drew := ⟨_, rfl⟩
        rw [← hw6]
        have r6 : RowT 107 w6 bw (cs5.set 9 (Value.slice (some ⟨gf, 0, none⟩) 0 0)) := hw6 ▸ ((unhide R5).set 9 (Value.slice (some ⟨gf, 0, none⟩) 0 0)).kept (Quiet.below ⟨1, rfl⟩ _)
        have c6 : Chg bw w5 w6 := hw6 ▸ (Chg.ofOnly ((Only.refl bw w5).setCell 9 (Value.slice (some ⟨gf, 0, none⟩) 0 0))).trans (Chg.of (Quiet.below ⟨1, rfl⟩ _))
        clear hw6
        refine hK'.out _ _ c6 ?_
        clear hK' K'
        refine wpAnyH_done (by kernel_rfl) ?_ _
        refine NoPanic.normal ?_
        go_wp2_with fail
        go_meet
        case rel => exact ⟨rfl, _, r6, c6⟩
      · go_simp
        refine hK'.out _ _ (Chg.of d5) ?_
        clear hK' K'
        refine held_takeD 15 (.int .i64 1) (some 86) (by rfl) (by rfl) (by kernel_rfl) (by kernel_rfl) (by kernel_rfl) (fun _ _ _ h => h) (.inl ⟨by rfl, fun _ _ => by go_simp⟩) (Chg.of d5) ?_
        simp only [Act.put, List.setIfInBounds_toArray, List.set_cons_zero, List.set_cons_succ]
        refine held_takeD 16 (.int .i64 0) (some 87) (by rfl) (by rfl) (by kernel_rfl) (by kernel_rfl) (by kernel_rfl) (fun _ _ _ h => h) (.inl ⟨by rfl, fun _ _ => by go_simp⟩) (Chg.of d5) ?_
        simp only [Act.put, List.setIfInBounds_toArray, List.set_cons_zero, List.set_cons_succ]
        refine held_one 8 (by kernel_rfl) (by rfl) (fun K' hK' => ?_) 
        go_simp
        refine hK'.out _ _ (Chg.of d5) ?_
        clear hK' K'
        refine held_takeD 9 (.int .i64 1) (some 80) (by rfl) (by rfl) (by kernel_rfl) (by kernel_rfl) (by kernel_rfl) (fun _ _ _ h => h) (.inl ⟨by rfl, fun _ _ => by go_simp⟩) (Chg.of d5) ?_
        simp only [Act.put, List.setIfInBounds_toArray, List.set_cons_zero, List.set_cons_succ]
        refine held_takeD 10 (.int .i64 0) (some 81) (by rfl) (by rfl) (by kernel_rfl) (by kernel_rfl) (by kernel_rfl) (fun _ _ _ h => h) (.inl ⟨by rfl, fun _ _ => by go_simp⟩) (Chg.of d5) ?_
        simp only [Act.put, List.setIfInBounds_toArray, List.set_cons_zero, List.set_cons_succ]
        refine held_takeD 17 (.slice (some ⟨gf, 0, none⟩) 0 0) (some 88) (by rfl) (by rfl) (by kernel_rfl) (by kernel_rfl) (by kernel_rfl) (fun _ _ _ h => h) (.inl ⟨by rfl, fun _ _ => by go_simp⟩) (Chg.of d5) ?_
        simp only [Act.put, List.setIfInBounds_toArray, List.set_cons_zero, List.set_cons_succ]
        refine held_takeD 18 (.pointer (some ⟨bw, 0, none⟩)) (some 89) (by rfl) (by rfl) (by kernel_rfl) (by kernel_rfl) (by kernel_rfl) (fun _ _ _ h => h) (.inl ⟨by rfl, fun _ _ => by go_simp⟩) (Chg.of d5) ?_
        simp only [Act.put, List.setIfInBounds_toArray, List.set_cons_zero, List.set_cons_succ]
        refine held_takeD 19 (.pointer (some ⟨bw, 9, none⟩)) (some 90) (by rfl) (by rfl) (by kernel_rfl) (by kernel_rfl) (by kernel_rfl) (fun _ _ _ h => h) (.inl ⟨by rfl, fun _ _ => by go_simp⟩) (Chg.of d5) ?_
        simp only [Act.put, List.setIfInBounds_toArray, List.set_cons_zero, List.set_cons_succ]
        refine held_one 20 (by kernel_rfl) (by rfl) (fun K' hK' => ?_)
        go_simp
        obtain ⟨w6, hw6⟩ : ∃ x, x = (w5.setCell ⟨bw, 9, none⟩ (Value.slice (some ⟨gf, 0, none⟩) 0 0)).drew := ⟨_, rfl⟩
        rw [← hw6]
        have r6 : RowT 107 w6 bw (cs5.set 9 (Value.slice (some ⟨gf, 0, none⟩) 0 0)) := hw6 ▸ ((unhide R5).set 9 (Value.slice (some ⟨gf, 0, none⟩) 0 0)).kept (Quiet.below ⟨1, rfl⟩ _)
        have c6 : Chg bw w5 w6 := hw6 ▸ (Chg.ofOnly ((Only.refl bw w5).setCell 9 (Value.slice (some ⟨gf, 0, none⟩) 0 0))).trans (Chg.of (Quiet.below ⟨1, rfl⟩ _))
        clear hw6
        refine hK'.out _ _ c6 ?_
        clear hK' K'
        refine wpAnyH_done (by kernel_rfl) ?_ _
        refine NoPanic.normal ?_
        go_wp2_with fail
        go_meet
        case rel => exact ⟨rfl, _, r6, c6⟩
    · go_simp
      refine hK'.out _ _ (Chg.of d5) ?_
      clear hK' K'
      refine held_takeD 9 (.int .i64 1) (some 80) (by rfl) (by rfl) (by kernel_rfl) (by kernel_rfl) (by kernel_rfl) (fun _ _ _ h => h) (.inl ⟨by rfl, fun _ _ => by go_simp⟩) (Chg.of d5) ?_
      simp only [Act.put, List.setIfInBounds_toArray, List.set_cons_zero, List.set_cons_succ]
      refine held_takeD 10 (.int .i64 0) (some 81) (by rfl) (by rfl) (by kernel_rfl) (by kernel_rfl) (by kernel_rfl) (fun _ _ _ h => h) (.inl ⟨by rfl, fun _ _ => by go_simp⟩) (Chg.of d5) ?_
      simp only [Act.put, List.setIfInBounds_toArray, List.set_cons_zero, List.set_cons_succ]
      refine held_two 4 14 (by kernel_rfl) (by rfl) (by rfl) (fun K' hK' => ?_) (fun K' hK' => ?_) 
      · go_simp
        refine hK'.out _ _ (Chg.of d5) ?_
        clear hK' K'
        refine held_one 14 (by kernel_rfl) (by rfl) (fun K' hK' => ?_) 
        go_simp
        refine hK'.out _ _ (Chg.of d5) ?_
        clear hK' K'
        refine held_takeD 15 (.int .i64 1) (some 86) (by rfl) (by rfl) (by kernel_rfl) (by kernel_rfl) (by kernel_rfl) (fun _ _ _ h => h) (.inl ⟨by rfl, fun _ _ => by go_simp⟩) (Chg.of d5) ?_
        simp only [Act.put, List.setIfInBounds_toArray, List.set_cons_zero, List.set_cons_succ]
        refine held_takeD 16 (.int .i64 0) (some 87) (by rfl) (by rfl) (by kernel_rfl) (by kernel_rfl) (by kernel_rfl) (fun _ _ _ h => h) (.inl ⟨by rfl, fun _ _ => by go_simp⟩) (Chg.of d5) ?_
        simp only [Act.put, List.setIfInBounds_toArray, List.set_cons_zero, List.set_cons_succ]
        refine held_takeD 17 (.slice (some ⟨gf, 0, none⟩) 0 0) (some 88) (by rfl) (by rfl) (by kernel_rfl) (by kernel_rfl) (by kernel_rfl) (fun _ _ _ h => h) (.inl ⟨by rfl, fun _ _ => by go_simp⟩) (Chg.of d5) ?_
        simp only [Act.put, List.setIfInBounds_toArray, List.set_cons_zero, List.set_cons_succ]
        refine held_takeD 18 (.pointer (some ⟨bw, 0, none⟩)) (some 89) (by rfl) (by rfl) (by kernel_rfl) (by kernel_rfl) (by kernel_rfl) (fun _ _ _ h => h) (.inl ⟨by rfl, fun _ _ => by go_simp⟩) (Chg.of d5) ?_
        simp only [Act.put, List.setIfInBounds_toArray, List.set_cons_zero, List.set_cons_succ]
        refine held_takeD 19 (.pointer (some ⟨bw, 9, none⟩)) (some 90) (by rfl) (by rfl) (by kernel_rfl) (by kernel_rfl) (by kernel_rfl) (fun _ _ _ h => h) (.inl ⟨by rfl, fun _ _ => by go_simp⟩) (Chg.of d5) ?_
        simp only [Act.put, List.setIfInBounds_toArray, List.set_cons_zero, List.set_cons_succ]
        refine held_one 20 (by kernel_rfl) (by rfl) (fun K' hK' => ?_)
        go_simp
        obtain ⟨w6, hw6⟩ : ∃ x, x = (w5.setCell ⟨bw, 9, none⟩ (Value.slice (some ⟨gf, 0, none⟩) 0 0)).drew := ⟨_, rfl⟩
        rw [← hw6]
        have r6 : RowT 107 w6 bw (cs5.set 9 (Value.slice (some ⟨gf, 0, none⟩) 0 0)) := hw6 ▸ ((unhide R5).set 9 (Value.slice (some ⟨gf, 0, none⟩) 0 0)).kept (Quiet.below ⟨1, rfl⟩ _)
        have c6 : Chg bw w5 w6 := hw6 ▸ (Chg.ofOnly ((Only.refl bw w5).setCell 9 (Value.slice (some ⟨gf, 0, none⟩) 0 0))).trans (Chg.of (Quiet.below ⟨1, rfl⟩ _))
        clear hw6
        refine hK'.out _ _ c6 ?_
        clear hK' K'
        refine wpAnyH_done (by kernel_rfl) ?_ _
        refine NoPanic.normal ?_
        go_wp2_with fail
        go_meet
        case rel => exact ⟨rfl, _, r6, c6⟩
      · go_simp
        refine hK'.out _ _ (Chg.of d5) ?_
        clear hK' K'
        refine held_takeD 15 (.int .i64 1) (some 86) (by rfl) (by rfl) (by kernel_rfl) (by kernel_rfl) (by kernel_rfl) (fun _ _ _ h => h) (.inl ⟨by rfl, fun _ _ => by go_simp⟩) (Chg.of d5) ?_
        simp only [Act.put, List.setIfInBounds_toArray, List.set_cons_zero, List.set_cons_succ]
        refine held_takeD 16 (.int .i64 0) (some 87) (by rfl) (by rfl) (by kernel_rfl) (by kernel_rfl) (by kernel_rfl) (fun _ _ _ h => h) (.inl ⟨by rfl, fun _ _ => by go_simp⟩) (Chg.of d5) ?_
        simp only [Act.put, List.setIfInBounds_toArray, List.set_cons_zero, List.set_cons_succ]
        refine held_one 4 (by kernel_rfl) (by rfl) (fun K' hK' => ?_) 
        go_simp
        refine hK'.out _ _ (Chg.of d5) ?_
        clear hK' K'
        refine held_takeD 17 (.slice (some ⟨gf, 0, none⟩) 0 0) (some 88) (by rfl) (by rfl) (by kernel_rfl) (by kernel_rfl) (by kernel_rfl) (fun _ _ _ h => h) (.inl ⟨by rfl, fun _ _ => by go_simp⟩) (Chg.of d5) ?_
        simp only [Act.put, List.setIfInBounds_toArray, List.set_cons_zero, List.set_cons_succ]
        refine held_takeD 18 (.pointer (some ⟨bw, 0, none⟩)) (some 89) (by rfl) (by rfl) (by kernel_rfl) (by kernel_rfl) (by kernel_rfl) (fun _ _ _ h => h) (.inl ⟨by rfl, fun _ _ => by go_simp⟩) (Chg.of d5) ?_
        simp only [Act.put, List.setIfInBounds_toArray, List.set_cons_zero, List.set_cons_succ]
        refine held_takeD 19 (.pointer (some ⟨bw, 9, none⟩)) (some 90) (by rfl) (by rfl) (by kernel_rfl) (by kernel_rfl) (by kernel_rfl) (fun _ _ _ h => h) (.inl ⟨by rfl, fun _ _ => by go_simp⟩) (Chg.of d5) ?_
        simp only [Act.put, List.setIfInBounds_toArray, List.set_cons_zero, List.set_cons_succ]
        refine held_one 20 (by kernel_rfl) (by rfl) (fun K' hK' => ?_)
        go_simp
        obtain ⟨w6, hw6⟩ : ∃ x, x = (w5.setCell ⟨bw, 9, none⟩ (Value.slice (some ⟨gf, 0, none⟩) 0 0)).drew := ⟨_, rfl⟩
        rw [← hw6]
        have r6 : RowT 107 w6 bw (cs5.set 9 (Value.slice (some ⟨gf, 0, none⟩) 0 0)) := hw6 ▸ ((unhide R5).set 9 (Value.slice (some ⟨gf, 0, none⟩) 0 0)).kept (Quiet.below ⟨1, rfl⟩ _)
        have c6 : Chg bw w5 w6 := hw6 ▸ (Chg.ofOnly ((Only.refl bw w5).setCell 9 (Value.slice (some ⟨gf, 0, none⟩) 0 0))).trans (Chg.of (Quiet.below ⟨1, rfl⟩ _))
        clear hw6
        refine hK'.out _ _ c6 ?_
        clear hK' K'
        refine wpAnyH_done (by kernel_rfl) ?_ _
        refine NoPanic.normal ?_
        go_wp2_with fail
        go_meet
        case rel => exact ⟨rfl, _, r6, c6⟩
    · go_simp
      refine hK'.out _ _ (Chg.of d5) ?_
      clear hK' K'
      refine held_takeD 15 (.int .i64 1) (some 86) (by rfl) (by rfl) (by kernel_rfl) (by kernel_rfl) (by kernel_rfl) (fun _ _ _ h => h) (.inl ⟨by rfl, fun _ _ => by go_simp⟩) (Chg.of d5) ?_
      simp only [Act.put, List.setIfInBounds_toArray, List.set_cons_zero, List.set_cons_succ]
      refine held_takeD 16 (.int .i64 0) (some 87) (by rfl) (by rfl) (by kernel_rfl) (by kernel_rfl) (by kernel_rfl) (fun _ _ _ h => h) (.inl ⟨by rfl, fun _ _ => by go_simp⟩) (Chg.of d5) ?_
      simp only [Act.put, List.setIfInBounds_toArray, List.set_cons_zero, List.set_cons_succ]
      refine held_two 4 8 (by kernel_rfl) (by rfl) (by rfl) (fun K' hK' => ?_) (fun K' hK' => ?_) 
      · go_simp
        refine hK'.out _ _ (Chg.of d5) ?_
        clear hK' K'
        refine held_one 8 (by kernel_rfl) (by rfl) (fun K' hK' => ?_) 
        go_simp
        refine hK'.out _ _ (Chg.of d5) ?_
        clear hK' K'
        refine held_takeD 9 (.int .i64 1) (some 80) (by rfl) (by rfl) (by kernel_rfl) (by kernel_rfl) (by kernel_rfl) (fun _ _ _ h => h) (.inl ⟨by rfl, fun _ _ => by go_simp⟩) (Chg.of d5) ?_
        simp only [Act.put, List.setIfInBounds_toArray, List.set_cons_zero, List.set_cons_succ]
        refine held_takeD 10 (.int .i64 0) (some 81) (by rfl) (by rfl) (by kernel_rfl) (by kernel_rfl) (by kernel_rfl) (fun _ _ _ h => h) (.inl ⟨by rfl, fun _ _ => by go_simp⟩) (Chg.of d5) ?_
        simp only [Act.put, List.setIfInBounds_toArray, List.set_cons_zero, List.set_cons_succ]
        refine held_takeD 17 (.slice (some ⟨gf, 0, none⟩) 0 0) (some 88) (by rfl) (by rfl) (by kernel_rfl) (by kernel_rfl) (by kernel_rfl) (fun _ _ _ h => h) (.inl ⟨by rfl, fun _ _ => by go_simp⟩) (Chg.of d5) ?_
        simp only [Act.put, List.setIfInBounds_toArray, List.set_cons_zero, List.set_cons_succ]
        refine held_takeD 18 (.pointer (some ⟨bw, 0, none⟩)) (some 89) (by rfl) (by rfl) (by kernel_rfl) (by kernel_rfl) (by kernel_rfl) (fun _ _ _ h => h) (.inl ⟨by rfl, fun _ _ => by go_simp⟩) (Chg.of d5) ?_
        simp only [Act.put, List.setIfInBounds_toArray, List.set_cons_zero, List.set_cons_succ]
        refine held_takeD 19 (.pointer (some ⟨bw, 9, none⟩)) (some 90) (by rfl) (by rfl) (by kernel_rfl) (by kernel_rfl) (by kernel_rfl) (fun _ _ _ h => h) (.inl ⟨by rfl, fun _ _ => by go_simp⟩) (Chg.of d5) ?_
        simp only [Act.put, List.setIfInBounds_toArray, List.set_cons_zero, List.set_cons_succ]
        refine held_one 20 (by kernel_rfl) (by rfl) (fun K' hK' => ?_)
        go_simp
        obtain ⟨w6, hw6⟩ : ∃ x, x = (w5.setCell ⟨bw, 9, none⟩ (Value.slice (some ⟨gf, 0, none⟩) 0 0)).drew := ⟨_, rfl⟩
        rw [← hw6]
        have r6 : RowT 107 w6 bw (cs5.set 9 (Value.slice (some ⟨gf, 0, none⟩) 0 0)) := hw6 ▸ ((unhide R5).set 9 (Value.slice (some ⟨gf, 0, none⟩) 0 0)).kept (Quiet.below ⟨1, rfl⟩ _)
        have c6 : Chg bw w5 w6 := hw6 ▸ (Chg.ofOnly ((Only.refl bw w5).setCell 9 (Value.slice (some ⟨gf, 0, none⟩) 0 0))).trans (Chg.of (Quiet.below ⟨1, rfl⟩ _))
        clear hw6
        refine hK'.out _ _ c6 ?_
        clear hK' K'
        refine wpAnyH_done (by kernel_rfl) ?_ _
        refine NoPanic.normal ?_
        go_wp2_with fail
        go_meet
        case rel => exact ⟨rfl, _, r6, c6⟩
      · go_simp
        refine hK'.out _ _ (Chg.of d5) ?_
        clear hK' K'
        refine held_takeD 9 (.int .i64 1) (some 80) (by rfl) (by rfl) (by kernel_rfl) (by kernel_rfl) (by kernel_rfl) (fun _ _ _ h => h) (.inl ⟨by rfl, fun _ _ => by go_simp⟩) (Chg.of d5) ?_
        simp only [Act.put, List.setIfInBounds_toArray, List.set_cons_zero, List.set_cons_succ]
        refine held_takeD 10 (.int .i64 0) (some 81) (by rfl) (by rfl) (by kernel_rfl) (by kernel_rfl) (by kernel_rfl) (fun _ _ _ h => h) (.inl ⟨by rfl, fun _ _ => by go_simp⟩) (Chg.of d5) ?_
        simp only [Act.put, List.setIfInBounds_toArray, List.set_cons_zero, List.set_cons_succ]
        refine held_one 4 (by kernel_rfl) (by rfl) (fun K' hK' => ?_) 
        go_simp
        refine hK'.out _ _ (Chg.of d5) ?_
        clear hK' K'
        refine held_takeD 17 (.slice (some ⟨gf, 0, none⟩) 0 0) (some 88) (by rfl) (by rfl) (by kernel_rfl) (by kernel_rfl) (by kernel_rfl) (fun _ _ _ h => h) (.inl ⟨by rfl, fun _ _ => by go_simp⟩) (Chg.of d5) ?_
        simp only [Act.put, List.setIfInBounds_toArray, List.set_cons_zero, List.set_cons_succ]
        refine held_takeD 18 (.pointer (some ⟨bw, 0, none⟩)) (some 89) (by rfl) (by rfl) (by kernel_rfl) (by kernel_rfl) (by kernel_rfl) (fun _ _ _ h => h) (.inl ⟨by rfl, fun _ _ => by go_simp⟩) (Chg.of d5) ?_
        simp only [Act.put, List.setIfInBounds_toArray, List.set_cons_zero, List.set_cons_succ]
        refine held_takeD 19 (.pointer (some ⟨bw, 9, none⟩)) (some 90) (by rfl) (by rfl) (by kernel_rfl) (by kernel_rfl) (by kernel_rfl) (fun _ _ _ h => h) (.inl ⟨by rfl, fun _ _ => by go_simp⟩) (Chg.of d5) ?_
        simp only [Act.put, List.setIfInBounds_toArray, List.set_cons_zero, List.set_cons_succ]
        refine held_one 20 (by kernel_rfl) (by rfl) (fun K' hK' => ?_)
        go_simp
        obtain ⟨w6, hw6⟩ : ∃ x, x = (w5.setCell ⟨bw, 9, none⟩ (Value.slice (some ⟨gf, 0, none⟩) 0 0)).drew := ⟨_, rfl⟩
        rw [← hw6]
        have r6 : RowT 107 w6 bw (cs5.set 9 (Value.slice (some ⟨gf, 0, none⟩) 0 0)) := hw6 ▸ ((unhide R5).set 9 (Value.slice (some ⟨gf, 0, none⟩) 0 0)).kept (Quiet.below ⟨1, rfl⟩ _)
        have c6 : Chg bw w5 w6 := hw6 ▸ (Chg.ofOnly ((Only.refl bw w5).setCell 9 (Value.slice (some ⟨gf, 0, none⟩) 0 0))).trans (Chg.of (Quiet.below ⟨1, rfl⟩ _))
        clear hw6
        refine hK'.out _ _ c6 ?_
        clear hK' K'
        refine wpAnyH_done (by kernel_rfl) ?_ _
        refine NoPanic.normal ?_
        go_wp2_with fail
        go_meet
        case rel => exact ⟨rfl, _, r6, c6⟩
  case rest =>
    obtain ⟨w6, hw6⟩ : ∃ w6, w6 = wc := ⟨_, rfl⟩
    subst hw6
    obtain ⟨rfl, v, r6, c6⟩ := hcut
    have e96 : w6.cell? ⟨bw, 9, none⟩ = some (.slice v 0 0) := by rw [r6.cell]; exact List.getElem?_set_self (by omega)
    have f96 := r6.froz 9
    have R6 := hide r6
    clear r6
    go_upto_region 20 with fail
    obtain ⟨w7, hw7⟩ : ∃ x, x = w6.setCell ⟨bw, 9, none⟩ (Value.slice none 0 0) := ⟨_, rfl⟩
    rw [← hw7]
    have r7 := hw7 ▸ (unhide R6).set 9 (Value.slice none 0 0)
    have c7 : Chg bw w w7 := c5.trans (c6.trans (hw7 ▸ Chg.ofOnly ((Only.refl bw w6).setCell 9 (Value.slice none 0 0))))
    rw [List.set_set] at r7
    obtain ⟨v11, e11⟩ : ∃ v, w7.cell? ⟨bw, 11, none⟩ = some v := by rw [r7.cell, List.getElem?_eq_getElem (by rw [List.length_set]; omega)]; exact ⟨_, rfl⟩
    have f11 := r7.froz 11
    have R7 := hide r7
    clear hw7 r7 e96 f96
    go_upto_region 21 with fail
    obtain ⟨w8, hw8⟩ : ∃ x, x = w7.setCell ⟨bw, 11, none⟩ (Value.int .u8 2) := ⟨_, rfl⟩
    rw [← hw8]
    have r8 := hw8 ▸ (unhide R7).set 11 (Value.int .u8 2)
    have c8 : Chg bw w w8 := c7.trans (hw8 ▸ Chg.ofOnly ((Only.refl bw w7).setCell 11 (Value.int .u8 2)))
    obtain ⟨v12, e12⟩ : ∃ v, w8.cell? ⟨bw, 12, none⟩ = some v := by rw [r8.cell, List.getElem?_eq_getElem (by rw [List.length_set, List.length_set]; omega)]; exact ⟨_, rfl⟩
    have f12 := r8.froz 12
    have R8 := hide r8
    clear hw8 r8 e11 f11
    go_upto_region 22 with fail
    obtain ⟨w9, hw9⟩ : ∃ x, x = w8.setCell ⟨bw, 12, none⟩ (Value.int .u8 0) := ⟨_, rfl⟩
    rw [← hw9]
    have r9 := hw9 ▸ (unhide R8).set 12 (Value.int .u8 0)
    have c9 : Chg bw w w9 := c8.trans (hw9 ▸ Chg.ofOnly ((Only.refl bw w8).setCell 12 (Value.int .u8 0)))
    obtain ⟨v16, e16⟩ : ∃ v, w9.cell? ⟨bw, 16, none⟩ = some v := by rw [r9.cell, List.getElem?_eq_getElem (by rw [List.length_set, List.length_set, List.length_set]; omega)]; exact ⟨_, rfl⟩
    have f16 := r9.froz 16
    have R9 := hide r9
    clear hw9 r9 e12 f12
    go_wp2
    refine bodyPost_ret (results_none rfl _ _ _) rfl ?_
    have hlS : ((((cs5.set 9 (Value.slice none 0 0)).set 11 (Value.int .u8 2)).set 12 (Value.int .u8 0)).set 16 (Value.slice A4 k4 c4)).length = 179 := by simp only [List.length_set]; exact hl5
    refine ⟨rfl, (((cs5.set 9 (Value.slice none 0 0)).set 11 (Value.int .u8 2)).set 12 (Value.int .u8 0)).set 16 (Value.slice A4 k4 c4), A4, k4, c4, (unhide R9).set 16 _, hlS, ?_, ?_, ?_, ?_, ?_, unhide G1, ?_, c9.trans (Chg.ofOnly ((Only.refl bw w9).setCell 16 _))⟩
    · intro i h9 h10 h11 h12 h16
      rw [List.getElem?_set_ne (Ne.symm h16), List.getElem?_set_ne (Ne.symm h12), List.getElem?_set_ne (Ne.symm h11), List.getElem?_set_ne (Ne.symm h9), unhide H5 i h10]
    · rw [List.getElem?_set_ne (by omega), List.getElem?_set_ne (by omega), List.getElem?_set_ne (by omega)]
      exact List.getElem?_set_self (by omega)
    · rw [List.getElem?_set_ne (by omega), List.getElem?_set_ne (by omega), List.getElem?_set_ne (by omega), List.getElem?_set_ne (by omega)]
      exact unhide H510
    · rw [List.getElem?_set_ne (by omega), List.getElem?_set_ne (by omega)]
      exact List.getElem?_set_self (by simp only [List.length_set]; omega)
    · rw [List.getElem?_set_ne (by omega)]
      exact List.getElem?_set_self (by simp only [List.length_set]; omega)
    · exact List.getElem?_set_self (by simp only [List.length_set]; omega)

end Go.Proofs.YgcsakGreat
