/-
  yp, exactly: opcode, cut, memory of zeros.
-/
import Derived.Test.YgcsakGreatKfD
namespace Go.Proofs.YgcsakGreat
set_option linter.unusedVariables false
set_option linter.unusedSimpArgs false
set_option maxRecDepth 100000
open Go.RowKit

/-- k bytes of xs from m on, zeros behind its end -/
def cutL (xs : List Int) (m k : Nat) : List Int := (xs.drop m).take k ++ (zeros k).drop ((xs.drop m).take k).length
theorem cutL_zero (l m k : Nat) : cutL (zeros l) m k = zeros k := by
  unfold cutL zeros
  rw [List.drop_replicate, List.take_replicate, List.length_replicate, List.drop_replicate, List.replicate_append_replicate]
  congr 1
  omega
/-- the instruction at pc -/
def opcN (f : FD) : Nat := (f.code.getD f.pc 0).toNat
/-- the memory's bytes -/
def Zm (w : World) (fr : List Value) (o ml : Nat) (ms : List Int) : Prop := ∃ A c, cellsAt fr o 9 = some (.slice A ml c) ∧ Src w A ml c ms
theorem Zm.kept {w w' : World} {fr : List Value} {o ml : Nat} {ms : List Int} (h : Zm w fr o ml ms) (hb : Below w.heap.size w w') : Zm w' fr o ml ms := by
  obtain ⟨A, c, h1, h2⟩ := h
  exact ⟨A, c, h1, h2.kept hb⟩
def GrowX (G : Nat → Prop) (gf o : Nat) (fr : List Value) (f : FD) (t : Nat) (w : World) (e : Ending) (w' : World) : Prop :=
  e = .returned (.tuple #[]) ∧ ∃ G' fr', Wider G G' w ∧ FX G' gf o fr' { f with ml := growN f.ml t } w' ∧ fr'.length = fr.length ∧ (∀ i, i ≠ o + 9 → fr'[i]? = fr[i]?) ∧ Chg gf w w' ∧ Zm w' fr' o (growN f.ml t) (zeros (growN f.ml t))
set_option maxHeartbeats 4000000 in
theorem cut_x (A : Option Addr) (l c : Nat) (xs : List Int) (a b : Option Addr) (la ca lb cb m k : Nat) (w : World) (hx : Src w A l c xs) (h1 : IsNat w a la ca m) (h2 : IsNat w b lb cb k) (hm : m < BIG) (hk : k ≤ 100000000) (hl : l ≤ 1000000) :
    Calls Sakg.prog 211 #[.slice A l c, .slice a la ca, .slice b lb cb] w fun e w' => ∃ g, e = .returned (.slice (some ⟨g, 0, none⟩) k k) ∧ OwnT 5 w' g (cutL xs m k) ∧ (cutL xs m k).length = k ∧ Byt (cutL xs m k) ∧ w.heap.size ≤ g ∧ Below w.heap.size w w' := by
  have hBB := big_ge
  have hlen := hx.len_eq
  have hu : u64N k = k := by unfold u64N; rw [if_pos (by omega)]
  have HSM := hide (small_any b lb cb k w h2 (by omega))
  rw [hu] at HSM
  have HPL : ∀ wz, Below w.heap.size w wz → Hid (Calls Sakg.prog 201 #[.slice a la ca, .int .i64 l] wz fun e w' => e = .returned (.tuple #[.int .i64 (placeN m l), .bool (decide (m < l))]) ∧ wz = w') := fun wz hz => hide (place_any a la ca m l wz (h1.kept hz) hm (by omega))
  by_cases hml : m < l
  · obtain ⟨bb, off, rfl, hcs⟩ := hx.at_ (by omega)
    have hlt := hx.lt _ rfl (by omega)
    have hle := hx.le
    have hmax := hx.max
    have hby := hx.byt
    have hp : placeN m l = m := if_pos hml
    rw [hp, decide_eq_true hml] at HPL
    obtain ⟨ys, hys⟩ : ∃ ys, ys = (xs.drop m).take k := ⟨_, rfl⟩
    have hyl : ys.length = min (l - m) k := by rw [hys, List.length_take, List.length_drop, hlen]; omega
    have hyb : Byt ys := fun z hz => hby z (List.mem_of_mem_drop (List.mem_of_mem_take (hys ▸ hz)))
    have hcell : ∀ wz, Below w.heap.size w wz → ∀ j, j < ys.length → wz.cell? ((⟨bb, off + m, none⟩ : Addr).add j) = some (.int .u8 (ys.getD j 0)) := fun wz hz j hj => by
      rw [addAt, hz.cell (p := ⟨bb, off + m + j, none⟩) hlt, Nat.add_assoc, hcs (m + j) (by omega)]
      rw [hys, List.getD_eq_getElem?_getD, List.getD_eq_getElem?_getD, List.getElem?_take, if_pos (by omega), List.getElem?_drop]
    have HCELL := hide hcell
    have hcu : cutL xs m k = ys ++ (zeros k).drop ys.length := by rw [hys]; rfl
    obtain ⟨cu, hcue⟩ : ∃ cu, cu = cutL xs m k := ⟨_, rfl⟩
    rw [← hcue] at hcu ⊢
    have HCU := hide hcu
    clear h1 h2 hcs hu hp hcell hx hys hcue hcu
    go_enter Sakg.func211, Sakg.ntmps211
    go_wp2_with (first
      | (go_at_call 55; refine (unhide HSM).mono ?_; rintro e w1 ⟨rfl, rfl⟩)
      | (at_make; refine wpList_make_bytes_u rfl _ _ 30 rfl Sakg.underlying30 _ _ k rfl rfl rfl rfl (by omega) ?_; intro w2 ho2 hb2 hs2; have HO2 := hide ho2; have HB2 := hide hb2; have hb2' := hb2; clear ho2 hb2 hs2)
      | (go_at_call 201; refine (unhide (HPL w2 hb2')).mono ?_; rintro e w3 ⟨rfl, rfl⟩)
      | (with_reducible refine at_copy ?_; refine wpList_copy_any rfl _ _ _ _ rfl Sakg.underlying30 _ k _ rfl _ (unhide HO2) (zeros_len k) ⟨bb, off + m, none⟩ (l - m) _ rfl ys hyl (unhide HCELL _ hb2') ?_; intro w4 ho4 hb4 hs4))
    go_ret
    exact ⟨_, rfl, by rw [unhide HCU]; exact ho4, by rw [unhide HCU, List.length_append, List.length_drop, zeros_len]; omega, by rw [unhide HCU]; exact hyb.append ((zeros_byt k).drop _), Nat.le_refl _, (unhide HB2).trans (hb4 _ (Nat.le_refl _))⟩
  · rw [decide_eq_false hml, show placeN m l = 0 from if_neg hml] at HPL
    have hcu : cutL xs m k = zeros k := by unfold cutL; rw [List.drop_of_length_le (by omega)]; simp
    rw [hcu]
    clear h1 h2 hu hx hcu
    go_enter Sakg.func211, Sakg.ntmps211
    go_wp2_with (first
      | (go_at_call 55; refine (unhide HSM).mono ?_; rintro e w1 ⟨rfl, rfl⟩)
      | (at_make; refine wpList_make_bytes_u rfl _ _ 30 rfl Sakg.underlying30 _ _ k rfl rfl rfl rfl (by omega) ?_; intro w2 ho2 hb2 hs2; have HO2 := hide ho2; have HB2 := hide hb2; have hb2' := hb2; clear ho2 hb2 hs2)
      | (go_at_call 201; refine (unhide (HPL w2 hb2')).mono ?_; rintro e w3 ⟨rfl, rfl⟩))
    go_ret
    exact ⟨_, rfl, unhide HO2, zeros_len k, zeros_byt k, Nat.le_refl _, unhide HB2⟩

set_option maxHeartbeats 4000000 in
theorem FX.opcodeX {G : Nat → Prop} {gf o : Nat} {fr : List Value} {f : FD} {w : World} (h : FX G gf o fr f w) (hpc : f.pc < BIG) (hcl : f.code.length ≤ 100000) :
    Calls Sakg.prog 112 #[.pointer (some ⟨gf, o, none⟩)] w fun e w' => e = .returned (.int .u8 (opcN f : Int)) ∧ Below w.heap.size w w' := by
  obtain ⟨A1, k1, c1, p1, p2⟩ := h.kf.pc
  obtain ⟨A5, k5, c5, e1, e2⟩ := h.kf.code
  have hlen := e2.now.len_eq
  have x3 : w.cell? ⟨gf, o + 3, none⟩ = some (.slice A1 k1 c1) := h.cell p1
  have x10 : w.cell? ⟨gf, o + 10, none⟩ = some (.slice A5 k5 c5) := h.cell e1
  have dW : Below w.heap.size w w.drew := Quiet.below ⟨1, rfl⟩ _
  have HP := hide (place_any A1 k1 c1 f.pc k5 w.drew (p2.kp (ChgS.of dW)).now hpc (by omega))
  have Y3 := hide x3
  have Y10 := hide x10
  by_cases hin : f.pc < k5
  · obtain ⟨b, off, rfl, hcs⟩ := e2.now.at_ (by omega)
    have yc : w.cell? ⟨b, off + f.pc, none⟩ = some (.int .u8 (f.code.getD f.pc 0)) := hcs f.pc (by omega)
    have hby := e2.now.byt (f.code.getD f.pc 0) (by rw [List.getD_eq_getElem?_getD, List.getElem?_eq_getElem (by omega)]; simp)
    obtain ⟨ob, hobe⟩ : ∃ ob : Nat, ob = opcN f := ⟨_, rfl⟩
    have hob : (ob : Int) = f.code.getD f.pc 0 := by rw [hobe]; unfold opcN; omega
    rw [← hobe]
    clear hobe
    rw [← hob] at yc hby
    rw [show placeN f.pc k5 = f.pc from if_pos hin, decide_eq_true hin] at HP
    have hpl : f.pc < f.code.length := by omega
    obtain ⟨pc, hpce⟩ : ∃ pc, pc = f.pc := ⟨_, rfl⟩
    rw [← hpce] at HP hin yc
    have HPL := hide hpl
    clear hpce hpl
    clear h p1 p2 e1 e2 hcs hob x3 hpc
    go_enter Sakg.func112, Sakg.ntmps112
    go_upto_region 1 with fail
    refine wp_region_noPanic ?_
    refine wp_region_held_drew (S := fun w' => w' = w.drew) (by kernel_rfl) (rfl) (fun hHeld => ?_)
    refine held_takeD 0 (.pointer (some ⟨gf, o, none⟩)) (some 6) (by rfl) (by rfl) (by kernel_rfl) (by kernel_rfl) (by kernel_rfl) (fun _ _ _ h => h) (.inl ⟨by rfl, fun _ _ => by rfl⟩) (hHeld) ?_
    simp only [Act.put, List.setIfInBounds_toArray, List.set_cons_zero, List.set_cons_succ]
    refine held_takeD 1 (.pointer (some ⟨gf, o, none⟩)) (some 7) (by rfl) (by rfl) (by kernel_rfl) (by kernel_rfl) (by kernel_rfl) (fun _ _ _ h => h) (.inl ⟨by rfl, fun _ _ => by go_simp⟩) (hHeld) ?_
    simp only [Act.put, List.setIfInBounds_toArray, List.set_cons_zero, List.set_cons_succ]
    refine held_takeD 2 (.pointer (some ⟨gf, o + 3, none⟩)) (some 8) (by rfl) (by rfl) (by kernel_rfl) (by kernel_rfl) (by kernel_rfl) (fun _ _ _ h => h) (.inl ⟨by rfl, fun _ _ => by go_simp⟩) (hHeld) ?_
    simp only [Act.put, List.setIfInBounds_toArray, List.set_cons_zero, List.set_cons_succ]
    refine held_takeD 3 (.slice A1 k1 c1) (some 9) (by rfl) (by rfl) (by kernel_rfl) (by kernel_rfl) (by kernel_rfl) (fun _ _ _ h => h) (.inl ⟨by rfl, fun wS hS => by obtain rfl : wS = w.drew := hS; have hc := unhide Y3; go_simp⟩) (hHeld) ?_
    simp only [Act.put, List.setIfInBounds_toArray, List.set_cons_zero, List.set_cons_succ]
    refine held_takeD 4 (.pointer (some ⟨gf, o, none⟩)) (some 10) (by rfl) (by rfl) (by kernel_rfl) (by kernel_rfl) (by kernel_rfl) (fun _ _ _ h => h) (.inl ⟨by rfl, fun _ _ => by rfl⟩) (hHeld) ?_
    simp only [Act.put, List.setIfInBounds_toArray, List.set_cons_zero, List.set_cons_succ]
    refine held_takeD 5 (.pointer (some ⟨gf, o, none⟩)) (some 11) (by rfl) (by rfl) (by kernel_rfl) (by kernel_rfl) (by kernel_rfl) (fun _ _ _ h => h) (.inl ⟨by rfl, fun _ _ => by go_simp⟩) (hHeld) ?_
    simp only [Act.put, List.setIfInBounds_toArray, List.set_cons_zero, List.set_cons_succ]
    refine held_takeD 6 (.pointer (some ⟨gf, o + 10, none⟩)) (some 12) (by rfl) (by rfl) (by kernel_rfl) (by kernel_rfl) (by kernel_rfl) (fun _ _ _ h => h) (.inl ⟨by rfl, fun _ _ => by go_simp⟩) (hHeld) ?_
    simp only [Act.put, List.setIfInBounds_toArray, List.set_cons_zero, List.set_cons_succ]
    refine held_takeD 7 (.slice (some ⟨b, off, none⟩) k5 c5) (some 13) (by rfl) (by rfl) (by kernel_rfl) (by kernel_rfl) (by kernel_rfl) (fun _ _ _ h => h) (.inl ⟨by rfl, fun wS hS => by obtain rfl : wS = w.drew := hS; have hc := unhide Y10; go_simp⟩) (hHeld) ?_
    simp only [Act.put, List.setIfInBounds_toArray, List.set_cons_zero, List.set_cons_succ]
    refine held_takeD 8 (.int .i64 k5) (some 14) (by rfl) (by rfl) (by kernel_rfl) (by kernel_rfl) (by kernel_rfl) (fun _ _ _ h => h) (.inl ⟨by rfl, fun _ _ => by go_simp⟩) (hHeld) ?_
    simp only [Act.put, List.setIfInBounds_toArray, List.set_cons_zero, List.set_cons_succ]
    refine held_one 9 (by kernel_rfl) (by rfl) (fun K' hK' => ?_)
    go_simp
    refine (unhide HP).mono ?_
    rintro e w1 ⟨rfl, rfl⟩
    refine hK'.out _ _ (rfl) ?_
    clear hK' K'
    refine held_takeD 10 (.tuple #[.int .i64 pc, .bool true]) (some 5) (by rfl) (by rfl) (by kernel_rfl) (by kernel_rfl) (by kernel_rfl) (fun _ _ _ h => h) (.inl ⟨by rfl, fun _ _ => by rfl⟩) (rfl) ?_
    simp only [Act.put, List.setIfInBounds_toArray, List.set_cons_zero, List.set_cons_succ]
    refine held_takeD 11 (.int .i64 pc) (some 16) (by rfl) (by rfl) (by kernel_rfl) (by kernel_rfl) (by kernel_rfl) (fun _ _ _ h => h) (.inl ⟨by rfl, fun _ _ => by go_simp⟩) (rfl) ?_
    simp only [Act.put, List.setIfInBounds_toArray, List.set_cons_zero, List.set_cons_succ]
    refine held_takeD 12 (.bool true) (some 17) (by rfl) (by rfl) (by kernel_rfl) (by kernel_rfl) (by kernel_rfl) (fun _ _ _ h => h) (.inl ⟨by rfl, fun _ _ => by go_simp⟩) (rfl) ?_
    simp only [Act.put, List.setIfInBounds_toArray, List.set_cons_zero, List.set_cons_succ]
    refine held_takeD 13 (.int .i64 pc) (some 3) (by rfl) (by rfl) (by kernel_rfl) (by kernel_rfl) (by kernel_rfl) (fun _ _ _ h => h) (.inl ⟨by rfl, fun _ _ => by rfl⟩) (rfl) ?_
    simp only [Act.put, List.setIfInBounds_toArray, List.set_cons_zero, List.set_cons_succ]
    refine held_takeD 14 (.bool true) (some 4) (by rfl) (by rfl) (by kernel_rfl) (by kernel_rfl) (by kernel_rfl) (fun _ _ _ h => h) (.inl ⟨by rfl, fun _ _ => by rfl⟩) (rfl) ?_
    simp only [Act.put, List.setIfInBounds_toArray, List.set_cons_zero, List.set_cons_succ]
    refine wpAnyH_done (by kernel_rfl) ?_ _
    refine NoPanic.normal ?_
    go_wp2
    go_ret
    exact ⟨rfl, dW⟩
  · have hz : opcN f = 0 := by unfold opcN; rw [List.getD_eq_getElem?_getD, List.getElem?_eq_none (by omega)]; rfl
    rw [hz]
    clear hz
    rw [show placeN f.pc k5 = 0 from if_neg hin, decide_eq_false hin] at HP
    clear h p1 p2 e1 e2 x3 x10
    go_enter Sakg.func112, Sakg.ntmps112
    go_upto_region 1 with fail
    refine wp_region_noPanic ?_
    refine wp_region_held_drew (S := fun w' => w' = w.drew) (by kernel_rfl) (rfl) (fun hHeld => ?_)
    refine held_takeD 0 (.pointer (some ⟨gf, o, none⟩)) (some 6) (by rfl) (by rfl) (by kernel_rfl) (by kernel_rfl) (by kernel_rfl) (fun _ _ _ h => h) (.inl ⟨by rfl, fun _ _ => by rfl⟩) (hHeld) ?_
    simp only [Act.put, List.setIfInBounds_toArray, List.set_cons_zero, List.set_cons_succ]
    refine held_takeD 1 (.pointer (some ⟨gf, o, none⟩)) (some 7) (by rfl) (by rfl) (by kernel_rfl) (by kernel_rfl) (by kernel_rfl) (fun _ _ _ h => h) (.inl ⟨by rfl, fun _ _ => by go_simp⟩) (hHeld) ?_
    simp only [Act.put, List.setIfInBounds_toArray, List.set_cons_zero, List.set_cons_succ]
    refine held_takeD 2 (.pointer (some ⟨gf, o + 3, none⟩)) (some 8) (by rfl) (by rfl) (by kernel_rfl) (by kernel_rfl) (by kernel_rfl) (fun _ _ _ h => h) (.inl ⟨by rfl, fun _ _ => by go_simp⟩) (hHeld) ?_
    simp only [Act.put, List.setIfInBounds_toArray, List.set_cons_zero, List.set_cons_succ]
    refine held_takeD 3 (.slice A1 k1 c1) (some 9) (by rfl) (by rfl) (by kernel_rfl) (by kernel_rfl) (by kernel_rfl) (fun _ _ _ h => h) (.inl ⟨by rfl, fun wS hS => by obtain rfl : wS = w.drew := hS; have hc := unhide Y3; go_simp⟩) (hHeld) ?_
    simp only [Act.put, List.setIfInBounds_toArray, List.set_cons_zero, List.set_cons_succ]
    refine held_takeD 4 (.pointer (some ⟨gf, o, none⟩)) (some 10) (by rfl) (by rfl) (by kernel_rfl) (by kernel_rfl) (by kernel_rfl) (fun _ _ _ h => h) (.inl ⟨by rfl, fun _ _ => by rfl⟩) (hHeld) ?_
    simp only [Act.put, List.setIfInBounds_toArray, List.set_cons_zero, List.set_cons_succ]
    refine held_takeD 5 (.pointer (some ⟨gf, o, none⟩)) (some 11) (by rfl) (by rfl) (by kernel_rfl) (by kernel_rfl) (by kernel_rfl) (fun _ _ _ h => h) (.inl ⟨by rfl, fun _ _ => by go_simp⟩) (hHeld) ?_
    simp only [Act.put, List.setIfInBounds_toArray, List.set_cons_zero, List.set_cons_succ]
    refine held_takeD 6 (.pointer (some ⟨gf, o + 10, none⟩)) (some 12) (by rfl) (by rfl) (by kernel_rfl) (by kernel_rfl) (by kernel_rfl) (fun _ _ _ h => h) (.inl ⟨by rfl, fun _ _ => by go_simp⟩) (hHeld) ?_
    simp only [Act.put, List.setIfInBounds_toArray, List.set_cons_zero, List.set_cons_succ]
    refine held_takeD 7 (.slice A5 k5 c5) (some 13) (by rfl) (by rfl) (by kernel_rfl) (by kernel_rfl) (by kernel_rfl) (fun _ _ _ h => h) (.inl ⟨by rfl, fun wS hS => by obtain rfl : wS = w.drew := hS; have hc := unhide Y10; go_simp⟩) (hHeld) ?_
    simp only [Act.put, List.setIfInBounds_toArray, List.set_cons_zero, List.set_cons_succ]
    refine held_takeD 8 (.int .i64 k5) (some 14) (by rfl) (by rfl) (by kernel_rfl) (by kernel_rfl) (by kernel_rfl) (fun _ _ _ h => h) (.inl ⟨by rfl, fun _ _ => by go_simp⟩) (hHeld) ?_
    simp only [Act.put, List.setIfInBounds_toArray, List.set_cons_zero, List.set_cons_succ]
    refine held_one 9 (by kernel_rfl) (by rfl) (fun K' hK' => ?_)
    go_simp
    refine (unhide HP).mono ?_
    rintro e w1 ⟨rfl, rfl⟩
    refine hK'.out _ _ (rfl) ?_
    clear hK' K'
    refine held_takeD 10 (.tuple #[.int .i64 0, .bool false]) (some 5) (by rfl) (by rfl) (by kernel_rfl) (by kernel_rfl) (by kernel_rfl) (fun _ _ _ h => h) (.inl ⟨by rfl, fun _ _ => by rfl⟩) (rfl) ?_
    simp only [Act.put, List.setIfInBounds_toArray, List.set_cons_zero, List.set_cons_succ]
    refine held_takeD 11 (.int .i64 0) (some 16) (by rfl) (by rfl) (by kernel_rfl) (by kernel_rfl) (by kernel_rfl) (fun _ _ _ h => h) (.inl ⟨by rfl, fun _ _ => by go_simp⟩) (rfl) ?_
    simp only [Act.put, List.setIfInBounds_toArray, List.set_cons_zero, List.set_cons_succ]
    refine held_takeD 12 (.bool false) (some 17) (by rfl) (by rfl) (by kernel_rfl) (by kernel_rfl) (by kernel_rfl) (fun _ _ _ h => h) (.inl ⟨by rfl, fun _ _ => by go_simp⟩) (rfl) ?_
    simp only [Act.put, List.setIfInBounds_toArray, List.set_cons_zero, List.set_cons_succ]
    refine held_takeD 13 (.int .i64 0) (some 3) (by rfl) (by rfl) (by kernel_rfl) (by kernel_rfl) (by kernel_rfl) (fun _ _ _ h => h) (.inl ⟨by rfl, fun _ _ => by rfl⟩) (rfl) ?_
    simp only [Act.put, List.setIfInBounds_toArray, List.set_cons_zero, List.set_cons_succ]
    refine held_takeD 14 (.bool false) (some 4) (by rfl) (by rfl) (by kernel_rfl) (by kernel_rfl) (by kernel_rfl) (fun _ _ _ h => h) (.inl ⟨by rfl, fun _ _ => by rfl⟩) (rfl) ?_
    simp only [Act.put, List.setIfInBounds_toArray, List.set_cons_zero, List.set_cons_succ]
    refine wpAnyH_done (by kernel_rfl) ?_ _
    refine NoPanic.normal ?_
    go_wp2
    go_ret
    exact ⟨rfl, dW⟩
theorem wpList_copy_zero {w : World} {ops : Array Oper} {rest : List Oper} {o : Oper} {a : Act} {Q : Exit → Act → World → Prop} (hgd : o.guard = none) (d s : Operand) (dT sT : TypeId)
    (ho : o.op = .call { callee := .builtin .copy, args := #[d, s], argTypes := #[dT, sT] }) (ht : Sakg.prog.underlying dT = some (.slice 5))
    (g p n dc : Nat) (hd : a.eval d = .slice (some ⟨g, p, none⟩) n dc) (N : Nat) (hg1 : OwnT 5 w g (zeros N)) (hz : p + n ≤ N)
    (A : Option Addr) (m c : Nat) (hs : a.eval s = .slice A m c) (hx : Src w A m c (zeros m))
    (h : ∀ w' k, Only g w w' → OwnT 5 w' g (zeros N) → wpList Sakg.prog ops Q rest (a.put o.dst (.int .i64 k)) w') : wpList Sakg.prog ops Q (o :: rest) a w := by
  obtain ⟨i0, hi, hz0, hz1, hz2⟩ := info_parts Sakg.info5
  obtain ⟨zs, hzs⟩ : ∃ zs, zs = zeros N := ⟨_, rfl⟩
  obtain ⟨xs, hxs⟩ : ∃ xs, xs = zeros m := ⟨_, rfl⟩
  have hg2 : zs.length = N := by rw [hzs, zeros_len]
  rw [← hzs] at hg1 h
  rw [← hxs] at hx
  refine wpList_plain hgd fun K hK => ?_
  cases A with
  | none =>
    obtain ⟨rfl, rfl⟩ := hx.nil rfl
    have hrun := run_copy_nil (P := Sakg.prog) w dT sT o.type 5 ⟨g, p, none⟩ n dc ht (by rw [hi]; rfl)
    unfold Oper.wp
    simp [execOp, ho, resolve, invoke, builtin, hd, hs, hrun, Result.andThen]
    exact hK _ _ (h w 0 (Only.refl _ _) hg1)
  | some ad =>
    have hlen := hx.len_eq
    obtain ⟨ys, hys⟩ : ∃ ys, ys = xs.take (min m n) := ⟨_, rfl⟩
    have hyl : ys.length = min m n := by rw [hys, List.length_take]; omega
    have hyb : Byt ys := fun z hz => hx.byt z (List.mem_of_mem_take (hys ▸ hz))
    have hrun := run_copy_row (P := Sakg.prog) w dT sT o.type 5 g p n dc ad m c (bv zs).toArray 5 (bv ys) ht (by rw [hi]; simp [hz1]) hg1 (by rw [bv_len, hyl]) (by
      intro j u hj
      obtain ⟨hlt, rfl⟩ := bv_get ys j u hj
      obtain ⟨bb, off, hb, hcs⟩ := hx.at_ (by omega)
      obtain rfl := Option.some.inj hb
      rw [addAt]
      rw [show ys.getD j 0 = xs.getD j 0 from by rw [hys, List.getD_eq_getElem?_getD, List.getD_eq_getElem?_getD, List.getElem?_take, if_pos (by omega)]]
      exact hcs j (by omega)) (by simp [bv_len]; omega) (bv_one ys)
    have e : ((bv zs).toArray.toList.take p ++ bv ys ++ (bv zs).toArray.toList.drop (p + (bv ys).length)) = bv (zs.take p ++ (ys ++ zs.drop (p + ys.length))) := by
      unfold bv
      simp
    rw [e] at hrun
    have h1 : Own (w.setRow g (bv (zs.take p ++ (ys ++ zs.drop (p + ys.length)))).toArray) g (zs.take p ++ (ys ++ zs.drop (p + ys.length))) := setRow_heap w g _ _ _ _ hg1
    have h2 : Only g w (w.setRow g (bv (zs.take p ++ (ys ++ zs.drop (p + ys.length)))).toArray) := ⟨rfl, rfl, rfl, by simp, fun k hk => setRow_other w g k _ hk⟩
    have h3 : zs.take p ++ (ys ++ zs.drop (p + ys.length)) = zs := by
      have hy : ys = List.replicate (min m n) 0 := by rw [hys, hxs]; unfold zeros; rw [List.take_replicate]; congr 1; omega
      have hq : zs = List.replicate N 0 := hzs
      rw [hy, hq, List.length_replicate, List.take_replicate, List.drop_replicate, List.replicate_append_replicate, List.replicate_append_replicate]
      congr 1
      omega
    rw [h3] at h1 h2 hrun
    have hk := h _ ys.length h2 h1
    unfold Oper.wp
    simp [execOp, ho, resolve, invoke, builtin, hd, hs, hrun, Result.andThen, bv_len]
    exact hK _ _ hk

set_option maxHeartbeats 4000000 in
theorem FX.readX {G : Nat → Prop} {gf o : Nat} {fr : List Value} {f : FD} {w : World} (h : FX G gf o fr f w) (hml : f.ml ≤ 1000000) (a b : Option Addr) (la ca lb cb m n : Nat) (h1 : IsNat w a la ca m) (h2 : IsNat w b lb cb n) (hm : m < BIG) (hn : n ≤ 100000000) (ms : List Int) (hmem : Zm w fr o f.ml ms) :
    Calls Sakg.prog 117 #[.pointer (some ⟨gf, o, none⟩), .slice a la ca, .slice b lb cb] w fun e w' => ∃ A c, e = .returned (.slice A n c) ∧ Src w' A n c (if n = 0 then [] else cutL ms m n) ∧ New w A ∧ Below w.heap.size w w' := by
  have hBB := big_ge
  obtain ⟨A, c, m1, m2⟩ := hmem
  have HZ := hide (isZero_any b lb cb n w h2 (by omega))
  have HFX := hide h
  have HH1 := hide h1
  have HH2 := hide h2
  by_cases h0 : n = 0
  · subst h0
    rw [decide_eq_true rfl] at HZ
    clear h m1 m2 h1 h2
    go_enter Sakg.func117, Sakg.ntmps117
    go_wp2_with (go_at_call 130; refine (unhide HZ).mono ?_; rintro e w1 ⟨rfl, n1, rfl⟩)
    go_ret
    exact ⟨none, 0, rfl, Src.ofNil _, New.nil _, Quiet.below ⟨n1, rfl⟩ _⟩
  · rw [decide_eq_false h0] at HZ
    have M2 := hide m2
    have M1 := hide m1
    clear h m1 m2 h1 h2
    go_enter Sakg.func117, Sakg.ntmps117
    go_wp2_with fail
    refine (unhide HZ).mono ?_
    rintro e w1 ⟨rfl, q1⟩
    have b1 : Below w.heap.size w w1 := q1.below _
    have y9 := ((unhide HFX).kept b1).cell (unhide M1)
    have hxs := (unhide M2).kept b1
    have HC := hide (cut_x A f.ml c ms a b la ca lb cb m n w1 hxs ((unhide HH1).kept b1) ((unhide HH2).kept b1) hm hn hml)
    clear q1 hxs
    go_wp2_with (go_at_call 211; refine (unhide HC).mono ?_; rintro e w2 ⟨g, rfl, o2, hy2, hb2, l2, b2⟩; have O2 := hide o2; clear o2)
    go_ret
    exact ⟨_, n, rfl, (unhide O2).src_all hb2 n hy2.symm (by unfold maxLen; omega), (fun x hx => by obtain rfl := Option.some.inj hx; exact Nat.le_trans b1.size l2), b1.trans (b2.mono b1.size)⟩

set_option maxHeartbeats 8000000 in
theorem FX.growX {G : Nat → Prop} {gf o : Nat} {fr : List Value} {f : FD} {w : World} (h : FX G gf o fr f w) (a : Option Addr) (la ca t : Nat) (hn : IsNat w a la ca t) (ht : t + 31 < BIG) (hml : f.ml ≤ 1000000) (hq : (t + 31) / 32 ≤ 30000) (hmem : Zm w fr o f.ml (zeros f.ml)) :
    Calls Sakg.prog 115 #[.pointer (some ⟨gf, o, none⟩), .slice a la ca] w (GrowX G gf o fr f t w) := by
  have hBB := big_ge
  obtain ⟨A, c, m1, m2⟩ := hmem
  have x9 : ∀ wz, Below w.heap.size w wz → wz.cell? ⟨gf, o + 9, none⟩ = some (.slice A f.ml c) := fun wz hz => (h.kept hz).cell m1
  have X9 := hide x9
  have HW := hide (words_any a la ca t w hn ht)
  obtain ⟨q, hqe⟩ : ∃ q, q = (t + 31) / 32 := ⟨_, rfl⟩
  obtain ⟨hv, hhv⟩ : ∃ hv, hv = f.ml / 32 := ⟨_, rfl⟩
  have hgr : growN f.ml t = if q ≤ hv then f.ml else 32 * q := by unfold growN; rw [← hqe, ← hhv]
  rw [← hqe] at HW hq
  have e32 : (f.ml : Int) / 32 = (hv : Int) := by omega
  have hu : u64N q = q := by unfold u64N; rw [if_pos (by omega)]
  have hvl : hv ≤ 100000 := by omega
  have HU := hide hu
  have HFX := hide h
  have M2 := hide m2
  have M1 := hide m1
  generalize hml2 : f.ml = ml at X9 e32 hml M2 M1
  have HML := hide hml2
  have HGR := hide hgr
  clear h m1 m2 x9 hqe hhv hu hn hgr hml2
  by_cases hle : q ≤ hv
  · have tle : decide (hv < q) = false := decide_eq_false (by omega)
    have hnlt : ¬ hv < q := by omega
    go_enter Sakg.func115, Sakg.ntmps115
    go_wp2_with fail
    refine (unhide HW).mono ?_
    rintro e w1 ⟨A1, k1, c1, rfl, n1, N1, b1⟩
    have HS := hide (small_any A1 k1 c1 q w1 n1 (by omega))
    rw [unhide HU] at HS
    have y9 := unhide X9 w1 b1
    clear n1
    go_wp2_with fail
    refine (unhide HS).mono ?_
    rintro e w2 ⟨rfl, rfl⟩
    go_wp2
    refine bodyPost_done rfl rfl ?_
    refine ⟨rfl, G, fr, Wider.refl _ _, ?_, rfl, fun _ _ => rfl, Chg.of b1, ?_⟩
    · rw [unhide HGR, if_pos hle]
      exact (unhide HFX).kept b1
    · rw [unhide HGR, if_pos hle]
      exact ⟨A, c, by rw [unhide HML]; exact unhide M1, by rw [unhide HML]; exact (unhide M2).kept b1⟩
  · have tle : decide (hv < q) = true := decide_eq_true (by omega)
    have hlt : hv < q := by omega
    obtain ⟨s, hs⟩ : ∃ s, s = 32 * q := ⟨_, rfl⟩
    have es : (32 : Int) * (q : Int) = (s : Int) := by omega
    have hsl : s ≤ 1000000 := by omega
    have HSE := hide hs
    clear hs
    go_enter Sakg.func115, Sakg.ntmps115
    go_wp2_with fail
    refine (unhide HW).mono ?_
    rintro e w1 ⟨A1, k1, c1, rfl, n1, N1, b1⟩
    have HS := hide (small_any A1 k1 c1 q w1 n1 (by omega))
    rw [unhide HU] at HS
    have y9 := unhide X9 w1 b1
    clear n1
    go_wp2_with fail
    refine (unhide HS).mono ?_
    rintro e w2 ⟨rfl, rfl⟩
    go_wp2_with (first
      | (at_make; refine wpList_make_bytes_u rfl _ _ 30 rfl Sakg.underlying30 _ _ s rfl rfl rfl rfl (by omega) ?_; intro w3 ho3 hb3 hs3; have d3 : Below w.heap.size w w3 := b1.thn hb3; have z9 := unhide X9 w3 d3; have HMB3 := hide ho3; have HXS := hide ((unhide M2).kept d3); have HS3 := hide hs3; clear ho3 hs3)
      | (with_reducible refine at_copy ?_; refine wpList_copy_zero rfl _ _ _ _ rfl Sakg.underlying30 w1.heap.size 0 s _ rfl s (unhide HMB3) (by omega) A ml c rfl (unhide HXS) ?_; intro w4 k4 ho4 hm4; have d4 : Below w.heap.size w w4 := d3.trans (ho4.below _ b1.size); have f9 := ((unhide HFX).kept d4).row.froz (o + 9); have v9 := unhide X9 w4 d4; have HM4 := hide hm4; have HO4 := hide ho4; clear hm4 ho4))
    refine bodyPost_done rfl rfl ?_
    have hx4 := (unhide HFX).kept d4
    have hW : Wider G (Plus G w1.heap.size) w := Wider.plus b1.size
    have hmb4 : MB w4 w1.heap.size s := ⟨_, unhide HM4, zeros_len s, zeros_byt s⟩
    have hn4 : w1.heap.size < w4.heap.size := hmb4.lt
    have hx5 : FX (Plus G w1.heap.size) gf o fr f w4 := ⟨hx4.row, hx4.len, .inl hx4.g, hx4.ther.plus hn4, ((unhide HFX).kf.to hW.new hW.sub).go (Mv.of d4)⟩
    refine ⟨rfl, Plus G w1.heap.size, fr.set (o + 9) (.slice (some ⟨w1.heap.size, 0, none⟩) s s), hW, ?_, List.length_set .., fun i hi => List.getElem?_set_ne (Ne.symm hi), (Chg.of d4).trans (Chg.ofOnly ((Only.refl _ _).setCell _ _)), ?_⟩
    · rw [unhide HGR, if_neg hle, ← unhide HSE]
      exact hx5.put (by omega) (hx5.kf.setMem (.inr ⟨_, rfl, rfl, hmb4, .inr rfl⟩))
    · rw [unhide HGR, if_neg hle, ← unhide HSE]
      have hgl := hx4.row.lt
      have hg0 : gf < w.heap.size := (unhide HFX).row.lt
      refine ⟨some ⟨w1.heap.size, 0, none⟩, s, ?_, ?_⟩
      · show (fr.set (o + 9) _)[o + 9]? = _
        exact List.getElem?_set_self (by have := hx4.len; omega)
      · have ho5 : Only gf w4 (w4.setCell ⟨gf, o + 9, none⟩ (.slice (some ⟨w1.heap.size, 0, none⟩) s s)) := (Only.refl _ _).setCell _ _
        have ho6 : OwnT 5 (w4.setCell ⟨gf, o + 9, none⟩ (.slice (some ⟨w1.heap.size, 0, none⟩) s s)) w1.heap.size (zeros s) := RowT.only (t := 5) (unhide HM4) ho5 (by have := b1.size; omega)
        exact ho6.src_all (zeros_byt s) s (zeros_len s).symm (by unfold maxLen; omega)


end Go.Proofs.YgcsakGreat
