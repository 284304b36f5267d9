/-
  yp: operand, value at the arithmetic instructions and at PUSH.
-/
import Derived.Test.YgcsakGreatCutA
namespace Go.Proofs.YgcsakGreat
set_option linter.unusedVariables false
set_option linter.unusedSimpArgs false
set_option maxRecDepth 100000
open Go.RowKit

/-- a list of operands -/
def NatR (w : World) (r : List Value) (n : Nat) : Prop := ∃ A k c, r = [.slice A k c] ∧ IsNat w A k c n
theorem NatR.kept {w w' : World} {r : List Value} {n : Nat} (h : NatR w r n) (hb : Below w.heap.size w w') : NatR w' r n := by
  obtain ⟨A, k, c, h1, h2⟩ := h
  exact ⟨A, k, c, h1, h2.kept hb⟩
def ArgsR (w : World) (ao : Option Addr) (l c : Nat) (xs : List Nat) : Prop := ∃ rows, Rws w 1 ao l c rows ∧ Each (NatR w) rows xs
theorem ArgsR.kept {w w' : World} {ao : Option Addr} {l c : Nat} {xs : List Nat} (h : ArgsR w ao l c xs) (hb : Below w.heap.size w w') : ArgsR w' ao l c xs := by
  obtain ⟨rows, h1, h2⟩ := h
  exact ⟨rows, h1.kept hb, h2.imp fun _ _ h => h.kept hb⟩
theorem ArgsR.len {w : World} {ao : Option Addr} {l c : Nat} {xs : List Nat} (h : ArgsR w ao l c xs) : xs.length = l := by
  obtain ⟨rows, h1, h2⟩ := h
  rw [← h2.len, h1.len_eq]

set_option maxHeartbeats 2000000 in
theorem operand_any (ao : Option Addr) (l c : Nat) (xs : List Nat) (i : Nat) (w : World) (h : ArgsR w ao l c xs) (hl : l ≤ 100) (hi : i ≤ 100) :
    Calls Sakg.prog 305 #[.slice ao l c, .int .i64 i] w fun e w' => (∃ A k c, e = .returned (.slice A k c) ∧ IsNat w A k c (xs.getD i 0)) ∧ w = w' := by
  have hlen := h.len
  obtain ⟨rows, g1, g2⟩ := h
  by_cases hil : i < l
  · have t0 : decide ((i : Int) < (l : Int)) = true := decide_eq_true (by omega)
    obtain ⟨b, off, rfl, hlt, hat⟩ := rows_at' 0 g1 g2 (by omega)
    obtain ⟨r, hrg, A1, k1, c1, rfl, hn⟩ := hat i hil
    have hcell : w.cell? ⟨b, off + i, none⟩ = some (.slice A1 k1 c1) := by
      have := hrg 0 _ rfl
      rwa [Nat.mul_one, Nat.add_zero] at this
    have HN := hide hn
    clear hn hrg hat g1 g2
    go_enter Sakg.func305, Sakg.ntmps305
    go_wp2
    go_ret
    exact ⟨⟨A1, k1, c1, rfl, unhide HN⟩, rfl⟩
  · have t0 : decide ((i : Int) < (l : Int)) = false := decide_eq_false (by omega)
    have hz : xs.getD i 0 = 0 := by rw [List.getD_eq_getElem?_getD, List.getElem?_eq_none (by omega)]; rfl
    rw [hz]
    clear g1 g2 hz
    go_enter Sakg.func305, Sakg.ntmps305
    go_wp2
    go_ret
    exact ⟨⟨none, 0, 0, rfl, IsNat.nil _⟩, rfl⟩

set_option maxHeartbeats 4000000 in
theorem value_alu (o : Nat) (ho : aluO o) (bw gf : Nat) (ao : Option Addr) (l c : Nat) (xs : List Nat) (w : World) (h : ArgsR w ao l c xs) (hl : l ≤ 100) (hx : ∀ i, xs.getD i 0 < P256) :
    Calls Sakg.prog 217 #[.pointer (some ⟨bw, 0, none⟩), .pointer (some ⟨gf, 0, none⟩), .int .u8 o, .slice ao l c] w (MakesNat w (aluN o (xs.getD 0 0) (xs.getD 1 0) (xs.getD 2 0))) := by
  have hop : opO o := .inl ho
  have hfam : famN o = 1 := by unfold famN; unfold aluO at ho; rw [if_neg (by omega), if_neg (by omega)]
  have HF := hide (family_op o hop w)
  rw [hfam] at HF
  have H0 := hide (operand_any ao l c xs 0 w h hl (by omega))
  have H1 := hide (operand_any ao l c xs 1 w h hl (by omega))
  have H2 := hide (operand_any ao l c xs 2 w h hl (by omega))
  have x0 := hx 0
  have x1 := hx 1
  have x2 := hx 2
  have X0 := hide x0
  have X1 := hide x1
  have X2 := hide x2
  have hO := ho
  unfold aluO at hO
  have t32 : ((o : Int) == 32) = false := by rw [beq_eq_false_iff_ne]; omega
  have ho256 := opO_lt hop
  generalize xs.getD 0 0 = m0 at H0 X0
  generalize xs.getD 1 0 = m1 at H1 X1
  generalize xs.getD 2 0 = m2 at H2 X2
  clear h hx x0 x1 x2 hfam hO
  go_enter Sakg.func217, Sakg.ntmps217
  go_wp2_with fail
  refine (unhide H0).mono ?_
  rintro e w1 ⟨⟨A0, k0, c0, rfl, n0⟩, rfl⟩
  have N0 := hide n0
  clear n0
  go_wp2_with fail
  refine (unhide H1).mono ?_
  rintro e w1 ⟨⟨A1, k1, c1, rfl, n1⟩, rfl⟩
  have N1 := hide n1
  clear n1
  go_wp2_with fail
  refine (unhide HF).mono ?_
  rintro e w1 ⟨rfl, rfl⟩
  go_wp2_with fail
  refine (unhide H2).mono ?_
  rintro e w1 ⟨⟨A2, k2, c2, rfl, n2⟩, rfl⟩
  have HA := hide (alu_any o ho256 A0 A1 A2 k0 c0 k1 c1 k2 c2 m0 m1 m2 w (unhide N0) (unhide N1) n2 (unhide X0) (unhide X1) (unhide X2))
  clear n2
  go_wp2_with fail
  refine (unhide HA).mono ?_
  rintro e w2 ⟨A3, k3, c3, rfl, n3, N3, b3⟩
  have NN3 := hide n3
  clear n3
  go_wp2
  go_ret
  exact ⟨A3, k3, c3, rfl, unhide NN3, N3, b3⟩

/-- what PUSH lays -/
def pushN (code : List Int) (pc k : Nat) : Nat := val (((code.drop (pc + 1)).take k).reverse)
set_option maxHeartbeats 8000000 in
theorem value_push (o : Nat) (ho : o = 95 ∨ o = 96 ∨ o = 127) {bw gf : Nat} {fr : List Value} {pc gas : Nat} {stk : List Nat} {mem code : List Int} {w : World} (h : FM bw gf fr pc gas stk mem code w) (ao : Option Addr) (l c : Nat) (xs : List Nat) (hA : ArgsR w ao l c xs) (hl : l ≤ 100)
    (hpc : pc + 1 + immN o ≤ code.length) (hpc1 : pc + 1 < code.length) (hcl : code.length ≤ 100000) :
    Calls Sakg.prog 217 #[.pointer (some ⟨bw, 0, none⟩), .pointer (some ⟨gf, 0, none⟩), .int .u8 o, .slice ao l c] w (MakesNat w (pushN code pc (immN o))) := by
  have hBB := big_ge
  have hop : opO o := by unfold opO; omega
  have hfam : famN o = 2 := by unfold famN; rw [if_neg (by omega), if_pos (by omega)]
  have himm : immN o ≤ 32 := by unfold immN; (repeat (split; omega)); omega
  have HF := hide (family_op o hop w)
  rw [hfam] at HF
  have H0 := hide (operand_any ao l c xs 0 w hA hl (by omega))
  have H1 := hide (operand_any ao l c xs 1 w hA hl (by omega))
  obtain ⟨Ap, kp, cp, p1, p2⟩ := h.pcN
  obtain ⟨Ac, kc, cc, q1, q2⟩ := h.codeN
  have hcl2 := q2.now.len_eq
  have x3 : ∀ wz, Below w.heap.size w wz → wz.cell? ⟨gf, 3, none⟩ = some (.slice Ap kp cp) ∧ IsNat wz Ap kp cp pc := fun wz hz => ⟨by rw [(h.row.kept hz).cell]; exact p1, p2 wz (ChgS.of hz)⟩
  have x10 : ∀ wz, Below w.heap.size w wz → wz.cell? ⟨gf, 10, none⟩ = some (.slice Ac kc cc) ∧ Src wz Ac kc cc code := fun wz hz => ⟨by rw [(h.row.kept hz).cell]; exact q1, q2 wz (ChgS.of hz)⟩
  have X3 := hide x3
  have X10 := hide x10
  have HIM : ∀ wz, Hid (Calls Sakg.prog 216 #[.int .u8 o] wz fun e w' => e = .returned (.int .u8 (immN o)) ∧ wz = w') := fun wz => hide (imm_op o hop wz)
  generalize hik : immN o = ik at hpc himm HIM
  have t32 : ((o : Int) == 32) = false := by rw [beq_eq_false_iff_ne]; omega
  have t95 : decide ((95 : Int) ≤ (o : Int)) = true := decide_eq_true (by omega)
  have t127 : decide ((o : Int) ≤ 127) = true := decide_eq_true (by omega)
  have dW : Below w.heap.size w w.drew := Quiet.below ⟨1, rfl⟩ _
  clear h hA p1 p2 q1 q2 x3 x10 hfam hik
  go_enter Sakg.func217, Sakg.ntmps217
  go_wp2_with fail
  refine (unhide H0).mono ?_
  rintro e w1 ⟨⟨A0, k0, c0, rfl, -⟩, rfl⟩
  go_wp2_with fail
  refine (unhide H1).mono ?_
  rintro e w1 ⟨⟨A1, k1, c1, rfl, -⟩, rfl⟩
  go_upto_region 9 with (go_at_call 120; refine (unhide HF).mono ?_; rintro e w1 ⟨rfl, rfl⟩)
  refine wp_region_noPanic ?_
  refine wp_region_held_drew (S := fun w' => Below w.heap.size w w') (by kernel_rfl) (dW) (fun hHeld => ?_)
  refine held_takeD 0 (.pointer (some ⟨gf, 0, none⟩)) (some 43) (by rfl) (by rfl) (by kernel_rfl) (by kernel_rfl) (by kernel_rfl) (fun _ _ _ h => h) (.inl ⟨by rfl, fun _ _ => by rfl⟩) (hHeld) ?_
  simp only [Act.put, List.setIfInBounds_toArray, List.set_cons_zero, List.set_cons_succ]
  refine held_takeD 1 (.pointer (some ⟨gf, 0, none⟩)) (some 44) (by rfl) (by rfl) (by kernel_rfl) (by kernel_rfl) (by kernel_rfl) (fun _ _ _ h => h) (.inl ⟨by rfl, fun _ _ => by go_simp⟩) (hHeld) ?_
  simp only [Act.put, List.setIfInBounds_toArray, List.set_cons_zero, List.set_cons_succ]
  refine held_takeD 2 (.pointer (some ⟨gf, 10, none⟩)) (some 45) (by rfl) (by rfl) (by kernel_rfl) (by kernel_rfl) (by kernel_rfl) (fun _ _ _ h => h) (.inl ⟨by rfl, fun _ _ => by go_simp⟩) (hHeld) ?_
  simp only [Act.put, List.setIfInBounds_toArray, List.set_cons_zero, List.set_cons_succ]
  refine held_takeD 3 (.slice Ac kc cc) (some 46) (by rfl) (by rfl) (by kernel_rfl) (by kernel_rfl) (by kernel_rfl) (fun _ _ _ h => h) (.inl ⟨by rfl, fun wS hS => by have hc := (unhide X10 wS hS).1; go_simp⟩) (hHeld) ?_
  simp only [Act.put, List.setIfInBounds_toArray, List.set_cons_zero, List.set_cons_succ]
  refine held_takeD 4 (.pointer (some ⟨gf, 0, none⟩)) (some 47) (by rfl) (by rfl) (by kernel_rfl) (by kernel_rfl) (by kernel_rfl) (fun _ _ _ h => h) (.inl ⟨by rfl, fun _ _ => by rfl⟩) (hHeld) ?_
  simp only [Act.put, List.setIfInBounds_toArray, List.set_cons_zero, List.set_cons_succ]
  refine held_takeD 5 (.pointer (some ⟨gf, 0, none⟩)) (some 48) (by rfl) (by rfl) (by kernel_rfl) (by kernel_rfl) (by kernel_rfl) (fun _ _ _ h => h) (.inl ⟨by rfl, fun _ _ => by go_simp⟩) (hHeld) ?_
  simp only [Act.put, List.setIfInBounds_toArray, List.set_cons_zero, List.set_cons_succ]
  refine held_takeD 6 (.pointer (some ⟨gf, 3, none⟩)) (some 49) (by rfl) (by rfl) (by kernel_rfl) (by kernel_rfl) (by kernel_rfl) (fun _ _ _ h => h) (.inl ⟨by rfl, fun _ _ => by go_simp⟩) (hHeld) ?_
  simp only [Act.put, List.setIfInBounds_toArray, List.set_cons_zero, List.set_cons_succ]
  refine held_takeD 7 (.slice Ap kp cp) (some 50) (by rfl) (by rfl) (by kernel_rfl) (by kernel_rfl) (by kernel_rfl) (fun _ _ _ h => h) (.inl ⟨by rfl, fun wS hS => by have hc := (unhide X3 wS hS).1; go_simp⟩) (hHeld) ?_
  simp only [Act.put, List.setIfInBounds_toArray, List.set_cons_zero, List.set_cons_succ]
  refine held_takeD 10 (.int .u8 o) (some 53) (by rfl) (by rfl) (by kernel_rfl) (by kernel_rfl) (by kernel_rfl) (fun _ _ _ h => h) (.inl ⟨by rfl, fun _ _ => by rfl⟩) (hHeld) ?_
  simp only [Act.put, List.setIfInBounds_toArray, List.set_cons_zero, List.set_cons_succ]
  refine held_one 8 (by kernel_rfl) (by rfl) (fun K' hK' => ?_)
  go_simp
  refine (num_any 1 w.drew (by omega)).mono ?_
  rintro e w2 ⟨A2, k2, c2, rfl, n2, N2, b2⟩
  refine hK'.out _ _ (dW.trans (b2.mono dW.size)) ?_
  clear hK' K'
  have d2 := dW.trans (b2.mono dW.size)
  refine held_one 9 (by kernel_rfl) (by rfl) (fun K' hK' => ?_)
  go_simp
  refine ((unhide X3 w2 d2).2.add n2 (by omega) (by omega)).mono ?_
  rintro e w3 ⟨A3, k3, c3, rfl, n3, N3, b3⟩
  refine hK'.out _ _ (d2.trans (b3.mono d2.size)) ?_
  clear hK' K'
  have d3 := d2.trans (b3.mono d2.size)
  refine held_one 11 (by kernel_rfl) (by rfl) (fun K' hK' => ?_)
  go_simp
  refine (unhide (HIM w3)).mono ?_
  rintro e w4 ⟨rfl, rfl⟩
  refine hK'.out _ _ (d3) ?_
  clear hK' K'
  have hwk : IntKind.u64.wrap (ik : Int) = (ik : Int) := by rw [IntKind.wrap_u64]; omega
  refine held_takeD 12 (.int .u64 ik) (some 55) (by rfl) (by rfl) (by kernel_rfl) (by kernel_rfl) (by kernel_rfl) (fun _ _ _ h => h) (.inl ⟨by rfl, fun _ _ => by go_simp⟩) (d3) ?_
  simp only [Act.put, List.setIfInBounds_toArray, List.set_cons_zero, List.set_cons_succ]
  clear hwk
  refine held_one 13 (by kernel_rfl) (by rfl) (fun K' hK' => ?_)
  go_simp
  refine (num_any ik w3 (by omega)).mono ?_
  rintro e w5 ⟨A5, k5, c5, rfl, n5, N5, b5⟩
  refine hK'.out _ _ (d3.trans (b5.mono d3.size)) ?_
  clear hK' K'
  have d5 := d3.trans (b5.mono d3.size)
  refine held_one 14 (by kernel_rfl) (by rfl) (fun K' hK' => ?_)
  go_simp
  refine (cut_in Ac kc cc code A3 A5 k3 c3 k5 c5 (pc + 1) ik w5 (unhide X10 w5 d5).2 (n3.kept b5) n5 (by omega) (by omega) (by omega)).mono ?_
  rintro e w6 ⟨g6, rfl, o6, hg6, b6⟩
  refine hK'.out _ _ (d5.trans (b6.mono d5.size)) ?_
  clear hK' K'
  have d6 := d5.trans (b6.mono d5.size)
  have hbl : ((code.drop (pc + 1)).take ik).length = ik := by rw [List.length_take, List.length_drop]; omega
  have hby : Byt ((code.drop (pc + 1)).take ik) := fun y hy => (unhide X10 w5 d5).2.byt y (List.mem_of_mem_drop (List.mem_of_mem_take hy))
  refine held_one 15 (by kernel_rfl) (by rfl) (fun K' hK' => ?_)
  go_simp
  refine (fromBE_any _ ik ik _ w6 (o6.src_all hby ik hbl.symm (by unfold maxLen; omega)) (by omega)).mono ?_
  rintro e w7 ⟨A7, k7, c7, rfl, n7, N7, b7⟩
  refine hK'.out _ _ (d6.trans (b7.mono d6.size)) ?_
  clear hK' K'
  refine held_takeD 16 (.slice A7 k7 c7) (some 8) (by rfl) (by rfl) (by kernel_rfl) (by kernel_rfl) (by kernel_rfl) (fun _ _ _ h => h) (.inl ⟨by rfl, fun _ _ => by rfl⟩) (d6.trans (b7.mono d6.size)) ?_
  simp only [Act.put, List.setIfInBounds_toArray, List.set_cons_zero, List.set_cons_succ]
  refine wpAnyH_done (by kernel_rfl) ?_ _
  refine NoPanic.normal ?_
  have NN7 := hide n7
  clear n7 n5 n3 n2 o6
  go_wp2
  go_ret
  exact ⟨A7, k7, c7, rfl, unhide NN7, N7.later d6.size, d6.trans (b7.mono d6.size)⟩

end Go.Proofs.YgcsakGreat
