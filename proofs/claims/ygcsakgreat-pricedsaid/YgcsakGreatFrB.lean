/-
  yp: a frame in memory; arg, opcode.
-/
import Derived.Test.YgcsakGreatFrA
namespace Go.Proofs.YgcsakGreat
set_option linter.unusedVariables false
set_option linter.unusedSimpArgs false
set_option maxRecDepth 100000
open Go.RowKit

/-- the blocks that a step turns: the chain's and the frames' -/
def GF (bw gf : Nat) (k : Nat) : Prop := k = bw ∨ k = gf
def SNat (G : Nat → Prop) (w : World) (r : List Value) (n : Nat) : Prop := ∃ A k c, r = [.slice A k c] ∧ StabS G (fun w => IsNat w A k c n) w
theorem SNat.go {G : Nat → Prop} {w w' : World} {r : List Value} {n : Nat} (h : SNat G w r n) (hc : ChgS G w w') : SNat G w' r n := by
  obtain ⟨A, k, c, h1, h2⟩ := h
  exact ⟨A, k, c, h1, h2.go hc (fun _ h _ => h)⟩
def SStk (G : Nat → Prop) (w : World) (ao : Option Addr) (l c : Nat) (stk : List Nat) : Prop := ∃ rows, StabS G (fun w => Rws w 1 ao l c rows) w ∧ Each (SNat G w) rows stk
theorem SStk.go {G : Nat → Prop} {w w' : World} {ao : Option Addr} {l c : Nat} {stk : List Nat} (h : SStk G w ao l c stk) (hc : ChgS G w w') : SStk G w' ao l c stk := by
  obtain ⟨rows, h1, h2⟩ := h
  exact ⟨rows, h1.go hc (fun _ h _ => h), h2.imp fun _ _ h => h.go hc⟩
theorem SStk.len {G : Nat → Prop} {w : World} {ao : Option Addr} {l c : Nat} {stk : List Nat} (h : SStk G w ao l c stk) : stk.length = l := by
  obtain ⟨rows, h1, h2⟩ := h
  rw [← h2.len, h1.now.len_eq]

/-- the top frame -/
structure FM (bw gf : Nat) (fr : List Value) (pc gas : Nat) (stk : List Nat) (mem code : List Int) (w : World) : Prop where
  row : RowT 194 w gf fr
  len : 60 ≤ fr.length
  native : fr[1]? = some (.int .u8 0)
  static : fr[2]? = some (.bool false)
  pcN : ∃ A k c, fr[3]? = some (.slice A k c) ∧ StabS (GF bw gf) (fun w => IsNat w A k c pc) w
  gasN : ∃ A k c, fr[4]? = some (.slice A k c) ∧ StabS (GF bw gf) (fun w => IsNat w A k c gas) w
  stkN : ∃ A k c, fr[8]? = some (.slice A k c) ∧ SStk (GF bw gf) w A k c stk
  memN : ∃ A k c, fr[9]? = some (.slice A k c) ∧ StabS (GF bw gf) (fun w => Src w A k c mem) w
  codeN : ∃ A k c, fr[10]? = some (.slice A k c) ∧ StabS (GF bw gf) (fun w => Src w A k c code) w
theorem FM.go {bw gf : Nat} {fr : List Value} {pc gas : Nat} {stk : List Nat} {mem code : List Int} {w w' : World} (h : FM bw gf fr pc gas stk mem code w) (hc : ChgS (GF bw gf) w w') (hr : RowT 194 w' gf fr) : FM bw gf fr pc gas stk mem code w' := by
  obtain ⟨A1, k1, c1, p1, p2⟩ := h.pcN
  obtain ⟨A2, k2, c2, g1, g2⟩ := h.gasN
  obtain ⟨A3, k3, c3, s1, s2⟩ := h.stkN
  obtain ⟨A4, k4, c4, m1, m2⟩ := h.memN
  obtain ⟨A5, k5, c5, e1, e2⟩ := h.codeN
  exact ⟨hr, h.len, h.native, h.static, ⟨A1, k1, c1, p1, p2.go hc (fun _ h _ => h)⟩, ⟨A2, k2, c2, g1, g2.go hc (fun _ h _ => h)⟩, ⟨A3, k3, c3, s1, s2.go hc⟩, ⟨A4, k4, c4, m1, m2.go hc (fun _ h _ => h)⟩, ⟨A5, k5, c5, e1, e2.go hc (fun _ h _ => h)⟩⟩
theorem FM.kept {bw gf : Nat} {fr : List Value} {pc gas : Nat} {stk : List Nat} {mem code : List Int} {w w' : World} (h : FM bw gf fr pc gas stk mem code w) (hb : Below w.heap.size w w') : FM bw gf fr pc gas stk mem code w' :=
  h.go (ChgS.of hb) (h.row.kept hb)

/-- operand i, 0 the top -/
def argN (stk : List Nat) (i : Nat) : Nat := stk.reverse.getD i 0
theorem argN_at (stk : List Nat) (i : Nat) (h : i < stk.length) : argN stk i = stk.getD (stk.length - 1 - i) 0 := by
  unfold argN
  rw [List.getD_eq_getElem?_getD, List.getD_eq_getElem?_getD, List.getElem?_reverse h]
theorem argN_none (stk : List Nat) (i : Nat) (h : stk.length ≤ i) : argN stk i = 0 := by
  unfold argN
  rw [List.getD_eq_getElem?_getD, List.getElem?_eq_none (by rw [List.length_reverse]; exact h)]
  rfl

set_option maxHeartbeats 4000000 in
theorem arg_any {bw gf : Nat} {fr : List Value} {pc gas : Nat} {stk : List Nat} {mem code : List Int} {w : World} (h : FM bw gf fr pc gas stk mem code w) (hl : stk.length ≤ 1024) (i : Nat) (hi : i ≤ 1024) :
    Calls Sakg.prog 118 #[.pointer (some ⟨gf, 0, none⟩), .int .i64 i] w fun e w' => (∃ A k c, e = .returned (.slice A k c) ∧ StabS (GF bw gf) (fun w => IsNat w A k c (argN stk i)) w) ∧ Quiet w w' := by
  obtain ⟨A, l, c, s1, ⟨rows, s2, s3⟩⟩ := h.stkN
  have hlen : stk.length = l := by rw [← s3.len, s2.now.len_eq]
  have e8 : w.cell? ⟨gf, 8, none⟩ = some (.slice A l c) := by rw [h.row.cell]; exact s1
  by_cases hil : i < l
  · have t0 : decide ((l : Int) ≤ (i : Int)) = false := decide_eq_false (by omega)
    obtain ⟨b, off, rfl, hlt, hat⟩ := rows_at' 0 s2.now s3 (by omega)
    obtain ⟨r, hrg, hrow⟩ := hat (l - 1 - i) (by omega)
    obtain ⟨A1, k1, c1, rfl, hn⟩ := hrow
    have hcell : w.cell? ⟨b, off + (l - 1 - i), none⟩ = some (.slice A1 k1 c1) := by
      have := hrg 0 _ rfl
      rwa [Nat.mul_one, Nat.add_zero] at this
    have hval : argN stk i = stk.getD (l - 1 - i) 0 := by rw [argN_at stk i (by omega), hlen]
    rw [← hval] at hn
    obtain ⟨j, hj⟩ : ∃ j, j = l - 1 - i := ⟨_, rfl⟩
    rw [← hj] at hcell
    have e1 : (l : Int) - 1 - (i : Int) = (j : Int) := by omega
    have hjl : j < l := by omega
    have HN := hide hn
    clear hn hrg hat s2 s3 hval hj h
    go_enter Sakg.func118, Sakg.ntmps118
    go_wp2_with fail
    go_quiet (fail)
    go_wp2
    go_ret
    exact ⟨⟨A1, k1, c1, rfl, unhide HN⟩, ⟨_, rfl⟩⟩
  · have t0 : decide ((l : Int) ≤ (i : Int)) = true := decide_eq_true (by omega)
    have hz := argN_none stk i (by omega)
    rw [hz]
    clear s2 s3 hz h
    go_enter Sakg.func118, Sakg.ntmps118
    go_wp2
    go_ret
    exact ⟨⟨none, 0, 0, rfl, StabS.nat (IsNat.nil _) (OffS.nil _ _)⟩, Quiet.refl _⟩

def opN (code : List Int) (pc : Nat) : Int := if pc < code.length then code.getD pc 0 else 0
set_option maxHeartbeats 4000000 in
theorem opcode_any {bw gf : Nat} {fr : List Value} {pc gas : Nat} {stk : List Nat} {mem code : List Int} {w : World} (h : FM bw gf fr pc gas stk mem code w) (hpc : pc < BIG) (hcl : code.length ≤ 100000) (hin : pc < code.length) :
    Calls Sakg.prog 112 #[.pointer (some ⟨gf, 0, none⟩)] w fun e w' => e = .returned (.int .u8 (code.getD pc 0)) ∧ Quiet w w' := by
  obtain ⟨A1, k1, c1, p1, p2⟩ := h.pcN
  obtain ⟨A5, k5, c5, e1, e2⟩ := h.codeN
  have hlen := e2.now.len_eq
  have x3 : ∀ n, (w.drewN n).cell? ⟨gf, 3, none⟩ = some (.slice A1 k1 c1) := fun n => by rw [(h.row.kept (Quiet.below ⟨n, rfl⟩ _)).cell]; exact p1
  have x10 : ∀ n, (w.drewN n).cell? ⟨gf, 10, none⟩ = some (.slice A5 k5 c5) := fun n => by rw [(h.row.kept (Quiet.below ⟨n, rfl⟩ _)).cell]; exact e1
  obtain ⟨b, off, rfl, hcs⟩ := e2.now.at_ (by omega)
  have hlt := e2.now.lt _ rfl (by omega)
  have hci : ∀ n, (w.drewN n).cell? ⟨b, off + pc, none⟩ = some (.int .u8 (code.getD pc 0)) := fun n => by
    rw [(show Below w.heap.size w (w.drewN n) from Quiet.below ⟨n, rfl⟩ _).cell (p := ⟨b, off + pc, none⟩) hlt]
    exact hcs pc (by omega)
  generalize code.getD pc 0 = ob at hci
  have HPL : ∀ wz, Below w.heap.size w wz → Hid (Calls Sakg.prog 201 #[.slice A1 k1 c1, .int .i64 k5] wz fun e w' => e = .returned (.tuple #[.int .i64 pc, .bool true]) ∧ wz = w') := fun wz hz => hide (by
    have := place_any A1 k1 c1 pc k5 wz (p2.go (ChgS.of (G := GF bw gf) hz) (fun _ h _ => h)).now hpc (by omega)
    rw [show placeN pc k5 = pc from if_pos (by omega), decide_eq_true (show pc < k5 by omega)] at this
    exact this)
  clear h p1 p2 e1 e2 hcs
  go_enter Sakg.func112, Sakg.ntmps112
  go_upto_region 1 with fail
  have dW : Below w.heap.size w w.drew := Quiet.below ⟨1, rfl⟩ _
  have y3 : w.cell? ⟨gf, 3, none⟩ = some (.slice A1 k1 c1) := x3 0
  have y10 : w.cell? ⟨gf, 10, none⟩ = some (.slice (some ⟨b, off, none⟩) k5 c5) := x10 0
  have yc : w.cell? ⟨b, off + pc, none⟩ = some (.int .u8 ob) := hci 0
  have Y3 := hide y3
  have Y10 := hide y10
  have HP := HPL w.drew dW
  clear x3 x10 hci HPL y3
  refine wp_region_noPanic ?_
  refine wp_region_held_drew (S := fun w' => w' = w.drew) (by kernel_rfl) (rfl) (fun hHeld => ?_)
  refine held_takeD 0 (.pointer (some ⟨gf, 0, none⟩)) (some 6) (by rfl) (by rfl) (by kernel_rfl) (by kernel_rfl) (by kernel_rfl) (fun _ _ _ h => h) (.inl ⟨by rfl, fun _ _ => by rfl⟩) (hHeld) ?_
  simp only [Act.put, List.setIfInBounds_toArray, List.set_cons_zero, List.set_cons_succ]
  refine held_takeD 1 (.pointer (some ⟨gf, 0, none⟩)) (some 7) (by rfl) (by rfl) (by kernel_rfl) (by kernel_rfl) (by kernel_rfl) (fun _ _ _ h => h) (.inl ⟨by rfl, fun _ _ => by go_simp⟩) (hHeld) ?_
  simp only [Act.put, List.setIfInBounds_toArray, List.set_cons_zero, List.set_cons_succ]
  refine held_takeD 2 (.pointer (some ⟨gf, 3, none⟩)) (some 8) (by rfl) (by rfl) (by kernel_rfl) (by kernel_rfl) (by kernel_rfl) (fun _ _ _ h => h) (.inl ⟨by rfl, fun _ _ => by go_simp⟩) (hHeld) ?_
  simp only [Act.put, List.setIfInBounds_toArray, List.set_cons_zero, List.set_cons_succ]
  refine held_takeD 3 (.slice A1 k1 c1) (some 9) (by rfl) (by rfl) (by kernel_rfl) (by kernel_rfl) (by kernel_rfl) (fun _ _ _ h => h) (.inl ⟨by rfl, fun wS hS => by obtain rfl : wS = w.drew := hS; have hc := unhide Y3; go_simp⟩) (hHeld) ?_
  simp only [Act.put, List.setIfInBounds_toArray, List.set_cons_zero, List.set_cons_succ]
  refine held_takeD 4 (.pointer (some ⟨gf, 0, none⟩)) (some 10) (by rfl) (by rfl) (by kernel_rfl) (by kernel_rfl) (by kernel_rfl) (fun _ _ _ h => h) (.inl ⟨by rfl, fun _ _ => by rfl⟩) (hHeld) ?_
  simp only [Act.put, List.setIfInBounds_toArray, List.set_cons_zero, List.set_cons_succ]
  refine held_takeD 5 (.pointer (some ⟨gf, 0, none⟩)) (some 11) (by rfl) (by rfl) (by kernel_rfl) (by kernel_rfl) (by kernel_rfl) (fun _ _ _ h => h) (.inl ⟨by rfl, fun _ _ => by go_simp⟩) (hHeld) ?_
  simp only [Act.put, List.setIfInBounds_toArray, List.set_cons_zero, List.set_cons_succ]
  refine held_takeD 6 (.pointer (some ⟨gf, 10, none⟩)) (some 12) (by rfl) (by rfl) (by kernel_rfl) (by kernel_rfl) (by kernel_rfl) (fun _ _ _ h => h) (.inl ⟨by rfl, fun _ _ => by go_simp⟩) (hHeld) ?_
  simp only [Act.put, List.setIfInBounds_toArray, List.set_cons_zero, List.set_cons_succ]
  refine held_takeD 7 (.slice (some ⟨b, off, none⟩) k5 c5) (some 13) (by rfl) (by rfl) (by kernel_rfl) (by kernel_rfl) (by kernel_rfl) (fun _ _ _ h => h) (.inl ⟨by rfl, fun wS hS => by obtain rfl : wS = w.drew := hS; have hc := unhide Y10; go_simp⟩) (hHeld) ?_
  simp only [Act.put, List.setIfInBounds_toArray, List.set_cons_zero, List.set_cons_succ]
  refine held_takeD 8 (.int .i64 k5) (some 14) (by rfl) (by rfl) (by kernel_rfl) (by kernel_rfl) (by kernel_rfl) (fun _ _ _ h => h) (.inl ⟨by rfl, fun _ _ => by go_simp⟩) (hHeld) ?_
  simp only [Act.put, List.setIfInBounds_toArray, List.set_cons_zero, List.set_cons_succ]
  refine held_one 9 (by kernel_rfl) (by rfl) (fun K' hK' => ?_)
  go_simp
  refine (unhide HP).mono ?_
  rintro e w1 ⟨rfl, rfl⟩
  refine hK'.out _ _ (rfl) ?_
  clear hK' K'
  refine held_takeD 10 (.tuple #[.int .i64 pc, .bool true]) (some 5) (by rfl) (by rfl) (by kernel_rfl) (by kernel_rfl) (by kernel_rfl) (fun _ _ _ h => h) (.inl ⟨by rfl, fun _ _ => by rfl⟩) (rfl) ?_
  simp only [Act.put, List.setIfInBounds_toArray, List.set_cons_zero, List.set_cons_succ]
  refine held_takeD 11 (.int .i64 pc) (some 16) (by rfl) (by rfl) (by kernel_rfl) (by kernel_rfl) (by kernel_rfl) (fun _ _ _ h => h) (.inl ⟨by rfl, fun _ _ => by go_simp⟩) (rfl) ?_
  simp only [Act.put, List.setIfInBounds_toArray, List.set_cons_zero, List.set_cons_succ]
  refine held_takeD 12 (.bool true) (some 17) (by rfl) (by rfl) (by kernel_rfl) (by kernel_rfl) (by kernel_rfl) (fun _ _ _ h => h) (.inl ⟨by rfl, fun _ _ => by go_simp⟩) (rfl) ?_
  simp only [Act.put, List.setIfInBounds_toArray, List.set_cons_zero, List.set_cons_succ]
  refine held_takeD 13 (.int .i64 pc) (some 3) (by rfl) (by rfl) (by kernel_rfl) (by kernel_rfl) (by kernel_rfl) (fun _ _ _ h => h) (.inl ⟨by rfl, fun _ _ => by rfl⟩) (rfl) ?_
  simp only [Act.put, List.setIfInBounds_toArray, List.set_cons_zero, List.set_cons_succ]
  refine held_takeD 14 (.bool true) (some 4) (by rfl) (by rfl) (by kernel_rfl) (by kernel_rfl) (by kernel_rfl) (fun _ _ _ h => h) (.inl ⟨by rfl, fun _ _ => by rfl⟩) (rfl) ?_
  simp only [Act.put, List.setIfInBounds_toArray, List.set_cons_zero, List.set_cons_succ]
  refine wpAnyH_done (by kernel_rfl) ?_ _
  refine NoPanic.normal ?_
  have hpk : pc < k5 := by omega
  go_wp2
  go_ret
  exact ⟨rfl, ⟨1, rfl⟩⟩

end Go.Proofs.YgcsakGreat
