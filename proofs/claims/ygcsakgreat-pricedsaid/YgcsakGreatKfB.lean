/-
  yp: arg, opcode, read, write, grow of a frame wherever it lies.
-/
import Derived.Test.YgcsakGreatKpB
namespace Go.Proofs.YgcsakGreat
set_option linter.unusedVariables false
set_option linter.unusedSimpArgs false
set_option maxRecDepth 100000
open Go.RowKit

set_option maxHeartbeats 4000000 in
theorem FX.arg {G : Nat → Prop} {gf o : Nat} {fr : List Value} {f : FD} {w : World} (h : FX G gf o fr f w) (hl : f.stk.length ≤ 1024) (i : Nat) (hi : i ≤ 1024) :
    Calls Sakg.prog 118 #[.pointer (some ⟨gf, o, none⟩), .int .i64 i] w fun e w' => (∃ A k c, e = .returned (.slice A k c) ∧ KNat G w A k c (argN f.stk i)) ∧ Quiet w w' := by
  obtain ⟨A, l, c, s1, ⟨rows, s2, s3⟩⟩ := h.kf.stk
  have hlen : f.stk.length = l := by rw [← s3.len, s2.now.len_eq]
  have e8 : w.cell? ⟨gf, o + 8, none⟩ = some (.slice A l c) := h.cell s1
  by_cases hil : i < l
  · have t0 : decide ((l : Int) ≤ (i : Int)) = false := decide_eq_false (by omega)
    obtain ⟨b, off, rfl, hlt, hat⟩ := rows_at' 0 s2.now s3 (by omega)
    obtain ⟨r, hrg, hrow⟩ := hat (l - 1 - i) (by omega)
    obtain ⟨A1, k1, c1, rfl, hn⟩ := hrow
    have hcell : w.cell? ⟨b, off + (l - 1 - i), none⟩ = some (.slice A1 k1 c1) := by
      have := hrg 0 _ rfl
      rwa [Nat.mul_one, Nat.add_zero] at this
    have hval : argN f.stk i = f.stk.getD (l - 1 - i) 0 := by rw [argN_at f.stk i (by omega), hlen]
    rw [← hval] at hn
    obtain ⟨j, hj⟩ : ∃ j, j = l - 1 - i := ⟨_, rfl⟩
    rw [← hj] at hcell
    have e1 : (l : Int) - 1 - (i : Int) = (j : Int) := by omega
    have hjl : j < l := by omega
    have HN := hide hn
    clear hn hrg hat s2 s3 hval hj h s1
    go_enter Sakg.func118, Sakg.ntmps118
    go_wp2_with fail
    go_quiet (fail)
    go_wp2
    go_ret
    exact ⟨⟨A1, k1, c1, rfl, unhide HN⟩, ⟨_, rfl⟩⟩
  · have t0 : decide ((l : Int) ≤ (i : Int)) = true := decide_eq_true (by omega)
    have hz := argN_none f.stk i (by omega)
    rw [hz]
    clear s2 s3 hz h s1
    go_enter Sakg.func118, Sakg.ntmps118
    go_wp2
    go_ret
    exact ⟨⟨none, 0, 0, rfl, StabS.nat (IsNat.nil _) (OffS.nil _ _)⟩, Quiet.refl _⟩

theorem argN_lt {stk : List Nat} (h : ∀ x ∈ stk, x < P256) (i : Nat) : argN stk i < P256 := by
  unfold argN
  rw [List.getD_eq_getElem?_getD]
  cases hx : stk.reverse[i]? with
  | none => exact p256_pos
  | some x => exact h x (List.mem_reverse.1 (List.mem_of_getElem? hx))

def OpR (f : FD) (e : Ending) : Prop := ∃ b : Nat, e = .returned (.int .u8 b) ∧ b ≤ 255 ∧ (b ≠ 0 → f.pc < f.code.length)
set_option maxHeartbeats 4000000 in
theorem FX.opcode {G : Nat → Prop} {gf o : Nat} {fr : List Value} {f : FD} {w : World} (h : FX G gf o fr f w) (hpc : f.pc < BIG) (hcl : f.code.length ≤ 100000) :
    Calls Sakg.prog 112 #[.pointer (some ⟨gf, o, none⟩)] w fun e w' => OpR f e ∧ Below w.heap.size w w' := by
  obtain ⟨A1, k1, c1, p1, p2⟩ := h.kf.pc
  obtain ⟨A5, k5, c5, e1, e2⟩ := h.kf.code
  have hlen := e2.now.len_eq
  have x3 : w.cell? ⟨gf, o + 3, none⟩ = some (.slice A1 k1 c1) := h.cell p1
  have x10 : w.cell? ⟨gf, o + 10, none⟩ = some (.slice A5 k5 c5) := h.cell e1
  have dW : Below w.heap.size w w.drew := Quiet.below ⟨1, rfl⟩ _
  have HP := hide (place_any A1 k1 c1 f.pc k5 w.drew (p2.kp (ChgS.of dW)).now hpc (by omega))
  have Y3 := hide x3
  have Y10 := hide x10
  by_cases hin : f.pc < k5
  · obtain ⟨b, off, rfl, hcs⟩ := e2.now.at_ (by omega)
    have yc : w.cell? ⟨b, off + f.pc, none⟩ = some (.int .u8 (f.code.getD f.pc 0)) := hcs f.pc (by omega)
    have hby := e2.now.byt (f.code.getD f.pc 0) (by rw [List.getD_eq_getElem?_getD, List.getElem?_eq_getElem (by omega)]; simp)
    obtain ⟨ob, hob⟩ : ∃ ob : Nat, (ob : Int) = f.code.getD f.pc 0 := ⟨(f.code.getD f.pc 0).toNat, by omega⟩
    rw [← hob] at yc hby
    rw [show placeN f.pc k5 = f.pc from if_pos hin, decide_eq_true hin] at HP
    have hpl : f.pc < f.code.length := by omega
    obtain ⟨pc, hpce⟩ : ∃ pc, pc = f.pc := ⟨_, rfl⟩
    rw [← hpce] at HP hin yc
    have HPL := hide hpl
    clear hpce hpl
    clear h p1 p2 e1 e2 hcs hob x3 hpc
    go_enter Sakg.func112, Sakg.ntmps112
    go_upto_region 1 with fail
    refine wp_region_noPanic ?_
    refine wp_region_held_drew (S := fun w' => w' = w.drew) (by kernel_rfl) (rfl) (fun hHeld => ?_)
    refine held_takeD 0 (.pointer (some ⟨gf, o, none⟩)) (some 6) (by rfl) (by rfl) (by kernel_rfl) (by kernel_rfl) (by kernel_rfl) (fun _ _ _ h => h) (.inl ⟨by rfl, fun _ _ => by rfl⟩) (hHeld) ?_
    simp only [Act.put, List.setIfInBounds_toArray, List.set_cons_zero, List.set_cons_succ]
    refine held_takeD 1 (.pointer (some ⟨gf, o, none⟩)) (some 7) (by rfl) (by rfl) (by kernel_rfl) (by kernel_rfl) (by kernel_rfl) (fun _ _ _ h => h) (.inl ⟨by rfl, fun _ _ => by go_simp⟩) (hHeld) ?_
    simp only [Act.put, List.setIfInBounds_toArray, List.set_cons_zero, List.set_cons_succ]
    refine held_takeD 2 (.pointer (some ⟨gf, o + 3, none⟩)) (some 8) (by rfl) (by rfl) (by kernel_rfl) (by kernel_rfl) (by kernel_rfl) (fun _ _ _ h => h) (.inl ⟨by rfl, fun _ _ => by go_simp⟩) (hHeld) ?_
    simp only [Act.put, List.setIfInBounds_toArray, List.set_cons_zero, List.set_cons_succ]
    refine held_takeD 3 (.slice A1 k1 c1) (some 9) (by rfl) (by rfl) (by kernel_rfl) (by kernel_rfl) (by kernel_rfl) (fun _ _ _ h => h) (.inl ⟨by rfl, fun wS hS => by obtain rfl : wS = w.drew := hS; have hc := unhide Y3; go_simp⟩) (hHeld) ?_
    simp only [Act.put, List.setIfInBounds_toArray, List.set_cons_zero, List.set_cons_succ]
    refine held_takeD 4 (.pointer (some ⟨gf, o, none⟩)) (some 10) (by rfl) (by rfl) (by kernel_rfl) (by kernel_rfl) (by kernel_rfl) (fun _ _ _ h => h) (.inl ⟨by rfl, fun _ _ => by rfl⟩) (hHeld) ?_
    simp only [Act.put, List.setIfInBounds_toArray, List.set_cons_zero, List.set_cons_succ]
    refine held_takeD 5 (.pointer (some ⟨gf, o, none⟩)) (some 11) (by rfl) (by rfl) (by kernel_rfl) (by kernel_rfl) (by kernel_rfl) (fun _ _ _ h => h) (.inl ⟨by rfl, fun _ _ => by go_simp⟩) (hHeld) ?_
    simp only [Act.put, List.setIfInBounds_toArray, List.set_cons_zero, List.set_cons_succ]
    refine held_takeD 6 (.pointer (some ⟨gf, o + 10, none⟩)) (some 12) (by rfl) (by rfl) (by kernel_rfl) (by kernel_rfl) (by kernel_rfl) (fun _ _ _ h => h) (.inl ⟨by rfl, fun _ _ => by go_simp⟩) (hHeld) ?_
    simp only [Act.put, List.setIfInBounds_toArray, List.set_cons_zero, List.set_cons_succ]
    refine held_takeD 7 (.slice (some ⟨b, off, none⟩) k5 c5) (some 13) (by rfl) (by rfl) (by kernel_rfl) (by kernel_rfl) (by kernel_rfl) (fun _ _ _ h => h) (.inl ⟨by rfl, fun wS hS => by obtain rfl : wS = w.drew := hS; have hc := unhide Y10; go_simp⟩) (hHeld) ?_
    simp only [Act.put, List.setIfInBounds_toArray, List.set_cons_zero, List.set_cons_succ]
    refine held_takeD 8 (.int .i64 k5) (some 14) (by rfl) (by rfl) (by kernel_rfl) (by kernel_rfl) (by kernel_rfl) (fun _ _ _ h => h) (.inl ⟨by rfl, fun _ _ => by go_simp⟩) (hHeld) ?_
    simp only [Act.put, List.setIfInBounds_toArray, List.set_cons_zero, List.set_cons_succ]
    refine held_one 9 (by kernel_rfl) (by rfl) (fun K' hK' => ?_)
    go_simp
    refine (unhide HP).mono ?_
    rintro e w1 ⟨rfl, rfl⟩
    refine hK'.out _ _ (rfl) ?_
    clear hK' K'
    refine held_takeD 10 (.tuple #[.int .i64 pc, .bool true]) (some 5) (by rfl) (by rfl) (by kernel_rfl) (by kernel_rfl) (by kernel_rfl) (fun _ _ _ h => h) (.inl ⟨by rfl, fun _ _ => by rfl⟩) (rfl) ?_
    simp only [Act.put, List.setIfInBounds_toArray, List.set_cons_zero, List.set_cons_succ]
    refine held_takeD 11 (.int .i64 pc) (some 16) (by rfl) (by rfl) (by kernel_rfl) (by kernel_rfl) (by kernel_rfl) (fun _ _ _ h => h) (.inl ⟨by rfl, fun _ _ => by go_simp⟩) (rfl) ?_
    simp only [Act.put, List.setIfInBounds_toArray, List.set_cons_zero, List.set_cons_succ]
    refine held_takeD 12 (.bool true) (some 17) (by rfl) (by rfl) (by kernel_rfl) (by kernel_rfl) (by kernel_rfl) (fun _ _ _ h => h) (.inl ⟨by rfl, fun _ _ => by go_simp⟩) (rfl) ?_
    simp only [Act.put, List.setIfInBounds_toArray, List.set_cons_zero, List.set_cons_succ]
    refine held_takeD 13 (.int .i64 pc) (some 3) (by rfl) (by rfl) (by kernel_rfl) (by kernel_rfl) (by kernel_rfl) (fun _ _ _ h => h) (.inl ⟨by rfl, fun _ _ => by rfl⟩) (rfl) ?_
    simp only [Act.put, List.setIfInBounds_toArray, List.set_cons_zero, List.set_cons_succ]
    refine held_takeD 14 (.bool true) (some 4) (by rfl) (by rfl) (by kernel_rfl) (by kernel_rfl) (by kernel_rfl) (fun _ _ _ h => h) (.inl ⟨by rfl, fun _ _ => by rfl⟩) (rfl) ?_
    simp only [Act.put, List.setIfInBounds_toArray, List.set_cons_zero, List.set_cons_succ]
    refine wpAnyH_done (by kernel_rfl) ?_ _
    refine NoPanic.normal ?_
    go_wp2
    go_ret
    exact ⟨⟨ob, rfl, by omega, fun _ => unhide HPL⟩, dW⟩
  · rw [show placeN f.pc k5 = 0 from if_neg hin, decide_eq_false hin] at HP
    clear h p1 p2 e1 e2 x3 x10
    go_enter Sakg.func112, Sakg.ntmps112
    go_upto_region 1 with fail
    refine wp_region_noPanic ?_
    refine wp_region_held_drew (S := fun w' => w' = w.drew) (by kernel_rfl) (rfl) (fun hHeld => ?_)
    refine held_takeD 0 (.pointer (some ⟨gf, o, none⟩)) (some 6) (by rfl) (by rfl) (by kernel_rfl) (by kernel_rfl) (by kernel_rfl) (fun _ _ _ h => h) (.inl ⟨by rfl, fun _ _ => by rfl⟩) (hHeld) ?_
    simp only [Act.put, List.setIfInBounds_toArray, List.set_cons_zero, List.set_cons_succ]
    refine held_takeD 1 (.pointer (some ⟨gf, o, none⟩)) (some 7) (by rfl) (by rfl) (by kernel_rfl) (by kernel_rfl) (by kernel_rfl) (fun _ _ _ h => h) (.inl ⟨by rfl, fun _ _ => by go_simp⟩) (hHeld) ?_
    simp only [Act.put, List.setIfInBounds_toArray, List.set_cons_zero, List.set_cons_succ]
    refine held_takeD 2 (.pointer (some ⟨gf, o + 3, none⟩)) (some 8) (by rfl) (by rfl) (by kernel_rfl) (by kernel_rfl) (by kernel_rfl) (fun _ _ _ h => h) (.inl ⟨by rfl, fun _ _ => by go_simp⟩) (hHeld) ?_
    simp only [Act.put, List.setIfInBounds_toArray, List.set_cons_zero, List.set_cons_succ]
    refine held_takeD 3 (.slice A1 k1 c1) (some 9) (by rfl) (by rfl) (by kernel_rfl) (by kernel_rfl) (by kernel_rfl) (fun _ _ _ h => h) (.inl ⟨by rfl, fun wS hS => by obtain rfl : wS = w.drew := hS; have hc := unhide Y3; go_simp⟩) (hHeld) ?_
    simp only [Act.put, List.setIfInBounds_toArray, List.set_cons_zero, List.set_cons_succ]
    refine held_takeD 4 (.pointer (some ⟨gf, o, none⟩)) (some 10) (by rfl) (by rfl) (by kernel_rfl) (by kernel_rfl) (by kernel_rfl) (fun _ _ _ h => h) (.inl ⟨by rfl, fun _ _ => by rfl⟩) (hHeld) ?_
    simp only [Act.put, List.setIfInBounds_toArray, List.set_cons_zero, List.set_cons_succ]
    refine held_takeD 5 (.pointer (some ⟨gf, o, none⟩)) (some 11) (by rfl) (by rfl) (by kernel_rfl) (by kernel_rfl) (by kernel_rfl) (fun _ _ _ h => h) (.inl ⟨by rfl, fun _ _ => by go_simp⟩) (hHeld) ?_
    simp only [Act.put, List.setIfInBounds_toArray, List.set_cons_zero, List.set_cons_succ]
    refine held_takeD 6 (.pointer (some ⟨gf, o + 10, none⟩)) (some 12) (by rfl) (by rfl) (by kernel_rfl) (by kernel_rfl) (by kernel_rfl) (fun _ _ _ h => h) (.inl ⟨by rfl, fun _ _ => by go_simp⟩) (hHeld) ?_
    simp only [Act.put, List.setIfInBounds_toArray, List.set_cons_zero, List.set_cons_succ]
    refine held_takeD 7 (.slice A5 k5 c5) (some 13) (by rfl) (by rfl) (by kernel_rfl) (by kernel_rfl) (by kernel_rfl) (fun _ _ _ h => h) (.inl ⟨by rfl, fun wS hS => by obtain rfl : wS = w.drew := hS; have hc := unhide Y10; go_simp⟩) (hHeld) ?_
    simp only [Act.put, List.setIfInBounds_toArray, List.set_cons_zero, List.set_cons_succ]
    refine held_takeD 8 (.int .i64 k5) (some 14) (by rfl) (by rfl) (by kernel_rfl) (by kernel_rfl) (by kernel_rfl) (fun _ _ _ h => h) (.inl ⟨by rfl, fun _ _ => by go_simp⟩) (hHeld) ?_
    simp only [Act.put, List.setIfInBounds_toArray, List.set_cons_zero, List.set_cons_succ]
    refine held_one 9 (by kernel_rfl) (by rfl) (fun K' hK' => ?_)
    go_simp
    refine (unhide HP).mono ?_
    rintro e w1 ⟨rfl, rfl⟩
    refine hK'.out _ _ (rfl) ?_
    clear hK' K'
    refine held_takeD 10 (.tuple #[.int .i64 0, .bool false]) (some 5) (by rfl) (by rfl) (by kernel_rfl) (by kernel_rfl) (by kernel_rfl) (fun _ _ _ h => h) (.inl ⟨by rfl, fun _ _ => by rfl⟩) (rfl) ?_
    simp only [Act.put, List.setIfInBounds_toArray, List.set_cons_zero, List.set_cons_succ]
    refine held_takeD 11 (.int .i64 0) (some 16) (by rfl) (by rfl) (by kernel_rfl) (by kernel_rfl) (by kernel_rfl) (fun _ _ _ h => h) (.inl ⟨by rfl, fun _ _ => by go_simp⟩) (rfl) ?_
    simp only [Act.put, List.setIfInBounds_toArray, List.set_cons_zero, List.set_cons_succ]
    refine held_takeD 12 (.bool false) (some 17) (by rfl) (by rfl) (by kernel_rfl) (by kernel_rfl) (by kernel_rfl) (fun _ _ _ h => h) (.inl ⟨by rfl, fun _ _ => by go_simp⟩) (rfl) ?_
    simp only [Act.put, List.setIfInBounds_toArray, List.set_cons_zero, List.set_cons_succ]
    refine held_takeD 13 (.int .i64 0) (some 3) (by rfl) (by rfl) (by kernel_rfl) (by kernel_rfl) (by kernel_rfl) (fun _ _ _ h => h) (.inl ⟨by rfl, fun _ _ => by rfl⟩) (rfl) ?_
    simp only [Act.put, List.setIfInBounds_toArray, List.set_cons_zero, List.set_cons_succ]
    refine held_takeD 14 (.bool false) (some 4) (by rfl) (by rfl) (by kernel_rfl) (by kernel_rfl) (by kernel_rfl) (fun _ _ _ h => h) (.inl ⟨by rfl, fun _ _ => by rfl⟩) (rfl) ?_
    simp only [Act.put, List.setIfInBounds_toArray, List.set_cons_zero, List.set_cons_succ]
    refine wpAnyH_done (by kernel_rfl) ?_ _
    refine NoPanic.normal ?_
    go_wp2
    go_ret
    exact ⟨⟨0, rfl, by omega, fun h => absurd rfl h⟩, dW⟩

def ReadR (w : World) (n : Nat) (e : Ending) (w' : World) : Prop := ∃ A c ys, e = .returned (.slice A n c) ∧ Src w' A n c ys ∧ New w A ∧ Below w.heap.size w w'
set_option maxHeartbeats 4000000 in
theorem FX.read {G : Nat → Prop} {gf o : Nat} {fr : List Value} {f : FD} {w : World} (h : FX G gf o fr f w) (hml : f.ml ≤ 1000000) (a b : Option Addr) (la ca lb cb m n : Nat) (h1 : IsNat w a la ca m) (h2 : IsNat w b lb cb n) (hm : m < BIG) (hn : n ≤ 100000000) :
    Calls Sakg.prog 117 #[.pointer (some ⟨gf, o, none⟩), .slice a la ca, .slice b lb cb] w (ReadR w n) := by
  have hBB := big_ge
  obtain ⟨A, c, m1, m2⟩ := h.kf.mem
  have HZ := hide (isZero_any b lb cb n w h2 (by omega))
  have HFX := hide h
  have HH1 := hide h1
  have HH2 := hide h2
  by_cases h0 : n = 0
  · subst h0
    rw [decide_eq_true rfl] at HZ
    clear h m1 m2 h1 h2
    go_enter Sakg.func117, Sakg.ntmps117
    go_wp2_with (go_at_call 130; refine (unhide HZ).mono ?_; rintro e w1 ⟨rfl, n1, rfl⟩)
    go_ret
    exact ⟨none, 0, [], rfl, Src.ofNil _, New.nil _, Quiet.below ⟨n1, rfl⟩ _⟩
  · rw [decide_eq_false h0] at HZ
    have M2 := hide m2
    have M1 := hide m1
    clear h m1 m2 h1 h2
    go_enter Sakg.func117, Sakg.ntmps117
    go_wp2_with fail
    refine (unhide HZ).mono ?_
    rintro e w1 ⟨rfl, q1⟩
    have b1 : Below w.heap.size w w1 := q1.below _
    have y9 := ((unhide HFX).kept b1).cell (unhide M1)
    obtain ⟨xs, hxs⟩ := ((unhide M2).go (Tm.of b1)).src hml
    have HC := hide (cut_any A f.ml c xs a b la ca lb cb m n w1 hxs ((unhide HH1).kept b1) ((unhide HH2).kept b1) hm hn hml)
    clear q1 hxs
    go_wp2_with (go_at_call 211; refine (unhide HC).mono ?_; rintro e w2 ⟨g, ys, rfl, o2, hy2, hb2, l2, b2⟩; have O2 := hide o2; clear o2)
    go_ret
    exact ⟨_, n, ys, rfl, (unhide O2).src_all hb2 n hy2.symm (by unfold maxLen; omega), (fun x hx => by obtain rfl := Option.some.inj hx; exact Nat.le_trans b1.size l2), b1.trans (b2.mono b1.size)⟩

/-- 'copy' into a part of a block of bytes -/
theorem wpList_copy_mid {w : World} {ops : Array Oper} {rest : List Oper} {o : Oper} {a : Act} {Q : Exit → Act → World → Prop} (hgd : o.guard = none) (d s : Operand) (dT sT : TypeId)
    (ho : o.op = .call { callee := .builtin .copy, args := #[d, s], argTypes := #[dT, sT] }) (ht : Sakg.prog.underlying dT = some (.slice 5))
    (g p n dc : Nat) (hd : a.eval d = .slice (some ⟨g, p, none⟩) n dc) (N : Nat) (hg : MB w g N) (hz : p + n ≤ N)
    (A : Option Addr) (m c : Nat) (hs : a.eval s = .slice A m c) (xs : List Int) (hx : Src w A m c xs)
    (h : ∀ w' k, Only g w w' → MB w' g N → wpList Sakg.prog ops Q rest (a.put o.dst (.int .i64 k)) w') : wpList Sakg.prog ops Q (o :: rest) a w := by
  obtain ⟨i0, hi, hz0, hz1, hz2⟩ := info_parts Sakg.info5
  obtain ⟨zs, hg1, hg2, hg3⟩ := hg
  refine wpList_plain hgd fun K hK => ?_
  cases A with
  | none =>
    obtain ⟨rfl, rfl⟩ := hx.nil rfl
    have hrun := run_copy_nil (P := Sakg.prog) w dT sT o.type 5 ⟨g, p, none⟩ n dc ht (by rw [hi]; rfl)
    unfold Oper.wp
    simp [execOp, ho, resolve, invoke, builtin, hd, hs, hrun, Result.andThen]
    exact hK _ _ (h w 0 (Only.refl _ _) ⟨zs, hg1, hg2, hg3⟩)
  | some ad =>
    have hlen := hx.len_eq
    obtain ⟨ys, hys⟩ : ∃ ys, ys = xs.take (min m n) := ⟨_, rfl⟩
    have hyl : ys.length = min m n := by rw [hys, List.length_take]; omega
    have hyb : Byt ys := fun z hz => hx.byt z (List.mem_of_mem_take (hys ▸ hz))
    have hrun := run_copy_row (P := Sakg.prog) w dT sT o.type 5 g p n dc ad m c (bv zs).toArray 5 (bv ys) ht (by rw [hi]; simp [hz1]) hg1 (by rw [bv_len, hyl]) (by
      intro j u hj
      obtain ⟨hlt, rfl⟩ := bv_get ys j u hj
      obtain ⟨bb, off, hb, hcs⟩ := hx.at_ (by omega)
      obtain rfl := Option.some.inj hb
      rw [addAt]
      rw [show ys.getD j 0 = xs.getD j 0 from by rw [hys, List.getD_eq_getElem?_getD, List.getD_eq_getElem?_getD, List.getElem?_take, if_pos (by omega)]]
      exact hcs j (by omega)) (by simp [bv_len]; omega) (bv_one ys)
    have e : ((bv zs).toArray.toList.take p ++ bv ys ++ (bv zs).toArray.toList.drop (p + (bv ys).length)) = bv (zs.take p ++ (ys ++ zs.drop (p + ys.length))) := by
      unfold bv
      simp
    rw [e] at hrun
    have h1 : Own (w.setRow g (bv (zs.take p ++ (ys ++ zs.drop (p + ys.length)))).toArray) g (zs.take p ++ (ys ++ zs.drop (p + ys.length))) := setRow_heap w g _ _ _ _ hg1
    have h2 : Only g w (w.setRow g (bv (zs.take p ++ (ys ++ zs.drop (p + ys.length)))).toArray) := ⟨rfl, rfl, rfl, by simp, fun k hk => setRow_other w g k _ hk⟩
    have h3 : (zs.take p ++ (ys ++ zs.drop (p + ys.length))).length = N := by
      rw [List.length_append, List.length_append, List.length_take, List.length_drop]; omega
    have h4 : Byt (zs.take p ++ (ys ++ zs.drop (p + ys.length))) := fun z hz => by
      rcases List.mem_append.1 hz with hz | hz
      · exact hg3 z (List.mem_of_mem_take hz)
      · rcases List.mem_append.1 hz with hz | hz
        · exact hyb z hz
        · exact hg3 z (List.mem_of_mem_drop hz)
    have hk := h _ ys.length h2 ⟨_, h1, h3, h4⟩
    unfold Oper.wp
    simp [execOp, ho, resolve, invoke, builtin, hd, hs, hrun, Result.andThen, bv_len]
    exact hK _ _ hk

set_option maxHeartbeats 4000000 in
theorem FX.write {G : Nat → Prop} {gf o : Nat} {fr : List Value} {f : FD} {w : World} (h : FX G gf o fr f w) (hml : f.ml ≤ 1000000) (a : Option Addr) (la ca m : Nat) (hn : IsNat w a la ca m) (hm : m < BIG) (B : Option Addr) (lb cb : Nat) (xs : List Int) (hx : Src w B lb cb xs) :
    Calls Sakg.prog 207 #[.pointer (some ⟨gf, o, none⟩), .slice a la ca, .slice B lb cb] w fun e w' => e = .returned (.tuple #[]) ∧ FX G gf o fr f w' ∧ Mv G w w' ∧ w'.heap.size = w.heap.size ∧ (∀ k T (cs : List Value), T ≠ 5 → RowT T w k cs → RowT T w' k cs) := by
  have hBB := big_ge
  obtain ⟨A, c, m1, m2⟩ := h.kf.mem
  have c9 : w.cell? ⟨gf, o + 9, none⟩ = some (.slice A f.ml c) := h.cell m1
  have HPL := hide (place_any a la ca m f.ml w hn hm (by omega))
  have HX := hide hx
  have HFX := hide h
  by_cases hlt : m < f.ml
  · rw [show placeN m f.ml = m from if_pos hlt, decide_eq_true hlt] at HPL
    obtain ⟨gm, rfl, rfl, hMB, hGm⟩ : ∃ g, A = some ⟨g, 0, none⟩ ∧ c = f.ml ∧ MB w g f.ml ∧ G g := by
      rcases m2 with ⟨_, h0, _⟩ | h'
      · omega
      · exact h'
    have HMB := hide hMB
    have e1 : ((f.ml : Int) - (m : Int)) = ((f.ml - m : Nat) : Int) := by omega
    generalize hN : f.ml = N at c9 HPL HMB hlt e1
    have HN := hide hN
    clear h m1 m2 hn hx hMB hN
    go_enter Sakg.func207, Sakg.ntmps207
    go_wp2_with (first
      | (go_at_call 201; refine (unhide HPL).mono ?_; rintro e w1 ⟨rfl, rfl⟩)
      | (with_reducible refine at_copy ?_; refine wpList_copy_mid rfl _ _ _ _ rfl Sakg.underlying30 gm m (N - m) _ rfl N (unhide HMB) (by omega) B lb cb rfl xs (unhide HX) ?_; intro w4 k4 ho4 hm4))
    refine bodyPost_done rfl rfl ?_
    have hmv : Mv G w w4 := Mv.mem (n := N) hGm ho4 (unhide HMB) (fun k hk => by
      obtain ⟨x1, p1, p2, p3⟩ := hk
      obtain ⟨x2, q1, q2, q3⟩ := unhide HMB
      have : bv x1 = bv x2 := RowT.inj (T := 5) (T' := 5) p1 q1
      have e : k = N := by rw [← p2, ← q2, ← bv_len x1, ← bv_len x2, this]
      rw [e]; exact hm4)
    have hrows : ∀ k T (cs : List Value), T ≠ 5 → RowT T w k cs → RowT T w4 k cs := fun k T cs hT hr => by
      by_cases he : k = gm
      · subst he; exact absurd (unhide HMB) (not_bytes hT hr N)
      · exact hr.only ho4 he
    exact ⟨rfl, (unhide HFX).go hmv (hrows _ _ _ (by decide) (unhide HFX).row), hmv, ho4.size, hrows⟩
  · rw [show placeN m f.ml = 0 from if_neg hlt, decide_eq_false hlt] at HPL
    clear h m1 m2 hn hx
    go_enter Sakg.func207, Sakg.ntmps207
    go_wp2_with (go_at_call 201; refine (unhide HPL).mono ?_; rintro e w1 ⟨rfl, rfl⟩)
    refine bodyPost_done rfl rfl ?_
    exact ⟨rfl, unhide HFX, Mv.refl _ _, rfl, fun _ _ _ _ h => h⟩

end Go.Proofs.YgcsakGreat
