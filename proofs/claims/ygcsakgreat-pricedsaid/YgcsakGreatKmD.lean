/-
  kmodel: rho, pi, iota0.
-/
import Derived.Test.YgcsakGreatKmC
import Derived.Test.YgcsakGreatTxA0
namespace Go.Proofs.YgcsakGreat
set_option linter.unusedVariables false
set_option linter.unusedSimpArgs false
set_option maxRecDepth 100000
open Go.RowKit

theorem bools_mem (n : Nat) (f : Nat → Bool) : ∀ v ∈ bools n f, ∃ b, v = .bool b := by
  intro v hv
  simp [bools] at hv
  obtain ⟨a, _, rfl⟩ := hv
  exact ⟨_, rfl⟩
theorem bools_spl (n : Nat) (f : Nat → Bool) (o m : Nat) (f' : Nat → Bool) (h : o + m ≤ n) : ∃ f2, spl (bools n f) o (bools m f') = bools n f2 := by
  refine bools_of n _ (by rw [spl_len _ _ _ (by rw [bools_len, bools_len]; exact h), bools_len]) ?_
  intro v hv
  unfold spl at hv
  rcases List.mem_append.1 hv with hv | hv
  · rcases List.mem_append.1 hv with hv | hv
    · exact bools_mem _ _ v (List.mem_of_mem_take hv)
    · exact bools_mem _ _ v hv
  · exact bools_mem _ _ v (List.mem_of_mem_drop hv)
theorem BT.mk {t : TypeId} {w : World} {g n : Nat} {f : Nat → Bool} (h : RowT t w g (bools n f)) : BT t w g n f := h
theorem BT.row {t : TypeId} {w : World} {g n : Nat} {f : Nat → Bool} (h : BT t w g n f) : RowT t w g (bools n f) := h
/-- a part of a block of bools -/
theorem BT.part {t : TypeId} {w : World} {g n : Nat} {f : Nat → Bool} (h : BT t w g n f) (o m : Nat) (hm : o + m ≤ n) : w.rangeAt g o (bools m fun i => f (o + i)) := by
  intro j v hv
  have hj : j < m := by
    rcases Nat.lt_or_ge j m with h' | h'
    · exact h'
    · rw [List.getElem?_eq_none (by rw [bools_len]; exact h')] at hv; cases hv
  rw [bools_get _ _ _ hj] at hv
  rw [h.cell (o + j) (by omega), hv]

theorem run_copy_at (w : World) (dT sT ty elem : TypeId) (g off n dc : Nat) (ad : Addr) (c : Nat) (t : TypeId) (zs cs : List Value) (hu : Sakg.prog.underlying dT = some (.slice elem)) (i0 : TypeInfo) (hi : Sakg.prog.info? elem = some i0) (hs : i0.size = 1)
    (hg : RowT t w g zs) (hz : off + n ≤ zs.length) (hc : cs.length = n) (hsrc : ∀ j v, cs[j]? = some v → w.cell? (ad.add j) = some v) (h1 : ∀ v ∈ cs, v.oneCell' = true) :
    (Builtin.copy_ #[dT, sT] ty #[.slice (some ⟨g, off, none⟩) n dc, .slice (some ad) n c]).run Sakg.prog w = .ok (goInt n) (w.setRow g (spl zs off cs).toArray) := by
  have hl := run_loadCells_list (P := Sakg.prog) w ad cs hsrc
  have hst := run_storeCells_at Sakg.prog g off t cs 0 zs.toArray w hg (by simp; omega) h1
  have e : (zs.toArray.toList.take (off + 0) ++ cs ++ zs.toArray.toList.drop (off + 0 + cs.length)) = spl zs off cs := by
    simp [spl]
  rw [e] at hst
  simp [Builtin.copy_, run_underlying hu, Builtin.lenOf, Builtin.firstCells, sizeOf, typeInfo, hi, hs, ← hc, hl, hst]

/-- 'copy' in a region that draws its order -/
theorem held_copy {ops : Array Oper} {Q : Exit → Act → World → Prop} {md : Region.Mode} {S : World → Prop} (i : Nat) {o : Oper} {fuel : Nat} {listed : Array Bool} {a : Act} {w : World} (hr : Region.ready md ops listed = [i]) (ho : ops[i]? = some o) (dd : Option Tmp) (hdd : o.dst = dd)
    (hw : Region.wanted o (yielded ops a.tmps) = true) (d s : Operand) (dT sT : TypeId) (hop : o.op = .call { callee := .builtin .copy, args := #[d, s], argTypes := #[dT, sT] }) (elem : TypeId) (hu : Sakg.prog.underlying dT = some (.slice elem)) (hi : (Sakg.prog.info? elem).map (·.size) = some 1)
    (g off n dc : Nat) (t : TypeId) (zs cs : List Value) (hd : a.eval d = .slice (some ⟨g, off, none⟩) n dc) (hg : RowT t w g zs) (hz : off + n ≤ zs.length) (hc : cs.length = n)
    (gs os c : Nat) (hs : a.eval s = .slice (some ⟨gs, os, none⟩) n c) (hsrc : w.rangeAt gs os cs) (h1 : ∀ v ∈ cs, v.oneCell' = true)
    (h : ∀ w', RowT t w' g (spl zs off cs) → Only g w w' → S w' ∧ wpAnyH Sakg.prog md ops Q S fuel (listed.setIfInBounds i true) (a.put dd (.int .i64 n)) w') : wpAnyH Sakg.prog md ops Q S (fuel + 1) listed a w := by
  subst hdd
  cases hq : Sakg.prog.info? elem with
  | none => rw [hq] at hi; cases hi
  | some i0 =>
    rw [hq] at hi
    have hi' : i0.size = 1 := by simpa using hi
    refine held_one i hr ho (fun K' hK' => ?_)
    rw [if_pos hw]
    have hrun := run_copy_at w dT sT o.type elem g off n dc ⟨gs, os, none⟩ c t zs cs hu i0 hq hi' hg hz hc (fun j v hj => by rw [addAt]; exact hsrc j v hj) h1
    have h2 : RowT t (w.setRow g (spl zs off cs).toArray) g (spl zs off cs) := setRow_heap w g _ _ _ _ hg
    have h3 : Only g w (w.setRow g (spl zs off cs).toArray) := ⟨rfl, rfl, rfl, by simp, fun k hk => setRow_other w g k _ (by omega)⟩
    have hk := h _ h2 h3
    unfold Oper.wp
    simp [execOp, hop, resolve, invoke, builtin, hd, hs, hrun, Result.andThen]
    exact hK'.out _ _ hk.1 hk.2

def Rh (g gb : Nat) (w wr : World) : Prop := (∃ fb, BT 467 wr gb 1600 fb) ∧ (∃ fa, BT 467 wr g 1600 fa) ∧ Below w.heap.size w wr
theorem Rh.quiet {g gb : Nat} {w wr w' : World} (h : Rh g gb w wr) (q : Quiet wr w') : Rh g gb w w' := by
  obtain ⟨⟨fc, h1⟩, ⟨fa, h2⟩, h3⟩ := h
  exact ⟨⟨fc, RowT.kept h1 (q.below _)⟩, ⟨fa, RowT.kept h2 (q.below _)⟩, h3.trans (q.below _)⟩
theorem sizeState : (Sakg.prog.info? 467).map (·.size) = some 1600 := by kernel_rfl
theorem sizeBool : (Sakg.prog.info? 4).map (·.size) = some 1 := by kernel_rfl

set_option maxHeartbeats 8000000 in
theorem rho_any (g : Nat) (f : Nat → Bool) (w : World) (h : BT 467 w g 1600 f) :
    Calls Sakg.prog 434 #[.pointer (some ⟨g, 0, none⟩)] w fun e w' => (∃ f', e = .returned (.agg (bools 1600 f').toArray)) ∧ Below w.heap.size w w' := by
  have hlt : g < w.heap.size := RowT.lt h
  have hT0 : Rh g w.heap.size w (w.alloc (.cells (bools 1600 fun _ => false).toArray 467)) := ⟨⟨_, RowT.new _ _ _⟩, ⟨f, RowT.alloc h _⟩, (Below.refl _ _).alloc (Nat.le_refl _) _⟩
  clear h
  go_enter Sakg.func434, Sakg.ntmps434
  go_upto_region 1 with ((with_reducible refine at_alloc 467 ?_); refine wpList_alloc_g (by rfl) 467 rfl _ _ infoState (bools_len _ _) ?_)
  generalize (w.alloc (.cells (bools 1600 fun _ => false).toArray 467)) = W at *
  go_wp2_with fail
  go_loopg [6] 5 (fun gk xv wr => ∃ x : Nat, x + gk = 5 ∧ xv = .int .i64 x ∧ Rh g w.heap.size w wr)
  case atStart => exact ⟨0, by omega, rfl, hT0⟩
  case round =>
    obtain ⟨x, hx, rfl, hT⟩ := hrel
    by_cases hxl : x < 5
    · have ix : (x : Int) < 5 := by omega
      have bx : (0 : Int) ≤ (x : Int) := by omega
      go_wp2_with fail
      go_loopg [9] 5 (fun gk yv wr => ∃ y : Nat, y + gk = 5 ∧ yv = .int .i64 y ∧ Rh g w.heap.size w wr)
      case atStart => exact ⟨0, by omega, rfl, hT⟩
      case round =>
        obtain ⟨y, hy, rfl, hT⟩ := hrel
        by_cases hyl : y < 5
        · have iy : (y : Int) < 5 := by omega
          have by_ : (0 : Int) ≤ (y : Int) := by omega
          go_upto_region 8 with (go_at_call 491; refine (offset_any x y _ hxl hyl).mono ?_; rintro e w' ⟨⟨kk, rfl⟩, rfl⟩)
          obtain ⟨k, hk, hk64⟩ : ∃ k : Nat, (kk : Int) % 64 = (k : Int) ∧ k < 64 := ⟨kk % 64, by omega, by omega⟩
          rw [hk]
          obtain ⟨m, hm⟩ : ∃ m, m + k = 64 := ⟨64 - k, by omega⟩
          have hm1 : IntKind.u8.wrap (64 - (k : Int)) = (m : Int) := by rw [IntKind.wrap_u8]; omega
          have hm2 : 64 - k = m := by omega
          have hm3 : ((64 : Int) - k).toNat = m := by omega
          have hm4 : (64 : Int) - k = m := by omega
          have ik : (k : Int) ≤ 64 := by omega
          have hm5 : IntKind.u8.wrap (m : Int) = m := by rw [IntKind.wrap_u8]; omega
          have hm6 : ¬ 64 = k := by omega
          have im : (m : Int) ≤ 64 := by omega
          have im1 : m ≤ 64 := by omega
          have ik1 : k ≤ 64 := by omega
          obtain ⟨⟨fb, h1⟩, ⟨fa, h2⟩, h3⟩ := hT
          have g1 : BT 467 wr.drew w.heap.size 1600 fb := RowT.kept h1 (Quiet.below ⟨1, rfl⟩ _)
          have g2 : BT 467 wr.drew g 1600 fa := RowT.kept h2 (Quiet.below ⟨1, rfl⟩ _)
          have g3 : Below w.heap.size w wr.drew := h3.trans (Quiet.below ⟨1, rfl⟩ _)
          refine wp_region_noPanic ?_
          refine wp_region_held_drew (S := fun _ => True) (by kernel_rfl) trivial (fun hHeld => ?_)
          refine held_takeD 0 (.int .i64 x) (some 18) (by rfl) (by rfl) (by kernel_rfl) (by kernel_rfl) (by kernel_rfl) (fun _ _ _ h => h) (.inl ⟨by rfl, fun _ _ => by rfl⟩) (hHeld) ?_
          simp only [Act.put, List.setIfInBounds_toArray, List.set_cons_zero, List.set_cons_succ]
          refine held_takeD 1 (.int .i64 y) (some 19) (by rfl) (by rfl) (by kernel_rfl) (by kernel_rfl) (by kernel_rfl) (fun _ _ _ h => h) (.inl ⟨by rfl, fun _ _ => by rfl⟩) (hHeld) ?_
          simp only [Act.put, List.setIfInBounds_toArray, List.set_cons_zero, List.set_cons_succ]
          refine held_takeD 4 (.int .u8 k) (some 22) (by rfl) (by rfl) (by kernel_rfl) (by kernel_rfl) (by kernel_rfl) (fun _ _ _ h => h) (.inl ⟨by rfl, fun _ _ => by rfl⟩) (hHeld) ?_
          simp only [Act.put, List.setIfInBounds_toArray, List.set_cons_zero, List.set_cons_succ]
          refine held_takeD 6 (.pointer (some ⟨g, 0, none⟩)) (some 24) (by rfl) (by rfl) (by kernel_rfl) (by kernel_rfl) (by kernel_rfl) (fun _ _ _ h => h) (.inl ⟨by rfl, fun _ _ => by rfl⟩) (hHeld) ?_
          simp only [Act.put, List.setIfInBounds_toArray, List.set_cons_zero, List.set_cons_succ]
          refine held_takeD 7 (.int .i64 x) (some 25) (by rfl) (by rfl) (by kernel_rfl) (by kernel_rfl) (by kernel_rfl) (fun _ _ _ h => h) (.inl ⟨by rfl, fun _ _ => by rfl⟩) (hHeld) ?_
          simp only [Act.put, List.setIfInBounds_toArray, List.set_cons_zero, List.set_cons_succ]
          refine held_takeD 8 (.int .i64 y) (some 26) (by rfl) (by rfl) (by kernel_rfl) (by kernel_rfl) (by kernel_rfl) (fun _ _ _ h => h) (.inl ⟨by rfl, fun _ _ => by rfl⟩) (hHeld) ?_
          simp only [Act.put, List.setIfInBounds_toArray, List.set_cons_zero, List.set_cons_succ]
          refine held_takeD 12 (.int .u8 k) (some 30) (by rfl) (by rfl) (by kernel_rfl) (by kernel_rfl) (by kernel_rfl) (fun _ _ _ h => h) (.inl ⟨by rfl, fun _ _ => by rfl⟩) (hHeld) ?_
          simp only [Act.put, List.setIfInBounds_toArray, List.set_cons_zero, List.set_cons_succ]
          refine held_takeD 2 (.pointer (some ⟨w.heap.size, x * 320, none⟩)) (some 20) (by rfl) (by rfl) (by kernel_rfl) (by kernel_rfl) (by kernel_rfl) (fun _ _ _ h => h) (.inl ⟨by rfl, fun _ _ => by go_simp⟩) (hHeld) ?_
          simp only [Act.put, List.setIfInBounds_toArray, List.set_cons_zero, List.set_cons_succ]
          refine held_takeD 3 (.pointer (some ⟨w.heap.size, x * 320 + y * 64, none⟩)) (some 21) (by rfl) (by rfl) (by kernel_rfl) (by kernel_rfl) (by kernel_rfl) (fun _ _ _ h => h) (.inl ⟨by rfl, fun _ _ => by go_simp⟩) (hHeld) ?_
          simp only [Act.put, List.setIfInBounds_toArray, List.set_cons_zero, List.set_cons_succ]
          refine held_takeD 5 (.slice (some ⟨w.heap.size, x * 320 + y * 64 + k, none⟩) m m) (some 23) (by rfl) (by rfl) (by kernel_rfl) (by kernel_rfl) (by kernel_rfl) (fun _ _ _ h => h) (.inl ⟨by rfl, fun _ _ => by go_simp⟩) (hHeld) ?_
          simp only [Act.put, List.setIfInBounds_toArray, List.set_cons_zero, List.set_cons_succ]
          refine held_takeD 9 (.pointer (some ⟨g, 0, none⟩)) (some 27) (by rfl) (by rfl) (by kernel_rfl) (by kernel_rfl) (by kernel_rfl) (fun _ _ _ h => h) (.inl ⟨by rfl, fun _ _ => by go_simp⟩) (hHeld) ?_
          simp only [Act.put, List.setIfInBounds_toArray, List.set_cons_zero, List.set_cons_succ]
          refine held_takeD 10 (.pointer (some ⟨g, x * 320, none⟩)) (some 28) (by rfl) (by rfl) (by kernel_rfl) (by kernel_rfl) (by kernel_rfl) (fun _ _ _ h => h) (.inl ⟨by rfl, fun _ _ => by go_simp⟩) (hHeld) ?_
          simp only [Act.put, List.setIfInBounds_toArray, List.set_cons_zero, List.set_cons_succ]
          refine held_takeD 11 (.pointer (some ⟨g, x * 320 + y * 64, none⟩)) (some 29) (by rfl) (by rfl) (by kernel_rfl) (by kernel_rfl) (by kernel_rfl) (fun _ _ _ h => h) (.inl ⟨by rfl, fun _ _ => by go_simp⟩) (hHeld) ?_
          simp only [Act.put, List.setIfInBounds_toArray, List.set_cons_zero, List.set_cons_succ]
          refine held_takeD 13 (.int .u8 m) (some 31) (by rfl) (by rfl) (by kernel_rfl) (by kernel_rfl) (by kernel_rfl) (fun _ _ _ h => h) (.inl ⟨by rfl, fun _ _ => by go_simp⟩) (hHeld) ?_
          simp only [Act.put, List.setIfInBounds_toArray, List.set_cons_zero, List.set_cons_succ]
          refine held_takeD 14 (.slice (some ⟨g, x * 320 + y * 64, none⟩) m 64) (some 32) (by rfl) (by rfl) (by kernel_rfl) (by kernel_rfl) (by kernel_rfl) (fun _ _ _ h => h) (.inl ⟨by rfl, fun _ _ => by go_simp⟩) (hHeld) ?_
          simp only [Act.put, List.setIfInBounds_toArray, List.set_cons_zero, List.set_cons_succ]
          refine held_copy 15 (by kernel_rfl) rfl (some 33) rfl (by rfl) (.tmp 23) (.tmp 32) 255 255 rfl 4 Sakg.underlying255 sizeBool w.heap.size (x * 320 + y * 64 + k) m m 467 (bools 1600 fb) (bools m fun i => fa (x * 320 + y * 64 + i)) rfl (BT.row g1) (by rw [bools_len]; omega) (bools_len _ _) g (x * 320 + y * 64) 64 rfl (g2.part (x * 320 + y * 64) m (by omega)) (bools_one _ _) (fun w2 hr2 ho2 => ⟨trivial, ?_⟩)
          simp only [Act.put, List.setIfInBounds_toArray, List.set_cons_zero, List.set_cons_succ]
          refine wpAnyH_done (by kernel_rfl) ?_ _
          refine NoPanic.normal ?_
          obtain ⟨fb2, hfb2⟩ := bools_spl 1600 fb (x * 320 + y * 64 + k) m (fun i => fa (x * 320 + y * 64 + i)) (by omega)
          have q1 : BT 467 w2.drew w.heap.size 1600 fb2 := RowT.kept (hfb2 ▸ hr2) (Quiet.below ⟨1, rfl⟩ _)
          have q2 : BT 467 w2.drew g 1600 fa := RowT.kept (RowT.only g2 ho2 (by omega)) (Quiet.below ⟨1, rfl⟩ _)
          have q3 : Below w.heap.size w w2.drew := (g3.trans (ho2.below _ (Nat.le_refl _))).trans (Quiet.below ⟨1, rfl⟩ _)
          clear g1 g2 g3 h1 h2 h3 hr2 ho2 hHeld
          obtain ⟨os, hos⟩ : ∃ os, (k = 0 ∧ os = x * 320 + y * 64) ∨ (0 < k ∧ os = x * 320 + y * 64 + m) := by
            rcases Nat.eq_zero_or_pos k with h | h
            · exact ⟨_, .inl ⟨h, rfl⟩⟩
            · exact ⟨_, .inr ⟨h, rfl⟩⟩
          have hos2 : os + k ≤ 1600 := by omega
          go_upto_region 9 with fail
          refine wp_region_noPanic ?_
          refine wp_region_held_drew (S := fun _ => True) (by kernel_rfl) trivial (fun hHeld => ?_)
          refine held_takeD 0 (.int .i64 x) (some 34) (by rfl) (by rfl) (by kernel_rfl) (by kernel_rfl) (by kernel_rfl) (fun _ _ _ h => h) (.inl ⟨by rfl, fun _ _ => by rfl⟩) (hHeld) ?_
          simp only [Act.put, List.setIfInBounds_toArray, List.set_cons_zero, List.set_cons_succ]
          refine held_takeD 1 (.int .i64 y) (some 35) (by rfl) (by rfl) (by kernel_rfl) (by kernel_rfl) (by kernel_rfl) (fun _ _ _ h => h) (.inl ⟨by rfl, fun _ _ => by rfl⟩) (hHeld) ?_
          simp only [Act.put, List.setIfInBounds_toArray, List.set_cons_zero, List.set_cons_succ]
          refine held_takeD 2 (.pointer (some ⟨w.heap.size, x * 320, none⟩)) (some 36) (by rfl) (by rfl) (by kernel_rfl) (by kernel_rfl) (by kernel_rfl) (fun _ _ _ h => h) (.inl ⟨by rfl, fun _ _ => by go_simp⟩) (hHeld) ?_
          simp only [Act.put, List.setIfInBounds_toArray, List.set_cons_zero, List.set_cons_succ]
          refine held_takeD 3 (.pointer (some ⟨w.heap.size, x * 320 + y * 64, none⟩)) (some 37) (by rfl) (by rfl) (by kernel_rfl) (by kernel_rfl) (by kernel_rfl) (fun _ _ _ h => h) (.inl ⟨by rfl, fun _ _ => by go_simp⟩) (hHeld) ?_
          simp only [Act.put, List.setIfInBounds_toArray, List.set_cons_zero, List.set_cons_succ]
          refine held_takeD 4 (.int .u8 k) (some 38) (by rfl) (by rfl) (by kernel_rfl) (by kernel_rfl) (by kernel_rfl) (fun _ _ _ h => h) (.inl ⟨by rfl, fun _ _ => by rfl⟩) (hHeld) ?_
          simp only [Act.put, List.setIfInBounds_toArray, List.set_cons_zero, List.set_cons_succ]
          refine held_takeD 5 (.slice (some ⟨w.heap.size, x * 320 + y * 64, none⟩) k 64) (some 39) (by rfl) (by rfl) (by kernel_rfl) (by kernel_rfl) (by kernel_rfl) (fun _ _ _ h => h) (.inl ⟨by rfl, fun _ _ => by go_simp⟩) (hHeld) ?_
          simp only [Act.put, List.setIfInBounds_toArray, List.set_cons_zero, List.set_cons_succ]
          refine held_takeD 6 (.pointer (some ⟨g, 0, none⟩)) (some 40) (by rfl) (by rfl) (by kernel_rfl) (by kernel_rfl) (by kernel_rfl) (fun _ _ _ h => h) (.inl ⟨by rfl, fun _ _ => by rfl⟩) (hHeld) ?_
          simp only [Act.put, List.setIfInBounds_toArray, List.set_cons_zero, List.set_cons_succ]
          refine held_takeD 7 (.int .i64 x) (some 41) (by rfl) (by rfl) (by kernel_rfl) (by kernel_rfl) (by kernel_rfl) (fun _ _ _ h => h) (.inl ⟨by rfl, fun _ _ => by rfl⟩) (hHeld) ?_
          simp only [Act.put, List.setIfInBounds_toArray, List.set_cons_zero, List.set_cons_succ]
          refine held_takeD 8 (.int .i64 y) (some 42) (by rfl) (by rfl) (by kernel_rfl) (by kernel_rfl) (by kernel_rfl) (fun _ _ _ h => h) (.inl ⟨by rfl, fun _ _ => by rfl⟩) (hHeld) ?_
          simp only [Act.put, List.setIfInBounds_toArray, List.set_cons_zero, List.set_cons_succ]
          refine held_takeD 9 (.pointer (some ⟨g, 0, none⟩)) (some 43) (by rfl) (by rfl) (by kernel_rfl) (by kernel_rfl) (by kernel_rfl) (fun _ _ _ h => h) (.inl ⟨by rfl, fun _ _ => by go_simp⟩) (hHeld) ?_
          simp only [Act.put, List.setIfInBounds_toArray, List.set_cons_zero, List.set_cons_succ]
          refine held_takeD 10 (.pointer (some ⟨g, x * 320, none⟩)) (some 44) (by rfl) (by rfl) (by kernel_rfl) (by kernel_rfl) (by kernel_rfl) (fun _ _ _ h => h) (.inl ⟨by rfl, fun _ _ => by go_simp⟩) (hHeld) ?_
          simp only [Act.put, List.setIfInBounds_toArray, List.set_cons_zero, List.set_cons_succ]
          refine held_takeD 11 (.pointer (some ⟨g, x * 320 + y * 64, none⟩)) (some 45) (by rfl) (by rfl) (by kernel_rfl) (by kernel_rfl) (by kernel_rfl) (fun _ _ _ h => h) (.inl ⟨by rfl, fun _ _ => by go_simp⟩) (hHeld) ?_
          simp only [Act.put, List.setIfInBounds_toArray, List.set_cons_zero, List.set_cons_succ]
          refine held_takeD 12 (.int .u8 k) (some 46) (by rfl) (by rfl) (by kernel_rfl) (by kernel_rfl) (by kernel_rfl) (fun _ _ _ h => h) (.inl ⟨by rfl, fun _ _ => by rfl⟩) (hHeld) ?_
          simp only [Act.put, List.setIfInBounds_toArray, List.set_cons_zero, List.set_cons_succ]
          refine held_takeD 13 (.int .u8 m) (some 47) (by rfl) (by rfl) (by kernel_rfl) (by kernel_rfl) (by kernel_rfl) (fun _ _ _ h => h) (.inl ⟨by rfl, fun _ _ => by go_simp⟩) (hHeld) ?_
          simp only [Act.put, List.setIfInBounds_toArray, List.set_cons_zero, List.set_cons_succ]
          refine held_takeD 14 (.slice (some ⟨g, os, none⟩) k k) (some 48) (by rfl) (by rfl) (by kernel_rfl) (by kernel_rfl) (by kernel_rfl) (fun _ _ _ h => h) (.inl ⟨by rfl, fun wS hS => by (rcases hos with ⟨h0, rfl⟩ | ⟨h0, rfl⟩; (obtain rfl : m = 64 := by omega); subst h0; go_simp; (have e1 : ¬ 64 = m := by omega); (have e2 : 64 - m = k := by omega); go_simp)⟩) (hHeld) ?_
          simp only [Act.put, List.setIfInBounds_toArray, List.set_cons_zero, List.set_cons_succ]
          refine held_copy 15 (by kernel_rfl) rfl (some 49) rfl (by rfl) (.tmp 39) (.tmp 48) 255 255 rfl 4 Sakg.underlying255 sizeBool w.heap.size (x * 320 + y * 64) k 64 467 (bools 1600 fb2) (bools k fun i => fa (os + i)) rfl (BT.row q1) (by rw [bools_len]; omega) (bools_len _ _) g os k rfl (q2.part os k hos2) (bools_one _ _) (fun w3 hr3 ho3 => ⟨trivial, ?_⟩)
          simp only [Act.put, List.setIfInBounds_toArray, List.set_cons_zero, List.set_cons_succ]
          refine wpAnyH_done (by kernel_rfl) ?_ _
          refine NoPanic.normal ?_
          obtain ⟨fb3, hfb3⟩ := bools_spl 1600 fb2 (x * 320 + y * 64) k (fun i => fa (os + i)) (by omega)
          have r1 : BT 467 w3 w.heap.size 1600 fb3 := BT.mk (hfb3 ▸ hr3)
          have r2 : BT 467 w3 g 1600 fa := RowT.only q2 ho3 (by omega)
          have r3 : Below w.heap.size w w3 := q3.trans (ho3.below _ (Nat.le_refl _))
          clear q1 q2 q3 hr3 ho3
          go_wp2
          go_roundg (4 - y)
          case measure => omega
          case rel => exact ⟨y + 1, by omega, rfl, ⟨fb3, r1⟩, ⟨fa, r2⟩, r3⟩
        · have dy : decide ((y : Int) < 5) = false := decide_eq_false (by omega)
          go_wp2
          go_roundg (4 - x)
          case measure => omega
          case rel => exact ⟨x + 1, by omega, rfl, hT⟩
    · have dx : decide ((x : Int) < 5) = false := decide_eq_false (by omega)
      obtain ⟨⟨fb, h1⟩, _, h3⟩ := hT
      have hsz : (Sakg.prog.info? 467).map (·.size) = some (bools 1600 fb).length := by rw [bools_len]; exact sizeState
      have H1 := hide h1
      clear h1 hT0
      go_wp2_with (first
        | ((with_reducible refine at_load 467 ?_); refine wpList_load_g (by rfl) 467 (.tmp 2) rfl w.heap.size 0 rfl (bools 1600 fb) _ (unhide H1).row.rangeAll Sakg.underlying467 rfl hsz ?_)
        | ((with_reducible refine at_store 467 ?_); refine wpList_store_whole rfl 467 (.tmp 2) (.tmp 52) rfl w.heap.size 467 (bools 1600 fb) (bools 1600 fb) rfl rfl (unhide H1).row rfl hsz (bools_one _ _) ?_; intro w3 hr3 ho3))
      refine bodyPost_ret (results_cell_row rfl _ _ _ _ _ _ _ rfl hr3 Sakg.underlying467 rfl (by simpa using hsz)) rfl ?_
      exact ⟨⟨fb, rfl⟩, h3.trans (ho3.below _ (Nat.le_refl _))⟩

end Go.Proofs.YgcsakGreat
