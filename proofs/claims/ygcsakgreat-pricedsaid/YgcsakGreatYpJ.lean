/-
  yp: creates, nativeAt, taken, baseFee.
-/
import Derived.Test.YgcsakGreatYpI
namespace Go.Proofs.YgcsakGreat
set_option linter.unusedVariables false
set_option linter.unusedSimpArgs false
set_option maxRecDepth 100000
open Go.RowKit

/-- the kinds of frames that create -/
def createsB (k : Nat) : Bool := decide (k = 1) || decide (k = 5) || decide (k = 6)

set_option maxHeartbeats 1000000 in
theorem creates_any (k : Nat) (w : World) (hk : k < 256) : Calls Sakg.prog 197 #[.int .u8 k] w fun e w' => e = .returned (.bool (createsB k)) ∧ w = w' := by
  have e1 : ((k : Int) == 1) = decide (k = 1) := by by_cases h : k = 1 <;> simp [h]; omega
  have e2 : ((k : Int) == 5) = decide (k = 5) := by by_cases h : k = 5 <;> simp [h]; omega
  have e3 : ((k : Int) == 6) = decide (k = 6) := by by_cases h : k = 6 <;> simp [h]; omega
  unfold createsB
  rw [← e1, ← e2, ← e3]
  generalize (k : Int) = x at *
  clear e1 e2 e3 hk
  obtain ⟨b1, h1⟩ : ∃ b, (x == 1) = b := ⟨_, rfl⟩
  obtain ⟨b2, h2⟩ : ∃ b, (x == 5) = b := ⟨_, rfl⟩
  obtain ⟨b3, h3⟩ : ∃ b, (x == 6) = b := ⟨_, rfl⟩
  go_enter Sakg.func197, Sakg.ntmps197
  cases b1
  · cases b2
    · cases b3
      · go_wp2
        go_ret
        exact ⟨by simp [h1, h2, h3], rfl⟩
      · go_wp2
        go_ret
        exact ⟨by simp [h1, h2, h3], rfl⟩
    · go_wp2
      go_ret
      exact ⟨by simp [h1, h2], rfl⟩
  · go_wp2
    go_ret
    exact ⟨by simp [h1], rfl⟩

/-- a value is built, the operation's guard saying yes -/
theorem wpList_build_run {w : World} {ops : Array Oper} {rest : List Oper} {o : Oper} {a : Act} {Q : Exit → Act → World → Prop} (hw : Region.wanted o (yielded ops a.tmps) = true) (t : TypeId) (ps : List (Nat × Operand)) (ho : o.op = .build t ps.toArray)
    (v : Value) (hrun : (Instr.build t (ps.map fun p => (p.1, a.eval p.2)).toArray).run Sakg.prog w = .ok v w)
    (h : wpList Sakg.prog ops Q rest (a.put o.dst v) w) : wpList Sakg.prog ops Q (o :: rest) a w := by
  refine BigFrame.wpList_want hw fun K hK => ?_
  unfold Oper.wp
  simp only [execOp, ho, Sem.run_bind, List.map_toArray]
  rw [hrun]
  exact hK _ _ h

/-- an address whose last byte is n, all else zero -/
def lowAddr (n : Int) : List Int := zeros 19 ++ [n]
theorem lowAddr_is (n : Int) (h0 : 0 ≤ n) (h1 : n ≤ 255) : IsAddr (lowAddr n) := by
  refine ⟨by simp [lowAddr, zeros_len], ?_⟩
  intro x hx
  rcases List.mem_append.1 hx with h | h
  · exact zeros_byt _ x h
  · simp at h; subst h; exact ⟨h0, h1⟩
theorem run_low (n : Int) (wx : World) : (Instr.build 26 #[(19, .int .u8 n)]).run Sakg.prog wx = .ok (.agg (bv (lowAddr n)).toArray) wx := by kernel_rfl

def nativeN (a : List Int) : Nat := if a = lowAddr 4 then 4 else if a = lowAddr 5 then 5 else 0

set_option maxHeartbeats 4000000 in
theorem nativeAt_any (a : List Int) (w : World) (ha : IsAddr a) : Calls Sakg.prog 108 #[.agg (bv a).toArray] w fun e w' => e = .returned (.int .u8 (nativeN a)) ∧ Below w.heap.size w w' := by
  have hb1 : Below w.heap.size w (w.alloc (.cells (bv a).toArray 26)) := (Below.refl _ _).alloc (Nat.le_refl _) _
  have hr1 : RowT 26 (w.alloc (.cells (bv a).toArray 26)) w.heap.size (bv a) := RowT.new _ _ _
  have heq4 := fun wx => addr_eq wx a (lowAddr 4) ha (lowAddr_is 4 (by omega) (by omega))
  have heq5 := fun wx => addr_eq wx a (lowAddr 5) ha (lowAddr_is 5 (by omega) (by omega))
  have HA := hide ha
  clear ha
  go_enter Sakg.func108, Sakg.ntmps108
  by_cases h4 : a = lowAddr 4
  · have hn : nativeN a = 4 := if_pos h4
    have hc : (w.alloc (.cells (bv a).toArray 26)).cell? ⟨w.heap.size, 19, none⟩ = some (.int .u8 4) := by rw [hr1.cell, h4]; rfl
    rw [decide_eq_true h4] at heq4
    have HN := hide hn
    clear h4 hn heq5
    go_wp2_with (first
      | ((with_reducible refine at_load 26 ?_); refine wpList_load_g (by rfl) 26 (.tmp 1) rfl _ 0 rfl (bv a) _ hr1.rangeAll Sakg.underlying26 rfl (unhide HA).size ?_)
      | ((with_reducible refine at_build 26 ?_); refine wpList_build_run (by rfl) 26 [(19, .const (.int .u8 4))] rfl (.agg (bv (lowAddr 4)).toArray) (run_low 4 _) ?_)
      | ((with_reducible refine at_build 26 ?_); refine wpList_build_run (by rfl) 26 [(19, .const (.int .u8 5))] rfl (.agg (bv (lowAddr 5)).toArray) (run_low 5 _) ?_))
    go_ret
    exact ⟨by rw [unhide HN]; rfl, hb1⟩
  · rw [decide_eq_false h4] at heq4
    by_cases h5 : a = lowAddr 5
    · have hn : nativeN a = 5 := by unfold nativeN; rw [if_neg h4, if_pos h5]
      have hc : (w.alloc (.cells (bv a).toArray 26)).cell? ⟨w.heap.size, 19, none⟩ = some (.int .u8 5) := by rw [hr1.cell, h5]; rfl
      rw [decide_eq_true h5] at heq5
      have HN := hide hn
      clear h4 h5 hn
      go_wp2_with (first
      | ((with_reducible refine at_load 26 ?_); refine wpList_load_g (by rfl) 26 (.tmp 1) rfl _ 0 rfl (bv a) _ hr1.rangeAll Sakg.underlying26 rfl (unhide HA).size ?_)
      | ((with_reducible refine at_build 26 ?_); refine wpList_build_run (by rfl) 26 [(19, .const (.int .u8 4))] rfl (.agg (bv (lowAddr 4)).toArray) (run_low 4 _) ?_)
      | ((with_reducible refine at_build 26 ?_); refine wpList_build_run (by rfl) 26 [(19, .const (.int .u8 5))] rfl (.agg (bv (lowAddr 5)).toArray) (run_low 5 _) ?_))
      go_ret
      exact ⟨by rw [unhide HN]; rfl, hb1⟩
    · have hn : nativeN a = 0 := by unfold nativeN; rw [if_neg h4, if_neg h5]
      rw [decide_eq_false h5] at heq5
      have HN := hide hn
      clear h4 h5 hn
      go_wp2_with (first
      | ((with_reducible refine at_load 26 ?_); refine wpList_load_g (by rfl) 26 (.tmp 1) rfl _ 0 rfl (bv a) _ hr1.rangeAll Sakg.underlying26 rfl (unhide HA).size ?_)
      | ((with_reducible refine at_build 26 ?_); refine wpList_build_run (by rfl) 26 [(19, .const (.int .u8 4))] rfl (.agg (bv (lowAddr 4)).toArray) (run_low 4 _) ?_)
      | ((with_reducible refine at_build 26 ?_); refine wpList_build_run (by rfl) 26 [(19, .const (.int .u8 5))] rfl (.agg (bv (lowAddr 5)).toArray) (run_low 5 _) ?_))
      go_ret
      exact ⟨by rw [unhide HN]; rfl, hb1⟩

end Go.Proofs.YgcsakGreat
