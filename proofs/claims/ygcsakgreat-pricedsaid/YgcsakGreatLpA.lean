/-
  law: push32, join, copyBytes, aluProgram.
-/
import Derived.Test.YgcsakGreatLwA
import Derived.Test.YgcsakGreatExA
import Derived.Test.YgcsakGreatXyE
import Derived.OwnWalk
namespace Go.Proofs.YgcsakGreat
set_option linter.unusedVariables false
set_option linter.unusedSimpArgs false
set_option maxRecDepth 100000
open Go.RowKit

theorem below_of_grown {w w' : World} (h : w.grownBy w' none) : Below w.heap.size w w' := ⟨h.os, h.tape, h.output, h.size, fun k hk => h.block k hk (fun e => by cases e)⟩
def MakesB (w : World) (xs : List Int) (e : Ending) (w' : World) : Prop := ∃ A k c, e = .returned (.slice A k c) ∧ Src w' A k c xs ∧ New w A ∧ Below w.heap.size w w'

set_option maxHeartbeats 4000000 in
theorem push32_any (xs : List Int) (hx : IsW xs) (w : World) : Calls Sakg.prog 42 #[.agg (bv xs).toArray] w (MakesB w (127 :: xs)) := by
  obtain ⟨W, hW⟩ : ∃ W, W = w.alloc (.cells (bv xs).toArray 28) := ⟨_, rfl⟩
  have hb0 : Below w.heap.size w W := by rw [hW]; exact (Below.refl _ _).alloc (Nat.le_refl _) _
  have r0 : RowT 28 W w.heap.size (bv xs) := by rw [hW]; exact RowT.new _ _ _
  obtain ⟨w2, hw2⟩ : ∃ w2, w2 = W.alloc (.cells #[.int .u8 127] 5) := ⟨_, rfl⟩
  have b2 : Below W.heap.size W w2 := by rw [hw2]; exact (Below.refl _ _).alloc (Nat.le_refl _) _
  have o2 : w2.ownsRow W.heap.size 5 1 (.slice (some ⟨W.heap.size, 0, none⟩) 1 1) 1 (bv [127]) := by rw [hw2]; exact World.ownsRow_lit W #[.int .u8 127] 1 (Nat.le_refl _) (by unfold maxLen; omega) rfl
  have s2 : Src w2 (some ⟨w.heap.size, 0, none⟩) 32 32 xs := src_of_range (r0.kept b2).rangeAll hx.byt hx.len max32
  have z2 := b2.size
  have hbyt : Byt ([127] ++ xs) := by
    intro x h
    rcases List.mem_append.1 h with h | h
    · rw [List.mem_singleton.1 h]; omega
    · exact hx.byt x h
  have O2 := hide o2
  have S2 := hide s2
  clear r0 o2 s2
  go_enter Sakg.func42, Sakg.ntmps42
  go_upto_region 1 with fail
  rw [← hW]
  clear hW
  go_wp2_with ((with_reducible refine at_append ?_); rw [← hw2]; refine wpList_append_src rfl (.tmp 3) (.tmp 4) rfl W.heap.size _ 1 [127] rfl (unhide O2) _ 32 32 xs rfl (unhide S2) (by omega) (by omega) (fun v5 w5 o5 b5 => ?_); have hlo0 := fun k hk => (o5.lt k hk).1; obtain ⟨a6, c6, rfl, s6⟩ := own_src o5 hbyt; have S6 := hide s6; clear s6)
  go_ret
  exact ⟨a6, 33, c6, rfl, unhide S6, (fun x hx => by have h1 := hlo0 x.block (by rw [hx]; rfl); have h2 := hb0.size; omega), (hb0.trans (b2.mono hb0.size)).trans (b5.mono hb0.size)⟩

set_option maxHeartbeats 8000000 in
theorem join_any (A1 A2 A3 A4 : Option Addr) (k1 c1 k2 c2 k3 c3 k4 c4 : Nat) (x1 x2 x3 x4 : List Int) (w : World) (h1 : Src w A1 k1 c1 x1) (h2 : Src w A2 k2 c2 x2) (h3 : Src w A3 k3 c3 x3) (h4 : Src w A4 k4 c4 x4) (l1 : k1 ≤ 1000) (l2 : k2 ≤ 1000) (l3 : k3 ≤ 1000) (l4 : k4 ≤ 1000) :
    Calls Sakg.prog 40 #[.slice A1 k1 c1, .slice A2 k2 c2, .slice A3 k3 c3, .slice A4 k4 c4] w (MakesB w (x1 ++ x2 ++ x3 ++ x4)) := by
  obtain ⟨i0, hi0, hz0, hz1, hz2⟩ := info_parts Sakg.info5
  obtain ⟨n1, hn1⟩ : ∃ n1, n1 = k1 + k2 := ⟨_, rfl⟩
  obtain ⟨n2, hn2⟩ : ∃ n2, n2 = n1 + k3 := ⟨_, rfl⟩
  obtain ⟨n3, hn3⟩ : ∃ n3, n3 = n2 + k4 := ⟨_, rfl⟩
  have e1 : (k1 : Int) + (k2 : Int) = (n1 : Int) := by omega
  have e2 : (n1 : Int) + (k3 : Int) = (n2 : Int) := by omega
  have e3 : (n2 : Int) + (k4 : Int) = (n3 : Int) := by omega
  have b1' : n1 ≤ 2000 := by omega
  have b2' : n2 ≤ 3000 := by omega
  have b3' : n3 ≤ 4000 := by omega
  have hby1 : Byt ([] ++ x1) := by rw [List.nil_append]; exact h1.byt
  have hby := ((h1.byt.append h2.byt).append h3.byt).append h4.byt
  have hw1 : w.heap.size ≤ w.heap.size := Nat.le_refl _
  have H1 := hide h1
  have H2 := hide h2
  have H3 := hide h3
  have H4 := hide h4
  clear h1 h2 h3 h4 hn1 hn2 hn3
  go_enter Sakg.func40, Sakg.ntmps40
  go_upto_region 2 with (at_make; refine wpList_make_own _ rfl _ _ 30 rfl w.heap.size 5 i0 _ 1 Sakg.underlying30 hi0 hz0 hz1 _ _ _ n3 rfl rfl (by omega) (by rw [hz2]; omega) (by unfold maxLen; omega) (Nat.le_refl _) ?_; intro w1 o1 g1)
  have d1 : Below w.heap.size w w1 := below_of_grown g1
  have O1 : Hid (w1.ownsRow w.heap.size 5 1 (.slice (some ⟨w.heap.size, 0, none⟩) 0 n3) 0 (bv [])) := hide o1
  have s1 := (unhide H1).kept d1
  have S1 := hide s1
  clear o1 s1 g1
  go_upto_region 3 with ((with_reducible refine at_append ?_); refine wpList_append_src rfl (.tmp 22) (.tmp 23) rfl w.heap.size _ 0 [] rfl (unhide O1) _ k1 c1 x1 rfl (unhide S1) (by omega) d1.size (fun v2 w2 o2 b2 => ?_))
  have d2 : Below w.heap.size w w2 := d1.trans b2
  have O2 := hide o2
  have S2 := hide ((unhide H2).kept d2)
  clear o2
  go_upto_region 4 with ((with_reducible refine at_append ?_); refine wpList_append_src rfl (.tmp 25) (.tmp 26) rfl w.heap.size _ _ _ rfl (unhide O2) _ k2 c2 x2 rfl (unhide S2) (by omega) d2.size (fun v3 w3 o3 b3 => ?_))
  have d3 : Below w.heap.size w w3 := d2.trans b3
  have O3 := hide o3
  have S3 := hide ((unhide H3).kept d3)
  clear o3
  go_upto_region 5 with ((with_reducible refine at_append ?_); refine wpList_append_src rfl (.tmp 28) (.tmp 29) rfl w.heap.size _ _ _ rfl (unhide O3) _ k3 c3 x3 rfl (unhide S3) (by omega) d3.size (fun v4 w4 o4 b4 => ?_))
  have d4 : Below w.heap.size w w4 := d3.trans b4
  have O4 := hide o4
  have S4 := hide ((unhide H4).kept d4)
  clear o4
  go_wp2_with ((with_reducible refine at_append ?_); refine wpList_append_src rfl (.tmp 31) (.tmp 32) rfl w.heap.size _ _ _ rfl (unhide O4) _ k4 c4 x4 rfl (unhide S4) (by omega) d4.size (fun v5 w5 o5 b5 => ?_); rw [List.nil_append] at o5; have hlo0 := fun k hk => (o5.lt k hk).1; obtain ⟨a6, c6, rfl, s6⟩ := own_src o5 hby; have S6 := hide s6; clear s6 o5)
  go_ret
  refine ⟨a6, _, c6, rfl, ?_, (fun x hx => hlo0 x.block (by rw [hx]; rfl)), d4.trans b5⟩
  have := unhide S6
  rwa [Nat.zero_add] at this

/-- a slice that is written out, in a region that draws its order -/
theorem if_build_lit {ops : Array Oper} {o : Oper} {a : Act} {w : World} {K : Act → World → Prop} {Q : Exit → Act → World → Prop} (d : Option Tmp) (hd : o.dst = d) (hw : Region.wanted o (yielded ops a.tmps) = true) (t : TypeId) (n : Nat) (ps : List (Nat × Operand)) (ho : o.op = .buildSlice t n ps.toArray) (e : TypeId) (cs : List Value)
    (hrun : (Instr.buildSlice t n (ps.map fun p => (p.1, a.eval p.2)).toArray).run Sakg.prog w = .ok (.slice (some ⟨w.heap.size, 0, none⟩) n n) (w.alloc (.cells cs.toArray e)))
    (h : ∀ w', RowT e w' w.heap.size cs → Below w.heap.size w w' → w'.heap.size = w.heap.size + 1 → K (a.put d (.slice (some ⟨w.heap.size, 0, none⟩) n n)) w') :
    if Region.wanted o (yielded ops a.tmps) = true then Oper.wp Sakg.prog o a w K Q else K (a.put o.dst undef) w := by
  rw [if_pos hw]
  subst hd
  have hk := h _ (RowT.new e w cs) ((Below.refl _ _).alloc (Nat.le_refl _) _) (by simp)
  unfold Oper.wp
  simp only [execOp, ho, Sem.run_bind, List.map_toArray]
  rw [hrun]
  exact hk
theorem run_lit1 (wx : World) (x : Int) : (Instr.buildSlice 30 1 #[(0, .int .u8 x)]).run Sakg.prog wx = .ok (.slice (some ⟨wx.heap.size, 0, none⟩) 1 1) (wx.alloc (.cells (bv [x]).toArray 5)) := by kernel_rfl
theorem run_lit6 (wx : World) : (Instr.buildSlice 30 6 #[(0, .int .u8 95), (1, .int .u8 82), (2, .int .u8 96), (3, .int .u8 32), (4, .int .u8 95), (5, .int .u8 243)]).run Sakg.prog wx = .ok (.slice (some ⟨wx.heap.size, 0, none⟩) 6 6) (wx.alloc (.cells (bv [95, 82, 96, 32, 95, 243]).toArray 5)) := by kernel_rfl

end Go.Proofs.YgcsakGreat
