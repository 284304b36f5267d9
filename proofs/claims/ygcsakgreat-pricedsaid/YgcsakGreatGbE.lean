/-
  yp, for GasBounds: lengths.
-/
import Derived.Test.YgcsakGreatGbD
namespace Go.Proofs.YgcsakGreat
set_option linter.unusedVariables false
set_option linter.unusedSimpArgs false
set_option maxRecDepth 100000
open Go.RowKit

theorem results_tmp4 {fn : Func} {p q r s : Tmp} (h : fn.results = #[.tmp p, .tmp q, .tmp r, .tmp s]) (tmps : Array Value) (w : World) :
    (results fn tmps).run Sakg.prog w = .ok (.tuple #[tmps.getD p undef, tmps.getD q undef, tmps.getD r undef, tmps.getD s undef]) w := by
  simp [results, h]
def u3 (x y z : Nat) : List Value := [.int .u64 x, .int .u64 y, .int .u64 z]
theorem infoU3 : (Sakg.prog.info? 452).map (fun i => (i.zero, i.size)) = some (some (.agg (u3 0 0 0).toArray), 3) := by kernel_rfl
def Get3 (xs : List Nat) (cs : List Value) : Prop := cs = xs.map fun (n : Nat) => Value.int .u64 (n : Int)

set_option maxHeartbeats 8000000 in
theorem lengths_any (A : Option Addr) (l c : Nat) (xs : List Int) (w : World) (hx : Src w A l c xs) (hl : l ≤ 1000000) :
    Calls Sakg.prog 296 #[.slice A l c] w fun e w' => (∃ (b e' m : Nat) (ok : Bool), e = .returned (.tuple #[.int .u64 b, .int .u64 e', .int .u64 m, .bool ok]) ∧ b ≤ 64 ∧ e' ≤ 64 ∧ m ≤ 64) ∧ Below w.heap.size w w' := by
  have hBB := big_ge
  obtain ⟨W, hW⟩ : ∃ W, W = w.alloc (.cells (u3 0 0 0).toArray 452) := ⟨_, rfl⟩
  have hb0 : Below w.heap.size w W := by rw [hW]; exact (Below.refl _ _).alloc (Nat.le_refl _) _
  have r0 : RowT 452 W w.heap.size (u3 0 0 0) := by rw [hW]; exact RowT.new _ _ _
  have R0 := hide r0
  have HX := hide hx
  clear r0 hx
  go_enter Sakg.func296, Sakg.ntmps296
  go_upto_region 2 with ((with_reducible refine at_alloc 452 ?_); refine wpList_alloc_g (by rfl) 452 rfl (u3 0 0 0) 3 infoU3 rfl ?_)
  rw [← hW]
  clear hW
  go_wp2_with fail
  go_loopg [9] 3 (fun gk iv wr => ∃ (i : Nat) (ns : List Nat), i + gk = 3 ∧ iv = .int .i64 i ∧ ns.length = 3 ∧ (∀ n ∈ ns, n ≤ 64) ∧ RowT 452 wr w.heap.size (ns.map fun (n : Nat) => Value.int .u64 (n : Int)) ∧ Below w.heap.size w wr)
  case atStart => exact ⟨0, [0, 0, 0], by omega, rfl, rfl, fun n hn => by simp at hn; omega, unhide R0, hb0⟩
  case round =>
    obtain ⟨i, ns, hi, rfl, hnl, hns, hr, hbe⟩ := hrel
    have HR := hide hr
    clear hr
    by_cases hi3 : i < 3
    · obtain ⟨j, hj⟩ : ∃ j, j = 32 * i := ⟨_, rfl⟩
      have ej : (32 : Int) * (i : Int) = (j : Int) := by omega
      have hjl : j ≤ 64 := by omega
      have hwj : IntKind.u64.wrap (j : Int) = (j : Int) := by rw [IntKind.wrap_u64]; omega
      have HP := hide (part_any A l c xs j 32 wr ((unhide HX).kept hbe) (by omega) (by omega) hl)
      clear hj
      go_wp2_with fail
      refine (unhide HP).mono ?_
      rintro e w1 ⟨g, ys, rfl, o1, hyl, hyb, hg1, b1⟩
      have s1 : Src w1 (some ⟨g, 0, none⟩) 32 32 ys := o1.src_all hyb 32 hyl.symm (by unfold maxLen; omega)
      have HF := hide (fromBE_any _ 32 32 ys w1 s1 (by omega))
      have hyv : val ys.reverse < 256 ^ 32 := by have := val_lt ys.reverse hyb.reverse; rwa [List.length_reverse, hyl] at this
      clear o1 s1
      go_wp2_with fail
      refine (unhide HF).mono ?_
      rintro e w2 ⟨A2, k2, c2, rfl, n2, N2, b2⟩
      generalize val ys.reverse = v at n2 hyv
      have hvB : v < BIG := Nat.lt_of_lt_of_le hyv (big_pow 32 (by omega))
      have d2 : Below wr.heap.size wr w2 := b1.trans (b2.mono b1.size)
      have NN2 := hide n2
      have HN := hide (num_any 64 w2 (by omega))
      clear n2
      go_wp2_with fail
      refine (unhide HN).mono ?_
      rintro e w3 ⟨A3, k3, c3, rfl, n3, N3, b3⟩
      have d3 : Below wr.heap.size wr w3 := d2.trans (b3.mono d2.size)
      have HC := hide (((unhide NN2).kept b3).cmp n3 hvB (by omega))
      clear n3
      by_cases hv : 64 < v
      · have hgt : (0 : Int) < cmpI v 64 := by unfold cmpI; rw [if_neg (by omega), if_neg (by omega)]; omega
        have t0 : decide ((0 : Int) < cmpI v 64) = true := decide_eq_true hgt
        generalize cmpI v 64 = cr at HC hgt t0
        go_wp2_with fail
        refine (unhide HC).mono ?_
        rintro e w4 ⟨rfl, q4⟩
        go_wp2
        refine bodyPost_ret (results_tmp4 rfl _ _) rfl ?_
        exact ⟨⟨0, 0, 0, false, rfl, by omega, by omega, by omega⟩, hbe.trans ((d3.trans (q4.below _)).mono hbe.size)⟩
      · have hle : cmpI v 64 ≤ (0 : Int) := by unfold cmpI; split <;> (try split) <;> omega
        have t0 : decide ((0 : Int) < cmpI v 64) = false := decide_eq_false (by omega)
        generalize cmpI v 64 = cr at HC hle t0
        go_wp2_with fail
        refine (unhide HC).mono ?_
        rintro e w4 ⟨rfl, q4⟩
        have d4 : Below wr.heap.size wr w4 := d3.trans (q4.below _)
        have hu : u64N v = v := by unfold u64N; rw [if_pos (by omega)]
        have b24 : Below w2.heap.size w2 w4 := b3.trans (q4.below _)
        have HSM := hide (small_any A2 k2 c2 v w4 ((unhide NN2).kept b24) hvB)
        rw [hu] at HSM
        have r4 := (unhide HR).kept d4
        have x4 : ∃ u, w4.cell? ⟨w.heap.size, i, none⟩ = some u := by rw [r4.cell, List.getElem?_eq_getElem (by rw [List.length_map, hnl]; exact hi3)]; exact ⟨_, rfl⟩
        obtain ⟨u4, x4⟩ := x4
        have f4 := r4.froz i
        have hset := r4.set i (.int .u64 (v : Int))
        have hmap : (ns.map fun (n : Nat) => Value.int .u64 (n : Int)).set i (.int .u64 (v : Int)) = (ns.set i v).map fun (n : Nat) => Value.int .u64 (n : Int) := by rw [List.map_set]
        rw [hmap] at hset
        have hns2 : ∀ n ∈ ns.set i v, n ≤ 64 := fun n hn => by
          rcases List.mem_or_eq_of_mem_set hn with h' | h'
          · exact hns n h'
          · omega
        have b5 : Below w.heap.size w (w4.setCell ⟨w.heap.size, i, none⟩ (.int .u64 (v : Int))) := (hbe.trans (d4.mono hbe.size)).setCell (p := ⟨w.heap.size, i, none⟩) (Nat.le_refl _) _
        have HSET := hide hset
        have B5 := hide b5
        clear hu r4 hset hmap b5 q4
        go_wp2_with (go_at_call 55; refine (unhide HSM).mono ?_; rintro e w5 ⟨rfl, rfl⟩)
        go_roundg (3 - 1 - i)
        case measure => omega
        case rel => exact ⟨i + 1, ns.set i v, by omega, rfl, by rw [List.length_set]; exact hnl, hns2, unhide HSET, unhide B5⟩
    · obtain rfl : i = 3 := by omega
      obtain ⟨n1, n2, n3, rfl⟩ : ∃ a b c, ns = [a, b, c] := by
        match ns, hnl with
        | [a, b, c], _ => exact ⟨a, b, c, rfl⟩
      have x0 : wr.cell? ⟨w.heap.size, 0, none⟩ = some (.int .u64 n1) := by rw [(unhide HR).cell]; rfl
      have x1 : wr.cell? ⟨w.heap.size, 1, none⟩ = some (.int .u64 n2) := by rw [(unhide HR).cell]; rfl
      have x2 : wr.cell? ⟨w.heap.size, 2, none⟩ = some (.int .u64 n3) := by rw [(unhide HR).cell]; rfl
      have q1 := hns n1 (by simp)
      have q2 := hns n2 (by simp)
      have q3 := hns n3 (by simp)
      clear hns hi hi3 hnl
      go_wp2_with fail
      go_quiet (fail)
      go_wp2
      refine bodyPost_ret (results_tmp4 rfl _ _) rfl ?_
      exact ⟨⟨n1, n2, n3, true, rfl, q1, q2, q3⟩, hbe.trans (Quiet.below ⟨_, rfl⟩ _)⟩

end Go.Proofs.YgcsakGreat
