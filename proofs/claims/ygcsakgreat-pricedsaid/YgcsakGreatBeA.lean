/-
  nat.BE32, yp.word.
-/
import Derived.Test.YgcsakGreatValA
import Derived.Test.YgcsakGreatStA
namespace Go.Proofs.YgcsakGreat
set_option linter.unusedVariables false
set_option linter.unusedSimpArgs false
set_option maxRecDepth 100000
open Go.RowKit

theorem results_row_tmp {fn : Func} {p q : Tmp} (h : fn.results = #[.cell p 28, .tmp q]) (tmps : Array Value) (w : World) (g : Nat) (t : TypeId) (cs : Array Value) (fr : Nat × Nat)
    (hp : tmps.getD p undef = .pointer (some ⟨g, 0, none⟩)) (hg : w.heap[g]? = some (.cells cs t fr)) (hi : (Sakg.prog.info? 28).map (·.size) = some cs.size) :
    (results fn tmps).run Sakg.prog w = .ok (.tuple #[.agg cs, tmps.getD q undef]) w := by
  have hp' : tmps[p]?.getD undef = .pointer (some ⟨g, 0, none⟩) := by simpa using hp
  simp [results, h, hp', asAddr, run_loadVar_row w g t 28 cs fr _ hg Sakg.underlying28 rfl hi]

/-- the bytes laid so far, from the end -/
def tailL (m i : Nat) : List Int := zeros (32 - i) ++ (dig8 m i).reverse
theorem tailL_len (m i : Nat) (h : i ≤ 32) : (tailL m i).length = 32 := by simp [tailL, zeros_len, dig8_len]; omega
theorem tailL_step (m i : Nat) (h : i < 32) : (tailL m i).set (31 - i) ((m / 256 ^ i % 256 : Nat) : Int) = tailL m (i + 1) := by
  unfold tailL
  have e : 32 - i = (32 - (i + 1)) + 1 := by omega
  rw [e, show zeros (32 - (i + 1) + 1) = zeros (32 - (i + 1)) ++ [0] from by simp [zeros, List.replicate_succ'], List.append_assoc, List.set_append_right _ _ (by rw [zeros_len]; omega), zeros_len, show 31 - i - (32 - (i + 1)) = 0 from by omega]
  rw [dig8, List.reverse_append]
  rfl
theorem tailL_byt (m i : Nat) : Byt (tailL m i) := (zeros_byt _).append (dig8_byt m i).reverse
/-- above its digits a number has zeros -/
theorem tailL_end (m i : Nat) (h : m < 256 ^ i) (hi : i ≤ 32) : tailL m i = be32 m := by
  have h1 : (tailL m i).reverse = (be32 m).reverse := by
    apply val_inj
    · exact (tailL_byt m i).reverse
    · exact (be32_byt m).reverse
    · rw [List.length_reverse, List.length_reverse, tailL_len m i hi, be32_len]
    · rw [be32_val m (Nat.lt_of_lt_of_le h (Nat.pow_le_pow_right (by omega) hi))]
      unfold tailL
      rw [List.reverse_append, List.reverse_reverse, val_append, dig8_val, Nat.mod_eq_of_lt h]
      have : (zeros (32 - i)).reverse = zeros (32 - i) := by simp [zeros]
      rw [this]
      simp only [zeros, val_zeros, Nat.mul_zero, Nat.add_zero]
  have := congrArg List.reverse h1
  rwa [List.reverse_reverse, List.reverse_reverse] at this

set_option maxHeartbeats 4000000 in
theorem be32_any (a : Option Addr) (la ca m : Nat) (w : World) (h : IsNat w a la ca m) (hm : m < P256) :
    Calls Sakg.prog 132 #[.slice a la ca] w fun e w' => e = .returned (.tuple #[.agg (bv (be32 m)).toArray, .bool true]) ∧ Below w.heap.size w w' := by
  have hl := h.len 32 hm
  have hlt := h.lt_len
  have H := hide h
  obtain ⟨xs, s1, s2, s3, s4⟩ := h
  have hlen := s1.len_eq
  obtain ⟨W, hW⟩ : ∃ W, W = (w.alloc (.cells (bv (zeros 32)).toArray 28)).alloc (.cells (bv (zeros 32)).toArray 28) := ⟨_, rfl⟩
  have hb0 : Below w.heap.size w W := by rw [hW]; exact ((Below.refl _ _).alloc (Nat.le_refl _) _).alloc (by simp) _
  have r0 : RowT 28 W w.heap.size (bv (zeros 32)) := by rw [hW]; exact (RowT.new _ _ _).alloc _
  have r1 : RowT 28 W (w.heap.size + 1) (bv (zeros 32)) := by rw [hW]; exact row_second _ _ _ _
  have HT := hide (trim_any a la ca xs W (s1.kept hb0) (by omega))
  have hT : trimL xs = xs := s2
  rw [hT] at HT
  have h32 : decide ((32 : Int) < (la : Int)) = false := decide_eq_false (by omega)
  have hz32 : (bv (zeros 32)).length = 32 := by rw [bv_len, zeros_len]
  have R0 := hide r0
  have R1 := hide r1
  have HLEN := hide hlen
  have HLT := hide hlt
  clear s1 s2 s3 s4 hT r0 r1 hlen hlt
  go_enter Sakg.func132, Sakg.ntmps132
  go_upto_region 2 with ((with_reducible refine at_alloc 28 ?_); refine wpList_alloc_g (by rfl) 28 rfl (bv (zeros 32)) 32 info32 hz32 ?_)
  simp only [Act.put, List.setIfInBounds_toArray, List.set_cons_zero, List.set_cons_succ]
  rw [World.size_alloc, ← hW]
  clear hW
  have hWs := (unhide R1).lt
  go_wp2_with fail
  refine (unhide HT).mono ?_
  rintro e w1 ⟨⟨k, rfl, hk⟩, rfl⟩
  obtain rfl : k = la := by rw [← hk.len_eq, unhide HLEN]
  clear hk
  go_wp2_with fail
  go_loopg [15] k (fun gk iv wr => ∃ i : Nat, i + gk = k ∧ iv = .int .i64 i ∧ RowT 28 wr w.heap.size (bv (zeros 32)) ∧ RowT 28 wr (w.heap.size + 1) (bv (tailL m i)) ∧ Below w.heap.size w wr)
  case atStart => exact ⟨0, by omega, rfl, unhide R0, by rw [show tailL m 0 = zeros 32 from by simp [tailL, dig8]]; exact unhide R1, hb0⟩
  case round =>
    obtain ⟨i, hi, rfl, q0, q1, hbe⟩ := hrel
    by_cases hik : i < k
    · obtain ⟨b, off, rfl, hlt, hc⟩ := (unhide H).digit i hik
      have hc2 := (hbe.cell (p := ⟨b, off + i, none⟩) hlt).trans hc
      have hx : ∃ v, wr.cell? ⟨w.heap.size + 1, 31 - i, none⟩ = some v := by
        rw [q1.cell, List.getElem?_eq_getElem (by rw [bv_len, tailL_len m i (by omega)]; omega)]
        exact ⟨_, rfl⟩
      obtain ⟨v, hx⟩ := hx
      have hf := q1.froz (31 - i)
      have hset := q1.set (31 - i) (.int .u8 (digN m i))
      have e1 : (bv (tailL m i)).set (31 - i) (.int .u8 (digN m i)) = bv (tailL m (i + 1)) := by
        rw [← tailL_step m i (by omega)]
        unfold bv
        rw [List.map_set]
        rfl
      rw [e1] at hset
      have h0 := q0.only ((Only.refl (w.heap.size + 1) wr).setCell (31 - i) (.int .u8 (digN m i))) (by omega)
      have hb2 := hbe.setCell (p := ⟨w.heap.size + 1, 31 - i, none⟩) (by simp) (.int .u8 (digN m i))
      obtain ⟨j, hj⟩ : ∃ j, j = 31 - i := ⟨_, rfl⟩
      rw [← hj] at hx hf hset h0 hb2
      have ej : (31 : Int) - (i : Int) = (j : Int) := by omega
      have hjl : j < 32 := by omega
      have HSET := hide hset
      have HH0 := hide h0
      have HB2 := hide hb2
      generalize digN m i = dg at hc2 HSET HH0 HB2
      clear hset h0 hb2 q0 q1 e1 hc hj
      go_wp2
      go_roundg (k - 1 - i)
      case measure => omega
      case rel => exact ⟨i + 1, by omega, rfl, unhide HH0, unhide HSET, unhide HB2⟩
    · obtain rfl : i = k := by omega
      rw [tailL_end m i (unhide HLT) hl] at q1
      have hbl : (bv (be32 m)).length = 32 := by rw [bv_len, be32_len]
      have hsz : (Sakg.prog.info? 28).map (·.size) = some (bv (be32 m)).length := by
        rw [hbl]
        obtain ⟨i0, a1, a2⟩ := Option.map_eq_some_iff.1 info32
        rw [a1]
        exact congrArg some (Prod.mk.inj a2).2
      have HRA := hide q1.rangeAll
      have Q0 := hide q0
      clear q0 q1
      go_wp2_with (first
        | ((with_reducible refine at_load 28 ?_); refine wpList_load_g (by rfl) 28 (.tmp 4) rfl (w.heap.size + 1) 0 rfl (bv (be32 m)) _ (unhide HRA) Sakg.underlying28 rfl hsz ?_)
        | ((with_reducible refine at_store 28 ?_); refine wpList_store_whole rfl 28 (.tmp 2) (.tmp 25) rfl w.heap.size 28 (bv (zeros 32)) (bv (be32 m)) rfl rfl (unhide Q0) (by rw [hz32, hbl]) hsz (bv_one _) ?_; intro w9 hr9 ho9))
      refine bodyPost_ret (results_row_tmp rfl _ _ _ _ _ _ rfl hr9 (by simpa using hsz)) rfl ?_
      exact ⟨rfl, hbe.trans (ho9.below _ (Nat.le_refl _))⟩

theorem be32_size (m : Nat) : (Sakg.prog.info? 28).map (·.size) = some (bv (be32 m)).length := by
  have hbl : (bv (be32 m)).length = 32 := by rw [bv_len, be32_len]
  rw [hbl]
  obtain ⟨i0, a1, a2⟩ := Option.map_eq_some_iff.1 info32
  rw [a1]
  exact congrArg some (Prod.mk.inj a2).2
theorem be32_isW (m : Nat) : IsW (be32 m) := ⟨be32_len m, be32_byt m⟩

set_option maxHeartbeats 4000000 in
theorem word_any (a : Option Addr) (la ca m : Nat) (w : World) (h : IsNat w a la ca m) (hm : m < P256) :
    Calls Sakg.prog 56 #[.slice a la ca] w fun e w' => e = .returned (.agg (bv (be32 m)).toArray) ∧ Below w.heap.size w w' := by
  obtain ⟨W, hW⟩ : ∃ W, W = w.alloc (.cells (bv (zeros 32)).toArray 29) := ⟨_, rfl⟩
  have hb0 : Below w.heap.size w W := by rw [hW]; exact (Below.refl _ _).alloc (Nat.le_refl _) _
  have r0 : RowT 29 W w.heap.size (bv (zeros 32)) := by rw [hW]; exact RowT.new _ _ _
  have HB := hide (be32_any a la ca m W (h.kept hb0) hm)
  have hz32 : (bv (zeros 32)).length = 32 := by rw [bv_len, zeros_len]
  have hbl : (bv (be32 m)).length = 32 := by rw [bv_len, be32_len]
  have hsz := be32_size m
  have hszW := (be32_isW m).size
  have R0 := hide r0
  clear h r0
  go_enter Sakg.func56, Sakg.ntmps56
  go_upto_region 1 with ((with_reducible refine at_alloc 29 ?_); refine wpList_alloc_g (by rfl) 29 rfl (bv (zeros 32)) 32 infoW2 hz32 ?_)
  rw [← hW]
  clear hW
  simp only [Act.put, List.setIfInBounds_toArray, List.set_cons_zero, List.set_cons_succ]
  go_upto_region 2 with (first
    | (go_at_call 132; refine (unhide HB).mono ?_; rintro e w1 ⟨rfl, b1⟩)
    | ((with_reducible refine at_alloc 28 ?_); refine wpList_alloc_g (by rfl) 28 rfl (bv (zeros 32)) 32 info32 hz32 ?_)
    | ((with_reducible refine at_store 28 ?_); refine wpList_store_whole rfl 28 (.tmp 3) (.tmp 8) rfl _ _ _ (bv (be32 m)) rfl rfl (RowT.new _ _ _) (by rw [hz32, hbl]) hsz (bv_one _) ?_; intro w2 hr2 hon2; have hbb2 := box_below hon2; clear hon2))
  have d2 : Below W.heap.size W w2 := b1.trans (hbb2.1.mono b1.size)
  have HRA := hide hr2.rangeAll
  have Q0 := hide ((unhide R0).kept d2)
  have hbw : Below w.heap.size w w2 := hb0.trans (d2.mono hb0.size)
  clear hr2 hbb2
  go_wp2_with (first
    | ((with_reducible refine at_load 28 ?_); refine wpList_load_g (by rfl) 28 (.tmp 3) rfl w1.heap.size 0 rfl (bv (be32 m)) _ (unhide HRA) Sakg.underlying28 rfl hsz ?_)
    | ((with_reducible refine at_store 29 ?_); refine wpList_store_whole rfl 29 (.tmp 2) (.tmp 10) rfl w.heap.size 29 (bv (zeros 32)) (bv (be32 m)) rfl rfl (unhide Q0) (by rw [hz32, hbl]) hszW (bv_one _) ?_; intro w9 hr9 ho9))
  refine bodyPost_ret (results_cell_row rfl _ _ _ _ _ _ _ rfl hr9 Sakg.underlying29 rfl (by simpa using hszW)) rfl ?_
  exact ⟨rfl, hbw.trans (ho9.below _ (Nat.le_refl _))⟩

end Go.Proofs.YgcsakGreat
