/-
  law.join and law.equalBytes.
-/
import Derived.Test.YgcsakRlp
namespace Go.Proofs.Ygcsak
set_option linter.unusedVariables false
set_option linter.unusedSimpArgs false
open Go.RowKit

theorem grown_below {w w' : World} {row : Option Nat} (h : w.grownBy w' row) (base : Nat) (hb : base ≤ w.heap.size) (hr : ∀ k, row = some k → base ≤ k) : Below base w w' :=
  (Below.refl base w).grown h hb hr

set_option maxHeartbeats 1000000 in
theorem join_any (a0 a1 a2 a3 : Option Addr) (l0 l1 l2 l3 c0 c1 c2 c3 : Nat) (x0 x1 x2 x3 : List Int) (w : World) (s0 : Src w a0 l0 c0 x0) (s1 : Src w a1 l1 c1 x1) (s2 : Src w a2 l2 c2 x2) (s3 : Src w a3 l3 c3 x3)
    (hm : l0 + l1 + l2 + l3 ≤ 140737488355328) :
    Calls Sakg.prog 17 #[.slice a0 l0 c0, .slice a1 l1 c1, .slice a2 l2 c2, .slice a3 l3 c3] w fun e w' => ∃ v', e = .returned v' ∧ w'.ownsRow w.heap.size 5 1 v' (l0 + l1 + l2 + l3) (bv (x0 ++ x1 ++ x2 ++ x3)) ∧ Below w.heap.size w w' := by
  obtain ⟨i0, hi, hz0, hz1, hz2⟩ := info_parts Sakg.info5
  have S0 := hide s0
  have S1 := hide s1
  have S2 := hide s2
  have S3 := hide s3
  have HI := hide hi
  have HZ0 := hide hz0
  have HZ1 := hide hz1
  have HZ2 := hide hz2
  clear s0 s1 s2 s3 hi hz0 hz1 hz2
  go_enter Sakg.func17, Sakg.ntmps17
  go_wp2_with (first
    | (at_make; refine wpList_make_own _ rfl _ _ 23 rfl w.heap.size 5 i0 (.int .u8 0) 1 Sakg.underlying23 (unhide HI) (unhide HZ0) (unhide HZ1) .i64 .i64 _ (l0 + l1 + l2 + l3) rfl rfl (by omega) (by rw [unhide HZ2]; omega) (by unfold maxLen; omega) (Nat.le_refl _) ?_; intro w0 ho0 hg0; have hb0 := grown_below hg0 w.heap.size (Nat.le_refl _) (by simp); clear hg0)
    | (at_builtin; refine wpList_append_src rfl (.tmp 22) (.tmp 23) rfl w.heap.size _ 0 [] rfl ho0 _ _ _ x0 rfl ((unhide S0).kept hb0) (by omega) hb0.size ?_; intro v1 w1 ho1 hb1)
    | (at_builtin; refine wpList_append_src rfl (.tmp 25) (.tmp 26) rfl w.heap.size _ _ _ rfl ho1 _ _ _ x1 rfl ((unhide S1).kept (hb0.trans hb1)) (by omega) (hb0.trans hb1).size ?_; intro v2 w2 ho2 hb2)
    | (at_builtin; refine wpList_append_src rfl (.tmp 28) (.tmp 29) rfl w.heap.size _ _ _ rfl ho2 _ _ _ x2 rfl ((unhide S2).kept ((hb0.trans hb1).trans hb2)) (by omega) ((hb0.trans hb1).trans hb2).size ?_; intro v3 w3 ho3 hb3)
    | (at_builtin; refine wpList_append_src rfl (.tmp 31) (.tmp 32) rfl w.heap.size _ _ _ rfl ho3 _ _ _ x3 rfl ((unhide S3).kept (((hb0.trans hb1).trans hb2).trans hb3)) (by omega) (((hb0.trans hb1).trans hb2).trans hb3).size ?_; intro v4 w4 ho4 hb4))
  go_ret
  exact ⟨v4, rfl, by simpa using ho4, (((hb0.trans hb1).trans hb2).trans hb3).trans hb4⟩

/-- the string that bytes make -/
theorem run_str (w : World) (a : Option Addr) (len cap : Nat) (xs : List Int) (h : Src w a len cap xs) : (convert 23 9 (.slice a len cap)).run Sakg.prog w = .ok (.string (strOfNums xs)) w := by
  have hl := h.len_eq
  by_cases hz : 0 < len
  · obtain ⟨b, off, rfl, hc⟩ := h.at_ hz
    exact run_convert_bytes_arg w 23 5 Sakg.underlying23 Sakg.underlying5 b off len cap xs hl hc 9 Sakg.underlying9
  · obtain rfl : len = 0 := by omega
    obtain rfl : xs = [] := List.eq_nil_of_length_eq_zero hl
    cases a with
    | none => exact run_convert_bytes_nil w 23 5 Sakg.underlying23 Sakg.underlying5 0 cap 9 Sakg.underlying9
    | some a =>
      rw [run_convert_bytes_string w 23 9 5 _ 0 cap Sakg.underlying23 Sakg.underlying5 Sakg.underlying9, run_bytesToString w _ 0 cap [] (by simp [loadCells, loadCellsFrom])]
      rfl

theorem map_inj : ∀ (x0 x1 : List Int), Byt x0 → Byt x1 → x0.map (fun n => UInt8.ofNat n.toNat) = x1.map (fun n => UInt8.ofNat n.toNat) → x0 = x1
  | [], [], _, _, _ => rfl
  | [], _ :: _, _, _, h => by simp at h
  | _ :: _, [], _, _, h => by simp at h
  | a :: x0, b :: x1, h0, h1, h => by
    simp only [List.map_cons, List.cons.injEq] at h
    have ha := h0 a (by simp)
    have hb := h1 b (by simp)
    have e := congrArg UInt8.toNat h.1
    simp only [UInt8.toNat_ofNat'] at e
    have : a = b := by omega
    subst this
    rw [map_inj x0 x1 (fun x hx => h0 x (by simp [hx])) (fun x hx => h1 x (by simp [hx])) h.2]

theorem str_eq (x0 x1 : List Int) (h0 : Byt x0) (h1 : Byt x1) : ((strOfNums x0).toList == (strOfNums x1).toList) = decide (x0 = x1) := by
  rw [ByteArray.toList_eq, ByteArray.toList_eq, strOfNums_data, strOfNums_data]
  by_cases h : x0 = x1
  · subst h; simp
  · rw [decide_eq_false h]
    rw [beq_eq_false_iff_ne]
    intro e
    exact h (map_inj x0 x1 h0 h1 e)

set_option maxHeartbeats 1000000 in
theorem equal_any (a0 a1 : Option Addr) (l0 l1 c0 c1 : Nat) (x0 x1 : List Int) (w : World) (s0 : Src w a0 l0 c0 x0) (s1 : Src w a1 l1 c1 x1) :
    Calls Sakg.prog 15 #[.slice a0 l0 c0, .slice a1 l1 c1] w fun e w' => e = .returned (.bool (decide (x0 = x1))) ∧ w = w' := by
  have h0 := run_str w a0 l0 c0 x0 s0
  have h1 := run_str w a1 l1 c1 x1 s1
  have S0 := hide s0
  have S1 := hide s1
  clear s0 s1
  go_enter Sakg.func15, Sakg.ntmps15
  go_wp2
  go_ret
  exact ⟨by show Ending.returned (.bool _) = _; rw [str_eq _ _ (unhide S0).byt (unhide S1).byt], rfl⟩
end Go.Proofs.Ygcsak
