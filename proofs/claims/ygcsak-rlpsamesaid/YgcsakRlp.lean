/-
  The walks of package rlp's writers.
-/
import Derived.Test.YgcsakPlain
import Derived.Test.YgcsakBytes
namespace Go.Proofs.Ygcsak
set_option linter.unusedVariables false
set_option linter.unusedSimpArgs false
open Go.RowKit

theorem lbF_step (j m : Nat) (hj : j ≤ 8) (h2 : m < 256 ^ (8 - j)) (h0 : 0 < m) : j < 8 ∧ lbF (8 - (j + 1)) (m / 256) + (j + 1) = lbF (8 - j) m + j ∧ m / 256 < 256 ^ (8 - (j + 1)) := by
  have hj8 : j < 8 := by
    rcases Nat.lt_or_ge j 8 with h | h
    · exact h
    · have : j = 8 := by omega
      subst this
      simp at h2
      omega
  obtain ⟨f, hf⟩ : ∃ f, 8 - j = f + 1 := ⟨7 - j, by omega⟩
  have hf' : 8 - (j + 1) = f := by omega
  rw [hf', hf]
  rw [hf, Nat.pow_succ] at h2
  refine ⟨hj8, ?_, Nat.div_lt_of_lt_mul (by omega)⟩
  rw [show lbF (f + 1) m = lbF f (m / 256) + 1 from by rw [lbF, if_neg (by omega)]]
  omega

theorem lbF_zero (f : Nat) : lbF f 0 = 0 := by cases f <;> simp [lbF]

theorem ret_int {k : IntKind} {a b : Int} (h : a = b) : Ending.returned (.int k a) = .returned (.int k b) := by rw [h]

set_option maxHeartbeats 400000 in
theorem lb_any (n : Nat) (hn : n < 256 ^ 8) (w : World) :
    Calls Sakg.prog 78 #[.int .u64 n] w fun e w' => e = .returned (.int .i64 (lbF 8 n)) ∧ w' = w := by
  go_enter Sakg.func78, Sakg.ntmps78
  go_wp2
  go_loop [0, 3] (fun a k => ∃ j m : Nat, j ≤ 8 ∧ m < 256 ^ (8 - j) ∧ a = .int .u64 m ∧ k = .int .i64 j ∧ lbF (8-j) m + j = lbF 8 n) (fun _ k => 8 - (intOf k).toNat)
  case atStart => exact ⟨0, n, by omega, hn, rfl, rfl, rfl⟩
  case round =>
    obtain ⟨j, m, hj, hm, rfl, rfl, h1⟩ := hrel
    have H1 : Hid (lbF (8-j) m + j = lbF 8 n) := h1
    have HM : Hid (m < 256 ^ (8 - j)) := hm
    clear h1 hm
    by_cases hz : 0 < m
    · have hs := lbF_step j m hj HM.out hz
      obtain ⟨hj8, hs2, hs3⟩ := hs
      have HS : Hid (lbF (8 - (j + 1)) (m / 256) + (j + 1) = lbF (8 - j) m + j) := hs2
      have HT : Hid (m / 256 < 256 ^ (8 - (j + 1))) := hs3
      clear hs2 hs3
      go_wp2
      go_round
      case rel => exact ⟨j + 1, m / 256, by omega, HT.out, by go_num, by go_num, by rw [HS.out]; exact H1.out⟩
      case measure => simp [intOf]; omega
    · have : m = 0 := by omega
      subst this
      go_wp2
      go_ret
      exact ⟨ret_int (by rw [← H1.out, lbF_zero]; omega), rfl⟩


theorem src_one (w : World) (x : Int) (h0 : 0 ≤ x) (h1 : x ≤ 255) : Src (w.alloc (.cells #[.int .u8 x] 5)) (some ⟨w.heap.size, 0, none⟩) 1 1 [x] := by
  refine ⟨rfl, by omega, by unfold maxLen; omega, ?_, (fun h => by cases h), fun _ => ⟨w.heap.size, 0, rfl, fun i hi => ?_⟩⟩
  · intro y hy; simp at hy; subst hy; exact ⟨h0, h1⟩
  · obtain rfl : i = 0 := by omega
    simp only [World.cell?, heap_alloc_new]
    rfl

set_option maxHeartbeats 400000 in
theorem head_short (dv : Value) (m : Nat) (xs : List Int) (n : Nat) (short : Nat) (base : Nat) (w : World) (hown : w.ownsRow base 5 1 dv m (bv xs)) (hbase : base ≤ w.heap.size)
    (hn : n < 56) (hs : short ≤ 192) (hm : m + 1 ≤ 140737488355328) :
    Calls Sakg.prog 34 #[dv, .int .i64 n, .int .u8 short] w fun e w' => ∃ v', e = .returned v' ∧ w'.ownsRow base 5 1 v' (m + 1) (bv (xs ++ [((short + n : Nat) : Int)])) ∧ Below base w w' := by
  have HO := hide hown
  clear hown
  go_enter Sakg.func34, Sakg.ntmps34
  go_wp2_with (at_builtin; go_loud (refine wpList_append_src rfl _ _ rfl base dv m xs rfl ((unhide HO).alloc _) _ 1 1 [_] rfl (src_one _ _ (by omega) (by omega)) hm (by simp; omega) ?_); intro v' w1 ho hb)
  go_ret
  exact ⟨v', rfl, ho, ((Below.refl _ _).alloc hbase _).trans hb⟩

theorem be_step (ys zs : List Int) (j n : Nat) (hz : 0 < j) (h : ys ++ be j n = zs) : ys ++ [(n : Int) / 2 ^ (8 * (j - 1)) % 256] ++ be (j - 1) n = zs := by
  obtain ⟨i, rfl⟩ : ∃ i, j = i + 1 := ⟨j - 1, by omega⟩
  rw [← h]
  simp only [be, Nat.add_sub_cancel, List.append_assoc, List.singleton_append]
  congr 2
  rw [show (256 : Nat) ^ i = 2 ^ (8 * i) from by rw [Nat.pow_mul]]
  simp

set_option maxHeartbeats 1000000 in
theorem head_long (dv : Value) (m : Nat) (xs : List Int) (n : Nat) (short : Nat) (base : Nat) (w : World) (hown : w.ownsRow base 5 1 dv m (bv xs)) (hbase : base ≤ w.heap.size)
    (hn : 56 ≤ n) (hn2 : n ≤ 140737488355328) (hs : short ≤ 192) (hm : m + 9 ≤ 140737488355328) :
    Calls Sakg.prog 34 #[dv, .int .i64 n, .int .u8 short] w fun e w' => ∃ v', e = .returned v' ∧ w'.ownsRow base 5 1 v' (m + 1 + lbF 8 n) (bv (xs ++ [((short + 55 + lbF 8 n : Nat) : Int)] ++ be (lbF 8 n) n)) ∧ Below base w w' := by
  have HO := hide hown
  clear hown
  have hk := lbF_le 8 n
  have hlb := lb_any n (by omega)
  generalize lbF 8 n = k at hlb hk ⊢
  have HL := hide hlb
  clear hlb
  go_enter Sakg.func34, Sakg.ntmps34
  go_wp2_with (first | (go_at_call 78; refine ((unhide HL) _).mono ?_; rintro e w' ⟨rfl, rfl⟩) | (at_builtin; go_loud (refine wpList_append_src rfl _ _ rfl base dv m xs rfl ((unhide HO).alloc _) _ 1 1 [_] rfl (src_one _ _ (by omega) (by omega)) (by omega) (by simp; omega) ?_); intro v' w1 ho hb))
  have hbw : Below base w' w1 := ((Below.refl _ _).alloc hbase _).trans hb
  have hb1 : base ≤ w1.heap.size := by have := hbw.size; omega
  clear hb HL HO
  go_loopw [0, 8] (fun v i wr => ∃ (j : Nat) (ys : List Int), j ≤ k ∧ i = .int .i64 j ∧ wr.ownsRow base 5 1 v (m + 1 + (k - j)) (bv ys) ∧ ys ++ be j n = xs ++ [((short + 55 + k : Nat) : Int)] ++ be k n ∧ Below base w' wr ∧ base ≤ wr.heap.size) (fun _ i _ => (intOf i).toNat)
  case atStart => exact ⟨k, _, Nat.le_refl _, rfl, by simpa using ho, rfl, hbw, hb1⟩
  case round =>
    obtain ⟨j, ys, hj, rfl, ho2, hys, hb2, hb3⟩ := hrel
    have HY := hide hys
    clear hys ho
    by_cases hz : 0 < j
    · go_wp2_with (at_builtin; refine wpList_append_src rfl _ _ rfl base _ _ ys rfl (ho2.alloc _) _ 1 1 [_] rfl (src_one _ _ (by omega) (by omega)) (by omega) (by simp; omega) ?_; intro v2 w2 ho3 hb4)
      have hb5 : Below base w' w2 := (hb2.alloc hb3 _).trans hb4
      have hb6 : base ≤ w2.heap.size := by have := hb4.size; simp at this; omega
      go_roundw
      case rel => exact ⟨j - 1, _, by omega, by go_num, by rw [show m + 1 + (k - (j - 1)) = m + 1 + (k - j) + 1 from by omega]; exact ho3, be_step _ _ _ _ hz (unhide HY), hb5, hb6⟩
      case measure => simp [intOf]; omega
    · obtain rfl : j = 0 := by omega
      go_wp2
      go_ret
      have hy := unhide HY
      simp only [be, List.append_nil] at hy
      subst hy
      exact ⟨_, rfl, ho2, hb2⟩

theorem headB_len (n short : Nat) : (headB n short).length ≤ 9 := by
  unfold headB
  split
  · simp
  · have := lbF_le 8 n
    simp [be_len]
    omega

theorem head_any (dv : Value) (m : Nat) (xs : List Int) (n : Nat) (short : Nat) (base : Nat) (w : World) (hown : w.ownsRow base 5 1 dv m (bv xs)) (hbase : base ≤ w.heap.size)
    (hn2 : n ≤ 140737488355328) (hs : short ≤ 192) (hm : m + 9 ≤ 140737488355328) :
    Calls Sakg.prog 34 #[dv, .int .i64 n, .int .u8 short] w fun e w' => ∃ v', e = .returned v' ∧ w'.ownsRow base 5 1 v' (m + (headB n short).length) (bv (xs ++ headB n short)) ∧ Below base w w' := by
  unfold headB
  by_cases h : n < 56
  · rw [if_pos h]
    exact head_short dv m xs n short base w hown hbase h hs (by omega)
  · rw [if_neg h]
    refine (head_long dv m xs n short base w hown hbase (by omega) hn2 hs hm).mono ?_
    rintro e w' ⟨v', rfl, ho, hb⟩
    refine ⟨v', rfl, ?_, hb⟩
    rw [List.length_cons, be_len, show m + (lbF 8 n + 1) = m + 1 + lbF 8 n from by omega]
    simpa using ho

/-- what 'rlp.List' writes -/
def listB (l : List Int) : List Int := headB l.length 192 ++ l

set_option maxHeartbeats 1000000 in
theorem list_any (dv : Value) (m : Nat) (xs : List Int) (ao : Option Addr) (len cap : Nat) (ys : List Int) (base : Nat) (w : World) (hown : w.ownsRow base 5 1 dv m (bv xs)) (hbase : base ≤ w.heap.size)
    (hsrc : Src w ao len cap ys) (hlt : ∀ x, ao = some x → 0 < len → x.block < base) (hm : m + 9 + len ≤ 140737488355328) :
    Calls Sakg.prog 11 #[dv, .slice ao len cap] w fun e w' => ∃ v', e = .returned v' ∧ w'.ownsRow base 5 1 v' (m + (listB ys).length) (bv (xs ++ listB ys)) ∧ Below base w w' := by
  have hl := hsrc.len_eq
  have hH := headB_len len 192
  have HC := hide (head_any dv m xs len 192 base w hown hbase (by omega) (by omega) (by omega))
  have HS := hide hsrc
  have HL := hide hl
  clear hown hsrc hl
  go_enter Sakg.func11, Sakg.ntmps11
  go_wp2_with (first | (go_at_call 34; refine (unhide HC).mono ?_; rintro e w1 ⟨v1, rfl, ho1, hb1⟩) | (at_builtin; refine wpList_append_src rfl _ _ rfl base _ _ _ rfl ho1 _ _ _ ys rfl ((unhide HS).below hb1 hlt) (by omega) (by have := hb1.size; omega) ?_; intro v2 w2 ho2 hb2))
  go_ret
  have e := unhide HL
  subst e
  refine ⟨v2, rfl, ?_, hb1.trans hb2⟩
  unfold listB
  rw [List.length_append, ← List.append_assoc, ← Nat.add_assoc]
  exact ho2

/-- what 'rlp.String' writes -/
def strB (l : List Int) : List Int :=
  match l with
  | [x] => if x < 128 then [x] else headB 1 128 ++ [x]
  | l => headB l.length 128 ++ l

theorem strB_one (x : Int) (h : x < 128) : strB [x] = [x] := by simp [strB, h]
theorem strB_other (l : List Int) (h : l.length = 1 → ¬ l.getD 0 0 < 128) : strB l = headB l.length 128 ++ l := by
  match l with
  | [] => rfl
  | [x] => have := h rfl; simp at this; simp [strB]; omega
  | _ :: _ :: _ => rfl
theorem strB_len (l : List Int) : (strB l).length ≤ l.length + 9 := by
  by_cases h : l.length = 1 → ¬ l.getD 0 0 < 128
  · rw [strB_other l h]
    have := headB_len l.length 128
    simp
    omega
  · simp only [Classical.not_imp, Decidable.not_not] at h
    match l, h with
    | [x], h => simp at h; simp [strB, h]

set_option maxHeartbeats 1000000 in
theorem string_one (dv : Value) (m : Nat) (xs : List Int) (b off cap : Nat) (x : Int) (base : Nat) (w : World) (hown : w.ownsRow base 5 1 dv m (bv xs)) (hbase : base ≤ w.heap.size)
    (hc : w.cell? ⟨b, off, none⟩ = some (.int .u8 x)) (h0 : 0 ≤ x) (h1 : x < 128) (hm : m + 1 ≤ 140737488355328) :
    Calls Sakg.prog 9 #[dv, .slice (some ⟨b, off, none⟩) 1 cap] w fun e w' => ∃ v', e = .returned v' ∧ w'.ownsRow base 5 1 v' (m + 1) (bv (xs ++ [x])) ∧ Below base w w' := by
  have HO := hide hown
  clear hown
  go_enter Sakg.func9, Sakg.ntmps9
  go_wp2_with (at_builtin; refine wpList_append_src rfl _ _ rfl base _ _ xs rfl ((unhide HO).alloc _) _ 1 1 [_] rfl (src_one _ _ (by omega) (by omega)) (by omega) (by simp; omega) ?_; intro v2 w2 ho2 hb2)
  go_ret
  exact ⟨v2, rfl, ho2, ((Below.refl _ _).alloc hbase _).trans hb2⟩

set_option maxHeartbeats 1000000 in
theorem string_high (dv : Value) (m : Nat) (xs : List Int) (b off cap : Nat) (x : Int) (base : Nat) (w : World) (hown : w.ownsRow base 5 1 dv m (bv xs)) (hbase : base ≤ w.heap.size)
    (hsrc : Src w (some ⟨b, off, none⟩) 1 cap [x]) (hlt : b < base)
    (hc : w.cell? ⟨b, off, none⟩ = some (.int .u8 x)) (h0 : 0 ≤ x) (h1 : 128 ≤ x) (hm : m + 10 ≤ 140737488355328) :
    Calls Sakg.prog 9 #[dv, .slice (some ⟨b, off, none⟩) 1 cap] w fun e w' => ∃ v', e = .returned v' ∧ w'.ownsRow base 5 1 v' (m + (headB 1 128).length + 1) (bv (xs ++ headB 1 128 ++ [x])) ∧ Below base w w' := by
  have hH := headB_len 1 128
  have HC := hide (head_any dv m xs 1 128 base w hown hbase (by omega) (by omega) (by omega))
  have HS := hide hsrc
  clear hown hsrc
  have hx : ¬ x < 128 := by omega
  go_enter Sakg.func9, Sakg.ntmps9
  go_wp2_with (first | (go_at_call 34; refine (unhide HC).mono ?_; rintro e w1 ⟨v1, rfl, ho1, hb1⟩) | (at_builtin; refine wpList_append_src rfl _ _ rfl base _ _ _ rfl ho1 _ _ _ [x] rfl ((unhide HS).below hb1 (by rintro y hy _; obtain rfl := Option.some.inj hy; exact hlt)) (by omega) (by have := hb1.size; omega) ?_; intro v2 w2 ho2 hb2))
  go_ret
  exact ⟨v2, rfl, ho2, hb1.trans hb2⟩

set_option maxHeartbeats 1000000 in
theorem string_other (dv : Value) (m : Nat) (xs : List Int) (ao : Option Addr) (len cap : Nat) (ys : List Int) (base : Nat) (w : World) (hown : w.ownsRow base 5 1 dv m (bv xs)) (hbase : base ≤ w.heap.size)
    (hsrc : Src w ao len cap ys) (hlt : ∀ x, ao = some x → 0 < len → x.block < base) (hne : len ≠ 1) (hm : m + 9 + len ≤ 140737488355328) :
    Calls Sakg.prog 9 #[dv, .slice ao len cap] w fun e w' => ∃ v', e = .returned v' ∧ w'.ownsRow base 5 1 v' (m + (headB len 128).length + len) (bv (xs ++ headB len 128 ++ ys)) ∧ Below base w w' := by
  have hH := headB_len len 128
  have HC := hide (head_any dv m xs len 128 base w hown hbase (by omega) (by omega) (by omega))
  have HS := hide hsrc
  clear hown hsrc
  have hx : ((len : Int) == 1) = false := by simp; omega
  go_enter Sakg.func9, Sakg.ntmps9
  go_wp2_with (first | (go_at_call 34; refine (unhide HC).mono ?_; rintro e w1 ⟨v1, rfl, ho1, hb1⟩) | (at_builtin; refine wpList_append_src rfl _ _ rfl base _ _ _ rfl ho1 _ _ _ ys rfl ((unhide HS).below hb1 hlt) (by omega) (by have := hb1.size; omega) ?_; intro v2 w2 ho2 hb2))
  go_ret
  exact ⟨v2, rfl, ho2, hb1.trans hb2⟩

theorem string_any (dv : Value) (m : Nat) (xs : List Int) (ao : Option Addr) (len cap : Nat) (ys : List Int) (base : Nat) (w : World) (hown : w.ownsRow base 5 1 dv m (bv xs)) (hbase : base ≤ w.heap.size)
    (hsrc : Src w ao len cap ys) (hlt : ∀ x, ao = some x → 0 < len → x.block < base) (hm : m + 9 + len ≤ 140737488355328) :
    Calls Sakg.prog 9 #[dv, .slice ao len cap] w fun e w' => ∃ v', e = .returned v' ∧ w'.ownsRow base 5 1 v' (m + (strB ys).length) (bv (xs ++ strB ys)) ∧ Below base w w' := by
  have hl := hsrc.len_eq
  by_cases h1 : len = 1
  · subst h1
    obtain ⟨b, off, rfl, hc⟩ := hsrc.at_ (by omega)
    match ys, hl with
    | [x], _ =>
      have hx := hsrc.byt x (by simp)
      have hcell : w.cell? ⟨b, off, none⟩ = some (.int .u8 x) := by simpa using hc 0 (by omega)
      by_cases hlo : x < 128
      · rw [strB_one x hlo]
        exact string_one dv m xs b off cap x base w hown hbase hcell hx.1 hlo (by omega)
      · rw [strB_other [x] (by simp; omega)]
        refine (string_high dv m xs b off cap x base w hown hbase hsrc (hlt _ rfl (by omega)) hcell hx.1 (by omega) (by omega)).mono ?_
        rintro e w' ⟨v', rfl, ho, hb⟩
        refine ⟨v', rfl, ?_, hb⟩
        rw [List.length_append, ← List.append_assoc, ← Nat.add_assoc]
        exact ho
  · rw [strB_other ys (by omega), hl]
    refine (string_other dv m xs ao len cap ys base w hown hbase hsrc hlt h1 hm).mono ?_
    rintro e w' ⟨v', rfl, ho, hb⟩
    refine ⟨v', rfl, ?_, hb⟩
    rw [List.length_append, ← List.append_assoc, ← Nat.add_assoc, hl]
    exact ho

end Go.Proofs.Ygcsak
