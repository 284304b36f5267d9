/-
  law.RLPCanon: the plain law and the walk.
-/
import Derived.Test.YgcsakSplitAny
namespace Go.Proofs.Ygcsak
set_option linter.unusedVariables false
set_option linter.unusedSimpArgs false
set_option maxRecDepth 100000
open Go.RowKit

/-- what the writers write of an item -/
def itemB (li : Bool) (c : List Int) : List Int := if li then listB c else strB c

theorem cons_of (xs : List Int) (h : xs.length ≠ 0) : xs = xs.getD 0 0 :: xs.drop 1 := by
  match xs, h with
  | x :: r, _ => simp

/-- the head of a content of sizeP's size is what stands ahead of it -/
theorem head_of (xs : List Int) (x : Nat) (hb : Byt xs) (hx : xs.getD 0 0 = (x : Int)) (hl : xs.length ≠ 0) (hx1 : 128 ≤ x) (hx2 : x < 256) (ho : (sizeP xs (x - shortOf x)).2.2 = true)
    (hf : (sizeP xs (x - shortOf x)).2.1 + (sizeP xs (x - shortOf x)).1 ≤ xs.length) (hm : xs.length ≤ 140737488355328) :
    headB (sizeP xs (x - shortOf x)).1 (shortOf x) = xs.take (sizeP xs (x - shortOf x)).2.1 := by
  have hs : shortOf x ≤ x := by unfold shortOf; split <;> omega
  obtain ⟨n, hn⟩ : ∃ n, x - shortOf x = n := ⟨_, rfl⟩
  rw [hn] at ho hf ⊢
  have hxs := cons_of xs hl
  rw [hx] at hxs
  unfold sizeP at *
  by_cases h1 : n < 56
  · rw [if_pos h1]
    simp only
    unfold headB
    rw [if_pos h1, hxs]
    simp
    omega
  · rw [if_neg h1] at ho hf ⊢
    by_cases h2 : 7 < n - 55 ∨ xs.length ≤ n - 55 ∨ xs.getD 1 0 = 0
    · rw [if_pos h2] at ho; simp at ho
    · rw [if_neg h2] at ho hf ⊢
      simp only at ho hf ⊢
      have h56 : 56 ≤ rd ((xs.drop 1).take (n - 55)) 0 := by simpa using ho
      simp only [not_or] at h2
      obtain ⟨k, hk⟩ : ∃ k, n - 55 = k + 1 := ⟨n - 56, by omega⟩
      rw [hk] at h2 hf h56 ⊢
      have htl : ((xs.drop 1).take (k + 1)).length = k + 1 := by simp; omega
      have hbt : Byt ((xs.drop 1).take (k + 1)) := (hb.drop 1).take _
      obtain ⟨l, hlt⟩ : ∃ l, (xs.drop 1).take (k + 1) = l := ⟨_, rfl⟩
      have hl0 : l.getD 0 0 = xs.getD 1 0 := by
        rw [← hlt, List.getD_eq_getElem?_getD, List.getD_eq_getElem?_getD, List.getElem?_take, if_pos (by omega), List.getElem?_drop]
      rw [hlt] at htl hbt h56 hf ⊢
      have hlt2 := rd_lt l 0 1 hbt (by omega)
      have hge : 256 ^ k ≤ rd l 0 := by
        match l, htl, hl0, hbt with
        | c :: l, htl, hl0, hbt =>
          simp only [rd, List.length_cons] at htl ⊢
          have hl1 : c = xs.getD 1 0 := hl0
          have hc := hbt c (by simp)
          have := rd_ge l (0 * 256 + c.toNat) 1 (by have := h2.2.2; omega)
          have e : l.length = k := by omega
          rw [e] at this
          omega
      rw [htl] at hlt2
      have hlb : lbF 8 (rd l 0) = k + 1 := lbF_eq 8 (rd l 0) (k + 1) (by omega) (by simpa using hge) (by omega) (by
        have : 256 ^ (k + 1) ≤ 256 ^ 8 := Nat.pow_le_pow_right (by omega) (by omega)
        omega)
      unfold headB
      rw [if_neg (by omega), hlb]
      have hbe := be_rd l 0 hbt
      rw [htl] at hbe
      rw [hbe, ← hlt, hxs]
      rw [show 1 + (k + 1) = (k + 1) + 1 from by omega, List.take_succ_cons]
      simp
      omega

theorem canon_law (xs : List Int) (hb : Byt xs) (hm : xs.length ≤ 140737488355328) (li : Bool) (c r : List Int) (h : splitP xs = some (li, c, r)) : itemB li c ++ r = xs ∧ c.length ≤ xs.length := by
  unfold splitP at h
  by_cases h0 : xs.length = 0
  · rw [if_pos h0] at h; cases h
  rw [if_neg h0] at h
  by_cases h1 : xs.getD 0 0 < 128
  · rw [if_pos h1] at h
    simp only [Option.some.injEq, Prod.mk.injEq] at h
    obtain ⟨rfl, rfl, rfl⟩ := h
    match xs, h0 with
    | x :: r, _ => simp at h1; simp [itemB, strB, h1]
  rw [if_neg h1] at h
  have hx := hb.get 0
  obtain ⟨x, hxe⟩ : ∃ x : Nat, xs.getD 0 0 = (x : Int) := ⟨(xs.getD 0 0).toNat, by omega⟩
  rw [hxe] at h hx h1
  simp only [Int.toNat_natCast] at h
  by_cases h2 : (sizeP xs (x - shortOf x)).2.2 = false ∨ xs.length < (sizeP xs (x - shortOf x)).2.1 + (sizeP xs (x - shortOf x)).1
  · rw [if_pos h2] at h; cases h
  rw [if_neg h2] at h
  simp only [not_or, Bool.not_eq_false] at h2
  have hH := head_of xs x hb hxe h0 (by omega) (by omega) h2.1 (by omega) hm
  by_cases h3 : x < 192 ∧ (sizeP xs (x - shortOf x)).1 = 1 ∧ xs.getD (sizeP xs (x - shortOf x)).2.1 0 < 128
  · rw [if_pos h3] at h; cases h
  rw [if_neg h3] at h
  simp only [Option.some.injEq, Prod.mk.injEq] at h
  obtain ⟨sz, at_, ok, hr⟩ : ∃ sz at_ ok, sizeP xs (x - shortOf x) = (sz, at_, ok) := ⟨_, _, _, rfl⟩
  rw [hr] at h h2 h3 hH
  simp only at h h2 h3 hH
  obtain ⟨rfl, rfl, rfl⟩ := h
  have hcl : ((xs.drop at_).take sz).length = sz := by simp; omega
  have hsplit : xs.take at_ ++ (xs.drop at_).take sz ++ xs.drop (at_ + sz) = xs := by
    rw [List.append_assoc, ← List.drop_drop, List.take_append_drop, List.take_append_drop]
  refine ⟨?_, by omega⟩
  unfold itemB
  by_cases hli : 192 ≤ x
  · rw [decide_eq_true hli, if_pos rfl]
    unfold listB
    rw [hcl]
    rw [show shortOf x = 192 from by unfold shortOf; rw [if_pos hli]] at hH
    rw [hH]
    exact hsplit
  · rw [decide_eq_false hli, if_neg (by simp)]
    rw [strB_other _ (by
      intro h1' h2'
      rw [hcl] at h1'
      refine h3 ⟨by omega, h1', ?_⟩
      rw [List.getD_eq_getElem?_getD, List.getElem?_take, if_pos (by omega), List.getElem?_drop] at h2'
      rw [List.getD_eq_getElem?_getD]
      exact h2')]
    rw [hcl]
    rw [show shortOf x = 128 from by unfold shortOf; rw [if_neg hli]] at hH
    rw [hH]
    exact hsplit

theorem item_len (li : Bool) (c : List Int) : (itemB li c).length ≤ c.length + 9 := by
  unfold itemB
  split
  · have := headB_len c.length 192
    unfold listB
    simp
    omega
  · exact strB_len c

theorem headB_byt (n short : Nat) (hs : short ≤ 192) (hn : n < 256 ^ 8) : Byt (headB n short) := by
  unfold headB
  have := lbF_le 8 n
  split
  · intro x hx; simp at hx; subst hx; omega
  · intro x hx
    simp only [List.mem_cons] at hx
    rcases hx with rfl | hx
    · omega
    · exact be_byte _ _ x hx

theorem listB_byt (c : List Int) (h : Byt c) (hm : c.length ≤ 140737488355328) : Byt (listB c) := (headB_byt _ _ (by omega) (by omega)).append h
theorem strB_byt (c : List Int) (h : Byt c) (hm : c.length ≤ 140737488355328) : Byt (strB c) := by
  by_cases h1 : c.length = 1 → ¬ c.getD 0 0 < 128
  · rw [strB_other c h1]
    exact (headB_byt _ _ (by omega) (by omega)).append h
  · simp only [Classical.not_imp, Decidable.not_not] at h1
    match c, h1 with
    | [x], h1 => simp at h1; rw [strB_one x h1]; exact h
theorem itemB_byt (li : Bool) (c : List Int) (h : Byt c) (hm : c.length ≤ 140737488355328) : Byt (itemB li c) := by
  unfold itemB
  split
  · exact listB_byt c h hm
  · exact strB_byt c h hm

set_option maxHeartbeats 1000000 in
theorem canonHolds_no (a : Option Addr) (len cap : Nat) (w : World) :
    Calls Sakg.prog 13 #[.slice a len cap, .bool false, .slice none 0 0, .slice none 0 0, .bool false] w fun e w' => e = .returned (.bool true) ∧ w = w' := by
  have hn := fun (wx : World) (x : Option Addr) (n c n' c' : Nat) => Lib.run_eql_slice_nil (P := Sakg.prog) wx 23 5 x n c n' c' Sakg.underlying23
  go_enter Sakg.func13, Sakg.ntmps13
  go_wp2
  go_ret
  exact ⟨rfl, rfl⟩

/-- a call makes a slice of bytes, in new memory -/
def Makes (w : World) (xs : List Int) (e : Ending) (w' : World) : Prop := ∃ a n c, e = .returned (.slice a n c) ∧ Src w' a n c xs ∧ Below w.heap.size w w'

theorem list_nil (ao : Option Addr) (len cap : Nat) (ys : List Int) (w : World) (hsrc : Src w ao len cap ys) (hm : 9 + len ≤ 140737488355328) :
    Calls Sakg.prog 11 #[.slice none 0 0, .slice ao len cap] w (Makes w (listB ys)) := by
  have hl := hsrc.len_eq
  refine (list_any (.slice none 0 0) 0 [] ao len cap ys w.heap.size w (World.ownsRow_nil _ _ _ _) (Nat.le_refl _) hsrc hsrc.lt (by omega)).mono ?_
  rintro e w1 ⟨v1, rfl, ho1, hb1⟩
  rw [List.nil_append] at ho1
  obtain ⟨a3, cap3, rfl, hs3⟩ := own_src ho1 (listB_byt ys hsrc.byt (by omega))
  exact ⟨_, _, _, rfl, hs3, hb1⟩

theorem string_nil (ao : Option Addr) (len cap : Nat) (ys : List Int) (w : World) (hsrc : Src w ao len cap ys) (hm : 9 + len ≤ 140737488355328) :
    Calls Sakg.prog 9 #[.slice none 0 0, .slice ao len cap] w (Makes w (strB ys)) := by
  have hl := hsrc.len_eq
  refine (string_any (.slice none 0 0) 0 [] ao len cap ys w.heap.size w (World.ownsRow_nil _ _ _ _) (Nat.le_refl _) hsrc hsrc.lt (by omega)).mono ?_
  rintro e w1 ⟨v1, rfl, ho1, hb1⟩
  rw [List.nil_append] at ho1
  obtain ⟨a3, cap3, rfl, hs3⟩ := own_src ho1 (strB_byt ys hsrc.byt (by omega))
  exact ⟨_, _, _, rfl, hs3, hb1⟩

theorem join_makes (a0 a1 a2 a3 : Option Addr) (l0 l1 l2 l3 c0 c1 c2 c3 : Nat) (x0 x1 x2 x3 : List Int) (w : World) (s0 : Src w a0 l0 c0 x0) (s1 : Src w a1 l1 c1 x1) (s2 : Src w a2 l2 c2 x2) (s3 : Src w a3 l3 c3 x3)
    (hm : l0 + l1 + l2 + l3 ≤ 140737488355328) :
    Calls Sakg.prog 17 #[.slice a0 l0 c0, .slice a1 l1 c1, .slice a2 l2 c2, .slice a3 l3 c3] w (Makes w (x0 ++ x1 ++ x2 ++ x3)) := by
  refine (join_any a0 a1 a2 a3 l0 l1 l2 l3 c0 c1 c2 c3 x0 x1 x2 x3 w s0 s1 s2 s3 hm).mono ?_
  rintro e w1 ⟨v1, rfl, ho1, hb1⟩
  obtain ⟨a3, cap3, rfl, hs3⟩ := own_src ho1 (((s0.byt.append s1.byt).append s2.byt).append s3.byt)
  exact ⟨_, _, _, rfl, hs3, hb1⟩

theorem canon_ret (it r xs : List Int) (h : it ++ r = xs) : Ending.returned (.bool (decide (it ++ r = xs))) = .returned (.bool true) := by
  subst h
  simp

set_option maxHeartbeats 1000000 in
theorem canonHolds_yes (a a1 a2 : Option Addr) (len cap l1 c1 l2 c2 : Nat) (xs c r : List Int) (li : Bool) (w : World) (h : Src w a len cap xs) (h1 : Src w a1 l1 c1 c) (h2 : Src w a2 l2 c2 r) (hm : len ≤ 140737488351232)
    (hlen : l1 ≤ len) (hsum : itemB li c ++ r = xs) :
    Calls Sakg.prog 13 #[.slice a len cap, .bool li, .slice a1 l1 c1, .slice a2 l2 c2, .bool true] w fun e w' => e = .returned (.bool true) ∧ Below w.heap.size w w' := by
  have hl := h.len_eq
  have hl2 := h2.len_eq
  have hsl : (itemB li c).length + l2 = len := by rw [← hl, ← hsum, List.length_append, hl2]
  have H := hide h
  have H2 := hide h2
  have HSUM := hide hsum
  have HSL := hide hsl
  have HC : Hid (Calls Sakg.prog (if li then 11 else 9) #[.slice none 0 0, .slice a1 l1 c1] w (Makes w (itemB li c))) := by
    cases li with
    | true => exact list_nil a1 l1 c1 c w h1 (by omega)
    | false => exact string_nil a1 l1 c1 c w h1 (by omega)
  clear h h1 h2 hl hl2 hsum hsl
  generalize itemB li c = it at HC HSUM HSL
  cases li with
  | true =>
    rw [if_pos rfl] at HC
    go_enter Sakg.func13, Sakg.ntmps13
    go_wp2_with (first
      | (go_at_call 11; refine (unhide HC).mono ?_; rintro e w1 ⟨a3, n3, cap3, rfl, hs3, hb1⟩)
      | (go_at_call 17; refine (join_makes _ _ _ _ _ _ _ _ _ _ _ _ it r [] [] _ hs3 ((unhide H2).kept hb1) (Src.ofNil _) (Src.ofNil _) (by have := unhide HSL; have := hs3.len_eq; omega)).mono ?_; rintro e w2 ⟨a4, n4, cap4, rfl, hs4, hb2⟩)
      | (go_at_call 15; refine (equal_any _ _ _ _ _ _ _ xs _ hs4 (((unhide H).kept hb1).kept hb2)).mono ?_; rintro e w3 ⟨rfl, rfl⟩))
    go_ret
    exact ⟨canon_ret _ _ _ (unhide HSUM), hb1.trans (hb2.mono hb1.size)⟩
  | false =>
    rw [if_neg (by simp)] at HC
    go_enter Sakg.func13, Sakg.ntmps13
    go_wp2_with (first
      | (go_at_call 9; refine (unhide HC).mono ?_; rintro e w1 ⟨a3, n3, cap3, rfl, hs3, hb1⟩)
      | (go_at_call 17; refine (join_makes _ _ _ _ _ _ _ _ _ _ _ _ it r [] [] _ hs3 ((unhide H2).kept hb1) (Src.ofNil _) (Src.ofNil _) (by have := unhide HSL; have := hs3.len_eq; omega)).mono ?_; rintro e w2 ⟨a4, n4, cap4, rfl, hs4, hb2⟩)
      | (go_at_call 15; refine (equal_any _ _ _ _ _ _ _ xs _ hs4 (((unhide H).kept hb1).kept hb2)).mono ?_; rintro e w3 ⟨rfl, rfl⟩))
    go_ret
    exact ⟨canon_ret _ _ _ (unhide HSUM), hb1.trans (hb2.mono hb1.size)⟩

set_option maxHeartbeats 1000000 in
theorem canon_walk (a : Option Addr) (len cap : Nat) (xs : List Int) (w : World) (h : Src w a len cap xs) (hm : len ≤ 140737488351232) :
    Calls Sakg.prog 4 #[.slice a len cap] w fun e w' => e = .returned (.bool true) ∧ Below w.heap.size w w' := by
  have hl := h.len_eq
  have H := hide h
  have HC := hide (split_any a len cap xs w h (by omega))
  have HL := hide (canon_law xs h.byt (by omega))
  clear h
  cases hp : splitP xs with
  | none =>
    have HP := hide hp
    clear hp
    go_enter Sakg.func4, Sakg.ntmps4
    go_wp2_with (first
      | (go_at_call 12; refine (unhide HC).mono ?_; rintro e w1 ⟨hc, he⟩; rw [unhide HP] at he; subst he)
      | (go_at_call 13; refine (canonHolds_no _ _ _ _).mono ?_; rintro e w2 ⟨rfl, rfl⟩))
    go_ret
    exact ⟨rfl, hc.below _⟩
  | some t =>
    obtain ⟨li, c, r⟩ := t
    have HP := hide hp
    have HQ := hide ((unhide HL) li c r hp)
    clear hp
    go_enter Sakg.func4, Sakg.ntmps4
    go_wp2_with (first
      | (go_at_call 12; refine (unhide HC).mono ?_; rintro e w1 ⟨hc, he⟩; rw [unhide HP] at he; obtain ⟨a1, c1, a2, c2, rfl, h1, h2⟩ := he)
      | (go_at_call 13; refine (canonHolds_yes _ _ _ _ _ _ _ _ _ xs c r li _ (hc.src (unhide H)) h1 h2 hm (by have := (unhide HQ).2; omega) (unhide HQ).1).mono ?_; rintro e w2 ⟨rfl, hb2⟩))
    go_ret
    exact ⟨rfl, (hc.below _).trans (hb2.mono (hc.below 0).size)⟩

end Go.Proofs.Ygcsak
