/-
  law.rlpSameHolds and law.RLPSame.
-/
import Derived.Test.YgcsakNumber
namespace Go.Proofs.Ygcsak
set_option linter.unusedVariables false
set_option linter.unusedSimpArgs false
set_option maxRecDepth 100000
open Go.RowKit

theorem cell_new (w : World) (v : Value) (t : TypeId) : (w.alloc (.cells #[v] t)).cell? ⟨w.heap.size, 0, none⟩ = some v := by
  simp only [World.cell?, heap_alloc_new]
  rfl

set_option maxHeartbeats 1000000 in
theorem same_low (b off cap : Nat) (a1 a2 : Option Addr) (n1 n2 c1 c2 : Nat) (y : Int) (w : World) (h : Src w (some ⟨b, off, none⟩) 1 cap [y]) (hc : w.cell? ⟨b, off, none⟩ = some (.int .u8 y)) (h0 : 0 ≤ y) (hy : y < 128)
    (h1 : Src w a1 n1 c1 (strB [y])) (h2 : Src w a2 n2 c2 (listB [y])) :
    Calls Sakg.prog 14 #[.slice (some ⟨b, off, none⟩) 1 cap, .slice a1 n1 c1, .slice a2 n2 c2] w fun e w' => e = .returned (.bool true) ∧ Below w.heap.size w w' := by
  have H := hide h
  have H1 := hide h1
  have H2 := hide h2
  have hlt : b < w.heap.size := World.block_lt_of_cell? w _ hc
  clear h h1 h2
  go_enter Sakg.func14, Sakg.ntmps14
  go_wp2_with fail
  refine (text_any _ _ _ [y] _ (unhide H) (by omega)).mono ?_
  rintro e w1 ⟨a3, n3, c3, rfl, hs3, hb1⟩
  go_wp2_with fail
  refine (equal_any _ _ _ _ _ _ _ _ _ ((unhide H1).kept hb1) hs3).mono ?_
  rintro e w2 ⟨rfl, rfl⟩
  go_wp2_with fail
  refine (items_one _ _ _ _ [y] _ (cell_new _ _ _) (((unhide H).kept hb1).alloc _) (by omega)).mono ?_
  rintro e w4 ⟨a5, n5, c5, rfl, hs5, hb4⟩
  have hb5 : Below w.heap.size w w4 := (hb1.alloc hb1.size _).trans (hb4.mono (by have := hb1.size; simp; omega))
  clear hb4
  go_wp2_with fail
  refine (equal_any _ _ _ _ _ _ _ _ _ ((unhide H2).kept hb5) hs5).mono ?_
  rintro e w6 ⟨rfl, rfl⟩
  have hcx : w4.cell? ⟨b, off, none⟩ = some (.int .u8 y) := (hb5.cell (p := ⟨b, off, none⟩) hlt).trans hc
  go_wp2_with fail
  refine (equal_any _ _ _ _ _ _ _ _ _ ((unhide H1).kept hb5) ((unhide H).kept hb5)).mono ?_
  rintro e w7 ⟨rfl, rfl⟩
  rw [strB_one y hy]
  go_wp2_with fail
  go_ret
  exact ⟨rfl, hb5⟩

set_option maxHeartbeats 1000000 in
theorem same_mid (ao : Option Addr) (len cap : Nat) (a1 a2 : Option Addr) (n1 n2 c1 c2 : Nat) (ys : List Int) (w : World) (h : Src w ao len cap ys) (hlen : len < 56) (hne : len ≠ 1)
    (hsb : strB ys = [128 + (len : Int)] ++ ys) (hlb : listB ys = [192 + (len : Int)] ++ ys) (h1 : Src w a1 n1 c1 (strB ys)) (h2 : Src w a2 n2 c2 (listB ys)) :
    Calls Sakg.prog 14 #[.slice ao len cap, .slice a1 n1 c1, .slice a2 n2 c2] w fun e w' => e = .returned (.bool true) ∧ Below w.heap.size w w' := by
  have H := hide h
  have H1 := hide h1
  have H2 := hide h2
  have HSB := hide hsb
  have HLB := hide hlb
  have d1 : ((len : Int) == 1) = false := by simp; omega
  clear h h1 h2 hsb hlb
  go_enter Sakg.func14, Sakg.ntmps14
  go_wp2_with fail
  refine (text_any _ _ _ ys _ (unhide H) (by omega)).mono ?_
  rintro e w1 ⟨a3, n3, c3, rfl, hs3, hb1⟩
  go_wp2_with fail
  refine (equal_any _ _ _ _ _ _ _ _ _ ((unhide H1).kept hb1) hs3).mono ?_
  rintro e w2 ⟨rfl, rfl⟩
  go_wp2_with fail
  refine (items_one _ _ _ _ ys _ (cell_new _ _ _) (((unhide H).kept hb1).alloc _) (by omega)).mono ?_
  rintro e w4 ⟨a5, n5, c5, rfl, hs5, hb4⟩
  have hb5 : Below w.heap.size w w4 := (hb1.alloc hb1.size _).trans (hb4.mono (by have := hb1.size; simp; omega))
  clear hb4
  go_wp2_with fail
  refine (equal_any _ _ _ _ _ _ _ _ _ ((unhide H2).kept hb5) hs5).mono ?_
  rintro e w6 ⟨rfl, rfl⟩
  go_wp2_with fail
  refine (join_makes _ _ _ _ _ _ _ _ _ _ _ _ _ ys [] [] _ (src_one _ _ (by omega) (by omega)) (((unhide H).kept hb5).alloc _) (Src.ofNil _) (Src.ofNil _) (by omega)).mono ?_
  rintro e w8 ⟨a8, n8, c8, rfl, hs8, hb8⟩
  have hb9 : Below w.heap.size w w8 := (hb5.alloc hb5.size _).trans (hb8.mono (by have := hb5.size; simp; omega))
  clear hb8
  go_wp2_with fail
  refine (equal_any _ _ _ _ _ _ _ _ _ ((unhide H1).kept hb9) hs8).mono ?_
  rintro e w10 ⟨rfl, rfl⟩
  rw [show decide (strB ys = [128 + (len : Int)] ++ ys ++ [] ++ []) = true from by rw [unhide HSB]; simp]
  go_wp2_with fail
  refine (join_makes _ _ _ _ _ _ _ _ _ _ _ _ _ ys [] [] _ (src_one _ _ (by omega) (by omega)) (((unhide H).kept hb9).alloc _) (Src.ofNil _) (Src.ofNil _) (by omega)).mono ?_
  rintro e w11 ⟨a11, n11, c11, rfl, hs11, hb11⟩
  have hb12 : Below w.heap.size w w11 := (hb9.alloc hb9.size _).trans (hb11.mono (by have := hb9.size; simp; omega))
  clear hb11
  go_wp2_with fail
  refine (equal_any _ _ _ _ _ _ _ _ _ ((unhide H2).kept hb12) hs11).mono ?_
  rintro e w13 ⟨rfl, rfl⟩
  rw [show decide (listB ys = [192 + (len : Int)] ++ ys ++ [] ++ []) = true from by rw [unhide HLB]; simp]
  go_wp2_with fail
  go_ret
  exact ⟨rfl, hb12⟩

set_option maxHeartbeats 1000000 in
theorem same_high (b off cap : Nat) (a1 a2 : Option Addr) (n1 n2 c1 c2 : Nat) (y : Int) (w : World) (h : Src w (some ⟨b, off, none⟩) 1 cap [y]) (hc : w.cell? ⟨b, off, none⟩ = some (.int .u8 y)) (h0 : 0 ≤ y) (hy : 128 ≤ y)
    (hsb : strB [y] = [129] ++ [y]) (hlb : listB [y] = [193] ++ [y]) (h1 : Src w a1 n1 c1 (strB [y])) (h2 : Src w a2 n2 c2 (listB [y])) :
    Calls Sakg.prog 14 #[.slice (some ⟨b, off, none⟩) 1 cap, .slice a1 n1 c1, .slice a2 n2 c2] w fun e w' => e = .returned (.bool true) ∧ Below w.heap.size w w' := by
  have H := hide h
  have H1 := hide h1
  have H2 := hide h2
  have HSB := hide hsb
  have HLB := hide hlb
  have hlt : b < w.heap.size := World.block_lt_of_cell? w _ hc
  have d1 : decide (y < 128) = false := decide_eq_false (by omega)
  clear h h1 h2 hsb hlb
  go_enter Sakg.func14, Sakg.ntmps14
  go_wp2_with fail
  refine (text_any _ _ _ [y] _ (unhide H) (by omega)).mono ?_
  rintro e w1 ⟨a3, n3, c3, rfl, hs3, hb1⟩
  go_wp2_with fail
  refine (equal_any _ _ _ _ _ _ _ _ _ ((unhide H1).kept hb1) hs3).mono ?_
  rintro e w2 ⟨rfl, rfl⟩
  go_wp2_with fail
  refine (items_one _ _ _ _ [y] _ (cell_new _ _ _) (((unhide H).kept hb1).alloc _) (by omega)).mono ?_
  rintro e w4 ⟨a5, n5, c5, rfl, hs5, hb4⟩
  have hb5 : Below w.heap.size w w4 := (hb1.alloc hb1.size _).trans (hb4.mono (by have := hb1.size; simp; omega))
  clear hb4
  go_wp2_with fail
  refine (equal_any _ _ _ _ _ _ _ _ _ ((unhide H2).kept hb5) hs5).mono ?_
  rintro e w6 ⟨rfl, rfl⟩
  have hcx : w4.cell? ⟨b, off, none⟩ = some (.int .u8 y) := (hb5.cell (p := ⟨b, off, none⟩) hlt).trans hc
  go_wp2_with fail
  refine (join_makes _ _ _ _ _ _ _ _ _ _ _ _ _ [y] [] [] _ (src_one _ _ (by omega) (by omega)) (((unhide H).kept hb5).alloc _) (Src.ofNil _) (Src.ofNil _) (by omega)).mono ?_
  rintro e w8 ⟨a8, n8, c8, rfl, hs8, hb8⟩
  have hb9 : Below w.heap.size w w8 := (hb5.alloc hb5.size _).trans (hb8.mono (by have := hb5.size; simp; omega))
  clear hb8
  go_wp2_with fail
  refine (equal_any _ _ _ _ _ _ _ _ _ ((unhide H1).kept hb9) hs8).mono ?_
  rintro e w10 ⟨rfl, rfl⟩
  rw [show decide (strB [y] = [129] ++ [y] ++ [] ++ []) = true from by rw [unhide HSB]; simp]
  go_wp2_with fail
  refine (join_makes _ _ _ _ _ _ _ _ _ _ _ _ _ [y] [] [] _ (src_one _ _ (by omega) (by omega)) (((unhide H).kept hb9).alloc _) (Src.ofNil _) (Src.ofNil _) (by omega)).mono ?_
  rintro e w11 ⟨a11, n11, c11, rfl, hs11, hb11⟩
  have hb12 : Below w.heap.size w w11 := (hb9.alloc hb9.size _).trans (hb11.mono (by have := hb9.size; simp; omega))
  clear hb11
  go_wp2_with fail
  refine (equal_any _ _ _ _ _ _ _ _ _ ((unhide H2).kept hb12) hs11).mono ?_
  rintro e w13 ⟨rfl, rfl⟩
  rw [show decide (listB [y] = [193] ++ [y] ++ [] ++ []) = true from by rw [unhide HLB]; simp]
  go_wp2_with fail
  go_ret
  exact ⟨rfl, hb12⟩

theorem src_two (w : World) (x y : Int) (h0 : 0 ≤ x ∧ x ≤ 255) (h1 : 0 ≤ y ∧ y ≤ 255) : Src (w.alloc (.cells #[.int .u8 x, .int .u8 y] 5)) (some ⟨w.heap.size, 0, none⟩) 2 2 [x, y] := by
  refine ⟨rfl, by omega, by unfold maxLen; omega, ?_, (fun h => by cases h), fun _ => ⟨w.heap.size, 0, rfl, fun i hi => ?_⟩⟩
  · intro z hz; simp at hz; rcases hz with rfl | rfl
    · exact h0
    · exact h1
  · simp only [World.cell?, heap_alloc_new]
    match i, hi with
    | 0, _ => rfl
    | 1, _ => rfl

set_option maxHeartbeats 1000000 in
theorem same_two (ao : Option Addr) (len cap : Nat) (b1 o1 b2 o2 : Nat) (n1 n2 c1 c2 : Nat) (ys : List Int) (w : World) (h : Src w ao len cap ys) (hlen : 56 ≤ len) (hlen2 : len < 256)
    (hsb : strB ys = [184, (len : Int)] ++ ys) (hlb : listB ys = [248, (len : Int)] ++ ys) (h1 : Src w (some ⟨b1, o1, none⟩) n1 c1 (strB ys)) (h2 : Src w (some ⟨b2, o2, none⟩) n2 c2 (listB ys)) :
    Calls Sakg.prog 14 #[.slice ao len cap, .slice (some ⟨b1, o1, none⟩) n1 c1, .slice (some ⟨b2, o2, none⟩) n2 c2] w fun e w' => e = .returned (.bool true) ∧ Below w.heap.size w w' := by
  have H := hide h
  have H1 := hide h1
  have H2 := hide h2
  have e1 := h1.len_eq
  have e2 := h2.len_eq
  rw [hsb] at e1
  rw [hlb] at e2
  simp at e1 e2
  have f1 : (2 : Int) ≤ (c1 : Int) := by have := h1.le; omega
  have f2 : (2 : Int) ≤ (c2 : Int) := by have := h2.le; omega
  have s1 := h1.sub 0 2 c1 (by omega) (by omega) (by omega) (Nat.le_refl _)
  have s2 := h2.sub 0 2 c2 (by omega) (by omega) (by omega) (Nat.le_refl _)
  rw [hsb, if_neg (by omega)] at s1
  rw [hlb, if_neg (by omega)] at s2
  simp at s1 s2
  have S1 := hide s1
  have S2 := hide s2
  have d1 : ((len : Int) == 1) = false := by simp; omega
  have d2 : decide ((len : Int) < 56) = false := decide_eq_false (by omega)
  have d3 : decide ((len : Int) < 256) = true := decide_eq_true (by omega)
  clear h h1 h2 hsb hlb e1 e2 s1 s2
  go_enter Sakg.func14, Sakg.ntmps14
  go_wp2_with fail
  refine (text_any _ _ _ ys _ (unhide H) (by omega)).mono ?_
  rintro e w1 ⟨a3, n3, c3, rfl, hs3, hb1⟩
  go_wp2_with fail
  refine (equal_any _ _ _ _ _ _ _ _ _ ((unhide H1).kept hb1) hs3).mono ?_
  rintro e w2 ⟨rfl, rfl⟩
  go_wp2_with fail
  refine (items_one _ _ _ _ ys _ (cell_new _ _ _) (((unhide H).kept hb1).alloc _) (by omega)).mono ?_
  rintro e w4 ⟨a5, n5, c5, rfl, hs5, hb4⟩
  have hb5 : Below w.heap.size w w4 := (hb1.alloc hb1.size _).trans (hb4.mono (by have := hb1.size; simp; omega))
  clear hb4
  go_wp2_with fail
  refine (equal_any _ _ _ _ _ _ _ _ _ ((unhide H2).kept hb5) hs5).mono ?_
  rintro e w6 ⟨rfl, rfl⟩
  go_wp2_with fail
  refine (equal_any _ _ _ _ _ _ _ _ _ (((unhide S1).kept hb5).alloc _) (src_two _ 184 (len : Int) (by omega) (by omega))).mono ?_
  rintro e w10 ⟨rfl, rfl⟩
  have hb9 := hb5.alloc hb5.size (.cells #[.int .u8 184, .int .u8 (len : Int)] 5)
  have hst : Src ((w4.alloc (.cells #[.int .u8 184, .int .u8 (len : Int)] 5)).alloc (.cells #[.int .u8 248, .int .u8 (len : Int)] 5)) (some ⟨w4.heap.size + 1, 0, none⟩) 2 2 [248, (len : Int)] := by
    have := src_two (w4.alloc (.cells #[.int .u8 184, .int .u8 (len : Int)] 5)) 248 (len : Int) (by omega) (by omega)
    rw [World.size_alloc] at this
    exact this
  have HST := hide hst
  clear hst
  go_wp2_with fail
  refine (equal_any _ _ _ _ _ _ _ _ _ (((unhide S2).kept hb9).alloc _) (unhide HST)).mono ?_
  rintro e w11 ⟨rfl, rfl⟩
  go_wp2_with fail
  go_ret
  exact ⟨rfl, hb9.alloc hb9.size _⟩

set_option maxHeartbeats 1000000 in
theorem same_long (ao : Option Addr) (len cap : Nat) (a1 a2 : Option Addr) (n1 n2 c1 c2 : Nat) (ys : List Int) (w : World) (h : Src w ao len cap ys) (hlen : 256 ≤ len) (hm : len + 9 ≤ 140737488355328)
    (hn1 : len + 2 < n1) (h1 : Src w a1 n1 c1 (strB ys)) (h2 : Src w a2 n2 c2 (listB ys)) :
    Calls Sakg.prog 14 #[.slice ao len cap, .slice a1 n1 c1, .slice a2 n2 c2] w fun e w' => e = .returned (.bool true) ∧ Below w.heap.size w w' := by
  have H := hide h
  have H1 := hide h1
  have H2 := hide h2
  have d1 : ((len : Int) == 1) = false := by simp; omega
  have d2 : decide ((len : Int) < 56) = false := decide_eq_false (by omega)
  have d3 : decide ((len : Int) < 256) = false := decide_eq_false (by omega)
  have d4 : decide ((len : Int) + 2 < (n1 : Int)) = true := decide_eq_true (by omega)
  clear h h1 h2
  go_enter Sakg.func14, Sakg.ntmps14
  go_wp2_with fail
  refine (text_any _ _ _ ys _ (unhide H) (by omega)).mono ?_
  rintro e w1 ⟨a3, n3, c3, rfl, hs3, hb1⟩
  go_wp2_with fail
  refine (equal_any _ _ _ _ _ _ _ _ _ ((unhide H1).kept hb1) hs3).mono ?_
  rintro e w2 ⟨rfl, rfl⟩
  go_wp2_with fail
  refine (items_one _ _ _ _ ys _ (cell_new _ _ _) (((unhide H).kept hb1).alloc _) (by omega)).mono ?_
  rintro e w4 ⟨a5, n5, c5, rfl, hs5, hb4⟩
  have hb5 : Below w.heap.size w w4 := (hb1.alloc hb1.size _).trans (hb4.mono (by have := hb1.size; simp; omega))
  clear hb4
  go_wp2_with fail
  refine (equal_any _ _ _ _ _ _ _ _ _ ((unhide H2).kept hb5) hs5).mono ?_
  rintro e w6 ⟨rfl, rfl⟩
  go_wp2_with fail
  go_ret
  exact ⟨rfl, hb5⟩

theorem headB_two (n z : Nat) (h1 : 56 ≤ n) (h2 : n < 256) : headB n z = [((z + 56 : Nat) : Int), (n : Int)] := by
  have hlb : lbF 8 n = 1 := lbF_eq 8 n 1 (by omega) (by simp; omega) (by omega) (by omega)
  unfold headB
  rw [if_neg (by omega), hlb]
  simp [be]
  omega

theorem headB_long (n z : Nat) (h1 : 256 ≤ n) (h2 : n < 256 ^ 8) : 3 ≤ (headB n z).length := by
  unfold headB
  rw [if_neg (by omega)]
  have hlt := lbF_lt 8 n h2
  have : 2 ≤ lbF 8 n := by
    rcases Nat.lt_or_ge (lbF 8 n) 2 with h | h
    · exfalso
      have : 256 ^ lbF 8 n ≤ 256 ^ 1 := Nat.pow_le_pow_right (by omega) (by omega)
      omega
    · exact h
  simp [be_len]
  omega

theorem sameHolds_any (ao a1 a2 : Option Addr) (len cap n1 n2 c1 c2 : Nat) (ys : List Int) (w : World) (h : Src w ao len cap ys) (hm : len + 9 ≤ 140737488355328)
    (h1 : Src w a1 n1 c1 (strB ys)) (h2 : Src w a2 n2 c2 (listB ys)) :
    Calls Sakg.prog 14 #[.slice ao len cap, .slice a1 n1 c1, .slice a2 n2 c2] w fun e w' => e = .returned (.bool true) ∧ Below w.heap.size w w' := by
  have hl := h.len_eq
  by_cases hone : len = 1
  · subst hone
    obtain ⟨b, off, rfl, hc⟩ := h.at_ (by omega)
    match ys, hl with
    | [y], _ =>
      have hy := h.byt y (by simp)
      have hcell : w.cell? ⟨b, off, none⟩ = some (.int .u8 y) := by simpa using hc 0 (by omega)
      by_cases hlo : y < 128
      · exact same_low b off cap a1 a2 n1 n2 c1 c2 y w h hcell hy.1 hlo h1 h2
      · exact same_high b off cap a1 a2 n1 n2 c1 c2 y w h hcell hy.1 (by omega) (by rw [strB_other [y] (by simp; omega)]; rfl) rfl h1 h2
  · have hsb : strB ys = headB len 128 ++ ys := by rw [strB_other ys (by omega), hl]
    have hlb : listB ys = headB len 192 ++ ys := by unfold listB; rw [hl]
    by_cases h56 : len < 56
    · have e1 : ∀ z, headB len z = [((z + len : Nat) : Int)] := fun z => by unfold headB; rw [if_pos h56]
      exact same_mid ao len cap a1 a2 n1 n2 c1 c2 ys w h h56 hone (by rw [hsb, e1]; simp) (by rw [hlb, e1]; simp) h1 h2
    · by_cases h256 : len < 256
      · have e1 := h1.len_eq
        have e2 := h2.len_eq
        rw [hsb, List.length_append, headB_two len 128 (by omega) h256] at e1
        rw [hlb, List.length_append, headB_two len 192 (by omega) h256] at e2
        simp at e1 e2
        obtain ⟨b1, o1, rfl, _⟩ := h1.at_ (by omega)
        obtain ⟨b2, o2, rfl, _⟩ := h2.at_ (by omega)
        exact same_two ao len cap b1 o1 b2 o2 n1 n2 c1 c2 ys w h (by omega) h256 (by rw [hsb, headB_two len 128 (by omega) h256]; simp) (by rw [hlb, headB_two len 192 (by omega) h256]; simp) h1 h2
      · have e1 := h1.len_eq
        have e3 := headB_long len 128 (by omega) (by omega)
        rw [hsb, List.length_append] at e1
        exact same_long ao len cap a1 a2 n1 n2 c1 c2 ys w h (by omega) hm (by omega) h1 h2

theorem dropZ_two (ys : List Int) : dropZ ([0, 0] ++ ys ++ [] ++ []) = dropZ ys := by simp [dropZ]

set_option maxHeartbeats 1000000 in
theorem same_walk (a : Option Addr) (len cap : Nat) (ys : List Int) (w : World) (h : Src w a len cap ys) (hm : len ≤ 140737488351232) :
    Calls Sakg.prog 5 #[.slice a len cap] w fun e w' => e = .returned (.bool true) ∧ Below w.heap.size w w' := by
  have hl := hide h.len_eq
  have H := hide h
  clear h
  go_enter Sakg.func5, Sakg.ntmps5
  go_wp2_with fail
  refine (string_nil _ _ _ ys _ (unhide H) (by omega)).mono ?_
  rintro e w1 ⟨a1, n1, c1, rfl, hs1, hb1⟩
  go_wp2_with fail
  refine (list_nil _ _ _ ys _ ((unhide H).kept hb1) (by omega)).mono ?_
  rintro e w2 ⟨a2, n2, c2, rfl, hs2, hb2⟩
  have hb2' : Below w.heap.size w w2 := hb1.trans (hb2.mono hb1.size)
  have hs1' := hs1.kept hb2
  clear hs1 hb2
  go_wp2_with fail
  refine (sameHolds_any _ _ _ _ _ _ _ _ _ ys _ ((unhide H).kept hb2') (by omega) hs1' hs2).mono ?_
  rintro e w3 ⟨rfl, hb3⟩
  have hb3' : Below w.heap.size w w3 := hb2'.trans (hb3.mono hb2'.size)
  clear hb3
  go_wp2_with fail
  refine (join_makes _ _ _ _ _ _ _ _ _ _ _ _ _ ys [] [] _ (src_two _ 0 0 (by omega) (by omega)) (((unhide H).kept hb3').alloc _) (Src.ofNil _) (Src.ofNil _) (by omega)).mono ?_
  rintro e w4 ⟨a4, n4, c4, rfl, hs4, hb4⟩
  have hb4' : Below w.heap.size w w4 := (hb3'.alloc hb3'.size _).trans (hb4.mono (by have := hb3'.size; simp; omega))
  have hn4 : n4 = len + 2 := by have := hs4.len_eq; simp at this; have := unhide hl; omega
  have hn4' : n4 + 9 ≤ 140737488355328 := by omega
  have HN := hide hn4
  clear hb4 hn4
  go_wp2_with fail
  refine (number_nil _ _ _ _ _ hs4 hn4').mono ?_
  rintro e w5 ⟨a5, n5, c5, rfl, hs5, hb5⟩
  have hb5' : Below w.heap.size w w5 := hb4'.trans (hb5.mono hb4'.size)
  clear hb5
  go_wp2_with fail
  refine (number_nil _ _ _ ys _ ((unhide H).kept hb5') (by omega)).mono ?_
  rintro e w6 ⟨a6, n6, c6, rfl, hs6, hb6⟩
  have hb6' : Below w.heap.size w w6 := hb5'.trans (hb6.mono hb5'.size)
  have hs5' := hs5.kept hb6
  clear hb6
  go_wp2_with fail
  refine (equal_any _ _ _ _ _ _ _ _ _ hs5' hs6).mono ?_
  rintro e w7 ⟨rfl, rfl⟩
  rw [dropZ_two]
  go_wp2_with fail
  go_ret
  exact ⟨rfl, hb6'⟩

end Go.Proofs.Ygcsak
