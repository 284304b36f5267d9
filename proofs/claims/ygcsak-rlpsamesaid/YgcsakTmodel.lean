/-
  tmodel.prefixed, Text and Items: the model's writers are rlp's.
-/
import Derived.Test.YgcsakCanon
namespace Go.Proofs.Ygcsak
set_option linter.unusedVariables false
set_option linter.unusedSimpArgs false
set_option maxRecDepth 100000
open Go.RowKit

theorem own_one (w : World) (x : Int) (base : Nat) (hb : base ≤ w.heap.size) : (w.alloc (.cells #[.int .u8 x] 5)).ownsRow base 5 1 (.slice (some ⟨w.heap.size, 0, none⟩) 1 1) 1 (bv [x]) :=
  ⟨rfl, .inr ⟨w.heap.size, 1, #[.int .u8 x], rfl, hb, heap_alloc_new w _, by omega, by unfold maxLen; omega, rfl, rfl⟩⟩

set_option maxHeartbeats 1000000 in
theorem prefixed_short (ao : Option Addr) (len cap : Nat) (ys : List Int) (z : Nat) (w : World) (hs : Src w ao len cap ys) (hn : len < 56) (hz : z ≤ 192) :
    Calls Sakg.prog 79 #[.int .u8 z, .slice ao len cap] w (Makes w (((z + len : Nat) : Int) :: ys)) := by
  have HS := hide hs
  clear hs
  go_enter Sakg.func79, Sakg.ntmps79
  go_wp2_with (at_builtin; refine wpList_append_src rfl _ _ rfl w.heap.size _ 1 [_] rfl (own_one _ _ _ (Nat.le_refl _)) _ _ _ ys rfl ((unhide HS).alloc _) (by omega) (by simp) ?_; intro v2 w2 ho2 hb2)
  go_ret
  obtain ⟨a3, cap3, rfl, hs3⟩ := own_src ho2 (by
    intro y hy
    simp only [List.singleton_append, List.mem_cons] at hy
    rcases hy with rfl | hy
    · omega
    · exact (unhide HS).byt y hy)
  exact ⟨a3, _, cap3, rfl, by simpa using hs3, ((Below.refl _ _).alloc (Nat.le_refl _) _).trans hb2⟩

theorem be_own {len j m : Nat} {w : World} {base : Nat} {v : Value} (hm : m = len / 256 ^ j) (h : w.ownsRow base 5 1 v (1 + j) (bv ([(m : Int) % 256] ++ be j len))) : ∃ a c, v = .slice a (j + 1) c ∧ Src w a (j + 1) c (be (j + 1) len) := by
  have e : [(m : Int) % 256] ++ be j len = be (j + 1) len := by
    subst hm
    simp [be]
  rw [e, Nat.add_comm] at h
  exact own_src h (be_byte _ _)

set_option maxHeartbeats 1000000 in
theorem prefixed_long (ao : Option Addr) (len cap : Nat) (ys : List Int) (z : Nat) (w : World) (hs : Src w ao len cap ys) (hn : 56 ≤ len) (hm : len + 9 ≤ 140737488355328) (hz : z ≤ 192) :
    Calls Sakg.prog 79 #[.int .u8 z, .slice ao len cap] w (Makes w (((z + 55 + lbF 8 len : Nat) : Int) :: be (lbF 8 len) len ++ ys)) := by
  have HS := hide hs
  clear hs
  have d1 : decide ((len : Int) < 56) = false := decide_eq_false (by omega)
  go_enter Sakg.func79, Sakg.ntmps79
  go_wp2_with fail
  go_loopw [5, 6] (fun v i wr => ∃ (j m : Nat) (a : Option Addr) (c : Nat), j ≤ 8 ∧ m < 256 ^ (8 - j) ∧ i = .int .i64 m ∧ v = .slice a j c ∧ Src wr a j c (be j len) ∧ m = len / 256 ^ j ∧ lbF (8 - j) m + j = lbF 8 len ∧ Below w.heap.size w wr) (fun _ i _ => (intOf i).toNat)
  case atStart => exact ⟨0, len, none, 0, by omega, by omega, rfl, rfl, Src.ofNil _, by simp, rfl, Below.refl _ _⟩
  case round =>
    obtain ⟨j, m, a, c, hj, hmj, rfl, rfl, hsz, hml, hlb, hb⟩ := hrel
    have H1 := hide hmj
    have H2 := hide hsz
    have H3 := hide hml
    have H4 := hide hlb
    have hmm : m ≤ 140737488355328 := by rw [hml]; exact Nat.le_trans (Nat.div_le_self _ _) (by omega)
    clear hmj hsz hml hlb
    by_cases h0 : 0 < m
    · have hst := lbF_step j m hj (unhide H1) h0
      obtain ⟨hj8, hst2, hst3⟩ := hst
      have H5 := hide hst2
      have H6 := hide hst3
      clear hst2 hst3
      go_wp2_with (at_builtin; refine wpList_append_src rfl _ _ rfl w.heap.size _ 1 [_] rfl (own_one _ _ _ hb.size) _ _ _ _ rfl ((unhide H2).alloc _) (by omega) (by have := hb.size; simp; omega) ?_; intro v2 w2 ho2 hb2)
      obtain ⟨a3, cap3, hv3, hs3⟩ := be_own (unhide H3) ho2
      go_roundw
      case rel => exact ⟨j + 1, m / 256, a3, cap3, by omega, unhide H6, by go_num, hv3, hs3, by rw [unhide H3, Nat.pow_succ, Nat.div_div_eq_div_mul], by rw [unhide H5]; exact unhide H4, (hb.alloc hb.size _).trans hb2⟩
      case measure => simp [intOf]; omega
    · obtain rfl : m = 0 := by omega
      have hj9 : j = lbF 8 len := by have := unhide H4; rw [lbF_zero] at this; omega
      rw [← hj9]
      go_wp2_with (first
        | (at_builtin; refine wpList_append_src rfl (.tmp 37) (.tmp 38) rfl w.heap.size _ 1 [_] rfl (own_one _ _ _ hb.size) _ _ _ _ rfl ((unhide H2).alloc _) (by omega) (by have := hb.size; simp; omega) ?_; intro v2 w2 ho2 hb2; have hb3 := (hb.alloc hb.size _).trans hb2)
        | (at_builtin; refine wpList_append_src rfl (.tmp 40) (.tmp 41) rfl w.heap.size _ _ _ rfl ho2 _ _ _ ys rfl ((unhide HS).kept hb3) (by omega) hb3.size ?_; intro v4 w4 ho4 hb4))
      go_ret
      subst hj9
      have hlb := lbF_le 8 len
      obtain ⟨a5, c5, rfl, hs5⟩ := own_src ho4 (by
        intro y hy
        simp only [List.mem_append, List.mem_cons, List.not_mem_nil, or_false] at hy
        rcases hy with (rfl | hy) | hy
        · omega
        · exact be_byte _ _ y hy
        · exact (unhide HS).byt y hy)
      exact ⟨a5, _, c5, rfl, by simpa using hs5, hb3.trans hb4⟩

/-- 'prefixed' writes the head and the bytes -/
theorem prefixed_any (ao : Option Addr) (len cap : Nat) (ys : List Int) (z : Nat) (w : World) (hs : Src w ao len cap ys) (hm : len + 9 ≤ 140737488355328) (hz : z ≤ 192) :
    Calls Sakg.prog 79 #[.int .u8 z, .slice ao len cap] w (Makes w (headB ys.length z ++ ys)) := by
  rw [hs.len_eq]
  unfold headB
  by_cases h : len < 56
  · rw [if_pos h]; exact prefixed_short ao len cap ys z w hs h hz
  · rw [if_neg h]; exact prefixed_long ao len cap ys z w hs (by omega) hm hz

set_option maxHeartbeats 1000000 in
theorem text_one (b off cap : Nat) (x : Int) (w : World) (hc : w.cell? ⟨b, off, none⟩ = some (.int .u8 x)) (h0 : 0 ≤ x) (h1 : x < 128) :
    Calls Sakg.prog 36 #[.slice (some ⟨b, off, none⟩) 1 cap] w (Makes w [x]) := by
  go_enter Sakg.func36, Sakg.ntmps36
  go_wp2
  go_ret
  exact ⟨_, _, _, rfl, src_one w x h0 (by omega), (Below.refl _ _).alloc (Nat.le_refl _) _⟩

set_option maxHeartbeats 1000000 in
theorem text_high (b off cap : Nat) (x : Int) (w : World) (hs : Src w (some ⟨b, off, none⟩) 1 cap [x]) (hc : w.cell? ⟨b, off, none⟩ = some (.int .u8 x)) (h0 : 0 ≤ x) (h1 : 128 ≤ x) :
    Calls Sakg.prog 36 #[.slice (some ⟨b, off, none⟩) 1 cap] w (Makes w (headB 1 128 ++ [x])) := by
  have HC := hide (prefixed_any (some ⟨b, off, none⟩) 1 cap [x] 128 w hs (by omega) (by omega))
  have d : ¬ x < 128 := by omega
  clear hs
  go_enter Sakg.func36, Sakg.ntmps36
  go_wp2_with (go_at_call 79; refine (unhide HC).mono ?_; rintro e w1 ⟨a1, n1, c1, rfl, hs1, hb1⟩)
  go_ret
  exact ⟨_, _, _, rfl, hs1, hb1⟩

set_option maxHeartbeats 1000000 in
theorem text_other (ao : Option Addr) (len cap : Nat) (ys : List Int) (w : World) (hs : Src w ao len cap ys) (hne : len ≠ 1) (hm : len + 9 ≤ 140737488355328) :
    Calls Sakg.prog 36 #[.slice ao len cap] w (Makes w (headB ys.length 128 ++ ys)) := by
  have HC := hide (prefixed_any ao len cap ys 128 w hs hm (by omega))
  have d : ((len : Int) == 1) = false := by simp; omega
  clear hs
  go_enter Sakg.func36, Sakg.ntmps36
  go_wp2_with (go_at_call 79; refine (unhide HC).mono ?_; rintro e w1 ⟨a1, n1, c1, rfl, hs1, hb1⟩)
  go_ret
  exact ⟨_, _, _, rfl, hs1, hb1⟩

theorem text_any (ao : Option Addr) (len cap : Nat) (ys : List Int) (w : World) (hs : Src w ao len cap ys) (hm : len + 9 ≤ 140737488355328) :
    Calls Sakg.prog 36 #[.slice ao len cap] w (Makes w (strB ys)) := by
  have hl := hs.len_eq
  by_cases h1 : len = 1
  · subst h1
    obtain ⟨b, off, rfl, hc⟩ := hs.at_ (by omega)
    match ys, hl with
    | [x], _ =>
      have hx := hs.byt x (by simp)
      have hcell : w.cell? ⟨b, off, none⟩ = some (.int .u8 x) := by simpa using hc 0 (by omega)
      by_cases hlo : x < 128
      · rw [strB_one x hlo]
        exact text_one b off cap x w hcell hx.1 hlo
      · rw [strB_other [x] (by simp; omega)]
        exact text_high b off cap x w hs hcell hx.1 (by omega)
  · rw [strB_other ys (by omega)]
    exact text_other ao len cap ys w hs h1 hm

set_option maxHeartbeats 1000000 in
theorem items_one (g : Nat) (ao : Option Addr) (len cap : Nat) (ys : List Int) (w : World) (hc : w.cell? ⟨g, 0, none⟩ = some (.slice ao len cap)) (hs : Src w ao len cap ys) (hm : len + 9 ≤ 140737488355328) :
    Calls Sakg.prog 37 #[.slice (some ⟨g, 0, none⟩) 1 1] w (Makes w (listB ys)) := by
  have HS := hide hs
  have hl := hide hs.len_eq
  clear hs
  have hg : g < w.heap.size := World.block_lt_of_cell? w _ hc
  go_enter Sakg.func37, Sakg.ntmps37
  go_wp2_with fail
  go_loopw [3, 8] (fun v i wr => Below w.heap.size w wr ∧ ((v = .slice none 0 0 ∧ i = .int .i64 0) ∨ (∃ a c, v = .slice a len c ∧ Src wr a len c ys ∧ i = .int .i64 1))) (fun _ i _ => 1 - (intOf i).toNat)
  case atStart => exact ⟨Below.refl _ _, .inl ⟨rfl, rfl⟩⟩
  case round =>
    obtain ⟨hb, ⟨rfl, rfl⟩ | ⟨a, c, rfl, hsr, rfl⟩⟩ := hrel
    · have hcx : wr.cell? ⟨g, 0, none⟩ = some (.slice ao len cap) := (hb.cell (p := ⟨g, 0, none⟩) hg).trans hc
      go_wp2_with (at_builtin; refine wpList_append_src rfl _ _ rfl w.heap.size _ 0 [] rfl (World.ownsRow_nil _ _ _ _) _ _ _ ys rfl ((unhide HS).kept hb) (by omega) hb.size ?_; intro v2 w2 ho2 hb2)
      rw [Nat.zero_add, List.nil_append] at ho2
      obtain ⟨a3, c3, hv3, hs3⟩ := own_src ho2 (unhide HS).byt
      go_roundw
      case rel => exact ⟨hb.trans hb2, .inr ⟨a3, c3, hv3, hs3, rfl⟩⟩
      case measure => simp [intOf]
    · have HC := hide (prefixed_any a len c ys 192 wr hsr (by omega) (by omega))
      clear hsr
      go_wp2_with (go_at_call 79; refine (unhide HC).mono ?_; rintro e w1 ⟨a1, n1, c1, rfl, hs1, hb1⟩)
      go_ret
      exact ⟨_, _, _, rfl, hs1, hb.trans (hb1.mono hb.size)⟩

end Go.Proofs.Ygcsak
