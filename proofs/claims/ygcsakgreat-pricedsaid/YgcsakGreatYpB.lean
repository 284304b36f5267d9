/-
  yp: addresses.
-/
import Derived.Test.YgcsakGreatYpA
namespace Go.Proofs.YgcsakGreat
set_option linter.unusedVariables false
set_option linter.unusedSimpArgs false
set_option maxRecDepth 100000
open Go.RowKit

theorem sizeAddr : (Sakg.prog.info? 26).map (·.size) = some 20 := by kernel_rfl
theorem guardAddr : Sakg.prog.eqGuardType Sakg.prog.depth 26 = false := by kernel_rfl

/-- an address -/
structure IsAddr (a : List Int) : Prop where
  len : a.length = 20
  byt : Byt a
theorem IsAddr.size {a : List Int} (h : IsAddr a) : (Sakg.prog.info? 26).map (·.size) = some (bv a).length := by rw [bv_len, h.len]; exact sizeAddr

theorem addr_eq (w : World) (x y : List Int) (hx : IsAddr x) (hy : IsAddr y) : (Op.equalIn 10000 26 (.agg (bv x).toArray) (.agg (bv y).toArray)).run Sakg.prog w = .ok (decide (x = y)) w :=
  run_arr_eq w 26 20 9998 Sakg.underlying26 x y hx.len hy.len

/-- a list of addresses -/
def AddrsR (w : World) (ao : Option Addr) (l c : Nat) (als : List (List Int)) : Prop := Rws w 20 ao l c (als.map bv) ∧ ∀ a ∈ als, IsAddr a
theorem AddrsR.kept {w w' : World} {ao : Option Addr} {l c : Nat} {als : List (List Int)} (h : AddrsR w ao l c als) (hb : Below w.heap.size w w') : AddrsR w' ao l c als := ⟨h.1.kept hb, h.2⟩
theorem AddrsR.len {w : World} {ao : Option Addr} {l c : Nat} {als : List (List Int)} (h : AddrsR w ao l c als) : als.length = l := by simpa using h.1.len_eq
theorem getD_map_bv (als : List (List Int)) (i : Nat) (h : i < als.length) : (als.map bv).getD i [] = bv (als.getD i []) := by simp [List.getD, h]
theorem mem_getD {als : List (List Int)} {i : Nat} (h : i < als.length) : als.getD i [] ∈ als := by simp [List.getD, h]
theorem AddrsR.at {w : World} {ao : Option Addr} {l c : Nat} {als : List (List Int)} (h : AddrsR w ao l c als) (hl : 0 < l) : ∃ b off, ao = some ⟨b, off, none⟩ ∧ b < w.heap.size ∧ ∀ i, i < l → w.rangeAt b (off + i * 20) (bv (als.getD i [])) ∧ IsAddr (als.getD i []) := by
  obtain ⟨b, off, ha, hlt, hc⟩ := h.1.at_ hl
  have hln := h.len
  refine ⟨b, off, ha, hlt, fun i hi => ⟨?_, h.2 _ (mem_getD (by omega))⟩⟩
  have := hc i hi
  rwa [getD_map_bv als i (by omega)] at this

theorem bv_oneCell (a : List Int) : ∀ v ∈ bv a, v.oneCell' = true := bv_one a

set_option maxHeartbeats 2000000 in
theorem listed_any (ao : Option Addr) (l c : Nat) (als : List (List Int)) (a : List Int) (w : World) (h : AddrsR w ao l c als) (ha : IsAddr a) (hl : l ≤ 1000000) :
    Calls Sakg.prog 213 #[.slice ao l c, .agg (bv a).toArray] w fun e w' => e = .returned (.bool (decide (a ∈ als))) ∧ Below w.heap.size w w' := by
  have H := hide h
  have HL := hide h.len
  have HA := hide ha
  have hg63 := guardAddr
  clear h ha
  go_enter Sakg.func213, Sakg.ntmps213
  go_wp2_with fail
  have hb1 : Below w.heap.size w (w.alloc (.cells (bv a).toArray 26)) := (Below.refl _ _).alloc (Nat.le_refl _) _
  have hr1 : RowT 26 (w.alloc (.cells (bv a).toArray 26)) w.heap.size (bv a) := RowT.new _ _ _
  go_loopw [9] (fun ct wr => ∃ i : Nat, i ≤ l ∧ ct = .int .i64 i ∧ (∀ x ∈ als.take i, x ≠ a) ∧ RowT 26 wr w.heap.size (bv a) ∧ Below w.heap.size w wr) (fun ct _ => l - (intOf ct).toNat)
  case atStart => exact ⟨0, by omega, rfl, (fun x hx => by simp at hx), hr1, hb1⟩
  case round =>
    obtain ⟨i, hi, rfl, hno, hr, hbe⟩ := hrel
    have HNO := hide hno
    have HR := hide hr
    clear hno hr hr1 hb1
    by_cases hil : i < l
    · obtain ⟨b, off, rfl, hlt, hat⟩ := (unhide H).at (by omega)
      obtain ⟨hrg, hIx⟩ := hat i hil
      have hts : als.take (i + 1) = als.take i ++ [als.getD i []] := by
        rw [List.take_succ_eq_append_getElem (by have := unhide HL; omega)]
        simp [List.getD, show i < als.length by have := unhide HL; omega]
      have hmem : als.getD i [] ∈ als := mem_getD (by have := unhide HL; omega)
      obtain ⟨x, hx⟩ : ∃ x, x = als.getD i [] := ⟨_, rfl⟩
      rw [← hx] at hrg hIx hts hmem
      have hrg2 := range_below hrg hbe (fun _ => hlt)
      have heq := fun wx => addr_eq wx x a hIx (unhide HA)
      have HX := hide hIx
      have HRG := hide hrg2
      have HTS := hide hts
      have HMEM := hide hmem
      clear hat hrg hrg2 hIx hts hmem hx
      go_wp2_with (first
        | ((with_reducible refine at_load 26 ?_); refine wpList_load_mid rfl 26 (.tmp 11) rfl b _ rfl (bv x) _ (unhide HRG) Sakg.underlying26 rfl (unhide HX).size ?_)
        | ((with_reducible refine at_store 26 ?_); refine wpList_store_whole rfl 26 (.tmp 6) (.tmp 12) rfl _ _ _ (bv x) rfl rfl (RowT.new _ _ _) (by rw [bv_len, (unhide HX).len]; rfl) (unhide HX).size (bv_one x) ?_; intro w2 hr2 hon2; have hr3 := ((unhide HR).alloc _).only hon2 (by have := hbe.size; have := (unhide HR).lt; omega))
        | ((with_reducible refine at_load 26 ?_); refine wpList_load_mid rfl 26 (.tmp 6) rfl _ 0 rfl (bv x) _ hr2.rangeAll Sakg.underlying26 rfl (unhide HX).size ?_)
        | ((with_reducible refine at_load 26 ?_); refine wpList_load_mid rfl 26 (.tmp 3) rfl _ 0 rfl (bv a) _ hr3.rangeAll Sakg.underlying26 rfl (unhide HA).size ?_))
      · have hxa : x = a := by assumption
        have hin : decide (a ∈ als) = true := decide_eq_true (by rw [← hxa]; exact unhide HMEM)
        have hb2 : Below w.heap.size w w2 := (hbe.alloc hbe.size _).trans (hon2.below _ hbe.size)
        go_ret
        exact ⟨by rw [hin]; rfl, hb2⟩
      · have hxa : ¬ x = a := by assumption
        have hb2 : Below w.heap.size w w2 := (hbe.alloc hbe.size _).trans (hon2.below _ hbe.size)
        go_roundw
        case rel =>
          refine ⟨i + 1, by omega, by go_num, ?_, hr3, hb2⟩
          rw [unhide HTS]
          intro y hy
          rcases List.mem_append.1 hy with h | h
          · exact unhide HNO y h
          · simp at h; subst h; exact hxa
        case measure => simp [intOf]; omega
    · obtain rfl : i = l := by omega
      have hno : decide (a ∈ als) = false := decide_eq_false (fun hm => by
        have h1 := unhide HNO
        rw [List.take_of_length_le (by have := unhide HL; omega)] at h1
        exact h1 a hm rfl)
      have HN := hide hno
      clear hno
      go_wp2
      go_ret
      exact ⟨by rw [unhide HN]; rfl, hbe⟩

theorem conv_addr (w : World) (g : Nat) (a : List Int) (ha : IsAddr a) (h : RowT 26 w g (bv a)) : (convert 30 9 (.slice (some ⟨g, 0, none⟩) 20 20)).run Sakg.prog w = .ok (.string (strOfNums a)) w := by
  refine run_convert_bytes_arg w 30 5 Sakg.underlying30 Sakg.underlying5 g 0 20 20 a ha.len (fun i hi => ?_) 9 Sakg.underlying9
  rw [h.cell, Nat.zero_add]
  simp [bv, List.getD, show i < a.length by have := ha.len; omega]

/-- the order of addresses -/
def beforeB (a b : List Int) : Bool := Op.bytesLess (strOfNums a).toList (strOfNums b).toList

set_option maxHeartbeats 1000000 in
theorem before_any (a b : List Int) (w : World) (ha : IsAddr a) (hb : IsAddr b) :
    Calls Sakg.prog 195 #[.agg (bv a).toArray, .agg (bv b).toArray] w fun e w' => e = .returned (.bool (beforeB a b)) ∧ Below w.heap.size w w' := by
  obtain ⟨W, hW⟩ : ∃ W, W = (w.alloc (.cells (bv a).toArray 26)).alloc (.cells (bv b).toArray 26) := ⟨_, rfl⟩
  have hbW : Below w.heap.size w W := by rw [hW]; exact ((Below.refl _ _).alloc (Nat.le_refl _) _).alloc (by simp) _
  have h1 : RowT 26 W w.heap.size (bv a) := by rw [hW]; exact (RowT.new _ _ _).alloc _
  have h2 : RowT 26 W (w.heap.size + 1) (bv b) := by
    rw [hW]
    have := RowT.new 26 (w.alloc (.cells (bv a).toArray 26)) (bv b)
    rw [World.size_alloc] at this
    exact this
  have c1 : ∀ n, (convert 30 9 (.slice (some ⟨w.heap.size, 0, none⟩) 20 20)).run Sakg.prog (W.drewN n) = .ok (.string (strOfNums a)) (W.drewN n) := fun n => conv_addr _ _ a ha (h1.kept (Quiet.below ⟨n, rfl⟩ _))
  have c2 : ∀ n, (convert 30 9 (.slice (some ⟨w.heap.size + 1, 0, none⟩) 20 20)).run Sakg.prog (W.drewN n) = .ok (.string (strOfNums b)) (W.drewN n) := fun n => conv_addr _ _ b hb (h2.kept (Quiet.below ⟨n, rfl⟩ _))
  have c1' := c1 0
  have c2' := c2 0
  rw [World.drewN_zero] at c1' c2'
  clear h1 h2
  go_enter Sakg.func195, Sakg.ntmps195
  go_wp2_with fail
  rw [← hW]
  have HW := hide hW
  clear hW
  go_quiet (fail)
  go_wp2
  go_ret
  exact ⟨rfl, hbW.trans (Quiet.below ⟨_, rfl⟩ _)⟩

theorem infoAddr : (Sakg.prog.info? 26).map (fun i => (i.zero, i.size, i.bytes)) = some (some (.agg (bv (zeros 20)).toArray), 20, 20) := by kernel_rfl

theorem flat_bv (als : List (List Int)) (h : ∀ a ∈ als, IsAddr a) : ∀ r ∈ als.map bv, r.length = 20 := by
  intro r hr
  simp at hr
  obtain ⟨a, ha, rfl⟩ := hr
  rw [bv_len]
  exact (h a ha).len

set_option maxHeartbeats 4000000 in
theorem withAddr_any (ao : Option Addr) (l c : Nat) (als : List (List Int)) (a : List Int) (w : World) (h : AddrsR w ao l c als) (ha : IsAddr a) (hl : l ≤ 1000000) :
    Calls Sakg.prog 193 #[.slice ao l c, .agg (bv a).toArray] w fun e w' => ∃ A k c', e = .returned (.slice A k c') ∧ (∃ als', AddrsR w' A k c' als' ∧ ((A = ao ∧ k = l ∧ c' = c ∧ als' = als) ∨ New w A) ∧ k ≤ l + 1 ∧ (∀ x, x ∈ als' ↔ x = a ∨ x ∈ als)) ∧ Below w.heap.size w w' := by
  obtain ⟨i0, hi0, hz0, hz1, hz2⟩ := info_parts infoAddr
  have HI0 := hide hi0
  have HZ0 := hide hz0
  have HZ1 := hide hz1
  have HZ2 := hide hz2
  have H := hide h
  have HL := hide h.len
  have HA := hide ha
  have hb1 : Below w.heap.size w (w.alloc (.cells (bv a).toArray 26)) := (Below.refl _ _).alloc (Nat.le_refl _) _
  have hr1 : RowT 26 (w.alloc (.cells (bv a).toArray 26)) w.heap.size (bv a) := RowT.new _ _ _
  have HLI := hide (listed_any ao l c als a _ (h.kept hb1) ha hl)
  clear h ha hi0 hz0 hz1 hz2
  by_cases hin : a ∈ als
  · rw [decide_eq_true hin] at HLI
    have HIN := hide hin
    clear hin
    go_enter Sakg.func193, Sakg.ntmps193
    go_wp2_with (first
      | ((with_reducible refine at_load 26 ?_); refine wpList_load_g rfl 26 (.tmp 3) rfl _ 0 rfl (bv a) _ hr1.rangeAll Sakg.underlying26 rfl (unhide HA).size ?_)
      | (go_at_call 213; refine (unhide HLI).mono ?_; rintro e w2 ⟨rfl, hb2⟩))
    go_ret
    have hb12 := hb1.trans (hb2.mono (by simp))
    refine ⟨ao, l, c, rfl, ⟨als, (unhide H).kept hb12, .inl ⟨rfl, rfl, rfl, rfl⟩, by omega, fun x => ?_⟩, hb12⟩
    constructor
    · exact .inr
    · rintro (rfl | h)
      · exact unhide HIN
      · exact h
  · rw [decide_eq_false hin] at HLI
    have HIN := hide hin
    clear hin
    go_enter Sakg.func193, Sakg.ntmps193
    go_wp2_with (first
      | ((with_reducible refine at_load 26 ?_); refine wpList_load_g rfl 26 (.tmp 3) rfl _ 0 rfl (bv a) _ hr1.rangeAll Sakg.underlying26 rfl (unhide HA).size ?_)
      | (go_at_call 213; refine (unhide HLI).mono ?_; rintro e w2 ⟨rfl, hb2⟩))
    have hb12 := hb1.trans (hb2.mono (by simp))
    have hr2 : RowT 26 w2 w.heap.size (bv a) := hr1.kept hb2
    clear HLI hr1 hb1 hb2
    go_loopw [5, 6, 15] (fun v ld ct wr => ∃ (i n : Nat) (laid : Bool) (os : List (List Int)), i ≤ l ∧ ct = .int .i64 i ∧ ld = .bool laid ∧ n = i + laid.toNat ∧ os.length = n ∧ wr.ownsRow (w.heap.size + 1) 26 20 v n (os.map bv).flatten ∧ (∀ x ∈ os, IsAddr x) ∧ (∀ x, x ∈ os ↔ (laid = true ∧ x = a) ∨ x ∈ als.take i) ∧ RowT 26 wr w.heap.size (bv a) ∧ Below w.heap.size w wr ∧ w.heap.size + 1 ≤ wr.heap.size) (fun _ _ ct _ => l - (intOf ct).toNat)
    case atStart => exact ⟨0, 0, false, [], by omega, rfl, rfl, rfl, rfl, World.ownsRow_nil _ _ _ _, (fun x hx => by simp at hx), (fun x => by simp), hr2, hb12, by have := hr2.lt; omega⟩
    case round =>
      obtain ⟨i, n, laid, os, hi, rfl, rfl, hn, hol, hown, hoa, hos, hr, hbe, hsz⟩ := hrel
      by_cases hil : i < l
      · obtain ⟨b, off, rfl, hlt, hat⟩ := (unhide H).at (by omega)
        obtain ⟨hrg, hIx⟩ := hat i hil
        have hts : als.take (i + 1) = als.take i ++ [als.getD i []] := by
          rw [List.take_succ_eq_append_getElem (by have := unhide HL; omega)]
          simp [List.getD, show i < als.length by have := unhide HL; omega]
        obtain ⟨x, hx⟩ : ∃ x, x = als.getD i [] := ⟨_, rfl⟩
        rw [← hx] at hrg hIx hts
        have hrg2 := range_below hrg hbe (fun _ => hlt)
        have HX := hide hIx
        have HRG := hide hrg2
        have HTS := hide hts
        have HR := hide hr
        have HOWN := hide hown
        have HN := hide hn
        have HOL := hide hol
        have HOA := hide hoa
        have HOS := hide hos
        have hnb : n ≤ 1000002 := by cases laid <;> simp at hn <;> omega
        clear hat hrg hrg2 hIx hts hx hr hown hn hol hoa hos hr2 hb12
        cases laid with
        | true =>
          go_wp2_with (first
            | ((with_reducible refine at_load 26 ?_); refine wpList_load_g rfl 26 (.tmp 17) rfl b _ rfl (bv x) _ (unhide HRG) Sakg.underlying26 rfl (unhide HX).size ?_)
            | ((with_reducible refine at_store 26 ?_); refine wpList_store_whole rfl 26 (.tmp 8) (.tmp 18) rfl _ _ _ (bv x) rfl rfl (RowT.new _ _ _) (by rw [bv_len, (unhide HX).len]; rfl) (unhide HX).size (bv_one x) ?_; intro w3 hx3 hon3; have hbb3 := box_below hon3; clear hon3; have ha3 := (unhide HR).kept hbb3.1; have ho3 := own_kept (unhide HOWN) hbb3.1; have hs3 : wr.heap.size < w3.heap.size := by omega)
            | ((with_reducible refine at_load 26 ?_); refine wpList_load_g rfl 26 (.tmp 8) rfl _ 0 rfl (bv x) _ hx3.rangeAll Sakg.underlying26 rfl (unhide HX).size ?_)
            | ((with_reducible refine at_buildSlice ?_); refine wpList_build_one rfl 97 (.tmp 31) rfl 26 20 Sakg.underlying97 i0 _ (unhide HI0) (unhide HZ0) (unhide HZ1) (by simp [Value.cells, bv_len, zeros_len]) (by omega) (by omega) (bv x) rfl (by rw [bv_len]; exact (unhide HX).len) ?_)
            | ((with_reducible refine at_append ?_); refine wpList_append_one rfl (.tmp 30) (.tmp 32) 97 rfl 26 20 20 Sakg.underlying97 i0 _ (unhide HI0) (unhide HZ0) (unhide HZ1) (unhide HZ2) (by simp [Value.cells, bv_len, zeros_len]) (by omega) (w.heap.size + 1) _ _ _ rfl (own_kept ho3 ((Below.refl _ _).alloc (Nat.le_refl _) _)) _ _ (bv x) rfl (RowT.new _ _ _) (by rw [bv_len]; exact (unhide HX).len) (bv_one _) (by omega) (by omega) (by simp; omega) ?_; intro v5 w5 ho5 hb5 hg5))
          have hs5 := hb5.size
          simp at hs5
          have hbw5 : Below (w.heap.size + 1) w3 w5 := ((Below.refl _ _).alloc (by omega) _).trans hb5
          have hbe5 : Below w.heap.size w w5 := (hbe.trans (hbb3.1.mono (by omega))).trans (hbw5.mono (by omega))
          have ha5 := ha3.below hbw5 (by omega)
          rw [show os.map bv ++ [bv x] = (os ++ [x]).map bv from by simp] at ho5
          go_roundw
          case rel =>
            refine ⟨i + 1, n + 1, true, os ++ [x], by omega, by go_num, rfl, by have := unhide HN; simp at this ⊢; omega, by simp [unhide HOL], ho5, ?_, ?_, ha5, hbe5, by omega⟩
            · intro y hy
              rcases List.mem_append.1 hy with h | h
              · exact unhide HOA y h
              · simp at h; subst h; exact unhide HX
            · intro y
              rw [List.mem_append, unhide HOS y, unhide HTS, List.mem_append, or_assoc]
          case measure => simp [intOf]; omega
        | false =>
          obtain ⟨bf, hbf⟩ : ∃ bf, bf = beforeB a x := ⟨_, rfl⟩
          have HBF := hide (before_any a x)
          rw [← hbf] at HBF
          clear hbf
          cases bf with
          | false =>
            go_wp2_with (first
              | ((with_reducible refine at_load 26 ?_); refine wpList_load_g rfl 26 (.tmp 17) rfl b _ rfl (bv x) _ (unhide HRG) Sakg.underlying26 rfl (unhide HX).size ?_)
              | ((with_reducible refine at_store 26 ?_); refine wpList_store_whole rfl 26 (.tmp 8) (.tmp 18) rfl _ _ _ (bv x) rfl rfl (RowT.new _ _ _) (by rw [bv_len, (unhide HX).len]; rfl) (unhide HX).size (bv_one x) ?_; intro w3 hx3 hon3; have hbb3 := box_below hon3; clear hon3; have ha3 := (unhide HR).kept hbb3.1; have ho3 := own_kept (unhide HOWN) hbb3.1; have hs3 : wr.heap.size < w3.heap.size := by omega)
              | ((with_reducible refine at_load 26 ?_); refine wpList_load_g rfl 26 (.tmp 3) rfl _ 0 rfl (bv a) _ ha3.rangeAll Sakg.underlying26 rfl (unhide HA).size ?_)
              | ((with_reducible refine at_load 26 ?_); refine wpList_load_g rfl 26 (.tmp 8) rfl _ 0 rfl (bv x) _ hx3.rangeAll Sakg.underlying26 rfl (unhide HX).size ?_)
              | (go_at_call 195; refine (unhide HBF _ (unhide HA) (unhide HX)).mono ?_; rintro e w4 ⟨rfl, hb4⟩; have ha4 := ha3.kept hb4; have hx4 := hx3.kept hb4; have ho4 := own_kept ho3 hb4; have hs4 := hb4.size)
              | ((with_reducible refine at_load 26 ?_); refine wpList_load_g rfl 26 (.tmp 8) rfl _ 0 rfl (bv x) _ hx4.rangeAll Sakg.underlying26 rfl (unhide HX).size ?_)
              | ((with_reducible refine at_buildSlice ?_); refine wpList_build_one rfl 97 (.tmp 31) rfl 26 20 Sakg.underlying97 i0 _ (unhide HI0) (unhide HZ0) (unhide HZ1) (by simp [Value.cells, bv_len, zeros_len]) (by omega) (by omega) (bv x) rfl (by rw [bv_len]; exact (unhide HX).len) ?_)
              | ((with_reducible refine at_append ?_); refine wpList_append_one rfl (.tmp 30) (.tmp 32) 97 rfl 26 20 20 Sakg.underlying97 i0 _ (unhide HI0) (unhide HZ0) (unhide HZ1) (unhide HZ2) (by simp [Value.cells, bv_len, zeros_len]) (by omega) (w.heap.size + 1) _ _ _ rfl (own_kept ho4 ((Below.refl _ _).alloc (Nat.le_refl _) _)) _ _ (bv x) rfl (RowT.new _ _ _) (by rw [bv_len]; exact (unhide HX).len) (bv_one _) (by omega) (by omega) (by simp; omega) ?_; intro v5 w5 ho5 hb5 hg5))
            have hs5 := hb5.size
            simp at hs5
            have hbw5 : Below (w.heap.size + 1) w4 w5 := ((Below.refl _ _).alloc (by omega) _).trans hb5
            have hbe5 : Below w.heap.size w w5 := ((hbe.trans (hbb3.1.mono (by omega))).trans (hb4.mono (by omega))).trans (hbw5.mono (by omega))
            have ha5 := ha4.below hbw5 (by omega)
            rw [show os.map bv ++ [bv x] = (os ++ [x]).map bv from by simp] at ho5
            go_roundw
            case rel =>
              refine ⟨i + 1, n + 1, false, os ++ [x], by omega, by go_num, rfl, by have := unhide HN; simp at this ⊢; omega, by simp [unhide HOL], ho5, ?_, ?_, ha5, hbe5, by omega⟩
              · intro y hy
                rcases List.mem_append.1 hy with h | h
                · exact unhide HOA y h
                · simp at h; subst h; exact unhide HX
              · intro y
                rw [List.mem_append, unhide HOS y, unhide HTS, List.mem_append, or_assoc]
            case measure => simp [intOf]; omega
          | true =>
            go_wp2_with (first
              | ((with_reducible refine at_load 26 ?_); refine wpList_load_g rfl 26 (.tmp 17) rfl b _ rfl (bv x) _ (unhide HRG) Sakg.underlying26 rfl (unhide HX).size ?_)
              | ((with_reducible refine at_store 26 ?_); refine wpList_store_whole rfl 26 (.tmp 8) (.tmp 18) rfl _ _ _ (bv x) rfl rfl (RowT.new _ _ _) (by rw [bv_len, (unhide HX).len]; rfl) (unhide HX).size (bv_one x) ?_; intro w3 hx3 hon3; have hbb3 := box_below hon3; clear hon3; have ha3 := (unhide HR).kept hbb3.1; have ho3 := own_kept (unhide HOWN) hbb3.1; have hs3 : wr.heap.size < w3.heap.size := by omega)
              | ((with_reducible refine at_load 26 ?_); refine wpList_load_g rfl 26 (.tmp 3) rfl _ 0 rfl (bv a) _ ha3.rangeAll Sakg.underlying26 rfl (unhide HA).size ?_)
              | ((with_reducible refine at_load 26 ?_); refine wpList_load_g rfl 26 (.tmp 8) rfl _ 0 rfl (bv x) _ hx3.rangeAll Sakg.underlying26 rfl (unhide HX).size ?_)
              | (go_at_call 195; refine (unhide HBF _ (unhide HA) (unhide HX)).mono ?_; rintro e w4 ⟨rfl, hb4⟩; have ha4 := ha3.kept hb4; have hx4 := hx3.kept hb4; have ho4 := own_kept ho3 hb4; have hs4 := hb4.size)
              | ((with_reducible refine at_load 26 ?_); refine wpList_load_g rfl 26 (.tmp 3) rfl _ 0 rfl (bv a) _ ha4.rangeAll Sakg.underlying26 rfl (unhide HA).size ?_)
              | ((with_reducible refine at_buildSlice ?_); refine wpList_build_one rfl 97 (.tmp 27) rfl 26 20 Sakg.underlying97 i0 _ (unhide HI0) (unhide HZ0) (unhide HZ1) (by simp [Value.cells, bv_len, zeros_len]) (by omega) (by omega) (bv a) rfl (by rw [bv_len]; exact (unhide HA).len) ?_)
              | ((with_reducible refine at_append ?_); refine wpList_append_one rfl (.tmp 26) (.tmp 28) 97 rfl 26 20 20 Sakg.underlying97 i0 _ (unhide HI0) (unhide HZ0) (unhide HZ1) (unhide HZ2) (by simp [Value.cells, bv_len, zeros_len]) (by omega) (w.heap.size + 1) _ _ _ rfl (own_kept ho4 ((Below.refl _ _).alloc (Nat.le_refl _) _)) _ _ (bv a) rfl (RowT.new _ _ _) (by rw [bv_len]; exact (unhide HA).len) (bv_one _) (by omega) (by omega) (by simp; omega) ?_; intro v5 w5 ho5 hb5 hg5; have hs5 := hb5.size; simp at hs5; have hx5 := (hx4.alloc _).grown hg5 (by intro hh; have := (ho4.lt _ hh.symm); have := ((unhide HOWN).lt _ hh.symm).2; omega))
              | ((with_reducible refine at_load 26 ?_); refine wpList_load_g rfl 26 (.tmp 8) rfl _ 0 rfl (bv x) _ hx5.rangeAll Sakg.underlying26 rfl (unhide HX).size ?_)
              | ((with_reducible refine at_buildSlice ?_); refine wpList_build_one rfl 97 (.tmp 31) rfl 26 20 Sakg.underlying97 i0 _ (unhide HI0) (unhide HZ0) (unhide HZ1) (by simp [Value.cells, bv_len, zeros_len]) (by omega) (by omega) (bv x) rfl (by rw [bv_len]; exact (unhide HX).len) ?_)
              | ((with_reducible refine at_append ?_); refine wpList_append_one rfl (.tmp 30) (.tmp 32) 97 rfl 26 20 20 Sakg.underlying97 i0 _ (unhide HI0) (unhide HZ0) (unhide HZ1) (unhide HZ2) (by simp [Value.cells, bv_len, zeros_len]) (by omega) (w.heap.size + 1) _ _ _ rfl (own_kept ho5 ((Below.refl _ _).alloc (Nat.le_refl _) _)) _ _ (bv x) rfl (RowT.new _ _ _) (by rw [bv_len]; exact (unhide HX).len) (bv_one _) (by omega) (by omega) (by simp; omega) ?_; intro v6 w6 ho6 hb6 hg6))
            have hs6 := hb6.size
            simp at hs6
            have hbw5 : Below (w.heap.size + 1) w4 w5 := ((Below.refl _ _).alloc (by omega) _).trans hb5
            have hbw6 : Below (w.heap.size + 1) w5 w6 := ((Below.refl _ _).alloc (by omega) _).trans hb6
            have hbe6 : Below w.heap.size w w6 := (((hbe.trans (hbb3.1.mono (by omega))).trans (hb4.mono (by omega))).trans (hbw5.mono (by omega))).trans (hbw6.mono (by omega))
            have ha6 := (ha4.below hbw5 (by omega)).below hbw6 (by omega)
            rw [show os.map bv ++ [bv a] ++ [bv x] = (os ++ [a] ++ [x]).map bv from by simp] at ho6
            go_roundw
            case rel =>
              refine ⟨i + 1, n + 1 + 1, true, os ++ [a] ++ [x], by omega, by go_num, rfl, by have := unhide HN; simp at this ⊢; omega, by simp [unhide HOL], ho6, ?_, ?_, ha6, hbe6, by omega⟩
              · intro y hy
                rcases List.mem_append.1 hy with h | h
                · rcases List.mem_append.1 h with h | h
                  · exact unhide HOA y h
                  · simp at h; subst h; exact unhide HA
                · simp at h; subst h; exact unhide HX
              · intro y
                have h1 := unhide HOS y
                simp only [List.mem_append, unhide HTS, List.mem_singleton, h1]
                simp only [true_and, Bool.false_eq_true, false_and, false_or]
                constructor
                · rintro ((h | h) | h)
                  · exact .inr (.inl h)
                  · exact .inl h
                  · exact .inr (.inr h)
                · rintro (h | h | h)
                  · exact .inl (.inr h)
                  · exact .inl (.inl h)
                  · exact .inr h
            case measure => simp [intOf]; omega
      · obtain rfl : i = l := by omega
        rw [List.take_of_length_le (by have := unhide HL; omega)] at hos
        have HR := hide hr
        have HOWN := hide hown
        have HN := hide hn
        have HOL := hide hol
        have HOA := hide hoa
        have HOS := hide hos
        have hnb : n ≤ 1000002 := by cases laid <;> simp at hn <;> omega
        clear hr hown hn hol hoa hos hr2 hb12
        cases laid with
        | true =>
          go_wp2
          go_ret
          have hlt := (unhide HOWN).lt
          obtain ⟨A, c', rfl, hrw⟩ := own_rws (unhide HOWN) (flat_bv os (unhide HOA)) (by simp [unhide HOL])
          have hnew : New w A := by
            intro x hx
            subst hx
            have := hlt x.block rfl
            omega
          refine ⟨A, n, c', rfl, ⟨os, ⟨hrw, unhide HOA⟩, .inr hnew, by have := unhide HN; simp at this; omega, fun x => ?_⟩, hbe⟩
          rw [unhide HOS x]; simp
        | false =>
          go_wp2_with (first
            | ((with_reducible refine at_load 26 ?_); refine wpList_load_g rfl 26 (.tmp 3) rfl _ 0 rfl (bv a) _ (unhide HR).rangeAll Sakg.underlying26 rfl (unhide HA).size ?_)
            | ((with_reducible refine at_buildSlice ?_); refine wpList_build_one rfl 97 (.tmp 38) rfl 26 20 Sakg.underlying97 i0 _ (unhide HI0) (unhide HZ0) (unhide HZ1) (by simp [Value.cells, bv_len, zeros_len]) (by omega) (by omega) (bv a) rfl (by rw [bv_len]; exact (unhide HA).len) ?_)
            | ((with_reducible refine at_append ?_); refine wpList_append_one rfl (.tmp 37) (.tmp 39) 97 rfl 26 20 20 Sakg.underlying97 i0 _ (unhide HI0) (unhide HZ0) (unhide HZ1) (unhide HZ2) (by simp [Value.cells, bv_len, zeros_len]) (by omega) (w.heap.size + 1) _ _ _ rfl (own_kept (unhide HOWN) ((Below.refl _ _).alloc (Nat.le_refl _) _)) _ _ (bv a) rfl (RowT.new _ _ _) (by rw [bv_len]; exact (unhide HA).len) (bv_one _) (by omega) (by omega) (by simp; omega) ?_; intro v5 w5 ho5 hb5 hg5))
          go_ret
          rw [show os.map bv ++ [bv a] = (os ++ [a]).map bv from by simp] at ho5
          have hoa5 : ∀ x ∈ os ++ [a], IsAddr x := by
            intro y hy
            rcases List.mem_append.1 hy with h | h
            · exact unhide HOA y h
            · simp at h; subst h; exact unhide HA
          have hbw5 : Below (w.heap.size + 1) wr w5 := ((Below.refl _ _).alloc (by omega) _).trans hb5
          have hlt := ho5.lt
          obtain ⟨A, c', rfl, hrw⟩ := own_rws ho5 (flat_bv _ hoa5) (by simp [unhide HOL])
          have hnew : New w A := by
            intro x hx
            subst hx
            have := hlt x.block rfl
            omega
          refine ⟨A, n + 1, c', rfl, ⟨os ++ [a], ⟨hrw, hoa5⟩, .inr hnew, by have := unhide HN; simp at this; omega, fun x => ?_⟩, hbe.trans (hbw5.mono (by omega))⟩
          rw [List.mem_append, unhide HOS x]
          simp only [Bool.false_eq_true, false_and, false_or, List.mem_singleton]
          exact or_comm

end Go.Proofs.YgcsakGreat
