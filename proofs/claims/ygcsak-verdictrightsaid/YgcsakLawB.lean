/-
  law: feesOf, lookup.
-/
import Derived.Test.YgcsakLawA
namespace Go.Proofs.Ygcsak
set_option linter.unusedVariables false
set_option linter.unusedSimpArgs false
set_option maxRecDepth 100000
open Go.RowKit

def TwoNats (m n : Nat) (w : World) (e : Ending) (w' : World) : Prop := ∃ A k c A' k' c', e = .returned (.tuple #[.slice A k c, .slice A' k' c']) ∧ IsNat w' A k c m ∧ IsNat w' A' k' c' n ∧ Below w.heap.size w w'

set_option maxHeartbeats 4000000 in
theorem lawFees_any (r : List Value) (d : YTx) (A1 : Option Addr) (k1 c1 : Nat) (A2 : Option Addr) (k2 c2 : Nat) (w : World) (h : TxC r d A1 k1 c1 A2 k2 c2) :
    Calls Sakg.prog 97 #[.agg r.toArray] w (TwoNats (beN (mostW d)) (beN (tipW d)) w) := by
  obtain ⟨W, hW⟩ : ∃ W, W = w.alloc (.cells r.toArray 71) := ⟨_, rfl⟩
  have hb0 : Below w.heap.size w W := by rw [hW]; exact (Below.refl _ _).alloc (Nat.le_refl _) _
  have hr0 : RowT 71 W w.heap.size r := by rw [hW]; exact RowT.new _ _ _
  have hdyn : W.cell? ⟨w.heap.size, 108, none⟩ = some (.bool d.dyn) := by rw [hr0.cell]; exact h.dyn
  have HR0 := hide hr0
  clear hr0
  have dW : Below W.heap.size W W.drew := Quiet.below ⟨1, rfl⟩ _
  go_enter Sakg.func97, Sakg.ntmps97
  go_upto_region 1 with fail
  rw [← hW]
  clear hW
  cases hd : d.dyn with
  | true =>
    rw [hd] at hdyn
    have m1 : mostW d = d.maxFee := by unfold mostW; rw [hd]; rfl
    have m2 : tipW d = d.tip := by unfold tipW; rw [hd]; rfl
    have s1 : Src W.drew (some ⟨w.heap.size, 109, none⟩) 32 32 d.maxFee := src_of_range (by have := ((unhide HR0).kept dW).range 109 32; rwa [h.maxFee] at this) h.hmax.byt h.hmax.len max32
    go_upto_region 2 with fail
    refine wp_region_noPanic ?_
    refine wp_region_held_drew (S := fun _ => True) (by kernel_rfl) (trivial) (fun hHeld => ?_)
    refine held_takeD 0 (.pointer (some ⟨w.heap.size, 109, none⟩)) (some 6) (by rfl) (by rfl) (by kernel_rfl) (by kernel_rfl) (by kernel_rfl) (fun _ _ _ h => h) (.inl ⟨by rfl, fun _ _ => by go_simp⟩) (hHeld) ?_
    simp only [Act.put, List.setIfInBounds_toArray, List.set_cons_zero, List.set_cons_succ]
    refine held_takeD 1 (.slice (some ⟨w.heap.size, 109, none⟩) 32 32) (some 7) (by rfl) (by rfl) (by kernel_rfl) (by kernel_rfl) (by kernel_rfl) (fun _ _ _ h => h) (.inl ⟨by rfl, fun _ _ => by go_simp⟩) (hHeld) ?_
    simp only [Act.put, List.setIfInBounds_toArray, List.set_cons_zero, List.set_cons_succ]
    refine held_takeD 3 (.pointer (some ⟨w.heap.size, 141, none⟩)) (some 9) (by rfl) (by rfl) (by kernel_rfl) (by kernel_rfl) (by kernel_rfl) (fun _ _ _ h => h) (.inl ⟨by rfl, fun _ _ => by go_simp⟩) (hHeld) ?_
    simp only [Act.put, List.setIfInBounds_toArray, List.set_cons_zero, List.set_cons_succ]
    refine held_takeD 4 (.slice (some ⟨w.heap.size, 141, none⟩) 32 32) (some 10) (by rfl) (by rfl) (by kernel_rfl) (by kernel_rfl) (by kernel_rfl) (fun _ _ _ h => h) (.inl ⟨by rfl, fun _ _ => by go_simp⟩) (hHeld) ?_
    simp only [Act.put, List.setIfInBounds_toArray, List.set_cons_zero, List.set_cons_succ]
    refine held_one 2 (by kernel_rfl) (by rfl) (fun K' hK' => ?_)
    go_simp
    refine (fromBE_any _ 32 32 d.maxFee W.drew s1 (by omega)).mono ?_
    rintro e w2 ⟨Aa, ka, ca, rfl, na, -, b2⟩
    refine hK'.out _ _ (trivial) ?_
    clear hK' K'
    have s2 : Src w2 (some ⟨w.heap.size, 141, none⟩) 32 32 d.tip := src_of_range (by have := (((unhide HR0).kept dW).kept b2).range 141 32; rwa [h.tip] at this) h.htip.byt h.htip.len max32
    refine held_one 5 (by kernel_rfl) (by rfl) (fun K' hK' => ?_)
    go_simp
    refine (fromBE_any _ 32 32 d.tip w2 s2 (by omega)).mono ?_
    rintro e w3 ⟨Ab, kb, cb, rfl, nb, -, b3⟩
    refine hK'.out _ _ (trivial) ?_
    clear hK' K'
    refine held_takeD 6 (.slice Aa ka ca) (some 2) (by rfl) (by rfl) (by kernel_rfl) (by kernel_rfl) (by kernel_rfl) (fun _ _ _ h => h) (.inl ⟨by rfl, fun _ _ => by rfl⟩) (trivial) ?_
    simp only [Act.put, List.setIfInBounds_toArray, List.set_cons_zero, List.set_cons_succ]
    refine held_takeD 7 (.slice Ab kb cb) (some 3) (by rfl) (by rfl) (by kernel_rfl) (by kernel_rfl) (by kernel_rfl) (fun _ _ _ h => h) (.inl ⟨by rfl, fun _ _ => by rfl⟩) (trivial) ?_
    simp only [Act.put, List.setIfInBounds_toArray, List.set_cons_zero, List.set_cons_succ]
    refine wpAnyH_done (by kernel_rfl) ?_ _
    refine NoPanic.normal ?_
    have b03 : Below w.heap.size w w3 := hb0.trans ((dW.trans ((b2.trans (b3.mono b2.size)).mono dW.size)).mono hb0.size)
    have na3 := na.kept b3
    have NA := hide na3
    have NB := hide nb
    clear na nb na3 s1 s2
    go_wp2
    refine bodyPost_ret (results_tmp2 rfl _ _ _) rfl ?_
    rw [m1, m2]
    exact ⟨Aa, ka, ca, Ab, kb, cb, rfl, unhide NA, unhide NB, b03⟩
  | false =>
    rw [hd] at hdyn
    have m1 : mostW d = d.price := by unfold mostW; rw [hd]; rfl
    have m2 : tipW d = d.price := by unfold tipW; rw [hd]; rfl
    have s1 : Src W.drew (some ⟨w.heap.size, 43, none⟩) 32 32 d.price := src_of_range (by have := ((unhide HR0).kept dW).range 43 32; rwa [h.price] at this) h.hprice.byt h.hprice.len max32
    go_upto_region 3 with fail
    refine wp_region_noPanic ?_
    refine wp_region_held_drew (S := fun _ => True) (by kernel_rfl) (trivial) (fun hHeld => ?_)
    refine held_takeD 0 (.pointer (some ⟨w.heap.size, 43, none⟩)) (some 12) (by rfl) (by rfl) (by kernel_rfl) (by kernel_rfl) (by kernel_rfl) (fun _ _ _ h => h) (.inl ⟨by rfl, fun _ _ => by go_simp⟩) (hHeld) ?_
    simp only [Act.put, List.setIfInBounds_toArray, List.set_cons_zero, List.set_cons_succ]
    refine held_takeD 1 (.slice (some ⟨w.heap.size, 43, none⟩) 32 32) (some 13) (by rfl) (by rfl) (by kernel_rfl) (by kernel_rfl) (by kernel_rfl) (fun _ _ _ h => h) (.inl ⟨by rfl, fun _ _ => by go_simp⟩) (hHeld) ?_
    simp only [Act.put, List.setIfInBounds_toArray, List.set_cons_zero, List.set_cons_succ]
    refine held_takeD 3 (.pointer (some ⟨w.heap.size, 43, none⟩)) (some 15) (by rfl) (by rfl) (by kernel_rfl) (by kernel_rfl) (by kernel_rfl) (fun _ _ _ h => h) (.inl ⟨by rfl, fun _ _ => by go_simp⟩) (hHeld) ?_
    simp only [Act.put, List.setIfInBounds_toArray, List.set_cons_zero, List.set_cons_succ]
    refine held_takeD 4 (.slice (some ⟨w.heap.size, 43, none⟩) 32 32) (some 16) (by rfl) (by rfl) (by kernel_rfl) (by kernel_rfl) (by kernel_rfl) (fun _ _ _ h => h) (.inl ⟨by rfl, fun _ _ => by go_simp⟩) (hHeld) ?_
    simp only [Act.put, List.setIfInBounds_toArray, List.set_cons_zero, List.set_cons_succ]
    refine held_one 2 (by kernel_rfl) (by rfl) (fun K' hK' => ?_)
    go_simp
    refine (fromBE_any _ 32 32 d.price W.drew s1 (by omega)).mono ?_
    rintro e w2 ⟨Aa, ka, ca, rfl, na, -, b2⟩
    refine hK'.out _ _ (trivial) ?_
    clear hK' K'
    refine held_one 5 (by kernel_rfl) (by rfl) (fun K' hK' => ?_)
    go_simp
    refine (fromBE_any _ 32 32 d.price w2 (s1.kept b2) (by omega)).mono ?_
    rintro e w3 ⟨Ab, kb, cb, rfl, nb, -, b3⟩
    refine hK'.out _ _ (trivial) ?_
    clear hK' K'
    refine held_takeD 6 (.slice Aa ka ca) (some 2) (by rfl) (by rfl) (by kernel_rfl) (by kernel_rfl) (by kernel_rfl) (fun _ _ _ h => h) (.inl ⟨by rfl, fun _ _ => by rfl⟩) (trivial) ?_
    simp only [Act.put, List.setIfInBounds_toArray, List.set_cons_zero, List.set_cons_succ]
    refine held_takeD 7 (.slice Ab kb cb) (some 3) (by rfl) (by rfl) (by kernel_rfl) (by kernel_rfl) (by kernel_rfl) (fun _ _ _ h => h) (.inl ⟨by rfl, fun _ _ => by rfl⟩) (trivial) ?_
    simp only [Act.put, List.setIfInBounds_toArray, List.set_cons_zero, List.set_cons_succ]
    refine wpAnyH_done (by kernel_rfl) ?_ _
    refine NoPanic.normal ?_
    have b03 : Below w.heap.size w w3 := hb0.trans ((dW.trans ((b2.trans (b3.mono b2.size)).mono dW.size)).mono hb0.size)
    have na3 := na.kept b3
    have NA := hide na3
    have NB := hide nb
    clear na nb na3 s1
    go_wp2
    refine bodyPost_ret (results_tmp2 rfl _ _ _) rfl ?_
    rw [m1, m2]
    exact ⟨Aa, ka, ca, Ab, kb, cb, rfl, unhide NA, unhide NB, b03⟩

def zeroOA (a : List Int) : OAcct := ⟨a, 0, zeros 32, [], []⟩
def lookO : List OAcct → List Int → OAcct
  | [], a => zeroOA a
  | d :: ds, a => if d.addr = a then d else lookO ds a
theorem lookO_none : ∀ (ds : List OAcct) (a : List Int), (∀ d ∈ ds, d.addr ≠ a) → lookO ds a = zeroOA a
  | [], a, _ => rfl
  | d :: ds, a, h => by
    rw [lookO, if_neg (h d (by simp))]
    exact lookO_none ds a (fun x hx => h x (by simp [hx]))
theorem lookO_take : ∀ (ds : List OAcct) (a : List Int) (i : Nat), i < ds.length → (∀ d ∈ ds.take i, d.addr ≠ a) → (ds.getD i zeroO).addr = a → lookO ds a = ds.getD i zeroO
  | d :: ds, a, 0, _, _, h => by
    rw [lookO, if_pos (by simpa using h)]
    simp
  | d :: ds, a, i + 1, hi, hn, h => by
    rw [lookO, if_neg (hn d (by simp))]
    simpa using lookO_take ds a i (by simpa using hi) (fun x hx => hn x (by simp [hx])) (by simpa using h)

def rowOA (a : List Int) : List Value := bv a ++ (.int .u64 0 :: (bv (zeros 32) ++ [nilS, nilS]))
theorem infoOA : (Sakg.prog.info? 107).map (fun i => (i.zero, i.size)) = some (some (.agg (rowOA (zeros 20)).toArray), 55) := by kernel_rfl
theorem sizeOA : (Sakg.prog.info? 107).map (·.size) = some 55 := by kernel_rfl
theorem placesOA : PlacesOf 107 #[(0, 20), (20, 1), (21, 32), (53, 1), (54, 1)] := ⟨by kernel_rfl, fun w => by kernel_rfl⟩
theorem rowOA_len (a : List Int) (ha : IsAddr a) : (rowOA a).length = 55 := by simp [rowOA, bv_len, ha.len, zeros_len]
theorem rowOA_one (a : List Int) : ∀ v ∈ rowOA a, v.oneCell' = true := by
  intro v hv
  unfold rowOA at hv
  rcases List.mem_append.1 hv with h | h
  · exact bv_one _ v h
  · rcases List.mem_cons.1 h with h | h
    · subst h; rfl
    · rcases List.mem_append.1 h with h | h
      · exact bv_one _ v h
      · simp at h; subst h; rfl
theorem rowOA_row (w : World) (a : List Int) (ha : IsAddr a) : OAcctRow w (rowOA a) (zeroOA a) :=
  ⟨none, 0, 0, none, 0, 0, rfl, ha, Nat.pow_pos (by omega), zeroW_is, Src.ofNil w, ⟨[], Rws.ofNil w 64, trivial⟩⟩
theorem build_OA (a : List Int) (ha : IsAddr a) : Instr.fill ((#[(0, 20), (20, 1), (21, 32), (53, 1), (54, 1)] : Array (Nat × Nat))[·]?) (rowOA (zeros 20)).toArray [(0, .agg (bv a).toArray)] = some (rowOA a).toArray := by
  rw [fill_cons _ (rowOA (zeros 20)) 0 (.agg (bv a).toArray) [] 0 20 rfl (bv a) rfl (by rw [bv_len, ha.len]) (by simp [rowOA, bv_len, zeros_len]), Instr.fill]
  have : spl (rowOA (zeros 20)) 0 (bv a) = rowOA a := by
    unfold spl rowOA
    rw [List.take_zero, List.nil_append, Nat.zero_add, bv_len, ha.len, List.drop_append_of_le_length (by simp [bv_len, zeros_len]), List.drop_of_length_le (by simp [bv_len, zeros_len]), List.nil_append]
  rw [this]
theorem OAcctRow.one {w : World} {r : List Value} {d : OAcct} (h : OAcctRow w r d) : ∀ v ∈ r, v.oneCell' = true := by
  obtain ⟨A3, k3, c3, A4, k4, c4, rfl, _⟩ := h
  intro v hv
  rcases List.mem_append.1 hv with h | h
  · exact bv_one _ v h
  · rcases List.mem_cons.1 h with h | h
    · subst h; rfl
    · rcases List.mem_append.1 h with h | h
      · exact bv_one _ v h
      · simp at h
        rcases h with rfl | rfl <;> rfl
theorem OAcctRow.len {w : World} {r : List Value} {d : OAcct} (h : OAcctRow w r d) : r.length = 55 := by
  obtain ⟨A3, k3, c3, A4, k4, c4, rfl, h2, h3, h4, _⟩ := h
  simp [bv_len, h2.len, h4.len]
theorem OAcctRow.pre {w : World} {r : List Value} {d : OAcct} (h : OAcctRow w r d) : (r.drop 0).take 20 = bv d.addr := by
  obtain ⟨A3, k3, c3, A4, k4, c4, rfl, h2, _⟩ := h
  rw [List.drop_zero, List.take_append_of_le_length (by rw [bv_len, h2.len]; omega), List.take_of_length_le (by rw [bv_len, h2.len]; omega)]

set_option maxHeartbeats 8000000 in
theorem lookup_any (ao : Option Addr) (l c : Nat) (ds : List OAcct) (a : List Int) (w : World) (h : OAcctsR w ao l c ds) (ha : IsAddr a) :
    Calls Sakg.prog 94 #[.slice ao l c, .agg (bv a).toArray] w fun e w' => ∃ r, e = .returned (.agg r.toArray) ∧ OAcctRow w r (lookO ds a) ∧ Below w.heap.size w w' := by
  have hlen := h.len
  obtain ⟨rows, g1, g2⟩ := h
  have hmx : l ≤ 9223372036854775807 := by have := Nat.le_trans g1.le g1.max; unfold maxLen at this; omega
  have HAT := hide (rows_at' zeroO g1 g2)
  have HLEN := hide hlen
  have HA := hide ha
  have hg63 := guardAddr
  have hra0 : rowOA a ≠ [] := by intro h0; have := rowOA_len a ha; rw [h0] at this; cases this
  clear g1 g2 hlen
  obtain ⟨W, hW⟩ : ∃ W, W = (w.alloc (.cells (bv a).toArray 63)).alloc (.cells (rowOA (zeros 20)).toArray 107) := ⟨_, rfl⟩
  have hb0 : Below w.heap.size w W := by rw [hW]; exact ((Below.refl _ _).alloc (Nat.le_refl _) _).alloc (by simp) _
  have hr0 : RowT 63 W w.heap.size (bv a) := by rw [hW]; exact (RowT.new _ _ _).alloc _
  have hr1 : RowT 107 W (w.heap.size + 1) (rowOA (zeros 20)) := by
    rw [hW]
    have := RowT.new 107 (w.alloc (.cells (bv a).toArray 63)) (rowOA (zeros 20))
    rw [World.size_alloc] at this
    exact this
  have hz20 : (rowOA (zeros 20)).length = 55 := by simp [rowOA, bv_len, zeros_len]
  have ha55 := rowOA_len a ha
  go_enter Sakg.func94, Sakg.ntmps94
  go_upto_region 1 with ((with_reducible refine at_alloc 107 ?_); refine wpList_alloc_g (by rfl) 107 rfl (rowOA (zeros 20)) 55 infoOA hz20 ?_)
  rw [← hW]
  clear hW
  go_wp2_with fail
  go_loopg [9] l (fun gk ct wr => ∃ i : Nat, i + gk = l ∧ ct = .int .i64 i ∧ (∀ d ∈ ds.take i, d.addr ≠ a) ∧ RowT 63 wr w.heap.size (bv a) ∧ RowT 107 wr (w.heap.size + 1) (rowOA (zeros 20)) ∧ Below w.heap.size w wr)
  case atStart => exact ⟨0, by omega, rfl, (fun x hx => by simp at hx), hr0, hr1, hb0⟩
  case round =>
    obtain ⟨i, hi, rfl, hno, hra, hrz, hbe⟩ := hrel
    have HNO := hide hno
    have HRA := hide hra
    have HRZ := hide hrz
    have hs0 : w.heap.size + 1 < wr.heap.size := hrz.lt
    clear hno hra hrz hr0 hr1
    by_cases hil : i < l
    · obtain ⟨b, off, rfl, hlt, hat⟩ := unhide HAT (by omega)
      obtain ⟨r, hrg, hrow⟩ := hat i hil
      have hlk := lookO_take ds a i (by have := unhide HLEN; omega) (unhide HNO)
      have hts : ds.take (i + 1) = ds.take i ++ [ds.getD i zeroO] := by
        rw [List.take_succ_eq_append_getElem (by have := unhide HLEN; omega)]
        simp [List.getD, show i < ds.length by have := unhide HLEN; omega]
      obtain ⟨d, hd⟩ : ∃ d, d = ds.getD i zeroO := ⟨_, rfl⟩
      rw [← hd] at hrow hlk hts
      have hrl := hrow.len
      have hrg2 := range_below hrg hbe (fun _ => hlt)
      have heq := fun wx => addr_eq wx d.addr a hrow.is.1 (unhide HA)
      have hsz : (Sakg.prog.info? 107).map (·.size) = some r.length := by rw [hrl]; exact sizeOA
      have HRG := hide hrg2
      have HROW := hide hrow
      have HLK := hide hlk
      have HTS := hide hts
      have HSZ := hide hsz
      have HRL := hide hrl
      clear hat hrg hrg2 hrow hlk hts hd hsz hrl
      by_cases hda : d.addr = a
      · have hde : decide (d.addr = a) = true := decide_eq_true hda
        rw [hde] at heq
        have HDA := hide hda
        clear hda hde
        go_wp2_with (first
          | ((with_reducible refine at_load 107 ?_); refine wpList_load_g (by rfl) 107 (.tmp 11) rfl b _ rfl r _ (unhide HRG) Sakg.underlying107 rfl (unhide HSZ) ?_)
          | ((with_reducible refine at_alloc 107 ?_); refine wpList_alloc_g (by rfl) 107 rfl (rowOA (zeros 20)) 55 infoOA hz20 ?_)
          | ((with_reducible refine at_store 107 ?_); refine wpList_store_whole rfl 107 (.tmp 6) (.tmp 12) rfl _ _ _ r rfl rfl (RowT.new _ _ _) (by rw [unhide HRL, hz20]) (unhide HSZ) (unhide HROW).one ?_; intro w2 hr2 hon2; have hbb := box_below hon2; have hra2 := (unhide HRA).kept hbb.1; have hrz2 := (unhide HRZ).kept hbb.1; clear hon2)
          | ((with_reducible refine at_load 63 ?_); refine wpList_load_g (by rfl) 63 (.tmp 13) rfl _ 0 rfl (bv d.addr) _ (by have := hr2.range 0 20; rwa [(unhide HROW).pre] at this) Sakg.underlying63 rfl (unhide HROW).is.1.size ?_)
          | ((with_reducible refine at_load 63 ?_); refine wpList_load_g (by rfl) 63 (.tmp 3) rfl _ 0 rfl (bv a) _ hra2.rangeAll Sakg.underlying63 rfl (unhide HA).size ?_)
          | ((with_reducible refine at_load 107 ?_); refine wpList_load_g (by rfl) 107 (.tmp 6) rfl _ 0 rfl r _ hr2.rangeAll Sakg.underlying107 rfl (unhide HSZ) ?_)
          | ((with_reducible refine at_store 107 ?_); refine wpList_store_whole rfl 107 (.tmp 4) (.tmp 17) rfl _ _ _ r rfl rfl hrz2 (by rw [unhide HRL, hz20]) (unhide HSZ) (unhide HROW).one ?_; intro w3 hr3 hon3))
        have hb3 : Below w.heap.size w w3 := (hbe.trans (hbb.1.mono (by omega))).trans (hon3.below _ (by omega))
        refine bodyPost_ret (results_cell_row rfl _ _ _ _ _ _ _ rfl hr3 Sakg.underlying107 rfl (by simpa using unhide HSZ)) rfl ?_
        refine ⟨r, rfl, ?_, hb3⟩
        rw [unhide HLK (unhide HDA)]
        exact unhide HROW
      · have hde : decide (d.addr = a) = false := decide_eq_false hda
        rw [hde] at heq
        have HDA := hide hda
        clear hda hde
        go_wp2_with (first
          | ((with_reducible refine at_load 107 ?_); refine wpList_load_g (by rfl) 107 (.tmp 11) rfl b _ rfl r _ (unhide HRG) Sakg.underlying107 rfl (unhide HSZ) ?_)
          | ((with_reducible refine at_alloc 107 ?_); refine wpList_alloc_g (by rfl) 107 rfl (rowOA (zeros 20)) 55 infoOA hz20 ?_)
          | ((with_reducible refine at_store 107 ?_); refine wpList_store_whole rfl 107 (.tmp 6) (.tmp 12) rfl _ _ _ r rfl rfl (RowT.new _ _ _) (by rw [unhide HRL, hz20]) (unhide HSZ) (unhide HROW).one ?_; intro w2 hr2 hon2; have hbb := box_below hon2; have hra2 := (unhide HRA).kept hbb.1; have hrz2 := (unhide HRZ).kept hbb.1; clear hon2)
          | ((with_reducible refine at_load 63 ?_); refine wpList_load_g (by rfl) 63 (.tmp 13) rfl _ 0 rfl (bv d.addr) _ (by have := hr2.range 0 20; rwa [(unhide HROW).pre] at this) Sakg.underlying63 rfl (unhide HROW).is.1.size ?_)
          | ((with_reducible refine at_load 63 ?_); refine wpList_load_g (by rfl) 63 (.tmp 3) rfl _ 0 rfl (bv a) _ hra2.rangeAll Sakg.underlying63 rfl (unhide HA).size ?_))
        have hb2 : Below w.heap.size w w2 := hbe.trans (hbb.1.mono (by omega))
        go_roundg (l - 1 - i)
        case measure => omega
        case rel =>
          refine ⟨i + 1, by omega, rfl, ?_, hra2, hrz2, hb2⟩
          rw [unhide HTS]
          intro y hy
          rcases List.mem_append.1 hy with h | h
          · exact unhide HNO y h
          · simp at h; subst h; exact unhide HDA
    · obtain rfl : i = l := by omega
      have hlk : lookO ds a = zeroOA a := by
        have h1 := unhide HNO
        rw [List.take_of_length_le (by have := unhide HLEN; omega)] at h1
        exact lookO_none ds a h1
      have HLK := hide hlk
      clear hlk
      cases hi0 : Sakg.prog.info? 107 with
      | none => have := infoOA; rw [hi0] at this; cases this
      | some i0 =>
        have h0 := infoOA
        rw [hi0] at h0
        simp only [Option.map_some, Option.some.injEq, Prod.mk.injEq] at h0
        have HI0 := hide hi0
        have HZ0 := hide h0.1
        clear hi0 h0
        have hszA : (Sakg.prog.info? 107).map (·.size) = some (rowOA a).length := by rw [ha55]; exact sizeOA
        have HSZA := hide hszA
        clear hszA
        go_wp2_with (first
          | ((with_reducible refine at_load 63 ?_); refine wpList_load_g (by rfl) 63 (.tmp 3) rfl _ 0 rfl (bv a) _ (unhide HRA).rangeAll Sakg.underlying63 rfl (unhide HA).size ?_)
          | ((with_reducible refine at_build 107 ?_); refine wpList_build_struct (by rfl) 107 _ rfl _ placesOA i0 _ (unhide HI0) (unhide HZ0) (rowOA (zeros 20)) rfl (rowOA a) (build_OA a (unhide HA)) ?_)
          | ((with_reducible refine at_store 107 ?_); refine wpList_store_whole rfl 107 (.tmp 4) (.tmp 20) rfl _ _ _ (rowOA a) rfl rfl (unhide HRZ) (by rw [hz20, ha55]) (unhide HSZA) (rowOA_one a) ?_; intro w3 hr3 hon3))
        have hb3 : Below w.heap.size w w3 := hbe.trans (hon3.below _ (by omega))
        refine bodyPost_ret (results_cell_row rfl _ _ _ _ _ _ _ rfl hr3 Sakg.underlying107 rfl (by simpa using unhide HSZA)) rfl ?_
        refine ⟨_, rfl, ?_, hb3⟩
        rw [unhide HLK]
        exact rowOA_row w a (unhide HA)

end Go.Proofs.Ygcsak
