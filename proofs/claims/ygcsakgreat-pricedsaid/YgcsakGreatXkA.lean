/-
  yp, exactly: hashedAddr, createAddr.
-/
import Derived.Test.YgcsakGreatKyI
import Derived.Test.YgcsakGreatKmI
namespace Go.Proofs.YgcsakGreat
set_option linter.unusedVariables false
set_option linter.unusedSimpArgs false
set_option maxRecDepth 100000
open Go.RowKit

/-- the address that the hash of xs gives -/
def AddrIs (xs a : List Int) : Prop := ∃ ys, ys.length = 32 ∧ Byt ys ∧ HashIs xs ys ∧ a = (ys.drop 12).take 20
theorem addr_high {xs a : List Int} (hb : Byt xs) (h : AddrIs xs a) (hne : (hashL (val xs) xs.length).getD 2 0 % 2 ^ 64 ≠ 0) : ∃ q, 4 ≤ q ∧ q < 12 ∧ a.getD q 0 ≠ 0 := by
  obtain ⟨ys, h1, h2, h3, rfl⟩ := h
  obtain ⟨q, q1, q2, q3⟩ := hash_third hb h3 hne
  refine ⟨q - 12, by omega, by omega, ?_⟩
  rw [List.getD_eq_getElem?_getD, List.getElem?_take, if_pos (by omega), List.getElem?_drop, show 12 + (q - 12) = q by omega, ← List.getD_eq_getElem?_getD]
  exact q3
set_option maxHeartbeats 4000000 in
theorem hashedAddr_x (A : Option Addr) (l c : Nat) (xs : List Int) (w : World) (h : Src w A l c xs) (hl : l ≤ 1000000) :
    Calls Sakg.prog 190 #[.slice A l c] w fun e w' => (∃ a, e = .returned (.agg (bv a).toArray) ∧ IsAddr a ∧ AddrIs xs a) ∧ Below w.heap.size w w' := by
  have hb0 : Below w.heap.size w (w.alloc (.cells (bv (zeros 20)).toArray 26)) := (Below.refl _ _).alloc (Nat.le_refl _) _
  have hr0 : RowT 26 (w.alloc (.cells (bv (zeros 20)).toArray 26)) w.heap.size (bv (zeros 20)) := RowT.new _ _ _
  have HC := hide (sum_x A l c xs _ (h.kept hb0) hl)
  clear h
  go_enter Sakg.func190, Sakg.ntmps190
  go_upto_region 2 with (first
    | ((with_reducible refine at_alloc 26 ?_); refine wpList_alloc_g (by rfl) 26 rfl (bv (zeros 20)) 20 infoAddr2 (by rw [bv_len, zeros_len]) ?_)
    | (go_at_call 233; refine (unhide HC).mono ?_; rintro e w2 ⟨⟨ys, rfl, hyl, hyb, hhi⟩, hb2⟩; have hsz : (Sakg.prog.info? 28).map (·.size) = some (bv ys).length := by { rw [bv_len, hyl]; exact size32 })
    | ((with_reducible refine at_alloc 28 ?_); refine wpList_alloc_g (by rfl) 28 rfl (bv (zeros 32)) 32 info32 (by rw [bv_len, zeros_len]) ?_)
    | ((with_reducible refine at_store 28 ?_); refine wpList_store_whole rfl 28 (.tmp 3) (.tmp 5) rfl w2.heap.size 28 (bv (zeros 32)) (bv ys) rfl rfl (RowT.new _ _ _) (by rw [bv_len, bv_len, hyl, zeros_len]) hsz (bv_one _) ?_; intro w3 hr3 ho3; have hbb3 := box_below ho3; clear ho3))
  have ha : IsAddr ((ys.drop 12).take 20) := ⟨by simp [hyl], (hyb.drop 12).take 20⟩
  have hrg : w3.rangeAt w2.heap.size 12 (bv ((ys.drop 12).take 20)) := by
    have := hr3.range 12 20
    simp only [bv, ← List.map_drop, ← List.map_take] at this
    exact this
  have r3 : RowT 26 w3 w.heap.size (bv (zeros 20)) := (hr0.kept hb2).kept hbb3.1
  have b3 : Below w.heap.size w w3 := hb0.trans ((hb2.trans (hbb3.1.mono hb2.size)).mono (by simp))
  have hai : AddrIs xs ((ys.drop 12).take 20) := ⟨ys, hyl, hyb, hhi, rfl⟩
  generalize (ys.drop 12).take 20 = a at *
  have HAI := hide hai
  clear hai hhi
  have HRG := hide hrg
  have R3 := hide r3
  clear hrg r3 hr3 hbb3 hsz hb2 hyl hyb
  have harr := run_arrayAt w2.heap.size 12
  have hasz : (Sakg.prog.info? 26).map (·.size) = some (bv a).toArray.size := by rw [List.size_toArray]; exact ha.size
  go_wp2_with (first
    | ((with_reducible refine at_load 26 ?_); refine wpList_load_g (by rfl) 26 (.tmp 7) rfl w2.heap.size 12 rfl (bv a) _ (unhide HRG) Sakg.underlying26 rfl ha.size ?_)
    | ((with_reducible refine at_store 26 ?_); refine wpList_store_whole rfl 26 (.tmp 2) (.tmp 8) rfl w.heap.size 26 (bv (zeros 20)) (bv a) rfl rfl (unhide R3) (by rw [bv_len, bv_len, ha.len, zeros_len]) ha.size (bv_one _) ?_; intro w4 hr4 ho4))
  refine bodyPost_ret (results_cell_row rfl _ _ _ _ _ _ _ rfl hr4 Sakg.underlying26 rfl hasz) rfl ?_
  exact ⟨⟨a, rfl, ha, unhide HAI⟩, b3.trans (ho4.below _ (Nat.le_refl _))⟩




end Go.Proofs.YgcsakGreat
