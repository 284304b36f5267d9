/-
  law: lookup (from the other seat's text).
-/
import Derived.Test.YgcsakGreatLpI
namespace Go.Proofs.YgcsakGreat
set_option linter.unusedVariables false
set_option linter.unusedSimpArgs false
set_option maxRecDepth 100000
open Go.RowKit

def lookO : List OAcct → List Int → OAcct
  | [], a => zeroOA a
  | d :: ds, a => if d.addr = a then d else lookO ds a
theorem lookO_none : ∀ (ds : List OAcct) (a : List Int), (∀ d ∈ ds, d.addr ≠ a) → lookO ds a = zeroOA a
  | [], a, _ => rfl
  | d :: ds, a, h => by
    rw [lookO, if_neg (h d (by simp))]
    exact lookO_none ds a (fun x hx => h x (by simp [hx]))
theorem lookO_take : ∀ (ds : List OAcct) (a : List Int) (i : Nat), i < ds.length → (∀ d ∈ ds.take i, d.addr ≠ a) → (ds.getD i zeroO).addr = a → lookO ds a = ds.getD i zeroO
  | d :: ds, a, 0, _, _, h => by
    rw [lookO, if_pos (by simpa using h)]
    simp
  | d :: ds, a, i + 1, hi, hn, h => by
    rw [lookO, if_neg (hn d (by simp))]
    simpa using lookO_take ds a i (by simpa using hi) (fun x hx => hn x (by simp [hx])) (by simpa using h)

set_option maxHeartbeats 8000000 in
theorem lookup_any (ao : Option Addr) (l c : Nat) (ds : List OAcct) (a : List Int) (w : World) (h : OAcctsR w ao l c ds) (ha : IsAddr a) :
    Calls Sakg.prog 52 #[.slice ao l c, .agg (bv a).toArray] w fun e w' => ∃ r, e = .returned (.agg r.toArray) ∧ OAcctRow w r (lookO ds a) ∧ Below w.heap.size w w' := by
  have hlen := h.len
  obtain ⟨rows, g1, g2⟩ := h
  have hmx : l ≤ 9223372036854775807 := by have := Nat.le_trans g1.le g1.max; unfold maxLen at this; omega
  have HAT := hide (rows_at' zeroO g1 g2)
  have HLEN := hide hlen
  have HA := hide ha
  have hg63 := guardAddr
  have hra0 : rowOA a ≠ [] := by intro h0; have := rowOA_len a ha; rw [h0] at this; cases this
  clear g1 g2 hlen
  obtain ⟨W, hW⟩ : ∃ W, W = (w.alloc (.cells (bv a).toArray 26)).alloc (.cells (rowOA (zeros 20)).toArray 43) := ⟨_, rfl⟩
  have hb0 : Below w.heap.size w W := by rw [hW]; exact ((Below.refl _ _).alloc (Nat.le_refl _) _).alloc (by simp) _
  have hr0 : RowT 26 W w.heap.size (bv a) := by rw [hW]; exact (RowT.new _ _ _).alloc _
  have hr1 : RowT 43 W (w.heap.size + 1) (rowOA (zeros 20)) := by
    rw [hW]
    have := RowT.new 43 (w.alloc (.cells (bv a).toArray 26)) (rowOA (zeros 20))
    rw [World.size_alloc] at this
    exact this
  have hz20 : (rowOA (zeros 20)).length = 55 := by simp [rowOA, bv_len, zeros_len]
  have ha55 := rowOA_len a ha
  go_enter Sakg.func52, Sakg.ntmps52
  go_upto_region 1 with ((with_reducible refine at_alloc 43 ?_); refine wpList_alloc_g (by rfl) 43 rfl (rowOA (zeros 20)) 55 infoOA hz20 ?_)
  rw [← hW]
  clear hW
  go_wp2_with fail
  go_loopg [9] l (fun gk ct wr => ∃ i : Nat, i + gk = l ∧ ct = .int .i64 i ∧ (∀ d ∈ ds.take i, d.addr ≠ a) ∧ RowT 26 wr w.heap.size (bv a) ∧ RowT 43 wr (w.heap.size + 1) (rowOA (zeros 20)) ∧ Below w.heap.size w wr)
  case atStart => exact ⟨0, by omega, rfl, (fun x hx => by simp at hx), hr0, hr1, hb0⟩
  case round =>
    obtain ⟨i, hi, rfl, hno, hra, hrz, hbe⟩ := hrel
    have HNO := hide hno
    have HRA := hide hra
    have HRZ := hide hrz
    have hs0 : w.heap.size + 1 < wr.heap.size := hrz.lt
    clear hno hra hrz hr0 hr1
    by_cases hil : i < l
    · obtain ⟨b, off, rfl, hlt, hat⟩ := unhide HAT (by omega)
      obtain ⟨r, hrg, hrow⟩ := hat i hil
      have hlk := lookO_take ds a i (by have := unhide HLEN; omega) (unhide HNO)
      have hts : ds.take (i + 1) = ds.take i ++ [ds.getD i zeroO] := by
        rw [List.take_succ_eq_append_getElem (by have := unhide HLEN; omega)]
        simp [List.getD, show i < ds.length by have := unhide HLEN; omega]
      obtain ⟨d, hd⟩ : ∃ d, d = ds.getD i zeroO := ⟨_, rfl⟩
      rw [← hd] at hrow hlk hts
      have hrl := hrow.len
      have hrg2 := range_below hrg hbe (fun _ => hlt)
      have heq := fun wx => addr_eq wx d.addr a hrow.is.1 (unhide HA)
      have hsz : (Sakg.prog.info? 43).map (·.size) = some r.length := by rw [hrl]; exact sizeOA
      have HRG := hide hrg2
      have HROW := hide hrow
      have HLK := hide hlk
      have HTS := hide hts
      have HSZ := hide hsz
      have HRL := hide hrl
      clear hat hrg hrg2 hrow hlk hts hd hsz hrl
      by_cases hda : d.addr = a
      · have hde : decide (d.addr = a) = true := decide_eq_true hda
        rw [hde] at heq
        have HDA := hide hda
        clear hda hde
        go_wp2_with (first
          | ((with_reducible refine at_load 43 ?_); refine wpList_load_g (by rfl) 43 (.tmp 11) rfl b _ rfl r _ (unhide HRG) Sakg.underlying43 rfl (unhide HSZ) ?_)
          | ((with_reducible refine at_alloc 43 ?_); refine wpList_alloc_g (by rfl) 43 rfl (rowOA (zeros 20)) 55 infoOA hz20 ?_)
          | ((with_reducible refine at_store 43 ?_); refine wpList_store_whole rfl 43 (.tmp 6) (.tmp 12) rfl _ _ _ r rfl rfl (RowT.new _ _ _) (by rw [unhide HRL, hz20]) (unhide HSZ) (unhide HROW).one ?_; intro w2 hr2 hon2; have hbb := box_below hon2; have hra2 := (unhide HRA).kept hbb.1; have hrz2 := (unhide HRZ).kept hbb.1; clear hon2)
          | ((with_reducible refine at_load 26 ?_); refine wpList_load_g (by rfl) 26 (.tmp 13) rfl _ 0 rfl (bv d.addr) _ (by have := hr2.range 0 20; rwa [(unhide HROW).pre] at this) Sakg.underlying26 rfl (unhide HROW).is.1.size ?_)
          | ((with_reducible refine at_load 26 ?_); refine wpList_load_g (by rfl) 26 (.tmp 3) rfl _ 0 rfl (bv a) _ hra2.rangeAll Sakg.underlying26 rfl (unhide HA).size ?_)
          | ((with_reducible refine at_load 43 ?_); refine wpList_load_g (by rfl) 43 (.tmp 6) rfl _ 0 rfl r _ hr2.rangeAll Sakg.underlying43 rfl (unhide HSZ) ?_)
          | ((with_reducible refine at_store 43 ?_); refine wpList_store_whole rfl 43 (.tmp 4) (.tmp 17) rfl _ _ _ r rfl rfl hrz2 (by rw [unhide HRL, hz20]) (unhide HSZ) (unhide HROW).one ?_; intro w3 hr3 hon3))
        have hb3 : Below w.heap.size w w3 := (hbe.trans (hbb.1.mono (by omega))).trans (hon3.below _ (by omega))
        refine bodyPost_ret (results_cell_row rfl _ _ _ _ _ _ _ rfl hr3 Sakg.underlying43 rfl (by simpa using unhide HSZ)) rfl ?_
        refine ⟨r, rfl, ?_, hb3⟩
        rw [unhide HLK (unhide HDA)]
        exact unhide HROW
      · have hde : decide (d.addr = a) = false := decide_eq_false hda
        rw [hde] at heq
        have HDA := hide hda
        clear hda hde
        go_wp2_with (first
          | ((with_reducible refine at_load 43 ?_); refine wpList_load_g (by rfl) 43 (.tmp 11) rfl b _ rfl r _ (unhide HRG) Sakg.underlying43 rfl (unhide HSZ) ?_)
          | ((with_reducible refine at_alloc 43 ?_); refine wpList_alloc_g (by rfl) 43 rfl (rowOA (zeros 20)) 55 infoOA hz20 ?_)
          | ((with_reducible refine at_store 43 ?_); refine wpList_store_whole rfl 43 (.tmp 6) (.tmp 12) rfl _ _ _ r rfl rfl (RowT.new _ _ _) (by rw [unhide HRL, hz20]) (unhide HSZ) (unhide HROW).one ?_; intro w2 hr2 hon2; have hbb := box_below hon2; have hra2 := (unhide HRA).kept hbb.1; have hrz2 := (unhide HRZ).kept hbb.1; clear hon2)
          | ((with_reducible refine at_load 26 ?_); refine wpList_load_g (by rfl) 26 (.tmp 13) rfl _ 0 rfl (bv d.addr) _ (by have := hr2.range 0 20; rwa [(unhide HROW).pre] at this) Sakg.underlying26 rfl (unhide HROW).is.1.size ?_)
          | ((with_reducible refine at_load 26 ?_); refine wpList_load_g (by rfl) 26 (.tmp 3) rfl _ 0 rfl (bv a) _ hra2.rangeAll Sakg.underlying26 rfl (unhide HA).size ?_))
        have hb2 : Below w.heap.size w w2 := hbe.trans (hbb.1.mono (by omega))
        go_roundg (l - 1 - i)
        case measure => omega
        case rel =>
          refine ⟨i + 1, by omega, rfl, ?_, hra2, hrz2, hb2⟩
          rw [unhide HTS]
          intro y hy
          rcases List.mem_append.1 hy with h | h
          · exact unhide HNO y h
          · simp at h; subst h; exact unhide HDA
    · obtain rfl : i = l := by omega
      have hlk : lookO ds a = zeroOA a := by
        have h1 := unhide HNO
        rw [List.take_of_length_le (by have := unhide HLEN; omega)] at h1
        exact lookO_none ds a h1
      have HLK := hide hlk
      clear hlk
      cases hi0 : Sakg.prog.info? 43 with
      | none => have := infoOA; rw [hi0] at this; cases this
      | some i0 =>
        have h0 := infoOA
        rw [hi0] at h0
        simp only [Option.map_some, Option.some.injEq, Prod.mk.injEq] at h0
        have HI0 := hide hi0
        have HZ0 := hide h0.1
        clear hi0 h0
        have hszA : (Sakg.prog.info? 43).map (·.size) = some (rowOA a).length := by rw [ha55]; exact sizeOA
        have HSZA := hide hszA
        clear hszA
        go_wp2_with (first
          | ((with_reducible refine at_load 26 ?_); refine wpList_load_g (by rfl) 26 (.tmp 3) rfl _ 0 rfl (bv a) _ (unhide HRA).rangeAll Sakg.underlying26 rfl (unhide HA).size ?_)
          | ((with_reducible refine at_build 43 ?_); refine wpList_build_struct (by rfl) 43 _ rfl _ placesOA i0 _ (unhide HI0) (unhide HZ0) (rowOA (zeros 20)) rfl (rowOA a) (build_OA a (unhide HA)) ?_)
          | ((with_reducible refine at_store 43 ?_); refine wpList_store_whole rfl 43 (.tmp 4) (.tmp 20) rfl _ _ _ (rowOA a) rfl rfl (unhide HRZ) (by rw [hz20, ha55]) (unhide HSZA) (rowOA_one a) ?_; intro w3 hr3 hon3))
        have hb3 : Below w.heap.size w w3 := hbe.trans (hon3.below _ (by omega))
        refine bodyPost_ret (results_cell_row rfl _ _ _ _ _ _ _ rfl hr3 Sakg.underlying43 rfl (by simpa using unhide HSZA)) rfl ?_
        refine ⟨_, rfl, ?_, hb3⟩
        rw [unhide HLK]
        exact rowOA_row w a (unhide HA)

end Go.Proofs.YgcsakGreat
