/-
  yp: isWarmSlot, warmSlot.
-/
import Derived.Test.YgcsakGreatYpG
namespace Go.Proofs.YgcsakGreat
set_option linter.unusedVariables false
set_option linter.unusedSimpArgs false
set_option maxRecDepth 100000
open Go.RowKit

/-- a warm slot: an address and a key -/
abbrev YMark := List Int × Nat
def SMark (g : Nat) (w : World) (r : List Value) (s : YMark) : Prop := ∃ A k c, r = bv s.1 ++ [.slice A k c] ∧ IsAddr s.1 ∧ Stab g (fun w => IsNat w A k c s.2) w ∧ s.2 < BIG
theorem SMark.go {g : Nat} {w w' : World} {r : List Value} {s : YMark} (h : SMark g w r s) (hc : Chg g w w') : SMark g w' r s := by
  obtain ⟨A, k, c, h1, h2, h3, h4⟩ := h
  exact ⟨A, k, c, h1, h2, h3.go hc, h4⟩
theorem SMark.len {g : Nat} {w : World} {r : List Value} {s : YMark} (h : SMark g w r s) : r.length = 21 := by
  obtain ⟨A, k, c, rfl, h2, h3, _⟩ := h
  simp [bv_len, h2.len]
theorem SMark.one {g : Nat} {w : World} {r : List Value} {s : YMark} (h : SMark g w r s) : ∀ v ∈ r, v.oneCell' = true := by
  obtain ⟨A, k, c, rfl, h2, h3, _⟩ := h
  intro v hv
  rcases List.mem_append.1 hv with h | h
  · exact bv_one _ v h
  · simp at h; subst h; rfl
theorem SMark.addr {g : Nat} {w : World} {r : List Value} {s : YMark} (h : SMark g w r s) : IsAddr s.1 := by
  obtain ⟨A, k, c, _, h2, _⟩ := h
  exact h2
theorem SMark.pre {g : Nat} {w : World} {r : List Value} {s : YMark} (h : SMark g w r s) : (r.drop 0).take 20 = bv s.1 := by
  obtain ⟨A, k, c, rfl, h2, _⟩ := h
  rw [List.drop_zero, List.take_append_of_le_length (by rw [bv_len, h2.len]; omega), List.take_of_length_le (by rw [bv_len, h2.len]; omega)]
theorem SMark.key {g : Nat} {w : World} {r : List Value} {s : YMark} (h : SMark g w r s) : ∃ A k c, r[20]? = some (.slice A k c) ∧ Stab g (fun w => IsNat w A k c s.2) w ∧ s.2 < BIG := by
  obtain ⟨A, k, c, rfl, h2, h3, h4⟩ := h
  refine ⟨A, k, c, ?_, h3, h4⟩
  rw [List.getElem?_append_right (by rw [bv_len, h2.len]; omega), bv_len, h2.len]
  rfl

def SMarks (g : Nat) (w : World) (ao : Option Addr) (l c : Nat) (ms : List YMark) : Prop := ∃ rows, Stab g (fun w => Rws w 21 ao l c rows) w ∧ Each (SMark g w) rows ms
theorem SMarks.go {g : Nat} {w w' : World} {ao : Option Addr} {l c : Nat} {ms : List YMark} (h : SMarks g w ao l c ms) (hc : Chg g w w') : SMarks g w' ao l c ms := by
  obtain ⟨rows, h1, h2⟩ := h
  exact ⟨rows, h1.go hc, h2.imp fun _ _ h => h.go hc⟩
theorem SMarks.nil (g : Nat) (w : World) : SMarks g w none 0 0 [] := ⟨[], Stab.rws (Rws.ofNil w 21) (Off.nil _ _), trivial⟩

theorem rows_at' {α : Type} {sz : Nat} {R : List Value → α → Prop} {w : World} {ao : Option Addr} {l c : Nat} {rows : List (List Value)} {ds : List α} (d0 : α) (h1 : Rws w sz ao l c rows) (h2 : Each R rows ds) (hl : 0 < l) : ∃ b off, ao = some ⟨b, off, none⟩ ∧ b < w.heap.size ∧ ∀ i, i < l → ∃ r, w.rangeAt b (off + i * sz) r ∧ R r (ds.getD i d0) := by
  have hln := h2.len
  have := h1.len_eq
  obtain ⟨b, off, ha, hlt, hc⟩ := h1.at_ hl
  exact ⟨b, off, ha, hlt, fun i hi => ⟨_, hc i hi, h2.get _ i (by omega)⟩⟩

theorem sizeMark : (Sakg.prog.info? 288).map (·.size) = some 21 := by kernel_rfl
theorem infoMark : (Sakg.prog.info? 288).map (fun i => (i.zero, i.size, i.bytes)) = some (some (.agg (bv (zeros 20) ++ [nilS]).toArray), 21, 48) := by kernel_rfl
theorem placesMark : PlacesOf 288 #[(0, 20), (20, 1)] := ⟨by kernel_rfl, fun w => by kernel_rfl⟩

theorem cmp_zero (m n : Nat) : (cmpI m n == 0) = decide (m = n) := by
  unfold cmpI
  by_cases h : m = n
  · subst h; simp
  · rw [decide_eq_false h]
    split <;> rfl

set_option maxHeartbeats 4000000 in
theorem isWarmSlot_any (bw : Nat) (w : World) (ao : Option Addr) (l c : Nat) (ms : List YMark) (h : SMarks bw w ao l c ms) (h2 : w.cell? ⟨bw, 2, none⟩ = some (.slice ao l c)) (hl : l ≤ 1000000)
    (a : List Int) (ha : IsAddr a) (A : Option Addr) (k c2 m : Nat) (hn : Stab bw (fun w => IsNat w A k c2 m) w) (hm : m < BIG) :
    Calls Sakg.prog 194 #[.pointer (some ⟨bw, 0, none⟩), .agg (bv a).toArray, .slice A k c2] w fun e w' => e = .returned (.bool (decide ((a, m) ∈ ms))) ∧ Below w.heap.size w w' := by
  obtain ⟨rows, g1, g2⟩ := h
  have HL : Hid (ms.length = l) := hide (by rw [← g2.len, g1.now.len_eq])
  have H := hide (rows_at' ([], 0) g1.now g2)
  have HA := hide ha
  have HN := hide hn
  have hbw : bw < w.heap.size := World.block_lt_of_cell? w _ h2
  have hb1 : Below w.heap.size w (w.alloc (.cells (bv a).toArray 26)) := (Below.refl _ _).alloc (Nat.le_refl _) _
  have hr1 : RowT 26 (w.alloc (.cells (bv a).toArray 26)) w.heap.size (bv a) := RowT.new _ _ _
  clear g1 g2 ha hn
  go_enter Sakg.func194, Sakg.ntmps194
  go_wp2_with fail
  go_loopg [14] l (fun gk ct wr => ∃ i : Nat, i + gk = l ∧ ct = .int .i64 i ∧ (∀ x ∈ ms.take i, x ≠ (a, m)) ∧ RowT 26 wr w.heap.size (bv a) ∧ Below w.heap.size w wr)
  case atStart => exact ⟨0, by omega, rfl, (fun x hx => by simp at hx), hr1, hb1⟩
  case round =>
    obtain ⟨i, hi, rfl, hno, hra, hbe⟩ := hrel
    have HNO := hide hno
    have HRA := hide hra
    have hs0 : w.heap.size < wr.heap.size := hra.lt
    clear hno hra hr1 hb1
    by_cases hil : i < l
    · obtain ⟨b, off, rfl, hlt, hat⟩ := unhide H (by omega)
      obtain ⟨r, hrg, hrow⟩ := hat i hil
      have hts : ms.take (i + 1) = ms.take i ++ [ms.getD i ([], 0)] := by
        rw [List.take_succ_eq_append_getElem (by have := unhide HL; omega)]
        simp [List.getD, show i < ms.length by have := unhide HL; omega]
      have hmem : ms.getD i ([], 0) ∈ ms := by
        rw [List.getD_eq_getElem?_getD, List.getElem?_eq_getElem (by have := unhide HL; omega)]; simp
      obtain ⟨d, hd⟩ : ∃ d, d = ms.getD i ([], 0) := ⟨_, rfl⟩
      rw [← hd] at hrow hts hmem
      have hrl := hrow.len
      have hrg2 := range_below hrg hbe (fun _ => hlt)
      have heq := fun wx => addr_eq wx d.1 a hrow.addr (unhide HA)
      have hsz : (Sakg.prog.info? 288).map (·.size) = some r.length := by rw [hrl]; exact sizeMark
      obtain ⟨A1, k1, c1, q20, s1, s2⟩ := hrow.key
      have HQ := hide q20
      have HS1 := hide s1
      have HRG := hide hrg2
      have HROW := hide hrow
      have HTS := hide hts
      have HMEM := hide hmem
      have HSZ := hide hsz
      have HRL := hide hrl
      clear hat hrg hrg2 hrow hts hd hsz hrl q20 s1 hmem
      go_upto_region 4 with (first
        | ((with_reducible refine at_load 288 ?_); refine wpList_load_g rfl 288 (.tmp 16) rfl b _ rfl r _ (unhide HRG) Sakg.underlying288 rfl (unhide HSZ) ?_)
        | ((with_reducible refine at_store 288 ?_); refine wpList_store_whole rfl 288 (.tmp 8) (.tmp 17) rfl _ _ _ r rfl rfl (RowT.new _ _ _) (by rw [unhide HRL]; rfl) (unhide HSZ) (unhide HROW).one ?_; intro w2 hr2 hon2; have hbb := box_below hon2; have hra2 := (unhide HRA).kept hbb.1; clear hon2))
      have hbe2 : Below w.heap.size w w2 := hbe.trans (hbb.1.mono (by omega))
      have e20 : w2.cell? ⟨wr.heap.size, 20, none⟩ = some (.slice A1 k1 c1) := by rw [hr2.cell]; exact unhide HQ
      have HR2 := hide hr2
      have HRA2 := hide hra2
      have HCMP := hide (((unhide HS1).go (Chg.of hbe2)).now.cmp ((unhide HN).go (Chg.of hbe2)).now s2 hm)
      have hcz := cmp_zero d.2 m
      simp only [Act.put]
      clear hr2 hra2 HRA HRG
      go_cut [28] (fun s28 wc => s28 = .bool (decide (d = (a, m))) ∧ Quiet w2 wc)
      case first =>
        by_cases hda : d.1 = a
        · have hde : decide (d.1 = a) = true := decide_eq_true hda
          rw [hde] at heq
          have hpp : decide (d = (a, m)) = (cmpI d.2 m == 0) := by
            rw [hcz]
            apply decide_eq_decide.2
            constructor
            · intro h; rw [h]
            · intro h; exact Prod.ext hda h
          have HPP := hide hpp
          clear hpp hcz hda hde
          generalize cmpI d.2 m = cr at *
          go_wp2_with (first
            | ((with_reducible refine at_load 26 ?_); refine wpList_load_g rfl 26 (.tmp 18) rfl _ 0 rfl (bv d.1) _ (by have := (unhide HR2).range 0 20; rwa [(unhide HROW).pre] at this) Sakg.underlying26 rfl (unhide HROW).addr.size ?_)
            | ((with_reducible refine at_load 26 ?_); refine wpList_load_g rfl 26 (.tmp 4) rfl _ 0 rfl (bv a) _ (unhide HRA2).rangeAll Sakg.underlying26 rfl (unhide HA).size ?_)
            | (go_at_call 68; refine (unhide HCMP).mono ?_; rintro e w3 ⟨rfl, hq⟩))
          go_meet
          case rel => exact ⟨by rw [unhide HPP], hq⟩
        · have hde : decide (d.1 = a) = false := decide_eq_false hda
          rw [hde] at heq
          have hpp : decide (d = (a, m)) = false := decide_eq_false (fun h => hda (by rw [h]))
          have HPP := hide hpp
          clear hpp hcz hda hde
          go_wp2_with (first
            | ((with_reducible refine at_load 26 ?_); refine wpList_load_g rfl 26 (.tmp 18) rfl _ 0 rfl (bv d.1) _ (by have := (unhide HR2).range 0 20; rwa [(unhide HROW).pre] at this) Sakg.underlying26 rfl (unhide HROW).addr.size ?_)
            | ((with_reducible refine at_load 26 ?_); refine wpList_load_g rfl 26 (.tmp 4) rfl _ 0 rfl (bv a) _ (unhide HRA2).rangeAll Sakg.underlying26 rfl (unhide HA).size ?_))
          go_meet
          case rel => exact ⟨by rw [unhide HPP], ⟨0, by rw [World.drewN_zero]⟩⟩
      case rest =>
        obtain ⟨rfl, hq⟩ := hcut
        have hb3 : Below w2.heap.size w2 wc := hq.below _
        have hbe3 : Below w.heap.size w wc := hbe2.trans (hb3.mono hbe2.size)
        have hra3 := (unhide HRA2).kept hb3
        have HRA3 := hide hra3
        clear hra3 hq heq
        by_cases hdm : d = (a, m)
        · have hin : decide ((a, m) ∈ ms) = true := decide_eq_true (by rw [← hdm]; exact unhide HMEM)
          have HIN := hide hin
          rw [decide_eq_true hdm]
          clear hdm hin
          go_wp2
          go_ret
          exact ⟨by rw [unhide HIN]; rfl, hbe3⟩
        · have HDM := hide hdm
          rw [decide_eq_false hdm]
          clear hdm
          go_wp2
          go_roundg (gk - 1)
          case measure => omega
          case rel =>
            refine ⟨i + 1, by omega, by go_num, ?_, unhide HRA3, hbe3⟩
            rw [unhide HTS]
            intro y hy
            rcases List.mem_append.1 hy with h | h
            · exact unhide HNO y h
            · simp at h; subst h; exact unhide HDM
    · obtain rfl : i = l := by omega
      have hin : decide ((a, m) ∈ ms) = false := by
        refine decide_eq_false (fun h => ?_)
        have h1 := unhide HNO
        rw [List.take_of_length_le (by have := unhide HL; omega)] at h1
        exact h1 _ h rfl
      have HIN := hide hin
      clear hin
      go_wp2
      go_ret
      exact ⟨by rw [unhide HIN]; rfl, hbe⟩

end Go.Proofs.YgcsakGreat
