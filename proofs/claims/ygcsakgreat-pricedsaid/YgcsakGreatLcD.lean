/-
  law: exportOK.
-/
import Derived.Test.YgcsakGreatLcC
namespace Go.Proofs.YgcsakGreat
set_option linter.unusedVariables false
set_option linter.unusedSimpArgs false
set_option maxRecDepth 100000
open Go.RowKit

/-- a world in the form of exports -/
def FormO (os : List OAcct) : Prop := os.Pairwise (fun x y => beforeB x.addr y.addr = true) ∧ ∀ o ∈ os, RiseO o.slots ∧ (o.nonce ≠ 0 ∨ beN o.bal ≠ 0 ∨ o.code ≠ []) ∧ o.slots.length ≤ 1000000
theorem FormO.prev {os : List OAcct} (h : FormO os) {i : Nat} (hi : i + 1 < os.length) : beforeB (os.getD i zeroO).addr (os.getD (i + 1) zeroO).addr = true := by
  have h1 := List.pairwise_iff_getElem.1 h.1 i (i + 1) (by omega) hi (by omega)
  simpa [List.getD, hi, show i < os.length by omega] using h1
theorem range_pre {w : World} {b o : Nat} {r : List Value} {a : List Int} (h : w.rangeAt b o r) (hp : (r.drop 0).take 20 = bv a) : w.rangeAt b o (bv a) := by
  intro j v hv
  rw [← hp, List.drop_zero] at hv
  have h1 : r[j]? = some v := by
    rw [List.getElem?_take] at hv
    split at hv
    · exact hv
    · cases hv
  exact h j v h1
set_option maxHeartbeats 8000000 in
theorem exportOK_true (ao : Option Addr) (l c : Nat) (os : List OAcct) (w : World) (h : OAcctsR w ao l c os) (hl : l ≤ 1000000) (hr : FormO os) :
    Calls Sakg.prog 92 #[.slice ao l c] w fun e w' => e = .returned (.bool true) ∧ Below w.heap.size w w' := by
  have hlen := h.len
  obtain ⟨rows, h1, h2⟩ := h
  have HRW := hide h1
  have HEA := hide h2
  have HLEN := hide hlen
  have HR := hide hr
  have hz55 : (rowOA (zeros 20)).length = 55 := by simp [rowOA, bv_len, zeros_len]
  clear h1 h2 hlen hr
  go_enter Sakg.func92, Sakg.ntmps92
  go_wp2_with fail
  go_loopg [7] l (fun gk iv wr => ∃ i : Nat, i + gk = l ∧ iv = .int .i64 i ∧ Below w.heap.size w wr)
  case atStart => exact ⟨0, by omega, rfl, Below.refl _ _⟩
  case round =>
    obtain ⟨i, hi, rfl, hb⟩ := hrel
    by_cases hil : i < l
    · as_aux_lemma =>
      obtain ⟨b, off, rfl, hlt, hat⟩ := rows_at' zeroO (unhide HRW) (unhide HEA) (by omega)
      obtain ⟨ri, hrg, hrow⟩ := hat i hil
      have hil2 : i < os.length := by have := unhide HLEN; omega
      obtain ⟨o, ho⟩ : ∃ o, o = os.getD i zeroO := ⟨_, rfl⟩
      have hfo := (unhide HR).2 o (by rw [ho]; simp [List.getD, hil2])
      rw [← ho] at hrow
      obtain ⟨B3, j3, e3, B4, j4, e4, q20, q21, q53, q54, hia, hnn, hbal, hcode, hslots⟩ := hrow.cells
      have hpre := hrow.pre
      have hrl := hrow.len
      have hsz : (Sakg.prog.info? 43).map (·.size) = some ri.length := by rw [hrl]; exact sizeOA
      have hrg2 := range_below hrg hb (fun _ => hlt)
      have HRG := hide hrg2
      have HSZ := hide hsz
      have HRL := hide hrl
      have HON := hide hrow.one
      have HAT := hide hat
      have HO := hide ho
      clear hat hrg hrg2 hrow hsz hrl ho
      go_upto_region 4 with (first
        | ((with_reducible refine at_load 43 ?_); refine wpList_load_g (by rfl) 43 (.tmp 10) rfl b _ rfl ri _ (unhide HRG) Sakg.underlying43 rfl (unhide HSZ) ?_)
        | ((with_reducible refine at_alloc 43 ?_); refine wpList_alloc_g (by rfl) 43 rfl (rowOA (zeros 20)) 55 infoOA hz55 ?_)
        | ((with_reducible refine at_store 43 ?_); refine wpList_store_whole rfl 43 (.tmp 4) (.tmp 11) rfl _ _ _ ri rfl rfl (RowT.new _ _ _) (by rw [unhide HRL, hz55]) (unhide HSZ) (unhide HON) ?_; intro w1 hr1 hon1; have hbb1 := box_below hon1; clear hon1))
      have b1 := hbb1.1
      have bw1 : Below w.heap.size w w1 := hb.trans (b1.mono hb.size)
      have R1 := hide hr1
      have d1 : Below w1.heap.size w1 w1.drew := Quiet.below ⟨1, rfl⟩ _
      clear hbb1 hr1
      simp only [Act.put, List.setIfInBounds_toArray, List.set_cons_zero, List.set_cons_succ]
      go_cut [25] (fun s25 wc => s25 = .bool false ∧ Below w1.heap.size w1 wc)
      case first =>
        as_aux_lemma =>
        by_cases hi0 : 0 < i
        · obtain ⟨pi, hpi⟩ : ∃ pi, i = pi + 1 := ⟨i - 1, by omega⟩
          have hpI : (i : Int) - 1 = (pi : Int) := by omega
          have hwpi : IntKind.i64.wrap (pi : Int) = (pi : Int) := by rw [IntKind.wrap_i64]; omega
          have t1 : decide ((0 : Int) < (i : Int)) = true := by rw [decide_eq_true_iff]; omega
          have hpl : pi < l := by omega
          obtain ⟨rn, hrgn, hrown⟩ := unhide HAT pi hpl
          obtain ⟨sn, hsn⟩ : ∃ sn, sn = os.getD pi zeroO := ⟨_, rfl⟩
          rw [← hsn] at hrown
          have hbf : beforeB sn.addr o.addr = true := by
            rw [hsn, unhide HO, hpi]
            exact (unhide HR).prev (by have := unhide HLEN; omega)
          have hna : IsAddr sn.addr := by obtain ⟨_, _, _, _, _, _, -, h9, -⟩ := hrown; exact h9
          have hk1 : ∀ wz, Below w1.heap.size w1 wz → Src wz (some ⟨wr.heap.size, 0, none⟩) 20 20 o.addr := fun wz hz => src_of_range (by have := ((unhide R1).kept hz).range 0 20; rwa [hpre] at this) hia.byt hia.len (by unfold maxLen; omega)
          have hk2 : ∀ wz, Below w1.heap.size w1 wz → Src wz (some ⟨b, off + pi * 55, none⟩) 20 20 sn.addr := fun wz hz => src_of_range (range_pre (range_below hrgn (bw1.trans (hz.mono bw1.size)) (fun _ => hlt)) hrown.pre) hna.byt hna.len (by unfold maxLen; omega)
          have HBL := hide (below_true _ _ 20 20 20 sn.addr o.addr w1.drew (hk2 _ d1) (hk1 _ d1) (by omega) hbf)
          clear hk1 hk2 hbf hrown hrgn hsn hpi
          refine wp_region_noPanic ?_
          refine wp_region_held_drew (S := fun w' => Below w1.heap.size w1 w') (by kernel_rfl) (d1) (fun hHeld => ?_)
          refine held_takeD 0 (.int .i64 i) (some 12) (by rfl) (by rfl) (by kernel_rfl) (by kernel_rfl) (by kernel_rfl) (fun _ _ _ h => h) (.inl ⟨by rfl, fun _ _ => by rfl⟩) (hHeld) ?_
          simp only [Act.put, List.setIfInBounds_toArray, List.set_cons_zero, List.set_cons_succ]
          refine held_takeD 1 (.bool true) (some 13) (by rfl) (by rfl) (by kernel_rfl) (by kernel_rfl) (by kernel_rfl) (fun _ _ _ h => h) (.inl ⟨by rfl, fun _ _ => by go_simp⟩) (hHeld) ?_
          simp only [Act.put, List.setIfInBounds_toArray, List.set_cons_zero, List.set_cons_succ]
          refine held_takeD 2 (.bool true) (some 14) (by rfl) (by rfl) (by kernel_rfl) (by kernel_rfl) (by kernel_rfl) (fun _ _ _ h => h) (.inl ⟨by rfl, fun _ _ => by rfl⟩) (hHeld) ?_
          simp only [Act.put, List.setIfInBounds_toArray, List.set_cons_zero, List.set_cons_succ]
          refine held_takeD 3 (.slice (some ⟨b, off, none⟩) l c) (some 15) (by rfl) (by rfl) (by kernel_rfl) (by kernel_rfl) (by kernel_rfl) (fun _ _ _ h => h) (.inl ⟨by rfl, fun _ _ => by rfl⟩) (hHeld) ?_
          simp only [Act.put, List.setIfInBounds_toArray, List.set_cons_zero, List.set_cons_succ]
          refine held_takeD 4 (.int .i64 i) (some 16) (by rfl) (by rfl) (by kernel_rfl) (by kernel_rfl) (by kernel_rfl) (fun _ _ _ h => h) (.inl ⟨by rfl, fun _ _ => by rfl⟩) (hHeld) ?_
          simp only [Act.put, List.setIfInBounds_toArray, List.set_cons_zero, List.set_cons_succ]
          refine held_takeD 5 (.int .i64 pi) (some 17) (by rfl) (by rfl) (by kernel_rfl) (by kernel_rfl) (by kernel_rfl) (fun _ _ _ h => h) (.inl ⟨by rfl, fun _ _ => by go_simp⟩) (hHeld) ?_
          simp only [Act.put, List.setIfInBounds_toArray, List.set_cons_zero, List.set_cons_succ]
          refine held_takeD 6 (.pointer (some ⟨b, off + pi * 55, none⟩)) (some 18) (by rfl) (by rfl) (by kernel_rfl) (by kernel_rfl) (by kernel_rfl) (fun _ _ _ h => h) (.inl ⟨by rfl, fun _ _ => by go_simp⟩) (hHeld) ?_
          simp only [Act.put, List.setIfInBounds_toArray, List.set_cons_zero, List.set_cons_succ]
          refine held_takeD 7 (.pointer (some ⟨b, off + pi * 55, none⟩)) (some 19) (by rfl) (by rfl) (by kernel_rfl) (by kernel_rfl) (by kernel_rfl) (fun _ _ _ h => h) (.inl ⟨by rfl, fun _ _ => by go_simp⟩) (hHeld) ?_
          simp only [Act.put, List.setIfInBounds_toArray, List.set_cons_zero, List.set_cons_succ]
          refine held_takeD 8 (.slice (some ⟨b, off + pi * 55, none⟩) 20 20) (some 20) (by rfl) (by rfl) (by kernel_rfl) (by kernel_rfl) (by kernel_rfl) (fun _ _ _ h => h) (.inl ⟨by rfl, fun _ _ => by go_simp⟩) (hHeld) ?_
          simp only [Act.put, List.setIfInBounds_toArray, List.set_cons_zero, List.set_cons_succ]
          refine held_takeD 9 (.pointer (some ⟨wr.heap.size, 0, none⟩)) (some 21) (by rfl) (by rfl) (by kernel_rfl) (by kernel_rfl) (by kernel_rfl) (fun _ _ _ h => h) (.inl ⟨by rfl, fun _ _ => by go_simp⟩) (hHeld) ?_
          simp only [Act.put, List.setIfInBounds_toArray, List.set_cons_zero, List.set_cons_succ]
          refine held_takeD 10 (.slice (some ⟨wr.heap.size, 0, none⟩) 20 20) (some 22) (by rfl) (by rfl) (by kernel_rfl) (by kernel_rfl) (by kernel_rfl) (fun _ _ _ h => h) (.inl ⟨by rfl, fun _ _ => by go_simp⟩) (hHeld) ?_
          simp only [Act.put, List.setIfInBounds_toArray, List.set_cons_zero, List.set_cons_succ]
          refine held_one 11 (by kernel_rfl) (by rfl) (fun K' hK' => ?_)
          go_simp
          refine (unhide HBL).mono ?_
          rintro e w3 ⟨rfl, rfl⟩
          refine hK'.out _ _ (d1) ?_
          clear hK' K'
          refine held_takeD 12 (.bool false) (some 24) (by rfl) (by rfl) (by kernel_rfl) (by kernel_rfl) (by kernel_rfl) (fun _ _ _ h => h) (.inl ⟨by rfl, fun _ _ => by go_simp⟩) (d1) ?_
          simp only [Act.put, List.setIfInBounds_toArray, List.set_cons_zero, List.set_cons_succ]
          refine held_takeD 13 (.bool false) (some 25) (by rfl) (by rfl) (by kernel_rfl) (by kernel_rfl) (by kernel_rfl) (fun _ _ _ h => h) (.inl ⟨by rfl, fun _ _ => by go_simp⟩) (d1) ?_
          simp only [Act.put, List.setIfInBounds_toArray, List.set_cons_zero, List.set_cons_succ]
          refine wpAnyH_done (by kernel_rfl) ?_ _
          refine NoPanic.normal ?_
          go_wp2_with fail
          go_meet
          case rel => exact ⟨rfl, d1⟩
        · have t1 : decide ((0 : Int) < (i : Int)) = false := by rw [decide_eq_false_iff_not]; omega
          refine wp_region_noPanic ?_
          refine wp_region_held_drew (S := fun w' => Below w1.heap.size w1 w') (by kernel_rfl) (d1) (fun hHeld => ?_)
          refine held_takeD 0 (.int .i64 i) (some 12) (by rfl) (by rfl) (by kernel_rfl) (by kernel_rfl) (by kernel_rfl) (fun _ _ _ h => h) (.inl ⟨by rfl, fun _ _ => by rfl⟩) (hHeld) ?_
          simp only [Act.put, List.setIfInBounds_toArray, List.set_cons_zero, List.set_cons_succ]
          refine held_takeD 1 (.bool false) (some 13) (by rfl) (by rfl) (by kernel_rfl) (by kernel_rfl) (by kernel_rfl) (fun _ _ _ h => h) (.inl ⟨by rfl, fun _ _ => by go_simp⟩) (hHeld) ?_
          simp only [Act.put, List.setIfInBounds_toArray, List.set_cons_zero, List.set_cons_succ]
          refine held_takeD 2 (.bool false) (some 14) (by rfl) (by rfl) (by kernel_rfl) (by kernel_rfl) (by kernel_rfl) (fun _ _ _ h => h) (.inl ⟨by rfl, fun _ _ => by rfl⟩) (hHeld) ?_
          simp only [Act.put, List.setIfInBounds_toArray, List.set_cons_zero, List.set_cons_succ]
          refine held_takeD 3 undef (some 15) (by rfl) (by rfl) (by kernel_rfl) (by kernel_rfl) (by kernel_rfl) (fun _ _ _ h => h) (.inr ⟨by rfl, rfl⟩) (d1) ?_
          simp only [Act.put, List.setIfInBounds_toArray, List.set_cons_zero, List.set_cons_succ]
          refine held_takeD 4 undef (some 16) (by rfl) (by rfl) (by kernel_rfl) (by kernel_rfl) (by kernel_rfl) (fun _ _ _ h => h) (.inr ⟨by rfl, rfl⟩) (d1) ?_
          simp only [Act.put, List.setIfInBounds_toArray, List.set_cons_zero, List.set_cons_succ]
          refine held_takeD 5 undef (some 17) (by rfl) (by rfl) (by kernel_rfl) (by kernel_rfl) (by kernel_rfl) (fun _ _ _ h => h) (.inr ⟨by rfl, rfl⟩) (d1) ?_
          simp only [Act.put, List.setIfInBounds_toArray, List.set_cons_zero, List.set_cons_succ]
          refine held_takeD 6 undef (some 18) (by rfl) (by rfl) (by kernel_rfl) (by kernel_rfl) (by kernel_rfl) (fun _ _ _ h => h) (.inr ⟨by rfl, rfl⟩) (d1) ?_
          simp only [Act.put, List.setIfInBounds_toArray, List.set_cons_zero, List.set_cons_succ]
          refine held_takeD 7 undef (some 19) (by rfl) (by rfl) (by kernel_rfl) (by kernel_rfl) (by kernel_rfl) (fun _ _ _ h => h) (.inr ⟨by rfl, rfl⟩) (d1) ?_
          simp only [Act.put, List.setIfInBounds_toArray, List.set_cons_zero, List.set_cons_succ]
          refine held_takeD 8 undef (some 20) (by rfl) (by rfl) (by kernel_rfl) (by kernel_rfl) (by kernel_rfl) (fun _ _ _ h => h) (.inr ⟨by rfl, rfl⟩) (d1) ?_
          simp only [Act.put, List.setIfInBounds_toArray, List.set_cons_zero, List.set_cons_succ]
          refine held_takeD 9 undef (some 21) (by rfl) (by rfl) (by kernel_rfl) (by kernel_rfl) (by kernel_rfl) (fun _ _ _ h => h) (.inr ⟨by rfl, rfl⟩) (d1) ?_
          simp only [Act.put, List.setIfInBounds_toArray, List.set_cons_zero, List.set_cons_succ]
          refine held_takeD 10 undef (some 22) (by rfl) (by rfl) (by kernel_rfl) (by kernel_rfl) (by kernel_rfl) (fun _ _ _ h => h) (.inr ⟨by rfl, rfl⟩) (d1) ?_
          simp only [Act.put, List.setIfInBounds_toArray, List.set_cons_zero, List.set_cons_succ]
          refine held_takeD 11 undef (some 23) (by rfl) (by rfl) (by kernel_rfl) (by kernel_rfl) (by kernel_rfl) (fun _ _ _ h => h) (.inr ⟨by rfl, rfl⟩) (d1) ?_
          simp only [Act.put, List.setIfInBounds_toArray, List.set_cons_zero, List.set_cons_succ]
          refine held_takeD 12 undef (some 24) (by rfl) (by rfl) (by kernel_rfl) (by kernel_rfl) (by kernel_rfl) (fun _ _ _ h => h) (.inr ⟨by rfl, rfl⟩) (d1) ?_
          simp only [Act.put, List.setIfInBounds_toArray, List.set_cons_zero, List.set_cons_succ]
          refine held_takeD 13 (.bool false) (some 25) (by rfl) (by rfl) (by kernel_rfl) (by kernel_rfl) (by kernel_rfl) (fun _ _ _ h => h) (.inl ⟨by rfl, fun _ _ => by go_simp⟩) (hHeld) ?_
          simp only [Act.put, List.setIfInBounds_toArray, List.set_cons_zero, List.set_cons_succ]
          refine wpAnyH_done (by kernel_rfl) ?_ _
          refine NoPanic.normal ?_
          go_wp2_with fail
          go_meet
          case rel => exact ⟨rfl, d1⟩
      case rest =>
        as_aux_lemma =>
        obtain ⟨rfl, bc⟩ := hcut
        have bwc : Below w.heap.size w wc := bw1.trans (bc.mono bw1.size)
        have hrc := (unhide R1).kept bc
        have x20 : wc.cell? ⟨wr.heap.size, 20, none⟩ = some (.int .u64 o.nonce) := by rw [hrc.cell]; exact q20
        have hbs : Src wc (some ⟨wr.heap.size, 21, none⟩) 32 32 o.bal := src_of_range (by have := hrc.range 21 32; rwa [q21] at this) hbal.byt hbal.len max32
        have HFB := hide (fromBE_any _ 32 32 o.bal wc hbs (by omega))
        have hn := fun (wx : World) (x : Option Addr) (n c n' c' : Nat) => Lib.run_eql_slice_nil (P := Sakg.prog) wx 54 5 x n c n' c' Sakg.underlying54
        have h53 : ∀ wz, Below wc.heap.size wc wz → wz.cell? ⟨wr.heap.size, 53, none⟩ = some (.slice B3 j3 e3) := fun wz hz => by rw [(hrc.kept hz).cell]; exact q53
        have h54 : ∀ wz, Below wc.heap.size wc wz → wz.cell? ⟨wr.heap.size, 54, none⟩ = some (.slice B4 j4 e4) := fun wz hz => by rw [(hrc.kept hz).cell]; exact q54
        have hsr : ∀ wz, Below wc.heap.size wc wz → Calls Sakg.prog 181 #[.slice B4 j4 e4] wz fun e w' => e = .returned (.bool true) ∧ Below wz.heap.size wz w' := fun wz hz => slotsRise_true B4 j4 e4 o.slots wz ((hslots.kept bwc).kept hz) (by rw [← hslots.len]; exact hfo.2.2) hfo.1
        have H53 := hide h53
        have H54 := hide h54
        have HSR := hide hsr
        have hcl := hcode.len_eq
        have HCL := hide hcl
        have HFO := hide hfo.2.1
        obtain ⟨nn, hnn2⟩ : ∃ nn, nn = o.nonce := ⟨_, rfl⟩
        rw [← hnn2] at x20
        have HNN := hide hnn2
        clear hrc hbs h53 h54 hsr hcl hnn2 hcode hslots hfo
        by_cases hn0 : nn = 0
        · as_aux_lemma =>
          have t0 : ((nn : Int) == 0) = true := by rw [beq_iff_eq]; omega
          go_wp2_with fail
          refine (unhide HFB).mono ?_
          rintro e w2 ⟨A2, k2, c2, rfl, n2, N2, b2⟩
          have x53 := unhide H53 w2 b2
          have x54 := unhide H54 w2 b2
          have HSR2 := hide (unhide HSR w2 b2)
          have bw2 : Below w.heap.size w w2 := bwc.trans (b2.mono bwc.size)
          cases A2 with
          | some ad =>
            clear n2 N2
            go_wp2_with (go_at_call 181; refine (unhide HSR2).mono ?_; rintro e w5 ⟨rfl, b5⟩)
            have bw5 : Below w.heap.size w w5 := bw2.trans (b5.mono bw2.size)
            go_wp2
            go_roundg (l - 1 - i)
            case measure => omega
            case rel => exact ⟨i + 1, by omega, rfl, bw5⟩
          | none =>
            have hz : beN o.bal = 0 := by
              obtain ⟨ds, hs, -, hv, -⟩ := n2
              obtain ⟨hk0, -⟩ := hs.nil rfl
              have h3 : ds = [] := List.eq_nil_of_length_eq_zero (by rw [hs.len_eq, hk0])
              rw [h3] at hv
              exact hv.symm
            have hc : o.code ≠ [] := by
              rcases unhide HFO with h9 | h9 | h9
              · exact absurd ((unhide HNN).symm.trans hn0) h9
              · exact absurd hz h9
              · exact h9
            have hj : j3 ≠ 0 := fun h9 => hc (List.eq_nil_of_length_eq_zero (by rw [unhide HCL]; exact h9))
            have t5 : ((j3 : Int) == 0) = false := by rw [beq_eq_false_iff_ne]; omega
            clear n2 N2 hz hc
            go_wp2_with (go_at_call 181; refine (unhide HSR2).mono ?_; rintro e w5 ⟨rfl, b5⟩)
            have bw5 : Below w.heap.size w w5 := bw2.trans (b5.mono bw2.size)
            go_wp2
            go_roundg (l - 1 - i)
            case measure => omega
            case rel => exact ⟨i + 1, by omega, rfl, bw5⟩
        · as_aux_lemma =>
          have t0 : ((nn : Int) == 0) = false := by rw [beq_eq_false_iff_ne]; omega
          have x54 := unhide H54 wc (Below.refl _ _)
          go_wp2_with (go_at_call 181; refine (unhide HSR wc (Below.refl _ _)).mono ?_; rintro e w5 ⟨rfl, b5⟩)
          have bw5 : Below w.heap.size w w5 := bwc.trans (b5.mono bwc.size)
          go_wp2
          go_roundg (l - 1 - i)
          case measure => omega
          case rel => exact ⟨i + 1, by omega, rfl, bw5⟩
    · as_aux_lemma =>
      go_wp2
      go_ret
      exact ⟨rfl, hb⟩

end Go.Proofs.YgcsakGreat
