/-
  (*Chain).Begin.
-/
import Derived.Test.YgcsakBegC
namespace Go.Proofs.Ygcsak
set_option linter.unusedVariables false
set_option linter.unusedSimpArgs false
set_option maxRecDepth 100000
open Go.RowKit

set_option maxHeartbeats 64000000 in
theorem begin_any : BeginOK := by
  intro bw cs re w l ds cb gl fee A3 k3 c3 r d A1 k1 c1 A2 k2 c2 w0 hnew hl hwb hsm he h hw0 hbelow hd0 ha0 hre
  have hd := hd0.kept hbelow
  have ha := ha0.kept hbelow
  obtain ⟨ao, c, hst⟩ := hnew.stc hl hsm he
  obtain ⟨W, hW⟩ : ∃ W, W = w.alloc (.cells r.toArray 71) := ⟨_, rfl⟩
  have hb0 : Below w.heap.size w W := by rw [hW]; exact (Below.refl _ _).alloc (Nat.le_refl _) _
  have hr0 : RowT 71 W w.heap.size r := by rw [hW]; exact RowT.new _ _ _
  have hst1 : StC 130 bw cs W ao l c (ds.map acctOf) gl fee := ⟨hst.row.kept hb0, hst.accts.go (Chg.of hb0), hst.c0, hst.le, hst.bnd, hst.phase, hst.applied, hst.limit, hst.hlimit, hst.base, hst.hfee⟩
  have HV := hide (verdict_any 130 bw cs W ao l c (ds.map acctOf) gl fee hst1 r d A1 k1 c1 A2 k2 c2 h (hd.kept hb0) (ha.kept hb0))
  have hstT := hr0
  have HR0 := hide hr0.rangeAll
  have hsT : (Sakg.prog.info? 71).map (·.size) = some r.length := by rw [h.len]; exact sizeTx
  have hbs0 := (hnew.bs hl hsm hwb he).kept hb0
  have happ := hnew.applied
  generalize hvn : verdN (ds.map acctOf) gl fee d = vn at HV ⊢
  have HVN := hide hvn
  clear hr0 hvn
  go_enter Sakg.func33, Sakg.ntmps33
  go_upto_region 1 with fail
  rw [← hW]
  clear hW
  by_cases hv0 : vn = 0
  case neg =>
    have t0 : ((vn : Int) == 0) = false := by rw [beq_eq_false_iff_ne]; omega
    have t1 : ((vn : Int) != 0) = true := by rw [bne_iff_ne]; omega
    go_wp2_with (first
      | ((with_reducible refine at_load 71 ?_); refine wpList_load_g (by rfl) 71 (.tmp 3) rfl w.heap.size 0 rfl r _ (unhide HR0) Sakg.underlying71 rfl hsT ?_)
      | (go_at_call 61; refine (unhide HV).mono ?_; rintro e w2 ⟨rfl, b2⟩))
    go_ret
    exact ⟨rfl, Chg.of (hb0.trans (b2.mono hb0.size))⟩
  subst hv0
  go_upto_region 5 with (first
    | ((with_reducible refine at_load 71 ?_); refine wpList_load_g (by rfl) 71 (.tmp 3) rfl w.heap.size 0 rfl r _ (unhide HR0) Sakg.underlying71 rfl hsT ?_)
    | (go_at_call 61; refine (unhide HV).mono ?_; rintro e w2 ⟨rfl, b2⟩))
  obtain ⟨hgas, hdl, hlb⟩ := verd0 (unhide HVN)
  have bWw : Below w.heap.size w w2 := hb0.trans (b2.mono hb0.size)
  have hs2 := hbs0.kept b2
  have hbl2 := hs2.lt
  have hTl : w.heap.size < w2.heap.size := ((unhide HR0 |> fun _ => hstT.kept b2)).lt
  have hTn : w.heap.size ≠ bw := by have := hst.row.lt; omega
  have hT : ∀ wz, Chg bw w2 wz → RowT 71 wz w.heap.size r := fun wz hz => hz.row (hstT.kept b2) hTn
  have hB0 : ∀ wz, Chg bw w2 wz → Below w0.heap.size w0 wz := fun wz hz => (hbelow.trans (bWw.mono hbelow.size)).trans (hz.below w0.heap.size hw0 (by have := hbelow.size; have := bWw.size; omega))
  have hcW : ∀ wz, Chg bw w2 wz → Chg bw w wz := fun wz hz => (Chg.of bWw).trans hz
  have HT := hide hT
  have HB0 := hide hB0
  have HCW := hide hcW
  have HS2 := hide hs2
  have hfrm := h.hfrm
  have hdst := h.hdst
  have hu := Sakg.underlying63
  have huT := Sakg.underlying71
  have hszf := hfrm.size
  have hszd := hdst.size
  have hfr : ∀ wz, Chg bw w2 wz → wz.rangeAt w.heap.size 0 (bv d.frm) := fun wz hz => by have := (hT wz hz).range 0 20; rwa [h.frm] at this
  have HFR := hide hfr
  have h13 := happ
  have H13 := hide h13
  have d2 : Below w2.heap.size w2 w2.drew := Quiet.below ⟨1, rfl⟩ _
  have hacc : ∀ wz, Below w2.heap.size w2 wz → Calls Sakg.prog 62 #[.pointer (some ⟨bw, 0, none⟩), .agg (bv d.frm).toArray] wz fun e w' => ∃ r x, e = .returned (.agg r.toArray) ∧ SAcct bw w2 r x ∧ (FineA x ∧ x.nonce < 256 ^ 8) ∧ Below wz.heap.size wz w' := fun wz hz => by
    refine ((hst1.accts.go (Chg.of b2)).accountAt (Chg.of hz) (by rw [((hst1.row.kept b2).kept hz).cell]; exact hst1.c0) d.frm hfrm hst1.le).mono ?_
    rintro e w' ⟨r', he', q1, q2⟩
    exact ⟨r', _, he', q1, ⟨(fine_of hsm hwb).look _, look_nonce hsm _⟩, q2⟩
  have HACC := hide hacc
  clear hs2 hT hB0 hcW hfr h13 happ hacc hbs0 hst hst1 hstT HV HR0 hnew hd ha
  go_cut [7] (fun s7 wc => ∃ (gA : Nat) (ra : List Value) (x : YAcct), s7 = .pointer (some ⟨gA, 0, none⟩) ∧ w2.heap.size ≤ gA ∧ RowT 133 wc gA ra ∧ SAcct bw w2 ra x ∧ (FineA x ∧ x.nonce < 256 ^ 8) ∧ Below w2.heap.size w2 wc)
  case first =>
    as_aux_lemma =>
    refine wp_region_noPanic ?_
    refine wp_region_held_drew (S := fun w' => Chg bw w2 w') (by kernel_rfl) (Chg.of d2) (fun hHeld => ?_)
    refine held_takeD 0 (.pointer (some ⟨bw, 0, none⟩)) (some 27) (by rfl) (by rfl) (by kernel_rfl) (by kernel_rfl) (by kernel_rfl) (fun _ _ _ h => h) (.inl ⟨by rfl, fun _ _ => by rfl⟩) (hHeld) ?_
    simp only [Act.put, List.setIfInBounds_toArray, List.set_cons_zero, List.set_cons_succ]
    refine held_takeD 1 (.pointer (some ⟨bw, 0, none⟩)) (some 28) (by rfl) (by rfl) (by kernel_rfl) (by kernel_rfl) (by kernel_rfl) (fun _ _ _ h => h) (.inl ⟨by rfl, fun _ _ => by go_simp⟩) (hHeld) ?_
    simp only [Act.put, List.setIfInBounds_toArray, List.set_cons_zero, List.set_cons_succ]
    refine held_takeD 2 (.pointer (some ⟨bw, 0, none⟩)) (some 29) (by rfl) (by rfl) (by kernel_rfl) (by kernel_rfl) (by kernel_rfl) (fun _ _ _ h => h) (.inl ⟨by rfl, fun _ _ => by go_simp⟩) (hHeld) ?_
    simp only [Act.put, List.setIfInBounds_toArray, List.set_cons_zero, List.set_cons_succ]
    refine held_takeD 3 (.pointer (some ⟨w.heap.size, 0, none⟩)) (some 30) (by rfl) (by rfl) (by kernel_rfl) (by kernel_rfl) (by kernel_rfl) (fun _ _ _ h => h) (.inl ⟨by rfl, fun _ _ => by go_simp⟩) (hHeld) ?_
    simp only [Act.put, List.setIfInBounds_toArray, List.set_cons_zero, List.set_cons_succ]
    refine held_takeD 4 (.agg (bv d.frm).toArray) (some 31) (by rfl) (by rfl) (by kernel_rfl) (by kernel_rfl) (by kernel_rfl) (fun _ _ _ h => h) (yieldsIf_load_mid (by rfl) _ _ rfl _ _ rfl _ _ (fun wz hS => unhide HFR wz hS) hu rfl hszf) (hHeld) ?_
    simp only [Act.put, List.setIfInBounds_toArray, List.set_cons_zero, List.set_cons_succ]
    refine held_two 5 6 (by kernel_rfl) (by rfl) (by rfl) (fun K' hK' => ?_) (fun K' hK' => ?_)
    · go_simp
      refine (unhide HACC _ d2).mono ?_
      rintro e wq ⟨ra, x, rfl, hrow, hfx, bq⟩
      have dq := d2.trans (bq.mono d2.size)
      have hrl := hrow.now.len
      refine hK'.out _ _ (Chg.of dq) ?_
      clear hK' K'
      refine held_one 6 (by kernel_rfl) (by rfl) (fun K' hK' => ?_)
      refine if_alloc (some 7) rfl 133 rfl (by rfl) _ 24 infoAcct2 (by simp [bv_len, zeros_len]) (fun wA rA bA sA => ?_)
      have dA := dq.trans (bA.mono dq.size)
      refine hK'.out _ _ (Chg.of dA) ?_
      clear hK' K'
      simp only [Act.put, List.setIfInBounds_toArray, List.set_cons_zero, List.set_cons_succ]
      refine held_one 7 (by kernel_rfl) (by rfl) (fun K' hK' => ?_)
      refine if_store rfl (by rfl) 133 (.tmp 7) (.tmp 32) rfl wq.heap.size 0 133 _ ra rfl rfl rA (by rw [hrl]; simp [bv_len, zeros_len]) (by rw [hrl]; exact sizeAcct) hrow.now.one (fun wS rS oS => ?_)
      have dS : Below w2.heap.size w2 wS := dA.trans (oS.below _ (by exact dq.size))
      refine hK'.out _ _ (Chg.of dS) ?_
      clear hK' K'
      refine wpAnyH_done (by kernel_rfl) ?_ _
      refine NoPanic.normal ?_
      rw [spl_all _ _ (by rw [hrl]; simp [bv_len, zeros_len])] at rS
      go_wp2_with fail
      go_meet
      case rel => exact ⟨_, ra, x, rfl, dq.size, rS, hrow, hfx, dS⟩
    · refine if_alloc (some 7) rfl 133 rfl (by rfl) _ 24 infoAcct2 (by simp [bv_len, zeros_len]) (fun wA rA bA sA => ?_)
      have dA := d2.trans (bA.mono d2.size)
      refine hK'.out _ _ (Chg.of dA) ?_
      clear hK' K'
      simp only [Act.put, List.setIfInBounds_toArray, List.set_cons_zero, List.set_cons_succ]
      refine held_one 5 (by kernel_rfl) (by rfl) (fun K' hK' => ?_)
      go_simp
      refine (unhide HACC _ dA).mono ?_
      rintro e wq ⟨ra, x, rfl, hrow, hfx, bq⟩
      have dq := dA.trans (bq.mono dA.size)
      have hrl := hrow.now.len
      refine hK'.out _ _ (Chg.of dq) ?_
      clear hK' K'
      refine held_one 7 (by kernel_rfl) (by rfl) (fun K' hK' => ?_)
      refine if_store rfl (by rfl) 133 (.tmp 7) (.tmp 32) rfl w2.heap.size 0 133 _ ra rfl rfl (rA.kept bq) (by rw [hrl]; simp [bv_len, zeros_len]) (by rw [hrl]; exact sizeAcct) hrow.now.one (fun wS rS oS => ?_)
      have dS : Below w2.heap.size w2 wS := dq.trans (oS.below _ (by exact Nat.le_refl _))
      refine hK'.out _ _ (Chg.of dS) ?_
      clear hK' K'
      refine wpAnyH_done (by kernel_rfl) ?_ _
      refine NoPanic.normal ?_
      rw [spl_all _ _ (by rw [hrl]; simp [bv_len, zeros_len])] at rS
      go_wp2_with fail
      go_meet
      case rel => exact ⟨_, ra, x, rfl, Nat.le_refl _, rS, hrow, hfx, dS⟩
  case rest =>
    as_aux_lemma =>
    obtain ⟨w3, hw3⟩ : ∃ w3, w3 = wc := ⟨_, rfl⟩
    subst hw3
    obtain ⟨gA, ra, x, rfl, hgA, hrA, hrow, hfx, b3⟩ := hcut
    have c23 : Chg bw w2 w3 := Chg.of b3
    have hs3 := (unhide HS2).kept b3
    have hgAl := hrA.lt
    have hA : ∀ wz, Chg bw w3 wz → RowT 133 wz gA ra := fun wz hz => hz.row hrA (by omega)
    obtain ⟨B1, j1, f1, B2, j2, f2, B3, j3, f3, B4, j4, f4, q20, q21, q22, q23, s1, s2, s3, s4⟩ := hrow.cells
    have hA20 : ∀ wz, Chg bw w3 wz → wz.cell? ⟨gA, 20, none⟩ = some (.slice B1 j1 f1) := fun wz hz => by rw [(hA wz hz).cell]; exact q20
    have hA21 : ∀ wz, Chg bw w3 wz → wz.cell? ⟨gA, 21, none⟩ = some (.slice B2 j2 f2) := fun wz hz => by rw [(hA wz hz).cell]; exact q21
    have hN1 : ∀ wz, Chg bw w3 wz → IsNat wz B1 j1 f1 x.nonce := fun wz hz => (s1.go (c23.trans hz)).now
    have hN2 : ∀ wz, Chg bw w3 wz → IsNat wz B2 j2 f2 x.bal := fun wz hz => (s2.go (c23.trans hz)).now
    have HA20 := hide hA20
    have HA21 := hide hA21
    have HN1 := hide hN1
    have HN2 := hide hN2
    have HS3 := hide hs3
    have hbl3 := hs3.lt
    have hfrd : w3.rangeAt w.heap.size 20 (bv d.dst) := by have := (unhide HT w3 c23).range 20 20; rwa [h.dst] at this
    have HFRD := hide hfrd
    have hz20 : (bv (zeros 20)).length = 20 := by rw [bv_len, zeros_len]
    have hcl := hs3.len
    clear hrA hA hrow s1 s2 s3 s4 q20 q21 q22 q23 hA20 hA21 hN1 hN2 hs3 hfrd HACC HS2
    go_upto_region 7 with (first
      | ((with_reducible refine at_load 63 ?_); refine wpList_load_g (by rfl) 63 (.tmp 33) rfl w.heap.size 20 rfl (bv d.dst) _ (unhide HFRD) hu rfl hszd ?_)
      | ((with_reducible refine at_alloc 63 ?_); refine wpList_alloc_g (by rfl) 63 rfl (bv (zeros 20)) 20 infoAddr2 hz20 ?_)
      | ((with_reducible refine at_store 63 ?_); refine wpList_store_whole rfl 63 (.tmp 8) (.tmp 34) rfl _ _ _ (bv d.dst) rfl rfl (RowT.new _ _ _) (by rw [hz20, bv_len, hdst.len]) hszd (bv_one _) ?_; intro w4 hr4 hon4; have hbb4 := box_below hon4; clear hon4))
    have b34 := hbb4.1
    have hw4s := hbb4.2
    have hr4c := ((unhide HS3).kept b34).row
    have HR4C := hide hr4c
    have H4S := hide hw4s
    have HR4 := hide hr4
    have hszz : (Sakg.prog.info? 63).map (·.size) = some (bv (zeros 20)).length := by rw [hz20]; exact sizeAddr
    clear hbb4 hw4s hr4c hr4
    go_upto_region 8 with (first
      | ((with_reducible refine at_build 63 ?_); refine wpList_build_run (by rfl) 63 [] rfl (.agg (bv (zeros 20)).toArray) (run_zaddr _) ?_)
      | ((with_reducible refine at_store 63 ?_); refine wpList_store_part rfl 63 (.tmp 38) (.tmp 36) rfl bw 39 130 cs (bv (zeros 20)) rfl rfl (unhide HR4C) (by rw [hz20, hcl]; omega) hszz (bv_one _) ?_; intro w5 hr5 hon5))
    have hl5 : (spl cs 39 (bv (zeros 20))).length = 179 := by rw [spl_len _ _ _ (by rw [hz20, hcl]; omega)]; exact hcl
    have he5 : ∀ i, i < 39 ∨ 59 ≤ i → (spl cs 39 (bv (zeros 20)))[i]? = cs[i]? := fun i hi => spl_get (by rw [hz20, hcl]; omega) i (by rw [hz20]; omega)
    generalize spl cs 39 (bv (zeros 20)) = cs5 at hr5 hl5 he5
    have c35 : Chg bw w3 w5 := (Chg.of b34).trans (Chg.ofOnly hon5)
    have hx5 : ∃ v, w5.cell? ⟨bw, 9, none⟩ = some v := by rw [hr5.cell, List.getElem?_eq_getElem (by rw [hl5]; omega)]; exact ⟨_, rfl⟩
    obtain ⟨v9, hx5⟩ := hx5
    have hf5 := hr5.froz 9
    have HR5 := hide hr5
    have HE5 := hide he5
    clear hr5 he5
    go_upto_region 9 with fail
    obtain ⟨w6, hw6⟩ : ∃ x, x = w5.setCell ⟨bw, 9, none⟩ (Value.slice none 0 0) := ⟨_, rfl⟩
    rw [← hw6]
    have o6 : Only bw w5 w6 := hw6 ▸ (Only.refl bw w5).setCell 9 (Value.slice none 0 0)
    have r6 := hw6 ▸ (unhide HR5).set 9 (Value.slice none 0 0)
    have c36 : Chg bw w3 w6 := c35.trans (Chg.ofOnly o6)
    have hl6 : (cs5.set 9 (Value.slice none 0 0)).length = 179 := by rw [List.length_set]; exact hl5
    have he6 : ∀ i, (i < 39 ∧ i ≠ 9) ∨ 59 ≤ i → (cs5.set 9 (Value.slice none 0 0))[i]? = cs[i]? := fun i hi => by rw [List.getElem?_set_ne (by omega)]; exact unhide HE5 i (by omega)
    have h69 : (cs5.set 9 (Value.slice none 0 0))[9]? = some nilS := List.getElem?_set_self (by rw [hl5]; omega)
    have rt6 : RowT 63 w6 w3.heap.size (bv d.dst) := ((unhide HR4).only hon5 (by omega)).only o6 (by omega)
    generalize cs5.set 9 (Value.slice none 0 0) = cs6 at r6 hl6 he6 h69
    have e40 : w6.cell? ⟨w.heap.size, 40, none⟩ = some (.bool d.create) := by rw [(unhide HT w6 (c23.trans c36)).cell]; exact h.create
    obtain ⟨cr, hcr⟩ : ∃ cr, cr = d.create := ⟨_, rfl⟩
    rw [← hcr] at e40
    have HCR := hide hcr
    have HR6 := hide r6
    have HE6 := hide he6
    have H69 := hide h69
    have RT6 := hide rt6
    clear hw6 r6 he6 h69 rt6 hx5 hf5 hcr
    go_upto_if 43 with fail
    go_cut [8] (fun s8 wc => s8 = .pointer (some ⟨w3.heap.size, 0, none⟩) ∧ ∃ (tg : List Int) (cs' : List Value), IsAddr tg ∧ RowT 63 wc w3.heap.size (bv tg) ∧ BS bw cs' cb fee 8 0 0 wc ∧ cs'[9]? = some nilS ∧ cs'[13]? = some (.int .u8 0) ∧ Chg bw w3 wc)
    case first =>
      as_aux_lemma =>
      cases cr with
      | false =>
        go_wp2_with fail
        go_meet
        case rel => exact ⟨rfl, d.dst, cs6, hdst, unhide RT6, (unhide HS3).turn (unhide HR6) hl6 (fun i hi => unhide HE6 i (by omega)) c36, unhide H69, by rw [unhide HE6 13 (by omega)]; exact unhide H13, c36⟩
      | true =>
        have hfr6 := unhide HFR w6 (c23.trans c36)
        have e20 := unhide HA20 w6 c36
        have HFR6 := hide hfr6
        have HCA := hide (createAddr_any d.frm B1 j1 f1 x.nonce w6 hfrm (unhide HN1 w6 c36) hfx.1.1)
        clear hfr6
        go_upto_region 11 with (first
          | ((with_reducible refine at_load 63 ?_); refine wpList_load_g (by rfl) 63 (.tmp 44) rfl w.heap.size 0 rfl (bv d.frm) _ (unhide HFR6) hu rfl hszf ?_)
          | (go_at_call 63; refine (unhide HCA).mono ?_; rintro e w7 ⟨⟨tg, rfl, htg⟩, b7⟩; have RT7 := hide ((unhide RT6).kept b7))
          | ((with_reducible refine at_store 63 ?_); refine wpList_store_whole rfl 63 (.tmp 8) (.tmp 48) rfl w3.heap.size 63 (bv d.dst) (bv tg) rfl rfl (unhide RT7) (by rw [bv_len, bv_len, hdst.len, htg.len]) htg.size (bv_one _) ?_; intro w8 hr8 hon8))
        have c38 : Chg bw w3 w8 := (c36.trans (Chg.of b7)).onlyNew hon8 (Nat.le_refl _)
        have r8 := ((unhide HR6).kept b7).only hon8 (by omega)
        have HR8 := hide r8
        have HRG8 := hide hr8.rangeAll
        have hszt := htg.size
        have RT8 := hide hr8
        have hle8 : 39 + (bv tg).length ≤ cs6.length := by rw [bv_len, htg.len, hl6]; omega
        clear r8 hr8
        go_wp2_with (first
          | ((with_reducible refine at_load 63 ?_); refine wpList_load_g (by rfl) 63 (.tmp 8) rfl w3.heap.size 0 rfl (bv tg) _ (unhide HRG8) hu rfl hszt ?_)
          | ((with_reducible refine at_store 63 ?_); refine wpList_store_part rfl 63 (.tmp 52) (.tmp 50) rfl bw 39 130 cs6 (bv tg) rfl rfl (unhide HR8) hle8 hszt (bv_one _) ?_; intro w9 hr9 hon9))
        go_meet
        case rel =>
          have hbt : (bv tg).length = 20 := by rw [bv_len, htg.len]
          have g9 : ∀ i, i < 39 ∨ 59 ≤ i → (spl cs6 39 (bv tg))[i]? = cs6[i]? := fun i hi => spl_get hle8 i (by rw [hbt]; omega)
          have c39 := c38.trans (Chg.ofOnly hon9)
          exact ⟨rfl, tg, _, htg, (unhide RT8).only hon9 (by omega), (unhide HS3).turn hr9 (by rw [spl_len _ _ _ hle8]; exact hl6) (fun i hi => by rw [g9 i (by omega)]; exact unhide HE6 i (by omega)) c39, by rw [g9 9 (by omega)]; exact unhide H69, by rw [g9 13 (by omega), unhide HE6 13 (by omega)]; exact unhide H13, c39⟩
    case rest =>
      as_aux_lemma =>
      obtain ⟨w10, hw10⟩ : ∃ w10, w10 = wc := ⟨_, rfl⟩
      subst hw10
      obtain ⟨rfl, tg, cs10, htg, rt10, hs10, h109, h1013, c310⟩ := hcut
      have hszt := htg.size
      have hTg : ∀ wz, Chg bw w10 wz → RowT 63 wz w3.heap.size (bv tg) := fun wz hz => hz.row rt10 (by omega)
      have HTG := hide hTg
      have e13 := hs10.cell h1013
      have f13 := hs10.row.froz 13
      have HS10 := hide hs10
      have H109 := hide h109
      have hbl10 := hs10.lt
      clear hTg rt10 hs10 h109 h1013 HR4C HR4 HR5 HE5 HR6 HE6 H69 RT6 e40 HFRD H13 c35 c36 o6 hon5
      go_upto_region 13 with fail
      obtain ⟨w11, hw11⟩ : ∃ y, y = w10.setCell ⟨bw, 13, none⟩ (Value.int .u8 1) := ⟨_, rfl⟩
      rw [← hw11]
      have hs11 := hw11 ▸ (unhide HS10).set 13 (by omega) (by omega) (Value.int .u8 1)
      have c11 : Chg bw w10 w11 := hw11 ▸ Chg.ofOnly ((Only.refl bw w10).setCell 13 (Value.int .u8 1))
      have h119 : (cs10.set 13 (Value.int .u8 1))[9]? = some nilS := by rw [List.getElem?_set_ne (by omega)]; exact unhide H109
      generalize cs10.set 13 (Value.int .u8 1) = cs11 at hs11 h119
      have HS11 := hide hs11
      have H119 := hide h119
      have hbl11 := hs11.lt
      have e42 : w11.cell? ⟨w.heap.size, 42, none⟩ = some (.int .u64 d.gas) := by rw [(unhide HT w11 (c23.trans (c310.trans c11))).cell]; exact h.gas
      have hgas8 := h.hgas
      clear hs11 h119 hw11 e13 f13 HS10 H109
      go_upto_region 14 with (go_at_call 64; refine (num_any d.gas w11 hgas8).mono ?_; rintro e w12 ⟨A12, k12, c12, rfl, n12, N12, b12⟩; have hs12 := (unhide HS11).kept b12; obtain ⟨v14, hx14⟩ := hs12.some (i := 14) (by omega); have hf14 := hs12.row.froz 14; have HS12 := hide hs12; have NN12 := hide n12; clear hs12 n12)
      obtain ⟨w13, hw13⟩ : ∃ y, y = w12.setCell ⟨bw, 14, none⟩ (Value.slice A12 k12 c12) := ⟨_, rfl⟩
      rw [← hw13]
      have hs13 := hw13 ▸ (unhide HS12).set 14 (by omega) (by omega) (Value.slice A12 k12 c12)
      have o13 : Only bw w12 w13 := hw13 ▸ (Only.refl bw w12).setCell 14 (Value.slice A12 k12 c12)
      have c13 : Chg bw w10 w13 := c11.trans ((Chg.of b12).trans (Chg.ofOnly o13))
      have nl13 : Stab bw (fun w => IsNat w A12 k12 c12 d.gas) w13 := (Stab.nat (unhide NN12) (N12.off hbl11 _)).go (Chg.ofOnly o13)
      have h139 : (cs11.set 14 (Value.slice A12 k12 c12))[9]? = some nilS := by rw [List.getElem?_set_ne (by omega)]; exact unhide H119
      have h1314 : (cs11.set 14 (Value.slice A12 k12 c12))[14]? = some (Value.slice A12 k12 c12) := List.getElem?_set_self (by rw [(unhide HS12).len]; omega)
      generalize cs11.set 14 (Value.slice A12 k12 c12) = cs13 at hs13 h139 h1314
      have HS13 := hide hs13
      have NL13 := hide nl13
      have H139 := hide h139
      have H1314 := hide h1314
      have hbl13 := hs13.lt
      have d13 : Below w13.heap.size w13 w13.drew := Quiet.below ⟨1, rfl⟩ _
      have hsT' : (Sakg.prog.info? 71).map (·.size) = some r.length := hsT
      have c213 : Chg bw w2 w13 := c23.trans (c310.trans c13)
      have hS14 : ∀ wz, Below w13.heap.size w13 wz → RowT 71 wz w.heap.size r ∧ wz.cell? ⟨bw, 14, none⟩ = some (.slice A12 k12 c12) := fun wz hz => ⟨unhide HT wz (c213.trans (Chg.of hz)), ((unhide HS13).kept hz).cell (unhide H1314)⟩
      have HS14 := hide hS14
      clear hs13 nl13 h139 h1314 hw13 hx14 hf14 HS12 NN12 HS11 H119 e42 hS14
      as_aux_lemma =>
      refine wp_region_noPanic ?_
      refine wp_region_held_drew (S := fun w' => RowT 71 w' w.heap.size r ∧ w'.cell? ⟨bw, 14, none⟩ = some (.slice A12 k12 c12)) (by kernel_rfl) (unhide HS14 _ d13) (fun hHeld => ?_)
      refine held_takeD 0 (.pointer (some ⟨bw, 0, none⟩)) (some 66) (by rfl) (by rfl) (by kernel_rfl) (by kernel_rfl) (by kernel_rfl) (fun _ _ _ h => h) (.inl ⟨by rfl, fun _ _ => by rfl⟩) (hHeld) ?_
      simp only [Act.put, List.setIfInBounds_toArray, List.set_cons_zero, List.set_cons_succ]
      refine held_takeD 1 (.pointer (some ⟨bw, 0, none⟩)) (some 67) (by rfl) (by rfl) (by kernel_rfl) (by kernel_rfl) (by kernel_rfl) (fun _ _ _ h => h) (.inl ⟨by rfl, fun _ _ => by rfl⟩) (hHeld) ?_
      simp only [Act.put, List.setIfInBounds_toArray, List.set_cons_zero, List.set_cons_succ]
      refine held_takeD 2 (.pointer (some ⟨bw, 0, none⟩)) (some 68) (by rfl) (by rfl) (by kernel_rfl) (by kernel_rfl) (by kernel_rfl) (fun _ _ _ h => h) (.inl ⟨by rfl, fun _ _ => by go_simp⟩) (hHeld) ?_
      simp only [Act.put, List.setIfInBounds_toArray, List.set_cons_zero, List.set_cons_succ]
      refine held_takeD 3 (.pointer (some ⟨bw, 14, none⟩)) (some 69) (by rfl) (by rfl) (by kernel_rfl) (by kernel_rfl) (by kernel_rfl) (fun _ _ _ h => h) (.inl ⟨by rfl, fun _ _ => by go_simp⟩) (hHeld) ?_
      simp only [Act.put, List.setIfInBounds_toArray, List.set_cons_zero, List.set_cons_succ]
      refine held_takeD 4 (.slice A12 k12 c12) (some 70) (by rfl) (by rfl) (by kernel_rfl) (by kernel_rfl) (by kernel_rfl) (fun _ _ _ h => h) (.inl ⟨by rfl, fun wS hS => by have hc := hS.2; go_simp⟩) (hHeld) ?_
      simp only [Act.put, List.setIfInBounds_toArray, List.set_cons_zero, List.set_cons_succ]
      refine held_takeD 5 (.agg r.toArray) (some 71) (by rfl) (by rfl) (by kernel_rfl) (by kernel_rfl) (by kernel_rfl) (fun _ _ _ h => h) (yieldsIf_load_mid (by rfl) _ _ rfl _ _ rfl _ _ (fun wz hS => hS.1.rangeAll) huT rfl hsT') (hHeld) ?_
      simp only [Act.put, List.setIfInBounds_toArray, List.set_cons_zero, List.set_cons_succ]
      have b0d := unhide HB0 _ (c213.trans (Chg.of d13))
      refine held_one 6 (by kernel_rfl) (by rfl) (fun K' hK' => ?_)
      go_simp
      refine (intrinsic_any r d A1 k1 c1 A2 k2 c2 w13.drew h (hd0.kept b0d) (ha0.kept b0d) (by rw [← hd0.len_eq]; exact hdl) hlb).mono ?_
      rintro e w14 ⟨A14, k14, c14, rfl, n14, b14⟩
      refine hK'.out _ _ (unhide HS14 _ (d13.trans (b14.mono d13.size))) ?_
      clear hK' K'
      have d14 := d13.trans (b14.mono d13.size)
      refine held_one 7 (by kernel_rfl) (by rfl) (fun K' hK' => ?_)
      go_simp
      refine (less_any A12 A14 k12 k14 c12 c14 d.gas (intrN d) w14 ((unhide NL13) _ (Chg.of d14)) n14 (Nat.lt_of_lt_of_le hgas8 (big_pow 8 (by omega))) (intrN_big d hdl hlb)).mono ?_
      rintro e w15 ⟨A15, k15, c15, rfl, n15, N15, b15⟩
      refine hK'.out _ _ (unhide HS14 _ (d14.trans (b15.mono d14.size))) ?_
      clear hK' K'
      have d15 := d14.trans (b15.mono d14.size)
      refine held_takeD 8 (.pointer (some ⟨bw, 0, none⟩)) (some 74) (by rfl) (by rfl) (by kernel_rfl) (by kernel_rfl) (by kernel_rfl) (fun _ _ _ h => h) (.inl ⟨by rfl, fun _ _ => by go_simp⟩) (unhide HS14 _ d15) ?_
      simp only [Act.put, List.setIfInBounds_toArray, List.set_cons_zero, List.set_cons_succ]
      refine held_takeD 9 (.pointer (some ⟨bw, 15, none⟩)) (some 75) (by rfl) (by rfl) (by kernel_rfl) (by kernel_rfl) (by kernel_rfl) (fun _ _ _ h => h) (.inl ⟨by rfl, fun _ _ => by go_simp⟩) (unhide HS14 _ d15) ?_
      simp only [Act.put, List.setIfInBounds_toArray, List.set_cons_zero, List.set_cons_succ]
      have hs15 := (unhide HS13).kept d15
      obtain ⟨v15, hx15⟩ := hs15.some (i := 15) (by omega)
      have hf15 := hs15.row.froz 15
      refine held_one 10 (by kernel_rfl) (by rfl) (fun K' hK' => ?_)
      go_simp
      obtain ⟨w16, hw16⟩ : ∃ y, y = w15.setCell ⟨bw, 15, none⟩ (Value.slice A15 k15 c15) := ⟨_, rfl⟩
      rw [← hw16]
      have hs16 := hw16 ▸ hs15.set 15 (by omega) (by omega) (Value.slice A15 k15 c15)
      have o16 : Only bw w15 w16 := hw16 ▸ (Only.refl bw w15).setCell 15 (Value.slice A15 k15 c15)
      have c1316 : Chg bw w13 w16 := (Chg.of d15).trans (Chg.ofOnly o16)
      have h169 : (cs13.set 15 (Value.slice A15 k15 c15))[9]? = some nilS := by rw [List.getElem?_set_ne (by omega)]; exact unhide H139
      have h1614 : (cs13.set 15 (Value.slice A15 k15 c15))[14]? = some (Value.slice A12 k12 c12) := by rw [List.getElem?_set_ne (by omega)]; exact unhide H1314
      have h1615 : (cs13.set 15 (Value.slice A15 k15 c15))[15]? = some (Value.slice A15 k15 c15) := List.getElem?_set_self (by rw [hs15.len]; omega)
      generalize cs13.set 15 (Value.slice A15 k15 c15) = cs16 at hs16 h169 h1614 h1615
      refine hK'.out _ _ ⟨unhide HT w16 (c213.trans c1316), hs16.cell h1614⟩ ?_
      clear hK' K' hw16
      refine wpAnyH_done (by kernel_rfl) ?_ _
      refine NoPanic.normal ?_
      have c216 : Chg bw w2 w16 := c213.trans c1316
      have nl16 : Stab bw (fun w => IsNat w A12 k12 c12 d.gas) w16 := (unhide NL13).go c1316
      have HTX16 := hide (unhide HT w16 c216).rangeAll
      have hfee := he.hfee
      have HPR := hide (price_any bw fee r d A1 k1 c1 A2 k2 c2 w16 hs16.lt hs16.fee hfee h)
      have HS16 := hide hs16
      have H169 := hide h169
      have H1614 := hide h1614
      have H1615 := hide h1615
      have NL16 := hide nl16
      have hbl16 := hs16.lt
      clear hs16 h169 h1614 h1615 nl16 hs15 hx15 hf15 n14 n15 N15 HS13 H139 H1314 NL13 HS14
      as_aux_lemma =>
      go_upto_region 16 with (first
        | ((with_reducible refine at_load 71 ?_); refine wpList_load_g (by rfl) 71 (.tmp 3) rfl w.heap.size 0 rfl r _ (unhide HTX16) huT rfl hsT' ?_)
        | (go_at_call 67; refine (unhide HPR).mono ?_; rintro e w17 ⟨pn, hpn, A17, k17, c17, rfl, n17, N17, b17⟩; have hs17 := (unhide HS16).kept b17; obtain ⟨v17, hx17⟩ := hs17.some (i := 17) (by omega); have hf17 := hs17.row.froz 17; have HS17 := hide hs17; have NN17 := hide n17; clear hs17 n17))
      obtain ⟨w18, hw18⟩ : ∃ y, y = w17.setCell ⟨bw, 17, none⟩ (Value.slice A17 k17 c17) := ⟨_, rfl⟩
      rw [← hw18]
      have hs18 := hw18 ▸ (unhide HS17).set 17 (by omega) (by omega) (Value.slice A17 k17 c17)
      have o18 : Only bw w17 w18 := hw18 ▸ (Only.refl bw w17).setCell 17 (Value.slice A17 k17 c17)
      have c1618 : Chg bw w16 w18 := (Chg.of b17).trans (Chg.ofOnly o18)
      have np18 : Stab bw (fun w => IsNat w A17 k17 c17 pn) w18 := (Stab.nat (unhide NN17) (N17.off hbl16 _)).go (Chg.ofOnly o18)
      have h189 : (cs16.set 17 (Value.slice A17 k17 c17))[9]? = some nilS := by rw [List.getElem?_set_ne (by omega)]; exact unhide H169
      have h1814 : (cs16.set 17 (Value.slice A17 k17 c17))[14]? = some (Value.slice A12 k12 c12) := by rw [List.getElem?_set_ne (by omega)]; exact unhide H1614
      have h1815 : (cs16.set 17 (Value.slice A17 k17 c17))[15]? = some (Value.slice A15 k15 c15) := by rw [List.getElem?_set_ne (by omega)]; exact unhide H1615
      have h1817 : (cs16.set 17 (Value.slice A17 k17 c17))[17]? = some (Value.slice A17 k17 c17) := List.getElem?_set_self (by rw [(unhide HS17).len]; omega)
      generalize cs16.set 17 (Value.slice A17 k17 c17) = cs18 at hs18 h189 h1814 h1815 h1817
      have HFR18 := hide (unhide HFR w18 (c216.trans c1618))
      have HR18 := hide hs18.row
      have hle18 : 19 + (bv d.frm).length ≤ cs18.length := by rw [bv_len, hfrm.len, hs18.len]; omega
      have HS18 := hide hs18
      have H189 := hide h189
      have H1814 := hide h1814
      have H1815 := hide h1815
      have H1817 := hide h1817
      have NP18 := hide np18
      clear hs18 h189 h1814 h1815 h1817 np18 hx17 hf17 HS17 NN17 HS16 H169 H1614 H1615 HPR HTX16 hw18
      go_upto_region 17 with (first
        | ((with_reducible refine at_load 63 ?_); refine wpList_load_g (by rfl) 63 (.tmp 83) rfl w.heap.size 0 rfl (bv d.frm) _ (unhide HFR18) hu rfl hszf ?_)
        | ((with_reducible refine at_store 63 ?_); refine wpList_store_part rfl 63 (.tmp 86) (.tmp 84) rfl bw 19 130 cs18 (bv d.frm) rfl rfl (unhide HR18) hle18 hszf (bv_one _) ?_; intro w19 hr19 ho19))
      have hs19 := (unhide HS18).spl 19 (by omega) (by rw [bv_len, hfrm.len]; omega) hr19 ho19
      have g19 : ∀ i, i < 19 → (spl cs18 19 (bv d.frm))[i]? = cs18[i]? := fun i hi => spl_get hle18 i (.inl hi)
      have c1619 : Chg bw w16 w19 := c1618.trans (Chg.ofOnly ho19)
      have h199 : (spl cs18 19 (bv d.frm))[9]? = some nilS := by rw [g19 9 (by omega)]; exact unhide H189
      have h1914 : (spl cs18 19 (bv d.frm))[14]? = some (Value.slice A12 k12 c12) := by rw [g19 14 (by omega)]; exact unhide H1814
      have h1915 : (spl cs18 19 (bv d.frm))[15]? = some (Value.slice A15 k15 c15) := by rw [g19 15 (by omega)]; exact unhide H1815
      have h1917 : (spl cs18 19 (bv d.frm))[17]? = some (Value.slice A17 k17 c17) := by rw [g19 17 (by omega)]; exact unhide H1817
      generalize spl cs18 19 (bv d.frm) = cs19 at hs19 h199 h1914 h1915 h1917 hr19 g19
      obtain ⟨v8, hx19⟩ := hs19.some (i := 8) (by omega)
      have hf19 := hs19.row.froz 8
      have HS19 := hide hs19
      have H199 := hide h199
      have H1914 := hide h1914
      have H1915 := hide h1915
      have H1917 := hide h1917
      clear hs19 h199 h1914 h1915 h1917 hr19 g19 HR18 HS18 H189 H1814 H1815 H1817 HFR18
      as_aux_lemma =>
      go_upto_region 18 with fail
      obtain ⟨w20, hw20⟩ : ∃ y, y = w19.setCell ⟨bw, 8, none⟩ (Value.slice none 0 0) := ⟨_, rfl⟩
      rw [← hw20]
      have hs20 := hw20 ▸ (unhide HS19).set 8 (by omega) (by omega) (Value.slice none 0 0)
      have c1620 : Chg bw w16 w20 := c1619.trans (hw20 ▸ Chg.ofOnly ((Only.refl bw w19).setCell 8 (Value.slice none 0 0)))
      have c1820 : Chg bw w18 w20 := (Chg.ofOnly ho19).trans (hw20 ▸ Chg.ofOnly ((Only.refl bw w19).setCell 8 (Value.slice none 0 0)))
      have g20 : ∀ i, i ≠ 8 → (cs19.set 8 (Value.slice none 0 0))[i]? = cs19[i]? := fun i hi => List.getElem?_set_ne (by omega)
      have h208 : (cs19.set 8 (Value.slice none 0 0))[8]? = some nilS := List.getElem?_set_self (by rw [(unhide HS19).len]; omega)
      have h209 : (cs19.set 8 (Value.slice none 0 0))[9]? = some nilS := by rw [g20 9 (by omega)]; exact unhide H199
      have h2014 : (cs19.set 8 (Value.slice none 0 0))[14]? = some (Value.slice A12 k12 c12) := by rw [g20 14 (by omega)]; exact unhide H1914
      have h2015 : (cs19.set 8 (Value.slice none 0 0))[15]? = some (Value.slice A15 k15 c15) := by rw [g20 15 (by omega)]; exact unhide H1915
      have h2017 : (cs19.set 8 (Value.slice none 0 0))[17]? = some (Value.slice A17 k17 c17) := by rw [g20 17 (by omega)]; exact unhide H1917
      generalize cs19.set 8 (Value.slice none 0 0) = cs20 at hs20 h208 h209 h2014 h2015 h2017 g20
      have c220 : Chg bw w2 w20 := c216.trans c1620
      have c1020 : Chg bw w10 w20 := c13.trans (c1316.trans c1620)
      have c320 : Chg bw w3 w20 := c310.trans c1020
      have NL20 := hide ((unhide NL16).go c1620)
      have NP20 := hide ((unhide NP18).go c1820)
      obtain ⟨ao, l0, c0, ds0, h0, ⟨rows, hrw, heach⟩, hl0, hfine⟩ := hs20.accts
      have e00 := hs20.cell h0
      have hlen20 := hs20.len
      have hset8 : cs20.set 8 nilS = cs20 := set_same h208
      have HR20 := hide hs20.row
      have HS20 := hide hs20
      have H208 := hide h208
      have H209 := hide h209
      have H2014 := hide h2014
      have H2015 := hide h2015
      have H2017 := hide h2017
      have HRW := hide hrw
      have HEACH := hide heach
      have HSET8 := hide hset8
      have hbl20 := hs20.lt
      have hZ24 : (bv (zeros 20) ++ [nilS, nilS, nilS, nilS]).length = 24 := by simp [bv_len, zeros_len]
      have hZ22 : (bv (zeros 20) ++ [nilS, nilS]).length = 22 := by simp [bv_len, zeros_len]
      clear hs20 h208 h209 h2014 h2015 h2017 h0 hrw heach hset8 g20 hw20 hx19 hf19 HS19 H199 H1914 H1915 H1917 NP18 NL16
      go_wp2_with fail
      go_loopg [96] l0 (fun gk iv wr => ∃ (i n : Nat) (v : Value) (os : List (List Value)), i + gk = l0 ∧ iv = .int .i64 i ∧ RowT 130 wr bw (cs20.set 8 v) ∧ wr.ownsRow w20.heap.size 142 22 v n os.flatten ∧ n ≤ i * 100000 ∧ Chg bw w20 wr)
      case atStart => exact ⟨0, 0, nilS, [], by omega, rfl, by rw [unhide HSET8]; exact unhide HR20, World.ownsRow_nil _ _ _ _, by omega, Chg.refl _ _⟩
      case round =>
        obtain ⟨wo, hwo⟩ : ∃ wo, wo = wr := ⟨_, rfl⟩
        subst hwo
        obtain ⟨i, n, v, os, hi, rfl, hr, hown, hn, hch⟩ := hrel
        have HR := hide hr
        have HOWN := hide hown
        clear hr hown
        by_cases hil : i < l0
        · as_aux_lemma =>
          obtain ⟨b, off, rfl, hlt, hat⟩ := rows_at' (zeroAcct []) ((unhide HRW).go hch).now (unhide HEACH) (by omega)
          obtain ⟨ri, hrg, hrow⟩ := hat i hil
          obtain ⟨o, ho⟩ : ∃ o, o = ds0.getD i (zeroAcct []) := ⟨_, rfl⟩
          have hfo : FineA o := by rw [ho]; exact hfine.getD i
          rw [← ho] at hrow
          have hrl := hrow.now.len
          have hsz : (Sakg.prog.info? 133).map (·.size) = some ri.length := by rw [hrl]; exact sizeAcct
          have HRG := hide hrg
          have HROW := hide hrow
          have HSZ := hide hsz
          have HRL := hide hrl
          clear hat hrg hrow hsz hrl ho
          go_upto_region 21 with (first
            | ((with_reducible refine at_load 133 ?_); refine wpList_load_g (by rfl) 133 (.tmp 98) rfl b _ rfl ri _ (unhide HRG) Sakg.underlying133 rfl (unhide HSZ) ?_)
            | ((with_reducible refine at_alloc 133 ?_); refine wpList_alloc_g (by rfl) 133 rfl (bv (zeros 20) ++ [nilS, nilS, nilS, nilS]) 24 infoAcct2 hZ24 ?_)
            | ((with_reducible refine at_store 133 ?_); refine wpList_store_whole rfl 133 (.tmp 10) (.tmp 99) rfl _ _ _ ri rfl rfl (RowT.new _ _ _) (by rw [unhide HRL, hZ24]) (unhide HSZ) (unhide HROW).now.one ?_; intro w21 hr21 hon21; have hbb21 := box_below hon21; clear hon21))
          obtain ⟨D1, m1, g1, D2, m2, g2, D3, m3, g3, D4, m4, g4, q20, q21, q22, q23, s1, s2, s3, s4⟩ := (unhide HROW).cells
          have hia := (unhide HROW).now.addr
          have hszo := hia.size
          have hpre := (unhide HROW).now.pre
          have b21 := hbb21.1
          have hw21s := hbb21.2
          have hch21 : Chg bw w20 w21 := hch.trans (Chg.of b21)
          have e23 : w21.cell? ⟨wo.heap.size, 23, none⟩ = some (.slice D4 m4 g4) := by rw [hr21.cell]; exact q23
          obtain ⟨srows, sg1, sg2⟩ := s4
          have hm4 : m4 ≤ 100000 := by rw [← sg1.now.len_eq, sg2.len]; exact hfo.2.2.2.1
          have SG1 := hide sg1
          have SG2 := hide sg2
          have R21 := hide hr21
          have HPRE := hide hpre
          have RC21 : Hid (RowT 130 w21 bw (cs20.set 8 v)) := hide ((unhide HR).kept b21)
          have OW21 : Hid (w21.ownsRow w20.heap.size 142 22 v n os.flatten) := hide (own_kept (unhide HOWN) b21)
          have hvb0 : ∀ k, v.ownBlock = some k → k ≠ wo.heap.size := fun k hk => by have := ((unhide HOWN).lt k hk).2; omega
          have HVB0 := hide hvb0
          have H21S := hide hw21s
          have hchs := hch.size
          clear hr21 hbb21 sg1 sg2 s1 s2 s3 q20 q21 q22 q23 hpre hvb0 hw21s HRG HROW HSZ HRL HR HOWN
          go_wp2_with fail
          go_loopg [103] m4 (fun gk jv wr => ∃ (j n' : Nat) (u : Value) (os' : List (List Value)), j + gk = m4 ∧ jv = .int .i64 j ∧ RowT 130 wr bw (cs20.set 8 u) ∧ wr.ownsRow w20.heap.size 142 22 u n' os'.flatten ∧ n' ≤ i * 100000 + j ∧ Chg bw w20 wr ∧ RowT 133 wr wo.heap.size ri ∧ (∀ k, u.ownBlock = some k → k ≠ wo.heap.size))
          case atStart => exact ⟨0, n, v, os, by omega, rfl, unhide RC21, unhide OW21, Nat.le_add_right_of_le hn, hch21, unhide R21, unhide HVB0⟩
          case round =>
            obtain ⟨j, n', u, os', hj, rfl, hrc, hou, hn', hchr, hrB, hub⟩ := hrel
            by_cases hjl : j < m4
            · as_aux_lemma =>
              obtain ⟨bs, offs, rfl, hlts, hats⟩ := rows_at' ((0, 0) : Nat × Nat) ((unhide SG1).go hchr).now (unhide SG2) (by omega)
              obtain ⟨rs, hrgs, hrs⟩ := hats j hjl
              obtain ⟨Ak, kk, ck, Av, kv, cv, rfl, -, -⟩ := hrs
              have hss : (Sakg.prog.info? 140).map (·.size) = some [Value.slice Ak kk ck, .slice Av kv cv].length := sizeSlot
              have hones := row2_one Ak Av kk ck kv cv
              have HRG3 := hide hrgs
              have RCr := hide hrc
              have HOU := hide hou
              have RB := hide hrB
              clear hats hrgs hrc hou hrB
              go_upto_region 24 with (first
                | ((with_reducible refine at_load 140 ?_); refine wpList_load_g (by rfl) 140 (.tmp 105) rfl bs _ rfl [Value.slice Ak kk ck, .slice Av kv cv] _ (unhide HRG3) Sakg.underlying140 rfl hss ?_)
                | ((with_reducible refine at_alloc 140 ?_); refine wpList_alloc_g (by rfl) 140 rfl [nilS, nilS] 2 infoSlot2c rfl ?_)
                | ((with_reducible refine at_store 140 ?_); refine wpList_store_whole rfl 140 (.tmp 12) (.tmp 106) rfl _ _ _ [Value.slice Ak kk ck, .slice Av kv cv] rfl rfl (RowT.new _ _ _) rfl hss hones ?_; intro wq hrq honq; have hbbq := box_below honq; clear honq))
              simp only [Act.put, List.setIfInBounds_toArray, List.set_cons_zero, List.set_cons_succ]
              have hbq := hbbq.1
              have HWQS := hide hbbq.2
              have hul : ∀ k, u.ownBlock = some k → w20.heap.size ≤ k ∧ k < wr.heap.size := fun k hk => (unhide HOU).lt k hk
              have hrBq := (unhide RB).kept hbq
              have hrBl := hrBq.lt
              have hBne : ¬ G2 bw u wo.heap.size := fun hg => by rcases hg with h | h; (omega); (exact hub _ h rfl)
              have hCne : ¬ G2 bw u wr.heap.size := fun hg => by rcases hg with h | h; (have := hchr.size; omega); (have := (hul _ h).2; omega)
              have hBC : ∀ wz, ChgS (G2 bw u) wq wz → RowT 133 wz wo.heap.size ri ∧ RowT 140 wz wr.heap.size [Value.slice Ak kk ck, .slice Av kv cv] := fun wz hz => by
                constructor
                · unfold RowT; rw [hz.block _ hrBl hBne]; exact hrBq
                · unfold RowT; rw [hz.block _ hrq.lt hCne]; exact hrq
              have HBC := hide hBC
              have CBq : Hid (RowT 130 wq bw (cs20.set 8 u)) := hide ((unhide RCr).kept hbq)
              have OWq : Hid (wq.ownsRow w20.heap.size 142 22 u n' os'.flatten) := hide (own_kept (unhide HOU) hbq)
              have RBq : Hid (RowT 133 wq wo.heap.size ri) := hide hrBq
              have hu8 : (cs20.set 8 u)[8]? = some u := List.getElem?_set_self (by rw [hlen20]; omega)
              have HU8 := hide hu8
              have c20q : Chg bw w20 wq := hchr.trans (Chg.of hbq)
              have dq : Below wq.heap.size wq wq.drew := Quiet.below ⟨1, rfl⟩ _
              have hblq : bw < wq.heap.size := by have := c20q.size; omega
              have h20q := c20q.size
              have hxl : (bv o.addr ++ [Value.slice Ak kk ck, .slice Av kv cv]).length = 22 := by simp [bv_len, hia.len]
              have hxo := orig_one o.addr Ak Av kk ck kv cv
              have hn900 : n' + 1 ≤ 900001 := by
                have h1 : i * 100000 ≤ 7 * 100000 := Nat.mul_le_mul_right _ (by omega)
                omega
              clear hbbq hrq hrBq hBC hu8
              as_aux_lemma =>
              refine wp_region_noPanic ?_
              refine wp_region_held_drew (S := fun w' => ChgS (G2 bw u) wq w') (by kernel_rfl) (ChgS.of dq) (fun hHeld => ?_)
              refine held_takeD 0 (.pointer (some ⟨bw, 0, none⟩)) (some 107) (by rfl) (by rfl) (by kernel_rfl) (by kernel_rfl) (by kernel_rfl) (fun _ _ _ h => h) (.inl ⟨by rfl, fun _ _ => by rfl⟩) (hHeld) ?_
              simp only [Act.put, List.setIfInBounds_toArray, List.set_cons_zero, List.set_cons_succ]
              refine held_takeD 1 (.pointer (some ⟨bw, 0, none⟩)) (some 108) (by rfl) (by rfl) (by kernel_rfl) (by kernel_rfl) (by kernel_rfl) (fun _ _ _ h => h) (.inl ⟨by rfl, fun _ _ => by rfl⟩) (hHeld) ?_
              simp only [Act.put, List.setIfInBounds_toArray, List.set_cons_zero, List.set_cons_succ]
              refine held_takeD 2 (.pointer (some ⟨bw, 0, none⟩)) (some 109) (by rfl) (by rfl) (by kernel_rfl) (by kernel_rfl) (by kernel_rfl) (fun _ _ _ h => h) (.inl ⟨by rfl, fun _ _ => by go_simp⟩) (hHeld) ?_
              simp only [Act.put, List.setIfInBounds_toArray, List.set_cons_zero, List.set_cons_succ]
              refine held_takeD 3 (.pointer (some ⟨bw, 8, none⟩)) (some 110) (by rfl) (by rfl) (by kernel_rfl) (by kernel_rfl) (by kernel_rfl) (fun _ _ _ h => h) (.inl ⟨by rfl, fun _ _ => by go_simp⟩) (hHeld) ?_
              simp only [Act.put, List.setIfInBounds_toArray, List.set_cons_zero, List.set_cons_succ]
              refine held_takeD 5 (.pointer (some ⟨wo.heap.size, 0, none⟩)) (some 112) (by rfl) (by rfl) (by kernel_rfl) (by kernel_rfl) (by kernel_rfl) (fun _ _ _ h => h) (.inl ⟨by rfl, fun _ _ => by go_simp⟩) (hHeld) ?_
              simp only [Act.put, List.setIfInBounds_toArray, List.set_cons_zero, List.set_cons_succ]
              refine held_takeD 6 (.agg (bv o.addr).toArray) (some 113) (by rfl) (by rfl) (by kernel_rfl) (by kernel_rfl) (by kernel_rfl) (fun _ _ _ h => h) (yieldsIf_load_mid (by rfl) _ _ rfl _ _ rfl _ _ (fun wz hS => (by have := (unhide HBC wz hS).1.range 0 20; rwa [unhide HPRE] at this)) hu rfl hszo) (hHeld) ?_
              simp only [Act.put, List.setIfInBounds_toArray, List.set_cons_zero, List.set_cons_succ]
              refine held_takeD 7 (.pointer (some ⟨wr.heap.size, 0, none⟩)) (some 114) (by rfl) (by rfl) (by kernel_rfl) (by kernel_rfl) (by kernel_rfl) (fun _ _ _ h => h) (.inl ⟨by rfl, fun _ _ => by go_simp⟩) (hHeld) ?_
              simp only [Act.put, List.setIfInBounds_toArray, List.set_cons_zero, List.set_cons_succ]
              refine held_takeD 8 (.slice Ak kk ck) (some 115) (by rfl) (by rfl) (by kernel_rfl) (by kernel_rfl) (by kernel_rfl) (fun _ _ _ h => h) (.inl ⟨by rfl, fun wS hS => by have hc : wS.cell? ⟨wr.heap.size, 0, none⟩ = some (.slice Ak kk ck) := by { rw [(unhide HBC wS hS).2.cell]; rfl }; go_simp⟩) (hHeld) ?_
              simp only [Act.put, List.setIfInBounds_toArray, List.set_cons_zero, List.set_cons_succ]
              refine held_takeD 9 (.pointer (some ⟨wr.heap.size, 1, none⟩)) (some 116) (by rfl) (by rfl) (by kernel_rfl) (by kernel_rfl) (by kernel_rfl) (fun _ _ _ h => h) (.inl ⟨by rfl, fun _ _ => by go_simp⟩) (hHeld) ?_
              simp only [Act.put, List.setIfInBounds_toArray, List.set_cons_zero, List.set_cons_succ]
              refine held_takeD 10 (.slice Av kv cv) (some 117) (by rfl) (by rfl) (by kernel_rfl) (by kernel_rfl) (by kernel_rfl) (fun _ _ _ h => h) (.inl ⟨by rfl, fun wS hS => by have hc : wS.cell? ⟨wr.heap.size, 1, none⟩ = some (.slice Av kv cv) := by { rw [(unhide HBC wS hS).2.cell]; rfl }; go_simp⟩) (hHeld) ?_
              simp only [Act.put, List.setIfInBounds_toArray, List.set_cons_zero, List.set_cons_succ]
              refine held_takeD 11 (.agg (bv o.addr ++ [Value.slice Ak kk ck, .slice Av kv cv]).toArray) (some 118) (by rfl) (by rfl) (by kernel_rfl) (by kernel_rfl) (by kernel_rfl) (fun _ _ _ h => h) (yieldsIf_build (by rfl) 142 [(0, .tmp 113), (1, .tmp 115), (2, .tmp 117)] rfl _ (fun wx => run_orig wx o.addr hia Ak Av kk ck kv cv)) hHeld ?_
              simp only [Act.put, List.setIfInBounds_toArray, List.set_cons_zero, List.set_cons_succ]
              refine held_two 4 12 (by kernel_rfl) (by rfl) (by rfl) (fun K' hK' => ?_) (fun K' hK' => ?_)
              · have hcu : wq.drew.cell? ⟨bw, 8, none⟩ = some u := by { rw [((unhide CBq).kept dq).cell]; exact unhide HU8 }
                go_simp
                refine hK'.out _ _ (ChgS.of dq) ?_
                clear hK' K'
                refine held_one 12 (by kernel_rfl) (by rfl) (fun K' hK' => ?_)
                refine if_build_one (some 119) rfl (by rfl) 125 (.tmp 118) rfl 142 22 72 Sakg.underlying125 _ infoOrig hZ22 (by omega) (by omega) (bv o.addr ++ [Value.slice Ak kk ck, .slice Av kv cv]) rfl hxl (fun wn rn bn sn => ?_)
                have dn := dq.trans (bn.mono dq.size)
                refine hK'.out _ _ (ChgS.of dn) ?_
                clear hK' K'
                simp only [Act.put, List.setIfInBounds_toArray, List.set_cons_zero, List.set_cons_succ]
                refine held_one 13 (by kernel_rfl) (by rfl) (fun K' hK' => ?_)
                refine if_append_at (some 120) rfl (by rfl) (.tmp 111) (.tmp 119) 125 rfl 142 22 72 Sakg.underlying125 _ infoOrig hZ22 (by omega) w20.heap.size u n' os' rfl (own_kept (unhide OWq) dn) _ 142 (bv o.addr ++ [Value.slice Ak kk ck, .slice Av kv cv]) rfl rn hxl hxo (by omega) (by omega) (by have := dn.size; omega) (fun vp wp op grp bkp => ?_)
                have dp : ChgS (G2 bw u) wq wp := (ChgS.of (G := G2 bw u) dn).then (ChgS.grown (G := G2 bw u) grp (fun k hk => .inr hk)) (fun _ h _ => h)
                obtain ⟨Ap, cp, rfl⟩ := own_slice op
                refine hK'.out _ _ (dp) ?_
                clear hK' K'
                simp only [Act.put, List.setIfInBounds_toArray, List.set_cons_zero, List.set_cons_succ]
                refine held_takeD 14 (.pointer (some ⟨bw, 0, none⟩)) (some 121) (by rfl) (by rfl) (by kernel_rfl) (by kernel_rfl) (by kernel_rfl) (fun _ _ _ h => h) (.inl ⟨by rfl, fun _ _ => by go_simp⟩) (dp) ?_
                simp only [Act.put, List.setIfInBounds_toArray, List.set_cons_zero, List.set_cons_succ]
                refine held_takeD 15 (.pointer (some ⟨bw, 8, none⟩)) (some 122) (by rfl) (by rfl) (by kernel_rfl) (by kernel_rfl) (by kernel_rfl) (fun _ _ _ h => h) (.inl ⟨by rfl, fun _ _ => by go_simp⟩) (dp) ?_
                simp only [Act.put, List.setIfInBounds_toArray, List.set_cons_zero, List.set_cons_succ]
                refine held_one 16 (by kernel_rfl) (by rfl) (fun K' hK' => ?_)
                have hXp : RowT 130 wp bw (cs20.set 8 u) := by { unfold RowT; rw [grp.block bw (by have := dn.size; omega) (fun h => by have := (hul _ h.symm).1; omega)]; exact (unhide CBq).kept dn }
                have hcx : wp.cell? ⟨bw, 8, none⟩ = some u := by { rw [hXp.cell]; exact unhide HU8 }
                have hfx2 := hXp.froz 8
                go_simp
                obtain ⟨wS, hwS⟩ : ∃ y, y = wp.setCell ⟨bw, 8, none⟩ (Value.slice Ap (n' + 1) cp) := ⟨_, rfl⟩
                rw [← hwS]
                have oS : Only bw wp wS := hwS ▸ (Only.refl bw wp).setCell 8 (Value.slice Ap (n' + 1) cp)
                have rS := hwS ▸ hXp.set 8 (Value.slice Ap (n' + 1) cp)
                have dS : ChgS (G2 bw u) wq wS := dp.then (ChgS.only (G := G2 bw u) oS (.inl rfl)) (fun _ h _ => h)
                clear hwS
                refine hK'.out _ _ (dS) ?_
                clear hK' K'
                refine wpAnyH_done (by kernel_rfl) ?_ _
                refine NoPanic.normal ?_
                rw [List.set_set] at rS
                have zn := bn.size
                have zd : wq.drew.heap.size = wq.heap.size := rfl
                have hne : ∀ k, (Value.slice Ap (n' + 1) cp).ownBlock = some k → k ≠ bw := fun k hk h0 => by { subst h0; rcases bkp with h | h; (rw [h] at hk; have := (hul _ hk).1; omega); (rw [h] at hk; have := Option.some.inj hk; omega) }
                have hneB : ∀ k, (Value.slice Ap (n' + 1) cp).ownBlock = some k → k ≠ wo.heap.size := fun k hk h0 => by { subst h0; rcases bkp with h | h; (rw [h] at hk; exact hub _ hk rfl); (rw [h] at hk; have := Option.some.inj hk; omega) }
                have own2 := op.kept (row := some bw) ⟨oS.os, oS.tape, oS.output, Nat.le_of_eq oS.size.symm, fun k hk hn => oS.block k (fun e => hn (by rw [e]))⟩ (.inr (fun h => hne bw h rfl))
                have c20S : Chg bw w20 wS := ⟨dS.os.trans c20q.os, dS.tape.trans c20q.tape, dS.output.trans c20q.output, Nat.le_trans h20q dS.size, fun k hk hn => (dS.block k (by omega) (fun hg => by rcases hg with h | h; (exact hn h); (have := (hul _ h).1; omega))).trans (c20q.block k hk hn)⟩
                have rBS := (unhide HBC wS dS).1
                have RS := hide rS
                have OW2 := hide own2
                have RBS := hide rBS
                clear rS own2 rBS op rn hXp hcx hfx2
                go_wp2
                go_roundg (m4 - 1 - j)
                case measure => omega
                case rel => exact ⟨j + 1, n' + 1, Value.slice Ap (n' + 1) cp, os' ++ [(bv o.addr ++ [Value.slice Ak kk ck, .slice Av kv cv])], by omega, rfl, unhide RS, unhide OW2, by omega, c20S, unhide RBS, hneB⟩
              · refine if_build_one (some 119) rfl (by rfl) 125 (.tmp 118) rfl 142 22 72 Sakg.underlying125 _ infoOrig hZ22 (by omega) (by omega) (bv o.addr ++ [Value.slice Ak kk ck, .slice Av kv cv]) rfl hxl (fun wn rn bn sn => ?_)
                have dn := dq.trans (bn.mono dq.size)
                refine hK'.out _ _ (ChgS.of dn) ?_
                clear hK' K'
                simp only [Act.put, List.setIfInBounds_toArray, List.set_cons_zero, List.set_cons_succ]
                refine held_one 4 (by kernel_rfl) (by rfl) (fun K' hK' => ?_)
                have hcu : wn.cell? ⟨bw, 8, none⟩ = some u := by { rw [((unhide CBq).kept dn).cell]; exact unhide HU8 }
                go_simp
                refine hK'.out _ _ (ChgS.of dn) ?_
                clear hK' K'
                refine held_one 13 (by kernel_rfl) (by rfl) (fun K' hK' => ?_)
                refine if_append_at (some 120) rfl (by rfl) (.tmp 111) (.tmp 119) 125 rfl 142 22 72 Sakg.underlying125 _ infoOrig hZ22 (by omega) w20.heap.size u n' os' rfl (own_kept (unhide OWq) dn) _ 142 (bv o.addr ++ [Value.slice Ak kk ck, .slice Av kv cv]) rfl rn hxl hxo (by omega) (by omega) (by have := dn.size; omega) (fun vp wp op grp bkp => ?_)
                have dp : ChgS (G2 bw u) wq wp := (ChgS.of (G := G2 bw u) dn).then (ChgS.grown (G := G2 bw u) grp (fun k hk => .inr hk)) (fun _ h _ => h)
                obtain ⟨Ap, cp, rfl⟩ := own_slice op
                refine hK'.out _ _ (dp) ?_
                clear hK' K'
                simp only [Act.put, List.setIfInBounds_toArray, List.set_cons_zero, List.set_cons_succ]
                refine held_takeD 14 (.pointer (some ⟨bw, 0, none⟩)) (some 121) (by rfl) (by rfl) (by kernel_rfl) (by kernel_rfl) (by kernel_rfl) (fun _ _ _ h => h) (.inl ⟨by rfl, fun _ _ => by go_simp⟩) (dp) ?_
                simp only [Act.put, List.setIfInBounds_toArray, List.set_cons_zero, List.set_cons_succ]
                refine held_takeD 15 (.pointer (some ⟨bw, 8, none⟩)) (some 122) (by rfl) (by rfl) (by kernel_rfl) (by kernel_rfl) (by kernel_rfl) (fun _ _ _ h => h) (.inl ⟨by rfl, fun _ _ => by go_simp⟩) (dp) ?_
                simp only [Act.put, List.setIfInBounds_toArray, List.set_cons_zero, List.set_cons_succ]
                refine held_one 16 (by kernel_rfl) (by rfl) (fun K' hK' => ?_)
                have hXp : RowT 130 wp bw (cs20.set 8 u) := by { unfold RowT; rw [grp.block bw (by have := dn.size; omega) (fun h => by have := (hul _ h.symm).1; omega)]; exact (unhide CBq).kept dn }
                have hcx : wp.cell? ⟨bw, 8, none⟩ = some u := by { rw [hXp.cell]; exact unhide HU8 }
                have hfx2 := hXp.froz 8
                go_simp
                obtain ⟨wS, hwS⟩ : ∃ y, y = wp.setCell ⟨bw, 8, none⟩ (Value.slice Ap (n' + 1) cp) := ⟨_, rfl⟩
                rw [← hwS]
                have oS : Only bw wp wS := hwS ▸ (Only.refl bw wp).setCell 8 (Value.slice Ap (n' + 1) cp)
                have rS := hwS ▸ hXp.set 8 (Value.slice Ap (n' + 1) cp)
                have dS : ChgS (G2 bw u) wq wS := dp.then (ChgS.only (G := G2 bw u) oS (.inl rfl)) (fun _ h _ => h)
                clear hwS
                refine hK'.out _ _ (dS) ?_
                clear hK' K'
                refine wpAnyH_done (by kernel_rfl) ?_ _
                refine NoPanic.normal ?_
                rw [List.set_set] at rS
                have zn := bn.size
                have zd : wq.drew.heap.size = wq.heap.size := rfl
                have hne : ∀ k, (Value.slice Ap (n' + 1) cp).ownBlock = some k → k ≠ bw := fun k hk h0 => by { subst h0; rcases bkp with h | h; (rw [h] at hk; have := (hul _ hk).1; omega); (rw [h] at hk; have := Option.some.inj hk; omega) }
                have hneB : ∀ k, (Value.slice Ap (n' + 1) cp).ownBlock = some k → k ≠ wo.heap.size := fun k hk h0 => by { subst h0; rcases bkp with h | h; (rw [h] at hk; exact hub _ hk rfl); (rw [h] at hk; have := Option.some.inj hk; omega) }
                have own2 := op.kept (row := some bw) ⟨oS.os, oS.tape, oS.output, Nat.le_of_eq oS.size.symm, fun k hk hn => oS.block k (fun e => hn (by rw [e]))⟩ (.inr (fun h => hne bw h rfl))
                have c20S : Chg bw w20 wS := ⟨dS.os.trans c20q.os, dS.tape.trans c20q.tape, dS.output.trans c20q.output, Nat.le_trans h20q dS.size, fun k hk hn => (dS.block k (by omega) (fun hg => by rcases hg with h | h; (exact hn h); (have := (hul _ h).1; omega))).trans (c20q.block k hk hn)⟩
                have rBS := (unhide HBC wS dS).1
                have RS := hide rS
                have OW2 := hide own2
                have RBS := hide rBS
                clear rS own2 rBS op rn hXp hcx hfx2
                go_wp2
                go_roundg (m4 - 1 - j)
                case measure => omega
                case rel => exact ⟨j + 1, n' + 1, Value.slice Ap (n' + 1) cp, os' ++ [(bv o.addr ++ [Value.slice Ak kk ck, .slice Av kv cv])], by omega, rfl, unhide RS, unhide OW2, by omega, c20S, unhide RBS, hneB⟩
            · as_aux_lemma =>
              have hn2 : n' ≤ (i + 1) * 100000 := by rw [Nat.add_mul]; omega
              have RCr := hide hrc
              have HOU := hide hou
              clear hrc hou hrB hub
              go_wp2
              go_roundg (l0 - 1 - i)
              case measure => omega
              case rel => exact ⟨i + 1, n', u, os', by omega, rfl, unhide RCr, unhide HOU, hn2, hchr⟩
        · as_aux_lemma =>
          have hs21 := (unhide HS20).turn (unhide HR) (by rw [List.length_set]; exact hlen20) (fun k hk => List.getElem?_set_ne (by omega)) hch
          have g21 : ∀ k, k ≠ 8 → (cs20.set 8 v)[k]? = cs20[k]? := fun k hk => List.getElem?_set_ne (by omega)
          have h219 : (cs20.set 8 v)[9]? = some nilS := by rw [g21 9 (by omega)]; exact unhide H209
          have h2114 : (cs20.set 8 v)[14]? = some (Value.slice A12 k12 c12) := by rw [g21 14 (by omega)]; exact unhide H2014
          have h2115 : (cs20.set 8 v)[15]? = some (Value.slice A15 k15 c15) := by rw [g21 15 (by omega)]; exact unhide H2015
          have h2117 : (cs20.set 8 v)[17]? = some (Value.slice A17 k17 c17) := by rw [g21 17 (by omega)]; exact unhide H2017
          generalize cs20.set 8 v = cs21 at hs21 h219 h2114 h2115 h2117 g21
          have c2o : Chg bw w2 wo := c220.trans hch
          have c3o : Chg bw w3 wo := c320.trans hch
          have c10o : Chg bw w10 wo := c1020.trans hch
          have NLo := hide ((unhide NL20).go hch)
          have NPo := hide ((unhide NP20).go hch)
          have HS21 := hide hs21
          have H219 := hide h219
          have H2114 := hide h2114
          have H2115 := hide h2115
          have H2117 := hide h2117
          have hblo := hs21.lt
          have dO : Below wo.heap.size wo wo.drew := Quiet.below ⟨1, rfl⟩ _
          have hzo : wo.drew.heap.size = wo.heap.size := rfl
          have hB8 : (256 : Nat) ^ 8 ≤ BIG := big_pow 8 (by omega)
          have hnx : x.nonce + 1 < BIG := by have := hfx.2; have := big_ge; omega
          have hBB := big_ge
          clear hs21 h219 h2114 h2115 h2117 g21 HS20 HR20 H208 H209 H2014 H2015 H2017 HRW HEACH HSET8 HR HOWN NL20 NP20 e00
          go_upto_region 27 with fail
          refine wp_region_noPanic ?_
          refine wp_region_held_drew (S := fun w' => Chg bw wo w') (by kernel_rfl) (Chg.of dO) (fun hHeld => ?_)
          refine held_takeD 0 (.pointer (some ⟨bw, 0, none⟩)) (some 125) (by rfl) (by rfl) (by kernel_rfl) (by kernel_rfl) (by kernel_rfl) (fun _ _ _ h => h) (.inl ⟨by rfl, fun _ _ => by rfl⟩) (hHeld) ?_
          simp only [Act.put, List.setIfInBounds_toArray, List.set_cons_zero, List.set_cons_succ]
          refine held_takeD 1 (.pointer (some ⟨bw, 0, none⟩)) (some 126) (by rfl) (by rfl) (by kernel_rfl) (by kernel_rfl) (by kernel_rfl) (fun _ _ _ h => h) (.inl ⟨by rfl, fun _ _ => by go_simp⟩) (hHeld) ?_
          simp only [Act.put, List.setIfInBounds_toArray, List.set_cons_zero, List.set_cons_succ]
          refine held_takeD 2 (.pointer (some ⟨bw, 0, none⟩)) (some 127) (by rfl) (by rfl) (by kernel_rfl) (by kernel_rfl) (by kernel_rfl) (fun _ _ _ h => h) (.inl ⟨by rfl, fun _ _ => by go_simp⟩) (hHeld) ?_
          simp only [Act.put, List.setIfInBounds_toArray, List.set_cons_zero, List.set_cons_succ]
          refine held_takeD 3 (.pointer (some ⟨w.heap.size, 0, none⟩)) (some 128) (by rfl) (by rfl) (by kernel_rfl) (by kernel_rfl) (by kernel_rfl) (fun _ _ _ h => h) (.inl ⟨by rfl, fun _ _ => by go_simp⟩) (hHeld) ?_
          simp only [Act.put, List.setIfInBounds_toArray, List.set_cons_zero, List.set_cons_succ]
          refine held_takeD 4 (.agg (bv d.frm).toArray) (some 129) (by rfl) (by rfl) (by kernel_rfl) (by kernel_rfl) (by kernel_rfl) (fun _ _ _ h => h) (yieldsIf_load_mid (by rfl) _ _ rfl _ _ rfl _ _ (fun wz hS => unhide HFR wz (c2o.trans hS)) hu rfl hszf) (hHeld) ?_
          simp only [Act.put, List.setIfInBounds_toArray, List.set_cons_zero, List.set_cons_succ]
          refine held_takeD 5 (.pointer (some ⟨gA, 20, none⟩)) (some 130) (by rfl) (by rfl) (by kernel_rfl) (by kernel_rfl) (by kernel_rfl) (fun _ _ _ h => h) (.inl ⟨by rfl, fun _ _ => by go_simp⟩) (hHeld) ?_
          simp only [Act.put, List.setIfInBounds_toArray, List.set_cons_zero, List.set_cons_succ]
          refine held_takeD 6 (.slice B1 j1 f1) (some 131) (by rfl) (by rfl) (by kernel_rfl) (by kernel_rfl) (by kernel_rfl) (fun _ _ _ h => h) (.inl ⟨by rfl, fun wS hS => by have hc := unhide HA20 wS (c3o.trans hS); go_simp⟩) (hHeld) ?_
          simp only [Act.put, List.setIfInBounds_toArray, List.set_cons_zero, List.set_cons_succ]
          refine held_one 7 (by kernel_rfl) (by rfl) (fun K' hK' => ?_)
          go_simp
          refine (num_any 1 wo.drew (by omega)).mono ?_
          rintro e w22 ⟨A22, k22, c22, rfl, n22, N22, b22⟩
          refine hK'.out _ _ (Chg.of (dO.trans (b22.mono dO.size))) ?_
          clear hK' K'
          have d22 := dO.trans (b22.mono dO.size)
          refine held_one 8 (by kernel_rfl) (by rfl) (fun K' hK' => ?_)
          go_simp
          refine ((unhide HN1 w22 (c3o.trans (Chg.of d22))).add n22 hfx.1.1 (by omega)).mono ?_
          rintro e w23 ⟨A23, k23, c23', rfl, n23, N23, b23⟩
          refine hK'.out _ _ (Chg.of (d22.trans (b23.mono d22.size))) ?_
          clear hK' K'
          have d23 := d22.trans (b23.mono d22.size)
          have o23 : Off bw A23 k23 := N23.off (by have := d22.size; omega) _
          refine held_one 9 (by kernel_rfl) (by rfl) (fun K' hK' => ?_)
          go_simp
          refine (((unhide HS21).kept d23).setNonce (by omega) d.frm hfrm A23 k23 c23' (x.nonce + 1) (Stab.nat n23 o23) hnx).mono ?_
          rintro e w24 ⟨rfl, cs24, hs24, h248, hc24⟩
          refine hK'.out _ _ ((Chg.of d23).trans hc24) ?_
          clear hK' K'
          refine wpAnyH_done (by kernel_rfl) ?_ _
          refine NoPanic.normal ?_
          have co24 : Chg bw wo w24 := (Chg.of d23).trans hc24
          have c224 : Chg bw w2 w24 := c2o.trans co24
          have c324 : Chg bw w3 w24 := c3o.trans co24
          have h249 : cs24[9]? = some nilS := by rw [h248 9 (by omega)]; exact unhide H219
          have h2414 : cs24[14]? = some (Value.slice A12 k12 c12) := by rw [h248 14 (by omega)]; exact unhide H2114
          have h2415 : cs24[15]? = some (Value.slice A15 k15 c15) := by rw [h248 15 (by omega)]; exact unhide H2115
          have h2417 : cs24[17]? = some (Value.slice A17 k17 c17) := by rw [h248 17 (by omega)]; exact unhide H2117
          have NL24 := hide ((unhide NLo).go co24)
          have NP24 := hide ((unhide NPo).go co24)
          have hbl24 := hs24.lt
          have d24 : Below w24.heap.size w24 w24.drew := Quiet.below ⟨1, rfl⟩ _
          have hS28 : ∀ wz, Below w24.heap.size w24 wz → Chg bw w24 wz ∧ wz.cell? ⟨bw, 14, none⟩ = some (Value.slice A12 k12 c12) ∧ wz.cell? ⟨bw, 17, none⟩ = some (Value.slice A17 k17 c17) := fun wz hz => ⟨Chg.of hz, (hs24.kept hz).cell h2414, (hs24.kept hz).cell h2417⟩
          have HS28 := hide hS28
          have HS24 := hide hs24
          have H249 := hide h249
          have H2414 := hide h2414
          have H2415 := hide h2415
          have H2417 := hide h2417
          have hpnB : pn < BIG := Nat.lt_of_lt_of_le hpn (big_pow 33 (by omega))
          have hgB : d.gas < BIG := by omega
          have hprod : d.gas * pn < BIG := by
            refine Nat.lt_of_lt_of_le (Nat.mul_lt_mul'' hgas8 hpn) ?_
            rw [← Nat.pow_add]
            exact big_pow 41 (by omega)
          have hbal : x.bal - d.gas * pn < 256 ^ 34 := Nat.lt_of_le_of_lt (Nat.sub_le _ _) hfx.1.2.1
          have hbalB : x.bal < BIG := Nat.lt_of_lt_of_le hfx.1.2.1 pow34
          clear hs24 h249 h2414 h2415 h2417 hS28 h248 n22 n23 N22 N23 o23 HS21 H219 H2114 H2115 H2117 NLo NPo
          as_aux_lemma =>
          go_upto_region 28 with fail
          refine wp_region_noPanic ?_
          refine wp_region_held_drew (S := fun w' => Chg bw w24 w' ∧ w'.cell? ⟨bw, 14, none⟩ = some (Value.slice A12 k12 c12) ∧ w'.cell? ⟨bw, 17, none⟩ = some (Value.slice A17 k17 c17)) (by kernel_rfl) (unhide HS28 _ d24) (fun hHeld => ?_)
          refine held_takeD 0 (.pointer (some ⟨bw, 0, none⟩)) (some 135) (by rfl) (by rfl) (by kernel_rfl) (by kernel_rfl) (by kernel_rfl) (fun _ _ _ h => h) (.inl ⟨by rfl, fun _ _ => by rfl⟩) (hHeld) ?_
          simp only [Act.put, List.setIfInBounds_toArray, List.set_cons_zero, List.set_cons_succ]
          refine held_takeD 1 (.pointer (some ⟨bw, 0, none⟩)) (some 136) (by rfl) (by rfl) (by kernel_rfl) (by kernel_rfl) (by kernel_rfl) (fun _ _ _ h => h) (.inl ⟨by rfl, fun _ _ => by go_simp⟩) (hHeld) ?_
          simp only [Act.put, List.setIfInBounds_toArray, List.set_cons_zero, List.set_cons_succ]
          refine held_takeD 2 (.pointer (some ⟨bw, 0, none⟩)) (some 137) (by rfl) (by rfl) (by kernel_rfl) (by kernel_rfl) (by kernel_rfl) (fun _ _ _ h => h) (.inl ⟨by rfl, fun _ _ => by go_simp⟩) (hHeld) ?_
          simp only [Act.put, List.setIfInBounds_toArray, List.set_cons_zero, List.set_cons_succ]
          refine held_takeD 3 (.pointer (some ⟨w.heap.size, 0, none⟩)) (some 138) (by rfl) (by rfl) (by kernel_rfl) (by kernel_rfl) (by kernel_rfl) (fun _ _ _ h => h) (.inl ⟨by rfl, fun _ _ => by go_simp⟩) (hHeld) ?_
          simp only [Act.put, List.setIfInBounds_toArray, List.set_cons_zero, List.set_cons_succ]
          refine held_takeD 4 (.agg (bv d.frm).toArray) (some 139) (by rfl) (by rfl) (by kernel_rfl) (by kernel_rfl) (by kernel_rfl) (fun _ _ _ h => h) (yieldsIf_load_mid (by rfl) _ _ rfl _ _ rfl _ _ (fun wz hS => unhide HFR wz (c224.trans hS.1)) hu rfl hszf) (hHeld) ?_
          simp only [Act.put, List.setIfInBounds_toArray, List.set_cons_zero, List.set_cons_succ]
          refine held_takeD 5 (.pointer (some ⟨gA, 21, none⟩)) (some 140) (by rfl) (by rfl) (by kernel_rfl) (by kernel_rfl) (by kernel_rfl) (fun _ _ _ h => h) (.inl ⟨by rfl, fun _ _ => by go_simp⟩) (hHeld) ?_
          simp only [Act.put, List.setIfInBounds_toArray, List.set_cons_zero, List.set_cons_succ]
          refine held_takeD 6 (.slice B2 j2 f2) (some 141) (by rfl) (by rfl) (by kernel_rfl) (by kernel_rfl) (by kernel_rfl) (fun _ _ _ h => h) (.inl ⟨by rfl, fun wS hS => by have hc := unhide HA21 wS (c324.trans hS.1); go_simp⟩) (hHeld) ?_
          simp only [Act.put, List.setIfInBounds_toArray, List.set_cons_zero, List.set_cons_succ]
          refine held_takeD 7 (.pointer (some ⟨bw, 0, none⟩)) (some 142) (by rfl) (by rfl) (by kernel_rfl) (by kernel_rfl) (by kernel_rfl) (fun _ _ _ h => h) (.inl ⟨by rfl, fun _ _ => by rfl⟩) (hHeld) ?_
          simp only [Act.put, List.setIfInBounds_toArray, List.set_cons_zero, List.set_cons_succ]
          refine held_takeD 8 (.pointer (some ⟨bw, 0, none⟩)) (some 143) (by rfl) (by rfl) (by kernel_rfl) (by kernel_rfl) (by kernel_rfl) (fun _ _ _ h => h) (.inl ⟨by rfl, fun _ _ => by go_simp⟩) (hHeld) ?_
          simp only [Act.put, List.setIfInBounds_toArray, List.set_cons_zero, List.set_cons_succ]
          refine held_takeD 9 (.pointer (some ⟨bw, 14, none⟩)) (some 144) (by rfl) (by rfl) (by kernel_rfl) (by kernel_rfl) (by kernel_rfl) (fun _ _ _ h => h) (.inl ⟨by rfl, fun _ _ => by go_simp⟩) (hHeld) ?_
          simp only [Act.put, List.setIfInBounds_toArray, List.set_cons_zero, List.set_cons_succ]
          refine held_takeD 10 (.slice A12 k12 c12) (some 145) (by rfl) (by rfl) (by kernel_rfl) (by kernel_rfl) (by kernel_rfl) (fun _ _ _ h => h) (.inl ⟨by rfl, fun wS hS => by have hc := hS.2.1; go_simp⟩) (hHeld) ?_
          simp only [Act.put, List.setIfInBounds_toArray, List.set_cons_zero, List.set_cons_succ]
          refine held_takeD 11 (.pointer (some ⟨bw, 0, none⟩)) (some 146) (by rfl) (by rfl) (by kernel_rfl) (by kernel_rfl) (by kernel_rfl) (fun _ _ _ h => h) (.inl ⟨by rfl, fun _ _ => by rfl⟩) (hHeld) ?_
          simp only [Act.put, List.setIfInBounds_toArray, List.set_cons_zero, List.set_cons_succ]
          refine held_takeD 12 (.pointer (some ⟨bw, 0, none⟩)) (some 147) (by rfl) (by rfl) (by kernel_rfl) (by kernel_rfl) (by kernel_rfl) (fun _ _ _ h => h) (.inl ⟨by rfl, fun _ _ => by go_simp⟩) (hHeld) ?_
          simp only [Act.put, List.setIfInBounds_toArray, List.set_cons_zero, List.set_cons_succ]
          refine held_takeD 13 (.pointer (some ⟨bw, 17, none⟩)) (some 148) (by rfl) (by rfl) (by kernel_rfl) (by kernel_rfl) (by kernel_rfl) (fun _ _ _ h => h) (.inl ⟨by rfl, fun _ _ => by go_simp⟩) (hHeld) ?_
          simp only [Act.put, List.setIfInBounds_toArray, List.set_cons_zero, List.set_cons_succ]
          refine held_takeD 14 (.slice A17 k17 c17) (some 149) (by rfl) (by rfl) (by kernel_rfl) (by kernel_rfl) (by kernel_rfl) (fun _ _ _ h => h) (.inl ⟨by rfl, fun wS hS => by have hc := hS.2.2; go_simp⟩) (hHeld) ?_
          simp only [Act.put, List.setIfInBounds_toArray, List.set_cons_zero, List.set_cons_succ]
          refine held_one 15 (by kernel_rfl) (by rfl) (fun K' hK' => ?_)
          go_simp
          refine (((unhide NL24) _ (Chg.of d24)).mul ((unhide NP24) _ (Chg.of d24)) hgB hpnB).mono ?_
          rintro e w25 ⟨A25, k25, c25, rfl, n25, N25, b25⟩
          refine hK'.out _ _ (unhide HS28 _ (d24.trans (b25.mono d24.size))) ?_
          clear hK' K'
          have d25 := d24.trans (b25.mono d24.size)
          refine held_one 16 (by kernel_rfl) (by rfl) (fun K' hK' => ?_)
          go_simp
          refine (less_any B2 A25 j2 k25 f2 c25 x.bal (d.gas * pn) w25 (unhide HN2 w25 (c324.trans (Chg.of d25))) n25 hbalB hprod).mono ?_
          rintro e w26 ⟨A26, k26, c26, rfl, n26, N26, b26⟩
          refine hK'.out _ _ (unhide HS28 _ (d25.trans (b26.mono d25.size))) ?_
          clear hK' K'
          have d26 := d25.trans (b26.mono d25.size)
          have o26 : Off bw A26 k26 := N26.off (by have := d25.size; omega) _
          refine held_one 17 (by kernel_rfl) (by rfl) (fun K' hK' => ?_)
          go_simp
          refine (((unhide HS24).kept d26).setBalance (by omega) d.frm hfrm A26 k26 c26 (x.bal - d.gas * pn) (Stab.nat n26 o26) hbal).mono ?_
          rintro e w27 ⟨rfl, cs27, hs27, h278, hc27⟩
          refine hK'.out _ _ (⟨(Chg.of d26).trans hc27, hs27.cell (by rw [h278 14 (by omega)]; exact unhide H2414), hs27.cell (by rw [h278 17 (by omega)]; exact unhide H2417)⟩) ?_
          clear hK' K'
          refine wpAnyH_done (by kernel_rfl) ?_ _
          refine NoPanic.normal ?_
          have c2427 : Chg bw w24 w27 := (Chg.of d26).trans hc27
          have c227 : Chg bw w2 w27 := c224.trans c2427
          have c1027 : Chg bw w10 w27 := c10o.trans (co24.trans c2427)
          have H279 : Hid (cs27[9]? = some nilS) := hide (by rw [h278 9 (by omega)]; exact unhide H249)
          have H2715 : Hid (cs27[15]? = some (Value.slice A15 k15 c15)) := hide (by rw [h278 15 (by omega)]; exact unhide H2415)
          have HS27 := hide hs27
          have d27 : Below w27.heap.size w27 w27.drew := Quiet.below ⟨1, rfl⟩ _
          clear hs27 h278 n25 n26 N25 N26 o26 HS24 H249 H2414 H2415 H2417 NL24 NP24 HS28
          as_aux_lemma =>
          go_upto_region 29 with fail
          refine wp_region_noPanic ?_
          refine wp_region_held_drew (S := fun w' => Chg bw w27 w') (by kernel_rfl) (Chg.of d27) (fun hHeld => ?_)
          refine held_takeD 0 (.pointer (some ⟨bw, 0, none⟩)) (some 153) (by rfl) (by rfl) (by kernel_rfl) (by kernel_rfl) (by kernel_rfl) (fun _ _ _ h => h) (.inl ⟨by rfl, fun _ _ => by rfl⟩) (hHeld) ?_
          simp only [Act.put, List.setIfInBounds_toArray, List.set_cons_zero, List.set_cons_succ]
          refine held_takeD 1 (.pointer (some ⟨bw, 0, none⟩)) (some 154) (by rfl) (by rfl) (by kernel_rfl) (by kernel_rfl) (by kernel_rfl) (fun _ _ _ h => h) (.inl ⟨by rfl, fun _ _ => by go_simp⟩) (hHeld) ?_
          simp only [Act.put, List.setIfInBounds_toArray, List.set_cons_zero, List.set_cons_succ]
          refine held_takeD 2 (.pointer (some ⟨bw, 0, none⟩)) (some 155) (by rfl) (by rfl) (by kernel_rfl) (by kernel_rfl) (by kernel_rfl) (fun _ _ _ h => h) (.inl ⟨by rfl, fun _ _ => by go_simp⟩) (hHeld) ?_
          simp only [Act.put, List.setIfInBounds_toArray, List.set_cons_zero, List.set_cons_succ]
          refine held_takeD 3 (.pointer (some ⟨w.heap.size, 0, none⟩)) (some 156) (by rfl) (by rfl) (by kernel_rfl) (by kernel_rfl) (by kernel_rfl) (fun _ _ _ h => h) (.inl ⟨by rfl, fun _ _ => by go_simp⟩) (hHeld) ?_
          simp only [Act.put, List.setIfInBounds_toArray, List.set_cons_zero, List.set_cons_succ]
          refine held_takeD 4 (.agg (bv d.frm).toArray) (some 157) (by rfl) (by rfl) (by kernel_rfl) (by kernel_rfl) (by kernel_rfl) (fun _ _ _ h => h) (yieldsIf_load_mid (by rfl) _ _ rfl _ _ rfl _ _ (fun wz hS => unhide HFR wz (c227.trans hS)) hu rfl hszf) (hHeld) ?_
          simp only [Act.put, List.setIfInBounds_toArray, List.set_cons_zero, List.set_cons_succ]
          refine held_one 5 (by kernel_rfl) (by rfl) (fun K' hK' => ?_)
          go_simp
          refine (((unhide HS27).kept d27).warm (by omega) d.frm hfrm).mono ?_
          rintro e w28 ⟨rfl, cs28, hs28, h288, hc28⟩
          refine hK'.out _ _ ((Chg.of d27).trans hc28) ?_
          clear hK' K'
          refine wpAnyH_done (by kernel_rfl) ?_ _
          refine NoPanic.normal ?_
          have c2728 : Chg bw w27 w28 := (Chg.of d27).trans hc28
          have HS28b := hide hs28
          have d28 : Below w28.heap.size w28 w28.drew := Quiet.below ⟨1, rfl⟩ _
          have hcr28 := (hs28.kept d28).coinR
          have HCR28 := hide hcr28
          have hcbA := he.hcb
          have hszcb := hcbA.size
          clear hs28 hcr28 HS27
          go_upto_region 30 with fail
          refine wp_region_noPanic ?_
          refine wp_region_held_drew (S := fun w' => w'.rangeAt bw 59 (bv cb)) (by kernel_rfl) (unhide HCR28) (fun hHeld => ?_)
          refine held_takeD 0 (.pointer (some ⟨bw, 0, none⟩)) (some 159) (by rfl) (by rfl) (by kernel_rfl) (by kernel_rfl) (by kernel_rfl) (fun _ _ _ h => h) (.inl ⟨by rfl, fun _ _ => by rfl⟩) (hHeld) ?_
          simp only [Act.put, List.setIfInBounds_toArray, List.set_cons_zero, List.set_cons_succ]
          refine held_takeD 1 (.pointer (some ⟨bw, 0, none⟩)) (some 160) (by rfl) (by rfl) (by kernel_rfl) (by kernel_rfl) (by kernel_rfl) (fun _ _ _ h => h) (.inl ⟨by rfl, fun _ _ => by go_simp⟩) (hHeld) ?_
          simp only [Act.put, List.setIfInBounds_toArray, List.set_cons_zero, List.set_cons_succ]
          refine held_takeD 2 (.pointer (some ⟨bw, 0, none⟩)) (some 161) (by rfl) (by rfl) (by kernel_rfl) (by kernel_rfl) (by kernel_rfl) (fun _ _ _ h => h) (.inl ⟨by rfl, fun _ _ => by go_simp⟩) (hHeld) ?_
          simp only [Act.put, List.setIfInBounds_toArray, List.set_cons_zero, List.set_cons_succ]
          refine held_takeD 3 (.pointer (some ⟨bw, 0, none⟩)) (some 162) (by rfl) (by rfl) (by kernel_rfl) (by kernel_rfl) (by kernel_rfl) (fun _ _ _ h => h) (.inl ⟨by rfl, fun _ _ => by rfl⟩) (hHeld) ?_
          simp only [Act.put, List.setIfInBounds_toArray, List.set_cons_zero, List.set_cons_succ]
          refine held_takeD 4 (.pointer (some ⟨bw, 0, none⟩)) (some 163) (by rfl) (by rfl) (by kernel_rfl) (by kernel_rfl) (by kernel_rfl) (fun _ _ _ h => h) (.inl ⟨by rfl, fun _ _ => by go_simp⟩) (hHeld) ?_
          simp only [Act.put, List.setIfInBounds_toArray, List.set_cons_zero, List.set_cons_succ]
          refine held_takeD 5 (.pointer (some ⟨bw, 59, none⟩)) (some 164) (by rfl) (by rfl) (by kernel_rfl) (by kernel_rfl) (by kernel_rfl) (fun _ _ _ h => h) (.inl ⟨by rfl, fun _ _ => by go_simp⟩) (hHeld) ?_
          simp only [Act.put, List.setIfInBounds_toArray, List.set_cons_zero, List.set_cons_succ]
          refine held_takeD 6 (.pointer (some ⟨bw, 59, none⟩)) (some 165) (by rfl) (by rfl) (by kernel_rfl) (by kernel_rfl) (by kernel_rfl) (fun _ _ _ h => h) (.inl ⟨by rfl, fun _ _ => by go_simp⟩) (hHeld) ?_
          simp only [Act.put, List.setIfInBounds_toArray, List.set_cons_zero, List.set_cons_succ]
          refine held_takeD 7 (.agg (bv cb).toArray) (some 166) (by rfl) (by rfl) (by kernel_rfl) (by kernel_rfl) (by kernel_rfl) (fun _ _ _ h => h) (yieldsIf_load_mid (by rfl) _ _ rfl _ _ rfl _ _ (fun wz hS => hS) hu rfl hszcb) (hHeld) ?_
          simp only [Act.put, List.setIfInBounds_toArray, List.set_cons_zero, List.set_cons_succ]
          refine held_one 8 (by kernel_rfl) (by rfl) (fun K' hK' => ?_)
          go_simp
          refine (((unhide HS28b).kept d28).warm (by omega) cb hcbA).mono ?_
          rintro e w29 ⟨rfl, cs29, hs29, h298, hc29⟩
          refine hK'.out _ _ (hs29.coinR) ?_
          clear hK' K'
          refine wpAnyH_done (by kernel_rfl) ?_ _
          refine NoPanic.normal ?_
          have c2729 : Chg bw w27 w29 := c2728.trans ((Chg.of d28).trans hc29)
          have HS29 := hide hs29
          have d29 : Below w29.heap.size w29 w29.drew := Quiet.below ⟨1, rfl⟩ _
          have c1029 : Chg bw w10 w29 := c1027.trans c2729
          clear hs29 HS28b HCR28
          as_aux_lemma =>
          go_upto_region 31 with fail
          refine wp_region_noPanic ?_
          refine wp_region_held_drew (S := fun w' => Chg bw w29 w') (by kernel_rfl) (Chg.of d29) (fun hHeld => ?_)
          refine held_takeD 0 (.pointer (some ⟨bw, 0, none⟩)) (some 168) (by rfl) (by rfl) (by kernel_rfl) (by kernel_rfl) (by kernel_rfl) (fun _ _ _ h => h) (.inl ⟨by rfl, fun _ _ => by rfl⟩) (hHeld) ?_
          simp only [Act.put, List.setIfInBounds_toArray, List.set_cons_zero, List.set_cons_succ]
          refine held_takeD 1 (.pointer (some ⟨bw, 0, none⟩)) (some 169) (by rfl) (by rfl) (by kernel_rfl) (by kernel_rfl) (by kernel_rfl) (fun _ _ _ h => h) (.inl ⟨by rfl, fun _ _ => by go_simp⟩) (hHeld) ?_
          simp only [Act.put, List.setIfInBounds_toArray, List.set_cons_zero, List.set_cons_succ]
          refine held_takeD 2 (.pointer (some ⟨bw, 0, none⟩)) (some 170) (by rfl) (by rfl) (by kernel_rfl) (by kernel_rfl) (by kernel_rfl) (fun _ _ _ h => h) (.inl ⟨by rfl, fun _ _ => by go_simp⟩) (hHeld) ?_
          simp only [Act.put, List.setIfInBounds_toArray, List.set_cons_zero, List.set_cons_succ]
          refine held_takeD 3 (.agg (bv tg).toArray) (some 171) (by rfl) (by rfl) (by kernel_rfl) (by kernel_rfl) (by kernel_rfl) (fun _ _ _ h => h) (yieldsIf_load_mid (by rfl) _ _ rfl _ _ rfl _ _ (fun wz hS => (unhide HTG wz (c1029.trans hS)).rangeAll) hu rfl hszt) (hHeld) ?_
          simp only [Act.put, List.setIfInBounds_toArray, List.set_cons_zero, List.set_cons_succ]
          refine held_one 4 (by kernel_rfl) (by rfl) (fun K' hK' => ?_)
          go_simp
          refine (((unhide HS29).kept d29).warm (by omega) tg htg).mono ?_
          rintro e w30 ⟨rfl, cs30, hs30, h308, hc30⟩
          refine hK'.out _ _ ((Chg.of d29).trans hc30) ?_
          clear hK' K'
          refine wpAnyH_done (by kernel_rfl) ?_ _
          refine NoPanic.normal ?_
          have c2730 : Chg bw w27 w30 := c2729.trans ((Chg.of d29).trans hc30)
          have HL4 := hide (hs30.warm (by omega) (lowAddr 4) (lowAddr_is 4 (by omega) (by omega)))
          clear hs30 HS29
          go_upto_region 33 with (first
            | ((with_reducible refine at_build 63 ?_); refine wpList_build_run (by rfl) 63 [(19, .const (.int .u8 4))] rfl (.agg (bv (lowAddr 4)).toArray) (run_low 4 _) ?_)
            | (go_at_call 72; refine (unhide HL4).mono ?_; rintro e w31 ⟨rfl, cs31, hs31, h318, hc31⟩))
          have HL5 := hide (hs31.warm (by omega) (lowAddr 5) (lowAddr_is 5 (by omega) (by omega)))
          clear hs31 HL4
          as_aux_lemma =>
          go_upto_region 34 with (first
            | ((with_reducible refine at_build 63 ?_); refine wpList_build_run (by rfl) 63 [(19, .const (.int .u8 5))] rfl (.agg (bv (lowAddr 5)).toArray) (run_low 5 _) ?_)
            | (go_at_call 72; refine (unhide HL5).mono ?_; rintro e w32 ⟨rfl, cs32, hs32, h328, hc32⟩))
          have c2732 : Chg bw w27 w32 := c2730.trans (hc31.trans hc32)
          have h3227 : Same8 cs27 cs32 := (h288.trans (h298.trans h308)).trans (h318.trans h328)
          have c232 : Chg bw w2 w32 := c227.trans c2732
          have c1032 : Chg bw w10 w32 := c1027.trans c2732
          have HS32 := hide hs32
          have H329 : Hid (cs32[9]? = some nilS) := hide (by rw [h3227 9 (by omega)]; exact unhide H279)
          have H3215 : Hid (cs32[15]? = some (Value.slice A15 k15 c15)) := hide (by rw [h3227 15 (by omega)]; exact unhide H2715)
          have hbl32 := hs32.lt
          have hlist := listB_le hlb
          have hk2 : k2 ≤ 16 := by rw [← ha0.len]; exact hlist.1
          have e173 : w32.cell? ⟨w.heap.size, 173, none⟩ = some (.slice A2 k2 c2) := by rw [(unhide HT w32 c232).cell]; exact h.access
          have halen := ha0.len
          obtain ⟨arows, ag1, ag2⟩ := ha0
          have AG1 := hide ag1
          have AG2 := hide ag2
          have HALEN := hide halen
          have hZ21 : (bv (zeros 20) ++ [nilS]).length = 21 := by simp [bv_len, zeros_len]
          clear hs32 ag1 ag2 halen HL5 h288 h298 h308 h318 h328 h3227 H279 H2715
          go_wp2_with fail
          go_loopg [186] k2 (fun gk iv wr => ∃ (i : Nat) (cs' : List Value), i + gk = k2 ∧ iv = .int .i64 i ∧ BS bw cs' cb fee 10 (5 + i) (i * 64) wr ∧ Same8 cs32 cs' ∧ Chg bw w32 wr)
          case atStart => exact ⟨0, cs32, by omega, rfl, unhide HS32, Same8.refl _, Chg.refl _ _⟩
          case round =>
            obtain ⟨wp, hwp⟩ : ∃ wp, wp = wr := ⟨_, rfl⟩
            subst hwp
            obtain ⟨i, csi, hi, rfl, hsi, h8i, hci⟩ := hrel
            have hbli := hsi.lt
            have HSI := hide hsi
            have H8I := hide h8i
            clear hsi h8i
            by_cases hil : i < k2
            · as_aux_lemma =>
              obtain ⟨b, off, rfl, hlt, hat⟩ := rows_at' (([], []) : List Int × List (List Int)) ((unhide AG1).kept (unhide HB0 wp (c232.trans hci))) (unhide AG2) (by omega)
              obtain ⟨ri, hrg, hrow⟩ := hat i hil
              obtain ⟨y, hy⟩ : ∃ y, y = d.access.getD i ([], []) := ⟨_, rfl⟩
              have hyk : y.2.length ≤ 64 := by
                refine Nat.le_trans (keysN_mem (xs := d.access) ?_) hlist.2
                rw [hy, List.getD_eq_getElem?_getD, List.getElem?_eq_getElem (by have := unhide HALEN; omega)]
                simp
              rw [← hy] at hrow
              have hrl := hrow.len
              have hro := hrow.one
              obtain ⟨Ay, ky, cy, hrie, hya, hyw⟩ := hrow
              have hky : ky ≤ 64 := by rw [← hyw.len]; exact hyk
              have hsz : (Sakg.prog.info? 146).map (·.size) = some ri.length := by rw [hrl]; exact sizeAcc
              have HRG := hide hrg
              have HRL := hide hrl
              have HSZ := hide hsz
              have HRO := hide hro
              have HYW := hide hyw
              have hpre : (ri.drop 0).take 20 = bv y.1 := by rw [hrie, List.drop_zero, List.take_append_of_le_length (by rw [bv_len, hya.len]; omega), List.take_of_length_le (by rw [bv_len, hya.len]; omega)]
              have h20 : ri[20]? = some (.slice Ay ky cy) := by rw [hrie, List.getElem?_append_right (by rw [bv_len, hya.len]; omega), bv_len, hya.len]; rfl
              have HPRE := hide hpre
              have H20 := hide h20
              have hszy := hya.size
              clear hat hrg hrl hro hsz hyw hrie hpre h20 hy hyk
              go_upto_region 37 with (first
                | ((with_reducible refine at_load 146 ?_); refine wpList_load_g (by rfl) 146 (.tmp 188) rfl b _ rfl ri _ (unhide HRG) Sakg.underlying146 rfl (unhide HSZ) ?_)
                | ((with_reducible refine at_alloc 146 ?_); refine wpList_alloc_g (by rfl) 146 rfl (bv (zeros 20) ++ [nilS]) 21 infoAcc2 hZ21 ?_)
                | ((with_reducible refine at_store 146 ?_); refine wpList_store_whole rfl 146 (.tmp 14) (.tmp 189) rfl _ _ _ ri rfl rfl (RowT.new _ _ _) (by rw [unhide HRL, hZ21]) (unhide HSZ) (unhide HRO) ?_; intro wa hra hona; have hbba := box_below hona; clear hona))
              simp only [Act.put, List.setIfInBounds_toArray, List.set_cons_zero, List.set_cons_succ]
              have hba := hbba.1
              have HWAS := hide hbba.2
              have hsa := (unhide HSI).kept hba
              have hbla := hsa.lt
              have hral := hra.lt
              have hBx : ∀ wz, Chg bw wa wz → RowT 146 wz wp.heap.size ri := fun wz hz => hz.row hra (by omega)
              have HBX := hide hBx
              have HSA := hide hsa
              have da : Below wa.heap.size wa wa.drew := Quiet.below ⟨1, rfl⟩ _
              have c32a : Chg bw w32 wa := hci.trans (Chg.of hba)
              clear hbba hsa hra hBx
              as_aux_lemma =>
              refine wp_region_noPanic ?_
              refine wp_region_held_drew (S := fun w' => RowT 146 w' wp.heap.size ri) (by kernel_rfl) (unhide HBX _ (Chg.of da)) (fun hHeld => ?_)
              refine held_takeD 0 (.pointer (some ⟨bw, 0, none⟩)) (some 190) (by rfl) (by rfl) (by kernel_rfl) (by kernel_rfl) (by kernel_rfl) (fun _ _ _ h => h) (.inl ⟨by rfl, fun _ _ => by rfl⟩) (hHeld) ?_
              simp only [Act.put, List.setIfInBounds_toArray, List.set_cons_zero, List.set_cons_succ]
              refine held_takeD 1 (.pointer (some ⟨bw, 0, none⟩)) (some 191) (by rfl) (by rfl) (by kernel_rfl) (by kernel_rfl) (by kernel_rfl) (fun _ _ _ h => h) (.inl ⟨by rfl, fun _ _ => by go_simp⟩) (hHeld) ?_
              simp only [Act.put, List.setIfInBounds_toArray, List.set_cons_zero, List.set_cons_succ]
              refine held_takeD 2 (.pointer (some ⟨bw, 0, none⟩)) (some 192) (by rfl) (by rfl) (by kernel_rfl) (by kernel_rfl) (by kernel_rfl) (fun _ _ _ h => h) (.inl ⟨by rfl, fun _ _ => by go_simp⟩) (hHeld) ?_
              simp only [Act.put, List.setIfInBounds_toArray, List.set_cons_zero, List.set_cons_succ]
              refine held_takeD 3 (.pointer (some ⟨wp.heap.size, 0, none⟩)) (some 193) (by rfl) (by rfl) (by kernel_rfl) (by kernel_rfl) (by kernel_rfl) (fun _ _ _ h => h) (.inl ⟨by rfl, fun _ _ => by go_simp⟩) (hHeld) ?_
              simp only [Act.put, List.setIfInBounds_toArray, List.set_cons_zero, List.set_cons_succ]
              refine held_takeD 4 (.agg (bv y.1).toArray) (some 194) (by rfl) (by rfl) (by kernel_rfl) (by kernel_rfl) (by kernel_rfl) (fun _ _ _ h => h) (yieldsIf_load_mid (by rfl) _ _ rfl _ _ rfl _ _ (fun wz hS => (by have := hS.range 0 20; rwa [unhide HPRE] at this)) hu rfl hszy) (hHeld) ?_
              simp only [Act.put, List.setIfInBounds_toArray, List.set_cons_zero, List.set_cons_succ]
              refine held_one 5 (by kernel_rfl) (by rfl) (fun K' hK' => ?_)
              go_simp
              refine (((unhide HSA).kept da).warm (by omega) y.1 hya).mono ?_
              rintro e wb ⟨rfl, csb, hsb, h8b, hcb'⟩
              refine hK'.out _ _ (unhide HBX _ ((Chg.of da).trans hcb')) ?_
              clear hK' K'
              refine wpAnyH_done (by kernel_rfl) ?_ _
              refine NoPanic.normal ?_
              have cab : Chg bw wa wb := (Chg.of da).trans hcb'
              have c32b : Chg bw w32 wb := c32a.trans cab
              have hrb := unhide HBX _ cab
              have e20 : wb.cell? ⟨wp.heap.size, 20, none⟩ = some (.slice Ay ky cy) := by rw [hrb.cell]; exact unhide H20
              have HRB := hide hrb
              have HSB := hide hsb
              have H8B := hide ((unhide H8I).trans h8b)
              have hblb := hsb.lt
              clear hsb hrb h8b HSA HBX
              go_wp2_with fail
              go_loopg [199] ky (fun gk jv wr => ∃ (j : Nat) (cs' : List Value), j + gk = ky ∧ jv = .int .i64 j ∧ BS bw cs' cb fee 10 (5 + i + 1) (i * 64 + j) wr ∧ Same8 cs32 cs' ∧ Chg bw w32 wr ∧ RowT 146 wr wp.heap.size ri)
              case atStart => exact ⟨0, csb, by omega, rfl, unhide HSB, unhide H8B, c32b, unhide HRB⟩
              case round =>
                obtain ⟨j, csj, hj, rfl, hsj, h8j, hcj, hrj⟩ := hrel
                have hblj := hsj.lt
                have hrjl := hrj.lt
                have HSJ := hide hsj
                have H8J := hide h8j
                have HRJ := hide hrj
                clear hsj h8j hrj
                by_cases hjl : j < ky
                · as_aux_lemma =>
                  obtain ⟨bk, ok, rfl, hltk, hatk⟩ := ((unhide HYW).kept (unhide HB0 wr (c232.trans hcj))).atK (by omega)
                  obtain ⟨hrgk, hwk⟩ := hatk j hjl
                  obtain ⟨kw, hkw⟩ : ∃ kw, kw = y.2.getD j [] := ⟨_, rfl⟩
                  rw [← hkw] at hrgk hwk
                  have HRGK := hide hrgk
                  have hszk := hwk.size
                  have hz32 : (bv (zeros 32)).length = 32 := by rw [bv_len, zeros_len]
                  clear hatk hrgk hkw
                  go_upto_region 41 with (first
                    | ((with_reducible refine at_load 65 ?_); refine wpList_load_g (by rfl) 65 (.tmp 201) rfl bk _ rfl (bv kw) _ (unhide HRGK) Sakg.underlying65 rfl hszk ?_)
                    | ((with_reducible refine at_alloc 65 ?_); refine wpList_alloc_g (by rfl) 65 rfl (bv (zeros 32)) 32 infoW2 hz32 ?_)
                    | ((with_reducible refine at_store 65 ?_); refine wpList_store_whole rfl 65 (.tmp 16) (.tmp 202) rfl _ _ _ (bv kw) rfl rfl (RowT.new _ _ _) (by rw [hz32, bv_len, hwk.len]) hszk (bv_one _) ?_; intro wk hrk honk; have hbbk := box_below honk; clear honk))
                  simp only [Act.put, List.setIfInBounds_toArray, List.set_cons_zero, List.set_cons_succ]
                  have hbk := hbbk.1
                  have HWKS := hide hbbk.2
                  have hsk := (unhide HSJ).kept hbk
                  have hblk := hsk.lt
                  have HSK := hide hsk
                  have hrkA := (unhide HRJ).kept hbk
                  have hrkl := hrkA.lt
                  have hBy : ∀ wz, Chg bw wk wz → RowT 146 wz wp.heap.size ri := fun wz hz => hz.row hrkA (by omega)
                  have HBY := hide hBy
                  have dk : Below wk.heap.size wk wk.drew := Quiet.below ⟨1, rfl⟩ _
                  have c32k : Chg bw w32 wk := hcj.trans (Chg.of hbk)
                  have hsrc : Src wk.drew (some ⟨wr.heap.size, 0, none⟩) 32 32 kw := src_of_range (hrk.kept dk).rangeAll hwk.byt hwk.len max32
                  have HSRC := hide hsrc
                  have hzk : wk.drew.heap.size = wk.heap.size := rfl
                  clear hbbk hsk hrk hrkA hBy hsrc
                  refine wp_region_noPanic ?_
                  refine wp_region_held_drew (S := fun w' => RowT 146 w' wp.heap.size ri) (by kernel_rfl) (unhide HBY _ (Chg.of dk)) (fun hHeld => ?_)
                  refine held_takeD 0 (.pointer (some ⟨bw, 0, none⟩)) (some 203) (by rfl) (by rfl) (by kernel_rfl) (by kernel_rfl) (by kernel_rfl) (fun _ _ _ h => h) (.inl ⟨by rfl, fun _ _ => by rfl⟩) (hHeld) ?_
                  simp only [Act.put, List.setIfInBounds_toArray, List.set_cons_zero, List.set_cons_succ]
                  refine held_takeD 1 (.pointer (some ⟨bw, 0, none⟩)) (some 204) (by rfl) (by rfl) (by kernel_rfl) (by kernel_rfl) (by kernel_rfl) (fun _ _ _ h => h) (.inl ⟨by rfl, fun _ _ => by go_simp⟩) (hHeld) ?_
                  simp only [Act.put, List.setIfInBounds_toArray, List.set_cons_zero, List.set_cons_succ]
                  refine held_takeD 2 (.pointer (some ⟨bw, 0, none⟩)) (some 205) (by rfl) (by rfl) (by kernel_rfl) (by kernel_rfl) (by kernel_rfl) (fun _ _ _ h => h) (.inl ⟨by rfl, fun _ _ => by go_simp⟩) (hHeld) ?_
                  simp only [Act.put, List.setIfInBounds_toArray, List.set_cons_zero, List.set_cons_succ]
                  refine held_takeD 3 (.pointer (some ⟨wp.heap.size, 0, none⟩)) (some 206) (by rfl) (by rfl) (by kernel_rfl) (by kernel_rfl) (by kernel_rfl) (fun _ _ _ h => h) (.inl ⟨by rfl, fun _ _ => by go_simp⟩) (hHeld) ?_
                  simp only [Act.put, List.setIfInBounds_toArray, List.set_cons_zero, List.set_cons_succ]
                  refine held_takeD 4 (.agg (bv y.1).toArray) (some 207) (by rfl) (by rfl) (by kernel_rfl) (by kernel_rfl) (by kernel_rfl) (fun _ _ _ h => h) (yieldsIf_load_mid (by rfl) _ _ rfl _ _ rfl _ _ (fun wz hS => (by have := hS.range 0 20; rwa [unhide HPRE] at this)) hu rfl hszy) (hHeld) ?_
                  simp only [Act.put, List.setIfInBounds_toArray, List.set_cons_zero, List.set_cons_succ]
                  refine held_takeD 5 (.slice (some ⟨wr.heap.size, 0, none⟩) 32 32) (some 208) (by rfl) (by rfl) (by kernel_rfl) (by kernel_rfl) (by kernel_rfl) (fun _ _ _ h => h) (.inl ⟨by rfl, fun _ _ => by go_simp⟩) (hHeld) ?_
                  simp only [Act.put, List.setIfInBounds_toArray, List.set_cons_zero, List.set_cons_succ]
                  refine held_one 6 (by kernel_rfl) (by rfl) (fun K' hK' => ?_)
                  go_simp
                  refine (fromBE_any _ 32 32 kw wk.drew (unhide HSRC) (by omega)).mono ?_
                  rintro e wl ⟨Al, kl, cl, rfl, nl, Nl, bl⟩
                  refine hK'.out _ _ (unhide HBY _ (Chg.of (dk.trans (bl.mono dk.size)))) ?_
                  clear hK' K'
                  have dl := dk.trans (bl.mono dk.size)
                  have ol : Off bw Al kl := Nl.off (by omega) _
                  refine held_one 7 (by kernel_rfl) (by rfl) (fun K' hK' => ?_)
                  go_simp
                  refine (((unhide HSK).kept dl).warmSlot (by omega) y.1 hya Al kl cl _ (Stab.nat nl ol) hwk.big).mono ?_
                  rintro e wm ⟨rfl, csm, hsm', h8m, hcm⟩
                  refine hK'.out _ _ (unhide HBY _ ((Chg.of dl).trans hcm)) ?_
                  clear hK' K'
                  refine wpAnyH_done (by kernel_rfl) ?_ _
                  refine NoPanic.normal ?_
                  have ckm : Chg bw wk wm := (Chg.of dl).trans hcm
                  have c32m : Chg bw w32 wm := c32k.trans ckm
                  have hrm := unhide HBY _ ckm
                  have HRM := hide hrm
                  have HSM := hide hsm'
                  have H8M := hide ((unhide H8J).trans h8m)
                  clear hrm hsm' h8m nl Nl ol
                  go_wp2
                  go_roundg (ky - 1 - j)
                  case measure => omega
                  case rel => exact ⟨j + 1, csm, by omega, rfl, unhide HSM, unhide H8M, c32m, unhide HRM⟩
                · as_aux_lemma =>
                  have hfin : BS bw csj cb fee 10 (5 + (i + 1)) ((i + 1) * 64) wr := (unhide HSJ).more (by omega) (by omega) (by omega)
                  have HFIN := hide hfin
                  clear hfin
                  go_wp2
                  go_roundg (k2 - 1 - i)
                  case measure => omega
                  case rel => exact ⟨i + 1, csj, by omega, rfl, unhide HFIN, unhide H8J, hcj⟩
            · as_aux_lemma =>
              have hs33 := (unhide HSI).more (Nat.le_refl 10) (show 5 + i ≤ 100 by omega) (show i * 64 ≤ 2000 by omega)
              have h339 : csi[9]? = some nilS := by rw [unhide H8I 9 (by omega)]; exact unhide H329
              have h3315 : csi[15]? = some (Value.slice A15 k15 c15) := by rw [unhide H8I 15 (by omega)]; exact unhide H3215
              obtain ⟨v10, hx10⟩ := hs33.some (i := 10) (by omega)
              have hf10 := hs33.row.froz 10
              have HS33 := hide hs33
              have H339 := hide h339
              have H3315 := hide h3315
              clear hs33 h339 h3315 HSI H8I HS32 H329 H3215 AG1 AG2 e173 HALEN
              go_upto_region 45 with fail
              obtain ⟨w34, hw34⟩ : ∃ y, y = wp.setCell ⟨bw, 10, none⟩ (Value.slice none 0 0) := ⟨_, rfl⟩
              rw [← hw34]
              have hs34 := hw34 ▸ (unhide HS33).set 10 (by omega) (by omega) (Value.slice none 0 0)
              have c34 : Chg bw wp w34 := hw34 ▸ Chg.ofOnly ((Only.refl bw wp).setCell 10 (Value.slice none 0 0))
              have h349 : (csi.set 10 (Value.slice none 0 0))[9]? = some nilS := by rw [List.getElem?_set_ne (by omega)]; exact unhide H339
              have h3415 : (csi.set 10 (Value.slice none 0 0))[15]? = some (Value.slice A15 k15 c15) := by rw [List.getElem?_set_ne (by omega)]; exact unhide H3315
              generalize csi.set 10 (Value.slice none 0 0) = cs34 at hs34 h349 h3415
              have c234 : Chg bw w2 w34 := c232.trans (hci.trans c34)
              have c1034 : Chg bw w10 w34 := c1032.trans (hci.trans c34)
              have hbl34 := hs34.lt
              have d34 : Below w34.heap.size w34 w34.drew := Quiet.below ⟨1, rfl⟩ _
              have hval := h.hvalue
              have hS45 : ∀ wz, Below w34.heap.size w34 wz → RowT 71 wz w.heap.size r ∧ RowT 63 wz w3.heap.size (bv tg) ∧ wz.cell? ⟨bw, 15, none⟩ = some (Value.slice A15 k15 c15) := fun wz hz => ⟨unhide HT wz (c234.trans (Chg.of hz)), unhide HTG wz (c1034.trans (Chg.of hz)), (hs34.kept hz).cell h3415⟩
              have hsv : ∀ wz, Below w34.heap.size w34 wz → Src wz (some ⟨w.heap.size, 75, none⟩) 32 32 d.value := fun wz hz => src_of_range (by have := (hS45 wz hz).1.range 75 32; rwa [h.value] at this) hval.byt hval.len max32
              have HS45 := hide hS45
              have HSV := hide hsv
              have HS34 := hide hs34
              have H349 := hide h349
              clear hs34 h349 h3415 hS45 hsv hw34 hx10 hf10 HS33 H339 H3315
              go_cut [17] (fun s17 wc => ∃ (gF : Nat) (Av : Option Addr) (kv cv : Nat), s17 = .pointer (some ⟨gF, 0, none⟩) ∧ w34.heap.size ≤ gF ∧ RowT 149 wc gF (frame5 A15 Av k15 c15 kv cv tg d.frm) ∧ IsNat wc Av kv cv (beN d.value) ∧ OffS (G3 bw gF) Av kv ∧ Below w34.heap.size w34 wc)
              case first =>
                as_aux_lemma =>
                refine wp_region_noPanic ?_
                refine wp_region_held_drew (S := fun w' => Below w34.heap.size w34 w') (by kernel_rfl) (d34) (fun hHeld => ?_)
                refine held_takeD 0 (.pointer (some ⟨bw, 0, none⟩)) (some 216) (by rfl) (by rfl) (by kernel_rfl) (by kernel_rfl) (by kernel_rfl) (fun _ _ _ h => h) (.inl ⟨by rfl, fun _ _ => by rfl⟩) (hHeld) ?_
                simp only [Act.put, List.setIfInBounds_toArray, List.set_cons_zero, List.set_cons_succ]
                refine held_takeD 1 (.pointer (some ⟨bw, 0, none⟩)) (some 217) (by rfl) (by rfl) (by kernel_rfl) (by kernel_rfl) (by kernel_rfl) (fun _ _ _ h => h) (.inl ⟨by rfl, fun _ _ => by go_simp⟩) (hHeld) ?_
                simp only [Act.put, List.setIfInBounds_toArray, List.set_cons_zero, List.set_cons_succ]
                refine held_takeD 2 (.pointer (some ⟨bw, 15, none⟩)) (some 218) (by rfl) (by rfl) (by kernel_rfl) (by kernel_rfl) (by kernel_rfl) (fun _ _ _ h => h) (.inl ⟨by rfl, fun _ _ => by go_simp⟩) (hHeld) ?_
                simp only [Act.put, List.setIfInBounds_toArray, List.set_cons_zero, List.set_cons_succ]
                refine held_takeD 3 (.slice A15 k15 c15) (some 219) (by rfl) (by rfl) (by kernel_rfl) (by kernel_rfl) (by kernel_rfl) (fun _ _ _ h => h) (.inl ⟨by rfl, fun wS hS => by have hc := (unhide HS45 wS hS).2.2; go_simp⟩) (hHeld) ?_
                simp only [Act.put, List.setIfInBounds_toArray, List.set_cons_zero, List.set_cons_succ]
                refine held_takeD 4 (.pointer (some ⟨w.heap.size, 75, none⟩)) (some 220) (by rfl) (by rfl) (by kernel_rfl) (by kernel_rfl) (by kernel_rfl) (fun _ _ _ h => h) (.inl ⟨by rfl, fun _ _ => by go_simp⟩) (hHeld) ?_
                simp only [Act.put, List.setIfInBounds_toArray, List.set_cons_zero, List.set_cons_succ]
                refine held_takeD 5 (.slice (some ⟨w.heap.size, 75, none⟩) 32 32) (some 221) (by rfl) (by rfl) (by kernel_rfl) (by kernel_rfl) (by kernel_rfl) (fun _ _ _ h => h) (.inl ⟨by rfl, fun _ _ => by go_simp⟩) (hHeld) ?_
                simp only [Act.put, List.setIfInBounds_toArray, List.set_cons_zero, List.set_cons_succ]
                refine held_takeD 7 (.agg (bv tg).toArray) (some 223) (by rfl) (by rfl) (by kernel_rfl) (by kernel_rfl) (by kernel_rfl) (fun _ _ _ h => h) (yieldsIf_load_mid (by rfl) _ _ rfl _ _ rfl _ _ (fun wz hS => (unhide HS45 wz hS).2.1.rangeAll) hu rfl hszt) (hHeld) ?_
                simp only [Act.put, List.setIfInBounds_toArray, List.set_cons_zero, List.set_cons_succ]
                refine held_takeD 8 (.pointer (some ⟨w.heap.size, 0, none⟩)) (some 224) (by rfl) (by rfl) (by kernel_rfl) (by kernel_rfl) (by kernel_rfl) (fun _ _ _ h => h) (.inl ⟨by rfl, fun _ _ => by go_simp⟩) (hHeld) ?_
                simp only [Act.put, List.setIfInBounds_toArray, List.set_cons_zero, List.set_cons_succ]
                refine held_takeD 9 (.agg (bv d.frm).toArray) (some 225) (by rfl) (by rfl) (by kernel_rfl) (by kernel_rfl) (by kernel_rfl) (fun _ _ _ h => h) (yieldsIf_load_mid (by rfl) _ _ rfl _ _ rfl _ _ (fun wz hS => (by have := (unhide HS45 wz hS).1.range 0 20; rwa [h.frm] at this)) hu rfl hszf) (hHeld) ?_
                simp only [Act.put, List.setIfInBounds_toArray, List.set_cons_zero, List.set_cons_succ]
                refine held_two 6 11 (by kernel_rfl) (by rfl) (by rfl) (fun K' hK' => ?_) (fun K' hK' => ?_)
                · go_simp
                  refine (fromBE_any _ 32 32 d.value w34.drew (unhide HSV _ d34) (by omega)).mono ?_
                  rintro e wq ⟨Av, kv, cv, rfl, nq, Nq, bq⟩
                  have dq := d34.trans (bq.mono d34.size)
                  refine hK'.out _ _ (dq) ?_
                  clear hK' K'
                  refine held_takeD 10 (.agg (frame5 A15 Av k15 c15 kv cv tg d.frm).toArray) (some 226) (by rfl) (by rfl) (by kernel_rfl) (by kernel_rfl) (by kernel_rfl) (fun _ _ _ h => h) (yieldsIf_build (by rfl) 149 [(0, .const (.int .u8 0)), (4, .tmp 219), (5, .tmp 222), (12, .tmp 223), (13, .tmp 225)] rfl _ (fun wx => run_frame5 wx A15 Av k15 c15 kv cv tg d.frm htg hfrm)) dq ?_
                  simp only [Act.put, List.setIfInBounds_toArray, List.set_cons_zero, List.set_cons_succ]
                  have hFC := frame5_ok A15 Av k15 c15 kv cv tg d.frm htg hfrm
                  refine held_one 11 (by kernel_rfl) (by rfl) (fun K' hK' => ?_)
                  refine if_alloc (some 17) rfl 149 rfl (by rfl) _ 60 infoFrame2 zeroF_len (fun wF rF bF sF => ?_)
                  have dF := dq.trans (bF.mono dq.size)
                  refine hK'.out _ _ (dF) ?_
                  clear hK' K'
                  simp only [Act.put, List.setIfInBounds_toArray, List.set_cons_zero, List.set_cons_succ]
                  refine held_one 12 (by kernel_rfl) (by rfl) (fun K' hK' => ?_)
                  refine if_store rfl (by rfl) 149 (.tmp 17) (.tmp 226) rfl wq.heap.size 0 149 _ (frame5 A15 Av k15 c15 kv cv tg d.frm) rfl rfl rF (by rw [hFC.len, zeroF_len]; omega) (by rw [hFC.len]; exact sizeFrame) hFC.one (fun wS rS oS => ?_)
                  have dS : Below w34.heap.size w34 wS := dF.trans (oS.below _ (dq.size))
                  refine hK'.out _ _ (dS) ?_
                  clear hK' K'
                  refine wpAnyH_done (by kernel_rfl) ?_ _
                  refine NoPanic.normal ?_
                  rw [spl_all _ _ (by rw [hFC.len, zeroF_len])] at rS
                  have zd : w34.drew.heap.size = w34.heap.size := rfl
                  have zq := bq.size
                  have zF := bF.size
                  have qq := nq.kept bF
                  have ne : OffS (G3 bw wq.heap.size) Av kv := fun y hy h0 h1 => by have h2 := nat_blk nq y hy h0; have h3 := Nq y hy; rcases h1 with h4 | h4 <;> omega
                  have q1 : IsNat wS Av kv cv (beN d.value) := StabS.nat (G := G3 bw wq.heap.size) qq ne wS (ChgS.only oS (.inr rfl))
                  go_wp2_with fail
                  go_meet
                  case rel => exact ⟨wq.heap.size, Av, kv, cv, rfl, dq.size, rS, q1, ne, dS⟩
                · refine if_alloc (some 17) rfl 149 rfl (by rfl) _ 60 infoFrame2 zeroF_len (fun wF rF bF sF => ?_)
                  have dF := d34.trans (bF.mono d34.size)
                  refine hK'.out _ _ (dF) ?_
                  clear hK' K'
                  simp only [Act.put, List.setIfInBounds_toArray, List.set_cons_zero, List.set_cons_succ]
                  refine held_one 6 (by kernel_rfl) (by rfl) (fun K' hK' => ?_)
                  go_simp
                  refine (fromBE_any _ 32 32 d.value wF (unhide HSV _ dF) (by omega)).mono ?_
                  rintro e wq ⟨Av, kv, cv, rfl, nq, Nq, bq⟩
                  have dq := dF.trans (bq.mono dF.size)
                  refine hK'.out _ _ (dq) ?_
                  clear hK' K'
                  refine held_takeD 10 (.agg (frame5 A15 Av k15 c15 kv cv tg d.frm).toArray) (some 226) (by rfl) (by rfl) (by kernel_rfl) (by kernel_rfl) (by kernel_rfl) (fun _ _ _ h => h) (yieldsIf_build (by rfl) 149 [(0, .const (.int .u8 0)), (4, .tmp 219), (5, .tmp 222), (12, .tmp 223), (13, .tmp 225)] rfl _ (fun wx => run_frame5 wx A15 Av k15 c15 kv cv tg d.frm htg hfrm)) dq ?_
                  simp only [Act.put, List.setIfInBounds_toArray, List.set_cons_zero, List.set_cons_succ]
                  have hFC := frame5_ok A15 Av k15 c15 kv cv tg d.frm htg hfrm
                  refine held_one 12 (by kernel_rfl) (by rfl) (fun K' hK' => ?_)
                  refine if_store rfl (by rfl) 149 (.tmp 17) (.tmp 226) rfl w34.heap.size 0 149 _ (frame5 A15 Av k15 c15 kv cv tg d.frm) rfl rfl (rF.kept bq) (by rw [hFC.len, zeroF_len]; omega) (by rw [hFC.len]; exact sizeFrame) hFC.one (fun wS rS oS => ?_)
                  have dS : Below w34.heap.size w34 wS := dq.trans (oS.below _ (Nat.le_refl _))
                  refine hK'.out _ _ (dS) ?_
                  clear hK' K'
                  refine wpAnyH_done (by kernel_rfl) ?_ _
                  refine NoPanic.normal ?_
                  rw [spl_all _ _ (by rw [hFC.len, zeroF_len])] at rS
                  have zd : w34.drew.heap.size = w34.heap.size := rfl
                  have zq := bq.size
                  have zF := bF.size
                  have qq := nq
                  have ne : OffS (G3 bw w34.heap.size) Av kv := fun y hy h0 h1 => by have h2 := nat_blk nq y hy h0; have h3 := Nq y hy; rcases h1 with h4 | h4 <;> omega
                  have q1 : IsNat wS Av kv cv (beN d.value) := StabS.nat (G := G3 bw w34.heap.size) qq ne wS (ChgS.only oS (.inr rfl))
                  go_wp2_with fail
                  go_meet
                  case rel => exact ⟨w34.heap.size, Av, kv, cv, rfl, Nat.le_refl _, rS, q1, ne, dS⟩
              case rest =>
                as_aux_lemma =>
                obtain ⟨w35, hw35⟩ : ∃ w35, w35 = wc := ⟨_, rfl⟩
                subst hw35
                obtain ⟨gF, Av, kv, cv, rfl, hgF, hr35, hn35, ho35, b35⟩ := hcut
                have hFC := frame5_ok A15 Av k15 c15 kv cv tg d.frm htg hfrm
                generalize frame5 A15 Av k15 c15 kv cv tg d.frm = fr0 at hr35 hFC
                have hbgF : bw ≠ gF := by omega
                have HNV := hide (StabS.nat (G := G3 bw gF) hn35 ho35)
                have fs35 : FS bw gF cs34 w34 w35 fr0 w35 := ⟨((unhide HS34).kept b35).row, hr35, Chg.of b35, ChgS.refl _ _⟩
                have e40 : w35.cell? ⟨w.heap.size, 40, none⟩ = some (.bool cr) := by rw [(unhide HS45 w35 b35).1.cell, unhide HCR]; exact h.create
                have hTGr : ∀ wz, Chg bw w34 wz → wz.rangeAt w3.heap.size 0 (bv tg) := fun wz hz => (unhide HTG wz (c1034.trans hz)).rangeAll
                have HTGR := hide hTGr
                have hDat : ∀ wz, Chg bw w34 wz → Src wz A1 k1 c1 d.data ∧ wz.cell? ⟨w.heap.size, 107, none⟩ = some (.slice A1 k1 c1) := fun wz hz => ⟨hd0.kept (unhide HB0 wz (c234.trans hz)), by rw [(unhide HT wz (c234.trans hz)).cell]; exact h.data⟩
                have HDAT := hide hDat
                have hk1 : k1 ≤ 140737488355328 := by rw [← hd0.len_eq]; omega
                have hend : ∀ wz, Chg bw w34 wz → Chg bw w wz := fun wz hz => unhide HCW wz (c234.trans hz)
                have HEND := hide hend
                have hvalB := hval.big
                have huF := Sakg.underlying149
                have FS35 := hide fs35
                have HFC := hide hFC
                clear hr35 hn35 ho35 fs35 hTGr hDat hend hFC HS45 HSV
                cases cr with
                | false =>
                  as_aux_lemma =>
                  have HTG35 := hide (unhide HTGR w35 (unhide FS35).chg)
                  have HNA := hide (nativeAt_any tg w35 htg)
                  go_upto_region 48 with (first
                    | ((with_reducible refine at_load 63 ?_); refine wpList_load_g (by rfl) 63 (.tmp 8) rfl w3.heap.size 0 rfl (bv tg) _ (unhide HTG35) hu rfl hszt ?_)
                    | (go_at_call 74; refine (unhide HNA).mono ?_; rintro e w36 ⟨rfl, b36⟩; have fs36 := (unhide FS35).kept b36; obtain ⟨v36, hx36⟩ := fs36.cell (unhide HFC).len (i := 1) (by omega); have hf36 := fs36.frm.froz 1; have FS36 := hide fs36; clear fs36))
                  obtain ⟨nv, hnv⟩ : ∃ nv, nv = nativeN tg := ⟨_, rfl⟩
                  rw [← hnv]
                  obtain ⟨w37, hw37⟩ : ∃ y, y = w36.setCell ⟨gF, 1, none⟩ (Value.int .u8 nv) := ⟨_, rfl⟩
                  rw [← hw37]
                  have fs37 := hw37 ▸ (unhide FS36).put hgF hbgF 1 (Value.int .u8 nv)
                  have FC37 := hide ((unhide HFC).set 1 (by omega) (by omega) (by omega) (Value.int .u8 nv) rfl)
                  have e1 : w37.cell? ⟨gF, 1, none⟩ = some (.int .u8 nv) := by rw [fs37.frm.cell]; exact List.getElem?_set_self (by rw [(unhide HFC).len]; omega)
                  have FS37 := hide fs37
                  clear hw37 hx36 hf36 fs37 HNA HTG35 hnv FS36
                  by_cases hnv : nv = 0
                  · as_aux_lemma =>
                    subst hnv
                    have t0 : ((0 : Int) == 0) = true := rfl
                    go_upto_region 49 with fail
                    have d37 : Below w37.heap.size w37 w37.drew := Quiet.below ⟨1, rfl⟩ _
                    have hS49 : ∀ wz, Below w37.heap.size w37 wz → wz.rangeAt w3.heap.size 0 (bv tg) := fun wz hz => unhide HTGR wz ((unhide FS37).chg.trans (Chg.of hz))
                    have HS49 := hide hS49
                    have hs37 := (unhide FS37).bs (unhide HS34)
                    have HAC := hide (hs37.account (by omega) d37 tg htg)
                    clear hS49 hs37
                    refine wp_region_noPanic ?_
                    refine wp_region_held_drew (S := fun w' => w'.rangeAt w3.heap.size 0 (bv tg)) (by kernel_rfl) (unhide HS49 _ d37) (fun hHeld => ?_)
                    refine held_takeD 0 (.pointer (some ⟨bw, 0, none⟩)) (some 236) (by rfl) (by rfl) (by kernel_rfl) (by kernel_rfl) (by kernel_rfl) (fun _ _ _ h => h) (.inl ⟨by rfl, fun _ _ => by rfl⟩) (hHeld) ?_
                    simp only [Act.put, List.setIfInBounds_toArray, List.set_cons_zero, List.set_cons_succ]
                    refine held_takeD 1 (.pointer (some ⟨bw, 0, none⟩)) (some 237) (by rfl) (by rfl) (by kernel_rfl) (by kernel_rfl) (by kernel_rfl) (fun _ _ _ h => h) (.inl ⟨by rfl, fun _ _ => by go_simp⟩) (hHeld) ?_
                    simp only [Act.put, List.setIfInBounds_toArray, List.set_cons_zero, List.set_cons_succ]
                    refine held_takeD 2 (.pointer (some ⟨bw, 0, none⟩)) (some 238) (by rfl) (by rfl) (by kernel_rfl) (by kernel_rfl) (by kernel_rfl) (fun _ _ _ h => h) (.inl ⟨by rfl, fun _ _ => by go_simp⟩) (hHeld) ?_
                    simp only [Act.put, List.setIfInBounds_toArray, List.set_cons_zero, List.set_cons_succ]
                    refine held_takeD 3 (.agg (bv tg).toArray) (some 239) (by rfl) (by rfl) (by kernel_rfl) (by kernel_rfl) (by kernel_rfl) (fun _ _ _ h => h) (yieldsIf_load_mid (by rfl) _ _ rfl _ _ rfl _ _ (fun wz hS => hS) hu rfl hszt) (hHeld) ?_
                    simp only [Act.put, List.setIfInBounds_toArray, List.set_cons_zero, List.set_cons_succ]
                    refine held_one 4 (by kernel_rfl) (by rfl) (fun K' hK' => ?_)
                    go_simp
                    refine (unhide HAC).mono ?_
                    rintro e w38 ⟨rx, xx, rfl, hrx, hfxx, b38⟩
                    refine hK'.out _ _ (unhide HS49 _ (d37.trans (b38.mono d37.size))) ?_
                    clear hK' K'
                    have d38 := d37.trans (b38.mono d37.size)
                    obtain ⟨E1, p1, r1', E2, p2, r2', E3, p3, r3', E4, p4, r4', u20, u21, u22, u23, y1, y2, y3, y4⟩ := hrx.cells
                    have hfld := run_field_slice fldCode Sakg.underlying23 rx _ u22
                    have hsc : Src w38 E3 p3 r3' xx.code := (y3.go (Chg.of d38)).now
                    have hp3 : p3 ≤ 140737488355328 := by rw [← hsc.len_eq]; exact Nat.le_trans hfxx.2.2.1 (by omega)
                    have HSC := hide hsc
                    clear hrx u20 u21 u22 u23 y1 y2 y3 y4 hsc
                    refine held_takeD 5 (.slice E3 p3 r3') (some 241) (by rfl) (by rfl) (by kernel_rfl) (by kernel_rfl) (by kernel_rfl) (fun _ _ _ h => h) (.inl ⟨by rfl, fun _ _ => by go_simp⟩) (unhide HS49 _ d38) ?_
                    simp only [Act.put, List.setIfInBounds_toArray, List.set_cons_zero, List.set_cons_succ]
                    refine held_one 6 (by kernel_rfl) (by rfl) (fun K' hK' => ?_)
                    go_simp
                    refine (bytesOf_any E3 p3 r3' xx.code w38 (unhide HSC) hp3).mono ?_
                    rintro e w39 ⟨Ac, kc, rfl, -, -, -, b39⟩
                    refine hK'.out _ _ (unhide HS49 _ (d38.trans (b39.mono d38.size))) ?_
                    clear hK' K'
                    have d39 := d38.trans (b39.mono d38.size)
                    refine held_takeD 7 (.pointer (some ⟨gF, 10, none⟩)) (some 243) (by rfl) (by rfl) (by kernel_rfl) (by kernel_rfl) (by kernel_rfl) (fun _ _ _ h => h) (.inl ⟨by rfl, fun _ _ => by go_simp⟩) (unhide HS49 _ d39) ?_
                    simp only [Act.put, List.setIfInBounds_toArray, List.set_cons_zero, List.set_cons_succ]
                    have fs39 := (unhide FS37).kept d39
                    obtain ⟨v39, hx39⟩ := fs39.cell (unhide FC37).len (i := 10) (by omega)
                    have hf39 := fs39.frm.froz 10
                    refine held_one 8 (by kernel_rfl) (by rfl) (fun K' hK' => ?_)
                    go_simp
                    obtain ⟨w40, hw40⟩ : ∃ y, y = w39.setCell ⟨gF, 10, none⟩ (Value.slice Ac kc kc) := ⟨_, rfl⟩
                    rw [← hw40]
                    have fs40 := hw40 ▸ fs39.put hgF hbgF 10 (Value.slice Ac kc kc)
                    have FC40 := hide ((unhide FC37).set 10 (by omega) (by omega) (by omega) (Value.slice Ac kc kc) rfl)
                    refine hK'.out _ _ (unhide HTGR w40 fs40.chg) ?_
                    clear hK' K' hw40
                    refine wpAnyH_done (by kernel_rfl) ?_ _
                    refine NoPanic.normal ?_
                    have FS40 := hide fs40
                    clear fs40 fs39 hx39 hf39 hfld HSC HAC HS49
                    have e107 := (unhide HDAT w40 (unhide FS40).chg).2
                    have HDB := hide (bytesOf_any A1 k1 c1 d.data w40 (unhide HDAT w40 (unhide FS40).chg).1 hk1)
                    go_upto_region 58 with (go_at_call 75; refine (unhide HDB).mono ?_; rintro e wd ⟨Ad, kd, rfl, -, -, -, bd⟩; have fsd := (unhide FS40).kept bd; obtain ⟨vd, hxd⟩ := fsd.cell (unhide FC40).len (i := 11) (by omega); have hfd := fsd.frm.froz 11; have FSD := hide fsd; clear fsd)
                    obtain ⟨w41, hw41⟩ : ∃ y, y = wd.setCell ⟨gF, 11, none⟩ (Value.slice Ad kd kd) := ⟨_, rfl⟩
                    rw [← hw41]
                    have FSw41 := hide (hw41 ▸ (unhide FSD).put hgF hbgF 11 (Value.slice Ad kd kd))
                    have FCw41 := hide ((unhide FC40).set 11 (by omega) (by omega) (by omega) (Value.slice Ad kd kd) rfl)
                    clear hw41 hxd hfd FSD e107 HDB
                    as_aux_lemma =>
                    obtain ⟨v11, hx11⟩ := ((unhide FSw41).bs (unhide HS34)).some (i := 11) (by omega)
                    have hf11 := (unhide FSw41).row.froz 11
                    go_upto_region 59 with fail
                    obtain ⟨w50, hw50⟩ : ∃ y, y = w41.setCell ⟨bw, 11, none⟩ (Value.int .u8 1) := ⟨_, rfl⟩
                    rw [← hw50]
                    have o50 : Only bw w41 w50 := hw50 ▸ (Only.refl bw w41).setCell 11 (Value.int .u8 1)
                    have hs50 := hw50 ▸ ((unhide FSw41).bs (unhide HS34)).set 11 (by omega) (by omega) (Value.int .u8 1)
                    have c50 : Chg bw w34 w50 := (unhide FSw41).chg.trans (Chg.ofOnly o50)
                    have s50 : ChgS (G3 bw gF) w35 w50 := (unhide FSw41).chs.then (ChgS.only (G := G3 bw gF) o50 (.inl rfl)) (fun _ h _ => h)
                    have r50 := (unhide FSw41).frm.only o50 (Ne.symm hbgF)
                    have h509 : (cs34.set 11 (Value.int .u8 1))[9]? = some nilS := by rw [List.getElem?_set_ne (by omega)]; exact unhide H349
                    have n50 : Stab bw (fun w => IsNat w Av kv cv (beN d.value)) w50 := ((unhide HNV).go (G' := G3 bw gF) s50 (fun _ h _ => h)).stab (.inl rfl)
                    have HEN := hide (enter_any hs50 (by omega) (by omega) (by omega) h509 _ 0 tg d.frm Av kv cv (beN d.value) (unhide FCw41) (.inl rfl) n50 hvalB)
                    have HRF := hide r50.rangeAll
                    have hsF := (unhide FCw41).len
                    clear hs50 r50 h509 n50 hw50 hx11 hf11 hsF
                    go_wp2_with (first
                      | ((with_reducible refine at_load 149 ?_); refine wpList_load_g (by rfl) 149 (.tmp 17) rfl gF 0 rfl _ _ (unhide HRF) huF rfl (by rw [(unhide FCw41).len]; exact sizeFrame) ?_)
                      | (go_at_call 77; refine (unhide HEN).mono ?_; rintro e w51 ⟨rfl, hc51⟩))
                    go_ret
                    exact ⟨rfl, unhide HEND _ (c50.trans hc51)⟩
                  · as_aux_lemma =>
                    have t0 : ((nv : Int) == 0) = false := by rw [beq_eq_false_iff_ne]; omega
                    have e107 := (unhide HDAT w37 (unhide FS37).chg).2
                    have HDB := hide (bytesOf_any A1 k1 c1 d.data w37 (unhide HDAT w37 (unhide FS37).chg).1 hk1)
                    go_upto_region 58 with (go_at_call 75; refine (unhide HDB).mono ?_; rintro e wd ⟨Ad, kd, rfl, -, -, -, bd⟩; have fsd := (unhide FS37).kept bd; obtain ⟨vd, hxd⟩ := fsd.cell (unhide FC37).len (i := 11) (by omega); have hfd := fsd.frm.froz 11; have FSD := hide fsd; clear fsd)
                    obtain ⟨w41, hw41⟩ : ∃ y, y = wd.setCell ⟨gF, 11, none⟩ (Value.slice Ad kd kd) := ⟨_, rfl⟩
                    rw [← hw41]
                    have FSw41 := hide (hw41 ▸ (unhide FSD).put hgF hbgF 11 (Value.slice Ad kd kd))
                    have FCw41 := hide ((unhide FC37).set 11 (by omega) (by omega) (by omega) (Value.slice Ad kd kd) rfl)
                    clear hw41 hxd hfd FSD e107 HDB
                    as_aux_lemma =>
                    obtain ⟨v11, hx11⟩ := ((unhide FSw41).bs (unhide HS34)).some (i := 11) (by omega)
                    have hf11 := (unhide FSw41).row.froz 11
                    go_upto_region 59 with fail
                    obtain ⟨w50, hw50⟩ : ∃ y, y = w41.setCell ⟨bw, 11, none⟩ (Value.int .u8 1) := ⟨_, rfl⟩
                    rw [← hw50]
                    have o50 : Only bw w41 w50 := hw50 ▸ (Only.refl bw w41).setCell 11 (Value.int .u8 1)
                    have hs50 := hw50 ▸ ((unhide FSw41).bs (unhide HS34)).set 11 (by omega) (by omega) (Value.int .u8 1)
                    have c50 : Chg bw w34 w50 := (unhide FSw41).chg.trans (Chg.ofOnly o50)
                    have s50 : ChgS (G3 bw gF) w35 w50 := (unhide FSw41).chs.then (ChgS.only (G := G3 bw gF) o50 (.inl rfl)) (fun _ h _ => h)
                    have r50 := (unhide FSw41).frm.only o50 (Ne.symm hbgF)
                    have h509 : (cs34.set 11 (Value.int .u8 1))[9]? = some nilS := by rw [List.getElem?_set_ne (by omega)]; exact unhide H349
                    have n50 : Stab bw (fun w => IsNat w Av kv cv (beN d.value)) w50 := ((unhide HNV).go (G' := G3 bw gF) s50 (fun _ h _ => h)).stab (.inl rfl)
                    have HEN := hide (enter_any hs50 (by omega) (by omega) (by omega) h509 _ 0 tg d.frm Av kv cv (beN d.value) (unhide FCw41) (.inl rfl) n50 hvalB)
                    have HRF := hide r50.rangeAll
                    have hsF := (unhide FCw41).len
                    clear hs50 r50 h509 n50 hw50 hx11 hf11 hsF
                    go_wp2_with (first
                      | ((with_reducible refine at_load 149 ?_); refine wpList_load_g (by rfl) 149 (.tmp 17) rfl gF 0 rfl _ _ (unhide HRF) huF rfl (by rw [(unhide FCw41).len]; exact sizeFrame) ?_)
                      | (go_at_call 77; refine (unhide HEN).mono ?_; rintro e w51 ⟨rfl, hc51⟩))
                    go_ret
                    exact ⟨rfl, unhide HEND _ (c50.trans hc51)⟩
                | true =>
                  as_aux_lemma =>
                  obtain ⟨v36, hx36⟩ := (unhide FS35).cell (unhide HFC).len (i := 0) (by omega)
                  have hf36 := (unhide FS35).frm.froz 0
                  go_upto_region 52 with fail
                  obtain ⟨w37, hw37⟩ : ∃ y, y = w35.setCell ⟨gF, 0, none⟩ (Value.int .u8 1) := ⟨_, rfl⟩
                  rw [← hw37]
                  have FS37 := hide (hw37 ▸ (unhide FS35).put hgF hbgF 0 (Value.int .u8 1))
                  have FC37 : Hid (FrC (fr0.set 0 (Value.int .u8 1)) 1 tg d.frm Av kv cv) := hide ((unhide HFC).setKind 1)
                  clear hw37 hx36 hf36
                  have e107 := (unhide HDAT w37 (unhide FS37).chg).2
                  have HDB := hide (bytesOf_any A1 k1 c1 d.data w37 (unhide HDAT w37 (unhide FS37).chg).1 hk1)
                  go_upto_region 53 with (go_at_call 75; refine (unhide HDB).mono ?_; rintro e wd ⟨Ad, kd, rfl, -, -, -, bd⟩; have fsd := (unhide FS37).kept bd; obtain ⟨vd, hxd⟩ := fsd.cell (unhide FC37).len (i := 10) (by omega); have hfd := fsd.frm.froz 10; have FSD := hide fsd; clear fsd)
                  obtain ⟨w41, hw41⟩ : ∃ y, y = wd.setCell ⟨gF, 10, none⟩ (Value.slice Ad kd kd) := ⟨_, rfl⟩
                  rw [← hw41]
                  have FSw41 := hide (hw41 ▸ (unhide FSD).put hgF hbgF 10 (Value.slice Ad kd kd))
                  have FCw41 := hide ((unhide FC37).set 10 (by omega) (by omega) (by omega) (Value.slice Ad kd kd) rfl)
                  clear hw41 hxd hfd FSD e107 HDB
                  have HTG41 := hide (unhide HTGR w41 (unhide FSw41).chg)
                  have HTK := hide (((unhide FSw41).bs (unhide HS34)).taken (by omega) tg htg)
                  go_upto_if 255 with (first
                    | ((with_reducible refine at_load 63 ?_); refine wpList_load_g (by rfl) 63 (.tmp 8) rfl w3.heap.size 0 rfl (bv tg) _ (unhide HTG41) hu rfl hszt ?_)
                    | (go_at_call 76; refine (unhide HTK).mono ?_; rintro e w42 ⟨⟨tk, rfl⟩, b42⟩))
                  have FS42 := hide ((unhide FSw41).kept b42)
                  clear HTG41 HTK
                  cases tk with
                  | true =>
                    as_aux_lemma =>
                    have hs42 := (unhide FS42).bs (unhide HS34)
                    obtain ⟨v11, hx11⟩ := hs42.some (i := 11) (by omega)
                    have hf11 := hs42.row.froz 11
                    have c42 := (unhide FS42).chg
                    have HS42 := hide hs42
                    clear hs42
                    go_upto_region 55 with fail
                    obtain ⟨w43, hw43⟩ : ∃ y, y = w42.setCell ⟨bw, 11, none⟩ (Value.int .u8 2) := ⟨_, rfl⟩
                    rw [← hw43]
                    have hs43 := hw43 ▸ (unhide HS42).set 11 (by omega) (by omega) (Value.int .u8 2)
                    have o43 : Only bw w42 w43 := hw43 ▸ (Only.refl bw w42).setCell 11 (Value.int .u8 2)
                    obtain ⟨v12, hx12⟩ := hs43.some (i := 12) (by omega)
                    have hf12 := hs43.row.froz 12
                    have HS43 := hide hs43
                    clear hs43 hw43 hx11 hf11
                    go_upto_region 56 with fail
                    obtain ⟨w44, hw44⟩ : ∃ y, y = w43.setCell ⟨bw, 12, none⟩ (Value.int .u8 12) := ⟨_, rfl⟩
                    rw [← hw44]
                    have hs44 := hw44 ▸ (unhide HS43).set 12 (by omega) (by omega) (Value.int .u8 12)
                    have o44 : Only bw w43 w44 := hw44 ▸ (Only.refl bw w43).setCell 12 (Value.int .u8 12)
                    obtain ⟨v16, hx16⟩ := hs44.some (i := 16) (by omega)
                    have hf16 := hs44.row.froz 16
                    clear hs44 hw44 hx12 hf12
                    go_wp2_with fail
                    go_ret
                    exact ⟨rfl, unhide HEND _ (c42.trans ((Chg.ofOnly o43).trans ((Chg.ofOnly o44).trans (Chg.ofOnly ((Only.refl bw w44).setCell 16 _)))))⟩
                  | false =>
                    as_aux_lemma =>
                    obtain ⟨v11, hx11⟩ := ((unhide FS42).bs (unhide HS34)).some (i := 11) (by omega)
                    have hf11 := (unhide FS42).row.froz 11
                    go_upto_region 59 with fail
                    obtain ⟨w50, hw50⟩ : ∃ y, y = w42.setCell ⟨bw, 11, none⟩ (Value.int .u8 1) := ⟨_, rfl⟩
                    rw [← hw50]
                    have o50 : Only bw w42 w50 := hw50 ▸ (Only.refl bw w42).setCell 11 (Value.int .u8 1)
                    have hs50 := hw50 ▸ ((unhide FS42).bs (unhide HS34)).set 11 (by omega) (by omega) (Value.int .u8 1)
                    have c50 : Chg bw w34 w50 := (unhide FS42).chg.trans (Chg.ofOnly o50)
                    have s50 : ChgS (G3 bw gF) w35 w50 := (unhide FS42).chs.then (ChgS.only (G := G3 bw gF) o50 (.inl rfl)) (fun _ h _ => h)
                    have r50 := (unhide FS42).frm.only o50 (Ne.symm hbgF)
                    have h509 : (cs34.set 11 (Value.int .u8 1))[9]? = some nilS := by rw [List.getElem?_set_ne (by omega)]; exact unhide H349
                    have n50 : Stab bw (fun w => IsNat w Av kv cv (beN d.value)) w50 := ((unhide HNV).go (G' := G3 bw gF) s50 (fun _ h _ => h)).stab (.inl rfl)
                    have HEN := hide (enter_any hs50 (by omega) (by omega) (by omega) h509 _ 1 tg d.frm Av kv cv (beN d.value) (unhide FCw41) (.inr rfl) n50 hvalB)
                    have HRF := hide r50.rangeAll
                    have hsF := (unhide FCw41).len
                    clear hs50 r50 h509 n50 hw50 hx11 hf11 hsF
                    go_wp2_with (first
                      | ((with_reducible refine at_load 149 ?_); refine wpList_load_g (by rfl) 149 (.tmp 17) rfl gF 0 rfl _ _ (unhide HRF) huF rfl (by rw [(unhide FCw41).len]; exact sizeFrame) ?_)
                      | (go_at_call 77; refine (unhide HEN).mono ?_; rintro e w51 ⟨rfl, hc51⟩))
                    go_ret
                    exact ⟨rfl, unhide HEND _ (c50.trans hc51)⟩

end Go.Proofs.Ygcsak
