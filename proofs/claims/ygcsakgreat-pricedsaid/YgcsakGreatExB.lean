/-
  yp: Export.
-/
import Derived.Test.YgcsakGreatExA
namespace Go.Proofs.YgcsakGreat
set_option linter.unusedVariables false
set_option linter.unusedSimpArgs false
set_option maxRecDepth 100000
open Go.RowKit

/-- the list that is laid -/
def GO (v : Value) (k : Nat) : Prop := v.ownBlock = some k
theorem takeGet {α : Type} {xs : List α} {i : Nat} (d0 : α) (h : i < xs.length) : xs.take (i + 1) = xs.take i ++ [xs.getD i d0] := by
  rw [List.take_succ_eq_append_getElem h]
  simp [List.getD, h]
theorem szA_mem {ds : List YAcct} {d : YAcct} (h : d ∈ ds) : 1 + d.slots.length ≤ szA ds := by
  induction ds with
  | nil => cases h
  | cons x xs ih =>
    rw [szA_cons]
    rcases List.mem_cons.1 h with rfl | h
    · omega
    · have := ih h; omega
theorem small_b (A : Option Addr) (k c m : Nat) (w : World) (h : IsNat w A k c m) (hm : m < 256 ^ 8) : Calls Sakg.prog 55 #[.slice A k c] w fun e w' => e = .returned (.int .u64 m) ∧ Below w.heap.size w w' := by
  have e : u64N m = m := by unfold u64N; rw [if_pos (by omega)]
  refine (small_any A k c m w h (nonce_big hm)).mono ?_
  rintro e' w' ⟨h1, rfl⟩
  rw [e] at h1
  exact ⟨h1, Below.refl _ _⟩
theorem oslot_mk {a b : List Int} (ha : IsW a) (hb : IsW b) : OSlotRow (bv a ++ bv b) (a, b) := ⟨rfl, ha, hb⟩
theorem EAcct.out {E : Nat → Prop} {w : World} {o : YAcct} {xr : List Value} {Ac Au : Option Addr} {kc j cu : Nat} {srows : List (List Value)} (hxr : xr = rowE o.addr o.nonce (be32 o.bal) (.slice Ac kc kc) (.slice Au j cu)) (hia : IsAddr o.addr) (hn : o.nonce < 256 ^ 8) (hw : IsW (be32 o.bal)) (h3 : KSrc E w Ac kc kc o.code) (h4 : StabS E (fun w => Rws w 64 Au j cu srows) w) (he : Each OSlotRow srows (o.slots.map fun s => (be32 s.1, be32 s.2))) : EAcct E w xr (outA o) := by
  unfold EAcct outA
  dsimp only
  exact ⟨Ac, kc, kc, Au, j, cu, hxr, hia, hn, hw, h3, srows, h4, he⟩
section
variable {G : Nat → Prop} {bw : Nat} {cs : List Value} {d : WD} {w : World} {B : Nat}
set_option maxHeartbeats 32000000 in
theorem export_any (h : CW G bw cs d w) (hg : Good B d) :
    Calls Sakg.prog 16 #[.pointer (some ⟨bw, 0, none⟩)] w fun e w' => ∃ A l c, e = .returned (.slice A l c) ∧ OAcctsR w' A l c (outs d.accts) ∧ Below w.heap.size w w' := by
  obtain ⟨ao, l, c, h0, rows0, hrw, heach⟩ := h.kw.accts
  have e0 := h.cell h0
  have hna := hg.na
  have hlen : d.accts.length = l := by rw [← heach.len, hrw.now.len_eq]
  have hl9 : l ≤ 900000 := by omega
  have HRW := hide hrw
  have HEACH := hide heach
  have HG := hide hg
  have HCW := hide h
  have hZ24 : (bv (zeros 20) ++ [nilS, nilS, nilS, nilS]).length = 24 := by simp [bv_len, zeros_len]
  have hu := Sakg.underlying26
  obtain ⟨ds, hds⟩ : ∃ ds, ds = d.accts := ⟨_, rfl⟩
  rw [← hds] at hlen
  have HLEN := hide hlen
  have HDS := hide hds
  rw [← hds] at HEACH
  rw [← hds]
  have hnsl : ∀ o ∈ ds, o.slots.length ≤ 900000 := fun o ho => by
    have h1 := hg.sz
    have h2 : 1 + o.slots.length ≤ szA d.accts := by rw [← hds]; exact szA_mem ho
    unfold szW at h1
    omega
  have HNSL := hide hnsl
  clear h hg hrw heach h0 hlen hds hnsl
  go_enter Sakg.func16, Sakg.ntmps16
  go_wp2_with fail
  go_loopg [3, 16] l (fun gk s3 iv wr => ∃ (i n : Nat) (v : Value) (rows : List (List Value)), i + gk = l ∧ iv = .int .i64 i ∧ v = s3 ∧ wr.ownsRow w.heap.size 43 55 v n rows.flatten ∧ Each (EAcct (GO v) wr) rows (outs (ds.take i)) ∧ rows.length = n ∧ n ≤ i ∧ Below w.heap.size w wr)
  case atStart => exact ⟨0, 0, nilS, [], by omega, rfl, rfl, World.ownsRow_nil _ _ _ _, trivial, rfl, by omega, Below.refl _ _⟩
  case round =>
    obtain ⟨wo, hwo⟩ : ∃ wo, wo = wr := ⟨_, rfl⟩
    subst hwo
    obtain ⟨i, n, v, rows, hi, rfl, rfl, hown, hec, hrn, hni, hb⟩ := hrel
    have HOWN := hide hown
    have HEC := hide hec
    have HRN := hide hrn
    clear hown hec hrn
    by_cases hil : i < l
    · as_aux_lemma =>
      obtain ⟨b, off, rfl, hlt, hat⟩ := rows_at' (zeroAcct []) ((unhide HRW).kp (ChgS.of hb)).now (unhide HEACH) (by omega)
      obtain ⟨ri, hrg, hrow⟩ := hat i hil
      obtain ⟨o, ho⟩ : ∃ o, o = ds.getD i (zeroAcct []) := ⟨_, rfl⟩
      have hilen : i < ds.length := by have := unhide HLEN; omega
      have hom : o ∈ ds := by rw [ho]; simp [List.getD, hilen]
      have hgo : GoodA o := (unhide HG).acc.all o (by rw [← unhide HDS]; exact hom)
      have hbl : o.bal < P256 := Nat.lt_of_le_of_lt (by rw [← (unhide HG).acc.sum, ← unhide HDS]; exact sumB_mem hom) (unhide HG).tot
      have hts := takeGet (zeroAcct []) hilen
      rw [← ho] at hrow hts
      have hnsl := unhide HNSL o hom
      have hrl := hrow.now.len
      have hsz : (Sakg.prog.info? 113).map (·.size) = some ri.length := by rw [hrl]; exact sizeAcct
      have HRG := hide hrg
      have HROW := hide hrow
      have HSZ := hide hsz
      have HRL := hide hrl
      have HTS := hide hts
      have HGO := hide hgo
      clear hat hrg hrow hsz hrl ho hgo hts hom
      go_upto_region 5 with (first
        | ((with_reducible refine at_load 113 ?_); refine wpList_load_g (by rfl) 113 (.tmp 18) rfl b _ rfl ri _ (unhide HRG) Sakg.underlying113 rfl (unhide HSZ) ?_)
        | ((with_reducible refine at_alloc 113 ?_); refine wpList_alloc_g (by rfl) 113 rfl (bv (zeros 20) ++ [nilS, nilS, nilS, nilS]) 24 infoAcct2 hZ24 ?_)
        | ((with_reducible refine at_store 113 ?_); refine wpList_store_whole rfl 113 (.tmp 5) (.tmp 19) rfl _ _ _ ri rfl rfl (RowT.new _ _ _) (by rw [unhide HRL, hZ24]) (unhide HSZ) (unhide HROW).now.one ?_; intro w1 hr1 hon1; have hbb1 := box_below hon1; clear hon1))
      have b1 := hbb1.1
      have bw1 : Below w.heap.size w w1 := hb.trans (b1.mono hb.size)
      have R1 := hide hr1
      have HEM := hide (empty_any wo.heap.size ri o w1 hr1 ((unhide HROW).go (ChgS.of bw1)).now (nonce_big (unhide HGO).non) (Nat.lt_trans hbl p256_lt))
      clear hbb1 hr1
      go_upto_if 20 with (go_at_call 54; refine (unhide HEM).mono ?_; rintro e w2 ⟨rfl, q2⟩)
      have b12 : Below w1.heap.size w1 w2 := q2.below _
      have bo2 : Below wo.heap.size wo w2 := b1.trans (b12.mono b1.size)
      have bw2 : Below w.heap.size w w2 := hb.trans (bo2.mono hb.size)
      cases hemp : emptyY o with
      | true =>
        as_aux_lemma =>
        have hnew : outs (ds.take (i + 1)) = outs (ds.take i) := by rw [unhide HTS, outs_snoc, if_pos hemp, List.append_nil]
        have HNEW := hide hnew
        clear hnew
        go_wp2
        go_roundg (l - 1 - i)
        case measure => omega
        case rel => exact ⟨i + 1, n, v, rows, by omega, rfl, rfl, own_kept (unhide HOWN) bo2, by rw [unhide HNEW]; exact (unhide HEC).imp fun _ _ hh => hh.go (ChgS.of bo2) (fun _ hk _ => hk), unhide HRN, by omega, bw2⟩
      | false =>
        as_aux_lemma =>
        have hnew : outs (ds.take (i + 1)) = outs (ds.take i) ++ [outA o] := by rw [unhide HTS, outs_snoc, if_neg (by rw [hemp]; simp)]
        have HNEW := hide hnew
        obtain ⟨D1, m1, g1, D2, m2, g2, D3, m3, g3, D4, m4, g4, q20, q21, q22, q23, s1, s2, s3, s4⟩ := (unhide HROW).cells
        have hia := (unhide HROW).now.addr
        have hszo := hia.size
        have hpre := (unhide HROW).now.pre
        have hbx : ∀ wz, Below w2.heap.size w2 wz → RowT 113 wz wo.heap.size ri := fun wz hz => ((unhide R1).kept b12).kept hz
        have hbw : ∀ wz, Below w2.heap.size w2 wz → Below w.heap.size w wz := fun wz hz => bw2.trans (hz.mono bw2.size)
        have hca : ∀ wz, Below w2.heap.size w2 wz → wz.rangeAt wo.heap.size 0 (bv o.addr) := fun wz hz => by have := (hbx wz hz).range 0 20; rwa [hpre] at this
        have hn1 : ∀ wz, Below w2.heap.size w2 wz → IsNat wz D1 m1 g1 o.nonce := fun wz hz => (s1.kp (ChgS.of (hbw wz hz))).now
        have hn2 : ∀ wz, Below w2.heap.size w2 wz → IsNat wz D2 m2 g2 o.bal := fun wz hz => (s2.kp (ChgS.of (hbw wz hz))).now
        have hn3 : ∀ wz, Below w2.heap.size w2 wz → Src wz D3 m3 g3 o.code := fun wz hz => (s3.kp (ChgS.of (hbw wz hz))).now
        have hm3 : m3 ≤ 140737488355328 := by have h1 := s3.now.len_eq; have h2 := (unhide HGO).code; omega
        have hm4e : o.slots.length = m4 := s4.len
        obtain ⟨srows0, sg1, sg2⟩ := s4
        have SG1 := hide sg1
        have SG2 := hide sg2
        have HM4 := hide hm4e
        have HBX := hide hbx
        have HBW := hide hbw
        have HCA := hide hca
        have HN1 := hide hn1
        have HN2 := hide hn2
        have HN3 := hide hn3
        have Q20 := hide q20
        have Q21 := hide q21
        have Q22 := hide q22
        have Q23 := hide q23
        have d2 : Below w2.heap.size w2 w2.drew := Quiet.below ⟨1, rfl⟩ _
        have hn8 := (unhide HGO).non
        have hz55 : (rowOA (zeros 20)).length = 55 := by simp [rowOA, bv_len, zeros_len]
        have hbW : IsW (be32 o.bal) := be32_isW _
        have hm4b : m4 ≤ 900000 := by omega
        clear hnew hbx hbw hca hn1 hn2 hn3 s1 s2 s3 sg1 sg2 q20 q21 q22 q23 hm4e hpre HEM
        go_upto_region 6 with fail
        go_cut [6] (fun s6 wc => ∃ (gX : Nat) (Ac : Option Addr) (kc : Nat), s6 = .pointer (some ⟨gX, 0, none⟩) ∧ w2.heap.size ≤ gX ∧ RowT 43 wc gX (rowE o.addr o.nonce (be32 o.bal) (.slice Ac kc kc) nilS) ∧ Src wc Ac kc kc o.code ∧ New w2 Ac ∧ OffS (· = gX) Ac kc ∧ Below w2.heap.size w2 wc)
        case first =>
          --S1
          as_aux_lemma =>
          refine wp_region_noPanic ?_
          refine wp_region_held_drew (S := fun w' => Below w2.heap.size w2 w') (by kernel_rfl) (d2) (fun hHeld => ?_)
          refine held_takeD 0 (.pointer (some ⟨wo.heap.size, 0, none⟩)) (some 21) (by rfl) (by rfl) (by kernel_rfl) (by kernel_rfl) (by kernel_rfl) (fun _ _ _ h => h) (.inl ⟨by rfl, fun _ _ => by go_simp⟩) (hHeld) ?_
          simp only [Act.put, List.setIfInBounds_toArray, List.set_cons_zero, List.set_cons_succ]
          refine held_takeD 1 (.agg (bv o.addr).toArray) (some 22) (by rfl) (by rfl) (by kernel_rfl) (by kernel_rfl) (by kernel_rfl) (fun _ _ _ h => h) (yieldsIf_load_mid (by rfl) _ _ rfl _ _ rfl _ _ (fun wz hS => unhide HCA wz hS) hu rfl hszo) (hHeld) ?_
          simp only [Act.put, List.setIfInBounds_toArray, List.set_cons_zero, List.set_cons_succ]
          refine held_takeD 2 (.pointer (some ⟨wo.heap.size, 20, none⟩)) (some 23) (by rfl) (by rfl) (by kernel_rfl) (by kernel_rfl) (by kernel_rfl) (fun _ _ _ h => h) (.inl ⟨by rfl, fun _ _ => by go_simp⟩) (hHeld) ?_
          simp only [Act.put, List.setIfInBounds_toArray, List.set_cons_zero, List.set_cons_succ]
          refine held_takeD 3 (.slice D1 m1 g1) (some 24) (by rfl) (by rfl) (by kernel_rfl) (by kernel_rfl) (by kernel_rfl) (fun _ _ _ h => h) (.inl ⟨by rfl, fun wS hS => by have hc : wS.cell? ⟨wo.heap.size, 20, none⟩ = some (.slice D1 m1 g1) := by { rw [(unhide HBX wS hS).cell]; exact unhide Q20 }; go_simp⟩) (hHeld) ?_
          simp only [Act.put, List.setIfInBounds_toArray, List.set_cons_zero, List.set_cons_succ]
          refine held_takeD 5 (.pointer (some ⟨wo.heap.size, 21, none⟩)) (some 26) (by rfl) (by rfl) (by kernel_rfl) (by kernel_rfl) (by kernel_rfl) (fun _ _ _ h => h) (.inl ⟨by rfl, fun _ _ => by go_simp⟩) (hHeld) ?_
          simp only [Act.put, List.setIfInBounds_toArray, List.set_cons_zero, List.set_cons_succ]
          refine held_takeD 6 (.slice D2 m2 g2) (some 27) (by rfl) (by rfl) (by kernel_rfl) (by kernel_rfl) (by kernel_rfl) (fun _ _ _ h => h) (.inl ⟨by rfl, fun wS hS => by have hc : wS.cell? ⟨wo.heap.size, 21, none⟩ = some (.slice D2 m2 g2) := by { rw [(unhide HBX wS hS).cell]; exact unhide Q21 }; go_simp⟩) (hHeld) ?_
          simp only [Act.put, List.setIfInBounds_toArray, List.set_cons_zero, List.set_cons_succ]
          refine held_takeD 8 (.pointer (some ⟨wo.heap.size, 22, none⟩)) (some 29) (by rfl) (by rfl) (by kernel_rfl) (by kernel_rfl) (by kernel_rfl) (fun _ _ _ h => h) (.inl ⟨by rfl, fun _ _ => by go_simp⟩) (hHeld) ?_
          simp only [Act.put, List.setIfInBounds_toArray, List.set_cons_zero, List.set_cons_succ]
          refine held_takeD 9 (.slice D3 m3 g3) (some 30) (by rfl) (by rfl) (by kernel_rfl) (by kernel_rfl) (by kernel_rfl) (fun _ _ _ h => h) (.inl ⟨by rfl, fun wS hS => by have hc : wS.cell? ⟨wo.heap.size, 22, none⟩ = some (.slice D3 m3 g3) := by { rw [(unhide HBX wS hS).cell]; exact unhide Q22 }; go_simp⟩) (hHeld) ?_
          simp only [Act.put, List.setIfInBounds_toArray, List.set_cons_zero, List.set_cons_succ]
          refine held_two 4 12 (by kernel_rfl) (by rfl) (by rfl) (fun K' hK' => ?_) (fun K' hK' => ?_)
          · go_simp
            refine (small_b D1 m1 g1 o.nonce w2.drew (unhide HN1 _ d2) hn8).mono ?_
            rintro e wa ⟨rfl, ba⟩
            have da := d2.trans (ba.mono d2.size)
            refine hK'.out _ _ (da) ?_
            clear hK' K'
            refine held_two 7 12 (by kernel_rfl) (by rfl) (by rfl) (fun K' hK' => ?_) (fun K' hK' => ?_)
            · go_simp
              refine (word_any D2 m2 g2 o.bal wa (unhide HN2 _ da) hbl).mono ?_
              rintro e wb ⟨rfl, bb⟩
              have db := da.trans (bb.mono da.size)
              refine hK'.out _ _ (db) ?_
              clear hK' K'
              refine held_two 10 12 (by kernel_rfl) (by rfl) (by rfl) (fun K' hK' => ?_) (fun K' hK' => ?_)
              · go_simp
                refine (bytesOf_any D3 m3 g3 o.code wb (unhide HN3 _ db) hm3).mono ?_
                rintro e wc ⟨Ac, kc, rfl, nc, -, Nc, bc⟩
                have dc := db.trans (bc.mono db.size)
                refine hK'.out _ _ (dc) ?_
                clear hK' K'
                refine held_takeD 11 (.agg (rowE o.addr o.nonce (be32 o.bal) (.slice Ac kc kc) nilS).toArray) (some 32) (by rfl) (by rfl) (by kernel_rfl) (by kernel_rfl) (by kernel_rfl) (fun _ _ _ h => h) (yieldsIf_build (by rfl) 43 [(0, .tmp 22), (1, .tmp 25), (2, .tmp 28), (3, .tmp 31)] rfl _ (fun wx => run_rowE wx hia hbW o.nonce Ac kc kc)) dc ?_
                simp only [Act.put, List.setIfInBounds_toArray, List.set_cons_zero, List.set_cons_succ]
                refine held_one 12 (by kernel_rfl) (by rfl) (fun K' hK' => ?_)
                refine if_alloc (some 6) rfl 43 rfl (by rfl) _ 55 infoOA hz55 (fun wX rX bX sX => ?_)
                have dX := dc.trans (bX.mono dc.size)
                refine hK'.out _ _ (dX) ?_
                clear hK' K'
                simp only [Act.put, List.setIfInBounds_toArray, List.set_cons_zero, List.set_cons_succ]
                refine held_one 13 (by kernel_rfl) (by rfl) (fun K' hK' => ?_)
                refine if_store rfl (by rfl) 43 (.tmp 6) (.tmp 32) rfl wc.heap.size 0 43 _ (rowE o.addr o.nonce (be32 o.bal) (.slice Ac kc kc) nilS) rfl rfl rX (by rw [rowE_len hia hbW, hz55]; omega) (by rw [rowE_len hia hbW]; exact sizeOA) (rowE_one _ _ _ rfl rfl) (fun wS rS oS => ?_)
                have dS : Below w2.heap.size w2 wS := dX.trans (oS.below _ (dc.size))
                refine hK'.out _ _ (dS) ?_
                clear hK' K'
                refine wpAnyH_done (by kernel_rfl) ?_ _
                refine NoPanic.normal ?_
                rw [spl_all _ _ (by rw [rowE_len hia hbW, hz55])] at rS
                have zd : w2.drew.heap.size = w2.heap.size := rfl
                have za := ba.size
                have zb := bb.size
                have zc := bc.size
                have zX := bX.size
                have qc := nc.kept bX
                have nec : OffS (· = wc.heap.size) Ac kc := fun y hy h0 h1 => by have h2 := nc.lt y hy h0; have h3 := Nc y hy; have h4 : y.block = wc.heap.size := h1; omega
                have nwc : New w2 Ac := fun y hy => by have h3 := Nc y hy; omega
                have q3 : Src wS Ac kc kc o.code := StabS.src (G := (· = wc.heap.size)) qc nec wS (ChgS.only oS rfl)
                have RS := hide rS
                have Q3 := hide q3
                clear rS q3 qc nc
                go_wp2_with fail
                go_meet
                case rel => exact ⟨wc.heap.size, Ac, kc, rfl, dc.size, unhide RS, unhide Q3, nwc, nec, dS⟩
              · refine if_alloc (some 6) rfl 43 rfl (by rfl) _ 55 infoOA hz55 (fun wX rX bX sX => ?_)
                have dX := db.trans (bX.mono db.size)
                refine hK'.out _ _ (dX) ?_
                clear hK' K'
                simp only [Act.put, List.setIfInBounds_toArray, List.set_cons_zero, List.set_cons_succ]
                refine held_one 10 (by kernel_rfl) (by rfl) (fun K' hK' => ?_)
                go_simp
                refine (bytesOf_any D3 m3 g3 o.code wX (unhide HN3 _ dX) hm3).mono ?_
                rintro e wc ⟨Ac, kc, rfl, nc, -, Nc, bc⟩
                have dc := dX.trans (bc.mono dX.size)
                refine hK'.out _ _ (dc) ?_
                clear hK' K'
                refine held_takeD 11 (.agg (rowE o.addr o.nonce (be32 o.bal) (.slice Ac kc kc) nilS).toArray) (some 32) (by rfl) (by rfl) (by kernel_rfl) (by kernel_rfl) (by kernel_rfl) (fun _ _ _ h => h) (yieldsIf_build (by rfl) 43 [(0, .tmp 22), (1, .tmp 25), (2, .tmp 28), (3, .tmp 31)] rfl _ (fun wx => run_rowE wx hia hbW o.nonce Ac kc kc)) dc ?_
                simp only [Act.put, List.setIfInBounds_toArray, List.set_cons_zero, List.set_cons_succ]
                refine held_one 13 (by kernel_rfl) (by rfl) (fun K' hK' => ?_)
                refine if_store rfl (by rfl) 43 (.tmp 6) (.tmp 32) rfl wb.heap.size 0 43 _ (rowE o.addr o.nonce (be32 o.bal) (.slice Ac kc kc) nilS) rfl rfl (rX.kept bc) (by rw [rowE_len hia hbW, hz55]; omega) (by rw [rowE_len hia hbW]; exact sizeOA) (rowE_one _ _ _ rfl rfl) (fun wS rS oS => ?_)
                have dS : Below w2.heap.size w2 wS := dc.trans (oS.below _ (db.size))
                refine hK'.out _ _ (dS) ?_
                clear hK' K'
                refine wpAnyH_done (by kernel_rfl) ?_ _
                refine NoPanic.normal ?_
                rw [spl_all _ _ (by rw [rowE_len hia hbW, hz55])] at rS
                have zd : w2.drew.heap.size = w2.heap.size := rfl
                have za := ba.size
                have zb := bb.size
                have zX := bX.size
                have zc := bc.size
                have qc := nc
                have nec : OffS (· = wb.heap.size) Ac kc := fun y hy h0 h1 => by have h2 := nc.lt y hy h0; have h3 := Nc y hy; have h4 : y.block = wb.heap.size := h1; omega
                have nwc : New w2 Ac := fun y hy => by have h3 := Nc y hy; omega
                have q3 : Src wS Ac kc kc o.code := StabS.src (G := (· = wb.heap.size)) qc nec wS (ChgS.only oS rfl)
                have RS := hide rS
                have Q3 := hide q3
                clear rS q3 qc nc
                go_wp2_with fail
                go_meet
                case rel => exact ⟨wb.heap.size, Ac, kc, rfl, db.size, unhide RS, unhide Q3, nwc, nec, dS⟩
            · refine if_alloc (some 6) rfl 43 rfl (by rfl) _ 55 infoOA hz55 (fun wX rX bX sX => ?_)
              have dX := da.trans (bX.mono da.size)
              refine hK'.out _ _ (dX) ?_
              clear hK' K'
              simp only [Act.put, List.setIfInBounds_toArray, List.set_cons_zero, List.set_cons_succ]
              refine held_one 7 (by kernel_rfl) (by rfl) (fun K' hK' => ?_)
              go_simp
              refine (word_any D2 m2 g2 o.bal wX (unhide HN2 _ dX) hbl).mono ?_
              rintro e wb ⟨rfl, bb⟩
              have db := dX.trans (bb.mono dX.size)
              refine hK'.out _ _ (db) ?_
              clear hK' K'
              refine held_one 10 (by kernel_rfl) (by rfl) (fun K' hK' => ?_)
              go_simp
              refine (bytesOf_any D3 m3 g3 o.code wb (unhide HN3 _ db) hm3).mono ?_
              rintro e wc ⟨Ac, kc, rfl, nc, -, Nc, bc⟩
              have dc := db.trans (bc.mono db.size)
              refine hK'.out _ _ (dc) ?_
              clear hK' K'
              refine held_takeD 11 (.agg (rowE o.addr o.nonce (be32 o.bal) (.slice Ac kc kc) nilS).toArray) (some 32) (by rfl) (by rfl) (by kernel_rfl) (by kernel_rfl) (by kernel_rfl) (fun _ _ _ h => h) (yieldsIf_build (by rfl) 43 [(0, .tmp 22), (1, .tmp 25), (2, .tmp 28), (3, .tmp 31)] rfl _ (fun wx => run_rowE wx hia hbW o.nonce Ac kc kc)) dc ?_
              simp only [Act.put, List.setIfInBounds_toArray, List.set_cons_zero, List.set_cons_succ]
              refine held_one 13 (by kernel_rfl) (by rfl) (fun K' hK' => ?_)
              refine if_store rfl (by rfl) 43 (.tmp 6) (.tmp 32) rfl wa.heap.size 0 43 _ (rowE o.addr o.nonce (be32 o.bal) (.slice Ac kc kc) nilS) rfl rfl (rX.kept (bb.trans (bc.mono bb.size))) (by rw [rowE_len hia hbW, hz55]; omega) (by rw [rowE_len hia hbW]; exact sizeOA) (rowE_one _ _ _ rfl rfl) (fun wS rS oS => ?_)
              have dS : Below w2.heap.size w2 wS := dc.trans (oS.below _ (da.size))
              refine hK'.out _ _ (dS) ?_
              clear hK' K'
              refine wpAnyH_done (by kernel_rfl) ?_ _
              refine NoPanic.normal ?_
              rw [spl_all _ _ (by rw [rowE_len hia hbW, hz55])] at rS
              have zd : w2.drew.heap.size = w2.heap.size := rfl
              have za := ba.size
              have zX := bX.size
              have zb := bb.size
              have zc := bc.size
              have qc := nc
              have nec : OffS (· = wa.heap.size) Ac kc := fun y hy h0 h1 => by have h2 := nc.lt y hy h0; have h3 := Nc y hy; have h4 : y.block = wa.heap.size := h1; omega
              have nwc : New w2 Ac := fun y hy => by have h3 := Nc y hy; omega
              have q3 : Src wS Ac kc kc o.code := StabS.src (G := (· = wa.heap.size)) qc nec wS (ChgS.only oS rfl)
              have RS := hide rS
              have Q3 := hide q3
              clear rS q3 qc nc
              go_wp2_with fail
              go_meet
              case rel => exact ⟨wa.heap.size, Ac, kc, rfl, da.size, unhide RS, unhide Q3, nwc, nec, dS⟩
          · refine if_alloc (some 6) rfl 43 rfl (by rfl) _ 55 infoOA hz55 (fun wX rX bX sX => ?_)
            have dX := d2.trans (bX.mono d2.size)
            refine hK'.out _ _ (dX) ?_
            clear hK' K'
            simp only [Act.put, List.setIfInBounds_toArray, List.set_cons_zero, List.set_cons_succ]
            refine held_one 4 (by kernel_rfl) (by rfl) (fun K' hK' => ?_)
            go_simp
            refine (small_b D1 m1 g1 o.nonce wX (unhide HN1 _ dX) hn8).mono ?_
            rintro e wa ⟨rfl, ba⟩
            have da := dX.trans (ba.mono dX.size)
            refine hK'.out _ _ (da) ?_
            clear hK' K'
            refine held_one 7 (by kernel_rfl) (by rfl) (fun K' hK' => ?_)
            go_simp
            refine (word_any D2 m2 g2 o.bal wa (unhide HN2 _ da) hbl).mono ?_
            rintro e wb ⟨rfl, bb⟩
            have db := da.trans (bb.mono da.size)
            refine hK'.out _ _ (db) ?_
            clear hK' K'
            refine held_one 10 (by kernel_rfl) (by rfl) (fun K' hK' => ?_)
            go_simp
            refine (bytesOf_any D3 m3 g3 o.code wb (unhide HN3 _ db) hm3).mono ?_
            rintro e wc ⟨Ac, kc, rfl, nc, -, Nc, bc⟩
            have dc := db.trans (bc.mono db.size)
            refine hK'.out _ _ (dc) ?_
            clear hK' K'
            refine held_takeD 11 (.agg (rowE o.addr o.nonce (be32 o.bal) (.slice Ac kc kc) nilS).toArray) (some 32) (by rfl) (by rfl) (by kernel_rfl) (by kernel_rfl) (by kernel_rfl) (fun _ _ _ h => h) (yieldsIf_build (by rfl) 43 [(0, .tmp 22), (1, .tmp 25), (2, .tmp 28), (3, .tmp 31)] rfl _ (fun wx => run_rowE wx hia hbW o.nonce Ac kc kc)) dc ?_
            simp only [Act.put, List.setIfInBounds_toArray, List.set_cons_zero, List.set_cons_succ]
            refine held_one 13 (by kernel_rfl) (by rfl) (fun K' hK' => ?_)
            refine if_store rfl (by rfl) 43 (.tmp 6) (.tmp 32) rfl w2.heap.size 0 43 _ (rowE o.addr o.nonce (be32 o.bal) (.slice Ac kc kc) nilS) rfl rfl (rX.kept ((ba.trans (bb.mono ba.size)).trans (bc.mono (ba.trans (bb.mono ba.size)).size))) (by rw [rowE_len hia hbW, hz55]; omega) (by rw [rowE_len hia hbW]; exact sizeOA) (rowE_one _ _ _ rfl rfl) (fun wS rS oS => ?_)
            have dS : Below w2.heap.size w2 wS := dc.trans (oS.below _ (Nat.le_refl _))
            refine hK'.out _ _ (dS) ?_
            clear hK' K'
            refine wpAnyH_done (by kernel_rfl) ?_ _
            refine NoPanic.normal ?_
            rw [spl_all _ _ (by rw [rowE_len hia hbW, hz55])] at rS
            have zd : w2.drew.heap.size = w2.heap.size := rfl
            have zX := bX.size
            have za := ba.size
            have zb := bb.size
            have zc := bc.size
            have qc := nc
            have nec : OffS (· = w2.heap.size) Ac kc := fun y hy h0 h1 => by have h2 := nc.lt y hy h0; have h3 := Nc y hy; have h4 : y.block = w2.heap.size := h1; omega
            have nwc : New w2 Ac := fun y hy => by have h3 := Nc y hy; omega
            have q3 : Src wS Ac kc kc o.code := StabS.src (G := (· = w2.heap.size)) qc nec wS (ChgS.only oS rfl)
            have RS := hide rS
            have Q3 := hide q3
            clear rS q3 qc nc
            go_wp2_with fail
            go_meet
            case rel => exact ⟨w2.heap.size, Ac, kc, rfl, Nat.le_refl _, unhide RS, unhide Q3, nwc, nec, dS⟩
          --E1
        case rest =>
          as_aux_lemma =>
          obtain ⟨gX, Ac, kc, rfl, hgX, rX, n3, N3, o3, bc⟩ := hcut
          have c23 : wc.cell? ⟨wo.heap.size, 23, none⟩ = some (.slice D4 m4 g4) := by rw [(unhide HBX wc bc).cell]; exact unhide Q23
          have hzc := bc.size
          have hz2 := bo2.size
          have hgXl : gX < wc.heap.size := rX.lt
          have RX := hide rX
          have M3 := hide n3
          clear rX n3
          go_wp2_with fail
          go_loopg [36] m4 (fun gk jv wr => ∃ (j : Nat) (u : Value) (srows : List (List Value)), j + gk = m4 ∧ jv = .int .i64 j ∧ RowT 43 wr gX (rowE o.addr o.nonce (be32 o.bal) (.slice Ac kc kc) u) ∧ wr.ownsRow wc.heap.size 40 64 u j srows.flatten ∧ Each OSlotRow srows ((o.slots.take j).map fun s => (be32 s.1, be32 s.2)) ∧ ChgS (· = gX) wc wr)
          case atStart => exact ⟨0, nilS, [], by omega, rfl, unhide RX, World.ownsRow_nil _ _ _ _, trivial, ChgS.refl _ _⟩
          case round =>
            obtain ⟨j, u, srows, hj, rfl, ru, hou, hes, hch⟩ := hrel
            have bwr : Below w.heap.size w wr := (unhide HBW wc bc).trans (hch.below w.heap.size (fun k hk => by have h1 : k = gX := hk; have := bw2.size; omega) (by have := bw2.size; omega))
            have hcs := hch.size
            have RU := hide ru
            have HOU := hide hou
            have HES := hide hes
            clear ru hou hes
            by_cases hjl : j < m4
            · --S2
              as_aux_lemma =>
              obtain ⟨bs, offs, rfl, hlts, hats⟩ := rows_at' ((0, 0) : Nat × Nat) ((unhide SG1).kp (ChgS.of bwr)).now (unhide SG2) (by omega)
              obtain ⟨rs, hrgs, hrs⟩ := hats j hjl
              have hjln : j < o.slots.length := by have := unhide HM4; omega
              obtain ⟨so, hso⟩ : ∃ so, so = o.slots.getD j (0, 0) := ⟨_, rfl⟩
              have hsm : so ∈ o.slots := by rw [hso]; simp [List.getD, hjln]
              have htsj := takeGet ((0, 0) : Nat × Nat) hjln
              rw [← hso] at hrs htsj
              have hsg := (unhide HGO).slots so hsm
              obtain ⟨Ak, kk, ck, Av, kv, cv, rfl, hkk, hkv⟩ := hrs
              have hss : (Sakg.prog.info? 117).map (·.size) = some [Value.slice Ak kk ck, .slice Av kv cv].length := sizeSlot
              have hones := row2_one Ak Av kk ck kv cv
              have HRG3 := hide hrgs
              have HKK := hide hkk
              have HKV := hide hkv
              have HTSJ := hide htsj
              clear hats hrgs hkk hkv hso htsj
              go_upto_region 10 with (first
                | ((with_reducible refine at_load 117 ?_); refine wpList_load_g (by rfl) 117 (.tmp 38) rfl bs _ rfl [Value.slice Ak kk ck, .slice Av kv cv] _ (unhide HRG3) Sakg.underlying117 rfl hss ?_)
                | ((with_reducible refine at_alloc 117 ?_); refine wpList_alloc_g (by rfl) 117 rfl [nilS, nilS] 2 infoSlot2c rfl ?_)
                | ((with_reducible refine at_store 117 ?_); refine wpList_store_whole rfl 117 (.tmp 8) (.tmp 39) rfl _ _ _ [Value.slice Ak kk ck, .slice Av kv cv] rfl rfl (RowT.new _ _ _) rfl hss hones ?_; intro w3 hr3 hon3; have hbb3 := box_below hon3; clear hon3))
              try simp only [Act.put, List.setIfInBounds_toArray, List.set_cons_zero, List.set_cons_succ]
              have hGS : wr.heap.size < w3.heap.size := hr3.lt
              have hown := unhide HOU
              have hul : ∀ k, u.ownBlock = some k → wc.heap.size ≤ k ∧ k < wr.heap.size := fun k hk => hown.lt k hk
              have hkey : ∀ wz, ChgS (fun k => k = gX ∨ u.ownBlock = some k) w3 wz → RowT 117 wz wr.heap.size [Value.slice Ak kk ck, .slice Av kv cv] := fun wz hz => by
                unfold RowT
                rw [hz.block wr.heap.size hGS (fun hg => by rcases hg with h | h; (omega); (have := (hul _ h).2; omega))]
                exact hr3
              have hbz : ∀ wz, Below w3.heap.size w3 wz → Below w.heap.size w wz := fun wz hz => bwr.trans ((hbb3.1.trans (hz.mono hbb3.1.size)).mono bwr.size)
              have hks : ∀ wz, Below w3.heap.size w3 wz → IsNat wz Ak kk ck so.1 := fun wz hz => ((unhide HKK).kp (ChgS.of (hbz wz hz))).now
              have hvs : ∀ wz, Below w3.heap.size w3 wz → IsNat wz Av kv cv so.2 := fun wz hz => ((unhide HKV).kp (ChgS.of (hbz wz hz))).now
              have HKS := hide hks
              have HVS := hide hvs
              have HKEY := hide hkey
              have R3 : Hid (RowT 43 w3 gX (rowE o.addr o.nonce (be32 o.bal) (.slice Ac kc kc) u)) := hide ((unhide RU).kept hbb3.1)
              have O3 : Hid (w3.ownsRow wc.heap.size 40 64 u j srows.flatten) := hide (own_kept hown hbb3.1)
              have d3 : Below w3.heap.size w3 w3.drew := Quiet.below ⟨1, rfl⟩ _
              have B3b := hide hbb3.1
              have hkW : IsW (be32 so.1) := be32_isW _
              have hvW : IsW (be32 so.2) := be32_isW _
              have hxl : (bv (be32 so.1) ++ bv (be32 so.2)).length = 64 := by simp [bv_len, hkW.len, hvW.len]
              have hxo : ∀ x ∈ bv (be32 so.1) ++ bv (be32 so.2), x.oneCell' = true := by rw [← bv_append]; exact bv_one _
              have hz64 : (bv (zeros 64)).length = 64 := by rw [bv_len, zeros_len]
              clear hks hvs hkey hr3 hown hbz hbb3
              refine wp_region_noPanic ?_
              refine wp_region_held_drew (S := fun w' => ChgS (fun k => k = gX ∨ u.ownBlock = some k) w3 w') (by kernel_rfl) (ChgS.of d3) (fun hHeld => ?_)
              refine held_takeD 0 (.pointer (some ⟨gX, 54, none⟩)) (some 40) (by rfl) (by rfl) (by kernel_rfl) (by kernel_rfl) (by kernel_rfl) (fun _ _ _ h => h) (.inl ⟨by rfl, fun _ _ => by go_simp⟩) (hHeld) ?_
              simp only [Act.put, List.setIfInBounds_toArray, List.set_cons_zero, List.set_cons_succ]
              refine held_takeD 2 (.pointer (some ⟨wr.heap.size, 0, none⟩)) (some 42) (by rfl) (by rfl) (by kernel_rfl) (by kernel_rfl) (by kernel_rfl) (fun _ _ _ h => h) (.inl ⟨by rfl, fun _ _ => by go_simp⟩) (hHeld) ?_
              simp only [Act.put, List.setIfInBounds_toArray, List.set_cons_zero, List.set_cons_succ]
              refine held_takeD 3 (.slice Ak kk ck) (some 43) (by rfl) (by rfl) (by kernel_rfl) (by kernel_rfl) (by kernel_rfl) (fun _ _ _ h => h) (.inl ⟨by rfl, fun wS hS => by have hc : wS.cell? ⟨wr.heap.size, 0, none⟩ = some (.slice Ak kk ck) := by { rw [(unhide HKEY wS hS).cell]; rfl }; go_simp⟩) (hHeld) ?_
              simp only [Act.put, List.setIfInBounds_toArray, List.set_cons_zero, List.set_cons_succ]
              refine held_takeD 5 (.pointer (some ⟨wr.heap.size, 1, none⟩)) (some 45) (by rfl) (by rfl) (by kernel_rfl) (by kernel_rfl) (by kernel_rfl) (fun _ _ _ h => h) (.inl ⟨by rfl, fun _ _ => by go_simp⟩) (hHeld) ?_
              simp only [Act.put, List.setIfInBounds_toArray, List.set_cons_zero, List.set_cons_succ]
              refine held_takeD 6 (.slice Av kv cv) (some 46) (by rfl) (by rfl) (by kernel_rfl) (by kernel_rfl) (by kernel_rfl) (fun _ _ _ h => h) (.inl ⟨by rfl, fun wS hS => by have hc : wS.cell? ⟨wr.heap.size, 1, none⟩ = some (.slice Av kv cv) := by { rw [(unhide HKEY wS hS).cell]; rfl }; go_simp⟩) (hHeld) ?_
              simp only [Act.put, List.setIfInBounds_toArray, List.set_cons_zero, List.set_cons_succ]
              refine held_two 1 4 (by kernel_rfl) (by rfl) (by rfl) (fun K' hK' => ?_) (fun K' hK' => ?_)
              · have hcu : w3.drew.cell? ⟨gX, 54, none⟩ = some u := by { rw [((unhide R3).kept d3).cell]; exact rowE_get hia hbW _ _ _ }
                go_simp
                refine hK'.out _ _ (ChgS.of d3) ?_
                clear hK' K'
                refine held_one 4 (by kernel_rfl) (by rfl) (fun K' hK' => ?_)
                go_simp
                refine (word_any Ak kk ck so.1 w3.drew (unhide HKS _ d3) hsg.1).mono ?_
                rintro e wk ⟨rfl, bk⟩
                have dk := d3.trans (bk.mono d3.size)
                refine hK'.out _ _ (ChgS.of dk) ?_
                clear hK' K'
                refine held_one 7 (by kernel_rfl) (by rfl) (fun K' hK' => ?_)
                go_simp
                refine (word_any Av kv cv so.2 wk (unhide HVS _ dk) hsg.2.1).mono ?_
                rintro e wq ⟨rfl, bq⟩
                have dq := dk.trans (bq.mono dk.size)
                refine hK'.out _ _ (ChgS.of dq) ?_
                clear hK' K'
                refine held_takeD 8 (.agg (bv (be32 so.1) ++ bv (be32 so.2)).toArray) (some 48) (by rfl) (by rfl) (by kernel_rfl) (by kernel_rfl) (by kernel_rfl) (fun _ _ _ h => h) (yieldsIf_build (by rfl) 40 [(0, .tmp 44), (1, .tmp 47)] rfl _ (fun wx => run_slotE wx _ _ hkW hvW)) (ChgS.of dq) ?_
                simp only [Act.put, List.setIfInBounds_toArray, List.set_cons_zero, List.set_cons_succ]
                refine held_one 9 (by kernel_rfl) (by rfl) (fun K' hK' => ?_)
                refine if_build_one (some 49) rfl (by rfl) 41 (.tmp 48) rfl 40 64 64 Sakg.underlying41 (bv (zeros 64)) infoOSlot3 hz64 (by omega) (by omega) (bv (be32 so.1) ++ bv (be32 so.2)) rfl hxl (fun wn rn bn sn => ?_)
                have dn := dq.trans (bn.mono dq.size)
                refine hK'.out _ _ (ChgS.of dn) ?_
                clear hK' K'
                simp only [Act.put, List.setIfInBounds_toArray, List.set_cons_zero, List.set_cons_succ]
                refine held_one 10 (by kernel_rfl) (by rfl) (fun K' hK' => ?_)
                refine if_append_at (some 50) rfl (by rfl) (.tmp 41) (.tmp 49) 41 rfl 40 64 64 Sakg.underlying41 (bv (zeros 64)) infoOSlot3 hz64 (by omega) wc.heap.size u j srows rfl (own_kept (unhide O3) dn) _ 40 (bv (be32 so.1) ++ bv (be32 so.2)) rfl rn hxl hxo (by omega) (by omega) (by have := dn.size; omega) (fun vp wp op grp bkp => ?_)
                have dp : ChgS (fun k => k = gX ∨ u.ownBlock = some k) w3 wp := (ChgS.of (G := fun k => k = gX ∨ u.ownBlock = some k) dn).then (ChgS.grown (G := fun k => k = gX ∨ u.ownBlock = some k) grp (fun k hk => .inr hk)) (fun _ h _ => h)
                obtain ⟨Ap, cp, rfl⟩ := own_slice op
                refine hK'.out _ _ (dp) ?_
                clear hK' K'
                simp only [Act.put, List.setIfInBounds_toArray, List.set_cons_zero, List.set_cons_succ]
                refine held_takeD 11 (.pointer (some ⟨gX, 54, none⟩)) (some 51) (by rfl) (by rfl) (by kernel_rfl) (by kernel_rfl) (by kernel_rfl) (fun _ _ _ h => h) (.inl ⟨by rfl, fun _ _ => by go_simp⟩) (dp) ?_
                simp only [Act.put, List.setIfInBounds_toArray, List.set_cons_zero, List.set_cons_succ]
                refine held_one 12 (by kernel_rfl) (by rfl) (fun K' hK' => ?_)
                have hXp : RowT 43 wp gX (rowE o.addr o.nonce (be32 o.bal) (.slice Ac kc kc) u) := by { unfold RowT; rw [grp.block gX (by have := dn.size; have := (unhide R3).lt; omega) (fun h => by have := (hul _ h.symm).1; omega)]; exact (unhide R3).kept dn }
                have hcx : wp.cell? ⟨gX, 54, none⟩ = some u := by { rw [hXp.cell]; exact rowE_get hia hbW _ _ _ }
                have hfx := hXp.froz 54
                go_simp
                obtain ⟨wS, hwS⟩ : ∃ x, x = wp.setCell ⟨gX, 54, none⟩ (Value.slice Ap (j + 1) cp) := ⟨_, rfl⟩
                rw [← hwS]
                have oS : Only gX wp wS := hwS ▸ (Only.refl gX wp).setCell 54 (Value.slice Ap (j + 1) cp)
                have rS := hwS ▸ hXp.set 54 (Value.slice Ap (j + 1) cp)
                have dS : ChgS (fun k => k = gX ∨ u.ownBlock = some k) w3 wS := dp.then (ChgS.only (G := fun k => k = gX ∨ u.ownBlock = some k) oS (.inl rfl)) (fun _ h _ => h)
                clear hwS
                refine hK'.out _ _ (dS) ?_
                clear hK' K'
                refine wpAnyH_done (by kernel_rfl) ?_ _
                refine NoPanic.normal ?_
                have zk := bk.size
                have zv := bq.size
                have zn := bn.size
                have zd : w3.drew.heap.size = w3.heap.size := rfl
                have hne : ∀ k, (Value.slice Ap (j + 1) cp).ownBlock = some k → k ≠ gX := fun k hk h0 => by { subst h0; rcases bkp with h | h; (rw [h] at hk; have := (hul _ hk).1; omega); (rw [h] at hk; have := Option.some.inj hk; omega) }
                have own2 := op.kept (row := some gX) ⟨oS.os, oS.tape, oS.output, Nat.le_of_eq oS.size.symm, fun k hk hn => oS.block k (fun e => hn (by rw [e]))⟩ (.inr (fun h => hne gX h rfl))
                have crS : ChgS (fun k => k = gX ∨ u.ownBlock = some k) wr wS := (ChgS.of (G := (fun k => k = gX ∨ u.ownBlock = some k)) (unhide B3b)).then dS (fun _ h _ => h)
                have chS : ChgS (· = gX) wc wS := hch.then crS (fun k hg hk => by rcases hg with h | h; (exact h); (have := (hul _ h).1; omega))
                rw [rowE_set hia hbW] at rS
                have each2 := (unhide HES).snoc (r := (bv (be32 so.1) ++ bv (be32 so.2))) (d := (be32 so.1, be32 so.2)) (oslot_mk hkW hvW)
                have rS' := hide rS
                have own2' := hide own2
                have each2' := hide each2
                clear rS own2 each2 op rn hXp hcx hfx
                go_wp2
                go_roundg (m4 - 1 - j)
                case measure => omega
                case rel => exact ⟨j + 1, (Value.slice Ap (j + 1) cp), srows ++ [(bv (be32 so.1) ++ bv (be32 so.2))], by omega, rfl, unhide rS', unhide own2', by rw [unhide HTSJ, List.map_append, List.map_cons, List.map_nil]; exact unhide each2', chS⟩
              · go_simp
                refine (word_any Ak kk ck so.1 w3.drew (unhide HKS _ d3) hsg.1).mono ?_
                rintro e wk ⟨rfl, bk⟩
                have dk := d3.trans (bk.mono d3.size)
                refine hK'.out _ _ (ChgS.of dk) ?_
                clear hK' K'
                refine held_two 1 7 (by kernel_rfl) (by rfl) (by rfl) (fun K' hK' => ?_) (fun K' hK' => ?_)
                · have hcu : wk.cell? ⟨gX, 54, none⟩ = some u := by { rw [((unhide R3).kept dk).cell]; exact rowE_get hia hbW _ _ _ }
                  go_simp
                  refine hK'.out _ _ (ChgS.of dk) ?_
                  clear hK' K'
                  refine held_one 7 (by kernel_rfl) (by rfl) (fun K' hK' => ?_)
                  go_simp
                  refine (word_any Av kv cv so.2 wk (unhide HVS _ dk) hsg.2.1).mono ?_
                  rintro e wq ⟨rfl, bq⟩
                  have dq := dk.trans (bq.mono dk.size)
                  refine hK'.out _ _ (ChgS.of dq) ?_
                  clear hK' K'
                  refine held_takeD 8 (.agg (bv (be32 so.1) ++ bv (be32 so.2)).toArray) (some 48) (by rfl) (by rfl) (by kernel_rfl) (by kernel_rfl) (by kernel_rfl) (fun _ _ _ h => h) (yieldsIf_build (by rfl) 40 [(0, .tmp 44), (1, .tmp 47)] rfl _ (fun wx => run_slotE wx _ _ hkW hvW)) (ChgS.of dq) ?_
                  simp only [Act.put, List.setIfInBounds_toArray, List.set_cons_zero, List.set_cons_succ]
                  refine held_one 9 (by kernel_rfl) (by rfl) (fun K' hK' => ?_)
                  refine if_build_one (some 49) rfl (by rfl) 41 (.tmp 48) rfl 40 64 64 Sakg.underlying41 (bv (zeros 64)) infoOSlot3 hz64 (by omega) (by omega) (bv (be32 so.1) ++ bv (be32 so.2)) rfl hxl (fun wn rn bn sn => ?_)
                  have dn := dq.trans (bn.mono dq.size)
                  refine hK'.out _ _ (ChgS.of dn) ?_
                  clear hK' K'
                  simp only [Act.put, List.setIfInBounds_toArray, List.set_cons_zero, List.set_cons_succ]
                  refine held_one 10 (by kernel_rfl) (by rfl) (fun K' hK' => ?_)
                  refine if_append_at (some 50) rfl (by rfl) (.tmp 41) (.tmp 49) 41 rfl 40 64 64 Sakg.underlying41 (bv (zeros 64)) infoOSlot3 hz64 (by omega) wc.heap.size u j srows rfl (own_kept (unhide O3) dn) _ 40 (bv (be32 so.1) ++ bv (be32 so.2)) rfl rn hxl hxo (by omega) (by omega) (by have := dn.size; omega) (fun vp wp op grp bkp => ?_)
                  have dp : ChgS (fun k => k = gX ∨ u.ownBlock = some k) w3 wp := (ChgS.of (G := fun k => k = gX ∨ u.ownBlock = some k) dn).then (ChgS.grown (G := fun k => k = gX ∨ u.ownBlock = some k) grp (fun k hk => .inr hk)) (fun _ h _ => h)
                  obtain ⟨Ap, cp, rfl⟩ := own_slice op
                  refine hK'.out _ _ (dp) ?_
                  clear hK' K'
                  simp only [Act.put, List.setIfInBounds_toArray, List.set_cons_zero, List.set_cons_succ]
                  refine held_takeD 11 (.pointer (some ⟨gX, 54, none⟩)) (some 51) (by rfl) (by rfl) (by kernel_rfl) (by kernel_rfl) (by kernel_rfl) (fun _ _ _ h => h) (.inl ⟨by rfl, fun _ _ => by go_simp⟩) (dp) ?_
                  simp only [Act.put, List.setIfInBounds_toArray, List.set_cons_zero, List.set_cons_succ]
                  refine held_one 12 (by kernel_rfl) (by rfl) (fun K' hK' => ?_)
                  have hXp : RowT 43 wp gX (rowE o.addr o.nonce (be32 o.bal) (.slice Ac kc kc) u) := by { unfold RowT; rw [grp.block gX (by have := dn.size; have := (unhide R3).lt; omega) (fun h => by have := (hul _ h.symm).1; omega)]; exact (unhide R3).kept dn }
                  have hcx : wp.cell? ⟨gX, 54, none⟩ = some u := by { rw [hXp.cell]; exact rowE_get hia hbW _ _ _ }
                  have hfx := hXp.froz 54
                  go_simp
                  obtain ⟨wS, hwS⟩ : ∃ x, x = wp.setCell ⟨gX, 54, none⟩ (Value.slice Ap (j + 1) cp) := ⟨_, rfl⟩
                  rw [← hwS]
                  have oS : Only gX wp wS := hwS ▸ (Only.refl gX wp).setCell 54 (Value.slice Ap (j + 1) cp)
                  have rS := hwS ▸ hXp.set 54 (Value.slice Ap (j + 1) cp)
                  have dS : ChgS (fun k => k = gX ∨ u.ownBlock = some k) w3 wS := dp.then (ChgS.only (G := fun k => k = gX ∨ u.ownBlock = some k) oS (.inl rfl)) (fun _ h _ => h)
                  clear hwS
                  refine hK'.out _ _ (dS) ?_
                  clear hK' K'
                  refine wpAnyH_done (by kernel_rfl) ?_ _
                  refine NoPanic.normal ?_
                  have zk := bk.size
                  have zv := bq.size
                  have zn := bn.size
                  have zd : w3.drew.heap.size = w3.heap.size := rfl
                  have hne : ∀ k, (Value.slice Ap (j + 1) cp).ownBlock = some k → k ≠ gX := fun k hk h0 => by { subst h0; rcases bkp with h | h; (rw [h] at hk; have := (hul _ hk).1; omega); (rw [h] at hk; have := Option.some.inj hk; omega) }
                  have own2 := op.kept (row := some gX) ⟨oS.os, oS.tape, oS.output, Nat.le_of_eq oS.size.symm, fun k hk hn => oS.block k (fun e => hn (by rw [e]))⟩ (.inr (fun h => hne gX h rfl))
                  have crS : ChgS (fun k => k = gX ∨ u.ownBlock = some k) wr wS := (ChgS.of (G := (fun k => k = gX ∨ u.ownBlock = some k)) (unhide B3b)).then dS (fun _ h _ => h)
                  have chS : ChgS (· = gX) wc wS := hch.then crS (fun k hg hk => by rcases hg with h | h; (exact h); (have := (hul _ h).1; omega))
                  rw [rowE_set hia hbW] at rS
                  have each2 := (unhide HES).snoc (r := (bv (be32 so.1) ++ bv (be32 so.2))) (d := (be32 so.1, be32 so.2)) (oslot_mk hkW hvW)
                  have rS' := hide rS
                  have own2' := hide own2
                  have each2' := hide each2
                  clear rS own2 each2 op rn hXp hcx hfx
                  go_wp2
                  go_roundg (m4 - 1 - j)
                  case measure => omega
                  case rel => exact ⟨j + 1, (Value.slice Ap (j + 1) cp), srows ++ [(bv (be32 so.1) ++ bv (be32 so.2))], by omega, rfl, unhide rS', unhide own2', by rw [unhide HTSJ, List.map_append, List.map_cons, List.map_nil]; exact unhide each2', chS⟩
                · go_simp
                  refine (word_any Av kv cv so.2 wk (unhide HVS _ dk) hsg.2.1).mono ?_
                  rintro e wq ⟨rfl, bq⟩
                  have dq := dk.trans (bq.mono dk.size)
                  refine hK'.out _ _ (ChgS.of dq) ?_
                  clear hK' K'
                  refine held_takeD 8 (.agg (bv (be32 so.1) ++ bv (be32 so.2)).toArray) (some 48) (by rfl) (by rfl) (by kernel_rfl) (by kernel_rfl) (by kernel_rfl) (fun _ _ _ h => h) (yieldsIf_build (by rfl) 40 [(0, .tmp 44), (1, .tmp 47)] rfl _ (fun wx => run_slotE wx _ _ hkW hvW)) (ChgS.of dq) ?_
                  simp only [Act.put, List.setIfInBounds_toArray, List.set_cons_zero, List.set_cons_succ]
                  refine held_two 1 9 (by kernel_rfl) (by rfl) (by rfl) (fun K' hK' => ?_) (fun K' hK' => ?_)
                  · have hcu : wq.cell? ⟨gX, 54, none⟩ = some u := by { rw [((unhide R3).kept dq).cell]; exact rowE_get hia hbW _ _ _ }
                    go_simp
                    refine hK'.out _ _ (ChgS.of dq) ?_
                    clear hK' K'
                    refine held_one 9 (by kernel_rfl) (by rfl) (fun K' hK' => ?_)
                    refine if_build_one (some 49) rfl (by rfl) 41 (.tmp 48) rfl 40 64 64 Sakg.underlying41 (bv (zeros 64)) infoOSlot3 hz64 (by omega) (by omega) (bv (be32 so.1) ++ bv (be32 so.2)) rfl hxl (fun wn rn bn sn => ?_)
                    have dn := dq.trans (bn.mono dq.size)
                    refine hK'.out _ _ (ChgS.of dn) ?_
                    clear hK' K'
                    simp only [Act.put, List.setIfInBounds_toArray, List.set_cons_zero, List.set_cons_succ]
                    refine held_one 10 (by kernel_rfl) (by rfl) (fun K' hK' => ?_)
                    refine if_append_at (some 50) rfl (by rfl) (.tmp 41) (.tmp 49) 41 rfl 40 64 64 Sakg.underlying41 (bv (zeros 64)) infoOSlot3 hz64 (by omega) wc.heap.size u j srows rfl (own_kept (unhide O3) dn) _ 40 (bv (be32 so.1) ++ bv (be32 so.2)) rfl rn hxl hxo (by omega) (by omega) (by have := dn.size; omega) (fun vp wp op grp bkp => ?_)
                    have dp : ChgS (fun k => k = gX ∨ u.ownBlock = some k) w3 wp := (ChgS.of (G := fun k => k = gX ∨ u.ownBlock = some k) dn).then (ChgS.grown (G := fun k => k = gX ∨ u.ownBlock = some k) grp (fun k hk => .inr hk)) (fun _ h _ => h)
                    obtain ⟨Ap, cp, rfl⟩ := own_slice op
                    refine hK'.out _ _ (dp) ?_
                    clear hK' K'
                    simp only [Act.put, List.setIfInBounds_toArray, List.set_cons_zero, List.set_cons_succ]
                    refine held_takeD 11 (.pointer (some ⟨gX, 54, none⟩)) (some 51) (by rfl) (by rfl) (by kernel_rfl) (by kernel_rfl) (by kernel_rfl) (fun _ _ _ h => h) (.inl ⟨by rfl, fun _ _ => by go_simp⟩) (dp) ?_
                    simp only [Act.put, List.setIfInBounds_toArray, List.set_cons_zero, List.set_cons_succ]
                    refine held_one 12 (by kernel_rfl) (by rfl) (fun K' hK' => ?_)
                    have hXp : RowT 43 wp gX (rowE o.addr o.nonce (be32 o.bal) (.slice Ac kc kc) u) := by { unfold RowT; rw [grp.block gX (by have := dn.size; have := (unhide R3).lt; omega) (fun h => by have := (hul _ h.symm).1; omega)]; exact (unhide R3).kept dn }
                    have hcx : wp.cell? ⟨gX, 54, none⟩ = some u := by { rw [hXp.cell]; exact rowE_get hia hbW _ _ _ }
                    have hfx := hXp.froz 54
                    go_simp
                    obtain ⟨wS, hwS⟩ : ∃ x, x = wp.setCell ⟨gX, 54, none⟩ (Value.slice Ap (j + 1) cp) := ⟨_, rfl⟩
                    rw [← hwS]
                    have oS : Only gX wp wS := hwS ▸ (Only.refl gX wp).setCell 54 (Value.slice Ap (j + 1) cp)
                    have rS := hwS ▸ hXp.set 54 (Value.slice Ap (j + 1) cp)
                    have dS : ChgS (fun k => k = gX ∨ u.ownBlock = some k) w3 wS := dp.then (ChgS.only (G := fun k => k = gX ∨ u.ownBlock = some k) oS (.inl rfl)) (fun _ h _ => h)
                    clear hwS
                    refine hK'.out _ _ (dS) ?_
                    clear hK' K'
                    refine wpAnyH_done (by kernel_rfl) ?_ _
                    refine NoPanic.normal ?_
                    have zk := bk.size
                    have zv := bq.size
                    have zn := bn.size
                    have zd : w3.drew.heap.size = w3.heap.size := rfl
                    have hne : ∀ k, (Value.slice Ap (j + 1) cp).ownBlock = some k → k ≠ gX := fun k hk h0 => by { subst h0; rcases bkp with h | h; (rw [h] at hk; have := (hul _ hk).1; omega); (rw [h] at hk; have := Option.some.inj hk; omega) }
                    have own2 := op.kept (row := some gX) ⟨oS.os, oS.tape, oS.output, Nat.le_of_eq oS.size.symm, fun k hk hn => oS.block k (fun e => hn (by rw [e]))⟩ (.inr (fun h => hne gX h rfl))
                    have crS : ChgS (fun k => k = gX ∨ u.ownBlock = some k) wr wS := (ChgS.of (G := (fun k => k = gX ∨ u.ownBlock = some k)) (unhide B3b)).then dS (fun _ h _ => h)
                    have chS : ChgS (· = gX) wc wS := hch.then crS (fun k hg hk => by rcases hg with h | h; (exact h); (have := (hul _ h).1; omega))
                    rw [rowE_set hia hbW] at rS
                    have each2 := (unhide HES).snoc (r := (bv (be32 so.1) ++ bv (be32 so.2))) (d := (be32 so.1, be32 so.2)) (oslot_mk hkW hvW)
                    have rS' := hide rS
                    have own2' := hide own2
                    have each2' := hide each2
                    clear rS own2 each2 op rn hXp hcx hfx
                    go_wp2
                    go_roundg (m4 - 1 - j)
                    case measure => omega
                    case rel => exact ⟨j + 1, (Value.slice Ap (j + 1) cp), srows ++ [(bv (be32 so.1) ++ bv (be32 so.2))], by omega, rfl, unhide rS', unhide own2', by rw [unhide HTSJ, List.map_append, List.map_cons, List.map_nil]; exact unhide each2', chS⟩
                  · refine if_build_one (some 49) rfl (by rfl) 41 (.tmp 48) rfl 40 64 64 Sakg.underlying41 (bv (zeros 64)) infoOSlot3 hz64 (by omega) (by omega) (bv (be32 so.1) ++ bv (be32 so.2)) rfl hxl (fun wn rn bn sn => ?_)
                    have dn := dq.trans (bn.mono dq.size)
                    refine hK'.out _ _ (ChgS.of dn) ?_
                    clear hK' K'
                    simp only [Act.put, List.setIfInBounds_toArray, List.set_cons_zero, List.set_cons_succ]
                    refine held_one 1 (by kernel_rfl) (by rfl) (fun K' hK' => ?_)
                    have hcu : wn.cell? ⟨gX, 54, none⟩ = some u := by { rw [((unhide R3).kept dn).cell]; exact rowE_get hia hbW _ _ _ }
                    go_simp
                    refine hK'.out _ _ (ChgS.of dn) ?_
                    clear hK' K'
                    refine held_one 10 (by kernel_rfl) (by rfl) (fun K' hK' => ?_)
                    refine if_append_at (some 50) rfl (by rfl) (.tmp 41) (.tmp 49) 41 rfl 40 64 64 Sakg.underlying41 (bv (zeros 64)) infoOSlot3 hz64 (by omega) wc.heap.size u j srows rfl (own_kept (unhide O3) dn) _ 40 (bv (be32 so.1) ++ bv (be32 so.2)) rfl rn hxl hxo (by omega) (by omega) (by have := dn.size; omega) (fun vp wp op grp bkp => ?_)
                    have dp : ChgS (fun k => k = gX ∨ u.ownBlock = some k) w3 wp := (ChgS.of (G := fun k => k = gX ∨ u.ownBlock = some k) dn).then (ChgS.grown (G := fun k => k = gX ∨ u.ownBlock = some k) grp (fun k hk => .inr hk)) (fun _ h _ => h)
                    obtain ⟨Ap, cp, rfl⟩ := own_slice op
                    refine hK'.out _ _ (dp) ?_
                    clear hK' K'
                    simp only [Act.put, List.setIfInBounds_toArray, List.set_cons_zero, List.set_cons_succ]
                    refine held_takeD 11 (.pointer (some ⟨gX, 54, none⟩)) (some 51) (by rfl) (by rfl) (by kernel_rfl) (by kernel_rfl) (by kernel_rfl) (fun _ _ _ h => h) (.inl ⟨by rfl, fun _ _ => by go_simp⟩) (dp) ?_
                    simp only [Act.put, List.setIfInBounds_toArray, List.set_cons_zero, List.set_cons_succ]
                    refine held_one 12 (by kernel_rfl) (by rfl) (fun K' hK' => ?_)
                    have hXp : RowT 43 wp gX (rowE o.addr o.nonce (be32 o.bal) (.slice Ac kc kc) u) := by { unfold RowT; rw [grp.block gX (by have := dn.size; have := (unhide R3).lt; omega) (fun h => by have := (hul _ h.symm).1; omega)]; exact (unhide R3).kept dn }
                    have hcx : wp.cell? ⟨gX, 54, none⟩ = some u := by { rw [hXp.cell]; exact rowE_get hia hbW _ _ _ }
                    have hfx := hXp.froz 54
                    go_simp
                    obtain ⟨wS, hwS⟩ : ∃ x, x = wp.setCell ⟨gX, 54, none⟩ (Value.slice Ap (j + 1) cp) := ⟨_, rfl⟩
                    rw [← hwS]
                    have oS : Only gX wp wS := hwS ▸ (Only.refl gX wp).setCell 54 (Value.slice Ap (j + 1) cp)
                    have rS := hwS ▸ hXp.set 54 (Value.slice Ap (j + 1) cp)
                    have dS : ChgS (fun k => k = gX ∨ u.ownBlock = some k) w3 wS := dp.then (ChgS.only (G := fun k => k = gX ∨ u.ownBlock = some k) oS (.inl rfl)) (fun _ h _ => h)
                    clear hwS
                    refine hK'.out _ _ (dS) ?_
                    clear hK' K'
                    refine wpAnyH_done (by kernel_rfl) ?_ _
                    refine NoPanic.normal ?_
                    have zk := bk.size
                    have zv := bq.size
                    have zn := bn.size
                    have zd : w3.drew.heap.size = w3.heap.size := rfl
                    have hne : ∀ k, (Value.slice Ap (j + 1) cp).ownBlock = some k → k ≠ gX := fun k hk h0 => by { subst h0; rcases bkp with h | h; (rw [h] at hk; have := (hul _ hk).1; omega); (rw [h] at hk; have := Option.some.inj hk; omega) }
                    have own2 := op.kept (row := some gX) ⟨oS.os, oS.tape, oS.output, Nat.le_of_eq oS.size.symm, fun k hk hn => oS.block k (fun e => hn (by rw [e]))⟩ (.inr (fun h => hne gX h rfl))
                    have crS : ChgS (fun k => k = gX ∨ u.ownBlock = some k) wr wS := (ChgS.of (G := (fun k => k = gX ∨ u.ownBlock = some k)) (unhide B3b)).then dS (fun _ h _ => h)
                    have chS : ChgS (· = gX) wc wS := hch.then crS (fun k hg hk => by rcases hg with h | h; (exact h); (have := (hul _ h).1; omega))
                    rw [rowE_set hia hbW] at rS
                    have each2 := (unhide HES).snoc (r := (bv (be32 so.1) ++ bv (be32 so.2))) (d := (be32 so.1, be32 so.2)) (oslot_mk hkW hvW)
                    have rS' := hide rS
                    have own2' := hide own2
                    have each2' := hide each2
                    clear rS own2 each2 op rn hXp hcx hfx
                    go_wp2
                    go_roundg (m4 - 1 - j)
                    case measure => omega
                    case rel => exact ⟨j + 1, (Value.slice Ap (j + 1) cp), srows ++ [(bv (be32 so.1) ++ bv (be32 so.2))], by omega, rfl, unhide rS', unhide own2', by rw [unhide HTSJ, List.map_append, List.map_cons, List.map_nil]; exact unhide each2', chS⟩
              --E2
            · as_aux_lemma =>
              obtain rfl : j = m4 := by omega
              obtain ⟨wi, hwi⟩ : ∃ wi, wi = wr := ⟨_, rfl⟩
              subst hwi
              have hul : ∀ k, u.ownBlock = some k → wc.heap.size ≤ k ∧ k < wi.heap.size := fun k hk => (unhide HOU).lt k hk
              have hvl : ∀ k, v.ownBlock = some k → k < wo.heap.size := fun k hk => ((unhide HOWN).lt k hk).2
              have htj : o.slots.take j = o.slots := List.take_of_length_le (by have := unhide HM4; omega)
              have hes := unhide HES
              rw [htj] at hes
              obtain ⟨Au, cu, hue, rw5⟩ := own_rws (unhide HOU) (hes.all (p := fun r => r.length = 64) (fun r d h => h.len)) (by have h1 := hes.len; rw [List.length_map] at h1; have := unhide HM4; omega)
              have ru := unhide RU
              rw [hue] at ru hul
              obtain ⟨xr, hxr⟩ : ∃ xr, xr = rowE o.addr o.nonce (be32 o.bal) (.slice Ac kc kc) (.slice Au j cu) := ⟨_, rfl⟩
              rw [← hxr] at ru
              have hxl : xr.length = 55 := by rw [hxr]; exact rowE_len hia hbW _ _ _
              have hxo : ∀ u ∈ xr, u.oneCell' = true := by rw [hxr]; exact rowE_one _ _ _ rfl rfl
              have hxs : (Sakg.prog.info? 43).map (·.size) = some xr.length := by rw [hxl]; exact sizeOA
              have bOI : Below wo.heap.size wo wi := bo2.trans ((bc.mono bo2.size).trans (hch.below wo.heap.size (fun k hk => by have h1 : k = gX := hk; omega) (by omega)))
              have hzI := bOI.size
              have hoff : ∀ y : Addr, wo.heap.size ≤ y.block → ¬ GO v y.block := fun y hy hgv => by have := hvl _ hgv; omega
              have y3 : KSrc (GO v) wi Ac kc kc o.code := StabS.src (StabS.src (G := (· = gX)) (unhide M3) o3 wi hch) (fun y hy _ => hoff y (by have := N3 y hy; omega))
              have y4 : StabS (GO v) (fun w => Rws w 64 Au j cu srows) wi := StabS.rws rw5 (fun y hy _ => hoff y (by have := (hul y.block (by rw [hy]; rfl)).1; omega))
              have hea : EAcct (GO v) wi xr (outA o) := EAcct.out hxr hia hn8 hbW y3 y4 hes
              have HEA := hide hea
              have RXI := hide ru.rangeAll
              have OWI := hide (own_kept (unhide HOWN) bOI)
              obtain ⟨i0, hi0, hz0, hz1, hz2'⟩ := info_parts infoOA3
              have HI0 := hide hi0
              have HZ0 := hide hz0
              have HZ1 := hide hz1
              have hn9 : n ≤ 900000 := by omega
              have hbwi : w.heap.size ≤ wi.heap.size := bwr.size
              clear ru hes y3 y4 hea rw5 hue hi0 hz0 hz1 hz2' hxr
              go_wp2_with (first
                | ((with_reducible refine at_load 43 ?_); refine wpList_load_g (by rfl) 43 (.tmp 6) rfl gX 0 rfl xr _ (unhide RXI) Sakg.underlying43 rfl hxs ?_)
                | ((with_reducible refine at_buildSlice ?_); refine wpList_build_one rfl 37 (.tmp 54) rfl 43 55 Sakg.underlying37 i0 _ (unhide HI0) (unhide HZ0) (unhide HZ1) (by simp [Value.cells, hz55]) (by omega) (by omega) xr rfl hxl ?_)
                | ((with_reducible refine at_append ?_); refine wpList_append_at rfl (.tmp 53) (.tmp 55) 37 rfl 43 55 112 Sakg.underlying37 (rowOA (zeros 20)) infoOA3 hz55 (by omega) w.heap.size v n rows rfl (own_kept (unhide OWI) ((Below.refl _ _).alloc (Nat.le_refl _) _)) _ _ xr rfl (RowT.new _ _ _) hxl hxo (by omega) (by omega) (by simp; omega) ?_; intro v5 w5 ho5 hg5 hbk5; have HO5 := hide ho5; have HG5 := hide hg5; have HB5 := hide hbk5; clear ho5 hg5 hbk5))
              have cA : ChgS (GO v) wi w5 := (ChgS.of (G := GO v) ((Below.refl _ _).alloc (Nat.le_refl _) _)).then (ChgS.grown (G := GO v) (unhide HG5) (fun k hk => hk)) (fun _ h _ => h)
              have hGv : ∀ k, GO v5 k → k < wi.heap.size → GO v k := fun k hk hl => by
                rcases unhide HB5 with h | h
                · unfold GO at hk ⊢
                  rw [← h]; exact hk
                · exfalso
                  unfold GO at hk
                  rw [h] at hk
                  have h2 := Option.some.inj hk
                  simp only [World.size_alloc] at h2
                  omega
              have each5 := ((unhide HEC).imp fun _ _ hh => hh.go (G' := GO v5) ((ChgS.of bOI).then cA (fun _ h _ => h)) (fun k hk hl => hGv k hk (by omega))).snoc ((unhide HEA).go (G' := GO v5) cA hGv)
              have bw5 : Below w.heap.size w w5 := bwr.trans (cA.below w.heap.size (fun k hk => ((unhide HOWN).lt k hk).1) hbwi)
              have hrn5 : (rows ++ [xr]).length = n + 1 := by rw [List.length_append, unhide HRN]; rfl
              have E5 := hide each5
              clear each5 cA hGv
              go_wp2
              go_roundg (l - 1 - i)
              case measure => omega
              case rel => exact ⟨i + 1, n + 1, v5, rows ++ [xr], by omega, rfl, rfl, unhide HO5, by rw [unhide HNEW]; exact unhide E5, hrn5, by omega, bw5⟩
    · as_aux_lemma =>
      obtain rfl : i = l := by omega
      have htl : ds.take i = ds := List.take_of_length_le (by have := unhide HLEN; omega)
      have hec := unhide HEC
      rw [htl] at hec
      obtain ⟨A, cA, hv, hrws⟩ := own_rws (unhide HOWN) (hec.all (p := fun r => r.length = 55) (fun r d h => h.len)) (unhide HRN)
      have hfin : OAcctsR wo A n cA (outs ds) := ⟨rows, hrws, hec.imp fun _ _ hh => hh.now⟩
      have HFIN := hide hfin
      subst hv
      clear hfin hec hrws
      go_wp2
      go_ret
      exact ⟨A, n, cA, rfl, unhide HFIN, hb⟩
end

end Go.Proofs.YgcsakGreat
