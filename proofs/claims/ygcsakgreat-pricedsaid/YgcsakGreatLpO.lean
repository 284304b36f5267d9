/-
  law: Priced at kind 8, its parts being told by hypotheses.
-/
import Derived.Test.YgcsakGreatLpN
namespace Go.Proofs.YgcsakGreat
set_option linter.unusedVariables false
set_option linter.unusedSimpArgs false
set_option maxRecDepth 100000
open Go.RowKit

def oneW : List Int := zeros 31 ++ [1]
theorem infoWz : (Sakg.prog.info? 29).map (fun i => (i.zero, i.size)) = some (some (.agg (bv (zeros 32)).toArray), 32) := by kernel_rfl
theorem run_slotP (wx : World) : (Instr.build 40 #[(1, .agg (bv oneW).toArray)]).run Sakg.prog wx = .ok (.agg (bv (zeros 32) ++ bv oneW).toArray) wx := by kernel_rfl
theorem run_slotQ (wx : World) : (Instr.build 40 #[(0, .agg (bv oneW).toArray), (1, .agg (bv oneW).toArray)]).run Sakg.prog wx = .ok (.agg (bv oneW ++ bv oneW).toArray) wx := by kernel_rfl
def slotCells : List Value := (bv (zeros 32) ++ bv oneW) ++ (bv oneW ++ bv oneW)
theorem run_slots (wx : World) : (Instr.buildSlice 41 2 #[(0, .agg (bv (zeros 32) ++ bv oneW).toArray), (1, .agg (bv oneW ++ bv oneW).toArray)]).run Sakg.prog wx = .ok (.slice (some ⟨wx.heap.size, 0, none⟩) 2 2) (wx.alloc (.cells slotCells.toArray 40)) := by kernel_rfl
/-- a slice that is written out -/
theorem wpList_lit {w : World} {ops : Array Oper} {rest : List Oper} {o : Oper} {a : Act} {Q : Exit → Act → World → Prop} (hgd : o.guard = none) (t : TypeId) (n : Nat) (ps : List (Nat × Operand)) (ho : o.op = .buildSlice t n ps.toArray) (e : TypeId) (cs : List Value)
    (hrun : (Instr.buildSlice t n (ps.map fun p => (p.1, a.eval p.2)).toArray).run Sakg.prog w = .ok (.slice (some ⟨w.heap.size, 0, none⟩) n n) (w.alloc (.cells cs.toArray e)))
    (h : wpList Sakg.prog ops Q rest (a.put o.dst (.slice (some ⟨w.heap.size, 0, none⟩) n n)) (w.alloc (.cells cs.toArray e))) : wpList Sakg.prog ops Q (o :: rest) a w := by
  refine wpList_plain hgd fun K hK => ?_
  unfold Oper.wp
  simp only [execOp, ho, Sem.run_bind, List.map_toArray]
  rw [hrun]
  exact hK _ _ h
theorem oneW_is : IsW oneW := vone_is
theorem slots_rws {w : World} {g : Nat} (h : RowT 40 w g slotCells) : Rws w 64 (some ⟨g, 0, none⟩) 2 2 [bv (zeros 32) ++ bv oneW, bv oneW ++ bv oneW] := by
  refine ⟨rfl, by omega, by decide, ?_, (fun e => by cases e), fun _ => ⟨g, 0, rfl, h.lt, fun i hi j v hv => ?_⟩⟩
  · intro r hr
    rcases List.mem_cons.mp hr with rfl | hr
    · rfl
    · rw [List.mem_singleton.mp hr]
      rfl
  · rw [h.cell]
    rcases (show i = 0 ∨ i = 1 by omega) with rfl | rfl
    · have hj : j < 64 := by
        rcases Nat.lt_or_ge j 64 with h' | h'
        · exact h'
        · rw [List.getElem?_eq_none (by show 64 ≤ j; exact h')] at hv; cases hv
      have : (bv (zeros 32) ++ bv oneW)[j]? = some v := hv
      unfold slotCells
      rw [List.getElem?_append_left (by show 0 + 0 * 64 + j < 64; omega)]
      rw [show 0 + 0 * 64 + j = j by omega]
      exact this
    · have : (bv oneW ++ bv oneW)[j]? = some v := hv
      unfold slotCells
      rw [List.getElem?_append_right (by show 64 ≤ 0 + 1 * 64 + j; omega)]
      rw [show 0 + 1 * 64 + j - (bv (zeros 32) ++ bv oneW).length = j by show 0 + 1 * 64 + j - 64 = j; omega]
      exact this
def o8 (xs : List Int) : OAcct := ⟨lowAddr 1, 1, zeros 32, xs, [(zeros 32, oneW), (oneW, oneW)]⟩
theorem stage8_rows {G : Nat → Prop} {w6 : World} {g3 c3 gs : Nat} {L : List Value} {rows : List (List Value)} {xs0 : List Int} (hr : RowT 43 w6 g3 (L.set 54 (.slice (some ⟨gs, 0, none⟩) 2 2))) (htk : L.take (2 * 55) = rows.flatten) (hl : 110 ≤ L.length) (hc : 2 ≤ c3) (hmax : c3 ≤ maxLen) (he : Each (EAcct G w6) rows [⟨lowAddr 1, 1, zeros 32, xs0, []⟩, sndO]) (hs : RowT 40 w6 gs slotCells) :
    OAcctsR w6 (some ⟨g3, 0, none⟩) 2 c3 [o8 xs0, sndO] := by
  match rows, he, htk with
  | [r1, r2], he, htk =>
    obtain ⟨h1, h2, -⟩ := he
    have hl1 := h1.len
    have hl2 := h2.len
    have h2n := h2.now
    obtain ⟨A3, k3, c3', A4, k4, c4, hr1, ha, hn, hw, hsrc, -⟩ := h1
    have hS : r1.set 54 (.slice (some ⟨gs, 0, none⟩) 2 2) = rowE (lowAddr 1) 1 (zeros 32) (.slice A3 k3 c3') (.slice (some ⟨gs, 0, none⟩) 2 2) := by
      rw [hr1]
      exact rowE_set ha hw _ _ _ _
    have hfl : [r1, r2].flatten = r1 ++ r2 := by simp
    have htk2 : (L.set 54 (.slice (some ⟨gs, 0, none⟩) 2 2)).take 110 = rowE (lowAddr 1) 1 (zeros 32) (.slice A3 k3 c3') (.slice (some ⟨gs, 0, none⟩) 2 2) ++ r2 := by
      rw [List.take_set, show L.take 110 = r1 ++ r2 from htk.trans hfl, List.set_append_left _ _ (by omega), hS]
    have hle1 : (rowE (lowAddr 1) 1 (zeros 32) (.slice A3 k3 c3') (.slice (some ⟨gs, 0, none⟩) 2 2)).length = 55 := rowE_len ha hw _ _ _
    have hget : ∀ k, k < 110 → (L.set 54 (.slice (some ⟨gs, 0, none⟩) 2 2))[k]? = (rowE (lowAddr 1) 1 (zeros 32) (.slice A3 k3 c3') (.slice (some ⟨gs, 0, none⟩) 2 2) ++ r2)[k]? := fun k hk => by
      rw [← htk2, List.getElem?_take, if_pos hk]
    refine ⟨[rowE (lowAddr 1) 1 (zeros 32) (.slice A3 k3 c3') (.slice (some ⟨gs, 0, none⟩) 2 2), r2], ⟨rfl, hc, hmax, ?_, (fun e => by cases e), fun _ => ⟨g3, 0, rfl, hr.lt, fun i hi j v hv => ?_⟩⟩, ⟨A3, k3, c3', some ⟨gs, 0, none⟩, 2, 2, rfl, ha, hn, hw, hsrc.now, _, slots_rws hs, ⟨rfl, zeroW_is, oneW_is⟩, ⟨rfl, oneW_is, oneW_is⟩, trivial⟩, h2n, trivial⟩
    · intro r hr'
      rcases List.mem_cons.mp hr' with rfl | hr'
      · exact hle1
      · rw [List.mem_singleton.mp hr']
        exact hl2
    · rw [hr.cell]
      rcases (show i = 0 ∨ i = 1 by omega) with rfl | rfl
      · have hv' : (rowE (lowAddr 1) 1 (zeros 32) (.slice A3 k3 c3') (.slice (some ⟨gs, 0, none⟩) 2 2))[j]? = some v := hv
        have hj : j < 55 := by
          rcases Nat.lt_or_ge j 55 with h' | h'
          · exact h'
          · rw [List.getElem?_eq_none (by omega)] at hv'; cases hv'
        rw [show 0 + 0 * 55 + j = j by omega, hget j (by omega), List.getElem?_append_left (by omega)]
        exact hv'
      · have hv' : r2[j]? = some v := hv
        have hj : j < 55 := by
          rcases Nat.lt_or_ge j 55 with h' | h'
          · exact h'
          · rw [List.getElem?_eq_none (by omega)] at hv'; cases hv'
        rw [show 0 + 1 * 55 + j = 55 + j by omega, hget (55 + j) (by omega), List.getElem?_append_right (by omega), hle1, show 55 + j - 55 = j by omega]
        exact hv'
set_option maxHeartbeats 16000000 in
theorem priced_8 {k0 n0 kd n u : Nat} {xs : Nat → List Int} {d : YTx} {PF : List Int → List YAcct → Prop} (hk0 : k0 ≤ 255) (hn0 : n0 < 65536) (hkd : kd = k0 % 14) (hn : n = sizN kd n0) (h8 : kd = 8) (P : Parts kd n 1 u xs d PF) (hw : worldB [o8 (xs 0), sndO] = true) (hA : Applies [o8 (xs 0), sndO] u d PF) (w : World) :
    Calls Sakg.prog 3 #[.int .u8 k0, .int .u16 n0] w fun e w' => e = .returned (.bool true) ∧ Below w.heap.size w w' := by
  have HSZ := hide (pricedSize_x kd n0 (by omega) hn0 w)
  rw [← hn] at HSZ
  have ek : ((k0 : Int) % 14) = ((kd : Nat) : Int) := by omega
  have hnl : n < 65536 := by rw [hn]; unfold sizN; split <;> (try split) <;> omega
  have HPLAY := hide (P.play w)
  have t8 : ((kd : Int) == 8) = true := by rw [beq_iff_eq]; omega
  have hkl : kd ≤ 255 := by omega
  clear hkd hn h8
  go_enter Sakg.func3, Sakg.ntmps3
  go_wp2_with (first | (go_at_call 9; refine (unhide HSZ).mono ?_; rintro e w0 ⟨rfl, rfl⟩))
  refine (unhide HPLAY).mono ?_
  rintro e w1 ⟨g, T, cells, row, As, ks, cs0, A1, k1, c1, rfl, hrow, hcd, htx, hsrc, b1⟩
  have HROW := hide hrow
  have HCD := hide hcd
  have HTX := hide htx
  have HSRC := hide hsrc
  clear hrow hcd htx hsrc HPLAY HSZ ek
  have hrl := (unhide HTX).len
  have hone := (unhide HTX).one
  have hsT : (Sakg.prog.info? 33).map (·.size) = some row.length := by rw [hrl]; exact sizeTx
  have hzl := zeroTx_len
  have HSTG : ∀ wz, Below w1.heap.size w1 wz → Hid (Calls Sakg.prog 11 #[.slice (some ⟨g, 0, none⟩) 1 1] wz (StgP 1 xs wz)) := fun wz hz => hide (stage_x g 1 (by omega) As ks cs0 xs wz T cells ((unhide HROW).kept hz) (fun i hi => ⟨(unhide HCD i hi).1, (unhide HCD i hi).2.1.kept hz, (unhide HCD i hi).2.2⟩))
  have HWB := hide hw
  have HA := hide hA
  have HP := hide P
  clear hw hA P
  go_upto_region 6 with (first
    | ((with_reducible refine at_alloc 33 ?_); refine wpList_alloc_g (by rfl) 33 rfl zeroTx 174 infoTx2 zeroTx_len ?_)
    | ((with_reducible refine at_store 33 ?_); refine wpList_store_whole rfl 33 (.tmp 6) (.tmp 21) rfl _ _ _ row rfl rfl (RowT.new _ _ _) (by rw [hzl, hrl]) hsT hone ?_; intro w2 hr2 ho2; have hbb := box_below ho2; clear ho2; have HR2 := hide hr2; clear hr2)
    | (go_at_call 11; refine (unhide (HSTG _ hbb.1)).mono ?_; rintro e w3 ⟨A3, c3, rows, rfl, own3, hrl3, each3, b3⟩; have OW3 := hide own3; have EA3 := hide each3; have HL3 := hide hrl3; clear own3 each3 hrl3))
  obtain ⟨g3, cur, hA3, hg3, hcur, hcap, hmax, hcs3, htake⟩ : ∃ g3 cur, A3 = some ⟨g3, 0, none⟩ ∧ w2.heap.size ≤ g3 ∧ w3.heap[g3]? = some (.cells cur 43 (0, 0)) ∧ 2 ≤ c3 ∧ c3 ≤ maxLen ∧ cur.size = c3 * 55 ∧ cur.toList.take (2 * 55) = rows.flatten := by
    rcases (unhide OW3).2 with ⟨h1, h2⟩ | ⟨g3, cap, cur, hv, h1, h2, h3, h4, h5, h6⟩
    · omega
    · simp only [Value.slice.injEq] at hv
      obtain ⟨rfl, -, rfl⟩ := hv
      exact ⟨g3, cur, rfl, h1, h2, h3, h4, h5, h6⟩
  subst hA3
  go_upto_region 7 with (first
    | ((with_reducible refine at_build 29 ?_); refine wpList_build_run (by rfl) 29 [(31, .const (.int .u8 1))] rfl (.agg (bv oneW).toArray) (run_w31 _) ?_)
    | ((with_reducible refine at_alloc 29 ?_); refine wpList_alloc_g (by rfl) 29 rfl (bv (zeros 32)) 32 infoWz rfl ?_)
    | ((with_reducible refine at_store 29 ?_); refine wpList_store_whole rfl 29 (.tmp 8) (.tmp 26) rfl _ _ _ (bv oneW) rfl rfl (RowT.new _ _ _) rfl sizeW29 (bv_one _) ?_; intro w4 hr4 ho4; have hb4 := box_below ho4; clear ho4; have HR4 := hide hr4; clear hr4))
  simp only [Act.put, List.setIfInBounds_toArray, List.set_cons_zero, List.set_cons_succ]
  have hcl : cur = cur.toList.toArray := by simp
  rw [hcl] at hcur
  have r3 : RowT 43 w3 g3 cur.toList := hcur
  obtain ⟨w5, hw5⟩ : ∃ y, y = w4.alloc (.cells slotCells.toArray 40) := ⟨_, rfl⟩
  have b5 : Below w4.heap.size w4 w5 := by rw [hw5]; exact (Below.refl _ _).alloc (Nat.le_refl _) _
  have rs5 : RowT 40 w5 w4.heap.size slotCells := by rw [hw5]; exact RowT.new _ _ _
  have r5 := (r3.kept hb4.1).kept b5
  have hll : 110 ≤ cur.toList.length := by rw [Array.length_toList, hcs3]; omega
  obtain ⟨v54, hv54⟩ : ∃ v, cur.toList[54]? = some v := ⟨_, List.getElem?_eq_getElem (by omega)⟩
  have x54 : w5.cell? ⟨g3, 54, none⟩ = some v54 := by rw [r5.cell]; exact hv54
  have f54 := r5.froz 54
  have hbR := hide ((unhide HR4).rangeAll)
  have R5 := hide r5
  have RS5 := hide rs5
  have HW5 := hide hw5
  clear hw5
  have HTK := hide htake
  have hz4 := hb4.2
  have hgl := r3.lt
  clear r3 r5 rs5 hcur hcl htake hcs3 hv54
  have hz4a : w4.heap.size ≤ w3.heap.size + 1 := Nat.le_of_eq hz4
  have hz4b : w3.heap.size + 1 ≤ w4.heap.size := Nat.le_of_eq hz4.symm
  clear hz4
  have hbb1 := hb4.1
  clear hb4
  go_upto_region 8 with (first
    | ((with_reducible refine at_load 29 ?_); refine wpList_load_g (by rfl) 29 (.tmp 8) rfl w3.heap.size 0 rfl (bv oneW) _ (unhide hbR) Sakg.underlying29 rfl sizeW29 ?_)
    | ((with_reducible refine at_build 40 ?_); refine wpList_build_run (by rfl) 40 [(1, .tmp 28)] rfl (.agg (bv (zeros 32) ++ bv oneW).toArray) (run_slotP _) ?_)
    | ((with_reducible refine at_build 40 ?_); refine wpList_build_run (by rfl) 40 [(0, .tmp 30), (1, .tmp 31)] rfl (.agg (bv oneW ++ bv oneW).toArray) (run_slotQ _) ?_)
    | ((with_reducible refine at_buildSlice ?_); refine wpList_lit rfl 41 2 [(0, .tmp 29), (1, .tmp 32)] rfl 40 slotCells (run_slots _) ?_; rw [← unhide HW5]))
  obtain ⟨wx, hwx⟩ : ∃ y, y = w5.setCell ⟨g3, 54, none⟩ (.slice (some ⟨w4.heap.size, 0, none⟩) 2 2) := ⟨_, rfl⟩
  rw [← hwx]
  have rx : RowT 43 wx g3 (cur.toList.set 54 (.slice (some ⟨w4.heap.size, 0, none⟩) 2 2)) := hwx ▸ (unhide R5).set 54 _
  have ox : Only g3 w5 wx := hwx ▸ (Only.refl _ w5).setCell 54 _
  clear hwx x54 f54
  have hcx : ChgS (GO (.slice (some ⟨g3, 0, none⟩) 2 c3)) w3 wx := ((ChgS.of hbb1).then (ChgS.of b5) (fun _ h _ => h)).then (ChgS.only (G := GO (.slice (some ⟨g3, 0, none⟩) 2 c3)) ox rfl) (fun _ h _ => h)
  have eax := (unhide EA3).imp fun _ _ hh => hh.go (G' := GO (.slice (some ⟨g3, 0, none⟩) 2 c3)) hcx (fun k hk _ => hk)
  have hos3 : OAcctsR wx (some ⟨g3, 0, none⟩) 2 c3 [o8 (xs 0), sndO] := stage8_rows rx (unhide HTK) hll hcap hmax eax (ox.rowT (unhide RS5) (by omega))
  have z12 := hbb.1.size
  have z23 := b3.size
  have hzb := hbb.2
  have b23 : Below w2.heap.size w2 wx := (b3.trans ((hbb1.trans (b5.mono hbb1.size)).mono b3.size)).trans (ox.below _ hg3)
  have b13 : Below w1.heap.size w1 wx := hbb.1.trans (b23.mono hbb.1.size)
  have HRX := hide ((unhide HR2).kept b23)
  clear rx ox hcx eax hzb
  have HSP := hide (specOf_x (some ⟨g3, 0, none⟩) 2 c3 _ wx hos3 (by omega) (unhide HWB))
  clear hos3
  go_wp2_with fail
  refine (unhide HSP).mono ?_
  rintro e wy ⟨bw, cs, tot, rfl, hbw, hsi, hxb, b4⟩
  have HAP := hide (unhide HA bw tot cs wy wx row A1 k1 c1 hbw b4 hsi hxb (unhide HTX) ((unhide HSRC).kept b13))
  have R4 := hide ((unhide HRX).kept b4).rangeAll
  clear hsi hxb HSP
  go_wp2_with (first
    | ((with_reducible refine at_load 33 ?_); refine wpList_load_g (by rfl) 33 (.tmp 6) rfl w1.heap.size 0 rfl row _ (unhide R4) Sakg.underlying33 rfl hsT ?_)
    | (go_at_call 13; refine (unhide HAP).mono ?_; rintro e wz5 ⟨A, L, k, l, md, F, B', G', cs', x', rfl, hmd, hsi5, hg5, hpf, hch5⟩; have HSI := hide hsi5; have HG5 := hide hg5; have HPF := hide hpf; have HCH := hide hch5; clear hsi5 hg5 hpf hch5; have hlr := rcptG_len 0 (.slice A k k) (.slice L l l) u md hmd.len; have hor := rcptG_one 0 A L k k l l u md; have hsR : (Sakg.prog.info? 48).map (·.size) = some (rcptG 0 (.slice A k k) (.slice L l l) u md).length := (by { rw [hlr]; exact sizeRcpt }); obtain ⟨R, hR⟩ : ∃ R, R = rcptG 0 (.slice A k k) (.slice L l l) u md := ⟨_, rfl⟩; rw [← hR] at hlr hor hsR ⊢; have HRR := hide hR; clear hR)
    | ((with_reducible refine at_alloc 48 ?_); refine wpList_alloc_g (by rfl) 48 rfl (rcptRow 0 nilS 0 (zeros 20)) 25 infoRcpt rfl ?_)
    | ((with_reducible refine at_store 48 ?_); refine wpList_store_whole rfl 48 (.tmp 10) (.tmp 40) rfl _ _ _ R rfl rfl (RowT.new _ _ _) (by rw [hlr]; rfl) hsR hor ?_; intro wz6 hr6 ho6; have hb6 := box_below ho6; clear ho6; have HR6 := hide hr6; clear hr6))
  simp only [Act.put, List.setIfInBounds_toArray, List.set_cons_zero, List.set_cons_succ]
  have dr : Below wz6.heap.size wz6 wz6.drew := Quiet.below ⟨1, rfl⟩ _
  have hRR : ∀ wz, Below wz6.heap.size wz6 wz → wz.rangeAt wz5.heap.size 0 R := fun wz hz => ((unhide HR6).kept hz).rangeAll
  have hHold : ∀ wz, Calls Sakg.prog 14 #[.int .u8 kd, .int .u16 n, .agg R.toArray] wz fun e w' => e = .returned (.bool true) ∧ Below wz.heap.size wz w' := fun wz => by rw [unhide HRR]; exact pricedHolds_x kd n u A L k l md hmd wz (unhide HP).used
  have hExp : ∀ wz, Below wz6.heap.size wz6 wz → Calls Sakg.prog 16 #[.pointer (some ⟨bw, 0, none⟩)] wz fun e w' => (∃ A l c, e = .returned (.slice A l c) ∧ OAcctsR w' A l c (outs F) ∧ l ≤ 1000000) ∧ Below wz.heap.size wz w' := fun wz hz => by
    refine (export_any (((unhide HSI).kept hb6.1).kept hz).cw (unhide HG5)).mono ?_
    rintro e w' ⟨A, l, c, rfl, a1, a2⟩
    have h3 := unhide HG5
    have hsz : szA F ≤ 900000 := by
      have := h3.sz
      have e : szW (freshD F) = szA F + 0 + 0 + 0 + 0 + 0 + 0 := rfl
      omega
    have hll := a1.len
    have hol := outs_len F
    have hna := szA_ge F
    have e2 : (freshD F).accts = F := rfl
    rw [e2] at a1 hll
    exact ⟨⟨A, l, c, rfl, a1, by omega⟩, a2⟩
  have hWor : ∀ wz A0 l0 c0, OAcctsR wz A0 l0 c0 (outs F) → l0 ≤ 1000000 → Calls Sakg.prog 15 #[.int .u8 kd, .int .u16 n, .agg R.toArray, .slice A0 l0 c0] wz fun e w' => e = .returned (.bool true) ∧ Below wz.heap.size wz w' := fun wz A0 l0 c0 h1 h2 => by rw [unhide HRR]; exact (unhide HP).world wz A L A0 k l l0 c0 md F B' hmd (unhide HPF) (unhide HG5) h1 h2
  have b15 : Below w.heap.size w wz5 := by
    have h4 : Below w.heap.size w wy := b1.trans ((b13.trans (b4.mono b13.size)).mono b1.size)
    have z1 := b1.size
    have z3 := b13.size
    exact h4.trans ((unhide HCH).below w.heap.size (fun i hi => by have h1 : i = bw := hi; omega) h4.size)
  have HHOLD := hide hHold
  have HEXP := hide hExp
  have HWOR := hide hWor
  clear hHold hExp hWor
  refine wp_region_noPanic ?_
  refine wp_region_held_drew (S := fun w' => Below wz6.heap.size wz6 w') (by kernel_rfl) (dr) (fun hHeld => ?_)
  refine held_takeD 0 (.int .u8 kd) (some 41) (by rfl) (by rfl) (by kernel_rfl) (by kernel_rfl) (by kernel_rfl) (fun _ _ _ h => h) (.inl ⟨by rfl, fun _ _ => by rfl⟩) (hHeld) ?_
  simp only [Act.put, List.setIfInBounds_toArray, List.set_cons_zero, List.set_cons_succ]
  refine held_takeD 1 (.int .u16 n) (some 42) (by rfl) (by rfl) (by kernel_rfl) (by kernel_rfl) (by kernel_rfl) (fun _ _ _ h => h) (.inl ⟨by rfl, fun _ _ => by rfl⟩) (hHeld) ?_
  simp only [Act.put, List.setIfInBounds_toArray, List.set_cons_zero, List.set_cons_succ]
  refine held_takeD 2 (.agg R.toArray) (some 43) (by rfl) (by rfl) (by kernel_rfl) (by kernel_rfl) (by kernel_rfl) (fun _ _ _ h => h) (yieldsIf_load_mid (by rfl) _ _ rfl _ _ rfl _ _ (fun wz hS => hRR wz hS) Sakg.underlying48 rfl hsR) (hHeld) ?_
  simp only [Act.put, List.setIfInBounds_toArray, List.set_cons_zero, List.set_cons_succ]
  refine held_one 3 (by kernel_rfl) (by rfl) (fun K' hK' => ?_)
  go_simp
  refine (unhide HHOLD wz6.drew).mono ?_
  rintro e w7 ⟨rfl, b7⟩
  refine hK'.out _ _ (dr.trans (b7.mono dr.size)) ?_
  clear hK' K'
  have d7 := dr.trans (b7.mono dr.size)
  refine held_takeD 4 (.bool true) (some 45) (by rfl) (by rfl) (by kernel_rfl) (by kernel_rfl) (by kernel_rfl) (fun _ _ _ h => h) (.inl ⟨by rfl, fun _ _ => by rfl⟩) (d7) ?_
  simp only [Act.put, List.setIfInBounds_toArray, List.set_cons_zero, List.set_cons_succ]
  refine held_takeD 5 (.int .u8 kd) (some 46) (by rfl) (by rfl) (by kernel_rfl) (by kernel_rfl) (by kernel_rfl) (fun _ _ _ h => h) (.inl ⟨by rfl, fun _ _ => by rfl⟩) (d7) ?_
  simp only [Act.put, List.setIfInBounds_toArray, List.set_cons_zero, List.set_cons_succ]
  refine held_takeD 6 (.int .u16 n) (some 47) (by rfl) (by rfl) (by kernel_rfl) (by kernel_rfl) (by kernel_rfl) (fun _ _ _ h => h) (.inl ⟨by rfl, fun _ _ => by rfl⟩) (d7) ?_
  simp only [Act.put, List.setIfInBounds_toArray, List.set_cons_zero, List.set_cons_succ]
  refine held_takeD 7 (.agg R.toArray) (some 48) (by rfl) (by rfl) (by kernel_rfl) (by kernel_rfl) (by kernel_rfl) (fun _ _ _ h => h) (yieldsIf_load_mid (by rfl) _ _ rfl _ _ rfl _ _ (fun wz hS => hRR wz hS) Sakg.underlying48 rfl hsR) (d7) ?_
  simp only [Act.put, List.setIfInBounds_toArray, List.set_cons_zero, List.set_cons_succ]
  refine held_takeD 8 (.pointer (some ⟨bw, 0, none⟩)) (some 49) (by rfl) (by rfl) (by kernel_rfl) (by kernel_rfl) (by kernel_rfl) (fun _ _ _ h => h) (.inl ⟨by rfl, fun _ _ => by rfl⟩) (d7) ?_
  simp only [Act.put, List.setIfInBounds_toArray, List.set_cons_zero, List.set_cons_succ]
  refine held_one 9 (by kernel_rfl) (by rfl) (fun K' hK' => ?_)
  go_simp
  refine (unhide HEXP w7 d7).mono ?_
  rintro e w8 ⟨⟨Ae, le, ce, rfl, hoe, hle⟩, b8⟩
  refine hK'.out _ _ (d7.trans (b8.mono d7.size)) ?_
  clear hK' K'
  have d8 := d7.trans (b8.mono d7.size)
  have HWQ := hide (unhide HWOR w8 Ae le ce hoe hle)
  clear hoe
  refine held_one 10 (by kernel_rfl) (by rfl) (fun K' hK' => ?_)
  go_simp
  refine (unhide HWQ).mono ?_
  rintro e w9 ⟨rfl, b9⟩
  refine hK'.out _ _ (d8.trans (b9.mono d8.size)) ?_
  clear hK' K'
  have d9 := d8.trans (b9.mono d8.size)
  refine held_takeD 11 (.bool true) (some 52) (by rfl) (by rfl) (by kernel_rfl) (by kernel_rfl) (by kernel_rfl) (fun _ _ _ h => h) (.inl ⟨by rfl, fun _ _ => by go_simp⟩) (d9) ?_
  simp only [Act.put, List.setIfInBounds_toArray, List.set_cons_zero, List.set_cons_succ]
  refine held_takeD 12 (.bool true) (some 4) (by rfl) (by rfl) (by kernel_rfl) (by kernel_rfl) (by kernel_rfl) (fun _ _ _ h => h) (.inl ⟨by rfl, fun _ _ => by rfl⟩) (d9) ?_
  simp only [Act.put, List.setIfInBounds_toArray, List.set_cons_zero, List.set_cons_succ]
  refine wpAnyH_done (by kernel_rfl) ?_ _
  refine NoPanic.normal ?_
  go_wp2
  go_ret
  exact ⟨rfl, (b15.trans (hb6.1.mono b15.size)).trans (d9.mono (by have := b15.size; have := hb6.1.size; omega))⟩

end Go.Proofs.YgcsakGreat
