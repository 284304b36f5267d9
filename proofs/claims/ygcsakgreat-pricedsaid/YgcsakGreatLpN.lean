/-
  law: Priced, its parts being told by hypotheses.
-/
import Derived.Test.YgcsakGreatLpM
namespace Go.Proofs.YgcsakGreat
set_option linter.unusedVariables false
set_option linter.unusedSimpArgs false
set_option maxRecDepth 100000
open Go.RowKit

/-- what Apply leaves, as the law asks for it -/
def FinP (bw u : Nat) (PF : List Int → List YAcct → Prop) (w : World) (e : Ending) (w' : World) : Prop :=
  ∃ (A L : Option Addr) (k l : Nat) (md : List Int) (F : List YAcct) (B' : Nat) (G' : Nat → Prop) (cs' : List Value) (x' : XD), e = .returned (.agg (rcptG 0 (.slice A k k) (.slice L l l) u md).toArray) ∧ IsAddr md ∧ SI G' bw 0 cs' (freshD F) x' w' ∧ Good B' (freshD F) ∧ PF md F ∧ ChgS (· = bw) w w'
/-- the parts of a row of Priced -/
structure Parts (kd n m u : Nat) (xs : Nat → List Int) (d : YTx) (PF : List Int → List YAcct → Prop) : Prop where
  play : ∀ wz, Calls Sakg.prog 10 #[.int .u8 kd, .int .u16 n] wz (PlayP m xs d wz)
  le : m ≤ 2
  used : ∀ wz, Calls Sakg.prog 51 #[.int .u8 kd, .int .u16 n] wz fun e w' => e = .returned (.int .u64 u) ∧ wz = w'
  world : ∀ (wz : World) (A L W0 : Option Addr) (k l lw cw : Nat) (md : List Int) (F : List YAcct) (B : Nat), IsAddr md → PF md F → Good B (freshD F) → OAcctsR wz W0 lw cw (outs F) → lw ≤ 1000000 → Calls Sakg.prog 15 #[.int .u8 kd, .int .u16 n, .agg (rcptG 0 (.slice A k k) (.slice L l l) u md).toArray, .slice W0 lw cw] wz fun e w' => e = .returned (.bool true) ∧ Below wz.heap.size wz w'
def Applies (os : List OAcct) (u : Nat) (d : YTx) (PF : List Int → List YAcct → Prop) : Prop :=
  ∀ (bw tot : Nat) (cs : List Value) (w w0 : World) (row : List Value) (A1 : Option Addr) (k1 c1 : Nat), w0.heap.size ≤ bw → Below w0.heap.size w0 w → SI (· = bw) bw 0 cs (freshD (os.map acctOf)) (xS tot) w → XB (xS tot) → TxC row d A1 k1 c1 none 0 0 → Src w0 A1 k1 c1 d.data → Calls Sakg.prog 13 #[.pointer (some ⟨bw, 0, none⟩), .agg row.toArray] w (FinP bw u PF w)
set_option maxHeartbeats 16000000 in
theorem priced_gen {k0 n0 kd n m u : Nat} {xs : Nat → List Int} {d : YTx} {PF : List Int → List YAcct → Prop} (hk0 : k0 ≤ 255) (hn0 : n0 < 65536) (hkd : kd = k0 % 14) (hn : n = sizN kd n0) (h8 : kd ≠ 8) (P : Parts kd n m u xs d PF) (hw : worldB (accO xs m ++ [sndO]) = true) (hA : Applies (accO xs m ++ [sndO]) u d PF) (w : World) :
    Calls Sakg.prog 3 #[.int .u8 k0, .int .u16 n0] w fun e w' => e = .returned (.bool true) ∧ Below w.heap.size w w' := by
  have HSZ := hide (pricedSize_x kd n0 (by omega) hn0 w)
  rw [← hn] at HSZ
  have ek : ((k0 : Int) % 14) = ((kd : Nat) : Int) := by omega
  have hnl : n < 65536 := by rw [hn]; unfold sizN; split <;> (try split) <;> omega
  have HPLAY := hide (P.play w)
  clear hkd hn
  go_enter Sakg.func3, Sakg.ntmps3
  go_wp2_with (first | (go_at_call 9; refine (unhide HSZ).mono ?_; rintro e w0 ⟨rfl, rfl⟩))
  refine (unhide HPLAY).mono ?_
  rintro e w1 ⟨g, T, cells, row, As, ks, cs0, A1, k1, c1, rfl, hrow, hcd, htx, hsrc, b1⟩
  have t8 : ((kd : Int) == 8) = false := by rw [beq_eq_false_iff_ne]; omega
  have HROW := hide hrow
  have HCD := hide hcd
  have HTX := hide htx
  have HSRC := hide hsrc
  clear hrow hcd htx hsrc HPLAY HSZ ek
  have hrl := (unhide HTX).len
  have hone := (unhide HTX).one
  have hsT : (Sakg.prog.info? 33).map (·.size) = some row.length := by rw [hrl]; exact sizeTx
  have hzl := zeroTx_len
  have HM := hide P.le
  have HSTG : ∀ wz, Below w1.heap.size w1 wz → Hid (Calls Sakg.prog 11 #[.slice (some ⟨g, 0, none⟩) m m] wz (StgP m xs wz)) := fun wz hz => hide (stage_x g m (unhide HM) As ks cs0 xs wz T cells ((unhide HROW).kept hz) (fun i hi => ⟨(unhide HCD i hi).1, (unhide HCD i hi).2.1.kept hz, (unhide HCD i hi).2.2⟩))
  have HWB := hide hw
  have HA := hide hA
  have HP := hide P
  clear hw hA P
  go_wp2_with (first
    | ((with_reducible refine at_alloc 33 ?_); refine wpList_alloc_g (by rfl) 33 rfl zeroTx 174 infoTx2 zeroTx_len ?_)
    | ((with_reducible refine at_store 33 ?_); refine wpList_store_whole rfl 33 (.tmp 6) (.tmp 21) rfl _ _ _ row rfl rfl (RowT.new _ _ _) (by rw [hzl, hrl]) hsT hone ?_; intro w2 hr2 ho2; have hbb := box_below ho2; clear ho2; have HR2 := hide hr2; clear hr2)
    | (go_at_call 11; refine (unhide (HSTG _ hbb.1)).mono ?_; rintro e w3 ⟨A3, c3, rows, rfl, own3, hrl3, each3, b3⟩; have OW3 := hide own3; have EA3 := hide each3; have HL3 := hide hrl3; clear own3 each3 hrl3))
  have hos3 : OAcctsR w3 A3 (m + 1) c3 (accO xs m ++ [sndO]) := by
    obtain ⟨A, c, hv, hrws⟩ := own_rws (unhide OW3) ((unhide EA3).all (p := fun r => r.length = 55) (fun r d h => h.len)) (unhide HL3)
    simp only [Value.slice.injEq] at hv
    obtain ⟨rfl, -, rfl⟩ := hv
    exact ⟨rows, hrws, (unhide EA3).imp fun _ _ hh => hh.now⟩
  have hm2 := unhide HM
  have b13 : Below w1.heap.size w1 w3 := hbb.1.trans (b3.mono hbb.1.size)
  have HSP := hide (specOf_x A3 (m + 1) c3 _ w3 hos3 (by omega) (unhide HWB))
  clear hos3
  refine (unhide HSP).mono ?_
  rintro e w4 ⟨bw, cs, tot, rfl, hbw, hsi, hxb, b4⟩
  have HAP := hide (unhide HA bw tot cs w4 w3 row A1 k1 c1 hbw b4 hsi hxb (unhide HTX) ((unhide HSRC).kept b13))
  have R4 := hide (((unhide HR2).kept b3).kept b4).rangeAll
  clear hsi hxb HSP
  go_wp2_with (first
    | ((with_reducible refine at_load 33 ?_); refine wpList_load_g (by rfl) 33 (.tmp 6) rfl w1.heap.size 0 rfl row _ (unhide R4) Sakg.underlying33 rfl hsT ?_)
    | (go_at_call 13; refine (unhide HAP).mono ?_; rintro e w5 ⟨A, L, k, l, md, F, B', G', cs', x', rfl, hmd, hsi5, hg5, hpf, hch5⟩; have HSI := hide hsi5; have HG5 := hide hg5; have HPF := hide hpf; have HCH := hide hch5; clear hsi5 hg5 hpf hch5; have hlr := rcptG_len 0 (.slice A k k) (.slice L l l) u md hmd.len; have hor := rcptG_one 0 A L k k l l u md; have hsR : (Sakg.prog.info? 48).map (·.size) = some (rcptG 0 (.slice A k k) (.slice L l l) u md).length := (by { rw [hlr]; exact sizeRcpt }); obtain ⟨R, hR⟩ : ∃ R, R = rcptG 0 (.slice A k k) (.slice L l l) u md := ⟨_, rfl⟩; rw [← hR] at hlr hor hsR ⊢; have HRR := hide hR; clear hR)
    | ((with_reducible refine at_alloc 48 ?_); refine wpList_alloc_g (by rfl) 48 rfl (rcptRow 0 nilS 0 (zeros 20)) 25 infoRcpt rfl ?_)
    | ((with_reducible refine at_store 48 ?_); refine wpList_store_whole rfl 48 (.tmp 10) (.tmp 40) rfl _ _ _ R rfl rfl (RowT.new _ _ _) (by rw [hlr]; rfl) hsR hor ?_; intro w6 hr6 ho6; have hb6 := box_below ho6; clear ho6; have HR6 := hide hr6; clear hr6))
  simp only [Act.put, List.setIfInBounds_toArray, List.set_cons_zero, List.set_cons_succ]
  have dr : Below w6.heap.size w6 w6.drew := Quiet.below ⟨1, rfl⟩ _
  have hRR : ∀ wz, Below w6.heap.size w6 wz → wz.rangeAt w5.heap.size 0 R := fun wz hz => ((unhide HR6).kept hz).rangeAll
  have hHold : ∀ wz, Calls Sakg.prog 14 #[.int .u8 kd, .int .u16 n, .agg R.toArray] wz fun e w' => e = .returned (.bool true) ∧ Below wz.heap.size wz w' := fun wz => by rw [unhide HRR]; exact pricedHolds_x kd n u A L k l md hmd wz (unhide HP).used
  have hExp : ∀ wz, Below w6.heap.size w6 wz → Calls Sakg.prog 16 #[.pointer (some ⟨bw, 0, none⟩)] wz fun e w' => (∃ A l c, e = .returned (.slice A l c) ∧ OAcctsR w' A l c (outs F) ∧ l ≤ 1000000) ∧ Below wz.heap.size wz w' := fun wz hz => by
    refine (export_any (((unhide HSI).kept hb6.1).kept hz).cw (unhide HG5)).mono ?_
    rintro e w' ⟨A, l, c, rfl, a1, a2⟩
    have h3 := unhide HG5
    have hsz : szA F ≤ 900000 := by
      have := h3.sz
      have e : szW (freshD F) = szA F + 0 + 0 + 0 + 0 + 0 + 0 := rfl
      omega
    have hll := a1.len
    have hol := outs_len F
    have hna := szA_ge F
    have e2 : (freshD F).accts = F := rfl
    rw [e2] at a1 hll
    exact ⟨⟨A, l, c, rfl, a1, by omega⟩, a2⟩
  have hWor : ∀ wz A0 l0 c0, OAcctsR wz A0 l0 c0 (outs F) → l0 ≤ 1000000 → Calls Sakg.prog 15 #[.int .u8 kd, .int .u16 n, .agg R.toArray, .slice A0 l0 c0] wz fun e w' => e = .returned (.bool true) ∧ Below wz.heap.size wz w' := fun wz A0 l0 c0 h1 h2 => by rw [unhide HRR]; exact (unhide HP).world wz A L A0 k l l0 c0 md F B' hmd (unhide HPF) (unhide HG5) h1 h2
  have b15 : Below w.heap.size w w5 := by
    have h4 : Below w.heap.size w w4 := b1.trans ((b13.trans (b4.mono b13.size)).mono b1.size)
    have z1 := b1.size
    have z3 := b13.size
    exact h4.trans ((unhide HCH).below w.heap.size (fun i hi => by have h1 : i = bw := hi; omega) h4.size)
  have HHOLD := hide hHold
  have HEXP := hide hExp
  have HWOR := hide hWor
  clear hHold hExp hWor
  refine wp_region_noPanic ?_
  refine wp_region_held_drew (S := fun w' => Below w6.heap.size w6 w') (by kernel_rfl) (dr) (fun hHeld => ?_)
  refine held_takeD 0 (.int .u8 kd) (some 41) (by rfl) (by rfl) (by kernel_rfl) (by kernel_rfl) (by kernel_rfl) (fun _ _ _ h => h) (.inl ⟨by rfl, fun _ _ => by rfl⟩) (hHeld) ?_
  simp only [Act.put, List.setIfInBounds_toArray, List.set_cons_zero, List.set_cons_succ]
  refine held_takeD 1 (.int .u16 n) (some 42) (by rfl) (by rfl) (by kernel_rfl) (by kernel_rfl) (by kernel_rfl) (fun _ _ _ h => h) (.inl ⟨by rfl, fun _ _ => by rfl⟩) (hHeld) ?_
  simp only [Act.put, List.setIfInBounds_toArray, List.set_cons_zero, List.set_cons_succ]
  refine held_takeD 2 (.agg R.toArray) (some 43) (by rfl) (by rfl) (by kernel_rfl) (by kernel_rfl) (by kernel_rfl) (fun _ _ _ h => h) (yieldsIf_load_mid (by rfl) _ _ rfl _ _ rfl _ _ (fun wz hS => hRR wz hS) Sakg.underlying48 rfl hsR) (hHeld) ?_
  simp only [Act.put, List.setIfInBounds_toArray, List.set_cons_zero, List.set_cons_succ]
  refine held_one 3 (by kernel_rfl) (by rfl) (fun K' hK' => ?_)
  go_simp
  refine (unhide HHOLD w6.drew).mono ?_
  rintro e w7 ⟨rfl, b7⟩
  refine hK'.out _ _ (dr.trans (b7.mono dr.size)) ?_
  clear hK' K'
  have d7 := dr.trans (b7.mono dr.size)
  refine held_takeD 4 (.bool true) (some 45) (by rfl) (by rfl) (by kernel_rfl) (by kernel_rfl) (by kernel_rfl) (fun _ _ _ h => h) (.inl ⟨by rfl, fun _ _ => by rfl⟩) (d7) ?_
  simp only [Act.put, List.setIfInBounds_toArray, List.set_cons_zero, List.set_cons_succ]
  refine held_takeD 5 (.int .u8 kd) (some 46) (by rfl) (by rfl) (by kernel_rfl) (by kernel_rfl) (by kernel_rfl) (fun _ _ _ h => h) (.inl ⟨by rfl, fun _ _ => by rfl⟩) (d7) ?_
  simp only [Act.put, List.setIfInBounds_toArray, List.set_cons_zero, List.set_cons_succ]
  refine held_takeD 6 (.int .u16 n) (some 47) (by rfl) (by rfl) (by kernel_rfl) (by kernel_rfl) (by kernel_rfl) (fun _ _ _ h => h) (.inl ⟨by rfl, fun _ _ => by rfl⟩) (d7) ?_
  simp only [Act.put, List.setIfInBounds_toArray, List.set_cons_zero, List.set_cons_succ]
  refine held_takeD 7 (.agg R.toArray) (some 48) (by rfl) (by rfl) (by kernel_rfl) (by kernel_rfl) (by kernel_rfl) (fun _ _ _ h => h) (yieldsIf_load_mid (by rfl) _ _ rfl _ _ rfl _ _ (fun wz hS => hRR wz hS) Sakg.underlying48 rfl hsR) (d7) ?_
  simp only [Act.put, List.setIfInBounds_toArray, List.set_cons_zero, List.set_cons_succ]
  refine held_takeD 8 (.pointer (some ⟨bw, 0, none⟩)) (some 49) (by rfl) (by rfl) (by kernel_rfl) (by kernel_rfl) (by kernel_rfl) (fun _ _ _ h => h) (.inl ⟨by rfl, fun _ _ => by rfl⟩) (d7) ?_
  simp only [Act.put, List.setIfInBounds_toArray, List.set_cons_zero, List.set_cons_succ]
  refine held_one 9 (by kernel_rfl) (by rfl) (fun K' hK' => ?_)
  go_simp
  refine (unhide HEXP w7 d7).mono ?_
  rintro e w8 ⟨⟨Ae, le, ce, rfl, hoe, hle⟩, b8⟩
  refine hK'.out _ _ (d7.trans (b8.mono d7.size)) ?_
  clear hK' K'
  have d8 := d7.trans (b8.mono d7.size)
  have HWQ := hide (unhide HWOR w8 Ae le ce hoe hle)
  clear hoe
  refine held_one 10 (by kernel_rfl) (by rfl) (fun K' hK' => ?_)
  go_simp
  refine (unhide HWQ).mono ?_
  rintro e w9 ⟨rfl, b9⟩
  refine hK'.out _ _ (d8.trans (b9.mono d8.size)) ?_
  clear hK' K'
  have d9 := d8.trans (b9.mono d8.size)
  refine held_takeD 11 (.bool true) (some 52) (by rfl) (by rfl) (by kernel_rfl) (by kernel_rfl) (by kernel_rfl) (fun _ _ _ h => h) (.inl ⟨by rfl, fun _ _ => by go_simp⟩) (d9) ?_
  simp only [Act.put, List.setIfInBounds_toArray, List.set_cons_zero, List.set_cons_succ]
  refine held_takeD 12 (.bool true) (some 4) (by rfl) (by rfl) (by kernel_rfl) (by kernel_rfl) (by kernel_rfl) (fun _ _ _ h => h) (.inl ⟨by rfl, fun _ _ => by rfl⟩) (d9) ?_
  simp only [Act.put, List.setIfInBounds_toArray, List.set_cons_zero, List.set_cons_succ]
  refine wpAnyH_done (by kernel_rfl) ?_ _
  refine NoPanic.normal ?_
  go_wp2
  go_ret
  exact ⟨rfl, (b15.trans (hb6.1.mono b15.size)).trans (d9.mono (by have := b15.size; have := hb6.1.size; omega))⟩

end Go.Proofs.YgcsakGreat
