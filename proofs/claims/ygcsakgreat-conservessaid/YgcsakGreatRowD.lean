/-
  VerdictRight's row: accounts, the environment and the transaction, off their readings.
-/
import Derived.Test.YgcsakGreatRowC
namespace Go.Proofs.YgcsakGreat
open Go.ChangeShapes Go.WideShapes Go.RowKit Go.Deep
set_option linter.unusedVariables false
set_option linter.unusedSimpArgs false
set_option maxRecDepth 100000

instance : Inhabited OAcct := ⟨zeroO⟩
theorem fldSl0 : FieldAt 40 0 0 29 := ⟨by kernel_rfl, by kernel_rfl⟩
theorem fldSl1 : FieldAt 40 1 32 29 := ⟨by kernel_rfl, by kernel_rfl⟩
theorem fldAc0 : FieldAt 43 0 0 26 := ⟨by kernel_rfl, by kernel_rfl⟩
theorem fldAc1 : FieldAt 43 1 20 27 := ⟨by kernel_rfl, by kernel_rfl⟩
theorem fldAc2 : FieldAt 43 2 21 29 := ⟨by kernel_rfl, by kernel_rfl⟩
theorem fldAc3 : FieldAt 43 3 53 30 := ⟨by kernel_rfl, by kernel_rfl⟩
theorem fldAc4 : FieldAt 43 4 54 41 := ⟨by kernel_rfl, by kernel_rfl⟩
theorem fldXs0 : FieldAt 191 0 0 26 := ⟨by kernel_rfl, by kernel_rfl⟩
theorem fldXs1 : FieldAt 191 1 20 62 := ⟨by kernel_rfl, by kernel_rfl⟩
theorem fldEn0 : FieldAt 64 0 0 26 := ⟨by kernel_rfl, by kernel_rfl⟩
theorem fldEn1 : FieldAt 64 1 20 27 := ⟨by kernel_rfl, by kernel_rfl⟩
theorem fldEn2 : FieldAt 64 2 21 27 := ⟨by kernel_rfl, by kernel_rfl⟩
theorem fldEn3 : FieldAt 64 3 22 27 := ⟨by kernel_rfl, by kernel_rfl⟩
theorem fldEn4 : FieldAt 64 4 23 29 := ⟨by kernel_rfl, by kernel_rfl⟩
theorem fldEn5 : FieldAt 64 5 55 29 := ⟨by kernel_rfl, by kernel_rfl⟩
theorem fldEn6 : FieldAt 64 6 87 29 := ⟨by kernel_rfl, by kernel_rfl⟩
theorem fldEn7 : FieldAt 64 7 119 62 := ⟨by kernel_rfl, by kernel_rfl⟩
theorem fldTx0 : FieldAt 33 0 0 26 := ⟨by kernel_rfl, by kernel_rfl⟩
theorem fldTx1 : FieldAt 33 1 20 26 := ⟨by kernel_rfl, by kernel_rfl⟩
theorem fldTx2 : FieldAt 33 2 40 4 := ⟨by kernel_rfl, by kernel_rfl⟩
theorem fldTx3 : FieldAt 33 3 41 27 := ⟨by kernel_rfl, by kernel_rfl⟩
theorem fldTx4 : FieldAt 33 4 42 27 := ⟨by kernel_rfl, by kernel_rfl⟩
theorem fldTx5 : FieldAt 33 5 43 29 := ⟨by kernel_rfl, by kernel_rfl⟩
theorem fldTx6 : FieldAt 33 6 75 29 := ⟨by kernel_rfl, by kernel_rfl⟩
theorem fldTx7 : FieldAt 33 7 107 30 := ⟨by kernel_rfl, by kernel_rfl⟩
theorem fldTx8 : FieldAt 33 8 108 4 := ⟨by kernel_rfl, by kernel_rfl⟩
theorem fldTx9 : FieldAt 33 9 109 29 := ⟨by kernel_rfl, by kernel_rfl⟩
theorem fldTx10 : FieldAt 33 10 141 29 := ⟨by kernel_rfl, by kernel_rfl⟩
theorem fldTx11 : FieldAt 33 11 173 31 := ⟨by kernel_rfl, by kernel_rfl⟩
theorem cellsU64 : Sakg.prog.cellsOf 27 = 1 := by kernel_rfl
theorem cellsBool : Sakg.prog.cellsOf 4 = 1 := by kernel_rfl
theorem cellsBy : Sakg.prog.cellsOf 30 = 1 := by kernel_rfl
theorem cellsSl : Sakg.prog.cellsOf 41 = 1 := by kernel_rfl
theorem cellsWs : Sakg.prog.cellsOf 62 = 1 := by kernel_rfl
theorem cellsXs : Sakg.prog.cellsOf 31 = 1 := by kernel_rfl
theorem cellsSlot : Sakg.prog.cellsOf 40 = 64 := by kernel_rfl
theorem cellsAcct : Sakg.prog.cellsOf 43 = 55 := by kernel_rfl
theorem cellsX : Sakg.prog.cellsOf 191 = 21 := by kernel_rfl
theorem cellsEnv : Sakg.prog.cellsOf 64 = 120 := by kernel_rfl
theorem cellsTx : Sakg.prog.cellsOf 33 = 174 := by kernel_rfl
theorem bytesW : Sakg.prog.bytesOf 29 = 32 := by kernel_rfl
theorem bytesSlot : Sakg.prog.bytesOf 40 = 64 := by kernel_rfl
theorem bytesX : Sakg.prog.bytesOf 191 = 48 := by kernel_rfl
theorem bytesAc : Sakg.prog.bytesOf 43 = 112 := by kernel_rfl

theorem drop_split (cs : List Value) (o n : Nat) : cs.drop o = (cs.drop o).take n ++ cs.drop (o + n) := by
  rw [← List.drop_drop, List.take_append_drop]
theorem get_piece {cs : List Value} {o : Nat} {v : Value} (h : (cs.drop o).take 1 = [v]) : cs[o]? = some v := by
  have h1 : ((cs.drop o).take 1)[0]? = some v := by rw [h]; rfl
  rw [List.getElem?_take, if_pos (by omega), List.getElem?_drop, Nat.add_zero] at h1
  exact h1
theorem one_piece {cs : List Value} (o n : Nat) (h : ∀ v ∈ (cs.drop o).take n, v.oneCell' = true) (k : ∀ v ∈ cs.drop (o + n), v.oneCell' = true) : ∀ v ∈ cs.drop o, v.oneCell' = true := by
  intro v hv
  rw [drop_split cs o n] at hv
  rcases List.mem_append.1 hv with h1 | h1
  · exact h v h1
  · exact k v h1
theorem one_cell1 {cs : List Value} {o : Nat} {v : Value} (h : (cs.drop o).take 1 = [v]) (hv : v.oneCell' = true) : ∀ u ∈ (cs.drop o).take 1, u.oneCell' = true := by
  intro u hu
  rw [h] at hu
  rw [List.mem_singleton.1 hu]
  exact hv
theorem one_bv {cs : List Value} {o n : Nat} {xs : List Int} (h : (cs.drop o).take n = bv xs) : ∀ u ∈ (cs.drop o).take n, u.oneCell' = true := by
  rw [h]
  exact bv_one _
theorem one_last {cs : List Value} {o : Nat} (h : cs.length = o) : ∀ v ∈ cs.drop o, v.oneCell' = true := by
  intro v hv
  rw [List.drop_of_length_le (by omega)] at hv
  cases hv

section
variable {H : Type} {enc : TypeId × Value → H} {W : World}

theorem rd_slot {n : Nat} {cs : List Value} {d : DataW H} {ps : List MemPlace} (h : rd enc W n 40 cs = some (d, ps)) (hw : Light 40 d) : ∃ s, OSlotRow cs s := by
  obtain ⟨k0, d0, p0, r0, -, hl⟩ := rd_field fldSl0 cellsW h hw
  obtain ⟨k1, d1, p1, r1, -, -⟩ := rd_field fldSl1 cellsW h hw
  obtain ⟨a, ha, hwa⟩ := rd_w r0
  obtain ⟨b, hb, hwb⟩ := rd_w r1
  rw [cellsSlot] at hl
  refine ⟨(a, b), ?_, hwa, hwb⟩
  have e0 := drop_split cs 0 32
  have e1 := drop_split cs 32 32
  rw [List.drop_of_length_le (i := 64) (by omega), hb, List.append_nil] at e1
  rw [ha, show 0 + 32 = 32 from rfl, e1, List.drop_zero] at e0
  exact e0

theorem rd_acct {n : Nat} {cs : List Value} {d : DataW H} {ps : List MemPlace} (h : rd enc W n 43 cs = some (d, ps)) (hw : Light 43 d) : ∃ o, OAcctRow W cs o := by
  obtain ⟨k0, d0, p0, r0, -, hl⟩ := rd_field fldAc0 cellsAddr h hw
  obtain ⟨k1, d1, p1, r1, -, -⟩ := rd_field fldAc1 cellsU64 h hw
  obtain ⟨k2, d2, p2, r2, -, -⟩ := rd_field fldAc2 cellsW h hw
  obtain ⟨k3, d3, p3, r3, -, -⟩ := rd_field fldAc3 cellsBy h hw
  obtain ⟨k4, d4, p4, r4, l4, -⟩ := rd_field fldAc4 cellsSl h hw
  rw [cellsAcct] at hl
  obtain ⟨a, ha, haa⟩ := rd_addr r0
  obtain ⟨nn, hn, hnn⟩ := rd_u64 r1
  obtain ⟨b, hb, hwb⟩ := rd_w r2
  obtain ⟨A3, q3, c3, code, hc, hsrc⟩ := rd_bytes r3
  obtain ⟨A4, q4, c4, rows, ss, hs, hrws, heach, -⟩ := rd_rows (R := OSlotRow) Sakg.underlying41 cellsSlot (by omega) bytesSlot r4 l4 (fun k cs' d' ps' g1 g2 _ => rd_slot g1 g2)
  refine ⟨⟨a, nn, b, code, ss⟩, A3, q3, c3, A4, q4, c4, ?_, haa, hnn, hwb, hsrc, rows, hrws, heach⟩
  have e0 := drop_split cs 0 20
  have e1 := drop_split cs 20 1
  have e2 := drop_split cs 21 32
  have e3 := drop_split cs 53 1
  have e4 := drop_split cs 54 1
  rw [List.drop_of_length_le (i := 54 + 1) (by omega), hs, List.append_nil] at e4
  rw [show 53 + 1 = 54 from rfl, e4, hc] at e3
  rw [show 21 + 32 = 53 from rfl, e3, hb] at e2
  rw [show 20 + 1 = 21 from rfl, e2, hn] at e1
  rw [show 0 + 20 = 20 from rfl, e1, ha, List.drop_zero] at e0
  exact e0

theorem rd_words {n : Nat} {cs : List Value} {d : DataW H} {ps : List MemPlace} (h : rd enc W n 62 cs = some (d, ps)) (hw : Light 62 d) : ∃ A l c ks, cs = [.slice A l c] ∧ wordsR W A l c ks ∧ l * 32 ≤ reachBytes := by
  obtain ⟨A, l, c, rows, xs, h1, h2, h3, h4⟩ := rd_rows (R := fun r a => r = bv a ∧ IsW a) Sakg.underlying62 cellsW (by omega) bytesW h hw (fun k cs' d' ps' g1 g2 _ => rd_w g1)
  have e : ∀ {rows : List (List Value)} {xs : List (List Int)}, Each (fun r a => r = bv a ∧ IsW a) rows xs → rows = xs.map bv ∧ ∀ k ∈ xs, IsW k := by
    intro rows
    induction rows with
    | nil => intro xs h; cases xs with
      | nil => exact ⟨rfl, fun k hk => by cases hk⟩
      | cons _ _ => exact h.elim
    | cons r rs ih => intro xs h; cases xs with
      | nil => exact h.elim
      | cons x xs =>
        obtain ⟨⟨h1, h2⟩, h3⟩ := h
        obtain ⟨h4, h5⟩ := ih h3
        refine ⟨by rw [h1, h4]; rfl, fun k hk => ?_⟩
        rcases List.mem_cons.1 hk with rfl | hk
        · exact h2
        · exact h5 k hk
  obtain ⟨e1, e2⟩ := e h3
  exact ⟨A, l, c, xs, h1, ⟨by rw [← e1]; exact h2, e2⟩, h4⟩

theorem rd_access {n : Nat} {cs : List Value} {d : DataW H} {ps : List MemPlace} (h : rd enc W n 191 cs = some (d, ps)) (hw : Light 191 d) : ∃ x, AccRow W cs x ∧ x.2.length ≤ 140737488355328 := by
  obtain ⟨k0, d0, p0, r0, -, hl⟩ := rd_field fldXs0 cellsAddr h hw
  obtain ⟨k1, d1, p1, r1, l1, -⟩ := rd_field fldXs1 cellsWs h hw
  rw [cellsX] at hl
  obtain ⟨a, ha, haa⟩ := rd_addr r0
  obtain ⟨A, l, c, ks, hk, hks, hkl⟩ := rd_words r1 l1
  have e0 := drop_split cs 0 20
  have e1 := drop_split cs 20 1
  rw [List.drop_of_length_le (i := 20 + 1) (by omega), hk, List.append_nil] at e1
  rw [show 0 + 20 = 20 from rfl, e1, ha, List.drop_zero] at e0
  refine ⟨(a, ks), ⟨A, l, c, e0, haa, hks⟩, ?_⟩
  show ks.length ≤ _
  rw [hks.len]
  unfold reachBytes at hkl
  omega

theorem drop_piece {cs p : List Value} (o n : Nat) (h : (cs.drop o).take n = p) : cs.drop o = p ++ cs.drop (o + n) := by
  rw [← h, ← List.drop_drop, List.take_append_drop]
theorem rd_env {n : Nat} {cs : List Value} {d : DataW H} {ps : List MemPlace} (h : rd enc W n 64 cs = some (d, ps)) (hw : Light 64 d) :
    ∃ cb nm tm gl rn ch fee A3 k3 c3 ks, EnvX cs cb nm tm gl rn ch fee A3 k3 c3 ∧ wordsR W A3 k3 c3 ks ∧ k3 ≤ 140737488355328 := by
  obtain ⟨k0, d0, p0, r0, -, hl⟩ := rd_field fldEn0 cellsAddr h hw
  obtain ⟨k1, d1, p1, r1, -, -⟩ := rd_field fldEn1 cellsU64 h hw
  obtain ⟨k2, d2, p2, r2, -, -⟩ := rd_field fldEn2 cellsU64 h hw
  obtain ⟨k3, d3, p3, r3, -, -⟩ := rd_field fldEn3 cellsU64 h hw
  obtain ⟨k4, d4, p4, r4, -, -⟩ := rd_field fldEn4 cellsW h hw
  obtain ⟨k5, d5, p5, r5, -, -⟩ := rd_field fldEn5 cellsW h hw
  obtain ⟨k6, d6, p6, r6, -, -⟩ := rd_field fldEn6 cellsW h hw
  obtain ⟨k7, d7, p7, r7, l7, -⟩ := rd_field fldEn7 cellsWs h hw
  rw [cellsEnv] at hl
  obtain ⟨cb, hcb, icb⟩ := rd_addr r0
  obtain ⟨x1, hx1, ix1⟩ := rd_u64 r1
  obtain ⟨x2, hx2, ix2⟩ := rd_u64 r2
  obtain ⟨gl, hgl, igl⟩ := rd_u64 r3
  obtain ⟨y4, hy4, iy4⟩ := rd_w r4
  obtain ⟨y5, hy5, iy5⟩ := rd_w r5
  obtain ⟨fee, hfee, ifee⟩ := rd_w r6
  obtain ⟨A, l, c, ks, hk, hks, hkl⟩ := rd_words r7 l7
  have hone : ∀ v ∈ cs.drop 0, v.oneCell' = true :=
    one_piece 0 20 (one_bv hcb) (one_piece 20 1 (one_cell1 hx1 rfl) (one_piece 21 1 (one_cell1 hx2 rfl) (one_piece 22 1 (one_cell1 hgl rfl) (one_piece 23 32 (one_bv hy4) (one_piece 55 32 (one_bv hy5) (one_piece 87 32 (one_bv hfee) (one_piece 119 1 (one_cell1 hk rfl) (one_last hl))))))))
  have hC : EnvC cs cb gl fee A l c := ⟨hl, hone, hcb, get_piece hgl, hfee, get_piece hk, icb, igl, ifee⟩
  have hall : cs = envRow (xNew cb x1 x2 gl y4 y5 fee 0) ++ cs.drop 119 := by
    have e0 : cs.drop 0 = bv cb ++ cs.drop 20 := drop_piece 0 20 hcb
    have e1 : cs.drop 20 = [Value.int .u64 x1] ++ cs.drop 21 := drop_piece 20 1 hx1
    have e2 : cs.drop 21 = [Value.int .u64 x2] ++ cs.drop 22 := drop_piece 21 1 hx2
    have e3 : cs.drop 22 = [Value.int .u64 gl] ++ cs.drop 23 := drop_piece 22 1 hgl
    have e4 : cs.drop 23 = bv y4 ++ cs.drop 55 := drop_piece 23 32 hy4
    have e5 : cs.drop 55 = bv y5 ++ cs.drop 87 := drop_piece 55 32 hy5
    have e6 : cs.drop 87 = bv fee ++ cs.drop 119 := drop_piece 87 32 hfee
    rw [List.drop_zero] at e0
    unfold envRow xNew
    simp only [List.append_assoc, List.cons_append, List.nil_append]
    rw [← e6, ← e5, ← e4]
    simp only [List.cons_append, List.nil_append] at e1 e2 e3
    rw [← e3, ← e2, ← e1]
    exact e0
  have hel : (envRow (xNew cb x1 x2 gl y4 y5 fee 0)).length = 119 := by
    unfold envRow xNew
    simp [bv_len, icb.len, iy4.len, iy5.len, ifee.len]
  have hcells : ∀ i, i < 119 → cs[i]? = (envRow (xNew cb x1 x2 gl y4 y5 fee 0))[i]? := fun i hi => by
    have h1 : (envRow (xNew cb x1 x2 gl y4 y5 fee 0) ++ cs.drop 119)[i]? = (envRow (xNew cb x1 x2 gl y4 y5 fee 0))[i]? := List.getElem?_append_left (by omega)
    rw [← hall] at h1
    exact h1
  refine ⟨cb, x1, x2, gl, y4, y5, fee, A, l, c, ks, ⟨hC, hcells, ix1, ix2, igl, iy4, iy5, ifee⟩, hks, ?_⟩
  unfold reachBytes at hkl
  omega

theorem rd_tx {n : Nat} {cs : List Value} {d : DataW H} {ps : List MemPlace} (h : rd enc W n 33 cs = some (d, ps)) (hw : Light 33 d) :
    ∃ (x : YTx) (A1 : Option Addr) (k1 c1 : Nat) (A2 : Option Addr) (k2 c2 : Nat), TxC cs x A1 k1 c1 A2 k2 c2 ∧ Src W A1 k1 c1 x.data ∧ AccsR W A2 k2 c2 x.access ∧ Reach x.access := by
  obtain ⟨k0, d0, p0, r0, -, hl⟩ := rd_field fldTx0 cellsAddr h hw
  obtain ⟨k1, d1, p1, r1, -, -⟩ := rd_field fldTx1 cellsAddr h hw
  obtain ⟨k2, d2, p2, r2, -, -⟩ := rd_field fldTx2 cellsBool h hw
  obtain ⟨k3, d3, p3, r3, -, -⟩ := rd_field fldTx3 cellsU64 h hw
  obtain ⟨k4, d4, p4, r4, -, -⟩ := rd_field fldTx4 cellsU64 h hw
  obtain ⟨k5, d5, p5, r5, -, -⟩ := rd_field fldTx5 cellsW h hw
  obtain ⟨k6, d6, p6, r6, -, -⟩ := rd_field fldTx6 cellsW h hw
  obtain ⟨k7, d7, p7, r7, -, -⟩ := rd_field fldTx7 cellsBy h hw
  obtain ⟨k8, d8, p8, r8, -, -⟩ := rd_field fldTx8 cellsBool h hw
  obtain ⟨k9, d9, p9, r9, -, -⟩ := rd_field fldTx9 cellsW h hw
  obtain ⟨k10, d10, p10, r10, -, -⟩ := rd_field fldTx10 cellsW h hw
  obtain ⟨k11, d11, p11, r11, l11, -⟩ := rd_field fldTx11 cellsXs h hw
  rw [cellsTx] at hl
  obtain ⟨frm, hfrm, ifrm⟩ := rd_addr r0
  obtain ⟨dst, hdst, idst⟩ := rd_addr r1
  obtain ⟨cr, hcr⟩ := rd_bool r2
  obtain ⟨nn, hnn, inn⟩ := rd_u64 r3
  obtain ⟨gas, hgas, igas⟩ := rd_u64 r4
  obtain ⟨pr, hpr, ipr⟩ := rd_w r5
  obtain ⟨va, hva, iva⟩ := rd_w r6
  obtain ⟨A1, q1, c1, data, hda, hsrc⟩ := rd_bytes r7
  obtain ⟨dy, hdy⟩ := rd_bool r8
  obtain ⟨mf, hmf, imf⟩ := rd_w r9
  obtain ⟨ti, hti, iti⟩ := rd_w r10
  obtain ⟨A2, q2, c2, rows, xs, hx, hrws, heach, -⟩ := rd_rows (R := fun r x => AccRow W r x ∧ x.2.length ≤ 140737488355328) Sakg.underlying31 cellsX (by omega) bytesX r11 l11 (fun k cs' d' ps' g1 g2 _ => rd_access g1 g2)
  have hone : ∀ v ∈ cs.drop 0, v.oneCell' = true :=
    one_piece 0 20 (one_bv hfrm) (one_piece 20 20 (one_bv hdst) (one_piece 40 1 (one_cell1 hcr rfl) (one_piece 41 1 (one_cell1 hnn rfl) (one_piece 42 1 (one_cell1 hgas rfl) (one_piece 43 32 (one_bv hpr) (one_piece 75 32 (one_bv hva) (one_piece 107 1 (one_cell1 hda rfl) (one_piece 108 1 (one_cell1 hdy rfl) (one_piece 109 32 (one_bv hmf) (one_piece 141 32 (one_bv hti) (one_piece 173 1 (one_cell1 hx rfl) (one_last hl))))))))))))
  have hreach : ∀ {rows : List (List Value)} {xs : List (List Int × List (List Int))}, Each (fun r x => AccRow W r x ∧ x.2.length ≤ 140737488355328) rows xs → ∀ x ∈ xs, x.2.length ≤ 140737488355328 := by
    intro rows
    induction rows with
    | nil => intro xs h; cases xs with
      | nil => exact fun k hk => by cases hk
      | cons _ _ => exact h.elim
    | cons r rs ih => intro xs h; cases xs with
      | nil => exact h.elim
      | cons x xs =>
        intro y hy
        rcases List.mem_cons.1 hy with rfl | hy
        · exact h.1.2
        · exact ih h.2 y hy
  exact ⟨⟨frm, dst, cr, nn, gas, pr, va, data, dy, mf, ti, xs⟩, A1, q1, c1, A2, q2, c2,
    ⟨hl, hone, hfrm, hdst, get_piece hcr, get_piece hnn, get_piece hgas, hpr, hva, get_piece hda, get_piece hdy, hmf, hti, get_piece hx, ifrm, idst, inn, igas, ipr, iva, imf, iti⟩, hsrc, ⟨rows, hrws, heach.imp fun _ _ h => h.1⟩, hreach heach⟩

end
end Go.Proofs.YgcsakGreat
