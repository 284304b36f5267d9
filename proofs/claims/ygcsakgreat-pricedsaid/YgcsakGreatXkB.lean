/-
  yp, exactly: createAddr.
-/
import Derived.Test.YgcsakGreatXkA
namespace Go.Proofs.YgcsakGreat
set_option linter.unusedVariables false
set_option linter.unusedSimpArgs false
set_option maxRecDepth 100000
open Go.RowKit

set_option maxHeartbeats 8000000 in
theorem createAddr_zero (a : List Int) (A : Option Addr) (k c m : Nat) (w : World) (ha : IsAddr a) (hn : IsNat w A k c m) (hm : m = 0) :
    Calls Sakg.prog 100 #[.agg (bv a).toArray, .slice A k c] w fun e w' => (∃ b, e = .returned (.agg (bv b).toArray) ∧ IsAddr b ∧ AddrIs ([214, 148] ++ a ++ [128]) b) ∧ Below w.heap.size w w' := by
  obtain ⟨W, hW⟩ : ∃ W, W = ((w.alloc (.cells (bv a).toArray 26)).alloc (.cells (bv (zeros 20)).toArray 26)).alloc (.cells #[.int .u8 128] 5) := ⟨_, rfl⟩
  have hWs : W.heap.size = w.heap.size + 3 := by rw [hW]; simp
  have hb0 : Below w.heap.size w W := by rw [hW]; exact (((Below.refl _ _).alloc (Nat.le_refl _) _).alloc (by simp) _).alloc (by simp; omega) _
  have r0 : RowT 26 W w.heap.size (bv a) := by rw [hW]; exact ((RowT.new _ _ _).alloc _).alloc _
  have r1 : RowT 26 W (w.heap.size + 1) (bv (zeros 20)) := by
    rw [hW]
    have := (RowT.new 26 (w.alloc (.cells (bv a).toArray 26)) (bv (zeros 20))).alloc (.cells #[.int .u8 128] 5)
    rw [World.size_alloc] at this
    exact this
  have r2 : RowT 5 W (w.heap.size + 1 + 1) (bv [128]) := by
    rw [hW]
    have := RowT.new 5 ((w.alloc (.cells (bv a).toArray 26)).alloc (.cells (bv (zeros 20)).toArray 26)) (bv [128])
    rw [World.size_alloc, World.size_alloc] at this
    exact this
  have hmB : m < BIG := Nat.lt_of_le_of_lt (show m ≤ 1 by omega) (Nat.lt_of_lt_of_le (by decide : 1 < 256 ^ 1) (big_pow 1 (by omega)))
  have hk := hn.len 200 hmB
  obtain ⟨xs, hsrc, -, hval, -⟩ := hn.kept hb0
  have HC := hide (norm_nat A k c xs W hsrc (by omega))
  rw [hval] at HC
  have R0 := hide r0
  have R1 := hide r1
  have R2 := hide r2
  have HA := hide ha
  clear r0 r1 r2 hsrc hn hval ha
  go_enter Sakg.func100, Sakg.ntmps100
  go_upto_region 2 with (first
    | ((with_reducible refine at_alloc 26 ?_); refine wpList_alloc_g (by rfl) 26 rfl (bv (zeros 20)) 20 infoAddr2 (by rw [bv_len, zeros_len]) ?_))
  rw [← hW]
  clear hW
  go_upto_region 3 with (go_at_call 90; refine (unhide HC).mono ?_; rintro e w2 ⟨A2, k2, c2, rfl, hN2, hnew2, hb2⟩)
  have hk2 : k2 ≤ 200 := hN2.len 200 hmB
  have hk20 : k2 = 0 := by have := hN2.len 0 (by rw [hm]; decide); omega
  obtain ⟨ys, hy2, -, -, -⟩ := hN2
  subst hk20
  have s2 : w.heap.size + 3 ≤ w2.heap.size := by have := hb2.size; omega
  have q0 : RowT 26 w2 w.heap.size (bv a) := (unhide R0).kept hb2
  have q1 : RowT 26 w2 (w.heap.size + 1) (bv (zeros 20)) := (unhide R1).kept hb2
  have q2 : RowT 5 w2 (w.heap.size + 1 + 1) (bv [128]) := (unhide R2).kept hb2
  have b2 : Below w.heap.size w w2 := hb0.trans (hb2.mono (by omega))
  have hown : ∀ (z : Int) (wz : World), RowT 5 wz (w.heap.size + 1 + 1) (bv [z]) → wz.ownsRow (w.heap.size + 1 + 1) 5 1 (.slice (some ⟨w.heap.size + 1 + 1, 0, none⟩) 1 1) 1 (bv [z]) := fun z wz hz =>
    ⟨rfl, .inr ⟨w.heap.size + 1 + 1, 1, (bv [z]).toArray, rfl, Nat.le_refl _, hz, Nat.le_refl _, by unfold maxLen; omega, rfl, rfl⟩⟩
  have HOWN := hide hown
  have Q0 := hide q0
  have Q1 := hide q1
  have Q2 := hide q2
  have HY := hide hy2
  have Z2 := q2.froz 0
  have X2 : w2.cell? ⟨w.heap.size + 1 + 1, 0, none⟩ = some (.int .u8 128) := by rw [q2.cell]; rfl
  clear hown q0 q1 q2 hy2 HC R0 R1 R2
  go_upto_region 11 with fail
  have hown : w2.ownsRow (w.heap.size + 1 + 1) 5 1 (.slice (some ⟨w.heap.size + 1 + 1, 0, none⟩) 1 1) 1 (bv [128]) := unhide HOWN 128 _ (unhide Q2)
  have hxb : Byt [(128 : Int)] := fun x hx => by simp at hx; omega
  obtain ⟨wc, hwc⟩ : ∃ wc, wc = w2 := ⟨_, rfl⟩
  rw [← hwc] at hown ⊢
  have p0 : RowT 26 wc w.heap.size (bv a) := by rw [hwc]; exact unhide Q0
  have p1 : RowT 26 wc (w.heap.size + 1) (bv (zeros 20)) := by rw [hwc]; exact unhide Q1
  have pb : Below w.heap.size w wc := by rw [hwc]; exact b2
  have ps : w.heap.size + 3 ≤ wc.heap.size := by rw [hwc]; exact s2
  clear hwc
  clear X2 Z2
  obtain ⟨a5, c5, he5, hs5⟩ := own_src hown hxb
  cases he5
  have HS5 := hide hs5
  have P0 := hide p0
  have P1 := hide p1
  have hbld : ∀ (q : Int) (wz : World), w.heap.size ≤ wz.heap.size → (wz.alloc (.cells #[.int .u8 q, .int .u8 148] 5)).ownsRow wz.heap.size 5 1 (.slice (some ⟨wz.heap.size, 0, none⟩) 2 2) 2 (bv [q, 148]) := fun q wz hz => World.ownsRow_lit wz #[.int .u8 q, .int .u8 148] 2 (Nat.le_refl _) (by unfold maxLen; omega) rfl
  have HBLD := hide hbld
  have hsrc0 : ∀ o, Src (wc.alloc o) (some ⟨w.heap.size, 0, none⟩) 20 20 a := fun o => OwnT.src_all ((p0.alloc o)) (unhide HA).byt 20 (unhide HA).len.symm (by unfold maxLen; omega)
  have HSRC0 := hide hsrc0
  clear hown hs5 p0 p1 hbld hsrc0
  obtain ⟨q, hq⟩ : ∃ q : Int, q = 214 := ⟨_, rfl⟩
  have HQ := hide hq
  have hqb : Byt [q, 148] := fun x hx => by
    simp at hx
    rcases hx with rfl | rfl <;> omega
  go_upto_region 12 with fail
  rw [← hq]
  obtain ⟨w4, hw4⟩ : ∃ w4, w4 = wc.alloc (.cells #[.int .u8 q, .int .u8 148] 5) := ⟨_, rfl⟩
  have o4 : w4.ownsRow wc.heap.size 5 1 (.slice (some ⟨wc.heap.size, 0, none⟩) 2 2) 2 (bv [q, 148]) := hw4 ▸ unhide HBLD q wc (by omega)
  have s4 : Src w4 (some ⟨w.heap.size, 0, none⟩) 20 20 a := hw4 ▸ unhide HSRC0 _
  have b4 : Below wc.heap.size wc w4 := hw4 ▸ (Below.refl _ _).alloc (Nat.le_refl _) _
  rw [← hw4]
  have z4 := b4.size
  clear hw4 HBLD HSRC0 hq
  go_upto_region 13 with (first
    | ((with_reducible refine at_append ?_); refine wpList_append_src rfl (.tmp 55) (.tmp 56) rfl wc.heap.size _ 2 [q, 148] rfl o4 _ 20 20 a rfl s4 (by omega) (by omega) (fun v5 w5 o5 b5 => ?_)))
  have b5' : Below wc.heap.size wc w5 := b4.trans b5
  have z5 := b5'.size
  have s5 := (unhide HS5).kept b5'
  have B5' := hide b5'
  clear o4 s4 b4 b5 b5'
  go_wp2_with (first
    | ((with_reducible refine at_append ?_); refine wpList_append_src rfl (.tmp 58) (.tmp 59) rfl wc.heap.size _ _ _ rfl o5 _ 1 1 [128] rfl s5 (by omega) (by omega) (fun v6 w6 o6 b6 => ?_); obtain ⟨a6, c6, rfl, s6⟩ := own_src o6 ((hqb.append (unhide HA).byt).append hxb))
    | (go_at_call 190; refine (hashedAddr_x a6 _ c6 _ w6 s6 (by omega)).mono ?_; rintro e w7 ⟨⟨ra, rfl, hra, hri⟩, b7⟩; have HRI := hide hri; clear hri; have b7' : Below wc.heap.size wc w7 := (unhide B5').trans (b6.trans (b7.mono (by have := b6.size; omega))))
    | ((with_reducible refine at_store 26 ?_); refine wpList_store_whole rfl 26 (.tmp 4) (.tmp 61) rfl (w.heap.size + 1) 26 (bv (zeros 20)) (bv ra) rfl rfl ((unhide P1).kept b7') (by rw [bv_len, bv_len, hra.len, zeros_len]) hra.size (bv_one _) ?_; intro w8 hr8 ho8))
  have hasz : (Sakg.prog.info? 26).map (·.size) = some (bv ra).toArray.size := by rw [List.size_toArray]; exact hra.size
  refine bodyPost_ret (results_cell_row rfl _ _ _ _ _ _ _ rfl hr8 Sakg.underlying26 rfl hasz) rfl ?_
  exact ⟨⟨ra, rfl, hra, by have h9 := unhide HRI; rw [unhide HQ] at h9; exact h9⟩, (pb.trans (b7'.mono (by omega))).trans (ho8.below _ (by omega))⟩

set_option maxHeartbeats 8000000 in
theorem createAddr_one (a : List Int) (A : Option Addr) (k c m : Nat) (w : World) (ha : IsAddr a) (hn : IsNat w A k c m) (hm : m = 1) :
    Calls Sakg.prog 100 #[.agg (bv a).toArray, .slice A k c] w fun e w' => (∃ b, e = .returned (.agg (bv b).toArray) ∧ IsAddr b ∧ AddrIs ([214, 148] ++ a ++ [1]) b) ∧ Below w.heap.size w w' := by
  obtain ⟨W, hW⟩ : ∃ W, W = ((w.alloc (.cells (bv a).toArray 26)).alloc (.cells (bv (zeros 20)).toArray 26)).alloc (.cells #[.int .u8 128] 5) := ⟨_, rfl⟩
  have hWs : W.heap.size = w.heap.size + 3 := by rw [hW]; simp
  have hb0 : Below w.heap.size w W := by rw [hW]; exact (((Below.refl _ _).alloc (Nat.le_refl _) _).alloc (by simp) _).alloc (by simp; omega) _
  have r0 : RowT 26 W w.heap.size (bv a) := by rw [hW]; exact ((RowT.new _ _ _).alloc _).alloc _
  have r1 : RowT 26 W (w.heap.size + 1) (bv (zeros 20)) := by
    rw [hW]
    have := (RowT.new 26 (w.alloc (.cells (bv a).toArray 26)) (bv (zeros 20))).alloc (.cells #[.int .u8 128] 5)
    rw [World.size_alloc] at this
    exact this
  have r2 : RowT 5 W (w.heap.size + 1 + 1) (bv [128]) := by
    rw [hW]
    have := RowT.new 5 ((w.alloc (.cells (bv a).toArray 26)).alloc (.cells (bv (zeros 20)).toArray 26)) (bv [128])
    rw [World.size_alloc, World.size_alloc] at this
    exact this
  have hmB : m < BIG := Nat.lt_of_le_of_lt (show m ≤ 1 by omega) (Nat.lt_of_lt_of_le (by decide : 1 < 256 ^ 1) (big_pow 1 (by omega)))
  have hk := hn.len 200 hmB
  obtain ⟨xs, hsrc, -, hval, -⟩ := hn.kept hb0
  have HC := hide (norm_nat A k c xs W hsrc (by omega))
  rw [hval] at HC
  have R0 := hide r0
  have R1 := hide r1
  have R2 := hide r2
  have HA := hide ha
  clear r0 r1 r2 hsrc hn hval ha
  go_enter Sakg.func100, Sakg.ntmps100
  go_upto_region 2 with (first
    | ((with_reducible refine at_alloc 26 ?_); refine wpList_alloc_g (by rfl) 26 rfl (bv (zeros 20)) 20 infoAddr2 (by rw [bv_len, zeros_len]) ?_))
  rw [← hW]
  clear hW
  go_upto_region 3 with (go_at_call 90; refine (unhide HC).mono ?_; rintro e w2 ⟨A2, k2, c2, rfl, hN2, hnew2, hb2⟩)
  have hk2 : k2 ≤ 200 := hN2.len 200 hmB
  have hk21 : k2 ≤ 1 := hN2.len 1 (by rw [hm]; decide)
  obtain ⟨ys, hy2, -, hyv, -⟩ := hN2
  have hyl := hy2.len_eq
  obtain ⟨y0, hys⟩ : ∃ y0, ys = [y0] := by
    match ys, hyl, hyv with
    | [], _, h9 => rw [hm] at h9; cases h9
    | [y], _, _ => exact ⟨y, rfl⟩
    | _ :: _ :: _, h9, _ => simp at h9; omega
  subst hys
  have hk2e : k2 = 1 := by simp at hyl; omega
  subst hk2e
  have hy1 : y0 = 1 := by
    have h9 : y0.toNat + 256 * 0 = m := hyv
    omega
  subst hy1
  have s2 : w.heap.size + 3 ≤ w2.heap.size := by have := hb2.size; omega
  have q0 : RowT 26 w2 w.heap.size (bv a) := (unhide R0).kept hb2
  have q1 : RowT 26 w2 (w.heap.size + 1) (bv (zeros 20)) := (unhide R1).kept hb2
  have q2 : RowT 5 w2 (w.heap.size + 1 + 1) (bv [128]) := (unhide R2).kept hb2
  have b2 : Below w.heap.size w w2 := hb0.trans (hb2.mono (by omega))
  have hown : ∀ (z : Int) (wz : World), RowT 5 wz (w.heap.size + 1 + 1) (bv [z]) → wz.ownsRow (w.heap.size + 1 + 1) 5 1 (.slice (some ⟨w.heap.size + 1 + 1, 0, none⟩) 1 1) 1 (bv [z]) := fun z wz hz =>
    ⟨rfl, .inr ⟨w.heap.size + 1 + 1, 1, (bv [z]).toArray, rfl, Nat.le_refl _, hz, Nat.le_refl _, by unfold maxLen; omega, rfl, rfl⟩⟩
  have HOWN := hide hown
  have Q0 := hide q0
  have Q1 := hide q1
  have Q2 := hide q2
  have HY := hide hy2
  have Z2 := q2.froz 0
  have X2 : w2.cell? ⟨w.heap.size + 1 + 1, 0, none⟩ = some (.int .u8 128) := by rw [q2.cell]; rfl
  clear hown q0 q1 q2 hy2 HC R0 R1 R2
  obtain ⟨bb, off, rfl, hcs⟩ := (unhide HY).at_ (by omega)
  have h0 := hcs 0 (by omega)
  rw [Nat.add_zero] at h0
  have h0' : w2.cell? ⟨bb, off, none⟩ = some (.int .u8 1) := h0
  clear hcs h0
  have hset : RowT 5 (w2.setCell ⟨w.heap.size + 1 + 1, 0, none⟩ (.int .u8 1)) (w.heap.size + 1 + 1) (bv [1]) := (unhide Q2).set 0 (.int .u8 1)
  have hon : Only (w.heap.size + 1 + 1) w2 (w2.setCell ⟨w.heap.size + 1 + 1, 0, none⟩ (.int .u8 1)) := (Only.refl _ _).setCell 0 _
  have HSET := hide hset
  have HON := hide hon
  clear hset hon
  go_upto_region 11 with fail
  have hown : (w2.setCell ⟨w.heap.size + 1 + 1, 0, none⟩ (.int .u8 1)).ownsRow (w.heap.size + 1 + 1) 5 1 (.slice (some ⟨w.heap.size + 1 + 1, 0, none⟩) 1 1) 1 (bv [1]) := unhide HOWN 1 _ (unhide HSET)
  have hxb : Byt [(1 : Int)] := fun x hx => by simp at hx; omega
  obtain ⟨wc, hwc⟩ : ∃ wc, wc = w2.setCell ⟨w.heap.size + 1 + 1, 0, none⟩ (.int .u8 1) := ⟨_, rfl⟩
  rw [← hwc] at hown ⊢
  have p0 : RowT 26 wc w.heap.size (bv a) := by rw [hwc]; exact (unhide Q0).only (unhide HON) (by omega)
  have p1 : RowT 26 wc (w.heap.size + 1) (bv (zeros 20)) := by rw [hwc]; exact (unhide Q1).only (unhide HON) (by omega)
  have pb : Below w.heap.size w wc := by rw [hwc]; exact b2.trans ((unhide HON).below _ (by omega))
  have ps : w.heap.size + 3 ≤ wc.heap.size := by rw [hwc]; exact (by rw [(unhide HON).size]; exact s2)
  clear hwc
  clear X2 Z2 h0'
  obtain ⟨a5, c5, he5, hs5⟩ := own_src hown hxb
  cases he5
  have HS5 := hide hs5
  have P0 := hide p0
  have P1 := hide p1
  have hbld : ∀ (q : Int) (wz : World), w.heap.size ≤ wz.heap.size → (wz.alloc (.cells #[.int .u8 q, .int .u8 148] 5)).ownsRow wz.heap.size 5 1 (.slice (some ⟨wz.heap.size, 0, none⟩) 2 2) 2 (bv [q, 148]) := fun q wz hz => World.ownsRow_lit wz #[.int .u8 q, .int .u8 148] 2 (Nat.le_refl _) (by unfold maxLen; omega) rfl
  have HBLD := hide hbld
  have hsrc0 : ∀ o, Src (wc.alloc o) (some ⟨w.heap.size, 0, none⟩) 20 20 a := fun o => OwnT.src_all ((p0.alloc o)) (unhide HA).byt 20 (unhide HA).len.symm (by unfold maxLen; omega)
  have HSRC0 := hide hsrc0
  clear hown hs5 p0 p1 hbld hsrc0
  obtain ⟨q, hq⟩ : ∃ q : Int, q = 214 := ⟨_, rfl⟩
  have HQ := hide hq
  have hqb : Byt [q, 148] := fun x hx => by
    simp at hx
    rcases hx with rfl | rfl <;> omega
  go_upto_region 12 with fail
  rw [← hq]
  obtain ⟨w4, hw4⟩ : ∃ w4, w4 = wc.alloc (.cells #[.int .u8 q, .int .u8 148] 5) := ⟨_, rfl⟩
  have o4 : w4.ownsRow wc.heap.size 5 1 (.slice (some ⟨wc.heap.size, 0, none⟩) 2 2) 2 (bv [q, 148]) := hw4 ▸ unhide HBLD q wc (by omega)
  have s4 : Src w4 (some ⟨w.heap.size, 0, none⟩) 20 20 a := hw4 ▸ unhide HSRC0 _
  have b4 : Below wc.heap.size wc w4 := hw4 ▸ (Below.refl _ _).alloc (Nat.le_refl _) _
  rw [← hw4]
  have z4 := b4.size
  clear hw4 HBLD HSRC0 hq
  go_upto_region 13 with (first
    | ((with_reducible refine at_append ?_); refine wpList_append_src rfl (.tmp 55) (.tmp 56) rfl wc.heap.size _ 2 [q, 148] rfl o4 _ 20 20 a rfl s4 (by omega) (by omega) (fun v5 w5 o5 b5 => ?_)))
  have b5' : Below wc.heap.size wc w5 := b4.trans b5
  have z5 := b5'.size
  have s5 := (unhide HS5).kept b5'
  have B5' := hide b5'
  clear o4 s4 b4 b5 b5'
  go_wp2_with (first
    | ((with_reducible refine at_append ?_); refine wpList_append_src rfl (.tmp 58) (.tmp 59) rfl wc.heap.size _ _ _ rfl o5 _ 1 1 [1] rfl s5 (by omega) (by omega) (fun v6 w6 o6 b6 => ?_); obtain ⟨a6, c6, rfl, s6⟩ := own_src o6 ((hqb.append (unhide HA).byt).append hxb))
    | (go_at_call 190; refine (hashedAddr_x a6 _ c6 _ w6 s6 (by omega)).mono ?_; rintro e w7 ⟨⟨ra, rfl, hra, hri⟩, b7⟩; have HRI := hide hri; clear hri; have b7' : Below wc.heap.size wc w7 := (unhide B5').trans (b6.trans (b7.mono (by have := b6.size; omega))))
    | ((with_reducible refine at_store 26 ?_); refine wpList_store_whole rfl 26 (.tmp 4) (.tmp 61) rfl (w.heap.size + 1) 26 (bv (zeros 20)) (bv ra) rfl rfl ((unhide P1).kept b7') (by rw [bv_len, bv_len, hra.len, zeros_len]) hra.size (bv_one _) ?_; intro w8 hr8 ho8))
  have hasz : (Sakg.prog.info? 26).map (·.size) = some (bv ra).toArray.size := by rw [List.size_toArray]; exact hra.size
  refine bodyPost_ret (results_cell_row rfl _ _ _ _ _ _ _ rfl hr8 Sakg.underlying26 rfl hasz) rfl ?_
  exact ⟨⟨ra, rfl, hra, by have h9 := unhide HRI; rw [unhide HQ] at h9; exact h9⟩, (pb.trans (b7'.mono (by omega))).trans (ho8.below _ (by omega))⟩


end Go.Proofs.YgcsakGreat
