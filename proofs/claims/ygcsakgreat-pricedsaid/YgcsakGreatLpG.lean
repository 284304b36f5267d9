/-
  law: pricedPlay, the rest.
-/
import Derived.Test.YgcsakGreatLpF
namespace Go.Proofs.YgcsakGreat
set_option linter.unusedVariables false
set_option linter.unusedSimpArgs false
set_option maxRecDepth 100000
open Go.RowKit

set_option maxHeartbeats 8000000 in
theorem play_k10 (n : Nat) (hn : n ≤ 1024) (w : World) : Calls Sakg.prog 10 #[.int .u8 10, .int .u16 n] w (PlayP 1 (fun _ => [95] ++ p2Y n ++ [95, 95, 245]) (txY false (zeros 32) []) w) := by
  obtain ⟨W, hW⟩ : ∃ W, W = w.alloc (.cells zeroTx.toArray 33) := ⟨_, rfl⟩
  have hb0 : Below w.heap.size w W := by rw [hW]; exact (Below.refl _ _).alloc (Nat.le_refl _) _
  have hr0 : RowT 33 W w.heap.size zeroTx := by rw [hW]; exact RowT.new _ _ _
  have hsT : (Sakg.prog.info? 33).map (·.size) = some txA1.length := by rw [txA1_len]; exact sizeTx
  have HT : Hid (Calls Sakg.prog 22 #[] W fun e w' => e = .returned (.agg txA1.toArray) ∧ Below W.heap.size W w') := hide (toA1_any W)
  have HP : ∀ wz, Hid (Calls Sakg.prog 39 #[.int .u16 n] wz (OwnB wz (p2Y n))) := fun wz => hide (push2_x n (by omega) wz)
  have HR0 := hide hr0
  have hzl := zeroTx_len
  have hW0 : W.heap.size = w.heap.size + 1 := by rw [hW]; simp
  clear hr0
  go_enter Sakg.func10, Sakg.ntmps10
  go_upto_region 1 with ((with_reducible refine at_alloc 33 ?_); refine wpList_alloc_g (by rfl) 33 rfl zeroTx 174 infoTx2 zeroTx_len ?_)
  rw [← hW]
  clear hW
  go_upto_region 2 with (first | (go_at_call 22; refine (unhide HT).mono ?_; rintro e w1 ⟨rfl, b1⟩) | ((with_reducible refine at_store 33 ?_); refine wpList_store_whole rfl 33 (.tmp 5) (.tmp 10) rfl w.heap.size 33 _ txA1 rfl rfl ((unhide HR0).kept b1) (by rw [hzl, txA1_len]) hsT txA1_one ?_; intro w2 hr2 ho2; have HR2 := hide hr2; clear hr2))
  have z1 := b1.size
  have zo2 := ho2.size
  have d2 : Below w.heap.size w w2 := (hb0.trans (b1.mono hb0.size)).trans (ho2.below _ (Nat.le_refl _))
  go_upto_region 3 with (go_at_call 39; refine (unhide (HP _)).mono ?_; rintro e w3 ⟨v3, rfl, o3, b3⟩; have O3 := hide o3; clear o3)
  have z3 := b3.size
  have O3' : w3.ownsRow w2.heap.size 5 1 v3 3 (bv (p2Y n)) := unhide O3
  obtain ⟨a3, c3, rfl, s3⟩ := own_src O3' (by have := p2Y_byt n [] hn (fun x hx => by cases hx); rwa [List.append_nil] at this)
  obtain ⟨wa, hwa⟩ : ∃ y, y = w3.alloc (.cells #[.int .u8 95] 5) := ⟨_, rfl⟩
  have ba : Below w3.heap.size w3 wa := by rw [hwa]; exact (Below.refl _ _).alloc (Nat.le_refl _) _
  have hza : wa.heap.size = w3.heap.size + 1 := by rw [hwa]; simp
  have sa : Src wa (some ⟨w3.heap.size, 0, none⟩) 1 1 [95] := by rw [hwa]; exact src_lit w3 [95] (by intro x hx; simp at hx; omega) (by decide)
  obtain ⟨w4, hw4⟩ : ∃ y, y = (w3.alloc (.cells #[.int .u8 95] 5)).alloc (.cells #[.int .u8 95, .int .u8 95, .int .u8 245] 5) := ⟨_, rfl⟩
  have hw4' : w4 = wa.alloc (.cells #[.int .u8 95, .int .u8 95, .int .u8 245] 5) := by rw [hw4, hwa]
  have bb : Below wa.heap.size wa w4 := by rw [hw4']; exact (Below.refl _ _).alloc (Nat.le_refl _) _
  have sb : Src w4 (some ⟨w3.heap.size + 1, 0, none⟩) 3 3 [95, 95, 245] := by rw [hw4', ← hza]; exact src_lit wa [95, 95, 245] (by intro x hx; simp at hx; omega) (by decide)
  have b4 : Below w3.heap.size w3 w4 := ba.trans (bb.mono ba.size)
  have z4 := b4.size
  have HJ := hide (join_any _ _ _ _ 1 1 3 c3 3 3 0 0 [95] (p2Y n) [95, 95, 245] [] w4 (sa.kept bb) ((s3.kept ba).kept bb) sb (Src.ofNil _) (by omega) (by omega) (by omega) (by omega))
  clear O3' O3 s3 sa sb hwa hw4' hza
  go_upto_region 42 with (go_at_call 40; rw [← hw4]; refine (unhide HJ).mono ?_; rintro e w5 ⟨a5, k5, c5, rfl, s5, N5, b5⟩; have hl5 := s5.len_eq; rw [List.append_nil] at s5; have S5 := hide s5; clear s5)
  have hk5 : k5 ≤ 256 := by rw [← hl5]; show 7 ≤ 256; omega
  have hlo : ∀ x, a5 = some x → w2.heap.size ≤ x.block := fun x hx => by have := N5 x hx; omega
  have d5 : Below w2.heap.size w2 w5 := (b3.trans (b4.mono b3.size)).trans (b5.mono (by omega))
  have R5 := hide ((unhide HR2).kept d5)
  have dr : Below w5.heap.size w5 w5.drew := Quiet.below ⟨1, rfl⟩ _
  have d05 : Below w.heap.size w w5 := d2.trans (d5.mono d2.size)
  have hlt5 : w.heap.size < w5.heap.size := by have := d5.size; omega
  have zdr : w5.drew.heap.size = w5.heap.size := rfl
  have hR : ∀ wz, Below w5.heap.size w5 wz → RowT 33 wz w.heap.size txA1 := fun wz hz => (unhide R5).kept hz
  have hrl := txA1_len
  have hone := txA1_one
  have hsR := hsT
  refine wp_region_noPanic ?_
  refine wp_region_held_drew (S := fun w' => RowT 33 w' w.heap.size txA1) (by kernel_rfl) (hR _ dr) (fun hHeld => ?_)
  refine held_takeD 0 (.slice a5 k5 c5) (some 95) (by rfl) (by rfl) (by kernel_rfl) (by kernel_rfl) (by kernel_rfl) (fun _ _ _ h => h) (.inl ⟨by rfl, fun _ _ => by rfl⟩) (hHeld) ?_
  simp only [Act.put, List.setIfInBounds_toArray, List.set_cons_zero, List.set_cons_succ]
  refine held_takeD 2 (.agg txA1.toArray) (some 97) (by rfl) (by rfl) (by kernel_rfl) (by kernel_rfl) (by kernel_rfl) (fun _ _ _ h => h) (yieldsIf_load_mid (by rfl) _ _ rfl _ _ rfl _ _ (fun wz hS => hS.rangeAll) Sakg.underlying33 rfl hsR) (hHeld) ?_
  simp only [Act.put, List.setIfInBounds_toArray, List.set_cons_zero, List.set_cons_succ]
  refine held_one 1 (by kernel_rfl) (by rfl) (fun K' hK' => ?_)
  refine if_build_lit (some 96) rfl (by rfl) 24 1 [(0, .tmp 95)] rfl 30 [.slice a5 k5 c5] (run_cs1 _ a5 k5 c5) (fun wB rB bB sB => ?_)
  have dB := dr.trans (bB.mono dr.size)
  refine hK'.out _ _ (hR _ dB) ?_
  clear hK' K'
  simp only [Act.put, List.setIfInBounds_toArray, List.set_cons_zero, List.set_cons_succ]
  refine held_takeD 3 (.slice (some ⟨w5.drew.heap.size, 0, none⟩) 1 1) (some 4) (by rfl) (by rfl) (by kernel_rfl) (by kernel_rfl) (by kernel_rfl) (fun _ _ _ h => h) (.inl ⟨by rfl, fun _ _ => by rfl⟩) (hR _ dB) ?_
  simp only [Act.put, List.setIfInBounds_toArray, List.set_cons_zero, List.set_cons_succ]
  refine held_one 4 (by kernel_rfl) (by rfl) (fun K' hK' => ?_)
  refine if_store rfl (by rfl) 33 (.tmp 5) (.tmp 97) rfl w.heap.size 0 33 _ txA1 rfl rfl (hR _ dB) (by rw [hrl]; omega) hsR hone (fun wS rS oS => ?_)
  rw [spl_all _ _ rfl] at rS
  have dS := oS
  refine hK'.out _ _ (rS) ?_
  clear hK' K'
  refine wpAnyH_done (by kernel_rfl) ?_ _
  refine NoPanic.normal ?_
  have zB := dB.size
  have s6 : Src wS a5 k5 c5 ([95] ++ p2Y n ++ [95, 95, 245]) := (((unhide S5).kept dr).kept bB).onlyX oS (fun y hy e => by have h1 := hlo y hy; omega)
  have q6 : RowT 30 wS w5.drew.heap.size [.slice a5 k5 c5] := oS.rowT rB (by omega)
  have dw6 : Below w.heap.size w wS := (d05.trans (dB.mono (Nat.le_of_lt hlt5))).trans (oS.below _ (Nat.le_refl _))
  have HRS := hide rS
  have HS6 := hide s6
  have HQ6 := hide q6
  clear rS s6 q6 rB
  go_wp2_with fail
  refine bodyPost_ret (results_tmp_tx rfl _ _ w.heap.size 33 _ _ rfl (unhide HRS) (by rw [List.size_toArray]; exact hsR)) rfl ?_
  exact play_end txA1_y rfl dw6 (unhide HQ6) (unhide HS6) (by omega)
theorem tx7_c (n : Nat) (hn : n ≤ 1024) (a5 : Option Addr) (c5 : Nat) : TxC ((txA1.set 40 (.bool true)).set 107 (.slice a5 5 c5)) (txY true (zeros 32) (dataK7 n)) a5 5 c5 none 0 0 :=
  ⟨by kernel_rfl, all_one (by kernel_rfl), by kernel_rfl, by kernel_rfl, by kernel_rfl, by kernel_rfl, by kernel_rfl, by kernel_rfl, by kernel_rfl, by kernel_rfl, by kernel_rfl, by kernel_rfl, by kernel_rfl, by kernel_rfl, lowAddr_is 240 (by omega) (by omega), lowAddr_is 1 (by omega) (by omega), by show 0 < 256 ^ 8; omega, by show 200000 < 256 ^ 8; omega, zeroW_is, zeroW_is, zeroW_is, zeroW_is⟩
theorem play_end7 {d : YTx} {row : List Value} {w wS : World} {a5 : Option Addr} {k5 c5 : Nat} {gB : Nat} (hd : TxC row d a5 k5 c5 none 0 0) (hw : Below w.heap.size w wS) (rB : RowT 30 wS gB [nilS]) (s5 : Src wS a5 k5 c5 d.data) :
    PlayP 1 (fun _ => []) d w (.returned (.tuple #[.slice (some ⟨gB, 0, none⟩) 1 1, .agg row.toArray])) wS :=
  ⟨gB, _, _, row, fun _ => none, fun _ => 0, fun _ => 0, a5, k5, c5, rfl, rB, fun i hi => ⟨by have : i = 0 := (by omega); subst this; rfl, Src.ofNil _, Nat.zero_le _⟩, hd, s5, hw⟩
set_option maxHeartbeats 8000000 in
theorem play_k7 (n : Nat) (hn : n ≤ 1024) (w : World) : Calls Sakg.prog 10 #[.int .u8 7, .int .u16 n] w (PlayP 1 (fun _ => []) (txY true (zeros 32) (dataK7 n)) w) := by
  obtain ⟨W, hW⟩ : ∃ W, W = w.alloc (.cells zeroTx.toArray 33) := ⟨_, rfl⟩
  have hb0 : Below w.heap.size w W := by rw [hW]; exact (Below.refl _ _).alloc (Nat.le_refl _) _
  have hr0 : RowT 33 W w.heap.size zeroTx := by rw [hW]; exact RowT.new _ _ _
  have hsT : (Sakg.prog.info? 33).map (·.size) = some txA1.length := by rw [txA1_len]; exact sizeTx
  have HT : Hid (Calls Sakg.prog 22 #[] W fun e w' => e = .returned (.agg txA1.toArray) ∧ Below W.heap.size W w') := hide (toA1_any W)
  have HP : ∀ wz, Hid (Calls Sakg.prog 39 #[.int .u16 n] wz (OwnB wz (p2Y n))) := fun wz => hide (push2_x n (by omega) wz)
  have HR0 := hide hr0
  have hzl := zeroTx_len
  have hW0 : W.heap.size = w.heap.size + 1 := by rw [hW]; simp
  clear hr0
  go_enter Sakg.func10, Sakg.ntmps10
  go_upto_region 1 with ((with_reducible refine at_alloc 33 ?_); refine wpList_alloc_g (by rfl) 33 rfl zeroTx 174 infoTx2 zeroTx_len ?_)
  rw [← hW]
  clear hW
  go_upto_region 2 with (first | (go_at_call 22; refine (unhide HT).mono ?_; rintro e w1 ⟨rfl, b1⟩) | ((with_reducible refine at_store 33 ?_); refine wpList_store_whole rfl 33 (.tmp 5) (.tmp 10) rfl w.heap.size 33 _ txA1 rfl rfl ((unhide HR0).kept b1) (by rw [hzl, txA1_len]) hsT txA1_one ?_; intro w2 hr2 ho2; have HR2 := hide hr2; clear hr2))
  have z1 := b1.size
  have zo2 := ho2.size
  have d2 : Below w.heap.size w w2 := (hb0.trans (b1.mono hb0.size)).trans (ho2.below _ (Nat.le_refl _))
  go_upto_region 3 with (go_at_call 39; refine (unhide (HP _)).mono ?_; rintro e w3 ⟨v3, rfl, o3, b3⟩; have O3 := hide o3; clear o3)
  have z3 := b3.size
  have r3 := (unhide HR2).kept b3
  have x40 : w3.cell? ⟨w.heap.size, 40, none⟩ = some (.bool false) := by rw [r3.cell]; kernel_rfl
  have f40 := r3.froz 40
  obtain ⟨w4, hw4⟩ : ∃ y, y = w3.setCell ⟨w.heap.size, 40, none⟩ (.bool true) := ⟨_, rfl⟩
  have r4 : RowT 33 w4 w.heap.size (txA1.set 40 (.bool true)) := hw4 ▸ r3.set 40 (.bool true)
  have o4 : Only w.heap.size w3 w4 := hw4 ▸ (Only.refl _ w3).setCell 40 _
  have O4 := hide ((unhide O3).kept (row := some w.heap.size) ⟨o4.os, o4.tape, o4.output, Nat.le_of_eq o4.size.symm, fun k hk hn => o4.block k (fun e => hn (by rw [e]))⟩ (.inr (fun h => absurd ((unhide O3).lt _ h).1 (by omega))))
  have z4 : w4.heap.size ≤ w3.heap.size := Nat.le_of_eq o4.size
  have z4' : w3.heap.size ≤ w4.heap.size := Nat.le_of_eq o4.size.symm
  have d4 : Below w.heap.size w w4 := (d2.trans (b3.mono d2.size)).trans (o4.below _ (Nat.le_refl _))
  have HR4 := hide r4
  clear r3 r4 O3
  go_upto_region 29 with fail
  rw [← hw4]
  clear hw4 x40 f40 o4
  obtain ⟨wl, hwl⟩ : ∃ y, y = w4.alloc (.cells #[.int .u8 95, .int .u8 243] 5) := ⟨_, rfl⟩
  have bl : Below w4.heap.size w4 wl := by rw [hwl]; exact (Below.refl _ _).alloc (Nat.le_refl _) _
  have sl : Src wl (some ⟨w4.heap.size, 0, none⟩) 2 2 [95, 243] := by rw [hwl]; exact src_lit w4 [95, 243] (by intro x hx; simp at hx; omega) (by decide)
  have SL := hide sl
  have OL := hide (own_kept (unhide O4) bl)
  have zl := bl.size
  have RL := hide ((unhide HR4).kept bl)
  have hby : Byt (p2Y n ++ [95, 243]) := p2Y_byt n _ hn (by intro x hx; simp at hx; omega)
  clear sl
  go_upto_region 42 with ((with_reducible refine at_append ?_); rw [← hwl]; refine wpList_append_src rfl _ _ rfl w2.heap.size v3 3 (p2Y n) rfl (unhide OL) _ 2 2 [95, 243] rfl (unhide SL) (by omega) (by omega) (fun v5 w5 o5 b5 => ?_); have hlo0 := fun k hk => (o5.lt k hk).1; obtain ⟨a5, c5, rfl, s5⟩ := own_src o5 hby; have S5 := hide s5; have r5 : RowT 33 w5 w.heap.size (txA1.set 40 (.bool true)) := (by { unfold RowT; rw [b5.block w.heap.size (by omega)]; exact unhide RL }); have R5 := hide r5; have x107 : w5.cell? ⟨w.heap.size, 107, none⟩ = some nilS := (by { rw [r5.cell]; kernel_rfl }); have f107 := r5.froz 107; clear s5 o5 r5)
  have hlo : ∀ x, a5 = some x → w2.heap.size ≤ x.block := fun x hx => hlo0 x.block (by rw [hx]; rfl)
  obtain ⟨w6, hw6⟩ : ∃ y, y = w5.setCell ⟨w.heap.size, 107, none⟩ (.slice a5 5 c5) := ⟨_, rfl⟩
  have r6 : RowT 33 w6 w.heap.size ((txA1.set 40 (.bool true)).set 107 (.slice a5 5 c5)) := hw6 ▸ (unhide R5).set 107 (.slice a5 5 c5)
  have o6 : Only w.heap.size w5 w6 := hw6 ▸ (Only.refl _ w5).setCell 107 _
  have z5 := b5.size
  have z6 : w6.heap.size ≤ w5.heap.size := Nat.le_of_eq o6.size
  have z6' : w5.heap.size ≤ w6.heap.size := Nat.le_of_eq o6.size.symm
  have s6 : Src w6 a5 5 c5 (dataK7 n) := Src.onlyX (unhide S5) o6 (fun y hy e => by have h1 := hlo y hy; omega)
  have S6 := hide s6
  have R6 := hide r6
  rw [← hw6]
  clear hw6 x107 f107 s6 r6
  have dr : Below w6.heap.size w6 w6.drew := Quiet.below ⟨1, rfl⟩ _
  have d06 : Below w.heap.size w w6 := ((d4.trans (bl.mono d4.size)).trans (b5.mono (by omega))).trans (o6.below _ (Nat.le_refl _))
  have hlt6 : w.heap.size < w6.heap.size := by omega
  have zdr : w6.drew.heap.size = w6.heap.size := rfl
  have hR : ∀ wz, Below w6.heap.size w6 wz → RowT 33 wz w.heap.size ((txA1.set 40 (.bool true)).set 107 (.slice a5 5 c5)) := fun wz hz => (unhide R6).kept hz
  have hrl := (tx7_c n hn a5 c5).len
  have hone := (tx7_c n hn a5 c5).one
  have hsR : (Sakg.prog.info? 33).map (·.size) = some ((txA1.set 40 (.bool true)).set 107 (.slice a5 5 c5)).length := by rw [hrl]; exact sizeTx
  refine wp_region_noPanic ?_
  refine wp_region_held_drew (S := fun w' => RowT 33 w' w.heap.size ((txA1.set 40 (.bool true)).set 107 (.slice a5 5 c5))) (by kernel_rfl) (hR _ dr) (fun hHeld => ?_)
  refine held_takeD 0 (nilS) (some 95) (by rfl) (by rfl) (by kernel_rfl) (by kernel_rfl) (by kernel_rfl) (fun _ _ _ h => h) (.inl ⟨by rfl, fun _ _ => by rfl⟩) (hHeld) ?_
  simp only [Act.put, List.setIfInBounds_toArray, List.set_cons_zero, List.set_cons_succ]
  refine held_takeD 2 (.agg ((txA1.set 40 (.bool true)).set 107 (.slice a5 5 c5)).toArray) (some 97) (by rfl) (by rfl) (by kernel_rfl) (by kernel_rfl) (by kernel_rfl) (fun _ _ _ h => h) (yieldsIf_load_mid (by rfl) _ _ rfl _ _ rfl _ _ (fun wz hS => hS.rangeAll) Sakg.underlying33 rfl hsR) (hHeld) ?_
  simp only [Act.put, List.setIfInBounds_toArray, List.set_cons_zero, List.set_cons_succ]
  refine held_one 1 (by kernel_rfl) (by rfl) (fun K' hK' => ?_)
  refine if_build_lit (some 96) rfl (by rfl) 24 1 [(0, .tmp 95)] rfl 30 [nilS] (run_cs1 _ none 0 0) (fun wB rB bB sB => ?_)
  have dB := dr.trans (bB.mono dr.size)
  refine hK'.out _ _ (hR _ dB) ?_
  clear hK' K'
  simp only [Act.put, List.setIfInBounds_toArray, List.set_cons_zero, List.set_cons_succ]
  refine held_takeD 3 (.slice (some ⟨w6.drew.heap.size, 0, none⟩) 1 1) (some 4) (by rfl) (by rfl) (by kernel_rfl) (by kernel_rfl) (by kernel_rfl) (fun _ _ _ h => h) (.inl ⟨by rfl, fun _ _ => by rfl⟩) (hR _ dB) ?_
  simp only [Act.put, List.setIfInBounds_toArray, List.set_cons_zero, List.set_cons_succ]
  refine held_one 4 (by kernel_rfl) (by rfl) (fun K' hK' => ?_)
  refine if_store rfl (by rfl) 33 (.tmp 5) (.tmp 97) rfl w.heap.size 0 33 _ ((txA1.set 40 (.bool true)).set 107 (.slice a5 5 c5)) rfl rfl (hR _ dB) (by rw [hrl]; omega) hsR hone (fun wS rS oS => ?_)
  rw [spl_all _ _ rfl] at rS
  have dS := oS
  refine hK'.out _ _ (rS) ?_
  clear hK' K'
  refine wpAnyH_done (by kernel_rfl) ?_ _
  refine NoPanic.normal ?_
  have zB := dB.size
  have s6 : Src wS a5 5 c5 (dataK7 n) := (((unhide S6).kept dr).kept bB).onlyX oS (fun y hy e => by have h1 := hlo y hy; omega)
  have q6 : RowT 30 wS w6.drew.heap.size [nilS] := oS.rowT rB (by omega)
  have dw6 : Below w.heap.size w wS := (d06.trans (dB.mono (Nat.le_of_lt hlt6))).trans (oS.below _ (Nat.le_refl _))
  have HRS := hide rS
  have HS6 := hide s6
  have HQ6 := hide q6
  clear rS s6 q6 rB
  go_wp2_with fail
  refine bodyPost_ret (results_tmp_tx rfl _ _ w.heap.size 33 _ _ rfl (unhide HRS) (by rw [List.size_toArray]; exact hsR)) rfl ?_
  exact play_end7 (tx7_c n hn a5 c5) dw6 (unhide HQ6) (unhide HS6)

end Go.Proofs.YgcsakGreat
