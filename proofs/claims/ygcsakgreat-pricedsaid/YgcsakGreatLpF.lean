/-
  law: pricedPlay.
-/
import Derived.Test.YgcsakGreatLpE
namespace Go.Proofs.YgcsakGreat
set_option linter.unusedVariables false
set_option linter.unusedSimpArgs false
set_option maxRecDepth 100000
open Go.RowKit

/-- what pricedPlay answers: the codes xs, the transaction d -/
def PlayP (m : Nat) (xs : Nat → List Int) (d : YTx) (w : World) (e : Ending) (w' : World) : Prop :=
  ∃ (g : Nat) (T : TypeId) (cells row : List Value) (As : Nat → Option Addr) (ks cs : Nat → Nat) (A1 : Option Addr) (k1 c1 : Nat), e = .returned (.tuple #[.slice (some ⟨g, 0, none⟩) m m, .agg row.toArray]) ∧ RowT T w' g cells ∧ (∀ i, i < m → cells[i]? = some (.slice (As i) (ks i) (cs i)) ∧ Src w' (As i) (ks i) (cs i) (xs i) ∧ ks i ≤ 256) ∧ TxC row d A1 k1 c1 none 0 0 ∧ Src w' A1 k1 c1 d.data ∧ Below w.heap.size w w'
theorem src_lit (w : World) (xs : List Int) (hb : Byt xs) (hl : xs.length ≤ maxLen) : Src (w.alloc (.cells (bv xs).toArray 5)) (some ⟨w.heap.size, 0, none⟩) xs.length xs.length xs := src_of_range (RowT.new _ _ _).rangeAll hb rfl hl
theorem p2Y_byt (n : Nat) (ys : List Int) (hn : n ≤ 1024) (hy : Byt ys) : Byt (p2Y n ++ ys) := by
  intro x hx
  rcases List.mem_append.mp hx with h | h
  · unfold p2Y at h
    simp only [List.mem_cons, List.not_mem_nil, or_false] at h
    omega
  · exact hy x h
theorem run_cs1 (wx : World) (A : Option Addr) (k c : Nat) : (Instr.buildSlice 24 1 #[(0, .slice A k c)]).run Sakg.prog wx = .ok (.slice (some ⟨wx.heap.size, 0, none⟩) 1 1) (wx.alloc (.cells #[.slice A k c] 30)) := by kernel_rfl
theorem results_tmp_tx {fn : Func} {p q : Tmp} (h : fn.results = #[.tmp q, .cell p 33]) (tmps : Array Value) (w : World) (g : Nat) (t : TypeId) (cs : Array Value) (fr : Nat × Nat)
    (hp : tmps.getD p undef = .pointer (some ⟨g, 0, none⟩)) (hg : w.heap[g]? = some (.cells cs t fr)) (hi : (Sakg.prog.info? 33).map (·.size) = some cs.size) :
    (results fn tmps).run Sakg.prog w = .ok (.tuple #[tmps.getD q undef, .agg cs]) w := by
  have hp' : tmps[p]?.getD undef = .pointer (some ⟨g, 0, none⟩) := by simpa using hp
  simp [results, h, hp', asAddr, run_loadVar_row w g t 33 cs fr _ hg Sakg.underlying33 rfl hi]
/-- one code, and the transaction in its box -/
theorem play_end {d : YTx} {row : List Value} {xs : List Int} {w wS : World} {a5 : Option Addr} {k5 c5 : Nat} {gB : Nat} (hd : TxC row d none 0 0 none 0 0) (hdd : d.data = []) (hw : Below w.heap.size w wS) (rB : RowT 30 wS gB [.slice a5 k5 c5]) (s5 : Src wS a5 k5 c5 xs) (hk : k5 ≤ 256) :
    PlayP 1 (fun _ => xs) d w (.returned (.tuple #[.slice (some ⟨gB, 0, none⟩) 1 1, .agg row.toArray])) wS :=
  ⟨gB, _, _, row, fun _ => a5, fun _ => k5, fun _ => c5, none, 0, 0, rfl, rB, fun i hi => ⟨by have : i = 0 := (by omega); subst this; rfl, s5, hk⟩, hd, by rw [hdd]; exact Src.ofNil _, hw⟩
theorem Only.rowT {g k : Nat} {T : TypeId} {w w' : World} {cs : List Value} (h : Only g w w') (hr : RowT T w k cs) (hn : k ≠ g) : RowT T w' k cs := by
  unfold RowT
  rw [h.block _ hn]
  exact hr
theorem txA1_y : TxC txA1 (txY false (zeros 32) []) none 0 0 none 0 0 := txA1_c
theorem vone_is : IsW (zeros 31 ++ [1]) := ⟨rfl, by
  intro x hx
  unfold zeros at hx
  simp only [List.mem_append, List.mem_replicate, List.mem_singleton] at hx
  omega⟩
theorem tx4_c : TxC (txA1.set 106 (.int .u8 1)) (txY false (zeros 31 ++ [1]) []) none 0 0 none 0 0 :=
  ⟨by kernel_rfl, all_one (by kernel_rfl), by kernel_rfl, by kernel_rfl, by kernel_rfl, by kernel_rfl, by kernel_rfl, by kernel_rfl, by kernel_rfl, by kernel_rfl, by kernel_rfl, by kernel_rfl, by kernel_rfl, by kernel_rfl, lowAddr_is 240 (by omega) (by omega), lowAddr_is 1 (by omega) (by omega), by show 0 < 256 ^ 8; omega, by show 200000 < 256 ^ 8; omega, zeroW_is, vone_is, zeroW_is, zeroW_is⟩
theorem tx5_c : TxC (txA1.set 106 (.int .u8 0)) (txY false (zeros 32) []) none 0 0 none 0 0 :=
  ⟨by kernel_rfl, all_one (by kernel_rfl), by kernel_rfl, by kernel_rfl, by kernel_rfl, by kernel_rfl, by kernel_rfl, by kernel_rfl, by kernel_rfl, by kernel_rfl, by kernel_rfl, by kernel_rfl, by kernel_rfl, by kernel_rfl, lowAddr_is 240 (by omega) (by omega), lowAddr_is 1 (by omega) (by omega), by show 0 < 256 ^ 8; omega, by show 200000 < 256 ^ 8; omega, zeroW_is, zeroW_is, zeroW_is, zeroW_is⟩
theorem zeroTx_len : zeroTx.length = 174 := by kernel_rfl
set_option maxHeartbeats 8000000 in
theorem play_k0 (n : Nat) (hn : n ≤ 1024) (w : World) : Calls Sakg.prog 10 #[.int .u8 0, .int .u16 n] w (PlayP 1 (fun _ => p2Y n ++ [95, 32]) (txY false (zeros 32) []) w) := by
  obtain ⟨W, hW⟩ : ∃ W, W = w.alloc (.cells zeroTx.toArray 33) := ⟨_, rfl⟩
  have hb0 : Below w.heap.size w W := by rw [hW]; exact (Below.refl _ _).alloc (Nat.le_refl _) _
  have hr0 : RowT 33 W w.heap.size zeroTx := by rw [hW]; exact RowT.new _ _ _
  have hsT : (Sakg.prog.info? 33).map (·.size) = some txA1.length := by rw [txA1_len]; exact sizeTx
  have HT : Hid (Calls Sakg.prog 22 #[] W fun e w' => e = .returned (.agg txA1.toArray) ∧ Below W.heap.size W w') := hide (toA1_any W)
  have HP : ∀ wz, Hid (Calls Sakg.prog 39 #[.int .u16 n] wz (OwnB wz (p2Y n))) := fun wz => hide (push2_x n (by omega) wz)
  have HR0 := hide hr0
  have hzl := zeroTx_len
  have hW0 : W.heap.size = w.heap.size + 1 := by rw [hW]; simp
  clear hr0
  go_enter Sakg.func10, Sakg.ntmps10
  go_upto_region 1 with ((with_reducible refine at_alloc 33 ?_); refine wpList_alloc_g (by rfl) 33 rfl zeroTx 174 infoTx2 zeroTx_len ?_)
  rw [← hW]
  clear hW
  go_upto_region 2 with (first | (go_at_call 22; refine (unhide HT).mono ?_; rintro e w1 ⟨rfl, b1⟩) | ((with_reducible refine at_store 33 ?_); refine wpList_store_whole rfl 33 (.tmp 5) (.tmp 10) rfl w.heap.size 33 _ txA1 rfl rfl ((unhide HR0).kept b1) (by rw [hzl, txA1_len]) hsT txA1_one ?_; intro w2 hr2 ho2; have HR2 := hide hr2; clear hr2))
  have z1 := b1.size
  have zo2 := ho2.size
  have d2 : Below w.heap.size w w2 := (hb0.trans (b1.mono hb0.size)).trans (ho2.below _ (Nat.le_refl _))
  go_upto_region 3 with (go_at_call 39; refine (unhide (HP _)).mono ?_; rintro e w3 ⟨v3, rfl, o3, b3⟩; have O3 := hide o3; clear o3)
  have z3 := b3.size
  obtain ⟨w4, hw4⟩ : ∃ y, y = w3.alloc (.cells #[.int .u8 95, .int .u8 32] 5) := ⟨_, rfl⟩
  have b4 : Below w3.heap.size w3 w4 := by rw [hw4]; exact (Below.refl _ _).alloc (Nat.le_refl _) _
  have s4 : Src w4 (some ⟨w3.heap.size, 0, none⟩) 2 2 [95, 32] := by rw [hw4]; exact src_lit w3 [95, 32] (by intro x hx; simp at hx; omega) (by decide)
  have S4 := hide s4
  have O4 := hide (own_kept (unhide O3) b4)
  have z4 := b4.size
  have hby : Byt (p2Y n ++ [95, 32]) := p2Y_byt n _ hn (by intro x hx; simp at hx; omega)
  clear s4
  go_upto_region 42 with ((with_reducible refine at_append ?_); rw [← hw4]; refine wpList_append_src rfl _ _ rfl w2.heap.size v3 3 (p2Y n) rfl (unhide O4) _ 2 2 [95, 32] rfl (unhide S4) (by omega) (by omega) (fun v5 w5 o5 b5 => ?_); have hlo0 := fun k hk => (o5.lt k hk).1; obtain ⟨a5, c5, rfl, s5⟩ := own_src o5 hby; have S5 := hide s5; clear s5 o5)
  have hlo : ∀ x, a5 = some x → w2.heap.size ≤ x.block := fun x hx => hlo0 x.block (by rw [hx]; rfl)
  have d5 : Below w2.heap.size w2 w5 := (b3.trans (b4.mono b3.size)).trans b5
  have R5 := hide ((unhide HR2).kept d5)
  have dr : Below w5.heap.size w5 w5.drew := Quiet.below ⟨1, rfl⟩ _
  have d05 : Below w.heap.size w w5 := d2.trans (d5.mono d2.size)
  have hlt5 : w.heap.size < w5.heap.size := by have := d5.size; omega
  have zdr : w5.drew.heap.size = w5.heap.size := rfl
  have hR : ∀ wz, Below w5.heap.size w5 wz → RowT 33 wz w.heap.size txA1 := fun wz hz => (unhide R5).kept hz
  have hrl := txA1_len
  have hone := txA1_one
  have hsR := hsT
  refine wp_region_noPanic ?_
  refine wp_region_held_drew (S := fun w' => RowT 33 w' w.heap.size txA1) (by kernel_rfl) (hR _ dr) (fun hHeld => ?_)
  refine held_takeD 0 (.slice a5 5 c5) (some 95) (by rfl) (by rfl) (by kernel_rfl) (by kernel_rfl) (by kernel_rfl) (fun _ _ _ h => h) (.inl ⟨by rfl, fun _ _ => by rfl⟩) (hHeld) ?_
  simp only [Act.put, List.setIfInBounds_toArray, List.set_cons_zero, List.set_cons_succ]
  refine held_takeD 2 (.agg txA1.toArray) (some 97) (by rfl) (by rfl) (by kernel_rfl) (by kernel_rfl) (by kernel_rfl) (fun _ _ _ h => h) (yieldsIf_load_mid (by rfl) _ _ rfl _ _ rfl _ _ (fun wz hS => hS.rangeAll) Sakg.underlying33 rfl hsR) (hHeld) ?_
  simp only [Act.put, List.setIfInBounds_toArray, List.set_cons_zero, List.set_cons_succ]
  refine held_one 1 (by kernel_rfl) (by rfl) (fun K' hK' => ?_)
  refine if_build_lit (some 96) rfl (by rfl) 24 1 [(0, .tmp 95)] rfl 30 [.slice a5 5 c5] (run_cs1 _ a5 5 c5) (fun wB rB bB sB => ?_)
  have dB := dr.trans (bB.mono dr.size)
  refine hK'.out _ _ (hR _ dB) ?_
  clear hK' K'
  simp only [Act.put, List.setIfInBounds_toArray, List.set_cons_zero, List.set_cons_succ]
  refine held_takeD 3 (.slice (some ⟨w5.drew.heap.size, 0, none⟩) 1 1) (some 4) (by rfl) (by rfl) (by kernel_rfl) (by kernel_rfl) (by kernel_rfl) (fun _ _ _ h => h) (.inl ⟨by rfl, fun _ _ => by rfl⟩) (hR _ dB) ?_
  simp only [Act.put, List.setIfInBounds_toArray, List.set_cons_zero, List.set_cons_succ]
  refine held_one 4 (by kernel_rfl) (by rfl) (fun K' hK' => ?_)
  refine if_store rfl (by rfl) 33 (.tmp 5) (.tmp 97) rfl w.heap.size 0 33 _ txA1 rfl rfl (hR _ dB) (by rw [hrl]; omega) hsR hone (fun wS rS oS => ?_)
  rw [spl_all _ _ rfl] at rS
  have dS := oS
  refine hK'.out _ _ (rS) ?_
  clear hK' K'
  refine wpAnyH_done (by kernel_rfl) ?_ _
  refine NoPanic.normal ?_
  have zB := dB.size
  have s6 : Src wS a5 5 c5 (p2Y n ++ [95, 32]) := (((unhide S5).kept dr).kept bB).onlyX oS (fun y hy e => by have h1 := hlo y hy; omega)
  have q6 : RowT 30 wS w5.drew.heap.size [.slice a5 5 c5] := oS.rowT rB (by omega)
  have dw6 : Below w.heap.size w wS := (d05.trans (dB.mono (Nat.le_of_lt hlt5))).trans (oS.below _ (Nat.le_refl _))
  have HRS := hide rS
  have HS6 := hide s6
  have HQ6 := hide q6
  clear rS s6 q6 rB
  go_wp2_with fail
  refine bodyPost_ret (results_tmp_tx rfl _ _ w.heap.size 33 _ _ rfl (unhide HRS) (by rw [List.size_toArray]; exact hsR)) rfl ?_
  exact play_end txA1_y rfl dw6 (unhide HQ6) (unhide HS6) (by omega)
set_option maxHeartbeats 8000000 in
theorem play_k1 (n : Nat) (hn : n ≤ 1024) (w : World) : Calls Sakg.prog 10 #[.int .u8 1, .int .u16 n] w (PlayP 1 (fun _ => p2Y n ++ [95, 160]) (txY false (zeros 32) []) w) := by
  obtain ⟨W, hW⟩ : ∃ W, W = w.alloc (.cells zeroTx.toArray 33) := ⟨_, rfl⟩
  have hb0 : Below w.heap.size w W := by rw [hW]; exact (Below.refl _ _).alloc (Nat.le_refl _) _
  have hr0 : RowT 33 W w.heap.size zeroTx := by rw [hW]; exact RowT.new _ _ _
  have hsT : (Sakg.prog.info? 33).map (·.size) = some txA1.length := by rw [txA1_len]; exact sizeTx
  have HT : Hid (Calls Sakg.prog 22 #[] W fun e w' => e = .returned (.agg txA1.toArray) ∧ Below W.heap.size W w') := hide (toA1_any W)
  have HP : ∀ wz, Hid (Calls Sakg.prog 39 #[.int .u16 n] wz (OwnB wz (p2Y n))) := fun wz => hide (push2_x n (by omega) wz)
  have HR0 := hide hr0
  have hzl := zeroTx_len
  have hW0 : W.heap.size = w.heap.size + 1 := by rw [hW]; simp
  clear hr0
  go_enter Sakg.func10, Sakg.ntmps10
  go_upto_region 1 with ((with_reducible refine at_alloc 33 ?_); refine wpList_alloc_g (by rfl) 33 rfl zeroTx 174 infoTx2 zeroTx_len ?_)
  rw [← hW]
  clear hW
  go_upto_region 2 with (first | (go_at_call 22; refine (unhide HT).mono ?_; rintro e w1 ⟨rfl, b1⟩) | ((with_reducible refine at_store 33 ?_); refine wpList_store_whole rfl 33 (.tmp 5) (.tmp 10) rfl w.heap.size 33 _ txA1 rfl rfl ((unhide HR0).kept b1) (by rw [hzl, txA1_len]) hsT txA1_one ?_; intro w2 hr2 ho2; have HR2 := hide hr2; clear hr2))
  have z1 := b1.size
  have zo2 := ho2.size
  have d2 : Below w.heap.size w w2 := (hb0.trans (b1.mono hb0.size)).trans (ho2.below _ (Nat.le_refl _))
  go_upto_region 3 with (go_at_call 39; refine (unhide (HP _)).mono ?_; rintro e w3 ⟨v3, rfl, o3, b3⟩; have O3 := hide o3; clear o3)
  have z3 := b3.size
  obtain ⟨w4, hw4⟩ : ∃ y, y = w3.alloc (.cells #[.int .u8 95, .int .u8 160] 5) := ⟨_, rfl⟩
  have b4 : Below w3.heap.size w3 w4 := by rw [hw4]; exact (Below.refl _ _).alloc (Nat.le_refl _) _
  have s4 : Src w4 (some ⟨w3.heap.size, 0, none⟩) 2 2 [95, 160] := by rw [hw4]; exact src_lit w3 [95, 160] (by intro x hx; simp at hx; omega) (by decide)
  have S4 := hide s4
  have O4 := hide (own_kept (unhide O3) b4)
  have z4 := b4.size
  have hby : Byt (p2Y n ++ [95, 160]) := p2Y_byt n _ hn (by intro x hx; simp at hx; omega)
  clear s4
  go_upto_region 42 with ((with_reducible refine at_append ?_); rw [← hw4]; refine wpList_append_src rfl _ _ rfl w2.heap.size v3 3 (p2Y n) rfl (unhide O4) _ 2 2 [95, 160] rfl (unhide S4) (by omega) (by omega) (fun v5 w5 o5 b5 => ?_); have hlo0 := fun k hk => (o5.lt k hk).1; obtain ⟨a5, c5, rfl, s5⟩ := own_src o5 hby; have S5 := hide s5; clear s5 o5)
  have hlo : ∀ x, a5 = some x → w2.heap.size ≤ x.block := fun x hx => hlo0 x.block (by rw [hx]; rfl)
  have d5 : Below w2.heap.size w2 w5 := (b3.trans (b4.mono b3.size)).trans b5
  have R5 := hide ((unhide HR2).kept d5)
  have dr : Below w5.heap.size w5 w5.drew := Quiet.below ⟨1, rfl⟩ _
  have d05 : Below w.heap.size w w5 := d2.trans (d5.mono d2.size)
  have hlt5 : w.heap.size < w5.heap.size := by have := d5.size; omega
  have zdr : w5.drew.heap.size = w5.heap.size := rfl
  have hR : ∀ wz, Below w5.heap.size w5 wz → RowT 33 wz w.heap.size txA1 := fun wz hz => (unhide R5).kept hz
  have hrl := txA1_len
  have hone := txA1_one
  have hsR := hsT
  refine wp_region_noPanic ?_
  refine wp_region_held_drew (S := fun w' => RowT 33 w' w.heap.size txA1) (by kernel_rfl) (hR _ dr) (fun hHeld => ?_)
  refine held_takeD 0 (.slice a5 5 c5) (some 95) (by rfl) (by rfl) (by kernel_rfl) (by kernel_rfl) (by kernel_rfl) (fun _ _ _ h => h) (.inl ⟨by rfl, fun _ _ => by rfl⟩) (hHeld) ?_
  simp only [Act.put, List.setIfInBounds_toArray, List.set_cons_zero, List.set_cons_succ]
  refine held_takeD 2 (.agg txA1.toArray) (some 97) (by rfl) (by rfl) (by kernel_rfl) (by kernel_rfl) (by kernel_rfl) (fun _ _ _ h => h) (yieldsIf_load_mid (by rfl) _ _ rfl _ _ rfl _ _ (fun wz hS => hS.rangeAll) Sakg.underlying33 rfl hsR) (hHeld) ?_
  simp only [Act.put, List.setIfInBounds_toArray, List.set_cons_zero, List.set_cons_succ]
  refine held_one 1 (by kernel_rfl) (by rfl) (fun K' hK' => ?_)
  refine if_build_lit (some 96) rfl (by rfl) 24 1 [(0, .tmp 95)] rfl 30 [.slice a5 5 c5] (run_cs1 _ a5 5 c5) (fun wB rB bB sB => ?_)
  have dB := dr.trans (bB.mono dr.size)
  refine hK'.out _ _ (hR _ dB) ?_
  clear hK' K'
  simp only [Act.put, List.setIfInBounds_toArray, List.set_cons_zero, List.set_cons_succ]
  refine held_takeD 3 (.slice (some ⟨w5.drew.heap.size, 0, none⟩) 1 1) (some 4) (by rfl) (by rfl) (by kernel_rfl) (by kernel_rfl) (by kernel_rfl) (fun _ _ _ h => h) (.inl ⟨by rfl, fun _ _ => by rfl⟩) (hR _ dB) ?_
  simp only [Act.put, List.setIfInBounds_toArray, List.set_cons_zero, List.set_cons_succ]
  refine held_one 4 (by kernel_rfl) (by rfl) (fun K' hK' => ?_)
  refine if_store rfl (by rfl) 33 (.tmp 5) (.tmp 97) rfl w.heap.size 0 33 _ txA1 rfl rfl (hR _ dB) (by rw [hrl]; omega) hsR hone (fun wS rS oS => ?_)
  rw [spl_all _ _ rfl] at rS
  have dS := oS
  refine hK'.out _ _ (rS) ?_
  clear hK' K'
  refine wpAnyH_done (by kernel_rfl) ?_ _
  refine NoPanic.normal ?_
  have zB := dB.size
  have s6 : Src wS a5 5 c5 (p2Y n ++ [95, 160]) := (((unhide S5).kept dr).kept bB).onlyX oS (fun y hy e => by have h1 := hlo y hy; omega)
  have q6 : RowT 30 wS w5.drew.heap.size [.slice a5 5 c5] := oS.rowT rB (by omega)
  have dw6 : Below w.heap.size w wS := (d05.trans (dB.mono (Nat.le_of_lt hlt5))).trans (oS.below _ (Nat.le_refl _))
  have HRS := hide rS
  have HS6 := hide s6
  have HQ6 := hide q6
  clear rS s6 q6 rB
  go_wp2_with fail
  refine bodyPost_ret (results_tmp_tx rfl _ _ w.heap.size 33 _ _ rfl (unhide HRS) (by rw [List.size_toArray]; exact hsR)) rfl ?_
  exact play_end txA1_y rfl dw6 (unhide HQ6) (unhide HS6) (by omega)
set_option maxHeartbeats 8000000 in
theorem play_k2 (n : Nat) (hn : n ≤ 1024) (w : World) : Calls Sakg.prog 10 #[.int .u8 2, .int .u16 n] w (PlayP 1 (fun _ => p2Y n ++ [95, 95, 57]) (txY false (zeros 32) []) w) := by
  obtain ⟨W, hW⟩ : ∃ W, W = w.alloc (.cells zeroTx.toArray 33) := ⟨_, rfl⟩
  have hb0 : Below w.heap.size w W := by rw [hW]; exact (Below.refl _ _).alloc (Nat.le_refl _) _
  have hr0 : RowT 33 W w.heap.size zeroTx := by rw [hW]; exact RowT.new _ _ _
  have hsT : (Sakg.prog.info? 33).map (·.size) = some txA1.length := by rw [txA1_len]; exact sizeTx
  have HT : Hid (Calls Sakg.prog 22 #[] W fun e w' => e = .returned (.agg txA1.toArray) ∧ Below W.heap.size W w') := hide (toA1_any W)
  have HP : ∀ wz, Hid (Calls Sakg.prog 39 #[.int .u16 n] wz (OwnB wz (p2Y n))) := fun wz => hide (push2_x n (by omega) wz)
  have HR0 := hide hr0
  have hzl := zeroTx_len
  have hW0 : W.heap.size = w.heap.size + 1 := by rw [hW]; simp
  clear hr0
  go_enter Sakg.func10, Sakg.ntmps10
  go_upto_region 1 with ((with_reducible refine at_alloc 33 ?_); refine wpList_alloc_g (by rfl) 33 rfl zeroTx 174 infoTx2 zeroTx_len ?_)
  rw [← hW]
  clear hW
  go_upto_region 2 with (first | (go_at_call 22; refine (unhide HT).mono ?_; rintro e w1 ⟨rfl, b1⟩) | ((with_reducible refine at_store 33 ?_); refine wpList_store_whole rfl 33 (.tmp 5) (.tmp 10) rfl w.heap.size 33 _ txA1 rfl rfl ((unhide HR0).kept b1) (by rw [hzl, txA1_len]) hsT txA1_one ?_; intro w2 hr2 ho2; have HR2 := hide hr2; clear hr2))
  have z1 := b1.size
  have zo2 := ho2.size
  have d2 : Below w.heap.size w w2 := (hb0.trans (b1.mono hb0.size)).trans (ho2.below _ (Nat.le_refl _))
  go_upto_region 3 with (go_at_call 39; refine (unhide (HP _)).mono ?_; rintro e w3 ⟨v3, rfl, o3, b3⟩; have O3 := hide o3; clear o3)
  have z3 := b3.size
  obtain ⟨w4, hw4⟩ : ∃ y, y = w3.alloc (.cells #[.int .u8 95, .int .u8 95, .int .u8 57] 5) := ⟨_, rfl⟩
  have b4 : Below w3.heap.size w3 w4 := by rw [hw4]; exact (Below.refl _ _).alloc (Nat.le_refl _) _
  have s4 : Src w4 (some ⟨w3.heap.size, 0, none⟩) 3 3 [95, 95, 57] := by rw [hw4]; exact src_lit w3 [95, 95, 57] (by intro x hx; simp at hx; omega) (by decide)
  have S4 := hide s4
  have O4 := hide (own_kept (unhide O3) b4)
  have z4 := b4.size
  have hby : Byt (p2Y n ++ [95, 95, 57]) := p2Y_byt n _ hn (by intro x hx; simp at hx; omega)
  clear s4
  go_upto_region 42 with ((with_reducible refine at_append ?_); rw [← hw4]; refine wpList_append_src rfl _ _ rfl w2.heap.size v3 3 (p2Y n) rfl (unhide O4) _ 3 3 [95, 95, 57] rfl (unhide S4) (by omega) (by omega) (fun v5 w5 o5 b5 => ?_); have hlo0 := fun k hk => (o5.lt k hk).1; obtain ⟨a5, c5, rfl, s5⟩ := own_src o5 hby; have S5 := hide s5; clear s5 o5)
  have hlo : ∀ x, a5 = some x → w2.heap.size ≤ x.block := fun x hx => hlo0 x.block (by rw [hx]; rfl)
  have d5 : Below w2.heap.size w2 w5 := (b3.trans (b4.mono b3.size)).trans b5
  have R5 := hide ((unhide HR2).kept d5)
  have dr : Below w5.heap.size w5 w5.drew := Quiet.below ⟨1, rfl⟩ _
  have d05 : Below w.heap.size w w5 := d2.trans (d5.mono d2.size)
  have hlt5 : w.heap.size < w5.heap.size := by have := d5.size; omega
  have zdr : w5.drew.heap.size = w5.heap.size := rfl
  have hR : ∀ wz, Below w5.heap.size w5 wz → RowT 33 wz w.heap.size txA1 := fun wz hz => (unhide R5).kept hz
  have hrl := txA1_len
  have hone := txA1_one
  have hsR := hsT
  refine wp_region_noPanic ?_
  refine wp_region_held_drew (S := fun w' => RowT 33 w' w.heap.size txA1) (by kernel_rfl) (hR _ dr) (fun hHeld => ?_)
  refine held_takeD 0 (.slice a5 6 c5) (some 95) (by rfl) (by rfl) (by kernel_rfl) (by kernel_rfl) (by kernel_rfl) (fun _ _ _ h => h) (.inl ⟨by rfl, fun _ _ => by rfl⟩) (hHeld) ?_
  simp only [Act.put, List.setIfInBounds_toArray, List.set_cons_zero, List.set_cons_succ]
  refine held_takeD 2 (.agg txA1.toArray) (some 97) (by rfl) (by rfl) (by kernel_rfl) (by kernel_rfl) (by kernel_rfl) (fun _ _ _ h => h) (yieldsIf_load_mid (by rfl) _ _ rfl _ _ rfl _ _ (fun wz hS => hS.rangeAll) Sakg.underlying33 rfl hsR) (hHeld) ?_
  simp only [Act.put, List.setIfInBounds_toArray, List.set_cons_zero, List.set_cons_succ]
  refine held_one 1 (by kernel_rfl) (by rfl) (fun K' hK' => ?_)
  refine if_build_lit (some 96) rfl (by rfl) 24 1 [(0, .tmp 95)] rfl 30 [.slice a5 6 c5] (run_cs1 _ a5 6 c5) (fun wB rB bB sB => ?_)
  have dB := dr.trans (bB.mono dr.size)
  refine hK'.out _ _ (hR _ dB) ?_
  clear hK' K'
  simp only [Act.put, List.setIfInBounds_toArray, List.set_cons_zero, List.set_cons_succ]
  refine held_takeD 3 (.slice (some ⟨w5.drew.heap.size, 0, none⟩) 1 1) (some 4) (by rfl) (by rfl) (by kernel_rfl) (by kernel_rfl) (by kernel_rfl) (fun _ _ _ h => h) (.inl ⟨by rfl, fun _ _ => by rfl⟩) (hR _ dB) ?_
  simp only [Act.put, List.setIfInBounds_toArray, List.set_cons_zero, List.set_cons_succ]
  refine held_one 4 (by kernel_rfl) (by rfl) (fun K' hK' => ?_)
  refine if_store rfl (by rfl) 33 (.tmp 5) (.tmp 97) rfl w.heap.size 0 33 _ txA1 rfl rfl (hR _ dB) (by rw [hrl]; omega) hsR hone (fun wS rS oS => ?_)
  rw [spl_all _ _ rfl] at rS
  have dS := oS
  refine hK'.out _ _ (rS) ?_
  clear hK' K'
  refine wpAnyH_done (by kernel_rfl) ?_ _
  refine NoPanic.normal ?_
  have zB := dB.size
  have s6 : Src wS a5 6 c5 (p2Y n ++ [95, 95, 57]) := (((unhide S5).kept dr).kept bB).onlyX oS (fun y hy e => by have h1 := hlo y hy; omega)
  have q6 : RowT 30 wS w5.drew.heap.size [.slice a5 6 c5] := oS.rowT rB (by omega)
  have dw6 : Below w.heap.size w wS := (d05.trans (dB.mono (Nat.le_of_lt hlt5))).trans (oS.below _ (Nat.le_refl _))
  have HRS := hide rS
  have HS6 := hide s6
  have HQ6 := hide q6
  clear rS s6 q6 rB
  go_wp2_with fail
  refine bodyPost_ret (results_tmp_tx rfl _ _ w.heap.size 33 _ _ rfl (unhide HRS) (by rw [List.size_toArray]; exact hsR)) rfl ?_
  exact play_end txA1_y rfl dw6 (unhide HQ6) (unhide HS6) (by omega)
set_option maxHeartbeats 8000000 in
theorem play_k9 (n : Nat) (hn : n ≤ 1024) (w : World) : Calls Sakg.prog 10 #[.int .u8 9, .int .u16 n] w (PlayP 1 (fun _ => p2Y n ++ [95, 95, 240]) (txY false (zeros 32) []) w) := by
  obtain ⟨W, hW⟩ : ∃ W, W = w.alloc (.cells zeroTx.toArray 33) := ⟨_, rfl⟩
  have hb0 : Below w.heap.size w W := by rw [hW]; exact (Below.refl _ _).alloc (Nat.le_refl _) _
  have hr0 : RowT 33 W w.heap.size zeroTx := by rw [hW]; exact RowT.new _ _ _
  have hsT : (Sakg.prog.info? 33).map (·.size) = some txA1.length := by rw [txA1_len]; exact sizeTx
  have HT : Hid (Calls Sakg.prog 22 #[] W fun e w' => e = .returned (.agg txA1.toArray) ∧ Below W.heap.size W w') := hide (toA1_any W)
  have HP : ∀ wz, Hid (Calls Sakg.prog 39 #[.int .u16 n] wz (OwnB wz (p2Y n))) := fun wz => hide (push2_x n (by omega) wz)
  have HR0 := hide hr0
  have hzl := zeroTx_len
  have hW0 : W.heap.size = w.heap.size + 1 := by rw [hW]; simp
  clear hr0
  go_enter Sakg.func10, Sakg.ntmps10
  go_upto_region 1 with ((with_reducible refine at_alloc 33 ?_); refine wpList_alloc_g (by rfl) 33 rfl zeroTx 174 infoTx2 zeroTx_len ?_)
  rw [← hW]
  clear hW
  go_upto_region 2 with (first | (go_at_call 22; refine (unhide HT).mono ?_; rintro e w1 ⟨rfl, b1⟩) | ((with_reducible refine at_store 33 ?_); refine wpList_store_whole rfl 33 (.tmp 5) (.tmp 10) rfl w.heap.size 33 _ txA1 rfl rfl ((unhide HR0).kept b1) (by rw [hzl, txA1_len]) hsT txA1_one ?_; intro w2 hr2 ho2; have HR2 := hide hr2; clear hr2))
  have z1 := b1.size
  have zo2 := ho2.size
  have d2 : Below w.heap.size w w2 := (hb0.trans (b1.mono hb0.size)).trans (ho2.below _ (Nat.le_refl _))
  go_upto_region 3 with (go_at_call 39; refine (unhide (HP _)).mono ?_; rintro e w3 ⟨v3, rfl, o3, b3⟩; have O3 := hide o3; clear o3)
  have z3 := b3.size
  obtain ⟨w4, hw4⟩ : ∃ y, y = w3.alloc (.cells #[.int .u8 95, .int .u8 95, .int .u8 240] 5) := ⟨_, rfl⟩
  have b4 : Below w3.heap.size w3 w4 := by rw [hw4]; exact (Below.refl _ _).alloc (Nat.le_refl _) _
  have s4 : Src w4 (some ⟨w3.heap.size, 0, none⟩) 3 3 [95, 95, 240] := by rw [hw4]; exact src_lit w3 [95, 95, 240] (by intro x hx; simp at hx; omega) (by decide)
  have S4 := hide s4
  have O4 := hide (own_kept (unhide O3) b4)
  have z4 := b4.size
  have hby : Byt (p2Y n ++ [95, 95, 240]) := p2Y_byt n _ hn (by intro x hx; simp at hx; omega)
  clear s4
  go_upto_region 42 with ((with_reducible refine at_append ?_); rw [← hw4]; refine wpList_append_src rfl _ _ rfl w2.heap.size v3 3 (p2Y n) rfl (unhide O4) _ 3 3 [95, 95, 240] rfl (unhide S4) (by omega) (by omega) (fun v5 w5 o5 b5 => ?_); have hlo0 := fun k hk => (o5.lt k hk).1; obtain ⟨a5, c5, rfl, s5⟩ := own_src o5 hby; have S5 := hide s5; clear s5 o5)
  have hlo : ∀ x, a5 = some x → w2.heap.size ≤ x.block := fun x hx => hlo0 x.block (by rw [hx]; rfl)
  have d5 : Below w2.heap.size w2 w5 := (b3.trans (b4.mono b3.size)).trans b5
  have R5 := hide ((unhide HR2).kept d5)
  have dr : Below w5.heap.size w5 w5.drew := Quiet.below ⟨1, rfl⟩ _
  have d05 : Below w.heap.size w w5 := d2.trans (d5.mono d2.size)
  have hlt5 : w.heap.size < w5.heap.size := by have := d5.size; omega
  have zdr : w5.drew.heap.size = w5.heap.size := rfl
  have hR : ∀ wz, Below w5.heap.size w5 wz → RowT 33 wz w.heap.size txA1 := fun wz hz => (unhide R5).kept hz
  have hrl := txA1_len
  have hone := txA1_one
  have hsR := hsT
  refine wp_region_noPanic ?_
  refine wp_region_held_drew (S := fun w' => RowT 33 w' w.heap.size txA1) (by kernel_rfl) (hR _ dr) (fun hHeld => ?_)
  refine held_takeD 0 (.slice a5 6 c5) (some 95) (by rfl) (by rfl) (by kernel_rfl) (by kernel_rfl) (by kernel_rfl) (fun _ _ _ h => h) (.inl ⟨by rfl, fun _ _ => by rfl⟩) (hHeld) ?_
  simp only [Act.put, List.setIfInBounds_toArray, List.set_cons_zero, List.set_cons_succ]
  refine held_takeD 2 (.agg txA1.toArray) (some 97) (by rfl) (by rfl) (by kernel_rfl) (by kernel_rfl) (by kernel_rfl) (fun _ _ _ h => h) (yieldsIf_load_mid (by rfl) _ _ rfl _ _ rfl _ _ (fun wz hS => hS.rangeAll) Sakg.underlying33 rfl hsR) (hHeld) ?_
  simp only [Act.put, List.setIfInBounds_toArray, List.set_cons_zero, List.set_cons_succ]
  refine held_one 1 (by kernel_rfl) (by rfl) (fun K' hK' => ?_)
  refine if_build_lit (some 96) rfl (by rfl) 24 1 [(0, .tmp 95)] rfl 30 [.slice a5 6 c5] (run_cs1 _ a5 6 c5) (fun wB rB bB sB => ?_)
  have dB := dr.trans (bB.mono dr.size)
  refine hK'.out _ _ (hR _ dB) ?_
  clear hK' K'
  simp only [Act.put, List.setIfInBounds_toArray, List.set_cons_zero, List.set_cons_succ]
  refine held_takeD 3 (.slice (some ⟨w5.drew.heap.size, 0, none⟩) 1 1) (some 4) (by rfl) (by rfl) (by kernel_rfl) (by kernel_rfl) (by kernel_rfl) (fun _ _ _ h => h) (.inl ⟨by rfl, fun _ _ => by rfl⟩) (hR _ dB) ?_
  simp only [Act.put, List.setIfInBounds_toArray, List.set_cons_zero, List.set_cons_succ]
  refine held_one 4 (by kernel_rfl) (by rfl) (fun K' hK' => ?_)
  refine if_store rfl (by rfl) 33 (.tmp 5) (.tmp 97) rfl w.heap.size 0 33 _ txA1 rfl rfl (hR _ dB) (by rw [hrl]; omega) hsR hone (fun wS rS oS => ?_)
  rw [spl_all _ _ rfl] at rS
  have dS := oS
  refine hK'.out _ _ (rS) ?_
  clear hK' K'
  refine wpAnyH_done (by kernel_rfl) ?_ _
  refine NoPanic.normal ?_
  have zB := dB.size
  have s6 : Src wS a5 6 c5 (p2Y n ++ [95, 95, 240]) := (((unhide S5).kept dr).kept bB).onlyX oS (fun y hy e => by have h1 := hlo y hy; omega)
  have q6 : RowT 30 wS w5.drew.heap.size [.slice a5 6 c5] := oS.rowT rB (by omega)
  have dw6 : Below w.heap.size w wS := (d05.trans (dB.mono (Nat.le_of_lt hlt5))).trans (oS.below _ (Nat.le_refl _))
  have HRS := hide rS
  have HS6 := hide s6
  have HQ6 := hide q6
  clear rS s6 q6 rB
  go_wp2_with fail
  refine bodyPost_ret (results_tmp_tx rfl _ _ w.heap.size 33 _ _ rfl (unhide HRS) (by rw [List.size_toArray]; exact hsR)) rfl ?_
  exact play_end txA1_y rfl dw6 (unhide HQ6) (unhide HS6) (by omega)
set_option maxHeartbeats 8000000 in
theorem play_k11 (n : Nat) (hn : n ≤ 1024) (w : World) : Calls Sakg.prog 10 #[.int .u8 11, .int .u16 n] w (PlayP 1 (fun _ => p2Y n ++ [95, 95, 55]) (txY false (zeros 32) []) w) := by
  obtain ⟨W, hW⟩ : ∃ W, W = w.alloc (.cells zeroTx.toArray 33) := ⟨_, rfl⟩
  have hb0 : Below w.heap.size w W := by rw [hW]; exact (Below.refl _ _).alloc (Nat.le_refl _) _
  have hr0 : RowT 33 W w.heap.size zeroTx := by rw [hW]; exact RowT.new _ _ _
  have hsT : (Sakg.prog.info? 33).map (·.size) = some txA1.length := by rw [txA1_len]; exact sizeTx
  have HT : Hid (Calls Sakg.prog 22 #[] W fun e w' => e = .returned (.agg txA1.toArray) ∧ Below W.heap.size W w') := hide (toA1_any W)
  have HP : ∀ wz, Hid (Calls Sakg.prog 39 #[.int .u16 n] wz (OwnB wz (p2Y n))) := fun wz => hide (push2_x n (by omega) wz)
  have HR0 := hide hr0
  have hzl := zeroTx_len
  have hW0 : W.heap.size = w.heap.size + 1 := by rw [hW]; simp
  clear hr0
  go_enter Sakg.func10, Sakg.ntmps10
  go_upto_region 1 with ((with_reducible refine at_alloc 33 ?_); refine wpList_alloc_g (by rfl) 33 rfl zeroTx 174 infoTx2 zeroTx_len ?_)
  rw [← hW]
  clear hW
  go_upto_region 2 with (first | (go_at_call 22; refine (unhide HT).mono ?_; rintro e w1 ⟨rfl, b1⟩) | ((with_reducible refine at_store 33 ?_); refine wpList_store_whole rfl 33 (.tmp 5) (.tmp 10) rfl w.heap.size 33 _ txA1 rfl rfl ((unhide HR0).kept b1) (by rw [hzl, txA1_len]) hsT txA1_one ?_; intro w2 hr2 ho2; have HR2 := hide hr2; clear hr2))
  have z1 := b1.size
  have zo2 := ho2.size
  have d2 : Below w.heap.size w w2 := (hb0.trans (b1.mono hb0.size)).trans (ho2.below _ (Nat.le_refl _))
  go_upto_region 3 with (go_at_call 39; refine (unhide (HP _)).mono ?_; rintro e w3 ⟨v3, rfl, o3, b3⟩; have O3 := hide o3; clear o3)
  have z3 := b3.size
  obtain ⟨w4, hw4⟩ : ∃ y, y = w3.alloc (.cells #[.int .u8 95, .int .u8 95, .int .u8 55] 5) := ⟨_, rfl⟩
  have b4 : Below w3.heap.size w3 w4 := by rw [hw4]; exact (Below.refl _ _).alloc (Nat.le_refl _) _
  have s4 : Src w4 (some ⟨w3.heap.size, 0, none⟩) 3 3 [95, 95, 55] := by rw [hw4]; exact src_lit w3 [95, 95, 55] (by intro x hx; simp at hx; omega) (by decide)
  have S4 := hide s4
  have O4 := hide (own_kept (unhide O3) b4)
  have z4 := b4.size
  have hby : Byt (p2Y n ++ [95, 95, 55]) := p2Y_byt n _ hn (by intro x hx; simp at hx; omega)
  clear s4
  go_upto_region 42 with ((with_reducible refine at_append ?_); rw [← hw4]; refine wpList_append_src rfl _ _ rfl w2.heap.size v3 3 (p2Y n) rfl (unhide O4) _ 3 3 [95, 95, 55] rfl (unhide S4) (by omega) (by omega) (fun v5 w5 o5 b5 => ?_); have hlo0 := fun k hk => (o5.lt k hk).1; obtain ⟨a5, c5, rfl, s5⟩ := own_src o5 hby; have S5 := hide s5; clear s5 o5)
  have hlo : ∀ x, a5 = some x → w2.heap.size ≤ x.block := fun x hx => hlo0 x.block (by rw [hx]; rfl)
  have d5 : Below w2.heap.size w2 w5 := (b3.trans (b4.mono b3.size)).trans b5
  have R5 := hide ((unhide HR2).kept d5)
  have dr : Below w5.heap.size w5 w5.drew := Quiet.below ⟨1, rfl⟩ _
  have d05 : Below w.heap.size w w5 := d2.trans (d5.mono d2.size)
  have hlt5 : w.heap.size < w5.heap.size := by have := d5.size; omega
  have zdr : w5.drew.heap.size = w5.heap.size := rfl
  have hR : ∀ wz, Below w5.heap.size w5 wz → RowT 33 wz w.heap.size txA1 := fun wz hz => (unhide R5).kept hz
  have hrl := txA1_len
  have hone := txA1_one
  have hsR := hsT
  refine wp_region_noPanic ?_
  refine wp_region_held_drew (S := fun w' => RowT 33 w' w.heap.size txA1) (by kernel_rfl) (hR _ dr) (fun hHeld => ?_)
  refine held_takeD 0 (.slice a5 6 c5) (some 95) (by rfl) (by rfl) (by kernel_rfl) (by kernel_rfl) (by kernel_rfl) (fun _ _ _ h => h) (.inl ⟨by rfl, fun _ _ => by rfl⟩) (hHeld) ?_
  simp only [Act.put, List.setIfInBounds_toArray, List.set_cons_zero, List.set_cons_succ]
  refine held_takeD 2 (.agg txA1.toArray) (some 97) (by rfl) (by rfl) (by kernel_rfl) (by kernel_rfl) (by kernel_rfl) (fun _ _ _ h => h) (yieldsIf_load_mid (by rfl) _ _ rfl _ _ rfl _ _ (fun wz hS => hS.rangeAll) Sakg.underlying33 rfl hsR) (hHeld) ?_
  simp only [Act.put, List.setIfInBounds_toArray, List.set_cons_zero, List.set_cons_succ]
  refine held_one 1 (by kernel_rfl) (by rfl) (fun K' hK' => ?_)
  refine if_build_lit (some 96) rfl (by rfl) 24 1 [(0, .tmp 95)] rfl 30 [.slice a5 6 c5] (run_cs1 _ a5 6 c5) (fun wB rB bB sB => ?_)
  have dB := dr.trans (bB.mono dr.size)
  refine hK'.out _ _ (hR _ dB) ?_
  clear hK' K'
  simp only [Act.put, List.setIfInBounds_toArray, List.set_cons_zero, List.set_cons_succ]
  refine held_takeD 3 (.slice (some ⟨w5.drew.heap.size, 0, none⟩) 1 1) (some 4) (by rfl) (by rfl) (by kernel_rfl) (by kernel_rfl) (by kernel_rfl) (fun _ _ _ h => h) (.inl ⟨by rfl, fun _ _ => by rfl⟩) (hR _ dB) ?_
  simp only [Act.put, List.setIfInBounds_toArray, List.set_cons_zero, List.set_cons_succ]
  refine held_one 4 (by kernel_rfl) (by rfl) (fun K' hK' => ?_)
  refine if_store rfl (by rfl) 33 (.tmp 5) (.tmp 97) rfl w.heap.size 0 33 _ txA1 rfl rfl (hR _ dB) (by rw [hrl]; omega) hsR hone (fun wS rS oS => ?_)
  rw [spl_all _ _ rfl] at rS
  have dS := oS
  refine hK'.out _ _ (rS) ?_
  clear hK' K'
  refine wpAnyH_done (by kernel_rfl) ?_ _
  refine NoPanic.normal ?_
  have zB := dB.size
  have s6 : Src wS a5 6 c5 (p2Y n ++ [95, 95, 55]) := (((unhide S5).kept dr).kept bB).onlyX oS (fun y hy e => by have h1 := hlo y hy; omega)
  have q6 : RowT 30 wS w5.drew.heap.size [.slice a5 6 c5] := oS.rowT rB (by omega)
  have dw6 : Below w.heap.size w wS := (d05.trans (dB.mono (Nat.le_of_lt hlt5))).trans (oS.below _ (Nat.le_refl _))
  have HRS := hide rS
  have HS6 := hide s6
  have HQ6 := hide q6
  clear rS s6 q6 rB
  go_wp2_with fail
  refine bodyPost_ret (results_tmp_tx rfl _ _ w.heap.size 33 _ _ rfl (unhide HRS) (by rw [List.size_toArray]; exact hsR)) rfl ?_
  exact play_end txA1_y rfl dw6 (unhide HQ6) (unhide HS6) (by omega)
set_option maxHeartbeats 8000000 in
theorem play_k12 (n : Nat) (hn : n ≤ 1024) (w : World) : Calls Sakg.prog 10 #[.int .u8 12, .int .u16 n] w (PlayP 1 (fun _ => p2Y n ++ [95, 95, 95, 60]) (txY false (zeros 32) []) w) := by
  obtain ⟨W, hW⟩ : ∃ W, W = w.alloc (.cells zeroTx.toArray 33) := ⟨_, rfl⟩
  have hb0 : Below w.heap.size w W := by rw [hW]; exact (Below.refl _ _).alloc (Nat.le_refl _) _
  have hr0 : RowT 33 W w.heap.size zeroTx := by rw [hW]; exact RowT.new _ _ _
  have hsT : (Sakg.prog.info? 33).map (·.size) = some txA1.length := by rw [txA1_len]; exact sizeTx
  have HT : Hid (Calls Sakg.prog 22 #[] W fun e w' => e = .returned (.agg txA1.toArray) ∧ Below W.heap.size W w') := hide (toA1_any W)
  have HP : ∀ wz, Hid (Calls Sakg.prog 39 #[.int .u16 n] wz (OwnB wz (p2Y n))) := fun wz => hide (push2_x n (by omega) wz)
  have HR0 := hide hr0
  have hzl := zeroTx_len
  have hW0 : W.heap.size = w.heap.size + 1 := by rw [hW]; simp
  clear hr0
  go_enter Sakg.func10, Sakg.ntmps10
  go_upto_region 1 with ((with_reducible refine at_alloc 33 ?_); refine wpList_alloc_g (by rfl) 33 rfl zeroTx 174 infoTx2 zeroTx_len ?_)
  rw [← hW]
  clear hW
  go_upto_region 2 with (first | (go_at_call 22; refine (unhide HT).mono ?_; rintro e w1 ⟨rfl, b1⟩) | ((with_reducible refine at_store 33 ?_); refine wpList_store_whole rfl 33 (.tmp 5) (.tmp 10) rfl w.heap.size 33 _ txA1 rfl rfl ((unhide HR0).kept b1) (by rw [hzl, txA1_len]) hsT txA1_one ?_; intro w2 hr2 ho2; have HR2 := hide hr2; clear hr2))
  have z1 := b1.size
  have zo2 := ho2.size
  have d2 : Below w.heap.size w w2 := (hb0.trans (b1.mono hb0.size)).trans (ho2.below _ (Nat.le_refl _))
  go_upto_region 3 with (go_at_call 39; refine (unhide (HP _)).mono ?_; rintro e w3 ⟨v3, rfl, o3, b3⟩; have O3 := hide o3; clear o3)
  have z3 := b3.size
  obtain ⟨w4, hw4⟩ : ∃ y, y = w3.alloc (.cells #[.int .u8 95, .int .u8 95, .int .u8 95, .int .u8 60] 5) := ⟨_, rfl⟩
  have b4 : Below w3.heap.size w3 w4 := by rw [hw4]; exact (Below.refl _ _).alloc (Nat.le_refl _) _
  have s4 : Src w4 (some ⟨w3.heap.size, 0, none⟩) 4 4 [95, 95, 95, 60] := by rw [hw4]; exact src_lit w3 [95, 95, 95, 60] (by intro x hx; simp at hx; omega) (by decide)
  have S4 := hide s4
  have O4 := hide (own_kept (unhide O3) b4)
  have z4 := b4.size
  have hby : Byt (p2Y n ++ [95, 95, 95, 60]) := p2Y_byt n _ hn (by intro x hx; simp at hx; omega)
  clear s4
  go_upto_region 42 with ((with_reducible refine at_append ?_); rw [← hw4]; refine wpList_append_src rfl _ _ rfl w2.heap.size v3 3 (p2Y n) rfl (unhide O4) _ 4 4 [95, 95, 95, 60] rfl (unhide S4) (by omega) (by omega) (fun v5 w5 o5 b5 => ?_); have hlo0 := fun k hk => (o5.lt k hk).1; obtain ⟨a5, c5, rfl, s5⟩ := own_src o5 hby; have S5 := hide s5; clear s5 o5)
  have hlo : ∀ x, a5 = some x → w2.heap.size ≤ x.block := fun x hx => hlo0 x.block (by rw [hx]; rfl)
  have d5 : Below w2.heap.size w2 w5 := (b3.trans (b4.mono b3.size)).trans b5
  have R5 := hide ((unhide HR2).kept d5)
  have dr : Below w5.heap.size w5 w5.drew := Quiet.below ⟨1, rfl⟩ _
  have d05 : Below w.heap.size w w5 := d2.trans (d5.mono d2.size)
  have hlt5 : w.heap.size < w5.heap.size := by have := d5.size; omega
  have zdr : w5.drew.heap.size = w5.heap.size := rfl
  have hR : ∀ wz, Below w5.heap.size w5 wz → RowT 33 wz w.heap.size txA1 := fun wz hz => (unhide R5).kept hz
  have hrl := txA1_len
  have hone := txA1_one
  have hsR := hsT
  refine wp_region_noPanic ?_
  refine wp_region_held_drew (S := fun w' => RowT 33 w' w.heap.size txA1) (by kernel_rfl) (hR _ dr) (fun hHeld => ?_)
  refine held_takeD 0 (.slice a5 7 c5) (some 95) (by rfl) (by rfl) (by kernel_rfl) (by kernel_rfl) (by kernel_rfl) (fun _ _ _ h => h) (.inl ⟨by rfl, fun _ _ => by rfl⟩) (hHeld) ?_
  simp only [Act.put, List.setIfInBounds_toArray, List.set_cons_zero, List.set_cons_succ]
  refine held_takeD 2 (.agg txA1.toArray) (some 97) (by rfl) (by rfl) (by kernel_rfl) (by kernel_rfl) (by kernel_rfl) (fun _ _ _ h => h) (yieldsIf_load_mid (by rfl) _ _ rfl _ _ rfl _ _ (fun wz hS => hS.rangeAll) Sakg.underlying33 rfl hsR) (hHeld) ?_
  simp only [Act.put, List.setIfInBounds_toArray, List.set_cons_zero, List.set_cons_succ]
  refine held_one 1 (by kernel_rfl) (by rfl) (fun K' hK' => ?_)
  refine if_build_lit (some 96) rfl (by rfl) 24 1 [(0, .tmp 95)] rfl 30 [.slice a5 7 c5] (run_cs1 _ a5 7 c5) (fun wB rB bB sB => ?_)
  have dB := dr.trans (bB.mono dr.size)
  refine hK'.out _ _ (hR _ dB) ?_
  clear hK' K'
  simp only [Act.put, List.setIfInBounds_toArray, List.set_cons_zero, List.set_cons_succ]
  refine held_takeD 3 (.slice (some ⟨w5.drew.heap.size, 0, none⟩) 1 1) (some 4) (by rfl) (by rfl) (by kernel_rfl) (by kernel_rfl) (by kernel_rfl) (fun _ _ _ h => h) (.inl ⟨by rfl, fun _ _ => by rfl⟩) (hR _ dB) ?_
  simp only [Act.put, List.setIfInBounds_toArray, List.set_cons_zero, List.set_cons_succ]
  refine held_one 4 (by kernel_rfl) (by rfl) (fun K' hK' => ?_)
  refine if_store rfl (by rfl) 33 (.tmp 5) (.tmp 97) rfl w.heap.size 0 33 _ txA1 rfl rfl (hR _ dB) (by rw [hrl]; omega) hsR hone (fun wS rS oS => ?_)
  rw [spl_all _ _ rfl] at rS
  have dS := oS
  refine hK'.out _ _ (rS) ?_
  clear hK' K'
  refine wpAnyH_done (by kernel_rfl) ?_ _
  refine NoPanic.normal ?_
  have zB := dB.size
  have s6 : Src wS a5 7 c5 (p2Y n ++ [95, 95, 95, 60]) := (((unhide S5).kept dr).kept bB).onlyX oS (fun y hy e => by have h1 := hlo y hy; omega)
  have q6 : RowT 30 wS w5.drew.heap.size [.slice a5 7 c5] := oS.rowT rB (by omega)
  have dw6 : Below w.heap.size w wS := (d05.trans (dB.mono (Nat.le_of_lt hlt5))).trans (oS.below _ (Nat.le_refl _))
  have HRS := hide rS
  have HS6 := hide s6
  have HQ6 := hide q6
  clear rS s6 q6 rB
  go_wp2_with fail
  refine bodyPost_ret (results_tmp_tx rfl _ _ w.heap.size 33 _ _ rfl (unhide HRS) (by rw [List.size_toArray]; exact hsR)) rfl ?_
  exact play_end txA1_y rfl dw6 (unhide HQ6) (unhide HS6) (by omega)
set_option maxHeartbeats 8000000 in
theorem play_k13 (n : Nat) (hn : n ≤ 1024) (w : World) : Calls Sakg.prog 10 #[.int .u8 13, .int .u16 n] w (PlayP 1 (fun _ => p2Y n ++ [96, 64, 95, 94]) (txY false (zeros 32) []) w) := by
  obtain ⟨W, hW⟩ : ∃ W, W = w.alloc (.cells zeroTx.toArray 33) := ⟨_, rfl⟩
  have hb0 : Below w.heap.size w W := by rw [hW]; exact (Below.refl _ _).alloc (Nat.le_refl _) _
  have hr0 : RowT 33 W w.heap.size zeroTx := by rw [hW]; exact RowT.new _ _ _
  have hsT : (Sakg.prog.info? 33).map (·.size) = some txA1.length := by rw [txA1_len]; exact sizeTx
  have HT : Hid (Calls Sakg.prog 22 #[] W fun e w' => e = .returned (.agg txA1.toArray) ∧ Below W.heap.size W w') := hide (toA1_any W)
  have HP : ∀ wz, Hid (Calls Sakg.prog 39 #[.int .u16 n] wz (OwnB wz (p2Y n))) := fun wz => hide (push2_x n (by omega) wz)
  have HR0 := hide hr0
  have hzl := zeroTx_len
  have hW0 : W.heap.size = w.heap.size + 1 := by rw [hW]; simp
  clear hr0
  go_enter Sakg.func10, Sakg.ntmps10
  go_upto_region 1 with ((with_reducible refine at_alloc 33 ?_); refine wpList_alloc_g (by rfl) 33 rfl zeroTx 174 infoTx2 zeroTx_len ?_)
  rw [← hW]
  clear hW
  go_upto_region 2 with (first | (go_at_call 22; refine (unhide HT).mono ?_; rintro e w1 ⟨rfl, b1⟩) | ((with_reducible refine at_store 33 ?_); refine wpList_store_whole rfl 33 (.tmp 5) (.tmp 10) rfl w.heap.size 33 _ txA1 rfl rfl ((unhide HR0).kept b1) (by rw [hzl, txA1_len]) hsT txA1_one ?_; intro w2 hr2 ho2; have HR2 := hide hr2; clear hr2))
  have z1 := b1.size
  have zo2 := ho2.size
  have d2 : Below w.heap.size w w2 := (hb0.trans (b1.mono hb0.size)).trans (ho2.below _ (Nat.le_refl _))
  go_upto_region 3 with (go_at_call 39; refine (unhide (HP _)).mono ?_; rintro e w3 ⟨v3, rfl, o3, b3⟩; have O3 := hide o3; clear o3)
  have z3 := b3.size
  obtain ⟨w4, hw4⟩ : ∃ y, y = w3.alloc (.cells #[.int .u8 96, .int .u8 64, .int .u8 95, .int .u8 94] 5) := ⟨_, rfl⟩
  have b4 : Below w3.heap.size w3 w4 := by rw [hw4]; exact (Below.refl _ _).alloc (Nat.le_refl _) _
  have s4 : Src w4 (some ⟨w3.heap.size, 0, none⟩) 4 4 [96, 64, 95, 94] := by rw [hw4]; exact src_lit w3 [96, 64, 95, 94] (by intro x hx; simp at hx; omega) (by decide)
  have S4 := hide s4
  have O4 := hide (own_kept (unhide O3) b4)
  have z4 := b4.size
  have hby : Byt (p2Y n ++ [96, 64, 95, 94]) := p2Y_byt n _ hn (by intro x hx; simp at hx; omega)
  clear s4
  go_upto_region 42 with ((with_reducible refine at_append ?_); rw [← hw4]; refine wpList_append_src rfl _ _ rfl w2.heap.size v3 3 (p2Y n) rfl (unhide O4) _ 4 4 [96, 64, 95, 94] rfl (unhide S4) (by omega) (by omega) (fun v5 w5 o5 b5 => ?_); have hlo0 := fun k hk => (o5.lt k hk).1; obtain ⟨a5, c5, rfl, s5⟩ := own_src o5 hby; have S5 := hide s5; clear s5 o5)
  have hlo : ∀ x, a5 = some x → w2.heap.size ≤ x.block := fun x hx => hlo0 x.block (by rw [hx]; rfl)
  have d5 : Below w2.heap.size w2 w5 := (b3.trans (b4.mono b3.size)).trans b5
  have R5 := hide ((unhide HR2).kept d5)
  have dr : Below w5.heap.size w5 w5.drew := Quiet.below ⟨1, rfl⟩ _
  have d05 : Below w.heap.size w w5 := d2.trans (d5.mono d2.size)
  have hlt5 : w.heap.size < w5.heap.size := by have := d5.size; omega
  have zdr : w5.drew.heap.size = w5.heap.size := rfl
  have hR : ∀ wz, Below w5.heap.size w5 wz → RowT 33 wz w.heap.size txA1 := fun wz hz => (unhide R5).kept hz
  have hrl := txA1_len
  have hone := txA1_one
  have hsR := hsT
  refine wp_region_noPanic ?_
  refine wp_region_held_drew (S := fun w' => RowT 33 w' w.heap.size txA1) (by kernel_rfl) (hR _ dr) (fun hHeld => ?_)
  refine held_takeD 0 (.slice a5 7 c5) (some 95) (by rfl) (by rfl) (by kernel_rfl) (by kernel_rfl) (by kernel_rfl) (fun _ _ _ h => h) (.inl ⟨by rfl, fun _ _ => by rfl⟩) (hHeld) ?_
  simp only [Act.put, List.setIfInBounds_toArray, List.set_cons_zero, List.set_cons_succ]
  refine held_takeD 2 (.agg txA1.toArray) (some 97) (by rfl) (by rfl) (by kernel_rfl) (by kernel_rfl) (by kernel_rfl) (fun _ _ _ h => h) (yieldsIf_load_mid (by rfl) _ _ rfl _ _ rfl _ _ (fun wz hS => hS.rangeAll) Sakg.underlying33 rfl hsR) (hHeld) ?_
  simp only [Act.put, List.setIfInBounds_toArray, List.set_cons_zero, List.set_cons_succ]
  refine held_one 1 (by kernel_rfl) (by rfl) (fun K' hK' => ?_)
  refine if_build_lit (some 96) rfl (by rfl) 24 1 [(0, .tmp 95)] rfl 30 [.slice a5 7 c5] (run_cs1 _ a5 7 c5) (fun wB rB bB sB => ?_)
  have dB := dr.trans (bB.mono dr.size)
  refine hK'.out _ _ (hR _ dB) ?_
  clear hK' K'
  simp only [Act.put, List.setIfInBounds_toArray, List.set_cons_zero, List.set_cons_succ]
  refine held_takeD 3 (.slice (some ⟨w5.drew.heap.size, 0, none⟩) 1 1) (some 4) (by rfl) (by rfl) (by kernel_rfl) (by kernel_rfl) (by kernel_rfl) (fun _ _ _ h => h) (.inl ⟨by rfl, fun _ _ => by rfl⟩) (hR _ dB) ?_
  simp only [Act.put, List.setIfInBounds_toArray, List.set_cons_zero, List.set_cons_succ]
  refine held_one 4 (by kernel_rfl) (by rfl) (fun K' hK' => ?_)
  refine if_store rfl (by rfl) 33 (.tmp 5) (.tmp 97) rfl w.heap.size 0 33 _ txA1 rfl rfl (hR _ dB) (by rw [hrl]; omega) hsR hone (fun wS rS oS => ?_)
  rw [spl_all _ _ rfl] at rS
  have dS := oS
  refine hK'.out _ _ (rS) ?_
  clear hK' K'
  refine wpAnyH_done (by kernel_rfl) ?_ _
  refine NoPanic.normal ?_
  have zB := dB.size
  have s6 : Src wS a5 7 c5 (p2Y n ++ [96, 64, 95, 94]) := (((unhide S5).kept dr).kept bB).onlyX oS (fun y hy e => by have h1 := hlo y hy; omega)
  have q6 : RowT 30 wS w5.drew.heap.size [.slice a5 7 c5] := oS.rowT rB (by omega)
  have dw6 : Below w.heap.size w wS := (d05.trans (dB.mono (Nat.le_of_lt hlt5))).trans (oS.below _ (Nat.le_refl _))
  have HRS := hide rS
  have HS6 := hide s6
  have HQ6 := hide q6
  clear rS s6 q6 rB
  go_wp2_with fail
  refine bodyPost_ret (results_tmp_tx rfl _ _ w.heap.size 33 _ _ rfl (unhide HRS) (by rw [List.size_toArray]; exact hsR)) rfl ?_
  exact play_end txA1_y rfl dw6 (unhide HQ6) (unhide HS6) (by omega)
set_option maxHeartbeats 8000000 in
theorem play_k3 (n : Nat) (hn : n ≤ 1024) (w : World) : Calls Sakg.prog 10 #[.int .u8 3, .int .u16 n] w (PlayP 1 (fun _ => [95, 49, 95, 49]) (txY false (zeros 32) []) w) := by
  obtain ⟨W, hW⟩ : ∃ W, W = w.alloc (.cells zeroTx.toArray 33) := ⟨_, rfl⟩
  have hb0 : Below w.heap.size w W := by rw [hW]; exact (Below.refl _ _).alloc (Nat.le_refl _) _
  have hr0 : RowT 33 W w.heap.size zeroTx := by rw [hW]; exact RowT.new _ _ _
  have hsT : (Sakg.prog.info? 33).map (·.size) = some txA1.length := by rw [txA1_len]; exact sizeTx
  have HT : Hid (Calls Sakg.prog 22 #[] W fun e w' => e = .returned (.agg txA1.toArray) ∧ Below W.heap.size W w') := hide (toA1_any W)
  have HP : ∀ wz, Hid (Calls Sakg.prog 39 #[.int .u16 n] wz (OwnB wz (p2Y n))) := fun wz => hide (push2_x n (by omega) wz)
  have HR0 := hide hr0
  have hzl := zeroTx_len
  have hW0 : W.heap.size = w.heap.size + 1 := by rw [hW]; simp
  clear hr0
  go_enter Sakg.func10, Sakg.ntmps10
  go_upto_region 1 with ((with_reducible refine at_alloc 33 ?_); refine wpList_alloc_g (by rfl) 33 rfl zeroTx 174 infoTx2 zeroTx_len ?_)
  rw [← hW]
  clear hW
  go_upto_region 2 with (first | (go_at_call 22; refine (unhide HT).mono ?_; rintro e w1 ⟨rfl, b1⟩) | ((with_reducible refine at_store 33 ?_); refine wpList_store_whole rfl 33 (.tmp 5) (.tmp 10) rfl w.heap.size 33 _ txA1 rfl rfl ((unhide HR0).kept b1) (by rw [hzl, txA1_len]) hsT txA1_one ?_; intro w2 hr2 ho2; have HR2 := hide hr2; clear hr2))
  have z1 := b1.size
  have zo2 := ho2.size
  have d2 : Below w.heap.size w w2 := (hb0.trans (b1.mono hb0.size)).trans (ho2.below _ (Nat.le_refl _))
  go_upto_region 3 with (go_at_call 39; refine (unhide (HP _)).mono ?_; rintro e w3 ⟨v3, rfl, o3, b3⟩; have O3 := hide o3; clear o3)
  have z3 := b3.size
  obtain ⟨w5, hw5⟩ : ∃ y, y = w3.alloc (.cells #[.int .u8 95, .int .u8 49, .int .u8 95, .int .u8 49] 5) := ⟨_, rfl⟩
  have b5 : Below w3.heap.size w3 w5 := by rw [hw5]; exact (Below.refl _ _).alloc (Nat.le_refl _) _
  have s5 : Src w5 (some (⟨w3.heap.size, 0, none⟩ : Addr)) 4 4 [95, 49, 95, 49] := by rw [hw5]; exact src_lit w3 [95, 49, 95, 49] (by intro x hx; simp at hx; omega) (by decide)
  have S5 := hide s5
  clear s5
  go_upto_region 42 with fail
  rw [← hw5]
  clear hw5
  have hlo : ∀ x, (some (⟨w3.heap.size, 0, none⟩ : Addr)) = some x → w2.heap.size ≤ x.block := fun x hx => by have h1 := Option.some.inj hx; rw [← h1]; exact z3
  have d5 : Below w2.heap.size w2 w5 := b3.trans (b5.mono b3.size)
  have R5 := hide ((unhide HR2).kept d5)
  have dr : Below w5.heap.size w5 w5.drew := Quiet.below ⟨1, rfl⟩ _
  have d05 : Below w.heap.size w w5 := d2.trans (d5.mono d2.size)
  have hlt5 : w.heap.size < w5.heap.size := by have := d5.size; omega
  have zdr : w5.drew.heap.size = w5.heap.size := rfl
  have hR : ∀ wz, Below w5.heap.size w5 wz → RowT 33 wz w.heap.size txA1 := fun wz hz => (unhide R5).kept hz
  have hrl := txA1_len
  have hone := txA1_one
  have hsR := hsT
  refine wp_region_noPanic ?_
  refine wp_region_held_drew (S := fun w' => RowT 33 w' w.heap.size txA1) (by kernel_rfl) (hR _ dr) (fun hHeld => ?_)
  refine held_takeD 0 (.slice (some (⟨w3.heap.size, 0, none⟩ : Addr)) 4 4) (some 95) (by rfl) (by rfl) (by kernel_rfl) (by kernel_rfl) (by kernel_rfl) (fun _ _ _ h => h) (.inl ⟨by rfl, fun _ _ => by rfl⟩) (hHeld) ?_
  simp only [Act.put, List.setIfInBounds_toArray, List.set_cons_zero, List.set_cons_succ]
  refine held_takeD 2 (.agg txA1.toArray) (some 97) (by rfl) (by rfl) (by kernel_rfl) (by kernel_rfl) (by kernel_rfl) (fun _ _ _ h => h) (yieldsIf_load_mid (by rfl) _ _ rfl _ _ rfl _ _ (fun wz hS => hS.rangeAll) Sakg.underlying33 rfl hsR) (hHeld) ?_
  simp only [Act.put, List.setIfInBounds_toArray, List.set_cons_zero, List.set_cons_succ]
  refine held_one 1 (by kernel_rfl) (by rfl) (fun K' hK' => ?_)
  refine if_build_lit (some 96) rfl (by rfl) 24 1 [(0, .tmp 95)] rfl 30 [.slice (some (⟨w3.heap.size, 0, none⟩ : Addr)) 4 4] (run_cs1 _ (some (⟨w3.heap.size, 0, none⟩ : Addr)) 4 4) (fun wB rB bB sB => ?_)
  have dB := dr.trans (bB.mono dr.size)
  refine hK'.out _ _ (hR _ dB) ?_
  clear hK' K'
  simp only [Act.put, List.setIfInBounds_toArray, List.set_cons_zero, List.set_cons_succ]
  refine held_takeD 3 (.slice (some ⟨w5.drew.heap.size, 0, none⟩) 1 1) (some 4) (by rfl) (by rfl) (by kernel_rfl) (by kernel_rfl) (by kernel_rfl) (fun _ _ _ h => h) (.inl ⟨by rfl, fun _ _ => by rfl⟩) (hR _ dB) ?_
  simp only [Act.put, List.setIfInBounds_toArray, List.set_cons_zero, List.set_cons_succ]
  refine held_one 4 (by kernel_rfl) (by rfl) (fun K' hK' => ?_)
  refine if_store rfl (by rfl) 33 (.tmp 5) (.tmp 97) rfl w.heap.size 0 33 _ txA1 rfl rfl (hR _ dB) (by rw [hrl]; omega) hsR hone (fun wS rS oS => ?_)
  rw [spl_all _ _ rfl] at rS
  have dS := oS
  refine hK'.out _ _ (rS) ?_
  clear hK' K'
  refine wpAnyH_done (by kernel_rfl) ?_ _
  refine NoPanic.normal ?_
  have zB := dB.size
  have s6 : Src wS (some (⟨w3.heap.size, 0, none⟩ : Addr)) 4 4 [95, 49, 95, 49] := (((unhide S5).kept dr).kept bB).onlyX oS (fun y hy e => by have h1 := hlo y hy; omega)
  have q6 : RowT 30 wS w5.drew.heap.size [.slice (some (⟨w3.heap.size, 0, none⟩ : Addr)) 4 4] := oS.rowT rB (by omega)
  have dw6 : Below w.heap.size w wS := (d05.trans (dB.mono (Nat.le_of_lt hlt5))).trans (oS.below _ (Nat.le_refl _))
  have HRS := hide rS
  have HS6 := hide s6
  have HQ6 := hide q6
  clear rS s6 q6 rB
  go_wp2_with fail
  refine bodyPost_ret (results_tmp_tx rfl _ _ w.heap.size 33 _ _ rfl (unhide HRS) (by rw [List.size_toArray]; exact hsR)) rfl ?_
  exact play_end txA1_y rfl dw6 (unhide HQ6) (unhide HS6) (by omega)
set_option maxHeartbeats 8000000 in
theorem play_k8 (n : Nat) (hn : n ≤ 1024) (w : World) : Calls Sakg.prog 10 #[.int .u8 8, .int .u16 n] w (PlayP 1 (fun _ => [95, 95, 85, 95, 96, 1, 85]) (txY false (zeros 32) []) w) := by
  obtain ⟨W, hW⟩ : ∃ W, W = w.alloc (.cells zeroTx.toArray 33) := ⟨_, rfl⟩
  have hb0 : Below w.heap.size w W := by rw [hW]; exact (Below.refl _ _).alloc (Nat.le_refl _) _
  have hr0 : RowT 33 W w.heap.size zeroTx := by rw [hW]; exact RowT.new _ _ _
  have hsT : (Sakg.prog.info? 33).map (·.size) = some txA1.length := by rw [txA1_len]; exact sizeTx
  have HT : Hid (Calls Sakg.prog 22 #[] W fun e w' => e = .returned (.agg txA1.toArray) ∧ Below W.heap.size W w') := hide (toA1_any W)
  have HP : ∀ wz, Hid (Calls Sakg.prog 39 #[.int .u16 n] wz (OwnB wz (p2Y n))) := fun wz => hide (push2_x n (by omega) wz)
  have HR0 := hide hr0
  have hzl := zeroTx_len
  have hW0 : W.heap.size = w.heap.size + 1 := by rw [hW]; simp
  clear hr0
  go_enter Sakg.func10, Sakg.ntmps10
  go_upto_region 1 with ((with_reducible refine at_alloc 33 ?_); refine wpList_alloc_g (by rfl) 33 rfl zeroTx 174 infoTx2 zeroTx_len ?_)
  rw [← hW]
  clear hW
  go_upto_region 2 with (first | (go_at_call 22; refine (unhide HT).mono ?_; rintro e w1 ⟨rfl, b1⟩) | ((with_reducible refine at_store 33 ?_); refine wpList_store_whole rfl 33 (.tmp 5) (.tmp 10) rfl w.heap.size 33 _ txA1 rfl rfl ((unhide HR0).kept b1) (by rw [hzl, txA1_len]) hsT txA1_one ?_; intro w2 hr2 ho2; have HR2 := hide hr2; clear hr2))
  have z1 := b1.size
  have zo2 := ho2.size
  have d2 : Below w.heap.size w w2 := (hb0.trans (b1.mono hb0.size)).trans (ho2.below _ (Nat.le_refl _))
  go_upto_region 3 with (go_at_call 39; refine (unhide (HP _)).mono ?_; rintro e w3 ⟨v3, rfl, o3, b3⟩; have O3 := hide o3; clear o3)
  have z3 := b3.size
  obtain ⟨w5, hw5⟩ : ∃ y, y = w3.alloc (.cells #[.int .u8 95, .int .u8 95, .int .u8 85, .int .u8 95, .int .u8 96, .int .u8 1, .int .u8 85] 5) := ⟨_, rfl⟩
  have b5 : Below w3.heap.size w3 w5 := by rw [hw5]; exact (Below.refl _ _).alloc (Nat.le_refl _) _
  have s5 : Src w5 (some (⟨w3.heap.size, 0, none⟩ : Addr)) 7 7 [95, 95, 85, 95, 96, 1, 85] := by rw [hw5]; exact src_lit w3 [95, 95, 85, 95, 96, 1, 85] (by intro x hx; simp at hx; omega) (by decide)
  have S5 := hide s5
  clear s5
  go_upto_region 42 with fail
  rw [← hw5]
  clear hw5
  have hlo : ∀ x, (some (⟨w3.heap.size, 0, none⟩ : Addr)) = some x → w2.heap.size ≤ x.block := fun x hx => by have h1 := Option.some.inj hx; rw [← h1]; exact z3
  have d5 : Below w2.heap.size w2 w5 := b3.trans (b5.mono b3.size)
  have R5 := hide ((unhide HR2).kept d5)
  have dr : Below w5.heap.size w5 w5.drew := Quiet.below ⟨1, rfl⟩ _
  have d05 : Below w.heap.size w w5 := d2.trans (d5.mono d2.size)
  have hlt5 : w.heap.size < w5.heap.size := by have := d5.size; omega
  have zdr : w5.drew.heap.size = w5.heap.size := rfl
  have hR : ∀ wz, Below w5.heap.size w5 wz → RowT 33 wz w.heap.size txA1 := fun wz hz => (unhide R5).kept hz
  have hrl := txA1_len
  have hone := txA1_one
  have hsR := hsT
  refine wp_region_noPanic ?_
  refine wp_region_held_drew (S := fun w' => RowT 33 w' w.heap.size txA1) (by kernel_rfl) (hR _ dr) (fun hHeld => ?_)
  refine held_takeD 0 (.slice (some (⟨w3.heap.size, 0, none⟩ : Addr)) 7 7) (some 95) (by rfl) (by rfl) (by kernel_rfl) (by kernel_rfl) (by kernel_rfl) (fun _ _ _ h => h) (.inl ⟨by rfl, fun _ _ => by rfl⟩) (hHeld) ?_
  simp only [Act.put, List.setIfInBounds_toArray, List.set_cons_zero, List.set_cons_succ]
  refine held_takeD 2 (.agg txA1.toArray) (some 97) (by rfl) (by rfl) (by kernel_rfl) (by kernel_rfl) (by kernel_rfl) (fun _ _ _ h => h) (yieldsIf_load_mid (by rfl) _ _ rfl _ _ rfl _ _ (fun wz hS => hS.rangeAll) Sakg.underlying33 rfl hsR) (hHeld) ?_
  simp only [Act.put, List.setIfInBounds_toArray, List.set_cons_zero, List.set_cons_succ]
  refine held_one 1 (by kernel_rfl) (by rfl) (fun K' hK' => ?_)
  refine if_build_lit (some 96) rfl (by rfl) 24 1 [(0, .tmp 95)] rfl 30 [.slice (some (⟨w3.heap.size, 0, none⟩ : Addr)) 7 7] (run_cs1 _ (some (⟨w3.heap.size, 0, none⟩ : Addr)) 7 7) (fun wB rB bB sB => ?_)
  have dB := dr.trans (bB.mono dr.size)
  refine hK'.out _ _ (hR _ dB) ?_
  clear hK' K'
  simp only [Act.put, List.setIfInBounds_toArray, List.set_cons_zero, List.set_cons_succ]
  refine held_takeD 3 (.slice (some ⟨w5.drew.heap.size, 0, none⟩) 1 1) (some 4) (by rfl) (by rfl) (by kernel_rfl) (by kernel_rfl) (by kernel_rfl) (fun _ _ _ h => h) (.inl ⟨by rfl, fun _ _ => by rfl⟩) (hR _ dB) ?_
  simp only [Act.put, List.setIfInBounds_toArray, List.set_cons_zero, List.set_cons_succ]
  refine held_one 4 (by kernel_rfl) (by rfl) (fun K' hK' => ?_)
  refine if_store rfl (by rfl) 33 (.tmp 5) (.tmp 97) rfl w.heap.size 0 33 _ txA1 rfl rfl (hR _ dB) (by rw [hrl]; omega) hsR hone (fun wS rS oS => ?_)
  rw [spl_all _ _ rfl] at rS
  have dS := oS
  refine hK'.out _ _ (rS) ?_
  clear hK' K'
  refine wpAnyH_done (by kernel_rfl) ?_ _
  refine NoPanic.normal ?_
  have zB := dB.size
  have s6 : Src wS (some (⟨w3.heap.size, 0, none⟩ : Addr)) 7 7 [95, 95, 85, 95, 96, 1, 85] := (((unhide S5).kept dr).kept bB).onlyX oS (fun y hy e => by have h1 := hlo y hy; omega)
  have q6 : RowT 30 wS w5.drew.heap.size [.slice (some (⟨w3.heap.size, 0, none⟩ : Addr)) 7 7] := oS.rowT rB (by omega)
  have dw6 : Below w.heap.size w wS := (d05.trans (dB.mono (Nat.le_of_lt hlt5))).trans (oS.below _ (Nat.le_refl _))
  have HRS := hide rS
  have HS6 := hide s6
  have HQ6 := hide q6
  clear rS s6 q6 rB
  go_wp2_with fail
  refine bodyPost_ret (results_tmp_tx rfl _ _ w.heap.size 33 _ _ rfl (unhide HRS) (by rw [List.size_toArray]; exact hsR)) rfl ?_
  exact play_end txA1_y rfl dw6 (unhide HQ6) (unhide HS6) (by omega)
set_option maxHeartbeats 8000000 in
theorem play_k4 (n : Nat) (hn : n ≤ 1024) (w : World) : Calls Sakg.prog 10 #[.int .u8 4, .int .u16 n] w (PlayP 1 (fun _ => codeK4) (txY false (zeros 31 ++ [1]) []) w) := by
  obtain ⟨W, hW⟩ : ∃ W, W = w.alloc (.cells zeroTx.toArray 33) := ⟨_, rfl⟩
  have hb0 : Below w.heap.size w W := by rw [hW]; exact (Below.refl _ _).alloc (Nat.le_refl _) _
  have hr0 : RowT 33 W w.heap.size zeroTx := by rw [hW]; exact RowT.new _ _ _
  have hsT : (Sakg.prog.info? 33).map (·.size) = some txA1.length := by rw [txA1_len]; exact sizeTx
  have HT : Hid (Calls Sakg.prog 22 #[] W fun e w' => e = .returned (.agg txA1.toArray) ∧ Below W.heap.size W w') := hide (toA1_any W)
  have HP : ∀ wz, Hid (Calls Sakg.prog 39 #[.int .u16 n] wz (OwnB wz (p2Y n))) := fun wz => hide (push2_x n (by omega) wz)
  have HR0 := hide hr0
  have hzl := zeroTx_len
  have hW0 : W.heap.size = w.heap.size + 1 := by rw [hW]; simp
  clear hr0
  go_enter Sakg.func10, Sakg.ntmps10
  go_upto_region 1 with ((with_reducible refine at_alloc 33 ?_); refine wpList_alloc_g (by rfl) 33 rfl zeroTx 174 infoTx2 zeroTx_len ?_)
  rw [← hW]
  clear hW
  go_upto_region 2 with (first | (go_at_call 22; refine (unhide HT).mono ?_; rintro e w1 ⟨rfl, b1⟩) | ((with_reducible refine at_store 33 ?_); refine wpList_store_whole rfl 33 (.tmp 5) (.tmp 10) rfl w.heap.size 33 _ txA1 rfl rfl ((unhide HR0).kept b1) (by rw [hzl, txA1_len]) hsT txA1_one ?_; intro w2 hr2 ho2; have HR2 := hide hr2; clear hr2))
  have z1 := b1.size
  have zo2 := ho2.size
  have d2 : Below w.heap.size w w2 := (hb0.trans (b1.mono hb0.size)).trans (ho2.below _ (Nat.le_refl _))
  go_upto_region 3 with (go_at_call 39; refine (unhide (HP _)).mono ?_; rintro e w3 ⟨v3, rfl, o3, b3⟩; have O3 := hide o3; clear o3)
  have z3 := b3.size
  obtain ⟨w4, hw4⟩ : ∃ y, y = w3.alloc (.cells #[.int .u8 95, .int .u8 95, .int .u8 95, .int .u8 95, .int .u8 96, .int .u8 1, .int .u8 96, .int .u8 153, .int .u8 95, .int .u8 241] 5) := ⟨_, rfl⟩
  have b4 : Below w3.heap.size w3 w4 := by rw [hw4]; exact (Below.refl _ _).alloc (Nat.le_refl _) _
  have s4 : Src w4 (some (⟨w3.heap.size, 0, none⟩ : Addr)) 10 10 codeK4 := by rw [hw4]; exact src_lit w3 codeK4 (by unfold codeK4; intro x hx; simp at hx; omega) (by decide)
  have z4 := b4.size
  have d4 : Below w2.heap.size w2 w4 := b3.trans (b4.mono b3.size)
  have r4 := (unhide HR2).kept d4
  have x106 : (w3.alloc (.cells #[.int .u8 95, .int .u8 95, .int .u8 95, .int .u8 95, .int .u8 96, .int .u8 1, .int .u8 96, .int .u8 153, .int .u8 95, .int .u8 241] 5)).cell? ⟨w.heap.size, 106, none⟩ = some (.int .u8 0) := by rw [← hw4, r4.cell]; kernel_rfl
  have f106 : (w3.alloc (.cells #[.int .u8 95, .int .u8 95, .int .u8 95, .int .u8 95, .int .u8 96, .int .u8 1, .int .u8 96, .int .u8 153, .int .u8 95, .int .u8 241] 5)).frozen? ⟨w.heap.size, 106, none⟩ = false := by rw [← hw4]; exact r4.froz 106
  have r5 := r4.set 106 (.int .u8 1)
  have o5 : Only w.heap.size w4 (w4.setCell ⟨w.heap.size, 106, none⟩ (.int .u8 1)) := (Only.refl _ w4).setCell 106 _
  have s5 := s4.onlyX o5 (fun y hy e => by have h1 := Option.some.inj hy; rw [← h1] at e; have : w3.heap.size = w.heap.size := e; omega)
  obtain ⟨w5, hw5⟩ : ∃ y, y = (w3.alloc (.cells #[.int .u8 95, .int .u8 95, .int .u8 95, .int .u8 95, .int .u8 96, .int .u8 1, .int .u8 96, .int .u8 153, .int .u8 95, .int .u8 241] 5)).setCell ⟨w.heap.size, 106, none⟩ (.int .u8 1) := ⟨_, rfl⟩
  have e5 : w4.setCell ⟨w.heap.size, 106, none⟩ (.int .u8 1) = w5 := by rw [hw5, hw4]
  rw [e5] at r5 o5 s5
  have R5 := hide r5
  have S5 := hide s5
  have O5 := hide o5
  have D4 := hide d4
  have HW5 := hide hw5
  clear s4 s5 r4 r5 o5 e5 hw4 hw5
  go_upto_region 42 with fail
  rw [← unhide HW5]
  clear HW5 x106 f106
  have z5 := (unhide O5).size
  have hlo : ∀ x, (some (⟨w3.heap.size, 0, none⟩ : Addr)) = some x → w2.heap.size ≤ x.block := fun x hx => by have h1 := Option.some.inj hx; rw [← h1]; exact z3
  have dr : Below w5.heap.size w5 w5.drew := Quiet.below ⟨1, rfl⟩ _
  have d05 : Below w.heap.size w w5 := (d2.trans ((unhide D4).mono d2.size)).trans ((unhide O5).below _ (Nat.le_refl _))
  have hlt5 : w.heap.size < w5.heap.size := by have := (unhide D4).size; omega
  have zdr : w5.drew.heap.size = w5.heap.size := rfl
  have hR : ∀ wz, Below w5.heap.size w5 wz → RowT 33 wz w.heap.size (txA1.set 106 (.int .u8 1)) := fun wz hz => (unhide R5).kept hz
  have hrl := tx4_c.len
  have hone := tx4_c.one
  have hsR : (Sakg.prog.info? 33).map (·.size) = some (txA1.set 106 (.int .u8 1)).length := by rw [hrl]; exact sizeTx
  refine wp_region_noPanic ?_
  refine wp_region_held_drew (S := fun w' => RowT 33 w' w.heap.size (txA1.set 106 (.int .u8 1))) (by kernel_rfl) (hR _ dr) (fun hHeld => ?_)
  refine held_takeD 0 (.slice (some (⟨w3.heap.size, 0, none⟩ : Addr)) 10 10) (some 95) (by rfl) (by rfl) (by kernel_rfl) (by kernel_rfl) (by kernel_rfl) (fun _ _ _ h => h) (.inl ⟨by rfl, fun _ _ => by rfl⟩) (hHeld) ?_
  simp only [Act.put, List.setIfInBounds_toArray, List.set_cons_zero, List.set_cons_succ]
  refine held_takeD 2 (.agg (txA1.set 106 (.int .u8 1)).toArray) (some 97) (by rfl) (by rfl) (by kernel_rfl) (by kernel_rfl) (by kernel_rfl) (fun _ _ _ h => h) (yieldsIf_load_mid (by rfl) _ _ rfl _ _ rfl _ _ (fun wz hS => hS.rangeAll) Sakg.underlying33 rfl hsR) (hHeld) ?_
  simp only [Act.put, List.setIfInBounds_toArray, List.set_cons_zero, List.set_cons_succ]
  refine held_one 1 (by kernel_rfl) (by rfl) (fun K' hK' => ?_)
  refine if_build_lit (some 96) rfl (by rfl) 24 1 [(0, .tmp 95)] rfl 30 [.slice (some (⟨w3.heap.size, 0, none⟩ : Addr)) 10 10] (run_cs1 _ (some (⟨w3.heap.size, 0, none⟩ : Addr)) 10 10) (fun wB rB bB sB => ?_)
  have dB := dr.trans (bB.mono dr.size)
  refine hK'.out _ _ (hR _ dB) ?_
  clear hK' K'
  simp only [Act.put, List.setIfInBounds_toArray, List.set_cons_zero, List.set_cons_succ]
  refine held_takeD 3 (.slice (some ⟨w5.drew.heap.size, 0, none⟩) 1 1) (some 4) (by rfl) (by rfl) (by kernel_rfl) (by kernel_rfl) (by kernel_rfl) (fun _ _ _ h => h) (.inl ⟨by rfl, fun _ _ => by rfl⟩) (hR _ dB) ?_
  simp only [Act.put, List.setIfInBounds_toArray, List.set_cons_zero, List.set_cons_succ]
  refine held_one 4 (by kernel_rfl) (by rfl) (fun K' hK' => ?_)
  refine if_store rfl (by rfl) 33 (.tmp 5) (.tmp 97) rfl w.heap.size 0 33 _ (txA1.set 106 (.int .u8 1)) rfl rfl (hR _ dB) (by rw [hrl]; omega) hsR hone (fun wS rS oS => ?_)
  rw [spl_all _ _ rfl] at rS
  have dS := oS
  refine hK'.out _ _ (rS) ?_
  clear hK' K'
  refine wpAnyH_done (by kernel_rfl) ?_ _
  refine NoPanic.normal ?_
  have zB := dB.size
  have s6 : Src wS (some (⟨w3.heap.size, 0, none⟩ : Addr)) 10 10 codeK4 := (((unhide S5).kept dr).kept bB).onlyX oS (fun y hy e => by have h1 := hlo y hy; omega)
  have q6 : RowT 30 wS w5.drew.heap.size [.slice (some (⟨w3.heap.size, 0, none⟩ : Addr)) 10 10] := oS.rowT rB (by omega)
  have dw6 : Below w.heap.size w wS := (d05.trans (dB.mono (Nat.le_of_lt hlt5))).trans (oS.below _ (Nat.le_refl _))
  have HRS := hide rS
  have HS6 := hide s6
  have HQ6 := hide q6
  clear rS s6 q6 rB
  go_wp2_with fail
  refine bodyPost_ret (results_tmp_tx rfl _ _ w.heap.size 33 _ _ rfl (unhide HRS) (by rw [List.size_toArray]; exact hsR)) rfl ?_
  exact play_end tx4_c rfl dw6 (unhide HQ6) (unhide HS6) (by omega)
set_option maxHeartbeats 8000000 in
theorem play_k5 (n : Nat) (hn : n ≤ 1024) (w : World) : Calls Sakg.prog 10 #[.int .u8 5, .int .u16 n] w (PlayP 1 (fun _ => codeK4) (txY false (zeros 32) []) w) := by
  obtain ⟨W, hW⟩ : ∃ W, W = w.alloc (.cells zeroTx.toArray 33) := ⟨_, rfl⟩
  have hb0 : Below w.heap.size w W := by rw [hW]; exact (Below.refl _ _).alloc (Nat.le_refl _) _
  have hr0 : RowT 33 W w.heap.size zeroTx := by rw [hW]; exact RowT.new _ _ _
  have hsT : (Sakg.prog.info? 33).map (·.size) = some txA1.length := by rw [txA1_len]; exact sizeTx
  have HT : Hid (Calls Sakg.prog 22 #[] W fun e w' => e = .returned (.agg txA1.toArray) ∧ Below W.heap.size W w') := hide (toA1_any W)
  have HP : ∀ wz, Hid (Calls Sakg.prog 39 #[.int .u16 n] wz (OwnB wz (p2Y n))) := fun wz => hide (push2_x n (by omega) wz)
  have HR0 := hide hr0
  have hzl := zeroTx_len
  have hW0 : W.heap.size = w.heap.size + 1 := by rw [hW]; simp
  clear hr0
  go_enter Sakg.func10, Sakg.ntmps10
  go_upto_region 1 with ((with_reducible refine at_alloc 33 ?_); refine wpList_alloc_g (by rfl) 33 rfl zeroTx 174 infoTx2 zeroTx_len ?_)
  rw [← hW]
  clear hW
  go_upto_region 2 with (first | (go_at_call 22; refine (unhide HT).mono ?_; rintro e w1 ⟨rfl, b1⟩) | ((with_reducible refine at_store 33 ?_); refine wpList_store_whole rfl 33 (.tmp 5) (.tmp 10) rfl w.heap.size 33 _ txA1 rfl rfl ((unhide HR0).kept b1) (by rw [hzl, txA1_len]) hsT txA1_one ?_; intro w2 hr2 ho2; have HR2 := hide hr2; clear hr2))
  have z1 := b1.size
  have zo2 := ho2.size
  have d2 : Below w.heap.size w w2 := (hb0.trans (b1.mono hb0.size)).trans (ho2.below _ (Nat.le_refl _))
  go_upto_region 3 with (go_at_call 39; refine (unhide (HP _)).mono ?_; rintro e w3 ⟨v3, rfl, o3, b3⟩; have O3 := hide o3; clear o3)
  have z3 := b3.size
  obtain ⟨w4, hw4⟩ : ∃ y, y = w3.alloc (.cells #[.int .u8 95, .int .u8 95, .int .u8 95, .int .u8 95, .int .u8 96, .int .u8 1, .int .u8 96, .int .u8 153, .int .u8 95, .int .u8 241] 5) := ⟨_, rfl⟩
  have b4 : Below w3.heap.size w3 w4 := by rw [hw4]; exact (Below.refl _ _).alloc (Nat.le_refl _) _
  have s4 : Src w4 (some (⟨w3.heap.size, 0, none⟩ : Addr)) 10 10 codeK4 := by rw [hw4]; exact src_lit w3 codeK4 (by unfold codeK4; intro x hx; simp at hx; omega) (by decide)
  have z4 := b4.size
  have d4 : Below w2.heap.size w2 w4 := b3.trans (b4.mono b3.size)
  have r4 := (unhide HR2).kept d4
  have x106 : (w3.alloc (.cells #[.int .u8 95, .int .u8 95, .int .u8 95, .int .u8 95, .int .u8 96, .int .u8 1, .int .u8 96, .int .u8 153, .int .u8 95, .int .u8 241] 5)).cell? ⟨w.heap.size, 106, none⟩ = some (.int .u8 0) := by rw [← hw4, r4.cell]; kernel_rfl
  have f106 : (w3.alloc (.cells #[.int .u8 95, .int .u8 95, .int .u8 95, .int .u8 95, .int .u8 96, .int .u8 1, .int .u8 96, .int .u8 153, .int .u8 95, .int .u8 241] 5)).frozen? ⟨w.heap.size, 106, none⟩ = false := by rw [← hw4]; exact r4.froz 106
  have r5 := r4.set 106 (.int .u8 0)
  have o5 : Only w.heap.size w4 (w4.setCell ⟨w.heap.size, 106, none⟩ (.int .u8 0)) := (Only.refl _ w4).setCell 106 _
  have s5 := s4.onlyX o5 (fun y hy e => by have h1 := Option.some.inj hy; rw [← h1] at e; have : w3.heap.size = w.heap.size := e; omega)
  obtain ⟨w5, hw5⟩ : ∃ y, y = (w3.alloc (.cells #[.int .u8 95, .int .u8 95, .int .u8 95, .int .u8 95, .int .u8 96, .int .u8 1, .int .u8 96, .int .u8 153, .int .u8 95, .int .u8 241] 5)).setCell ⟨w.heap.size, 106, none⟩ (.int .u8 0) := ⟨_, rfl⟩
  have e5 : w4.setCell ⟨w.heap.size, 106, none⟩ (.int .u8 0) = w5 := by rw [hw5, hw4]
  rw [e5] at r5 o5 s5
  have R5 := hide r5
  have S5 := hide s5
  have O5 := hide o5
  have D4 := hide d4
  have HW5 := hide hw5
  clear s4 s5 r4 r5 o5 e5 hw4 hw5
  go_upto_region 42 with fail
  rw [← unhide HW5]
  clear HW5 x106 f106
  have z5 := (unhide O5).size
  have hlo : ∀ x, (some (⟨w3.heap.size, 0, none⟩ : Addr)) = some x → w2.heap.size ≤ x.block := fun x hx => by have h1 := Option.some.inj hx; rw [← h1]; exact z3
  have dr : Below w5.heap.size w5 w5.drew := Quiet.below ⟨1, rfl⟩ _
  have d05 : Below w.heap.size w w5 := (d2.trans ((unhide D4).mono d2.size)).trans ((unhide O5).below _ (Nat.le_refl _))
  have hlt5 : w.heap.size < w5.heap.size := by have := (unhide D4).size; omega
  have zdr : w5.drew.heap.size = w5.heap.size := rfl
  have hR : ∀ wz, Below w5.heap.size w5 wz → RowT 33 wz w.heap.size (txA1.set 106 (.int .u8 0)) := fun wz hz => (unhide R5).kept hz
  have hrl := tx5_c.len
  have hone := tx5_c.one
  have hsR : (Sakg.prog.info? 33).map (·.size) = some (txA1.set 106 (.int .u8 0)).length := by rw [hrl]; exact sizeTx
  refine wp_region_noPanic ?_
  refine wp_region_held_drew (S := fun w' => RowT 33 w' w.heap.size (txA1.set 106 (.int .u8 0))) (by kernel_rfl) (hR _ dr) (fun hHeld => ?_)
  refine held_takeD 0 (.slice (some (⟨w3.heap.size, 0, none⟩ : Addr)) 10 10) (some 95) (by rfl) (by rfl) (by kernel_rfl) (by kernel_rfl) (by kernel_rfl) (fun _ _ _ h => h) (.inl ⟨by rfl, fun _ _ => by rfl⟩) (hHeld) ?_
  simp only [Act.put, List.setIfInBounds_toArray, List.set_cons_zero, List.set_cons_succ]
  refine held_takeD 2 (.agg (txA1.set 106 (.int .u8 0)).toArray) (some 97) (by rfl) (by rfl) (by kernel_rfl) (by kernel_rfl) (by kernel_rfl) (fun _ _ _ h => h) (yieldsIf_load_mid (by rfl) _ _ rfl _ _ rfl _ _ (fun wz hS => hS.rangeAll) Sakg.underlying33 rfl hsR) (hHeld) ?_
  simp only [Act.put, List.setIfInBounds_toArray, List.set_cons_zero, List.set_cons_succ]
  refine held_one 1 (by kernel_rfl) (by rfl) (fun K' hK' => ?_)
  refine if_build_lit (some 96) rfl (by rfl) 24 1 [(0, .tmp 95)] rfl 30 [.slice (some (⟨w3.heap.size, 0, none⟩ : Addr)) 10 10] (run_cs1 _ (some (⟨w3.heap.size, 0, none⟩ : Addr)) 10 10) (fun wB rB bB sB => ?_)
  have dB := dr.trans (bB.mono dr.size)
  refine hK'.out _ _ (hR _ dB) ?_
  clear hK' K'
  simp only [Act.put, List.setIfInBounds_toArray, List.set_cons_zero, List.set_cons_succ]
  refine held_takeD 3 (.slice (some ⟨w5.drew.heap.size, 0, none⟩) 1 1) (some 4) (by rfl) (by rfl) (by kernel_rfl) (by kernel_rfl) (by kernel_rfl) (fun _ _ _ h => h) (.inl ⟨by rfl, fun _ _ => by rfl⟩) (hR _ dB) ?_
  simp only [Act.put, List.setIfInBounds_toArray, List.set_cons_zero, List.set_cons_succ]
  refine held_one 4 (by kernel_rfl) (by rfl) (fun K' hK' => ?_)
  refine if_store rfl (by rfl) 33 (.tmp 5) (.tmp 97) rfl w.heap.size 0 33 _ (txA1.set 106 (.int .u8 0)) rfl rfl (hR _ dB) (by rw [hrl]; omega) hsR hone (fun wS rS oS => ?_)
  rw [spl_all _ _ rfl] at rS
  have dS := oS
  refine hK'.out _ _ (rS) ?_
  clear hK' K'
  refine wpAnyH_done (by kernel_rfl) ?_ _
  refine NoPanic.normal ?_
  have zB := dB.size
  have s6 : Src wS (some (⟨w3.heap.size, 0, none⟩ : Addr)) 10 10 codeK4 := (((unhide S5).kept dr).kept bB).onlyX oS (fun y hy e => by have h1 := hlo y hy; omega)
  have q6 : RowT 30 wS w5.drew.heap.size [.slice (some (⟨w3.heap.size, 0, none⟩ : Addr)) 10 10] := oS.rowT rB (by omega)
  have dw6 : Below w.heap.size w wS := (d05.trans (dB.mono (Nat.le_of_lt hlt5))).trans (oS.below _ (Nat.le_refl _))
  have HRS := hide rS
  have HS6 := hide s6
  have HQ6 := hide q6
  clear rS s6 q6 rB
  go_wp2_with fail
  refine bodyPost_ret (results_tmp_tx rfl _ _ w.heap.size 33 _ _ rfl (unhide HRS) (by rw [List.size_toArray]; exact hsR)) rfl ?_
  exact play_end tx5_c rfl dw6 (unhide HQ6) (unhide HS6) (by omega)

end Go.Proofs.YgcsakGreat
