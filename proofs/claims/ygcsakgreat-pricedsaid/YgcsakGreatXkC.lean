/-
  yp, exactly: create2Addr.
-/
import Derived.Test.YgcsakGreatXkA
import Derived.Test.YgcsakGreatBeA
import Derived.Test.YgcsakGreatKhA
namespace Go.Proofs.YgcsakGreat
set_option linter.unusedVariables false
set_option linter.unusedSimpArgs false
set_option maxRecDepth 100000
open Go.RowKit

set_option maxHeartbeats 16000000 in
theorem create2Addr_x (a : List Int) (A : Option Addr) (k c m : Nat) (D : Option Addr) (l cd : Nat) (ys : List Int) (w : World) (ha : IsAddr a) (hn : IsNat w A k c m) (hm : m < P256) (hs : Src w D l cd ys) (hl : l ≤ 1000000) :
    Calls Sakg.prog 302 #[.agg (bv a).toArray, .slice A k c, .slice D l cd] w fun e w' => (∃ b, e = .returned (.agg (bv b).toArray) ∧ IsAddr b ∧ ∃ hs, hs.length = 32 ∧ Byt hs ∧ HashIs ys hs ∧ AddrIs ([255] ++ a ++ be32 m ++ hs) b) ∧ Below w.heap.size w w' := by
  obtain ⟨W, hW⟩ : ∃ W, W = (w.alloc (.cells (bv a).toArray 26)).alloc (.cells (bv (zeros 20)).toArray 26) := ⟨_, rfl⟩
  have hWs : W.heap.size = w.heap.size + 2 := by rw [hW]; simp
  have hb0 : Below w.heap.size w W := by rw [hW]; exact ((Below.refl _ _).alloc (Nat.le_refl _) _).alloc (by simp) _
  have r0 : RowT 26 W w.heap.size (bv a) := by rw [hW]; exact (RowT.new _ _ _).alloc _
  have r1 : RowT 26 W (w.heap.size + 1) (bv (zeros 20)) := by
    rw [hW]
    have := RowT.new 26 (w.alloc (.cells (bv a).toArray 26)) (bv (zeros 20))
    rw [World.size_alloc] at this
    exact this
  have HC := hide (be32_any A k c m W (hn.kept hb0) hm)
  have hz32 : (bv (zeros 32)).length = 32 := by rw [bv_len, zeros_len]
  have hz20 : (bv (zeros 20)).length = 20 := by rw [bv_len, zeros_len]
  have hbl : (bv (be32 m)).length = 32 := by rw [bv_len, be32_len]
  have hbsz : (Sakg.prog.info? 28).map (·.size) = some (bv (be32 m)).length := by rw [hbl]; exact size32
  have hbb : Byt (be32 m) := be32_byt m
  have hbn : (be32 m).length = 32 := be32_len m
  obtain ⟨bs, hbse⟩ : ∃ bs, bs = be32 m := ⟨_, rfl⟩
  rw [← hbse] at HC hbl hbsz hbb hbn ⊢
  clear hbse
  have R0 := hide r0
  have R1 := hide r1
  have HA := hide ha
  have HS := hide (hs.kept hb0)
  clear r0 r1 hn ha hs
  go_enter Sakg.func302, Sakg.ntmps302
  go_upto_region 1 with (first
    | ((with_reducible refine at_alloc 26 ?_); refine wpList_alloc_g (by rfl) 26 rfl (bv (zeros 20)) 20 infoAddr2 hz20 ?_))
  rw [← hW]
  clear hW
  go_upto_region 2 with (first
    | (go_at_call 132; refine (unhide HC).mono ?_; rintro e w1 ⟨rfl, b1⟩)
    | ((with_reducible refine at_alloc 28 ?_); refine wpList_alloc_g (by rfl) 28 rfl (bv (zeros 32)) 32 info32 hz32 ?_)
    | ((with_reducible refine at_store 28 ?_); refine wpList_store_whole rfl 28 (.tmp 7) (.tmp 14) rfl _ _ _ (bv bs) rfl rfl (RowT.new _ _ _) (by rw [hz32, hbl]) hbsz (bv_one _) ?_; intro w2 hr2 hon2; have hbb2 := box_below hon2; clear hon2))
  have d2 : Below W.heap.size W w2 := b1.trans (hbb2.1.mono b1.size)
  have HSM := hide (sum_x D l cd ys w2 ((unhide HS).kept d2) hl)
  have HR2 := hide hr2
  clear hr2
  go_upto_region 3 with (first
    | (go_at_call 233; refine (unhide HSM).mono ?_; rintro e w3 ⟨⟨hs3, rfl, hsl, hsb, hhi⟩, b3⟩; have HHI := hide hhi; clear hhi; have hs32 : (bv hs3).length = 32 := by { rw [bv_len, hsl] }; have hssz : (Sakg.prog.info? 28).map (·.size) = some (bv hs3).length := by { rw [hs32]; exact size32 })
    | ((with_reducible refine at_alloc 28 ?_); refine wpList_alloc_g (by rfl) 28 rfl (bv (zeros 32)) 32 info32 hz32 ?_)
    | ((with_reducible refine at_store 28 ?_); refine wpList_store_whole rfl 28 (.tmp 9) (.tmp 17) rfl _ _ _ (bv hs3) rfl rfl (RowT.new _ _ _) (by rw [hz32, hs32]) hssz (bv_one _) ?_; intro w4 hr4 hon4; have hbb4 := box_below hon4; clear hon4))
  have d4 : Below w2.heap.size w2 w4 := b3.trans (hbb4.1.mono b3.size)
  have d04 : Below W.heap.size W w4 := d2.trans (d4.mono d2.size)
  have s1 : ∀ wz, Below w4.heap.size w4 wz → Src wz (some ⟨w.heap.size, 0, none⟩) 20 20 a ∧ Src wz (some ⟨w1.heap.size, 0, none⟩) 32 32 bs ∧ Src wz (some ⟨w3.heap.size, 0, none⟩) 32 32 hs3 := fun wz hz => ⟨src_of_range (((unhide R0).kept d04).kept hz).rangeAll (unhide HA).byt (unhide HA).len (by unfold maxLen; omega), src_of_range (((unhide HR2).kept d4).kept hz).rangeAll hbb hbn (by unfold maxLen; omega), src_of_range (hr4.kept hz).rangeAll hsb hsl (by unfold maxLen; omega)⟩
  obtain ⟨w5, hw5⟩ : ∃ w5, w5 = w4.alloc (.cells #[.int .u8 255] 5) := ⟨_, rfl⟩
  have o5 : w5.ownsRow w4.heap.size 5 1 (.slice (some ⟨w4.heap.size, 0, none⟩) 1 1) 1 (bv [255]) := hw5 ▸ World.ownsRow_lit w4 #[.int .u8 255] 1 (Nat.le_refl _) (by unfold maxLen; omega) rfl
  have b5 : Below w4.heap.size w4 w5 := hw5 ▸ (Below.refl _ _).alloc (Nat.le_refl _) _
  have z5 := b5.size
  have hb255 : Byt [255] := fun x hx => by simp at hx; omega
  have HS1 := hide s1
  have O5 := hide o5
  have HW5 := hide hw5
  clear s1 o5 hw5 hr4 hbb4 hbb2
  go_upto_region 4 with ((with_reducible refine at_append ?_); rw [← unhide HW5]; refine wpList_append_src rfl (.tmp 18) (.tmp 19) rfl w4.heap.size (.slice (some ⟨w4.heap.size, 0, none⟩) 1 1) 1 [255] rfl (unhide O5) (some ⟨w.heap.size, 0, none⟩) 20 20 a rfl (unhide HS1 w5 b5).1 (by omega) (by omega) (fun v6 w6 o6 b6 => ?_); have O6 := hide o6; clear o6)
  have b46 : Below w4.heap.size w4 w6 := b5.trans b6
  have z6 := b46.size
  go_upto_region 5 with ((with_reducible refine at_append ?_); refine wpList_append_src rfl (.tmp 21) (.tmp 22) rfl w4.heap.size v6 _ _ rfl (unhide O6) (some ⟨w1.heap.size, 0, none⟩) 32 32 bs rfl (unhide HS1 w6 b46).2.1 (by omega) (by omega) (fun v7 w7 o7 b7 => ?_); have O7 := hide o7; clear o7)
  have b47 : Below w4.heap.size w4 w7 := b46.trans b7
  have z7 := b47.size
  go_wp2_with (first
    | ((with_reducible refine at_append ?_); refine wpList_append_src rfl (.tmp 24) (.tmp 25) rfl w4.heap.size v7 _ _ rfl (unhide O7) (some ⟨w3.heap.size, 0, none⟩) 32 32 hs3 rfl (unhide HS1 w7 b47).2.2 (by omega) (by omega) (fun v8 w8 o8 b8 => ?_); obtain ⟨a8, c8, rfl, s8⟩ := own_src o8 (((hb255.append (unhide HA).byt).append hbb).append hsb))
    | (go_at_call 190; refine (hashedAddr_x a8 _ c8 _ w8 s8 (by omega)).mono ?_; rintro e w9 ⟨⟨ra, rfl, hra, hai⟩, b9⟩; have HAI := hide hai; clear hai; have b49 : Below w4.heap.size w4 w9 := (b47.trans b8).trans (b9.mono (by have := b8.size; omega)); have hr19 := (unhide R1).kept (d04.trans (b49.mono d04.size)))
    | ((with_reducible refine at_store 26 ?_); refine wpList_store_whole rfl 26 (.tmp 6) (.tmp 27) rfl (w.heap.size + 1) 26 (bv (zeros 20)) (bv ra) rfl rfl hr19 (by rw [bv_len, bv_len, hra.len, zeros_len]) hra.size (bv_one _) ?_; intro w10 hr10 ho10))
  have hasz : (Sakg.prog.info? 26).map (·.size) = some (bv ra).toArray.size := by rw [List.size_toArray]; exact hra.size
  refine bodyPost_ret (results_cell_row rfl _ _ _ _ _ _ _ rfl hr10 Sakg.underlying26 rfl hasz) rfl ?_
  exact ⟨⟨ra, rfl, hra, hs3, hsl, hsb, unhide HHI, unhide HAI⟩, (hb0.trans ((d04.trans (b49.mono d04.size)).mono hb0.size)).trans (ho10.below _ (by omega))⟩

end Go.Proofs.YgcsakGreat
