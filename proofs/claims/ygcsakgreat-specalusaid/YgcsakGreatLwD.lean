/-
  law: Stage of one contract.
-/
import Derived.Test.YgcsakGreatLwB
namespace Go.Proofs.YgcsakGreat
set_option linter.unusedVariables false
set_option linter.unusedSimpArgs false
set_option maxRecDepth 100000
open Go.RowKit

def bal128 : List Int := zeros 15 ++ ([1] ++ zeros 16)
theorem bal128_is : IsW bal128 := ⟨rfl, by
  intro x hx
  simp [bal128, zeros] at hx
  omega⟩
def rowO (a : List Int) (n : Nat) (bal : List Int) (v : Value) : List Value := bv a ++ (.int .u64 n :: (bv bal ++ [v, nilS]))
theorem infoOA3 : (Sakg.prog.info? 43).map (fun i => (i.zero, i.size, i.bytes)) = some (some (.agg (rowOA (zeros 20)).toArray), 55, 112) := by kernel_rfl
theorem rowO_len (a : List Int) (n : Nat) (bal : List Int) (v : Value) (ha : IsAddr a) (hb : IsW bal) : (rowO a n bal v).length = 55 := by simp [rowO, bv_len, ha.len, hb.len]
theorem rowO_one (a : List Int) (n : Nat) (bal : List Int) (A : Option Addr) (k c : Nat) : ∀ v ∈ rowO a n bal (.slice A k c), v.oneCell' = true := by
  intro v hv
  unfold rowO at hv
  rcases List.mem_append.1 hv with h | h
  · exact bv_one _ v h
  · rcases List.mem_cons.1 h with h | h
    · subst h; rfl
    · rcases List.mem_append.1 h with h | h
      · exact bv_one _ v h
      · simp at h
        rcases h with rfl | rfl <;> rfl
theorem run_oa1 (wx : World) : (Instr.build 43 #[(0, .agg (bv (lowAddr 1)).toArray), (1, .int .u64 1)]).run Sakg.prog wx = .ok (.agg (rowO (lowAddr 1) 1 (zeros 32) nilS).toArray) wx := by kernel_rfl
theorem run_w128 (wx : World) : (Instr.build 29 #[(15, .int .u8 1)]).run Sakg.prog wx = .ok (.agg (bv bal128).toArray) wx := by kernel_rfl
theorem run_oa2 (wx : World) : (Instr.build 43 #[(0, .agg (bv (lowAddr 240)).toArray), (2, .agg (bv bal128).toArray)]).run Sakg.prog wx = .ok (.agg (rowO (lowAddr 240) 0 bal128 nilS).toArray) wx := by kernel_rfl
def stageDs (xs : List Int) : List OAcct := [⟨lowAddr 1, 1, zeros 32, xs, []⟩, ⟨lowAddr 240, 0, bal128, [], []⟩]
theorem addr1_is : IsAddr (lowAddr 1) := lowAddr_is 1 (by omega) (by omega)
theorem addr240_is : IsAddr (lowAddr 240) := lowAddr_is 240 (by omega) (by omega)

theorem rowO_set (a : List Int) (n : Nat) (bal : List Int) (v u : Value) (ha : IsAddr a) (hb : IsW bal) : (rowO a n bal v).set 53 u = rowO a n bal u := by
  unfold rowO
  rw [List.set_append_right _ _ (by rw [bv_len, ha.len]; omega), bv_len, ha.len, show 53 - 20 = 32 + 1 from rfl, List.set_cons_succ, List.set_append_right _ _ (by rw [bv_len, hb.len]; omega), bv_len, hb.len]
  rfl
theorem rowO_53 (a : List Int) (n : Nat) (bal : List Int) (v : Value) (ha : IsAddr a) (hb : IsW bal) : (rowO a n bal v)[53]? = some v := by
  unfold rowO
  rw [List.getElem?_append_right (by rw [bv_len, ha.len]; omega), bv_len, ha.len, show 53 - 20 = 32 + 1 from rfl, List.getElem?_cons_succ, List.getElem?_append_right (by rw [bv_len, hb.len]; omega), bv_len, hb.len]
  rfl
set_option maxHeartbeats 8000000 in
theorem copyBytes_new (ad : Addr) (k c : Nat) (xs : List Int) (w : World) (h : Src w (some ad) k c xs) (hk : k ≤ 1000) : Calls Sakg.prog 44 #[.slice (some ad) k c] w fun e w' => ∃ A k' c', e = .returned (.slice A k' c') ∧ Src w' A k' c' xs ∧ New w A ∧ Below w.heap.size w w' := by
  have hn := fun (wx : World) (x : Option Addr) (n c n' c' : Nat) => Lib.run_eql_slice_nil (P := Sakg.prog) wx 30 5 x n c n' c' Sakg.underlying30
  have hxl := h.len_eq
  have hby := h.byt
  have hcell : ∀ wz, Below w.heap.size w wz → ∀ j, j < k → wz.cell? (ad.add j) = some (.int .u8 (xs.getD j 0)) := fun wz hz j hj => by
    have hs := h.kept hz
    obtain ⟨b, off, ha, hc⟩ := hs.at_ (by omega)
    obtain rfl := Option.some.inj ha
    rw [addAt]
    exact hc j hj
  have HC := hide hcell
  clear h hcell
  go_enter Sakg.func44, Sakg.ntmps44
  go_wp2_with (first
    | (at_make; refine wpList_make_bytes rfl _ _ 30 rfl Sakg.underlying30 _ _ k rfl rfl rfl rfl (by omega) ?_; intro w1 o1 b1 s1)
    | (with_reducible refine at_copy ?_; refine wpList_copy_more rfl _ _ _ _ rfl Sakg.underlying30 w.heap.size k _ rfl (zeros k) o1 (zeros_len k) ad k _ rfl xs hxl (Nat.le_refl _) (unhide HC _ b1) ?_; intro w2 o2 b2 s2))
  go_ret
  exact ⟨some ⟨w.heap.size, 0, none⟩, k, k, rfl, OwnT.src_all o2 hby k hxl.symm (by unfold maxLen; omega), fun x hx => by obtain rfl := Option.some.inj hx; exact Nat.le_refl _, b1.trans (b2 _ (Nat.le_refl _))⟩

set_option maxHeartbeats 16000000 in
theorem stage_one (g : Nat) (ad : Addr) (k c : Nat) (xs : List Int) (w : World) (hcell : w.cell? ⟨g, 0, none⟩ = some (.slice (some ad) k c)) (hs : Src w (some ad) k c xs) (hk : k ≤ 256) :
    Calls Sakg.prog 11 #[.slice (some ⟨g, 0, none⟩) 1 1] w fun e w' => ∃ A c', e = .returned (.slice A 2 c') ∧ OAcctsR w' A 2 c' (stageDs xs) ∧ Below w.heap.size w w' := by
  obtain ⟨i0, hi0, hz0, hz1, hz2⟩ := info_parts infoOA3
  have HI0 := hide hi0
  have HZ0 := hide hz0
  have HZ1 := hide hz1
  have HZ2 := hide hz2
  have hzz : (rowOA (zeros 20)).length = 55 := by kernel_rfl
  have hl1 : ∀ v, (rowO (lowAddr 1) 1 (zeros 32) v).length = 55 := fun v => rowO_len _ _ _ _ addr1_is zeroW_is
  have hl2 : (rowO (lowAddr 240) 0 bal128 nilS).length = 55 := rowO_len _ _ _ _ addr240_is bal128_is
  have hs1 : ∀ v, (Sakg.prog.info? 43).map (·.size) = some (rowO (lowAddr 1) 1 (zeros 32) v).length := fun v => by rw [hl1 v]; exact sizeOA
  have hk256 : decide ((k : Int) ≤ 256) = true := decide_eq_true (by omega)
  have HAD := hide (addrNo_any 1 (by omega) w)
  have HCB : ∀ wz, Below w.heap.size w wz → Hid (Calls Sakg.prog 44 #[.slice (some ad) k c] wz fun e w' => ∃ A k' c', e = .returned (.slice A k' c') ∧ Src w' A k' c' xs ∧ New wz A ∧ Below wz.heap.size wz w') := fun wz hz => hide (copyBytes_new ad k c xs wz (hs.kept hz) (by omega))
  have HSE : ∀ wz, Hid (Calls Sakg.prog 45 #[] wz fun e w' => e = .returned (.agg (bv (lowAddr 240)).toArray) ∧ Below wz.heap.size wz w') := fun wz => hide (sender_any wz)
  have HS := hide hs
  clear hs hi0 hz0 hz1 hz2
  go_enter Sakg.func11, Sakg.ntmps11
  go_wp2_with fail
  go_loopg [3, 9] 1 (fun gk v3 iv wr => (gk = 1 ∧ iv = .int .i64 0 ∧ v3 = nilS ∧ wr = w) ∨ (gk = 0 ∧ iv = .int .i64 1 ∧ ∃ B A' k' c2, w.heap.size ≤ B ∧ B ≤ wr.heap.size ∧ wr.ownsRow B 43 55 v3 1 ([rowO (lowAddr 1) 1 (zeros 32) (.slice A' k' c2)] : List (List Value)).flatten ∧ Src wr A' k' c2 xs ∧ (∀ x, A' = some x → 0 < k' → x.block < B) ∧ Below w.heap.size w wr))
  case atStart => exact .inl ⟨rfl, rfl, rfl, rfl⟩
  case round =>
    rcases hrel with ⟨rfl, rfl, rfl, rfl⟩ | ⟨rfl, rfl, B, A', k', c2, hB, hBs, hown, hsr, hoff, hbe⟩
    · go_upto_region 7 with (first
        | (go_at_call 43; refine (unhide HAD).mono ?_; rintro e w1 ⟨rfl, b1⟩)
        | ((with_reducible refine at_build 43 ?_); refine wpList_build_run (by rfl) 43 [(0, .tmp 19), (1, .const (.int .u64 1))] rfl (.agg (rowO (lowAddr 1) 1 (zeros 32) nilS).toArray) (run_oa1 _) ?_)
        | ((with_reducible refine at_alloc 43 ?_); refine wpList_alloc_g (by rfl) 43 rfl (rowOA (zeros 20)) 55 infoOA hzz ?_)
        | ((with_reducible refine at_store 43 ?_); refine wpList_store_whole rfl 43 (.tmp 6) (.tmp 20) rfl _ _ _ (rowO (lowAddr 1) 1 (zeros 32) nilS) rfl rfl (RowT.new _ _ _) (by rw [hzz, hl1]) (hs1 _) (rowO_one _ _ _ none 0 0) ?_; intro w2 hr2 hon2; have hbb2 := box_below hon2; clear hon2))
      have d2 : Below wr.heap.size wr w2 := b1.trans (hbb2.1.mono b1.size)
      have x253 : ∀ wz, Below w2.heap.size w2 wz → wz.cell? ⟨w1.heap.size, 53, none⟩ = some nilS ∧ RowT 43 wz w1.heap.size (rowO (lowAddr 1) 1 (zeros 32) nilS) := fun wz hz => ⟨by rw [(hr2.kept hz).cell]; exact rowO_53 _ _ _ _ addr1_is zeroW_is, hr2.kept hz⟩
      have hlt2 := hr2.lt
      have X253 := hide x253
      clear hr2 x253 hbb2
      go_upto_region 9 with (go_at_call 44; refine (unhide (HCB w2 d2)).mono ?_; rintro e w3 ⟨A', k', c2, rfl, s3, N3, b3⟩; have x3 := (unhide X253 w3 b3).1; have f3 := (unhide X253 w3 b3).2.froz 53; have S3 := hide s3; clear s3)
      obtain ⟨w4, hw4⟩ : ∃ x, x = w3.setCell ⟨w1.heap.size, 53, none⟩ (.slice A' k' c2) := ⟨_, rfl⟩
      rw [← hw4]
      have r4 : RowT 43 w4 w1.heap.size (rowO (lowAddr 1) 1 (zeros 32) (.slice A' k' c2)) := by
        have := hw4 ▸ (unhide X253 w3 b3).2.set 53 (.slice A' k' c2)
        rwa [rowO_set _ _ _ _ _ addr1_is zeroW_is] at this
      have o4 : Only w1.heap.size w3 w4 := hw4 ▸ (Only.refl _ w3).setCell 53 _
      have d4 : Below wr.heap.size wr w4 := (d2.trans (b3.mono d2.size)).trans (o4.below _ b1.size)
      have s4 : Src w4 A' k' c2 xs := StabS.src (G := (· = w1.heap.size)) (unhide S3) (fun x hx h0 hg => by have h1 := N3 x hx; have h2 : x.block = w1.heap.size := hg; omega) w4 (ChgS.only o4 rfl)
      have S4 := hide s4
      have HR4 := hide r4.rangeAll
      have hl4 := hl1 (.slice A' k' c2)
      have hsz4 := hs1 (.slice A' k' c2)
      have hone4 := rowO_one (lowAddr 1) 1 (zeros 32) A' k' c2
      obtain ⟨w5, hw5⟩ : ∃ x, x = w4.alloc (.cells (rowO (lowAddr 1) 1 (zeros 32) (.slice A' k' c2)).toArray 43) := ⟨_, rfl⟩
      have r5 : RowT 43 w5 w4.heap.size (rowO (lowAddr 1) 1 (zeros 32) (.slice A' k' c2)) := hw5 ▸ RowT.new _ _ _
      have b5 : Below w4.heap.size w4 w5 := hw5 ▸ (Below.refl _ _).alloc (Nat.le_refl _) _
      have R5 := hide r5
      clear hw4 r4 s4 r5 x3 f3 X253
      go_wp2_with (first
        | ((with_reducible refine at_load 43 ?_); refine wpList_load_g rfl 43 (.tmp 6) rfl w1.heap.size 0 rfl (rowO (lowAddr 1) 1 (zeros 32) (.slice A' k' c2)) _ (unhide HR4) Sakg.underlying43 rfl hsz4 ?_)
        | ((with_reducible refine at_buildSlice ?_); refine wpList_build_one rfl 37 (.tmp 28) rfl 43 55 Sakg.underlying37 i0 _ (unhide HI0) (unhide HZ0) (unhide HZ1) hzz (by omega) (by omega) (rowO (lowAddr 1) 1 (zeros 32) (.slice A' k' c2)) rfl hl4 ?_)
        | ((with_reducible refine at_append ?_); rw [← hw5]; refine wpList_append_one rfl (.tmp 27) (.tmp 29) 37 rfl 43 55 112 Sakg.underlying37 i0 _ (unhide HI0) (unhide HZ0) (unhide HZ1) (unhide HZ2) hzz (by omega) w5.heap.size nilS 0 [] rfl (World.ownsRow_nil _ _ _ _) w4.heap.size 43 (rowO (lowAddr 1) 1 (zeros 32) (.slice A' k' c2)) rfl (unhide R5) hl4 hone4 (by omega) (by omega) (Nat.le_refl _) ?_; intro v6 w6 ho6 hb6 hg6; have HO6 := hide ho6; clear ho6))
      go_roundg 0
      case measure => omega
      case rel =>
        have d5 : Below wr.heap.size wr w5 := d4.trans (b5.mono d4.size)
        have s5 := (unhide S4).kept b5
        exact .inr ⟨rfl, rfl, w5.heap.size, A', k', c2, d5.size, hb6.size, unhide HO6, s5.below hb6 s5.lt, s5.lt, d5.trans (hb6.mono d5.size)⟩
    · have HOWN := hide hown
      have HSR := hide hsr
      have hzb : (rowO (lowAddr 240) 0 bal128 nilS).length = 55 := hl2
      have hone2 := rowO_one (lowAddr 240) 0 bal128 none 0 0
      have HBE := hide hbe
      clear hown hsr
      go_wp2_with (first
        | (go_at_call 45; refine (unhide (HSE _)).mono ?_; rintro e w1 ⟨rfl, b1⟩; obtain ⟨w2, hw2⟩ : ∃ x, x = w1.alloc (.cells (rowO (lowAddr 240) 0 bal128 nilS).toArray 43) := ⟨_, rfl⟩; have R2 : Hid (RowT 43 w2 w1.heap.size (rowO (lowAddr 240) 0 bal128 nilS)) := hide (hw2 ▸ RowT.new _ _ _); have b2 : Below w1.heap.size w1 w2 := hw2 ▸ (Below.refl _ _).alloc (Nat.le_refl _) _; have d2 : Below wr.heap.size wr w2 := b1.trans (b2.mono b1.size); have O2 := hide (own_kept (unhide HOWN) d2))
        | ((with_reducible refine at_build 29 ?_); refine wpList_build_run (by rfl) 29 [(15, .const (.int .u8 1))] rfl (.agg (bv bal128).toArray) (run_w128 _) ?_)
        | ((with_reducible refine at_build 43 ?_); refine wpList_build_run (by rfl) 43 [(0, .tmp 33), (2, .tmp 34)] rfl (.agg (rowO (lowAddr 240) 0 bal128 nilS).toArray) (run_oa2 _) ?_)
        | ((with_reducible refine at_buildSlice ?_); refine wpList_build_one rfl 37 (.tmp 35) rfl 43 55 Sakg.underlying37 i0 _ (unhide HI0) (unhide HZ0) (unhide HZ1) hzz (by omega) (by omega) (rowO (lowAddr 240) 0 bal128 nilS) rfl hzb ?_)
        | ((with_reducible refine at_append ?_); rw [← hw2]; refine wpList_append_one rfl (.tmp 32) (.tmp 36) 37 rfl 43 55 112 Sakg.underlying37 i0 _ (unhide HI0) (unhide HZ0) (unhide HZ1) (unhide HZ2) hzz (by omega) B _ 1 _ rfl (unhide O2) w1.heap.size 43 (rowO (lowAddr 240) 0 bal128 nilS) rfl (unhide R2) hzb hone2 (by omega) (by omega) (Nat.le_trans hBs d2.size) ?_; intro v6 w6 ho6 hb6 hg6; obtain ⟨A, c6, rfl, hrw6⟩ := own_rws ho6 (fun r hr => by { rcases List.mem_append.1 hr with h | h; (rw [List.mem_singleton.1 h]; exact hl1 _); (rw [List.mem_singleton.1 h]; exact hl2) }) rfl; have HRW6 := hide hrw6; clear ho6 hrw6))
      go_ret
      have s2 := (unhide HSR).kept d2
      have s6 : Src w6 A' k' c2 xs := s2.below hb6 (fun x hx h0 => hoff x hx h0)
      refine ⟨A, c6, rfl, ⟨_, unhide HRW6, ⟨A', k', c2, none, 0, 0, rfl, addr1_is, (show 1 < 256 ^ 8 by omega), zeroW_is, s6, ⟨[], Rws.ofNil _ 64, trivial⟩⟩, ⟨none, 0, 0, none, 0, 0, rfl, addr240_is, (show 0 < 256 ^ 8 by omega), bal128_is, Src.ofNil _, ⟨[], Rws.ofNil _ 64, trivial⟩⟩, trivial⟩, (unhide HBE).trans ((d2.mono (unhide HBE).size).trans (hb6.mono hB))⟩

end Go.Proofs.YgcsakGreat
