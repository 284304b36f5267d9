/-
  law: GasBounds.
-/
import Derived.Test.YgcsakGreatLbB
import Derived.Test.YgcsakGreatLbC
import Derived.Test.YgcsakGreatKuA
namespace Go.Proofs.YgcsakGreat
set_option linter.unusedVariables false
set_option linter.unusedSimpArgs false
set_option maxRecDepth 100000
open Go.RowKit

set_option maxHeartbeats 8000000 in
theorem gasBounds_any (ao : Option Addr) (l c : Nat) (ds : List OAcct) (re : List Value) (cb : List Int) (nm tm gl : Nat) (rn ch fee : List Int) (A3 : Option Addr) (k3 c3 : Nat) (ks : List (List Int)) (r : List Value) (d : YTx) (A1 : Option Addr) (k1 c1 : Nat) (A2 : Option Addr) (k2 c2 : Nat) (w : World)
    (hds : OAcctsR w ao l c ds) (hl : l ≤ 140737488355328) (he : EnvX re cb nm tm gl rn ch fee A3 k3 c3) (hH : wordsR w A3 k3 c3 ks) (hk3 : k3 ≤ 140737488355328)
    (hsm : Small ds) (h : TxC r d A1 k1 c1 A2 k2 c2) (hd : Src w A1 k1 c1 d.data) (ha : AccsR w A2 k2 c2 d.access) :
    Calls Sakg.prog 8 #[.slice ao l c, .agg re.toArray, .agg r.toArray] w fun e w' => e = .returned (.bool true) ∧ Below w.heap.size w w' := by
  obtain ⟨W, hW⟩ : ∃ W, W = (w.alloc (.cells re.toArray 64)).alloc (.cells r.toArray 33) := ⟨_, rfl⟩
  have hb0 : Below w.heap.size w W := by rw [hW]; exact ((Below.refl _ _).alloc (Nat.le_refl _) _).alloc (by simp) _
  have hr0 : RowT 64 W w.heap.size re := by rw [hW]; exact (RowT.new _ _ _).alloc _
  have hr1 : RowT 33 W (w.heap.size + 1) r := by rw [hW]; exact row_second _ _ _ _
  have hH1 : ∀ r ∈ ks.map bv, ∀ v ∈ r, v.oneCell' = true := fun r hr v hv => by
    obtain ⟨a, -, rfl⟩ := List.mem_map.1 hr
    exact bv_one _ v hv
  have HS := hide (startable_k ao l c ds re cb gl fee A3 k3 c3 (ks.map bv) W (hds.kept hb0) hl he.c (hH.1.kept hb0) hH1 hk3)
  have hsE : (Sakg.prog.info? 64).map (·.size) = some re.length := by rw [he.c.len]; exact sizeEnv
  have hsT : (Sakg.prog.info? 33).map (·.size) = some r.length := by rw [h.len]; exact sizeTx
  have HRE := hide hr0.rangeAll
  have hT : ∀ wz, Below W.heap.size W wz → wz.rangeAt (w.heap.size + 1) 0 r := fun wz hz => (hr1.kept hz).rangeAll
  have HT := hide hT
  have huE := Sakg.underlying64
  have huT := Sakg.underlying33
  clear hr0 hr1 hT
  go_enter Sakg.func8, Sakg.ntmps8
  go_upto_region 1 with fail
  rw [← hW]
  clear hW
  go_wp2_with (first
    | ((with_reducible refine at_load 64 ?_); refine wpList_load_g (by rfl) 64 (.tmp 4) rfl w.heap.size 0 rfl re _ (unhide HRE) Sakg.underlying64 rfl hsE ?_))
  refine (unhide HS).mono ?_
  rintro e w2 ⟨b2, hpost⟩
  have b02 : Below w.heap.size w w2 := hb0.trans (b2.mono hb0.size)
  clear HS HRE
  rcases hpost with ⟨hok, rfl⟩ | ⟨hok, bw, cs, rfl, hle, hn, ht, hh⟩
  · clear hok
    go_wp2
    go_ret
    exact ⟨rfl, b02⟩
  · have hwb : worldB ds = true := by simp at hok; exact hok.1
    have hk4 : k3 ≤ 4 := by simp at hok; exact hok.2
    have hl8 : l ≤ 8 := by
      have h1 := hds.len
      have h2 := hwb
      unfold worldB at h2
      simp at h2
      omega
    have hksl : ks.length ≤ 4 := by have h1 := hH.1.len_eq; rw [List.length_map] at h1; omega
    obtain ⟨tot, hsi, hxb⟩ := new_si hn ht hh he hl8 hH.2 hksl
    obtain ⟨hgd, hbP, hsz⟩ := good_world hwb hsm
    have hwt : wt (freshD (ds.map acctOf)) ≤ 340000 := by
      have h2 : wt (freshD (ds.map acctOf)) = 0 + 2500 * (szA (ds.map acctOf) + 0 + 0 + 0 + 0 + 0 + 0 + 0) := rfl
      omega
    have hg0 : Good (balsN ds) (freshD (ds.map acctOf)) := Snd.good ⟨hgd, fun t ht => (by cases ht), fun t ht => (by cases ht), hbP⟩ (by omega)
    have hG0 : ∀ i, i = bw → W.heap.size ≤ i := fun i hi => by omega
    have e2 : Below W.heap.size W w2.drew := b2.trans (Quiet.below ⟨1, rfl⟩ _)
    have d2 : Below w2.heap.size w2 w2.drew := Quiet.below ⟨1, rfl⟩ _
    have HAP := hide (apply_g W hG0 e2 (hsi.kept d2) hxb hg0 (by omega) (show (0 : Nat) ≤ 3 by omega) r d A1 k1 c1 A2 k2 c2 h (hd.kept hb0) (ha.kept hb0))
    have hvk : verdN (ds.map acctOf) gl fee d = 0 → d.data.length ≤ 1024 ∧ listB d.access = true := fun hv => ⟨(verdK hv).data, (verdK hv).list⟩
    have HVK := hide hvk
    have hgl : (xNew cb nm tm gl rn ch fee tot).glimit = gl := rfl
    have hfe : (xNew cb nm tm gl rn ch fee tot).fee = fee := rfl
    rw [hgl, hfe] at HAP
    generalize verdN (ds.map acctOf) gl fee d = vn at HAP HVK
    have hzW := hb0.size
    have hfin : ∀ wz wy, ChgS (fun i => i = bw) w2.drew wz → Below wz.heap.size wz wy → Below w.heap.size w wy := fun wz wy h1 h2 => by
      have h3 : Below W.heap.size W wz := e2.trans (h1.below W.heap.size hG0 e2.size)
      exact (hb0.trans (h3.mono hzW)).trans (h2.mono (Nat.le_trans hzW h3.size))
    have hmid : ∀ wz, ChgS (fun i => i = bw) w2.drew wz → Below W.heap.size W wz := fun wz h1 => e2.trans (h1.below W.heap.size hG0 e2.size)
    have HFIN := hide hfin
    have HMID := hide hmid
    clear hok hn ht hh hsi hxb hgd hg0 hvk hfin hmid
    go_upto_region 4 with fail
    refine wp_region_noPanic ?_
    refine wp_region_held_drew (S := fun w' => Below W.heap.size W w') (by kernel_rfl) (e2) (fun hHeld => ?_)
    refine held_takeD 0 (.agg r.toArray) (some 22) (by rfl) (by rfl) (by kernel_rfl) (by kernel_rfl) (by kernel_rfl) (fun _ _ _ h => h) (yieldsIf_load_mid (by rfl) _ _ rfl _ _ rfl _ _ (fun wz hS => unhide HT wz hS) huT rfl hsT) (hHeld) ?_
    simp only [Act.put, List.setIfInBounds_toArray, List.set_cons_zero, List.set_cons_succ]
    refine held_takeD 1 (.pointer (some ⟨bw, 0, none⟩)) (some 23) (by rfl) (by rfl) (by kernel_rfl) (by kernel_rfl) (by kernel_rfl) (fun _ _ _ h => h) (.inl ⟨by rfl, fun _ _ => by rfl⟩) (hHeld) ?_
    simp only [Act.put, List.setIfInBounds_toArray, List.set_cons_zero, List.set_cons_succ]
    refine held_takeD 2 (.agg r.toArray) (some 24) (by rfl) (by rfl) (by kernel_rfl) (by kernel_rfl) (by kernel_rfl) (fun _ _ _ h => h) (yieldsIf_load_mid (by rfl) _ _ rfl _ _ rfl _ _ (fun wz hS => unhide HT wz hS) huT rfl hsT) (hHeld) ?_
    simp only [Act.put, List.setIfInBounds_toArray, List.set_cons_zero, List.set_cons_succ]
    refine held_one 3 (by kernel_rfl) (by rfl) (fun K' hK' => ?_)
    go_simp
    refine (unhide HAP).mono ?_
    rintro e w3 ⟨row, us, rfl, hrl, hro, hr0, hr2, hrb, hc3⟩
    refine hK'.out _ _ (unhide HMID w3 hc3) ?_
    clear hK' K'
    have b3 := unhide HMID w3 hc3
    refine held_one 4 (by kernel_rfl) (by rfl) (fun K' hK' => ?_)
    go_simp
    refine (gasHolds_any r d A1 k1 c1 A2 k2 c2 w3 h (hd.kept (hb0.trans (b3.mono hzW))) (ha.kept (hb0.trans (b3.mono hzW))) row hrl vn us hr0 hr2 (fun hv => ⟨(unhide HVK hv).1, (unhide HVK hv).2, hrb hv⟩)).mono ?_
    rintro e w4 ⟨rfl, b4⟩
    refine hK'.out _ _ (b3.trans (b4.mono b3.size)) ?_
    clear hK' K'
    refine held_takeD 5 (.bool true) (some 6) (by rfl) (by rfl) (by kernel_rfl) (by kernel_rfl) (by kernel_rfl) (fun _ _ _ h => h) (.inl ⟨by rfl, fun _ _ => by rfl⟩) (b3.trans (b4.mono b3.size)) ?_
    simp only [Act.put, List.setIfInBounds_toArray, List.set_cons_zero, List.set_cons_succ]
    refine wpAnyH_done (by kernel_rfl) ?_ _
    refine NoPanic.normal ?_
    go_wp2
    go_ret
    exact ⟨rfl, unhide HFIN w3 w4 hc3 b4⟩

end Go.Proofs.YgcsakGreat
