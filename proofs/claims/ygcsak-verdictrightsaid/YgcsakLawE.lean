/-
  law: VerdictRight, given what Begin does.
-/
import Derived.Test.YgcsakLawD
namespace Go.Proofs.Ygcsak
set_option linter.unusedVariables false
set_option linter.unusedSimpArgs false
set_option maxRecDepth 100000
open Go.RowKit

/-- the given accounts are of their types -/
def Small (ds : List OAcct) : Prop := ∀ o ∈ ds, IsAddr o.addr ∧ o.nonce < 256 ^ 8 ∧ IsW o.bal ∧ ∀ s ∈ o.slots, IsW s.1 ∧ IsW s.2
theorem each_small {w : World} : ∀ {rows : List (List Value)} {ds : List OAcct}, Each (OAcctRow w) rows ds → Small ds
  | [], [], _ => fun o ho => by cases ho
  | r :: rs, d :: ds, h => fun o ho => by
    rcases List.mem_cons.1 ho with rfl | ho
    · obtain ⟨A3, k3, c3, A4, k4, c4, -, h2, h3, h4, -, rows, -, h6⟩ := h.1
      refine ⟨h2, h3, h4, fun s hs => ?_⟩
      exact each_words h6 s hs
    · exact each_small h.2 o ho
  | [], _ :: _, h => h.elim
  | _ :: _, [], h => h.elim
where each_words : ∀ {rows : List (List Value)} {ss : List (List Int × List Int)}, Each OSlotRow rows ss → ∀ s ∈ ss, IsW s.1 ∧ IsW s.2
  | [], [], _ => fun s hs => by cases hs
  | r :: rs, x :: xs, h => fun s hs => by
    rcases List.mem_cons.1 hs with rfl | hs
    · exact ⟨h.1.2.1, h.1.2.2⟩
    · exact each_words h.2 s hs
  | [], _ :: _, h => h.elim
  | _ :: _, [], h => h.elim
theorem OAcctsR.small {w : World} {ao : Option Addr} {l c : Nat} {ds : List OAcct} (h : OAcctsR w ao l c ds) : Small ds := by
  obtain ⟨rows, _, h2⟩ := h
  exact each_small h2

/-- what Begin does on a chain that New has made: the verdict, and nothing but the chain's block turns -/
def BeginOK : Prop := ∀ (bw : Nat) (cs re : List Value) (w : World) (l : Nat) (ds : List OAcct) (cb : List Int) (gl : Nat) (fee : List Int) (A3 : Option Addr) (k3 c3 : Nat) (r : List Value) (d : YTx) (A1 : Option Addr) (k1 c1 : Nat) (A2 : Option Addr) (k2 c2 : Nat) (w0 : World),
  NewOK bw cs re w l ds → l ≤ 8 → worldB ds = true → Small ds → EnvC re cb gl fee A3 k3 c3 → TxC r d A1 k1 c1 A2 k2 c2 → w0.heap.size ≤ bw → Below w0.heap.size w0 w → Src w0 A1 k1 c1 d.data → AccsR w0 A2 k2 c2 d.access → Reach d.access →
  Calls Sakg.prog 33 #[.pointer (some ⟨bw, 0, none⟩), .agg r.toArray] w fun e w' => e = .returned (.int .u8 (verdN (ds.map acctOf) gl fee d)) ∧ Chg bw w w'

set_option maxHeartbeats 4000000 in
theorem verdictRight_of (hBegin : BeginOK) (ao : Option Addr) (l c : Nat) (ds : List OAcct) (re : List Value) (cb : List Int) (gl : Nat) (fee : List Int) (A3 : Option Addr) (k3 c3 : Nat) (rowsH : List (List Value)) (r : List Value) (d : YTx) (A1 : Option Addr) (k1 c1 : Nat) (A2 : Option Addr) (k2 c2 : Nat) (w : World)
    (hds : OAcctsR w ao l c ds) (hl : l ≤ 140737488355328) (he : EnvC re cb gl fee A3 k3 c3) (hH : Rws w 32 A3 k3 c3 rowsH) (hH1 : ∀ r ∈ rowsH, ∀ v ∈ r, v.oneCell' = true) (hk3 : k3 ≤ 140737488355328)
    (h : TxC r d A1 k1 c1 A2 k2 c2) (hd : Src w A1 k1 c1 d.data) (ha : AccsR w A2 k2 c2 d.access) (hre : Reach d.access) :
    Calls Sakg.prog 8 #[.slice ao l c, .agg re.toArray, .agg r.toArray] w fun e w' => e = .returned (.bool true) ∧ Below w.heap.size w w' := by
  obtain ⟨W, hW⟩ : ∃ W, W = (w.alloc (.cells re.toArray 68)).alloc (.cells r.toArray 71) := ⟨_, rfl⟩
  have hb0 : Below w.heap.size w W := by rw [hW]; exact ((Below.refl _ _).alloc (Nat.le_refl _) _).alloc (by simp) _
  have hr0 : RowT 68 W w.heap.size re := by rw [hW]; exact (RowT.new _ _ _).alloc _
  have hr1 : RowT 71 W (w.heap.size + 1) r := by rw [hW]; exact row_second _ _ _ _
  have HS := hide (startable_any ao l c ds re cb gl fee A3 k3 c3 rowsH W (hds.kept hb0) hl he (hH.kept hb0) hH1 hk3)
  have hsE : (Sakg.prog.info? 68).map (·.size) = some re.length := by rw [he.len]; exact sizeEnv
  have hsT : (Sakg.prog.info? 71).map (·.size) = some r.length := by rw [h.len]; exact sizeTx
  have HRE := hide hr0.rangeAll
  have hE : ∀ wz, Below W.heap.size W wz → wz.rangeAt w.heap.size 0 re := fun wz hz => (hr0.kept hz).rangeAll
  have hT : ∀ wz, Below W.heap.size W wz → wz.rangeAt (w.heap.size + 1) 0 r := fun wz hz => (hr1.kept hz).rangeAll
  have HE := hide hE
  have HT := hide hT
  have huE := Sakg.underlying68
  have huT := Sakg.underlying71
  clear hr0 hr1 hE hT
  go_enter Sakg.func8, Sakg.ntmps8
  go_upto_region 1 with fail
  rw [← hW]
  clear hW
  go_wp2_with (first
    | ((with_reducible refine at_load 68 ?_); refine wpList_load_g (by rfl) 68 (.tmp 4) rfl w.heap.size 0 rfl re _ (unhide HRE) Sakg.underlying68 rfl hsE ?_))
  refine (unhide HS).mono ?_
  rintro e w2 ⟨b2, hpost⟩
  have b02 : Below w.heap.size w w2 := hb0.trans (b2.mono hb0.size)
  clear HS HRE
  rcases hpost with ⟨hok, rfl⟩ | ⟨hok, bw, cs, rfl, hle, hnew⟩
  · clear hok
    go_wp2
    go_ret
    exact ⟨rfl, b02⟩
  · have hwb : worldB ds = true := by simp at hok; exact hok.1
    have hl8 : l ≤ 8 := by
      have h1 := hds.len
      have h2 := hwb
      unfold worldB at h2
      simp at h2
      omega
    have HNEW := hide hnew
    clear hok hnew
    go_upto_region 4 with fail
    have e2 : Below W.heap.size W w2.drew := b2.trans (Quiet.below ⟨1, rfl⟩ _)
    have d2 : Below w2.heap.size w2 w2.drew := Quiet.below ⟨1, rfl⟩ _
    refine wp_region_noPanic ?_
    refine wp_region_held_drew (S := fun w' => Below W.heap.size W w') (by kernel_rfl) (e2) (fun hHeld => ?_)
    refine held_takeD 0 (.slice ao l c) (some 22) (by rfl) (by rfl) (by kernel_rfl) (by kernel_rfl) (by kernel_rfl) (fun _ _ _ h => h) (.inl ⟨by rfl, fun _ _ => by rfl⟩) (hHeld) ?_
    simp only [Act.put, List.setIfInBounds_toArray, List.set_cons_zero, List.set_cons_succ]
    refine held_takeD 1 (.agg re.toArray) (some 23) (by rfl) (by rfl) (by kernel_rfl) (by kernel_rfl) (by kernel_rfl) (fun _ _ _ h => h) (yieldsIf_load_mid (by rfl) _ _ rfl _ _ rfl _ _ (fun wz hS => unhide HE wz hS) huE rfl hsE) (hHeld) ?_
    simp only [Act.put, List.setIfInBounds_toArray, List.set_cons_zero, List.set_cons_succ]
    refine held_takeD 2 (.agg r.toArray) (some 24) (by rfl) (by rfl) (by kernel_rfl) (by kernel_rfl) (by kernel_rfl) (fun _ _ _ h => h) (yieldsIf_load_mid (by rfl) _ _ rfl _ _ rfl _ _ (fun wz hS => unhide HT wz hS) huT rfl hsT) (hHeld) ?_
    simp only [Act.put, List.setIfInBounds_toArray, List.set_cons_zero, List.set_cons_succ]
    refine held_takeD 3 (.pointer (some ⟨bw, 0, none⟩)) (some 25) (by rfl) (by rfl) (by kernel_rfl) (by kernel_rfl) (by kernel_rfl) (fun _ _ _ h => h) (.inl ⟨by rfl, fun _ _ => by rfl⟩) (hHeld) ?_
    simp only [Act.put, List.setIfInBounds_toArray, List.set_cons_zero, List.set_cons_succ]
    refine held_takeD 4 (.agg r.toArray) (some 26) (by rfl) (by rfl) (by kernel_rfl) (by kernel_rfl) (by kernel_rfl) (fun _ _ _ h => h) (yieldsIf_load_mid (by rfl) _ _ rfl _ _ rfl _ _ (fun wz hS => unhide HT wz hS) huT rfl hsT) (hHeld) ?_
    simp only [Act.put, List.setIfInBounds_toArray, List.set_cons_zero, List.set_cons_succ]
    refine held_one 5 (by kernel_rfl) (by rfl) (fun K' hK' => ?_)
    go_simp
    refine (hBegin bw cs re w2.drew l ds cb gl fee A3 k3 c3 r d A1 k1 c1 A2 k2 c2 W ((unhide HNEW).kept d2) hl8 hwb hds.small he h hle e2 (hd.kept hb0) (ha.kept hb0) hre).mono ?_
    rintro e w3 ⟨rfl, c3'⟩
    refine hK'.out _ _ (e2.trans (c3'.below W.heap.size hle e2.size)) ?_
    clear hK' K'
    have e3 : Below W.heap.size W w3 := e2.trans (c3'.below W.heap.size hle e2.size)
    have b03 : Below w.heap.size w w3 := hb0.trans (e3.mono hb0.size)
    refine held_one 6 (by kernel_rfl) (by rfl) (fun K' hK' => ?_)
    go_simp
    refine (verdictHolds_any _ ao l c ds re cb gl fee A3 k3 c3 r d A1 k1 c1 A2 k2 c2 w3 (hds.kept b03) he h (hd.kept b03) (ha.kept b03) hre rfl).mono ?_
    rintro e w4 ⟨rfl, b4⟩
    refine hK'.out _ _ (e3.trans (b4.mono e3.size)) ?_
    clear hK' K'
    refine held_takeD 7 (.bool true) (some 6) (by rfl) (by rfl) (by kernel_rfl) (by kernel_rfl) (by kernel_rfl) (fun _ _ _ h => h) (.inl ⟨by rfl, fun _ _ => by rfl⟩) (e3.trans (b4.mono e3.size)) ?_
    simp only [Act.put, List.setIfInBounds_toArray, List.set_cons_zero, List.set_cons_succ]
    refine wpAnyH_done (by kernel_rfl) ?_ _
    refine NoPanic.normal ?_
    go_wp2
    go_ret
    exact ⟨rfl, b03.trans (b4.mono b03.size)⟩

end Go.Proofs.Ygcsak
