/-
  law: startable (the great seat: with all that New lays).
-/
import Derived.Test.YgcsakGreatLbN
namespace Go.Proofs.YgcsakGreat
set_option linter.unusedVariables false
set_option linter.unusedSimpArgs false
set_option maxRecDepth 100000
open Go.RowKit

def NewAll (bw : Nat) (cs re : List Value) (w : World) (l : Nat) (ds : List OAcct) (rowsH : List (List Value)) : Prop := NewOK bw cs re w l ds ∧ TotOK bw cs w l ∧ HashOK bw cs w rowsH
theorem NewAll.kept {bw : Nat} {cs re : List Value} {w w' : World} {l : Nat} {ds : List OAcct} {rowsH : List (List Value)} (h : NewAll bw cs re w l ds rowsH) (hb : Below w.heap.size w w') : NewAll bw cs re w' l ds rowsH := by
  obtain ⟨⟨ao, c, h1, h2, h3, h4⟩, ⟨A, k, ct, n, e1, e2, e3⟩, A5, k5, c5, g1, g2⟩ := h
  exact ⟨⟨ao, c, h1.kept hb, h2, h3, h4.go (Chg.of hb)⟩, ⟨A, k, ct, n, e1, e2.go (Chg.of hb), e3⟩, A5, k5, c5, g1, g2.go (Chg.of hb)⟩
/-- startable: a chain, or nil and true -/
def StartPostK (rowsH : List (List Value)) (re : List Value) (ok : Bool) (l : Nat) (ds : List OAcct) (w : World) (e : Ending) (w' : World) : Prop :=
  Below w.heap.size w w' ∧ ((ok = false ∧ e = .returned (.tuple #[.pointer none, .bool true])) ∨ (ok = true ∧ ∃ bw cs, e = .returned (.tuple #[.pointer (some ⟨bw, 0, none⟩), .bool true]) ∧ w.heap.size ≤ bw ∧ NewAll bw cs re w' l ds rowsH))

set_option maxHeartbeats 4000000 in
theorem startable_k (ao : Option Addr) (l c : Nat) (ds : List OAcct) (re : List Value) (cb : List Int) (gl : Nat) (fee : List Int) (A3 : Option Addr) (k3 c3 : Nat) (rowsH : List (List Value)) (w : World)
    (hds : OAcctsR w ao l c ds) (hl : l ≤ 140737488355328) (he : EnvC re cb gl fee A3 k3 c3) (hH : Rws w 32 A3 k3 c3 rowsH) (hH1 : ∀ r ∈ rowsH, ∀ v ∈ r, v.oneCell' = true) (hk3 : k3 ≤ 140737488355328) :
    Calls Sakg.prog 31 #[.slice ao l c, .agg re.toArray] w (StartPostK rowsH re (worldB ds && decide (k3 ≤ 4)) l ds w) := by
  obtain ⟨W, hW⟩ : ∃ W, W = w.alloc (.cells re.toArray 64) := ⟨_, rfl⟩
  have hb0 : Below w.heap.size w W := by rw [hW]; exact (Below.refl _ _).alloc (Nat.le_refl _) _
  have hr0 : RowT 64 W w.heap.size re := by rw [hW]; exact RowT.new _ _ _
  have HN := hide (new_k ao l c ds re cb gl fee A3 k3 c3 rowsH W (hds.kept hb0) hl he (hH.kept hb0) hH1 hk3)
  have hsE : (Sakg.prog.info? 64).map (·.size) = some re.length := by rw [he.len]; exact sizeEnv
  have HRE := hide hr0.rangeAll
  have HR0 := hide hr0
  clear hr0
  go_enter Sakg.func31, Sakg.ntmps31
  go_upto_region 1 with fail
  rw [← hW]
  clear hW
  go_wp2_with (first
    | ((with_reducible refine at_load 64 ?_); refine wpList_load_g (by rfl) 64 (.tmp 3) rfl w.heap.size 0 rfl re _ (unhide HRE) Sakg.underlying64 rfl hsE ?_))
  refine (unhide HN).mono ?_
  rintro e w2 ⟨b2, hpost⟩
  have b02 : Below w.heap.size w w2 := hb0.trans (b2.mono hb0.size)
  have HWO := hide (worldOK_any ao l c ds w2 (hds.kept b02) hl)
  have hr2 := (unhide HR0).kept b2
  have hre3 : ∀ wz, Below w2.heap.size w2 wz → wz.rangeAt w.heap.size 0 re := fun wz hz => (hr2.kept hz).rangeAll
  have HRE3 := hide hre3
  have henv : ∀ wz, Calls Sakg.prog 87 #[.agg re.toArray] wz fun e w' => e = .returned (.bool (decide (k3 ≤ 4))) ∧ Below wz.heap.size wz w' := fun wz => envOK_any re A3 k3 c3 wz he.hashes hk3
  have HENV := hide henv
  clear hr2 hre3 henv HRE HN
  rcases hpost with ⟨hok, rfl⟩ | ⟨hok, bw, cs, rfl, hle, hnew⟩
  · have HOK := hide hok
    cases hwb : worldB ds with
    | false =>
      rw [hwb] at HWO
      clear hok
      go_wp2_with (go_at_call 86; refine (unhide HWO).mono ?_; rintro e w3 ⟨rfl, b3⟩)
      refine bodyPost_ret (results_tmp2 rfl _ _ _) rfl ?_
      exact ⟨b02.trans (b3.mono b02.size), .inl ⟨unhide HOK, rfl⟩⟩
    | true =>
      rw [hwb] at HWO
      have hd4 : decide (k3 ≤ 4) = false := by rw [hwb] at hok; simpa using hok
      rw [hd4] at HENV
      clear hok hd4
      go_wp2_with (first
        | (go_at_call 86; refine (unhide HWO).mono ?_; rintro e w3 ⟨rfl, b3⟩; have hrg := unhide HRE3 w3 b3)
        | ((with_reducible refine at_load 64 ?_); refine wpList_load_g (by rfl) 64 (.tmp 3) rfl w.heap.size 0 rfl re _ hrg Sakg.underlying64 rfl hsE ?_)
        | (go_at_call 87; refine (unhide HENV w3).mono ?_; rintro e w4 ⟨rfl, b4⟩))
      refine bodyPost_ret (results_tmp2 rfl _ _ _) rfl ?_
      exact ⟨b02.trans ((b3.trans (b4.mono b3.size)).mono b02.size), .inl ⟨unhide HOK, rfl⟩⟩
  · have HOK := hide hok
    have HNEW := hide hnew
    have hwb : worldB ds = true := by simp at hok; exact hok.1
    have hd4 : decide (k3 ≤ 4) = true := by simp at hok; simpa using hok.2
    rw [hwb] at HWO
    rw [hd4] at HENV
    clear hok hnew hd4 hwb
    go_wp2_with (first
      | (go_at_call 86; refine (unhide HWO).mono ?_; rintro e w3 ⟨rfl, b3⟩; have hrg := unhide HRE3 w3 b3)
      | ((with_reducible refine at_load 64 ?_); refine wpList_load_g (by rfl) 64 (.tmp 3) rfl w.heap.size 0 rfl re _ hrg Sakg.underlying64 rfl hsE ?_)
      | (go_at_call 87; refine (unhide HENV w3).mono ?_; rintro e w4 ⟨rfl, b4⟩))
    refine bodyPost_ret (results_tmp2 rfl _ _ _) rfl ?_
    exact ⟨b02.trans ((b3.trans (b4.mono b3.size)).mono b02.size), .inr ⟨unhide HOK, bw, cs, rfl, Nat.le_trans hb0.size hle, NewAll.kept (unhide HNEW) (b3.trans (b4.mono b3.size))⟩⟩

end Go.Proofs.YgcsakGreat
