/-
  obs: WorldOK.
-/
import Derived.Test.YgcsakGreatObsC
namespace Go.Proofs.YgcsakGreat
set_option linter.unusedVariables false
set_option linter.unusedSimpArgs false
set_option maxRecDepth 100000
open Go.RowKit

def okWs : Option (List Int) → List Int → List OAcct → Bool
  | _, _, [] => true
  | none, sum, d :: ds => okA d && (decide ((addW sum d.bal).1 = 0) && okWs (some d.addr) (addW sum d.bal).2 ds)
  | some a, sum, d :: ds => beforeB a d.addr && (okA d && (decide ((addW sum d.bal).1 = 0) && okWs (some d.addr) (addW sum d.bal).2 ds))
def worldB (ds : List OAcct) : Bool := !decide (8 < ds.length) && okWs none (zeros 32) ds

def OAcctsR (w : World) (ao : Option Addr) (l c : Nat) (ds : List OAcct) : Prop := ∃ rows, Rws w 55 ao l c rows ∧ Each (OAcctRow w) rows ds
theorem OAcctsR.kept {w w' : World} {ao : Option Addr} {l c : Nat} {ds : List OAcct} (h : OAcctsR w ao l c ds) (hb : Below w.heap.size w w') : OAcctsR w' ao l c ds := by
  obtain ⟨rows, h1, h2⟩ := h
  exact ⟨rows, h1.kept hb, h2.imp fun _ _ h => h.kept hb⟩
theorem OAcctsR.len {w : World} {ao : Option Addr} {l c : Nat} {ds : List OAcct} (h : OAcctsR w ao l c ds) : ds.length = l := by
  obtain ⟨rows, h1, h2⟩ := h
  rw [← h2.len, h1.len_eq]
def zeroO : OAcct := ⟨[], 0, [], [], []⟩
def addrAt (ds : List OAcct) (i : Nat) : Option (List Int) := if i = 0 then none else some (ds.getD (i - 1) zeroO).addr

theorem OAcctRow.is {w : World} {r : List Value} {d : OAcct} (h : OAcctRow w r d) : IsAddr d.addr ∧ d.nonce < 256 ^ 8 ∧ IsW d.bal := by
  obtain ⟨A3, k3, c3, A4, k4, c4, rfl, h2, h3, h4, h5, h6⟩ := h
  exact ⟨h2, h3, h4⟩
theorem OAcctRow.ne {w : World} {r : List Value} {d : OAcct} (h : OAcctRow w r d) : r ≠ [] := by
  obtain ⟨A3, k3, c3, A4, k4, c4, rfl, h2, h3, h4, h5, h6⟩ := h
  simp
theorem OAcctRow.adr {w w' : World} {b o : Nat} {r : List Value} {d : OAcct} (h : OAcctRow w r d) (hr : w'.rangeAt b o r) : w'.rangeAt b o (bv d.addr) := by
  obtain ⟨A3, k3, c3, A4, k4, c4, rfl, h2, h3, h4, h5, h6⟩ := h
  intro j v hv
  refine hr j v ?_
  rw [List.getElem?_append_left]
  · exact hv
  · rcases Nat.lt_or_ge j (bv d.addr).length with h' | h'
    · exact h'
    · rw [List.getElem?_eq_none h'] at hv; cases hv
theorem OAcctRow.bal {w w' : World} {b o : Nat} {r : List Value} {d : OAcct} (h : OAcctRow w r d) (hr : w'.rangeAt b o r) : w'.rangeAt b (o + 21) (bv d.bal) := by
  obtain ⟨A3, k3, c3, A4, k4, c4, q20, q21, q53, q54, ha, hn, hbal, hsrc, hsl⟩ := h.cells
  intro j v hv
  rw [← q21, List.getElem?_take] at hv
  split at hv
  · rw [List.getElem?_drop] at hv
    rw [Nat.add_assoc]
    exact hr _ _ hv
  · cases hv

set_option maxHeartbeats 8000000 in
theorem worldOK_any (ao : Option Addr) (l c : Nat) (ds : List OAcct) (w : World) (h : OAcctsR w ao l c ds) (hl : l ≤ 140737488355328) :
    Calls Sakg.prog 86 #[.slice ao l c] w fun e w' => e = .returned (.bool (worldB ds)) ∧ Below w.heap.size w w' := by
  have hlen := h.len
  have H := hide h
  obtain ⟨rows, g1, g2⟩ := h
  have HAT := hide (rows_at' zeroO g1 g2)
  have HLEN := hide hlen
  clear g1 g2 hlen
  by_cases h8 : 8 < l
  · have hfin : worldB ds = false := by
      unfold worldB
      rw [unhide HLEN, decide_eq_true h8]; rfl
    have HF := hide hfin
    clear hfin
    have d8 : decide ((8 : Int) < (l : Int)) = true := decide_eq_true (by omega)
    go_enter Sakg.func86, Sakg.ntmps86
    go_wp2
    go_ret
    exact ⟨by rw [unhide HF]; rfl, Below.refl _ _⟩
  have hokw : worldB ds = okWs none (zeros 32) ds := by
    unfold worldB
    rw [unhide HLEN, decide_eq_false h8]; rfl
  have HOK := hide hokw
  have d8 : decide ((8 : Int) < (l : Int)) = false := decide_eq_false (by omega)
  have hb1 : Below w.heap.size w (w.alloc (.cells (bv (zeros 32)).toArray 29)) := (Below.refl _ _).alloc (Nat.le_refl _) _
  have hr1 : RowT 29 (w.alloc (.cells (bv (zeros 32)).toArray 29)) w.heap.size (bv (zeros 32)) := RowT.new _ _ _
  clear hokw h8
  go_enter Sakg.func86, Sakg.ntmps86
  go_wp2_with fail
  go_loopg [10] l (fun gk ct wr => ∃ (i : Nat) (sum : List Int), i + gk = l ∧ ct = .int .i64 i ∧ okWs none (zeros 32) ds = okWs (addrAt ds i) sum (ds.drop i) ∧ IsW sum ∧ RowT 29 wr w.heap.size (bv sum) ∧ Below w.heap.size w wr)
  case atStart => exact ⟨0, zeros 32, by omega, rfl, rfl, zeroW_is, hr1, hb1⟩
  case round =>
    obtain ⟨i, sum, hi, rfl, hokl, hsum, hrow, hbe⟩ := hrel
    have HOKL := hide hokl
    have HSUM := hide hsum
    have HROW := hide hrow
    clear hokl hsum hrow hr1 hb1
    by_cases hil : i < l
    · obtain ⟨b, off, rfl, hlt, hat⟩ := unhide HAT (by omega)
      obtain ⟨r, hrg, horow⟩ := hat i hil
      have hdrop : ds.drop i = ds.getD i zeroO :: ds.drop (i + 1) := by
        rw [List.drop_eq_getElem_cons (by have := unhide HLEN; omega)]
        simp [List.getD, show i < ds.length by have := unhide HLEN; omega]
      have hkn : addrAt ds (i + 1) = some (ds.getD i zeroO).addr := by unfold addrAt; rw [if_neg (by omega)]; rfl
      obtain ⟨d, hd⟩ : ∃ d, d = ds.getD i zeroO := ⟨_, rfl⟩
      rw [← hd] at horow hdrop hkn
      have hrgn : ∀ n, (wr.drewN n).rangeAt b (off + i * 55) r := fun n => range_below hrg (hbe.trans (Quiet.below ⟨n, rfl⟩ _)) (fun _ => hlt)
      have horn : ∀ n, OAcctRow (wr.drewN n) r d := fun n => horow.kept (hbe.trans (Quiet.below ⟨n, rfl⟩ _))
      have HRGN := hide hrgn
      have HORN := hide horn
      have HOROW := hide horow
      have HDROP := hide hdrop
      have HKN := hide hkn
      clear hrgn horn horow hdrop hkn hd hrg
      go_upto_region 7 with fail
      go_cut [30] (fun s30 wc => ∃ t, s30 = .bool t ∧ (okWs (addrAt ds i) sum (ds.drop i) = (!t && (okA d && (decide ((addW sum d.bal).1 = 0) && okWs (addrAt ds (i + 1)) (addW sum d.bal).2 (ds.drop (i + 1)))))) ∧ Quiet wr wc)
      case first =>
        by_cases hi0 : i = 0
        · subst hi0
          go_quiet (fail)
          go_wp2_with fail
          go_meet
          case rel => exact ⟨false, rfl, by rw [unhide HDROP, unhide HKN]; simp [okWs, addrAt], ⟨nq, rfl⟩⟩
        · obtain ⟨j, rfl⟩ : ∃ j, i = j + 1 := ⟨i - 1, by omega⟩
          obtain ⟨r0, hrg0, hrow0⟩ := hat j (by omega)
          obtain ⟨d0, hd0⟩ : ∃ d0, d0 = ds.getD j zeroO := ⟨_, rfl⟩
          rw [← hd0] at hrow0
          have hk0 : addrAt ds (j + 1) = some d0.addr := by rw [hd0]; unfold addrAt; rw [if_neg (by omega)]; rfl
          have c1 : ∀ n, (convert 30 9 (.slice (some ⟨b, off + j * 55, none⟩) 20 20)).run Sakg.prog (wr.drewN n) = .ok (.string (strOfNums d0.addr)) (wr.drewN n) := fun n => conv_range _ _ _ _ _ hrow0.is.1.len (hrow0.adr (range_below hrg0 (hbe.trans (Quiet.below ⟨n, rfl⟩ _)) (fun _ => hlt)))
          have c2 : ∀ n, (convert 30 9 (.slice (some ⟨b, off + (j + 1) * 55, none⟩) 20 20)).run Sakg.prog (wr.drewN n) = .ok (.string (strOfNums d.addr)) (wr.drewN n) := fun n => conv_range _ _ _ _ _ (unhide HOROW).is.1.len ((unhide HOROW).adr (unhide HRGN n))
          have c1' := c1 0
          have c2' := c2 0
          rw [World.drewN_zero] at c1' c2'
          have hj1 : ((j : Int) + 1 - 1) = j := by omega
          have HK0 := hide hk0
          clear hk0 hrow0 hrg0 hd0 hi0 hat
          obtain ⟨bb, hbb⟩ : ∃ bb, Op.bytesLess (strOfNums d0.addr).toList (strOfNums d.addr).toList = bb := ⟨_, rfl⟩
          have hbf : beforeB d0.addr d.addr = bb := hbb
          have HBF := hide hbf
          clear hbf
          go_quiet (fail)
          go_wp2_with fail
          go_meet
          case rel => exact ⟨!bb, rfl, by rw [unhide HDROP, unhide HKN, unhide HK0]; simp [okWs, unhide HBF], ⟨nq, rfl⟩⟩
      case rest =>
        obtain ⟨t, rfl, hst, hq⟩ := hcut
        have HST := hide hst
        clear hst hat
        cases t with
        | true =>
          go_wp2
          go_ret
          exact ⟨by rw [unhide HOK, unhide HOKL, unhide HST]; rfl, hbe.trans (hq.below _)⟩
        | false =>
          obtain ⟨nq, rfl⟩ := hq
          obtain ⟨wc, hwc⟩ : ∃ wc, wc = wr.drewN nq := ⟨_, rfl⟩
          have hb2 : Below w.heap.size w wc := hwc ▸ hbe.trans (Quiet.below ⟨nq, rfl⟩ _)
          have hrg2 : wc.rangeAt b (off + i * 55) r := hwc ▸ unhide HRGN nq
          have hor2 : OAcctRow wc r d := hwc ▸ unhide HORN nq
          have hrow2 : RowT 29 wc w.heap.size (bv sum) := hwc ▸ (unhide HROW).kept (Quiet.below ⟨nq, rfl⟩ _)
          rw [← hwc]
          have HRG2 := hide hrg2
          have HOR2 := hide hor2
          have HROW2 := hide hrow2
          clear hwc hrg2 hor2 hrow2
          go_wp2_with fail
          refine (accountOK_any b (off + i * 55) r d wc (unhide HRG2) (unhide HOR2)).mono ?_
          rintro e w2 ⟨rfl, hq2⟩
          cases hoa : okA d with
          | false =>
            have hfin : worldB ds = false := by rw [unhide HOK, unhide HOKL, unhide HST, hoa]; rfl
            have HF := hide hfin
            clear hfin hoa
            go_wp2
            go_ret
            exact ⟨by rw [unhide HF]; rfl, hb2.trans (hq2.below _)⟩
          | true =>
            have hst2 : okWs (addrAt ds i) sum (ds.drop i) = (decide ((addW sum d.bal).1 = 0) && okWs (addrAt ds (i + 1)) (addW sum d.bal).2 (ds.drop (i + 1))) := by rw [unhide HST, hoa]; rfl
            have HST2 := hide hst2
            clear hst2 hoa
            go_wp2_with fail
            refine (addTo_any w.heap.size b (off + i * 55 + 21) sum d.bal w2 (unhide HSUM) (unhide HOR2).is.2.2 ((unhide HROW2).kept (hq2.below _)) ((unhide HOR2).bal (range_kept (unhide HRG2) (hq2.below _))) (by omega)).mono ?_
            rintro e w3 ⟨rfl, hrow3, hw3, hon⟩
            have hb3 : Below w.heap.size w w3 := (hb2.trans (hq2.below _)).trans (hon.below _ (Nat.le_refl _))
            obtain ⟨s3, hs3⟩ : ∃ s3, s3 = (addW sum d.bal).2 := ⟨_, rfl⟩
            rw [← hs3] at hrow3 hw3
            cases hz : decide ((addW sum d.bal).1 = 0) with
            | false =>
              have hfin : worldB ds = false := by rw [unhide HOK, unhide HOKL, unhide HST2, hz]; rfl
              have HF := hide hfin
              clear hfin hrow3 hw3 hs3
              go_wp2
              go_ret
              exact ⟨by rw [unhide HF]; rfl, hb3⟩
            | true =>
              have hst3 : okWs none (zeros 32) ds = okWs (addrAt ds (i + 1)) s3 (ds.drop (i + 1)) := by rw [unhide HOKL, unhide HST2, hz, hs3]; rfl
              have HST3 := hide hst3
              have HR3 := hide hrow3
              clear hst3 hs3 hrow3
              go_wp2
              go_roundg (gk - 1)
              case measure => omega
              case rel => exact ⟨i + 1, s3, by omega, rfl, unhide HST3, hw3, unhide HR3, hb3⟩
    · obtain rfl : i = l := by omega
      have hfin : worldB ds = true := by
        rw [unhide HOK, unhide HOKL, List.drop_of_length_le (by have := unhide HLEN; omega)]
        cases addrAt ds i <;> rfl
      have HF := hide hfin
      clear hfin
      go_wp2
      go_ret
      exact ⟨by rw [unhide HF]; rfl, hbe⟩

end Go.Proofs.YgcsakGreat
