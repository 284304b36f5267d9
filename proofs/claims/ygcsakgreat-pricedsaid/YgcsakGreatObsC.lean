/-
  obs: accountOK.
-/
import Derived.Test.YgcsakGreatObsB
namespace Go.Proofs.YgcsakGreat
set_option linter.unusedVariables false
set_option linter.unusedSimpArgs false
set_option maxRecDepth 100000
open Go.RowKit

/-- the slots, behind the key p -/
def okSl : Option (List Int) → List (List Int × List Int) → Bool
  | _, [] => true
  | none, s :: ss => !decide (s.2 = zeros 32) && okSl (some s.1) ss
  | some k, s :: ss => !decide (s.2 = zeros 32) && (beforeB k s.1 && okSl (some s.1) ss)
def okA (d : OAcct) : Bool :=
  !(decide (d.nonce = 0) && decide (d.code.length = 0) && (decide (d.bal = zeros 32) || decide (0 < d.slots.length))) &&
  (!(decide (256 < d.code.length) || decide (16 < d.slots.length)) && okSl none d.slots)

theorem OAcctRow.cells {w : World} {r : List Value} {d : OAcct} (h : OAcctRow w r d) : ∃ A3 k3 c3 A4 k4 c4, r[20]? = some (.int .u64 d.nonce) ∧ (r.drop 21).take 32 = bv d.bal ∧ r[53]? = some (.slice A3 k3 c3) ∧ r[54]? = some (.slice A4 k4 c4) ∧ IsAddr d.addr ∧ d.nonce < 256 ^ 8 ∧ IsW d.bal ∧ Src w A3 k3 c3 d.code ∧ OSlotsR w A4 k4 c4 d.slots := by
  obtain ⟨A3, k3, c3, A4, k4, c4, rfl, h2, h3, h4, h5, h6⟩ := h
  refine ⟨A3, k3, c3, A4, k4, c4, ?_, ?_, ?_, ?_, h2, h3, h4, h5, h6⟩
  · rw [List.getElem?_append_right (by rw [bv_len, h2.len]; omega), bv_len, h2.len]; rfl
  · rw [List.drop_append, List.drop_of_length_le (by rw [bv_len, h2.len]; omega), bv_len, h2.len]
    simp only [List.nil_append, Nat.reduceSub, List.drop_succ_cons, List.drop_zero]
    rw [List.take_append_of_le_length (by rw [bv_len, h4.len]; omega), List.take_of_length_le (by rw [bv_len, h4.len]; omega)]
  · rw [List.getElem?_append_right (by rw [bv_len, h2.len]; omega), bv_len, h2.len]
    simp only [Nat.reduceSub, List.getElem?_cons_succ]
    rw [List.getElem?_append_right (by rw [bv_len, h4.len]; omega), bv_len, h4.len]; rfl
  · rw [List.getElem?_append_right (by rw [bv_len, h2.len]; omega), bv_len, h2.len]
    simp only [Nat.reduceSub, List.getElem?_cons_succ]
    rw [List.getElem?_append_right (by rw [bv_len, h4.len]; omega), bv_len, h4.len]; rfl

theorem conv_range (w : World) (b o n : Nat) (xs : List Int) (hl : xs.length = n) (h : w.rangeAt b o (bv xs)) : (convert 30 9 (.slice (some ⟨b, o, none⟩) n n)).run Sakg.prog w = .ok (.string (strOfNums xs)) w := by
  refine run_convert_bytes_arg w 30 5 Sakg.underlying30 Sakg.underlying5 b o n n xs hl (fun i hi => ?_) 9 Sakg.underlying9
  exact h i _ (by rw [bv, List.getElem?_map, getD_some xs i 0 (by omega)]; rfl)
theorem OSlotRow.key {w : World} {b o : Nat} {r : List Value} {s : List Int × List Int} (h : OSlotRow r s) (hr : w.rangeAt b o r) : w.rangeAt b o (bv s.1) := by
  obtain ⟨rfl, h1, h2⟩ := h
  intro j v hv
  refine hr j v ?_
  rw [List.getElem?_append_left]
  · exact hv
  · rcases Nat.lt_or_ge j (bv s.1).length with h' | h'
    · exact h'
    · rw [List.getElem?_eq_none h'] at hv; cases hv
theorem OSlotRow.val {w : World} {b o : Nat} {r : List Value} {s : List Int × List Int} (h : OSlotRow r s) (hr : w.rangeAt b o r) : w.rangeAt b (o + 32) (bv s.2) := by
  obtain ⟨rfl, h1, h2⟩ := h
  intro j v hv
  rw [Nat.add_assoc]
  refine hr _ v ?_
  rw [List.getElem?_append_right (by rw [bv_len, h1.len]; omega), bv_len, h1.len, Nat.add_sub_cancel_left]
  exact hv
/-- the key ahead of place i -/
def keyAt (ss : List (List Int × List Int)) (i : Nat) : Option (List Int) := if i = 0 then none else some (ss.getD (i - 1) ([], [])).1

theorem run_zeroW (wx : World) : (Instr.build 29 #[]).run Sakg.prog wx = .ok (.agg (bv (zeros 32)).toArray) wx := by kernel_rfl
theorem zeroW_is : IsW (zeros 32) := ⟨zeros_len 32, zeros_byt 32⟩

set_option maxHeartbeats 8000000 in
theorem accountOK_any (b o : Nat) (r : List Value) (d : OAcct) (w : World) (hr : w.rangeAt b o r) (h : OAcctRow w r d) :
    Calls Sakg.prog 178 #[.pointer (some ⟨b, o, none⟩)] w fun e w' => e = .returned (.bool (okA d)) ∧ Quiet w w' := by
  obtain ⟨A3, k3, c3, A4, k4, c4, q20, q21, q53, q54, ha, hn, hbal, hsrc, hsl⟩ := h.cells
  have e20 : w.cell? ⟨b, o + 20, none⟩ = some (.int .u64 d.nonce) := hr 20 _ q20
  have e53 : w.cell? ⟨b, o + 53, none⟩ = some (.slice A3 k3 c3) := hr 53 _ q53
  have e54 : w.cell? ⟨b, o + 54, none⟩ = some (.slice A4 k4 c4) := hr 54 _ q54
  have e21 : w.rangeAt b (o + 21) (bv d.bal) := by
    intro j v hv
    rw [← q21, List.getElem?_take] at hv
    split at hv
    · rw [List.getElem?_drop] at hv
      rw [Nat.add_assoc]
      exact hr _ _ hv
    · cases hv
  have heq := fun wx => w_eq wx d.bal (zeros 32) hbal zeroW_is
  have z1 : ((d.nonce : Int) == 0) = decide (d.nonce = 0) := by by_cases h : d.nonce = 0 <;> simp [h]
  have z2 : ((k3 : Int) == 0) = decide (d.code.length = 0) := by rw [hsrc.len_eq]; by_cases h : k3 = 0 <;> simp [h]
  have z3 : decide (0 < k4) = decide (0 < d.slots.length) := by rw [hsl.len]
  have z4 : decide ((256 : Int) < (k3 : Int)) = decide (256 < d.code.length) := by rw [hsrc.len_eq]; exact decide_eq_decide.2 (by omega)
  have z5 : decide ((16 : Int) < (k4 : Int)) = decide (16 < d.slots.length) := by rw [hsl.len]; exact decide_eq_decide.2 (by omega)
  obtain ⟨t1, ht1⟩ : ∃ t1, t1 = (decide (d.nonce = 0) && decide (d.code.length = 0) && (decide (d.bal = zeros 32) || decide (0 < d.slots.length))) := ⟨_, rfl⟩
  obtain ⟨t2, ht2⟩ : ∃ t2, t2 = (decide (256 < d.code.length) || decide (16 < d.slots.length)) := ⟨_, rfl⟩
  have hok : okA d = (!t1 && (!t2 && okSl none d.slots)) := by unfold okA; rw [← ht1, ← ht2]
  rw [← z1, ← z2, ← z3] at ht1
  rw [← z4, ← z5] at ht2
  have HOK := hide hok
  have HSL := hide hsl
  have HBAL := hide hbal
  have HE21 := hide e21
  have hk4 := hsl.len
  clear hok hsl hbal e21 h hr q20 q21 q53 q54 z1 z2 z3 z4 z5 hsrc ha hn
  go_enter Sakg.func178, Sakg.ntmps178
  go_upto_region 1 with fail
  go_cut [32] (fun s32 wc => s32 = .bool t1 ∧ wc = w)
  case first =>
    obtain ⟨b1, hb1⟩ : ∃ x, ((d.nonce : Int) == 0) = x := ⟨_, rfl⟩
    obtain ⟨b2, hb2⟩ : ∃ x, ((k3 : Int) == 0) = x := ⟨_, rfl⟩
    obtain ⟨b4, hb4⟩ : ∃ x, decide (0 < k4) = x := ⟨_, rfl⟩
    by_cases hz : d.bal = zeros 32
    · rw [hb1, hb2, hb4, decide_eq_true hz] at ht1
      rw [decide_eq_true hz] at heq
      have HT := hide ht1
      clear ht1 ht2 hz hk4
      cases b1
      · go_wp2_with fail
        go_meet
        case rel => exact ⟨by rw [unhide HT]; rfl, rfl⟩
      · cases b2
        · go_wp2_with fail
          go_meet
          case rel => exact ⟨by rw [unhide HT]; rfl, rfl⟩
        · go_wp2_with (first
            | ((with_reducible refine at_load (w := w) 29 ?_); refine wpList_load_g (by rfl) 29 (.tmp 20) rfl _ _ rfl (bv d.bal) _ (unhide HE21) Sakg.underlying29 rfl (unhide HBAL).size ?_)
            | ((with_reducible refine at_build 29 ?_); refine wpList_build_run (by rfl) 29 [] rfl (.agg (bv (zeros 32)).toArray) (run_zeroW _) ?_))
          go_meet
          case rel => exact ⟨by rw [unhide HT]; rfl, rfl⟩
    · rw [hb1, hb2, hb4, decide_eq_false hz] at ht1
      rw [decide_eq_false hz] at heq
      have HT := hide ht1
      clear ht1 ht2 hz hk4
      cases b1
      · go_wp2_with fail
        go_meet
        case rel => exact ⟨by rw [unhide HT]; rfl, rfl⟩
      · cases b2
        · go_wp2_with fail
          go_meet
          case rel => exact ⟨by rw [unhide HT]; rfl, rfl⟩
        · go_wp2_with (first
            | ((with_reducible refine at_load (w := w) 29 ?_); refine wpList_load_g (by rfl) 29 (.tmp 20) rfl _ _ rfl (bv d.bal) _ (unhide HE21) Sakg.underlying29 rfl (unhide HBAL).size ?_)
            | ((with_reducible refine at_build 29 ?_); refine wpList_build_run (by rfl) 29 [] rfl (.agg (bv (zeros 32)).toArray) (run_zeroW _) ?_))
          go_meet
          case rel => exact ⟨by rw [unhide HT]; cases b4 <;> rfl, rfl⟩
  case rest =>
    obtain ⟨rfl, rfl⟩ := hcut
    cases t1 with
    | true =>
      go_wp2
      go_ret
      exact ⟨by rw [unhide HOK]; rfl, ⟨0, by rw [World.drewN_zero]⟩⟩
    | false =>
      go_upto_region 3 with fail
      go_cut [46] (fun s46 wd => s46 = .bool t2 ∧ wd = wc)
      case first =>
        obtain ⟨b1, hb1⟩ : ∃ x, decide ((256 : Int) < (k3 : Int)) = x := ⟨_, rfl⟩
        obtain ⟨b2, hb2⟩ : ∃ x, decide ((16 : Int) < (k4 : Int)) = x := ⟨_, rfl⟩
        rw [hb1, hb2] at ht2
        have HT := hide ht2
        clear ht1 ht2 hk4
        cases b1
        · go_wp2_with fail
          go_meet
          case rel => exact ⟨by rw [unhide HT]; rfl, rfl⟩
        · go_wp2_with fail
          go_meet
          case rel => exact ⟨by rw [unhide HT]; rfl, rfl⟩
      case rest =>
        obtain ⟨hs46, hwd⟩ := hcut
        subst hs46
        subst hwd
        clear ht1 ht2
        cases t2 with
        | true =>
          go_wp2
          go_ret
          exact ⟨by rw [unhide HOK]; rfl, ⟨0, by rw [World.drewN_zero]⟩⟩
        | false =>
          have hok2 : okA d = okSl none d.slots := by rw [unhide HOK]; rfl
          have HOK2 := hide hok2
          have HK4 := hide hk4
          clear HOK hok2 hk4
          obtain ⟨rows, g1, g2⟩ := unhide HSL
          have HAT := hide (rows_at' ([], []) g1 g2)
          have hmx : k4 ≤ maxLen := Nat.le_trans g1.le g1.max
          unfold maxLen at hmx
          clear g1 g2 heq
          go_wp2_with fail
          go_loopg [52] k4 (fun gk ct wr => ∃ (i : Nat), i + gk = k4 ∧ ct = .int .i64 i ∧ okSl none d.slots = okSl (keyAt d.slots i) (d.slots.drop i) ∧ Quiet wc wr)
          case atStart => exact ⟨0, by omega, rfl, rfl, Quiet.refl _⟩
          case round =>
            obtain ⟨i, hi, rfl, hokl, hq⟩ := hrel
            have HOKL := hide hokl
            clear hokl
            by_cases hil : i < k4
            · obtain ⟨bs, off, rfl, hlt, hat⟩ := unhide HAT (by omega)
              obtain ⟨r, hrg, hrow⟩ := hat i hil
              have hcl : ∀ n a, (wr.drewN n).cell? a = wc.cell? a := by
                obtain ⟨m, rfl⟩ := hq
                intro n a; rfl
              have hcl0 : ∀ a, wr.cell? a = wc.cell? a := hcl 0
              have hdrop : d.slots.drop i = d.slots.getD i ([], []) :: d.slots.drop (i + 1) := by
                rw [List.drop_eq_getElem_cons (by have := unhide HK4; omega)]
                simp [List.getD, show i < d.slots.length by have := unhide HK4; omega]
              have hkn : keyAt d.slots (i + 1) = some (d.slots.getD i ([], [])).1 := by unfold keyAt; rw [if_neg (by omega)]; rfl
              obtain ⟨s, hs⟩ : ∃ s, s = d.slots.getD i ([], []) := ⟨_, rfl⟩
              rw [← hs] at hrow hdrop hkn
              have hrgk : wr.rangeAt bs (off + i * 64 + 32) (bv s.2) := hrow.val (fun j v hv => by rw [hcl0]; exact hrg j v hv)
              have e54' : wr.cell? ⟨b, o + 54, none⟩ = some (.slice (some ⟨bs, off, none⟩) k4 c4) := by rw [hcl0]; exact e54
              have e54n : ∀ n, (wr.drewN n).cell? ⟨b, o + 54, none⟩ = some (.slice (some ⟨bs, off, none⟩) k4 c4) := fun n => by rw [hcl]; exact e54
              have heq := fun wx => w_eq wx s.2 (zeros 32) hrow.2.2 zeroW_is
              have hw : IsW s.2 := hrow.2.2
              have HHW := hide hw
              have HRG := hide hrgk
              have HDROP := hide hdrop
              have HKN := hide hkn
              have HS := hide hs
              have HROW := hide hrow
              have HRGK := hide hrg
              clear hw hrgk hdrop hkn hs hrow hrg
              by_cases hz : s.2 = zeros 32
              · have hfin : okSl none d.slots = false := by
                  rw [unhide HOKL, unhide HDROP]
                  cases keyAt d.slots i <;> simp [okSl, hz]
                have HF := hide hfin
                rw [decide_eq_true hz] at heq
                clear hz hfin
                go_wp2_with (first
                  | ((with_reducible refine at_load (w := wr) 29 ?_); refine wpList_load_g (by rfl) 29 (.tmp 61) rfl _ _ rfl (bv s.2) _ (unhide HRG) Sakg.underlying29 rfl (unhide HHW).size ?_)
                  | ((with_reducible refine at_build 29 ?_); refine wpList_build_run (by rfl) 29 [] rfl (.agg (bv (zeros 32)).toArray) (run_zeroW _) ?_))
                go_ret
                exact ⟨by rw [unhide HOK2, unhide HF]; rfl, hq⟩
              · have hz' := decide_eq_false hz
                rw [hz'] at heq
                have HZ := hide hz'
                clear hz hz'
                by_cases hi0 : i = 0
                · subst hi0
                  have hstep : okSl none d.slots = okSl (keyAt d.slots 1) (d.slots.drop 1) := by
                    rw [unhide HOKL, unhide HDROP, unhide HKN]
                    simp [okSl, keyAt, unhide HZ]
                  have HST := hide hstep
                  clear hstep
                  go_upto_region 10 with (first
                    | ((with_reducible refine at_load (w := wr) 29 ?_); refine wpList_load_g (by rfl) 29 (.tmp 61) rfl _ _ rfl (bv s.2) _ (unhide HRG) Sakg.underlying29 rfl (unhide HHW).size ?_)
                    | ((with_reducible refine at_build 29 ?_); refine wpList_build_run (by rfl) 29 [] rfl (.agg (bv (zeros 32)).toArray) (run_zeroW _) ?_))
                  go_quiet (fail)
                  go_wp2
                  go_roundg (gk - 1)
                  case measure => omega
                  case rel => exact ⟨1, by omega, rfl, unhide HST, hq.trans ⟨nq, rfl⟩⟩
                · obtain ⟨j, rfl⟩ : ∃ j, i = j + 1 := ⟨i - 1, by omega⟩
                  obtain ⟨r0, hrg0, hrow0⟩ := hat j (by omega)
                  obtain ⟨s0, hs0⟩ : ∃ s0, s0 = d.slots.getD j ([], []) := ⟨_, rfl⟩
                  rw [← hs0] at hrow0
                  have hk0 : keyAt d.slots (j + 1) = some s0.1 := by rw [hs0]; unfold keyAt; rw [if_neg (by omega)]; rfl
                  have c1 : ∀ n, (convert 30 9 (.slice (some ⟨bs, off + j * 64, none⟩) 32 32)).run Sakg.prog (wr.drewN n) = .ok (.string (strOfNums s0.1)) (wr.drewN n) := fun n => conv_range _ _ _ _ _ hrow0.2.1.len (hrow0.key (fun j v hv => by rw [hcl]; exact hrg0 j v hv))
                  have c2 : ∀ n, (convert 30 9 (.slice (some ⟨bs, off + (j + 1) * 64, none⟩) 32 32)).run Sakg.prog (wr.drewN n) = .ok (.string (strOfNums s.1)) (wr.drewN n) := fun n => conv_range _ _ _ _ _ (unhide HROW).2.1.len ((unhide HROW).key (fun j v hv => by rw [hcl]; exact unhide HRGK j v hv))
                  have c1' := c1 0
                  have c2' := c2 0
                  rw [World.drewN_zero] at c1' c2'
                  have hj1 : ((j : Int) + 1 - 1) = j := by omega
                  have HK0 := hide hk0
                  clear hk0 hrow0 hrg0 hs0 hi0
                  cases hbf : beforeB s0.1 s.1 with
                  | false =>
                    have hbl : Op.bytesLess (strOfNums s0.1).toList (strOfNums s.1).toList = false := hbf
                    have hfin : okSl none d.slots = false := by
                      rw [unhide HOKL, unhide HDROP, unhide HK0]
                      simp [okSl, unhide HZ, hbf]
                    have HF := hide hfin
                    clear hfin hbf
                    go_upto_region 10 with (first
                      | ((with_reducible refine at_load (w := wr) 29 ?_); refine wpList_load_g (by rfl) 29 (.tmp 61) rfl _ _ rfl (bv s.2) _ (unhide HRG) Sakg.underlying29 rfl (unhide HHW).size ?_)
                      | ((with_reducible refine at_build 29 ?_); refine wpList_build_run (by rfl) 29 [] rfl (.agg (bv (zeros 32)).toArray) (run_zeroW _) ?_))
                    go_quiet (fail)
                    go_wp2
                    go_ret
                    exact ⟨by rw [unhide HOK2, unhide HF]; rfl, hq.trans ⟨nq, rfl⟩⟩
                  | true =>
                    have hbl : Op.bytesLess (strOfNums s0.1).toList (strOfNums s.1).toList = true := hbf
                    have hstep : okSl none d.slots = okSl (keyAt d.slots (j + 1 + 1)) (d.slots.drop (j + 1 + 1)) := by
                      rw [unhide HOKL, unhide HDROP, unhide HK0, unhide HKN]
                      simp [okSl, unhide HZ, hbf]
                    have HST := hide hstep
                    clear hstep hbf
                    go_upto_region 10 with (first
                      | ((with_reducible refine at_load (w := wr) 29 ?_); refine wpList_load_g (by rfl) 29 (.tmp 61) rfl _ _ rfl (bv s.2) _ (unhide HRG) Sakg.underlying29 rfl (unhide HHW).size ?_)
                      | ((with_reducible refine at_build 29 ?_); refine wpList_build_run (by rfl) 29 [] rfl (.agg (bv (zeros 32)).toArray) (run_zeroW _) ?_))
                    go_quiet (fail)
                    go_wp2
                    go_roundg (gk - 1)
                    case measure => omega
                    case rel => exact ⟨j + 1 + 1, by omega, rfl, unhide HST, hq.trans ⟨nq, rfl⟩⟩
            · obtain rfl : i = k4 := by omega
              have hfin : okSl none d.slots = true := by
                rw [unhide HOKL, List.drop_of_length_le (by have := unhide HK4; omega)]
                cases keyAt d.slots i <;> rfl
              have HF := hide hfin
              clear hfin
              go_wp2
              go_ret
              exact ⟨by rw [unhide HOK2, unhide HF]; rfl, hq⟩

end Go.Proofs.YgcsakGreat
