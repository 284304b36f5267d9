/-
  yp: warmSlot.
-/
import Derived.Test.YgcsakGreatYpH
namespace Go.Proofs.YgcsakGreat
set_option linter.unusedVariables false
set_option linter.unusedSimpArgs false
set_option maxRecDepth 100000
open Go.RowKit

theorem build_mark (a : List Int) (ha : IsAddr a) (A : Option Addr) (k c : Nat) : Instr.fill ((#[(0, 20), (20, 1)] : Array (Nat × Nat))[·]?) (bv (zeros 20) ++ [nilS]).toArray [(0, .agg (bv a).toArray), (1, .slice A k c)] = some (bv a ++ [Value.slice A k c]).toArray := by
  rw [fill_cons _ _ 0 (.agg (bv a).toArray) _ 0 20 rfl (bv a) rfl (by rw [bv_len]; exact ha.len) (by simp [bv_len, zeros_len])]
  have e : spl (bv (zeros 20) ++ [nilS]) 0 (bv a) = bv a ++ [nilS] := by
    unfold spl
    rw [bv_len, ha.len, List.take_zero, List.nil_append, Nat.zero_add, List.drop_append_of_le_length (by simp [bv_len, zeros_len]), List.drop_of_length_le (by simp [bv_len, zeros_len])]
    rfl
  rw [e, fill_cons _ _ 1 (.slice A k c) [] 20 1 rfl [.slice A k c] rfl rfl (by simp [bv_len, ha.len]), Instr.fill]
  congr 2
  unfold spl
  rw [List.take_append_of_le_length (by rw [bv_len, ha.len]; omega), List.take_of_length_le (by rw [bv_len, ha.len]; omega), List.drop_of_length_le (by simp [bv_len, ha.len]), List.append_nil]

/-- the warm slots have turned -/
def MarksPost (T : TypeId) (bw : Nat) (cs : List Value) (l : Nat) (x0 : YMark) (ms : List YMark) (w w' : World) : Prop :=
  ∃ A n c' ms', RowT T w' bw (cs.set 2 (.slice A n c')) ∧ SMarks bw w' A n c' ms' ∧ n ≤ l + 1 ∧ (∀ x, x ∈ ms' ↔ x = x0 ∨ x ∈ ms) ∧ Chg bw w w'

set_option maxHeartbeats 8000000 in
theorem warmSlot_any (T : TypeId) (bw : Nat) (cs : List Value) (w : World) (ao : Option Addr) (l c : Nat) (ms : List YMark) (h : SMarks bw w ao l c ms) (hcs : RowT T w bw cs) (h2 : cs[2]? = some (.slice ao l c)) (hl : l ≤ 1000000)
    (a : List Int) (ha : IsAddr a) (A : Option Addr) (k c2 m : Nat) (hn : Stab bw (fun w => IsNat w A k c2 m) w) (hm : m < BIG) :
    Calls Sakg.prog 107 #[.pointer (some ⟨bw, 0, none⟩), .agg (bv a).toArray, .slice A k c2] w fun e w' => e = .returned (.tuple #[]) ∧ MarksPost T bw cs l (a, m) ms w w' := by
  obtain ⟨i0, hi0, hz0, hz1, hz2⟩ := info_parts infoMark
  have HI0 := hide hi0
  have HZ0 := hide hz0
  have HZ1 := hide hz1
  have HZ2 := hide hz2
  have hb1 : Below w.heap.size w (w.alloc (.cells (bv a).toArray 26)) := (Below.refl _ _).alloc (Nat.le_refl _) _
  have hr1 : RowT 26 (w.alloc (.cells (bv a).toArray 26)) w.heap.size (bv a) := RowT.new _ _ _
  have hbw := hcs.lt
  have hcs1 := hcs.kept hb1
  have HIS := hide (isWarmSlot_any bw _ ao l c ms (h.go (Chg.of hb1)) (by rw [hcs1.cell]; exact h2) hl a ha A k c2 m (hn.go (Chg.of hb1)) hm)
  have HSM := hide h
  obtain ⟨rows, g1, g2⟩ := h
  have HL : Hid (ms.length = l) := hide (by rw [← g2.len, g1.now.len_eq])
  have H := hide (rows_at' ([], 0) g1.now g2)
  have HA := hide ha
  have HN := hide hn
  have HCS := hide hcs
  have hrow0 : SMark bw w (bv a ++ [Value.slice A k c2]) (a, m) := ⟨A, k, c2, rfl, ha, hn, hm⟩
  have HROW0 := hide hrow0
  have HM := hide hm
  clear g1 g2 ha hn hcs hcs1 hi0 hz0 hz1 hz2 hrow0 hm
  go_enter Sakg.func107, Sakg.ntmps107
  by_cases hin : (a, m) ∈ ms
  · rw [decide_eq_true hin] at HIS
    have HIN := hide hin
    clear hin
    go_wp2_with (first
      | ((with_reducible refine at_load 26 ?_); refine wpList_load_g rfl 26 (.tmp 4) rfl _ 0 rfl (bv a) _ hr1.rangeAll Sakg.underlying26 rfl (unhide HA).size ?_)
      | (go_at_call 194; refine (unhide HIS).mono ?_; rintro e w2 ⟨rfl, hb2⟩))
    refine bodyPost_ret (results_none rfl _ _ _) rfl ⟨rfl, ?_⟩
    have hb12 := hb1.trans (hb2.mono (by simp))
    refine ⟨ao, l, c, ms, ?_, (unhide HSM).go (Chg.of hb12), by omega, fun x => ?_, Chg.of hb12⟩
    · rw [set_same h2]
      exact (unhide HCS).kept hb12
    · constructor
      · exact .inr
      · rintro (rfl | h)
        · exact unhide HIN
        · exact h
  · rw [decide_eq_false hin] at HIS
    have HIN := hide hin
    clear hin
    go_upto_region 4 with (first
      | ((with_reducible refine at_load 26 ?_); refine wpList_load_g rfl 26 (.tmp 4) rfl _ 0 rfl (bv a) _ hr1.rangeAll Sakg.underlying26 rfl (unhide HA).size ?_)
      | (go_at_call 194; refine (unhide HIS).mono ?_; rintro e w2 ⟨rfl, hb2⟩))
    have hb12 := hb1.trans (hb2.mono (by simp))
    have hr2 := hr1.kept hb2
    have hs2 : w.heap.size + 1 ≤ w2.heap.size := by have := hb2.size; simp at this; omega
    have hcc2 : w2.cell? ⟨bw, 2, none⟩ = some (.slice ao l c) := by rw [((unhide HCS).kept hb12).cell]; exact h2
    clear hr1 hb1 hb2 HIS
    go_wp2_with fail
    go_loopg [6, 7, 19] l (fun gk v ld ct wr => ∃ (i n : Nat) (laid : Bool) (os : List (List Value)) (mo : List YMark), i + gk = l ∧ ct = .int .i64 i ∧ ld = .bool laid ∧ n = i + laid.toNat ∧ os.length = n ∧ wr.ownsRow (w.heap.size + 1) 288 21 v n os.flatten ∧ Each (SMark bw w) os mo ∧ (∀ x, x ∈ mo ↔ (laid = true ∧ x = (a, m)) ∨ x ∈ ms.take i) ∧ RowT 26 wr w.heap.size (bv a) ∧ Below w.heap.size w wr ∧ w.heap.size + 1 ≤ wr.heap.size)
    case atStart => exact ⟨0, 0, false, [], [], by omega, rfl, rfl, rfl, rfl, World.ownsRow_nil _ _ _ _, trivial, (fun x => by simp), hr2, hb12, hs2⟩
    case round =>
      obtain ⟨i, n, laid, os, mo, hi, rfl, rfl, hn, hol, hown, hea, hmo, hr, hbe, hsz⟩ := hrel
      by_cases hil : i < l
      · obtain ⟨b, off, rfl, hlt, hat⟩ := unhide H (by omega)
        obtain ⟨r, hrg, hrow⟩ := hat i hil
        have hts : ms.take (i + 1) = ms.take i ++ [ms.getD i ([], 0)] := by
          rw [List.take_succ_eq_append_getElem (by have := unhide HL; omega)]
          simp [List.getD, show i < ms.length by have := unhide HL; omega]
        obtain ⟨d, hd⟩ : ∃ d, d = ms.getD i ([], 0) := ⟨_, rfl⟩
        rw [← hd] at hrow hts
        have hrl := hrow.len
        have hrg2 := range_below hrg hbe (fun _ => hlt)
        have heq := fun wx => addr_eq wx a d.1 (unhide HA) hrow.addr
        have hbf := fun wx => before_any a d.1 wx (unhide HA) hrow.addr
        have hszr : (Sakg.prog.info? 288).map (·.size) = some r.length := by rw [hrl]; exact sizeMark
        obtain ⟨A1, k1, c1, q20, s1, s2⟩ := hrow.key
        have HQ := hide q20
        have HS1 := hide s1
        have HS2 := hide s2
        have HRG := hide hrg2
        have HROW := hide hrow
        have HTS := hide hts
        have HSZR := hide hszr
        have HRLX := hide hrl
        have HR := hide hr
        have HOWN := hide hown
        have HOL := hide hol
        have HEA := hide hea
        have HMO := hide hmo
        have HEQ := hide heq
        have HBF := hide hbf
        have HNN := hide hn
        have hnb : n ≤ 1000002 := by cases laid <;> simp at hn <;> omega
        clear hat hrg hrg2 hrow hts hd hr hown hol hea hmo hr2 hb12 hs2 hrl hszr heq hbf hn q20 s1 s2 hcc2
        go_upto_region 7 with (first
          | ((with_reducible refine at_load 288 ?_); refine wpList_load_g rfl 288 (.tmp 21) rfl b _ rfl r _ (unhide HRG) Sakg.underlying288 rfl (unhide HSZR) ?_)
          | ((with_reducible refine at_store 288 ?_); refine wpList_store_whole rfl 288 (.tmp 9) (.tmp 22) rfl _ _ _ r rfl rfl (RowT.new _ _ _) (by rw [unhide HRLX]; rfl) (unhide HSZR) (unhide HROW).one ?_; intro w3 hx3 hon3; have hbb3 := box_below hon3; clear hon3))
        have ha3 := (unhide HR).kept hbb3.1
        have ho3 := own_kept (unhide HOWN) hbb3.1
        have hs3 : wr.heap.size < w3.heap.size := by omega
        have hbe3 : Below w.heap.size w w3 := hbe.trans (hbb3.1.mono (by omega))
        have e20 : w3.cell? ⟨wr.heap.size, 20, none⟩ = some (.slice A1 k1 c1) := by rw [hx3.cell]; exact unhide HQ
        have hown_lt : ∀ k, u6.ownBlock = some k → k < wr.heap.size := fun k hk => ((unhide HOWN).lt k hk).2
        have HNL := hide hown_lt
        have HX3 := hide hx3
        have HA3 := hide ha3
        clear HR HOWN hbe hx3 ha3 hown_lt HRG
        simp only [Act.put]
        go_cut [43] (fun s43 wc => ∃ t, s43 = .bool t ∧ (laid = true → t = false) ∧ Below w3.heap.size w3 wc)
        case first =>
          cases laid with
          | true =>
            go_wp2_with fail
            go_meet
            case rel => exact ⟨false, rfl, fun _ => rfl, Below.refl _ _⟩
          | false =>
            obtain ⟨bf, hbf⟩ : ∃ bf, bf = beforeB a d.1 := ⟨_, rfl⟩
            rw [← hbf] at HBF
            clear hbf
            cases bf with
            | true =>
              go_wp2_with (first
              | ((with_reducible refine at_load (w := w3) 26 ?_); refine wpList_load_g (by rfl) 26 (.tmp 4) rfl _ 0 rfl (bv a) _ (unhide HA3).rangeAll Sakg.underlying26 rfl (unhide HA).size ?_)
              | ((with_reducible refine at_load (w := w3) 26 ?_); refine wpList_load_g (by rfl) 26 (.tmp 27) rfl _ 0 rfl (bv d.1) _ (by have := (unhide HX3).range 0 20; rwa [(unhide HROW).pre] at this) Sakg.underlying26 rfl (unhide HROW).addr.size ?_)
              | (go_at_call 195; refine (unhide HBF _).mono ?_; rintro e w4 ⟨rfl, hb4⟩; have ha4 := (unhide HA3).kept hb4; have hx4 := (unhide HX3).kept hb4; have e204 : w4.cell? ⟨wr.heap.size, 20, none⟩ = some (.slice A1 k1 c1) := (by rw [hx4.cell]; exact unhide HQ)))
              go_meet
              case rel => exact ⟨true, rfl, (fun h => by cases h), hb4⟩
            | false =>
              by_cases hda : a = d.1
              · have heq := unhide HEQ
                rw [decide_eq_true hda] at heq
                clear hda
                go_wp2_with (first
              | ((with_reducible refine at_load (w := w3) 26 ?_); refine wpList_load_g (by rfl) 26 (.tmp 4) rfl _ 0 rfl (bv a) _ (unhide HA3).rangeAll Sakg.underlying26 rfl (unhide HA).size ?_)
              | ((with_reducible refine at_load (w := w3) 26 ?_); refine wpList_load_g (by rfl) 26 (.tmp 27) rfl _ 0 rfl (bv d.1) _ (by have := (unhide HX3).range 0 20; rwa [(unhide HROW).pre] at this) Sakg.underlying26 rfl (unhide HROW).addr.size ?_)
              | (go_at_call 195; refine (unhide HBF _).mono ?_; rintro e w4 ⟨rfl, hb4⟩; have ha4 := (unhide HA3).kept hb4; have hx4 := (unhide HX3).kept hb4; have e204 : w4.cell? ⟨wr.heap.size, 20, none⟩ = some (.slice A1 k1 c1) := (by rw [hx4.cell]; exact unhide HQ))
              | ((with_reducible refine at_load (w := w4) 26 ?_); refine wpList_load_g (by rfl) 26 (.tmp 4) rfl _ 0 rfl (bv a) _ ha4.rangeAll Sakg.underlying26 rfl (unhide HA).size ?_)
              | ((with_reducible refine at_load (w := w4) 26 ?_); refine wpList_load_g (by rfl) 26 (.tmp 32) rfl _ 0 rfl (bv d.1) _ (by have := hx4.range 0 20; rwa [(unhide HROW).pre] at this) Sakg.underlying26 rfl (unhide HROW).addr.size ?_)
              | (go_at_call 68; refine (((unhide HN).go (Chg.of (hbe3.trans (hb4.mono hbe3.size)))).now.cmp ((unhide HS1).go (Chg.of (hbe3.trans (hb4.mono hbe3.size)))).now (unhide HM) (unhide HS2)).mono ?_; rintro e w5 ⟨rfl, hq⟩))
                go_meet
                case rel => exact ⟨_, rfl, (fun h => by cases h), hb4.trans ((hq.below _).mono hb4.size)⟩
              · have heq := unhide HEQ
                rw [decide_eq_false hda] at heq
                clear hda
                go_wp2_with (first
              | ((with_reducible refine at_load (w := w3) 26 ?_); refine wpList_load_g (by rfl) 26 (.tmp 4) rfl _ 0 rfl (bv a) _ (unhide HA3).rangeAll Sakg.underlying26 rfl (unhide HA).size ?_)
              | ((with_reducible refine at_load (w := w3) 26 ?_); refine wpList_load_g (by rfl) 26 (.tmp 27) rfl _ 0 rfl (bv d.1) _ (by have := (unhide HX3).range 0 20; rwa [(unhide HROW).pre] at this) Sakg.underlying26 rfl (unhide HROW).addr.size ?_)
              | (go_at_call 195; refine (unhide HBF _).mono ?_; rintro e w4 ⟨rfl, hb4⟩; have ha4 := (unhide HA3).kept hb4; have hx4 := (unhide HX3).kept hb4; have e204 : w4.cell? ⟨wr.heap.size, 20, none⟩ = some (.slice A1 k1 c1) := (by rw [hx4.cell]; exact unhide HQ))
              | ((with_reducible refine at_load (w := w4) 26 ?_); refine wpList_load_g (by rfl) 26 (.tmp 4) rfl _ 0 rfl (bv a) _ ha4.rangeAll Sakg.underlying26 rfl (unhide HA).size ?_)
              | ((with_reducible refine at_load (w := w4) 26 ?_); refine wpList_load_g (by rfl) 26 (.tmp 32) rfl _ 0 rfl (bv d.1) _ (by have := hx4.range 0 20; rwa [(unhide HROW).pre] at this) Sakg.underlying26 rfl (unhide HROW).addr.size ?_)
              | (go_at_call 68; refine (((unhide HN).go (Chg.of (hbe3.trans (hb4.mono hbe3.size)))).now.cmp ((unhide HS1).go (Chg.of (hbe3.trans (hb4.mono hbe3.size)))).now (unhide HM) (unhide HS2)).mono ?_; rintro e w5 ⟨rfl, hq⟩))
                go_meet
                case rel => exact ⟨false, rfl, (fun h => by cases h), hb4⟩
        case rest =>
          obtain ⟨t, rfl, hlt, hb4⟩ := hcut
          have ha4 := (unhide HA3).kept hb4
          have hx4 := (unhide HX3).kept hb4
          have ho4 := own_kept ho3 hb4
          have hs4 := hb4.size
          have hbe4 : Below w.heap.size w wc := hbe3.trans (hb4.mono (by omega))
          clear ho3 hbe3 hb4 HA3 HX3 HBF HEQ e20
          go_upto_if 43 with fail
          go_cut [6, 7] (fun v ld wy => ∃ (n' : Nat) (laid' : Bool) (os' : List (List Value)) (mo' : List YMark), ld = .bool laid' ∧ n' = i + laid'.toNat ∧ os'.length = n' ∧ wy.ownsRow (w.heap.size + 1) 288 21 v n' os'.flatten ∧ Each (SMark bw w) os' mo' ∧ (∀ x, x ∈ mo' ↔ (laid' = true ∧ x = (a, m)) ∨ x ∈ ms.take i) ∧ RowT 26 wy w.heap.size (bv a) ∧ RowT 288 wy wr.heap.size r ∧ Below w.heap.size w wy ∧ wr.heap.size < wy.heap.size)
          case first =>
            cases t with
            | true =>
              obtain rfl : laid = false := by cases laid; rfl; exact absurd (hlt rfl) (by simp)
              clear hlt
              go_wp2_with (first
                | ((with_reducible refine at_load 26 ?_); refine wpList_load_g rfl 26 (.tmp 4) rfl _ 0 rfl (bv a) _ ha4.rangeAll Sakg.underlying26 rfl (unhide HA).size ?_)
                | ((with_reducible refine at_build 288 ?_); refine wpList_build_struct rfl 288 _ rfl _ placesMark i0 _ (unhide HI0) (unhide HZ0) (bv (zeros 20) ++ [nilS]) rfl (bv a ++ [Value.slice A k c2]) (build_mark a (unhide HA) A k c2) ?_)
                | ((with_reducible refine at_buildSlice ?_); refine wpList_build_one rfl 98 (.tmp 47) rfl 288 21 Sakg.underlying98 i0 _ (unhide HI0) (unhide HZ0) (unhide HZ1) rfl (by omega) (by omega) (bv a ++ [Value.slice A k c2]) rfl (unhide HROW0).len ?_)
                | ((with_reducible refine at_append ?_); refine wpList_append_one rfl (.tmp 44) (.tmp 48) 98 rfl 288 21 48 Sakg.underlying98 i0 _ (unhide HI0) (unhide HZ0) (unhide HZ1) (unhide HZ2) rfl (by omega) (w.heap.size + 1) _ _ _ rfl (own_kept ho4 ((Below.refl _ _).alloc (Nat.le_refl _) _)) _ _ (bv a ++ [Value.slice A k c2]) rfl (RowT.new _ _ _) (unhide HROW0).len (unhide HROW0).one (by omega) (by omega) (by simp; omega) ?_; intro v5 w5 ho5 hb5 hg5))
              have hs5 := hb5.size
              simp at hs5
              have hbw5 : Below (w.heap.size + 1) wc w5 := ((Below.refl _ _).alloc (by omega) _).trans hb5
              have hx5 := (hx4.alloc _).grown hg5 (by intro hh; have := unhide HNL _ hh.symm; omega)
              go_meet
              case rel =>
                refine ⟨n + 1, true, os ++ [_], mo ++ [(a, m)], rfl, by have := unhide HNN; simp at this ⊢; omega, by simp [unhide HOL], ho5, (unhide HEA).snoc (unhide HROW0), fun x => ?_, ha4.below hbw5 (by omega), hx5, hbe4.trans (hbw5.mono (by omega)), by omega⟩
                rw [List.mem_append, unhide HMO x]
                simp [or_comm]
            | false =>
              go_wp2_with fail
              go_meet
              case rel => exact ⟨n, laid, os, mo, rfl, unhide HNN, unhide HOL, ho4, unhide HEA, unhide HMO, ha4, hx4, hbe4, by omega⟩
          case rest =>
            obtain ⟨n', laid', os', mo', rfl, hn', hol', hown', hea', hmo', ha6, hx6, hbe6, hs6⟩ := hcut
            have HN' := hide hn'
            have HOL' := hide hol'
            have HOWN' := hide hown'
            have HEA' := hide hea'
            have HMO' := hide hmo'
            have HA6 := hide ha6
            have HX6 := hide hx6
            have hnb' : n' ≤ 1000002 := by cases laid' <;> simp at hn' <;> omega
            clear hn' hol' hown' hea' hmo' ha6 hx6 ha4 hx4 ho4 hbe4 hs4 HNN HNL HEA HOL HMO
            go_wp2_with (first
              | ((with_reducible refine at_load 288 ?_); refine wpList_load_g rfl 288 (.tmp 9) rfl _ 0 rfl r _ (unhide HX6).rangeAll Sakg.underlying288 rfl (unhide HSZR) ?_)
              | ((with_reducible refine at_buildSlice ?_); refine wpList_build_one rfl 98 (.tmp 51) rfl 288 21 Sakg.underlying98 i0 _ (unhide HI0) (unhide HZ0) (unhide HZ1) rfl (by omega) (by omega) r rfl (unhide HRLX) ?_)
              | ((with_reducible refine at_append ?_); refine wpList_append_one rfl (.tmp 50) (.tmp 52) 98 rfl 288 21 48 Sakg.underlying98 i0 _ (unhide HI0) (unhide HZ0) (unhide HZ1) (unhide HZ2) rfl (by omega) (w.heap.size + 1) _ _ _ rfl (own_kept (unhide HOWN') ((Below.refl _ _).alloc (Nat.le_refl _) _)) _ _ r rfl (RowT.new _ _ _) (unhide HRLX) (unhide HROW).one (by omega) (by omega) (by simp; omega) ?_; intro v7 w7 ho7 hb7 hg7))
            have hs7 := hb7.size
            simp at hs7
            have hbw7 : Below (w.heap.size + 1) wc w7 := ((Below.refl _ _).alloc (by omega) _).trans hb7
            go_roundg (gk - 1)
            case measure => omega
            case rel =>
              refine ⟨i + 1, n' + 1, laid', os' ++ [r], mo' ++ [d], by omega, by go_num, rfl, by have := unhide HN'; omega, by simp [unhide HOL'], ho7, (unhide HEA').snoc (unhide HROW), fun x => ?_, (unhide HA6).below hbw7 (by omega), hbe6.trans (hbw7.mono (by omega)), by omega⟩
              rw [List.mem_append, unhide HMO' x, unhide HTS, List.mem_append, or_assoc]
      · obtain rfl : i = l := by omega
        rw [List.take_of_length_le (by have := unhide HL; omega)] at hmo
        have HMO := hide hmo
        have HR := hide hr
        have HOWN := hide hown
        have HOL := hide hol
        have HEA := hide hea
        have hcr : RowT T wr bw cs := (unhide HCS).below hbe hbw
        have hcc : wr.cell? ⟨bw, 2, none⟩ = some (.slice ao i c) := by rw [hcr.cell]; exact h2
        have hcf := hcr.froz 2
        have HCR := hide hcr
        have hnb : n ≤ 1000002 := by cases laid <;> simp at hn <;> omega
        have HNN := hide hn
        clear hr hown hol hea hmo hr2 hb12 hs2 hcr hn hcc2
        cases laid with
        | true =>
          obtain ⟨A', c', rfl, hrw⟩ := own_rws (unhide HOWN) ((unhide HEA).all (fun _ _ h => h.len)) (unhide HOL)
          have hlt := ((unhide HOWN).lt)
          have HRW := hide hrw
          have HLT := hide hlt
          clear hrw hlt HOWN
          go_wp2
          refine bodyPost_done rfl rfl ⟨rfl, ?_⟩
          have hon : Only bw wr (wr.setCell ⟨bw, 2, none⟩ (.slice A' n c')) := (Only.refl _ _).setCell _ _
          have hcw : Chg bw w wr := Chg.of hbe
          have hnw : New w A' := by
            intro x hx
            subst hx
            have := unhide HLT x.block rfl
            omega
          refine ⟨A', n, c', mo, (unhide HCR).set 2 _, ⟨os, Stab.rws ((unhide HRW).only hon (hnw.off hbw _)) (hnw.off hbw _), (unhide HEA).imp fun _ _ h => h.go (hcw.trans (Chg.ofOnly hon))⟩, by have := unhide HNN; simp at this; omega, fun x => ?_, hcw.trans (Chg.ofOnly hon)⟩
          rw [unhide HMO x]; simp
        | false =>
          go_wp2_with (first
            | ((with_reducible refine at_load 26 ?_); refine wpList_load_g rfl 26 (.tmp 4) rfl _ 0 rfl (bv a) _ (unhide HR).rangeAll Sakg.underlying26 rfl (unhide HA).size ?_)
            | ((with_reducible refine at_build 288 ?_); refine wpList_build_struct rfl 288 _ rfl _ placesMark i0 _ (unhide HI0) (unhide HZ0) (bv (zeros 20) ++ [nilS]) rfl (bv a ++ [Value.slice A k c2]) (build_mark a (unhide HA) A k c2) ?_)
            | ((with_reducible refine at_buildSlice ?_); refine wpList_build_one rfl 98 (.tmp 60) rfl 288 21 Sakg.underlying98 i0 _ (unhide HI0) (unhide HZ0) (unhide HZ1) rfl (by omega) (by omega) (bv a ++ [Value.slice A k c2]) rfl (unhide HROW0).len ?_)
            | ((with_reducible refine at_append ?_); refine wpList_append_one rfl (.tmp 57) (.tmp 61) 98 rfl 288 21 48 Sakg.underlying98 i0 _ (unhide HI0) (unhide HZ0) (unhide HZ1) (unhide HZ2) rfl (by omega) (w.heap.size + 1) _ _ _ rfl (own_kept (unhide HOWN) ((Below.refl _ _).alloc (Nat.le_refl _) _)) _ _ (bv a ++ [Value.slice A k c2]) rfl (RowT.new _ _ _) (unhide HROW0).len (unhide HROW0).one (by omega) (by omega) (by simp; omega) ?_; intro v5 w5 ho5 hb5 hg5; have hlt := ho5.lt; obtain ⟨A', c', rfl, hrw⟩ := own_rws ho5 (((unhide HEA).snoc (unhide HROW0)).all (fun _ _ h => h.len)) (by simp [unhide HOL]); have hbw5 : Below (w.heap.size + 1) wr w5 := ((Below.refl _ _).alloc (by omega) _).trans hb5; have hcr5 := (unhide HCR).below hbw5 (by omega); have hcc5 : w5.cell? ⟨bw, 2, none⟩ = some (.slice ao i c) := by { rw [hcr5.cell]; exact h2 }; have hcf5 := hcr5.froz 2; have HRW := hide hrw; have HLT := hide hlt; clear hrw hlt ho5))
          refine bodyPost_done rfl rfl ⟨rfl, ?_⟩
          have hon : Only bw w5 (w5.setCell ⟨bw, 2, none⟩ (.slice A' (n + 1) c')) := (Only.refl _ _).setCell _ _
          have hcw : Chg bw w w5 := Chg.of (hbe.trans (hbw5.mono (by omega)))
          have hnw : New w A' := by
            intro x hx
            subst hx
            have := unhide HLT x.block rfl
            omega
          refine ⟨A', n + 1, c', mo ++ [(a, m)], hcr5.set 2 _, ⟨os ++ [_], Stab.rws ((unhide HRW).only hon (hnw.off hbw _)) (hnw.off hbw _), ((unhide HEA).snoc (unhide HROW0)).imp fun _ _ h => h.go (hcw.trans (Chg.ofOnly hon))⟩, by have := unhide HNN; simp at this; omega, fun x => ?_, hcw.trans (Chg.ofOnly hon)⟩
          rw [List.mem_append, unhide HMO x]
          simp [or_comm]

end Go.Proofs.YgcsakGreat
