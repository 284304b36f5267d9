/-
  yp: tstore.
-/
import Derived.Test.YgcsakGreatKsE
namespace Go.Proofs.YgcsakGreat
set_option linter.unusedVariables false
set_option linter.unusedSimpArgs false
set_option maxRecDepth 100000
open Go.RowKit

theorem infoTemp : (Sakg.prog.info? 363).map (fun i => (i.zero, i.size, i.bytes)) = some (some (.agg (bv (zeros 20) ++ [nilS, nilS]).toArray), 22, 72) := by kernel_rfl
theorem placesTemp : PlacesOf 363 #[(0, 20), (20, 1), (21, 1)] := ⟨by kernel_rfl, fun w => by kernel_rfl⟩
theorem build_temp (a : List Int) (ha : IsAddr a) (A B : Option Addr) (k c k' c' : Nat) : Instr.fill ((#[(0, 20), (20, 1), (21, 1)] : Array (Nat × Nat))[·]?) (bv (zeros 20) ++ [nilS, nilS]).toArray [(0, .agg (bv a).toArray), (1, .slice A k c), (2, .slice B k' c')] = some (bv a ++ [Value.slice A k c, .slice B k' c']).toArray := by
  rw [fill_cons _ _ 0 (.agg (bv a).toArray) _ 0 20 rfl (bv a) rfl (by rw [bv_len]; exact ha.len) (by simp [bv_len, zeros_len])]
  have e : spl (bv (zeros 20) ++ [nilS, nilS]) 0 (bv a) = bv a ++ [nilS, nilS] := by
    unfold spl
    rw [bv_len, ha.len, List.take_zero, List.nil_append, Nat.zero_add, List.drop_append_of_le_length (by simp [bv_len, zeros_len]), List.drop_of_length_le (by simp [bv_len, zeros_len])]
    rfl
  rw [e, fill_cons _ _ 1 (.slice A k c) _ 20 1 rfl [.slice A k c] rfl rfl (by simp [bv_len, ha.len])]
  have e2 : spl (bv a ++ [nilS, nilS]) 20 [Value.slice A k c] = bv a ++ [Value.slice A k c, nilS] := by
    unfold spl
    rw [List.take_append_of_le_length (by rw [bv_len, ha.len]; omega), List.take_of_length_le (by rw [bv_len, ha.len]; omega), List.drop_append, List.drop_of_length_le (by simp [bv_len, ha.len]), bv_len, ha.len]
    simp
  rw [e2, fill_cons _ _ 2 (.slice B k' c') [] 21 1 rfl [.slice B k' c'] rfl rfl (by simp [bv_len, ha.len]), Instr.fill]
  congr 2
  unfold spl
  rw [List.take_append, List.take_of_length_le (by rw [bv_len, ha.len]; omega), List.drop_of_length_le (by simp [bv_len, ha.len]), bv_len, ha.len]
  simp

set_option maxHeartbeats 16000000 in
theorem CW.tstore {G : Nat → Prop} {bw : Nat} {cs : List Value} {d : WD} {w : World} {B : Nat} (h : CW G bw cs d w) (hg : Good B d) (a : List Int) (ha : IsAddr a) (A : Option Addr) (k c2 m : Nat) (hn : KNat G w A k c2 m) (hm : m < P256)
    (A' : Option Addr) (k' c2' v : Nat) (hn' : KNat G w A' k' c2' v) (hv : v < P256) :
    Calls Sakg.prog 312 #[.pointer (some ⟨bw, 0, none⟩), .agg (bv a).toArray, .slice A k c2, .slice A' k' c2'] w fun e w' => e = .returned (.tuple #[]) ∧ ∃ ts, ts.length ≤ d.temps.length + 1 ∧ (∀ t ∈ ts, t = ⟨a, m, v⟩ ∨ t ∈ d.temps) ∧ WPost G bw cs { d with temps := ts } w w' := by
  have hb1 : Below w.heap.size w (w.alloc (.cells (bv a).toArray 26)) := (Below.refl _ _).alloc (Nat.le_refl _) _
  have hr1 : RowT 26 (w.alloc (.cells (bv a).toArray 26)) w.heap.size (bv a) := RowT.new _ _ _
  obtain ⟨i0, hi0, hz0, hz1, hz2⟩ := info_parts infoTemp
  have HI0 := hide hi0
  have HZ0 := hide hz0
  have HZ1 := hide hz1
  have HZ2 := hide hz2
  have hmB : m < BIG := Nat.lt_trans hm p256_lt
  have hvB : v < BIG := Nat.lt_trans hv p256_lt
  have hbw := h.lt
  obtain ⟨ao, l, c, h5, ⟨rows, g1, g2⟩⟩ := h.kw.temps
  have HL : Hid (d.temps.length = l) := hide (by rw [← g2.len, g1.now.len_eq])
  have hl : l ≤ 900000 := by have := hg.nt; have := unhide HL; omega
  have H := hide (rows_at' (⟨[], 0, 0⟩ : YTemp) g1.now g2)
  have HZI := hide (isZero_any A' k' c2' v _ (hn'.kp (ChgS.of hb1)).now hvB)
  have hrow0 : KTemp G w (bv a ++ [.slice A k c2, .slice A' k' c2']) ⟨a, m, v⟩ := ⟨A, k, c2, A', k', c2', rfl, ha, hn, hn', hmB, hvB⟩
  have HROW0 := hide hrow0
  have hG := h.ther
  have hgb := h.g
  obtain ⟨ms, hms⟩ : ∃ ms, ms = d.temps := ⟨_, rfl⟩
  rw [← hms] at H HL
  have hcell : ∀ wz, Below w.heap.size w wz → wz.cell? ⟨bw, 5, none⟩ = some (.slice ao l c) := fun wz hz => by rw [(h.kept hz).row.cell]; exact h5
  have HCELL := hide hcell
  have HA := hide ha
  have HW := hide h
  have HN := hide hn
  have HMS := hide hms
  clear h ha hn hn' hg hi0 hz0 hz1 hz2 g1 g2 hrow0 hms hcell
  go_enter Sakg.func312, Sakg.ntmps312
  go_upto_region 3 with (go_at_call 130; refine (unhide HZI).mono ?_; rintro e w2 ⟨rfl, hq2⟩; have hb2' := hq2.below; have hs2' := hq2.size; clear hq2)
  have hb2 : Below w.heap.size w w2 := hb1.trans (hb2' _)
  have hs2 : w2.heap.size = w.heap.size + 1 := by rw [hs2']; simp
  have hr2 : RowT 26 w2 w.heap.size (bv a) := hr1.kept (hb2' _)
  have hc2 := unhide HCELL w2 hb2
  obtain ⟨l0, hl0⟩ : ∃ l0, l0 = decide (v = 0) := ⟨_, rfl⟩
  rw [← hl0]
  clear hr1 hb1 hb2' hs2' HZI hl0
  go_wp2_with fail
  go_loopg [8, 9, 20] l (fun gk vv ld ct wr => ∃ (i n : Nat) (laid : Bool) (os : List (List Value)) (mo : List YTemp), i + gk = l ∧ ct = .int .i64 i ∧ ld = .bool laid ∧ n ≤ i + 1 ∧ (laid = false → n ≤ i) ∧ os.length = n ∧ wr.ownsRow (w.heap.size + 1) 363 22 vv n os.flatten ∧ Each (KTemp G w) os mo ∧ (∀ x ∈ mo, x = ⟨a, m, v⟩ ∨ x ∈ ms) ∧ RowT 26 wr w.heap.size (bv a) ∧ Below w.heap.size w wr ∧ w.heap.size + 1 ≤ wr.heap.size)
  case atStart => exact ⟨0, 0, l0, [], [], by omega, rfl, rfl, by omega, by omega, rfl, World.ownsRow_nil _ _ _ _, trivial, (fun x hx => by simp at hx), hr2, hb2, by omega⟩
  case round =>
    obtain ⟨i, n, laid, os, mo, hi, rfl, rfl, hn, hn0, hol, hown, hea, hmo, hr, hbe, hsz⟩ := hrel
    have HNN := hide hn
    have HN0 := hide hn0
    have HOL := hide hol
    have HOWN := hide hown
    have HEA := hide hea
    have HMO := hide hmo
    have HR := hide hr
    clear hn hn0 hol hown hea hmo hr hr2 hb2 hs2 hc2
    by_cases hil : i < l
    · obtain ⟨b, off, rfl, hlt, hat⟩ := unhide H (by omega)
      obtain ⟨r, hrg, hrow⟩ := hat i hil
      have hmem : ms.getD i ⟨[], 0, 0⟩ ∈ ms := by
        rw [List.getD_eq_getElem?_getD, List.getElem?_eq_getElem (by have := unhide HL; omega)]; simp
      obtain ⟨x, hx⟩ : ∃ x, x = ms.getD i ⟨[], 0, 0⟩ := ⟨_, rfl⟩
      rw [← hx] at hrow hmem
      have hrl := hrow.len
      have hrg2 := range_below hrg hbe (fun _ => hlt)
      have heq := fun wx => addr_eq wx x.addr a hrow.isAddr (unhide HA)
      have heq2 := fun wx => addr_eq wx a x.addr (unhide HA) hrow.isAddr
      have hbf := fun wx => before_any a x.addr wx (unhide HA) hrow.isAddr
      have hszr : (Sakg.prog.info? 363).map (·.size) = some r.length := by rw [hrl]; exact sizeTemp
      obtain ⟨A1, k1, c1, A2, k2, c2'', q20, q21, s1, s2, s3, s4⟩ := hrow.cells
      have HQ := hide q20
      have HS1 := hide s1
      have HRG := hide hrg2
      have HROW := hide hrow
      have HMEM := hide hmem
      have HSZR := hide hszr
      have HRLX := hide hrl
      have HEQ := hide heq
      have HEQ2 := hide heq2
      have HBF := hide hbf
      clear hat hrg hrg2 hrow hx hrl hszr heq heq2 hbf q20 q21 s1 s2 hmem
      go_upto_region 6 with (first
        | ((with_reducible refine at_load 363 ?_); refine wpList_load_g rfl 363 (.tmp 22) rfl b _ rfl r _ (unhide HRG) Sakg.underlying363 rfl (unhide HSZR) ?_)
        | ((with_reducible refine at_store 363 ?_); refine wpList_store_whole rfl 363 (.tmp 11) (.tmp 23) rfl _ _ _ r rfl rfl (RowT.new _ _ _) (by rw [unhide HRLX]; rfl) (unhide HSZR) (unhide HROW).one ?_; intro w3 hx3 hon3; have hbb3 := box_below hon3; clear hon3))
      have ha3 := (unhide HR).kept hbb3.1
      have ho3 := own_kept (unhide HOWN) hbb3.1
      have hs3 : wr.heap.size < w3.heap.size := by omega
      have hbe3 : Below w.heap.size w w3 := hbe.trans (hbb3.1.mono (by omega))
      have e20 : w3.cell? ⟨wr.heap.size, 20, none⟩ = some (.slice A1 k1 c1) := by rw [hx3.cell]; exact unhide HQ
      have hown_lt : ∀ k, u8.ownBlock = some k → k < wr.heap.size := fun k hk => ((unhide HOWN).lt k hk).2
      have HNL := hide hown_lt
      have HX3 := hide hx3
      have HA3 := hide ha3
      have HO3 := hide ho3
      have HCMP := hide (((unhide HS1).kp (ChgS.of hbe3)).now.cmp ((unhide HN).kp (ChgS.of hbe3)).now s3 hmB)
      clear HR HOWN hbe hx3 ha3 hown_lt HRG ho3
      simp only [Act.put]
      go_cut [12] (fun s12 wc => (∃ t, s12 = .bool t) ∧ Below w3.heap.size w3 wc)
      case first =>
        have heq := unhide HEQ
        by_cases hda : x.addr = a
        · rw [decide_eq_true hda] at heq
          clear hda
          generalize cmpI x.key m = cr at *
          go_wp2_with (first
            | ((with_reducible refine at_load 26 ?_); refine wpList_load_g rfl 26 (.tmp 24) rfl _ 0 rfl (bv x.addr) _ (by have := (unhide HX3).range 0 20; rwa [(unhide HROW).pre] at this) Sakg.underlying26 rfl (unhide HROW).isAddr.size ?_)
            | ((with_reducible refine at_load 26 ?_); refine wpList_load_g rfl 26 (.tmp 5) rfl _ 0 rfl (bv a) _ (unhide HA3).rangeAll Sakg.underlying26 rfl (unhide HA).size ?_)
            | (go_at_call 68; refine (unhide HCMP).mono ?_; rintro e w4 ⟨rfl, hq⟩))
          go_meet
          case rel => exact ⟨⟨_, rfl⟩, hq.below _⟩
        · rw [decide_eq_false hda] at heq
          clear hda
          go_wp2_with (first
            | ((with_reducible refine at_load 26 ?_); refine wpList_load_g rfl 26 (.tmp 24) rfl _ 0 rfl (bv x.addr) _ (by have := (unhide HX3).range 0 20; rwa [(unhide HROW).pre] at this) Sakg.underlying26 rfl (unhide HROW).isAddr.size ?_)
            | ((with_reducible refine at_load 26 ?_); refine wpList_load_g rfl 26 (.tmp 5) rfl _ 0 rfl (bv a) _ (unhide HA3).rangeAll Sakg.underlying26 rfl (unhide HA).size ?_))
          go_meet
          case rel => exact ⟨⟨_, rfl⟩, Below.refl _ _⟩
      case rest =>
      obtain ⟨⟨same, rfl⟩, hb4⟩ := hcut
      obtain ⟨w4, hw4⟩ : ∃ w4, w4 = wc := ⟨_, rfl⟩
      subst hw4
      have ha4 := (unhide HA3).kept hb4
      have hx4 := (unhide HX3).kept hb4
      have ho4 := own_kept (unhide HO3) hb4
      have hs4 : wr.heap.size < w4.heap.size := Nat.lt_of_lt_of_le hs3 hb4.size
      have hbe4 : Below w.heap.size w w4 := hbe3.trans (hb4.mono hbe3.size)
      have HA4 := hide ha4
      have HX4 := hide hx4
      have HO4 := hide ho4
      clear ha4 hx4 ho4 HA3 HX3 HO3 hbe3 hb4 hbb3 e20 HCMP hs3 HEQ
      go_upto_region 7 with fail
      go_cut [58] (fun s58 wc => ∃ t, s58 = .bool t ∧ (laid = true → t = false) ∧ Below w4.heap.size w4 wc)
      case first =>
        cases laid with
        | true =>
          go_wp2_with fail
          go_meet
          case rel => exact ⟨false, rfl, fun _ => rfl, Below.refl _ _⟩
        | false =>
          cases same with
          | true =>
            go_wp2_with fail
            go_meet
            case rel => exact ⟨true, rfl, (fun h => by cases h), Below.refl _ _⟩
          | false =>
            obtain ⟨bf, hbf⟩ : ∃ bf, bf = beforeB a x.addr := ⟨_, rfl⟩
            rw [← hbf] at HBF
            clear hbf
            cases bf with
            | true =>
              go_wp2_with (first
                | ((with_reducible refine at_load (w := w4) 26 ?_); refine wpList_load_g (by rfl) 26 (.tmp 5) rfl _ 0 rfl (bv a) _ (unhide HA4).rangeAll Sakg.underlying26 rfl (unhide HA).size ?_)
                | ((with_reducible refine at_load (w := w4) 26 ?_); refine wpList_load_g (by rfl) 26 (.tmp 41) rfl _ 0 rfl (bv x.addr) _ (by have := (unhide HX4).range 0 20; rwa [(unhide HROW).pre] at this) Sakg.underlying26 rfl (unhide HROW).isAddr.size ?_)
                | (go_at_call 195; refine (unhide HBF _).mono ?_; rintro e w5 ⟨rfl, hb5⟩))
              go_meet
              case rel => exact ⟨true, rfl, (fun h => by cases h), hb5⟩
            | false =>
              have heq := unhide HEQ2
              by_cases hda : a = x.addr
              · rw [decide_eq_true hda] at heq
                clear hda
                go_wp2_with (first
                  | ((with_reducible refine at_load (w := w4) 26 ?_); refine wpList_load_g (by rfl) 26 (.tmp 5) rfl _ 0 rfl (bv a) _ (unhide HA4).rangeAll Sakg.underlying26 rfl (unhide HA).size ?_)
                  | ((with_reducible refine at_load (w := w4) 26 ?_); refine wpList_load_g (by rfl) 26 (.tmp 41) rfl _ 0 rfl (bv x.addr) _ (by have := (unhide HX4).range 0 20; rwa [(unhide HROW).pre] at this) Sakg.underlying26 rfl (unhide HROW).isAddr.size ?_)
                  | (go_at_call 195; refine (unhide HBF _).mono ?_; rintro e w5 ⟨rfl, hb5⟩; have ha5 := (unhide HA4).kept hb5; have hx5 := (unhide HX4).kept hb5; have e205 : w5.cell? ⟨wr.heap.size, 20, none⟩ = some (.slice A1 k1 c1) := (by rw [hx5.cell]; exact unhide HQ); have hbe5 := hbe4.trans (hb5.mono hbe4.size))
                  | ((with_reducible refine at_load (w := w5) 26 ?_); refine wpList_load_g (by rfl) 26 (.tmp 5) rfl _ 0 rfl (bv a) _ ha5.rangeAll Sakg.underlying26 rfl (unhide HA).size ?_)
                  | ((with_reducible refine at_load (w := w5) 26 ?_); refine wpList_load_g (by rfl) 26 (.tmp 47) rfl _ 0 rfl (bv x.addr) _ (by have := hx5.range 0 20; rwa [(unhide HROW).pre] at this) Sakg.underlying26 rfl (unhide HROW).isAddr.size ?_)
                  | (go_at_call 68; refine (((unhide HN).kp (ChgS.of hbe5)).now.cmp ((unhide HS1).kp (ChgS.of hbe5)).now hmB s3).mono ?_; rintro e w6 ⟨rfl, hq⟩))
                go_meet
                case rel => exact ⟨_, rfl, (fun h => by cases h), hb5.trans ((hq.below _).mono hb5.size)⟩
              · rw [decide_eq_false hda] at heq
                clear hda
                go_wp2_with (first
                  | ((with_reducible refine at_load (w := w4) 26 ?_); refine wpList_load_g (by rfl) 26 (.tmp 5) rfl _ 0 rfl (bv a) _ (unhide HA4).rangeAll Sakg.underlying26 rfl (unhide HA).size ?_)
                  | ((with_reducible refine at_load (w := w4) 26 ?_); refine wpList_load_g (by rfl) 26 (.tmp 41) rfl _ 0 rfl (bv x.addr) _ (by have := (unhide HX4).range 0 20; rwa [(unhide HROW).pre] at this) Sakg.underlying26 rfl (unhide HROW).isAddr.size ?_)
                  | (go_at_call 195; refine (unhide HBF _).mono ?_; rintro e w5 ⟨rfl, hb5⟩; have ha5 := (unhide HA4).kept hb5; have hx5 := (unhide HX4).kept hb5)
                  | ((with_reducible refine at_load (w := w5) 26 ?_); refine wpList_load_g (by rfl) 26 (.tmp 5) rfl _ 0 rfl (bv a) _ ha5.rangeAll Sakg.underlying26 rfl (unhide HA).size ?_)
                  | ((with_reducible refine at_load (w := w5) 26 ?_); refine wpList_load_g (by rfl) 26 (.tmp 47) rfl _ 0 rfl (bv x.addr) _ (by have := hx5.range 0 20; rwa [(unhide HROW).pre] at this) Sakg.underlying26 rfl (unhide HROW).isAddr.size ?_))
                go_meet
                case rel => exact ⟨false, rfl, (fun h => by cases h), hb5⟩
      case rest =>
        obtain ⟨t, rfl, hlt, hb6⟩ := hcut
        obtain ⟨w6, hw6⟩ : ∃ w6, w6 = wc := ⟨_, rfl⟩
        subst hw6
        have ha6 := (unhide HA4).kept hb6
        have hx6 := (unhide HX4).kept hb6
        have ho6 := own_kept (unhide HO4) hb6
        have hs6 := Nat.lt_of_lt_of_le hs4 hb6.size
        have hbe6 : Below w.heap.size w w6 := hbe4.trans (hb6.mono hbe4.size)
        have HX6 := hide hx6
        have HA6 := hide ha6
        have HO6 := hide ho6
        clear HA4 HX4 HO4 hbe4 hb6 hs4 HBF HEQ2 ha6 hx6 ho6
        go_upto_if 58 with fail
        go_cut [8, 9] (fun vv ld wy => ∃ (n' : Nat) (laid' : Bool) (os' : List (List Value)) (mo' : List YTemp), ld = .bool laid' ∧ n' ≤ i + 1 ∧ (laid' = false → n' ≤ i) ∧ os'.length = n' ∧ wy.ownsRow (w.heap.size + 1) 363 22 vv n' os'.flatten ∧ Each (KTemp G w) os' mo' ∧ (∀ x ∈ mo', x = ⟨a, m, v⟩ ∨ x ∈ ms) ∧ RowT 26 wy w.heap.size (bv a) ∧ RowT 363 wy wr.heap.size r ∧ Below w.heap.size w wy ∧ wr.heap.size < wy.heap.size)
        case first =>
          cases t with
          | true =>
            obtain rfl : laid = false := by cases laid; rfl; exact absurd (hlt rfl) (by simp)
            clear hlt
            have hn1 := unhide HN0 rfl
            go_wp2_with (first
              | ((with_reducible refine at_load 26 ?_); refine wpList_load_g rfl 26 (.tmp 5) rfl _ 0 rfl (bv a) _ (unhide HA6).rangeAll Sakg.underlying26 rfl (unhide HA).size ?_)
              | ((with_reducible refine at_build 363 ?_); refine wpList_build_struct rfl 363 _ rfl _ placesTemp i0 _ (unhide HI0) (unhide HZ0) (bv (zeros 20) ++ [nilS, nilS]) rfl (bv a ++ [Value.slice A k c2, .slice A' k' c2']) (build_temp a (unhide HA) A A' k c2 k' c2') ?_)
              | ((with_reducible refine at_buildSlice ?_); refine wpList_build_one rfl 99 (.tmp 63) rfl 363 22 Sakg.underlying99 i0 _ (unhide HI0) (unhide HZ0) (unhide HZ1) rfl (by omega) (by omega) (bv a ++ [Value.slice A k c2, .slice A' k' c2']) rfl (unhide HROW0).len ?_)
              | ((with_reducible refine at_append ?_); refine wpList_append_one rfl (.tmp 59) (.tmp 64) 99 rfl 363 22 72 Sakg.underlying99 i0 _ (unhide HI0) (unhide HZ0) (unhide HZ1) (unhide HZ2) rfl (by omega) (w.heap.size + 1) _ _ _ rfl (own_kept (unhide HO6) ((Below.refl _ _).alloc (Nat.le_refl _) _)) _ _ (bv a ++ [Value.slice A k c2, .slice A' k' c2']) rfl (RowT.new _ _ _) (unhide HROW0).len (unhide HROW0).one (by omega) (by omega) (by simp; omega) ?_; intro v7 w7 ho7 hb7 hg7))
            have hs7 := hb7.size
            simp at hs7
            have hbw7 : Below (w.heap.size + 1) w6 w7 := ((Below.refl _ _).alloc (by omega) _).trans hb7
            have hx7 := ((unhide HX6).alloc _).grown hg7 (by intro hh; have := unhide HNL _ hh.symm; omega)
            go_meet
            case rel =>
              refine ⟨n + 1, true, os ++ [_], mo ++ [⟨a, m, v⟩], rfl, by omega, (fun h => by cases h), by simp [unhide HOL], ho7, (unhide HEA).snoc (unhide HROW0), fun y hy => ?_, (unhide HA6).below hbw7 (by omega), hx7, hbe6.trans (hbw7.mono (by omega)), by omega⟩
              rcases List.mem_append.1 hy with hy | hy
              · exact unhide HMO y hy
              · simp at hy; exact .inl hy
          | false =>
            go_wp2_with fail
            go_meet
            case rel => exact ⟨n, laid, os, mo, rfl, unhide HNN, unhide HN0, unhide HOL, unhide HO6, unhide HEA, unhide HMO, unhide HA6, unhide HX6, hbe6, hs6⟩
        case rest =>
          obtain ⟨n', laid', os', mo', rfl, hn', hn0', hol', hown', hea', hmo', ha8, hx8, hbe8, hs8⟩ := hcut
          have HN' := hide hn'
          have HN0' := hide hn0'
          have HOL' := hide hol'
          have HOWN' := hide hown'
          have HEA' := hide hea'
          have HMO' := hide hmo'
          have HA8 := hide ha8
          have HX8 := hide hx8
          clear hn0' hol' hown' hea' hmo' ha8 hx8 HNN HN0 HOL HEA HMO HO6 HA6 HX6 hbe6 hs6 HNL
          cases same with
          | true =>
            go_wp2_with fail
            go_roundg (gk - 1)
            case measure => omega
            case rel => exact ⟨i + 1, n', laid', os', mo', by omega, by go_num, rfl, by omega, (fun h => by have := unhide HN0' h; omega), unhide HOL', unhide HOWN', unhide HEA', unhide HMO', unhide HA8, hbe8, by omega⟩
          | false =>
            go_wp2_with (first
              | ((with_reducible refine at_load 363 ?_); refine wpList_load_g rfl 363 (.tmp 11) rfl _ 0 rfl r _ (unhide HX8).rangeAll Sakg.underlying363 rfl (unhide HSZR) ?_)
              | ((with_reducible refine at_buildSlice ?_); refine wpList_build_one rfl 99 (.tmp 69) rfl 363 22 Sakg.underlying99 i0 _ (unhide HI0) (unhide HZ0) (unhide HZ1) rfl (by omega) (by omega) r rfl (unhide HRLX) ?_)
              | ((with_reducible refine at_append ?_); refine wpList_append_one rfl (.tmp 68) (.tmp 70) 99 rfl 363 22 72 Sakg.underlying99 i0 _ (unhide HI0) (unhide HZ0) (unhide HZ1) (unhide HZ2) rfl (by omega) (w.heap.size + 1) _ _ _ rfl (own_kept (unhide HOWN') ((Below.refl _ _).alloc (Nat.le_refl _) _)) _ _ r rfl (RowT.new _ _ _) (unhide HRLX) (unhide HROW).one (by omega) (by omega) (by simp; omega) ?_; intro v7 w7 ho7 hb7 hg7))
            have hs7 := hb7.size
            simp at hs7
            have hbw7 : Below (w.heap.size + 1) wc w7 := ((Below.refl _ _).alloc (by omega) _).trans hb7
            go_roundg (gk - 1)
            case measure => omega
            case rel =>
              refine ⟨i + 1, n' + 1, laid', os' ++ [r], mo' ++ [x], by omega, by go_num, rfl, by omega, (fun h => by have := unhide HN0' h; omega), by simp [unhide HOL'], ho7, (unhide HEA').snoc (unhide HROW), fun y hy => ?_, (unhide HA8).below hbw7 (by omega), hbe8.trans (hbw7.mono (by omega)), by omega⟩
              rcases List.mem_append.1 hy with hy | hy
              · exact unhide HMO' y hy
              · simp at hy; subst hy; exact .inr (unhide HMEM)
    · obtain rfl : i = l := by omega
      have hcr : RowT 107 wr bw cs := ((unhide HW).kept hbe).row
      have hcc : wr.cell? ⟨bw, 5, none⟩ = some (.slice ao i c) := by rw [hcr.cell]; exact h5
      have hcf := hcr.froz 5
      have HCR := hide hcr
      have hnb : n ≤ 900002 := by have := unhide HNN; omega
      have fin : ∀ (wz : World) (AA : Option Addr) (nn cc : Nat) (os' : List (List Value)) (mo' : List YTemp), Below w.heap.size w wz → Rws wz 22 AA nn cc os' → New w AA → Each (KTemp G w) os' mo' → (∀ x ∈ mo', x = ⟨a, m, v⟩ ∨ x ∈ ms) → nn ≤ i + 1 →
          Hid (∃ ts, ts.length ≤ d.temps.length + 1 ∧ (∀ t ∈ ts, t = ⟨a, m, v⟩ ∨ t ∈ d.temps) ∧ WPost G bw cs { d with temps := ts } w (wz.setCell ⟨bw, 5, none⟩ (.slice AA nn cc))) := by
        intro wz AA nn cc os' mo' hb hrw hnew hea hmo hnn
        have hon : Only bw wz (wz.setCell ⟨bw, 5, none⟩ (.slice AA nn cc)) := (Only.refl _ _).setCell _ _
        have hcw : Chg bw w (wz.setCell ⟨bw, 5, none⟩ (.slice AA nn cc)) := (Chg.of hb).trans (Chg.ofOnly hon)
        have hcS := ChgS.chg hcw hgb
        have hrr := ((unhide HW).kept hb).row.set 5 (.slice AA nn cc)
        have hcl := (unhide HW).len
        have hlen : mo'.length = nn := by rw [← hea.len, hrw.len_eq]
        have hk : KTemps G (wz.setCell ⟨bw, 5, none⟩ (.slice AA nn cc)) AA nn cc mo' := ⟨os', StabS.rws (hrw.only hon (hnew.off hbw _)) (hnew.offS hG _), hea.imp fun _ _ h => h.go hcS⟩
        refine hide ⟨mo', by have := unhide HL; rw [← unhide HMS]; omega, fun t ht => by rw [← unhide HMS]; exact hmo t ht, cs.set 5 (.slice AA nn cc), ⟨hrr, by rw [List.length_set]; exact hcl, ((unhide HW).kw.go hcS).set5 hk (by omega), hgb, hG.go hcw.size⟩, Same8.set (by omega) _, List.getElem?_set_ne (by omega), hcw⟩
      have FIN := hide fin
      clear fin hcr
      cases laid with
      | true =>
        obtain ⟨A9, c9, rfl, hrw⟩ := own_rws (unhide HOWN) ((unhide HEA).all (fun _ _ h => h.len)) (unhide HOL)
        have hlt := (unhide HOWN).lt
        have HF := unhide FIN wr A9 n c9 os mo hbe hrw (fun x hx => by have := hlt x.block (by rw [hx]; rfl); omega) (unhide HEA) (unhide HMO) (unhide HNN)
        clear hrw hlt HOWN
        go_wp2
        exact bodyPost_done rfl rfl ⟨rfl, unhide HF⟩
      | false =>
        have hn1 := unhide HN0 rfl
        go_wp2_with (first
          | ((with_reducible refine at_load 26 ?_); refine wpList_load_g rfl 26 (.tmp 5) rfl _ 0 rfl (bv a) _ (unhide HR).rangeAll Sakg.underlying26 rfl (unhide HA).size ?_)
          | ((with_reducible refine at_build 363 ?_); refine wpList_build_struct rfl 363 _ rfl _ placesTemp i0 _ (unhide HI0) (unhide HZ0) (bv (zeros 20) ++ [nilS, nilS]) rfl (bv a ++ [Value.slice A k c2, .slice A' k' c2']) (build_temp a (unhide HA) A A' k c2 k' c2') ?_)
          | ((with_reducible refine at_buildSlice ?_); refine wpList_build_one rfl 99 (.tmp 79) rfl 363 22 Sakg.underlying99 i0 _ (unhide HI0) (unhide HZ0) (unhide HZ1) rfl (by omega) (by omega) (bv a ++ [Value.slice A k c2, .slice A' k' c2']) rfl (unhide HROW0).len ?_)
          | ((with_reducible refine at_append ?_); refine wpList_append_one rfl (.tmp 75) (.tmp 80) 99 rfl 363 22 72 Sakg.underlying99 i0 _ (unhide HI0) (unhide HZ0) (unhide HZ1) (unhide HZ2) rfl (by omega) (w.heap.size + 1) _ _ _ rfl (own_kept (unhide HOWN) ((Below.refl _ _).alloc (Nat.le_refl _) _)) _ _ (bv a ++ [Value.slice A k c2, .slice A' k' c2']) rfl (RowT.new _ _ _) (unhide HROW0).len (unhide HROW0).one (by omega) (by omega) (by simp; omega) ?_; intro v7 w7 ho7 hb7 hg7; have hlt := ho7.lt; obtain ⟨A9, c9, rfl, hrw⟩ := own_rws ho7 (((unhide HEA).snoc (unhide HROW0)).all (fun _ _ h => h.len)) (by simp [unhide HOL]); have hbw7 : Below (w.heap.size + 1) wr w7 := ((Below.refl _ _).alloc (by omega) _).trans hb7; have hcr7 := (unhide HCR).below hbw7 (by omega); have hcc7 : w7.cell? ⟨bw, 5, none⟩ = some (.slice ao i c) := by { rw [hcr7.cell]; exact h5 }; have hcf7 := hcr7.froz 5; have HF := unhide FIN w7 A9 (n + 1) c9 _ (mo ++ [⟨a, m, v⟩]) (hbe.trans (hbw7.mono (by omega))) hrw (fun x hx => (by have := hlt x.block (by rw [hx]; rfl); omega)) ((unhide HEA).snoc (unhide HROW0)) (fun y hy => (by rcases List.mem_append.1 hy with hy | hy; (exact unhide HMO y hy); (simp at hy; exact .inl hy))) (by omega); clear hrw hlt ho7 hcr7))
        exact bodyPost_done rfl rfl ⟨rfl, unhide HF⟩

end Go.Proofs.YgcsakGreat
