/-
  yp: store.
-/
import Derived.Test.YgcsakGreatKsD
namespace Go.Proofs.YgcsakGreat
set_option linter.unusedVariables false
set_option linter.unusedSimpArgs false
set_option maxRecDepth 100000
open Go.RowKit

theorem cmp_ge (m n : Nat) : decide (0 ≤ cmpI m n) = decide (n ≤ m) := by
  unfold cmpI
  by_cases h : m < n
  · rw [if_pos h, decide_eq_false (by omega), decide_eq_false (by omega)]
  · rw [if_neg h]
    split
    · rw [decide_eq_true (by omega), decide_eq_true (by omega)]
    · rw [decide_eq_true (by omega), decide_eq_true (by omega)]
theorem cmp_nz (m n : Nat) : (cmpI m n != 0) = !decide (m = n) := by unfold bne; rw [cmp_zero]
theorem drop_getD {α : Type} (l : List α) (i : Nat) (d : α) (h : i < l.length) : l.drop i = l.getD i d :: l.drop (i + 1) := by
  rw [List.drop_eq_getElem_cons h]
  simp [List.getD, h]

set_option maxHeartbeats 16000000 in
theorem CW.store {G : Nat → Prop} {bw : Nat} {cs : List Value} {d : WD} {w : World} {B : Nat} (h : CW G bw cs d w) (hg : Good B d) (a : List Int) (ha : IsAddr a) (A : Option Addr) (k c2 m : Nat) (hn : KNat G w A k c2 m) (hm : m < P256)
    (A' : Option Addr) (k' c2' v : Nat) (hn' : KNat G w A' k' c2' v) (hv : v < P256) :
    Calls Sakg.prog 426 #[.pointer (some ⟨bw, 0, none⟩), .agg (bv a).toArray, .slice A k c2, .slice A' k' c2'] w fun e w' => e = .returned (.tuple #[]) ∧ WPost G bw cs { d with accts := stoY d.accts a m v } w w' := by
  have hb1 : Below w.heap.size w (w.alloc (.cells (bv a).toArray 26)) := (Below.refl _ _).alloc (Nat.le_refl _) _
  have hr1 : RowT 26 (w.alloc (.cells (bv a).toArray 26)) w.heap.size (bv a) := RowT.new _ _ _
  obtain ⟨i0, hi0, hz0, hz1, hz2⟩ := info_parts infoSlot3
  have HI0 := hide hi0
  have HZ0 := hide hz0
  have HZ1 := hide hz1
  have HZ2 := hide hz2
  have hmB : m < BIG := Nat.lt_trans hm p256_lt
  have hvB : v < BIG := Nat.lt_trans hv p256_lt
  have hbw := h.lt
  have HAC := hide ((h.kept hb1).account hg a ha)
  have hbl := run_slot2 A A' k c2 k' c2'
  have HA := hide ha
  have HW := hide h
  have HN := hide hn
  have HN' := hide hn'
  have HG := hide hg
  clear h ha hn hn' hg hi0 hz0 hz1 hz2
  go_enter Sakg.func426, Sakg.ntmps426
  go_upto_region 4 with (first
    | ((with_reducible refine at_load 26 ?_); refine wpList_load_g rfl 26 (.tmp 5) rfl _ 0 rfl (bv a) _ hr1.rangeAll Sakg.underlying26 rfl (unhide HA).size ?_)
    | (go_at_call 99; refine (unhide HAC).mono ?_; rintro e w2 ⟨r, rfl, hrow, hb2⟩; have HROW := hide hrow; have hrl := hrow.now.len; clear hrow; have HSZR : Hid ((Sakg.prog.info? 113).map (·.size) = some r.length) := hide (by rw [hrl]; exact sizeAcct); have HRL := hide hrl; clear hrl)
    | ((with_reducible refine at_store 113 ?_); refine wpList_store_whole rfl 113 (.tmp 8) (.tmp 16) rfl _ _ _ r rfl rfl (RowT.new _ _ _) (by rw [unhide HRL]; rfl) (unhide HSZR) (unhide HROW).now.one ?_; intro w3 hx3 hon3; have hbb3 := box_below hon3; clear hon3; have hb3 : Below w.heap.size w w3 := (hb1.trans (hb2.mono (by simp))).trans (hbb3.1.mono (by have := hb2.size; simp at this; omega)); have HZI := hide (isZero_any A' k' c2' v w3 ((unhide HN').kp (ChgS.of hb3)).now hvB); have HX3 := hide hx3; clear hx3)
    | (go_at_call 130; refine (unhide HZI).mono ?_; rintro e w4 ⟨rfl, hq4⟩; have hb4 : Below w3.heap.size w3 w4 := hq4.below _; have hs34 := hq4.size; clear hq4))
  have hb24 : Below w2.heap.size w2 w4 := hbb3.1.trans (hb4.mono hbb3.1.size)
  have hs4 : w2.heap.size + 1 = w4.heap.size := by have := hbb3.2; omega
  have hbw4 : Below w.heap.size w w4 := hb3.trans (hb4.mono hb3.size)
  have hx4 := (unhide HX3).kept hb4
  obtain ⟨A1, k1, c1, A2, k2, c2'', A3, k3, c3, A4, k4, c4, q20, q21, q22, q23, s1, s2, s3, s4⟩ := (unhide HROW).cells
  have e23 : w4.cell? ⟨w2.heap.size, 23, none⟩ = some (.slice A4 k4 c4) := by rw [hx4.cell]; exact q23
  have s4' := s4
  obtain ⟨ss, hss⟩ : ∃ ss, ss = (lookY d.accts a).slots := ⟨_, rfl⟩
  rw [← hss] at s4'
  obtain ⟨rows, g1, g2⟩ := s4'
  have HL : Hid (ss.length = k4) := hide (by rw [← g2.len, g1.now.len_eq])
  have hk4 : k4 ≤ 900000 := by have h1 := (unhide HG).nsl a; rw [← hss] at h1; have := unhide HL; omega
  have hsB : ∀ s ∈ ss, s.1 < BIG := fun s hs => by rw [hss] at hs; exact Nat.lt_trans (((unhide HG).acc.look a).slots s hs).1 p256_lt
  have H := hide (rows_at' ((0, 0) : Nat × Nat) g1.now g2)
  have hbw2 : Below w.heap.size w w2 := hb1.trans (hb2.mono (by simp))
  have hrow0 : KSlot G w2 [.slice A k c2, .slice A' k' c2'] (m, v) := ⟨A, k, c2, A', k', c2', rfl, (unhide HN).kp (ChgS.of hbw2), (unhide HN').kp (ChgS.of hbw2)⟩
  have HROW0 := hide hrow0
  have HX4 := hide hx4
  have HSS := hide hss
  have HSB := hide hsB
  have hw2 : w.heap.size ≤ w2.heap.size := by have := hb2.size; simp at this; omega
  clear hr1 hb1 hb2 hbb3 hb3 hb4 hx4 HX3 HZI HAC q20 q21 q22 q23 s1 s2 s3 s4 g1 g2 hrow0 hss hsB
  obtain ⟨l0, hl0⟩ : ∃ l0, l0 = decide (v = 0) := ⟨_, rfl⟩
  rw [← hl0]
  have HL0 := hide hl0
  clear hl0
  go_wp2_with fail
  go_loopg [9, 10, 22] k4 (fun gk vv ld ct wr => ∃ (i n : Nat) (laid : Bool) (os : List (List Value)) (do_ : List (Nat × Nat)), i + gk = k4 ∧ ct = .int .i64 i ∧ ld = .bool laid ∧ n ≤ i + 1 ∧ (laid = false → n ≤ i) ∧ os.length = n ∧ wr.ownsRow (w2.heap.size + 1) 117 2 vv n os.flatten ∧ Each (KSlot G w2) os do_ ∧ do_ ++ stoL m v laid (ss.drop i) = stoL m v l0 ss ∧ RowT 113 wr w2.heap.size r ∧ Below w4.heap.size w4 wr)
  case atStart => exact ⟨0, 0, l0, [], [], by omega, rfl, rfl, by omega, by omega, rfl, World.ownsRow_nil _ _ _ _, trivial, rfl, unhide HX4, Below.refl _ _⟩
  case round =>
    obtain ⟨i, n, laid, os, do_, hi, rfl, rfl, hn, hn0, hol, hown, hea, hput, hr, hbe⟩ := hrel
    have HHN := hide hn
    have HN0 := hide hn0
    have HOL := hide hol
    have HOWN := hide hown
    have HEA := hide hea
    have HPUT := hide hput
    have HR := hide hr
    have hrs : w2.heap.size + 1 ≤ wr.heap.size := Nat.le_trans (Nat.le_of_eq hs4) hbe.size
    clear hn hn0 hol hown hea hput hr HX4
    by_cases hil : i < k4
    · obtain ⟨b, off, rfl, hlt, hat⟩ := unhide H (by omega)
      obtain ⟨r', hrg, hrow⟩ := hat i hil
      have hmem : ss.getD i (0, 0) ∈ ss := by
        rw [List.getD_eq_getElem?_getD, List.getElem?_eq_getElem (by have := unhide HL; omega)]; simp
      have hts := drop_getD ss i (0, 0) (by have := unhide HL; omega)
      obtain ⟨x, hx⟩ : ∃ x, x = ss.getD i (0, 0) := ⟨_, rfl⟩
      rw [← hx] at hrow hmem hts
      have hx1 := unhide HSB x hmem
      have hrow' := hrow
      obtain ⟨B1, j1, d1, B2, j2, d2, rfl, t1, t2⟩ := hrow
      have hb2r : Below w2.heap.size w2 wr := hb24.trans (hbe.mono hb24.size)
      have hrg2 := range_below hrg hb2r (fun _ => hlt)
      have HROWX := hide hrow'
      have HT1 := hide t1
      have HRG := hide hrg2
      have HTS := hide hts
      clear hat hrg hrg2 hx t1 t2 hmem hrow' hts
      go_upto_region 7 with (first
        | ((with_reducible refine at_load 117 ?_); refine wpList_load_g rfl 117 (.tmp 24) rfl b _ rfl [.slice B1 j1 d1, .slice B2 j2 d2] _ (unhide HRG) Sakg.underlying117 rfl sizeSlot ?_)
        | ((with_reducible refine at_store 117 ?_); refine wpList_store_whole rfl 117 (.tmp 12) (.tmp 25) rfl _ _ _ [.slice B1 j1 d1, .slice B2 j2 d2] rfl rfl (RowT.new _ _ _) rfl sizeSlot (row2_one _ _ _ _ _ _) ?_; intro w5 hr5 hon5; have hbb := box_below hon5; clear hon5))
      have hb45 : Below w4.heap.size w4 w5 := hbe.trans (hbb.1.mono hbe.size)
      have hbw5 : Below w.heap.size w w5 := hbw4.trans (hb45.mono hbw4.size)
      have e0 : w5.cell? ⟨wr.heap.size, 0, none⟩ = some (.slice B1 j1 d1) := by rw [hr5.cell]; rfl
      have HCMP := hide (((unhide HT1).kp (ChgS.of (hb24.trans (hb45.mono hb24.size)))).now.cmp ((unhide HN).kp (ChgS.of hbw5)).now hx1 hmB)
      have HR5 := hide hr5
      have hown_lt : ∀ k, u9.ownBlock = some k → k < wr.heap.size := fun k hk => ((unhide HOWN).lt k hk).2
      have HNL := hide hown_lt
      have ho5 := own_kept (unhide HOWN) hbb.1
      have HO5 := hide ho5
      have hra5 := (unhide HR).kept hbb.1
      have HRA5 := hide hra5
      have hs5 : wr.heap.size < w5.heap.size := by omega
      clear hr5 hown_lt ho5 hra5 HOWN HR HRG
      obtain ⟨ge, hge⟩ : ∃ ge, ge = decide (m ≤ x.1) := ⟨_, rfl⟩
      have hcge : decide (0 ≤ cmpI x.1 m) = ge := by rw [cmp_ge, hge]
      have hcnz : (cmpI x.1 m != 0) = !decide (x.1 = m) := cmp_nz x.1 m
      have HGE := hide hge
      obtain ⟨cr, hcr⟩ : ∃ cr, cr = cmpI x.1 m := ⟨_, rfl⟩
      rw [← hcr] at HCMP hcge hcnz
      clear hge hcr
      simp only [Act.put]
      go_upto_region 8 with (go_at_call 68; refine (unhide HCMP).mono ?_; rintro e w6 ⟨rfl, hq6⟩; have hb6 : Below w5.heap.size w5 w6 := hq6.below _; clear hq6)
      have HO6 := hide (own_kept (unhide HO5) hb6)
      have HR6 := hide ((unhide HR5).kept hb6)
      have HRA6 := hide ((unhide HRA5).kept hb6)
      have hb46 : Below w4.heap.size w4 w6 := hb45.trans (hb6.mono hb45.size)
      have hs6 : wr.heap.size < w6.heap.size := Nat.lt_of_lt_of_le hs5 hb6.size
      clear HO5 HR5 HRA5 hb6 e0 HCMP hbb hb45
      have HCN := hide hcnz
      clear hcnz
      go_cut [35] (fun s35 wc => s35 = .bool (!laid && ge) ∧ w6 = wc)
      case first =>
        cases laid with
        | true =>
          go_wp2_with fail
          go_meet
          case rel => exact ⟨rfl, rfl⟩
        | false =>
          go_wp2_with fail
          go_meet
          case rel => exact ⟨rfl, rfl⟩
      case rest =>
      obtain ⟨rfl, rfl⟩ := hcut
      clear hcge
      go_upto_if 35 with fail
      go_cut [9, 10] (fun vv ld wy => ∃ (n' : Nat) (os' : List (List Value)) (do' : List (Nat × Nat)), ld = .bool (laid || ge) ∧ n' ≤ i + 1 ∧ ((laid || ge) = false → n' ≤ i) ∧ os'.length = n' ∧ wy.ownsRow (w2.heap.size + 1) 117 2 vv n' os'.flatten ∧ Each (KSlot G w2) os' do' ∧ do' = do_ ++ (if (!laid && ge) = true then [(m, v)] else []) ∧ RowT 113 wy w2.heap.size r ∧ RowT 117 wy wr.heap.size [.slice B1 j1 d1, .slice B2 j2 d2] ∧ Below w4.heap.size w4 wy ∧ wr.heap.size < wy.heap.size)
      case first =>
        obtain ⟨t, ht⟩ : ∃ t, t = (!laid && ge) := ⟨_, rfl⟩
        rw [← ht]
        cases t with
        | true =>
          obtain ⟨rfl, rfl⟩ : laid = false ∧ ge = true := by cases laid <;> cases ge <;> simp at ht <;> simp
          clear ht
          have hn1 := unhide HN0 rfl
          go_wp2_with (first
            | ((with_reducible refine at_buildSlice ?_); refine wpList_build_one rfl 111 (.tmp 39) rfl 117 2 Sakg.underlying111 i0 _ (unhide HI0) (unhide HZ0) (unhide HZ1) rfl (by omega) (by omega) [.slice A k c2, .slice A' k' c2'] rfl rfl ?_)
            | ((with_reducible refine at_append ?_); refine wpList_append_one rfl (.tmp 36) (.tmp 40) 111 rfl 117 2 48 Sakg.underlying111 i0 _ (unhide HI0) (unhide HZ0) (unhide HZ1) (unhide HZ2) rfl (by omega) (w2.heap.size + 1) _ _ _ rfl (own_kept (unhide HO6) ((Below.refl _ _).alloc (Nat.le_refl _) _)) _ _ [.slice A k c2, .slice A' k' c2'] rfl (RowT.new _ _ _) rfl (row2_one _ _ _ _ _ _) (by omega) (by omega) (by simp; omega) ?_; intro v7 w7 ho7 hb7 hg7))
          have hs7 := hb7.size
          simp at hs7
          have hbw7 : Below (w2.heap.size + 1) w6 w7 := ((Below.refl _ _).alloc (by omega) _).trans hb7
          have hx7 := ((unhide HR6).alloc _).grown hg7 (by intro hh; have := unhide HNL _ hh.symm; omega)
          have hx8 := ((unhide HRA6).alloc _).below hb7 (by omega)
          go_meet
          case rel => exact ⟨n + 1, os ++ [[.slice A k c2, .slice A' k' c2']], do_ ++ [(m, v)], rfl, by omega, (fun h => by simp at h), by simp [unhide HOL], ho7, (unhide HEA).snoc (unhide HROW0), by simp, hx8, hx7, hb46.trans (hbw7.mono (by omega)), by omega⟩
        | false =>
          have e1 : (laid || ge) = laid := by cases laid <;> cases ge <;> simp at ht <;> simp
          have E1 := hide e1
          have HT := hide ht
          clear e1 ht
          go_wp2_with fail
          go_meet
          case rel =>
            refine ⟨n, os, do_, by rw [unhide E1], unhide HHN, by rw [unhide E1]; exact unhide HN0, unhide HOL, unhide HO6, unhide HEA, ?_, unhide HRA6, unhide HR6, hb46, hs6⟩
            rw [← unhide HT]; simp
      case rest =>
        obtain ⟨n', os', do', rfl, hn', hn0', hol', hown', hea', hdo, ha6, hx6, hbe6, hs8⟩ := hcut
        have HN2 := hide hn'
        have HN0' := hide hn0'
        have HOL' := hide hol'
        have HOWN' := hide hown'
        have HEA' := hide hea'
        have HDO := hide hdo
        have HA6 := hide ha6
        have HX6 := hide hx6
        clear hn0' hol' hown' hea' hdo ha6 hx6 HHN HN0 HNL HEA HOL HO6 HR6 HRA6 hb46 hs6
        have hput2 := unhide HPUT
        rw [unhide HTS, stoL, ← unhide HGE, ← List.append_assoc, ← List.append_assoc, ← unhide HDO] at hput2
        have hcn := unhide HCN
        by_cases hxa : x.1 = m
        · rw [decide_eq_true hxa, Bool.not_true] at hcn
          rw [if_pos hxa, List.append_nil] at hput2
          have HP2 := hide hput2
          clear hxa hput2
          go_wp2_with fail
          go_roundg (gk - 1)
          case measure => omega
          case rel => exact ⟨i + 1, n', _, os', do', by omega, by go_num, rfl, by omega, (fun h => by have := unhide HN0' h; omega), unhide HOL', unhide HOWN', unhide HEA', unhide HP2, unhide HA6, hbe6⟩
        · rw [decide_eq_false hxa, Bool.not_false] at hcn
          rw [if_neg hxa] at hput2
          have HP2 := hide hput2
          clear hxa hput2
          go_wp2_with (first
            | ((with_reducible refine at_load 117 ?_); refine wpList_load_g rfl 117 (.tmp 12) rfl _ 0 rfl [.slice B1 j1 d1, .slice B2 j2 d2] _ (unhide HX6).rangeAll Sakg.underlying117 rfl sizeSlot ?_)
            | ((with_reducible refine at_buildSlice ?_); refine wpList_build_one rfl 111 (.tmp 45) rfl 117 2 Sakg.underlying111 i0 _ (unhide HI0) (unhide HZ0) (unhide HZ1) rfl (by omega) (by omega) [.slice B1 j1 d1, .slice B2 j2 d2] rfl rfl ?_)
            | ((with_reducible refine at_append ?_); refine wpList_append_one rfl (.tmp 44) (.tmp 46) 111 rfl 117 2 48 Sakg.underlying111 i0 _ (unhide HI0) (unhide HZ0) (unhide HZ1) (unhide HZ2) rfl (by omega) (w2.heap.size + 1) _ _ _ rfl (own_kept (unhide HOWN') ((Below.refl _ _).alloc (Nat.le_refl _) _)) _ _ [.slice B1 j1 d1, .slice B2 j2 d2] rfl (RowT.new _ _ _) rfl (row2_one _ _ _ _ _ _) (by omega) (by omega) (by simp; omega) ?_; intro v7 w7 ho7 hb7 hg7))
          have hs7 := hb7.size
          simp at hs7
          have hbw7 : Below (w2.heap.size + 1) wc w7 := ((Below.refl _ _).alloc (by omega) _).trans hb7
          go_roundg (gk - 1)
          case measure => omega
          case rel =>
            exact ⟨i + 1, n' + 1, _, os' ++ [_], do' ++ [x], by omega, by go_num, rfl, by omega, (fun h => by have := unhide HN0' h; omega), by simp [unhide HOL'], ho7, (unhide HEA').snoc (unhide HROWX), unhide HP2, (unhide HA6).below hbw7 (by omega), hbe6.trans (hbw7.mono (by omega))⟩
    · obtain rfl : i = k4 := by omega
      have hput := unhide HPUT
      rw [List.drop_of_length_le (by have := unhide HL; omega)] at hput
      have hnb : n ≤ 900002 := by have := unhide HHN; omega
      have hra := unhide HR
      have hx23 : ∃ u, wr.cell? ⟨w2.heap.size, 23, none⟩ = some u := by rw [hra.cell, List.getElem?_eq_getElem (by rw [unhide HRL]; omega)]; exact ⟨_, rfl⟩
      obtain ⟨u23, hx23⟩ := hx23
      have hf23 := hra.froz 23
      have HPT := hide hput
      have hG := (unhide HW).ther
      have fin : ∀ (wz : World) (AA : Option Addr) (nn cc : Nat) (os' : List (List Value)), Below w2.heap.size w2 wz → Rws wz 2 AA nn cc os' → (∀ x, AA = some x → w2.heap.size + 1 ≤ x.block) → Each (KSlot G w2) os' (stoL m v l0 ss) →
          RowT 113 wz w2.heap.size r → ∀ wy, wy = wz.setCell ⟨w2.heap.size, 23, none⟩ (.slice AA nn cc) → Hid (RowT 113 wy w2.heap.size (r.set 23 (.slice AA nn cc)) ∧ KAcct G wy (r.set 23 (.slice AA nn cc)) { lookY d.accts a with slots := stoS (lookY d.accts a).slots m v } ∧ Below w.heap.size w wy) := by
        intro wz AA nn cc os' hz2 hrw hnew hea hrz wy hwy
        have ho : Only w2.heap.size wz wy := hwy ▸ (Only.refl _ _).setCell 23 _
        have hb2y : Below w2.heap.size w2 wy := hz2.trans (ho.below _ (Nat.le_refl _))
        have hby : Below w.heap.size w wy := hbw2.trans (hb2y.mono hbw2.size)
        have hst : stoS (lookY d.accts a).slots m v = stoL m v l0 ss := by rw [unhide HSS, unhide HL0]; rfl
        refine hide ⟨hwy ▸ hrz.set 23 _, ?_, hby⟩
        rw [hst]
        refine ((unhide HROW).go (ChgS.of hb2y)).slo ⟨os', StabS.rws (hrw.only ho (fun x hx _ => by have := hnew x hx; omega)) (fun x hx _ hgx => ?_), hea.imp fun _ _ h => h.go (ChgS.of hb2y)⟩
        have h1 := hnew x hx
        have h2 := hG _ hgx
        omega
      have hsS : ∀ u, (Sakg.prog.info? 113).map (·.size) = some (r.set 23 u).length := fun u => by rw [List.length_set]; exact unhide HSZR
      have hput1 : ∀ wy r', KAcct G wy r' { lookY d.accts a with slots := stoS (lookY d.accts a).slots m v } → Below w.heap.size w wy → Hid (Calls Sakg.prog 192 #[.pointer (some ⟨bw, 0, none⟩), .agg r'.toArray] wy fun e w' => e = .returned (.tuple #[]) ∧ WPost G bw cs { d with accts := stoY d.accts a m v } wy w') := fun wy r' hk hb => hide (((unhide HW).kept hb).put (unhide HG) r' _ hk (nonce_big ((unhide HG).acc.look a).non) (Nat.lt_trans ((unhide HG).bal a) p256_lt))
      have hb2r : Below w2.heap.size w2 wr := hb24.trans (hbe.mono hb24.size)
      have FIN := hide fin
      have PUT1 := hide hput1
      have HRA := hide hra
      clear fin hput1 hput hra HPUT HR
      cases laid with
      | true =>
        obtain ⟨A9, c9, rfl, hrw⟩ := own_rws (unhide HOWN) ((unhide HEA).all (fun _ _ h => by obtain ⟨_, _, _, _, _, _, rfl, _⟩ := h; rfl)) (unhide HOL)
        have hlt := (unhide HOWN).lt
        obtain ⟨wy, hwy⟩ : ∃ wy, wy = wr.setCell ⟨w2.heap.size, 23, none⟩ (.slice A9 n c9) := ⟨_, rfl⟩
        have hp : do_ = stoL m v l0 ss := by have := unhide HPT; simpa [stoL] using this
        obtain ⟨f1, f2, f3⟩ := unhide (unhide FIN wr A9 n c9 os hb2r hrw (fun x hx => (hlt x.block (by rw [hx]; rfl)).1) (hp ▸ unhide HEA) (unhide HRA) wy hwy)
        have F1 := hide f1
        have HP := unhide PUT1 wy _ f2 f3
        clear hrw hlt f1 f2 HOWN hp
        go_wp2_with (first
          | ((with_reducible refine at_load 113 ?_); rw [← hwy]; refine wpList_load_g rfl 113 (.tmp 8) rfl _ 0 rfl (r.set 23 (.slice A9 n c9)) _ (unhide F1).rangeAll Sakg.underlying113 rfl (hsS _) ?_)
          | (go_at_call 192; (first | rw [← hwy] | skip); refine (unhide HP).mono ?_; rintro e w9 ⟨rfl, hp9⟩))
        refine bodyPost_done rfl rfl ⟨rfl, ?_⟩
        obtain ⟨cs', p1, p2, p4, p3⟩ := hp9
        exact ⟨cs', p1, p2, p4, (Chg.of f3).trans p3⟩
      | false =>
        have hn1 := unhide HN0 rfl
        go_upto_region 16 with (first
          | ((with_reducible refine at_buildSlice ?_); refine wpList_build_one rfl 111 (.tmp 54) rfl 117 2 Sakg.underlying111 i0 _ (unhide HI0) (unhide HZ0) (unhide HZ1) rfl (by omega) (by omega) [.slice A k c2, .slice A' k' c2'] rfl rfl ?_)
          | ((with_reducible refine at_append ?_); refine wpList_append_one rfl (.tmp 51) (.tmp 55) 111 rfl 117 2 48 Sakg.underlying111 i0 _ (unhide HI0) (unhide HZ0) (unhide HZ1) (unhide HZ2) rfl (by omega) (w2.heap.size + 1) _ _ _ rfl (own_kept (unhide HOWN) ((Below.refl _ _).alloc (Nat.le_refl _) _)) _ _ [.slice A k c2, .slice A' k' c2'] rfl (RowT.new _ _ _) rfl (row2_one _ _ _ _ _ _) (by omega) (by omega) (by simp; omega) ?_; intro v7 w7 ho7 hb7 hg7))
        have hlt := ho7.lt
        obtain ⟨A9, c9, rfl, hrw⟩ := own_rws ho7 (((unhide HEA).snoc (unhide HROW0)).all (fun _ _ h => by obtain ⟨_, _, _, _, _, _, rfl, _⟩ := h; rfl)) (by simp [unhide HOL])
        have hbw7 : Below (w2.heap.size + 1) wr w7 := ((Below.refl _ _).alloc (by omega) _).trans hb7
        have hra7 := (unhide HRA).below hbw7 (by omega)
        have hx237 : ∃ u, w7.cell? ⟨w2.heap.size, 23, none⟩ = some u := by rw [hra7.cell, List.getElem?_eq_getElem (by rw [unhide HRL]; omega)]; exact ⟨_, rfl⟩
        obtain ⟨u7, hx237⟩ := hx237
        have hf237 := hra7.froz 23
        obtain ⟨wy, hwy⟩ : ∃ wy, wy = w7.setCell ⟨w2.heap.size, 23, none⟩ (.slice A9 (n + 1) c9) := ⟨_, rfl⟩
        have hp : do_ ++ [(m, v)] = stoL m v l0 ss := by have := unhide HPT; simpa [stoL] using this
        obtain ⟨f1, f2, f3⟩ := unhide (unhide FIN w7 A9 (n + 1) c9 _ (hb2r.trans (hbw7.mono (by omega))) hrw (fun x hx => (hlt x.block (by rw [hx]; rfl)).1) (hp ▸ (unhide HEA).snoc (unhide HROW0)) hra7 wy hwy)
        have F1 := hide f1
        have HP := unhide PUT1 wy _ f2 f3
        clear hrw hlt f1 f2 HOWN hp ho7 hra7 hx23 hf23
        go_wp2_with (first
          | ((with_reducible refine at_load 113 ?_); rw [← hwy]; refine wpList_load_g rfl 113 (.tmp 8) rfl _ 0 rfl (r.set 23 (.slice A9 (n + 1) c9)) _ (unhide F1).rangeAll Sakg.underlying113 rfl (hsS _) ?_)
          | (go_at_call 192; (first | rw [← hwy] | skip); refine (unhide HP).mono ?_; rintro e w9 ⟨rfl, hp9⟩))
        refine bodyPost_done rfl rfl ⟨rfl, ?_⟩
        obtain ⟨cs', p1, p2, p4, p3⟩ := hp9
        exact ⟨cs', p1, p2, p4, (Chg.of f3).trans p3⟩

end Go.Proofs.YgcsakGreat
