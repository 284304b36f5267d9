/-
  yp: logsOf on a list that may be lengthened in its place.
-/
import Derived.Test.YgcsakGreatKsG
import Derived.Test.YgcsakGreatKgB
namespace Go.Proofs.YgcsakGreat
set_option linter.unusedVariables false
set_option linter.unusedSimpArgs false
set_option maxRecDepth 100000
open Go.RowKit

set_option maxHeartbeats 16000000 in
theorem logsOf_rows (E G : Nat → Prop) (ao : Option Addr) (l c : Nat) (ms : List YLog) (w : World) (hG : Ther G w) (h : ∃ rows, Rws w 22 ao l c rows ∧ Each (KLog E w) rows ms) (hl : l ≤ 1000000) (hb : ∀ m ∈ ms, m.nt ≤ 1000000 ∧ m.nd ≤ 1000000) :
    Calls Sakg.prog 126 #[.slice ao l c] w fun e w' => (∃ A, e = .returned (.slice A l l) ∧ KLogs G w' A l l ms) ∧ Below w.heap.size w w' := by
  have hn := fun (wx : World) (x : Option Addr) (n c n' c' : Nat) => Lib.run_eql_slice_nil (P := Sakg.prog) wx 46 311 x n c n' c' Sakg.underlying46
  obtain ⟨rows, g1, g2⟩ := h
  have hlen : ms.length = l := by rw [← g2.len, g1.len_eq]
  cases ao with
  | none =>
    obtain ⟨rfl, rfl⟩ := g1.nil rfl
    have hK : KLogs G w none 0 0 ms := by rw [List.eq_nil_of_length_eq_zero hlen]; exact KLogs.nil G w
    have HK := hide hK
    clear g1 g2 hK
    go_enter Sakg.func126, Sakg.ntmps126
    go_wp2
    go_ret
    exact ⟨⟨none, rfl, unhide HK⟩, Below.refl _ _⟩
  | some ad =>
    obtain ⟨i0, hi0, hz0, hz1, hz2⟩ := info_parts infoLog
    have HI0 := hide hi0
    have HZ0 := hide hz0
    have HZ1 := hide hz1
    have HZ2 := hide hz2
    have H := hide (rows_at' (⟨[], 0, 0⟩ : YLog) g1 g2)
    have HB := hide hb
    clear g1 g2 hb hi0 hz0 hz1 hz2
    go_enter Sakg.func126, Sakg.ntmps126
    go_upto_region 4 with (at_make; refine wpList_make_rows rfl _ _ 46 rfl 311 Sakg.underlying46 i0 _ 22 72 (unhide HI0) (unhide HZ0) (unhide HZ1) (unhide HZ2) _ _ l rfl rfl rfl rfl (by omega) (by omega) ?_; intro w2 zs hr2 hzl hb2 hs2)
    have hF : Fill 311 22 (KLog (Plus G w.heap.size) w2) ms w.heap.size l 0 w2 := Fill.start hr2 hzl
    have HF := hide hF
    have hGw : Ther (Plus G w.heap.size) w2 := (hG.go hb2.size).plus (by omega)
    clear hr2 hzl hs2 hF
    go_wp2_with fail
    go_loopg [13] l (fun gk ct wr => ∃ i : Nat, i + gk = l ∧ ct = .int .i64 i ∧ Fill 311 22 (KLog (Plus G w.heap.size) wr) ms w.heap.size l i wr ∧ Below w.heap.size w wr ∧ w2.heap.size ≤ wr.heap.size)
    case atStart => exact ⟨0, by omega, rfl, unhide HF, hb2, Nat.le_refl _⟩
    case round =>
      obtain ⟨i, hi, rfl, hF, hbe, hse⟩ := hrel
      have HF' := hide hF
      clear hF HF
      by_cases hil : i < l
      · obtain ⟨b, off, hb0, hlt, hat⟩ := unhide H (by omega)
        obtain rfl := Option.some.inj hb0
        obtain ⟨r, hrg, hrow⟩ := hat i hil
        have hmem : ms.getD i ⟨[], 0, 0⟩ ∈ ms := by
          rw [List.getD_eq_getElem?_getD, List.getElem?_eq_getElem (by omega)]; simp
        obtain ⟨x, hx⟩ : ∃ x, x = ms.getD i ⟨[], 0, 0⟩ := ⟨_, rfl⟩
        rw [← hx] at hrow hmem
        have hxb := unhide HB x hmem
        have hrl := hrow.len
        have hrg2 := range_below hrg hbe (fun _ => hlt)
        have hszr : (Sakg.prog.info? 311).map (·.size) = some r.length := by rw [hrl]; exact sizeLog
        obtain ⟨hia, A1, c1, A2, c2, trows, xs, q20, q21, t1, t2, t3⟩ := hrow.cells
        have hpre := hrow.pre
        have hone := hrow.one
        have HRG := hide hrg2
        have HSZR := hide hszr
        have HRL := hide hrl
        have HONE := hide hone
        have HX := hide hx
        have hZ22 : (bv (zeros 20) ++ [nilS, nilS]).length = 22 := by simp [bv_len, zeros_len]
        clear hat hrg hrg2 hrow hszr hrl hone hx hmem hb0
        go_upto_region 7 with (first
          | ((with_reducible refine at_load 311 ?_); refine wpList_load_g (by rfl) 311 (.tmp 16) rfl b _ rfl r _ (unhide HRG) Sakg.underlying311 rfl (unhide HSZR) ?_)
          | ((with_reducible refine at_alloc 311 ?_); refine wpList_alloc_g (by rfl) 311 rfl (bv (zeros 20) ++ [nilS, nilS]) 22 infoLog2 hZ22 ?_)
          | ((with_reducible refine at_store 311 ?_); refine wpList_store_whole rfl 311 (.tmp 5) (.tmp 17) rfl _ _ _ r rfl rfl (RowT.new _ _ _) (by rw [unhide HRL, hZ22]) (unhide HSZR) (unhide HONE) ?_; intro w3 hr3 hon3; have hbb3 := box_below hon3; clear hon3))
        simp only [Act.put, List.setIfInBounds_toArray, List.set_cons_zero, List.set_cons_succ]
        have hb3 : Below w.heap.size w w3 := hbe.trans (hbb3.1.mono hbe.size)
        have d3 : Below w3.heap.size w3 w3.drew := Quiet.below ⟨1, rfl⟩ _
        have hkr : ∀ wz, Below w3.heap.size w3 wz → RowT 311 wz wr.heap.size r := fun wz hz => hr3.kept hz
        have hkw : ∀ wz, Below w3.heap.size w3 wz → Below w.heap.size w wz := fun wz hz => hb3.trans (hz.mono hb3.size)
        have HKR := hide hkr
        have HWO : ∀ wz, Below w3.heap.size w3 wz → Hid (Calls Sakg.prog 96 #[.slice A1 x.nt c1] wz (CopiesW wz trows)) := fun wz hz => hide (wordsOf_any A1 x.nt c1 trows wz (t1.kp (ChgS.of (hkw wz hz))).now t2 hxb.1)
        have HBO : ∀ wz, Below w3.heap.size w3 wz → Hid (Calls Sakg.prog 57 #[.slice A2 x.nd c2] wz (Copies wz A2 xs)) := fun wz hz => hide (bytesOf_any A2 x.nd c2 xs wz (t3.kp (ChgS.of (hkw wz hz))).now (by have := hxb.2; omega))
        have HT1L := hide t1.now.len_eq
        have HT3L := hide t3.now.len_eq
        have HT2 := hide t2
        have hu := Sakg.underlying26
        have hsz26 := hia.size
        have HPRE := hide hpre
        have hs3 := hbb3.2
        have hgl : w.heap.size < wr.heap.size := (unhide HF').lt
        have HF3 := hide ((unhide HF').go (R' := KLog (Plus G w.heap.size) w3) (fun _ _ h => h.go (ChgS.of hbb3.1)) (fun zs hz => hz.kept hbb3.1))
        clear hr3 t1 t2 t3 hpre hkr hbb3 HF' HRG
        refine wp_region_noPanic ?_
        refine wp_region_held_drew (S := fun w' => RowT 311 w' wr.heap.size r) (by kernel_rfl) (unhide HKR _ d3) (fun hHeld => ?_)
        refine held_takeD 0 (.slice (some ⟨w.heap.size, 0, none⟩) l l) (some 18) (by rfl) (by rfl) (by kernel_rfl) (by kernel_rfl) (by kernel_rfl) (fun _ _ _ h => h) (.inl ⟨by rfl, fun _ _ => by rfl⟩) (hHeld) ?_
        simp only [Act.put, List.setIfInBounds_toArray, List.set_cons_zero, List.set_cons_succ]
        refine held_takeD 1 (.int .i64 i) (some 19) (by rfl) (by rfl) (by kernel_rfl) (by kernel_rfl) (by kernel_rfl) (fun _ _ _ h => h) (.inl ⟨by rfl, fun _ _ => by rfl⟩) (hHeld) ?_
        simp only [Act.put, List.setIfInBounds_toArray, List.set_cons_zero, List.set_cons_succ]
        refine held_takeD 2 (.pointer (some ⟨wr.heap.size, 0, none⟩)) (some 20) (by rfl) (by rfl) (by kernel_rfl) (by kernel_rfl) (by kernel_rfl) (fun _ _ _ h => h) (.inl ⟨by rfl, fun _ _ => by go_simp⟩) (hHeld) ?_
        simp only [Act.put, List.setIfInBounds_toArray, List.set_cons_zero, List.set_cons_succ]
        refine held_takeD 3 (.agg (bv x.addr).toArray) (some 21) (by rfl) (by rfl) (by kernel_rfl) (by kernel_rfl) (by kernel_rfl) (fun _ _ _ h => h) (yieldsIf_load_mid (by rfl) _ _ rfl _ _ rfl _ _ (fun wz hS => (by have := hS.range 0 20; rwa [unhide HPRE] at this)) hu rfl hsz26) (hHeld) ?_
        simp only [Act.put, List.setIfInBounds_toArray, List.set_cons_zero, List.set_cons_succ]
        refine held_takeD 4 (.pointer (some ⟨wr.heap.size, 20, none⟩)) (some 22) (by rfl) (by rfl) (by kernel_rfl) (by kernel_rfl) (by kernel_rfl) (fun _ _ _ h => h) (.inl ⟨by rfl, fun _ _ => by go_simp⟩) (hHeld) ?_
        simp only [Act.put, List.setIfInBounds_toArray, List.set_cons_zero, List.set_cons_succ]
        refine held_takeD 5 (.slice A1 x.nt c1) (some 23) (by rfl) (by rfl) (by kernel_rfl) (by kernel_rfl) (by kernel_rfl) (fun _ _ _ h => h) (.inl ⟨by rfl, fun wS hS => by have hc : wS.cell? ⟨wr.heap.size, 20, none⟩ = some (.slice A1 x.nt c1) := by { rw [hS.cell]; exact q20 }; go_simp⟩) (hHeld) ?_
        simp only [Act.put, List.setIfInBounds_toArray, List.set_cons_zero, List.set_cons_succ]
        refine held_takeD 7 (.pointer (some ⟨wr.heap.size, 21, none⟩)) (some 25) (by rfl) (by rfl) (by kernel_rfl) (by kernel_rfl) (by kernel_rfl) (fun _ _ _ h => h) (.inl ⟨by rfl, fun _ _ => by go_simp⟩) (hHeld) ?_
        simp only [Act.put, List.setIfInBounds_toArray, List.set_cons_zero, List.set_cons_succ]
        refine held_takeD 8 (.slice A2 x.nd c2) (some 26) (by rfl) (by rfl) (by kernel_rfl) (by kernel_rfl) (by kernel_rfl) (fun _ _ _ h => h) (.inl ⟨by rfl, fun wS hS => by have hc : wS.cell? ⟨wr.heap.size, 21, none⟩ = some (.slice A2 x.nd c2) := by { rw [hS.cell]; exact q21 }; go_simp⟩) (hHeld) ?_
        simp only [Act.put, List.setIfInBounds_toArray, List.set_cons_zero, List.set_cons_succ]
        refine held_one 6 (by kernel_rfl) (by rfl) (fun K' hK' => ?_)
        go_simp
        refine (unhide (HWO _ d3)).mono ?_
        rintro e w4 ⟨Aa, ka, ca, rfl, ra, Na, ba⟩
        refine hK'.out _ _ (unhide HKR _ (d3.trans (ba.mono d3.size))) ?_
        clear hK' K'
        have d4 := d3.trans (ba.mono d3.size)
        refine held_one 9 (by kernel_rfl) (by rfl) (fun K' hK' => ?_)
        go_simp
        refine (unhide (HBO _ d4)).mono ?_
        rintro e w5 ⟨Ac, kc, rfl, sc, -, Nc, bc⟩
        refine hK'.out _ _ (unhide HKR _ (d4.trans (bc.mono d4.size))) ?_
        clear hK' K'
        have d5 := d4.trans (bc.mono d4.size)
        refine held_takeD 10 (.agg (bv x.addr ++ [Value.slice Aa ka ca, .slice Ac kc kc]).toArray) (some 28) (by rfl) (by rfl) (by kernel_rfl) (by kernel_rfl) (by kernel_rfl) (fun _ _ _ h => h) (yieldsIf_build (by rfl) 311 [(0, .tmp 21), (1, .tmp 24), (2, .tmp 27)] rfl _ (fun wx => run_log wx x.addr hia Aa Ac ka ca kc kc)) (unhide HKR _ d5) ?_
        simp only [Act.put, List.setIfInBounds_toArray, List.set_cons_zero, List.set_cons_succ]
        refine held_takeD 11 (.pointer (some ⟨w.heap.size, i * 22, none⟩)) (some 29) (by rfl) (by rfl) (by kernel_rfl) (by kernel_rfl) (by kernel_rfl) (fun _ _ _ h => h) (.inl ⟨by rfl, fun _ _ => by go_simp⟩) (unhide HKR _ d5) ?_
        simp only [Act.put, List.setIfInBounds_toArray, List.set_cons_zero, List.set_cons_succ]
        have hml : (bv x.addr ++ [Value.slice Aa ka ca, .slice Ac kc kc]).length = 22 := by simp [bv_len, hia.len]
        obtain ⟨zs5, hz5, hz5l⟩ := (unhide HF3).room hil
        have hka : ka = x.nt := by have h1 := ra.len_eq; have h2 := unhide HT1L; omega
        have hkc : kc = x.nd := by have h1 := sc.len_eq; have h2 := unhide HT3L; omega
        have hG3 : Ther (Plus G w.heap.size) w3 := hGw.go (by omega)
        have hrowN : KLog (Plus G w.heap.size) w5 (bv x.addr ++ [Value.slice Aa ka ca, .slice Ac kc kc]) x := by
          rw [hka] at ra
          rw [hkc] at sc
          rw [hka, hkc]
          exact ⟨Aa, ca, Ac, _, trows, xs, rfl, hia, StabS.kp (StabS.rws ra (Na.offS (hG3.go d3.size) _)) (ChgS.of bc), unhide HT2, StabS.src sc (Nc.offS (hG3.go d4.size) _)⟩
        have HROWN := hide hrowN
        clear hrowN ra sc
        refine held_store 12 (by kernel_rfl) (by rfl) rfl (by rfl) 311 (.tmp 29) (.tmp 28) rfl w.heap.size (i * 22) 311 zs5 (bv x.addr ++ [Value.slice Aa ka ca, .slice Ac kc kc]) rfl rfl (hz5.kept d5) (by rw [hml]; exact hz5l) (by rw [hml]; exact sizeLog) (two_one _ _ _ _ _ _ _) ?_
        intro wS rS oS
        refine ⟨(unhide HKR _ d5).only oS (by omega), ?_⟩
        refine wpAnyH_done (by kernel_rfl) ?_ _
        refine NoPanic.normal ?_
        have hcS : ChgS (Plus G w.heap.size) w5 wS := ChgS.only oS (.inr rfl)
        have hc35 : ChgS (Plus G w.heap.size) w3 wS := (ChgS.of d5).trans hcS
        have hbS : Below w.heap.size w wS := (hkw _ d5).trans (oS.below _ (Nat.le_refl _))
        have hsS : w2.heap.size ≤ wS.heap.size := by have h1 := d5.size; have h2 := oS.size; omega
        have hFn : Fill 311 22 (KLog (Plus G w.heap.size) wS) ms w.heap.size l (i + 1) wS := (unhide HF3).next hil _ hml ⟨[], 0, 0⟩ (by omega) (fun _ _ h => h.go hc35) (by rw [← unhide HX]; exact (unhide HROWN).go hcS) (fun zs hz => by rw [hz.inj hz5]; exact rS)
        have HFN := hide hFn
        clear hFn rS hz5
        go_wp2
        go_roundg (gk - 1)
        case measure => omega
        case rel => exact ⟨i + 1, by omega, by go_num, unhide HFN, hbS, hsS⟩
      · obtain rfl : i = l := by omega
        go_wp2
        go_ret
        obtain ⟨rows', hr1, hr2⟩ := (unhide HF').done hlen (by unfold maxLen; omega)
        refine ⟨⟨_, rfl, rows', StabS.rws hr1 (fun x hx _ hg => ?_), hr2.imp fun _ _ h => ?_⟩, hbe⟩
        · obtain rfl := Option.some.inj hx
          exact absurd (hG _ hg) (Nat.lt_irrefl _)
        · obtain ⟨A, c, A', c', rws, xs, e1, e2, e3, e4, e5⟩ := h
          exact ⟨A, c, A', c', rws, xs, e1, e2, e3.less (fun _ h => .inl h), e4, e5.less (fun _ h => .inl h)⟩

end Go.Proofs.YgcsakGreat
