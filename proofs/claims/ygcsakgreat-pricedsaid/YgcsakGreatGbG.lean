/-
  yp, for GasBounds: NativeRun.
-/
import Derived.Test.YgcsakGreatGbF
namespace Go.Proofs.YgcsakGreat
set_option linter.unusedVariables false
set_option linter.unusedSimpArgs false
set_option maxRecDepth 100000
open Go.RowKit

/-- new bytes -/
def OutR (w : World) (e : Ending) (w' : World) : Prop := ∃ A k c ys, e = .returned (.slice A k c) ∧ Src w' A k c ys ∧ k ≤ 1000000 ∧ New w A ∧ Below w.heap.size w w'

set_option maxHeartbeats 4000000 in
theorem nativeRun_4 (A : Option Addr) (l c : Nat) (xs : List Int) (w : World) (hx : Src w A l c xs) (hl : l ≤ 1000000) :
    Calls Sakg.prog 200 #[.int .u8 4, .slice A l c] w (OutR w) := by
  have hxl := hx.len_eq
  have HB := hide (bytesOf_any A l c xs w hx (by omega))
  clear hx
  go_enter Sakg.func200, Sakg.ntmps200
  go_wp2_with fail
  refine (unhide HB).mono ?_
  rintro e w1 ⟨A1, k1, rfl, s1, -, N1, b1⟩
  have hk := s1.len_eq
  have S1 := hide s1
  clear s1
  go_wp2
  go_ret
  exact ⟨A1, k1, k1, xs, rfl, unhide S1, by omega, N1, b1⟩

set_option maxHeartbeats 4000000 in
theorem nativeRun_none (kd : Nat) (h4 : kd ≠ 4) (h5 : kd ≠ 5) (A : Option Addr) (l c : Nat) (xs : List Int) (w : World) (hx : Src w A l c xs) (hl : l ≤ 1000000) : Calls Sakg.prog 200 #[.int .u8 kd, .slice A l c] w (OutR w) := by
  have t4 : ((kd : Int) == 4) = false := by rw [beq_eq_false_iff_ne]; omega
  have t5 : ((kd : Int) != 5) = true := by rw [bne_iff_ne]; omega
  have HL := hide (lengths_any A l c xs w hx hl)
  clear hx
  go_enter Sakg.func200, Sakg.ntmps200
  go_wp2_with fail
  refine (unhide HL).mono ?_
  rintro e w1 ⟨⟨b, ex, m, ok, rfl, hb, he, hm⟩, b1⟩
  go_wp2
  go_ret
  exact ⟨none, 0, 0, [], rfl, Src.ofNil _, by omega, New.nil _, b1⟩

theorem len_pow {w : World} {A : Option Addr} {k c n : Nat} (h : IsNat w A k c n) (m : Nat) (hm : n < 256 ^ m) : k ≤ m := h.len m hm

set_option maxHeartbeats 16000000 in
theorem nativeRun_5 (A : Option Addr) (l c : Nat) (xs : List Int) (w : World) (hx : Src w A l c xs) (hl : l ≤ 1000000) :
    Calls Sakg.prog 200 #[.int .u8 5, .slice A l c] w (OutR w) := by
  have hBB := big_ge
  have HX := hide hx
  have HL := hide (lengths_any A l c xs w hx hl)
  have HFIN : ∀ wz g ys k, OwnT 5 wz g ys → ys.length = k → Byt ys → k ≤ 64 → Hid (Calls Sakg.prog 17 #[.slice (some ⟨g, 0, none⟩) k k] wz (MakesNat wz (val ys.reverse))) ∧ val ys.reverse < 256 ^ k := fun wz g ys k ho hyl hyb hk => by
    have s1 : Src wz (some ⟨g, 0, none⟩) k k ys := ho.src_all hyb k hyl.symm (by unfold maxLen; omega)
    refine ⟨hide (fromBE_any _ k k ys wz s1 (by omega)), ?_⟩
    have := val_lt ys.reverse hyb.reverse
    rwa [List.length_reverse, hyl] at this
  clear hx
  go_enter Sakg.func200, Sakg.ntmps200
  go_wp2_with fail
  refine (unhide HL).mono ?_
  rintro e w1 ⟨⟨b, ex, m, ok, rfl, hb, he, hm⟩, b1⟩
  cases ok with
  | false =>
    go_wp2
    go_ret
    exact ⟨none, 0, 0, [], rfl, Src.ofNil _, by omega, New.nil _, b1⟩
  | true =>
    have HP1 := hide (part_any A l c xs 96 b w1 ((unhide HX).kept b1) (by omega) (by omega) hl)
    go_wp2_with fail
    refine (unhide HP1).mono ?_
    rintro e w2 ⟨g2, y2, rfl, o2, hl2, hy2, hg2, b2⟩
    obtain ⟨HF2, hv2⟩ := HFIN w2 g2 y2 b o2 hl2 hy2 hb
    clear o2
    go_wp2_with fail
    refine (unhide HF2).mono ?_
    rintro e w3 ⟨A3, k3, c3, rfl, n3, N3, b3⟩
    generalize val y2.reverse = v1 at n3 hv2
    have NN3 := hide n3
    have d3 : Below w.heap.size w w3 := b1.trans ((b2.trans (b3.mono b2.size)).mono b1.size)
    obtain ⟨o1, ho1⟩ : ∃ o1, o1 = 96 + b := ⟨_, rfl⟩
    have eo1 : (96 : Int) + (b : Int) = (o1 : Int) := by omega
    obtain ⟨o2, ho2⟩ : ∃ o2, o2 = o1 + ex := ⟨_, rfl⟩
    have eo2 : (o1 : Int) + (ex : Int) = (o2 : Int) := by omega
    have ho1l : o1 ≤ 160 := by omega
    have ho2l : o2 ≤ 224 := by omega
    have HP2 := hide (part_any A l c xs o1 ex w3 ((unhide HX).kept d3) (by omega) (by omega) hl)
    clear n3 ho1 ho2
    go_wp2_with fail
    refine (unhide HP2).mono ?_
    rintro e w4 ⟨g4, y4, rfl, o4, hl4, hy4, hg4, b4⟩
    obtain ⟨HF4, hv4⟩ := HFIN w4 g4 y4 ex o4 hl4 hy4 he
    clear o4
    go_wp2_with fail
    refine (unhide HF4).mono ?_
    rintro e w5 ⟨A5, k5, c5, rfl, n5, N5, b5⟩
    generalize val y4.reverse = v2 at n5 hv4
    have NN5 := hide n5
    have b35 : Below w3.heap.size w3 w5 := b4.trans (b5.mono b4.size)
    have d5 : Below w.heap.size w w5 := d3.trans (b35.mono d3.size)
    have HP3 := hide (part_any A l c xs o2 m w5 ((unhide HX).kept d5) (by omega) (by omega) hl)
    clear n5
    go_wp2_with fail
    refine (unhide HP3).mono ?_
    rintro e w6 ⟨g6, y6, rfl, o6, hl6, hy6, hg6, b6⟩
    obtain ⟨HF6, hv6⟩ := HFIN w6 g6 y6 m o6 hl6 hy6 hm
    clear o6
    go_wp2_with fail
    refine (unhide HF6).mono ?_
    rintro e w7 ⟨A7, k7, c7, rfl, n7, N7, b7⟩
    generalize val y6.reverse = v3 at n7 hv6
    have b57 : Below w5.heap.size w5 w7 := b6.trans (b7.mono b6.size)
    have b37 : Below w3.heap.size w3 w7 := b35.trans (b57.mono b35.size)
    have d7 : Below w.heap.size w w7 := d5.trans (b57.mono d5.size)
    have h64 : ∀ k, k ≤ 64 → (256 : Nat) ^ k ≤ 256 ^ 64 := fun k hk => Nat.pow_le_pow_right (by omega) hk
    have HME := hide (modExp_any A3 A5 A7 k3 c3 k5 c5 k7 c7 v1 v2 v3 w7 ((unhide NN3).kept b37) ((unhide NN5).kept b57) n7 (Nat.lt_of_lt_of_le hv2 (h64 b hb)) (Nat.lt_of_lt_of_le hv4 (h64 ex he)) (Nat.lt_of_lt_of_le hv6 (h64 m hm)))
    clear n7
    go_wp2_with fail
    refine (unhide HME).mono ?_
    rintro e w8 ⟨A8, k8, c8, r, rfl, n8, hur, b8⟩
    have d8 : Below w.heap.size w w8 := d7.trans (b8.mono d7.size)
    have hrm : r < 256 ^ m := Nat.lt_of_le_of_lt hur.1 hv6
    have hk8 : k8 ≤ m := n8.len m hrm
    obtain ⟨ds, hsd, -, -, -⟩ := n8
    have HSD := hide hsd
    clear hsd hv2 hv4 hv6 HP1 HP2 HP3 HME
    go_upto_region 9 with (at_make; refine wpList_make_bytes_u rfl _ _ 30 rfl Sakg.underlying30 _ _ m rfl rfl rfl rfl (by omega) ?_; intro w9 ho9 hb9 hs9)
    have HO9 := hide ho9
    have HB9 := hide hb9
    clear ho9 hb9 hs9
    go_wp2_with fail
    go_loopg [55] k8 (fun gk iv wr => ∃ (i : Nat) (ys : List Int), i + gk = k8 ∧ iv = .int .i64 i ∧ OwnT 5 wr w8.heap.size ys ∧ ys.length = m ∧ Byt ys ∧ Below w8.heap.size w8 wr)
    case atStart => exact ⟨0, zeros m, by omega, rfl, unhide HO9, zeros_len m, zeros_byt m, unhide HB9⟩
    case round =>
      obtain ⟨i, ys, hi, rfl, ho, hyl, hyb, hbe⟩ := hrel
      have HO := hide ho
      clear ho
      by_cases hlt : i < k8
      · obtain ⟨bb, off, rfl, hcs⟩ := ((unhide HSD).kept hbe).at_ (by omega)
        have hci := hcs i hlt
        have hdb := (unhide HSD).byt.get i
        generalize ds.getD i 0 = y at hci hdb
        obtain ⟨j, hj⟩ : ∃ j, j = m - 1 - i := ⟨_, rfl⟩
        have hwm : IntKind.i64.wrap (m : Int) = (m : Int) := by rw [IntKind.wrap_i64]; omega
        have ej : (m : Int) - 1 - (i : Int) = (j : Int) := by omega
        have hjm : j < m := by omega
        have hro : RowT 5 wr w8.heap.size (bv ys) := unhide HO
        have x1 : ∃ u, wr.cell? ⟨w8.heap.size, j, none⟩ = some u := by rw [hro.cell, List.getElem?_eq_getElem (by rw [bv_len, hyl]; exact hjm)]; exact ⟨_, rfl⟩
        obtain ⟨u1, x1⟩ := x1
        have f1 := hro.froz j
        have hset := hro.set j (.int .u8 y)
        rw [bv_set] at hset
        have b2' : Below w8.heap.size w8 (wr.setCell ⟨w8.heap.size, j, none⟩ (.int .u8 y)) := hbe.setCell (p := ⟨w8.heap.size, j, none⟩) (Nat.le_refl _) _
        have HSET := hide hset
        have B2' := hide b2'
        clear hcs hset b2' hj hro
        go_wp2
        go_roundg (k8 - 1 - i)
        case measure => omega
        case rel => exact ⟨i + 1, ys.set j y, by omega, rfl, unhide HSET, by rw [List.length_set]; exact hyl, hyb.set j y hdb, unhide B2'⟩
      · go_wp2
        go_ret
        exact ⟨some ⟨w8.heap.size, 0, none⟩, m, m, ys, rfl, (unhide HO).src_all hyb m hyl.symm (by unfold maxLen; omega), by omega, fun x hx => by obtain rfl := Option.some.inj hx; exact d8.size, d8.trans (hbe.mono d8.size)⟩

end Go.Proofs.YgcsakGreat
