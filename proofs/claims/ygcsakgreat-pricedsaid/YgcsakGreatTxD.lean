/-
  yp.Intrinsic; (*State).baseFee.
-/
import Derived.Test.YgcsakGreatTxB
namespace Go.Proofs.YgcsakGreat
set_option linter.unusedVariables false
set_option linter.unusedSimpArgs false
set_option maxRecDepth 100000
open Go.RowKit

theorem src_of_range {w : World} {b o n : Nat} {xs : List Int} (h : w.rangeAt b o (bv xs)) (hb : Byt xs) (hl : xs.length = n) (hn : n ≤ maxLen) : Src w (some ⟨b, o, none⟩) n n xs := by
  refine ⟨hl, Nat.le_refl _, hn, hb, (fun h => by cases h), fun hl0 => ⟨b, o, rfl, fun i hi => ?_⟩⟩
  refine h i _ ?_
  rw [bv, List.getElem?_map, getD_some' xs i (by omega)]
  rfl
/-- a big-endian number -/
def beN (xs : List Int) : Nat := val xs.reverse
theorem IsW.lt {a : List Int} (h : IsW a) : beN a < 256 ^ 32 := by
  have := val_lt a.reverse h.byt.reverse
  rw [List.length_reverse, h.len] at this
  exact this
theorem IsW.big {a : List Int} (h : IsW a) : beN a < BIG := Nat.lt_of_lt_of_le h.lt (big_pow 32 (by omega))
theorem big_ge : 1000000000000000000000000 ≤ BIG := Nat.le_trans (by decide) (big_pow 20 (by omega))
theorem max32 : (32 : Nat) ≤ maxLen := by unfold maxLen; omega

set_option maxHeartbeats 2000000 in
theorem baseFee_any (bw : Nat) (fee : List Int) (w : World) (hr : w.rangeAt bw 146 (bv fee)) (hf : IsW fee) :
    Calls Sakg.prog 125 #[.pointer (some ⟨bw, 0, none⟩)] w (MakesNat w (beN fee)) := by
  have HC := hide (fromBE_any (some ⟨bw, 146, none⟩) 32 32 fee w (src_of_range hr hf.byt hf.len max32) (by omega))
  clear hr
  go_enter Sakg.func125, Sakg.ntmps125
  go_wp2_with fail
  refine (unhide HC).mono ?_
  rintro e w2 ⟨A, k, c, rfl, h1, h2, h3⟩
  go_wp2
  go_ret
  exact ⟨A, k, c, rfl, h1, h2, h3⟩

/-- a number, wherever it lies -/
def GivesNat (w : World) (n : Nat) (e : Ending) (w' : World) : Prop := ∃ A k c, e = .returned (.slice A k c) ∧ IsNat w' A k c n ∧ Below w.heap.size w w'
def zerosN : List Int → Nat
  | [] => 0
  | x :: xs => (if x = 0 then 1 else 0) + zerosN xs
theorem zerosN_le : ∀ xs : List Int, zerosN xs ≤ xs.length
  | [] => Nat.le_refl _
  | x :: xs => by have := zerosN_le xs; simp only [zerosN, List.length_cons]; split <;> omega
def accN : List (List Int × List (List Int)) → Nat
  | [] => 0
  | x :: xs => (2400 + 1900 * x.2.length) + accN xs
theorem accN_le : ∀ xs : List (List Int × List (List Int)), accN xs = 2400 * xs.length + 1900 * keysN xs
  | [] => rfl
  | x :: xs => by have := accN_le xs; simp only [accN, keysN, List.length_cons]; omega
def dataN (d : YTx) : Nat := 21000 + 4 * zerosN d.data + 16 * (d.data.length - zerosN d.data)
def intrN (d : YTx) : Nat := dataN d + accN d.access + (if d.create then 32000 + 2 * ((d.data.length + 31) / 32) else 0)

set_option maxHeartbeats 8000000 in
theorem intrinsic_any (r : List Value) (d : YTx) (A1 : Option Addr) (k1 c1 : Nat) (A2 : Option Addr) (k2 c2 : Nat) (w : World) (h : TxC r d A1 k1 c1 A2 k2 c2) (hd : Src w A1 k1 c1 d.data) (ha : AccsR w A2 k2 c2 d.access) (hk1 : k1 ≤ 1024) (hk2 : listB d.access = true) :
    Calls Sakg.prog 102 #[.agg r.toArray] w (GivesNat w (intrN d)) := by
  have hlen := ha.len
  have hdl := hd.len_eq
  have hacc : accN d.access ≤ 1000000 := by
    unfold listB at hk2
    simp at hk2
    have := accN_le d.access
    omega
  have hk16 : k2 ≤ 16 := by
    unfold listB at hk2
    simp at hk2
    omega
  have hzl := zerosN_le d.data
  obtain ⟨W, hW⟩ : ∃ W, W = w.alloc (.cells r.toArray 33) := ⟨_, rfl⟩
  have hb0 : Below w.heap.size w W := by rw [hW]; exact (Below.refl _ _).alloc (Nat.le_refl _) _
  have hr0 : RowT 33 W w.heap.size r := by rw [hW]; exact RowT.new _ _ _
  have hcells : ∀ wz, Below W.heap.size W wz → wz.cell? ⟨w.heap.size, 107, none⟩ = some (.slice A1 k1 c1) ∧ wz.cell? ⟨w.heap.size, 173, none⟩ = some (.slice A2 k2 c2) ∧ wz.cell? ⟨w.heap.size, 40, none⟩ = some (.bool d.create) := fun wz hz => by
    have := hr0.kept hz
    exact ⟨by rw [this.cell]; exact h.data, by rw [this.cell]; exact h.access, by rw [this.cell]; exact h.create⟩
  have HCELLS := hide hcells
  have HN0 := hide (num_any 21000 W (by omega))
  have HD := hide hd
  obtain ⟨rows, g1, g2⟩ := ha
  have HAT := hide (rows_at' ([], []) g1 g2)
  have HLEN := hide hlen
  have HDL := hide hdl
  have hmx : k2 ≤ 9223372036854775807 := by omega
  clear g1 g2 hlen hdl hcells hr0 hd
  go_enter Sakg.func102, Sakg.ntmps102
  go_upto_region 1 with fail
  rw [← hW]
  clear hW
  go_upto_region 2 with (go_at_call 97; refine (unhide HN0).mono ?_; rintro e w1 ⟨A3, k3, c3, rfl, hG, -, hb1⟩)
  have c107 := (unhide HCELLS w1 hb1).1
  have hb1' : Below w.heap.size w w1 := hb0.trans (hb1.mono hb0.size)
  have hG1 := hide hG
  clear hG
  go_wp2_with fail
  go_loopg [4, 13] k1 (fun gk zv iv wr => ∃ (i z : Nat), i + gk = k1 ∧ iv = .int .i64 i ∧ zv = .int .u64 z ∧ z ≤ i ∧ zerosN d.data = z + zerosN (d.data.drop i) ∧ w1 = wr)
  case atStart => exact ⟨0, 0, by omega, rfl, rfl, by omega, by simp, rfl⟩
  case round =>
    obtain ⟨i, z, hi, rfl, rfl, hzi, hzn, rfl⟩ := hrel
    have HZ := hide hzn
    clear hzn
    by_cases hil : i < k1
    · obtain ⟨b, off, rfl, hcs⟩ := (unhide HD).at_ (by omega)
      have hlt := (unhide HD).lt _ rfl (by omega)
      have hci : w1.cell? ⟨b, off + i, none⟩ = some (.int .u8 (d.data.getD i 0)) := by rw [hb1'.cell (p := ⟨b, off + i, none⟩) hlt]; exact hcs i hil
      have hdrop := drop_cons d.data i (by have := unhide HDL; omega)
      obtain ⟨x, hx⟩ : ∃ x, x = d.data.getD i 0 := ⟨_, rfl⟩
      rw [← hx] at hci hdrop
      have hz1 : zerosN d.data = z + ((if x = 0 then 1 else 0) + zerosN (d.data.drop (i + 1))) := by rw [unhide HZ, hdrop]; rfl
      have hil' : (i : Int) < (k1 : Int) := by omega
      clear hcs hdrop hx
      by_cases hx0 : x = 0
      · subst hx0
        rw [if_pos rfl] at hz1
        have HZ1 := hide hz1
        clear hz1
        have hw1 : IntKind.u64.wrap ((z : Int) + 1) = (z : Int) + 1 := by rw [IntKind.wrap_u64]; omega
        go_wp2
        go_roundg (k1 - 1 - i)
        case measure => omega
        case rel => exact ⟨i + 1, z + 1, by omega, rfl, rfl, by omega, by rw [unhide HZ1]; omega, rfl⟩
      · rw [if_neg hx0] at hz1
        have HZ1 := hide hz1
        have t0 : (x == 0) = false := by simp [hx0]
        clear hz1 hx0
        go_wp2
        go_roundg (k1 - 1 - i)
        case measure => omega
        case rel => exact ⟨i + 1, z, by omega, rfl, rfl, by omega, by rw [unhide HZ1]; omega, rfl⟩
    · obtain rfl : i = k1 := by omega
      have hz1 : z = zerosN d.data := by
        rw [unhide HZ, List.drop_of_length_le (by have := unhide HDL; omega)]
        simp [zerosN]
      have HZ1 := hide hz1
      clear hil hi HZ hz1
      have hB := big_ge
      have hzi2 : z ≤ i := hzi
      obtain ⟨q, hq⟩ : ∃ q, q + z = i := ⟨i - z, by omega⟩
      have hwq : IntKind.u64.wrap ((i : Int) - (z : Int)) = (q : Int) := by rw [IntKind.wrap_u64]; omega
      have hwi : IntKind.u64.wrap (i : Int) = (i : Int) := by rw [IntKind.wrap_u64]; omega
      have hwq2 : IntKind.u64.wrap (q : Int) = (q : Int) := by rw [IntKind.wrap_u64]; omega
      have hqi : (i : Int) - (z : Int) = (q : Int) := by omega
      go_wp2_with fail
      refine (num_any 4 w1 (by omega)).mono ?_
      rintro e w2 ⟨Aa, ka, ca, rfl, na, -, b2⟩
      go_wp2_with fail
      refine (num_any z w2 (by omega)).mono ?_
      rintro e w3 ⟨Ab, kb, cb, rfl, nb, -, b3⟩
      go_wp2_with fail
      refine ((na.kept b3).mul nb (by omega) (by omega)).mono ?_
      rintro e w4 ⟨Ac, kc, cc, rfl, nc, -, b4⟩
      have b24 : Below w1.heap.size w1 w4 := b2.trans ((b3.mono b2.size).trans (b4.mono (Nat.le_trans b2.size b3.size)))
      go_wp2_with fail
      refine (((unhide hG1).kept b24).add nc (by omega) (by omega)).mono ?_
      rintro e w5 ⟨A4, k4, c4, rfl, nG, -, b5⟩
      have b15 : Below w1.heap.size w1 w5 := b24.trans (b5.mono b24.size)
      have bW5 : Below W.heap.size W w5 := hb1.trans (b15.mono hb1.size)
      have NG := hide nG
      clear na nb nc b2 b3 b4 b24 b5 nG hG1 c107
      go_upto_region 10 with fail
      have dW : Below W.heap.size W w5.drew := bW5.trans (Quiet.below ⟨1, rfl⟩ _)
      refine wp_region_noPanic ?_
      refine wp_region_held_drew (S := fun w' => w'.cell? ⟨w.heap.size, 107, none⟩ = some (.slice A1 i c1)) (by kernel_rfl) ((unhide HCELLS _ dW).1) (fun hHeld => ?_)
      refine held_takeD 0 (.slice A4 k4 c4) (some 28) (by rfl) (by rfl) (by kernel_rfl) (by kernel_rfl) (by kernel_rfl) (fun _ _ _ h => h) (.inl ⟨by rfl, fun _ _ => by rfl⟩) (hHeld) ?_
      simp only [Act.put, List.setIfInBounds_toArray, List.set_cons_zero, List.set_cons_succ]
      refine held_takeD 2 (.pointer (some ⟨w.heap.size, 107, none⟩)) (some 30) (by rfl) (by rfl) (by kernel_rfl) (by kernel_rfl) (by kernel_rfl) (fun _ _ _ h => h) (.inl ⟨by rfl, fun _ _ => by go_simp⟩) (hHeld) ?_
      simp only [Act.put, List.setIfInBounds_toArray, List.set_cons_zero, List.set_cons_succ]
      refine held_takeD 3 (.slice A1 i c1) (some 31) (by rfl) (by rfl) (by kernel_rfl) (by kernel_rfl) (by kernel_rfl) (fun _ _ _ h => h) (.inl ⟨by rfl, fun wS hS => by have h107 := hS; go_simp⟩) (hHeld) ?_
      simp only [Act.put, List.setIfInBounds_toArray, List.set_cons_zero, List.set_cons_succ]
      refine held_takeD 4 (.int .i64 i) (some 32) (by rfl) (by rfl) (by kernel_rfl) (by kernel_rfl) (by kernel_rfl) (fun _ _ _ h => h) (.inl ⟨by rfl, fun _ _ => by go_simp⟩) (hHeld) ?_
      simp only [Act.put, List.setIfInBounds_toArray, List.set_cons_zero, List.set_cons_succ]
      refine held_takeD 5 (.int .u64 i) (some 33) (by rfl) (by rfl) (by kernel_rfl) (by kernel_rfl) (by kernel_rfl) (fun _ _ _ h => h) (.inl ⟨by rfl, fun _ _ => by go_simp⟩) (hHeld) ?_
      simp only [Act.put, List.setIfInBounds_toArray, List.set_cons_zero, List.set_cons_succ]
      refine held_takeD 6 (.int .u64 z) (some 34) (by rfl) (by rfl) (by kernel_rfl) (by kernel_rfl) (by kernel_rfl) (fun _ _ _ h => h) (.inl ⟨by rfl, fun _ _ => by rfl⟩) (hHeld) ?_
      simp only [Act.put, List.setIfInBounds_toArray, List.set_cons_zero, List.set_cons_succ]
      refine held_takeD 7 (.int .u64 q) (some 35) (by rfl) (by rfl) (by kernel_rfl) (by kernel_rfl) (by kernel_rfl) (fun _ _ _ h => h) (.inl ⟨by rfl, fun _ _ => by go_simp⟩) (hHeld) ?_
      simp only [Act.put, List.setIfInBounds_toArray, List.set_cons_zero, List.set_cons_succ]
      refine held_one 1 (by kernel_rfl) (by rfl) (fun K' hK' => ?_)
      go_simp
      refine (num_any 16 w5.drew (by omega)).mono ?_
      rintro e w6 ⟨Aa, ka, ca, rfl, na, -, b6⟩
      refine hK'.out _ _ ((unhide HCELLS _ (dW.trans (b6.mono dW.size))).1) ?_
      clear hK' K'
      have d6 := dW.trans (b6.mono dW.size)
      refine held_one 8 (by kernel_rfl) (by rfl) (fun K' hK' => ?_)
      go_simp
      refine (num_any q w6 (by omega)).mono ?_
      rintro e w7 ⟨Ab, kb, cb, rfl, nb, -, b7⟩
      refine hK'.out _ _ ((unhide HCELLS _ (d6.trans (b7.mono d6.size))).1) ?_
      clear hK' K'
      have d7 := d6.trans (b7.mono d6.size)
      refine held_one 9 (by kernel_rfl) (by rfl) (fun K' hK' => ?_)
      go_simp
      refine ((na.kept b7).mul nb (by omega) (by omega)).mono ?_
      rintro e w8 ⟨Ac, kc, cc, rfl, nc, -, b8⟩
      refine hK'.out _ _ ((unhide HCELLS _ (d7.trans (b8.mono d7.size))).1) ?_
      clear hK' K'
      have d8 := d7.trans (b8.mono d7.size)
      have b58 : Below w5.heap.size w5 w8 := (Quiet.below (w := w5) ⟨1, rfl⟩ _).trans (b6.trans ((b7.mono b6.size).trans (b8.mono (Nat.le_trans b6.size b7.size))))
      refine held_one 10 (by kernel_rfl) (by rfl) (fun K' hK' => ?_)
      go_simp
      refine (((unhide NG).kept b58).add nc (by omega) (by omega)).mono ?_
      rintro e w9 ⟨A5, k5, c5, rfl, nG, -, b9⟩
      refine hK'.out _ _ ((unhide HCELLS _ (d8.trans (b9.mono d8.size))).1) ?_
      clear hK' K'
      have d9 := d8.trans (b9.mono d8.size)
      refine held_takeD 11 (.slice A5 k5 c5) (some 3) (by rfl) (by rfl) (by kernel_rfl) (by kernel_rfl) (by kernel_rfl) (fun _ _ _ h => h) (.inl ⟨by rfl, fun _ _ => by rfl⟩) ((unhide HCELLS _ d9).1) ?_
      simp only [Act.put, List.setIfInBounds_toArray, List.set_cons_zero, List.set_cons_succ]
      refine wpAnyH_done (by kernel_rfl) ?_ _
      refine NoPanic.normal ?_
      have hGd : 21000 + 4 * z + 16 * q = dataN d := by
        unfold dataN
        have := unhide HDL
        rw [← unhide HZ1, this]
        omega
      rw [hGd] at nG
      have NG := hide nG
      have c173 := (unhide HCELLS _ d9).2.1
      have hdN : dataN d ≤ 100000 := by rw [← hGd]; omega
      clear na nb nc b6 b7 b8 b58 d6 d7 d8 dW nG b9 bW5 b15
      go_wp2_with fail
      go_loopg [3, 42] k2 (fun gk gv iv wr => ∃ (j G : Nat) (A : Option Addr) (k c : Nat), j + gk = k2 ∧ iv = .int .i64 j ∧ gv = .slice A k c ∧ IsNat wr A k c G ∧ G + accN (d.access.drop j) = dataN d + accN d.access ∧ Below W.heap.size W wr)
      case atStart => exact ⟨0, dataN d, A5, k5, c5, by omega, rfl, rfl, unhide NG, by simp, d9⟩
      case round =>
        obtain ⟨j, G, A6, k6, c6, hj, rfl, rfl, nG6, hGs, hbr⟩ := hrel
        have NG6 := hide nG6
        have HGS := hide hGs
        have hGb : G ≤ 2000000 := by omega
        clear nG6 hGs d9 c173
        by_cases hjl : j < k2
        · obtain ⟨b, off, rfl, hlt2, hat⟩ := unhide HAT (by omega)
          obtain ⟨r1, hrg, hrow⟩ := hat j hjl
          have hdrop : d.access.drop j = d.access.getD j ([], []) :: d.access.drop (j + 1) := by
            rw [List.drop_eq_getElem_cons (by have := unhide HLEN; omega)]
            simp [List.getD, show j < d.access.length by have := unhide HLEN; omega]
          obtain ⟨x, hx⟩ : ∃ x, x = d.access.getD j ([], []) := ⟨_, rfl⟩
          rw [← hx] at hrow hdrop
          have hGs2 : G + ((2400 + 1900 * x.2.length) + accN (d.access.drop (j + 1))) = dataN d + accN d.access := by rw [← unhide HGS, hdrop]; rfl
          obtain ⟨A7, k7, c7, q20, hw7⟩ := hrow.keys
          have hk7 := hw7.len
          rw [hk7] at hGs2
          have hk7b : k7 ≤ 2000 := by omega
          have hrl := hrow.len
          have hsz : (Sakg.prog.info? 191).map (·.size) = some r1.length := by rw [hrl]; exact sizeAcc
          have hrg2 : wr.rangeAt b (off + j * 21) r1 := range_below hrg (hb0.trans (hbr.mono hb0.size)) (fun _ => hlt2)
          have HRG := hide hrg2
          have HGS2 := hide hGs2
          have HROW := hide hrow
          have HRL := hide hrl
          have HSZ := hide hsz
          have Q20 := hide q20
          have hw1 : IntKind.u64.wrap (k7 : Int) = (k7 : Int) := by rw [IntKind.wrap_u64]; omega
          clear hat hrg hrg2 hrow hdrop hx hGs2 hrl hsz q20 hw7 hk7 HGS
          go_upto_region 14 with (first
            | ((with_reducible refine at_load 191 ?_); refine wpList_load_g (by rfl) 191 (.tmp 44) rfl b _ rfl r1 _ (unhide HRG) Sakg.underlying191 rfl (unhide HSZ) ?_)
            | ((with_reducible refine at_store 191 ?_); refine wpList_store_whole rfl 191 (.tmp 8) (.tmp 45) rfl _ _ _ r1 rfl rfl (RowT.new _ _ _) (by rw [unhide HRL]; rfl) (unhide HSZ) (unhide HROW).one ?_; intro w2 hr2 hon2; have hbb := box_below hon2; clear hon2))
          have hc20 : ∀ wz, Below w2.heap.size w2 wz → wz.cell? ⟨wr.heap.size, 20, none⟩ = some (.slice A7 k7 c7) := fun wz hz => by rw [(hr2.kept hz).cell]; exact unhide Q20
          have HC20 := hide hc20
          have e0 : Below w2.heap.size w2 w2.drew := Quiet.below ⟨1, rfl⟩ _
          have bW2 : Below W.heap.size W w2 := hbr.trans (hbb.1.mono hbr.size)
          have b0r := hbb.1
          clear hc20 hr2 hbb
          refine wp_region_noPanic ?_
          refine wp_region_held_drew (S := fun w' => w'.cell? ⟨wr.heap.size, 20, none⟩ = some (.slice A7 k7 c7)) (by kernel_rfl) (unhide HC20 _ e0) (fun hHeld => ?_)
          refine held_takeD 0 (.slice A6 k6 c6) (some 46) (by rfl) (by rfl) (by kernel_rfl) (by kernel_rfl) (by kernel_rfl) (fun _ _ _ h => h) (.inl ⟨by rfl, fun _ _ => by rfl⟩) (hHeld) ?_
          simp only [Act.put, List.setIfInBounds_toArray, List.set_cons_zero, List.set_cons_succ]
          refine held_takeD 3 (.pointer (some ⟨wr.heap.size, 20, none⟩)) (some 49) (by rfl) (by rfl) (by kernel_rfl) (by kernel_rfl) (by kernel_rfl) (fun _ _ _ h => h) (.inl ⟨by rfl, fun _ _ => by go_simp⟩) (hHeld) ?_
          simp only [Act.put, List.setIfInBounds_toArray, List.set_cons_zero, List.set_cons_succ]
          refine held_takeD 4 (.slice A7 k7 c7) (some 50) (by rfl) (by rfl) (by kernel_rfl) (by kernel_rfl) (by kernel_rfl) (fun _ _ _ h => h) (.inl ⟨by rfl, fun wS hS => by have h20 := hS; go_simp⟩) (hHeld) ?_
          simp only [Act.put, List.setIfInBounds_toArray, List.set_cons_zero, List.set_cons_succ]
          refine held_takeD 5 (.int .i64 k7) (some 51) (by rfl) (by rfl) (by kernel_rfl) (by kernel_rfl) (by kernel_rfl) (fun _ _ _ h => h) (.inl ⟨by rfl, fun _ _ => by go_simp⟩) (hHeld) ?_
          simp only [Act.put, List.setIfInBounds_toArray, List.set_cons_zero, List.set_cons_succ]
          refine held_takeD 6 (.int .u64 k7) (some 52) (by rfl) (by rfl) (by kernel_rfl) (by kernel_rfl) (by kernel_rfl) (fun _ _ _ h => h) (.inl ⟨by rfl, fun _ _ => by go_simp⟩) (hHeld) ?_
          simp only [Act.put, List.setIfInBounds_toArray, List.set_cons_zero, List.set_cons_succ]
          refine held_one 1 (by kernel_rfl) (by rfl) (fun K' hK' => ?_)
          go_simp
          refine (num_any 2400 w2.drew (by omega)).mono ?_
          rintro e w6 ⟨Aa, ka, ca, rfl, na, -, b6⟩
          refine hK'.out _ _ (unhide HC20 _ (e0.trans (b6.mono e0.size))) ?_
          clear hK' K'
          have d6 := e0.trans (b6.mono e0.size)
          refine held_one 2 (by kernel_rfl) (by rfl) (fun K' hK' => ?_)
          go_simp
          refine (num_any 1900 w6 (by omega)).mono ?_
          rintro e w7 ⟨Ab, kb, cb, rfl, nb, -, b7⟩
          refine hK'.out _ _ (unhide HC20 _ (d6.trans (b7.mono d6.size))) ?_
          clear hK' K'
          have d7 := d6.trans (b7.mono d6.size)
          refine held_one 7 (by kernel_rfl) (by rfl) (fun K' hK' => ?_)
          go_simp
          refine (num_any k7 w7 (by omega)).mono ?_
          rintro e w8 ⟨Ac, kc, cc, rfl, nc, -, b8⟩
          refine hK'.out _ _ (unhide HC20 _ (d7.trans (b8.mono d7.size))) ?_
          clear hK' K'
          have d8 := d7.trans (b8.mono d7.size)
          refine held_one 8 (by kernel_rfl) (by rfl) (fun K' hK' => ?_)
          go_simp
          refine ((nb.kept b8).mul nc (by omega) (by omega)).mono ?_
          rintro e w9 ⟨Ad, kd, cd, rfl, nd, -, b9⟩
          refine hK'.out _ _ (unhide HC20 _ (d8.trans (b9.mono d8.size))) ?_
          clear hK' K'
          have d9 := d8.trans (b9.mono d8.size)
          have b69 : Below w6.heap.size w6 w9 := b7.trans ((b8.mono b7.size).trans (b9.mono (Nat.le_trans b7.size b8.size)))
          refine held_one 9 (by kernel_rfl) (by rfl) (fun K' hK' => ?_)
          go_simp
          refine ((na.kept b69).add nd (by omega) (by omega)).mono ?_
          rintro e w10 ⟨Ae, ke, ce, rfl, ne, -, b10⟩
          refine hK'.out _ _ (unhide HC20 _ (d9.trans (b10.mono d9.size))) ?_
          clear hK' K'
          have d10 := d9.trans (b10.mono d9.size)
          have br10 : Below wr.heap.size wr w10 := b0r.trans (d10.mono b0r.size)
          refine held_one 10 (by kernel_rfl) (by rfl) (fun K' hK' => ?_)
          go_simp
          refine (((unhide NG6).kept br10).add ne (by omega) (by omega)).mono ?_
          rintro e w11 ⟨Af, kf, cf, rfl, nf, -, b11⟩
          refine hK'.out _ _ (unhide HC20 _ (d10.trans (b11.mono d10.size))) ?_
          clear hK' K'
          have d11 := d10.trans (b11.mono d10.size)
          refine held_takeD 11 (.slice Af kf cf) (some 3) (by rfl) (by rfl) (by kernel_rfl) (by kernel_rfl) (by kernel_rfl) (fun _ _ _ h => h) (.inl ⟨by rfl, fun _ _ => by rfl⟩) (unhide HC20 _ d11) ?_
          simp only [Act.put, List.setIfInBounds_toArray, List.set_cons_zero, List.set_cons_succ]
          refine wpAnyH_done (by kernel_rfl) ?_ _
          refine NoPanic.normal ?_
          have bW11 : Below W.heap.size W w11 := bW2.trans (d11.mono bW2.size)
          have NF := hide nf
          clear na nb nc nd ne nf b6 b7 b8 b9 b10 b11 d6 d7 d8 d9 d10 d11 b69 br10 e0
          go_wp2
          go_roundg (k2 - 1 - j)
          case measure => omega
          case rel => exact ⟨j + 1, _, Af, kf, cf, by omega, rfl, rfl, unhide NF, by have := unhide HGS2; omega, bW11⟩
        · obtain rfl : j = k2 := by omega
          have hGe : G = dataN d + accN d.access := by
            have := unhide HGS
            rw [List.drop_of_length_le (by have := unhide HLEN; omega)] at this
            simpa [accN] using this
          clear hj hjl HGS
          obtain ⟨c107, c173, c40⟩ := unhide HCELLS wr hbr
          cases hcr : d.create with
          | false =>
            rw [hcr] at c40
            have hin : G = intrN d := by unfold intrN; rw [hcr, hGe]; rfl
            have HIN := hide hin
            clear hin hGe
            go_wp2
            go_ret
            exact ⟨A6, k6, c6, rfl, unhide HIN ▸ unhide NG6, hb0.trans (hbr.mono hb0.size)⟩
          | true =>
            rw [hcr] at c40
            have hin : G + 32000 + 2 * ((i + 31) / 32) = intrN d := by unfold intrN; rw [hcr, hGe, unhide HDL]; simp; omega
            have HIN := hide hin
            clear hin hGe
            go_wp2_with fail
            refine (num_any 32000 wr (by omega)).mono ?_
            rintro e w2 ⟨Aa, ka, ca, rfl, na, -, b2⟩
            go_wp2_with fail
            refine (((unhide NG6).kept b2).add na (by omega) (by omega)).mono ?_
            rintro e w3 ⟨Ab, kb, cb, rfl, nb, -, b3⟩
            have bW3 : Below W.heap.size W w3 := hbr.trans ((b2.trans (b3.mono b2.size)).mono hbr.size)
            have NB := hide nb
            clear na nb
            go_upto_region 18 with fail
            have dW : Below W.heap.size W w3.drew := bW3.trans (Quiet.below ⟨1, rfl⟩ _)
            refine wp_region_noPanic ?_
            refine wp_region_held_drew (S := fun w' => w'.cell? ⟨w.heap.size, 107, none⟩ = some (.slice A1 i c1)) (by kernel_rfl) ((unhide HCELLS _ dW).1) (fun hHeld => ?_)
            refine held_takeD 0 (.slice Ab kb cb) (some 63) (by rfl) (by rfl) (by kernel_rfl) (by kernel_rfl) (by kernel_rfl) (fun _ _ _ h => h) (.inl ⟨by rfl, fun _ _ => by rfl⟩) (hHeld) ?_
            simp only [Act.put, List.setIfInBounds_toArray, List.set_cons_zero, List.set_cons_succ]
            refine held_takeD 2 (.pointer (some ⟨w.heap.size, 107, none⟩)) (some 65) (by rfl) (by rfl) (by kernel_rfl) (by kernel_rfl) (by kernel_rfl) (fun _ _ _ h => h) (.inl ⟨by rfl, fun _ _ => by go_simp⟩) (hHeld) ?_
            simp only [Act.put, List.setIfInBounds_toArray, List.set_cons_zero, List.set_cons_succ]
            refine held_takeD 3 (.slice A1 i c1) (some 66) (by rfl) (by rfl) (by kernel_rfl) (by kernel_rfl) (by kernel_rfl) (fun _ _ _ h => h) (.inl ⟨by rfl, fun wS hS => by have h107 := hS; go_simp⟩) (hHeld) ?_
            simp only [Act.put, List.setIfInBounds_toArray, List.set_cons_zero, List.set_cons_succ]
            refine held_takeD 4 (.int .i64 i) (some 67) (by rfl) (by rfl) (by kernel_rfl) (by kernel_rfl) (by kernel_rfl) (fun _ _ _ h => h) (.inl ⟨by rfl, fun _ _ => by go_simp⟩) (hHeld) ?_
            simp only [Act.put, List.setIfInBounds_toArray, List.set_cons_zero, List.set_cons_succ]
            refine held_takeD 5 (.int .u64 i) (some 68) (by rfl) (by rfl) (by kernel_rfl) (by kernel_rfl) (by kernel_rfl) (fun _ _ _ h => h) (.inl ⟨by rfl, fun _ _ => by go_simp⟩) (hHeld) ?_
            simp only [Act.put, List.setIfInBounds_toArray, List.set_cons_zero, List.set_cons_succ]
            refine held_one 1 (by kernel_rfl) (by rfl) (fun K' hK' => ?_)
            go_simp
            refine (num_any 2 w3.drew (by omega)).mono ?_
            rintro e w6 ⟨Aa, ka, ca, rfl, na, -, b6⟩
            refine hK'.out _ _ ((unhide HCELLS _ (dW.trans (b6.mono dW.size))).1) ?_
            clear hK' K'
            have d6 := dW.trans (b6.mono dW.size)
            refine held_one 6 (by kernel_rfl) (by rfl) (fun K' hK' => ?_)
            go_simp
            refine (num_any i w6 (by omega)).mono ?_
            rintro e w7 ⟨Ac, kc, cc, rfl, nc, -, b7⟩
            refine hK'.out _ _ ((unhide HCELLS _ (d6.trans (b7.mono d6.size))).1) ?_
            clear hK' K'
            have d7 := d6.trans (b7.mono d6.size)
            refine held_one 7 (by kernel_rfl) (by rfl) (fun K' hK' => ?_)
            go_simp
            refine (words_any Ac kc cc i w7 nc (by omega)).mono ?_
            rintro e w8 ⟨Ad, kd, cd, rfl, nd, -, b8⟩
            refine hK'.out _ _ ((unhide HCELLS _ (d7.trans (b8.mono d7.size))).1) ?_
            clear hK' K'
            have d8 := d7.trans (b8.mono d7.size)
            refine held_one 8 (by kernel_rfl) (by rfl) (fun K' hK' => ?_)
            go_simp
            refine ((na.kept (b7.trans (b8.mono b7.size))).mul nd (by omega) (by omega)).mono ?_
            rintro e w9 ⟨Ae, ke, ce, rfl, ne, -, b9⟩
            refine hK'.out _ _ ((unhide HCELLS _ (d8.trans (b9.mono d8.size))).1) ?_
            clear hK' K'
            have d9 := d8.trans (b9.mono d8.size)
            have b39 : Below w3.heap.size w3 w9 := (Quiet.below (w := w3) ⟨1, rfl⟩ _).trans (b6.trans ((b7.mono b6.size).trans ((b8.mono (Nat.le_trans b6.size b7.size)).trans (b9.mono (Nat.le_trans b6.size (Nat.le_trans b7.size b8.size))))))
            refine held_one 9 (by kernel_rfl) (by rfl) (fun K' hK' => ?_)
            go_simp
            refine (((unhide NB).kept b39).add ne (by omega) (by omega)).mono ?_
            rintro e w10 ⟨Af, kf, cf, rfl, nf, -, b10⟩
            refine hK'.out _ _ ((unhide HCELLS _ (d9.trans (b10.mono d9.size))).1) ?_
            clear hK' K'
            have d10 := d9.trans (b10.mono d9.size)
            refine held_takeD 10 (.slice Af kf cf) (some 3) (by rfl) (by rfl) (by kernel_rfl) (by kernel_rfl) (by kernel_rfl) (fun _ _ _ h => h) (.inl ⟨by rfl, fun _ _ => by rfl⟩) ((unhide HCELLS _ d10).1) ?_
            simp only [Act.put, List.setIfInBounds_toArray, List.set_cons_zero, List.set_cons_succ]
            refine wpAnyH_done (by kernel_rfl) ?_ _
            refine NoPanic.normal ?_
            have NF := hide nf
            clear na nc nd ne nf
            go_wp2
            go_ret
            exact ⟨Af, kf, cf, rfl, unhide HIN ▸ unhide NF, hb0.trans (d10.mono hb0.size)⟩

end Go.Proofs.YgcsakGreat
