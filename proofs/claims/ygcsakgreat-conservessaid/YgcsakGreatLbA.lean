/-
  law: wordsOf, intrinsicOf (the great seat).
-/
import Derived.Test.YgcsakGreatRegB
namespace Go.Proofs.YgcsakGreat
set_option linter.unusedVariables false
set_option linter.unusedSimpArgs false
set_option maxRecDepth 100000
open Go.RowKit

set_option maxHeartbeats 1000000 in
theorem lawWords_any (x : Nat) (w : World) (hx : x ≤ 1000000) : Calls Sakg.prog 128 #[.int .u64 x] w fun e w' => e = .returned (.int .u64 ((x + 31) / 32 : Nat)) ∧ w = w' := by
  have h1 : IntKind.u64.wrap ((x : Int) + 31) = (x : Int) + 31 := by rw [IntKind.wrap_u64]; omega
  go_enter Sakg.func128, Sakg.ntmps128
  go_wp2
  go_ret
  exact ⟨congrArg (fun z => Ending.returned (Value.int .u64 z)) (by omega), rfl⟩

/-- the reach of the keys -/
def Reach (xs : List (List Int × List (List Int))) : Prop := ∀ x ∈ xs, x.2.length ≤ 140737488355328
theorem keysN_take (xs : List (List Int × List (List Int))) (h : Reach xs) : keysN xs ≤ xs.length * 140737488355328 := by
  induction xs with
  | nil => simp [keysN]
  | cons x xs ih =>
    have h1 := h x (by simp)
    have h2 := ih (fun y hy => h y (by simp [hy]))
    simp only [keysN, List.length_cons]
    rw [Nat.add_mul]
    omega

set_option maxHeartbeats 4000000 in
theorem lawIntrinsic_any (r : List Value) (d : YTx) (A1 : Option Addr) (k1 c1 : Nat) (A2 : Option Addr) (k2 c2 : Nat) (w : World) (h : TxC r d A1 k1 c1 A2 k2 c2) (hd : Src w A1 k1 c1 d.data) (ha : AccsR w A2 k2 c2 d.access) (hk1 : k1 ≤ 1024) (hk2 : listB d.access = true) :
    Calls Sakg.prog 95 #[.agg r.toArray] w fun e w' => e = .returned (.int .u64 (intrN d)) ∧ Below w.heap.size w w' := by
  have hlen := ha.len
  have hdl := hd.len_eq
  have hacc : accN d.access ≤ 1000000 := by
    unfold listB at hk2
    simp at hk2
    have := accN_le d.access
    omega
  have hk16 : k2 ≤ 16 := by
    unfold listB at hk2
    simp at hk2
    omega
  have hzl := zerosN_le d.data
  obtain ⟨W, hW⟩ : ∃ W, W = w.alloc (.cells r.toArray 33) := ⟨_, rfl⟩
  have hb0 : Below w.heap.size w W := by rw [hW]; exact (Below.refl _ _).alloc (Nat.le_refl _) _
  have hr0 : RowT 33 W w.heap.size r := by rw [hW]; exact RowT.new _ _ _
  have hcells : ∀ wz, Below W.heap.size W wz → wz.cell? ⟨w.heap.size, 107, none⟩ = some (.slice A1 k1 c1) ∧ wz.cell? ⟨w.heap.size, 173, none⟩ = some (.slice A2 k2 c2) ∧ wz.cell? ⟨w.heap.size, 40, none⟩ = some (.bool d.create) := fun wz hz => by
    have := hr0.kept hz
    exact ⟨by rw [this.cell]; exact h.data, by rw [this.cell]; exact h.access, by rw [this.cell]; exact h.create⟩
  have HCELLS := hide hcells
  have c107 := (hcells W (Below.refl _ _)).1
  have c173 := (hcells W (Below.refl _ _)).2.1
  have HD := hide hd
  obtain ⟨rows, g1, g2⟩ := ha
  have HAT := hide (rows_at' ([], []) g1 g2)
  have HLEN := hide hlen
  have HDL := hide hdl
  clear g1 g2 hlen hdl hcells hr0 hd h
  go_enter Sakg.func95, Sakg.ntmps95
  go_upto_region 1 with fail
  rw [← hW]
  clear hW
  go_wp2_with fail
  go_loopg [3, 5, 11] k1 (fun gk gv bv' iv wr => ∃ (i z : Nat), i + gk = k1 ∧ iv = .int .i64 i ∧ gv = .int .u64 (21000 + 4 * z + 16 * (i - z) : Nat) ∧ z ≤ i ∧ zerosN d.data = z + zerosN (d.data.drop i) ∧ W = wr)
  case atStart => exact ⟨0, 0, by omega, rfl, rfl, by omega, by simp, rfl⟩
  case round =>
    obtain ⟨i, z, hi, rfl, rfl, hzi, hzn, rfl⟩ := hrel
    have HZ := hide hzn
    clear hzn
    by_cases hil : i < k1
    · obtain ⟨b, off, rfl, hcs⟩ := (unhide HD).at_ (by omega)
      have hlt := (unhide HD).lt _ rfl (by omega)
      have hci : W.cell? ⟨b, off + i, none⟩ = some (.int .u8 (d.data.getD i 0)) := by rw [hb0.cell (p := ⟨b, off + i, none⟩) hlt]; exact hcs i hil
      have hdrop := drop_cons d.data i (by have := unhide HDL; omega)
      obtain ⟨x, hx⟩ : ∃ x, x = d.data.getD i 0 := ⟨_, rfl⟩
      rw [← hx] at hci hdrop
      have hz1 : zerosN d.data = z + ((if x = 0 then 1 else 0) + zerosN (d.data.drop (i + 1))) := by rw [unhide HZ, hdrop]; rfl
      obtain ⟨G, hG⟩ : ∃ G, G = 21000 + 4 * z + 16 * (i - z) := ⟨_, rfl⟩
      rw [← hG]
      have hw1 : IntKind.u64.wrap ((G : Int) + 4) = (G : Int) + 4 := by rw [IntKind.wrap_u64]; omega
      have hw2 : IntKind.u64.wrap ((G : Int) + 4 + 12) = (G : Int) + 4 + 12 := by rw [IntKind.wrap_u64]; omega
      clear hcs hdrop hx
      by_cases hx0 : x = 0
      · subst hx0
        rw [if_pos rfl] at hz1
        have HZ1 := hide hz1
        clear hz1
        go_wp2
        go_roundg (k1 - 1 - i)
        case measure => omega
        case rel => exact ⟨i + 1, z + 1, by omega, rfl, congrArg (Value.int .u64) (by omega), by omega, by rw [unhide HZ1]; omega, rfl⟩
      · rw [if_neg hx0] at hz1
        have HZ1 := hide hz1
        have t0 : (x == 0) = false := by simp [hx0]
        have t1 : (x != 0) = true := by simp [hx0]
        clear hz1 hx0
        go_wp2
        go_roundg (k1 - 1 - i)
        case measure => omega
        case rel => exact ⟨i + 1, z, by omega, rfl, congrArg (Value.int .u64) (by omega), by omega, by rw [unhide HZ1]; omega, rfl⟩
    · obtain rfl : i = k1 := by omega
      have hz1 : z = zerosN d.data := by
        rw [unhide HZ, List.drop_of_length_le (by have := unhide HDL; omega)]
        simp [zerosN]
      have hG : 21000 + 4 * z + 16 * (i - z) = dataN d := by
        unfold dataN
        rw [← hz1, unhide HDL]
      have hGb : dataN d ≤ 100000 := by rw [← hG]; omega
      rw [hG]
      have HZ1 := hide hz1
      clear hil hi HZ hz1 hG
      go_wp2_with fail
      go_loopg [3, 25] k2 (fun gk gv iv wr => ∃ (j G : Nat), j + gk = k2 ∧ iv = .int .i64 j ∧ gv = .int .u64 G ∧ G + accN (d.access.drop j) = dataN d + accN d.access ∧ Below W.heap.size W wr)
      case atStart => exact ⟨0, dataN d, by omega, rfl, rfl, by simp, Below.refl _ _⟩
      case round =>
        obtain ⟨j, G, hj, rfl, rfl, hGs, hbr⟩ := hrel
        have HGS := hide hGs
        have hGb2 : G ≤ 2000000 := by omega
        clear hGs
        by_cases hjl : j < k2
        · obtain ⟨b, off, rfl, hlt2, hat⟩ := unhide HAT (by omega)
          obtain ⟨r1, hrg, hrow⟩ := hat j hjl
          have hdrop : d.access.drop j = d.access.getD j ([], []) :: d.access.drop (j + 1) := by
            rw [List.drop_eq_getElem_cons (by have := unhide HLEN; omega)]
            simp [List.getD, show j < d.access.length by have := unhide HLEN; omega]
          obtain ⟨x, hx⟩ : ∃ x, x = d.access.getD j ([], []) := ⟨_, rfl⟩
          rw [← hx] at hrow hdrop
          have hGs2 : G + ((2400 + 1900 * x.2.length) + accN (d.access.drop (j + 1))) = dataN d + accN d.access := by rw [← unhide HGS, hdrop]; rfl
          obtain ⟨A7, k7, c7, q20, hw7⟩ := hrow.keys
          rw [hw7.len] at hGs2
          have hk7b : k7 ≤ 2000 := by omega
          have hrl := hrow.len
          have hsz : (Sakg.prog.info? 191).map (·.size) = some r1.length := by rw [hrl]; exact sizeAcc
          have hrg2 : wr.rangeAt b (off + j * 21) r1 := range_below hrg (hb0.trans (hbr.mono hb0.size)) (fun _ => hlt2)
          have HRG := hide hrg2
          have HGS2 := hide hGs2
          have HROW := hide hrow
          have HRL := hide hrl
          have HSZ := hide hsz
          have Q20 := hide q20
          have hw1 : IntKind.u64.wrap (k7 : Int) = (k7 : Int) := by rw [IntKind.wrap_u64]; omega
          have hw2 : IntKind.u64.wrap (1900 * (k7 : Int)) = 1900 * (k7 : Int) := by rw [IntKind.wrap_u64]; omega
          have hw3 : IntKind.u64.wrap (2400 + 1900 * (k7 : Int)) = 2400 + 1900 * (k7 : Int) := by rw [IntKind.wrap_u64]; omega
          have hw4 : IntKind.u64.wrap ((G : Int) + (2400 + 1900 * (k7 : Int))) = (G : Int) + (2400 + 1900 * (k7 : Int)) := by rw [IntKind.wrap_u64]; omega
          clear hat hrg hrg2 hrow hdrop hx hGs2 hrl hsz q20 hw7 HGS
          go_upto_region 12 with (first
            | ((with_reducible refine at_load 191 ?_); refine wpList_load_g (by rfl) 191 (.tmp 27) rfl b _ rfl r1 _ (unhide HRG) Sakg.underlying191 rfl (unhide HSZ) ?_)
            | ((with_reducible refine at_store 191 ?_); refine wpList_store_whole rfl 191 (.tmp 7) (.tmp 28) rfl _ _ _ r1 rfl rfl (RowT.new _ _ _) (by rw [unhide HRL]; rfl) (unhide HSZ) (unhide HROW).one ?_; intro w2 hr2 hon2; have hbb := box_below hon2; clear hon2))
          have c20 : w2.cell? ⟨wr.heap.size, 20, none⟩ = some (.slice A7 k7 c7) := by rw [hr2.cell]; exact unhide Q20
          have bW2 : Below W.heap.size W w2 := hbr.trans (hbb.1.mono hbr.size)
          clear hr2 hbb
          go_wp2
          go_roundg (k2 - 1 - j)
          case measure => omega
          case rel => exact ⟨j + 1, G + (2400 + 1900 * k7), by omega, rfl, congrArg (Value.int .u64) (by omega), by have := unhide HGS2; omega, bW2⟩
        · obtain rfl : j = k2 := by omega
          have hGe : G = dataN d + accN d.access := by
            have := unhide HGS
            rw [List.drop_of_length_le (by have := unhide HLEN; omega)] at this
            simpa [accN] using this
          clear hj hjl HGS c107 c173
          obtain ⟨c107, c173, c40⟩ := unhide HCELLS wr hbr
          cases hcr : d.create with
          | false =>
            rw [hcr] at c40
            have hin : G = intrN d := by unfold intrN; rw [hcr, hGe]; rfl
            have HIN := hide hin
            clear hin hGe
            go_wp2
            go_ret
            exact ⟨by rw [← unhide HIN]; rfl, hb0.trans (hbr.mono hb0.size)⟩
          | true =>
            rw [hcr] at c40
            have hin : G + (32000 + 2 * ((i + 31) / 32)) = intrN d := by unfold intrN; rw [hcr, hGe, unhide HDL]; rfl
            have HIN := hide hin
            clear hin hGe
            obtain ⟨q, hq⟩ : ∃ q, q = (i + 31) / 32 := ⟨_, rfl⟩
            have hqb : q ≤ 100 := by omega
            have hw0 : IntKind.u64.wrap (i : Int) = (i : Int) := by rw [IntKind.wrap_u64]; omega
            have hw2 : IntKind.u64.wrap (2 * (q : Int)) = 2 * (q : Int) := by rw [IntKind.wrap_u64]; omega
            have hw3 : IntKind.u64.wrap (32000 + 2 * (q : Int)) = 32000 + 2 * (q : Int) := by rw [IntKind.wrap_u64]; omega
            have hw4 : IntKind.u64.wrap ((G : Int) + (32000 + 2 * (q : Int))) = (G : Int) + (32000 + 2 * (q : Int)) := by rw [IntKind.wrap_u64]; omega
            have HWD := hide (lawWords_any i wr (by omega))
            rw [← hq] at HWD HIN
            have hqq := hide hq
            clear hq
            go_wp2_with (go_at_call 128; refine (unhide HWD).mono ?_; rintro e w' ⟨rfl, rfl⟩)
            go_ret
            exact ⟨by rw [← unhide HIN]; exact congrArg (fun z => Ending.returned (Value.int .u64 z)) (by omega), hb0.trans (hbr.mono hb0.size)⟩

end Go.Proofs.YgcsakGreat
