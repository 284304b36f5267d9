/-
  yp, exactly: addrOf.
-/
import Derived.Test.YgcsakGreatGbA
import Derived.Test.YgcsakGreatYpJ
namespace Go.Proofs.YgcsakGreat
set_option linter.unusedVariables false
set_option linter.unusedSimpArgs false
set_option maxRecDepth 100000
open Go.RowKit

/-- the low digits, i of them laid -/
def AdrD (ds : List Int) (i : Nat) (xs : List Int) : Prop := ∀ j, j < 20 → xs.getD (19 - j) 0 = if j < i then ds.getD j 0 else 0
theorem AdrD.start (ds : List Int) : AdrD ds 0 (zeros 20) := by
  intro j hj
  rw [if_neg (by omega)]
  unfold zeros
  rw [List.getD_eq_getElem?_getD, List.getElem?_replicate]
  split <;> rfl
theorem AdrD.step {ds xs : List Int} {i j : Nat} (h : AdrD ds i xs) (hl : xs.length = 20) (hi : i < 20) (hj : j = 19 - i) : AdrD ds (i + 1) (xs.set j (ds.getD i 0)) := by
  intro q hq
  by_cases h1 : q = i
  · subst h1
    rw [if_pos (by omega), hj, List.getD_eq_getElem?_getD, List.getElem?_set_self (by omega)]
    rfl
  · rw [List.getD_eq_getElem?_getD, List.getElem?_set_ne (by omega), ← List.getD_eq_getElem?_getD, h q hq]
    by_cases h2 : q < i
    · rw [if_pos h2, if_pos (by omega)]
    · rw [if_neg h2, if_neg (by omega)]
theorem AdrD.low {ds xs : List Int} {i la m : Nat} (h : AdrD ds i xs) (hx : IsAddr xs) (hl : ds.length = la) (hv : val ds = m) (h1 : la ≤ 1) (hd : la ≤ i) (hm : m < 256) : xs = lowAddr m := by
  have hb : ds.getD 0 0 = (m : Int) ∨ (ds.getD 0 0 < 0) := by
    match ds, hl with
    | [], _ => left; rw [← hv]; rfl
    | [y], _ =>
      rcases (by omega : y < 0 ∨ 0 ≤ y) with h2 | h2
      · exact .inr h2
      · left
        rw [← hv]
        show y = ((y.toNat + 256 * val [] : Nat) : Int)
        show y = ((y.toNat + 256 * 0 : Nat) : Int)
        omega
    | _ :: _ :: _, h2 => simp at h2; omega
  have hz : ∀ q, 1 ≤ q → ds.getD q 0 = 0 := fun q hq => by rw [List.getD_eq_getElem?_getD, List.getElem?_eq_none (by omega)]; rfl
  have hg : ∀ q, q < 20 → xs.getD (19 - q) 0 = ds.getD q 0 := fun q hq => by
    rw [h q hq]
    by_cases h2 : q < i
    · rw [if_pos h2]
    · rw [if_neg h2, List.getD_eq_getElem?_getD, List.getElem?_eq_none (by omega)]; rfl
  have h0 := hg 0 (by omega)
  have hbx := hx.byt.get 19
  have hm0 : ds.getD 0 0 = (m : Int) := by
    rcases hb with h2 | h2
    · exact h2
    · rw [Nat.sub_zero] at h0; omega
  apply List.ext_getElem?
  intro k
  by_cases hk : k < 20
  · have e1 : xs[k]? = some (xs.getD k 0) := by rw [List.getD_eq_getElem?_getD, List.getElem?_eq_getElem (by rw [hx.len]; exact hk)]; rfl
    rw [e1]
    unfold lowAddr
    by_cases h19 : k = 19
    · subst h19
      rw [List.getElem?_append_right (by rw [zeros_len]; omega), zeros_len]
      have h3 := hg 0 (by omega)
      rw [Nat.sub_zero] at h3
      rw [h3, hm0]
      rfl
    · rw [List.getElem?_append_left (by rw [zeros_len]; omega)]
      have h3 := hg (19 - k) (by omega)
      rw [show 19 - (19 - k) = k by omega, hz _ (by omega)] at h3
      rw [h3]
      unfold zeros
      rw [List.getElem?_replicate, if_pos (by omega)]
  · rw [List.getElem?_eq_none (by rw [hx.len]; omega), List.getElem?_eq_none (by simp [lowAddr, zeros_len]; omega)]
set_option maxHeartbeats 4000000 in
theorem addrOf_x (a : Option Addr) (la ca m : Nat) (w : World) (h : IsNat w a la ca m) (hm : m < BIG) :
    Calls Sakg.prog 212 #[.slice a la ca] w fun e w' => (∃ x, e = .returned (.agg (bv x).toArray) ∧ IsAddr x ∧ (m < 256 → x = lowAddr m)) ∧ Below w.heap.size w w' := by
  have hl200 := h.len 200 hm
  have hone : m < 256 → la ≤ 1 := fun h9 => h.len 1 (by omega)
  obtain ⟨ds, hsrc, -, hval, -⟩ := h
  have HONE := hide hone
  have HVAL := hide hval
  clear hone hval
  obtain ⟨W, hW⟩ : ∃ W, W = (w.alloc (.cells (bv (zeros 20)).toArray 26)).alloc (.cells (bv (zeros 20)).toArray 26) := ⟨_, rfl⟩
  have hb0 : Below w.heap.size w W := by rw [hW]; exact ((Below.refl _ _).alloc (Nat.le_refl _) _).alloc (by simp) _
  have r0 : RowT 26 W w.heap.size (bv (zeros 20)) := by rw [hW]; exact (RowT.new _ _ _).alloc _
  have r1 : RowT 26 W (w.heap.size + 1) (bv (zeros 20)) := by
    rw [hW]
    have := RowT.new 26 (w.alloc (.cells (bv (zeros 20)).toArray 26)) (bv (zeros 20))
    rwa [World.size_alloc] at this
  have hz20 : (bv (zeros 20)).length = 20 := by rw [bv_len, zeros_len]
  have hlen := hsrc.len_eq
  have hW2 := r1.lt
  have R0 := hide r0
  have R1 := hide r1
  have HS := hide hsrc
  have hu := Sakg.underlying26
  clear r0 r1 hsrc
  go_enter Sakg.func212, Sakg.ntmps212
  go_upto_region 2 with ((with_reducible refine at_alloc 26 ?_); refine wpList_alloc_g (by rfl) 26 rfl (bv (zeros 20)) 20 infoAddr2 hz20 ?_)
  rw [← hW]
  clear hW
  go_wp2_with fail
  go_loopg [4] 20 (fun gk iv wr => ∃ (i : Nat) (xs : List Int), i + gk = 20 ∧ iv = .int .i64 i ∧ i ≤ la ∧ RowT 26 wr (w.heap.size + 1) (bv xs) ∧ IsAddr xs ∧ AdrD ds i xs ∧ RowT 26 wr w.heap.size (bv (zeros 20)) ∧ Below w.heap.size w wr)
  case atStart => exact ⟨0, zeros 20, by omega, rfl, by omega, unhide R1, ⟨zeros_len 20, zeros_byt 20⟩, AdrD.start ds, unhide R0, hb0⟩
  case round =>
    obtain ⟨i, xs, hi, rfl, hil, q1, hx, had, q0, hbe⟩ := hrel
    have HAD := hide had
    clear had
    by_cases hlt : i < la ∧ i < 20
    · have t1 : decide ((i : Int) < (la : Int)) = true := decide_eq_true (by omega)
      have t2 : decide ((i : Int) < 20) = true := decide_eq_true (by omega)
      obtain ⟨j, hj⟩ : ∃ j, j = 19 - i := ⟨_, rfl⟩
      have ej : (19 : Int) - (i : Int) = (j : Int) := by omega
      have hjl : j < 20 := by omega
      have hila : i < la := hlt.1
      obtain ⟨b, off, rfl, hc⟩ := ((unhide HS).kept hbe).at_ (by omega)
      have hci := hc i (by omega)
      have hby := (unhide HS).byt.get i
      have had1 := (unhide HAD).step hx.len hlt.2 hj
      generalize ds.getD i 0 = y at hci hby had1
      have HAD1 := hide had1
      clear had1
      have x1 : ∃ v, wr.cell? ⟨w.heap.size + 1, j, none⟩ = some v := by rw [q1.cell, List.getElem?_eq_getElem (by rw [bv_len, hx.len]; exact hjl)]; exact ⟨_, rfl⟩
      obtain ⟨v1, x1⟩ := x1
      have f1 := q1.froz j
      have hset := q1.set j (.int .u8 y)
      rw [bv_set] at hset
      have hx2 : IsAddr (xs.set j y) := ⟨by rw [List.length_set]; exact hx.len, hx.byt.set j y hby⟩
      have o1 : Only (w.heap.size + 1) wr (wr.setCell ⟨w.heap.size + 1, j, none⟩ (.int .u8 y)) := (Only.refl _ _).setCell _ _
      have q0' := q0.only o1 (by omega)
      have hbe' : Below w.heap.size w (wr.setCell ⟨w.heap.size + 1, j, none⟩ (.int .u8 y)) := hbe.trans (o1.below _ (by omega))
      have HSET := hide hset
      have Q0' := hide q0'
      have HBE' := hide hbe'
      clear hc hj q0 q1 hset q0' hbe' hlt
      go_wp2
      go_roundg (20 - 1 - i)
      case measure => omega
      case rel => exact ⟨i + 1, _, by omega, rfl, by omega, unhide HSET, hx2, unhide HAD1, unhide Q0', unhide HBE'⟩
    · have hend : decide ((i : Int) < (la : Int)) = false ∨ decide ((i : Int) < 20) = false := by
        rcases Nat.lt_or_ge i la with h' | h'
        · exact .inr (decide_eq_false (by omega))
        · exact .inl (decide_eq_false (by omega))
      have HR := hide q1.rangeAll
      have Q0 := hide q0
      have hszx := hx.size
      have hlx : (bv (zeros 20)).length = (bv xs).length := by rw [hz20, bv_len, hx.len]
      have HI20 := hide (show la ≤ i ∨ 20 ≤ i by omega)
      clear q0 q1 hlt
      by_cases hila : i < la
      · have t1 : decide ((i : Int) < (la : Int)) = true := decide_eq_true (by omega)
        have t2 : decide ((i : Int) < 20) = false := by rcases hend with h' | h'; (rw [t1] at h'; cases h'); (exact h')
        clear hend
        go_wp2_with (first
          | ((with_reducible refine at_load 26 ?_); refine wpList_load_g (by rfl) 26 (.tmp 3) rfl (w.heap.size + 1) 0 rfl (bv xs) _ (unhide HR) hu rfl hszx ?_)
          | ((with_reducible refine at_store 26 ?_); refine wpList_store_whole rfl 26 (.tmp 2) (.tmp 22) rfl w.heap.size 26 (bv (zeros 20)) (bv xs) rfl rfl (unhide Q0) hlx hszx (bv_one _) ?_; intro w9 hr9 ho9))
        refine bodyPost_ret (results_cell_row rfl _ _ _ _ _ _ _ rfl hr9 Sakg.underlying26 rfl (by simpa using hszx)) rfl ?_
        exact ⟨⟨xs, rfl, hx, fun h9 => (unhide HAD).low hx hlen (unhide HVAL) (unhide HONE h9) (by have := unhide HONE h9; have := unhide HI20; omega) h9⟩, hbe.trans (ho9.below _ (Nat.le_refl _))⟩
      · have t1 : decide ((i : Int) < (la : Int)) = false := decide_eq_false (by omega)
        clear hend
        go_wp2_with (first
          | ((with_reducible refine at_load 26 ?_); refine wpList_load_g (by rfl) 26 (.tmp 3) rfl (w.heap.size + 1) 0 rfl (bv xs) _ (unhide HR) hu rfl hszx ?_)
          | ((with_reducible refine at_store 26 ?_); refine wpList_store_whole rfl 26 (.tmp 2) (.tmp 22) rfl w.heap.size 26 (bv (zeros 20)) (bv xs) rfl rfl (unhide Q0) hlx hszx (bv_one _) ?_; intro w9 hr9 ho9))
        refine bodyPost_ret (results_cell_row rfl _ _ _ _ _ _ _ rfl hr9 Sakg.underlying26 rfl (by simpa using hszx)) rfl ?_
        exact ⟨⟨xs, rfl, hx, fun h9 => (unhide HAD).low hx hlen (unhide HVAL) (unhide HONE h9) (by have := unhide HONE h9; have := unhide HI20; omega) h9⟩, hbe.trans (ho9.below _ (Nat.le_refl _))⟩


end Go.Proofs.YgcsakGreat
