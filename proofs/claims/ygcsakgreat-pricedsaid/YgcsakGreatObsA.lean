/-
  obs: addTo.
-/
import Derived.Test.YgcsakGreatYpL
namespace Go.Proofs.YgcsakGreat
set_option linter.unusedVariables false
set_option linter.unusedSimpArgs false
set_option maxRecDepth 100000
open Go.RowKit

/-- a word -/
structure IsW (a : List Int) : Prop where
  len : a.length = 32
  byt : Byt a
theorem sizeW : (Sakg.prog.info? 29).map (·.size) = some 32 := by kernel_rfl
theorem IsW.size {a : List Int} (h : IsW a) : (Sakg.prog.info? 29).map (·.size) = some (bv a).length := by rw [bv_len, h.len]; exact sizeW
theorem w_eq (w : World) (x y : List Int) (hx : IsW x) (hy : IsW y) : (Op.equalIn 10000 29 (.agg (bv x).toArray) (.agg (bv y).toArray)).run Sakg.prog w = .ok (decide (x = y)) w :=
  run_arr_eq w 29 32 9998 Sakg.underlying29 x y hx.len hy.len

/-- the sum, from place i down, the carry and the digits behind -/
def addFrom (s b : List Int) : Nat → Nat → List Int → Nat × List Int
  | 0, c, D => (c, D)
  | i + 1, c, D => addFrom s b i ((c + (s.getD i 0).toNat + (b.getD i 0).toNat) / 256) ((((c + (s.getD i 0).toNat + (b.getD i 0).toNat) % 256 : Nat) : Int) :: D)
def addW (s b : List Int) : Nat × List Int := addFrom s b 32 0 []

theorem set_take (s D : List Int) (i : Nat) (v : Int) (h : i < s.length) : (s.take (i + 1) ++ D).set i v = s.take i ++ v :: D := by
  rw [List.take_succ_eq_append_getElem h, List.append_assoc, List.set_append_right _ _ (by simp; omega)]
  simp [Nat.min_eq_left (Nat.le_of_lt h)]

set_option maxHeartbeats 4000000 in
theorem addTo_any (g p o : Nat) (s b : List Int) (w : World) (hs : IsW s) (hb : IsW b) (hg : RowT 29 w g (bv s)) (hp : w.rangeAt p o (bv b)) (hne : p ≠ g) :
    Calls Sakg.prog 179 #[.pointer (some ⟨g, 0, none⟩), .pointer (some ⟨p, o, none⟩)] w fun e w' => e = .returned (.bool (decide ((addW s b).1 = 0))) ∧ RowT 29 w' g (bv (addW s b).2) ∧ IsW (addW s b).2 ∧ Only g w w' := by
  have HS := hide hs
  have HB := hide hb
  have HP := hide hp
  have HG := hide hg
  clear hs hb hg hp
  go_enter Sakg.func179, Sakg.ntmps179
  go_wp2_with fail
  go_loopg [5, 6] 32 (fun gk cy iv wr => ∃ (c : Nat) (D : List Int), gk ≤ 32 ∧ c ≤ 1 ∧ iv = .int .i64 gk ∧ cy = .int .u16 c ∧ D.length = 32 - gk ∧ Byt D ∧ RowT 29 wr g (bv (s.take gk ++ D)) ∧ addFrom s b gk c D = addW s b ∧ Only g w wr)
  case atStart => exact ⟨0, [], by omega, by omega, rfl, rfl, rfl, (fun x hx => by simp at hx), by rw [List.append_nil, List.take_of_length_le (by rw [(unhide HS).len]; omega)]; exact unhide HG, rfl, Only.refl _ _⟩
  case round =>
    obtain ⟨c, D, hgk, hc1, rfl, rfl, hDl, hDb, hrow, hadd, hon⟩ := hrel
    have hsl := (unhide HS).len
    by_cases h0 : gk = 0
    · subst h0
      have hD : D = (addW s b).2 := by rw [← hadd]; rfl
      have hc : c = (addW s b).1 := by rw [← hadd]; rfl
      have hrow' : RowT 29 wr g (bv D) := by simpa using hrow
      have e1 : ((c : Int) == 0) = decide (c = 0) := by by_cases h : c = 0 <;> simp [h]
      have HDD := hide hD
      have HCC := hide hc
      have HR := hide hrow'
      have HD := hide hDb
      have HL := hide hDl
      have E1 := hide e1
      clear hD hc hadd hrow hrow' hDb hDl hsl e1
      go_wp2
      go_ret
      rw [← unhide HDD, ← unhide HCC]
      exact ⟨by rw [← unhide E1]; rfl, unhide HR, ⟨unhide HL, unhide HD⟩, hon⟩
    · obtain ⟨i, rfl⟩ : ∃ i, gk = i + 1 := ⟨gk - 1, by omega⟩
      have hxb := (unhide HS).byt.get i
      have hyb := (unhide HB).byt.get i
      obtain ⟨x, hx⟩ : ∃ x : Nat, s.getD i 0 = (x : Int) := ⟨(s.getD i 0).toNat, by omega⟩
      obtain ⟨y, hy⟩ : ∃ y : Nat, b.getD i 0 = (y : Int) := ⟨(b.getD i 0).toNat, by omega⟩
      rw [hx] at hxb
      rw [hy] at hyb
      have hcs : ∀ k, (wr.drewN k).cell? ⟨g, i, none⟩ = some (.int .u8 x) := by
        intro k
        rw [(hrow.kept (Quiet.below ⟨k, rfl⟩ _)).cell]
        have : (s.take (i + 1) ++ D)[i]? = some (x : Int) := by
          rw [List.getElem?_append_left (by simp; omega), List.getElem?_take, if_pos (by omega), getD_some s i 0 (by omega), hx]
        rw [bv, List.getElem?_map, this]; rfl
      have hcb : ∀ k, (wr.drewN k).cell? ⟨p, o + i, none⟩ = some (.int .u8 y) := by
        intro k
        have h1 : w.cell? ⟨p, o + i, none⟩ = some (.int .u8 y) := by
          refine unhide HP i _ ?_
          have : b[i]? = some (y : Int) := by rw [getD_some b i 0 (by rw [(unhide HB).len]; omega), hy]
          rw [bv, List.getElem?_map, this]; rfl
        rw [← h1]
        exact (((hon.quiet ⟨k, rfl⟩)).cell ⟨p, o + i, none⟩ hne)
      have hfr := hrow.froz i
      have hset := fun (v : Int) (k : Nat) => (hrow.kept (Quiet.below ⟨k, rfl⟩ _)).set i (.int .u8 v)
      have hsv : ∀ v : Int, (bv (s.take (i + 1) ++ D)).set i (.int .u8 v) = bv (s.take i ++ v :: D) := fun v => by
        rw [← set_take s D i v (by omega)]
        simp [bv, List.map_set]
      rw [addFrom, hx, hy] at hadd
      simp only [Int.toNat_natCast] at hadd
      have HADD := hide hadd
      have HSET := hide hset
      have HSV := hide hsv
      have HDB := hide hDb
      have HDL := hide hDl
      have HROW := hide hrow
      clear hadd hset hsv hDb hDl hrow hx hy hsl h0
      have hcs0 := hcs 0
      have hcb0 := hcb 0
      rw [World.drewN_zero] at hcs0 hcb0
      have hsum : IntKind.u16.wrap ((x : Int) + (y : Int)) = (x : Int) + (y : Int) := by rw [IntKind.wrap_u16]; omega
      have hsum2 : IntKind.u16.wrap ((c : Int) + ((x : Int) + (y : Int))) = (c : Int) + ((x : Int) + (y : Int)) := by rw [IntKind.wrap_u16]; omega
      go_upto_region 5 with fail
      go_quiet (fail)
      have hfr2 := (unhide HROW).kept (Quiet.below ⟨nq, rfl⟩ _) |>.froz i
      have hcq := hcs nq
      obtain ⟨T, hT⟩ : ∃ T : Nat, (c : Int) + ((x : Int) + (y : Int)) = (T : Int) := ⟨c + x + y, by omega⟩
      rw [hT]
      have hw8 : IntKind.u8.wrap (T : Int) = ((T % 256 : Nat) : Int) := by rw [IntKind.wrap_u8]; omega
      have hTn : T = c + x + y := by omega
      have HTN := hide hTn
      have hT2 : T < 512 := by omega
      clear hTn hT
      go_wp2
      go_roundg i
      case measure => omega
      case rel =>
        have h1 := unhide HSET ((T % 256 : Nat) : Int) nq
        rw [unhide HSV] at h1
        refine ⟨T / 256, ((T % 256 : Nat) : Int) :: D, by omega, by omega, rfl, by rw [Int.natCast_ediv]; rfl, by have := unhide HDL; simp; omega, ?_, ?_, ?_, ?_⟩
        · intro z hz
          rcases List.mem_cons.1 hz with rfl | hz
          · omega
          · exact unhide HDB z hz
        · have e : ((T % 256 : Nat) : Int) = (T : Int) % 256 := by omega
          rw [e] at h1 ⊢
          exact h1
        · rw [← unhide HADD, unhide HTN]
        · exact (hon.quiet ⟨nq, rfl⟩).setCell i _

set_option maxHeartbeats 1000000 in
theorem envOK_any (r : List Value) (A : Option Addr) (l c : Nat) (w : World) (h : r[119]? = some (.slice A l c)) (hl : l ≤ 140737488355328) :
    Calls Sakg.prog 87 #[.agg r.toArray] w fun e w' => e = .returned (.bool (decide (l ≤ 4))) ∧ Below w.heap.size w w' := by
  have hb1 : Below w.heap.size w (w.alloc (.cells r.toArray 64)) := (Below.refl _ _).alloc (Nat.le_refl _) _
  have hr1 : RowT 64 (w.alloc (.cells r.toArray 64)) w.heap.size r := RowT.new _ _ _
  have hc : (w.alloc (.cells r.toArray 64)).cell? ⟨w.heap.size, 119, none⟩ = some (.slice A l c) := by rw [hr1.cell]; exact h
  have e1 : decide ((l : Int) ≤ 4) = decide (l ≤ 4) := decide_eq_decide.2 (by omega)
  have E1 := hide e1
  clear hr1 e1 h
  go_enter Sakg.func87, Sakg.ntmps87
  go_wp2
  go_ret
  exact ⟨by rw [← unhide E1]; rfl, hb1⟩

end Go.Proofs.YgcsakGreat
