/-
  law: below.
-/
import Derived.Test.YgcsakGreatLbN
namespace Go.Proofs.YgcsakGreat
set_option linter.unusedVariables false
set_option linter.unusedSimpArgs false
set_option maxRecDepth 100000
open Go.RowKit

theorem before_first : ∀ (xs ys : List Int) (i : Nat), Byt xs → Byt ys → beforeB xs ys = true → xs.take i = ys.take i → i < xs.length → i < ys.length → xs.getD i 0 ≠ ys.getD i 0 → xs.getD i 0 < ys.getD i 0
  | [], _, i, _, _, _, _, h, _, _ => by simp at h
  | _ :: _, [], i, _, _, _, _, _, h, _ => by simp at h
  | x :: xs, y :: ys, i, hx, hy, h, ht, h1, h2, hn => by
    have e : ∀ c : List Int, (strOfNums c).toList = c.map (fun z => UInt8.ofNat z.toNat) := fun c => by
      rw [ByteArray.toList_eq, strOfNums_data]
    have hb := h
    unfold beforeB at hb
    rw [e, e, List.map_cons, List.map_cons, Op.bytesLess, Bool.or_eq_true, Bool.and_eq_true, decide_eq_true_eq, beq_iff_eq] at hb
    have bx := hx x (by simp)
    have bY := hy y (by simp)
    have e1 : x.toNat % 2 ^ 8 = x.toNat := Nat.mod_eq_of_lt (by omega)
    have e2 : y.toNat % 2 ^ 8 = y.toNat := Nat.mod_eq_of_lt (by omega)
    cases i with
    | zero =>
      simp only [List.getD_cons_zero] at hn ⊢
      rcases hb with hb | ⟨hb, -⟩
      · rw [UInt8.lt_iff_toNat_lt, UInt8.toNat_ofNat', UInt8.toNat_ofNat', e1, e2] at hb
        omega
      · have h3 := congrArg UInt8.toNat hb
        rw [UInt8.toNat_ofNat', UInt8.toNat_ofNat', e1, e2] at h3
        omega
    | succ i =>
      simp only [List.getD_cons_succ] at hn ⊢
      rw [List.take_succ_cons, List.take_succ_cons] at ht
      injection ht with ht1 ht2
      have h3 : Op.bytesLess (xs.map (fun z => UInt8.ofNat z.toNat)) (ys.map (fun z => UInt8.ofNat z.toNat)) = true := by
        rcases hb with hb | ⟨-, hb⟩
        · rw [UInt8.lt_iff_toNat_lt, UInt8.toNat_ofNat', UInt8.toNat_ofNat', e1, e2] at hb
          omega
        · exact hb
      exact before_first xs ys i (fun z hz => hx z (by simp [hz])) (fun z hz => hy z (by simp [hz])) (by unfold beforeB; rw [e, e]; exact h3) ht2 (by simpa using h1) (by simpa using h2) hn
theorem take_more {xs ys : List Int} {i : Nat} (h : xs.take i = ys.take i) (h1 : i < xs.length) (h2 : i < ys.length) (he : xs.getD i 0 = ys.getD i 0) : xs.take (i + 1) = ys.take (i + 1) := by
  rw [List.take_succ_eq_append_getElem h1, List.take_succ_eq_append_getElem h2, h]
  congr 2
  simpa [List.getD, h1, h2] using he
set_option maxHeartbeats 4000000 in
theorem below_true (a b : Option Addr) (l ca cb : Nat) (xs ys : List Int) (w : World) (h1 : Src w a l ca xs) (h2 : Src w b l cb ys) (hl : l ≤ 1000) (hb : beforeB xs ys = true) :
    Calls Sakg.prog 180 #[.slice a l ca, .slice b l cb] w fun e w' => e = .returned (.bool true) ∧ w = w' := by
  have hx := h1.len_eq
  have hy := h2.len_eq
  have H1 := hide h1
  have H2 := hide h2
  have HB := hide hb
  have HX := hide hx
  have HY := hide hy
  clear h1 h2 hb hx hy
  go_enter Sakg.func180, Sakg.ntmps180
  go_wp2_with fail
  go_loopg [9] l (fun gk iv wr => ∃ i : Nat, i + gk = l ∧ iv = .int .i64 i ∧ xs.take i = ys.take i ∧ wr = w)
  case atStart => exact ⟨0, by omega, rfl, rfl, rfl⟩
  case round =>
    obtain ⟨i, hi, rfl, ht, rfl⟩ := hrel
    have HT := hide ht
    clear ht
    by_cases hil : i < l
    · obtain ⟨p1, o1, rfl, c1⟩ := (unhide H1).at_ (by omega)
      obtain ⟨p2, o2, rfl, c2⟩ := (unhide H2).at_ (by omega)
      have x1 := c1 i hil
      have x2 := c2 i hil
      have hxl : i < xs.length := by have := unhide HX; omega
      have hyl : i < ys.length := by have := unhide HY; omega
      have hlt := before_first xs ys i (unhide H1).byt (unhide H2).byt (unhide HB) (unhide HT) hxl hyl
      have hmo := take_more (unhide HT) hxl hyl
      obtain ⟨x, hxx⟩ : ∃ x, x = xs.getD i 0 := ⟨_, rfl⟩
      obtain ⟨y, hyy⟩ : ∃ y, y = ys.getD i 0 := ⟨_, rfl⟩
      rw [← hxx] at x1 hlt hmo
      rw [← hyy] at x2 hlt hmo
      have HLT := hide hlt
      have HMO := hide hmo
      have hge : decide ((l : Int) ≤ (i : Int)) = false := by rw [decide_eq_false_iff_not]; omega
      clear c1 c2 hxx hyy hlt hmo hxl hyl
      by_cases he : x = y
      · as_aux_lemma =>
        have HM := hide (unhide HMO he)
        have t1 : (x == y) = true := by rw [beq_iff_eq]; exact he
        have t2 : (x != y) = false := by rw [bne_eq_false_iff_eq]; exact he
        have HE := hide he
        clear he
        go_wp2
        go_roundg (l - 1 - i)
        case measure => omega
        case rel => exact ⟨i + 1, by omega, rfl, unhide HM, rfl⟩
      · as_aux_lemma =>
        have hlt := unhide HLT he
        have t1 : (x == y) = false := by rw [beq_eq_false_iff_ne]; exact he
        have t2 : (x != y) = true := by rw [bne_iff_ne]; exact he
        have t3 : decide (x < y) = true := by rw [decide_eq_true_iff]; exact hlt
        have t4 : decide ((i : Int) < (l : Int)) = true := by rw [decide_eq_true_iff]; omega
        clear he hlt
        go_wp2
        go_ret
        exact ⟨rfl, rfl⟩
    · as_aux_lemma =>
      exfalso
      have hxe : xs.take i = xs := List.take_of_length_le (by have := unhide HX; omega)
      have hye : ys.take i = ys := List.take_of_length_le (by have := unhide HY; omega)
      have h3 := unhide HT
      rw [hxe, hye] at h3
      have h4 := unhide HB
      rw [h3, before_irrefl] at h4
      cases h4

end Go.Proofs.YgcsakGreat
