/-
  law: pricedSize, push2, pushes, wordsOf, memOf.
-/
import Derived.Test.YgcsakGreatLpB
namespace Go.Proofs.YgcsakGreat
set_option linter.unusedVariables false
set_option linter.unusedSimpArgs false
set_option maxRecDepth 100000
open Go.RowKit

def sizN (kd n : Nat) : Nat := if kd = 7 then n % 257 else if kd = 9 ∨ kd = 10 then n % 513 else n % 1025
set_option maxHeartbeats 4000000 in
theorem pricedSize_x (kd n : Nat) (hk : kd ≤ 255) (hn : n < 65536) (w : World) : Calls Sakg.prog 9 #[.int .u8 kd, .int .u16 n] w fun e w' => e = .returned (.int .u16 (sizN kd n)) ∧ w = w' := by
  have e7 : ((n : Int) % 257) = ((n % 257 : Nat) : Int) := by omega
  have e9 : ((n : Int) % 513) = ((n % 513 : Nat) : Int) := by omega
  have e1 : ((n : Int) % 1025) = ((n % 1025 : Nat) : Int) := by omega
  have hz : sizN kd n = if kd = 7 then n % 257 else if kd = 9 ∨ kd = 10 then n % 513 else n % 1025 := rfl
  by_cases h7 : kd = 7
  · rw [hz, if_pos h7, ← e7]
    clear hz e1 e7 e9
    subst h7
    go_enter Sakg.func9, Sakg.ntmps9
    go_wp2
    go_ret
    exact ⟨rfl, rfl⟩
  · have t7 : ((kd : Int) == 7) = false := by rw [beq_eq_false_iff_ne]; omega
    by_cases h9 : kd = 9
    · rw [hz, if_neg h7, if_pos (.inl h9), ← e9]
      clear hz e1 e7 e9 t7 h7
      subst h9
      go_enter Sakg.func9, Sakg.ntmps9
      go_wp2
      go_ret
      exact ⟨rfl, rfl⟩
    · by_cases h10 : kd = 10
      · rw [hz, if_neg h7, if_pos (.inr h10), ← e9]
        clear hz e1 e7 e9 t7 h7 h9
        subst h10
        go_enter Sakg.func9, Sakg.ntmps9
        go_wp2
        go_ret
        exact ⟨rfl, rfl⟩
      · have t9 : ((kd : Int) == 9) = false := by rw [beq_eq_false_iff_ne]; omega
        have t10 : ((kd : Int) == 10) = false := by rw [beq_eq_false_iff_ne]; omega
        rw [hz, if_neg h7, if_neg (by omega), ← e1]
        clear hz e1 e7 e9
        go_enter Sakg.func9, Sakg.ntmps9
        go_wp2
        go_ret
        exact ⟨rfl, rfl⟩
/-- a slice of bytes of one's own -/
def OwnB (w : World) (xs : List Int) (e : Ending) (w' : World) : Prop := ∃ v, e = .returned v ∧ w'.ownsRow w.heap.size 5 1 v xs.length (bv xs) ∧ Below w.heap.size w w'
set_option maxHeartbeats 4000000 in
theorem push2_x (n : Nat) (hn : n < 65536) (w : World) : Calls Sakg.prog 39 #[.int .u16 n] w (OwnB w (p2Y n)) := by
  have eh : ((n : Int) / 256) = ((n / 256 : Nat) : Int) := by omega
  have el : ((n : Int) % 256) = ((n % 256 : Nat) : Int) := by omega
  have EH := hide eh
  have EL := hide el
  clear eh el
  go_enter Sakg.func39, Sakg.ntmps39
  go_wp2_with fail
  refine bodyPost_ret (results_tmp rfl _ _ _) rfl ?_
  refine ⟨_, rfl, ?_, (Below.refl _ _).alloc (Nat.le_refl _) _⟩
  rw [unhide EH, unhide EL]
  exact World.ownsRow_lit w #[.int .u8 97, .int .u8 ((n / 256 : Nat) : Int), .int .u8 ((n % 256 : Nat) : Int)] 3 (Nat.le_refl _) (by unfold maxLen; omega) rfl
def fill95 (i n : Nat) : List Int := List.replicate i 95 ++ zeros (n - i)
theorem fill95_set {i n : Nat} (h : i < n) : (fill95 i n).set i 95 = fill95 (i + 1) n := by
  unfold fill95 zeros
  rw [List.set_append_right _ _ (by simp), List.length_replicate, Nat.sub_self, show n - i = (n - (i + 1)) + 1 by omega, List.replicate_succ, List.set_cons_zero, List.replicate_succ', List.append_assoc]
  rfl
theorem fill95_len {i n : Nat} (h : i ≤ n) : (fill95 i n).length = n := by
  unfold fill95
  rw [List.length_append, List.length_replicate, zeros_len]
  omega
set_option maxHeartbeats 4000000 in
theorem pushes_x (n : Nat) (hn : n ≤ 100) (w : World) : Calls Sakg.prog 41 #[.int .i64 n] w (MakesB w (List.replicate n 95)) := by
  go_enter Sakg.func41, Sakg.ntmps41
  go_wp2_with (at_make; refine wpList_make_bytes rfl _ _ 30 rfl Sakg.underlying30 _ _ n rfl rfl rfl rfl (by omega) ?_; intro w1 o1 b1 s1)
  have O1 : Hid (OwnT 5 w1 w.heap.size (zeros n)) := hide o1
  clear o1
  have hby : Byt (List.replicate n 95) := fun x hx => by rw [List.eq_of_mem_replicate hx]; omega
  go_loopg [9] n (fun gk iv wr => ∃ i, gk = n - i ∧ i ≤ n ∧ iv = .int .i64 (i : Nat) ∧ OwnT 5 wr w.heap.size (fill95 i n) ∧ Below w.heap.size w wr)
  case atStart => exact ⟨0, by omega, by omega, rfl, unhide O1, b1⟩
  case round =>
    obtain ⟨i, rfl, hi, rfl, ho, hb⟩ := hrel
    rcases Nat.lt_or_ge i n with hin | hin
    · have tl : decide ((i : Int) < (n : Int)) = true := decide_eq_true (by omega)
      have hfl := fill95_len hi
      have hc := ho.cell i (by omega)
      have hfz := ho.froz i
      have ho2 := ho.set i 95
      rw [fill95_set hin] at ho2
      have hon : Only w.heap.size wr (wr.setCell ⟨w.heap.size, i, none⟩ (.int .u8 95)) := (Only.refl _ wr).setCell i _
      obtain ⟨w2, hw2⟩ : ∃ y, y = wr.setCell ⟨w.heap.size, i, none⟩ (.int .u8 95) := ⟨_, rfl⟩
      rw [← hw2] at ho2 hon
      have hb2 : Below w.heap.size w w2 := hb.trans (hon.below _ (Nat.le_refl _))
      have HO2 := hide ho2
      have HW2 := hide hw2
      clear ho ho2 hw2 hon
      go_wp2
      rw [← unhide HW2]
      go_roundg (n - (i + 1))
      case measure => omega
      case rel => exact ⟨i + 1, rfl, by omega, rfl, unhide HO2, hb2⟩
    · obtain rfl : i = n := by omega
      have tl : decide ((i : Int) < (i : Int)) = false := decide_eq_false (by omega)
      have e : fill95 i i = List.replicate i 95 := by unfold fill95 zeros; rw [Nat.sub_self]; exact List.append_nil _
      rw [e] at ho
      have HO := hide ho
      clear ho
      go_wp2
      go_ret
      exact ⟨some ⟨w.heap.size, 0, none⟩, i, i, rfl, OwnT.src_all (unhide HO) hby i (by simp) (by unfold maxLen; omega), (fun x hx => by have h1 := Option.some.inj hx; rw [← h1]; exact Nat.le_refl _), hb⟩
set_option maxHeartbeats 2000000 in
theorem wordsOf_x (n : Nat) (hn : n ≤ 1000000) (w : World) : Calls Sakg.prog 128 #[.int .u64 n] w fun e w' => e = .returned (.int .u64 ((n + 31) / 32 : Nat)) ∧ w = w' := by
  have e : (((n + 31) / 32 : Nat) : Int) = ((n : Int) + 31) / 32 := by omega
  rw [e]
  clear e
  go_enter Sakg.func128, Sakg.ntmps128
  go_wp2
  go_ret
  exact ⟨rfl, rfl⟩
set_option maxHeartbeats 2000000 in
theorem memOf_x (n : Nat) (hn : n ≤ 1000) (w : World) : Calls Sakg.prog 129 #[.int .u64 n] w fun e w' => e = .returned (.int .u64 (memN n : Nat)) ∧ w = w' := by
  have h1 : n * n ≤ 1000 * 1000 := Nat.mul_le_mul hn hn
  have e : ((memN n : Nat) : Int) = 3 * (n : Int) + (n : Int) * (n : Int) / 512 := by
    unfold memN
    push_cast
    rfl
  have h2 : (n : Int) * (n : Int) = ((n * n : Nat) : Int) := by push_cast; rfl
  rw [e]
  have h3 : IntKind.u64.wrap ((n : Int) * (n : Int)) = (n : Int) * (n : Int) := by rw [IntKind.wrap_u64, h2]; omega
  have h4 : IntKind.u64.wrap (3 * (n : Int) + (n : Int) * (n : Int) / 512) = 3 * (n : Int) + (n : Int) * (n : Int) / 512 := by rw [IntKind.wrap_u64, h2]; omega
  clear e h2
  go_enter Sakg.func129, Sakg.ntmps129
  go_wp2
  go_ret
  exact ⟨rfl, rfl⟩

end Go.Proofs.YgcsakGreat
