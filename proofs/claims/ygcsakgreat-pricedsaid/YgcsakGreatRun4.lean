/-
  what some structs' literals make.
-/
import Derived.Test.YgcsakGreatStG
namespace Go.Proofs.YgcsakGreat
set_option linter.unusedVariables false
set_option linter.unusedSimpArgs false
set_option maxRecDepth 100000
open Go.RowKit

theorem infoSlot3 : (Sakg.prog.info? 117).map (fun i => (i.zero, i.size, i.bytes)) = some (some (.agg [nilS, nilS].toArray), 2, 48) := by kernel_rfl
theorem run_slot2 (A A' : Option Addr) (k c k' c' : Nat) (wx : World) : (Instr.build 117 #[(0, .slice A k c), (1, .slice A' k' c')]).run Sakg.prog wx = .ok (.agg [Value.slice A k c, .slice A' k' c'].toArray) wx := by kernel_rfl
theorem build_acct4 (a : List Int) (ha : IsAddr a) (v1 v2 v3 : Value) (h1 : v1.cells = [v1].toArray) (h2 : v2.cells = [v2].toArray) (h3 : v3.cells = [v3].toArray) : Instr.fill ((#[(0, 20), (20, 1), (21, 1), (22, 1), (23, 1)] : Array (Nat × Nat))[·]?) (bv (zeros 20) ++ [nilS, nilS, nilS, nilS]).toArray [(0, .agg (bv a).toArray), (1, v1), (2, v2), (3, v3)] = some (bv a ++ [v1, v2, v3, nilS]).toArray := by
  rw [fill_cons _ (bv (zeros 20) ++ [nilS, nilS, nilS, nilS]) 0 (.agg (bv a).toArray) _ 0 20 rfl (bv a) rfl (by rw [bv_len]; exact ha.len) (by simp [bv_len, zeros_len])]
  have e0 : spl (bv (zeros 20) ++ [nilS, nilS, nilS, nilS]) 0 (bv a) = bv a ++ [nilS, nilS, nilS, nilS] := by
    unfold spl
    rw [bv_len, ha.len, List.take_zero, List.nil_append, Nat.zero_add, List.drop_append_of_le_length (by simp [bv_len, zeros_len]), List.drop_of_length_le (by simp [bv_len, zeros_len]), List.nil_append]
  rw [e0]
  have step : ∀ (j : Nat) (x y z u p : Value), (bv a ++ [x, y, z, u]).length = 24 := fun j x y z u p => by simp [bv_len, ha.len]
  have sp : ∀ (L : List Value) (k : Nat) (p : Value), spl (bv a ++ L) (20 + k) [p] = bv a ++ (L.take k ++ p :: L.drop (k + 1)) := fun L k p => by
    unfold spl
    have hl : (bv a).length = 20 := by rw [bv_len, ha.len]
    rw [List.take_append, List.drop_append, hl, List.take_of_length_le (by omega), List.drop_of_length_le (by simp; omega)]
    simp
    omega
  rw [fill_cons _ (bv a ++ [nilS, nilS, nilS, nilS]) 1 v1 _ 20 1 rfl [v1] h1 rfl (by simp [bv_len, ha.len]), sp _ 0, fill_cons _ _ 2 v2 _ 21 1 rfl [v2] h2 rfl (by simp [bv_len, ha.len]), sp _ 1, fill_cons _ _ 3 v3 _ 22 1 rfl [v3] h3 rfl (by simp [bv_len, ha.len]), sp _ 2, Instr.fill]
  rfl
theorem run_acct4 (wx : World) (a : List Int) (ha : IsAddr a) (v1 v2 v3 : Value) (h1 : v1.cells = [v1].toArray) (h2 : v2.cells = [v2].toArray) (h3 : v3.cells = [v3].toArray) :
    (Instr.build 113 #[(0, .agg (bv a).toArray), (1, v1), (2, v2), (3, v3)]).run Sakg.prog wx = .ok (.agg (bv a ++ [v1, v2, v3, nilS]).toArray) wx := by
  obtain ⟨i0, hi0, hz0, hz1, hz2⟩ := info_parts infoAcct
  exact run_build_struct wx 113 _ placesAcct i0 _ hi0 hz0 (bv (zeros 20) ++ [nilS, nilS, nilS, nilS]) rfl _ _ (build_acct4 a ha v1 v2 v3 h1 h2 h3)
theorem row4_one (a : List Int) (A1 A2 A3 : Option Addr) (ks : Nat × Nat × Nat × Nat × Nat × Nat) : ∀ u ∈ (bv a ++ [Value.slice A1 ks.1 ks.2.1, .slice A2 ks.2.2.1 ks.2.2.2.1, .slice A3 ks.2.2.2.2.1 ks.2.2.2.2.2, nilS]), u.oneCell' = true := by
  intro u hu
  rcases List.mem_append.1 hu with h | h
  · exact bv_one _ u h
  · simp at h
    rcases h with rfl | rfl | rfl | rfl <;> rfl


end Go.Proofs.YgcsakGreat
