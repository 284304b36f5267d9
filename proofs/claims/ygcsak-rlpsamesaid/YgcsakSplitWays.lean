/-
  rlp.Split, way by way.
-/
import Derived.Test.YgcsakSplit
import Derived.RegionTactic
import Derived.BigRegion
namespace Go.Proofs.Ygcsak
set_option linter.unusedVariables false
set_option linter.unusedSimpArgs false
set_option maxRecDepth 100000
open Go.RowKit

/-- a part of a slice that is read -/
theorem Src.sub {w : World} {b off len cap : Nat} {xs : List Int} (h : Src w (some ⟨b, off, none⟩) len cap xs) (lo hi mx : Nat) (h1 : lo ≤ hi) (h2 : hi ≤ len) (h3 : hi ≤ mx) (h4 : mx ≤ cap) :
    Src w (if mx = lo then some ⟨b, off, none⟩ else some ⟨b, off + lo, none⟩) (hi - lo) (mx - lo) ((xs.drop lo).take (hi - lo)) := by
  have hl := h.len_eq
  have hm := h.max
  refine ⟨by simp; omega, by omega, by omega, (h.byt.drop lo).take _, ?_, fun hz => ?_⟩
  · intro hn
    split at hn <;> cases hn
  · obtain ⟨b', off', ha, hc⟩ := h.at_ (by omega)
    cases ha
    refine ⟨b, off + lo, by rw [if_neg (by omega)], fun i hi' => ?_⟩
    rw [Nat.add_assoc, hc (lo + i) (by omega)]
    rw [List.getD_eq_getElem?_getD, List.getD_eq_getElem?_getD, List.getElem?_take, if_pos hi', List.getElem?_drop]

set_option maxHeartbeats 1000000 in
theorem split_nil (a : Option Addr) (cap : Nat) (w : World) :
    Calls Sakg.prog 12 #[.slice a 0 cap] w fun e w' => e = .returned (.tuple #[.bool false, .slice none 0 0, .slice none 0 0, .bool false]) ∧ w = w' := by
  go_enter Sakg.func12, Sakg.ntmps12
  go_wp2
  exact bodyPost_ret (v := .tuple #[.bool false, .slice none 0 0, .slice none 0 0, .bool false]) (by simp [results, Sakg.results12, go_sem]) rfl ⟨rfl, rfl⟩

set_option maxHeartbeats 1000000 in
theorem split_small (b off len cap : Nat) (x : Int) (A : Option Addr) (w : World) (hl : 0 < len) (hle : len ≤ cap) (hm : cap ≤ maxLen) (hc : w.cell? ⟨b, off, none⟩ = some (.int .u8 x)) (h0 : 0 ≤ x) (h1 : x < 128)
    (hA : (if cap = 1 then some (⟨b, off, none⟩ : Addr) else some ⟨b, off + 1, none⟩) = A) :
    Calls Sakg.prog 12 #[.slice (some ⟨b, off, none⟩) len cap] w fun e w' => e = .returned (.tuple #[.bool false, .slice (some ⟨b, off, none⟩) 1 1, .slice A (len - 1) (cap - 1), .bool true]) ∧ w' = w.drew := by
  have hz : ((len : Int) == 0) = false := by simp; omega
  have a1 : (1 : Int) ≤ (cap : Int) := by omega
  have a2 : (1 : Int) ≤ (len : Int) := by omega
  go_enter Sakg.func12, Sakg.ntmps12
  go_wp2
  go_region
  go_wp2
  exact bodyPost_ret (v := .tuple #[.bool false, .slice (some ⟨b, off, none⟩) 1 1, .slice A (len - 1) (cap - 1), .bool true]) (by simp [results, Sakg.results12, go_sem]) rfl ⟨rfl, rfl⟩

set_option maxHeartbeats 1000000 in
theorem split_bad_size (b off len cap : Nat) (x : Nat) (sz at_ : Nat) (w : World) (hl : 0 < len) (hc : w.cell? ⟨b, off, none⟩ = some (.int .u8 x)) (h0 : 128 ≤ x) (h1 : x < 256)
    (hC : Calls Sakg.prog 35 #[.slice (some ⟨b, off, none⟩) len cap, .int .u8 ((x : Int) - (if 192 ≤ x then 192 else 128))] w fun e w' => e = .returned (.tuple #[.int .i64 sz, .int .i64 at_, .bool false]) ∧ w = w') :
    Calls Sakg.prog 12 #[.slice (some ⟨b, off, none⟩) len cap] w fun e w' => e = .returned (.tuple #[.bool false, .slice none 0 0, .slice none 0 0, .bool false]) ∧ w = w' := by
  have hz : ((len : Int) == 0) = false := by simp; omega
  have hx1 : ¬ (x : Int) < 128 := by omega
  by_cases hli : 192 ≤ x
  · rw [if_pos hli] at hC
    have HC := hide hC
    clear hC
    go_enter Sakg.func12, Sakg.ntmps12
    go_wp2_with (go_at_call 35; refine (unhide HC).mono ?_; rintro e w' ⟨rfl, rfl⟩)
    exact bodyPost_ret (v := .tuple #[.bool false, .slice none 0 0, .slice none 0 0, .bool false]) (by simp [results, Sakg.results12, go_sem]) rfl ⟨rfl, rfl⟩
  · rw [if_neg hli] at hC
    have HC := hide hC
    clear hC
    go_enter Sakg.func12, Sakg.ntmps12
    go_wp2_with (go_at_call 35; refine (unhide HC).mono ?_; rintro e w' ⟨rfl, rfl⟩)
    exact bodyPost_ret (v := .tuple #[.bool false, .slice none 0 0, .slice none 0 0, .bool false]) (by simp [results, Sakg.results12, go_sem]) rfl ⟨rfl, rfl⟩

set_option maxHeartbeats 1000000 in
theorem split_too_long (b off len cap : Nat) (x : Nat) (sz at_ : Nat) (w : World) (hl : 0 < len) (hc : w.cell? ⟨b, off, none⟩ = some (.int .u8 x)) (h0 : 128 ≤ x) (h1 : x < 256)
    (hs : len < at_ + sz) (ha : at_ ≤ 8) (hlm : len ≤ 140737488355328)
    (hC : Calls Sakg.prog 35 #[.slice (some ⟨b, off, none⟩) len cap, .int .u8 ((x : Int) - (if 192 ≤ x then 192 else 128))] w fun e w' => e = .returned (.tuple #[.int .i64 sz, .int .i64 at_, .bool true]) ∧ w = w') :
    Calls Sakg.prog 12 #[.slice (some ⟨b, off, none⟩) len cap] w fun e w' => e = .returned (.tuple #[.bool false, .slice none 0 0, .slice none 0 0, .bool false]) ∧ w = w' := by
  have hz : ((len : Int) == 0) = false := by simp; omega
  have hx1 : ¬ (x : Int) < 128 := by omega
  by_cases hli : 192 ≤ x
  · rw [if_pos hli] at hC
    have HC := hide hC
    clear hC
    go_enter Sakg.func12, Sakg.ntmps12
    go_wp2_with (go_at_call 35; refine (unhide HC).mono ?_; rintro e w' ⟨rfl, rfl⟩)
    exact bodyPost_ret (v := .tuple #[.bool false, .slice none 0 0, .slice none 0 0, .bool false]) (by simp [results, Sakg.results12, go_sem]) rfl ⟨rfl, rfl⟩
  · rw [if_neg hli] at hC
    have HC := hide hC
    clear hC
    go_enter Sakg.func12, Sakg.ntmps12
    go_wp2_with (go_at_call 35; refine (unhide HC).mono ?_; rintro e w' ⟨rfl, rfl⟩)
    exact bodyPost_ret (v := .tuple #[.bool false, .slice none 0 0, .slice none 0 0, .bool false]) (by simp [results, Sakg.results12, go_sem]) rfl ⟨rfl, rfl⟩

set_option maxHeartbeats 1000000 in
theorem split_list_ze (b off : Nat) (x : Nat) (at_ : Nat) (w : World) (hl : 0 < at_) (hc : w.cell? ⟨b, off, none⟩ = some (.int .u8 x)) (h0 : 192 ≤ x) (h1 : x < 256)
    (ha : at_ ≤ 8) (hlm : at_ ≤ 140737488355328) 
    (hC : Calls Sakg.prog 35 #[.slice (some ⟨b, off, none⟩) at_ at_, .int .u8 ((x : Int) - 192)] w fun e w' => e = .returned (.tuple #[.int .i64 0, .int .i64 at_, .bool true]) ∧ w = w') :
    Calls Sakg.prog 12 #[.slice (some ⟨b, off, none⟩) at_ at_] w fun e w' => e = .returned (.tuple #[.bool true, .slice (some ⟨b, off, none⟩) 0 0, .slice (some ⟨b, off, none⟩) 0 0, .bool true]) ∧ w' = w.drew := by
  have hz : ((at_ : Int) == 0) = false := by simp; omega
  have hx1 : ¬ (x : Int) < 128 := by omega
  have hx2 : decide ((192 : Int) ≤ (x : Int)) = true := by simp; omega
  have HC := hide hC
  clear hC
  have d1 : decide ((at_ : Int) - (at_ : Int) < 0) = false := decide_eq_false (by omega)
  go_enter Sakg.func12, Sakg.ntmps12
  go_wp2_with (go_at_call 35; refine (unhide HC).mono ?_; rintro e w' ⟨rfl, rfl⟩)
  go_region
  go_wp2
  exact bodyPost_ret (v := .tuple #[.bool true, .slice (some ⟨b, off, none⟩) 0 0, .slice (some ⟨b, off, none⟩) 0 0, .bool true]) (by simp [results, Sakg.results12, go_sem]) rfl ⟨rfl, rfl⟩

set_option maxHeartbeats 1000000 in
theorem split_list_zn (b off : Nat) (len cap : Nat) (x : Nat) (at_ : Nat) (w : World) (hl : 0 < len) (hle : len ≤ cap) (hm : cap ≤ 9223372036854775807) (hs : at_ ≤ len) (hc : w.cell? ⟨b, off, none⟩ = some (.int .u8 x)) (h0 : 192 ≤ x) (h1 : x < 256)
    (ha : at_ ≤ 8) (hlm : len ≤ 140737488355328) (hcp : ¬ cap = at_) 
    (hC : Calls Sakg.prog 35 #[.slice (some ⟨b, off, none⟩) len cap, .int .u8 ((x : Int) - 192)] w fun e w' => e = .returned (.tuple #[.int .i64 0, .int .i64 at_, .bool true]) ∧ w = w') :
    Calls Sakg.prog 12 #[.slice (some ⟨b, off, none⟩) len cap] w fun e w' => e = .returned (.tuple #[.bool true, .slice (some ⟨b, off, none⟩) 0 0, .slice (some ⟨b, off + at_, none⟩) (len - at_) (cap - at_), .bool true]) ∧ w' = w.drew := by
  have hz : ((len : Int) == 0) = false := by simp; omega
  have hx1 : ¬ (x : Int) < 128 := by omega
  have hx2 : decide ((192 : Int) ≤ (x : Int)) = true := by simp; omega
  have HC := hide hC
  clear hC
  have d1 : decide ((len : Int) - (at_ : Int) < 0) = false := decide_eq_false (by omega)
  go_enter Sakg.func12, Sakg.ntmps12
  go_wp2_with (go_at_call 35; refine (unhide HC).mono ?_; rintro e w' ⟨rfl, rfl⟩)
  go_region
  go_wp2
  exact bodyPost_ret (v := .tuple #[.bool true, .slice (some ⟨b, off, none⟩) 0 0, .slice (some ⟨b, off + at_, none⟩) (len - at_) (cap - at_), .bool true]) (by simp [results, Sakg.results12, go_sem]) rfl ⟨rfl, rfl⟩

set_option maxHeartbeats 1000000 in
theorem split_list_pe (b off : Nat) (x : Nat) (sz : Nat) (at_ : Nat) (w : World) (hl : 0 < (at_ + sz)) (hc : w.cell? ⟨b, off, none⟩ = some (.int .u8 x)) (h0 : 192 ≤ x) (h1 : x < 256)
    (ha : at_ ≤ 8) (hlm : (at_ + sz) ≤ 140737488355328) (hsz : ¬ at_ + sz = at_) 
    (hC : Calls Sakg.prog 35 #[.slice (some ⟨b, off, none⟩) (at_ + sz) (at_ + sz), .int .u8 ((x : Int) - 192)] w fun e w' => e = .returned (.tuple #[.int .i64 sz, .int .i64 at_, .bool true]) ∧ w = w') :
    Calls Sakg.prog 12 #[.slice (some ⟨b, off, none⟩) (at_ + sz) (at_ + sz)] w fun e w' => e = .returned (.tuple #[.bool true, .slice (some ⟨b, off + at_, none⟩) sz sz, .slice (some ⟨b, off, none⟩) 0 0, .bool true]) ∧ w' = w.drew := by
  have hz : (((at_ : Int) + (sz : Int)) == 0) = false := by simp; omega
  have hx1 : ¬ (x : Int) < 128 := by omega
  have hx2 : decide ((192 : Int) ≤ (x : Int)) = true := by simp; omega
  have HC := hide hC
  clear hC
  have d1 : decide (((at_ : Int) + (sz : Int)) - (at_ : Int) < (sz : Int)) = false := decide_eq_false (by omega)
  go_enter Sakg.func12, Sakg.ntmps12
  go_wp2_with (go_at_call 35; refine (unhide HC).mono ?_; rintro e w' ⟨rfl, rfl⟩)
  go_region
  go_wp2
  exact bodyPost_ret (v := .tuple #[.bool true, .slice (some ⟨b, off + at_, none⟩) sz sz, .slice (some ⟨b, off, none⟩) 0 0, .bool true]) (by simp [results, Sakg.results12, go_sem]) rfl ⟨rfl, rfl⟩

set_option maxHeartbeats 1000000 in
theorem split_list_pn (b off : Nat) (len cap : Nat) (x : Nat) (sz : Nat) (at_ : Nat) (w : World) (hl : 0 < len) (hle : len ≤ cap) (hm : cap ≤ 9223372036854775807) (hs : (at_ + sz) ≤ len) (hc : w.cell? ⟨b, off, none⟩ = some (.int .u8 x)) (h0 : 192 ≤ x) (h1 : x < 256)
    (ha : at_ ≤ 8) (hlm : len ≤ 140737488355328) (hcp : ¬ cap = (at_ + sz)) (hsz : ¬ at_ + sz = at_) 
    (hC : Calls Sakg.prog 35 #[.slice (some ⟨b, off, none⟩) len cap, .int .u8 ((x : Int) - 192)] w fun e w' => e = .returned (.tuple #[.int .i64 sz, .int .i64 at_, .bool true]) ∧ w = w') :
    Calls Sakg.prog 12 #[.slice (some ⟨b, off, none⟩) len cap] w fun e w' => e = .returned (.tuple #[.bool true, .slice (some ⟨b, off + at_, none⟩) sz sz, .slice (some ⟨b, off + (at_ + sz), none⟩) (len - (at_ + sz)) (cap - (at_ + sz)), .bool true]) ∧ w' = w.drew := by
  have hz : ((len : Int) == 0) = false := by simp; omega
  have hx1 : ¬ (x : Int) < 128 := by omega
  have hx2 : decide ((192 : Int) ≤ (x : Int)) = true := by simp; omega
  have HC := hide hC
  clear hC
  have d1 : decide ((len : Int) - (at_ : Int) < (sz : Int)) = false := decide_eq_false (by omega)
  go_enter Sakg.func12, Sakg.ntmps12
  go_wp2_with (go_at_call 35; refine (unhide HC).mono ?_; rintro e w' ⟨rfl, rfl⟩)
  go_region
  go_wp2
  exact bodyPost_ret (v := .tuple #[.bool true, .slice (some ⟨b, off + at_, none⟩) sz sz, .slice (some ⟨b, off + (at_ + sz), none⟩) (len - (at_ + sz)) (cap - (at_ + sz)), .bool true]) (by simp [results, Sakg.results12, go_sem]) rfl ⟨rfl, rfl⟩

set_option maxHeartbeats 1000000 in
theorem split_str_ze (b off : Nat) (x : Nat) (at_ : Nat) (w : World) (hl : 0 < at_) (hc : w.cell? ⟨b, off, none⟩ = some (.int .u8 x)) (h0 : 128 ≤ x) (h1 : x < 192)
    (ha : at_ ≤ 8) (hlm : at_ ≤ 140737488355328) 
    (hC : Calls Sakg.prog 35 #[.slice (some ⟨b, off, none⟩) at_ at_, .int .u8 ((x : Int) - 128)] w fun e w' => e = .returned (.tuple #[.int .i64 0, .int .i64 at_, .bool true]) ∧ w = w') :
    Calls Sakg.prog 12 #[.slice (some ⟨b, off, none⟩) at_ at_] w fun e w' => e = .returned (.tuple #[.bool false, .slice (some ⟨b, off, none⟩) 0 0, .slice (some ⟨b, off, none⟩) 0 0, .bool true]) ∧ w' = w.drew := by
  have hz : ((at_ : Int) == 0) = false := by simp; omega
  have hx1 : ¬ (x : Int) < 128 := by omega
  have hx2 : decide ((192 : Int) ≤ (x : Int)) = false := by simp; omega
  have HC := hide hC
  clear hC
  have d1 : decide ((at_ : Int) - (at_ : Int) < 0) = false := decide_eq_false (by omega)
  go_enter Sakg.func12, Sakg.ntmps12
  go_wp2_with (go_at_call 35; refine (unhide HC).mono ?_; rintro e w' ⟨rfl, rfl⟩)
  go_region
  go_wp2
  exact bodyPost_ret (v := .tuple #[.bool false, .slice (some ⟨b, off, none⟩) 0 0, .slice (some ⟨b, off, none⟩) 0 0, .bool true]) (by simp [results, Sakg.results12, go_sem]) rfl ⟨rfl, rfl⟩

set_option maxHeartbeats 1000000 in
theorem split_str_zn (b off : Nat) (len cap : Nat) (x : Nat) (at_ : Nat) (w : World) (hl : 0 < len) (hle : len ≤ cap) (hm : cap ≤ 9223372036854775807) (hs : at_ ≤ len) (hc : w.cell? ⟨b, off, none⟩ = some (.int .u8 x)) (h0 : 128 ≤ x) (h1 : x < 192)
    (ha : at_ ≤ 8) (hlm : len ≤ 140737488355328) (hcp : ¬ cap = at_) 
    (hC : Calls Sakg.prog 35 #[.slice (some ⟨b, off, none⟩) len cap, .int .u8 ((x : Int) - 128)] w fun e w' => e = .returned (.tuple #[.int .i64 0, .int .i64 at_, .bool true]) ∧ w = w') :
    Calls Sakg.prog 12 #[.slice (some ⟨b, off, none⟩) len cap] w fun e w' => e = .returned (.tuple #[.bool false, .slice (some ⟨b, off, none⟩) 0 0, .slice (some ⟨b, off + at_, none⟩) (len - at_) (cap - at_), .bool true]) ∧ w' = w.drew := by
  have hz : ((len : Int) == 0) = false := by simp; omega
  have hx1 : ¬ (x : Int) < 128 := by omega
  have hx2 : decide ((192 : Int) ≤ (x : Int)) = false := by simp; omega
  have HC := hide hC
  clear hC
  have d1 : decide ((len : Int) - (at_ : Int) < 0) = false := decide_eq_false (by omega)
  go_enter Sakg.func12, Sakg.ntmps12
  go_wp2_with (go_at_call 35; refine (unhide HC).mono ?_; rintro e w' ⟨rfl, rfl⟩)
  go_region
  go_wp2
  exact bodyPost_ret (v := .tuple #[.bool false, .slice (some ⟨b, off, none⟩) 0 0, .slice (some ⟨b, off + at_, none⟩) (len - at_) (cap - at_), .bool true]) (by simp [results, Sakg.results12, go_sem]) rfl ⟨rfl, rfl⟩

set_option maxHeartbeats 1000000 in
theorem split_str_pe (b off : Nat) (x : Nat) (sz : Nat) (at_ : Nat) (w : World) (hl : 0 < (at_ + sz)) (hc : w.cell? ⟨b, off, none⟩ = some (.int .u8 x)) (h0 : 128 ≤ x) (h1 : x < 192)
    (ha : at_ ≤ 8) (hlm : (at_ + sz) ≤ 140737488355328) (hsz : ¬ at_ + sz = at_) (hs1 : ¬ sz = 1) 
    (hC : Calls Sakg.prog 35 #[.slice (some ⟨b, off, none⟩) (at_ + sz) (at_ + sz), .int .u8 ((x : Int) - 128)] w fun e w' => e = .returned (.tuple #[.int .i64 sz, .int .i64 at_, .bool true]) ∧ w = w') :
    Calls Sakg.prog 12 #[.slice (some ⟨b, off, none⟩) (at_ + sz) (at_ + sz)] w fun e w' => e = .returned (.tuple #[.bool false, .slice (some ⟨b, off + at_, none⟩) sz sz, .slice (some ⟨b, off, none⟩) 0 0, .bool true]) ∧ w' = w.drew := by
  have hz : (((at_ : Int) + (sz : Int)) == 0) = false := by simp; omega
  have hx1 : ¬ (x : Int) < 128 := by omega
  have hx2 : decide ((192 : Int) ≤ (x : Int)) = false := by simp; omega
  have HC := hide hC
  clear hC
  have d1 : decide (((at_ : Int) + (sz : Int)) - (at_ : Int) < (sz : Int)) = false := decide_eq_false (by omega)
  have d2 : ((sz : Int) == 1) = false := by simp; omega
  go_enter Sakg.func12, Sakg.ntmps12
  go_wp2_with (go_at_call 35; refine (unhide HC).mono ?_; rintro e w' ⟨rfl, rfl⟩)
  go_region
  go_wp2
  exact bodyPost_ret (v := .tuple #[.bool false, .slice (some ⟨b, off + at_, none⟩) sz sz, .slice (some ⟨b, off, none⟩) 0 0, .bool true]) (by simp [results, Sakg.results12, go_sem]) rfl ⟨rfl, rfl⟩

set_option maxHeartbeats 1000000 in
theorem split_str_pn (b off : Nat) (len cap : Nat) (x : Nat) (sz : Nat) (at_ : Nat) (w : World) (hl : 0 < len) (hle : len ≤ cap) (hm : cap ≤ 9223372036854775807) (hs : (at_ + sz) ≤ len) (hc : w.cell? ⟨b, off, none⟩ = some (.int .u8 x)) (h0 : 128 ≤ x) (h1 : x < 192)
    (ha : at_ ≤ 8) (hlm : len ≤ 140737488355328) (hcp : ¬ cap = (at_ + sz)) (hsz : ¬ at_ + sz = at_) (hs1 : ¬ sz = 1) 
    (hC : Calls Sakg.prog 35 #[.slice (some ⟨b, off, none⟩) len cap, .int .u8 ((x : Int) - 128)] w fun e w' => e = .returned (.tuple #[.int .i64 sz, .int .i64 at_, .bool true]) ∧ w = w') :
    Calls Sakg.prog 12 #[.slice (some ⟨b, off, none⟩) len cap] w fun e w' => e = .returned (.tuple #[.bool false, .slice (some ⟨b, off + at_, none⟩) sz sz, .slice (some ⟨b, off + (at_ + sz), none⟩) (len - (at_ + sz)) (cap - (at_ + sz)), .bool true]) ∧ w' = w.drew := by
  have hz : ((len : Int) == 0) = false := by simp; omega
  have hx1 : ¬ (x : Int) < 128 := by omega
  have hx2 : decide ((192 : Int) ≤ (x : Int)) = false := by simp; omega
  have HC := hide hC
  clear hC
  have d1 : decide ((len : Int) - (at_ : Int) < (sz : Int)) = false := decide_eq_false (by omega)
  have d2 : ((sz : Int) == 1) = false := by simp; omega
  go_enter Sakg.func12, Sakg.ntmps12
  go_wp2_with (go_at_call 35; refine (unhide HC).mono ?_; rintro e w' ⟨rfl, rfl⟩)
  go_region
  go_wp2
  exact bodyPost_ret (v := .tuple #[.bool false, .slice (some ⟨b, off + at_, none⟩) sz sz, .slice (some ⟨b, off + (at_ + sz), none⟩) (len - (at_ + sz)) (cap - (at_ + sz)), .bool true]) (by simp [results, Sakg.results12, go_sem]) rfl ⟨rfl, rfl⟩

set_option maxHeartbeats 1000000 in
theorem split_one_he (b off : Nat) (x : Nat) (at_ : Nat) (w : World) (hl : 0 < (at_ + 1)) (hc : w.cell? ⟨b, off, none⟩ = some (.int .u8 x)) (h0 : 128 ≤ x) (h1 : x < 192)
    (ha : at_ ≤ 8) (hlm : (at_ + 1) ≤ 140737488355328) (y : Int) (hy : w.cell? ⟨b, off + at_, none⟩ = some (.int .u8 y)) (hy0 : 0 ≤ y) (hy1 : 128 ≤ y) 
    (hC : Calls Sakg.prog 35 #[.slice (some ⟨b, off, none⟩) (at_ + 1) (at_ + 1), .int .u8 ((x : Int) - 128)] w fun e w' => e = .returned (.tuple #[.int .i64 1, .int .i64 at_, .bool true]) ∧ w = w') :
    Calls Sakg.prog 12 #[.slice (some ⟨b, off, none⟩) (at_ + 1) (at_ + 1)] w fun e w' => e = .returned (.tuple #[.bool false, .slice (some ⟨b, off + at_, none⟩) 1 1, .slice (some ⟨b, off, none⟩) 0 0, .bool true]) ∧ w' = w.drew := by
  have hz : (((at_ : Int) + 1) == 0) = false := by simp; omega
  have hx1 : ¬ (x : Int) < 128 := by omega
  have hx2 : decide ((192 : Int) ≤ (x : Int)) = false := by simp; omega
  have HC := hide hC
  clear hC
  have d1 : decide (((at_ : Int) + 1) - (at_ : Int) < 1) = false := decide_eq_false (by omega)
  have d2 : ¬ y < 128 := by omega
  go_enter Sakg.func12, Sakg.ntmps12
  go_wp2_with (go_at_call 35; refine (unhide HC).mono ?_; rintro e w' ⟨rfl, rfl⟩)
  go_region
  go_wp2
  exact bodyPost_ret (v := .tuple #[.bool false, .slice (some ⟨b, off + at_, none⟩) 1 1, .slice (some ⟨b, off, none⟩) 0 0, .bool true]) (by simp [results, Sakg.results12, go_sem]) rfl ⟨rfl, rfl⟩

set_option maxHeartbeats 1000000 in
theorem split_one_le (b off : Nat) (x : Nat) (at_ : Nat) (w : World) (hl : 0 < (at_ + 1)) (hc : w.cell? ⟨b, off, none⟩ = some (.int .u8 x)) (h0 : 128 ≤ x) (h1 : x < 192)
    (ha : at_ ≤ 8) (hlm : (at_ + 1) ≤ 140737488355328) (y : Int) (hy : w.cell? ⟨b, off + at_, none⟩ = some (.int .u8 y)) (hy0 : 0 ≤ y) (hy1 : y < 128) 
    (hC : Calls Sakg.prog 35 #[.slice (some ⟨b, off, none⟩) (at_ + 1) (at_ + 1), .int .u8 ((x : Int) - 128)] w fun e w' => e = .returned (.tuple #[.int .i64 1, .int .i64 at_, .bool true]) ∧ w = w') :
    Calls Sakg.prog 12 #[.slice (some ⟨b, off, none⟩) (at_ + 1) (at_ + 1)] w fun e w' => e = .returned (.tuple #[.bool false, .slice none 0 0, .slice none 0 0, .bool false]) ∧ w = w' := by
  have hz : (((at_ : Int) + 1) == 0) = false := by simp; omega
  have hx1 : ¬ (x : Int) < 128 := by omega
  have hx2 : decide ((192 : Int) ≤ (x : Int)) = false := by simp; omega
  have HC := hide hC
  clear hC
  have d1 : decide (((at_ : Int) + 1) - (at_ : Int) < 1) = false := decide_eq_false (by omega)
  go_enter Sakg.func12, Sakg.ntmps12
  go_wp2_with (go_at_call 35; refine (unhide HC).mono ?_; rintro e w' ⟨rfl, rfl⟩)
  exact bodyPost_ret (v := .tuple #[.bool false, .slice none 0 0, .slice none 0 0, .bool false]) (by simp [results, Sakg.results12, go_sem]) rfl ⟨rfl, rfl⟩

set_option maxHeartbeats 1000000 in
theorem split_one_hn (b off : Nat) (len cap : Nat) (x : Nat) (at_ : Nat) (w : World) (hl : 0 < len) (hle : len ≤ cap) (hm : cap ≤ 9223372036854775807) (hs : (at_ + 1) ≤ len) (hc : w.cell? ⟨b, off, none⟩ = some (.int .u8 x)) (h0 : 128 ≤ x) (h1 : x < 192)
    (ha : at_ ≤ 8) (hlm : len ≤ 140737488355328) (hcp : ¬ cap = (at_ + 1)) (y : Int) (hy : w.cell? ⟨b, off + at_, none⟩ = some (.int .u8 y)) (hy0 : 0 ≤ y) (hy1 : 128 ≤ y) 
    (hC : Calls Sakg.prog 35 #[.slice (some ⟨b, off, none⟩) len cap, .int .u8 ((x : Int) - 128)] w fun e w' => e = .returned (.tuple #[.int .i64 1, .int .i64 at_, .bool true]) ∧ w = w') :
    Calls Sakg.prog 12 #[.slice (some ⟨b, off, none⟩) len cap] w fun e w' => e = .returned (.tuple #[.bool false, .slice (some ⟨b, off + at_, none⟩) 1 1, .slice (some ⟨b, off + (at_ + 1), none⟩) (len - (at_ + 1)) (cap - (at_ + 1)), .bool true]) ∧ w' = w.drew := by
  have hz : ((len : Int) == 0) = false := by simp; omega
  have hx1 : ¬ (x : Int) < 128 := by omega
  have hx2 : decide ((192 : Int) ≤ (x : Int)) = false := by simp; omega
  have HC := hide hC
  clear hC
  have d1 : decide ((len : Int) - (at_ : Int) < 1) = false := decide_eq_false (by omega)
  have d2 : ¬ y < 128 := by omega
  go_enter Sakg.func12, Sakg.ntmps12
  go_wp2_with (go_at_call 35; refine (unhide HC).mono ?_; rintro e w' ⟨rfl, rfl⟩)
  go_region
  go_wp2
  exact bodyPost_ret (v := .tuple #[.bool false, .slice (some ⟨b, off + at_, none⟩) 1 1, .slice (some ⟨b, off + (at_ + 1), none⟩) (len - (at_ + 1)) (cap - (at_ + 1)), .bool true]) (by simp [results, Sakg.results12, go_sem]) rfl ⟨rfl, rfl⟩

set_option maxHeartbeats 1000000 in
theorem split_one_ln (b off : Nat) (len cap : Nat) (x : Nat) (at_ : Nat) (w : World) (hl : 0 < len) (hle : len ≤ cap) (hm : cap ≤ 9223372036854775807) (hs : (at_ + 1) ≤ len) (hc : w.cell? ⟨b, off, none⟩ = some (.int .u8 x)) (h0 : 128 ≤ x) (h1 : x < 192)
    (ha : at_ ≤ 8) (hlm : len ≤ 140737488355328) (hcp : ¬ cap = (at_ + 1)) (y : Int) (hy : w.cell? ⟨b, off + at_, none⟩ = some (.int .u8 y)) (hy0 : 0 ≤ y) (hy1 : y < 128) 
    (hC : Calls Sakg.prog 35 #[.slice (some ⟨b, off, none⟩) len cap, .int .u8 ((x : Int) - 128)] w fun e w' => e = .returned (.tuple #[.int .i64 1, .int .i64 at_, .bool true]) ∧ w = w') :
    Calls Sakg.prog 12 #[.slice (some ⟨b, off, none⟩) len cap] w fun e w' => e = .returned (.tuple #[.bool false, .slice none 0 0, .slice none 0 0, .bool false]) ∧ w = w' := by
  have hz : ((len : Int) == 0) = false := by simp; omega
  have hx1 : ¬ (x : Int) < 128 := by omega
  have hx2 : decide ((192 : Int) ≤ (x : Int)) = false := by simp; omega
  have HC := hide hC
  clear hC
  have d1 : decide ((len : Int) - (at_ : Int) < 1) = false := decide_eq_false (by omega)
  go_enter Sakg.func12, Sakg.ntmps12
  go_wp2_with (go_at_call 35; refine (unhide HC).mono ?_; rintro e w' ⟨rfl, rfl⟩)
  exact bodyPost_ret (v := .tuple #[.bool false, .slice none 0 0, .slice none 0 0, .bool false]) (by simp [results, Sakg.results12, go_sem]) rfl ⟨rfl, rfl⟩

end Go.Proofs.Ygcsak
