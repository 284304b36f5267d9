/-
  yp: Finish behind a frame that ended well.
-/
import Derived.Test.YgcsakGreatCloA
import Derived.Test.YgcsakGreatNewZ
namespace Go.Proofs.YgcsakGreat
set_option linter.unusedVariables false
set_option linter.unusedSimpArgs false
set_option maxRecDepth 100000
open Go.RowKit

def rcptRow (s : Nat) (o : Value) (u : Nat) (m : List Int) : List Value := .int .u8 0 :: .int .u8 s :: .int .u64 u :: o :: nilS :: bv m
theorem infoRcpt : (Sakg.prog.info? 48).map (fun i => (i.zero, i.size)) = some (some (.agg (rcptRow 0 nilS 0 (zeros 20)).toArray), 25) := by kernel_rfl
theorem sizeRcpt : (Sakg.prog.info? 48).map (·.size) = some 25 := by kernel_rfl
theorem placesRcpt : PlacesOf 48 #[(0, 1), (1, 1), (2, 1), (3, 1), (4, 1), (5, 20)] := ⟨by kernel_rfl, fun w => by kernel_rfl⟩
theorem rcptRow_len (s : Nat) (o : Value) (u : Nat) (m : List Int) (hm : m.length = 20) : (rcptRow s o u m).length = 25 := by simp [rcptRow, bv_len, hm]
theorem rcptRow_one (s : Nat) (A : Option Addr) (k c u : Nat) (m : List Int) : ∀ v ∈ rcptRow s (.slice A k c) u m, v.oneCell' = true := by
  intro v hv
  simp only [rcptRow, List.mem_cons] at hv
  rcases hv with rfl | rfl | rfl | rfl | rfl | hv
  · rfl
  · rfl
  · rfl
  · rfl
  · rfl
  · exact bv_one _ v hv
theorem run_rcpt (wx : World) (s : Nat) (A : Option Addr) (k c : Nat) : (Instr.build 48 #[(1, .int .u8 s), (3, .slice A k c), (4, nilS)]).run Sakg.prog wx = .ok (.agg (rcptRow s (.slice A k c) 0 (zeros 20)).toArray) wx := by
  cases hi : Sakg.prog.info? 48 with
  | none => have := infoRcpt; rw [hi] at this; cases this
  | some i0 =>
    have hz := infoRcpt
    rw [hi] at hz
    simp only [Option.map_some, Option.some.injEq, Prod.mk.injEq] at hz
    refine run_build_struct wx 48 _ placesRcpt i0 _ hi hz.1 (rcptRow 0 nilS 0 (zeros 20)) rfl _ _ ?_
    rw [fill_cons _ _ 1 (.int .u8 s) _ 1 1 rfl [.int .u8 s] rfl rfl (by simp [rcptRow, bv_len, zeros_len]),
      fill_cons _ _ 3 (.slice A k c) _ 3 1 rfl [.slice A k c] rfl rfl (by simp [spl, rcptRow, bv_len, zeros_len]),
      fill_cons _ _ 4 nilS _ 4 1 rfl [nilS] rfl rfl (by simp [spl, rcptRow, bv_len, zeros_len])]
    rfl

theorem infoYState : (Sakg.prog.info? 105).map (fun i => (i.zero, i.size)) = some (some (.agg zeroC.toArray), 179) := by kernel_rfl
theorem sizeYState : (Sakg.prog.info? 105).map (·.size) = some 179 := by kernel_rfl
theorem placesState : PlacesOf 105 #[(0, 8), (8, 1), (9, 1), (10, 1), (11, 1), (12, 1), (13, 1), (14, 1), (15, 1), (16, 1), (17, 1), (18, 1), (19, 20), (39, 20), (59, 120)] := ⟨by kernel_rfl, fun w => by kernel_rfl⟩
theorem placesWorld : PlacesOf 101 #[(0, 1), (1, 1), (2, 1), (3, 1), (4, 1), (5, 1), (6, 1), (7, 1)] := ⟨by kernel_rfl, fun w => by kernel_rfl⟩
theorem zeroC_one : ∀ v ∈ zeroC, v.oneCell' = true := by
  intro v hv
  unfold zeroC at hv
  simp only [List.mem_append, List.mem_replicate, List.mem_cons, List.not_mem_nil, or_false] at hv
  rcases hv with ⟨-, rfl⟩ | (rfl | rfl | rfl) | ⟨-, rfl⟩ | hv | (rfl | rfl | rfl) | hv | rfl <;> first | rfl | exact bv_one _ v hv
def accWorld (v : Value) : List Value := v :: List.replicate 7 nilS
theorem run_world (wx : World) (A : Option Addr) (k c : Nat) : (Instr.build 101 #[(0, .slice A k c)]).run Sakg.prog wx = .ok (.agg (accWorld (.slice A k c)).toArray) wx := by
  cases hi : Sakg.prog.info? 101 with
  | none => have := infoWorld; rw [hi] at this; cases this
  | some i0 =>
    have hz := infoWorld
    rw [hi] at hz
    simp only [Option.map_some, Option.some.injEq, Prod.mk.injEq] at hz
    refine run_build_struct wx 101 _ placesWorld i0 _ hi hz.1 nils8 rfl _ _ ?_
    rw [fill_cons _ _ 0 (.slice A k c) _ 0 1 rfl [.slice A k c] rfl rfl (by simp [nils8])]
    rfl
def endRow (A : Option Addr) (k c : Nat) (n : Nat) (B : Option Addr) (j d : Nat) (env : List Value) : List Value := spl (spl (spl (spl zeroC 0 (accWorld (.slice A k c))) 13 [.int .u8 n]) 18 [.slice B j d]) 59 env
theorem spl_one' {zs cs : List Value} {o : Nat} (h : ∀ v ∈ zs, v.oneCell' = true) (h2 : ∀ v ∈ cs, v.oneCell' = true) : ∀ v ∈ spl zs o cs, v.oneCell' = true := by
  intro v hv
  unfold spl at hv
  rcases List.mem_append.1 hv with hv | hv
  · rcases List.mem_append.1 hv with hv | hv
    · exact h v (List.mem_of_mem_take hv)
    · exact h2 v hv
  · exact h v (List.mem_of_mem_drop hv)
theorem endRow_len (A : Option Addr) (k c : Nat) (n : Nat) (B : Option Addr) (j d : Nat) (env : List Value) (he : env.length = 120) : (endRow A k c n B j d env).length = 179 := by
  unfold endRow
  have h1 : (spl zeroC 0 (accWorld (.slice A k c))).length = 179 := by rw [spl_len _ _ _ (by rw [zeroC_len]; simp [accWorld]), zeroC_len]
  have h2 : (spl (spl zeroC 0 (accWorld (.slice A k c))) 13 [Value.int .u8 n]).length = 179 := by rw [spl_len _ _ _ (by rw [h1]; simp), h1]
  have h3 : (spl (spl (spl zeroC 0 (accWorld (.slice A k c))) 13 [Value.int .u8 n]) 18 [.slice B j d]).length = 179 := by rw [spl_len _ _ _ (by rw [h2]; simp), h2]
  rw [spl_len _ _ _ (by rw [h3, he]; omega), h3]
theorem endRow_one (A : Option Addr) (k c : Nat) (n : Nat) (B : Option Addr) (j d : Nat) (env : List Value) (he : ∀ v ∈ env, v.oneCell' = true) : ∀ v ∈ endRow A k c n B j d env, v.oneCell' = true := by
  unfold endRow
  refine spl_one' (spl_one' (spl_one' (spl_one' zeroC_one ?_) ?_) ?_) he
  · intro v hv
    simp only [accWorld, List.mem_cons, List.mem_replicate] at hv
    rcases hv with rfl | ⟨-, rfl⟩ <;> rfl
  · intro v hv
    rw [List.mem_singleton.1 hv]; rfl
  · intro v hv
    rw [List.mem_singleton.1 hv]; rfl
theorem run_state (wx : World) (A : Option Addr) (k c : Nat) (n : Nat) (B : Option Addr) (j d : Nat) (env : List Value) (he : env.length = 120) : (Instr.build 105 #[(0, .agg (accWorld (.slice A k c)).toArray), (6, .int .u8 n), (11, .slice B j d), (14, .agg env.toArray)]).run Sakg.prog wx = .ok (.agg (endRow A k c n B j d env).toArray) wx := by
  cases hi : Sakg.prog.info? 105 with
  | none => have := infoYState; rw [hi] at this; cases this
  | some i0 =>
    have hz := infoYState
    rw [hi] at hz
    simp only [Option.map_some, Option.some.injEq, Prod.mk.injEq] at hz
    refine run_build_struct wx 105 _ placesState i0 _ hi hz.1 zeroC rfl _ _ ?_
    have h1 : (spl zeroC 0 (accWorld (.slice A k c))).length = 179 := by rw [spl_len _ _ _ (by rw [zeroC_len]; simp [accWorld]), zeroC_len]
    have h2 : (spl (spl zeroC 0 (accWorld (.slice A k c))) 13 [Value.int .u8 n]).length = 179 := by rw [spl_len _ _ _ (by rw [h1]; simp), h1]
    have h3 : (spl (spl (spl zeroC 0 (accWorld (.slice A k c))) 13 [Value.int .u8 n]) 18 [.slice B j d]).length = 179 := by rw [spl_len _ _ _ (by rw [h2]; simp), h2]
    rw [fill_cons _ _ 0 _ _ 0 8 rfl (accWorld (.slice A k c)) rfl rfl (by rw [zeroC_len]; omega), fill_cons _ _ 6 _ _ 13 1 rfl [.int .u8 n] rfl rfl (by rw [h1]; omega), fill_cons _ _ 11 _ _ 18 1 rfl [.slice B j d] rfl rfl (by rw [h2]; omega), fill_cons _ _ 14 _ _ 59 120 rfl env rfl he (by rw [h3]; omega)]
    rfl

end Go.Proofs.YgcsakGreat
