/-
  yp: Export: laws.
-/
import Derived.Test.YgcsakGreatLbN
import Derived.Test.YgcsakGreatBeA
import Derived.Test.YgcsakGreatFrA
namespace Go.Proofs.YgcsakGreat
set_option linter.unusedVariables false
set_option linter.unusedSimpArgs false
set_option maxRecDepth 100000
open Go.RowKit

/-- an account as it is exported, plainly -/
def outA (d : YAcct) : OAcct := ⟨d.addr, d.nonce, be32 d.bal, d.code, d.slots.map fun s => (be32 s.1, be32 s.2)⟩
def outs (ds : List YAcct) : List OAcct := (ds.filter fun d => !emptyY d).map outA
theorem outs_snoc (ds : List YAcct) (d : YAcct) : outs (ds ++ [d]) = outs ds ++ (if emptyY d then [] else [outA d]) := by
  unfold outs
  rw [List.filter_append, List.map_append]
  cases h : emptyY d <;> simp [h]
/-- an exported account's 55 cells -/
def rowE (a : List Int) (n : Nat) (b : List Int) (v u : Value) : List Value := bv a ++ (.int .u64 n :: (bv b ++ [v, u]))
theorem rowE_len {a b : List Int} (ha : IsAddr a) (hb : IsW b) (n : Nat) (v u : Value) : (rowE a n b v u).length = 55 := by simp [rowE, bv_len, ha.len, hb.len]
theorem rowE_get {a b : List Int} (ha : IsAddr a) (hb : IsW b) (n : Nat) (v u : Value) : (rowE a n b v u)[54]? = some u := by
  unfold rowE
  rw [List.getElem?_append_right (by rw [bv_len, ha.len]; omega), bv_len, ha.len, show 54 - 20 = 33 + 1 from rfl, List.getElem?_cons_succ, List.getElem?_append_right (by rw [bv_len, hb.len]; omega), bv_len, hb.len]
  rfl
theorem rowE_set {a b : List Int} (ha : IsAddr a) (hb : IsW b) (n : Nat) (v u u' : Value) : (rowE a n b v u).set 54 u' = rowE a n b v u' := by
  unfold rowE
  rw [List.set_append_right _ _ (by rw [bv_len, ha.len]; omega), bv_len, ha.len, show 54 - 20 = 33 + 1 from rfl, List.set_cons_succ, List.set_append_right _ _ (by rw [bv_len, hb.len]; omega), bv_len, hb.len]
  rfl
theorem rowE_one {a b : List Int} (n : Nat) (v u : Value) (hv : v.oneCell' = true) (hu : u.oneCell' = true) : ∀ x ∈ rowE a n b v u, x.oneCell' = true := by
  intro x hx
  unfold rowE at hx
  rcases List.mem_append.1 hx with h | h
  · exact bv_one _ x h
  · rcases List.mem_cons.1 h with rfl | h
    · rfl
    · rcases List.mem_append.1 h with h | h
      · exact bv_one _ x h
      · simp at h
        rcases h with rfl | rfl
        · exact hv
        · exact hu
theorem run_rowE (wx : World) {a b : List Int} (ha : IsAddr a) (hb : IsW b) (n : Nat) (A : Option Addr) (k c : Nat) : (Instr.build 43 #[(0, .agg (bv a).toArray), (1, .int .u64 n), (2, .agg (bv b).toArray), (3, .slice A k c)]).run Sakg.prog wx = .ok (.agg (rowE a n b (.slice A k c) nilS).toArray) wx := by
  cases hi : Sakg.prog.info? 43 with
  | none => have := infoOA; rw [hi] at this; cases this
  | some i0 =>
    have hz := infoOA
    rw [hi] at hz
    simp only [Option.map_some, Option.some.injEq, Prod.mk.injEq] at hz
    have hl20 : (bv (zeros 20)).length = 20 := by rw [bv_len, zeros_len]
    have hl32 : (bv (zeros 32)).length = 32 := by rw [bv_len, zeros_len]
    have hla : (bv a).length = 20 := by rw [bv_len, ha.len]
    have hlb : (bv b).length = 32 := by rw [bv_len, hb.len]
    refine run_build_struct wx 43 _ placesOA i0 _ hi hz.1 (rowOA (zeros 20)) rfl _ _ ?_
    have s0 := spl_mid [] (bv (zeros 20)) (Value.int .u64 0 :: (bv (zeros 32) ++ [nilS, nilS])) (bv a) (by rw [hl20, hla])
    rw [List.nil_append, List.nil_append, List.length_nil] at s0
    have s1 := spl_mid (bv a) [Value.int .u64 0] (bv (zeros 32) ++ [nilS, nilS]) [Value.int .u64 n] rfl
    rw [hla] at s1
    have s2 := spl_mid (bv a ++ [Value.int .u64 n]) (bv (zeros 32)) [nilS, nilS] (bv b) (by rw [hl32, hlb])
    rw [show (bv a ++ [Value.int .u64 n]).length = 21 from by simp [hla], List.append_assoc, List.append_assoc] at s2
    have s3 := spl_mid (bv a ++ ([Value.int .u64 n] ++ bv b)) [nilS] [nilS] [Value.slice A k c] rfl
    rw [show (bv a ++ ([Value.int .u64 n] ++ bv b)).length = 53 from by simp [hla, hlb], List.append_assoc, List.append_assoc, List.append_assoc, List.append_assoc] at s3
    unfold rowOA
    rw [fill_cons _ _ 0 (.agg (bv a).toArray) _ 0 20 rfl (bv a) rfl hla (by simp [hl20, hl32]), s0]
    rw [fill_cons _ _ 1 (.int .u64 n) _ 20 1 rfl [.int .u64 n] rfl rfl (by simp [hla, hl32])]
    rw [show bv a ++ (Value.int .u64 0 :: (bv (zeros 32) ++ [nilS, nilS])) = bv a ++ ([Value.int .u64 0] ++ (bv (zeros 32) ++ [nilS, nilS])) from rfl, s1]
    rw [fill_cons _ _ 2 (.agg (bv b).toArray) _ 21 32 rfl (bv b) rfl hlb (by simp [hla, hl32]), s2]
    rw [fill_cons _ _ 3 (.slice A k c) _ 53 1 rfl [.slice A k c] rfl rfl (by simp [hla, hlb])]
    rw [show bv a ++ ([Value.int .u64 n] ++ (bv b ++ [nilS, nilS])) = bv a ++ ([Value.int .u64 n] ++ (bv b ++ ([nilS] ++ [nilS]))) from rfl, s3, Instr.fill]
    rfl
theorem run_slotE (wx : World) (a b : List Int) (ha : IsW a) (hb : IsW b) : (Instr.build 40 #[(0, .agg (bv a).toArray), (1, .agg (bv b).toArray)]).run Sakg.prog wx = .ok (.agg (bv a ++ bv b).toArray) wx := by
  cases hi : Sakg.prog.info? 40 with
  | none => have := infoOSlot; rw [hi] at this; cases this
  | some i0 =>
    have hz := infoOSlot
    rw [hi] at hz
    simp only [Option.map_some, Option.some.injEq, Prod.mk.injEq] at hz
    have hp : PlacesOf 40 #[(0, 32), (32, 32)] := ⟨by kernel_rfl, fun w => by kernel_rfl⟩
    have hl32 : (bv (zeros 32)).length = 32 := by rw [bv_len, zeros_len]
    have hla : (bv a).length = 32 := by rw [bv_len, ha.len]
    have hlb : (bv b).length = 32 := by rw [bv_len, hb.len]
    have e64 : bv (zeros 64) = bv (zeros 32) ++ bv (zeros 32) := by rw [← bv_append]; rfl
    refine run_build_struct wx 40 _ hp i0 _ hi hz.1 (bv (zeros 64)) rfl _ _ ?_
    have s0 := spl_mid [] (bv (zeros 32)) (bv (zeros 32)) (bv a) (by rw [hl32, hla])
    rw [List.nil_append, List.nil_append, List.length_nil] at s0
    have s1 := spl_mid (bv a) (bv (zeros 32)) [] (bv b) (by rw [hl32, hlb])
    rw [hla, List.append_nil, List.append_nil] at s1
    rw [e64, fill_cons _ _ 0 (.agg (bv a).toArray) _ 0 32 rfl (bv a) rfl hla (by simp [hl32]), s0]
    rw [fill_cons _ _ 1 (.agg (bv b).toArray) _ 32 32 rfl (bv b) rfl hlb (by simp [hla, hl32]), s1, Instr.fill]
theorem infoOA3 : (Sakg.prog.info? 43).map (fun i => (i.zero, i.size, i.bytes)) = some (some (.agg (rowOA (zeros 20)).toArray), 55, 112) := by kernel_rfl
theorem infoOSlot3 : (Sakg.prog.info? 40).map (fun i => (i.zero, i.size, i.bytes)) = some (some (.agg (bv (zeros 64)).toArray), 64, 64) := by kernel_rfl
/-- an exported account that lasts -/
def EAcct (G : Nat → Prop) (w : World) (r : List Value) (o : OAcct) : Prop := ∃ A3 k3 c3 A4 k4 c4, r = rowE o.addr o.nonce o.bal (.slice A3 k3 c3) (.slice A4 k4 c4) ∧ IsAddr o.addr ∧ o.nonce < 256 ^ 8 ∧ IsW o.bal ∧ KSrc G w A3 k3 c3 o.code ∧ ∃ srows, StabS G (fun w => Rws w 64 A4 k4 c4 srows) w ∧ Each OSlotRow srows o.slots
theorem EAcct.go {G G' : Nat → Prop} {w w' : World} {r : List Value} {o : OAcct} (h : EAcct G w r o) (hc : ChgS G w w') (hs : ∀ k, G' k → k < w.heap.size → G k) : EAcct G' w' r o := by
  obtain ⟨A3, k3, c3, A4, k4, c4, h1, h2, h3, h4, h5, srows, h6, h7⟩ := h
  exact ⟨A3, k3, c3, A4, k4, c4, h1, h2, h3, h4, h5.go hc hs, srows, h6.go hc hs, h7⟩
theorem EAcct.now {G : Nat → Prop} {w : World} {r : List Value} {o : OAcct} (h : EAcct G w r o) : OAcctRow w r o := by
  obtain ⟨A3, k3, c3, A4, k4, c4, h1, h2, h3, h4, h5, srows, h6, h7⟩ := h
  exact ⟨A3, k3, c3, A4, k4, c4, h1, h2, h3, h4, h5.now, srows, h6.now, h7⟩
theorem EAcct.len {G : Nat → Prop} {w : World} {r : List Value} {o : OAcct} (h : EAcct G w r o) : r.length = 55 := by
  obtain ⟨A3, k3, c3, A4, k4, c4, rfl, h2, h3, h4, _⟩ := h
  exact rowE_len h2 h4 _ _ _
/-- where one row is appended, and where the answer lies -/
theorem wpList_append_at {w : World} {ops : Array Oper} {rest : List Oper} {o : Oper} {a : Act} {Q : Exit → Act → World → Prop} (hgd : o.guard = none) (s x : Operand) (t : TypeId)
    (ho : o.op = .call { callee := .builtin .append, args := #[s, x], argTypes := #[t, t] }) (e : TypeId) (sz bytes : Nat) (ht : Sakg.prog.underlying t = some (.slice e))
    (Z : List Value) (hzi : (Sakg.prog.info? e).map (fun i => (i.zero, i.size, i.bytes)) = some (some (.agg Z.toArray), sz, bytes)) (hzl : Z.length = sz) (hsz : 0 < sz)
    (base : Nat) (v : Value) (n : Nat) (rows : List (List Value)) (hs : a.eval s = v) (hown : w.ownsRow base e sz v n rows.flatten)
    (g : Nat) (t' : TypeId) (row : List Value) (hx : a.eval x = .slice (some ⟨g, 0, none⟩) 1 1) (hrow : RowT t' w g row) (hrl : row.length = sz) (h1 : ∀ u ∈ row, u.oneCell' = true) (hb : (n + 1) * bytes ≤ 140737488355328) (hn : n + 1 ≤ 140737488355328) (hbase : base ≤ w.heap.size)
    (h : ∀ v' w', w'.ownsRow base e sz v' (n + 1) (rows ++ [row]).flatten → w.grownBy w' v.ownBlock → (v'.ownBlock = v.ownBlock ∨ v'.ownBlock = some w.heap.size) → wpList Sakg.prog ops Q rest (a.put o.dst v') w') : wpList Sakg.prog ops Q (o :: rest) a w := by
  have hw : Region.wanted o (yielded ops a.tmps) = true := by unfold Region.wanted; rw [hgd]
  have h2 := if_append_at (ops := ops) (K := fun a w => wpList Sakg.prog ops Q rest a w) (Q := Q) o.dst rfl hw s x t ho e sz bytes ht Z hzi hzl hsz base v n rows hs hown g t' row hx hrow hrl h1 hb hn hbase h
  rw [if_pos hw] at h2
  rw [wpList, if_pos hw]
  exact .inl h2

end Go.Proofs.YgcsakGreat
