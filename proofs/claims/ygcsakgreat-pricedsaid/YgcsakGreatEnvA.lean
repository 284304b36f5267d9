/-
  the environment's cells, an account's row (the great seat: in place of LawB's and LawC's parts).
-/
import Derived.Test.YgcsakGreatRegB
namespace Go.Proofs.YgcsakGreat
set_option linter.unusedVariables false
set_option linter.unusedSimpArgs false
set_option maxRecDepth 100000
open Go.RowKit

def zeroOA (a : List Int) : OAcct := ⟨a, 0, zeros 32, [], []⟩
def rowOA (a : List Int) : List Value := bv a ++ (.int .u64 0 :: (bv (zeros 32) ++ [nilS, nilS]))
theorem infoOA : (Sakg.prog.info? 43).map (fun i => (i.zero, i.size)) = some (some (.agg (rowOA (zeros 20)).toArray), 55) := by kernel_rfl
theorem sizeOA : (Sakg.prog.info? 43).map (·.size) = some 55 := by kernel_rfl
theorem placesOA : PlacesOf 43 #[(0, 20), (20, 1), (21, 32), (53, 1), (54, 1)] := ⟨by kernel_rfl, fun w => by kernel_rfl⟩
theorem rowOA_len (a : List Int) (ha : IsAddr a) : (rowOA a).length = 55 := by simp [rowOA, bv_len, ha.len, zeros_len]
theorem rowOA_one (a : List Int) : ∀ v ∈ rowOA a, v.oneCell' = true := by
  intro v hv
  unfold rowOA at hv
  rcases List.mem_append.1 hv with h | h
  · exact bv_one _ v h
  · rcases List.mem_cons.1 h with h | h
    · subst h; rfl
    · rcases List.mem_append.1 h with h | h
      · exact bv_one _ v h
      · simp at h; subst h; rfl
theorem rowOA_row (w : World) (a : List Int) (ha : IsAddr a) : OAcctRow w (rowOA a) (zeroOA a) :=
  ⟨none, 0, 0, none, 0, 0, rfl, ha, Nat.pow_pos (by omega), zeroW_is, Src.ofNil w, ⟨[], Rws.ofNil w 64, trivial⟩⟩
theorem build_OA (a : List Int) (ha : IsAddr a) : Instr.fill ((#[(0, 20), (20, 1), (21, 32), (53, 1), (54, 1)] : Array (Nat × Nat))[·]?) (rowOA (zeros 20)).toArray [(0, .agg (bv a).toArray)] = some (rowOA a).toArray := by
  rw [fill_cons _ (rowOA (zeros 20)) 0 (.agg (bv a).toArray) [] 0 20 rfl (bv a) rfl (by rw [bv_len, ha.len]) (by simp [rowOA, bv_len, zeros_len]), Instr.fill]
  have : spl (rowOA (zeros 20)) 0 (bv a) = rowOA a := by
    unfold spl rowOA
    rw [List.take_zero, List.nil_append, Nat.zero_add, bv_len, ha.len, List.drop_append_of_le_length (by simp [bv_len, zeros_len]), List.drop_of_length_le (by simp [bv_len, zeros_len]), List.nil_append]
  rw [this]
theorem OAcctRow.one {w : World} {r : List Value} {d : OAcct} (h : OAcctRow w r d) : ∀ v ∈ r, v.oneCell' = true := by
  obtain ⟨A3, k3, c3, A4, k4, c4, rfl, _⟩ := h
  intro v hv
  rcases List.mem_append.1 hv with h | h
  · exact bv_one _ v h
  · rcases List.mem_cons.1 h with h | h
    · subst h; rfl
    · rcases List.mem_append.1 h with h | h
      · exact bv_one _ v h
      · simp at h
        rcases h with rfl | rfl <;> rfl
theorem OAcctRow.len {w : World} {r : List Value} {d : OAcct} (h : OAcctRow w r d) : r.length = 55 := by
  obtain ⟨A3, k3, c3, A4, k4, c4, rfl, h2, h3, h4, _⟩ := h
  simp [bv_len, h2.len, h4.len]
theorem OAcctRow.pre {w : World} {r : List Value} {d : OAcct} (h : OAcctRow w r d) : (r.drop 0).take 20 = bv d.addr := by
  obtain ⟨A3, k3, c3, A4, k4, c4, rfl, h2, _⟩ := h
  rw [List.drop_zero, List.take_append_of_le_length (by rw [bv_len, h2.len]; omega), List.take_of_length_le (by rw [bv_len, h2.len]; omega)]

structure EnvC (r : List Value) (cb : List Int) (gl : Nat) (fee : List Int) (A : Option Addr) (k c : Nat) : Prop where
  len : r.length = 120
  one : ∀ v ∈ r, v.oneCell' = true
  coin : (r.drop 0).take 20 = bv cb
  limit : r[22]? = some (.int .u64 gl)
  base : (r.drop 87).take 32 = bv fee
  hashes : r[119]? = some (.slice A k c)
  hcb : IsAddr cb
  hlimit : gl < 256 ^ 8
  hfee : IsW fee

def acctOf (o : OAcct) : YAcct := ⟨o.addr, o.nonce, beN o.bal, o.code, o.slots.map fun s => (beN s.1, beN s.2)⟩
theorem beN_zeros : beN (zeros 32) = 0 := by
  unfold beN zeros
  rw [List.reverse_replicate]
  exact val_zeros 32
theorem acctOf_zero (a : List Int) : acctOf (zeroOA a) = zeroAcct a := by
  unfold acctOf zeroOA zeroAcct
  rw [beN_zeros]
  rfl

end Go.Proofs.YgcsakGreat
