/-
  plain: an export is of the form of exports.
-/
import Derived.Test.YgcsakGreatLcD
import Derived.Test.YgcsakGreatExB
namespace Go.Proofs.YgcsakGreat
set_option linter.unusedVariables false
set_option linter.unusedSimpArgs false

theorem num_before {a b : List Int} (ha : Byt a) (hb : Byt b) (hl : a.length = b.length) (h : beN a < beN b) : beforeB a b = true := by
  cases h1 : beforeB a b with
  | true => rfl
  | false =>
    cases h2 : beforeB b a with
    | true => have := before_num b a hb ha hl.symm h2; omega
    | false =>
      have h3 := nums_inj ha hb (bl_total _ _ h1 h2)
      rw [h3] at h
      omega
theorem beN_be32 {m : Nat} (h : m < P256) : beN (be32 m) = m := be32_val m h
theorem be32_before {m n : Nat} (hm : m < P256) (hn : n < P256) (h : m < n) : beforeB (be32 m) (be32 n) = true :=
  num_before (be32_byt m) (be32_byt n) ((be32_len m).trans (be32_len n).symm) (by rw [beN_be32 hm, beN_be32 hn]; exact h)
attribute [local irreducible] be32
/-- a slot as it is exported -/
def outS (s : Nat × Nat) : List Int × List Int := (be32 s.1, be32 s.2)
theorem outS_fst (s : Nat × Nat) : (outS s).1 = be32 s.1 := rfl
theorem outS_snd (s : Nat × Nat) : (outS s).2 = be32 s.2 := rfl
theorem outA_slots (d : YAcct) : (outA d).slots = d.slots.map outS := rfl
theorem outA_bal (d : YAcct) : (outA d).bal = be32 d.bal := rfl
theorem outA_addr (d : YAcct) : (outA d).addr = d.addr := rfl
theorem outA_code (d : YAcct) : (outA d).code = d.code := rfl
theorem outA_nonce (d : YAcct) : (outA d).nonce = d.nonce := rfl
attribute [local irreducible] outS outA
theorem rise_out {d : YAcct} (h : GoodA d) : RiseO (d.slots.map outS) := by
  refine ⟨?_, fun s hs => ?_⟩
  · rw [List.pairwise_map]
    refine h.sorted.imp_of_mem ?_
    intro a b ha hb hab
    rw [outS_fst, outS_fst]
    exact be32_before (h.slots a ha).1 (h.slots b hb).1 hab
  · obtain ⟨a, ha, rfl⟩ := List.mem_map.1 hs
    rw [outS_snd, beN_be32 (h.slots a ha).2.1]
    exact (h.slots a ha).2.2
theorem outs_mem {ds : List YAcct} {o : OAcct} (h : o ∈ outs ds) : ∃ d ∈ ds, emptyY d = false ∧ o = outA d := by
  unfold outs at h
  obtain ⟨d, hd, rfl⟩ := List.mem_map.1 h
  obtain ⟨h1, h2⟩ := List.mem_filter.1 hd
  exact ⟨d, h1, by simpa using h2, rfl⟩
theorem form_outs {B : Nat} {ds : List YAcct} (h : GoodD B ds) (hB : B < P256) (hz : szA ds ≤ 900000) : FormO (outs ds) := by
  refine ⟨?_, fun o ho => ?_⟩
  · unfold outs
    rw [List.pairwise_map]
    refine (List.Pairwise.filter _ h.srt).imp ?_
    intro a b hab
    rw [outA_addr, outA_addr]
    exact hab
  · obtain ⟨d, hd, he, rfl⟩ := outs_mem ho
    have hb := sumB_mem hd
    rw [h.sum] at hb
    refine ⟨by rw [outA_slots]; exact rise_out (h.all d hd), ?_, ?_⟩
    · rw [outA_nonce, outA_bal, outA_code, beN_be32 (by omega)]
      unfold emptyY at he
      simp only [Bool.and_eq_false_iff, decide_eq_false_iff_not] at he
      rcases he with (he | he) | he
      · exact .inl he
      · exact .inr (.inl he)
      · exact .inr (.inr fun hc => he (by rw [hc]; rfl))
    · rw [outA_slots, List.length_map]
      have := szA_slots hd
      omega
theorem bals_outs : ∀ {ds : List YAcct}, (∀ d ∈ ds, d.bal < P256) → balsN (outs ds) = sumB ds
  | [], _ => rfl
  | d :: ds, h => by
    have ih := bals_outs (ds := ds) (fun y hy => h y (by simp [hy]))
    rw [sumB_cons]
    cases he : emptyY d with
    | true =>
      have e : outs (d :: ds) = outs ds := by unfold outs; rw [List.filter_cons, he]; rfl
      have hb : d.bal = 0 := by
        unfold emptyY at he
        simp only [Bool.and_eq_true, decide_eq_true_eq] at he
        exact he.1.2
      rw [e, ih]
      omega
    | false =>
      have e : outs (d :: ds) = outA d :: outs ds := by unfold outs; rw [List.filter_cons, he]; rfl
      rw [e]
      show ((outA d :: outs ds).map fun o => beN o.bal).sum = _
      rw [List.map_cons, List.sum_cons, outA_bal, beN_be32 (h d (by simp))]
      show d.bal + balsN (outs ds) = _
      omega
theorem good_bals {B : Nat} {ds : List YAcct} (h : GoodD B ds) (hB : B < P256) : balsN (outs ds) = B := by
  rw [bals_outs (fun d hd => by have := sumB_mem hd; rw [h.sum] at this; omega), h.sum]
/-- an exported account as the law asks it -/
def SoundO (o : OAcct) : Prop := o.code.length ≤ 256 ∧ (o.slots = [] ∨ o.code ≠ [] ∨ o.nonce ≠ 0)
theorem sound_outs {B : Nat} {ds : List YAcct} (h : GoodD B ds) : ∀ o ∈ outs ds, SoundO o := by
  intro o ho
  obtain ⟨d, hd, he, rfl⟩ := outs_mem ho
  have hg := h.all d hd
  refine ⟨by rw [outA_code]; exact hg.code, ?_⟩
  rw [outA_slots, outA_code, outA_nonce]
  by_cases hs : d.slots = []
  · exact .inl (by rw [hs]; rfl)
  · rcases hg.live hs with h1 | h1
    · exact .inr (.inr h1)
    · exact .inr (.inl h1)
theorem outs_len (ds : List YAcct) : (outs ds).length ≤ ds.length := by
  unfold outs
  rw [List.length_map]
  exact List.length_filter_le _ _

end Go.Proofs.YgcsakGreat
