/-
  the rows of the great seat: what an argument's reading gives.
-/
import Derived.Test.YgcsakGreatLbN
import Derived.Test.YgcsakGreatLbA
import Derived.OpenShut
import Derived.ChangeOld
import Derived.SizedLaws
import Derived.Deep.Slices
namespace Go.Proofs.YgcsakGreat
open Go.ChangeShapes Go.WideShapes Go.RowKit Go.Deep
set_option linter.unusedVariables false
set_option linter.unusedSimpArgs false
set_option maxRecDepth 100000

theorem each_small {w : World} : ∀ {rows : List (List Value)} {ds : List OAcct}, Each (OAcctRow w) rows ds → Small ds
  | [], [], _ => fun o ho => by cases ho
  | r :: rs, d :: ds, h => fun o ho => by
    rcases List.mem_cons.1 ho with rfl | ho
    · obtain ⟨A3, k3, c3, A4, k4, c4, -, h2, h3, h4, -, rows, -, h6⟩ := h.1
      refine ⟨h2, h3, h4, fun s hs => ?_⟩
      exact each_words h6 s hs
    · exact each_small h.2 o ho
  | [], _ :: _, h => h.elim
  | _ :: _, [], h => h.elim
where each_words : ∀ {rows : List (List Value)} {ss : List (List Int × List Int)}, Each OSlotRow rows ss → ∀ s ∈ ss, IsW s.1 ∧ IsW s.2
  | [], [], _ => fun s hs => by cases hs
  | r :: rs, x :: xs, h => fun s hs => by
    rcases List.mem_cons.1 hs with rfl | hs
    · exact ⟨h.1.2.1, h.1.2.2⟩
    · exact each_words h.2 s hs
  | [], _ :: _, h => h.elim
  | _ :: _, [], h => h.elim

section
variable {H : Type} {enc : TypeId × Value → H} {W : World}

/-- a reading of old memory -/
noncomputable abbrev rd (enc : TypeId × Value → H) (W : World) (n : Nat) (t : TypeId) (cs : List Value) : Option (DataW H × List MemPlace) := DataW.trod enc Sakg.prog W 0 (fun _ => true) true n t cs
/-- within the form's reach -/
def Light (t : TypeId) (d : DataW H) : Prop := ∀ z ∈ d.weights Sakg.prog t, z ≤ reachBytes

theorem rd_arr {n : Nat} {t e : TypeId} {m : Nat} {cs : List Value} {x : DataW H × List MemPlace} (ht : Sakg.prog.underlying t = some (.array m e)) (he : Sakg.prog.underlying e = some (.int .u8)) (hc : Sakg.prog.cellsOf e = 1) (hm : Sakg.prog.cellsOf t = m) (h : rd enc W n t cs = some x) : ∃ xs, cs = bv xs ∧ xs.length = m ∧ Byt xs := by
  cases n with
  | zero => simp [rd, DataW.trod] at h
  | succ k =>
    unfold rd DataW.trod at h
    rw [ht] at h
    simp only [hc, hm] at h
    split at h
    case isFalse => cases h
    case isTrue hl =>
      simp only [Option.map_eq_some_iff] at h
      obtain ⟨ys, hy, _⟩ := h
      have hyl := mapM_some_length hy
      rw [List.length_range] at hyl
      have hg : ∀ i, i < m → ∃ z : Int, cs[i]? = some (.int .u8 z) ∧ 0 ≤ z ∧ z ≤ 255 := fun i hi => by
        have h1 := mapM_some_get hy i i (by simp [hi])
        rw [List.getElem?_eq_getElem (by omega)] at h1
        obtain ⟨z, hz, _, hw⟩ := DataW.trod_int he h1
        have h2 : cs[i]? = some (.int .u8 z) := by
          have h3 : ((cs.drop (i * 1)).take 1)[0]? = some (.int .u8 z) := by rw [hz]; rfl
          rw [List.getElem?_take, if_pos (by omega), List.getElem?_drop, Nat.mul_one, Nat.add_zero] at h3
          exact h3
        exact ⟨z, h2, bounds_u8 hw⟩
      obtain ⟨f, hf⟩ := choose_lt hg
      refine ⟨(List.range m).map f, ?_, by simp, ?_⟩
      · apply List.ext_getElem?
        intro i
        by_cases hi : i < m
        · rw [(hf i hi).1]
          simp [bv, hi]
        · rw [List.getElem?_eq_none (by omega), List.getElem?_eq_none (by simp [bv]; omega)]
      · intro z hz
        obtain ⟨i, hi, rfl⟩ := List.mem_map.1 hz
        exact (hf i (List.mem_range.1 hi)).2

theorem cellsAddr : Sakg.prog.cellsOf 26 = 20 := by kernel_rfl
theorem cellsW : Sakg.prog.cellsOf 29 = 32 := by kernel_rfl
theorem cellsU8 : Sakg.prog.cellsOf 5 = 1 := by kernel_rfl
theorem rd_addr {n : Nat} {cs : List Value} {x : DataW H × List MemPlace} (h : rd enc W n 26 cs = some x) : ∃ a, cs = bv a ∧ IsAddr a := by
  obtain ⟨a, h1, h2, h3⟩ := rd_arr Sakg.underlying26 Sakg.underlying5 cellsU8 cellsAddr h
  exact ⟨a, h1, ⟨h2, h3⟩⟩
theorem rd_w {n : Nat} {cs : List Value} {x : DataW H × List MemPlace} (h : rd enc W n 29 cs = some x) : ∃ a, cs = bv a ∧ IsW a := by
  obtain ⟨a, h1, h2, h3⟩ := rd_arr Sakg.underlying29 Sakg.underlying5 cellsU8 cellsW h
  exact ⟨a, h1, ⟨h2, h3⟩⟩
theorem rd_u64 {n : Nat} {cs : List Value} {x : DataW H × List MemPlace} (h : rd enc W n 27 cs = some x) : ∃ k : Nat, cs = [.int .u64 k] ∧ k < 256 ^ 8 := by
  obtain ⟨z, h1, _, h3⟩ := DataW.trod_int Sakg.underlying27 h
  have h4 := bounds_u64 h3
  refine ⟨z.toNat, by rw [h1]; congr 2; omega, by omega⟩
theorem rd_bool {n : Nat} {cs : List Value} {x : DataW H × List MemPlace} (h : rd enc W n 4 cs = some x) : ∃ b, cs = [.bool b] := by
  obtain ⟨b, h1, _⟩ := DataW.trod_bool Sakg.underlying4 h
  exact ⟨b, h1⟩
theorem rd_bytes {n : Nat} {cs : List Value} {x : DataW H × List MemPlace} (h : rd enc W n 30 cs = some x) : ∃ A k c zs, cs = [.slice A k c] ∧ Src W A k c zs := by
  rcases open_ints Sakg.underlying30 Sakg.underlying5 cellsU8 h with ⟨hcs, _⟩ | ⟨a, len, cap, zs, hcs, _, hl, hm, hz, _, hcell, hwz⟩
  · exact ⟨none, 0, 0, [], hcs, Src.ofNil W⟩
  · have hzl : zs.length = cap := by simpa using hz
    refine ⟨some a, len, cap, zs.take len, hcs, by simp; omega, hl, hm, ?_, (fun h => by cases h), fun h0 => ?_⟩
    · intro y hy
      have := bounds_u8 (hwz y (List.mem_of_mem_take hy))
      omega
    · obtain ⟨b, off, spot⟩ := a
      have hspot : spot = none := by simpa [Addr.add] using World.cell?_spot (hcell 0 (by omega))
      subst hspot
      refine ⟨b, off, rfl, fun i hi => ?_⟩
      have := hcell i (by omega)
      rw [addAt] at this
      rw [this, List.getD_eq_getElem?_getD, List.getD_eq_getElem?_getD, List.getElem?_take, if_pos hi]

theorem weightsAll_mem {P : Program} {e : TypeId} : ∀ {l : List (DataW H)} {d : DataW H}, d ∈ l → ∀ n ∈ d.weights P e, n ∈ DataW.weightsAll P e l
  | x :: xs, d, h, n, hn => by
    simp only [DataW.weightsAll, List.mem_append]
    rcases List.mem_cons.1 h with rfl | h
    · exact Or.inl hn
    · exact Or.inr (weightsAll_mem h n hn)

theorem each_of {α : Type} {R : List Value → α → Prop} : ∀ (n : Nat) (f : Nat → List Value) (g : Nat → α), (∀ i, i < n → R (f i) (g i)) → Each R ((List.range n).map f) ((List.range n).map g)
  | 0, _, _, _ => trivial
  | n + 1, f, g, h => by
    rw [List.range_succ, List.map_append, List.map_append]
    exact (each_of n f g (fun i hi => h i (by omega))).snoc (h n (by omega))

/-- a slice of rows -/
theorem rd_rows {α : Type} [Inhabited α] {R : List Value → α → Prop} {n : Nat} {t e : TypeId} {sz by_ : Nat} {cs : List Value} {d : DataW H} {ps : List MemPlace} (ht : Sakg.prog.underlying t = some (.slice e)) (hc : Sakg.prog.cellsOf e = sz) (hs : 0 < sz) (hb : Sakg.prog.bytesOf e = by_)
    (h : rd enc W n t cs = some (d, ps)) (hw : Light t d) (hR : ∀ (k : Nat) (cs' : List Value) (d' : DataW H) (ps' : List MemPlace), rd enc W k e cs' = some (d', ps') → Light e d' → cs'.length = sz → ∃ a, R cs' a) :
    ∃ A l c rows xs, cs = [.slice A l c] ∧ Rws W sz A l c rows ∧ Each R rows xs ∧ l * by_ ≤ reachBytes := by
  rcases open_slice ht h with ⟨h1, h2⟩ | ⟨a, len, cap, m, k, D, Pl, h1, h2, h3, h4, h5, h6, h7⟩
  · exact ⟨none, 0, 0, [], [], h1, Rws.ofNil W sz, trivial, by simp⟩
  · have hmc : m = cap := by rw [h5]; simp
    rw [hc] at h7
    have hel : ∀ i, i < len → ∃ r : List Value, (W.cells? 0 (a.add (i * sz)) sz = some r) ∧ (∃ x, R r x) := fun i hi => by
      obtain ⟨cs', g1, g2⟩ := h7 i (by omega)
      refine ⟨cs', g1, hR k cs' (D i) (Pl i) g2 ?_ (World.cells?_some g1).2.1⟩
      intro z hz
      refine hw z ?_
      have h6' := congrArg Prod.fst h6
      simp only at h6'
      rw [h6']
      simp only [DataW.weights, ht, List.mem_cons, List.mem_append]
      exact Or.inr (Or.inl (weightsAll_mem (List.mem_map.2 ⟨i, List.mem_range.2 hi, rfl⟩) z hz))
    obtain ⟨f, hf⟩ := choose_lt hel
    obtain ⟨g, hg⟩ := choose_lt (n := len) (p := fun i x => R (f i) x) (fun i hi => (hf i hi).2)
    have hlw : len * by_ ≤ reachBytes := by
      have h6' := congrArg Prod.fst h6
      simp only at h6'
      have h8 := hw ((((List.range len).map D).length + ((List.range (m - len)).map fun j => D (len + j)).length) * by_) (by
        rw [h6']
        simp only [DataW.weights, ht, hb, List.mem_cons]
        exact Or.inl trivial)
      refine Nat.le_trans (Nat.mul_le_mul_right _ ?_) h8
      simp
    refine ⟨some a, len, cap, (List.range len).map f, (List.range len).map g, h1, ⟨by simp, h3, h4, ?_, (fun h => by cases h), fun h0 => ?_⟩, each_of len f g hg, hlw⟩
    · intro r hr
      obtain ⟨i, hi, rfl⟩ := List.mem_map.1 hr
      exact (World.cells?_some (hf i (List.mem_range.1 hi)).1).2.1
    · have hcells : ∀ i, i < len → ∀ j, j < sz → W.cell? (a.add (i * sz + j)) = (f i)[j]? := fun i hi j hj => by
        have := (World.cells?_some (hf i hi).1).2.2 j hj
        rwa [Go.Deep.add_add] at this
      have hlen : ∀ i, i < len → (f i).length = sz := fun i hi => (World.cells?_some (hf i hi).1).2.1
      obtain ⟨b, off, spot⟩ := a
      have h00 := hcells 0 h0 0 hs
      rw [List.getElem?_eq_getElem (by rw [hlen 0 h0]; exact hs)] at h00
      have hspot : spot = none := by simpa [Addr.add] using World.cell?_spot h00
      subst hspot
      have hbl : b < W.heap.size := by
        have := World.cells?_block (hf 0 h0).1 hs
        simpa [Addr.add] using this
      refine ⟨b, off, rfl, hbl, fun i hi j v hv => ?_⟩
      have hfi : ((List.range len).map f).getD i [] = f i := by simp [List.getD, hi]
      rw [hfi] at hv
      have hj : j < sz := by
        rcases Nat.lt_or_ge j (f i).length with h' | h'
        · rw [hlen i hi] at h'; exact h'
        · rw [List.getElem?_eq_none h'] at hv; cases hv
      have := hcells i hi j hj
      rw [addAt, hv] at this
      rw [Nat.add_assoc]
      exact this

/-- a field of a struct -/
theorem rd_field {n : Nat} {t : TypeId} {cs : List Value} {d : DataW H} {ps : List MemPlace} {i off m : Nat} {ft : TypeId} (hf : FieldAt t i off ft) (hm : Sakg.prog.cellsOf ft = m) (h : rd enc W n t cs = some (d, ps)) (hw : Light t d) :
    ∃ k d' ps', rd enc W k ft ((cs.drop off).take m) = some (d', ps') ∧ Light ft d' ∧ cs.length = Sakg.prog.cellsOf t := by
  obtain ⟨xs, k, _, h2, h3, h4, h5⟩ := DataW.trod_struct hf.1 h
  obtain ⟨f, hf1, hf2⟩ := Option.map_eq_some_iff.1 hf.2
  obtain ⟨e1, e2⟩ := Prod.mk.inj hf2
  have h6 := h5 i f hf1
  have hil : i < (Sakg.prog.fieldsOf t).size := by
    rcases Nat.lt_or_ge i (Sakg.prog.fieldsOf t).size with h' | h'
    · exact h'
    · rw [Array.getElem?_eq_none h'] at hf1; cases hf1
  rw [List.getElem?_eq_getElem (by omega), e1, e2, hm] at h6
  refine ⟨k, xs[i].1, xs[i].2, h6, ?_, h3⟩
  intro z hz
  refine hw z ?_
  have h2' := congrArg Prod.fst h2
  simp only at h2'
  rw [h2']
  simp only [DataW.weights, hf.1]
  refine DataW.weights_mem_each (j := i) (t := ft) (d := xs[i].1) ?_ ?_ z hz
  · rw [List.getElem?_map, Array.getElem?_toList, hf1]
    simp [e1]
  · rw [List.getElem?_map, List.getElem?_eq_getElem (by omega)]
    rfl

end
end Go.Proofs.YgcsakGreat
