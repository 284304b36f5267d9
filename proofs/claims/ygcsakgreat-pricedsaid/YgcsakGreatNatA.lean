/-
  Numbers as lists of bytes, the least first: plain facts; blocks of bytes that the call itself made; guards for the walk.
-/
import Derived.Test.YgcsakGreatBytes
import Derived.Deep.Draws
namespace Go.Proofs.YgcsakGreat
set_option linter.unusedVariables false
set_option linter.unusedSimpArgs false
set_option maxRecDepth 100000
open Go.RowKit

/-! ### plain -/
/-- the number of digits to the base 256, the least first -/
def val : List Int → Nat
  | [] => 0
  | d :: l => d.toNat + 256 * val l

/-- without the zeros at the top -/
def trimL : List Int → List Int
  | [] => []
  | d :: l => if d = 0 ∧ trimL l = [] then [] else d :: trimL l

/-- no zero at the top -/
def Nrm (l : List Int) : Prop := trimL l = l

theorem val_trimL : ∀ l, val (trimL l) = val l
  | [] => rfl
  | d :: l => by
    have ih := val_trimL l
    unfold trimL
    split
    · rename_i h
      rw [h.2] at ih
      simp only [val] at ih ⊢
      rw [← ih, h.1]
      rfl
    · simp only [val]
      rw [ih]

theorem trimL_len : ∀ l, (trimL l).length ≤ l.length
  | [] => Nat.le_refl _
  | d :: l => by
    have := trimL_len l
    unfold trimL
    split <;> simp
    omega

theorem trimL_idem : ∀ l, trimL (trimL l) = trimL l
  | [] => rfl
  | d :: l => by
    have ih := trimL_idem l
    by_cases h : d = 0 ∧ trimL l = []
    · have e : trimL (d :: l) = [] := by simp [trimL, h.1, h.2]
      rw [e]; rfl
    · have e : trimL (d :: l) = d :: trimL l := by simp only [trimL]; rw [if_neg h]
      rw [e]
      simp only [trimL]
      rw [ih, if_neg h]

theorem trimL_byt {l : List Int} (h : Byt l) : Byt (trimL l) := by
  induction l with
  | nil => exact h
  | cons d l ih =>
    have ih' := ih (fun x hx => h x (by simp [hx]))
    unfold trimL
    split
    · intro x hx; simp at hx
    · intro x hx
      rcases List.mem_cons.1 hx with rfl | hx
      · exact h x (by simp)
      · exact ih' x hx

/-- a prefix -/
theorem trimL_take : ∀ l, trimL l = l.take (trimL l).length
  | [] => rfl
  | d :: l => by
    have ih := trimL_take l
    by_cases h : d = 0 ∧ trimL l = []
    · simp only [trimL, if_pos h]; rfl
    · simp only [trimL, if_neg h, List.length_cons, List.take_succ_cons]
      rw [← ih]

theorem trimL_snoc_zero : ∀ l, trimL (l ++ [0]) = trimL l
  | [] => by simp [trimL]
  | d :: l => by simp only [List.cons_append, trimL]; rw [trimL_snoc_zero l]

theorem trimL_snoc : ∀ (l : List Int) (x : Int), x ≠ 0 → trimL (l ++ [x]) = l ++ [x]
  | [], x, h => by simp [trimL, h]
  | d :: l, x, h => by
    simp only [List.cons_append, trimL]
    rw [trimL_snoc l x h, if_neg (by simp)]

theorem val_lt : ∀ (l : List Int), Byt l → val l < 256 ^ l.length
  | [], _ => by simp [val]
  | d :: l, h => by
    have hd := h d (by simp)
    have := val_lt l (fun x hx => h x (by simp [hx]))
    simp only [val, List.length_cons, Nat.pow_succ]
    omega

theorem val_pos : ∀ (l : List Int), Byt l → l ≠ [] → Nrm l → 256 ^ (l.length - 1) ≤ val l
  | [], _, h, _ => absurd rfl h
  | [d], hb, _, hn => by
    have hd := hb d (by simp)
    have : d ≠ 0 := by
      intro h0
      subst h0
      simp [Nrm, trimL] at hn
    simp [val]
    omega
  | d :: e :: l, hb, _, hn => by
    have hd := hb d (by simp)
    have hn' : Nrm (e :: l) := by
      unfold Nrm at hn ⊢
      rw [trimL] at hn
      split at hn
      · cases hn
      · simpa using hn
    have ih := val_pos (e :: l) (fun x hx => hb x (by simp [hx])) (by simp) hn'
    simp only [List.length_cons, Nat.add_sub_cancel] at ih ⊢
    rw [val, Nat.pow_succ]
    omega

/-- normal digits tell the number and are told by it -/
theorem nrm_inj : ∀ (a b : List Int), Byt a → Byt b → Nrm a → Nrm b → val a = val b → a = b
  | [], [], _, _, _, _, _ => rfl
  | [], d :: l, _, hb, _, hn, h => by
    have h1 := val_pos (d :: l) hb (by simp) hn
    have h2 := Nat.pow_pos (n := (d :: l).length - 1) (show 0 < 256 by omega)
    have h3 : val [] = 0 := rfl
    omega
  | d :: l, [], hb, _, hn, _, h => by
    have h1 := val_pos (d :: l) hb (by simp) hn
    have h2 := Nat.pow_pos (n := (d :: l).length - 1) (show 0 < 256 by omega)
    have h3 : val [] = 0 := rfl
    omega
  | d :: a, e :: b, ha, hb, na, nb, h => by
    have hd := ha d (by simp)
    have he := hb e (by simp)
    simp only [val] at h
    have e1 : d = e := by omega
    have e2 : val a = val b := by omega
    have na' : Nrm a := by
      unfold Nrm at na ⊢
      rw [trimL] at na
      split at na
      · cases na
      · simpa using na
    have nb' : Nrm b := by
      unfold Nrm at nb ⊢
      rw [trimL] at nb
      split at nb
      · cases nb
      · simpa using nb
    rw [e1, nrm_inj a b (fun x hx => ha x (by simp [hx])) (fun x hx => hb x (by simp [hx])) na' nb' e2]

theorem val_append : ∀ (a b : List Int), val (a ++ b) = val a + 256 ^ a.length * val b
  | [], b => by simp [val]
  | d :: a, b => by
    simp only [List.cons_append, val, List.length_cons]
    rw [val_append a b, Nat.pow_succ, Nat.mul_add, ← Nat.mul_assoc, Nat.mul_comm 256 (256 ^ a.length)]
    omega

theorem val_zeros (n : Nat) : val (List.replicate n 0) = 0 := by
  induction n with
  | zero => rfl
  | succ n ih => rw [List.replicate_succ, val, ih]; rfl

theorem nrm_len (l : List Int) (hb : Byt l) (hn : Nrm l) (K : Nat) (h : val l < 256 ^ K) : l.length ≤ K := by
  rcases Nat.lt_or_ge K l.length with h' | h'
  · exfalso
    have hne : l ≠ [] := by intro h0; subst h0; simp at h'
    have h1 := val_pos l hb hne hn
    have h2 : 256 ^ K ≤ 256 ^ (l.length - 1) := Nat.pow_le_pow_right (by omega) (by omega)
    omega
  · exact h'

/-! ### guards: each only looks at the goal -/
section
variable {P : Program} {ops : Array Oper} {Q : Exit → Act → World → Prop} {rest : List Oper} {d : Option Tmp} {ty : TypeId} {p : String} {af : Array Edge} {g : Option (Nat × Bool)} {a : Act} {w : World}
theorem at_copy {s x : Operand} {t1 t2 : TypeId} (h : wpList P ops Q (⟨d, .call { callee := .builtin .copy, args := #[s, x], argTypes := #[t1, t2] }, ty, p, af, g⟩ :: rest) a w) :
    wpList P ops Q (⟨d, .call { callee := .builtin .copy, args := #[s, x], argTypes := #[t1, t2] }, ty, p, af, g⟩ :: rest) a w := h
end

/-! ### a block of bytes of the call's own -/
def OwnT (t : TypeId) (w : World) (g : Nat) (xs : List Int) : Prop := w.heap[g]? = some (.cells (bv xs).toArray t (0, 0))
abbrev Own (w : World) (g : Nat) (xs : List Int) : Prop := OwnT 5 w g xs

theorem bv_getD (xs : List Int) (i : Nat) (h : i < xs.length) : (bv xs).toArray[i]? = some (.int .u8 (xs.getD i 0)) := by
  simp [bv, h, List.getD]

theorem OwnT.cell {t : TypeId} {w : World} {g : Nat} {xs : List Int} (h : OwnT t w g xs) (i : Nat) (hi : i < xs.length) : w.cell? ⟨g, i, none⟩ = some (.int .u8 (xs.getD i 0)) := by
  rw [cell_of_row w g i _ _ _ h]
  exact bv_getD xs i hi
theorem OwnT.froz {t : TypeId} {w : World} {g : Nat} {xs : List Int} (h : OwnT t w g xs) (i : Nat) : w.frozen? ⟨g, i, none⟩ = false := frozen_of_row w g i _ _ h
theorem OwnT.lt {t : TypeId} {w : World} {g : Nat} {xs : List Int} (h : OwnT t w g xs) : g < w.heap.size := by
  rcases Nat.lt_or_ge g w.heap.size with h' | h'
  · exact h'
  · unfold OwnT at h; rw [Array.getElem?_eq_none h'] at h; cases h
theorem OwnT.set {t : TypeId} {w : World} {g : Nat} {xs : List Int} (h : OwnT t w g xs) (i : Nat) (v : Int) : OwnT t (w.setCell ⟨g, i, none⟩ (.int .u8 v)) g (xs.set i v) := by
  unfold OwnT
  rw [heap_setCell_same w g i _ _ _ h]
  congr 2
  simp [bv, List.map_set]
theorem OwnT.below {t : TypeId} {w w' : World} {g : Nat} {xs : List Int} (h : OwnT t w g xs) {B : Nat} (hb : Below B w w') (hg : g < B) : OwnT t w' g xs := by
  unfold OwnT
  rw [hb.block g hg]
  exact h
theorem OwnT.kept {t : TypeId} {w w' : World} {g : Nat} {xs : List Int} (h : OwnT t w g xs) (hb : Below w.heap.size w w') : OwnT t w' g xs := h.below hb h.lt
theorem OwnT.src {t : TypeId} {w : World} {g : Nat} {xs : List Int} (h : OwnT t w g xs) (hb : Byt xs) (k c : Nat) (hk : k ≤ c) (hc : c = xs.length) (hm : c ≤ maxLen) : Src w (some ⟨g, 0, none⟩) k c (xs.take k) := by
  refine ⟨by simp; omega, hk, hm, hb.take k, (fun h => by cases h), fun h0 => ⟨g, 0, rfl, fun i hi => ?_⟩⟩
  rw [Nat.zero_add, h.cell i (by omega)]
  simp [List.getD, List.getElem?_take, hi]
theorem OwnT.src_all {t : TypeId} {w : World} {g : Nat} {xs : List Int} (h : OwnT t w g xs) (hb : Byt xs) (c : Nat) (hc : c = xs.length) (hm : c ≤ maxLen) : Src w (some ⟨g, 0, none⟩) c c xs := by
  have := h.src hb c c (Nat.le_refl _) hc hm
  rwa [List.take_of_length_le (by omega)] at this

def zeros (n : Nat) : List Int := List.replicate n 0
theorem zeros_len (n : Nat) : (zeros n).length = n := by simp [zeros]
theorem zeros_byt (n : Nat) : Byt (zeros n) := by intro x hx; simp [zeros] at hx; omega

theorem own_made (w : World) (n : Nat) : Own (w.alloc (.cells (madeCells #[.int .u8 0] (n * 1)) 5)) w.heap.size (zeros n) := by
  unfold Own OwnT
  rw [heap_alloc_new]
  congr 2
  apply Array.ext'
  rw [toList_madeCells_one]
  simp [bv, zeros]

/-- 'make' of bytes: a new block of zeros -/
theorem wpList_make_bytes {w : World} {ops : Array Oper} {rest : List Oper} {o : Oper} {a : Act} {Q : Exit → Act → World → Prop}
    (hg : o.guard = none) (l c : Operand) (t : TypeId) (hop : o.op = Op.makeSlice t l c) (ht : Sakg.prog.underlying t = some (.slice 5))
    (L C : Int) (n : Nat) (hl : a.eval l = .int .i64 L) (hc : a.eval c = .int .i64 C) (hL : L = (n : Int)) (hC : C = (n : Int)) (b2 : n ≤ 281474976710656)
    (hK : ∀ w', Own w' w.heap.size (zeros n) → Below w.heap.size w w' → w'.heap.size = w.heap.size + 1 → wpList Sakg.prog ops Q rest (a.put o.dst (.slice (some ⟨w.heap.size, 0, none⟩) n n)) w') :
    wpList Sakg.prog ops Q (o :: rest) a w := by
  obtain ⟨i0, hi, hz0, hz1, hz2⟩ := info_parts Sakg.info5
  subst hL hC
  refine wpList_plain hg fun K hK' => ?_
  have hrun := run_make (P := Sakg.prog) w t 5 i0 (.int .u8 0) ht hi hz0 .i64 .i64 (n : Int) (n : Int) (by omega) (by omega) (by rw [hz2]; omega) (by omega)
  unfold Oper.wp
  simp [execOp, hop, hl, hc, hrun, Result.andThen]
  refine hK' _ _ (hK _ ?_ ((Below.refl _ _).alloc (Nat.le_refl _) _) (by simp))
  rw [hz1]
  exact own_made w n

/-- 'copy' into a whole block of bytes of the call's own, from a slice that fits -/
theorem wpList_copy_bytes {w : World} {ops : Array Oper} {rest : List Oper} {o : Oper} {a : Act} {Q : Exit → Act → World → Prop} (hgd : o.guard = none) (d s : Operand) (dT sT : TypeId)
    (ho : o.op = .call { callee := .builtin .copy, args := #[d, s], argTypes := #[dT, sT] }) (ht : Sakg.prog.underlying dT = some (.slice 5))
    (g n dc : Nat) (hd : a.eval d = .slice (some ⟨g, 0, none⟩) n dc) (zs : List Int) (hg : Own w g zs) (hz : zs.length = n)
    (ao : Option Addr) (m c : Nat) (hs : a.eval s = .slice ao m c) (xs : List Int) (hx : Src w ao m c xs) (hm : m = n)
    (h : ∀ w', Own w' g xs → (∀ B, B ≤ g → Below B w w') → w'.heap.size = w.heap.size → wpList Sakg.prog ops Q rest (a.put o.dst (.int .i64 n)) w') : wpList Sakg.prog ops Q (o :: rest) a w := by
  obtain ⟨i0, hi, hz0, hz1, hz2⟩ := info_parts Sakg.info5
  have hxl := hx.len_eq
  subst hm
  cases ao with
  | none =>
    obtain ⟨rfl, rfl⟩ := hx.nil rfl
    obtain rfl : xs = [] := List.eq_nil_of_length_eq_zero hxl
    obtain rfl : zs = [] := List.eq_nil_of_length_eq_zero hz
    refine wpList_plain hgd fun K hK => ?_
    have hrun := run_copy_nil (P := Sakg.prog) w dT sT o.type 5 ⟨g, 0, none⟩ 0 dc ht (by rw [hi]; rfl)
    unfold Oper.wp
    simp [execOp, ho, resolve, invoke, builtin, hd, hs, hrun, Result.andThen]
    exact hK _ _ (h w hg (fun B _ => Below.refl _ _) rfl)
  | some ad =>
    refine wpList_plain hgd fun K hK => ?_
    have hrun := run_copy_row (P := Sakg.prog) w dT sT o.type 5 g 0 m dc ad m c (bv zs).toArray 5 (bv xs) ht (by rw [hi]; simp [hz1]) hg (by rw [bv_len, hxl]; exact (Nat.min_self m).symm) (by
      intro j u hj
      obtain ⟨hlt, rfl⟩ := bv_get xs j u hj
      obtain ⟨b, off, ha, hc⟩ := hx.at_ (by omega)
      obtain rfl := Option.some.inj ha
      rw [addAt]
      exact hc j (by omega)) (by simp [bv_len]; omega) (bv_one xs)
    have e : ((bv zs).toArray.toList.take 0 ++ bv xs ++ (bv zs).toArray.toList.drop (0 + (bv xs).length)) = bv xs := by
      rw [List.drop_eq_nil_of_le (by simp [bv_len]; omega)]
      simp
    rw [e] at hrun
    have h1 : Own (w.setRow g (bv xs).toArray) g xs := setRow_heap w g _ _ _ _ hg
    have h2 : ∀ B, B ≤ g → Below B w (w.setRow g (bv xs).toArray) := fun B hB => ⟨rfl, rfl, rfl, by simp, fun k hk => setRow_other w g k _ (by omega)⟩
    have hk := h _ h1 h2 (by simp)
    unfold Oper.wp
    simp [execOp, ho, resolve, invoke, builtin, hd, hs, hrun, Result.andThen, bv_len, hxl]
    exact hK _ _ hk

end Go.Proofs.YgcsakGreat
