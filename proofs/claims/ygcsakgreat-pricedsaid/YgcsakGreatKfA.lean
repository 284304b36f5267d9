/-
  frames in memory: their data, as they last; bytes that stay bytes.
-/
import Derived.Test.YgcsakGreatKsH
namespace Go.Proofs.YgcsakGreat
set_option linter.unusedVariables false
set_option linter.unusedSimpArgs false
set_option maxRecDepth 100000
open Go.RowKit

theorem _root_.Go.RowKit.Below.thn {a b c : World} (h : Below a.heap.size a b) (k : Below b.heap.size b c) : Below a.heap.size a c := h.trans (k.mono h.size)
/-- a block of n bytes -/
def MB (w : World) (g n : Nat) : Prop := ∃ xs : List Int, OwnT 5 w g xs ∧ xs.length = n ∧ Byt xs
theorem MB.lt {w : World} {g n : Nat} (h : MB w g n) : g < w.heap.size := by
  obtain ⟨xs, h1, _⟩ := h
  exact RowT.lt (t := 5) (cs := bv xs) h1
theorem MB.eq {w w' : World} {g n : Nat} (h : MB w g n) (he : w'.heap[g]? = w.heap[g]?) : MB w' g n := by
  obtain ⟨xs, h1, h2, h3⟩ := h
  refine ⟨xs, ?_, h2, h3⟩
  unfold OwnT at h1 ⊢
  rw [he]; exact h1
/-- bytes stay bytes, and a receipt's block stays as it is -/
structure Tm (w w' : World) : Prop where
  mb : ∀ g n, MB w g n → MB w' g n
  rc : ∀ g cs, RowT 48 w g cs → RowT 48 w' g cs
theorem Tm.refl (w : World) : Tm w w := ⟨fun _ _ h => h, fun _ _ h => h⟩
theorem Tm.trans {a b c : World} (h : Tm a b) (k : Tm b c) : Tm a c := ⟨fun g n hm => k.mb g n (h.mb g n hm), fun g cs hr => k.rc g cs (h.rc g cs hr)⟩
theorem Tm.of {w w' : World} (h : Below w.heap.size w w') : Tm w w' := ⟨fun g n hm => hm.eq (h.block g hm.lt), fun _ _ hr => hr.kept h⟩
/-- a move of the world: of the blocks that were there none but those of G has turned, and bytes are bytes -/
structure Mv (G : Nat → Prop) (w w' : World) : Prop where
  chg : ChgS G w w'
  tm : Tm w w'
  lg : ∀ g cs, RowT 311 w g cs → RowT 311 w' g cs
theorem Mv.refl (G : Nat → Prop) (w : World) : Mv G w w := ⟨ChgS.refl _ _, Tm.refl _, fun _ _ h => h⟩
theorem Mv.trans {G : Nat → Prop} {a b c : World} (h : Mv G a b) (k : Mv G b c) : Mv G a c := ⟨h.chg.trans k.chg, h.tm.trans k.tm, fun g cs hr => k.lg g cs (h.lg g cs hr)⟩
theorem Mv.of {G : Nat → Prop} {w w' : World} (h : Below w.heap.size w w') : Mv G w w' := ⟨ChgS.of h, Tm.of h, fun _ _ hr => hr.kept h⟩
theorem Mv.size {G : Nat → Prop} {w w' : World} (h : Mv G w w') : w.heap.size ≤ w'.heap.size := h.chg.size
theorem not_bytes {T : TypeId} {w : World} {b : Nat} {cs : List Value} (hT : T ≠ 5) (h : RowT T w b cs) (n : Nat) : ¬ MB w b n := by
  rintro ⟨xs, h1, -, -⟩
  unfold RowT at h
  unfold OwnT at h1
  rw [h] at h1
  simp only [Option.some.injEq] at h1
  injection h1 with k1 k2 k3
  exact hT k2
theorem RowT.types {T T' : TypeId} {w : World} {b : Nat} {cs cs' : List Value} (h : RowT T w b cs) (k : RowT T' w b cs') : T = T' := by
  unfold RowT at h k
  rw [h] at k
  simp only [Option.some.injEq] at k
  injection k with k1 k2 k3
theorem Tm.chg {T : TypeId} {w w' : World} {b : Nat} {cs : List Value} (hT : T ≠ 5 ∧ T ≠ 48) (h : RowT T w b cs) (hc : Chg b w w') : Tm w w' := ⟨fun g n hm => by
  by_cases hg : g = b
  · subst hg; exact absurd hm (not_bytes hT.1 h n)
  · exact hm.eq (hc.block g hm.lt hg), fun g cs hr => by
  by_cases hg : g = b
  · subst hg; exact absurd (h.types hr) hT.2
  · exact hc.row hr hg⟩
theorem Tm.only {T : TypeId} {w w' : World} {b : Nat} {cs : List Value} (hT : T ≠ 5 ∧ T ≠ 48) (h : RowT T w b cs) (hc : Only b w w') : Tm w w' := Tm.chg hT h (Chg.ofOnly hc)
theorem chg_log {T : TypeId} {w w' : World} {b : Nat} {cs : List Value} (hT : T ≠ 311) (h : RowT T w b cs) (hc : Chg b w w') : ∀ g cs, RowT 311 w g cs → RowT 311 w' g cs := fun g cs hr => by
  by_cases hg : g = b
  · subst hg; exact absurd (h.types hr) hT
  · exact hc.row hr hg
theorem Mv.chain {G : Nat → Prop} {w w' : World} {b : Nat} {cs : List Value} (h : RowT 107 w b cs) (hg : G b) (hc : Chg b w w') : Mv G w w' := ⟨ChgS.chg hc hg, Tm.chg (by decide) h hc, chg_log (by decide) h hc⟩
theorem Mv.frame {G : Nat → Prop} {w w' : World} {b : Nat} {cs : List Value} (h : RowT 194 w b cs) (hg : G b) (hc : Chg b w w') : Mv G w w' := ⟨ChgS.chg hc hg, Tm.chg (by decide) h hc, chg_log (by decide) h hc⟩
theorem Mv.mem {G : Nat → Prop} {w w' : World} {b n : Nat} (hg : G b) (hc : Only b w w') (h0 : MB w b n) (hb : ∀ k, MB w b k → MB w' b k) : Mv G w w' := ⟨ChgS.only hc hg, ⟨fun g n hm => by
  by_cases he : g = b
  · subst he; exact hb n hm
  · exact hm.eq (hc.block g he), fun g cs hr => by
  by_cases he : g = b
  · subst he; exact absurd h0 (not_bytes (by decide) hr n)
  · exact hr.only hc he⟩, fun g cs hr => by
  by_cases he : g = b
  · subst he; exact absurd h0 (not_bytes (by decide) hr n)
  · exact hr.only hc he⟩
theorem Mv.wide {G G' : Nat → Prop} {w w' : World} (h : Mv G w w') (hG : ∀ k, G k → G' k) : Mv G' w w' := ⟨h.chg.mono hG, h.tm, h.lg⟩
/-- one after the other, under a set that has grown by new blocks -/
theorem Mv.then {G G' : Nat → Prop} {a b c : World} (h : Mv G a b) (k : Mv G' b c) (hG : ∀ i, G' i → i < a.heap.size → G i) : Mv G a c := ⟨h.chg.then k.chg hG, h.tm.trans k.tm, fun g cs hr => k.lg g cs (h.lg g cs hr)⟩

/-- a frame's memory: only its length is told -/
def KMem (G : Nat → Prop) (w : World) (A : Option Addr) (k c : Nat) : Prop := (A = none ∧ k = 0 ∧ c = 0) ∨ ∃ g, A = some ⟨g, 0, none⟩ ∧ c = k ∧ MB w g k ∧ G g
theorem KMem.nil (G : Nat → Prop) (w : World) : KMem G w none 0 0 := .inl ⟨rfl, rfl, rfl⟩
theorem KMem.go {G : Nat → Prop} {w w' : World} {A : Option Addr} {k c : Nat} (h : KMem G w A k c) (ht : Tm w w') : KMem G w' A k c := by
  rcases h with h | ⟨g, h1, h2, h3, h4⟩
  · exact .inl h
  · exact .inr ⟨g, h1, h2, ht.mb _ _ h3, h4⟩
theorem KMem.wide {G G' : Nat → Prop} {w : World} {A : Option Addr} {k c : Nat} (h : KMem G w A k c) (hG : ∀ i, G i → G' i) : KMem G' w A k c := by
  rcases h with h | ⟨g, h1, h2, h3, h4⟩
  · exact .inl h
  · exact .inr ⟨g, h1, h2, h3, hG _ h4⟩
theorem KMem.src {G : Nat → Prop} {w : World} {A : Option Addr} {k c : Nat} (h : KMem G w A k c) (hk : k ≤ 1000000) : ∃ xs, Src w A k c xs := by
  rcases h with ⟨rfl, rfl, rfl⟩ | ⟨g, rfl, rfl, ⟨xs, h1, h2, h3⟩, h4⟩
  · exact ⟨[], Src.ofNil w⟩
  · exact ⟨xs, h1.src_all h3 _ h2.symm (by unfold maxLen; omega)⟩

/-- a frame, plainly -/
structure FD where
  kind : Nat
  native : Nat
  static : Bool
  pc : Nat
  gas : Nat
  value : Nat
  outOff : Nat
  outLen : Nat
  stk : List Nat
  ml : Nat
  code : List Int
  input : List Int
  self : List Int
  caller : List Int
  saved : WD

/-- a frame's sixty cells -/
structure KF (G : Nat → Prop) (c : Nat → Option Value) (f : FD) (w : World) : Prop where
  kind : c 0 = some (.int .u8 f.kind)
  native : c 1 = some (.int .u8 f.native)
  static : c 2 = some (.bool f.static)
  pc : ∃ A k n, c 3 = some (.slice A k n) ∧ KNat G w A k n f.pc
  gas : ∃ A k n, c 4 = some (.slice A k n) ∧ KNat G w A k n f.gas
  value : ∃ A k n, c 5 = some (.slice A k n) ∧ KNat G w A k n f.value
  outOff : ∃ A k n, c 6 = some (.slice A k n) ∧ KNat G w A k n f.outOff
  outLen : ∃ A k n, c 7 = some (.slice A k n) ∧ KNat G w A k n f.outLen
  stk : ∃ A k n, c 8 = some (.slice A k n) ∧ SStk G w A k n f.stk
  mem : ∃ A n, c 9 = some (.slice A f.ml n) ∧ KMem G w A f.ml n
  code : ∃ A k n, c 10 = some (.slice A k n) ∧ KSrc G w A k n f.code
  input : ∃ A k n, c 11 = some (.slice A k n) ∧ KSrc G w A k n f.input
  self : ∀ i, i < 20 → c (12 + i) = (bv f.self)[i]?
  caller : ∀ i, i < 20 → c (32 + i) = (bv f.caller)[i]?
  selfA : IsAddr f.self
  callerA : IsAddr f.caller
  saved : ∃ r, Slices 8 r ∧ (∀ i, i < 8 → c (52 + i) = r[i]?) ∧ KW G r f.saved w
section
variable {G G' : Nat → Prop} {c c' : Nat → Option Value} {f : FD} {w w' : World}
theorem KF.go (h : KF G c f w) (hm : Mv G w w') : KF G c f w' := by
  obtain ⟨h0, h1, h2, ⟨A3, k3, n3, e3, h3⟩, ⟨A4, k4, n4, e4, h4⟩, ⟨A5, k5, n5, e5, h5⟩, ⟨A6, k6, n6, e6, h6⟩, ⟨A7, k7, n7, e7, h7⟩, ⟨A8, k8, n8, e8, h8⟩, ⟨A9, n9, e9, h9⟩, ⟨A10, k10, n10, e10, h10⟩, ⟨A11, k11, n11, e11, h11⟩, h12, h13, h14, h15, ⟨r, r1, r2, r3⟩⟩ := h
  exact ⟨h0, h1, h2, ⟨A3, k3, n3, e3, h3.kp hm.chg⟩, ⟨A4, k4, n4, e4, h4.kp hm.chg⟩, ⟨A5, k5, n5, e5, h5.kp hm.chg⟩, ⟨A6, k6, n6, e6, h6.kp hm.chg⟩, ⟨A7, k7, n7, e7, h7.kp hm.chg⟩, ⟨A8, k8, n8, e8, h8.go hm.chg⟩, ⟨A9, n9, e9, h9.go hm.tm⟩, ⟨A10, k10, n10, e10, h10.kp hm.chg⟩, ⟨A11, k11, n11, e11, h11.kp hm.chg⟩, h12, h13, h14, h15, ⟨r, r1, r2, r3.go hm.chg⟩⟩
theorem SStk.to {ao : Option Addr} {l n : Nat} {stk : List Nat} (h : SStk G w ao l n stk) (hs : ∀ i, G' i → i < w.heap.size → G i) : SStk G' w ao l n stk := by
  obtain ⟨rows, h1, h2⟩ := h
  refine ⟨rows, h1.to hs, h2.imp fun _ _ h => ?_⟩
  obtain ⟨A, k, c, e1, e2⟩ := h
  exact ⟨A, k, c, e1, e2.to hs⟩
/-- under a set that has grown by new blocks -/
theorem KF.to (h : KF G c f w) (hs : ∀ i, G' i → i < w.heap.size → G i) (hG : ∀ i, G i → G' i) : KF G' c f w := by
  obtain ⟨h0, h1, h2, ⟨A3, k3, n3, e3, h3⟩, ⟨A4, k4, n4, e4, h4⟩, ⟨A5, k5, n5, e5, h5⟩, ⟨A6, k6, n6, e6, h6⟩, ⟨A7, k7, n7, e7, h7⟩, ⟨A8, k8, n8, e8, h8⟩, ⟨A9, n9, e9, h9⟩, ⟨A10, k10, n10, e10, h10⟩, ⟨A11, k11, n11, e11, h11⟩, h12, h13, h14, h15, ⟨r, r1, r2, r3⟩⟩ := h
  exact ⟨h0, h1, h2, ⟨A3, k3, n3, e3, h3.to hs⟩, ⟨A4, k4, n4, e4, h4.to hs⟩, ⟨A5, k5, n5, e5, h5.to hs⟩, ⟨A6, k6, n6, e6, h6.to hs⟩, ⟨A7, k7, n7, e7, h7.to hs⟩, ⟨A8, k8, n8, e8, h8.to hs⟩, ⟨A9, n9, e9, h9.wide hG⟩, ⟨A10, k10, n10, e10, h10.to hs⟩, ⟨A11, k11, n11, e11, h11.to hs⟩, h12, h13, h14, h15, ⟨r, r1, r2, r3.to hs⟩⟩
/-- the same cells -/
theorem KF.eq (h : KF G c f w) (he : ∀ i, i < 60 → c' i = c i) : KF G c' f w := by
  obtain ⟨h0, h1, h2, ⟨A3, k3, n3, e3, h3⟩, ⟨A4, k4, n4, e4, h4⟩, ⟨A5, k5, n5, e5, h5⟩, ⟨A6, k6, n6, e6, h6⟩, ⟨A7, k7, n7, e7, h7⟩, ⟨A8, k8, n8, e8, h8⟩, ⟨A9, n9, e9, h9⟩, ⟨A10, k10, n10, e10, h10⟩, ⟨A11, k11, n11, e11, h11⟩, h12, h13, h14, h15, ⟨r, r1, r2, r3⟩⟩ := h
  exact ⟨(he 0 (by omega)).trans h0, (he 1 (by omega)).trans h1, (he 2 (by omega)).trans h2, ⟨A3, k3, n3, (he 3 (by omega)).trans e3, h3⟩, ⟨A4, k4, n4, (he 4 (by omega)).trans e4, h4⟩, ⟨A5, k5, n5, (he 5 (by omega)).trans e5, h5⟩, ⟨A6, k6, n6, (he 6 (by omega)).trans e6, h6⟩, ⟨A7, k7, n7, (he 7 (by omega)).trans e7, h7⟩, ⟨A8, k8, n8, (he 8 (by omega)).trans e8, h8⟩, ⟨A9, n9, (he 9 (by omega)).trans e9, h9⟩, ⟨A10, k10, n10, (he 10 (by omega)).trans e10, h10⟩, ⟨A11, k11, n11, (he 11 (by omega)).trans e11, h11⟩, fun i hi => (he (12 + i) (by omega)).trans (h12 i hi), fun i hi => (he (32 + i) (by omega)).trans (h13 i hi), h14, h15, ⟨r, r1, fun i hi => (he (52 + i) (by omega)).trans (r2 i hi), r3⟩⟩
/-- one cell turned -/
def upd (c : Nat → Option Value) (j : Nat) (v : Value) : Nat → Option Value := fun i => if i = j then some v else c i
theorem upd_same (c : Nat → Option Value) (j : Nat) (v : Value) : upd c j v j = some v := if_pos rfl
theorem upd_ne {c : Nat → Option Value} {j : Nat} {v : Value} {i : Nat} (h : i ≠ j) : upd c j v i = c i := if_neg h
theorem KF.setPc (h : KF G c f w) {A : Option Addr} {k n m : Nat} (hn : KNat G w A k n m) : KF G (upd c 3 (.slice A k n)) { f with pc := m } w := by
  obtain ⟨h0, h1, h2, ⟨A3, k3, n3, e3, h3⟩, ⟨A4, k4, n4, e4, h4⟩, ⟨A5, k5, n5, e5, h5⟩, ⟨A6, k6, n6, e6, h6⟩, ⟨A7, k7, n7, e7, h7⟩, ⟨A8, k8, n8, e8, h8⟩, ⟨A9, n9, e9, h9⟩, ⟨A10, k10, n10, e10, h10⟩, ⟨A11, k11, n11, e11, h11⟩, h12, h13, h14, h15, ⟨r, r1, r2, r3⟩⟩ := h
  exact ⟨(upd_ne (by omega)).trans h0, (upd_ne (by omega)).trans h1, (upd_ne (by omega)).trans h2, ⟨A, k, n, upd_same _ _ _, hn⟩, ⟨A4, k4, n4, (upd_ne (by omega)).trans e4, h4⟩, ⟨A5, k5, n5, (upd_ne (by omega)).trans e5, h5⟩, ⟨A6, k6, n6, (upd_ne (by omega)).trans e6, h6⟩, ⟨A7, k7, n7, (upd_ne (by omega)).trans e7, h7⟩, ⟨A8, k8, n8, (upd_ne (by omega)).trans e8, h8⟩, ⟨A9, n9, (upd_ne (by omega)).trans e9, h9⟩, ⟨A10, k10, n10, (upd_ne (by omega)).trans e10, h10⟩, ⟨A11, k11, n11, (upd_ne (by omega)).trans e11, h11⟩, fun i hi => (upd_ne (by omega)).trans (h12 i hi), fun i hi => (upd_ne (by omega)).trans (h13 i hi), h14, h15, ⟨r, r1, fun i hi => (upd_ne (by omega)).trans (r2 i hi), r3⟩⟩
theorem KF.setGas (h : KF G c f w) {A : Option Addr} {k n m : Nat} (hn : KNat G w A k n m) : KF G (upd c 4 (.slice A k n)) { f with gas := m } w := by
  obtain ⟨h0, h1, h2, ⟨A3, k3, n3, e3, h3⟩, ⟨A4, k4, n4, e4, h4⟩, ⟨A5, k5, n5, e5, h5⟩, ⟨A6, k6, n6, e6, h6⟩, ⟨A7, k7, n7, e7, h7⟩, ⟨A8, k8, n8, e8, h8⟩, ⟨A9, n9, e9, h9⟩, ⟨A10, k10, n10, e10, h10⟩, ⟨A11, k11, n11, e11, h11⟩, h12, h13, h14, h15, ⟨r, r1, r2, r3⟩⟩ := h
  exact ⟨(upd_ne (by omega)).trans h0, (upd_ne (by omega)).trans h1, (upd_ne (by omega)).trans h2, ⟨A3, k3, n3, (upd_ne (by omega)).trans e3, h3⟩, ⟨A, k, n, upd_same _ _ _, hn⟩, ⟨A5, k5, n5, (upd_ne (by omega)).trans e5, h5⟩, ⟨A6, k6, n6, (upd_ne (by omega)).trans e6, h6⟩, ⟨A7, k7, n7, (upd_ne (by omega)).trans e7, h7⟩, ⟨A8, k8, n8, (upd_ne (by omega)).trans e8, h8⟩, ⟨A9, n9, (upd_ne (by omega)).trans e9, h9⟩, ⟨A10, k10, n10, (upd_ne (by omega)).trans e10, h10⟩, ⟨A11, k11, n11, (upd_ne (by omega)).trans e11, h11⟩, fun i hi => (upd_ne (by omega)).trans (h12 i hi), fun i hi => (upd_ne (by omega)).trans (h13 i hi), h14, h15, ⟨r, r1, fun i hi => (upd_ne (by omega)).trans (r2 i hi), r3⟩⟩
theorem KF.setOutOff (h : KF G c f w) {A : Option Addr} {k n m : Nat} (hn : KNat G w A k n m) : KF G (upd c 6 (.slice A k n)) { f with outOff := m } w := by
  obtain ⟨h0, h1, h2, ⟨A3, k3, n3, e3, h3⟩, ⟨A4, k4, n4, e4, h4⟩, ⟨A5, k5, n5, e5, h5⟩, ⟨A6, k6, n6, e6, h6⟩, ⟨A7, k7, n7, e7, h7⟩, ⟨A8, k8, n8, e8, h8⟩, ⟨A9, n9, e9, h9⟩, ⟨A10, k10, n10, e10, h10⟩, ⟨A11, k11, n11, e11, h11⟩, h12, h13, h14, h15, ⟨r, r1, r2, r3⟩⟩ := h
  exact ⟨(upd_ne (by omega)).trans h0, (upd_ne (by omega)).trans h1, (upd_ne (by omega)).trans h2, ⟨A3, k3, n3, (upd_ne (by omega)).trans e3, h3⟩, ⟨A4, k4, n4, (upd_ne (by omega)).trans e4, h4⟩, ⟨A5, k5, n5, (upd_ne (by omega)).trans e5, h5⟩, ⟨A, k, n, upd_same _ _ _, hn⟩, ⟨A7, k7, n7, (upd_ne (by omega)).trans e7, h7⟩, ⟨A8, k8, n8, (upd_ne (by omega)).trans e8, h8⟩, ⟨A9, n9, (upd_ne (by omega)).trans e9, h9⟩, ⟨A10, k10, n10, (upd_ne (by omega)).trans e10, h10⟩, ⟨A11, k11, n11, (upd_ne (by omega)).trans e11, h11⟩, fun i hi => (upd_ne (by omega)).trans (h12 i hi), fun i hi => (upd_ne (by omega)).trans (h13 i hi), h14, h15, ⟨r, r1, fun i hi => (upd_ne (by omega)).trans (r2 i hi), r3⟩⟩
theorem KF.setOutLen (h : KF G c f w) {A : Option Addr} {k n m : Nat} (hn : KNat G w A k n m) : KF G (upd c 7 (.slice A k n)) { f with outLen := m } w := by
  obtain ⟨h0, h1, h2, ⟨A3, k3, n3, e3, h3⟩, ⟨A4, k4, n4, e4, h4⟩, ⟨A5, k5, n5, e5, h5⟩, ⟨A6, k6, n6, e6, h6⟩, ⟨A7, k7, n7, e7, h7⟩, ⟨A8, k8, n8, e8, h8⟩, ⟨A9, n9, e9, h9⟩, ⟨A10, k10, n10, e10, h10⟩, ⟨A11, k11, n11, e11, h11⟩, h12, h13, h14, h15, ⟨r, r1, r2, r3⟩⟩ := h
  exact ⟨(upd_ne (by omega)).trans h0, (upd_ne (by omega)).trans h1, (upd_ne (by omega)).trans h2, ⟨A3, k3, n3, (upd_ne (by omega)).trans e3, h3⟩, ⟨A4, k4, n4, (upd_ne (by omega)).trans e4, h4⟩, ⟨A5, k5, n5, (upd_ne (by omega)).trans e5, h5⟩, ⟨A6, k6, n6, (upd_ne (by omega)).trans e6, h6⟩, ⟨A, k, n, upd_same _ _ _, hn⟩, ⟨A8, k8, n8, (upd_ne (by omega)).trans e8, h8⟩, ⟨A9, n9, (upd_ne (by omega)).trans e9, h9⟩, ⟨A10, k10, n10, (upd_ne (by omega)).trans e10, h10⟩, ⟨A11, k11, n11, (upd_ne (by omega)).trans e11, h11⟩, fun i hi => (upd_ne (by omega)).trans (h12 i hi), fun i hi => (upd_ne (by omega)).trans (h13 i hi), h14, h15, ⟨r, r1, fun i hi => (upd_ne (by omega)).trans (r2 i hi), r3⟩⟩
theorem KF.setStk (h : KF G c f w) {A : Option Addr} {k n : Nat} {s : List Nat} (hn : SStk G w A k n s) : KF G (upd c 8 (.slice A k n)) { f with stk := s } w := by
  obtain ⟨h0, h1, h2, ⟨A3, k3, n3, e3, h3⟩, ⟨A4, k4, n4, e4, h4⟩, ⟨A5, k5, n5, e5, h5⟩, ⟨A6, k6, n6, e6, h6⟩, ⟨A7, k7, n7, e7, h7⟩, ⟨A8, k8, n8, e8, h8⟩, ⟨A9, n9, e9, h9⟩, ⟨A10, k10, n10, e10, h10⟩, ⟨A11, k11, n11, e11, h11⟩, h12, h13, h14, h15, ⟨r, r1, r2, r3⟩⟩ := h
  exact ⟨(upd_ne (by omega)).trans h0, (upd_ne (by omega)).trans h1, (upd_ne (by omega)).trans h2, ⟨A3, k3, n3, (upd_ne (by omega)).trans e3, h3⟩, ⟨A4, k4, n4, (upd_ne (by omega)).trans e4, h4⟩, ⟨A5, k5, n5, (upd_ne (by omega)).trans e5, h5⟩, ⟨A6, k6, n6, (upd_ne (by omega)).trans e6, h6⟩, ⟨A7, k7, n7, (upd_ne (by omega)).trans e7, h7⟩, ⟨A, k, n, upd_same _ _ _, hn⟩, ⟨A9, n9, (upd_ne (by omega)).trans e9, h9⟩, ⟨A10, k10, n10, (upd_ne (by omega)).trans e10, h10⟩, ⟨A11, k11, n11, (upd_ne (by omega)).trans e11, h11⟩, fun i hi => (upd_ne (by omega)).trans (h12 i hi), fun i hi => (upd_ne (by omega)).trans (h13 i hi), h14, h15, ⟨r, r1, fun i hi => (upd_ne (by omega)).trans (r2 i hi), r3⟩⟩
theorem KF.setMem (h : KF G c f w) {A : Option Addr} {k n : Nat} (hn : KMem G w A k n) : KF G (upd c 9 (.slice A k n)) { f with ml := k } w := by
  obtain ⟨h0, h1, h2, ⟨A3, k3, n3, e3, h3⟩, ⟨A4, k4, n4, e4, h4⟩, ⟨A5, k5, n5, e5, h5⟩, ⟨A6, k6, n6, e6, h6⟩, ⟨A7, k7, n7, e7, h7⟩, ⟨A8, k8, n8, e8, h8⟩, ⟨A9, n9, e9, h9⟩, ⟨A10, k10, n10, e10, h10⟩, ⟨A11, k11, n11, e11, h11⟩, h12, h13, h14, h15, ⟨r, r1, r2, r3⟩⟩ := h
  exact ⟨(upd_ne (by omega)).trans h0, (upd_ne (by omega)).trans h1, (upd_ne (by omega)).trans h2, ⟨A3, k3, n3, (upd_ne (by omega)).trans e3, h3⟩, ⟨A4, k4, n4, (upd_ne (by omega)).trans e4, h4⟩, ⟨A5, k5, n5, (upd_ne (by omega)).trans e5, h5⟩, ⟨A6, k6, n6, (upd_ne (by omega)).trans e6, h6⟩, ⟨A7, k7, n7, (upd_ne (by omega)).trans e7, h7⟩, ⟨A8, k8, n8, (upd_ne (by omega)).trans e8, h8⟩, ⟨A, n, upd_same _ _ _, hn⟩, ⟨A10, k10, n10, (upd_ne (by omega)).trans e10, h10⟩, ⟨A11, k11, n11, (upd_ne (by omega)).trans e11, h11⟩, fun i hi => (upd_ne (by omega)).trans (h12 i hi), fun i hi => (upd_ne (by omega)).trans (h13 i hi), h14, h15, ⟨r, r1, fun i hi => (upd_ne (by omega)).trans (r2 i hi), r3⟩⟩
end

/-- a frame in the frames' block, at o -/
def cellsAt (fr : List Value) (o : Nat) : Nat → Option Value := fun k => fr[o + k]?
theorem cellsAt_set {fr : List Value} {o j : Nat} {v : Value} (h : o + j < fr.length) : cellsAt (fr.set (o + j) v) o = upd (cellsAt fr o) j v := by
  funext k
  unfold cellsAt upd
  by_cases hk : k = j
  · subst hk; rw [if_pos rfl, List.getElem?_set_self h]
  · rw [if_neg hk, List.getElem?_set_ne (by omega)]
structure FX (G : Nat → Prop) (gf o : Nat) (fr : List Value) (f : FD) (w : World) : Prop where
  row : RowT 194 w gf fr
  len : o + 60 ≤ fr.length
  g : G gf
  ther : Ther G w
  kf : KF G (cellsAt fr o) f w
section
variable {G : Nat → Prop} {gf o : Nat} {fr : List Value} {f : FD} {w w' : World}
theorem FX.kept (h : FX G gf o fr f w) (hb : Below w.heap.size w w') : FX G gf o fr f w' := ⟨h.row.kept hb, h.len, h.g, h.ther.go hb.size, h.kf.go (Mv.of hb)⟩
theorem FX.go (h : FX G gf o fr f w) (hm : Mv G w w') (hr : RowT 194 w' gf fr) : FX G gf o fr f w' := ⟨hr, h.len, h.g, h.ther.go hm.size, h.kf.go hm⟩
theorem FX.cell (h : FX G gf o fr f w) {i : Nat} {v : Value} (hv : cellsAt fr o i = some v) : w.cell? ⟨gf, o + i, none⟩ = some v := by rw [h.row.cell]; exact hv
theorem FX.ex (h : FX G gf o fr f w) {i : Nat} (hi : i < 60) : ∃ v, w.cell? ⟨gf, o + i, none⟩ = some v := by
  have hl := h.len
  rw [h.row.cell, List.getElem?_eq_getElem (by omega)]
  exact ⟨_, rfl⟩
theorem FX.selfR (h : FX G gf o fr f w) : w.rangeAt gf (o + 12) (bv f.self) := by
  intro j v hv
  have hj : j < 20 := by
    rcases Nat.lt_or_ge j 20 with h' | h'
    · exact h'
    · rw [List.getElem?_eq_none (by rw [bv_len, h.kf.selfA.len]; exact h')] at hv; cases hv
  rw [h.row.cell, Nat.add_assoc]
  exact (h.kf.self j hj).trans hv
theorem FX.callerR (h : FX G gf o fr f w) : w.rangeAt gf (o + 32) (bv f.caller) := by
  intro j v hv
  have hj : j < 20 := by
    rcases Nat.lt_or_ge j 20 with h' | h'
    · exact h'
    · rw [List.getElem?_eq_none (by rw [bv_len, h.kf.callerA.len]; exact h')] at hv; cases hv
  rw [h.row.cell, Nat.add_assoc]
  exact (h.kf.caller j hj).trans hv
/-- a field of the frame is laid anew -/
theorem FX.put (h : FX G gf o fr f w) {j : Nat} (hj : j < 60) {v : Value} {f' : FD} (hk : KF G (upd (cellsAt fr o) j v) f' w) : FX G gf o (fr.set (o + j) v) f' (w.setCell ⟨gf, o + j, none⟩ v) := by
  have hl := h.len
  have ho : Only gf w (w.setCell ⟨gf, o + j, none⟩ v) := (Only.refl _ _).setCell _ _
  refine ⟨h.row.set _ _, by rw [List.length_set]; exact hl, h.g, h.ther.go (Nat.le_of_eq ho.size.symm), ?_⟩
  rw [cellsAt_set (by omega)]
  exact hk.go (Mv.frame h.row h.g (Chg.ofOnly ho))
theorem FX.mv (h : FX G gf o fr f w) (hc : Chg gf w w') : Mv G w w' := Mv.frame h.row h.g hc
end

end Go.Proofs.YgcsakGreat
