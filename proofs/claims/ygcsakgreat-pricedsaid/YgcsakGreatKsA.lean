/-
  the state's data, as they last whatever comes to the blocks of G (the chain's, the frames', the frames' memories).
-/
import Derived.Test.YgcsakGreatGbG
import Derived.Test.YgcsakGreatEntA
namespace Go.Proofs.YgcsakGreat
set_option linter.unusedVariables false
set_option linter.unusedSimpArgs false
set_option maxRecDepth 100000
open Go.RowKit

theorem StabS.kp {G : Nat → Prop} {P : World → Prop} {w w' : World} (h : StabS G P w) (hc : ChgS G w w') : StabS G P w' := h.go hc (fun _ h _ => h)
/-- the blocks of G are there -/
def Ther (G : Nat → Prop) (w : World) : Prop := ∀ i, G i → i < w.heap.size
theorem Ther.go {G : Nat → Prop} {w w' : World} (h : Ther G w) (hs : w.heap.size ≤ w'.heap.size) : Ther G w' := fun i hi => Nat.lt_of_lt_of_le (h i hi) hs
theorem New.offS {G : Nat → Prop} {w : World} {A : Option Addr} (h : New w A) (hG : Ther G w) (l : Nat) : OffS G A l := fun x hx _ hg => by have h1 := h x hx; have h2 := hG _ hg; omega
theorem ChgS.trans {G : Nat → Prop} {a b c : World} (h : ChgS G a b) (k : ChgS G b c) : ChgS G a c := h.then k (fun _ h _ => h)

abbrev KNat (G : Nat → Prop) (w : World) (A : Option Addr) (k c n : Nat) : Prop := StabS G (fun w => IsNat w A k c n) w
abbrev KSrc (G : Nat → Prop) (w : World) (A : Option Addr) (k c : Nat) (xs : List Int) : Prop := StabS G (fun w => Src w A k c xs) w
theorem KNat.nil (G : Nat → Prop) (w : World) : KNat G w none 0 0 0 := StabS.nat (IsNat.nil w) (OffS.nil _ _)
theorem KSrc.nil (G : Nat → Prop) (w : World) : KSrc G w none 0 0 [] := StabS.src (Src.ofNil w) (OffS.nil _ _)
theorem KNat.new {G : Nat → Prop} {w0 w : World} {A : Option Addr} {k c n : Nat} (h : IsNat w A k c n) (hn : New w0 A) (hG : Ther G w0) : KNat G w A k c n := StabS.nat h (hn.offS hG _)
theorem KSrc.new {G : Nat → Prop} {w0 w : World} {A : Option Addr} {k c : Nat} {xs : List Int} (h : Src w A k c xs) (hn : New w0 A) (hG : Ther G w0) : KSrc G w A k c xs := StabS.src h (hn.offS hG _)

/-- slots that last -/
def KSlot (G : Nat → Prop) (w : World) (r : List Value) (s : Nat × Nat) : Prop := ∃ A k c A' k' c', r = [.slice A k c, .slice A' k' c'] ∧ KNat G w A k c s.1 ∧ KNat G w A' k' c' s.2
theorem KSlot.go {G : Nat → Prop} {w w' : World} {r : List Value} {s : Nat × Nat} (h : KSlot G w r s) (hc : ChgS G w w') : KSlot G w' r s := by
  obtain ⟨A, k, c, A', k', c', h1, h2, h3⟩ := h
  exact ⟨A, k, c, A', k', c', h1, h2.kp hc, h3.kp hc⟩
theorem KSlot.now {G : Nat → Prop} {w : World} {r : List Value} {s : Nat × Nat} (h : KSlot G w r s) : SlotRow w r s := by
  obtain ⟨A, k, c, A', k', c', h1, h2, h3⟩ := h
  exact ⟨A, k, c, A', k', c', h1, h2.now, h3.now⟩
theorem KSlot.s {G : Nat → Prop} {g : Nat} (hg : G g) {w : World} {r : List Value} {s : Nat × Nat} (h : KSlot G w r s) : SSlot g w r s := by
  obtain ⟨A, k, c, A', k', c', h1, h2, h3⟩ := h
  exact ⟨A, k, c, A', k', c', h1, h2.stab hg, h3.stab hg⟩
def KSlots (G : Nat → Prop) (w : World) (ao : Option Addr) (l c : Nat) (ss : List (Nat × Nat)) : Prop := ∃ rows, StabS G (fun w => Rws w 2 ao l c rows) w ∧ Each (KSlot G w) rows ss
theorem KSlots.go {G : Nat → Prop} {w w' : World} {ao : Option Addr} {l c : Nat} {ss : List (Nat × Nat)} (h : KSlots G w ao l c ss) (hc : ChgS G w w') : KSlots G w' ao l c ss := by
  obtain ⟨rows, h1, h2⟩ := h
  exact ⟨rows, h1.kp hc, h2.imp fun _ _ h => h.go hc⟩
theorem KSlots.now {G : Nat → Prop} {w : World} {ao : Option Addr} {l c : Nat} {ss : List (Nat × Nat)} (h : KSlots G w ao l c ss) : SlotsR w ao l c ss := by
  obtain ⟨rows, h1, h2⟩ := h
  exact ⟨rows, h1.now, h2.imp fun _ _ h => h.now⟩
theorem KSlots.s {G : Nat → Prop} {g : Nat} (hg : G g) {w : World} {ao : Option Addr} {l c : Nat} {ss : List (Nat × Nat)} (h : KSlots G w ao l c ss) : SSlots g w ao l c ss := by
  obtain ⟨rows, h1, h2⟩ := h
  exact ⟨rows, h1.stab hg, h2.imp fun _ _ h => h.s hg⟩
theorem KSlots.nil (G : Nat → Prop) (w : World) : KSlots G w none 0 0 [] := ⟨[], StabS.rws (Rws.ofNil w 2) (OffS.nil _ _), trivial⟩
theorem KSlots.len {G : Nat → Prop} {w : World} {ao : Option Addr} {l c : Nat} {ss : List (Nat × Nat)} (h : KSlots G w ao l c ss) : ss.length = l := by
  obtain ⟨rows, h1, h2⟩ := h
  rw [← h2.len, h1.now.len_eq]

/-- an account that lasts -/
def KAcct (G : Nat → Prop) (w : World) (r : List Value) (d : YAcct) : Prop := ∃ A1 k1 c1 A2 k2 c2 A3 k3 c3 A4 k4 c4, r = bv d.addr ++ [.slice A1 k1 c1, .slice A2 k2 c2, .slice A3 k3 c3, .slice A4 k4 c4] ∧
  IsAddr d.addr ∧ KNat G w A1 k1 c1 d.nonce ∧ KNat G w A2 k2 c2 d.bal ∧ KSrc G w A3 k3 c3 d.code ∧ KSlots G w A4 k4 c4 d.slots
theorem KAcct.go {G : Nat → Prop} {w w' : World} {r : List Value} {d : YAcct} (h : KAcct G w r d) (hc : ChgS G w w') : KAcct G w' r d := by
  obtain ⟨A1, k1, c1, A2, k2, c2, A3, k3, c3, A4, k4, c4, h1, h2, h3, h4, h5, h6⟩ := h
  exact ⟨A1, k1, c1, A2, k2, c2, A3, k3, c3, A4, k4, c4, h1, h2, h3.kp hc, h4.kp hc, h5.kp hc, h6.go hc⟩
theorem KAcct.now {G : Nat → Prop} {w : World} {r : List Value} {d : YAcct} (h : KAcct G w r d) : AcctRow w r d := by
  obtain ⟨A1, k1, c1, A2, k2, c2, A3, k3, c3, A4, k4, c4, h1, h2, h3, h4, h5, h6⟩ := h
  exact ⟨A1, k1, c1, A2, k2, c2, A3, k3, c3, A4, k4, c4, h1, h2, h3.now, h4.now, h5.now, h6.now⟩
theorem KAcct.s {G : Nat → Prop} {g : Nat} (hg : G g) {w : World} {r : List Value} {d : YAcct} (h : KAcct G w r d) : SAcct g w r d := by
  obtain ⟨A1, k1, c1, A2, k2, c2, A3, k3, c3, A4, k4, c4, h1, h2, h3, h4, h5, h6⟩ := h
  exact ⟨A1, k1, c1, A2, k2, c2, A3, k3, c3, A4, k4, c4, h1, h2, h3.stab hg, h4.stab hg, h5.stab hg, h6.s hg⟩
theorem KAcct.zero (G : Nat → Prop) (w : World) (a : List Int) (ha : IsAddr a) : KAcct G w (bv a ++ [nilS, nilS, nilS, nilS]) (zeroAcct a) :=
  ⟨none, 0, 0, none, 0, 0, none, 0, 0, none, 0, 0, rfl, ha, KNat.nil G w, KNat.nil G w, KSrc.nil G w, KSlots.nil G w⟩
theorem karow (G : Nat → Prop) (w : World) : ARow (KAcct G w) := ⟨fun h => h.now.len, fun h => h.now.one, fun h => h.now.addr, fun h => h.now.pre, fun h => KAcct.zero G w _ h⟩
theorem KAcct.cells {G : Nat → Prop} {w : World} {r : List Value} {d : YAcct} (h : KAcct G w r d) : ∃ A1 k1 c1 A2 k2 c2 A3 k3 c3 A4 k4 c4, r[20]? = some (.slice A1 k1 c1) ∧ r[21]? = some (.slice A2 k2 c2) ∧ r[22]? = some (.slice A3 k3 c3) ∧ r[23]? = some (.slice A4 k4 c4) ∧
    KNat G w A1 k1 c1 d.nonce ∧ KNat G w A2 k2 c2 d.bal ∧ KSrc G w A3 k3 c3 d.code ∧ KSlots G w A4 k4 c4 d.slots := by
  obtain ⟨A1, k1, c1, A2, k2, c2, A3, k3, c3, A4, k4, c4, rfl, h2, h3, h4, h5, h6⟩ := h
  have e : ∀ i, (bv d.addr ++ [Value.slice A1 k1 c1, .slice A2 k2 c2, .slice A3 k3 c3, .slice A4 k4 c4])[20 + i]? = [Value.slice A1 k1 c1, .slice A2 k2 c2, .slice A3 k3 c3, .slice A4 k4 c4][i]? := fun i => by
    rw [List.getElem?_append_right (by rw [bv_len, h2.len]; omega), bv_len, h2.len, Nat.add_sub_cancel_left]
  exact ⟨A1, k1, c1, A2, k2, c2, A3, k3, c3, A4, k4, c4, e 0, e 1, e 2, e 3, h3, h4, h5, h6⟩
theorem KAcct.bal {G : Nat → Prop} {w : World} {r : List Value} {d : YAcct} (h : KAcct G w r d) {A : Option Addr} {k c m : Nat} (hn : KNat G w A k c m) : KAcct G w (r.set 21 (.slice A k c)) { d with bal := m } := by
  obtain ⟨A1, k1, c1, A2, k2, c2, A3, k3, c3, A4, k4, c4, rfl, h2, h3, h4, h5, h6⟩ := h
  refine ⟨A1, k1, c1, A, k, c, A3, k3, c3, A4, k4, c4, ?_, h2, h3, hn, h5, h6⟩
  rw [List.set_append_right _ _ (by rw [bv_len, h2.len]; omega), bv_len, h2.len]
  rfl
theorem KAcct.non {G : Nat → Prop} {w : World} {r : List Value} {d : YAcct} (h : KAcct G w r d) {A : Option Addr} {k c m : Nat} (hn : KNat G w A k c m) : KAcct G w (r.set 20 (.slice A k c)) { d with nonce := m } := by
  obtain ⟨A1, k1, c1, A2, k2, c2, A3, k3, c3, A4, k4, c4, rfl, h2, h3, h4, h5, h6⟩ := h
  refine ⟨A, k, c, A2, k2, c2, A3, k3, c3, A4, k4, c4, ?_, h2, hn, h4, h5, h6⟩
  rw [List.set_append_right _ _ (by rw [bv_len, h2.len]; omega), bv_len, h2.len]
  rfl
theorem KAcct.cod {G : Nat → Prop} {w : World} {r : List Value} {d : YAcct} (h : KAcct G w r d) {A : Option Addr} {k c : Nat} {xs : List Int} (hn : KSrc G w A k c xs) : KAcct G w (r.set 22 (.slice A k c)) { d with code := xs } := by
  obtain ⟨A1, k1, c1, A2, k2, c2, A3, k3, c3, A4, k4, c4, rfl, h2, h3, h4, h5, h6⟩ := h
  refine ⟨A1, k1, c1, A2, k2, c2, A, k, c, A4, k4, c4, ?_, h2, h3, h4, hn, h6⟩
  rw [List.set_append_right _ _ (by rw [bv_len, h2.len]; omega), bv_len, h2.len]
  rfl
theorem KAcct.slo {G : Nat → Prop} {w : World} {r : List Value} {d : YAcct} (h : KAcct G w r d) {A : Option Addr} {k c : Nat} {ss : List (Nat × Nat)} (hn : KSlots G w A k c ss) : KAcct G w (r.set 23 (.slice A k c)) { d with slots := ss } := by
  obtain ⟨A1, k1, c1, A2, k2, c2, A3, k3, c3, A4, k4, c4, rfl, h2, h3, h4, h5, h6⟩ := h
  refine ⟨A1, k1, c1, A2, k2, c2, A3, k3, c3, A, k, c, ?_, h2, h3, h4, h5, hn⟩
  rw [List.set_append_right _ _ (by rw [bv_len, h2.len]; omega), bv_len, h2.len]
  rfl

/-- the accounts of a state -/
def KAccts (G : Nat → Prop) (w : World) (ao : Option Addr) (l c : Nat) (ds : List YAcct) : Prop := ∃ rows, StabS G (fun w => Rws w 24 ao l c rows) w ∧ Each (KAcct G w) rows ds
theorem KAccts.go {G : Nat → Prop} {w w' : World} {ao : Option Addr} {l c : Nat} {ds : List YAcct} (h : KAccts G w ao l c ds) (hc : ChgS G w w') : KAccts G w' ao l c ds := by
  obtain ⟨rows, h1, h2⟩ := h
  exact ⟨rows, h1.kp hc, h2.imp fun _ _ h => h.go hc⟩
theorem KAccts.nil (G : Nat → Prop) (w : World) : KAccts G w none 0 0 [] := ⟨[], StabS.rws (Rws.ofNil w 24) (OffS.nil _ _), trivial⟩
theorem KAccts.len {G : Nat → Prop} {w : World} {ao : Option Addr} {l c : Nat} {ds : List YAcct} (h : KAccts G w ao l c ds) : ds.length = l := by
  obtain ⟨rows, h1, h2⟩ := h
  rw [← h2.len, h1.now.len_eq]
theorem KAccts.s {G : Nat → Prop} {g : Nat} (hg : G g) {w : World} {ao : Option Addr} {l c : Nat} {ds : List YAcct} (h : KAccts G w ao l c ds) : SAccts g w ao l c ds := by
  obtain ⟨rows, h1, h2⟩ := h
  exact ⟨rows, h1.stab hg, h2.imp fun _ _ h => h.s hg⟩
theorem KAccts.account {G : Nat → Prop} {bw ow : Nat} {w : World} {ao : Option Addr} {l c : Nat} {ds : List YAcct} (h : KAccts G w ao l c ds) (hcell : w.cell? ⟨bw, ow, none⟩ = some (.slice ao l c)) (a : List Int) (ha : IsAddr a) (hl : l ≤ 1000000) :
    Calls Sakg.prog 99 #[.pointer (some ⟨bw, ow, none⟩), .agg (bv a).toArray] w fun e w' => ∃ r, e = .returned (.agg r.toArray) ∧ KAcct G w' r (lookY ds a) ∧ Below w.heap.size w w' := by
  obtain ⟨rows, h1, h2⟩ := h
  refine (account_any (KAcct G w) (karow G w) bw ow ao l c rows ds a w hcell h1.now h2 ha hl).mono ?_
  rintro e w' ⟨r, h1, h2, h3⟩
  exact ⟨r, h1, h2.go (ChgS.of h3), h3⟩

/-- the accounts have turned -/
def KAcctsPost (G : Nat → Prop) (T : TypeId) (bw : Nat) (cs : List Value) (l : Nat) (ds : List YAcct) (w w' : World) : Prop :=
  ∃ A n c', RowT T w' bw (cs.set 0 (.slice A n c')) ∧ KAccts G w' A n c' ds ∧ n ≤ l + 1 ∧ Chg bw w w'
theorem KAccts.put {G : Nat → Prop} {T : TypeId} {bw : Nat} {cs : List Value} {w : World} {ao : Option Addr} {l c : Nat} {ds : List YAcct} (hG : Ther G w) (hg : G bw) (h : KAccts G w ao l c ds) (hcs : RowT T w bw cs) (h0 : cs[0]? = some (.slice ao l c)) (hl : l ≤ 1000000) (r0 : List Value) (d : YAcct) (hr : KAcct G w r0 d) (hd1 : d.nonce < BIG) (hd2 : d.bal < BIG) :
    Calls Sakg.prog 192 #[.pointer (some ⟨bw, 0, none⟩), .agg r0.toArray] w fun e w' => e = .returned (.tuple #[]) ∧ KAcctsPost G T bw cs l (putY ds d) w w' := by
  obtain ⟨rows, h1, h2⟩ := h
  refine (put_any (KAcct G w) (karow G w) T bw cs ao l c rows ds r0 d w hcs h0 h1.now h2 hl hr hr.now hd1 hd2).mono ?_
  rintro e w' ⟨rfl, A, n, c', rows', h3, h4, h5, h6, h7, h8⟩
  exact ⟨rfl, A, n, c', h3, ⟨rows', StabS.rws h4 (h6.offS hG _), h5.imp fun _ _ h => h.go (ChgS.chg h8 hg)⟩, h7, h8⟩

/-- addresses that last -/
def KAddrs (G : Nat → Prop) (w : World) (ao : Option Addr) (l c : Nat) (als : List (List Int)) : Prop := StabS G (fun w => AddrsR w ao l c als) w
theorem KAddrs.of {G : Nat → Prop} {w : World} {ao : Option Addr} {l c : Nat} {als : List (List Int)} (h : AddrsR w ao l c als) (ho : OffS G ao l) : KAddrs G w ao l c als := fun w' hc => ⟨StabS.rws h.1 ho w' hc, h.2⟩
theorem KAddrs.nil (G : Nat → Prop) (w : World) : KAddrs G w none 0 0 [] := KAddrs.of ⟨Rws.ofNil w 20, fun _ h => by simp at h⟩ (OffS.nil _ _)
theorem KAddrs.go {G : Nat → Prop} {w w' : World} {ao : Option Addr} {l c : Nat} {als : List (List Int)} (h : KAddrs G w ao l c als) (hc : ChgS G w w') : KAddrs G w' ao l c als := StabS.kp h hc
theorem KAddrs.with {G : Nat → Prop} {w : World} {ao : Option Addr} {l c : Nat} {als : List (List Int)} (h : KAddrs G w ao l c als) (hG : Ther G w) (a : List Int) (ha : IsAddr a) (hl : l ≤ 1000000) :
    Calls Sakg.prog 193 #[.slice ao l c, .agg (bv a).toArray] w fun e w' => ∃ A k c', e = .returned (.slice A k c') ∧ (∃ als', KAddrs G w' A k c' als' ∧ k ≤ l + 1 ∧ (∀ x, x ∈ als' ↔ x = a ∨ x ∈ als)) ∧ Below w.heap.size w w' := by
  refine (withAddr_any ao l c als a w h.now ha hl).mono ?_
  rintro e w' ⟨A, k, c', rfl, ⟨als', h1, h2, h3, h4⟩, h5⟩
  refine ⟨A, k, c', rfl, ⟨als', ?_, h3, h4⟩, h5⟩
  rcases h2 with ⟨rfl, rfl, rfl, rfl⟩ | h2
  · exact StabS.kp h (ChgS.of h5)
  · exact KAddrs.of h1 (h2.offS hG _)

/-- a warm slot -/
def KMark (G : Nat → Prop) (w : World) (r : List Value) (s : YMark) : Prop := ∃ A k c, r = bv s.1 ++ [.slice A k c] ∧ IsAddr s.1 ∧ KNat G w A k c s.2 ∧ s.2 < BIG
theorem KMark.go {G : Nat → Prop} {w w' : World} {r : List Value} {s : YMark} (h : KMark G w r s) (hc : ChgS G w w') : KMark G w' r s := by
  obtain ⟨A, k, c, h1, h2, h3, h4⟩ := h
  exact ⟨A, k, c, h1, h2, h3.kp hc, h4⟩
theorem KMark.s {G : Nat → Prop} {g : Nat} (hg : G g) {w : World} {r : List Value} {s : YMark} (h : KMark G w r s) : SMark g w r s := by
  obtain ⟨A, k, c, h1, h2, h3, h4⟩ := h
  exact ⟨A, k, c, h1, h2, h3.stab hg, h4⟩
theorem KMark.len {G : Nat → Prop} {w : World} {r : List Value} {s : YMark} (h : KMark G w r s) : r.length = 21 := by
  obtain ⟨A, k, c, rfl, h2, h3, _⟩ := h
  simp [bv_len, h2.len]
theorem KMark.one {G : Nat → Prop} {w : World} {r : List Value} {s : YMark} (h : KMark G w r s) : ∀ v ∈ r, v.oneCell' = true := by
  obtain ⟨A, k, c, rfl, h2, h3, _⟩ := h
  intro v hv
  rcases List.mem_append.1 hv with h | h
  · exact bv_one _ v h
  · simp at h; subst h; rfl
theorem KMark.addr {G : Nat → Prop} {w : World} {r : List Value} {s : YMark} (h : KMark G w r s) : IsAddr s.1 := by
  obtain ⟨A, k, c, _, h2, _⟩ := h
  exact h2
theorem KMark.pre {G : Nat → Prop} {w : World} {r : List Value} {s : YMark} (h : KMark G w r s) : (r.drop 0).take 20 = bv s.1 := by
  obtain ⟨A, k, c, rfl, h2, _⟩ := h
  rw [List.drop_zero, List.take_append_of_le_length (by rw [bv_len, h2.len]; omega), List.take_of_length_le (by rw [bv_len, h2.len]; omega)]
theorem KMark.key {G : Nat → Prop} {w : World} {r : List Value} {s : YMark} (h : KMark G w r s) : ∃ A k c, r[20]? = some (.slice A k c) ∧ KNat G w A k c s.2 ∧ s.2 < BIG := by
  obtain ⟨A, k, c, rfl, h2, h3, h4⟩ := h
  refine ⟨A, k, c, ?_, h3, h4⟩
  rw [List.getElem?_append_right (by rw [bv_len, h2.len]; omega), bv_len, h2.len]
  rfl
def KMarks (G : Nat → Prop) (w : World) (ao : Option Addr) (l c : Nat) (ms : List YMark) : Prop := ∃ rows, StabS G (fun w => Rws w 21 ao l c rows) w ∧ Each (KMark G w) rows ms
theorem KMarks.go {G : Nat → Prop} {w w' : World} {ao : Option Addr} {l c : Nat} {ms : List YMark} (h : KMarks G w ao l c ms) (hc : ChgS G w w') : KMarks G w' ao l c ms := by
  obtain ⟨rows, h1, h2⟩ := h
  exact ⟨rows, h1.kp hc, h2.imp fun _ _ h => h.go hc⟩
theorem KMarks.nil (G : Nat → Prop) (w : World) : KMarks G w none 0 0 [] := ⟨[], StabS.rws (Rws.ofNil w 21) (OffS.nil _ _), trivial⟩
theorem KMarks.s {G : Nat → Prop} {g : Nat} (hg : G g) {w : World} {ao : Option Addr} {l c : Nat} {ms : List YMark} (h : KMarks G w ao l c ms) : SMarks g w ao l c ms := by
  obtain ⟨rows, h1, h2⟩ := h
  exact ⟨rows, h1.stab hg, h2.imp fun _ _ h => h.s hg⟩
theorem KMarks.len {G : Nat → Prop} {w : World} {ao : Option Addr} {l c : Nat} {ms : List YMark} (h : KMarks G w ao l c ms) : ms.length = l := by
  obtain ⟨rows, h1, h2⟩ := h
  rw [← h2.len, h1.now.len_eq]

/-- a transient slot, or a slot at the start: address, key, value -/
structure YTemp where
  addr : List Int
  key : Nat
  val : Nat
def KTemp (G : Nat → Prop) (w : World) (r : List Value) (s : YTemp) : Prop := ∃ A k c A' k' c', r = bv s.addr ++ [.slice A k c, .slice A' k' c'] ∧ IsAddr s.addr ∧ KNat G w A k c s.key ∧ KNat G w A' k' c' s.val ∧ s.key < BIG ∧ s.val < BIG
theorem KTemp.go {G : Nat → Prop} {w w' : World} {r : List Value} {s : YTemp} (h : KTemp G w r s) (hc : ChgS G w w') : KTemp G w' r s := by
  obtain ⟨A, k, c, A', k', c', h1, h2, h3, h4, h5⟩ := h
  exact ⟨A, k, c, A', k', c', h1, h2, h3.kp hc, h4.kp hc, h5⟩
theorem KTemp.len {G : Nat → Prop} {w : World} {r : List Value} {s : YTemp} (h : KTemp G w r s) : r.length = 22 := by
  obtain ⟨A, k, c, A', k', c', rfl, h2, _⟩ := h
  simp [bv_len, h2.len]
theorem KTemp.one {G : Nat → Prop} {w : World} {r : List Value} {s : YTemp} (h : KTemp G w r s) : ∀ v ∈ r, v.oneCell' = true := by
  obtain ⟨A, k, c, A', k', c', rfl, h2, _⟩ := h
  intro v hv
  rcases List.mem_append.1 hv with h | h
  · exact bv_one _ v h
  · simp at h; rcases h with rfl | rfl <;> rfl
theorem KTemp.pre {G : Nat → Prop} {w : World} {r : List Value} {s : YTemp} (h : KTemp G w r s) : (r.drop 0).take 20 = bv s.addr := by
  obtain ⟨A, k, c, A', k', c', rfl, h2, _⟩ := h
  rw [List.drop_zero, List.take_append_of_le_length (by rw [bv_len, h2.len]; omega), List.take_of_length_le (by rw [bv_len, h2.len]; omega)]
theorem KTemp.isAddr {G : Nat → Prop} {w : World} {r : List Value} {s : YTemp} (h : KTemp G w r s) : IsAddr s.addr := by
  obtain ⟨A, k, c, A', k', c', rfl, h2, _⟩ := h
  exact h2
theorem KTemp.cells {G : Nat → Prop} {w : World} {r : List Value} {s : YTemp} (h : KTemp G w r s) : ∃ A k c A' k' c', r[20]? = some (.slice A k c) ∧ r[21]? = some (.slice A' k' c') ∧ KNat G w A k c s.key ∧ KNat G w A' k' c' s.val ∧ s.key < BIG ∧ s.val < BIG := by
  obtain ⟨A, k, c, A', k', c', rfl, h2, h3, h4, h5, h6⟩ := h
  refine ⟨A, k, c, A', k', c', ?_, ?_, h3, h4, h5, h6⟩
  · rw [List.getElem?_append_right (by rw [bv_len, h2.len]; omega), bv_len, h2.len]; rfl
  · rw [List.getElem?_append_right (by rw [bv_len, h2.len]; omega), bv_len, h2.len]; rfl
def KTemps (G : Nat → Prop) (w : World) (ao : Option Addr) (l c : Nat) (ms : List YTemp) : Prop := ∃ rows, StabS G (fun w => Rws w 22 ao l c rows) w ∧ Each (KTemp G w) rows ms
theorem KTemps.go {G : Nat → Prop} {w w' : World} {ao : Option Addr} {l c : Nat} {ms : List YTemp} (h : KTemps G w ao l c ms) (hc : ChgS G w w') : KTemps G w' ao l c ms := by
  obtain ⟨rows, h1, h2⟩ := h
  exact ⟨rows, h1.kp hc, h2.imp fun _ _ h => h.go hc⟩
theorem KTemps.nil (G : Nat → Prop) (w : World) : KTemps G w none 0 0 [] := ⟨[], StabS.rws (Rws.ofNil w 22) (OffS.nil _ _), trivial⟩
theorem KTemps.len {G : Nat → Prop} {w : World} {ao : Option Addr} {l c : Nat} {ms : List YTemp} (h : KTemps G w ao l c ms) : ms.length = l := by
  obtain ⟨rows, h1, h2⟩ := h
  rw [← h2.len, h1.now.len_eq]

/-- a log: how many topics, how many bytes -/
structure YLog where
  addr : List Int
  nt : Nat
  nd : Nat
def KLog (G : Nat → Prop) (w : World) (r : List Value) (s : YLog) : Prop := ∃ A c A' c' rows xs, r = bv s.addr ++ [.slice A s.nt c, .slice A' s.nd c'] ∧ IsAddr s.addr ∧ StabS G (fun w => Rws w 32 A s.nt c rows) w ∧ (∀ r ∈ rows, ∀ v ∈ r, v.oneCell' = true) ∧ KSrc G w A' s.nd c' xs
theorem KLog.go {G : Nat → Prop} {w w' : World} {r : List Value} {s : YLog} (h : KLog G w r s) (hc : ChgS G w w') : KLog G w' r s := by
  obtain ⟨A, c, A', c', rows, xs, h1, h2, h3, h4, h5⟩ := h
  exact ⟨A, c, A', c', rows, xs, h1, h2, h3.kp hc, h4, h5.kp hc⟩
theorem KLog.len {G : Nat → Prop} {w : World} {r : List Value} {s : YLog} (h : KLog G w r s) : r.length = 22 := by
  obtain ⟨A, c, A', c', rows, xs, rfl, h2, _⟩ := h
  simp [bv_len, h2.len]
theorem KLog.one {G : Nat → Prop} {w : World} {r : List Value} {s : YLog} (h : KLog G w r s) : ∀ v ∈ r, v.oneCell' = true := by
  obtain ⟨A, c, A', c', rows, xs, rfl, h2, _⟩ := h
  intro v hv
  rcases List.mem_append.1 hv with h | h
  · exact bv_one _ v h
  · simp at h; rcases h with rfl | rfl <;> rfl
theorem KLog.pre {G : Nat → Prop} {w : World} {r : List Value} {s : YLog} (h : KLog G w r s) : (r.drop 0).take 20 = bv s.addr := by
  obtain ⟨A, c, A', c', rows, xs, rfl, h2, _⟩ := h
  rw [List.drop_zero, List.take_append_of_le_length (by rw [bv_len, h2.len]; omega), List.take_of_length_le (by rw [bv_len, h2.len]; omega)]
theorem KLog.cells {G : Nat → Prop} {w : World} {r : List Value} {s : YLog} (h : KLog G w r s) : IsAddr s.addr ∧ ∃ A c A' c' rows xs, r[20]? = some (.slice A s.nt c) ∧ r[21]? = some (.slice A' s.nd c') ∧ StabS G (fun w => Rws w 32 A s.nt c rows) w ∧ (∀ r ∈ rows, ∀ v ∈ r, v.oneCell' = true) ∧ KSrc G w A' s.nd c' xs := by
  obtain ⟨A, c, A', c', rows, xs, rfl, h2, h3, h4, h5⟩ := h
  refine ⟨h2, A, c, A', c', rows, xs, ?_, ?_, h3, h4, h5⟩
  · rw [List.getElem?_append_right (by rw [bv_len, h2.len]; omega), bv_len, h2.len]; rfl
  · rw [List.getElem?_append_right (by rw [bv_len, h2.len]; omega), bv_len, h2.len]; rfl
def KLogs (G : Nat → Prop) (w : World) (ao : Option Addr) (l c : Nat) (ms : List YLog) : Prop := ∃ rows, StabS G (fun w => Rws w 22 ao l c rows) w ∧ Each (KLog G w) rows ms
theorem KLogs.go {G : Nat → Prop} {w w' : World} {ao : Option Addr} {l c : Nat} {ms : List YLog} (h : KLogs G w ao l c ms) (hc : ChgS G w w') : KLogs G w' ao l c ms := by
  obtain ⟨rows, h1, h2⟩ := h
  exact ⟨rows, h1.kp hc, h2.imp fun _ _ h => h.go hc⟩
theorem KLogs.nil (G : Nat → Prop) (w : World) : KLogs G w none 0 0 [] := ⟨[], StabS.rws (Rws.ofNil w 22) (OffS.nil _ _), trivial⟩
theorem KLogs.len {G : Nat → Prop} {w : World} {ao : Option Addr} {l c : Nat} {ms : List YLog} (h : KLogs G w ao l c ms) : ms.length = l := by
  obtain ⟨rows, h1, h2⟩ := h
  rw [← h2.len, h1.now.len_eq]

/-- a world of the state, plainly -/
structure WD where
  accts : List YAcct
  warmA : List (List Int)
  warmS : List YMark
  refund : Nat
  logs : List YLog
  temps : List YTemp
  made : List (List Int)
  gone : List (List Int)

/-- a world's eight cells -/
structure KW (G : Nat → Prop) (cs : List Value) (d : WD) (w : World) : Prop where
  accts : ∃ ao l c, cs[0]? = some (.slice ao l c) ∧ KAccts G w ao l c d.accts
  warmA : ∃ ao l c, cs[1]? = some (.slice ao l c) ∧ KAddrs G w ao l c d.warmA
  warmS : ∃ ao l c, cs[2]? = some (.slice ao l c) ∧ KMarks G w ao l c d.warmS
  refund : ∃ ao l c, cs[3]? = some (.slice ao l c) ∧ KNat G w ao l c d.refund
  logs : ∃ ao l, cs[4]? = some (.slice ao l l) ∧ KLogs G w ao l l d.logs
  temps : ∃ ao l c, cs[5]? = some (.slice ao l c) ∧ KTemps G w ao l c d.temps
  made : ∃ ao l c, cs[6]? = some (.slice ao l c) ∧ KAddrs G w ao l c d.made
  gone : ∃ ao l c, cs[7]? = some (.slice ao l c) ∧ KAddrs G w ao l c d.gone
theorem KW.go {G : Nat → Prop} {cs : List Value} {d : WD} {w w' : World} (h : KW G cs d w) (hc : ChgS G w w') : KW G cs d w' := by
  obtain ⟨⟨a0, l0, c0, e0, h0⟩, ⟨a1, l1, c1, e1, h1⟩, ⟨a2, l2, c2, e2, h2⟩, ⟨a3, l3, c3, e3, h3⟩, ⟨a4, l4, e4, h4⟩, ⟨a5, l5, c5, e5, h5⟩, ⟨a6, l6, c6, e6, h6⟩, ⟨a7, l7, c7, e7, h7⟩⟩ := h
  exact ⟨⟨a0, l0, c0, e0, h0.go hc⟩, ⟨a1, l1, c1, e1, h1.go hc⟩, ⟨a2, l2, c2, e2, h2.go hc⟩, ⟨a3, l3, c3, e3, h3.kp hc⟩, ⟨a4, l4, e4, h4.go hc⟩, ⟨a5, l5, c5, e5, h5.go hc⟩, ⟨a6, l6, c6, e6, h6.go hc⟩, ⟨a7, l7, c7, e7, h7.go hc⟩⟩
/-- the same cells -/
theorem KW.eq {G : Nat → Prop} {cs cs' : List Value} {d : WD} {w : World} (h : KW G cs d w) (he : ∀ i, i < 8 → cs'[i]? = cs[i]?) : KW G cs' d w := by
  obtain ⟨⟨a0, l0, c0, e0, h0⟩, ⟨a1, l1, c1, e1, h1⟩, ⟨a2, l2, c2, e2, h2⟩, ⟨a3, l3, c3, e3, h3⟩, ⟨a4, l4, e4, h4⟩, ⟨a5, l5, c5, e5, h5⟩, ⟨a6, l6, c6, e6, h6⟩, ⟨a7, l7, c7, e7, h7⟩⟩ := h
  exact ⟨⟨a0, l0, c0, (he 0 (by omega)).trans e0, h0⟩, ⟨a1, l1, c1, (he 1 (by omega)).trans e1, h1⟩, ⟨a2, l2, c2, (he 2 (by omega)).trans e2, h2⟩, ⟨a3, l3, c3, (he 3 (by omega)).trans e3, h3⟩, ⟨a4, l4, (he 4 (by omega)).trans e4, h4⟩, ⟨a5, l5, c5, (he 5 (by omega)).trans e5, h5⟩, ⟨a6, l6, c6, (he 6 (by omega)).trans e6, h6⟩, ⟨a7, l7, c7, (he 7 (by omega)).trans e7, h7⟩⟩
theorem KW.set0 {G : Nat → Prop} {cs : List Value} {d : WD} {w : World} (h : KW G cs d w) {A : Option Addr} {n c : Nat} {x : List YAcct} (hx : KAccts G w A n c x) (hl : 8 ≤ cs.length) : KW G (cs.set 0 (.slice A n c)) { d with accts := x } w := by
  have g : ∀ i, i ≠ 0 → (cs.set 0 (Value.slice A n c))[i]? = cs[i]? := fun i hi => List.getElem?_set_ne (by omega)
  refine ⟨⟨A, n, c, List.getElem?_set_self (by omega), hx⟩, ?_, ?_, ?_, ?_, ?_, ?_, ?_⟩
  · rw [g 1 (by omega)]; exact h.warmA
  · rw [g 2 (by omega)]; exact h.warmS
  · rw [g 3 (by omega)]; exact h.refund
  · rw [g 4 (by omega)]; exact h.logs
  · rw [g 5 (by omega)]; exact h.temps
  · rw [g 6 (by omega)]; exact h.made
  · rw [g 7 (by omega)]; exact h.gone
theorem KW.set1 {G : Nat → Prop} {cs : List Value} {d : WD} {w : World} (h : KW G cs d w) {A : Option Addr} {n c : Nat} {x : List (List Int)} (hx : KAddrs G w A n c x) (hl : 8 ≤ cs.length) : KW G (cs.set 1 (.slice A n c)) { d with warmA := x } w := by
  have g : ∀ i, i ≠ 1 → (cs.set 1 (Value.slice A n c))[i]? = cs[i]? := fun i hi => List.getElem?_set_ne (by omega)
  refine ⟨?_, ⟨A, n, c, List.getElem?_set_self (by omega), hx⟩, ?_, ?_, ?_, ?_, ?_, ?_⟩
  · rw [g 0 (by omega)]; exact h.accts
  · rw [g 2 (by omega)]; exact h.warmS
  · rw [g 3 (by omega)]; exact h.refund
  · rw [g 4 (by omega)]; exact h.logs
  · rw [g 5 (by omega)]; exact h.temps
  · rw [g 6 (by omega)]; exact h.made
  · rw [g 7 (by omega)]; exact h.gone
theorem KW.set2 {G : Nat → Prop} {cs : List Value} {d : WD} {w : World} (h : KW G cs d w) {A : Option Addr} {n c : Nat} {x : List YMark} (hx : KMarks G w A n c x) (hl : 8 ≤ cs.length) : KW G (cs.set 2 (.slice A n c)) { d with warmS := x } w := by
  have g : ∀ i, i ≠ 2 → (cs.set 2 (Value.slice A n c))[i]? = cs[i]? := fun i hi => List.getElem?_set_ne (by omega)
  refine ⟨?_, ?_, ⟨A, n, c, List.getElem?_set_self (by omega), hx⟩, ?_, ?_, ?_, ?_, ?_⟩
  · rw [g 0 (by omega)]; exact h.accts
  · rw [g 1 (by omega)]; exact h.warmA
  · rw [g 3 (by omega)]; exact h.refund
  · rw [g 4 (by omega)]; exact h.logs
  · rw [g 5 (by omega)]; exact h.temps
  · rw [g 6 (by omega)]; exact h.made
  · rw [g 7 (by omega)]; exact h.gone
theorem KW.set3 {G : Nat → Prop} {cs : List Value} {d : WD} {w : World} (h : KW G cs d w) {A : Option Addr} {n c x : Nat} (hx : KNat G w A n c x) (hl : 8 ≤ cs.length) : KW G (cs.set 3 (.slice A n c)) { d with refund := x } w := by
  have g : ∀ i, i ≠ 3 → (cs.set 3 (Value.slice A n c))[i]? = cs[i]? := fun i hi => List.getElem?_set_ne (by omega)
  refine ⟨?_, ?_, ?_, ⟨A, n, c, List.getElem?_set_self (by omega), hx⟩, ?_, ?_, ?_, ?_⟩
  · rw [g 0 (by omega)]; exact h.accts
  · rw [g 1 (by omega)]; exact h.warmA
  · rw [g 2 (by omega)]; exact h.warmS
  · rw [g 4 (by omega)]; exact h.logs
  · rw [g 5 (by omega)]; exact h.temps
  · rw [g 6 (by omega)]; exact h.made
  · rw [g 7 (by omega)]; exact h.gone
theorem KW.set5 {G : Nat → Prop} {cs : List Value} {d : WD} {w : World} (h : KW G cs d w) {A : Option Addr} {n c : Nat} {x : List YTemp} (hx : KTemps G w A n c x) (hl : 8 ≤ cs.length) : KW G (cs.set 5 (.slice A n c)) { d with temps := x } w := by
  have g : ∀ i, i ≠ 5 → (cs.set 5 (Value.slice A n c))[i]? = cs[i]? := fun i hi => List.getElem?_set_ne (by omega)
  refine ⟨?_, ?_, ?_, ?_, ?_, ⟨A, n, c, List.getElem?_set_self (by omega), hx⟩, ?_, ?_⟩
  · rw [g 0 (by omega)]; exact h.accts
  · rw [g 1 (by omega)]; exact h.warmA
  · rw [g 2 (by omega)]; exact h.warmS
  · rw [g 3 (by omega)]; exact h.refund
  · rw [g 4 (by omega)]; exact h.logs
  · rw [g 6 (by omega)]; exact h.made
  · rw [g 7 (by omega)]; exact h.gone
theorem KW.set6 {G : Nat → Prop} {cs : List Value} {d : WD} {w : World} (h : KW G cs d w) {A : Option Addr} {n c : Nat} {x : List (List Int)} (hx : KAddrs G w A n c x) (hl : 8 ≤ cs.length) : KW G (cs.set 6 (.slice A n c)) { d with made := x } w := by
  have g : ∀ i, i ≠ 6 → (cs.set 6 (Value.slice A n c))[i]? = cs[i]? := fun i hi => List.getElem?_set_ne (by omega)
  refine ⟨?_, ?_, ?_, ?_, ?_, ?_, ⟨A, n, c, List.getElem?_set_self (by omega), hx⟩, ?_⟩
  · rw [g 0 (by omega)]; exact h.accts
  · rw [g 1 (by omega)]; exact h.warmA
  · rw [g 2 (by omega)]; exact h.warmS
  · rw [g 3 (by omega)]; exact h.refund
  · rw [g 4 (by omega)]; exact h.logs
  · rw [g 5 (by omega)]; exact h.temps
  · rw [g 7 (by omega)]; exact h.gone
theorem KW.set7 {G : Nat → Prop} {cs : List Value} {d : WD} {w : World} (h : KW G cs d w) {A : Option Addr} {n c : Nat} {x : List (List Int)} (hx : KAddrs G w A n c x) (hl : 8 ≤ cs.length) : KW G (cs.set 7 (.slice A n c)) { d with gone := x } w := by
  have g : ∀ i, i ≠ 7 → (cs.set 7 (Value.slice A n c))[i]? = cs[i]? := fun i hi => List.getElem?_set_ne (by omega)
  refine ⟨?_, ?_, ?_, ?_, ?_, ?_, ?_, ⟨A, n, c, List.getElem?_set_self (by omega), hx⟩⟩
  · rw [g 0 (by omega)]; exact h.accts
  · rw [g 1 (by omega)]; exact h.warmA
  · rw [g 2 (by omega)]; exact h.warmS
  · rw [g 3 (by omega)]; exact h.refund
  · rw [g 4 (by omega)]; exact h.logs
  · rw [g 5 (by omega)]; exact h.temps
  · rw [g 6 (by omega)]; exact h.made

/-- a world's eight cells, the logs' number alone -/
structure KV (G : Nat → Prop) (cs : List Value) (d : WD) (w : World) : Prop where
  accts : ∃ ao l c, cs[0]? = some (.slice ao l c) ∧ KAccts G w ao l c d.accts
  warmA : ∃ ao l c, cs[1]? = some (.slice ao l c) ∧ KAddrs G w ao l c d.warmA
  warmS : ∃ ao l c, cs[2]? = some (.slice ao l c) ∧ KMarks G w ao l c d.warmS
  refund : ∃ ao l c, cs[3]? = some (.slice ao l c) ∧ KNat G w ao l c d.refund
  logs : ∃ ao l c, cs[4]? = some (.slice ao l c) ∧ d.logs.length = l
  temps : ∃ ao l c, cs[5]? = some (.slice ao l c) ∧ KTemps G w ao l c d.temps
  made : ∃ ao l c, cs[6]? = some (.slice ao l c) ∧ KAddrs G w ao l c d.made
  gone : ∃ ao l c, cs[7]? = some (.slice ao l c) ∧ KAddrs G w ao l c d.gone
theorem KV.go {G : Nat → Prop} {cs : List Value} {d : WD} {w w' : World} (h : KV G cs d w) (hc : ChgS G w w') : KV G cs d w' := by
  obtain ⟨⟨a0, l0, c0, e0, h0⟩, ⟨a1, l1, c1, e1, h1⟩, ⟨a2, l2, c2, e2, h2⟩, ⟨a3, l3, c3, e3, h3⟩, ⟨a4, l4, c4, e4, h4⟩, ⟨a5, l5, c5, e5, h5⟩, ⟨a6, l6, c6, e6, h6⟩, ⟨a7, l7, c7, e7, h7⟩⟩ := h
  exact ⟨⟨a0, l0, c0, e0, h0.go hc⟩, ⟨a1, l1, c1, e1, h1.go hc⟩, ⟨a2, l2, c2, e2, h2.go hc⟩, ⟨a3, l3, c3, e3, h3.kp hc⟩, ⟨a4, l4, c4, e4, h4⟩, ⟨a5, l5, c5, e5, h5.go hc⟩, ⟨a6, l6, c6, e6, h6.go hc⟩, ⟨a7, l7, c7, e7, h7.go hc⟩⟩
/-- the same cells -/
theorem KV.eq {G : Nat → Prop} {cs cs' : List Value} {d : WD} {w : World} (h : KV G cs d w) (he : ∀ i, i < 8 → cs'[i]? = cs[i]?) : KV G cs' d w := by
  obtain ⟨⟨a0, l0, c0, e0, h0⟩, ⟨a1, l1, c1, e1, h1⟩, ⟨a2, l2, c2, e2, h2⟩, ⟨a3, l3, c3, e3, h3⟩, ⟨a4, l4, c4, e4, h4⟩, ⟨a5, l5, c5, e5, h5⟩, ⟨a6, l6, c6, e6, h6⟩, ⟨a7, l7, c7, e7, h7⟩⟩ := h
  exact ⟨⟨a0, l0, c0, (he 0 (by omega)).trans e0, h0⟩, ⟨a1, l1, c1, (he 1 (by omega)).trans e1, h1⟩, ⟨a2, l2, c2, (he 2 (by omega)).trans e2, h2⟩, ⟨a3, l3, c3, (he 3 (by omega)).trans e3, h3⟩, ⟨a4, l4, c4, (he 4 (by omega)).trans e4, h4⟩, ⟨a5, l5, c5, (he 5 (by omega)).trans e5, h5⟩, ⟨a6, l6, c6, (he 6 (by omega)).trans e6, h6⟩, ⟨a7, l7, c7, (he 7 (by omega)).trans e7, h7⟩⟩
theorem KV.set0 {G : Nat → Prop} {cs : List Value} {d : WD} {w : World} (h : KV G cs d w) {A : Option Addr} {n c : Nat} {x : List YAcct} (hx : KAccts G w A n c x) (hl : 8 ≤ cs.length) : KV G (cs.set 0 (.slice A n c)) { d with accts := x } w := by
  have g : ∀ i, i ≠ 0 → (cs.set 0 (Value.slice A n c))[i]? = cs[i]? := fun i hi => List.getElem?_set_ne (by omega)
  refine ⟨⟨A, n, c, List.getElem?_set_self (by omega), hx⟩, ?_, ?_, ?_, ?_, ?_, ?_, ?_⟩
  · rw [g 1 (by omega)]; exact h.warmA
  · rw [g 2 (by omega)]; exact h.warmS
  · rw [g 3 (by omega)]; exact h.refund
  · rw [g 4 (by omega)]; exact h.logs
  · rw [g 5 (by omega)]; exact h.temps
  · rw [g 6 (by omega)]; exact h.made
  · rw [g 7 (by omega)]; exact h.gone
theorem KV.set1 {G : Nat → Prop} {cs : List Value} {d : WD} {w : World} (h : KV G cs d w) {A : Option Addr} {n c : Nat} {x : List (List Int)} (hx : KAddrs G w A n c x) (hl : 8 ≤ cs.length) : KV G (cs.set 1 (.slice A n c)) { d with warmA := x } w := by
  have g : ∀ i, i ≠ 1 → (cs.set 1 (Value.slice A n c))[i]? = cs[i]? := fun i hi => List.getElem?_set_ne (by omega)
  refine ⟨?_, ⟨A, n, c, List.getElem?_set_self (by omega), hx⟩, ?_, ?_, ?_, ?_, ?_, ?_⟩
  · rw [g 0 (by omega)]; exact h.accts
  · rw [g 2 (by omega)]; exact h.warmS
  · rw [g 3 (by omega)]; exact h.refund
  · rw [g 4 (by omega)]; exact h.logs
  · rw [g 5 (by omega)]; exact h.temps
  · rw [g 6 (by omega)]; exact h.made
  · rw [g 7 (by omega)]; exact h.gone
theorem KV.set2 {G : Nat → Prop} {cs : List Value} {d : WD} {w : World} (h : KV G cs d w) {A : Option Addr} {n c : Nat} {x : List YMark} (hx : KMarks G w A n c x) (hl : 8 ≤ cs.length) : KV G (cs.set 2 (.slice A n c)) { d with warmS := x } w := by
  have g : ∀ i, i ≠ 2 → (cs.set 2 (Value.slice A n c))[i]? = cs[i]? := fun i hi => List.getElem?_set_ne (by omega)
  refine ⟨?_, ?_, ⟨A, n, c, List.getElem?_set_self (by omega), hx⟩, ?_, ?_, ?_, ?_, ?_⟩
  · rw [g 0 (by omega)]; exact h.accts
  · rw [g 1 (by omega)]; exact h.warmA
  · rw [g 3 (by omega)]; exact h.refund
  · rw [g 4 (by omega)]; exact h.logs
  · rw [g 5 (by omega)]; exact h.temps
  · rw [g 6 (by omega)]; exact h.made
  · rw [g 7 (by omega)]; exact h.gone
theorem KV.set3 {G : Nat → Prop} {cs : List Value} {d : WD} {w : World} (h : KV G cs d w) {A : Option Addr} {n c x : Nat} (hx : KNat G w A n c x) (hl : 8 ≤ cs.length) : KV G (cs.set 3 (.slice A n c)) { d with refund := x } w := by
  have g : ∀ i, i ≠ 3 → (cs.set 3 (Value.slice A n c))[i]? = cs[i]? := fun i hi => List.getElem?_set_ne (by omega)
  refine ⟨?_, ?_, ?_, ⟨A, n, c, List.getElem?_set_self (by omega), hx⟩, ?_, ?_, ?_, ?_⟩
  · rw [g 0 (by omega)]; exact h.accts
  · rw [g 1 (by omega)]; exact h.warmA
  · rw [g 2 (by omega)]; exact h.warmS
  · rw [g 4 (by omega)]; exact h.logs
  · rw [g 5 (by omega)]; exact h.temps
  · rw [g 6 (by omega)]; exact h.made
  · rw [g 7 (by omega)]; exact h.gone
theorem KV.set5 {G : Nat → Prop} {cs : List Value} {d : WD} {w : World} (h : KV G cs d w) {A : Option Addr} {n c : Nat} {x : List YTemp} (hx : KTemps G w A n c x) (hl : 8 ≤ cs.length) : KV G (cs.set 5 (.slice A n c)) { d with temps := x } w := by
  have g : ∀ i, i ≠ 5 → (cs.set 5 (Value.slice A n c))[i]? = cs[i]? := fun i hi => List.getElem?_set_ne (by omega)
  refine ⟨?_, ?_, ?_, ?_, ?_, ⟨A, n, c, List.getElem?_set_self (by omega), hx⟩, ?_, ?_⟩
  · rw [g 0 (by omega)]; exact h.accts
  · rw [g 1 (by omega)]; exact h.warmA
  · rw [g 2 (by omega)]; exact h.warmS
  · rw [g 3 (by omega)]; exact h.refund
  · rw [g 4 (by omega)]; exact h.logs
  · rw [g 6 (by omega)]; exact h.made
  · rw [g 7 (by omega)]; exact h.gone
theorem KV.set6 {G : Nat → Prop} {cs : List Value} {d : WD} {w : World} (h : KV G cs d w) {A : Option Addr} {n c : Nat} {x : List (List Int)} (hx : KAddrs G w A n c x) (hl : 8 ≤ cs.length) : KV G (cs.set 6 (.slice A n c)) { d with made := x } w := by
  have g : ∀ i, i ≠ 6 → (cs.set 6 (Value.slice A n c))[i]? = cs[i]? := fun i hi => List.getElem?_set_ne (by omega)
  refine ⟨?_, ?_, ?_, ?_, ?_, ?_, ⟨A, n, c, List.getElem?_set_self (by omega), hx⟩, ?_⟩
  · rw [g 0 (by omega)]; exact h.accts
  · rw [g 1 (by omega)]; exact h.warmA
  · rw [g 2 (by omega)]; exact h.warmS
  · rw [g 3 (by omega)]; exact h.refund
  · rw [g 4 (by omega)]; exact h.logs
  · rw [g 5 (by omega)]; exact h.temps
  · rw [g 7 (by omega)]; exact h.gone
theorem KV.set7 {G : Nat → Prop} {cs : List Value} {d : WD} {w : World} (h : KV G cs d w) {A : Option Addr} {n c : Nat} {x : List (List Int)} (hx : KAddrs G w A n c x) (hl : 8 ≤ cs.length) : KV G (cs.set 7 (.slice A n c)) { d with gone := x } w := by
  have g : ∀ i, i ≠ 7 → (cs.set 7 (Value.slice A n c))[i]? = cs[i]? := fun i hi => List.getElem?_set_ne (by omega)
  refine ⟨?_, ?_, ?_, ?_, ?_, ?_, ?_, ⟨A, n, c, List.getElem?_set_self (by omega), hx⟩⟩
  · rw [g 0 (by omega)]; exact h.accts
  · rw [g 1 (by omega)]; exact h.warmA
  · rw [g 2 (by omega)]; exact h.warmS
  · rw [g 3 (by omega)]; exact h.refund
  · rw [g 4 (by omega)]; exact h.logs
  · rw [g 5 (by omega)]; exact h.temps
  · rw [g 6 (by omega)]; exact h.made

theorem KW.kv {G : Nat → Prop} {cs : List Value} {d : WD} {w : World} (h : KW G cs d w) : KV G cs d w := by
  obtain ⟨a4, l4, e4, h4⟩ := h.logs
  exact ⟨h.accts, h.warmA, h.warmS, h.refund, ⟨a4, l4, l4, e4, h4.len⟩, h.temps, h.made, h.gone⟩

end Go.Proofs.YgcsakGreat
