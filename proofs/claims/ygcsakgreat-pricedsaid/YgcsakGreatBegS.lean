/-
  the chain's state while Begin is at work: what its functions ask and leave.
-/
import Derived.Test.YgcsakGreatRun4
import Derived.Test.YgcsakGreatStA
namespace Go.Proofs.YgcsakGreat
set_option linter.unusedVariables false
set_option linter.unusedSimpArgs false
set_option maxRecDepth 100000
open Go.RowKit

/-- an account within bounds -/
def FineA (d : YAcct) : Prop := d.nonce < BIG ∧ d.bal < 256 ^ 34 ∧ d.code.length ≤ 100000 ∧ d.slots.length ≤ 100000 ∧ ∀ s ∈ d.slots, s.1 < BIG ∧ s.2 < BIG
def Fine (ds : List YAcct) : Prop := ∀ d ∈ ds, FineA d
theorem pow34 : (256 : Nat) ^ 34 ≤ BIG := big_pow 34 (by omega)
theorem Fine.bnd {ds : List YAcct} (h : Fine ds) : Bnd ds := fun d hd => ⟨(h d hd).1, Nat.lt_of_lt_of_le (h d hd).2.1 pow34⟩
theorem Fine.bal {ds : List YAcct} (h : Fine ds) : Bal (256 ^ 34) ds := fun d hd => (h d hd).2.1
theorem FineA.zero (a : List Int) : FineA (zeroAcct a) := ⟨big_pos, Nat.pow_pos (by omega), by simp [zeroAcct], by simp [zeroAcct], fun s hs => by simp [zeroAcct] at hs⟩
theorem Fine.look {ds : List YAcct} (h : Fine ds) (a : List Int) : FineA (lookY ds a) := by
  rcases lookY_mem ds a with hm | hm
  · exact h _ hm
  · rw [hm]; exact FineA.zero a
theorem Fine.put {ds : List YAcct} (h : Fine ds) {d : YAcct} (hd : FineA d) : Fine (putY ds d) := fun x hx => by
  rcases putY_mem ds d x hx with rfl | hm
  · exact hd
  · exact h x hm
theorem Fine.getD {ds : List YAcct} (h : Fine ds) (i : Nat) : FineA (ds.getD i (zeroAcct [])) := by
  rw [List.getD_eq_getElem?_getD]
  cases hx : ds[i]? with
  | none => exact FineA.zero []
  | some x => exact h x (List.mem_of_getElem? hx)

/-- the state -/
structure BS (bw : Nat) (cs : List Value) (cb fee : List Int) (na nw nm : Nat) (w : World) : Prop where
  row : RowT 107 w bw cs
  len : cs.length = 179
  accts : ∃ ao l c ds, cs[0]? = some (.slice ao l c) ∧ SAccts bw w ao l c ds ∧ l ≤ na ∧ Fine ds
  warmA : ∃ ao l c als, cs[1]? = some (.slice ao l c) ∧ SAddrs bw w ao l c als ∧ l ≤ nw
  warmS : ∃ ao l c ms, cs[2]? = some (.slice ao l c) ∧ SMarks bw w ao l c ms ∧ l ≤ nm
  c3 : cs[3]? = some nilS
  c4 : cs[4]? = some nilS
  c5 : cs[5]? = some nilS
  c6 : cs[6]? = some nilS
  c7 : cs[7]? = some nilS
  coin : (cs.drop 59).take 20 = bv cb
  base : (cs.drop 146).take 32 = bv fee

def Same8 (cs cs' : List Value) : Prop := ∀ i, 8 ≤ i → cs'[i]? = cs[i]?
theorem Same8.refl (cs : List Value) : Same8 cs cs := fun _ _ => rfl
theorem Same8.trans {a b c : List Value} (h : Same8 a b) (k : Same8 b c) : Same8 a c := fun i hi => (k i hi).trans (h i hi)
theorem Same8.set {cs : List Value} {i : Nat} (hi : i < 8) (v : Value) : Same8 cs (cs.set i v) := fun j hj => List.getElem?_set_ne (by omega)
theorem Same8.range {cs cs' : List Value} (h : Same8 cs cs') (o n : Nat) (ho : 8 ≤ o) : (cs'.drop o).take n = (cs.drop o).take n := by
  apply List.ext_getElem?
  intro j
  rw [List.getElem?_take, List.getElem?_take]
  split
  · rw [List.getElem?_drop, List.getElem?_drop, h (o + j) (by omega)]
  · rfl
theorem range_eq {cs cs' : List Value} (o n : Nat) (h : ∀ i, o ≤ i → cs'[i]? = cs[i]?) : (cs'.drop o).take n = (cs.drop o).take n := by
  apply List.ext_getElem?
  intro j
  rw [List.getElem?_take, List.getElem?_take]
  split
  · rw [List.getElem?_drop, List.getElem?_drop, h (o + j) (by omega)]
  · rfl

theorem BS.turn {bw : Nat} {cs cs' : List Value} {cb fee : List Int} {na nw nm : Nat} {w w' : World} (h : BS bw cs cb fee na nw nm w) (hr : RowT 107 w' bw cs') (hl : cs'.length = 179) (he : ∀ i, i < 8 ∨ 59 ≤ i → cs'[i]? = cs[i]?) (hc : Chg bw w w') : BS bw cs' cb fee na nw nm w' := by
  obtain ⟨ao, l, c, ds, h1, h2, h3, h4⟩ := h.accts
  obtain ⟨ao', l', c', als, k1, k2, k3⟩ := h.warmA
  obtain ⟨ao'', l'', c'', ms, m1, m2, m3⟩ := h.warmS
  refine ⟨hr, hl, ⟨ao, l, c, ds, by rw [he 0 (by omega)]; exact h1, h2.go hc, h3, h4⟩, ⟨ao', l', c', als, by rw [he 1 (by omega)]; exact k1, Stab.go k2 hc, k3⟩, ⟨ao'', l'', c'', ms, by rw [he 2 (by omega)]; exact m1, m2.go hc, m3⟩, ?_, ?_, ?_, ?_, ?_, ?_, ?_⟩
  · rw [he 3 (by omega)]; exact h.c3
  · rw [he 4 (by omega)]; exact h.c4
  · rw [he 5 (by omega)]; exact h.c5
  · rw [he 6 (by omega)]; exact h.c6
  · rw [he 7 (by omega)]; exact h.c7
  · rw [range_eq 59 20 (fun i hi => he i (.inr hi))]; exact h.coin
  · rw [range_eq 146 32 (fun i hi => he i (.inr (by omega)))]; exact h.base
theorem BS.kept {bw : Nat} {cs : List Value} {cb fee : List Int} {na nw nm : Nat} {w w' : World} (h : BS bw cs cb fee na nw nm w) (hb : Below w.heap.size w w') : BS bw cs cb fee na nw nm w' :=
  h.turn (h.row.kept hb) h.len (fun _ _ => rfl) (Chg.of hb)
theorem BS.lt {bw : Nat} {cs : List Value} {cb fee : List Int} {na nw nm : Nat} {w : World} (h : BS bw cs cb fee na nw nm w) : bw < w.heap.size := h.row.lt
theorem BS.only {bw g : Nat} {cs : List Value} {cb fee : List Int} {na nw nm : Nat} {w w1 w' : World} (h : BS bw cs cb fee na nw nm w) (hc : Chg bw w w1) (hr : RowT 107 w1 bw cs) (ho : Only g w1 w') (hg : w.heap.size ≤ g) : BS bw cs cb fee na nw nm w' :=
  h.turn (hr.only ho (by have := h.lt; omega)) h.len (fun _ _ => rfl) (hc.onlyNew ho hg)
/-- a cell behind the world's is set -/
theorem BS.set {bw : Nat} {cs : List Value} {cb fee : List Int} {na nw nm : Nat} {w : World} (h : BS bw cs cb fee na nw nm w) (i : Nat) (h8 : 8 ≤ i) (hi : i < 59) (v : Value) : BS bw (cs.set i v) cb fee na nw nm (w.setCell ⟨bw, i, none⟩ v) :=
  h.turn (h.row.set i v) (by rw [List.length_set]; exact h.len) (fun j hj => List.getElem?_set_ne (by omega)) (Chg.ofOnly ((Only.refl bw w).setCell i v))
theorem spl_get {cs vs : List Value} {o : Nat} (h : o + vs.length ≤ cs.length) (i : Nat) (hi : i < o ∨ o + vs.length ≤ i) : (spl cs o vs)[i]? = cs[i]? := by
  unfold spl
  have hto : (cs.take o).length = o := by rw [List.length_take]; omega
  rcases hi with hi | hi
  · rw [List.append_assoc, List.getElem?_append_left (by omega), List.getElem?_take, if_pos hi]
  · rw [List.getElem?_append_right (by rw [List.length_append, hto]; exact hi), List.length_append, hto, List.getElem?_drop]
    congr 1
    omega
/-- cells behind the world's are set -/
theorem BS.spl {bw : Nat} {cs vs : List Value} {cb fee : List Int} {na nw nm : Nat} {w w' : World} (h : BS bw cs cb fee na nw nm w) (o : Nat) (h8 : 8 ≤ o) (hi : o + vs.length ≤ 59) (hr : RowT 107 w' bw (spl cs o vs)) (ho : Only bw w w') : BS bw (spl cs o vs) cb fee na nw nm w' :=
  h.turn hr (by rw [spl_len _ _ _ (by rw [h.len]; omega)]; exact h.len) (fun j hj => spl_get (by rw [h.len]; omega) j (by omega)) (Chg.ofOnly ho)
theorem BS.more {bw : Nat} {cs : List Value} {cb fee : List Int} {na nw nm na' nw' nm' : Nat} {w : World} (h : BS bw cs cb fee na nw nm w) (h1 : na ≤ na') (h2 : nw ≤ nw') (h3 : nm ≤ nm') : BS bw cs cb fee na' nw' nm' w := by
  obtain ⟨ao, l, c, ds, a1, a2, a3, a4⟩ := h.accts
  obtain ⟨ao', l', c', als, k1, k2, k3⟩ := h.warmA
  obtain ⟨ao'', l'', c'', ms, m1, m2, m3⟩ := h.warmS
  exact ⟨h.row, h.len, ⟨ao, l, c, ds, a1, a2, by omega, a4⟩, ⟨ao', l', c', als, k1, k2, by omega⟩, ⟨ao'', l'', c'', ms, m1, m2, by omega⟩, h.c3, h.c4, h.c5, h.c6, h.c7, h.coin, h.base⟩
/-- what a function of the state leaves -/
def Step8 (bw : Nat) (cs : List Value) (cb fee : List Int) (na nw nm : Nat) (w : World) (e : Ending) (w' : World) : Prop :=
  e = .returned (.tuple #[]) ∧ ∃ cs', BS bw cs' cb fee na nw nm w' ∧ Same8 cs cs' ∧ Chg bw w w'

theorem BS.turn0 {bw : Nat} {cs : List Value} {cb fee : List Int} {na nw nm na' : Nat} {w w' : World} (h : BS bw cs cb fee na nw nm w) {A : Option Addr} {n c : Nat} {ds : List YAcct} (hr : RowT 107 w' bw (cs.set 0 (.slice A n c))) (hs : SAccts bw w' A n c ds) (hn : n ≤ na') (hf : Fine ds) (hc : Chg bw w w') : BS bw (cs.set 0 (.slice A n c)) cb fee na' nw nm w' := by
  obtain ⟨ao', l', c', als, k1, k2, k3⟩ := h.warmA
  obtain ⟨ao'', l'', c'', ms, m1, m2, m3⟩ := h.warmS
  have g : ∀ i, i ≠ 0 → (cs.set 0 (Value.slice A n c))[i]? = cs[i]? := fun i hi => List.getElem?_set_ne (by omega)
  refine ⟨hr, by rw [List.length_set]; exact h.len, ⟨A, n, c, ds, List.getElem?_set_self (by rw [h.len]; omega), hs, hn, hf⟩, ⟨ao', l', c', als, by rw [g 1 (by omega)]; exact k1, Stab.go k2 hc, k3⟩, ⟨ao'', l'', c'', ms, by rw [g 2 (by omega)]; exact m1, m2.go hc, m3⟩, ?_, ?_, ?_, ?_, ?_, ?_, ?_⟩
  · rw [g 3 (by omega)]; exact h.c3
  · rw [g 4 (by omega)]; exact h.c4
  · rw [g 5 (by omega)]; exact h.c5
  · rw [g 6 (by omega)]; exact h.c6
  · rw [g 7 (by omega)]; exact h.c7
  · rw [range_eq 59 20 (fun i hi => g i (by omega))]; exact h.coin
  · rw [range_eq 146 32 (fun i hi => g i (by omega))]; exact h.base
theorem BS.turn1 {bw : Nat} {cs : List Value} {cb fee : List Int} {na nw nm nw' : Nat} {w w' : World} (h : BS bw cs cb fee na nw nm w) {A : Option Addr} {n c : Nat} {ds : List (List Int)} (hr : RowT 107 w' bw (cs.set 1 (.slice A n c))) (hs : SAddrs bw w' A n c ds) (hn : n ≤ nw') (hc : Chg bw w w') : BS bw (cs.set 1 (.slice A n c)) cb fee na nw' nm w' := by
  obtain ⟨ao', l', c', als, k1, k2, k3, k4⟩ := h.accts
  obtain ⟨ao'', l'', c'', ms, m1, m2, m3⟩ := h.warmS
  have g : ∀ i, i ≠ 1 → (cs.set 1 (Value.slice A n c))[i]? = cs[i]? := fun i hi => List.getElem?_set_ne (by omega)
  refine ⟨hr, by rw [List.length_set]; exact h.len, ⟨ao', l', c', als, by rw [g 0 (by omega)]; exact k1, k2.go hc, k3, k4⟩, ⟨A, n, c, ds, List.getElem?_set_self (by rw [h.len]; omega), hs, hn⟩, ⟨ao'', l'', c'', ms, by rw [g 2 (by omega)]; exact m1, m2.go hc, m3⟩, ?_, ?_, ?_, ?_, ?_, ?_, ?_⟩
  · rw [g 3 (by omega)]; exact h.c3
  · rw [g 4 (by omega)]; exact h.c4
  · rw [g 5 (by omega)]; exact h.c5
  · rw [g 6 (by omega)]; exact h.c6
  · rw [g 7 (by omega)]; exact h.c7
  · rw [range_eq 59 20 (fun i hi => g i (by omega))]; exact h.coin
  · rw [range_eq 146 32 (fun i hi => g i (by omega))]; exact h.base
theorem BS.turn2 {bw : Nat} {cs : List Value} {cb fee : List Int} {na nw nm nm' : Nat} {w w' : World} (h : BS bw cs cb fee na nw nm w) {A : Option Addr} {n c : Nat} {ds : List YMark} (hr : RowT 107 w' bw (cs.set 2 (.slice A n c))) (hs : SMarks bw w' A n c ds) (hn : n ≤ nm') (hc : Chg bw w w') : BS bw (cs.set 2 (.slice A n c)) cb fee na nw nm' w' := by
  obtain ⟨ao', l', c', als, k1, k2, k3, k4⟩ := h.accts
  obtain ⟨ao'', l'', c'', ms, m1, m2, m3⟩ := h.warmA
  have g : ∀ i, i ≠ 2 → (cs.set 2 (Value.slice A n c))[i]? = cs[i]? := fun i hi => List.getElem?_set_ne (by omega)
  refine ⟨hr, by rw [List.length_set]; exact h.len, ⟨ao', l', c', als, by rw [g 0 (by omega)]; exact k1, k2.go hc, k3, k4⟩, ⟨ao'', l'', c'', ms, by rw [g 1 (by omega)]; exact m1, Stab.go m2 hc, m3⟩, ⟨A, n, c, ds, List.getElem?_set_self (by rw [h.len]; omega), hs, hn⟩, ?_, ?_, ?_, ?_, ?_, ?_, ?_⟩
  · rw [g 3 (by omega)]; exact h.c3
  · rw [g 4 (by omega)]; exact h.c4
  · rw [g 5 (by omega)]; exact h.c5
  · rw [g 6 (by omega)]; exact h.c6
  · rw [g 7 (by omega)]; exact h.c7
  · rw [range_eq 59 20 (fun i hi => g i (by omega))]; exact h.coin
  · rw [range_eq 146 32 (fun i hi => g i (by omega))]; exact h.base

theorem BS.setNonce {bw : Nat} {cs : List Value} {cb fee : List Int} {na nw nm : Nat} {w : World} (h : BS bw cs cb fee na nw nm w) (hna : na ≤ 1000000) (a : List Int) (ha : IsAddr a) (A : Option Addr) (k c2 m : Nat) (hn : Stab bw (fun w => IsNat w A k c2 m) w) (hm : m < BIG) :
    Calls Sakg.prog 104 #[.pointer (some ⟨bw, 0, none⟩), .agg (bv a).toArray, .slice A k c2] w (Step8 bw cs cb fee (na + 1) nw nm w) := by
  obtain ⟨ao, l, c, ds, h1, h2, h3, h4⟩ := h.accts
  refine (setNonce_any 107 bw cs w ao l c ds h2 h.row h1 (by omega) h4.bnd a ha A k c2 m hn hm).mono ?_
  rintro e w' ⟨he, A', n', c', k1, k2, k3, k4⟩
  obtain ⟨f1, f2, f3, f4, f5⟩ := h4.look a
  exact ⟨he, _, h.turn0 k1 k2 (by omega) (h4.put ⟨hm, f2, f3, f4, f5⟩) k4, Same8.set (by omega) _, k4⟩
theorem BS.setBalance {bw : Nat} {cs : List Value} {cb fee : List Int} {na nw nm : Nat} {w : World} (h : BS bw cs cb fee na nw nm w) (hna : na ≤ 1000000) (a : List Int) (ha : IsAddr a) (A : Option Addr) (k c2 m : Nat) (hn : Stab bw (fun w => IsNat w A k c2 m) w) (hm : m < 256 ^ 34) :
    Calls Sakg.prog 105 #[.pointer (some ⟨bw, 0, none⟩), .agg (bv a).toArray, .slice A k c2] w (Step8 bw cs cb fee (na + 1) nw nm w) := by
  obtain ⟨ao, l, c, ds, h1, h2, h3, h4⟩ := h.accts
  refine (setBalance_any 107 bw cs w ao l c ds h2 h.row h1 (by omega) h4.bnd a ha A k c2 m hn (Nat.lt_of_lt_of_le hm pow34)).mono ?_
  rintro e w' ⟨he, A', n', c', k1, k2, k3, k4⟩
  obtain ⟨f1, f2, f3, f4, f5⟩ := h4.look a
  exact ⟨he, _, h.turn0 k1 k2 (by omega) (h4.put ⟨f1, hm, f3, f4, f5⟩) k4, Same8.set (by omega) _, k4⟩
theorem BS.warm {bw : Nat} {cs : List Value} {cb fee : List Int} {na nw nm : Nat} {w : World} (h : BS bw cs cb fee na nw nm w) (hnw : nw ≤ 1000000) (a : List Int) (ha : IsAddr a) :
    Calls Sakg.prog 106 #[.pointer (some ⟨bw, 0, none⟩), .agg (bv a).toArray] w (Step8 bw cs cb fee na (nw + 1) nm w) := by
  obtain ⟨ao, l, c, als, h1, h2, h3⟩ := h.warmA
  refine (warm_any 107 bw cs w ao l c als h2 h.row h1 (by omega) a ha).mono ?_
  rintro e w' ⟨he, A', n', c', als', k1, k2, k3, k4, k5⟩
  exact ⟨he, _, h.turn1 k1 k2 (by omega) k5, Same8.set (by omega) _, k5⟩
theorem BS.warmSlot {bw : Nat} {cs : List Value} {cb fee : List Int} {na nw nm : Nat} {w : World} (h : BS bw cs cb fee na nw nm w) (hnm : nm ≤ 1000000) (a : List Int) (ha : IsAddr a) (A : Option Addr) (k c2 m : Nat) (hn : Stab bw (fun w => IsNat w A k c2 m) w) (hm : m < BIG) :
    Calls Sakg.prog 107 #[.pointer (some ⟨bw, 0, none⟩), .agg (bv a).toArray, .slice A k c2] w (Step8 bw cs cb fee na nw (nm + 1) w) := by
  obtain ⟨ao, l, c, ms, h1, h2, h3⟩ := h.warmS
  refine (warmSlot_any 107 bw cs w ao l c ms h2 h.row h1 (by omega) a ha A k c2 m hn hm).mono ?_
  rintro e w' ⟨he, A', n', c', ms', k1, k2, k3, k4, k5⟩
  exact ⟨he, _, h.turn2 k1 k2 (by omega) k5, Same8.set (by omega) _, k5⟩
/-- move: what is behind the accounts stays -/
theorem BS.move {bw : Nat} {cs : List Value} {cb fee : List Int} {na nw nm : Nat} {w : World} (h : BS bw cs cb fee na nw nm w) (hna : na ≤ 999999) (f t : List Int) (hf : IsAddr f) (ht : IsAddr t) (A : Option Addr) (k c2 m : Nat) (hn : Stab bw (fun w => IsNat w A k c2 m) w) (hm : m < BIG) :
    Calls Sakg.prog 198 #[.pointer (some ⟨bw, 0, none⟩), .agg (bv f).toArray, .agg (bv t).toArray, .slice A k c2] w fun e w' => e = .returned (.tuple #[]) ∧ ∃ cs', RowT 107 w' bw cs' ∧ cs'.length = 179 ∧ Same8 cs cs' ∧ Chg bw w w' := by
  obtain ⟨ao, l, c, ds, h1, h2, h3, h4⟩ := h.accts
  refine (move_any 107 bw cs w ao l c ds h2 h.row h1 (by omega) h4.bnd (256 ^ 34) h4.bal (Nat.pow_pos (by omega)) (Nat.pow_le_pow_right (by omega) (by omega)) f t hf ht A k c2 m hn hm).mono ?_
  rintro e w' ⟨he, A', n', c', k1, k2, k3, k4⟩
  exact ⟨he, _, k1, by rw [List.length_set]; exact h.len, Same8.set (by omega) _, k4⟩
theorem BS.taken {bw : Nat} {cs : List Value} {cb fee : List Int} {na nw nm : Nat} {w : World} (h : BS bw cs cb fee na nw nm w) (hna : na ≤ 1000000) (a : List Int) (ha : IsAddr a) :
    Calls Sakg.prog 109 #[.pointer (some ⟨bw, 0, none⟩), .agg (bv a).toArray] w fun e w' => (∃ b, e = .returned (.bool b)) ∧ Below w.heap.size w w' := by
  obtain ⟨ao, l, c, ds, h1, h2, h3, h4⟩ := h.accts
  exact taken_any 107 bw cs w ao l c ds h2 h.row h1 (by omega) h4.bnd a ha
/-- account, told of an earlier world -/
theorem BS.account {bw : Nat} {cs : List Value} {cb fee : List Int} {na nw nm : Nat} {w wz : World} (h : BS bw cs cb fee na nw nm w) (hna : na ≤ 1000000) (hc : Below w.heap.size w wz) (a : List Int) (ha : IsAddr a) :
    Calls Sakg.prog 99 #[.pointer (some ⟨bw, 0, none⟩), .agg (bv a).toArray] wz fun e w' => ∃ r x, e = .returned (.agg r.toArray) ∧ SAcct bw w r x ∧ FineA x ∧ Below wz.heap.size wz w' := by
  obtain ⟨ao, l, c, ds, h1, h2, h3, h4⟩ := h.accts
  refine (h2.accountAt (Chg.of hc) (by rw [(h.row.kept hc).cell]; exact h1) a ha (by omega)).mono ?_
  rintro e w' ⟨r, he, k1, k2⟩
  exact ⟨r, _, he, k1, h4.look a, k2⟩
theorem BS.fee {bw : Nat} {cs : List Value} {cb fee : List Int} {na nw nm : Nat} {w : World} (h : BS bw cs cb fee na nw nm w) : w.rangeAt bw 146 (bv fee) := by
  have := h.row.range 146 32
  rwa [h.base] at this
theorem BS.coinR {bw : Nat} {cs : List Value} {cb fee : List Int} {na nw nm : Nat} {w : World} (h : BS bw cs cb fee na nw nm w) : w.rangeAt bw 59 (bv cb) := by
  have := h.row.range 59 20
  rwa [h.coin] at this
theorem BS.cell {bw : Nat} {cs : List Value} {cb fee : List Int} {na nw nm : Nat} {w : World} (h : BS bw cs cb fee na nw nm w) {i : Nat} {v : Value} (hv : cs[i]? = some v) : w.cell? ⟨bw, i, none⟩ = some v := by
  rw [h.row.cell]; exact hv
theorem BS.some {bw : Nat} {cs : List Value} {cb fee : List Int} {na nw nm : Nat} {w : World} (h : BS bw cs cb fee na nw nm w) {i : Nat} (hi : i < 179) : ∃ v, w.cell? ⟨bw, i, none⟩ = some v := by
  rw [h.row.cell, List.getElem?_eq_getElem (by rw [h.len]; exact hi)]
  exact ⟨_, rfl⟩

end Go.Proofs.YgcsakGreat
