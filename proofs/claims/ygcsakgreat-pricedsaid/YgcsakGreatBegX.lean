/-
  the chain's state while Begin is at work, with the code of one account.
-/
import Derived.Test.YgcsakGreatEntX
namespace Go.Proofs.YgcsakGreat
set_option linter.unusedVariables false
set_option linter.unusedSimpArgs false
set_option maxRecDepth 100000
open Go.RowKit

theorem lookY_putL (d : YAcct) (a : List Int) (h : ¬ d.addr = a) : ∀ (ds : List YAcct) (laid : Bool), lookY (putL d laid ds) a = lookY ds a
  | [], laid => by
    cases laid
    · simp [putL, lookY, h]
    · simp [putL]
  | x :: xs, laid => by
    have ih := lookY_putL d a h xs (laid || !beforeB x.addr d.addr)
    have hd : ∀ ys, lookY (d :: ys) a = lookY ys a := fun ys => by rw [lookY, if_neg h]
    have hx : lookY ((if x.addr = d.addr then [] else [x]) ++ putL d (laid || !beforeB x.addr d.addr) xs) a = lookY (x :: xs) a := by
      by_cases hxd : x.addr = d.addr
      · rw [if_pos hxd, List.nil_append, ih, lookY, if_neg (fun e => h (hxd.symm.trans e))]
      · rw [if_neg hxd, List.singleton_append, lookY, lookY, ih]
    rw [putL, List.append_assoc]
    split
    · rw [List.singleton_append, hd, hx]
    · rw [List.nil_append, hx]
theorem lookY_putY (ds : List YAcct) (d : YAcct) (a : List Int) (h : ¬ d.addr = a) : lookY (putY ds d) a = lookY ds a := lookY_putL d a h ds _

theorem lookY_addr (a : List Int) : ∀ ds : List YAcct, (lookY ds a).addr = a
  | [] => rfl
  | d :: ds => by
    rw [lookY]
    split
    · assumption
    · exact lookY_addr a ds

/-- the account's code; no account has a slot -/
def Trk (tg : List Int) (code : List Int) (ds : List YAcct) : Prop := (lookY ds tg).code = code ∧ ∀ d ∈ ds, d.slots = []
theorem Trk.look {tg code : List Int} {ds : List YAcct} (h : Trk tg code ds) (a : List Int) : (lookY ds a).slots = [] := by
  rcases lookY_mem ds a with hm | hm
  · exact h.2 _ hm
  · rw [hm]; rfl
theorem Trk.put {tg code : List Int} {ds : List YAcct} (h : Trk tg code ds) {d : YAcct} (hd : ¬ d.addr = tg) (hs : d.slots = []) : Trk tg code (putY ds d) := by
  refine ⟨by rw [lookY_putY ds d tg hd]; exact h.1, fun x hx => ?_⟩
  rcases putY_mem ds d x hx with rfl | hm
  · exact hs
  · exact h.2 x hm

structure BX (tg code : List Int) (bw : Nat) (cs : List Value) (cb fee : List Int) (na nw nm : Nat) (w : World) : Prop where
  bs : BS bw cs cb fee na nw nm w
  accts : ∃ ao l c ds, cs[0]? = some (.slice ao l c) ∧ SAccts bw w ao l c ds ∧ l ≤ na ∧ Fine ds ∧ Trk tg code ds
section
variable {tg code : List Int} {bw : Nat} {cs : List Value} {cb fee : List Int} {na nw nm : Nat} {w : World}
theorem BX.turn {cs' : List Value} {w' : World} (h : BX tg code bw cs cb fee na nw nm w) (hr : RowT 107 w' bw cs') (hl : cs'.length = 179) (he : ∀ i, i < 8 ∨ 59 ≤ i → cs'[i]? = cs[i]?) (hc : Chg bw w w') : BX tg code bw cs' cb fee na nw nm w' := by
  obtain ⟨ao, l, c, ds, h1, h2, h3, h4, h5⟩ := h.accts
  exact ⟨h.bs.turn hr hl he hc, ao, l, c, ds, by rw [he 0 (by omega)]; exact h1, h2.go hc, h3, h4, h5⟩
theorem BX.kept {w' : World} (h : BX tg code bw cs cb fee na nw nm w) (hb : Below w.heap.size w w') : BX tg code bw cs cb fee na nw nm w' :=
  h.turn (h.bs.row.kept hb) h.bs.len (fun _ _ => rfl) (Chg.of hb)
theorem BX.lt (h : BX tg code bw cs cb fee na nw nm w) : bw < w.heap.size := h.bs.row.lt
theorem BX.row (h : BX tg code bw cs cb fee na nw nm w) : RowT 107 w bw cs := h.bs.row
theorem BX.len (h : BX tg code bw cs cb fee na nw nm w) : cs.length = 179 := h.bs.len
theorem BX.set (h : BX tg code bw cs cb fee na nw nm w) (i : Nat) (h8 : 8 ≤ i) (hi : i < 59) (v : Value) : BX tg code bw (cs.set i v) cb fee na nw nm (w.setCell ⟨bw, i, none⟩ v) :=
  h.turn (h.row.set i v) (by rw [List.length_set]; exact h.len) (fun j hj => List.getElem?_set_ne (by omega)) (Chg.ofOnly ((Only.refl bw w).setCell i v))
theorem BX.spl {vs : List Value} {w' : World} (h : BX tg code bw cs cb fee na nw nm w) (o : Nat) (h8 : 8 ≤ o) (hi : o + vs.length ≤ 59) (hr : RowT 107 w' bw (spl cs o vs)) (ho : Only bw w w') : BX tg code bw (spl cs o vs) cb fee na nw nm w' :=
  h.turn hr (by rw [spl_len _ _ _ (by rw [h.len]; omega)]; exact h.len) (fun j hj => spl_get (by rw [h.len]; omega) j (by omega)) (Chg.ofOnly ho)
def StepX (tg code : List Int) (bw : Nat) (cs : List Value) (cb fee : List Int) (na nw nm : Nat) (w : World) (e : Ending) (w' : World) : Prop :=
  e = .returned (.tuple #[]) ∧ ∃ cs', BX tg code bw cs' cb fee na nw nm w' ∧ Same8 cs cs' ∧ Chg bw w w'
theorem BX.setNonce (h : BX tg code bw cs cb fee na nw nm w) (hna : na ≤ 1000000) (a : List Int) (ha : IsAddr a) (hat : ¬ a = tg) (A : Option Addr) (k c2 m : Nat) (hn : Stab bw (fun w => IsNat w A k c2 m) w) (hm : m < BIG) :
    Calls Sakg.prog 104 #[.pointer (some ⟨bw, 0, none⟩), .agg (bv a).toArray, .slice A k c2] w (StepX tg code bw cs cb fee (na + 1) nw nm w) := by
  obtain ⟨ao, l, c, ds, h1, h2, h3, h4, h5⟩ := h.accts
  refine (setNonce_any 107 bw cs w ao l c ds h2 h.row h1 (by omega) h4.bnd a ha A k c2 m hn hm).mono ?_
  rintro e w' ⟨he, A', n', c', k1, k2, k3, k4⟩
  obtain ⟨f1, f2, f3, f4, f5⟩ := h4.look a
  have hf : Fine (putY ds { lookY ds a with nonce := m }) := h4.put ⟨hm, f2, f3, f4, f5⟩
  have hb := h.bs.turn0 (na' := na + 1) k1 k2 (by omega) hf k4
  exact ⟨he, _, ⟨hb, A', n', c', _, List.getElem?_set_self (by rw [h.len]; omega), k2, by omega, hf, h5.put (by show ¬ (lookY ds a).addr = tg; rw [lookY_addr]; exact hat) (h5.look a)⟩, Same8.set (by omega) _, k4⟩
theorem BX.setBalance (h : BX tg code bw cs cb fee na nw nm w) (hna : na ≤ 1000000) (a : List Int) (ha : IsAddr a) (hat : ¬ a = tg) (A : Option Addr) (k c2 m : Nat) (hn : Stab bw (fun w => IsNat w A k c2 m) w) (hm : m < 256 ^ 34) :
    Calls Sakg.prog 105 #[.pointer (some ⟨bw, 0, none⟩), .agg (bv a).toArray, .slice A k c2] w (StepX tg code bw cs cb fee (na + 1) nw nm w) := by
  obtain ⟨ao, l, c, ds, h1, h2, h3, h4, h5⟩ := h.accts
  refine (setBalance_any 107 bw cs w ao l c ds h2 h.row h1 (by omega) h4.bnd a ha A k c2 m hn (Nat.lt_of_lt_of_le hm pow34)).mono ?_
  rintro e w' ⟨he, A', n', c', k1, k2, k3, k4⟩
  obtain ⟨f1, f2, f3, f4, f5⟩ := h4.look a
  have hf : Fine (putY ds { lookY ds a with bal := m }) := h4.put ⟨f1, hm, f3, f4, f5⟩
  have hb := h.bs.turn0 (na' := na + 1) k1 k2 (by omega) hf k4
  exact ⟨he, _, ⟨hb, A', n', c', _, List.getElem?_set_self (by rw [h.len]; omega), k2, by omega, hf, h5.put (by show ¬ (lookY ds a).addr = tg; rw [lookY_addr]; exact hat) (h5.look a)⟩, Same8.set (by omega) _, k4⟩
theorem BX.warm (h : BX tg code bw cs cb fee na nw nm w) (hnw : nw ≤ 1000000) (a : List Int) (ha : IsAddr a) :
    Calls Sakg.prog 106 #[.pointer (some ⟨bw, 0, none⟩), .agg (bv a).toArray] w (StepX tg code bw cs cb fee na (nw + 1) nm w) := by
  obtain ⟨ao, l, c, ds, h1, h2, h3, h4, h5⟩ := h.accts
  obtain ⟨ao', l', c', als, k1, k2, k3⟩ := h.bs.warmA
  refine (warm_any 107 bw cs w ao' l' c' als k2 h.row k1 (by omega) a ha).mono ?_
  rintro e w' ⟨he, A', n', c2, als', j1, j2, j3, j4, j5⟩
  exact ⟨he, _, ⟨h.bs.turn1 j1 j2 (by omega) j5, ao, l, c, ds, by rw [List.getElem?_set_ne (by omega)]; exact h1, h2.go j5, h3, h4, h5⟩, Same8.set (by omega) _, j5⟩
/-- the account whose code is known -/
theorem BX.account {wz : World} (h : BX tg code bw cs cb fee na nw nm w) (hna : na ≤ 1000000) (hc : Below w.heap.size w wz) (ha : IsAddr tg) :
    Calls Sakg.prog 99 #[.pointer (some ⟨bw, 0, none⟩), .agg (bv tg).toArray] wz fun e w' => ∃ r x, e = .returned (.agg r.toArray) ∧ SAcct bw w r x ∧ FineA x ∧ x.code = code ∧ Below wz.heap.size wz w' := by
  obtain ⟨ao, l, c, ds, h1, h2, h3, h4, h5⟩ := h.accts
  refine (h2.accountAt (Chg.of hc) (by rw [(h.row.kept hc).cell]; exact h1) tg ha (by omega)).mono ?_
  rintro e w' ⟨r, he, k1, k2⟩
  exact ⟨r, _, he, k1, h4.look tg, h5.1, k2⟩
theorem BX.cell (h : BX tg code bw cs cb fee na nw nm w) {i : Nat} {v : Value} (hv : cs[i]? = some v) : w.cell? ⟨bw, i, none⟩ = some v := by
  rw [h.row.cell]; exact hv
theorem BX.any (h : BX tg code bw cs cb fee na nw nm w) {i : Nat} (hi : i < 179) : ∃ v, w.cell? ⟨bw, i, none⟩ = some v := by
  rw [h.row.cell, List.getElem?_eq_getElem (by rw [h.len]; exact hi)]
  exact ⟨_, rfl⟩
theorem BX.feeR (h : BX tg code bw cs cb fee na nw nm w) : w.rangeAt bw 146 (bv fee) := h.bs.fee
theorem BX.coinR (h : BX tg code bw cs cb fee na nw nm w) : w.rangeAt bw 59 (bv cb) := h.bs.coinR
end

end Go.Proofs.YgcsakGreat
