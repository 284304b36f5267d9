/-
  the state while a transaction is at work.
-/
import Derived.Test.YgcsakGreatKfB
namespace Go.Proofs.YgcsakGreat
set_option linter.unusedVariables false
set_option linter.unusedSimpArgs false
set_option maxRecDepth 100000
open Go.RowKit

/-- the rest of a state, plainly -/
structure XD where
  start : List YTemp
  ret : List Int
  status : Nat
  applied : Nat
  limit : Nat
  txgas : Nat
  left : Nat
  price : Nat
  total : Nat
  origin : List Int
  made : List Int
  coin : List Int
  number : Nat
  time : Nat
  glimit : Nat
  randao : List Int
  chain : List Int
  fee : List Int
def envRow (x : XD) : List Value := bv x.coin ++ ([.int .u64 x.number, .int .u64 x.time, .int .u64 x.glimit] ++ (bv x.randao ++ (bv x.chain ++ bv x.fee)))
structure XB (x : XD) : Prop where
  start : ∀ t ∈ x.start, t.key < P256 ∧ t.val < P256
  nstart : x.start.length ≤ 900000
  ret : x.ret.length ≤ 1000000
  limit : x.limit ≤ 1048576
  txgas : x.txgas ≤ 1048576
  left : x.left ≤ 1048576
  price : x.price < P256
  total : x.total < BIG
  origin : IsAddr x.origin
  made : IsAddr x.made
  coin : IsAddr x.coin
  number : x.number < 256 ^ 8
  time : x.time < 256 ^ 8
  glimit : x.glimit < 256 ^ 8
  randao : IsW x.randao
  chain : IsW x.chain
  fee : IsW x.fee
structure XS (G : Nat → Prop) (cs : List Value) (x : XD) (w : World) : Prop where
  start : ∃ ao l c, cs[8]? = some (.slice ao l c) ∧ KTemps G w ao l c x.start
  ret : ∃ A l c, cs[10]? = some (.slice A l c) ∧ KSrc G w A l c x.ret
  status : cs[12]? = some (.int .u8 x.status)
  applied : cs[13]? = some (.int .u8 x.applied)
  limit : ∃ A k c, cs[14]? = some (.slice A k c) ∧ KNat G w A k c x.limit
  txgas : ∃ A k c, cs[15]? = some (.slice A k c) ∧ KNat G w A k c x.txgas
  left : ∃ A k c, cs[16]? = some (.slice A k c) ∧ KNat G w A k c x.left
  price : ∃ A k c, cs[17]? = some (.slice A k c) ∧ KNat G w A k c x.price
  total : ∃ A k c, cs[18]? = some (.slice A k c) ∧ KNat G w A k c x.total
  origin : ∀ i, i < 20 → cs[19 + i]? = (bv x.origin)[i]?
  made : ∀ i, i < 20 → cs[39 + i]? = (bv x.made)[i]?
  env : ∀ i, i < 119 → cs[59 + i]? = (envRow x)[i]?
  hashes : ∃ A k c rows, cs[178]? = some (.slice A k c) ∧ StabS G (fun w => Rws w 32 A k c rows) w ∧ (∀ r ∈ rows, ∃ a, r = bv a ∧ IsW a) ∧ k ≤ 4
section
variable {G G' : Nat → Prop} {cs cs' : List Value} {x : XD} {w w' : World}
theorem XS.go (h : XS G cs x w) (hc : ChgS G w w') : XS G cs x w' := by
  obtain ⟨⟨a8, l8, c8, e8, h8⟩, ⟨a10, l10, c10, e10, h10⟩, e12, e13, ⟨a14, l14, c14, e14, h14⟩, ⟨a15, l15, c15, e15, h15⟩, ⟨a16, l16, c16, e16, h16⟩, ⟨a17, l17, c17, e17, h17⟩, ⟨a18, l18, c18, e18, h18⟩, h19, h39, h59, ⟨A, k, c, rows, p1, p2, p3, p4⟩⟩ := h
  exact ⟨⟨a8, l8, c8, e8, h8.go hc⟩, ⟨a10, l10, c10, e10, h10.kp hc⟩, e12, e13, ⟨a14, l14, c14, e14, h14.kp hc⟩, ⟨a15, l15, c15, e15, h15.kp hc⟩, ⟨a16, l16, c16, e16, h16.kp hc⟩, ⟨a17, l17, c17, e17, h17.kp hc⟩, ⟨a18, l18, c18, e18, h18.kp hc⟩, h19, h39, h59, ⟨A, k, c, rows, p1, p2.kp hc, p3, p4⟩⟩
theorem XS.to (h : XS G cs x w) (hs : ∀ i, G' i → i < w.heap.size → G i) : XS G' cs x w := by
  obtain ⟨⟨a8, l8, c8, e8, h8⟩, ⟨a10, l10, c10, e10, h10⟩, e12, e13, ⟨a14, l14, c14, e14, h14⟩, ⟨a15, l15, c15, e15, h15⟩, ⟨a16, l16, c16, e16, h16⟩, ⟨a17, l17, c17, e17, h17⟩, ⟨a18, l18, c18, e18, h18⟩, h19, h39, h59, ⟨A, k, c, rows, p1, p2, p3, p4⟩⟩ := h
  exact ⟨⟨a8, l8, c8, e8, h8.to hs⟩, ⟨a10, l10, c10, e10, h10.to hs⟩, e12, e13, ⟨a14, l14, c14, e14, h14.to hs⟩, ⟨a15, l15, c15, e15, h15.to hs⟩, ⟨a16, l16, c16, e16, h16.to hs⟩, ⟨a17, l17, c17, e17, h17.to hs⟩, ⟨a18, l18, c18, e18, h18.to hs⟩, h19, h39, h59, ⟨A, k, c, rows, p1, p2.to hs, p3, p4⟩⟩
/-- the same cells -/
theorem XS.eq (h : XS G cs x w) (he : ∀ i, 8 ≤ i → i ≠ 9 → i ≠ 11 → cs'[i]? = cs[i]?) : XS G cs' x w := by
  obtain ⟨⟨a8, l8, c8, e8, h8⟩, ⟨a10, l10, c10, e10, h10⟩, e12, e13, ⟨a14, l14, c14, e14, h14⟩, ⟨a15, l15, c15, e15, h15⟩, ⟨a16, l16, c16, e16, h16⟩, ⟨a17, l17, c17, e17, h17⟩, ⟨a18, l18, c18, e18, h18⟩, h19, h39, h59, ⟨A, k, c, rows, p1, p2, p3, p4⟩⟩ := h
  have E : ∀ i, 8 ≤ i → i ≠ 9 → i ≠ 11 → ∀ v, cs[i]? = v → cs'[i]? = v := fun i h1 h2 h3 v hv => (he i h1 h2 h3).trans hv
  exact ⟨⟨a8, l8, c8, E _ (by omega) (by omega) (by omega) _ e8, h8⟩, ⟨a10, l10, c10, E _ (by omega) (by omega) (by omega) _ e10, h10⟩, E _ (by omega) (by omega) (by omega) _ e12, E _ (by omega) (by omega) (by omega) _ e13, ⟨a14, l14, c14, E _ (by omega) (by omega) (by omega) _ e14, h14⟩, ⟨a15, l15, c15, E _ (by omega) (by omega) (by omega) _ e15, h15⟩, ⟨a16, l16, c16, E _ (by omega) (by omega) (by omega) _ e16, h16⟩, ⟨a17, l17, c17, E _ (by omega) (by omega) (by omega) _ e17, h17⟩, ⟨a18, l18, c18, E _ (by omega) (by omega) (by omega) _ e18, h18⟩, fun i hi => E _ (by omega) (by omega) (by omega) _ (h19 i hi), fun i hi => E _ (by omega) (by omega) (by omega) _ (h39 i hi), fun i hi => E _ (by omega) (by omega) (by omega) _ (h59 i hi), ⟨A, k, c, rows, E _ (by omega) (by omega) (by omega) _ p1, p2, p3, p4⟩⟩
theorem XS.setRet (h : XS G cs x w) (hl : cs.length = 179) {A : Option Addr} {l c : Nat} {xs : List Int} (hs : KSrc G w A l c xs) : XS G (cs.set 10 (.slice A l c)) { x with ret := xs } w := by
  obtain ⟨⟨a8, l8, c8, e8, h8⟩, h10, e12, e13, ⟨a14, l14, c14, e14, h14⟩, ⟨a15, l15, c15, e15, h15⟩, ⟨a16, l16, c16, e16, h16⟩, ⟨a17, l17, c17, e17, h17⟩, ⟨a18, l18, c18, e18, h18⟩, h19, h39, h59, ⟨A', k, c', rows, p1, p2, p3, p4⟩⟩ := h
  have E : ∀ i, i ≠ 10 → ∀ v, cs[i]? = v → (cs.set 10 (.slice A l c))[i]? = v := fun i h1 v hv => (List.getElem?_set_ne (Ne.symm h1)).trans hv
  exact ⟨⟨a8, l8, c8, E _ (by omega) _ e8, h8⟩, ⟨A, l, c, List.getElem?_set_self (by omega), hs⟩, E _ (by omega) _ e12, E _ (by omega) _ e13, ⟨a14, l14, c14, E _ (by omega) _ e14, h14⟩, ⟨a15, l15, c15, E _ (by omega) _ e15, h15⟩, ⟨a16, l16, c16, E _ (by omega) _ e16, h16⟩, ⟨a17, l17, c17, E _ (by omega) _ e17, h17⟩, ⟨a18, l18, c18, E _ (by omega) _ e18, h18⟩, fun i hi => E _ (by omega) _ (h19 i hi), fun i hi => E _ (by omega) _ (h39 i hi), fun i hi => E _ (by omega) _ (h59 i hi), ⟨A', k, c', rows, E _ (by omega) _ p1, p2, p3, p4⟩⟩
theorem XS.setStatus (h : XS G cs x w) (hl : cs.length = 179) (s : Nat) : XS G (cs.set 12 (.int .u8 s)) { x with status := s } w := by
  obtain ⟨⟨a8, l8, c8, e8, h8⟩, ⟨a10, l10, c10, e10, h10⟩, e12, e13, ⟨a14, l14, c14, e14, h14⟩, ⟨a15, l15, c15, e15, h15⟩, ⟨a16, l16, c16, e16, h16⟩, ⟨a17, l17, c17, e17, h17⟩, ⟨a18, l18, c18, e18, h18⟩, h19, h39, h59, ⟨A', k, c', rows, p1, p2, p3, p4⟩⟩ := h
  have E : ∀ i, i ≠ 12 → ∀ v, cs[i]? = v → (cs.set 12 (.int .u8 s))[i]? = v := fun i h1 v hv => (List.getElem?_set_ne (Ne.symm h1)).trans hv
  exact ⟨⟨a8, l8, c8, E _ (by omega) _ e8, h8⟩, ⟨a10, l10, c10, E _ (by omega) _ e10, h10⟩, List.getElem?_set_self (by omega), E _ (by omega) _ e13, ⟨a14, l14, c14, E _ (by omega) _ e14, h14⟩, ⟨a15, l15, c15, E _ (by omega) _ e15, h15⟩, ⟨a16, l16, c16, E _ (by omega) _ e16, h16⟩, ⟨a17, l17, c17, E _ (by omega) _ e17, h17⟩, ⟨a18, l18, c18, E _ (by omega) _ e18, h18⟩, fun i hi => E _ (by omega) _ (h19 i hi), fun i hi => E _ (by omega) _ (h39 i hi), fun i hi => E _ (by omega) _ (h59 i hi), ⟨A', k, c', rows, E _ (by omega) _ p1, p2, p3, p4⟩⟩
theorem XS.setLeft (h : XS G cs x w) (hl : cs.length = 179) {A : Option Addr} {l c n : Nat} (hs : KNat G w A l c n) : XS G (cs.set 16 (.slice A l c)) { x with left := n } w := by
  obtain ⟨⟨a8, l8, c8, e8, h8⟩, ⟨a10, l10, c10, e10, h10⟩, e12, e13, ⟨a14, l14, c14, e14, h14⟩, ⟨a15, l15, c15, e15, h15⟩, ⟨a16, l16, c16, e16, h16⟩, ⟨a17, l17, c17, e17, h17⟩, ⟨a18, l18, c18, e18, h18⟩, h19, h39, h59, ⟨A', k, c', rows, p1, p2, p3, p4⟩⟩ := h
  have E : ∀ i, i ≠ 16 → ∀ v, cs[i]? = v → (cs.set 16 (.slice A l c))[i]? = v := fun i h1 v hv => (List.getElem?_set_ne (Ne.symm h1)).trans hv
  exact ⟨⟨a8, l8, c8, E _ (by omega) _ e8, h8⟩, ⟨a10, l10, c10, E _ (by omega) _ e10, h10⟩, E _ (by omega) _ e12, E _ (by omega) _ e13, ⟨a14, l14, c14, E _ (by omega) _ e14, h14⟩, ⟨a15, l15, c15, E _ (by omega) _ e15, h15⟩, ⟨A, l, c, List.getElem?_set_self (by omega), hs⟩, ⟨a17, l17, c17, E _ (by omega) _ e17, h17⟩, ⟨a18, l18, c18, E _ (by omega) _ e18, h18⟩, fun i hi => E _ (by omega) _ (h19 i hi), fun i hi => E _ (by omega) _ (h39 i hi), fun i hi => E _ (by omega) _ (h59 i hi), ⟨A', k, c', rows, E _ (by omega) _ p1, p2, p3, p4⟩⟩
end

theorem KF.go0 {G : Nat → Prop} {c : Nat → Option Value} {f : FD} {w w' : World} (h : KF G c f w) (hc : ChgS G w w') (ht : Tm w w') : KF G c f w' := by
  obtain ⟨h0, h1, h2, ⟨A3, k3, n3, e3, h3⟩, ⟨A4, k4, n4, e4, h4⟩, ⟨A5, k5, n5, e5, h5⟩, ⟨A6, k6, n6, e6, h6⟩, ⟨A7, k7, n7, e7, h7⟩, ⟨A8, k8, n8, e8, h8⟩, ⟨A9, n9, e9, h9⟩, ⟨A10, k10, n10, e10, h10⟩, ⟨A11, k11, n11, e11, h11⟩, h12, h13, h14, h15, ⟨r, r1, r2, r3⟩⟩ := h
  exact ⟨h0, h1, h2, ⟨A3, k3, n3, e3, h3.kp hc⟩, ⟨A4, k4, n4, e4, h4.kp hc⟩, ⟨A5, k5, n5, e5, h5.kp hc⟩, ⟨A6, k6, n6, e6, h6.kp hc⟩, ⟨A7, k7, n7, e7, h7.kp hc⟩, ⟨A8, k8, n8, e8, h8.go hc⟩, ⟨A9, n9, e9, h9.go ht⟩, ⟨A10, k10, n10, e10, h10.kp hc⟩, ⟨A11, k11, n11, e11, h11.kp hc⟩, h12, h13, h14, h15, ⟨r, r1, r2, r3.go hc⟩⟩
/-- the frames, the top first -/
def KFs (G : Nat → Prop) (fr : List Value) (w : World) : List FD → Prop
  | [] => True
  | f :: r => KF G (cellsAt fr (60 * r.length)) f w ∧ KFs G fr w r
section
variable {G G' : Nat → Prop} {fr fr' : List Value} {w w' : World}
theorem KFs.go : ∀ {fs : List FD}, KFs G fr w fs → Mv G w w' → KFs G fr w' fs
  | [], _, _ => trivial
  | _ :: _, h, hm => ⟨h.1.go hm, KFs.go h.2 hm⟩
theorem KFs.go0 : ∀ {fs : List FD}, KFs G fr w fs → ChgS G w w' → Tm w w' → KFs G fr w' fs
  | [], _, _, _ => trivial
  | _ :: _, h, hc, ht => ⟨h.1.go0 hc ht, KFs.go0 h.2 hc ht⟩
theorem KFs.to (hs : ∀ i, G' i → i < w.heap.size → G i) (hG : ∀ i, G i → G' i) : ∀ {fs : List FD}, KFs G fr w fs → KFs G' fr w fs
  | [], _ => trivial
  | _ :: _, h => ⟨h.1.to hs hG, KFs.to hs hG h.2⟩
theorem KFs.eq : ∀ {fs : List FD}, KFs G fr w fs → (∀ i, i < 60 * fs.length → fr'[i]? = fr[i]?) → KFs G fr' w fs
  | [], _, _ => trivial
  | f :: r, h, he => by
    have hl : 60 * (f :: r).length = 60 * r.length + 60 := by rw [List.length_cons]; omega
    exact ⟨h.1.eq (fun i hi => he (60 * r.length + i) (by omega)), KFs.eq h.2 (fun i hi => he i (by omega))⟩
end

/-- the logs of the world that is at work: copies that last, or a list of its own that may be lengthened in its place -/
def NLogs (G : Nat → Prop) (w : World) (ao : Option Addr) (l c : Nat) (ms : List YLog) : Prop :=
  (c = l ∧ KLogs G w ao l c ms) ∨ ∃ g rows junk, ao = some ⟨g, 0, none⟩ ∧ G g ∧ RowT 311 w g (rows.flatten ++ junk) ∧ rows.length = l ∧ junk.length = (c - l) * 22 ∧ l ≤ c ∧ c ≤ maxLen ∧ Each (KLog G w) rows ms
section
variable {G G' : Nat → Prop} {w w' : World} {ao : Option Addr} {l c : Nat} {ms : List YLog}
theorem NLogs.go (h : NLogs G w ao l c ms) (hm : Mv G w w') : NLogs G w' ao l c ms := by
  rcases h with ⟨h1, h2⟩ | ⟨g, rows, junk, h1, h2, h3, h4, h5, h6, h7, h8⟩
  · exact .inl ⟨h1, h2.go hm.chg⟩
  · exact .inr ⟨g, rows, junk, h1, h2, hm.lg _ _ h3, h4, h5, h6, h7, h8.imp fun _ _ h => h.go hm.chg⟩
theorem NLogs.to (h : NLogs G w ao l c ms) (hs : ∀ i, G' i → i < w.heap.size → G i) (hG : ∀ i, G i → G' i) : NLogs G' w ao l c ms := by
  rcases h with ⟨h1, h2⟩ | ⟨g, rows, junk, h1, h2, h3, h4, h5, h6, h7, h8⟩
  · exact .inl ⟨h1, h2.to hs⟩
  · exact .inr ⟨g, rows, junk, h1, hG _ h2, h3, h4, h5, h6, h7, h8.imp fun _ _ h => h.to hs⟩
theorem NLogs.len (h : NLogs G w ao l c ms) : ms.length = l := by
  rcases h with ⟨h1, h2⟩ | ⟨g, rows, junk, h1, h2, h3, h4, h5, h6, h7, h8⟩
  · exact h2.len
  · rw [← h8.len, h4]
/-- told without a set: they can be copied -/
theorem NLogs.rows (h : NLogs G w ao l c ms) (hl : l ≤ 900000) : ∃ rows, Rws w 22 ao l c rows ∧ Each (KLog G w) rows ms := by
  rcases h with ⟨h1, rows, h2, h3⟩ | ⟨g, rows, junk, h1, h2, h3, h4, h5, h6, h7, h8⟩
  · exact ⟨rows, h2.now, h3⟩
  · refine ⟨rows, ?_, h8⟩
    have hsz : ∀ r ∈ rows, r.length = 22 := h8.all (p := fun r => r.length = 22) (fun r d h => h.len)
    refine ⟨h4, h6, (by first | exact h7 | exact Nat.le_trans h6 h7), hsz, fun hn => (by rw [h1] at hn; cases hn), fun hl0 => ⟨g, 0, h1, h3.lt, fun i hi j v hv => ?_⟩⟩
    rw [h3.cell]
    have hfl := flat_len 22 rows hsz
    have hget := flat_get 22 rows i hsz (by omega) j v hv
    have hlt : i * 22 + j < rows.flatten.length := by
      rcases Nat.lt_or_ge (i * 22 + j) rows.flatten.length with h' | h'
      · exact h'
      · rw [List.getElem?_eq_none h'] at hget; cases hget
    rw [Nat.zero_add, List.getElem?_append_left hlt]
    exact hget
end

/-- a transaction at work -/
structure SR (G : Nat → Prop) (bw gf : Nat) (cs fr : List Value) (d : WD) (fs : List FD) (x : XD) (w : World) : Prop where
  cw : CW G bw cs d w
  logs : ∃ ao l c, cs[4]? = some (.slice ao l c) ∧ NLogs G w ao l c d.logs
  xs : XS G cs x w
  phase : cs[11]? = some (.int .u8 1)
  ne : gf ≠ bw
  row : RowT 194 w gf fr
  g : G gf
  frames : ∃ cap, cs[9]? = some (.slice (some ⟨gf, 0, none⟩) fs.length cap) ∧ (fs.length = cap ∨ fr.length = 60 * cap) ∧ fs.length ≤ cap ∧ cap ≤ maxLen
  len : 60 * fs.length ≤ fr.length
  kfs : KFs G fr w fs
section
variable {G : Nat → Prop} {bw gf : Nat} {cs cs' fr fr' : List Value} {d d' : WD} {f f' : FD} {r fs : List FD} {x x' : XD} {w w' : World}
theorem SR.logsGo (h : SR G bw gf cs fr d fs x w) (hm : Mv G w w') (hc : cs'[4]? = cs[4]?) (hd : d'.logs = d.logs) : ∃ ao l c, cs'[4]? = some (.slice ao l c) ∧ NLogs G w' ao l c d'.logs := by
  obtain ⟨ao, l, c, h1, h2⟩ := h.logs
  rw [hc, hd]
  exact ⟨ao, l, c, h1, h2.go hm⟩
theorem SR.kept (h : SR G bw gf cs fr d fs x w) (hb : Below w.heap.size w w') : SR G bw gf cs fr d fs x w' :=
  ⟨h.cw.kept hb, h.logsGo (Mv.of hb) rfl rfl, h.xs.go (ChgS.of hb), h.phase, h.ne, h.row.kept hb, h.g, h.frames, h.len, h.kfs.go (Mv.of hb)⟩
theorem SR.lt (h : SR G bw gf cs fr d fs x w) : bw < w.heap.size := h.cw.lt
/-- the world has turned -/
theorem SR.world (h : SR G bw gf cs fr d fs x w) (hp : WPost G bw cs d' w w') (hl : d'.logs = d.logs := by rfl) : ∃ cs', SR G bw gf cs' fr d' fs x w' ∧ Mv G w w' ∧ Same8 cs cs' ∧ Chg bw w w' := by
  obtain ⟨cs', h1, h2, h4, h3⟩ := hp
  have hm : Mv G w w' := Mv.chain h.cw.row h.cw.g h3
  obtain ⟨cap, e1, e2⟩ := h.frames
  exact ⟨cs', ⟨h1, h.logsGo hm h4 hl, (h.xs.go hm.chg).eq (fun i hi _ _ => h2 i hi), (h2 11 (by omega)).trans h.phase, h.ne, h3.row h.row h.ne, h.g, ⟨cap, (h2 9 (by omega)).trans e1, e2⟩, h.len, h.kfs.go hm⟩, hm, h2, h3⟩
theorem SR.fx (h : SR G bw gf cs fr d (f :: r) x w) : FX G gf (60 * r.length) fr f w := by
  have hl := h.len
  rw [List.length_cons] at hl
  exact ⟨h.row, by omega, h.g, h.cw.ther, h.kfs.1⟩
/-- the top frame has turned: no block but the frames' -/
theorem SR.top (h : SR G bw gf cs fr d (f :: r) x w) (hx : FX G gf (60 * r.length) fr' f' w') (hl : fr'.length = fr.length) (he : ∀ i, i < 60 * r.length → fr'[i]? = fr[i]?) (hc : Chg gf w w') : SR G bw gf cs fr' d (f' :: r) x w' := by
  have hm : Mv G w w' := Mv.frame h.row h.g hc
  obtain ⟨cap, e1, e2, e3, e4⟩ := h.frames
  have hlen := h.len
  refine ⟨h.cw.turn (hc.row h.cw.row (Ne.symm h.ne)) h.cw.len (fun _ _ => rfl) hm.chg, h.logsGo hm rfl rfl, h.xs.go hm.chg, h.phase, h.ne, hx.row, h.g, ⟨cap, e1, ?_, e3, e4⟩, by rw [hl]; exact hlen, hx.kf, (h.kfs.2.go hm).eq he⟩
  rw [hl]; exact e2
theorem SR.put (h : SR G bw gf cs fr d (f :: r) x w) {j : Nat} (hj : j < 60) {v : Value} (hk : KF G (upd (cellsAt fr (60 * r.length)) j v) f' w) : SR G bw gf cs (fr.set (60 * r.length + j) v) d (f' :: r) x (w.setCell ⟨gf, 60 * r.length + j, none⟩ v) ∧ Only gf w (w.setCell ⟨gf, 60 * r.length + j, none⟩ v) := by
  have ho : Only gf w (w.setCell ⟨gf, 60 * r.length + j, none⟩ v) := (Only.refl _ _).setCell _ _
  exact ⟨h.top (h.fx.put hj hk) (List.length_set ..) (fun i hi => List.getElem?_set_ne (by omega)) (Chg.ofOnly ho), ho⟩
/-- memory has turned -/
theorem SR.mem (h : SR G bw gf cs fr d fs x w) (hm : Mv G w w') (hr : ∀ k T (cs : List Value), T ≠ 5 → RowT T w k cs → RowT T w' k cs) : SR G bw gf cs fr d fs x w' :=
  ⟨h.cw.turn (hr _ _ _ (by decide) h.cw.row) h.cw.len (fun _ _ => rfl) hm.chg, h.logsGo hm rfl rfl, h.xs.go hm.chg, h.phase, h.ne, hr _ _ _ (by decide) h.row, h.g, h.frames, h.len, h.kfs.go hm⟩
/-- a cell of the chain beyond the world's -/
theorem SR.ret (h : SR G bw gf cs fr d fs x w) {A : Option Addr} {l c : Nat} {xs : List Int} (hs : KSrc G w A l c xs) : SR G bw gf (cs.set 10 (.slice A l c)) fr d fs { x with ret := xs } (w.setCell ⟨bw, 10, none⟩ (.slice A l c)) ∧ Only bw w (w.setCell ⟨bw, 10, none⟩ (.slice A l c)) := by
  have ho : Only bw w (w.setCell ⟨bw, 10, none⟩ (.slice A l c)) := (Only.refl _ _).setCell _ _
  have hm : Mv G w (w.setCell ⟨bw, 10, none⟩ (.slice A l c)) := Mv.chain h.cw.row h.cw.g (Chg.ofOnly ho)
  obtain ⟨cap, e1, e2⟩ := h.frames
  exact ⟨⟨h.cw.set 10 (by omega) _, h.logsGo hm (List.getElem?_set_ne (by omega)) rfl, (h.xs.setRet h.cw.len hs).go hm.chg, (List.getElem?_set_ne (by omega)).trans h.phase, h.ne, h.row.only ho h.ne, h.g, ⟨cap, (List.getElem?_set_ne (by omega)).trans e1, e2⟩, h.len, h.kfs.go hm⟩, ho⟩
end

end Go.Proofs.YgcsakGreat
