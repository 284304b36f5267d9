/-
  yp: the chain between transactions.
-/
import Derived.Test.YgcsakGreatKrA
import Derived.Test.YgcsakGreatKrA0
import Derived.Test.YgcsakGreatKiA
import Derived.Test.YgcsakGreatKnB
namespace Go.Proofs.YgcsakGreat
set_option linter.unusedVariables false
set_option linter.unusedSimpArgs false
set_option maxRecDepth 100000
open Go.RowKit

/-- a world of accounts alone -/
def freshD (ds : List YAcct) : WD := ⟨ds, [], [], 0, [], [], [], []⟩
/-- what is left of the rest once a transaction is settled -/
def idleX (x : XD) (tot : Nat) : XD := { x with start := [], ret := [], status := 0, limit := 0, txgas := 0, left := 0, price := 0, total := tot, origin := zeros 20, made := zeros 20 }
theorem zeros_adr : IsAddr (zeros 20) := ⟨zeros_len 20, fun x hx => by rw [List.eq_of_mem_replicate hx]; omega⟩
theorem idleX_b {x : XD} (h : XB x) {tot : Nat} (ht : tot < BIG) : XB (idleX x tot) :=
  ⟨fun t ht => by simp [idleX] at ht, by simp [idleX], by simp [idleX], by simp [idleX], by simp [idleX], by simp [idleX], p256_pos, ht, zeros_adr, zeros_adr, h.coin, h.number, h.time, h.glimit, h.randao, h.chain, h.fee⟩
/-- no frame stands: no transaction is begun, or it is just being begun -/
structure SI (G : Nat → Prop) (bw p : Nat) (cs : List Value) (d : WD) (x : XD) (w : World) : Prop where
  cw : CW G bw cs d w
  logs : cs[4]? = some nilS
  dl : d.logs = []
  xs : XS G cs x w
  phase : cs[11]? = some (.int .u8 p)
  frames : cs[9]? = some nilS
section
variable {G : Nat → Prop} {bw : Nat} {cs : List Value} {d d' : WD} {ds : List YAcct} {x : XD} {w w' : World} {B : Nat}
theorem SI.kept {p : Nat} (h : SI G bw p cs d x w) (hb : Below w.heap.size w w') : SI G bw p cs d x w' := ⟨h.cw.kept hb, h.logs, h.dl, h.xs.go (ChgS.of hb), h.phase, h.frames⟩
theorem SI.lt {p : Nat} (h : SI G bw p cs d x w) : bw < w.heap.size := h.cw.lt
theorem SI.nlogs {p : Nat} (h : SI G bw p cs d x w) : ∃ ao l c, cs[4]? = some (.slice ao l c) ∧ NLogs G w ao l c d.logs := ⟨none, 0, 0, h.logs, .inl ⟨rfl, by rw [h.dl]; exact KLogs.nil G w⟩⟩
theorem SI.sb (h : SI G bw 1 cs d x w) : SB G bw cs d x w := ⟨h.cw, h.nlogs, h.xs, h.phase⟩
theorem SI.se (h : SI G bw 2 cs d x w) : SE G bw cs d x w := ⟨h.cw, h.nlogs, h.xs, h.phase, h.frames⟩
theorem SI.world {p : Nat} (h : SI G bw p cs d x w) (hp : WPost G bw cs d' w w') (hl : d'.logs = d.logs := by rfl) : ∃ cs', SI G bw p cs' d' x w' ∧ Mv G w w' ∧ Same8 cs cs' ∧ Chg bw w w' := by
  obtain ⟨cs', h1, h2, h4, h3⟩ := hp
  have hm : Mv G w w' := Mv.chain h.cw.row h.cw.g h3
  exact ⟨cs', ⟨h1, h4.trans h.logs, hl.trans h.dl, (h.xs.go hm.chg).eq (fun i hi _ _ => h2 i hi), (h2 11 (by omega)).trans h.phase, (h2 9 (by omega)).trans h.frames⟩, hm, h2, h3⟩
/-- a block of the set that is not the chain's has turned -/
theorem SI.off {p g : Nat} (h : SI G bw p cs d x w) (ho : Only g w w') (hg : G g) (hn : g ≠ bw) : SI G bw p cs d x w' := by
  have hc : ChgS G w w' := ChgS.only ho hg
  exact ⟨h.cw.turn (h.cw.row.only ho (Ne.symm hn)) h.cw.len (fun _ _ => rfl) hc, h.logs, h.dl, h.xs.go hc, h.phase, h.frames⟩
/-- cells beyond the world's are laid anew -/
theorem SI.turn {p p' : Nat} {cs' : List Value} {x' : XD} (h : SI G bw p cs d x w) (hr : RowT 107 w' bw cs') (hl : cs'.length = 179) (he : ∀ i, i < 8 → cs'[i]? = cs[i]?) (hc : ChgS G w w') (hx : XS G cs' x' w') (h11 : cs'[11]? = some (.int .u8 p')) (h9 : cs'[9]? = some nilS) : SI G bw p' cs' d x' w' :=
  ⟨h.cw.turn hr hl he hc, (he 4 (by omega)).trans h.logs, h.dl, hx, h11, h9⟩
theorem envRow_one (x : XD) : ∀ v ∈ envRow x, v.oneCell' = true := by
  intro v hv
  unfold envRow at hv
  simp only [List.mem_append, List.mem_cons, List.not_mem_nil, or_false] at hv
  rcases hv with hv | (rfl | rfl | rfl) | hv | hv | hv
  · exact bv_one _ v hv
  · rfl
  · rfl
  · rfl
  · exact bv_one _ v hv
  · exact bv_one _ v hv
  · exact bv_one _ v hv
/-- every cell of a chain is one cell -/
theorem chain_one (hl : cs.length = 179) (hk : KV G cs d w) (hx : XS G cs x w) (h9 : ∃ v, cs[9]? = some v ∧ v.oneCell' = true) (h11 : ∃ v, cs[11]? = some v ∧ v.oneCell' = true) : ∀ v ∈ cs, v.oneCell' = true := by
  intro v hv
  obtain ⟨i, hi⟩ := List.mem_iff_getElem?.1 hv
  have hil : i < 179 := by
    rcases Nat.lt_or_ge i 179 with h | h
    · exact h
    · rw [List.getElem?_eq_none (by omega)] at hi; cases hi
  have K : ∀ j u, i = j → cs[j]? = some u → u.oneCell' = true → v.oneCell' = true := fun j u hj hc hu => by
    subst hj
    rw [hc] at hi
    obtain rfl := Option.some.inj hi
    exact hu
  obtain ⟨⟨a0, l0, c0, e0, -⟩, ⟨a1, l1, c1, e1, -⟩, ⟨a2, l2, c2, e2, -⟩, ⟨a3, l3, c3, e3, -⟩, ⟨a4, l4, c4, e4, -⟩, ⟨a5, l5, c5, e5, -⟩, ⟨a6, l6, c6, e6, -⟩, ⟨a7, l7, c7, e7, -⟩⟩ := hk
  obtain ⟨⟨a8, l8, c8, e8, -⟩, ⟨a10, l10, c10, e10, -⟩, e12, e13, ⟨a14, l14, c14, e14, -⟩, ⟨a15, l15, c15, e15, -⟩, ⟨a16, l16, c16, e16, -⟩, ⟨a17, l17, c17, e17, -⟩, ⟨a18, l18, c18, e18, -⟩, h19, h39, h59, ⟨A, k, c, rows, e178, -⟩⟩ := hx
  obtain ⟨v9, e9, o9⟩ := h9
  obtain ⟨v11, e11, o11⟩ := h11
  by_cases hA : i < 19
  · have hc : i = 0 ∨ i = 1 ∨ i = 2 ∨ i = 3 ∨ i = 4 ∨ i = 5 ∨ i = 6 ∨ i = 7 ∨ i = 8 ∨ i = 9 ∨ i = 10 ∨ i = 11 ∨ i = 12 ∨ i = 13 ∨ i = 14 ∨ i = 15 ∨ i = 16 ∨ i = 17 ∨ i = 18 := by omega
    rcases hc with h | h | h | h | h | h | h | h | h | h | h | h | h | h | h | h | h | h | h
    · exact K _ _ h e0 rfl
    · exact K _ _ h e1 rfl
    · exact K _ _ h e2 rfl
    · exact K _ _ h e3 rfl
    · exact K _ _ h e4 rfl
    · exact K _ _ h e5 rfl
    · exact K _ _ h e6 rfl
    · exact K _ _ h e7 rfl
    · exact K _ _ h e8 rfl
    · exact K _ _ h e9 o9
    · exact K _ _ h e10 rfl
    · exact K _ _ h e11 o11
    · exact K _ _ h e12 rfl
    · exact K _ _ h e13 rfl
    · exact K _ _ h e14 rfl
    · exact K _ _ h e15 rfl
    · exact K _ _ h e16 rfl
    · exact K _ _ h e17 rfl
    · exact K _ _ h e18 rfl
  · by_cases hB : i < 39
    · have h := h19 (i - 19) (by omega)
      rw [show 19 + (i - 19) = i by omega, hi] at h
      exact bv_one _ v (List.mem_of_getElem? h.symm)
    · by_cases hC : i < 59
      · have h := h39 (i - 39) (by omega)
        rw [show 39 + (i - 39) = i by omega, hi] at h
        exact bv_one _ v (List.mem_of_getElem? h.symm)
      · by_cases hD : i < 178
        · have h := h59 (i - 59) (by omega)
          rw [show 59 + (i - 59) = i by omega, hi] at h
          exact envRow_one x v (List.mem_of_getElem? h.symm)
        · exact K 178 _ (by omega) e178 rfl
/-- a balance has grown -/
theorem Good.bal' {B' : Nat} {a : List Int} {m : Nat} (hg : Snd B d) (ha : IsAddr a) (hB : B' + (lookY d.accts a).bal = B + m) (hP : B' < P256) (hw : wt d + 2500 ≤ 2250000000) : Good B' { d with accts := balY d.accts a m } := by
  have hd := hg.acc.balY ha hB
  have hz := sz_balY hg.acc ha m
  refine Snd.good ⟨hd, hg.temps, hg.logs, hP⟩ ?_
  unfold wt szW at *
  simp only at *
  omega
theorem wt_bal {a : List Int} (hg : Snd B d) (ha : IsAddr a) (m : Nat) : wt { d with accts := balY d.accts a m } ≤ wt d + 2500 ∧ szA (balY d.accts a m) ≤ szA d.accts + 1 := by
  have hz := sz_balY hg.acc ha m
  unfold wt szW
  simp only
  omega
theorem zeroC_get (i : Nat) (hi : i < 59) : zeroC[i]? = if i < 11 then some nilS else if i < 14 then some (.int .u8 0) else if i < 19 then some nilS else some (.int .u8 0) := by
  have e : zeroC = List.replicate 11 nilS ++ (List.replicate 3 (.int .u8 0) ++ (List.replicate 5 nilS ++ (List.replicate 60 (.int .u8 0) ++ ([.int .u64 0, .int .u64 0, .int .u64 0] ++ (bv (zeros 96) ++ [nilS]))))) := rfl
  rw [e]
  by_cases h1 : i < 11
  · rw [List.getElem?_append_left (by simpa using h1), List.getElem?_replicate, if_pos h1, if_pos h1]
  rw [List.getElem?_append_right (by simp; omega), List.length_replicate, if_neg h1]
  by_cases h2 : i < 14
  · rw [List.getElem?_append_left (by simp; omega), List.getElem?_replicate, if_pos (by omega), if_pos h2]
  rw [List.getElem?_append_right (by simp; omega), List.length_replicate, if_neg h2]
  by_cases h3 : i < 19
  · rw [List.getElem?_append_left (by simp; omega), List.getElem?_replicate, if_pos (by omega), if_pos h3]
  rw [List.getElem?_append_right (by simp; omega), List.length_replicate, if_neg h3]
  rw [List.getElem?_append_left (by simp; omega), List.getElem?_replicate, if_pos (by omega)]
theorem endRow_get {A Bt : Option Addr} {k c n j e : Nat} {env : List Value} (he : env.length = 120) (i : Nat) :
    (endRow A k c n Bt j e env)[i]? = if i = 0 then some (.slice A k c) else if i < 8 then some nilS else if i = 13 then some (.int .u8 n) else if i = 18 then some (.slice Bt j e) else if 59 ≤ i ∧ i < 179 then env[i - 59]? else zeroC[i]? := by
  have hw : (accWorld (.slice A k c)).length = 8 := rfl
  have h1 : (spl zeroC 0 (accWorld (.slice A k c))).length = 179 := by rw [spl_len _ _ _ (by rw [zeroC_len]; simp [accWorld]), zeroC_len]
  have h2 : (spl (spl zeroC 0 (accWorld (.slice A k c))) 13 [Value.int .u8 n]).length = 179 := by rw [spl_len _ _ _ (by rw [h1]; simp), h1]
  have h3 : (spl (spl (spl zeroC 0 (accWorld (.slice A k c))) 13 [Value.int .u8 n]) 18 [.slice Bt j e]).length = 179 := by rw [spl_len _ _ _ (by rw [h2]; simp), h2]
  unfold endRow
  by_cases c5 : 59 ≤ i ∧ i < 179
  · have hh := spl_hi (cs := spl (spl (spl zeroC 0 (accWorld (.slice A k c))) 13 [Value.int .u8 n]) 18 [.slice Bt j e]) (vs := env) (o := 59) (by rw [h3, he]; omega) (i - 59) (by omega)
    rw [show 59 + (i - 59) = i by omega] at hh
    rw [hh, if_neg (by omega), if_neg (by omega), if_neg (by omega), if_neg (by omega), if_pos c5]
  · rw [spl_get (by rw [h3, he]; omega) i (by omega)]
    by_cases c4 : i = 18
    · subst c4
      have hh := spl_hi (cs := spl (spl zeroC 0 (accWorld (.slice A k c))) 13 [Value.int .u8 n]) (vs := [Value.slice Bt j e]) (o := 18) (by rw [h2]; simp) 0 (by simp)
      rw [show 18 + 0 = 18 by rfl] at hh
      rw [hh]
      rfl
    · rw [spl_get (by rw [h2]; simp) i (by simp; omega)]
      by_cases c3 : i = 13
      · subst c3
        have hh := spl_hi (cs := spl zeroC 0 (accWorld (.slice A k c))) (vs := [Value.int .u8 n]) (o := 13) (by rw [h1]; simp) 0 (by simp)
        rw [show 13 + 0 = 13 by rfl] at hh
        rw [hh]
        rfl
      · rw [spl_get (by rw [h1]; simp) i (by simp; omega)]
        by_cases c2 : i < 8
        · have hh := spl_hi (cs := zeroC) (vs := accWorld (.slice A k c)) (o := 0) (by rw [zeroC_len, hw]; omega) i (by omega)
          rw [Nat.zero_add] at hh
          rw [hh]
          have : i = 0 ∨ i = 1 ∨ i = 2 ∨ i = 3 ∨ i = 4 ∨ i = 5 ∨ i = 6 ∨ i = 7 := by omega
          rcases this with rfl | rfl | rfl | rfl | rfl | rfl | rfl | rfl <;> rfl
        · rw [spl_get (by rw [zeroC_len, hw]; omega) i (by rw [hw]; omega), if_neg (by omega), if_neg c2, if_neg c3, if_neg c4, if_neg c5]
/-- the state is laid anew -/
theorem SI.made {cs0 : List Value} {w0 : World} {A Bt : Option Addr} {k c tot j e : Nat} {env : List Value} (h : XS G cs0 x w0) (hc : ChgS G w0 w) (hT : Ther G w) (hg : G bw) (hk : KAccts G w A k c ds) (ht : KNat G w Bt j e tot) (hel : env.length = 120) (henv : ∀ i, i < 120 → env[i]? = cs0[59 + i]?) (hr : RowT 107 w bw (endRow A k c x.applied Bt j e env)) :
    SI G bw 0 (endRow A k c x.applied Bt j e env) (freshD ds) (idleX x tot) w := by
  have hlow : ∀ i, 0 < i → i < 8 → (endRow A k c x.applied Bt j e env)[i]? = some nilS := fun i h0 h8 => by rw [endRow_get hel, if_neg (by omega), if_pos h8]
  have hz : ∀ i, 8 ≤ i → i < 59 → i ≠ 13 → i ≠ 18 → (endRow A k c x.applied Bt j e env)[i]? = zeroC[i]? := fun i h0 h8 h13 h18 => by rw [endRow_get hel, if_neg (by omega), if_neg (by omega), if_neg h13, if_neg h18, if_neg (by omega)]
  have h0 : (endRow A k c x.applied Bt j e env)[0]? = some (.slice A k c) := by rw [endRow_get hel]; rfl
  have h13 : (endRow A k c x.applied Bt j e env)[13]? = some (.int .u8 x.applied) := by rw [endRow_get hel]; rfl
  have h18 : (endRow A k c x.applied Bt j e env)[18]? = some (.slice Bt j e) := by rw [endRow_get hel]; rfl
  have hE : ∀ i, i < 120 → (endRow A k c x.applied Bt j e env)[59 + i]? = cs0[59 + i]? := fun i hi => by rw [endRow_get hel, if_neg (by omega), if_neg (by omega), if_neg (by omega), if_neg (by omega), if_pos (by omega), Nat.add_sub_cancel_left]; exact henv i hi
  have hlen := endRow_len A k c x.applied Bt j e env hel
  have hN : ∀ i, 8 ≤ i → i < 19 → i ≠ 11 → i ≠ 12 → i ≠ 13 → i ≠ 18 → (endRow A k c x.applied Bt j e env)[i]? = some (.slice none 0 0) := fun i h0 h1 h2 h3 h4 h5 => by
    rw [hz i h0 (by omega) h4 h5, zeroC_get i (by omega)]
    by_cases hi : i < 11
    · rw [if_pos hi]
    · rw [if_neg hi, if_neg (by omega), if_pos (by omega)]
  have hbz : ∀ i, i < 20 → (bv (zeros 20))[i]? = some (.int .u8 0) := fun i hi => by
    rw [show bv (zeros 20) = List.replicate 20 (.int .u8 0) from rfl, List.getElem?_replicate, if_pos hi]
  have hZ : ∀ i, 19 ≤ i → i < 59 → (endRow A k c x.applied Bt j e env)[i]? = some (.int .u8 0) := fun i h0 h1 => by
    rw [hz i (by omega) h1 (by omega) (by omega), zeroC_get i h1, if_neg (by omega), if_neg (by omega), if_neg (by omega)]
  have h11 : (endRow A k c x.applied Bt j e env)[11]? = some (.int .u8 0) := by rw [hz 11 (by omega) (by omega) (by omega) (by omega), zeroC_get 11 (by omega)]; rfl
  have h12 : (endRow A k c x.applied Bt j e env)[12]? = some (.int .u8 0) := by rw [hz 12 (by omega) (by omega) (by omega) (by omega), zeroC_get 12 (by omega)]; rfl
  generalize endRow A k c x.applied Bt j e env = row at *
  obtain ⟨Ah, kh, ch, rows, p1, p2, p3, p4⟩ := h.hashes
  refine ⟨⟨hr, hlen, ⟨⟨A, k, c, h0, hk⟩, ⟨none, 0, 0, hlow 1 (by omega) (by omega), KAddrs.nil G w⟩, ⟨none, 0, 0, hlow 2 (by omega) (by omega), KMarks.nil G w⟩, ⟨none, 0, 0, hlow 3 (by omega) (by omega), KNat.nil G w⟩, ⟨none, 0, 0, hlow 4 (by omega) (by omega), rfl⟩, ⟨none, 0, 0, hlow 5 (by omega) (by omega), KTemps.nil G w⟩, ⟨none, 0, 0, hlow 6 (by omega) (by omega), KAddrs.nil G w⟩, ⟨none, 0, 0, hlow 7 (by omega) (by omega), KAddrs.nil G w⟩⟩, hg, hT⟩, hlow 4 (by omega) (by omega), rfl, ?_, h11, hN 9 (by omega) (by omega) (by omega) (by omega) (by omega) (by omega)⟩
  refine ⟨⟨none, 0, 0, hN 8 (by omega) (by omega) (by omega) (by omega) (by omega) (by omega), KTemps.nil G w⟩, ⟨none, 0, 0, hN 10 (by omega) (by omega) (by omega) (by omega) (by omega) (by omega), KSrc.nil G w⟩, h12, h13, ⟨none, 0, 0, hN 14 (by omega) (by omega) (by omega) (by omega) (by omega) (by omega), KNat.nil G w⟩, ⟨none, 0, 0, hN 15 (by omega) (by omega) (by omega) (by omega) (by omega) (by omega), KNat.nil G w⟩, ⟨none, 0, 0, hN 16 (by omega) (by omega) (by omega) (by omega) (by omega) (by omega), KNat.nil G w⟩, ⟨none, 0, 0, hN 17 (by omega) (by omega) (by omega) (by omega) (by omega) (by omega), KNat.nil G w⟩, ⟨Bt, j, e, h18, ht⟩, fun i hi => ?_, fun i hi => ?_, fun i hi => ?_, ⟨Ah, kh, ch, rows, ?_, p2.kp hc, p3, p4⟩⟩
  · rw [hZ (19 + i) (by omega) (by omega)]; exact (hbz i hi).symm
  · rw [hZ (39 + i) (by omega) (by omega)]; exact (hbz i hi).symm
  · rw [hE i (by omega), h.env i hi]; rfl
  · exact (hE 119 (by omega)).trans p1
end

end Go.Proofs.YgcsakGreat
