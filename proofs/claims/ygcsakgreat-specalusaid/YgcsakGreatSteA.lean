/-
  yp: the state while a frame runs; Step at an instruction that gives one word.
-/
import Derived.Test.YgcsakGreatPlaC
namespace Go.Proofs.YgcsakGreat
set_option linter.unusedVariables false
set_option linter.unusedSimpArgs false
set_option maxRecDepth 100000
open Go.RowKit

/-- the frame once its gas is laid anew -/
theorem FM.paid {bw gf : Nat} {fr : List Value} {pc gas : Nat} {stk : List Nat} {mem code : List Int} {w w4 : World} (h : FM bw gf fr pc gas stk mem code w) (hbw : bw < w.heap.size) (dw : Below w.heap.size w w4) {gas' : Nat} {A : Option Addr} {k c : Nat} (N : New w A) (n : IsNat w4 A k c gas') :
    FM bw gf (fr.set 4 (.slice A k c)) pc gas' stk mem code (w4.setCell ⟨gf, 4, none⟩ (.slice A k c)) ∧ Chg gf w (w4.setCell ⟨gf, 4, none⟩ (.slice A k c)) := by
  have hlt := h.row.lt
  have hlen := h.len
  have o1 : Only gf w4 (w4.setCell ⟨gf, 4, none⟩ (.slice A k c)) := (Only.refl _ _).setCell _ _
  have hc : ChgS (GF bw gf) w (w4.setCell ⟨gf, 4, none⟩ (.slice A k c)) := (ChgS.of dw).then (ChgS.only (G := GF bw gf) o1 (.inr rfl)) (fun _ h _ => h)
  obtain ⟨A1, k1, c1, p1, p2⟩ := h.pcN
  obtain ⟨A3, k3, c3, s1, s2⟩ := h.stkN
  obtain ⟨A4, k4, c4, m1, m2⟩ := h.memN
  obtain ⟨A5, k5, c5, e1, e2⟩ := h.codeN
  have hfr : ∀ i, i ≠ 4 → (fr.set 4 (Value.slice A k c))[i]? = fr[i]? := fun i h1 => List.getElem?_set_ne (Ne.symm h1)
  refine ⟨⟨(h.row.kept dw).set 4 _, by rw [List.length_set]; exact hlen, (hfr 1 (by omega)).trans h.native, (hfr 2 (by omega)).trans h.static, ⟨A1, k1, c1, (hfr 3 (by omega)).trans p1, p2.go hc (fun _ h _ => h)⟩, ⟨A, k, c, List.getElem?_set_self (by omega), ?_⟩, ⟨A3, k3, c3, (hfr 8 (by omega)).trans s1, s2.go hc⟩, ⟨A4, k4, c4, (hfr 9 (by omega)).trans m1, m2.go hc (fun _ h _ => h)⟩, ⟨A5, k5, c5, (hfr 10 (by omega)).trans e1, e2.go hc (fun _ h _ => h)⟩⟩, (Chg.of dw).trans (Chg.ofOnly o1)⟩
  exact (StabS.nat n (fun x hx _ hg => by have := N x hx; rcases hg with hg | hg <;> omega)).go (ChgS.only (G := GF bw gf) o1 (.inr rfl)) (fun _ h _ => h)

def One60 (fr : List Value) : Prop := ∀ i v, i < 60 → fr[i]? = some v → v.oneCell' = true
def SameB (fr fr' : List Value) : Prop := ∀ i, i ≠ 3 → i ≠ 4 → i ≠ 8 → i ≠ 9 → fr'[i]? = fr[i]?
theorem FM.one {bw gf : Nat} {fr fr' : List Value} {pc gas : Nat} {stk : List Nat} {mem code : List Int} {w : World} (h : FM bw gf fr' pc gas stk mem code w) (hs : SameB fr fr') (ho : One60 fr) : One60 fr' := by
  intro i v hi hv
  obtain ⟨A1, k1, c1, p1, p2⟩ := h.pcN
  obtain ⟨A2, k2, c2, g1, g2⟩ := h.gasN
  obtain ⟨A3, k3, c3, s1, s2⟩ := h.stkN
  obtain ⟨A4, k4, c4, m1, m2⟩ := h.memN
  by_cases h3 : i = 3
  · subst h3; rw [p1] at hv; obtain rfl := Option.some.inj hv; rfl
  by_cases h4 : i = 4
  · subst h4; rw [g1] at hv; obtain rfl := Option.some.inj hv; rfl
  by_cases h8 : i = 8
  · subst h8; rw [s1] at hv; obtain rfl := Option.some.inj hv; rfl
  by_cases h9 : i = 9
  · subst h9; rw [m1] at hv; obtain rfl := Option.some.inj hv; rfl
  rw [hs i h3 h4 h8 h9] at hv
  exact ho i v hi hv
/-- a frame runs: it is the only one -/
structure Play (bw gf cF : Nat) (cs fr : List Value) (pc gas : Nat) (stk : List Nat) (mem code : List Int) (w : World) : Prop where
  chain : RowT 107 w bw cs
  clen : cs.length = 179
  frames : cs[9]? = some (.slice (some ⟨gf, 0, none⟩) 1 cF)
  phase : cs[11]? = some (.int .u8 1)
  ne : gf ≠ bw
  fm : FM bw gf fr pc gas stk mem code w
  kind : fr[0]? = some (.int .u8 0)
  one : One60 fr
/-- the same, a step later -/
theorem Play.next {bw gf cF : Nat} {cs fr fr' : List Value} {pc gas pc' gas' : Nat} {stk stk' : List Nat} {mem code mem' : List Int} {w w' : World} (h : Play bw gf cF cs fr pc gas stk mem code w) (hf : FM bw gf fr' pc' gas' stk' mem' code w') (hs : SameB fr fr') (hc : Chg gf w w') : Play bw gf cF cs fr' pc' gas' stk' mem' code w' :=
  ⟨hc.row h.chain (Ne.symm h.ne), h.clen, h.frames, h.phase, h.ne, hf, by rw [hs 0 (by omega) (by omega) (by omega) (by omega)]; exact h.kind, hf.one hs h.one⟩

set_option maxHeartbeats 16000000 in
theorem step_one (o : Nat) (ho : opO o) (hgv : givN o = 1) {bw gf cF : Nat} {cs fr : List Value} {pc gas : Nat} {stk : List Nat} {mem code : List Int} {w : World} (h : Play bw gf cF cs fr pc gas stk mem code w) (hl : stk.length ≤ 50) (hs : ∀ i, argN stk i < P256) (hml : mem.length ≤ 32000) (hcl : code.length ≤ 100000) (hin : pc < code.length) (hop : code.getD pc 0 = (o : Int))
    (htk : takN o ≤ stk.length) (hgas : gas < 1000000) (hpay : costN o stk mem.length ≤ gas) (r : Nat) (hno : needN o stk ≤ mem.length / 32) (hval : ∀ fr1 gas1 w1, FM bw gf fr1 pc gas1 stk mem code w1 → ∀ ao c, ArgsR w1 ao (takN o) c (argsOf stk (takN o)) → Calls Sakg.prog 217 #[.pointer (some ⟨bw, 0, none⟩), .pointer (some ⟨gf, 0, none⟩), .int .u8 o, .slice ao (takN o) c] w1 (MakesNat w1 r)) :
    Calls Sakg.prog 49 #[.pointer (some ⟨bw, 0, none⟩)] w fun e w' => e = .returned (.bool true) ∧ ∃ fr', Play bw gf cF cs fr' (pc + 1 + immN o) (gas - costN o stk mem.length) (stk.take (stk.length - takN o) ++ [r]) mem code w' ∧ SameBut fr fr' ∧ Chg gf w w' := by
  have hBB := big_ge
  have hbw : bw < w.heap.size := h.chain.lt
  have hgl := h.fm.row.lt
  have hfl := h.fm.len
  have hnd : needN o stk ≤ 1000 := by omega
  have e11 : w.cell? ⟨bw, 11, none⟩ = some (.int .u8 1) := by rw [h.chain.cell]; exact h.phase
  have e9 : w.cell? ⟨bw, 9, none⟩ = some (.slice (some ⟨gf, 0, none⟩) 1 cF) := by rw [h.chain.cell]; exact h.frames
  have e1 : w.cell? ⟨gf, 1, none⟩ = some (.int .u8 0) := by rw [h.fm.row.cell]; exact h.fm.native
  obtain ⟨A4, k4, c4, g1, g2⟩ := h.fm.gasN
  have HOP : ∀ wz, Below w.heap.size w wz → Hid (Calls Sakg.prog 112 #[.pointer (some ⟨gf, 0, none⟩)] wz fun e w' => e = .returned (.int .u8 o) ∧ Quiet wz w') := fun wz hz => hide (by
    have := opcode_any (h.fm.kept hz) (by omega) hcl hin
    rwa [hop] at this)
  have HRE : ∀ wz, Below w.heap.size w wz → Hid (Calls Sakg.prog 113 #[.pointer (some ⟨bw, 0, none⟩), .pointer (some ⟨gf, 0, none⟩), .int .u8 o] wz fun e w' => ∃ A k c, e = .returned (.tuple #[.int .u8 0, .slice A k c]) ∧ IsNat w' A k c (costN o stk mem.length) ∧ New wz A ∧ Below wz.heap.size wz w') := fun wz hz => hide (refusal_op o ho (h.fm.kept hz) (by omega) hs hml hnd htk hgas hpay)
  have HFAM : ∀ wz, Hid (Calls Sakg.prog 120 #[.int .u8 o] wz fun e w' => e = .returned (.int .u8 (famN o)) ∧ wz = w') := fun wz => hide (family_op o ho wz)
  have X4 : ∀ wz, Below w.heap.size w wz → Hid (wz.cell? ⟨gf, 4, none⟩ = some (.slice A4 k4 c4) ∧ IsNat wz A4 k4 c4 gas) := fun wz hz => hide ⟨by rw [(h.fm.row.kept hz).cell]; exact g1, g2 wz (ChgS.of hz)⟩
  generalize hcost : costN o stk mem.length = cost at HRE hpay
  have HCOST := hide hcost
  have HPLAY := hide h
  clear h g1 g2 hcost
  go_enter Sakg.func49, Sakg.ntmps49
  go_upto_region 4 with fail
  go_quiet (fail)
  go_wp2_with fail
  have bq : ∀ n, Below w.heap.size w (w.drewN n) := fun n => Quiet.below ⟨n, rfl⟩ _
  refine (unhide (HOP _ (bq _))).mono ?_
  rintro e w1 ⟨rfl, q1⟩
  have d1 : Below w.heap.size w w1 := (bq _).trans (q1.below _)
  clear q1 bq
  go_wp2_with fail
  refine (unhide (HRE w1 d1)).mono ?_
  rintro e w2 ⟨A2, k2, c2, rfl, n2, N2, b2⟩
  have d2 : Below w.heap.size w w2 := d1.trans (b2.mono d1.size)
  have x4 := (unhide (X4 w2 d2)).1
  have HL := hide (less_any A4 A2 k4 k2 c4 c2 gas cost w2 (unhide (X4 w2 d2)).2 n2 (by omega) (by omega))
  clear n2 HOP HRE X4
  go_wp2_with fail
  refine (unhide HL).mono ?_
  rintro e w3 ⟨A3, k3, c3, rfl, n3, N3, b3⟩
  have d3 : Below w.heap.size w w3 := d2.trans (b3.mono d2.size)
  have r3 := (unhide HPLAY).fm.row.kept d3
  obtain ⟨v34, hx34⟩ : ∃ v, w3.cell? ⟨gf, 4, none⟩ = some v := by
    rw [r3.cell, List.getElem?_eq_getElem (by omega)]
    exact ⟨_, rfl⟩
  have hf34 := r3.froz 4
  obtain ⟨hfm4, hc4⟩ := (unhide HPLAY).fm.paid hbw d3 (N3.later d2.size) n3
  obtain ⟨w4, hw4⟩ : ∃ x, x = w3.setCell ⟨gf, 4, none⟩ (.slice A3 k3 c3) := ⟨_, rfl⟩
  rw [← hw4] at hfm4 hc4
  have HW4 := hide hw4
  have HR4 := hide (reach_op o ho hfm4 (by omega) hs)
  have HFM4 := hide hfm4
  clear n3 r3 hfm4 hw4 HL x4
  go_wp2_with fail
  rw [← unhide HW4]
  refine (unhide HR4).mono ?_
  rintro e w5 ⟨A5, k5, c5, rfl, n5, N5, b5⟩
  have HG := hide (grow_none ((unhide HFM4).kept b5) A5 k5 c5 _ n5 (reachN_lt o stk hs) hml hno)
  clear n5 HR4
  go_wp2_with fail
  refine (unhide HG).mono ?_
  rintro e w6 ⟨rfl, b6⟩
  have b46 : Below w4.heap.size w4 w6 := b5.trans (b6.mono b5.size)
  have hfm6 := (unhide HFM4).kept b46
  have hP := hide (plain_one o ho hgv hfm6 (by have := hc4.size; have := b46.size; omega) (by omega) htk (by omega) r (fun wz ao c hz hA => hval _ _ wz (hfm6.kept hz) ao c hA))
  have t0 : ((o : Int) == 0) = false := by rw [beq_eq_false_iff_ne]; unfold opO aluO at ho; omega
  have t243 : ((o : Int) == 243) = false := by rw [beq_eq_false_iff_ne]; intro e; have e2 : o = 243 := (by omega); rw [e2] at hgv; exact absurd hgv (by decide)
  have t253 : ((o : Int) == 253) = false := by rw [beq_eq_false_iff_ne]; unfold opO aluO at ho; omega
  have t255 : ((o : Int) == 255) = false := by rw [beq_eq_false_iff_ne]; unfold opO aluO at ho; omega
  have tfam : ((famN o : Int) == 16) = false := by
    rw [beq_eq_false_iff_ne]
    unfold famN
    split
    · omega
    · split <;> omega
  clear hfm6 HG
  go_wp2_with fail
  refine (unhide (HFAM w6)).mono ?_
  rintro e w7 ⟨rfl, rfl⟩
  go_wp2_with fail
  refine (unhide hP).mono ?_
  rintro e w8 ⟨rfl, fr', hfm8, hsb, hc8⟩
  have HFM8 := hide hfm8
  clear hfm8
  go_wp2
  go_ret
  have c48 : Chg gf w w8 := hc4.trans ((Chg.of b46).trans hc8)
  have hsb2 : SameBut fr fr' := fun i h3 h4 h8 => by rw [hsb i h3 h4 h8, List.getElem?_set_ne (Ne.symm h4)]
  refine ⟨rfl, fr', (unhide HPLAY).next ?_ (fun i h3 h4 h8 h9 => hsb2 i h3 h4 h8) c48, hsb2, c48⟩
  first | exact unhide HFM8 | (rw [unhide HCOST]; exact unhide HFM8)



end Go.Proofs.YgcsakGreat
