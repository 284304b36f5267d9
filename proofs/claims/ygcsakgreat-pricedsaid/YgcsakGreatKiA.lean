/-
  yp: the state once the outer frame has ended; fault, deposit.
-/
import Derived.Test.YgcsakGreatKgB
import Derived.Test.YgcsakGreatKfC
namespace Go.Proofs.YgcsakGreat
set_option linter.unusedVariables false
set_option linter.unusedSimpArgs false
set_option maxRecDepth 100000
open Go.RowKit

/-- the outer frame has ended -/
structure SE (G : Nat → Prop) (bw : Nat) (cs : List Value) (d : WD) (x : XD) (w : World) : Prop where
  cw : CW G bw cs d w
  logs : ∃ ao l c, cs[4]? = some (.slice ao l c) ∧ NLogs G w ao l c d.logs
  xs : XS G cs x w
  phase : cs[11]? = some (.int .u8 2)
  frames : cs[9]? = some nilS
/-- eight cells are laid over the chain's first -/
def over8 (r cs : List Value) : List Value := r ++ cs.drop 8
theorem over8_len {r cs : List Value} (hr : r.length = 8) (hc : cs.length = 179) : (over8 r cs).length = 179 := by unfold over8; rw [List.length_append, List.length_drop]; omega
theorem over8_lo {r cs : List Value} (hr : r.length = 8) {i : Nat} (hi : i < 8) : (over8 r cs)[i]? = r[i]? := by unfold over8; rw [List.getElem?_append_left (by omega)]
theorem over8_hi {r cs : List Value} (hr : r.length = 8) {i : Nat} (hi : 8 ≤ i) : (over8 r cs)[i]? = cs[i]? := by
  unfold over8
  rw [List.getElem?_append_right (by omega), List.getElem?_drop, hr]
  congr 1
  omega
theorem over8_spl {r cs : List Value} (hr : r.length = 8) : spl cs 0 r = over8 r cs := by
  unfold spl over8
  rw [List.take_zero, List.nil_append, hr]
section
variable {G : Nat → Prop} {bw : Nat} {cs r : List Value} {d d' : WD} {x : XD} {w w' : World}
/-- the world is put back -/
theorem CW.back (h : CW G bw cs d w) (hr : Slices 8 r) (hk : KW G r d' w) (hrow : RowT 107 w' bw (over8 r cs)) (hc : ChgS G w w') : CW G bw (over8 r cs) d' w' :=
  ⟨hrow, over8_len hr.1 h.len, (hk.kv.go hc).eq (fun i hi => over8_lo hr.1 hi), h.g, h.ther.go hc.size⟩
theorem KW.nlogs (hr : Slices 8 r) (hk : KW G r d' w) (hc : ChgS G w w') : ∃ ao l c, (over8 r cs)[4]? = some (.slice ao l c) ∧ NLogs G w' ao l c d'.logs := by
  obtain ⟨ao, l, h1, h2⟩ := hk.logs
  exact ⟨ao, l, l, (over8_lo hr.1 (by omega)).trans h1, .inl ⟨rfl, h2.go hc⟩⟩
/-- a cell of the chain beyond its world's is laid anew -/
theorem CW.turn1 (h : CW G bw cs d w) {i : Nat} (hi : 8 ≤ i) {v : Value} (hc : ChgS G w w') (hr : RowT 107 w' bw (cs.set i v)) : CW G bw (cs.set i v) d w' :=
  h.turn hr (by rw [List.length_set]; exact h.len) (fun j hj => List.getElem?_set_ne (by omega)) hc
end
theorem KFs.last {G : Nat → Prop} {fr : List Value} {w : World} : ∀ {fs : List FD}, KFs G fr w fs → ∀ f, fs.getLast? = some f → KF G (cellsAt fr 0) f w
  | [], _, f, hf => by simp at hf
  | [g], h, f, hf => by
    obtain rfl : g = f := by simpa using hf
    exact h.1
  | g :: g' :: r, h, f, hf => by
    rw [List.getLast?_cons_cons] at hf
    exact KFs.last h.2 f hf

section
variable {G : Nat → Prop} {bw gf : Nat} {cs fr : List Value} {d : WD} {fs : List FD} {x : XD} {w : World}
set_option maxHeartbeats 8000000 in
theorem SR.fault (h : SR G bw gf cs fr d fs x w) (fl : FD) (hfl : fs.getLast? = some fl) :
    Calls Sakg.prog 219 #[.pointer (some ⟨bw, 0, none⟩)] w fun e w' => e = .returned (.tuple #[]) ∧ ∃ cs', SE G bw cs' fl.saved { x with ret := [], status := 13, left := 0 } w' ∧ Chg bw w w' := by
  have hkf := h.kfs.last fl hfl
  have hfs0 : 0 < fs.length := by cases fs with | nil => simp at hfl | cons a b => simp
  obtain ⟨r, hr, hrc, hkw⟩ := hkf.saved
  obtain ⟨cap, e9, -, hcap, -⟩ := h.frames
  have hlen := h.len
  have c9 : w.cell? ⟨bw, 9, none⟩ = some (.slice (some ⟨gf, 0, none⟩) fs.length cap) := h.cw.cell e9
  have hrg : w.rangeAt gf 52 r := fun j v hv => by
    have hj : j < 8 := by
      rcases Nat.lt_or_ge j 8 with h' | h'
      · exact h'
      · rw [List.getElem?_eq_none (by rw [hr.1]; exact h')] at hv; cases hv
    rw [h.row.cell]
    have := hrc j hj
    unfold cellsAt at this
    rw [Nat.zero_add] at this
    exact this.trans hv
  have hsz : (Sakg.prog.info? 101).map (·.size) = some r.length := by rw [hr.1]; exact sizeWorld
  have hl179 := h.cw.len
  have hrl := hr.1
  have HRG := hide hrg
  have HSR := hide h
  have HR := hide hr
  have HKW := hide hkw
  generalize hnf : fs.length = nf at c9 hfs0 hcap
  clear h hkf hrg hrc hr hkw hfl e9 hnf hlen
  go_enter Sakg.func219, Sakg.ntmps219
  go_upto_region 1 with (first
    | ((with_reducible refine at_load 101 ?_); refine wpList_load_g rfl 101 (.tmp 8) rfl gf 52 rfl r _ (unhide HRG) Sakg.underlying101 rfl hsz ?_)
    | ((with_reducible refine at_store 101 ?_); refine wpList_store_part rfl 101 (.tmp 11) (.tmp 9) rfl bw 0 107 cs r rfl rfl (unhide HSR).cw.row (by omega) hsz (unhide HR).one ?_; intro w1 hr1 ho1))
  rw [over8_spl hrl] at hr1
  have hc1 : Chg bw w w1 := Chg.ofOnly ho1
  have hm1 : Mv G w w1 := Mv.chain (unhide HSR).cw.row (unhide HSR).cw.g hc1
  have hcw1 := (unhide HSR).cw.back (unhide HR) (unhide HKW) hr1 hm1.chg
  have hlg1 := KW.nlogs (cs := cs) (unhide HR) (unhide HKW) hm1.chg
  have hxs1 := ((unhide HSR).xs.go hm1.chg).eq (cs' := over8 r cs) (fun i hi _ _ => over8_hi hrl hi)
  obtain ⟨q, hq⟩ : ∃ q, q = over8 r cs := ⟨_, rfl⟩
  rw [← hq] at hcw1 hlg1 hxs1
  have hql := hcw1.len
  obtain ⟨v2, hx2⟩ := hcw1.ex (i := 9) (by omega)
  have hf2 := hcw1.row.froz 9
  have ho2 : Only bw w1 (w1.setCell ⟨bw, 9, none⟩ (.slice none 0 0)) := (Only.refl _ _).setCell _ _
  have hr2 := hcw1.row.set 9 (.slice none 0 0)
  obtain ⟨w2, hw2⟩ : ∃ y, y = w1.setCell ⟨bw, 9, none⟩ (.slice none 0 0) := ⟨_, rfl⟩
  rw [← hw2] at ho2 hr2
  have hm2 : Mv G w1 w2 := Mv.chain hcw1.row hcw1.g (Chg.ofOnly ho2)
  have hcw2 := hcw1.turn1 (by omega) hm2.chg hr2
  have HW2 := hide hw2
  obtain ⟨v3, hx3⟩ := hcw2.ex (i := 10) (by omega)
  have hf3 := hcw2.row.froz 10
  have ho3 : Only bw w2 (w2.setCell ⟨bw, 10, none⟩ (.slice none 0 0)) := (Only.refl _ _).setCell _ _
  have hr3 := hcw2.row.set 10 (.slice none 0 0)
  obtain ⟨w3, hw3⟩ : ∃ y, y = w2.setCell ⟨bw, 10, none⟩ (.slice none 0 0) := ⟨_, rfl⟩
  rw [← hw3] at ho3 hr3
  have hm3 : Mv G w2 w3 := Mv.chain hcw2.row hcw2.g (Chg.ofOnly ho3)
  have hcw3 := hcw2.turn1 (by omega) hm3.chg hr3
  have HW3 := hide hw3
  obtain ⟨v4, hx4⟩ := hcw3.ex (i := 11) (by omega)
  have hf4 := hcw3.row.froz 11
  have ho4 : Only bw w3 (w3.setCell ⟨bw, 11, none⟩ (.int .u8 2)) := (Only.refl _ _).setCell _ _
  have hr4 := hcw3.row.set 11 (.int .u8 2)
  obtain ⟨w4, hw4⟩ : ∃ y, y = w3.setCell ⟨bw, 11, none⟩ (.int .u8 2) := ⟨_, rfl⟩
  rw [← hw4] at ho4 hr4
  have hm4 : Mv G w3 w4 := Mv.chain hcw3.row hcw3.g (Chg.ofOnly ho4)
  have hcw4 := hcw3.turn1 (by omega) hm4.chg hr4
  have HW4 := hide hw4
  obtain ⟨v5, hx5⟩ := hcw4.ex (i := 12) (by omega)
  have hf5 := hcw4.row.froz 12
  have ho5 : Only bw w4 (w4.setCell ⟨bw, 12, none⟩ (.int .u8 13)) := (Only.refl _ _).setCell _ _
  have hr5 := hcw4.row.set 12 (.int .u8 13)
  obtain ⟨w5, hw5⟩ : ∃ y, y = w4.setCell ⟨bw, 12, none⟩ (.int .u8 13) := ⟨_, rfl⟩
  rw [← hw5] at ho5 hr5
  have hm5 : Mv G w4 w5 := Mv.chain hcw4.row hcw4.g (Chg.ofOnly ho5)
  have hcw5 := hcw4.turn1 (by omega) hm5.chg hr5
  have HW5 := hide hw5
  obtain ⟨v6, hx6⟩ := hcw5.ex (i := 16) (by omega)
  have hf6 := hcw5.row.froz 16
  have ho6 : Only bw w5 (w5.setCell ⟨bw, 16, none⟩ (.slice none 0 0)) := (Only.refl _ _).setCell _ _
  have hr6 := hcw5.row.set 16 (.slice none 0 0)
  obtain ⟨w6, hw6⟩ : ∃ y, y = w5.setCell ⟨bw, 16, none⟩ (.slice none 0 0) := ⟨_, rfl⟩
  rw [← hw6] at ho6 hr6
  have hm6 : Mv G w5 w6 := Mv.chain hcw5.row hcw5.g (Chg.ofOnly ho6)
  have hcw6 := hcw5.turn1 (by omega) hm6.chg hr6
  have HW6 := hide hw6
  have hc6 : Chg bw w w6 := hc1.trans ((Chg.ofOnly ho2).trans ((Chg.ofOnly ho3).trans ((Chg.ofOnly ho4).trans ((Chg.ofOnly ho5).trans (Chg.ofOnly ho6)))))
  have hm26 : Mv G w1 w6 := hm2.trans (hm3.trans (hm4.trans (hm5.trans hm6)))
  have hSE : SE G bw (((((q.set 9 (.slice none 0 0)).set 10 (.slice none 0 0)).set 11 (.int .u8 2)).set 12 (.int .u8 13)).set 16 (.slice none 0 0)) fl.saved { x with ret := [], status := 13, left := 0 } w6 := by
    obtain ⟨ao, l, c, g1, g2⟩ := hlg1
    refine ⟨hcw6, ⟨ao, l, c, ?_, g2.go hm26⟩, ?_, ?_, ?_⟩
    · rw [List.getElem?_set_ne (by omega), List.getElem?_set_ne (by omega), List.getElem?_set_ne (by omega), List.getElem?_set_ne (by omega), List.getElem?_set_ne (by omega)]
      exact g1
    · have a1 : XS G (q.set 9 (.slice none 0 0)) x w1 := hxs1.eq (fun i _ h9 _ => List.getElem?_set_ne (Ne.symm h9))
      have a2 := a1.setRet (by rw [List.length_set]; exact hql) (KSrc.nil G w1)
      have a3 := a2.eq (cs' := (((q.set 9 (.slice none 0 0)).set 10 (.slice none 0 0)).set 11 (.int .u8 2))) (fun i _ _ h11 => List.getElem?_set_ne (Ne.symm h11))
      have a4 := a3.setStatus (by rw [List.length_set, List.length_set, List.length_set]; exact hql) 13
      have a5 := a4.setLeft (by rw [List.length_set, List.length_set, List.length_set, List.length_set]; exact hql) (KNat.nil G w1)
      exact a5.go hm26.chg
    · rw [List.getElem?_set_ne (by omega), List.getElem?_set_ne (by omega)]
      exact List.getElem?_set_self (by rw [List.length_set, List.length_set, hql]; omega)
    · rw [List.getElem?_set_ne (by omega), List.getElem?_set_ne (by omega), List.getElem?_set_ne (by omega), List.getElem?_set_ne (by omega)]
      exact List.getElem?_set_self (by rw [hql]; omega)
  have HSE := hide hSE
  have HC6 := hide hc6
  clear hSE hc6 hm26 hlg1 hxs1 hr1 ho1 hc1 hm1 ho2 hr2 hm2 hcw2 hw2 ho3 hr3 hm3 hcw3 hw3 ho4 hr4 hm4 hcw4 hw4 ho5 hr5 hm5 hcw5 hw5 ho6 hr6 hm6 hcw6 hw6 hcw1 c9
  go_upto_region 2 with fail
  rw [← unhide HW2]
  go_upto_region 3 with fail
  rw [← unhide HW3]
  go_upto_region 4 with fail
  rw [← unhide HW4]
  go_upto_region 5 with fail
  rw [← unhide HW5]
  go_wp2_with fail
  rw [← unhide HW6]
  refine bodyPost_done rfl rfl ?_
  exact ⟨rfl, _, unhide HSE, unhide HC6⟩
end

end Go.Proofs.YgcsakGreat
