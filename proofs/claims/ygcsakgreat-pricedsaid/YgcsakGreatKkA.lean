/-
  laws for leave: the world put back, a frame taken off, the end.
-/
import Derived.Test.YgcsakGreatKiA
import Derived.Test.YgcsakGreatKiB
import Derived.Test.YgcsakGreatKhC
namespace Go.Proofs.YgcsakGreat
set_option linter.unusedVariables false
set_option linter.unusedSimpArgs false
set_option maxRecDepth 100000
open Go.RowKit

/-- three may come up -/
theorem held_3 {P : Program} {ops : Array Oper} {Q : Exit → Act → World → Prop} {md : Region.Mode} {S : World → Prop} (i j k : Nat) {o1 o2 o3 : Oper} {fuel : Nat} {listed : Array Bool} {a : Act} {w : World} (hr : Region.ready md ops listed = [i, j, k]) (ho1 : ops[i]? = some o1) (ho2 : ops[j]? = some o2) (ho3 : ops[k]? = some o3)
    (h1 : ∀ K' : Act → World → Prop, Shut (∀ a w, S w → wpAnyH P md ops Q S fuel (listed.setIfInBounds i true) a w → K' a w) → if Region.wanted o1 (yielded ops a.tmps) = true then Oper.wp P o1 a w K' Q else K' (a.put o1.dst undef) w)
    (h2 : ∀ K' : Act → World → Prop, Shut (∀ a w, S w → wpAnyH P md ops Q S fuel (listed.setIfInBounds j true) a w → K' a w) → if Region.wanted o2 (yielded ops a.tmps) = true then Oper.wp P o2 a w K' Q else K' (a.put o2.dst undef) w)
    (h3 : ∀ K' : Act → World → Prop, Shut (∀ a w, S w → wpAnyH P md ops Q S fuel (listed.setIfInBounds k true) a w → K' a w) → if Region.wanted o3 (yielded ops a.tmps) = true then Oper.wp P o3 a w K' Q else K' (a.put o3.dst undef) w) : wpAnyH P md ops Q S (fuel + 1) listed a w := by
  refine wpAnyH_all hr (by simp) fun n hn => ?_
  rcases List.mem_cons.1 hn with rfl | hn
  · exact wpOp_step ho1 fun K' hK => h1 K' fun a w hS hW => hK a w ⟨hS, hW⟩
  rcases List.mem_cons.1 hn with rfl | hn
  · exact wpOp_step ho2 fun K' hK => h2 K' fun a w hS hW => hK a w ⟨hS, hW⟩
  · obtain rfl : n = k := by simpa using hn
    exact wpOp_step ho3 fun K' hK => h3 K' fun a w hS hW => hK a w ⟨hS, hW⟩

section
variable {G : Nat → Prop} {c : Nat → Option Value} {f : FD} {w : World}
/-- a frame's cells are values of one cell each -/
theorem KF.one (h : KF G c f w) : ∀ i, i < 60 → ∀ v, c i = some v → v.oneCell' = true := by
  intro i hi v hv
  obtain ⟨h0, h1, h2, ⟨A3, k3, n3, e3, h3⟩, ⟨A4, k4, n4, e4, h4⟩, ⟨A5, k5, n5, e5, h5⟩, ⟨A6, k6, n6, e6, h6⟩, ⟨A7, k7, n7, e7, h7⟩, ⟨A8, k8, n8, e8, h8⟩, ⟨A9, n9, e9, h9⟩, ⟨A10, k10, n10, e10, h10⟩, ⟨A11, k11, n11, e11, h11⟩, h12, h13, h14, h15, ⟨r, r1, r2, r3⟩⟩ := h
  have K : ∀ j u, i = j → c j = some u → u.oneCell' = true → v.oneCell' = true := fun j u hj hc hu => by
    subst hj
    rw [hc] at hv
    rw [← Option.some.inj hv]
    exact hu
  by_cases c0 : i = 0
  · exact K _ _ c0 h0 rfl
  by_cases c1 : i = 1
  · exact K _ _ c1 h1 rfl
  by_cases c2 : i = 2
  · exact K _ _ c2 h2 rfl
  by_cases c3 : i = 3
  · exact K _ _ c3 e3 rfl
  by_cases c4 : i = 4
  · exact K _ _ c4 e4 rfl
  by_cases c5 : i = 5
  · exact K _ _ c5 e5 rfl
  by_cases c6 : i = 6
  · exact K _ _ c6 e6 rfl
  by_cases c7 : i = 7
  · exact K _ _ c7 e7 rfl
  by_cases c8 : i = 8
  · exact K _ _ c8 e8 rfl
  by_cases c9 : i = 9
  · exact K _ _ c9 e9 rfl
  by_cases c10 : i = 10
  · exact K _ _ c10 e10 rfl
  by_cases c11 : i = 11
  · exact K _ _ c11 e11 rfl
  by_cases c12 : i < 32
  · have := h12 (i - 12) (by omega)
    rw [show 12 + (i - 12) = i by omega, hv] at this
    exact bv_one _ v (List.mem_of_getElem? this.symm)
  by_cases c13 : i < 52
  · have := h13 (i - 32) (by omega)
    rw [show 32 + (i - 32) = i by omega, hv] at this
    exact bv_one _ v (List.mem_of_getElem? this.symm)
  · have := r2 (i - 52) (by omega)
    rw [show 52 + (i - 52) = i by omega, hv] at this
    exact r1.one v (List.mem_of_getElem? this.symm)
end
section
variable {G : Nat → Prop} {bw gf : Nat} {cs fr r0 : List Value} {d d' : WD} {f : FD} {r fs : List FD} {x : XD} {w w' : World}
theorem SR.back (h : SR G bw gf cs fr d fs x w) (hr : Slices 8 r0) (hk : KW G r0 d' w) (hrow : RowT 107 w' bw (over8 r0 cs)) (hc : Chg bw w w') : SR G bw gf (over8 r0 cs) fr d' fs x w' := by
  have hm : Mv G w w' := Mv.chain h.cw.row h.cw.g hc
  obtain ⟨cap, e1, e2⟩ := h.frames
  exact ⟨h.cw.back hr hk hrow hm.chg, KW.nlogs hr hk hm.chg, (h.xs.go hm.chg).eq (fun i hi _ _ => over8_hi hr.1 hi), (over8_hi hr.1 (by omega)).trans h.phase, h.ne, hc.row h.row h.ne, h.g, ⟨cap, (over8_hi hr.1 (by omega)).trans e1, e2⟩, h.len, h.kfs.go hm⟩
theorem SR.pop (h : SR G bw gf cs fr d (f :: r) x w) (hrow : RowT 107 w' bw (cs.set 9 (.slice (some ⟨gf, 0, none⟩) r.length r.length))) (hc : Chg bw w w') : SR G bw gf (cs.set 9 (.slice (some ⟨gf, 0, none⟩) r.length r.length)) fr d r x w' := by
  have hm : Mv G w w' := Mv.chain h.cw.row h.cw.g hc
  obtain ⟨cap, e1, e2, e3, e4⟩ := h.frames
  have hl := h.len
  rw [List.length_cons] at hl e3
  have E : ∀ i, i ≠ 9 → (cs.set 9 (Value.slice (some ⟨gf, 0, none⟩) r.length r.length))[i]? = cs[i]? := fun i hi => List.getElem?_set_ne (Ne.symm hi)
  exact ⟨h.cw.turn1 (by omega) hm.chg hrow, h.logsGo hm (E 4 (by omega)) rfl, (h.xs.go hm.chg).eq (fun i _ h9 _ => E i h9), (E 11 (by omega)).trans h.phase, h.ne, hc.row h.row h.ne, h.g, ⟨r.length, List.getElem?_set_self (by rw [h.cw.len]; omega), .inl rfl, Nat.le_refl _, by omega⟩, by omega, h.kfs.2.go hm⟩
theorem SR.ended (h : SR G bw gf cs fr d fs x w) {A : Option Addr} {k c n : Nat} (hn : KNat G w A k c n) (s : Nat) (hrow : RowT 107 w' bw ((((cs.set 9 nilS).set 11 (.int .u8 2)).set 12 (.int .u8 s)).set 16 (.slice A k c))) (hc : Chg bw w w') : SE G bw ((((cs.set 9 nilS).set 11 (.int .u8 2)).set 12 (.int .u8 s)).set 16 (.slice A k c)) d { x with status := s, left := n } w' := by
  have hm : Mv G w w' := Mv.chain h.cw.row h.cw.g hc
  have hl := h.cw.len
  obtain ⟨ao, l, c', g1, g2⟩ := h.logs
  refine ⟨h.cw.turn hrow (by simp only [List.length_set]; exact hl) (fun i hi => ?_) hm.chg, ⟨ao, l, c', ?_, g2.go hm⟩, ?_, ?_, ?_⟩
  · rw [List.getElem?_set_ne (by omega), List.getElem?_set_ne (by omega), List.getElem?_set_ne (by omega), List.getElem?_set_ne (by omega)]
  · rw [List.getElem?_set_ne (by omega), List.getElem?_set_ne (by omega), List.getElem?_set_ne (by omega), List.getElem?_set_ne (by omega)]
    exact g1
  · have a1 : XS G ((cs.set 9 nilS).set 11 (.int .u8 2)) x w := h.xs.eq (fun i _ h9 h11 => by rw [List.getElem?_set_ne (Ne.symm h11), List.getElem?_set_ne (Ne.symm h9)])
    have a2 := a1.setStatus (by simp only [List.length_set]; exact hl) s
    exact (a2.setLeft (by simp only [List.length_set]; exact hl) hn).go hm.chg
  · rw [List.getElem?_set_ne (by omega), List.getElem?_set_ne (by omega)]
    exact List.getElem?_set_self (by rw [List.length_set, hl]; omega)
  · rw [List.getElem?_set_ne (by omega), List.getElem?_set_ne (by omega), List.getElem?_set_ne (by omega)]
    exact List.getElem?_set_self (by rw [hl]; omega)
end

end Go.Proofs.YgcsakGreat
