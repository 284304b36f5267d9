/-
  yp, exactly: enters.
-/
import Derived.Test.YgcsakGreatXoA
import Derived.Test.YgcsakGreatXoB
import Derived.Test.YgcsakGreatXpA
namespace Go.Proofs.YgcsakGreat
set_option linter.unusedVariables false
set_option linter.unusedSimpArgs false
set_option maxRecDepth 100000
open Go.RowKit

section
variable {G : Nat → Prop} {bw gf : Nat} {cs fr : List Value} {d : WD} {f : FD} {r : List FD} {x : XD} {w w0 : World} {B : Nat}
theorem CalX.from {e : Ending} {w' : World} (h : CalX G bw B d f r x w e w') (hm : Mv G w0 w) : CalX G bw B d f r x w0 e w' := by
  obtain ⟨h1, G', gf', cs', fr', als, h2, h3, h4⟩ := h
  have hs := hm.size
  exact ⟨h1, G', gf', cs', fr', als, ⟨h2.sub, fun i hi hl => h2.new i hi (by omega)⟩, hm.trans h3, h4⟩
theorem CreX.from {p : Nat} {e : Ending} {w' : World} (h : CreX G bw B p d f r x w e w') (hm : Mv G w0 w) : CreX G bw B p d f r x w0 e w' := by
  obtain ⟨h1, G', gf', cs', fr', als, ms, a, m, h2, h3, h4⟩ := h
  have hs := hm.size
  exact ⟨h1, G', gf', cs', fr', als, ms, a, m, ⟨h2.sub, fun i hi hl => h2.new i hi (by omega)⟩, hm.trans h3, h4⟩
set_option maxHeartbeats 8000000 in
theorem enters_call (p : Nat) (hp : p = 241) (h : SR G bw gf cs fr d (f :: r) x w) (hg : Good B d) (hwt : wt d + 60000 ≤ 2250000000) (hf : AnyF f) (hml : f.ml ≤ 1000000) (hgas : f.gas ≤ 1048576) (htk : takA p ≤ f.stk.length) (hin : argN f.stk (takA p - 3) ≤ 1000000) (hrl : r.length < 6) (hlow : argN f.stk 1 < 256) (hnat : nativeN (lowAddr (argN f.stk 1)) = 0) :
    Calls Sakg.prog 121 #[.pointer (some ⟨bw, 0, none⟩), .pointer (some ⟨gf, 60 * r.length, none⟩), .int .u8 p] w (CalX G bw B d f r { x with ret := [] } w) := by
  obtain ⟨v10, hx10⟩ := h.cw.ex (i := 10) (by omega)
  have hf10 := h.cw.row.froz 10
  obtain ⟨h1, o1⟩ := h.ret (KSrc.nil G w)
  obtain ⟨w1, hw1⟩ : ∃ y, y = w.setCell ⟨bw, 10, none⟩ (.slice none 0 0) := ⟨_, rfl⟩
  rw [← hw1] at h1 o1
  have m1 : Mv G w w1 := Mv.chain h.cw.row h.cw.g (Chg.ofOnly o1)
  have HC := hide ((enterCall_x p hp h1 hg hwt hf hml hgas htk hin rfl hrl hlow hnat).mono fun e w' hk => hk.from m1)
  have HW := hide hw1
  obtain ⟨o, ho⟩ : ∃ o, o = 60 * r.length := ⟨_, rfl⟩
  rw [← ho] at HC ⊢
  have t0 : ((p : Int) == 240) = false := by rw [beq_eq_false_iff_ne]; omega
  have t1 : ((p : Int) == 245) = false := by rw [beq_eq_false_iff_ne]; omega
  clear h h1 o1 hw1 ho htk hp hin hlow hnat
  go_enter Sakg.func121, Sakg.ntmps121
  go_upto_region 1 with fail
  rw [← unhide HW]
  clear hx10 hf10
  go_wp2_with (go_at_call 215; refine (unhide HC).mono ?_; rintro e w9 hend; have HEND := hide hend; have hee := hend.1; subst hee; clear hend)
  refine bodyPost_done rfl rfl ?_
  exact unhide HEND
set_option maxHeartbeats 8000000 in
theorem enters_create (p : Nat) (hp : p = 240 ∨ p = 245) (h : SR G bw gf cs fr d (f :: r) x w) (hg : Good B d) (hwt : wt d + 60000 ≤ 2250000000) (hf : AnyF f) (hml : f.ml ≤ 1000000) (hgas : f.gas ≤ 1048576) (htk : takA p ≤ f.stk.length) (hinit : argN f.stk 2 ≤ 1000) (hrl : r.length < 6) (hval0 : argN f.stk 0 = 0) (hnon : (lookY d.accts f.self).nonce = 1) (hmem : Zm w fr (60 * r.length) f.ml (zeros f.ml)) (hfree : ∀ a, IsAddr a → CrA p f.self (argN f.stk 3) (zeros (argN f.stk 2)) a → (lookY (nonY d.accts f.self 2) a).nonce = 0 ∧ (lookY (nonY d.accts f.self 2) a).code = []) :
    Calls Sakg.prog 121 #[.pointer (some ⟨bw, 0, none⟩), .pointer (some ⟨gf, 60 * r.length, none⟩), .int .u8 p] w (CreX G bw B p d f r { x with ret := [] } w) := by
  obtain ⟨v10, hx10⟩ := h.cw.ex (i := 10) (by omega)
  have hf10 := h.cw.row.froz 10
  obtain ⟨h1, o1⟩ := h.ret (KSrc.nil G w)
  obtain ⟨w1, hw1⟩ : ∃ y, y = w.setCell ⟨bw, 10, none⟩ (.slice none 0 0) := ⟨_, rfl⟩
  rw [← hw1] at h1 o1
  have m1 : Mv G w w1 := Mv.chain h.cw.row h.cw.g (Chg.ofOnly o1)
  have hmem1 := zm_turn h rfl (ChgS.only (G := fun q => q = bw ∨ q = gf) o1 (.inl rfl)) rfl _ hmem
  have HC := hide ((enterCreate_x p hp h1 hg hwt hf hml hgas htk hinit rfl hrl hval0 hnon hmem1 hfree).mono fun e w' hk => hk.from m1)
  have HW := hide hw1
  obtain ⟨o, ho⟩ : ∃ o, o = 60 * r.length := ⟨_, rfl⟩
  rw [← ho] at HC ⊢
  clear h h1 o1 hw1 ho hinit htk hmem hmem1 hval0 hnon hfree
  rcases hp with hc | hc
  · have t0 : ((p : Int) == 240) = true := by rw [beq_iff_eq]; omega
    clear hc
    go_enter Sakg.func121, Sakg.ntmps121
    go_upto_region 1 with fail
    rw [← unhide HW]
    clear hx10 hf10
    go_wp2_with (go_at_call 214; refine (unhide HC).mono ?_; rintro e w9 hend; have HEND := hide hend; have hee := hend.1; subst hee; clear hend)
    refine bodyPost_done rfl rfl ?_
    exact unhide HEND
  · have t0 : ((p : Int) == 240) = false := by rw [beq_eq_false_iff_ne]; omega
    have t1 : ((p : Int) == 245) = true := by rw [beq_iff_eq]; omega
    clear hc
    go_enter Sakg.func121, Sakg.ntmps121
    go_upto_region 1 with fail
    rw [← unhide HW]
    clear hx10 hf10
    go_wp2_with (go_at_call 214; refine (unhide HC).mono ?_; rintro e w9 hend; have HEND := hide hend; have hee := hend.1; subst hee; clear hend)
    refine bodyPost_done rfl rfl ?_
    exact unhide HEND
end

end Go.Proofs.YgcsakGreat
