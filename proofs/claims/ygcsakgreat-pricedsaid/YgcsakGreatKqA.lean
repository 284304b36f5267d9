/-
  yp: enters.
-/
import Derived.Test.YgcsakGreatKoE
namespace Go.Proofs.YgcsakGreat
set_option linter.unusedVariables false
set_option linter.unusedSimpArgs false
set_option maxRecDepth 100000
open Go.RowKit

section
variable {G : Nat → Prop} {bw gf : Nat} {cs fr : List Value} {d : WD} {f : FD} {r : List FD} {x : XD} {w w0 : World} {B : Nat}
theorem EnsK.from {y tk st : Nat} {e : Ending} {w' : World} (h : EnsK G bw B y d f r x tk st w e w') (hm : Mv G w0 w) : EnsK G bw B y d f r x tk st w0 e w' := by
  obtain ⟨h1, G', gf', cs', fr', d', h2, h3, h4, h5⟩ := h
  have hs := hm.size
  exact ⟨h1, G', gf', cs', fr', d', ⟨h2.sub, fun i hi hl => h2.new i hi (by omega)⟩, hm.trans h3, h4, h5⟩
set_option maxHeartbeats 8000000 in
theorem enters_any (p : Nat) (hp : p = 240 ∨ p = 245 ∨ p = 241 ∨ p = 242 ∨ p = 244 ∨ p = 250) (h : SR G bw gf cs fr d (f :: r) x w) (hg : Good B d) (hwt : wt d + 60000 ≤ 2250000000) (hf : AnyF f) (hml : f.ml ≤ 1000000) (hgas : f.gas ≤ 1048576) (htk : takA p ≤ f.stk.length) (hinit : p = 240 ∨ p = 245 → argN f.stk 2 ≤ 1000) (hin : ¬ (p = 240 ∨ p = 245) → argN f.stk (takA p - 3) ≤ 1000000) (hlive : Live d.accts f.self) (hrl : r.length ≤ 900) :
    Calls Sakg.prog 121 #[.pointer (some ⟨bw, 0, none⟩), .pointer (some ⟨gf, 60 * r.length, none⟩), .int .u8 p] w (EnsK G bw B 20000 d f r { x with ret := [] } (takA p) (stipN p f) w) := by
  obtain ⟨v10, hx10⟩ := h.cw.ex (i := 10) (by omega)
  have hf10 := h.cw.row.froz 10
  obtain ⟨h1, o1⟩ := h.ret (KSrc.nil G w)
  obtain ⟨w1, hw1⟩ : ∃ y, y = w.setCell ⟨bw, 10, none⟩ (.slice none 0 0) := ⟨_, rfl⟩
  rw [← hw1] at h1 o1
  have m1 : Mv G w w1 := Mv.chain h.cw.row h.cw.g (Chg.ofOnly o1)
  by_cases hc : p = 240 ∨ p = 245
  · have hz : stipN p f = 0 := by unfold stipN; rw [if_neg (by omega)]
    have HC := hide ((enterCreate_any p hc h1 hg hwt hf hml hgas htk (hinit hc) rfl hrl).mono fun e w' hk => hk.from m1)
    rw [hz]
    have HW := hide hw1
    obtain ⟨o, ho⟩ : ∃ o, o = 60 * r.length := ⟨_, rfl⟩
    rw [← ho] at HC ⊢
    generalize takA p = tk at HC ⊢
    clear h h1 o1 hw1 ho hinit hin htk hp hz
    rcases hc with hc | hc
    · have t0 : ((p : Int) == 240) = true := by rw [beq_iff_eq]; omega
      clear hc
      go_enter Sakg.func121, Sakg.ntmps121
      go_upto_region 1 with fail
      rw [← unhide HW]
      clear hx10 hf10
      go_wp2_with (go_at_call 214; refine (unhide HC).mono ?_; rintro e w9 hend; have HEND := hide hend; have hee := hend.1; subst hee; clear hend)
      refine bodyPost_done rfl rfl ?_
      exact unhide HEND
    · have t0 : ((p : Int) == 240) = false := by rw [beq_eq_false_iff_ne]; omega
      have t1 : ((p : Int) == 245) = true := by rw [beq_iff_eq]; omega
      clear hc
      go_enter Sakg.func121, Sakg.ntmps121
      go_upto_region 1 with fail
      rw [← unhide HW]
      clear hx10 hf10
      go_wp2_with (go_at_call 214; refine (unhide HC).mono ?_; rintro e w9 hend; have HEND := hide hend; have hee := hend.1; subst hee; clear hend)
      refine bodyPost_done rfl rfl ?_
      exact unhide HEND
  · have HC := hide ((enterCall_any p (by omega) h1 hg hwt hf hml hgas htk (hin hc) hlive rfl hrl).mono fun e w' hk => hk.from m1)
    have HW := hide hw1
    obtain ⟨o, ho⟩ : ∃ o, o = 60 * r.length := ⟨_, rfl⟩
    rw [← ho] at HC ⊢
    generalize takA p = tk at HC ⊢
    generalize stipN p f = sp at HC ⊢
    have t0 : ((p : Int) == 240) = false := by rw [beq_eq_false_iff_ne]; omega
    have t1 : ((p : Int) == 245) = false := by rw [beq_eq_false_iff_ne]; omega
    clear h h1 o1 hw1 ho hinit hin htk hp hc
    go_enter Sakg.func121, Sakg.ntmps121
    go_upto_region 1 with fail
    rw [← unhide HW]
    clear hx10 hf10
    go_wp2_with (go_at_call 215; refine (unhide HC).mono ?_; rintro e w9 hend; have HEND := hide hend; have hee := hend.1; subst hee; clear hend)
    refine bodyPost_done rfl rfl ?_
    exact unhide HEND
end

end Go.Proofs.YgcsakGreat
