/-
  yp, exactly: runs, by the instruction.
-/
import Derived.Test.YgcsakGreatXrC
namespace Go.Proofs.YgcsakGreat
set_option linter.unusedVariables false
set_option linter.unusedSimpArgs false
set_option maxRecDepth 100000
open Go.RowKit

/-- a frame at a place -/
def at4 (f : FD) (g pc : Nat) (s : List Nat) (ml : Nat) : FD := { f with gas := g, pc := pc, stk := s, ml := ml }
theorem reachA_push {p : Nat} (h1 : 95 ≤ p) (h2 : p ≤ 127) (s : List Nat) : reachA p s = 0 := by
  unfold reachA
  rw [if_neg (by omega), if_neg (by omega), if_neg (by omega), if_neg (by omega), if_neg (by omega), if_neg (by omega), if_neg (by omega), if_neg (by omega), if_neg (by omega)]
theorem costB_far {p : Nat} {s : List Nat} (h : reachA p s = 0) (ml b : Nat) : costB p s ml b = b := by
  unfold costB needA
  rw [h]
  have : max ((0 + 31) / 32) (ml / 32) = ml / 32 := by omega
  rw [this]
  omega
theorem push_facts {p : Nat} (h1 : 95 ≤ p) (h2 : p ≤ 127) : famA p = 2 ∧ takA p = 0 ∧ givA p = 1 ∧ valO p ∧ ClsA p := by
  have hf : famA p = 2 := by
    unfold famA
    rw [if_neg (by omega), if_neg (by omega), if_pos (by omega)]
  have hcase : ∀ q, q ≤ 32 → takA (95 + q) = 0 ∧ givA (95 + q) = 1 := by decide
  have h3 := hcase (p - 95) (by omega)
  rw [show 95 + (p - 95) = p by omega] at h3
  exact ⟨hf, h3.1, h3.2, by unfold valO; omega, by unfold ClsA; omega⟩
section
variable {G0 : Nat → Prop} {W : World} {bw B K K' : Nat} {d : WD} {f : FD} {r : List FD} {x : XD} {z : Bool} {w : World} {Q : World → Prop} {m p n bN g pc ml c v : Nat} {s : List Nat}
/-- PUSH0 .. PUSH32 -/
theorem goX_push (h : RunX G0 W bw B K d (at4 f g pc s ml) r x true w) (p : Nat) (h1 : 95 ≤ p) (h2 : p ≤ 127) (hop : (f.code.getD pc 0).toNat = p) (v : Nat) (hv : val (cutL f.code (pc + 1) (immA p)).reverse = v) (c : Nat) (hc : c = if p = 95 then 2 else 3) (hcg : c ≤ g) (hsl : s.length < 60) (hpc : pc ≤ 900)
    (k : ∀ w', RunX G0 W bw B K d (at4 f (g - c) (pc + 1 + immA p) (s ++ [v]) ml) r x true w' → Goes bw Q m w') : Goes bw Q (m + 1) w := by
  obtain ⟨hfam, htk, hgv, hvO, hcl⟩ := push_facts h1 h2
  have hrc := reachA_push h1 h2 s
  have hx := h.xb
  have hg := h.good
  have hf := h.any
  have hwt := h.wtle
  have hK := h.top
  have hmlx := h.ml
  have hgx := h.gas
  have hP1 := p256_ge
  have hgas' : (at4 f g pc s ml).gas = g := rfl
  rw [hgas'] at hgx
  have hml' : (at4 f g pc s ml).ml = ml := rfl
  rw [hml'] at hmlx
  refine run_value (p := p) (n := c) (bN := c) (K' := K) h hop (by omega) hvO hgv (by show reachA p s ≤ 900000; omega) (by refine ⟨by omega, by omega, by omega, by omega, by omega, by omega⟩) (costB_far hrc _ _) hcg hcl (by rw [htk]; exact Nat.zero_le _) (by show s.length ≤ 60; omega) (by show pc ≤ 1000; omega) ?_ (fun y d2 => y = pushX (paidF (at4 f g pc s ml) p c) p ∧ d2 = d) ?_ ?_ hK ?_
  · intro G gf cs fr rt wz hs hxr
    by_cases h95 : p = 95
    · rw [hc, if_pos h95]
      subst h95
      exact bareX_95 hs hxr hg hf
    · rw [hc, if_neg h95]
      exact bareX_96 p (by omega) h2 hs hxr hg hf
  · intro G gf cs fr rt wz A hs hxr hA
    exact valX_push p h1 h2 hs hxr hg hf.paid (by show growN ml (reachA p s) ≤ 1000000; rw [hrc, growN_0]; omega) (by show g - c < P256; omega) (by omega) A (takA p) (takA p) _ hA (by rw [htk]; omega) (argsK_lt hf.stk _)
  · rintro y d2 - ⟨-, rfl⟩
    exact ⟨hg, hwt⟩
  · rintro y d2 w' - ⟨hy, rfl⟩ hr
    have hpx : pushX (paidF (at4 f g pc s ml) p c) p = v := hv
    rw [hpx] at hy
    subst hy
    have e : ({ paidF (at4 f g pc s ml) p c with stk := (at4 f g pc s ml).stk.take ((at4 f g pc s ml).stk.length - takA p) ++ [y], pc := (at4 f g pc s ml).pc + 1 + immA p } : FD) = at4 f (g - c) (pc + 1 + immA p) (s ++ [y]) ml := by
      show ({ f with gas := g - c, pc := pc + 1 + immA p, stk := s.take (s.length - takA p) ++ [y], ml := growN ml (reachA p s) } : FD) = _
      rw [htk, hrc, growN_0, Nat.sub_zero, List.take_length]
      rfl
    rw [e] at hr
    exact k w' hr
/-- KECCAK256 -/
theorem goX_32 (h : RunX G0 W bw B K d f r x true w) (hop : opcN f = 32) (htk : 2 ≤ f.stk.length) (hsl : f.stk.length ≤ 60) (hpc : f.pc ≤ 900) (hk : argN f.stk 1 ≤ 1000000) (hre : reachA 32 f.stk ≤ 900000) (hn : costB 32 f.stk f.ml (30 + 6 * ((argN f.stk 1 + 31) / 32)) = n) (hle : n ≤ f.gas)
    (k : ∀ v w', RunX G0 W bw B K d { paidF f 32 n with stk := f.stk.take (f.stk.length - 2) ++ [v], pc := f.pc + 1 } r x true w' → Goes bw Q m w') : Goes bw Q (m + 1) w := by
  have hx := h.xb
  have hg := h.good
  have hf := h.any
  have hwt := h.wtle
  have hK := h.top
  have hmlx := h.ml
  have hgx := h.gas
  have hP1 := p256_ge
  have hml2 := growN_900 f.ml (reachA 32 f.stk) hmlx hre
  refine run_value (p := 32) (n := n) (bN := 30 + 6 * ((argN f.stk 1 + 31) / 32)) (K' := K) h hop (by omega) (by unfold valO; omega) rfl hre (by decide) hn hle (by unfold ClsA; omega) htk hsl (by omega) ?_ (fun _ d2 => d2 = d) ?_ ?_ hK ?_
  · intro G gf cs fr rt wz hs hxr
    exact bareX_32 hs hxr hg hf
  · intro G gf cs fr rt wz A hs hxr hA
    exact valX_32 hs hxr hg hf.paid (by show growN f.ml (reachA 32 f.stk) ≤ 1000000; omega) (by show f.gas - n < P256; omega) (by omega) A (takA 32) (takA 32) _ hA (by decide) (argsK_lt hf.stk _) (by rw [argsK_get _ _ _ (by decide)]; exact hk)
  · rintro y d2 - rfl
    exact ⟨hg, hwt⟩
  · rintro y d2 w' - rfl hr
    exact k y w' hr
/-- BALANCE -/
theorem goX_49 (h : RunX G0 W bw B K d f r x true w) (hop : opcN f = 49) (htk : 1 ≤ f.stk.length) (hsl : f.stk.length ≤ 60) (hpc : f.pc ≤ 900) (hlow : argN f.stk 0 < 256) (hn : accX d (lowAddr (argN f.stk 0)) = n) (hle : n ≤ f.gas) (hK' : K + 2500 + 60000 ≤ 2250000000)
    (k : ∀ v als w', (∀ y, y ∈ als ↔ y = lowAddr (argN f.stk 0) ∨ y ∈ d.warmA) → RunX G0 W bw B (K + 2500) { d with warmA := als } { f with gas := f.gas - n, stk := f.stk.take (f.stk.length - 1) ++ [v], pc := f.pc + 1 } r x true w' → Goes bw Q m w') : Goes bw Q (m + 1) w := by
  have hx := h.xb
  have hg := h.good
  have hf := h.any
  have hwt := h.wtle
  have hK := h.top
  have hmlx := h.ml
  have hgx := h.gas
  have hP1 := p256_ge
  have hrc : reachA 49 f.stk = 0 := by unfold reachA; simp
  have hml2 : growN f.ml (reachA 49 f.stk) = f.ml := by rw [hrc, growN_0]
  refine run_value (p := 49) (n := n) (bN := n) (K' := K + 2500) h hop (by omega) (by unfold valO; omega) rfl (by omega) (by decide) (costB_far hrc _ _) hle (by unfold ClsA; omega) htk hsl (by omega) ?_ (fun _ d2 => ∃ als, als.length ≤ d.warmA.length + 1 ∧ (∀ y, y ∈ als ↔ y = lowAddr ((argsK f.stk (takA 49)).getD 0 0) ∨ y ∈ d.warmA) ∧ d2 = { d with warmA := als }) ?_ ?_ hK' ?_
  · intro G gf cs fr rt wz hs hxr
    rw [← hn]
    exact bareX_49 hs hxr hg hf hlow
  · intro G gf cs fr rt wz A hs hxr hA
    exact valX_49 hs hxr hg hf.paid (by show growN f.ml (reachA 49 f.stk) ≤ 1000000; omega) (by show f.gas - n < P256; omega) (by omega) A (takA 49) (takA 49) _ hA (by decide) (argsK_lt hf.stk _) (by rw [argsK_get _ _ _ (by decide)]; exact hlow)
  · rintro y d2 - ⟨als, hal, -, rfl⟩
    have hgr := Gr.warm hg.snd hal
    have hw := hgr.wtle
    exact ⟨hgr.good (K := 2250000000) (by omega) (Nat.le_refl _), by omega⟩
  · rintro y d2 w' - ⟨als, hal, hmem, rfl⟩ hr
    rw [argsK_get _ _ _ (by decide)] at hmem
    have e : ({ paidF f 49 n with stk := f.stk.take (f.stk.length - takA 49) ++ [y], pc := f.pc + 1 + immA 49 } : FD) = { f with gas := f.gas - n, stk := f.stk.take (f.stk.length - 1) ++ [y], pc := f.pc + 1 } := by
      show ({ f with gas := f.gas - n, ml := growN f.ml (reachA 49 f.stk), stk := f.stk.take (f.stk.length - 1) ++ [y], pc := f.pc + 1 } : FD) = _
      rw [hml2]
    rw [e] at hr
    exact k y als w' hmem hr
theorem goX_55 (h : RunX G0 W bw B K d f r x true w) (hop : opcN f = 55) (htk : 3 ≤ f.stk.length) (hsl : f.stk.length ≤ 60) (hpc : f.pc ≤ 900) (hk : argN f.stk 2 ≤ 1000000) (hre : reachA 55 f.stk ≤ 900000) (hn : costB 55 f.stk f.ml (3 + copyN (argN f.stk 2)) = n) (hle : n ≤ f.gas)
    (k : ∀ w', RunX G0 W bw B K d { paidF f 55 n with stk := f.stk.take (f.stk.length - 3), pc := f.pc + 1 } r x false w' → Goes bw Q m w') : Goes bw Q (m + 1) w := by
  have hx := h.xb
  have hg := h.good
  have hf := h.any
  have hwt := h.wtle
  have hK := h.top
  have hmlx := h.ml
  have hgx := h.gas
  have hst := h.sta
  have hP1 := p256_ge
  have hml2 := growN_900 f.ml (reachA 55 f.stk) hmlx hre
  refine run_effect (p := 55) (n := n) (K' := K) h hop (by omega) (by unfold effO; omega) rfl hre (by decide) hle htk hsl (by omega) ?_ (fun d2 => d2 = d) ?_ ?_ hK (z2 := false) (fun e => by cases e) ?_
  · intro G gf cs fr rt wz hs hxr
    exact refA (by unfold ClsA; omega) hs hxr hg hf (by omega) hgx (by omega) hn hle (fun wy hy => bareX_55 (hs.kept hy) hxr hg hf) (by decide) htk (by rw [show givA 55 = 0 from rfl]; omega) hst wz (Below.refl _ _)
  · intro G gf cs fr rt wz A hs hxr hA
    exact effX_55 hs hxr hg hf.paid (by show growN f.ml (reachA 55 f.stk) ≤ 1000000; omega) (by omega) A (takA 55) (takA 55) _ hA (by decide) (argsK_lt hf.stk _) (by rw [argsK_get _ _ _ (by decide)]; exact hk)
  · rintro d2 rfl
    exact ⟨hg, hwt⟩
  · rintro d2 w' rfl hr
    exact k w' hr
theorem goX_57 (h : RunX G0 W bw B K d f r x true w) (hop : opcN f = 57) (htk : 3 ≤ f.stk.length) (hsl : f.stk.length ≤ 60) (hpc : f.pc ≤ 900) (hk : argN f.stk 2 ≤ 1000000) (hre : reachA 57 f.stk ≤ 900000) (hn : costB 57 f.stk f.ml (3 + copyN (argN f.stk 2)) = n) (hle : n ≤ f.gas)
    (k : ∀ w', RunX G0 W bw B K d { paidF f 57 n with stk := f.stk.take (f.stk.length - 3), pc := f.pc + 1 } r x false w' → Goes bw Q m w') : Goes bw Q (m + 1) w := by
  have hx := h.xb
  have hg := h.good
  have hf := h.any
  have hwt := h.wtle
  have hK := h.top
  have hmlx := h.ml
  have hgx := h.gas
  have hst := h.sta
  have hP1 := p256_ge
  have hml2 := growN_900 f.ml (reachA 57 f.stk) hmlx hre
  refine run_effect (p := 57) (n := n) (K' := K) h hop (by omega) (by unfold effO; omega) rfl hre (by decide) hle htk hsl (by omega) ?_ (fun d2 => d2 = d) ?_ ?_ hK (z2 := false) (fun e => by cases e) ?_
  · intro G gf cs fr rt wz hs hxr
    exact refA (by unfold ClsA; omega) hs hxr hg hf (by omega) hgx (by omega) hn hle (fun wy hy => bareX_57 (hs.kept hy) hxr hg hf) (by decide) htk (by rw [show givA 57 = 0 from rfl]; omega) hst wz (Below.refl _ _)
  · intro G gf cs fr rt wz A hs hxr hA
    exact effX_57 hs hxr hg hf.paid (by show growN f.ml (reachA 57 f.stk) ≤ 1000000; omega) (by omega) A (takA 57) (takA 57) _ hA (by decide) (argsK_lt hf.stk _) (by rw [argsK_get _ _ _ (by decide)]; exact hk)
  · rintro d2 rfl
    exact ⟨hg, hwt⟩
  · rintro d2 w' rfl hr
    exact k w' hr
theorem goX_94 (h : RunX G0 W bw B K d f r x true w) (hop : opcN f = 94) (htk : 3 ≤ f.stk.length) (hsl : f.stk.length ≤ 60) (hpc : f.pc ≤ 900) (hk : argN f.stk 2 ≤ 1000000) (hre : reachA 94 f.stk ≤ 900000) (hn : costB 94 f.stk f.ml (3 + copyN (argN f.stk 2)) = n) (hle : n ≤ f.gas)
    (k : ∀ w', RunX G0 W bw B K d { paidF f 94 n with stk := f.stk.take (f.stk.length - 3), pc := f.pc + 1 } r x false w' → Goes bw Q m w') : Goes bw Q (m + 1) w := by
  have hx := h.xb
  have hg := h.good
  have hf := h.any
  have hwt := h.wtle
  have hK := h.top
  have hmlx := h.ml
  have hgx := h.gas
  have hst := h.sta
  have hP1 := p256_ge
  have hml2 := growN_900 f.ml (reachA 94 f.stk) hmlx hre
  refine run_effect (p := 94) (n := n) (K' := K) h hop (by omega) (by unfold effO; omega) rfl hre (by decide) hle htk hsl (by omega) ?_ (fun d2 => d2 = d) ?_ ?_ hK (z2 := false) (fun e => by cases e) ?_
  · intro G gf cs fr rt wz hs hxr
    exact refA (by unfold ClsA; omega) hs hxr hg hf (by omega) hgx (by omega) hn hle (fun wy hy => bareX_94 (hs.kept hy) hxr hg hf) (by decide) htk (by rw [show givA 94 = 0 from rfl]; omega) hst wz (Below.refl _ _)
  · intro G gf cs fr rt wz A hs hxr hA
    exact effX_94 hs hxr hg hf.paid (by show growN f.ml (reachA 94 f.stk) ≤ 1000000; omega) (by omega) A (takA 94) (takA 94) _ hA (by decide) (argsK_lt hf.stk _) (by rw [argsK_get _ _ _ (by decide)]; exact hk)
  · rintro d2 rfl
    exact ⟨hg, hwt⟩
  · rintro d2 w' rfl hr
    exact k w' hr
theorem goX_60 (h : RunX G0 W bw B K d f r x true w) (hop : opcN f = 60) (htk : 4 ≤ f.stk.length) (hsl : f.stk.length ≤ 60) (hpc : f.pc ≤ 900) (hlow : argN f.stk 0 < 256) (hk : argN f.stk 3 ≤ 1000000) (hre : reachA 60 f.stk ≤ 900000) (hn : costB 60 f.stk f.ml (accX d (lowAddr (argN f.stk 0)) + copyN (argN f.stk 3)) = n) (hle : n ≤ f.gas) (hK' : K + 2500 + 60000 ≤ 2250000000)
    (k : ∀ als w', RunX G0 W bw B (K + 2500) { d with warmA := als } { paidF f 60 n with stk := f.stk.take (f.stk.length - 4), pc := f.pc + 1 } r x false w' → Goes bw Q m w') : Goes bw Q (m + 1) w := by
  have hx := h.xb
  have hg := h.good
  have hf := h.any
  have hwt := h.wtle
  have hK := h.top
  have hmlx := h.ml
  have hgx := h.gas
  have hst := h.sta
  have hP1 := p256_ge
  have hml2 := growN_900 f.ml (reachA 60 f.stk) hmlx hre
  refine run_effect (p := 60) (n := n) (K' := K + 2500) h hop (by omega) (by unfold effO; omega) rfl hre (by decide) hle htk hsl (by omega) ?_ (fun d2 => ∃ als, Gr B d { d with warmA := als } 2500 ∧ d2 = { d with warmA := als }) ?_ ?_ hK' (z2 := false) (fun e => by cases e) ?_
  · intro G gf cs fr rt wz hs hxr
    exact refA (by unfold ClsA; omega) hs hxr hg hf (by omega) hgx (by omega) hn hle (fun wy hy => bareX_60 (hs.kept hy) hxr hg hf hlow) (by decide) htk (by rw [show givA 60 = 0 from rfl]; omega) hst wz (Below.refl _ _)
  · intro G gf cs fr rt wz A hs hxr hA
    exact effX_60 hs hxr hg hf.paid (by show growN f.ml (reachA 60 f.stk) ≤ 1000000; omega) (by omega) A (takA 60) (takA 60) _ hA (by decide) (argsK_lt hf.stk _) (by rw [argsK_get _ _ _ (by decide)]; exact hk)
  · rintro d2 ⟨als, hgr, rfl⟩
    have hw := hgr.wtle
    exact ⟨hgr.good (K := 2250000000) (by omega) (Nat.le_refl _), by omega⟩
  · rintro d2 w' ⟨als, -, rfl⟩ hr
    exact k als w' hr
theorem goX_160 (h : RunX G0 W bw B K d f r x true w) (hop : opcN f = 160) (htk : 2 ≤ f.stk.length) (hsl : f.stk.length ≤ 60) (hpc : f.pc ≤ 900) (hk : argN f.stk 1 ≤ 1000000) (hre : reachA 160 f.stk ≤ 900000) (hn : costB 160 f.stk f.ml (375 + 8 * argN f.stk 1) = n) (hle : n ≤ f.gas) (hK' : K + 2500 + 60000 ≤ 2250000000)
    (k : ∀ als w', RunX G0 W bw B (K + 2500) { d with logs := als } { paidF f 160 n with stk := f.stk.take (f.stk.length - 2), pc := f.pc + 1 } r x false w' → Goes bw Q m w') : Goes bw Q (m + 1) w := by
  have hx := h.xb
  have hg := h.good
  have hf := h.any
  have hwt := h.wtle
  have hK := h.top
  have hmlx := h.ml
  have hgx := h.gas
  have hst := h.sta
  have hP1 := p256_ge
  have hml2 := growN_900 f.ml (reachA 160 f.stk) hmlx hre
  refine run_effect (p := 160) (n := n) (K' := K + 2500) h hop (by omega) (by unfold effO; omega) rfl hre (by decide) hle htk hsl (by omega) ?_ (fun d2 => ∃ als, Gr B d { d with logs := als } 2500 ∧ d2 = { d with logs := als }) ?_ ?_ hK' (z2 := false) (fun e => by cases e) ?_
  · intro G gf cs fr rt wz hs hxr
    exact refA (by unfold ClsA; omega) hs hxr hg hf (by omega) hgx (by omega) hn hle (fun wy hy => bareX_160 (hs.kept hy) hxr hg hf) (by decide) htk (by rw [show givA 160 = 0 from rfl]; omega) hst wz (Below.refl _ _)
  · intro G gf cs fr rt wz A hs hxr hA
    exact effX_log 160 (by omega) (by omega) hs hxr hg hf.paid (by show growN f.ml (reachA 160 f.stk) ≤ 1000000; omega) (by omega) A (takA 160) (takA 160) _ hA rfl (argsK_lt hf.stk _) (by rw [argsK_get _ _ _ (by decide)]; exact hk)
  · rintro d2 ⟨als, hgr, rfl⟩
    have hw := hgr.wtle
    exact ⟨hgr.good (K := 2250000000) (by omega) (Nat.le_refl _), by omega⟩
  · rintro d2 w' ⟨als, -, rfl⟩ hr
    exact k als w' hr
/-- SSTORE of a slot that is set and is cleared -/
theorem goX_85 (h : RunX G0 W bw B K d f r x true w) (hop : opcN f = 85) (htk : 2 ≤ f.stk.length) (hsl : f.stk.length ≤ 60) (hpc : f.pc ≤ 900) (hml0 : f.ml = 0) (hlive : Live d.accts f.self) (hcl : Clears d f x) (hle : 5000 ≤ f.gas) (hK' : K + 32500 + 60000 ≤ 2250000000)
    (k : ∀ ms w', (∀ y, y ∈ ms ↔ y = (f.self, argN f.stk 0) ∨ y ∈ d.warmS) → RunX G0 W bw B (K + 32500) { d with refund := d.refund + 4800, warmS := ms, accts := stoY d.accts f.self (argN f.stk 0) (argN f.stk 1) } { f with gas := f.gas - 5000, stk := f.stk.take (f.stk.length - 2), pc := f.pc + 1 } r x true w' → Goes bw Q m w') : Goes bw Q (m + 1) w := by
  have hx := h.xb
  have hg := h.good
  have hf := h.any
  have hwt := h.wtle
  have hK := h.top
  have hmlx := h.ml
  have hgx := h.gas
  have hst := h.sta
  have hP1 := p256_ge
  have hBB := big_ge
  have hrc : reachA 85 f.stk = 0 := by unfold reachA; simp
  have hml2 : growN f.ml (reachA 85 f.stk) = f.ml := by rw [hrc, growN_0]
  refine run_effect (p := 85) (n := 5000) (K' := K + 32500) h hop (by omega) (by unfold effO; omega) rfl (by omega) (by decide) hle htk hsl (by omega) ?_ (fun d2 => ∃ ms, (∀ y, y ∈ ms ↔ y = (f.self, (argsK f.stk (takA 85)).getD 0 0) ∨ y ∈ d.warmS) ∧ Gr B d d2 32500 ∧ d2 = { d with refund := d.refund + 4800, warmS := ms, accts := stoY d.accts f.self ((argsK f.stk (takA 85)).getD 0 0) ((argsK f.stk (takA 85)).getD 1 0) }) ?_ ?_ hK' (z2 := true) (fun _ => by rw [hml2]; exact hml0) ?_
  · intro G gf cs fr rt wz hs hxr
    have hC := ref_cost hs hxr hg hf (by omega) hgx (by omega) (costB_far hrc f.ml 5000) hle (fun wy hy => bareX_85 (hs.kept hy) hxr hg hf ⟨hcl.cold, hcl.orig, hcl.load, hcl.new⟩)
    exact refuseX_85 hs hxr hf (by omega) 5000 (by omega) hC (by decide) htk (by rw [show givA 85 = 0 from rfl]; omega) hst hle (by omega)
  · intro G gf cs fr rt wz A hs hxr hA
    exact effX_85 hs hxr hg hf.paid (by show growN f.ml (reachA 85 f.stk) ≤ 1000000; omega) (by omega) A (takA 85) (takA 85) _ hA (by decide) (argsK_lt hf.stk _) hlive ⟨hcl.cold, hcl.orig, hcl.load, hcl.new⟩
  · rintro d2 ⟨ms, -, hgr, -⟩
    have hw := hgr.wtle
    exact ⟨hgr.good (K := 2250000000) (by omega) (Nat.le_refl _), by omega⟩
  · rintro d2 w' ⟨ms, hmem, -, rfl⟩ hr
    rw [argsK_get _ _ _ (by decide)] at hmem
    rw [argsK_get _ _ _ (by decide), argsK_get _ _ _ (by decide)] at hr
    have e : ({ paidF f 85 5000 with stk := f.stk.take (f.stk.length - takA 85), pc := f.pc + 1 + immA 85 } : FD) = { f with gas := f.gas - 5000, stk := f.stk.take (f.stk.length - 2), pc := f.pc + 1 } := by
      show ({ f with gas := f.gas - 5000, ml := growN f.ml (reachA 85 f.stk), stk := f.stk.take (f.stk.length - 2), pc := f.pc + 1 } : FD) = _
      rw [hml2]
    rw [e] at hr
    exact k ms w' hmem hr
end

end Go.Proofs.YgcsakGreat
