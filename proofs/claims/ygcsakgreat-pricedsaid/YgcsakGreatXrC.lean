/-
  yp, exactly: runs: CALL, CREATE, CREATE2.
-/
import Derived.Test.YgcsakGreatXrB
namespace Go.Proofs.YgcsakGreat
set_option linter.unusedVariables false
set_option linter.unusedSimpArgs false
set_option maxRecDepth 100000
open Go.RowKit

section
variable {G0 : Nat → Prop} {W : World} {bw B K K' : Nat} {d : WD} {f : FD} {r : List FD} {x : XD} {z : Bool} {w : World} {Q : World → Prop} {m p n bN : Nat}
theorem sent_le (a b : Nat) : sentN a b ≤ a := by unfold sentN; omega
theorem calG_le (f : FD) : calG f ≤ f.gas + 2300 := by
  have := sent_le f.gas (argN f.stk 0)
  unfold calG
  split <;> omega
/-- CALL -/
theorem goX_call (h : RunX G0 W bw B K d f r x true w) (hop : opcN f = 241) (htk : 7 ≤ f.stk.length) (hsl : f.stk.length ≤ 60) (hpc : f.pc ≤ 900) (hlow : argN f.stk 1 < 256) (hnatv : nativeN (lowAddr (argN f.stk 1)) = 0) (hin : argN f.stk 4 ≤ 1000000) (hre : reachA 241 f.stk ≤ 900000) (hn : costB 241 f.stk f.ml (callX d (lowAddr (argN f.stk 1)) (argN f.stk 2)) = n) (hle : n ≤ f.gas) (hg9 : f.gas ≤ 1000000) (hd4 : r.length ≤ 4) (hK' : K + 12500 + 60000 ≤ 2250000000)
    (k1 : (lookY d.accts f.self).bal < argN f.stk 2 → ∀ als w', RunX G0 W bw B (K + 12500) { d with warmA := als } { paidF f 241 n with gas := f.gas - n - sentN (f.gas - n) (argN f.stk 0) + calG (paidF f 241 n), stk := f.stk.take (f.stk.length - 7) ++ [0], pc := f.pc + 1 } r x false w' → Goes bw Q m w')
    (k2 : ¬ (lookY d.accts f.self).bal < argN f.stk 2 → ∀ als mo ys w', mo < P256 → Good B { d with warmA := als } → wt { d with warmA := als } ≤ K + 12500 → RunX G0 W bw B (K + 12500) { d with warmA := als, accts := moveY d.accts f.self (lowAddr (argN f.stk 1)) (argN f.stk 2) } { childF 2 f.static (argN f.stk 2) (lookY d.accts (lowAddr (argN f.stk 1))).code (lowAddr (argN f.stk 1)) f.self with gas := calG (paidF f 241 n), input := ys, saved := { d with warmA := als } } ({ paidF f 241 n with gas := f.gas - n - sentN (f.gas - n) (argN f.stk 0), stk := f.stk.take (f.stk.length - 7), outOff := mo, outLen := argN f.stk 6 } :: r) x true w' → Goes bw Q m w') : Goes bw Q (m + 1) w := by
  obtain ⟨⟨G, gf, cs, fr, rt, hW, hC, hs, hrt, hz⟩, hx, hg, hwt, hK, hf, hml, hgas, hdep, hnat, hsta⟩ := h
  have hxr := hx.setRet hrt
  have hP1 := p256_ge
  have hmay : MayX G bw gf cs fr d f r { x with ret := rt } w B := ⟨hs, hxr, hg, hf, hml, hgas, by omega, hnat, hz rfl⟩
  have hRF := refA (p := 241) (.inr (.inr (.inr ⟨by omega, by omega⟩))) hs hxr hg hf (by omega) hgas (by omega) hn hle (fun wz hz => bareX_241 (hs.kept hz) hxr hg hf hlow) (by decide) (by rw [show takA 241 = 7 from rfl]; omega) (by rw [show takA 241 = 7 from rfl, show givA 241 = 1 from rfl]; omega) hsta
  show Calls Sakg.prog 49 #[.pointer (some ⟨bw, 0, none⟩)] w fun e w' => e = .returned (.bool true) ∧ Goes bw Q m w'
  refine step_enters hmay hop (by omega) hre hle (by omega) (by omega) (by omega) (by omega) (by decide) hRF (Goes bw Q m) ?_
  intro G' fr' w' hW' hC' hs' hz'
  have hpf : AnyF (paidF f 241 n) := hf.paid
  obtain ⟨hW1, hC1⟩ := ct_then hW hC hW' hC'
  have hml2 := growN_900 f.ml (reachA 241 f.stk) hml hre
  have hargs := argN_lt hf.stk
  have hcg := calG_le (paidF f 241 n)
  have hpg : (paidF f 241 n).gas = f.gas - n := rfl
  have hsn := sent_le (f.gas - n) (argN f.stk 0)
  rw [hpg] at hcg
  refine (enters_call 241 rfl hs' hg (by omega) hpf (by show growN f.ml (reachA 241 f.stk) ≤ 1000000; omega) (by show f.gas - n ≤ 1048576; omega) (by show 7 ≤ f.stk.length; omega) (by show argN f.stk 4 ≤ 1000000; omega) (by omega) hlow hnatv).mono ?_
  rintro e w2 ⟨rfl, G2, gf2, cs2, fr2, als, hw2', hm2, hgr, hend⟩
  refine ⟨rfl, ?_⟩
  obtain ⟨hW2, hC2⟩ := ct_then hW1 hC1 hw2' ⟨hm2.chg, hm2.tm⟩
  have hgd : Good B { d with warmA := als } := hgr.good (K := 2250000000) (by omega) (Nat.le_refl _)
  have hwd := hgr.wtle
  rcases hend with ⟨hb, hsr⟩ | ⟨hb, mo, ys, hmo, hys, hgr2, hsr⟩
  · refine k1 hb als w2 ⟨⟨G2, gf2, cs2, fr2, [], hW2, hC2, hsr, by simp, fun e => by cases e⟩, hx, hgd, by omega, hK', ⟨?_, hf.value, hf.outOff, hf.outLen, ?_, ?_, hf.code, hf.input, hf.kind, hf.native⟩, hml2, ?_, hdep, hnat, hsta⟩
    · show f.pc + 1 < P256
      omega
    · intro y hy
      rcases List.mem_append.mp hy with hy | hy
      · exact hf.stk y (List.mem_of_mem_take hy)
      · rw [List.mem_singleton.mp hy]; omega
    · show (f.stk.take (f.stk.length - 7) ++ [0]).length ≤ 64
      rw [List.length_append, List.length_take]
      have : ([0] : List Nat).length = 1 := rfl
      omega
    · show f.gas - n - sentN (f.gas - n) (argN f.stk 0) + calG (paidF f 241 n) ≤ 1048576
      have hq : calG (paidF f 241 n) ≤ sentN (f.gas - n) (argN f.stk 0) + 2300 := by
        unfold calG
        rw [hpg]
        show sentN (f.gas - n) (argN f.stk 0) + _ ≤ _
        split <;> omega
      omega
  · have hwd2 := hgr2.wtle
    have hgd2 := hgr2.good (K := 2250000000) (by omega) (Nat.le_refl _)
    have hcode := (hg.acc.look (lowAddr (argN f.stk 1))).code
    refine k2 hb als mo ys w2 hmo hgd (by omega) ⟨⟨G2, gf2, cs2, fr2, [], hW2, hC2, hsr, by simp, fun _ => zm_none hsr rfl⟩, hx, hgd2, Nat.le_trans hwd2 (by omega), hK', ⟨?_, hargs 2, ?_, ?_, ?_, ?_, ?_, hys, ?_, ?_⟩, ?_, ?_, ?_, rfl, hsta⟩
    · show 0 < P256
      omega
    · show 0 < P256
      omega
    · show 0 < P256
      omega
    · intro y hy
      cases hy
    · show ([] : List Nat).length ≤ 64
      simp
    · show (lookY d.accts (lowAddr (argN f.stk 1))).code.length ≤ 1000
      omega
    · show 2 ≤ 7
      omega
    · show 0 ≤ 255
      omega
    · show 0 ≤ 900000
      omega
    · show calG (paidF f 241 n) ≤ 1048576
      omega
    · rw [List.length_cons]
      omega
theorem crea_ref {G : Nat → Prop} {gf : Nat} {cs fr : List Value} (hp : p = 240 ∨ p = 245) (h : SR G bw gf cs fr d (f :: r) x w) (hx : XB x) (hg : Good B d) (hf : AnyF f) (hml : f.ml ≤ 1000000) (hgas : f.gas ≤ 1048576) (hn : costB p f.stk f.ml (32000 + (if p = 240 then 2 else 8) * ((argN f.stk 2 + 31) / 32)) = n) (hle : n ≤ f.gas) (htk : takA p ≤ f.stk.length) (hov : f.stk.length ≤ 60) (hst : f.static = false) (hinit : argN f.stk 2 ≤ 512) :
    ∀ wz, Below w.heap.size w wz → Calls Sakg.prog 113 #[.pointer (some ⟨bw, 0, none⟩), .pointer (some ⟨gf, 60 * r.length, none⟩), .int .u8 p] wz (RefX n wz) := by
  intro wz hz
  have hBB := big_ge
  rcases hp with rfl | rfl
  · rw [if_pos rfl] at hn
    have hC := ref_cost h hx hg hf hml hgas (by omega) hn hle (fun wz hz => bareX_240 (h.kept hz) hx hg hf)
    have hC2 : ∀ wy, Below wz.heap.size wz wy → _ := fun wy hy => hC wy (hz.thn hy)
    exact refuseX_240 (h.kept hz) hx hf (by omega) n (by omega) hC2 (by decide) htk (by rw [show givA 240 = 1 from rfl]; omega) hst hle hinit
  · rw [if_neg (by omega)] at hn
    have hC := ref_cost h hx hg hf hml hgas (by omega) hn hle (fun wz hz => bareX_245 (h.kept hz) hx hg hf)
    have hC2 : ∀ wy, Below wz.heap.size wz wy → _ := fun wy hy => hC wy (hz.thn hy)
    exact refuseX_245 (h.kept hz) hx hf (by omega) n (by omega) hC2 (by decide) htk (by rw [show givA 245 = 1 from rfl]; omega) hst hle hinit
/-- CREATE, CREATE2 -/
theorem goX_create (h : RunX G0 W bw B K d f r x true w) (hop : opcN f = p) (hp : p = 240 ∨ p = 245) (htk : takA p ≤ f.stk.length) (hsl : f.stk.length ≤ 60) (hpc : f.pc ≤ 900) (hinit : argN f.stk 2 ≤ 512) (hval0 : argN f.stk 0 = 0) (hnon : (lookY d.accts f.self).nonce = 1) (hre : reachA p f.stk ≤ 900000) (hn : costB p f.stk f.ml (32000 + (if p = 240 then 2 else 8) * ((argN f.stk 2 + 31) / 32)) = n) (hle : n ≤ f.gas) (hd4 : r.length ≤ 4) (hK' : K + 20000 + 60000 ≤ 2250000000)
    (hfree : ∀ a, IsAddr a → CrA p f.self (argN f.stk 3) (zeros (argN f.stk 2)) a → (lookY (nonY d.accts f.self 2) a).nonce = 0 ∧ (lookY (nonY d.accts f.self 2) a).code = [])
    (k : ∀ als ms a mo w', IsAddr a → CrA p f.self (argN f.stk 3) (zeros (argN f.stk 2)) a → mo < P256 → RunX G0 W bw B (K + 20000) { d with warmA := als, made := ms, accts := moveY (nonY (nonY d.accts f.self 2) a 1) f.self a 0 } { childF 5 false 0 (zeros (argN f.stk 2)) a f.self with kind := if p = 240 then 5 else 6, gas := sentN (f.gas - n) (f.gas - n), saved := { d with warmA := als, accts := nonY d.accts f.self 2 } } ({ paidF f p n with gas := f.gas - n - sentN (f.gas - n) (f.gas - n), stk := f.stk.take (f.stk.length - takA p), outOff := mo, outLen := 0 } :: r) x true w' → Goes bw Q m w') : Goes bw Q (m + 1) w := by
  obtain ⟨⟨G, gf, cs, fr, rt, hW, hC, hs, hrt, hz⟩, hx, hg, hwt, hK, hf, hml, hgas, hdep, hnat, hsta⟩ := h
  have hxr := hx.setRet hrt
  have hP1 := p256_ge
  have hmay : MayX G bw gf cs fr d f r { x with ret := rt } w B := ⟨hs, hxr, hg, hf, hml, hgas, by omega, hnat, hz rfl⟩
  have hRF := crea_ref hp hs hxr hg hf (by omega) hgas hn hle htk hsl hsta hinit
  have hfam : famA p = 16 := by rcases hp with rfl | rfl <;> rfl
  show Calls Sakg.prog 49 #[.pointer (some ⟨bw, 0, none⟩)] w fun e w' => e = .returned (.bool true) ∧ Goes bw Q m w'
  refine step_enters hmay hop (by omega) hre hle (by omega) (by omega) (by omega) (by omega) hfam hRF (Goes bw Q m) ?_
  intro G' fr' w' hW' hC' hs' hz'
  have hpf : AnyF (paidF f p n) := hf.paid
  obtain ⟨hW1, hC1⟩ := ct_then hW hC hW' hC'
  have hml2 := growN_900 f.ml (reachA p f.stk) hml hre
  have hsn := sent_le (f.gas - n) (f.gas - n)
  refine (enters_create p hp hs' hg (by omega) hpf (by show growN f.ml (reachA p f.stk) ≤ 1000000; omega) (by show f.gas - n ≤ 1048576; omega) htk (by show argN f.stk 2 ≤ 1000; omega) (by omega) hval0 hnon hz' hfree).mono ?_
  rintro e w2 ⟨rfl, G2, gf2, cs2, fr2, als, ms, a, mo, hw2', hm2, ha, hmo, hcr, hgr, hgr2, hsr⟩
  refine ⟨rfl, ?_⟩
  obtain ⟨hW2, hC2⟩ := ct_then hW1 hC1 hw2' ⟨hm2.chg, hm2.tm⟩
  have hwd2 := hgr2.wtle
  have hgd2 := hgr2.good (K := 2250000000) (by omega) (Nat.le_refl _)
  refine k als ms a mo w2 ha hcr hmo ⟨⟨G2, gf2, cs2, fr2, [], hW2, hC2, hsr, by simp, fun _ => zm_none hsr rfl⟩, hx, hgd2, Nat.le_trans hwd2 (by omega), hK', ⟨?_, ?_, ?_, ?_, ?_, ?_, ?_, ?_, ?_, ?_⟩, ?_, ?_, ?_, rfl, rfl⟩
  · show 0 < P256
    omega
  · show 0 < P256
    omega
  · show 0 < P256
    omega
  · show 0 < P256
    omega
  · intro y hy
    cases hy
  · show ([] : List Nat).length ≤ 64
    simp
  · show (zeros (argN f.stk 2)).length ≤ 1000
    rw [zeros_len]
    omega
  · show ([] : List Int).length ≤ 1000000
    simp
  · show (if p = 240 then 5 else 6) ≤ 7
    split <;> omega
  · show 0 ≤ 255
    omega
  · show 0 ≤ 900000
    omega
  · show sentN (f.gas - n) (f.gas - n) ≤ 1048576
    omega
  · rw [List.length_cons]
    omega
end

end Go.Proofs.YgcsakGreat
