/-
  laws for enter: the state without its frames, the frames by themselves, a frame laid on top.
-/
import Derived.Test.YgcsakGreatKnA0
import Derived.Test.YgcsakGreatKsI
import Derived.Test.YgcsakGreatKkA
import Derived.Test.YgcsakGreatKhF0
namespace Go.Proofs.YgcsakGreat
set_option linter.unusedVariables false
set_option linter.unusedSimpArgs false
set_option maxRecDepth 100000
open Go.RowKit

/-- a state at work but for its frames -/
structure SB (G : Nat → Prop) (bw : Nat) (cs : List Value) (d : WD) (x : XD) (w : World) : Prop where
  cw : CW G bw cs d w
  logs : ∃ ao l c, cs[4]? = some (.slice ao l c) ∧ NLogs G w ao l c d.logs
  xs : XS G cs x w
  phase : cs[11]? = some (.int .u8 1)
/-- the frames: none yet, or a block of them -/
def FB (G : Nat → Prop) (bw gf : Nat) (cs fr : List Value) (fs : List FD) (w : World) : Prop :=
  (fs = [] ∧ cs[9]? = some nilS) ∨
  (gf ≠ bw ∧ RowT 194 w gf fr ∧ G gf ∧ (∃ cap, cs[9]? = some (.slice (some ⟨gf, 0, none⟩) fs.length cap) ∧ (fs.length = cap ∨ fr.length = 60 * cap) ∧ fs.length ≤ cap ∧ cap ≤ maxLen) ∧ 60 * fs.length ≤ fr.length ∧ KFs G fr w fs)
section
variable {G G' : Nat → Prop} {bw gf : Nat} {cs cs' fr fr' : List Value} {d d' : WD} {f : FD} {fs : List FD} {x : XD} {w w' : World}
theorem SR.sb (h : SR G bw gf cs fr d fs x w) : SB G bw cs d x w := ⟨h.cw, h.logs, h.xs, h.phase⟩
theorem SR.fb (h : SR G bw gf cs fr d fs x w) : FB G bw gf cs fr fs w := .inr ⟨h.ne, h.row, h.g, h.frames, h.len, h.kfs⟩
theorem SB.logsGo (h : SB G bw cs d x w) (hm : Mv G w w') (hc : cs'[4]? = cs[4]?) (hd : d'.logs = d.logs) : ∃ ao l c, cs'[4]? = some (.slice ao l c) ∧ NLogs G w' ao l c d'.logs := by
  obtain ⟨ao, l, c, h1, h2⟩ := h.logs
  rw [hc, hd]
  exact ⟨ao, l, c, h1, h2.go hm⟩
theorem SB.kept (h : SB G bw cs d x w) (hb : Below w.heap.size w w') : SB G bw cs d x w' :=
  ⟨h.cw.kept hb, h.logsGo (Mv.of hb) rfl rfl, h.xs.go (ChgS.of hb), h.phase⟩
theorem FB.kept (h : FB G bw gf cs fr fs w) (hb : Below w.heap.size w w') : FB G bw gf cs fr fs w' := by
  rcases h with h | ⟨h1, h2, h3, h4, h5, h6⟩
  · exact .inl h
  · exact .inr ⟨h1, h2.kept hb, h3, h4, h5, h6.go (Mv.of hb)⟩
theorem SB.world (h : SB G bw cs d x w) (hp : WPost G bw cs d' w w') (hl : d'.logs = d.logs := by rfl) : ∃ cs', SB G bw cs' d' x w' ∧ Mv G w w' ∧ Same8 cs cs' ∧ Chg bw w w' := by
  obtain ⟨cs', h1, h2, h4, h3⟩ := hp
  have hm : Mv G w w' := Mv.chain h.cw.row h.cw.g h3
  exact ⟨cs', ⟨h1, h.logsGo hm h4 hl, (h.xs.go hm.chg).eq (fun i hi _ _ => h2 i hi), (h2 11 (by omega)).trans h.phase⟩, hm, h2, h3⟩
theorem FB.chain (h : FB G bw gf cs fr fs w) (hs : cs'[9]? = cs[9]?) (hm : Mv G w w') (hc : Chg bw w w') : FB G bw gf cs' fr fs w' := by
  rcases h with ⟨h1, h2⟩ | ⟨h1, h2, h3, ⟨cap, h4⟩, h5, h6⟩
  · exact .inl ⟨h1, hs.trans h2⟩
  · exact .inr ⟨h1, hc.row h2 h1, h3, ⟨cap, hs.trans h4.1, h4.2⟩, h5, h6.go hm⟩
theorem SB.ret (h : SB G bw cs d x w) {A : Option Addr} {l c : Nat} {xs : List Int} (hs : KSrc G w A l c xs) : SB G bw (cs.set 10 (.slice A l c)) d { x with ret := xs } (w.setCell ⟨bw, 10, none⟩ (.slice A l c)) ∧ Only bw w (w.setCell ⟨bw, 10, none⟩ (.slice A l c)) := by
  have ho : Only bw w (w.setCell ⟨bw, 10, none⟩ (.slice A l c)) := (Only.refl _ _).setCell _ _
  have hm : Mv G w (w.setCell ⟨bw, 10, none⟩ (.slice A l c)) := Mv.chain h.cw.row h.cw.g (Chg.ofOnly ho)
  exact ⟨⟨h.cw.set 10 (by omega) _, h.logsGo hm (List.getElem?_set_ne (by omega)) rfl, (h.xs.setRet h.cw.len hs).go hm.chg, (List.getElem?_set_ne (by omega)).trans h.phase⟩, ho⟩
/-- the saved world is laid in a frame -/
theorem KF.setSaved {c c' : Nat → Option Value} {r8 : List Value} (h : KF G c f w) (hr : Slices 8 r8) (hk : KW G r8 d w) (hlo : ∀ i, i < 52 → c' i = c i) (hhi : ∀ i, i < 8 → c' (52 + i) = r8[i]?) : KF G c' { f with saved := d } w := by
  obtain ⟨h0, h1, h2, ⟨A3, k3, n3, e3, h3⟩, ⟨A4, k4, n4, e4, h4⟩, ⟨A5, k5, n5, e5, h5⟩, ⟨A6, k6, n6, e6, h6⟩, ⟨A7, k7, n7, e7, h7⟩, ⟨A8, k8, n8, e8, h8⟩, ⟨A9, n9, e9, h9⟩, ⟨A10, k10, n10, e10, h10⟩, ⟨A11, k11, n11, e11, h11⟩, h12, h13, h14, h15, -⟩ := h
  have E : ∀ i v, i < 52 → c i = v → c' i = v := fun i v hi hv => (hlo i hi).trans hv
  exact ⟨E _ _ (by omega) h0, E _ _ (by omega) h1, E _ _ (by omega) h2, ⟨A3, k3, n3, E _ _ (by omega) e3, h3⟩, ⟨A4, k4, n4, E _ _ (by omega) e4, h4⟩, ⟨A5, k5, n5, E _ _ (by omega) e5, h5⟩, ⟨A6, k6, n6, E _ _ (by omega) e6, h6⟩, ⟨A7, k7, n7, E _ _ (by omega) e7, h7⟩, ⟨A8, k8, n8, E _ _ (by omega) e8, h8⟩, ⟨A9, n9, E _ _ (by omega) e9, h9⟩, ⟨A10, k10, n10, E _ _ (by omega) e10, h10⟩, ⟨A11, k11, n11, E _ _ (by omega) e11, h11⟩, fun i hi => E _ _ (by omega) (h12 i hi), fun i hi => E _ _ (by omega) (h13 i hi), h14, h15, ⟨r8, hr, hhi, hk⟩⟩
/-- logsOf's contract, of the state -/
theorem SB.logsOf {B : Nat} (h : SB G bw cs d x w) (hg : Good B d) : ∀ ao l c, cs[4]? = some (.slice ao l c) → ∀ H wz, Below w.heap.size w wz → Ther H wz → (∀ i, H i → i < w.heap.size → G i) → Calls Sakg.prog 126 #[.slice ao l c] wz fun e w' => (∃ A, e = .returned (.slice A l l) ∧ KLogs H w' A l l d.logs) ∧ Below wz.heap.size wz w' := by
  intro ao l c hc H wz hb hT _
  obtain ⟨ao', l', c', h1, h2⟩ := h.logs
  rw [hc] at h1
  obtain ⟨rfl, rfl, rfl⟩ : ao = ao' ∧ l = l' ∧ c = c' := by simpa using h1
  have hln := h2.len
  have hnl := hg.nl
  exact logsOf_rows G H ao l c d.logs wz hT ((h2.go (Mv.of hb)).rows (by omega)) (by omega) (fun m hm => ⟨by have := (hg.logs m hm).1; omega, (hg.logs m hm).2⟩)
end
section
variable {G G' : Nat → Prop} {bw gf : Nat} {cs fr : List Value} {d : WD} {fs : List FD} {x : XD} {w w' : World}
/-- told of a wider set -/
theorem SB.lift (h : SB G bw cs d x w) (hb : Below w.heap.size w w') (hs : ∀ i, G' i → i < w.heap.size → G i) (hG : ∀ i, G i → G' i) (hT : Ther G' w') : SB G' bw cs d x w' := by
  obtain ⟨ao, l, c, h1, h2⟩ := h.logs
  exact ⟨⟨h.cw.row.kept hb, h.cw.len, (h.cw.kw.to hs).go (ChgS.of hb), hG _ h.cw.g, hT⟩, ⟨ao, l, c, h1, (h2.to hs hG).go (Mv.of hb)⟩, (h.xs.to hs).go (ChgS.of hb), h.phase⟩
theorem FB.lift (h : FB G bw gf cs fr fs w) (hb : Below w.heap.size w w') (hs : ∀ i, G' i → i < w.heap.size → G i) (hG : ∀ i, G i → G' i) : FB G' bw gf cs fr fs w' := by
  rcases h with h | ⟨h1, h2, h3, h4, h5, h6⟩
  · exact .inl h
  · exact .inr ⟨h1, h2.kept hb, hG _ h3, h4, h5, (h6.to hs hG).go (Mv.of hb)⟩
end
def emptyWD : WD := ⟨[], [], [], 0, [], [], [], []⟩
theorem KW.empty (G : Nat → Prop) (w : World) : KW G (List.replicate 8 nilS) emptyWD w :=
  ⟨⟨none, 0, 0, rfl, KAccts.nil G w⟩, ⟨none, 0, 0, rfl, KAddrs.nil G w⟩, ⟨none, 0, 0, rfl, KMarks.nil G w⟩, ⟨none, 0, 0, rfl, KNat.nil G w⟩, ⟨none, 0, rfl, KLogs.nil G w⟩, ⟨none, 0, 0, rfl, KTemps.nil G w⟩, ⟨none, 0, 0, rfl, KAddrs.nil G w⟩, ⟨none, 0, 0, rfl, KAddrs.nil G w⟩⟩

/-- a frame is laid on top: in a new block, or in the frames' own -/
theorem if_append_frames {G : Nat → Prop} {bw gf : Nat} {cs fr : List Value} {fs : List FD} {ops : Array Oper} {o : Oper} {a : Act} {w : World} {K : Act → World → Prop} {Q : Exit → Act → World → Prop} (d : Option Tmp) (hd : o.dst = d) (hw : Region.wanted o (yielded ops a.tmps) = true) (s x : Operand)
    (ho : o.op = .call { callee := .builtin .append, args := #[s, x], argTypes := #[103, 103] })
    (v : Value) (hs : a.eval s = v) (hv : cs[9]? = some v) (hN : FB G bw gf cs fr fs w) (hl : fs.length ≤ 900)
    (g : Nat) (t' : TypeId) (row : List Value) (hx : a.eval x = .slice (some ⟨g, 0, none⟩) 1 1) (hrow : RowT t' w g row) (hrl : row.length = 60) (h1 : ∀ u ∈ row, u.oneCell' = true)
    (h : ∀ g' c' fr' w' own, RowT 194 w' g' fr' → fr'.length = 60 * c' → fs.length + 1 ≤ c' → c' ≤ maxLen → (∀ i, i < 60 * fs.length → fr'[i]? = fr[i]?) → (∀ i, i < 60 → fr'[60 * fs.length + i]? = row[i]?) → ((g' = gf ∧ G g') ∨ w.heap.size ≤ g') → w.grownBy w' own → (∀ k, own = some k → k = gf ∧ G k ∧ ∃ cs, RowT 194 w k cs) → K (a.put d (.slice (some ⟨g', 0, none⟩) (fs.length + 1) c')) w') :
    if Region.wanted o (yielded ops a.tmps) = true then Oper.wp Sakg.prog o a w K Q else K (a.put o.dst undef) w := by
  have own : ∀ {w' : World} {base : Nat} {v' : Value} {xs : List Value} {n : Nat}, w'.ownsRow base 194 60 v' n xs → 0 < n → ∃ g' c' fr', v' = .slice (some ⟨g', 0, none⟩) n c' ∧ base ≤ g' ∧ RowT 194 w' g' fr' ∧ fr'.length = 60 * c' ∧ n ≤ c' ∧ c' ≤ maxLen ∧ fr'.take (60 * n) = xs := by
    intro w' base v' xs n hh hn
    obtain ⟨h0, h1 | ⟨g', cap, cur, e1, e2, e3, e4, e5, e6, e7⟩⟩ := hh
    · omega
    · exact ⟨g', cap, cur.toList, e1, e2, e3, by rw [Array.length_toList, e6, Nat.mul_comm], e4, e5, by rw [Nat.mul_comm]; exact e7⟩
  have fin : ∀ {fr' olds : List Value} {n : Nat}, fr'.take (60 * (n + 1)) = olds ++ row → olds.length = 60 * n → (∀ i, i < 60 * n → fr'[i]? = olds[i]?) ∧ (∀ i, i < 60 → fr'[60 * n + i]? = row[i]?) := by
    intro fr' olds n ht hol
    refine ⟨fun i hi => ?_, fun i hi => ?_⟩
    · have : (fr'.take (60 * (n + 1)))[i]? = (olds ++ row)[i]? := by rw [ht]
      rwa [List.getElem?_take, if_pos (by omega), List.getElem?_append_left (by omega)] at this
    · have : (fr'.take (60 * (n + 1)))[60 * n + i]? = (olds ++ row)[60 * n + i]? := by rw [ht]
      rw [List.getElem?_take, if_pos (by omega), List.getElem?_append_right (by omega)] at this
      rw [this]
      congr 1
      omega
  rcases hN with ⟨k1, k2⟩ | ⟨k1, k2, k3, ⟨cap, k4, k5, k6, k7⟩, k8, k9⟩
  · subst k1
    rw [hv] at k2
    obtain rfl := Option.some.inj k2
    refine if_append_at d hd hw s x _ ho 194 60 456 Sakg.underlying103 _ infoFrame zeroF_len (by omega) w.heap.size nilS 0 [] hs (World.ownsRow_nil _ _ _ _) g t' row hx hrow hrl h1 (by omega) (by omega) (Nat.le_refl _) (fun v' w' h2 h3 h4 => ?_)
    obtain ⟨g', c', fr', rfl, e1, e2, e3, e4, e5, e6⟩ := own h2 (by omega)
    have e6' : fr'.take (60 * (0 + 1)) = [] ++ row := by rw [e6]; simp
    obtain ⟨f1, f2⟩ := fin e6' rfl
    exact h g' c' fr' w' none e2 e3 e4 e5 (fun i hi => absurd hi (by simp)) (by simpa using f2) (.inr e1) h3 (fun k hk => by cases hk)
  · rw [hv] at k4
    obtain rfl := Option.some.inj k4
    have hlo : (fr.take (60 * fs.length)).length = 60 * fs.length := by rw [List.length_take]; omega
    by_cases hc : fs.length = cap
    · subst hc
      refine if_append_grows d hd hw s x _ ho 194 60 456 Sakg.underlying103 _ infoFrame zeroF_len (by omega) (some ⟨gf, 0, none⟩) fs.length (fr.take (60 * fs.length)) hs (fun hn => by cases hn) (by rw [hlo, Nat.mul_comm]) ?_ g t' row hx hrow hrl h1 (by omega) (by omega) (fun v' w' h2 h3 => ?_)
      · intro b hb j u hj
        obtain rfl := Option.some.inj hb
        have hjl : j < 60 * fs.length := by
          rcases Nat.lt_or_ge j (fr.take (60 * fs.length)).length with h' | h'
          · omega
          · rw [List.getElem?_eq_none h'] at hj; cases hj
        rw [addAt, Nat.zero_add, k2.cell]
        rwa [List.getElem?_take, if_pos hjl] at hj
      · obtain ⟨g', c', fr', rfl, e1, e2, e3, e4, e5, e6⟩ := own h2 (by omega)
        obtain ⟨f1, f2⟩ := fin e6 hlo
        refine h g' c' fr' w' none e2 e3 e4 e5 (fun i hi => ?_) f2 (.inr e1) h3 (fun k hk => by cases hk)
        rw [f1 i hi, List.getElem?_take, if_pos hi]
    · have hfl : fr.length = 60 * cap := by rcases k5 with k5 | k5
                                            · exact absurd k5 hc
                                            · exact k5
      have hown : w.ownsRow 0 194 60 (.slice (some ⟨gf, 0, none⟩) fs.length cap) fs.length [fr.take (60 * fs.length)].flatten := by
        refine ⟨by simp; omega, .inr ⟨gf, cap, fr.toArray, rfl, Nat.zero_le _, k2, k6, k7, ?_, ?_⟩⟩
        · rw [List.size_toArray, hfl, Nat.mul_comm]
        · simp [Nat.mul_comm]
      refine if_append_at d hd hw s x _ ho 194 60 456 Sakg.underlying103 _ infoFrame zeroF_len (by omega) 0 _ fs.length [fr.take (60 * fs.length)] hs hown g t' row hx hrow hrl h1 (by omega) (by omega) (Nat.zero_le _) (fun v' w' h2 h3 h4 => ?_)
      obtain ⟨g', c', fr', rfl, e1, e2, e3, e4, e5, e6⟩ := own h2 (by omega)
      have e6' : fr'.take (60 * (fs.length + 1)) = fr.take (60 * fs.length) ++ row := by rw [e6]; simp
      obtain ⟨f1, f2⟩ := fin e6' hlo
      refine h g' c' fr' w' (some gf) e2 e3 e4 e5 (fun i hi => ?_) f2 ?_ h3 (fun k hk => ?_)
      · rw [f1 i hi, List.getElem?_take, if_pos hi]
      · rcases h4 with h4 | h4
        · have h5 : g' = gf := Option.some.inj h4
          exact .inl ⟨h5, by rw [h5]; exact k3⟩
        · have h5 : g' = w.heap.size := Option.some.inj h4
          exact .inr (by omega)
      · have h5 : gf = k := Option.some.inj hk
        rw [← h5]
        exact ⟨rfl, k3, _, k2⟩

theorem Mv.grownF {G : Nat → Prop} {w w' : World} {own : Option Nat} (h : w.grownBy w' own) (ho : ∀ k, own = some k → G k ∧ ∃ cs, RowT 194 w k cs) : Mv G w w' := by
  refine ⟨ChgS.grown h (fun k hk => (ho k hk).1), ⟨fun g n hm => ?_, fun g cs hr => ?_⟩, fun g cs hr => ?_⟩
  · refine hm.eq (h.block g hm.lt (fun he => ?_))
    obtain ⟨_, cs, h2⟩ := ho g he.symm
    obtain ⟨xs, h3, _⟩ := hm
    exact absurd (RowT.types (T := 194) (T' := 5) (cs' := bv xs) h2 h3) (by decide)
  · refine hr.grown h (fun he => ?_)
    obtain ⟨_, cs', h2⟩ := ho g he.symm
    exact absurd (RowT.types h2 hr) (by decide)
  · refine hr.grown h (fun he => ?_)
    obtain ⟨_, cs', h2⟩ := ho g he.symm
    exact absurd (RowT.types h2 hr) (by decide)
section
variable {G : Nat → Prop} {bw gf g' c' : Nat} {cs fr fr' row : List Value} {d : WD} {f : FD} {fs : List FD} {x : XD} {w wn wp : World} {own : Option Nat}
/-- the state with a frame more -/
theorem SB.entered (h : SB G bw cs d x w) (hfb : FB G bw gf cs fr fs w) (hb : Below w.heap.size w wn) (hkf : KF G (fun i => row[i]?) f w) (hr : RowT 194 wp g' fr') (hl : fr'.length = 60 * c') (hc : fs.length + 1 ≤ c') (hm : c' ≤ maxLen) (h1 : ∀ i, i < 60 * fs.length → fr'[i]? = fr[i]?) (h2 : ∀ i, i < 60 → fr'[60 * fs.length + i]? = row[i]?) (hg : (g' = gf ∧ G g') ∨ wn.heap.size ≤ g') (hw : wn.grownBy wp own) (ho : ∀ k, own = some k → G k ∧ ∃ cs, RowT 194 wn k cs) :
    ∃ G', Wider G G' w ∧ SR G' bw g' (cs.set 9 (.slice (some ⟨g', 0, none⟩) (fs.length + 1) c')) fr' d (f :: fs) x (wp.setCell ⟨bw, 9, none⟩ (.slice (some ⟨g', 0, none⟩) (fs.length + 1) c')) ∧ Mv G w (wp.setCell ⟨bw, 9, none⟩ (.slice (some ⟨g', 0, none⟩) (fs.length + 1) c')) := by
  obtain ⟨v, hv⟩ : ∃ v, v = Value.slice (some ⟨g', 0, none⟩) (fs.length + 1) c' := ⟨_, rfl⟩
  rw [← hv]
  have r0 : RowT 107 wp bw cs := (h.cw.row.kept hb).grown hw (fun hh => by
    obtain ⟨_, cs', h2⟩ := ho bw hh.symm
    exact absurd (RowT.types h2 (h.cw.row.kept hb)) (by decide))
  have oS : Only bw wp (wp.setCell ⟨bw, 9, none⟩ v) := (Only.refl bw wp).setCell 9 v
  have gne : g' ≠ bw := fun hh => by
    rw [hh] at hr
    exact absurd (RowT.types hr r0) (by decide)
  have mNP : Mv G wn wp := Mv.grownF hw ho
  have mS : Mv G w (wp.setCell ⟨bw, 9, none⟩ v) := (Mv.of hb).trans (mNP.trans (Mv.chain r0 h.cw.g (Chg.ofOnly oS)))
  have hbs := hb.size
  have hW : Wider G (fun i => G i ∨ i = g') w := ⟨fun i hi => .inl hi, fun i hi hlt => by
    rcases hi with hi | hi
    · exact hi
    · rcases hg with hg | hg
      · rw [hi]; exact hg.2
      · omega⟩
  have mS' : Mv (fun i => G i ∨ i = g') w (wp.setCell ⟨bw, 9, none⟩ v) := mS.wide (fun _ h => .inl h)
  have rS : RowT 194 (wp.setCell ⟨bw, 9, none⟩ v) g' fr' := hr.only oS gne
  have E : ∀ i, i ≠ 9 → (cs.set 9 v)[i]? = cs[i]? := fun i hi => List.getElem?_set_ne (Ne.symm hi)
  have hT : Ther (fun i => G i ∨ i = g') (wp.setCell ⟨bw, 9, none⟩ v) := fun i hi => by
    rcases hi with hi | rfl
    · have := h.cw.ther i hi
      have := mS.size
      omega
    · exact rS.lt
  obtain ⟨ao, l, c, e1, e2⟩ := h.logs
  refine ⟨fun i => G i ∨ i = g', hW, ⟨⟨r0.set 9 v, by rw [List.length_set]; exact h.cw.len, ((h.cw.kw.to hW.new).go mS'.chg).eq (fun i hi => E i (by omega)), .inl h.cw.g, hT⟩, ⟨ao, l, c, (E 4 (by omega)).trans e1, (e2.to hW.new hW.sub).go mS'⟩, ((h.xs.to hW.new).go mS'.chg).eq (fun i _ h9 _ => E i h9), (E 11 (by omega)).trans h.phase, gne, rS, .inr rfl, ⟨c', ?_, .inr hl, hc, hm⟩, by rw [List.length_cons, hl]; omega, ?_, ?_⟩, mS⟩
  · rw [List.length_cons, ← hv]
    exact List.getElem?_set_self (by rw [h.cw.len]; omega)
  · exact ((hkf.to hW.new hW.sub).go mS').eq (fun i hi => h2 i hi)
  · rcases hfb with ⟨k1, k2⟩ | ⟨k1, k2, k3, k4, k5, k6⟩
    · subst k1; exact trivial
    · exact ((k6.to hW.new hW.sub).go mS').eq (fun i hi => h1 i hi)
end

end Go.Proofs.YgcsakGreat
