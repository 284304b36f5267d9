/-
  yp: laws for effect at LOG.
-/
import Derived.Test.YgcsakGreatKhE
namespace Go.Proofs.YgcsakGreat
set_option linter.unusedVariables false
set_option linter.unusedSimpArgs false
set_option maxRecDepth 100000
open Go.RowKit

theorem build_log2 (a : List Int) (ha : IsAddr a) (B : Option Addr) (k' c' : Nat) : Instr.fill ((#[(0, 20), (20, 1), (21, 1)] : Array (Nat × Nat))[·]?) (bv (zeros 20) ++ [nilS, nilS]).toArray [(0, .agg (bv a).toArray), (2, .slice B k' c')] = some (bv a ++ [nilS, .slice B k' c']).toArray := by
  rw [fill_cons _ _ 0 (.agg (bv a).toArray) _ 0 20 rfl (bv a) rfl (by rw [bv_len]; exact ha.len) (by simp [bv_len, zeros_len])]
  have e : spl (bv (zeros 20) ++ [nilS, nilS]) 0 (bv a) = bv a ++ [nilS, nilS] := by
    unfold spl
    rw [bv_len, ha.len, List.take_zero, List.nil_append, Nat.zero_add, List.drop_append_of_le_length (by simp [bv_len, zeros_len]), List.drop_of_length_le (by simp [bv_len, zeros_len])]
    rfl
  rw [e, fill_cons _ _ 2 (.slice B k' c') [] 21 1 rfl [.slice B k' c'] rfl rfl (by simp [bv_len, ha.len]), Instr.fill]
  congr 2
  unfold spl
  rw [List.take_append, List.take_of_length_le (by rw [bv_len, ha.len]; omega), List.drop_of_length_le (by simp [bv_len, ha.len]), bv_len, ha.len]
  simp
theorem run_log2 (wx : World) (a : List Int) (ha : IsAddr a) (B : Option Addr) (k' c' : Nat) :
    (Instr.build 311 #[(0, .agg (bv a).toArray), (2, .slice B k' c')]).run Sakg.prog wx = .ok (.agg (bv a ++ [nilS, Value.slice B k' c']).toArray) wx := by
  obtain ⟨i0, hi0, hz0, hz1, hz2⟩ := info_parts infoLog
  exact run_build_struct wx 311 _ placesLog i0 _ hi0 hz0 (bv (zeros 20) ++ [nilS, nilS]) rfl _ _ (build_log2 a ha B k' c')
theorem log_one (a : List Int) (v : Value) (hv : v.oneCell' = true) (B : Option Addr) (k' c' : Nat) : ∀ u ∈ bv a ++ [v, Value.slice B k' c'], u.oneCell' = true := by
  intro u hu
  rcases List.mem_append.1 hu with h | h
  · exact bv_one _ u h
  · simp at h
    rcases h with rfl | rfl
    · exact hv
    · rfl
theorem log_len (a : List Int) (ha : IsAddr a) (v v' : Value) : (bv a ++ [v, v']).length = 22 := by simp [bv_len, ha.len]
theorem log_20 (a : List Int) (ha : IsAddr a) (v v' : Value) : (bv a ++ [v, v'])[20]? = some v := by
  rw [List.getElem?_append_right (by rw [bv_len, ha.len]; omega), bv_len, ha.len]; rfl
theorem log_set20 (a : List Int) (ha : IsAddr a) (v v' u : Value) : (bv a ++ [v, v']).set 20 u = bv a ++ [u, v'] := by
  rw [List.set_append_right _ _ (by rw [bv_len, ha.len]; omega), bv_len, ha.len]; rfl

/-- one row is appended to a list that has no room -/
theorem if_append_grows {ops : Array Oper} {o : Oper} {a : Act} {w : World} {K : Act → World → Prop} {Q : Exit → Act → World → Prop} (d : Option Tmp) (hd : o.dst = d) (hw : Region.wanted o (yielded ops a.tmps) = true) (s x : Operand) (t : TypeId)
    (ho : o.op = .call { callee := .builtin .append, args := #[s, x], argTypes := #[t, t] }) (e : TypeId) (sz bytes : Nat) (ht : Sakg.prog.underlying t = some (.slice e))
    (Z : List Value) (hzi : (Sakg.prog.info? e).map (fun i => (i.zero, i.size, i.bytes)) = some (some (.agg Z.toArray), sz, bytes)) (hzl : Z.length = sz) (hsz : 0 < sz)
    (ao : Option Addr) (n : Nat) (olds : List Value) (hs : a.eval s = .slice ao n n) (hnone : ao = none → n = 0) (hlo : olds.length = n * sz) (holds : ∀ b, ao = some b → ∀ j u, olds[j]? = some u → w.cell? (b.add j) = some u)
    (g : Nat) (t' : TypeId) (row : List Value) (hx : a.eval x = .slice (some ⟨g, 0, none⟩) 1 1) (hrow : RowT t' w g row) (hrl : row.length = sz) (h1 : ∀ u ∈ row, u.oneCell' = true) (hb : (n + 1) * bytes ≤ 140737488355328) (hn : n + 1 ≤ 140737488355328)
    (h : ∀ v' w', w'.ownsRow w.heap.size e sz v' (n + 1) (olds ++ row) → w.grownBy w' none → K (a.put d v') w') :
    if Region.wanted o (yielded ops a.tmps) = true then Oper.wp Sakg.prog o a w K Q else K (a.put o.dst undef) w := by
  rw [if_pos hw]
  subst hd
  cases hi : Sakg.prog.info? e with
  | none => rw [hi] at hzi; cases hzi
  | some i0 =>
    rw [hi] at hzi
    simp only [Option.map_some, Option.some.injEq, Prod.mk.injEq] at hzi
    obtain ⟨hz0, hz1, hz2⟩ := hzi
    have hnews : ∀ j u, row[j]? = some u → w.cell? ((⟨g, 0, none⟩ : Addr).add j) = some u := fun j u hj => by
      rw [addAt, Nat.zero_add, hrow.cell]; exact hj
    have hzc : (Value.agg Z.toArray).cells.size = sz := by simpa [Value.cells] using hzl
    have key : ∃ v' w', (Builtin.append_ #[t, t] o.type #[.slice ao n n, .slice (some ⟨g, 0, none⟩) 1 1]).run Sakg.prog w = .ok v' w' ∧ w'.ownsRow w.heap.size e sz v' (n + 1) (olds ++ row) ∧ w.grownBy w' none := by
      cases ao with
      | some b => exact run_append_arg_grows (P := Sakg.prog) w t o.type e i0 (.agg Z.toArray) sz bytes ht hi hz0 hz1 hz2 hzc hsz b n n olds hlo (holds b rfl) ⟨g, 0, none⟩ 1 1 row (by omega) hnews (by omega) (by unfold maxLen; omega) hb
      | none =>
        obtain rfl := hnone rfl
        obtain rfl : olds = [] := List.eq_nil_of_length_eq_zero (by simpa using hlo)
        obtain ⟨v', w', hrun, r1, r2, _⟩ := run_append_own (P := Sakg.prog) w w.heap.size t o.type e i0 (.agg Z.toArray) sz bytes ht hi hz0 hz1 hz2 hzc hsz (.slice none 0 0) 0 [] (World.ownsRow_nil w _ e sz) ⟨g, 0, none⟩ 1 1 row (by omega) hnews h1 (by unfold maxLen; omega) hb (Nat.le_refl _)
        exact ⟨v', w', hrun, r1, r2⟩
    obtain ⟨v', w', hr, h2, h3⟩ := key
    unfold Oper.wp
    simp [execOp, ho, resolve, invoke, builtin, hs, hx, hr, Result.andThen]
    exact h v' w' h2 h3

/-- a list of logs that lies in a block of its own -/
theorem own_logs {w : World} {base : Nat} {v : Value} {n : Nat} {rows : List (List Value)} (h : w.ownsRow base 311 22 v n rows.flatten) (hn : 0 < n) (hl : rows.length = n) : ∃ g c junk, v = .slice (some ⟨g, 0, none⟩) n c ∧ base ≤ g ∧ RowT 311 w g (rows.flatten ++ junk) ∧ junk.length = (c - n) * 22 ∧ n ≤ c ∧ c ≤ maxLen := by
  obtain ⟨h0, h1 | ⟨g, cap, cur, h1, h2, h3, h4, h5, h6, h7⟩⟩ := h
  · omega
  · refine ⟨g, cap, cur.toList.drop (n * 22), h1, h2, ?_, ?_, h4, h5⟩
    · unfold RowT
      rw [h3, ← h7, List.take_append_drop]
    · rw [List.length_drop, Array.length_toList, h6, Nat.sub_mul]
theorem KV.setL {G : Nat → Prop} {cs : List Value} {d : WD} {w : World} (h : KV G cs d w) {A : Option Addr} {n c : Nat} {ms : List YLog} (hm : ms.length = n) (hl : 8 ≤ cs.length) : KV G (cs.set 4 (.slice A n c)) { d with logs := ms } w := by
  have g : ∀ i, i ≠ 4 → (cs.set 4 (Value.slice A n c))[i]? = cs[i]? := fun i hi => List.getElem?_set_ne (by omega)
  refine ⟨?_, ?_, ?_, ?_, ⟨A, n, c, List.getElem?_set_self (by omega), hm⟩, ?_, ?_, ?_⟩
  · rw [g 0 (by omega)]; exact h.accts
  · rw [g 1 (by omega)]; exact h.warmA
  · rw [g 2 (by omega)]; exact h.warmS
  · rw [g 3 (by omega)]; exact h.refund
  · rw [g 5 (by omega)]; exact h.temps
  · rw [g 6 (by omega)]; exact h.made
  · rw [g 7 (by omega)]; exact h.gone
/-- a log more -/
theorem SR.log {G G' : Nat → Prop} {bw gf : Nat} {cs fr : List Value} {d : WD} {fs : List FD} {x : XD} {w w' : World} (h : SR G bw gf cs fr d fs x w) (hW : Wider G G' w) (hc : ChgS G w w') (ht : Tm w w') (hT : Ther G' w') {A : Option Addr} {n c : Nat} {ms : List YLog} (hr : RowT 107 w' bw (cs.set 4 (.slice A n c))) (hf : RowT 194 w' gf fr) (hm : ms.length = n) (hl : NLogs G' w' A n c ms) : SR G' bw gf (cs.set 4 (.slice A n c)) fr { d with logs := ms } fs x w' := by
  have hc' : ChgS G' w w' := hc.mono hW.sub
  obtain ⟨cap, e1, e2⟩ := h.frames
  exact ⟨⟨hr, by rw [List.length_set]; exact h.cw.len, ((h.cw.kw.to hW.new).go hc').setL hm (by rw [h.cw.len]; omega), hW.sub _ h.cw.g, hT⟩, ⟨A, n, c, List.getElem?_set_self (by rw [h.cw.len]; omega), hl⟩, ((h.xs.to hW.new).go hc').eq (fun i hi _ _ => List.getElem?_set_ne (by omega)), (List.getElem?_set_ne (by omega)).trans h.phase, h.ne, hf, hW.sub _ h.g, ⟨cap, (List.getElem?_set_ne (by omega)).trans e1, e2⟩, h.len, (KFs.to hW.new hW.sub h.kfs).go0 hc' ht⟩

theorem topics_len {trows : List (List Value)} {j : Nat} (r : List Value) (h : trows.length = j) : (trows ++ [r]).length = j + 1 := by
  rw [List.length_append, h]; rfl
theorem topics_all {trows : List (List Value)} {r : List Value} (h : ∀ r ∈ trows, r.length = 32 ∧ ∀ v ∈ r, v.oneCell' = true) (h1 : r.length = 32) (h2 : ∀ v ∈ r, v.oneCell' = true) : ∀ r' ∈ trows ++ [r], r'.length = 32 ∧ ∀ v ∈ r', v.oneCell' = true := by
  intro r' hr
  rcases List.mem_append.1 hr with h' | h'
  · exact h r' h'
  · rw [List.mem_singleton.1 h']
    exact ⟨h1, h2⟩
theorem Each.snoc1 {α : Type} {R : List Value → α → Prop} {rows : List (List Value)} {ds : List α} {r : List Value} {d : α} (h : Each R rows ds) (h1 : R r d) : Each R (rows ++ [r]) (ds ++ [d]) := h.snoc h1
/-- one log more at the list of the world at work: in its place or in a block of its own -/
theorem if_append_logs {G : Nat → Prop} {ms : List YLog} {ops : Array Oper} {o : Oper} {a : Act} {w : World} {K : Act → World → Prop} {Q : Exit → Act → World → Prop} (d : Option Tmp) (hd : o.dst = d) (hw : Region.wanted o (yielded ops a.tmps) = true) (s x : Operand)
    (ho : o.op = .call { callee := .builtin .append, args := #[s, x], argTypes := #[46, 46] })
    (ao : Option Addr) (l c : Nat) (hs : a.eval s = .slice ao l c) (hN : NLogs G w ao l c ms) (hl : l ≤ 900000)
    (g : Nat) (t' : TypeId) (row : List Value) (hx : a.eval x = .slice (some ⟨g, 0, none⟩) 1 1) (hrow : RowT t' w g row) (hrl : row.length = 22) (h1 : ∀ u ∈ row, u.oneCell' = true)
    (h : ∀ g' c' rows junk w' own, RowT 311 w' g' ((rows ++ [row]).flatten ++ junk) → rows.length = l → Each (KLog G w) rows ms → junk.length = (c' - (l + 1)) * 22 → l + 1 ≤ c' → c' ≤ maxLen → (G g' ∨ w.heap.size ≤ g') → w.grownBy w' own → (∀ k, own = some k → G k ∧ ∃ cs, RowT 311 w k cs) → K (a.put d (.slice (some ⟨g', 0, none⟩) (l + 1) c')) w') :
    if Region.wanted o (yielded ops a.tmps) = true then Oper.wp Sakg.prog o a w K Q else K (a.put o.dst undef) w := by
  have hZ22 : (bv (zeros 20) ++ [nilS, nilS]).length = 22 := by simp [bv_len, zeros_len]
  rcases hN with ⟨rfl, rows, k1, k2⟩ | ⟨go, rows, junk, rfl, k2, k3, k4, k5, k6, k7, k8⟩
  · have hR := k1.now
    have hrl' : rows.length = c := hR.len_eq
    have hsz : ∀ r ∈ rows, r.length = 22 := k2.all (p := fun r => r.length = 22) (fun r d h => h.len)
    have hfl := flat_len 22 rows hsz
    refine if_append_grows d hd hw s x _ ho 311 22 _ Sakg.underlying46 _ infoLog hZ22 (by omega) ao c rows.flatten hs ?_ (by rw [hfl, hrl']) ?_ g t' row hx hrow hrl h1 ?_ (by omega) (fun v' w' h2 h3 => ?_)
    · exact fun hn => (hR.nil hn).1
    · intro b hb j u hj
      have hjl : j < c * 22 := by
        have := (List.getElem?_eq_some_iff.1 hj).1
        rw [hfl, hrl'] at this
        exact this
      obtain ⟨b0, off, e1, e2, e3⟩ := hR.at_ (by omega)
      rw [hb] at e1
      obtain rfl := Option.some.inj e1
      have hi : j / 22 < c := by omega
      have hr22 : (rows.getD (j / 22) []).length = 22 := hR.app _ hi
      have hm : j % 22 < (rows.getD (j / 22) []).length := by omega
      have hv := List.getElem?_eq_getElem hm
      have hf := flat_get 22 rows (j / 22) hsz (by omega) (j % 22) _ hv
      have hj2 : j / 22 * 22 + j % 22 = j := by omega
      rw [hj2, hj] at hf
      rw [← Option.some.inj hf] at hv
      have hc := e3 _ hi _ _ hv
      rw [addAt]
      rw [show off + j = off + j / 22 * 22 + j % 22 by omega]
      exact hc
    · omega
    · rw [show rows.flatten ++ row = (rows ++ [row]).flatten by simp] at h2
      obtain ⟨g', c', junk, rfl, e1, e2, e3, e4, e5⟩ := own_logs h2 (by omega) (by rw [List.length_append, hrl']; rfl)
      exact h g' c' rows junk w' none e2 hrl' k2 e3 e4 e5 (.inr e1) h3 (fun k hk => by cases hk)
  · have hsz : ∀ r ∈ rows, r.length = 22 := k8.all (p := fun r => r.length = 22) (fun r d h => h.len)
    have hfl := flat_len 22 rows hsz
    have hown : w.ownsRow 0 311 22 (.slice (some ⟨go, 0, none⟩) l c) l rows.flatten := by
      refine ⟨by rw [hfl, k4], .inr ⟨go, c, (rows.flatten ++ junk).toArray, rfl, Nat.zero_le _, k3, k6, k7, ?_, ?_⟩⟩
      · simp only [List.size_toArray, List.length_append, hfl, k4, k5, ← Nat.add_mul]
        congr 1
        omega
      · simp [List.take_append, hfl, k4]
    refine if_append_at d hd hw s x _ ho 311 22 _ Sakg.underlying46 _ infoLog hZ22 (by omega) 0 _ l rows hs hown g t' row hx hrow hrl h1 ?_ (by omega) (Nat.zero_le _) (fun v' w' h2 h3 h4 => ?_)
    · omega
    · obtain ⟨g', c', junk', rfl, e1, e2, e3, e4, e5⟩ := own_logs h2 (by omega) (by rw [List.length_append, k4]; rfl)
      refine h g' c' rows junk' w' _ e2 k4 k8 e3 e4 e5 ?_ h3 (fun k hk => ?_)
      · rcases h4 with h4 | h4
        · have h5 : g' = go := Option.some.inj h4
          exact .inl (by rw [h5]; exact k2)
        · have h5 : g' = w.heap.size := Option.some.inj h4
          exact .inr (by omega)
      · have h5 : go = k := Option.some.inj hk
        rw [← h5]
        exact ⟨k2, _, k3⟩

theorem Tm.grown {w w' : World} {own : Option Nat} (h : w.grownBy w' own) (ho : ∀ k, own = some k → ∃ cs, RowT 311 w k cs) : Tm w w' := by
  refine ⟨fun g n hm => ?_, fun g cs hr => ?_⟩
  · refine hm.eq (h.block g hm.lt (fun he => ?_))
    obtain ⟨cs, h2⟩ := ho g he.symm
    obtain ⟨xs, h3, _⟩ := hm
    exact absurd (RowT.types (T := 311) (T' := 5) (cs' := bv xs) h2 h3) (by decide)
  · unfold RowT
    rw [h.block g hr.lt (fun he => ?_)]
    · exact hr
    · obtain ⟨cs', h2⟩ := ho g he.symm
      exact absurd (RowT.types h2 hr) (by decide)
/-- the state with a log more -/
theorem SR.logged {G : Nat → Prop} {bw gf : Nat} {cs fr : List Value} {d : WD} {fs : List FD} {x : XD} {w wn wp : World} {lrow : List Value} {lg : YLog} {g' c' l : Nat} {rows : List (List Value)} {junk : List Value} {own : Option Nat} (h : SR G bw gf cs fr d fs x w) (hb : Below w.heap.size w wn) (hk : KLog G w lrow lg) (hr : RowT 311 wp g' ((rows ++ [lrow]).flatten ++ junk)) (hl : rows.length = l) (he : Each (KLog G wn) rows d.logs) (hj : junk.length = (c' - (l + 1)) * 22) (hc : l + 1 ≤ c') (hm : c' ≤ maxLen) (hg : G g' ∨ wn.heap.size ≤ g') (hw : wn.grownBy wp own) (ho : ∀ k, own = some k → G k ∧ ∃ cs, RowT 311 wn k cs) :
    ∃ G', Wider G G' w ∧ SR G' bw gf (cs.set 4 (.slice (some ⟨g', 0, none⟩) (l + 1) c')) fr { d with logs := d.logs ++ [lg] } fs x (wp.setCell ⟨bw, 4, none⟩ (.slice (some ⟨g', 0, none⟩) (l + 1) c')) ∧ ChgS G w (wp.setCell ⟨bw, 4, none⟩ (.slice (some ⟨g', 0, none⟩) (l + 1) c')) ∧ Tm w (wp.setCell ⟨bw, 4, none⟩ (.slice (some ⟨g', 0, none⟩) (l + 1) c')) := by
  obtain ⟨v, hv⟩ : ∃ v, v = Value.slice (some ⟨g', 0, none⟩) (l + 1) c' := ⟨_, rfl⟩
  have hlen : d.logs.length = l := by rw [← he.len, hl]
  have r0 : RowT 107 wp bw cs := (h.cw.row.kept hb).grown hw (fun hh => by
    obtain ⟨_, cs', h2⟩ := ho bw hh.symm
    exact absurd (RowT.types h2 (h.cw.row.kept hb)) (by decide))
  have f0 : RowT 194 wp gf fr := (h.row.kept hb).grown hw (fun hh => by
    obtain ⟨_, cs', h2⟩ := ho gf hh.symm
    exact absurd (RowT.types h2 (h.row.kept hb)) (by decide))
  have oS : Only bw wp (wp.setCell ⟨bw, 4, none⟩ v) := (Only.refl bw wp).setCell 4 v
  have gne : g' ≠ bw := fun hh => by
    rw [hh] at hr
    exact absurd (RowT.types hr r0) (by decide)
  have cNP : ChgS G wn wp := ChgS.grown hw (fun k hk => (ho k hk).1)
  have cNS : ChgS G wn (wp.setCell ⟨bw, 4, none⟩ v) := cNP.then (ChgS.only (G := G) oS h.cw.g) (fun _ h _ => h)
  have cS : ChgS G w (wp.setCell ⟨bw, 4, none⟩ v) := (ChgS.of (G := G) hb).then cNS (fun _ h _ => h)
  have tS : Tm w (wp.setCell ⟨bw, 4, none⟩ v) := ((Tm.of hb).trans (Tm.grown hw (fun k hk => (ho k hk).2))).trans (Tm.only (by decide) r0 oS)
  have hbs := hb.size
  have newN : ∀ i, (G i ∨ i = g') → i < wn.heap.size → G i := fun i hi hlt => by
    rcases hi with hi | hi
    · exact hi
    · rcases hg with hg | hg
      · rw [hi]; exact hg
      · omega
  have hW : Wider G (fun i => G i ∨ i = g') w := ⟨fun i hi => .inl hi, fun i hi hlt => newN i hi (by omega)⟩
  have rS : RowT 311 (wp.setCell ⟨bw, 4, none⟩ v) g' ((rows ++ [lrow]).flatten ++ junk) := hr.only oS gne
  refine ⟨fun i => G i ∨ i = g', hW, ?_, hv ▸ cS, hv ▸ tS⟩
  rw [← hv]
  rw [hv]
  refine SR.log h hW (hv ▸ cS) (hv ▸ tS) ?_ (r0.set 4 _) (f0.only (hv ▸ oS) h.ne) (by rw [List.length_append, hlen]; rfl) (.inr ⟨g', rows ++ [lrow], junk, rfl, .inr rfl, hv ▸ rS, topics_len _ hl, hj, hc, hm, ?_⟩)
  · intro i hi
    rw [← hv]
    rcases hi with hi | rfl
    · have := h.cw.ther i hi
      have := cS.size
      omega
    · exact rS.lt
  · rw [← hv]
    have cNS' : ChgS (fun i => G i ∨ i = g') wn (wp.setCell ⟨bw, 4, none⟩ v) := cNS.mono fun _ h => .inl h
    have cS' : ChgS (fun i => G i ∨ i = g') w (wp.setCell ⟨bw, 4, none⟩ v) := cS.mono fun _ h => .inl h
    exact (he.imp fun _ _ h => (h.to newN).go cNS').snoc ((hk.to hW.new).go cS')
/-- the new log's row -/
theorem KLog.made {G : Nat → Prop} {W w0 w : World} {sf : List Int} {gX n m1 cD : Nat} {u : Value} {D : Option Addr} {trows : List (List Value)} {ys : List Int} (hT : Ther G w0) (hs : w0.heap.size ≤ W.heap.size) (ha : IsAddr sf) (ho : w.ownsRow W.heap.size 29 32 u n trows.flatten) (htl : trows.length = n) (hta : ∀ r ∈ trows, r.length = 32 ∧ ∀ v ∈ r, v.oneCell' = true) (hD : Src w D m1 cD ys) (ND : New w0 D) : ∃ A c, u = .slice A n c ∧ KLog G w (bv sf ++ [Value.slice A n c, .slice D m1 cD]) ⟨sf, n, m1⟩ := by
  obtain ⟨A, c, rfl, hR⟩ := own_rws ho (fun r hr => (hta r hr).1) htl
  refine ⟨A, c, rfl, A, c, D, cD, trows, ys, rfl, ha, StabS.rws hR (fun y hy h0 hg => ?_), fun r hr => (hta r hr).2, StabS.src hD (ND.offS hT _)⟩
  subst hy
  have h1 := (ho.lt _ rfl).1
  have h2 := hT _ hg
  omega

end Go.Proofs.YgcsakGreat
