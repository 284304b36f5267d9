/-
  what New has made, as Begin asks it (the great seat).
-/
import Derived.Test.YgcsakGreatBegX
import Derived.Test.YgcsakGreatNewZ
import Derived.Test.YgcsakGreatVer
namespace Go.Proofs.YgcsakGreat
set_option linter.unusedVariables false
set_option linter.unusedSimpArgs false
set_option maxRecDepth 100000
open Go.RowKit

def Small (ds : List OAcct) : Prop := ∀ o ∈ ds, IsAddr o.addr ∧ o.nonce < 256 ^ 8 ∧ IsW o.bal ∧ ∀ s ∈ o.slots, IsW s.1 ∧ IsW s.2
theorem CsE.low {re cs : List Value} (h : CsE re cs) (i : Nat) (h0 : i ≠ 0) (h1 : i ≠ 18) (hi : i < 59) : cs[i]? = zeroC[i]? := by
  rw [h.2.1 i h0 h1 (by omega), List.getElem?_append_left (by rw [List.length_take, zeroC_len]; omega), List.getElem?_take, if_pos hi]
theorem CsE.high {re cs : List Value} (h : CsE re cs) (j : Nat) (hj : j < 119) : cs[59 + j]? = re[j]? := by
  rw [h.2.1 (59 + j) (by omega) (by omega) (by omega), List.getElem?_append_right (by rw [List.length_take, zeroC_len]; omega), List.length_take, zeroC_len]
  congr 1
  omega
theorem CsE.range {re cs : List Value} (h : CsE re cs) (o n : Nat) (ho : o + n ≤ 119) : (cs.drop (59 + o)).take n = (re.drop o).take n := by
  apply List.ext_getElem?
  intro j
  rw [List.getElem?_take, List.getElem?_take]
  split
  · rw [List.getElem?_drop, List.getElem?_drop, Nat.add_assoc, h.high (o + j) (by omega)]
  · rfl

theorem bnd_of {ds : List OAcct} (h : Small ds) : Bnd (ds.map acctOf) := by
  intro d hd
  obtain ⟨o, ho, rfl⟩ := List.mem_map.1 hd
  obtain ⟨_, h2, h3, _⟩ := h o ho
  exact ⟨Nat.lt_of_lt_of_le h2 (big_pow 8 (by omega)), h3.big⟩

theorem NewOK.stc {bw : Nat} {cs re : List Value} {w : World} {l : Nat} {ds : List OAcct} {cb : List Int} {gl : Nat} {fee : List Int} {A3 : Option Addr} {k3 c3 : Nat} (h : NewOK bw cs re w l ds) (hl : l ≤ 8) (hs : Small ds) (he : EnvC re cb gl fee A3 k3 c3) :
    ∃ ao c, StC 107 bw cs w ao l c (ds.map acctOf) gl fee := by
  obtain ⟨ao, c, h1, h2, h3, h4⟩ := h
  refine ⟨ao, c, h1, h4, h3, by omega, bnd_of hs, ?_, ?_, ?_, he.hlimit, ?_, he.hfee⟩
  · rw [h2.low 11 (by omega) (by omega) (by omega)]; rfl
  · rw [h2.low 13 (by omega) (by omega) (by omega)]; rfl
  · have := h2.high 22 (by omega)
    rw [show 59 + 22 = 81 from rfl] at this
    rw [this]
    exact he.limit
  · have := h2.range 87 32 (by omega)
    rw [show 59 + 87 = 146 from rfl] at this
    rw [this]
    exact he.base

theorem fine_of {ds : List OAcct} (h : Small ds) (hw : worldB ds = true) : Fine (ds.map acctOf) := by
  intro d hd
  obtain ⟨o, ho, rfl⟩ := List.mem_map.1 hd
  obtain ⟨_, h2, h3, h4⟩ := h o ho
  have hok := okA_le o (okWs_all ds none (zeros 32) (by unfold worldB at hw; simp at hw; exact hw.2) o ho)
  refine ⟨Nat.lt_of_lt_of_le h2 (big_pow 8 (by omega)), Nat.lt_of_lt_of_le h3.lt (Nat.pow_le_pow_right (by omega) (by omega)), ?_, ?_, ?_⟩
  · show o.code.length ≤ 100000
    omega
  · show (o.slots.map fun s => (beN s.1, beN s.2)).length ≤ 100000
    rw [List.length_map]
    omega
  · intro s hs
    obtain ⟨x, hx, rfl⟩ := List.mem_map.1 hs
    exact ⟨(h4 x hx).1.big, (h4 x hx).2.big⟩

theorem NewOK.bs {bw : Nat} {cs re : List Value} {w : World} {l : Nat} {ds : List OAcct} {cb : List Int} {gl : Nat} {fee : List Int} {A3 : Option Addr} {k3 c3 : Nat} (h : NewOK bw cs re w l ds) (hl : l ≤ 8) (hs : Small ds) (hw : worldB ds = true) (he : EnvC re cb gl fee A3 k3 c3) : BS bw cs cb fee 8 0 0 w := by
  obtain ⟨ao, c, h1, h2, h3, h4⟩ := h
  have g : ∀ i, i ≠ 0 → i ≠ 18 → i < 59 → cs[i]? = zeroC[i]? := fun i a b c => h2.low i a b c
  refine ⟨h1, h2.1, ⟨ao, l, c, _, h3, h4, hl, fine_of hs hw⟩, ⟨none, 0, 0, [], by rw [g 1 (by omega) (by omega) (by omega)]; rfl, SAddrs.nil _ _, Nat.le_refl _⟩, ⟨none, 0, 0, [], by rw [g 2 (by omega) (by omega) (by omega)]; rfl, SMarks.nil _ _, Nat.le_refl _⟩, ?_, ?_, ?_, ?_, ?_, ?_, ?_⟩
  · rw [g 3 (by omega) (by omega) (by omega)]; rfl
  · rw [g 4 (by omega) (by omega) (by omega)]; rfl
  · rw [g 5 (by omega) (by omega) (by omega)]; rfl
  · rw [g 6 (by omega) (by omega) (by omega)]; rfl
  · rw [g 7 (by omega) (by omega) (by omega)]; rfl
  · have := h2.range 0 20 (by omega)
    rw [show 59 + 0 = 59 from rfl] at this
    rw [this]
    exact he.coin
  · have := h2.range 87 32 (by omega)
    rw [show 59 + 87 = 146 from rfl] at this
    rw [this]
    exact he.base
theorem NewOK.applied {bw : Nat} {cs re : List Value} {w : World} {l : Nat} {ds : List OAcct} (h : NewOK bw cs re w l ds) : cs[13]? = some (.int .u8 0) := by
  obtain ⟨ao, c, h1, h2, h3, h4⟩ := h
  rw [h2.low 13 (by omega) (by omega) (by omega)]; rfl

theorem verd0 {ds : List YAcct} {gl : Nat} {fee : List Int} {d : YTx} (h : verdN ds gl fee d = 0) : d.gas ≤ 1048576 ∧ d.data.length ≤ 1024 ∧ listB d.access = true := by
  unfold verdN at h
  by_cases h1 : 1048576 < d.gas
  · rw [if_pos h1] at h; cases h
  rw [if_neg h1] at h
  by_cases h2 : 1024 < d.data.length
  · rw [if_pos h2] at h; cases h
  rw [if_neg h2] at h
  cases h3 : listB d.access with
  | false => rw [if_pos h3] at h; cases h
  | true => exact ⟨by omega, by omega, rfl⟩
theorem listB_le {xs : List (List Int × List (List Int))} (h : listB xs = true) : xs.length ≤ 16 ∧ keysN xs ≤ 64 := by
  unfold listB at h
  simp at h
  omega
theorem keysN_mem {xs : List (List Int × List (List Int))} {x : List Int × List (List Int)} (h : x ∈ xs) : x.2.length ≤ keysN xs := by
  induction xs with
  | nil => cases h
  | cons y ys ih =>
    unfold keysN
    rcases List.mem_cons.1 h with rfl | h
    · omega
    · have := ih h; omega

theorem intrN_big (d : YTx) (h1 : d.data.length ≤ 1024) (h2 : listB d.access = true) : intrN d < BIG := by
  have h3 := listB_le h2
  have h4 := accN_le d.access
  have h5 := zerosN_le d.data
  have h6 : intrN d ≤ 2000000 := by
    unfold intrN dataN
    split <;> omega
  have := big_ge
  omega
theorem run_zaddr (wx : World) : (Instr.build 26 #[]).run Sakg.prog wx = .ok (.agg (bv (zeros 20)).toArray) wx := by kernel_rfl

/-- the frame that Begin lays -/
def frame5 (A B : Option Addr) (k c k' c' : Nat) (slf caller : List Int) : List Value :=
  [.int .u8 0, .int .u8 0, .bool false, nilS, .slice A k c, .slice B k' c', nilS, nilS, nilS, nilS, nilS, nilS] ++ (bv slf ++ (bv caller ++ List.replicate 8 nilS))
theorem placesFrame : PlacesOf 194 #[(0, 1), (1, 1), (2, 1), (3, 1), (4, 1), (5, 1), (6, 1), (7, 1), (8, 1), (9, 1), (10, 1), (11, 1), (12, 20), (32, 20), (52, 8)] := ⟨by kernel_rfl, fun w => by kernel_rfl⟩
theorem spl_mid (L M R N : List Value) (h : M.length = N.length) : spl (L ++ (M ++ R)) L.length N = L ++ (N ++ R) := by
  unfold spl
  rw [List.take_left, List.drop_append, List.drop_append, List.drop_of_length_le (by omega), List.drop_of_length_le (by omega), Nat.add_sub_cancel_left, h, Nat.sub_self, List.drop_zero, List.nil_append, List.nil_append, List.append_assoc]
theorem fill_frame (A B : Option Addr) (k c k' c' : Nat) (slf caller : List Int) (hs : IsAddr slf) (hc : IsAddr caller) :
    Instr.fill ((#[(0, 1), (1, 1), (2, 1), (3, 1), (4, 1), (5, 1), (6, 1), (7, 1), (8, 1), (9, 1), (10, 1), (11, 1), (12, 20), (32, 20), (52, 8)] : Array (Nat × Nat))[·]?) zeroF.toArray [(0, .int .u8 0), (4, .slice A k c), (5, .slice B k' c'), (12, .agg (bv slf).toArray), (13, .agg (bv caller).toArray)] = some (frame5 A B k c k' c' slf caller).toArray := by
  have e40 : bv (zeros 40) = bv (zeros 20) ++ bv (zeros 20) := by rw [← bv_append]; rfl
  have z1 : zeroF = [.int .u8 0, .int .u8 0, .bool false, nilS, nilS, nilS, nilS, nilS, nilS, nilS, nilS, nilS] ++ (bv (zeros 20) ++ (bv (zeros 20) ++ List.replicate 8 nilS)) := by
    unfold zeroF
    rw [e40, List.append_assoc]
    rfl
  rw [z1]
  have hl20 : (bv (zeros 20)).length = 20 := by rw [bv_len, zeros_len]
  have hls : (bv slf).length = 20 := by rw [bv_len, hs.len]
  have hlc : (bv caller).length = 20 := by rw [bv_len, hc.len]
  rw [fill_cons _ _ 0 (.int .u8 0) _ 0 1 rfl [.int .u8 0] rfl rfl (by simp)]
  rw [show spl ([Value.int .u8 0, .int .u8 0, .bool false, nilS, nilS, nilS, nilS, nilS, nilS, nilS, nilS, nilS] ++ (bv (zeros 20) ++ (bv (zeros 20) ++ List.replicate 8 nilS))) 0 [.int .u8 0] = [Value.int .u8 0, .int .u8 0, .bool false, nilS, nilS, nilS, nilS, nilS, nilS, nilS, nilS, nilS] ++ (bv (zeros 20) ++ (bv (zeros 20) ++ List.replicate 8 nilS)) from rfl]
  rw [fill_cons _ _ 4 (.slice A k c) _ 4 1 rfl [.slice A k c] rfl rfl (by simp)]
  rw [show spl ([Value.int .u8 0, .int .u8 0, .bool false, nilS, nilS, nilS, nilS, nilS, nilS, nilS, nilS, nilS] ++ (bv (zeros 20) ++ (bv (zeros 20) ++ List.replicate 8 nilS))) 4 [.slice A k c] = [Value.int .u8 0, .int .u8 0, .bool false, nilS, .slice A k c, nilS, nilS, nilS, nilS, nilS, nilS, nilS] ++ (bv (zeros 20) ++ (bv (zeros 20) ++ List.replicate 8 nilS)) from rfl]
  rw [fill_cons _ _ 5 (.slice B k' c') _ 5 1 rfl [.slice B k' c'] rfl rfl (by simp)]
  rw [show spl ([Value.int .u8 0, .int .u8 0, .bool false, nilS, .slice A k c, nilS, nilS, nilS, nilS, nilS, nilS, nilS] ++ (bv (zeros 20) ++ (bv (zeros 20) ++ List.replicate 8 nilS))) 5 [.slice B k' c'] = [Value.int .u8 0, .int .u8 0, .bool false, nilS, .slice A k c, .slice B k' c', nilS, nilS, nilS, nilS, nilS, nilS] ++ (bv (zeros 20) ++ (bv (zeros 20) ++ List.replicate 8 nilS)) from rfl]
  rw [fill_cons _ _ 12 (.agg (bv slf).toArray) _ 12 20 rfl (bv slf) rfl hls (by simp [hl20])]
  have s12 := spl_mid [Value.int .u8 0, .int .u8 0, .bool false, nilS, .slice A k c, .slice B k' c', nilS, nilS, nilS, nilS, nilS, nilS] (bv (zeros 20)) (bv (zeros 20) ++ List.replicate 8 nilS) (bv slf) (by rw [hl20, hls])
  rw [show [Value.int .u8 0, .int .u8 0, .bool false, nilS, .slice A k c, .slice B k' c', nilS, nilS, nilS, nilS, nilS, nilS].length = 12 from rfl] at s12
  rw [s12]
  rw [fill_cons _ _ 13 (.agg (bv caller).toArray) _ 32 20 rfl (bv caller) rfl hlc (by simp [hl20, hls])]
  have s32 := spl_mid ([Value.int .u8 0, .int .u8 0, .bool false, nilS, .slice A k c, .slice B k' c', nilS, nilS, nilS, nilS, nilS, nilS] ++ bv slf) (bv (zeros 20)) (List.replicate 8 nilS) (bv caller) (by rw [hl20, hlc])
  rw [show ([Value.int .u8 0, .int .u8 0, .bool false, nilS, .slice A k c, .slice B k' c', nilS, nilS, nilS, nilS, nilS, nilS] ++ bv slf).length = 32 from by simp [hls], List.append_assoc] at s32
  rw [s32, Instr.fill, List.append_assoc]
  rfl
theorem run_frame5 (wx : World) (A B : Option Addr) (k c k' c' : Nat) (slf caller : List Int) (hs : IsAddr slf) (hc : IsAddr caller) :
    (Instr.build 194 #[(0, .int .u8 0), (4, .slice A k c), (5, .slice B k' c'), (12, .agg (bv slf).toArray), (13, .agg (bv caller).toArray)]).run Sakg.prog wx = .ok (.agg (frame5 A B k c k' c' slf caller).toArray) wx := by
  obtain ⟨i0, hi0, hz0, hz1, hz2⟩ := info_parts infoFrame
  exact run_build_struct wx 194 _ placesFrame i0 _ hi0 hz0 zeroF rfl _ _ (fill_frame A B k c k' c' slf caller hs hc)
theorem frame5_ok (A B : Option Addr) (k c k' c' : Nat) (slf caller : List Int) (hs : IsAddr slf) (hc : IsAddr caller) : FrC (frame5 A B k c k' c' slf caller) 0 slf caller B k' c' := by
  have hls : (bv slf).length = 20 := by rw [bv_len, hs.len]
  have hlc : (bv caller).length = 20 := by rw [bv_len, hc.len]
  refine ⟨by simp [frame5, hls, hlc], ?_, rfl, rfl, ?_, ?_, hs, hc⟩
  · intro v hv
    unfold frame5 at hv
    rcases List.mem_append.1 hv with h | h
    · simp at h
      rcases h with rfl | rfl | rfl | rfl | rfl | rfl <;> rfl
    · rcases List.mem_append.1 h with h | h
      · exact bv_one _ v h
      · rcases List.mem_append.1 h with h | h
        · exact bv_one _ v h
        · rw [List.eq_of_mem_replicate h]; rfl
  · unfold frame5
    rw [List.drop_append_of_le_length (by simp), List.drop_of_length_le (by simp), List.nil_append, List.take_append_of_le_length (by omega), List.take_of_length_le (by omega)]
  · unfold frame5
    rw [← List.append_assoc, List.drop_append_of_le_length (by simp [hls]), List.drop_of_length_le (by simp [hls]), List.nil_append, List.take_append_of_le_length (by omega), List.take_of_length_le (by omega)]

theorem look_nonce {ds : List OAcct} (h : Small ds) (a : List Int) : (lookY (ds.map acctOf) a).nonce < 256 ^ 8 := by
  rcases lookY_mem (ds.map acctOf) a with hm | hm
  · obtain ⟨o, ho, e⟩ := List.mem_map.1 hm
    rw [← e]
    exact (h o ho).2.1
  · rw [hm]
    exact Nat.pow_pos (by omega)
def G3 (bw gF : Nat) (k : Nat) : Prop := k = bw ∨ k = gF
/-- the state and the frame's box, while the frame is filled -/
structure FS (bw gF : Nat) (cs : List Value) (w34 w35 : World) (f : List Value) (w : World) : Prop where
  row : RowT 107 w bw cs
  frm : RowT 194 w gF f
  chg : Chg bw w34 w
  chs : ChgS (G3 bw gF) w35 w
theorem FS.kept {bw gF : Nat} {cs f : List Value} {w34 w35 w w' : World} (h : FS bw gF cs w34 w35 f w) (hb : Below w.heap.size w w') : FS bw gF cs w34 w35 f w' :=
  ⟨h.row.kept hb, h.frm.kept hb, h.chg.trans (Chg.of hb), h.chs.then (ChgS.of (G := G3 bw gF) hb) (fun _ h _ => h)⟩
theorem FS.put {bw gF : Nat} {cs f : List Value} {w34 w35 w : World} (h : FS bw gF cs w34 w35 f w) (hg : w34.heap.size ≤ gF) (hn : bw ≠ gF) (i : Nat) (v : Value) : FS bw gF cs w34 w35 (f.set i v) (w.setCell ⟨gF, i, none⟩ v) :=
  ⟨h.row.only ((Only.refl gF w).setCell i v) hn, h.frm.set i v, h.chg.onlyNew ((Only.refl gF w).setCell i v) hg, h.chs.then (ChgS.only (G := G3 bw gF) ((Only.refl gF w).setCell i v) (.inr rfl)) (fun _ h _ => h)⟩
theorem FS.bs {bw gF : Nat} {cs f : List Value} {w34 w35 w : World} {cb fee : List Int} {na nw nm : Nat} (h : FS bw gF cs w34 w35 f w) (hb : BS bw cs cb fee na nw nm w34) : BS bw cs cb fee na nw nm w :=
  hb.turn h.row hb.len (fun _ _ => rfl) h.chg
theorem FS.cell {bw gF : Nat} {cs f : List Value} {w34 w35 w : World} (h : FS bw gF cs w34 w35 f w) (hl : f.length = 60) {i : Nat} (hi : i < 60) : ∃ v, w.cell? ⟨gF, i, none⟩ = some v := by
  rw [h.frm.cell, List.getElem?_eq_getElem (by rw [hl]; exact hi)]
  exact ⟨_, rfl⟩

theorem NewOK.bx {bw : Nat} {cs re : List Value} {w : World} {l : Nat} {ds : List OAcct} {cb : List Int} {gl : Nat} {fee : List Int} {A3 : Option Addr} {k3 c3 : Nat} (h : NewOK bw cs re w l ds) (hl : l ≤ 8) (hs : Small ds) (hw : worldB ds = true) (he : EnvC re cb gl fee A3 k3 c3) (tg code : List Int) (ht : (lookY (ds.map acctOf) tg).code = code) (hn : ∀ o ∈ ds, o.slots = []) : BX tg code bw cs cb fee 8 0 0 w := by
  have hb := h.bs hl hs hw he
  obtain ⟨ao, c, h1, h2, h3, h4⟩ := h
  refine ⟨hb, ao, l, c, _, h3, h4, hl, fine_of hs hw, ht, ?_⟩
  intro d hd
  obtain ⟨o, ho, rfl⟩ := List.mem_map.1 hd
  show (o.slots.map fun s => (beN s.1, beN s.2)) = []
  rw [hn o ho]
  rfl
theorem FS.bx {tg code : List Int} {bw gF : Nat} {cs f : List Value} {w34 w35 w : World} {cb fee : List Int} {na nw nm : Nat} (h : FS bw gF cs w34 w35 f w) (hb : BX tg code bw cs cb fee na nw nm w34) : BX tg code bw cs cb fee na nw nm w :=
  hb.turn h.row hb.len (fun _ _ => rfl) h.chg

theorem zeroC_one' : ∀ v ∈ zeroC, v.oneCell' = true := by
  intro v hv
  unfold zeroC at hv
  simp only [List.mem_append, List.mem_replicate, List.mem_cons, List.not_mem_nil, or_false] at hv
  rcases hv with ⟨-, rfl⟩ | (rfl | rfl | rfl) | ⟨-, rfl⟩ | hv | (rfl | rfl | rfl) | hv | rfl <;> first | rfl | exact bv_one _ v hv
theorem NewOK.one {bw : Nat} {cs re : List Value} {w : World} {l : Nat} {ds : List OAcct} {cb : List Int} {gl : Nat} {fee : List Int} {A3 : Option Addr} {k3 c3 : Nat} (h : NewOK bw cs re w l ds) (ht : TotOK bw cs w l) (he : EnvC re cb gl fee A3 k3 c3) (i : Nat) (v : Value) (hv : cs[i]? = some v) : v.oneCell' = true := by
  obtain ⟨ao, c, h1, h2, h3, h4⟩ := h
  obtain ⟨At, kt, ct, nt, t1, t2, t3⟩ := ht
  obtain ⟨u, u1, u2⟩ := h2.2.2
  by_cases e0 : i = 0
  · subst e0; rw [h3] at hv; obtain rfl := Option.some.inj hv; rfl
  by_cases e18 : i = 18
  · subst e18; rw [t1] at hv; obtain rfl := Option.some.inj hv; rfl
  by_cases e178 : i = 178
  · subst e178; rw [u1] at hv; obtain rfl := Option.some.inj hv; exact u2
  rw [h2.2.1 i e0 e18 e178] at hv
  rcases List.mem_append.1 (List.mem_of_getElem? hv) with hm | hm
  · exact zeroC_one' v (List.mem_of_mem_take hm)
  · exact he.one v hm
/-- what lasts whatever comes to the chain's block lasts also what comes to a new one -/
theorem stab_gf {bw gf : Nat} {P : World → Prop} {w w' : World} (h : Stab bw P w) (hc : Chg bw w w') (hg : w.heap.size ≤ gf) : StabS (GF bw gf) P w' := fun wz hz =>
  h wz ⟨hz.os.trans hc.os, hz.tape.trans hc.tape, hz.output.trans hc.output, Nat.le_trans hc.size hz.size, fun k hk hn => (hz.block k (Nat.lt_of_lt_of_le hk hc.size) (fun g => by rcases g with g | g; (exact hn g); (omega))).trans (hc.block k hk hn)⟩
theorem Chg.lt_size {g k : Nat} {w w' : World} (h : Chg g w w') (hk : k < w.heap.size) : k < w'.heap.size := Nat.lt_of_lt_of_le hk h.size
theorem range_one {cs : List Value} {o : Nat} {xs : List Int} (h : (cs.drop o).take 20 = bv xs) (hx : xs.length = 20) (i : Nat) (h1 : o ≤ i) (h2 : i < o + 20) (v : Value) (hv : cs[i]? = some v) : v.oneCell' = true := by
  refine bv_one xs v ?_
  rw [← h]
  refine List.mem_of_getElem? (i := i - o) ?_
  rw [List.getElem?_take, if_pos (by omega), List.getElem?_drop, show o + (i - o) = i by omega]
  exact hv
/-- each cell of the state holds one value -/
theorem one_end {bw : Nat} {cs' csa : List Value} {cb fee : List Int} {na nw nm : Nat} {wa : World} (hb : BS bw csa cb fee na nw nm wa) (hsa : ∀ i, i ≠ 9 → cs'[i]? = csa[i]?) {A14 A15 A17 A18 : Option Addr} {k14 c14 k15 c15 k17 c17 k18 c18 : Nat} {frm : List Int} (K8 : cs'[8]? = some nilS) (K10 : cs'[10]? = some nilS) (K11 : cs'[11]? = some (.int .u8 1)) (K13 : cs'[13]? = some (.int .u8 1))
    (K14 : cs'[14]? = some (.slice A14 k14 c14)) (K15 : cs'[15]? = some (.slice A15 k15 c15)) (K17 : cs'[17]? = some (.slice A17 k17 c17)) (K18 : cs'[18]? = some (.slice A18 k18 c18)) (KOrg : (cs'.drop 19).take 20 = bv frm) (KMad : (cs'.drop 39).take 20 = bv (zeros 20))
    (hE : ∀ i, 59 ≤ i → ∀ v, cs'[i]? = some v → v.oneCell' = true) (hL : ∀ i, i = 12 ∨ i = 16 → ∀ v, cs'[i]? = some v → v.oneCell' = true) (hf : frm.length = 20) : ∀ i v, i ≠ 9 → cs'[i]? = some v → v.oneCell' = true := by
  intro i v h9 hv
  have hsl : ∀ A k c, cs'[i]? = some (Value.slice A k c) → v.oneCell' = true := fun A k c he => by
    rw [he] at hv
    obtain rfl := Option.some.inj hv
    rfl
  have hin : ∀ n : Int, cs'[i]? = some (Value.int .u8 n) → v.oneCell' = true := fun n he => by
    rw [he] at hv
    obtain rfl := Option.some.inj hv
    rfl
  obtain ⟨x1, x2, x3, x4, x5, -⟩ := hb.accts
  obtain ⟨y1, y2, y3, y4, y5, -⟩ := hb.warmA
  obtain ⟨z1, z2, z3, z4, z5, -⟩ := hb.warmS
  by_cases h59 : 59 ≤ i
  · exact hE i h59 v hv
  by_cases h39 : 39 ≤ i
  · exact range_one KMad (zeros_len 20) i h39 (by omega) v hv
  by_cases h19 : 19 ≤ i
  · exact range_one KOrg hf i h19 (by omega) v hv
  have hi : i = 0 ∨ i = 1 ∨ i = 2 ∨ i = 3 ∨ i = 4 ∨ i = 5 ∨ i = 6 ∨ i = 7 ∨ i = 8 ∨ i = 10 ∨ i = 11 ∨ (i = 12 ∨ i = 16) ∨ i = 13 ∨ i = 14 ∨ i = 15 ∨ i = 17 ∨ i = 18 := by omega
  rcases hi with rfl | rfl | rfl | rfl | rfl | rfl | rfl | rfl | rfl | rfl | rfl | hi | rfl | rfl | rfl | rfl | rfl
  · exact hsl _ _ _ ((hsa 0 (by omega)).trans x5)
  · exact hsl _ _ _ ((hsa 1 (by omega)).trans y5)
  · exact hsl _ _ _ ((hsa 2 (by omega)).trans z5)
  · exact hsl _ _ _ ((hsa 3 (by omega)).trans hb.c3)
  · exact hsl _ _ _ ((hsa 4 (by omega)).trans hb.c4)
  · exact hsl _ _ _ ((hsa 5 (by omega)).trans hb.c5)
  · exact hsl _ _ _ ((hsa 6 (by omega)).trans hb.c6)
  · exact hsl _ _ _ ((hsa 7 (by omega)).trans hb.c7)
  · exact hsl _ _ _ K8
  · exact hsl _ _ _ K10
  · exact hin _ K11
  · exact hL i hi v hv
  · exact hin _ K13
  · exact hsl _ _ _ K14
  · exact hsl _ _ _ K15
  · exact hsl _ _ _ K17
  · exact hsl _ _ _ K18

end Go.Proofs.YgcsakGreat
