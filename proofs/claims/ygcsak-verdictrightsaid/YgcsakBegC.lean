/-
  what Begin's walk asks for, with no walk in it.
-/
import Derived.Test.YgcsakBegA
import Derived.Test.YgcsakEntA
namespace Go.Proofs.Ygcsak
set_option linter.unusedVariables false
set_option linter.unusedSimpArgs false
set_option maxRecDepth 100000
open Go.RowKit

theorem fine_of {ds : List OAcct} (h : Small ds) (hw : worldB ds = true) : Fine (ds.map acctOf) := by
  intro d hd
  obtain ⟨o, ho, rfl⟩ := List.mem_map.1 hd
  obtain ⟨_, h2, h3, h4⟩ := h o ho
  have hok := okA_le o (okWs_all ds none (zeros 32) (by unfold worldB at hw; simp at hw; exact hw.2) o ho)
  refine ⟨Nat.lt_of_lt_of_le h2 (big_pow 8 (by omega)), Nat.lt_of_lt_of_le h3.lt (Nat.pow_le_pow_right (by omega) (by omega)), ?_, ?_, ?_⟩
  · show o.code.length ≤ 100000
    omega
  · show (o.slots.map fun s => (beN s.1, beN s.2)).length ≤ 100000
    rw [List.length_map]
    omega
  · intro s hs
    obtain ⟨x, hx, rfl⟩ := List.mem_map.1 hs
    exact ⟨(h4 x hx).1.big, (h4 x hx).2.big⟩

theorem NewOK.bs {bw : Nat} {cs re : List Value} {w : World} {l : Nat} {ds : List OAcct} {cb : List Int} {gl : Nat} {fee : List Int} {A3 : Option Addr} {k3 c3 : Nat} (h : NewOK bw cs re w l ds) (hl : l ≤ 8) (hs : Small ds) (hw : worldB ds = true) (he : EnvC re cb gl fee A3 k3 c3) : BS bw cs cb fee 8 0 0 w := by
  obtain ⟨ao, c, h1, h2, h3, h4⟩ := h
  have g : ∀ i, i ≠ 0 → i ≠ 18 → i < 59 → cs[i]? = zeroC[i]? := fun i a b c => h2.low i a b c
  refine ⟨h1, h2.1, ⟨ao, l, c, _, h3, h4, hl, fine_of hs hw⟩, ⟨none, 0, 0, [], by rw [g 1 (by omega) (by omega) (by omega)]; rfl, SAddrs.nil _ _, Nat.le_refl _⟩, ⟨none, 0, 0, [], by rw [g 2 (by omega) (by omega) (by omega)]; rfl, SMarks.nil _ _, Nat.le_refl _⟩, ?_, ?_, ?_, ?_, ?_, ?_, ?_⟩
  · rw [g 3 (by omega) (by omega) (by omega)]; rfl
  · rw [g 4 (by omega) (by omega) (by omega)]; rfl
  · rw [g 5 (by omega) (by omega) (by omega)]; rfl
  · rw [g 6 (by omega) (by omega) (by omega)]; rfl
  · rw [g 7 (by omega) (by omega) (by omega)]; rfl
  · have := h2.range 0 20 (by omega)
    rw [show 59 + 0 = 59 from rfl] at this
    rw [this]
    exact he.coin
  · have := h2.range 87 32 (by omega)
    rw [show 59 + 87 = 146 from rfl] at this
    rw [this]
    exact he.base
theorem NewOK.applied {bw : Nat} {cs re : List Value} {w : World} {l : Nat} {ds : List OAcct} (h : NewOK bw cs re w l ds) : cs[13]? = some (.int .u8 0) := by
  obtain ⟨ao, c, h1, h2, h3, h4⟩ := h
  rw [h2.low 13 (by omega) (by omega) (by omega)]; rfl

theorem verd0 {ds : List YAcct} {gl : Nat} {fee : List Int} {d : YTx} (h : verdN ds gl fee d = 0) : d.gas ≤ 1048576 ∧ d.data.length ≤ 1024 ∧ listB d.access = true := by
  unfold verdN at h
  by_cases h1 : 1048576 < d.gas
  · rw [if_pos h1] at h; cases h
  rw [if_neg h1] at h
  by_cases h2 : 1024 < d.data.length
  · rw [if_pos h2] at h; cases h
  rw [if_neg h2] at h
  cases h3 : listB d.access with
  | false => rw [if_pos h3] at h; cases h
  | true => exact ⟨by omega, by omega, rfl⟩
theorem listB_le {xs : List (List Int × List (List Int))} (h : listB xs = true) : xs.length ≤ 16 ∧ keysN xs ≤ 64 := by
  unfold listB at h
  simp at h
  omega
theorem keysN_mem {xs : List (List Int × List (List Int))} {x : List Int × List (List Int)} (h : x ∈ xs) : x.2.length ≤ keysN xs := by
  induction xs with
  | nil => cases h
  | cons y ys ih =>
    unfold keysN
    rcases List.mem_cons.1 h with rfl | h
    · omega
    · have := ih h; omega

theorem intrN_big (d : YTx) (h1 : d.data.length ≤ 1024) (h2 : listB d.access = true) : intrN d < BIG := by
  have h3 := listB_le h2
  have h4 := accN_le d.access
  have h5 := zerosN_le d.data
  have h6 : intrN d ≤ 2000000 := by
    unfold intrN dataN
    split <;> omega
  have := big_ge
  omega
theorem run_zaddr (wx : World) : (Instr.build 63 #[]).run Sakg.prog wx = .ok (.agg (bv (zeros 20)).toArray) wx := by kernel_rfl

/-- the frame that Begin lays -/
def frame5 (A B : Option Addr) (k c k' c' : Nat) (slf caller : List Int) : List Value :=
  [.int .u8 0, .int .u8 0, .bool false, nilS, .slice A k c, .slice B k' c', nilS, nilS, nilS, nilS, nilS, nilS] ++ (bv slf ++ (bv caller ++ List.replicate 8 nilS))
theorem placesFrame : PlacesOf 149 #[(0, 1), (1, 1), (2, 1), (3, 1), (4, 1), (5, 1), (6, 1), (7, 1), (8, 1), (9, 1), (10, 1), (11, 1), (12, 20), (32, 20), (52, 8)] := ⟨by kernel_rfl, fun w => by kernel_rfl⟩
theorem spl_mid (L M R N : List Value) (h : M.length = N.length) : spl (L ++ (M ++ R)) L.length N = L ++ (N ++ R) := by
  unfold spl
  rw [List.take_left, List.drop_append, List.drop_append, List.drop_of_length_le (by omega), List.drop_of_length_le (by omega), Nat.add_sub_cancel_left, h, Nat.sub_self, List.drop_zero, List.nil_append, List.nil_append, List.append_assoc]
theorem fill_frame (A B : Option Addr) (k c k' c' : Nat) (slf caller : List Int) (hs : IsAddr slf) (hc : IsAddr caller) :
    Instr.fill ((#[(0, 1), (1, 1), (2, 1), (3, 1), (4, 1), (5, 1), (6, 1), (7, 1), (8, 1), (9, 1), (10, 1), (11, 1), (12, 20), (32, 20), (52, 8)] : Array (Nat × Nat))[·]?) zeroF.toArray [(0, .int .u8 0), (4, .slice A k c), (5, .slice B k' c'), (12, .agg (bv slf).toArray), (13, .agg (bv caller).toArray)] = some (frame5 A B k c k' c' slf caller).toArray := by
  have e40 : bv (zeros 40) = bv (zeros 20) ++ bv (zeros 20) := by rw [← bv_append]; rfl
  have z1 : zeroF = [.int .u8 0, .int .u8 0, .bool false, nilS, nilS, nilS, nilS, nilS, nilS, nilS, nilS, nilS] ++ (bv (zeros 20) ++ (bv (zeros 20) ++ List.replicate 8 nilS)) := by
    unfold zeroF
    rw [e40, List.append_assoc]
    rfl
  rw [z1]
  have hl20 : (bv (zeros 20)).length = 20 := by rw [bv_len, zeros_len]
  have hls : (bv slf).length = 20 := by rw [bv_len, hs.len]
  have hlc : (bv caller).length = 20 := by rw [bv_len, hc.len]
  rw [fill_cons _ _ 0 (.int .u8 0) _ 0 1 rfl [.int .u8 0] rfl rfl (by simp)]
  rw [show spl ([Value.int .u8 0, .int .u8 0, .bool false, nilS, nilS, nilS, nilS, nilS, nilS, nilS, nilS, nilS] ++ (bv (zeros 20) ++ (bv (zeros 20) ++ List.replicate 8 nilS))) 0 [.int .u8 0] = [Value.int .u8 0, .int .u8 0, .bool false, nilS, nilS, nilS, nilS, nilS, nilS, nilS, nilS, nilS] ++ (bv (zeros 20) ++ (bv (zeros 20) ++ List.replicate 8 nilS)) from rfl]
  rw [fill_cons _ _ 4 (.slice A k c) _ 4 1 rfl [.slice A k c] rfl rfl (by simp)]
  rw [show spl ([Value.int .u8 0, .int .u8 0, .bool false, nilS, nilS, nilS, nilS, nilS, nilS, nilS, nilS, nilS] ++ (bv (zeros 20) ++ (bv (zeros 20) ++ List.replicate 8 nilS))) 4 [.slice A k c] = [Value.int .u8 0, .int .u8 0, .bool false, nilS, .slice A k c, nilS, nilS, nilS, nilS, nilS, nilS, nilS] ++ (bv (zeros 20) ++ (bv (zeros 20) ++ List.replicate 8 nilS)) from rfl]
  rw [fill_cons _ _ 5 (.slice B k' c') _ 5 1 rfl [.slice B k' c'] rfl rfl (by simp)]
  rw [show spl ([Value.int .u8 0, .int .u8 0, .bool false, nilS, .slice A k c, nilS, nilS, nilS, nilS, nilS, nilS, nilS] ++ (bv (zeros 20) ++ (bv (zeros 20) ++ List.replicate 8 nilS))) 5 [.slice B k' c'] = [Value.int .u8 0, .int .u8 0, .bool false, nilS, .slice A k c, .slice B k' c', nilS, nilS, nilS, nilS, nilS, nilS] ++ (bv (zeros 20) ++ (bv (zeros 20) ++ List.replicate 8 nilS)) from rfl]
  rw [fill_cons _ _ 12 (.agg (bv slf).toArray) _ 12 20 rfl (bv slf) rfl hls (by simp [hl20])]
  have s12 := spl_mid [Value.int .u8 0, .int .u8 0, .bool false, nilS, .slice A k c, .slice B k' c', nilS, nilS, nilS, nilS, nilS, nilS] (bv (zeros 20)) (bv (zeros 20) ++ List.replicate 8 nilS) (bv slf) (by rw [hl20, hls])
  rw [show [Value.int .u8 0, .int .u8 0, .bool false, nilS, .slice A k c, .slice B k' c', nilS, nilS, nilS, nilS, nilS, nilS].length = 12 from rfl] at s12
  rw [s12]
  rw [fill_cons _ _ 13 (.agg (bv caller).toArray) _ 32 20 rfl (bv caller) rfl hlc (by simp [hl20, hls])]
  have s32 := spl_mid ([Value.int .u8 0, .int .u8 0, .bool false, nilS, .slice A k c, .slice B k' c', nilS, nilS, nilS, nilS, nilS, nilS] ++ bv slf) (bv (zeros 20)) (List.replicate 8 nilS) (bv caller) (by rw [hl20, hlc])
  rw [show ([Value.int .u8 0, .int .u8 0, .bool false, nilS, .slice A k c, .slice B k' c', nilS, nilS, nilS, nilS, nilS, nilS] ++ bv slf).length = 32 from by simp [hls], List.append_assoc] at s32
  rw [s32, Instr.fill, List.append_assoc]
  rfl
theorem run_frame5 (wx : World) (A B : Option Addr) (k c k' c' : Nat) (slf caller : List Int) (hs : IsAddr slf) (hc : IsAddr caller) :
    (Instr.build 149 #[(0, .int .u8 0), (4, .slice A k c), (5, .slice B k' c'), (12, .agg (bv slf).toArray), (13, .agg (bv caller).toArray)]).run Sakg.prog wx = .ok (.agg (frame5 A B k c k' c' slf caller).toArray) wx := by
  obtain ⟨i0, hi0, hz0, hz1, hz2⟩ := info_parts infoFrame
  exact run_build_struct wx 149 _ placesFrame i0 _ hi0 hz0 zeroF rfl _ _ (fill_frame A B k c k' c' slf caller hs hc)
theorem frame5_ok (A B : Option Addr) (k c k' c' : Nat) (slf caller : List Int) (hs : IsAddr slf) (hc : IsAddr caller) : FrC (frame5 A B k c k' c' slf caller) 0 slf caller B k' c' := by
  have hls : (bv slf).length = 20 := by rw [bv_len, hs.len]
  have hlc : (bv caller).length = 20 := by rw [bv_len, hc.len]
  refine ⟨by simp [frame5, hls, hlc], ?_, rfl, rfl, ?_, ?_, hs, hc⟩
  · intro v hv
    unfold frame5 at hv
    rcases List.mem_append.1 hv with h | h
    · simp at h
      rcases h with rfl | rfl | rfl | rfl | rfl | rfl <;> rfl
    · rcases List.mem_append.1 h with h | h
      · exact bv_one _ v h
      · rcases List.mem_append.1 h with h | h
        · exact bv_one _ v h
        · rw [List.eq_of_mem_replicate h]; rfl
  · unfold frame5
    rw [List.drop_append_of_le_length (by simp), List.drop_of_length_le (by simp), List.nil_append, List.take_append_of_le_length (by omega), List.take_of_length_le (by omega)]
  · unfold frame5
    rw [← List.append_assoc, List.drop_append_of_le_length (by simp [hls]), List.drop_of_length_le (by simp [hls]), List.nil_append, List.take_append_of_le_length (by omega), List.take_of_length_le (by omega)]

theorem infoAcc2 : (Sakg.prog.info? 146).map (fun i => (i.zero, i.size)) = some (some (.agg (bv (zeros 20) ++ [nilS]).toArray), 21) := by kernel_rfl
theorem wordsR.atK {w : World} {ao : Option Addr} {l c : Nat} {ks : List (List Int)} (h : wordsR w ao l c ks) (hl : 0 < l) : ∃ b off, ao = some ⟨b, off, none⟩ ∧ b < w.heap.size ∧ ∀ i, i < l → w.rangeAt b (off + i * 32) (bv (ks.getD i [])) ∧ IsW (ks.getD i []) := by
  obtain ⟨b, off, h1, h2, h3⟩ := h.1.at_ hl
  refine ⟨b, off, h1, h2, fun i hi => ?_⟩
  have hlen := h.len
  have h4 := h3 i hi
  rw [getD_map_bv ks i (by omega)] at h4
  exact ⟨h4, h.2 _ (mem_getD (by omega))⟩
theorem look_nonce {ds : List OAcct} (h : Small ds) (a : List Int) : (lookY (ds.map acctOf) a).nonce < 256 ^ 8 := by
  rcases lookY_mem (ds.map acctOf) a with hm | hm
  · obtain ⟨o, ho, e⟩ := List.mem_map.1 hm
    rw [← e]
    exact (h o ho).2.1
  · rw [hm]
    exact Nat.pow_pos (by omega)
def G3 (bw gF : Nat) (k : Nat) : Prop := k = bw ∨ k = gF
/-- the state and the frame's box, while the frame is filled -/
structure FS (bw gF : Nat) (cs : List Value) (w34 w35 : World) (f : List Value) (w : World) : Prop where
  row : RowT 130 w bw cs
  frm : RowT 149 w gF f
  chg : Chg bw w34 w
  chs : ChgS (G3 bw gF) w35 w
theorem FS.kept {bw gF : Nat} {cs f : List Value} {w34 w35 w w' : World} (h : FS bw gF cs w34 w35 f w) (hb : Below w.heap.size w w') : FS bw gF cs w34 w35 f w' :=
  ⟨h.row.kept hb, h.frm.kept hb, h.chg.trans (Chg.of hb), h.chs.then (ChgS.of (G := G3 bw gF) hb) (fun _ h _ => h)⟩
theorem FS.put {bw gF : Nat} {cs f : List Value} {w34 w35 w : World} (h : FS bw gF cs w34 w35 f w) (hg : w34.heap.size ≤ gF) (hn : bw ≠ gF) (i : Nat) (v : Value) : FS bw gF cs w34 w35 (f.set i v) (w.setCell ⟨gF, i, none⟩ v) :=
  ⟨h.row.only ((Only.refl gF w).setCell i v) hn, h.frm.set i v, h.chg.onlyNew ((Only.refl gF w).setCell i v) hg, h.chs.then (ChgS.only (G := G3 bw gF) ((Only.refl gF w).setCell i v) (.inr rfl)) (fun _ h _ => h)⟩
theorem FS.bs {bw gF : Nat} {cs f : List Value} {w34 w35 w : World} {cb fee : List Int} {na nw nm : Nat} (h : FS bw gF cs w34 w35 f w) (hb : BS bw cs cb fee na nw nm w34) : BS bw cs cb fee na nw nm w :=
  hb.turn h.row hb.len (fun _ _ => rfl) h.chg
theorem FS.cell {bw gF : Nat} {cs f : List Value} {w34 w35 w : World} (h : FS bw gF cs w34 w35 f w) (hl : f.length = 60) {i : Nat} (hi : i < 60) : ∃ v, w.cell? ⟨gF, i, none⟩ = some v := by
  rw [h.frm.cell, List.getElem?_eq_getElem (by rw [hl]; exact hi)]
  exact ⟨_, rfl⟩
theorem infoOrig : (Sakg.prog.info? 142).map (fun i => (i.zero, i.size, i.bytes)) = some (some (.agg (bv (zeros 20) ++ [nilS, nilS]).toArray), 22, 72) := by kernel_rfl
theorem placesOrig : PlacesOf 142 #[(0, 20), (20, 1), (21, 1)] := ⟨by kernel_rfl, fun w => by kernel_rfl⟩
theorem run_orig (wx : World) (a : List Int) (ha : IsAddr a) (A B : Option Addr) (k c k' c' : Nat) :
    (Instr.build 142 #[(0, .agg (bv a).toArray), (1, .slice A k c), (2, .slice B k' c')]).run Sakg.prog wx = .ok (.agg (bv a ++ [Value.slice A k c, .slice B k' c']).toArray) wx := by
  obtain ⟨i0, hi0, hz0, hz1, hz2⟩ := info_parts infoOrig
  refine run_build_struct wx 142 _ placesOrig i0 _ hi0 hz0 (bv (zeros 20) ++ [nilS, nilS]) rfl _ _ ?_
  have hl20 : (bv (zeros 20)).length = 20 := by rw [bv_len, zeros_len]
  have hla : (bv a).length = 20 := by rw [bv_len, ha.len]
  rw [fill_cons _ _ 0 (.agg (bv a).toArray) _ 0 20 rfl (bv a) rfl hla (by simp [hl20])]
  have s0 := spl_mid [] (bv (zeros 20)) [nilS, nilS] (bv a) (by rw [hl20, hla])
  rw [List.nil_append, List.nil_append, List.length_nil] at s0
  rw [s0]
  rw [fill_cons _ _ 1 (.slice A k c) _ 20 1 rfl [.slice A k c] rfl rfl (by simp [hla])]
  have s1 := spl_mid (bv a) [nilS] [nilS] [Value.slice A k c] rfl
  rw [hla] at s1
  rw [show bv a ++ [nilS, nilS] = bv a ++ ([nilS] ++ [nilS]) from rfl, s1]
  rw [fill_cons _ _ 2 (.slice B k' c') _ 21 1 rfl [.slice B k' c'] rfl rfl (by simp [hla])]
  have s2 := spl_mid (bv a ++ [Value.slice A k c]) [nilS] [] [Value.slice B k' c'] rfl
  rw [show (bv a ++ [Value.slice A k c]).length = 21 from by simp [hla], List.append_assoc] at s2
  rw [List.append_nil] at s2
  rw [s2, Instr.fill]
  simp
theorem orig_one (a : List Int) (A B : Option Addr) (k c k' c' : Nat) : ∀ v ∈ bv a ++ [Value.slice A k c, .slice B k' c'], v.oneCell' = true := by
  intro u hu
  rcases List.mem_append.1 hu with h | h
  · exact bv_one _ u h
  · simp at h
    rcases h with rfl | rfl <;> rfl

end Go.Proofs.Ygcsak
