/-
  yp: accounts in memory; (*World).account, (*Acct).empty.
-/
import Derived.Test.YgcsakGreatYpB
namespace Go.Proofs.YgcsakGreat
set_option linter.unusedVariables false
set_option linter.unusedSimpArgs false
set_option maxRecDepth 100000
open Go.RowKit

/-- the nil slice -/
abbrev nilS : Value := .slice none 0 0

/-- an account, plainly -/
structure YAcct where
  addr : List Int
  nonce : Nat
  bal : Nat
  code : List Int
  slots : List (Nat × Nat)

/-- a slot's two numbers, in two cells -/
def SlotRow (w : World) (r : List Value) (s : Nat × Nat) : Prop := ∃ A k c A' k' c', r = [.slice A k c, .slice A' k' c'] ∧ IsNat w A k c s.1 ∧ IsNat w A' k' c' s.2
theorem SlotRow.kept {w w' : World} {r : List Value} {s : Nat × Nat} (h : SlotRow w r s) (hb : Below w.heap.size w w') : SlotRow w' r s := by
  obtain ⟨A, k, c, A', k', c', h1, h2, h3⟩ := h
  exact ⟨A, k, c, A', k', c', h1, h2.kept hb, h3.kept hb⟩

/-- rows and what they stand for, one by one -/
def Each {α : Type} (R : List Value → α → Prop) : List (List Value) → List α → Prop
  | [], [] => True
  | r :: rs, d :: ds => R r d ∧ Each R rs ds
  | _, _ => False
theorem Each.imp {α : Type} {R S : List Value → α → Prop} (h : ∀ r d, R r d → S r d) : ∀ {rs : List (List Value)} {ds : List α}, Each R rs ds → Each S rs ds
  | [], [], _ => trivial
  | r :: rs, d :: ds, he => ⟨h r d he.1, Each.imp h he.2⟩
  | [], _ :: _, he => he.elim
  | _ :: _, [], he => he.elim
theorem Each.len {α : Type} {R : List Value → α → Prop} : ∀ {rs : List (List Value)} {ds : List α}, Each R rs ds → rs.length = ds.length
  | [], [], _ => rfl
  | r :: rs, d :: ds, he => by simp [Each.len he.2]
  | [], _ :: _, he => he.elim
  | _ :: _, [], he => he.elim
theorem Each.get {α : Type} {R : List Value → α → Prop} (d0 : α) : ∀ {rs : List (List Value)} {ds : List α}, Each R rs ds → ∀ i, i < ds.length → R (rs.getD i []) (ds.getD i d0)
  | [], [], _, i, h => by simp at h
  | r :: rs, d :: ds, he, 0, _ => he.1
  | r :: rs, d :: ds, he, i + 1, h => by
    have := Each.get d0 he.2 i (by simpa using h)
    simpa using this
  | [], _ :: _, he, _, _ => he.elim
  | _ :: _, [], he, _, _ => he.elim
theorem Each.snoc {α : Type} {R : List Value → α → Prop} : ∀ {rs : List (List Value)} {ds : List α} {r : List Value} {d : α}, Each R rs ds → R r d → Each R (rs ++ [r]) (ds ++ [d])
  | [], [], _, _, _, h => ⟨h, trivial⟩
  | r :: rs, d :: ds, _, _, he, h => ⟨he.1, Each.snoc he.2 h⟩
  | [], _ :: _, _, _, he, _ => he.elim
  | _ :: _, [], _, _, he, _ => he.elim

def SlotsR (w : World) (ao : Option Addr) (l c : Nat) (ss : List (Nat × Nat)) : Prop := ∃ rows, Rws w 2 ao l c rows ∧ Each (SlotRow w) rows ss
theorem SlotsR.kept {w w' : World} {ao : Option Addr} {l c : Nat} {ss : List (Nat × Nat)} (h : SlotsR w ao l c ss) (hb : Below w.heap.size w w') : SlotsR w' ao l c ss := by
  obtain ⟨rows, h1, h2⟩ := h
  exact ⟨rows, h1.kept hb, h2.imp fun _ _ h => h.kept hb⟩
theorem SlotsR.nil (w : World) : SlotsR w none 0 0 [] := ⟨[], Rws.ofNil w 2, trivial⟩

/-- an account's 24 cells -/
def AcctRow (w : World) (r : List Value) (d : YAcct) : Prop := ∃ A1 k1 c1 A2 k2 c2 A3 k3 c3 A4 k4 c4, r = bv d.addr ++ [.slice A1 k1 c1, .slice A2 k2 c2, .slice A3 k3 c3, .slice A4 k4 c4] ∧
  IsAddr d.addr ∧ IsNat w A1 k1 c1 d.nonce ∧ IsNat w A2 k2 c2 d.bal ∧ Src w A3 k3 c3 d.code ∧ SlotsR w A4 k4 c4 d.slots
theorem AcctRow.kept {w w' : World} {r : List Value} {d : YAcct} (h : AcctRow w r d) (hb : Below w.heap.size w w') : AcctRow w' r d := by
  obtain ⟨A1, k1, c1, A2, k2, c2, A3, k3, c3, A4, k4, c4, h1, h2, h3, h4, h5, h6⟩ := h
  exact ⟨A1, k1, c1, A2, k2, c2, A3, k3, c3, A4, k4, c4, h1, h2, h3.kept hb, h4.kept hb, h5.kept hb, h6.kept hb⟩
theorem AcctRow.len {w : World} {r : List Value} {d : YAcct} (h : AcctRow w r d) : r.length = 24 := by
  obtain ⟨A1, k1, c1, A2, k2, c2, A3, k3, c3, A4, k4, c4, rfl, h2, _⟩ := h
  simp [bv_len, h2.len]
theorem AcctRow.one {w : World} {r : List Value} {d : YAcct} (h : AcctRow w r d) : ∀ v ∈ r, v.oneCell' = true := by
  obtain ⟨A1, k1, c1, A2, k2, c2, A3, k3, c3, A4, k4, c4, rfl, h2, _⟩ := h
  intro v hv
  rcases List.mem_append.1 hv with h | h
  · exact bv_one _ v h
  · simp at h
    rcases h with rfl | rfl | rfl | rfl <;> rfl
theorem AcctRow.addr {w : World} {r : List Value} {d : YAcct} (h : AcctRow w r d) : IsAddr d.addr := by
  obtain ⟨A1, k1, c1, A2, k2, c2, A3, k3, c3, A4, k4, c4, _, h2, _⟩ := h
  exact h2
theorem AcctRow.pre {w : World} {r : List Value} {d : YAcct} (h : AcctRow w r d) : (r.drop 0).take 20 = bv d.addr := by
  obtain ⟨A1, k1, c1, A2, k2, c2, A3, k3, c3, A4, k4, c4, rfl, h2, _⟩ := h
  rw [List.drop_zero, List.take_append_of_le_length (by rw [bv_len, h2.len]; omega), List.take_of_length_le (by rw [bv_len, h2.len]; omega)]

def zeroAcct (a : List Int) : YAcct := ⟨a, 0, 0, [], []⟩
/-- the account of an address; an empty one if it is not listed -/
def lookY : List YAcct → List Int → YAcct
  | [], a => zeroAcct a
  | d :: ds, a => if d.addr = a then d else lookY ds a

theorem sizeAcct : (Sakg.prog.info? 113).map (·.size) = some 24 := by kernel_rfl
def AcctsR (w : World) (ao : Option Addr) (l c : Nat) (ds : List YAcct) : Prop := ∃ rows, Rws w 24 ao l c rows ∧ Each (AcctRow w) rows ds
theorem AcctsR.kept {w w' : World} {ao : Option Addr} {l c : Nat} {ds : List YAcct} (h : AcctsR w ao l c ds) (hb : Below w.heap.size w w') : AcctsR w' ao l c ds := by
  obtain ⟨rows, h1, h2⟩ := h
  exact ⟨rows, h1.kept hb, h2.imp fun _ _ h => h.kept hb⟩
theorem AcctsR.nil (w : World) : AcctsR w none 0 0 [] := ⟨[], Rws.ofNil w 24, trivial⟩
theorem AcctsR.len {w : World} {ao : Option Addr} {l c : Nat} {ds : List YAcct} (h : AcctsR w ao l c ds) : ds.length = l := by
  obtain ⟨rows, h1, h2⟩ := h
  rw [← h2.len, h1.len_eq]

theorem AcctsR.at {w : World} {ao : Option Addr} {l c : Nat} {ds : List YAcct} (h : AcctsR w ao l c ds) (hl : 0 < l) : ∃ b off, ao = some ⟨b, off, none⟩ ∧ b < w.heap.size ∧ ∀ i, i < l → ∃ r, w.rangeAt b (off + i * 24) r ∧ AcctRow w r (ds.getD i (zeroAcct [])) := by
  have hln := h.len
  obtain ⟨rows, h1, h2⟩ := h
  obtain ⟨b, off, ha, hlt, hc⟩ := h1.at_ hl
  exact ⟨b, off, ha, hlt, fun i hi => ⟨_, hc i hi, h2.get _ i (by omega)⟩⟩

theorem lookY_take (ds : List YAcct) (a : List Int) (i : Nat) (h : i < ds.length) (hno : ∀ d ∈ ds.take i, d.addr ≠ a) (hd : (ds.getD i (zeroAcct [])).addr = a) : lookY ds a = ds.getD i (zeroAcct []) := by
  induction ds generalizing i with
  | nil => simp at h
  | cons d ds ih =>
    cases i with
    | zero =>
      have hd' : d.addr = a := hd
      rw [lookY, if_pos hd']
      rfl
    | succ i =>
      have hne : d.addr ≠ a := hno d (by simp)
      rw [lookY, if_neg hne, ih i (by simpa using h) (fun x hx => hno x (by simp [hx])) (by simpa using hd)]
      simp
theorem lookY_none (ds : List YAcct) (a : List Int) (hno : ∀ d ∈ ds, d.addr ≠ a) : lookY ds a = zeroAcct a := by
  induction ds with
  | nil => rfl
  | cons d ds ih => rw [lookY, if_neg (hno d (by simp)), ih (fun x hx => hno x (by simp [hx]))]

theorem infoAcct : (Sakg.prog.info? 113).map (fun i => (i.zero, i.size, i.bytes)) = some (some (.agg (bv (zeros 20) ++ [nilS, nilS, nilS, nilS]).toArray), 24, 120) := by kernel_rfl
theorem placesAcct : PlacesOf 113 #[(0, 20), (20, 1), (21, 1), (22, 1), (23, 1)] := ⟨by kernel_rfl, fun w => by kernel_rfl⟩

theorem zeroAcct_row (w : World) (a : List Int) (ha : IsAddr a) : AcctRow w (bv a ++ [nilS, nilS, nilS, nilS]) (zeroAcct a) :=
  ⟨none, 0, 0, none, 0, 0, none, 0, 0, none, 0, 0, rfl, ha, IsNat.nil w, IsNat.nil w, Src.ofNil w, SlotsR.nil w⟩

theorem build_addr (a : List Int) (ha : IsAddr a) : Instr.fill ((#[(0, 20), (20, 1), (21, 1), (22, 1), (23, 1)] : Array (Nat × Nat))[·]?) (bv (zeros 20) ++ [nilS, nilS, nilS, nilS]).toArray [(0, .agg (bv a).toArray)] = some (bv a ++ [nilS, nilS, nilS, nilS]).toArray := by
  rw [fill_cons _ _ 0 (.agg (bv a).toArray) [] 0 20 rfl (bv a) rfl (by rw [bv_len]; exact ha.len) (by simp [bv_len, zeros_len]), Instr.fill]
  congr 2
  unfold spl
  rw [bv_len, ha.len, List.take_zero, List.nil_append, Nat.zero_add, List.drop_append_of_le_length (by simp [bv_len, zeros_len]), List.drop_of_length_le (by simp [bv_len, zeros_len])]
  rfl

/-- what the walks want of a predicate on an account's cells -/
structure ARow (R : List Value → YAcct → Prop) : Prop where
  len : ∀ {r d}, R r d → r.length = 24
  one : ∀ {r d}, R r d → ∀ v ∈ r, v.oneCell' = true
  addr : ∀ {r d}, R r d → IsAddr d.addr
  pre : ∀ {r d}, R r d → (r.drop 0).take 20 = bv d.addr
  zero : ∀ {a}, IsAddr a → R (bv a ++ [nilS, nilS, nilS, nilS]) (zeroAcct a)
theorem arow (w : World) : ARow (AcctRow w) := ⟨AcctRow.len, AcctRow.one, AcctRow.addr, AcctRow.pre, fun h => zeroAcct_row w _ h⟩

theorem rows_at {R : List Value → YAcct → Prop} {w : World} {ao : Option Addr} {l c : Nat} {rows : List (List Value)} {ds : List YAcct} (h1 : Rws w 24 ao l c rows) (h2 : Each R rows ds) (hl : 0 < l) : ∃ b off, ao = some ⟨b, off, none⟩ ∧ b < w.heap.size ∧ ∀ i, i < l → ∃ r, w.rangeAt b (off + i * 24) r ∧ R r (ds.getD i (zeroAcct [])) ∧ rows.getD i [] = r := by
  have hln := h2.len
  have := h1.len_eq
  obtain ⟨b, off, ha, hlt, hc⟩ := h1.at_ hl
  exact ⟨b, off, ha, hlt, fun i hi => ⟨_, hc i hi, h2.get _ i (by omega), rfl⟩⟩

set_option maxHeartbeats 4000000 in
theorem account_any (R : List Value → YAcct → Prop) (hR : ARow R) (bw ow : Nat) (ao : Option Addr) (l c : Nat) (rows : List (List Value)) (ds : List YAcct) (a : List Int) (w : World) (hcell : w.cell? ⟨bw, ow, none⟩ = some (.slice ao l c)) (h1 : Rws w 24 ao l c rows) (h2 : Each R rows ds) (ha : IsAddr a) (hl : l ≤ 1000000) :
    Calls Sakg.prog 99 #[.pointer (some ⟨bw, ow, none⟩), .agg (bv a).toArray] w fun e w' => ∃ r, e = .returned (.agg r.toArray) ∧ R r (lookY ds a) ∧ Below w.heap.size w w' := by
  obtain ⟨i0, hi0, hz0, hz1, hz2⟩ := info_parts infoAcct
  have HI0 := hide hi0
  have HZ0 := hide hz0
  have H := hide (rows_at h1 h2)
  have hln := h2.len
  have hln2 := h1.len_eq
  have HL : Hid (ds.length = l) := hide (by omega)
  have HA := hide ha
  have hg63 := guardAddr
  have hbw : bw < w.heap.size := World.block_lt_of_cell? w _ hcell
  clear h1 h2 hln hln2 ha hi0 hz0 hz1 hz2
  go_enter Sakg.func99, Sakg.ntmps99
  go_wp2_with fail
  have hb1 : Below w.heap.size w ((w.alloc (.cells (bv a).toArray 26)).alloc (.cells (bv (zeros 20) ++ [nilS, nilS, nilS, nilS]).toArray 113)) := ((Below.refl _ _).alloc (Nat.le_refl _) _).alloc (by simp) _
  have hr1 : RowT 26 ((w.alloc (.cells (bv a).toArray 26)).alloc (.cells (bv (zeros 20) ++ [nilS, nilS, nilS, nilS]).toArray 113)) w.heap.size (bv a) := (RowT.new _ _ _).alloc _
  have hr2 : RowT 113 ((w.alloc (.cells (bv a).toArray 26)).alloc (.cells (bv (zeros 20) ++ [nilS, nilS, nilS, nilS]).toArray 113)) (w.heap.size + 1) (bv (zeros 20) ++ [nilS, nilS, nilS, nilS]) := by
    have := RowT.new 113 (w.alloc (.cells (bv a).toArray 26)) (bv (zeros 20) ++ [nilS, nilS, nilS, nilS])
    rw [World.size_alloc] at this
    exact this
  go_loopw [12] (fun ct wr => ∃ (i : Nat) (zs : List Value), i ≤ l ∧ ct = .int .i64 i ∧ (∀ d ∈ ds.take i, d.addr ≠ a) ∧ RowT 26 wr w.heap.size (bv a) ∧ RowT 113 wr (w.heap.size + 1) zs ∧ zs.length = 24 ∧ Below w.heap.size w wr) (fun ct _ => l - (intOf ct).toNat)
  case atStart => exact ⟨0, _, by omega, rfl, (fun x hx => by simp at hx), hr1, hr2, by simp [bv_len, zeros_len], hb1⟩
  case round =>
    obtain ⟨i, zs, hi, rfl, hno, hra, hrz, hzl, hbe⟩ := hrel
    have HNO := hide hno
    have HRA := hide hra
    have HRZ := hide hrz
    have HZL := hide hzl
    have hs0 : w.heap.size + 1 < wr.heap.size := hrz.lt
    clear hno hra hrz hzl hr1 hr2 hb1
    by_cases hil : i < l
    · obtain ⟨b, off, rfl, hlt, hat⟩ := unhide H (by omega)
      obtain ⟨r, hrg, hrow, _⟩ := hat i hil
      have hlk := lookY_take ds a i (by have := unhide HL; omega) (unhide HNO)
      have hts : ds.take (i + 1) = ds.take i ++ [ds.getD i (zeroAcct [])] := by
        rw [List.take_succ_eq_append_getElem (by have := unhide HL; omega)]
        simp [List.getD, show i < ds.length by have := unhide HL; omega]
      obtain ⟨d, hd⟩ : ∃ d, d = ds.getD i (zeroAcct []) := ⟨_, rfl⟩
      rw [← hd] at hrow hlk hts
      have hrl := hR.len hrow
      have hrg2 := range_below hrg hbe (fun _ => hlt)
      have heq := fun wx => addr_eq wx d.addr a (hR.addr hrow) (unhide HA)
      have HRG := hide hrg2
      have HROW := hide hrow
      have HLK := hide hlk
      have HTS := hide hts
      have hsz : (Sakg.prog.info? 113).map (·.size) = some r.length := by rw [hrl]; exact sizeAcct
      have HSZ := hide hsz
      have HRL := hide hrl
      clear hat hrg hrg2 hrow hlk hts hd hsz hrl
      by_cases hda : d.addr = a
      · have hde : decide (d.addr = a) = true := decide_eq_true hda
        rw [hde] at heq
        have HDA := hide hda
        clear hda hde
        go_wp2_with (first
          | ((with_reducible refine at_load 113 ?_); refine wpList_load_g rfl 113 (.tmp 14) rfl b _ rfl r _ (unhide HRG) Sakg.underlying113 rfl (unhide HSZ) ?_)
          | ((with_reducible refine at_store 113 ?_); refine wpList_store_whole rfl 113 (.tmp 6) (.tmp 15) rfl _ _ _ r rfl rfl (RowT.new _ _ _) (by rw [unhide HRL]; rfl) (unhide HSZ) (hR.one (unhide HROW)) ?_; intro w2 hr2 hon2; have hbb := box_below hon2; have hra2 := (unhide HRA).kept hbb.1; have hrz2 := (unhide HRZ).kept hbb.1; clear hon2)
          | ((with_reducible refine at_load 26 ?_); refine wpList_load_g rfl 26 (.tmp 16) rfl _ 0 rfl (bv d.addr) _ (by have := hr2.range 0 20; rwa [hR.pre (unhide HROW)] at this) Sakg.underlying26 rfl (hR.addr (unhide HROW)).size ?_)
          | ((with_reducible refine at_load 26 ?_); refine wpList_load_g rfl 26 (.tmp 3) rfl _ 0 rfl (bv a) _ hra2.rangeAll Sakg.underlying26 rfl (unhide HA).size ?_)
          | ((with_reducible refine at_load 113 ?_); refine wpList_load_g rfl 113 (.tmp 6) rfl _ 0 rfl r _ hr2.rangeAll Sakg.underlying113 rfl (unhide HSZ) ?_)
          | ((with_reducible refine at_store 113 ?_); refine wpList_store_whole rfl 113 (.tmp 4) (.tmp 20) rfl _ _ _ r rfl rfl hrz2 (by rw [unhide HRL, unhide HZL]) (unhide HSZ) (hR.one (unhide HROW)) ?_; intro w3 hr3 hon3))
        have hb3 : Below w.heap.size w w3 := (hbe.trans (hbb.1.mono (by omega))).trans (hon3.below _ (by omega))
        refine bodyPost_ret (results_cell_row rfl _ _ _ _ _ _ _ rfl hr3 Sakg.underlying113 rfl (by simpa using unhide HSZ)) rfl ?_
        refine ⟨r, rfl, ?_, hb3⟩
        rw [unhide HLK (unhide HDA)]
        exact unhide HROW
      · have hde : decide (d.addr = a) = false := decide_eq_false hda
        rw [hde] at heq
        have HDA := hide hda
        clear hda hde
        go_wp2_with (first
          | ((with_reducible refine at_load 113 ?_); refine wpList_load_g rfl 113 (.tmp 14) rfl b _ rfl r _ (unhide HRG) Sakg.underlying113 rfl (unhide HSZ) ?_)
          | ((with_reducible refine at_store 113 ?_); refine wpList_store_whole rfl 113 (.tmp 6) (.tmp 15) rfl _ _ _ r rfl rfl (RowT.new _ _ _) (by rw [unhide HRL]; rfl) (unhide HSZ) (hR.one (unhide HROW)) ?_; intro w2 hr2 hon2; have hbb := box_below hon2; have hra2 := (unhide HRA).kept hbb.1; have hrz2 := (unhide HRZ).kept hbb.1; clear hon2)
          | ((with_reducible refine at_load 26 ?_); refine wpList_load_g rfl 26 (.tmp 16) rfl _ 0 rfl (bv d.addr) _ (by have := hr2.range 0 20; rwa [hR.pre (unhide HROW)] at this) Sakg.underlying26 rfl (hR.addr (unhide HROW)).size ?_)
          | ((with_reducible refine at_load 26 ?_); refine wpList_load_g rfl 26 (.tmp 3) rfl _ 0 rfl (bv a) _ hra2.rangeAll Sakg.underlying26 rfl (unhide HA).size ?_))
        have hb2 : Below w.heap.size w w2 := hbe.trans (hbb.1.mono (by omega))
        go_roundw
        case rel =>
          refine ⟨i + 1, zs, by omega, by go_num, ?_, hra2, hrz2, unhide HZL, hb2⟩
          rw [unhide HTS]
          intro y hy
          rcases List.mem_append.1 hy with h | h
          · exact unhide HNO y h
          · simp at h; subst h; exact unhide HDA
        case measure => simp [intOf]; omega
    · obtain rfl : i = l := by omega
      have hlk : lookY ds a = zeroAcct a := by
        have h1 := unhide HNO
        rw [List.take_of_length_le (by have := unhide HL; omega)] at h1
        exact lookY_none ds a h1
      have HLK := hide hlk
      clear hlk
      go_wp2_with (first
        | ((with_reducible refine at_load 26 ?_); refine wpList_load_g rfl 26 (.tmp 3) rfl _ 0 rfl (bv a) _ (unhide HRA).rangeAll Sakg.underlying26 rfl (unhide HA).size ?_)
        | ((with_reducible refine at_build 113 ?_); refine wpList_build_struct rfl 113 _ rfl _ placesAcct i0 _ (unhide HI0) (unhide HZ0) (bv (zeros 20) ++ [nilS, nilS, nilS, nilS]) rfl (bv a ++ [nilS, nilS, nilS, nilS]) (build_addr a (unhide HA)) ?_)
        | ((with_reducible refine at_store 113 ?_); refine wpList_store_whole rfl 113 (.tmp 4) (.tmp 23) rfl _ _ _ (bv a ++ [nilS, nilS, nilS, nilS]) rfl rfl (unhide HRZ) (by simp [bv_len, (unhide HA).len, unhide HZL]) (by simp only [List.length_append, bv_len, (unhide HA).len]; exact sizeAcct) (zeroAcct_row w a (unhide HA)).one ?_; intro w3 hr3 hon3))
      have hb3 : Below w.heap.size w w3 := hbe.trans (hon3.below _ (by omega))
      refine bodyPost_ret (results_cell_row rfl _ _ _ _ _ _ _ rfl hr3 Sakg.underlying113 rfl (by simp only [List.size_toArray, List.length_append, bv_len, (unhide HA).len]; exact sizeAcct)) rfl ?_
      refine ⟨_, rfl, ?_, hb3⟩
      rw [unhide HLK]
      exact hR.zero (unhide HA)

end Go.Proofs.YgcsakGreat
