/-
  yp: setBalance, setNonce, warm, move.
-/
import Derived.Test.YgcsakGreatYpE
import Derived.Deep.RegionWith
namespace Go.Proofs.YgcsakGreat
set_option linter.unusedVariables false
set_option linter.unusedSimpArgs false
set_option maxRecDepth 100000
open Go.RowKit

/-- the numbers of an account are not too great -/
def Bnd (ds : List YAcct) : Prop := ∀ d ∈ ds, d.nonce < BIG ∧ d.bal < BIG
theorem lookY_mem (ds : List YAcct) (a : List Int) : lookY ds a ∈ ds ∨ lookY ds a = zeroAcct a := by
  induction ds with
  | nil => exact .inr rfl
  | cons d ds ih =>
    rw [lookY]
    split
    · exact .inl (by simp)
    · rcases ih with h | h
      · exact .inl (by simp [h])
      · exact .inr h
theorem big_pos : 0 < BIG := Nat.pow_pos (by omega)
theorem Bnd.look {ds : List YAcct} (h : Bnd ds) (a : List Int) : (lookY ds a).nonce < BIG ∧ (lookY ds a).bal < BIG := by
  rcases lookY_mem ds a with hm | hm
  · exact h _ hm
  · rw [hm]; exact ⟨big_pos, big_pos⟩
theorem putL_mem (d : YAcct) : ∀ (ds : List YAcct) (laid : Bool) (x : YAcct), x ∈ putL d laid ds → x = d ∨ x ∈ ds
  | [], laid, x, h => by
    unfold putL at h
    split at h
    · simp at h
    · simp at h; exact .inl h
  | y :: ds, laid, x, h => by
    rw [putL] at h
    rcases List.mem_append.1 h with h | h
    · rcases List.mem_append.1 h with h | h
      · split at h
        · simp at h; exact .inl h
        · simp at h
      · split at h
        · simp at h
        · simp at h; subst h; exact .inr (by simp)
    · rcases putL_mem d ds _ x h with h | h
      · exact .inl h
      · exact .inr (by simp [h])
theorem putY_mem (ds : List YAcct) (d x : YAcct) (h : x ∈ putY ds d) : x = d ∨ x ∈ ds := putL_mem d ds _ x h
theorem Bnd.put {ds : List YAcct} (h : Bnd ds) {d : YAcct} (h1 : d.nonce < BIG) (h2 : d.bal < BIG) : Bnd (putY ds d) := by
  intro x hx
  rcases putY_mem ds d x hx with rfl | hm
  · exact ⟨h1, h2⟩
  · exact h x hm

/-- the accounts have turned -/
def AcctsPost (T : TypeId) (bw : Nat) (cs : List Value) (l : Nat) (ds : List YAcct) (w w' : World) : Prop :=
  ∃ A n c', RowT T w' bw (cs.set 0 (.slice A n c')) ∧ SAccts bw w' A n c' ds ∧ n ≤ l + 1 ∧ Chg bw w w'

theorem SAccts.put {T : TypeId} {bw : Nat} {cs : List Value} {w : World} {ao : Option Addr} {l c : Nat} {ds : List YAcct} (h : SAccts bw w ao l c ds) (hcs : RowT T w bw cs) (h0 : cs[0]? = some (.slice ao l c)) (hl : l ≤ 1000000) (r0 : List Value) (d : YAcct) (hr : SAcct bw w r0 d) (hd1 : d.nonce < BIG) (hd2 : d.bal < BIG) :
    Calls Sakg.prog 192 #[.pointer (some ⟨bw, 0, none⟩), .agg r0.toArray] w fun e w' => e = .returned (.tuple #[]) ∧ AcctsPost T bw cs l (putY ds d) w w' := by
  obtain ⟨rows, h1, h2⟩ := h
  refine (put_any (SAcct bw w) (sarow bw w) T bw cs ao l c rows ds r0 d w hcs h0 h1.now h2 hl hr hr.now hd1 hd2).mono ?_
  rintro e w' ⟨rfl, A, n, c', rows', h3, h4, h5, h6, h7, h8⟩
  exact ⟨rfl, A, n, c', h3, ⟨rows', Stab.rws h4 (h6.off hcs.lt _), h5.imp fun _ _ h => h.go h8⟩, h7, h8⟩

theorem SAcct.bal {g : Nat} {w : World} {r : List Value} {d : YAcct} (h : SAcct g w r d) {A : Option Addr} {k c m : Nat} (hn : Stab g (fun w => IsNat w A k c m) w) : SAcct g w (r.set 21 (.slice A k c)) { d with bal := m } := by
  obtain ⟨A1, k1, c1, A2, k2, c2, A3, k3, c3, A4, k4, c4, rfl, h2, h3, h4, h5, h6⟩ := h
  refine ⟨A1, k1, c1, A, k, c, A3, k3, c3, A4, k4, c4, ?_, h2, h3, hn, h5, h6⟩
  rw [List.set_append_right _ _ (by rw [bv_len, h2.len]; omega), bv_len, h2.len]
  rfl
theorem SAcct.non {g : Nat} {w : World} {r : List Value} {d : YAcct} (h : SAcct g w r d) {A : Option Addr} {k c m : Nat} (hn : Stab g (fun w => IsNat w A k c m) w) : SAcct g w (r.set 20 (.slice A k c)) { d with nonce := m } := by
  obtain ⟨A1, k1, c1, A2, k2, c2, A3, k3, c3, A4, k4, c4, rfl, h2, h3, h4, h5, h6⟩ := h
  refine ⟨A, k, c, A2, k2, c2, A3, k3, c3, A4, k4, c4, ?_, h2, hn, h4, h5, h6⟩
  rw [List.set_append_right _ _ (by rw [bv_len, h2.len]; omega), bv_len, h2.len]
  rfl

set_option maxHeartbeats 4000000 in
theorem setBalance_any (T : TypeId) (bw : Nat) (cs : List Value) (w : World) (ao : Option Addr) (l c : Nat) (ds : List YAcct) (h : SAccts bw w ao l c ds) (hcs : RowT T w bw cs) (h0 : cs[0]? = some (.slice ao l c)) (hl : l ≤ 1000000) (hB : Bnd ds)
    (a : List Int) (ha : IsAddr a) (A : Option Addr) (k c2 m : Nat) (hn : Stab bw (fun w => IsNat w A k c2 m) w) (hm : m < BIG) :
    Calls Sakg.prog 105 #[.pointer (some ⟨bw, 0, none⟩), .agg (bv a).toArray, .slice A k c2] w fun e w' => e = .returned (.tuple #[]) ∧ AcctsPost T bw cs l (putY ds { lookY ds a with bal := m }) w w' := by
  have hb1 : Below w.heap.size w (w.alloc (.cells (bv a).toArray 26)) := (Below.refl _ _).alloc (Nat.le_refl _) _
  have hr1 : RowT 26 (w.alloc (.cells (bv a).toArray 26)) w.heap.size (bv a) := RowT.new _ _ _
  have hbw := hcs.lt
  have HA := hide ha
  have hcs1 := hcs.kept hb1
  have HAC := hide ((h.go (Chg.of hb1)).account (bw := bw) (ow := 0) (by rw [hcs1.cell]; exact h0) a ha hl)
  have HCS := hide hcs
  have H := hide h
  have HN := hide hn
  clear h ha hcs hcs1 hn
  go_enter Sakg.func105, Sakg.ntmps105
  go_wp2_with (first
    | ((with_reducible refine at_load 26 ?_); refine wpList_load_g rfl 26 (.tmp 4) rfl _ 0 rfl (bv a) _ hr1.rangeAll Sakg.underlying26 rfl (unhide HA).size ?_)
    | (go_at_call 99; refine (unhide HAC).mono ?_; rintro e w2 ⟨r, rfl, hrow, hb2⟩; have HROW := hide hrow; have hrl := hrow.now.len; clear hrow; have HSZR : Hid ((Sakg.prog.info? 113).map (·.size) = some r.length) := hide (by rw [hrl]; exact sizeAcct); have HRL := hide hrl; clear hrl)
    | ((with_reducible refine at_store 113 ?_); refine wpList_store_whole rfl 113 (.tmp 6) (.tmp 9) rfl _ _ _ r rfl rfl (RowT.new _ _ _) (by rw [unhide HRL]; rfl) (unhide HSZR) (unhide HROW).now.one ?_; intro w3 hx3 hon3; have hbb3 := box_below hon3; clear hon3; have hc21 : ∃ v, w3.cell? ⟨w2.heap.size, 21, none⟩ = some v := by { rw [hx3.cell, List.getElem?_eq_getElem (by rw [unhide HRL]; omega)]; exact ⟨_, rfl⟩ }; obtain ⟨v21, hc21⟩ := hc21; have hf21 := hx3.froz 21)
    | ((with_reducible refine at_load 113 ?_); refine wpList_load_g rfl 113 (.tmp 6) rfl _ 0 rfl (r.set 21 (.slice A k c2)) _ (hx3.set 21 _).rangeAll Sakg.underlying113 rfl (by rw [List.length_set]; exact unhide HSZR) ?_)
    | (go_at_call 192; obtain ⟨w4, hw4, hc4, hb4⟩ : ∃ w4, w4 = w3.setCell ⟨w2.heap.size, 21, none⟩ (.slice A k c2) ∧ Chg bw w2 w4 ∧ Below w.heap.size w w4 := ⟨_, rfl, Chg.of (hbb3.1.trans (((Only.refl w2.heap.size w3).setCell 21 _).below _ (Nat.le_refl _))), (hb1.trans (hb2.mono (by simp))).trans ((hbb3.1.trans (((Only.refl w2.heap.size w3).setCell 21 _).below _ (Nat.le_refl _))).mono (by have := hb2.size; simp at this; omega))⟩; rw [← hw4]; refine (((unhide H).go (Chg.of hb4)).put ((unhide HCS).below hb4 hbw) h0 hl _ { lookY ds a with bal := m } (((unhide HROW).go hc4).bal ((unhide HN).go (Chg.of hb4))) (hB.look a).1 hm).mono ?_; rintro e w5 ⟨rfl, hp5⟩))
  refine bodyPost_done rfl rfl ⟨rfl, ?_⟩
  obtain ⟨A5, n5, c5, q1, q2, q3, q4⟩ := hp5
  exact ⟨A5, n5, c5, q1, q2, q3, (Chg.of hb4).trans q4⟩

set_option maxHeartbeats 4000000 in
theorem setNonce_any (T : TypeId) (bw : Nat) (cs : List Value) (w : World) (ao : Option Addr) (l c : Nat) (ds : List YAcct) (h : SAccts bw w ao l c ds) (hcs : RowT T w bw cs) (h0 : cs[0]? = some (.slice ao l c)) (hl : l ≤ 1000000) (hB : Bnd ds)
    (a : List Int) (ha : IsAddr a) (A : Option Addr) (k c2 m : Nat) (hn : Stab bw (fun w => IsNat w A k c2 m) w) (hm : m < BIG) :
    Calls Sakg.prog 104 #[.pointer (some ⟨bw, 0, none⟩), .agg (bv a).toArray, .slice A k c2] w fun e w' => e = .returned (.tuple #[]) ∧ AcctsPost T bw cs l (putY ds { lookY ds a with nonce := m }) w w' := by
  have hb1 : Below w.heap.size w (w.alloc (.cells (bv a).toArray 26)) := (Below.refl _ _).alloc (Nat.le_refl _) _
  have hr1 : RowT 26 (w.alloc (.cells (bv a).toArray 26)) w.heap.size (bv a) := RowT.new _ _ _
  have hbw := hcs.lt
  have HA := hide ha
  have hcs1 := hcs.kept hb1
  have HAC := hide ((h.go (Chg.of hb1)).account (bw := bw) (ow := 0) (by rw [hcs1.cell]; exact h0) a ha hl)
  have HCS := hide hcs
  have H := hide h
  have HN := hide hn
  clear h ha hcs hcs1 hn
  go_enter Sakg.func104, Sakg.ntmps104
  go_wp2_with (first
    | ((with_reducible refine at_load 26 ?_); refine wpList_load_g rfl 26 (.tmp 4) rfl _ 0 rfl (bv a) _ hr1.rangeAll Sakg.underlying26 rfl (unhide HA).size ?_)
    | (go_at_call 99; refine (unhide HAC).mono ?_; rintro e w2 ⟨r, rfl, hrow, hb2⟩; have HROW := hide hrow; have hrl := hrow.now.len; clear hrow; have HSZR : Hid ((Sakg.prog.info? 113).map (·.size) = some r.length) := hide (by rw [hrl]; exact sizeAcct); have HRL := hide hrl; clear hrl)
    | ((with_reducible refine at_store 113 ?_); refine wpList_store_whole rfl 113 (.tmp 6) (.tmp 9) rfl _ _ _ r rfl rfl (RowT.new _ _ _) (by rw [unhide HRL]; rfl) (unhide HSZR) (unhide HROW).now.one ?_; intro w3 hx3 hon3; have hbb3 := box_below hon3; clear hon3; have hc20 : ∃ v, w3.cell? ⟨w2.heap.size, 20, none⟩ = some v := by { rw [hx3.cell, List.getElem?_eq_getElem (by rw [unhide HRL]; omega)]; exact ⟨_, rfl⟩ }; obtain ⟨v20, hc20⟩ := hc20; have hf20 := hx3.froz 20)
    | ((with_reducible refine at_load 113 ?_); refine wpList_load_g rfl 113 (.tmp 6) rfl _ 0 rfl (r.set 20 (.slice A k c2)) _ (hx3.set 20 _).rangeAll Sakg.underlying113 rfl (by rw [List.length_set]; exact unhide HSZR) ?_)
    | (go_at_call 192; obtain ⟨w4, hw4, hc4, hb4⟩ : ∃ w4, w4 = w3.setCell ⟨w2.heap.size, 20, none⟩ (.slice A k c2) ∧ Chg bw w2 w4 ∧ Below w.heap.size w w4 := ⟨_, rfl, Chg.of (hbb3.1.trans (((Only.refl w2.heap.size w3).setCell 20 _).below _ (Nat.le_refl _))), (hb1.trans (hb2.mono (by simp))).trans ((hbb3.1.trans (((Only.refl w2.heap.size w3).setCell 20 _).below _ (Nat.le_refl _))).mono (by have := hb2.size; simp at this; omega))⟩; rw [← hw4]; refine (((unhide H).go (Chg.of hb4)).put ((unhide HCS).below hb4 hbw) h0 hl _ { lookY ds a with nonce := m } (((unhide HROW).go hc4).non ((unhide HN).go (Chg.of hb4))) hm (hB.look a).2).mono ?_; rintro e w5 ⟨rfl, hp5⟩))
  refine bodyPost_done rfl rfl ⟨rfl, ?_⟩
  obtain ⟨A5, n5, c5, q1, q2, q3, q4⟩ := hp5
  exact ⟨A5, n5, c5, q1, q2, q3, (Chg.of hb4).trans q4⟩

/-- an operation that a region's walk is not to take first -/
def shade (o : Oper) : Oper := o
theorem shade_of (d : Tmp) {op : Op} {ty : TypeId} {p : String} {af : Array Edge} {g : Option (Nat × Bool)} : (⟨some d, op, ty, p, af, g⟩ : Oper) = shade ⟨some d, op, ty, p, af, g⟩ := rfl
@[go_sem] theorem shade_eq (o : Oper) : shade o = o := rfl

/-- addresses that last -/
def SAddrs (g : Nat) (w : World) (ao : Option Addr) (l c : Nat) (als : List (List Int)) : Prop := Stab g (fun w => AddrsR w ao l c als) w
theorem SAddrs.of {g : Nat} {w : World} {ao : Option Addr} {l c : Nat} {als : List (List Int)} (h : AddrsR w ao l c als) (ho : Off g ao l) : SAddrs g w ao l c als := fun w' hc => ⟨Stab.rws h.1 ho w' hc, h.2⟩
theorem SAddrs.nil (g : Nat) (w : World) : SAddrs g w none 0 0 [] := SAddrs.of ⟨Rws.ofNil w 20, fun _ h => by simp at h⟩ (Off.nil _ _)
/-- withAddr, where the list lasts -/
theorem SAddrs.with {g : Nat} {w : World} {ao : Option Addr} {l c : Nat} {als : List (List Int)} (h : SAddrs g w ao l c als) (hg : g < w.heap.size) (a : List Int) (ha : IsAddr a) (hl : l ≤ 1000000) :
    Calls Sakg.prog 193 #[.slice ao l c, .agg (bv a).toArray] w fun e w' => ∃ A k c', e = .returned (.slice A k c') ∧ (∃ als', SAddrs g w' A k c' als' ∧ k ≤ l + 1 ∧ (∀ x, x ∈ als' ↔ x = a ∨ x ∈ als)) ∧ Below w.heap.size w w' := by
  refine (withAddr_any ao l c als a w h.now ha hl).mono ?_
  rintro e w' ⟨A, k, c', rfl, ⟨als', h1, h2, h3, h4⟩, h5⟩
  refine ⟨A, k, c', rfl, ⟨als', ?_, h3, h4⟩, h5⟩
  rcases h2 with ⟨rfl, rfl, rfl, rfl⟩ | h2
  · exact Stab.go h (Chg.of h5)
  · exact SAddrs.of h1 (h2.off hg _)

/-- a list of addresses in the state has turned -/
def AddrsPost (T : TypeId) (bw i : Nat) (cs : List Value) (l : Nat) (a : List Int) (als : List (List Int)) (w w' : World) : Prop :=
  ∃ A n c' als', RowT T w' bw (cs.set i (.slice A n c')) ∧ SAddrs bw w' A n c' als' ∧ n ≤ l + 1 ∧ (∀ x, x ∈ als' ↔ x = a ∨ x ∈ als) ∧ Chg bw w w'

set_option maxHeartbeats 8000000 in
theorem warm_any (T : TypeId) (bw : Nat) (cs : List Value) (w : World) (ao : Option Addr) (l c : Nat) (als : List (List Int)) (h : SAddrs bw w ao l c als) (hcs : RowT T w bw cs) (h1 : cs[1]? = some (.slice ao l c)) (hl : l ≤ 1000000)
    (a : List Int) (ha : IsAddr a) :
    Calls Sakg.prog 106 #[.pointer (some ⟨bw, 0, none⟩), .agg (bv a).toArray] w fun e w' => e = .returned (.tuple #[]) ∧ AddrsPost T bw 1 cs l a als w w' := by
  obtain ⟨W, hW⟩ : ∃ W, W = (w.alloc (.cells (bv a).toArray 26)) := ⟨_, rfl⟩
  have hb1 : Below w.heap.size w W := by rw [hW]; exact (Below.refl _ _).alloc (Nat.le_refl _) _
  have hr1 : RowT 26 W w.heap.size (bv a) := by rw [hW]; exact RowT.new _ _ _
  have hbw := hcs.lt
  have hS : ∀ k, (W.drewN k).cell? ⟨bw, 1, none⟩ = some (.slice ao l c) ∧ RowT 26 (W.drewN k) w.heap.size (bv a) ∧ RowT T (W.drewN k) bw cs ∧ Below w.heap.size w (W.drewN k) := by
    intro k
    have hb2 : Below w.heap.size w (W.drewN k) := hb1.trans (Quiet.below ⟨k, rfl⟩ _)
    have hc2 := hcs.below hb2 hbw
    exact ⟨by rw [hc2.cell]; exact h1, hr1.kept (Quiet.below ⟨k, rfl⟩ _), hc2, hb2⟩
  have HA := hide ha
  have H := hide h
  have HS := hide hS
  clear h ha hcs hS hb1 hr1
  go_enter Sakg.func106, Sakg.ntmps106
  go_wp2_with fail
  rw [← hW]
  have HW := hide hW
  clear hW
  have hca : (bv a).length = 20 := by rw [bv_len]; exact (unhide HA).len
  have hone := bv_one a
  have hu63 := Sakg.underlying26
  have hi63 := (unhide HA).size
  have hcl : W.drew.cell? ⟨bw, 1, none⟩ = some (.slice ao l c) := (unhide HS 1).1
  have hrg1 : W.drew.rangeAt w.heap.size 0 (bv a) := (unhide HS 1).2.1.rangeAll
  have hd1 : Below w.heap.size w W.drew := (unhide HS 1).2.2.2
  have hd2 : RowT T W.drew bw cs := (unhide HS 1).2.2.1
  have HC := hide (SAddrs.with (Stab.go (unhide H) (Chg.of hd1)) hd2.lt a (unhide HA) hl)
  have hsW : w.heap.size < W.drew.heap.size := (unhide HS 1).2.1.lt
  have HD2 := hide hd2
  clear hd2
  rw [shade_of 8]
  go_region_held3 (fun w' => w'.rangeAt w.heap.size 0 (bv a)) (assumption)
    (first
      | (go_at_call 193; refine (unhide HC).mono ?_; rintro e w2 ⟨A, k, c', rfl, ⟨als', q1, q2, q3⟩, hb2⟩; have hcs2 := (unhide HD2).kept hb2; have hcc : ∃ v, w2.cell? ⟨bw, 1, none⟩ = some v := by { rw [hcs2.cell]; exact ⟨_, h1⟩ }; obtain ⟨v1, hcc⟩ := hcc; have hf1 := hcs2.froz 1; have hrg2 := range_kept hrg1 hb2; have hrg3 : (w2.setCell ⟨bw, 1, none⟩ (.slice A k c')).rangeAt w.heap.size 0 (bv a) := range_only hrg2 ((Only.refl _ _).setCell 1 _) (fun _ => by omega); have HQ1 := hide q1; have HQ2 := hide q2; have HQ3 := hide q3; clear q1 q2 q3))
  go_wp2
  refine bodyPost_done rfl rfl ⟨rfl, ?_⟩
  have hon : Only bw w2 (w2.setCell ⟨bw, 1, none⟩ (.slice A k c')) := (Only.refl _ _).setCell _ _
  exact ⟨A, k, c', als', hcs2.set 1 _, Stab.go (unhide HQ1) (Chg.ofOnly hon), unhide HQ2, unhide HQ3, (Chg.of (hd1.trans (hb2.mono hd1.size))).trans (Chg.ofOnly hon)⟩

end Go.Proofs.YgcsakGreat
