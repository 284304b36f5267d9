/-
  yp: grow of a frame wherever it lies.
-/
import Derived.Test.YgcsakGreatKfB
namespace Go.Proofs.YgcsakGreat
set_option linter.unusedVariables false
set_option linter.unusedSimpArgs false
set_option maxRecDepth 100000
open Go.RowKit

/-- a set that has grown by blocks that were not there -/
structure Wider (G G' : Nat → Prop) (w : World) : Prop where
  sub : ∀ i, G i → G' i
  new : ∀ i, G' i → i < w.heap.size → G i
theorem Wider.refl (G : Nat → Prop) (w : World) : Wider G G w := ⟨fun _ h => h, fun _ h _ => h⟩
theorem Wider.trans {G G' G'' : Nat → Prop} {w w' : World} (h : Wider G G' w) (k : Wider G' G'' w') (hs : w.heap.size ≤ w'.heap.size) : Wider G G'' w := ⟨fun i hi => k.sub i (h.sub i hi), fun i hi hl => h.new i (k.new i hi (by omega)) hl⟩
theorem Wider.plus {G : Nat → Prop} {w : World} {g : Nat} (hg : w.heap.size ≤ g) : Wider G (Plus G g) w := ⟨fun _ h => .inl h, plus_new hg⟩

def growN (ml t : Nat) : Nat := if (t + 31) / 32 ≤ ml / 32 then ml else 32 * ((t + 31) / 32)
def GrowR (G : Nat → Prop) (gf o : Nat) (fr : List Value) (f : FD) (t : Nat) (w : World) (e : Ending) (w' : World) : Prop :=
  e = .returned (.tuple #[]) ∧ ∃ G' fr', Wider G G' w ∧ FX G' gf o fr' { f with ml := growN f.ml t } w' ∧ fr'.length = fr.length ∧ (∀ i, i ≠ o + 9 → fr'[i]? = fr[i]?) ∧ Chg gf w w'

set_option maxHeartbeats 8000000 in
theorem FX.grow {G : Nat → Prop} {gf o : Nat} {fr : List Value} {f : FD} {w : World} (h : FX G gf o fr f w) (a : Option Addr) (la ca t : Nat) (hn : IsNat w a la ca t) (ht : t + 31 < BIG) (hml : f.ml ≤ 1000000) (hq : (t + 31) / 32 ≤ 30000) :
    Calls Sakg.prog 115 #[.pointer (some ⟨gf, o, none⟩), .slice a la ca] w (GrowR G gf o fr f t w) := by
  have hBB := big_ge
  obtain ⟨A, c, m1, m2⟩ := h.kf.mem
  have x9 : ∀ wz, Below w.heap.size w wz → wz.cell? ⟨gf, o + 9, none⟩ = some (.slice A f.ml c) := fun wz hz => (h.kept hz).cell m1
  have X9 := hide x9
  have HW := hide (words_any a la ca t w hn ht)
  obtain ⟨q, hqe⟩ : ∃ q, q = (t + 31) / 32 := ⟨_, rfl⟩
  obtain ⟨hv, hhv⟩ : ∃ hv, hv = f.ml / 32 := ⟨_, rfl⟩
  have hgr : growN f.ml t = if q ≤ hv then f.ml else 32 * q := by unfold growN; rw [← hqe, ← hhv]
  rw [← hqe] at HW hq
  have e32 : (f.ml : Int) / 32 = (hv : Int) := by omega
  have hu : u64N q = q := by unfold u64N; rw [if_pos (by omega)]
  have hvl : hv ≤ 100000 := by omega
  have HU := hide hu
  have HFX := hide h
  have M2 := hide m2
  generalize hml2 : f.ml = ml at X9 e32 hml M2
  have HML := hide hml2
  have HGR := hide hgr
  clear h m1 m2 x9 hqe hhv hu hn hgr hml2
  by_cases hle : q ≤ hv
  · have tle : decide (hv < q) = false := decide_eq_false (by omega)
    have hnlt : ¬ hv < q := by omega
    go_enter Sakg.func115, Sakg.ntmps115
    go_wp2_with fail
    refine (unhide HW).mono ?_
    rintro e w1 ⟨A1, k1, c1, rfl, n1, N1, b1⟩
    have HS := hide (small_any A1 k1 c1 q w1 n1 (by omega))
    rw [unhide HU] at HS
    have y9 := unhide X9 w1 b1
    clear n1
    go_wp2_with fail
    refine (unhide HS).mono ?_
    rintro e w2 ⟨rfl, rfl⟩
    go_wp2
    refine bodyPost_done rfl rfl ?_
    refine ⟨rfl, G, fr, Wider.refl _ _, ?_, rfl, fun _ _ => rfl, Chg.of b1⟩
    rw [unhide HGR, if_pos hle]
    exact (unhide HFX).kept b1
  · have tle : decide (hv < q) = true := decide_eq_true (by omega)
    have hlt : hv < q := by omega
    obtain ⟨s, hs⟩ : ∃ s, s = 32 * q := ⟨_, rfl⟩
    have es : (32 : Int) * (q : Int) = (s : Int) := by omega
    have hsl : s ≤ 1000000 := by omega
    have HSE := hide hs
    clear hs
    go_enter Sakg.func115, Sakg.ntmps115
    go_wp2_with fail
    refine (unhide HW).mono ?_
    rintro e w1 ⟨A1, k1, c1, rfl, n1, N1, b1⟩
    have HS := hide (small_any A1 k1 c1 q w1 n1 (by omega))
    rw [unhide HU] at HS
    have y9 := unhide X9 w1 b1
    clear n1
    go_wp2_with fail
    refine (unhide HS).mono ?_
    rintro e w2 ⟨rfl, rfl⟩
    go_wp2_with (first
      | (at_make; refine wpList_make_bytes_u rfl _ _ 30 rfl Sakg.underlying30 _ _ s rfl rfl rfl rfl (by omega) ?_; intro w3 ho3 hb3 hs3; have d3 : Below w.heap.size w w3 := b1.thn hb3; have z9 := unhide X9 w3 d3; have hmb3 : MB w3 w1.heap.size s := ⟨_, ho3, zeros_len s, zeros_byt s⟩; obtain ⟨xs, hxs⟩ := ((unhide M2).go (Tm.of d3)).src hml; have HMB3 := hide hmb3; have HXS := hide hxs; have HS3 := hide hs3; clear ho3 hmb3 hxs hs3)
      | (with_reducible refine at_copy ?_; refine wpList_copy_mid rfl _ _ _ _ rfl Sakg.underlying30 w1.heap.size 0 s _ rfl s (unhide HMB3) (by omega) A ml c rfl xs (unhide HXS) ?_; intro w4 k4 ho4 hm4; have d4 : Below w.heap.size w w4 := d3.trans (ho4.below _ b1.size); have f9 := ((unhide HFX).kept d4).row.froz (o + 9); have v9 := unhide X9 w4 d4; have HM4 := hide hm4; have HO4 := hide ho4; clear hm4 ho4))
    refine bodyPost_done rfl rfl ?_
    have hx4 := (unhide HFX).kept d4
    have hW : Wider G (Plus G w1.heap.size) w := Wider.plus b1.size
    have hn4 : w1.heap.size < w4.heap.size := (unhide HM4).lt
    have hx5 : FX (Plus G w1.heap.size) gf o fr f w4 := ⟨hx4.row, hx4.len, .inl hx4.g, hx4.ther.plus hn4, ((unhide HFX).kf.to hW.new hW.sub).go (Mv.of d4)⟩
    refine ⟨rfl, Plus G w1.heap.size, fr.set (o + 9) (.slice (some ⟨w1.heap.size, 0, none⟩) s s), hW, ?_, List.length_set .., fun i hi => List.getElem?_set_ne (Ne.symm hi), (Chg.of d4).trans (Chg.ofOnly ((Only.refl _ _).setCell _ _))⟩
    rw [unhide HGR, if_neg hle, ← unhide HSE]
    exact hx5.put (by omega) (hx5.kf.setMem (.inr ⟨_, rfl, rfl, unhide HM4, .inr rfl⟩))

end Go.Proofs.YgcsakGreat
