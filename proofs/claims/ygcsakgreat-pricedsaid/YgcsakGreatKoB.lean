/-
  laws for a child's frame in a box of its own.
-/
import Derived.Test.YgcsakGreatKnB
import Derived.Test.YgcsakGreatBegV
namespace Go.Proofs.YgcsakGreat
set_option linter.unusedVariables false
set_option linter.unusedSimpArgs false
set_option maxRecDepth 100000
open Go.RowKit

/-- a frame's cells: the first twelve, two addresses, no saved world -/
def rowOf (L : List Value) (slf caller : List Int) : List Value := L ++ (bv slf ++ (bv caller ++ List.replicate 8 nilS))
theorem rowOf_len {L : List Value} {slf caller : List Int} (hL : L.length = 12) (hs : IsAddr slf) (hc : IsAddr caller) : (rowOf L slf caller).length = 60 := by
  unfold rowOf
  simp [hL, bv_len, hs.len, hc.len]
theorem rowOf_lo {L : List Value} {slf caller : List Int} (hL : L.length = 12) {i : Nat} (hi : i < 12) : (rowOf L slf caller)[i]? = L[i]? := by
  unfold rowOf
  rw [List.getElem?_append_left (by omega)]
theorem rowOf_self {L : List Value} {slf caller : List Int} (hL : L.length = 12) (hs : IsAddr slf) {i : Nat} (hi : i < 20) : (rowOf L slf caller)[12 + i]? = (bv slf)[i]? := by
  have hls : (bv slf).length = 20 := by rw [bv_len, hs.len]
  unfold rowOf
  rw [List.getElem?_append_right (by omega), List.getElem?_append_left (by omega), hL, Nat.add_sub_cancel_left]
theorem rowOf_caller {L : List Value} {slf caller : List Int} (hL : L.length = 12) (hs : IsAddr slf) (hc : IsAddr caller) {i : Nat} (hi : i < 20) : (rowOf L slf caller)[32 + i]? = (bv caller)[i]? := by
  have hls : (bv slf).length = 20 := by rw [bv_len, hs.len]
  have hlc : (bv caller).length = 20 := by rw [bv_len, hc.len]
  unfold rowOf
  rw [List.getElem?_append_right (by omega), List.getElem?_append_right (by omega), List.getElem?_append_left (by omega), hL, hls]
  congr 1
  omega
theorem rowOf_saved {L : List Value} {slf caller : List Int} (hL : L.length = 12) (hs : IsAddr slf) (hc : IsAddr caller) {i : Nat} (hi : i < 8) : (rowOf L slf caller)[52 + i]? = (List.replicate 8 nilS)[i]? := by
  have hls : (bv slf).length = 20 := by rw [bv_len, hs.len]
  have hlc : (bv caller).length = 20 := by rw [bv_len, hc.len]
  unfold rowOf
  rw [List.getElem?_append_right (by omega), List.getElem?_append_right (by omega), List.getElem?_append_right (by omega), hL, hls, hlc]
  congr 1
  omega
theorem SStk.none (G : Nat → Prop) (w : World) : SStk G w none 0 0 [] := ⟨[], StabS.rws (Rws.ofNil w 1) (OffS.nil _ _), trivial⟩
/-- a child's frame, plainly -/
def childF (kd : Nat) (st : Bool) (v : Nat) (code slf caller : List Int) : FD := { kind := kd, native := 0, static := st, pc := 0, gas := 0, value := v, outOff := 0, outLen := 0, stk := [], ml := 0, code := code, input := [], self := slf, caller := caller, saved := emptyWD }
def cells12 (kd : Nat) (st : Bool) (val code : Value) : List Value := [.int .u8 kd, .int .u8 0, .bool st, nilS, nilS, val, nilS, nilS, nilS, nilS, code, nilS]
theorem KF.child {G : Nat → Prop} {w : World} (kd : Nat) (st : Bool) {A : Option Addr} {k c v : Nat} (hv : KNat G w A k c v) {D : Option Addr} {l cd : Nat} {code : List Int} (hd : KSrc G w D l cd code) {slf caller : List Int} (hs : IsAddr slf) (hc : IsAddr caller) :
    KF G (fun i => (rowOf (cells12 kd st (.slice A k c) (.slice D l cd)) slf caller)[i]?) (childF kd st v code slf caller) w := by
  have hL : (cells12 kd st (.slice A k c) (.slice D l cd)).length = 12 := rfl
  have E : ∀ i, i < 12 → (rowOf (cells12 kd st (.slice A k c) (.slice D l cd)) slf caller)[i]? = (cells12 kd st (.slice A k c) (.slice D l cd))[i]? := fun i hi => rowOf_lo hL hi
  exact ⟨E 0 (by omega), E 1 (by omega), E 2 (by omega), ⟨none, 0, 0, E 3 (by omega), KNat.nil G w⟩, ⟨none, 0, 0, E 4 (by omega), KNat.nil G w⟩, ⟨A, k, c, E 5 (by omega), hv⟩, ⟨none, 0, 0, E 6 (by omega), KNat.nil G w⟩, ⟨none, 0, 0, E 7 (by omega), KNat.nil G w⟩, ⟨none, 0, 0, E 8 (by omega), SStk.none G w⟩, ⟨none, 0, E 9 (by omega), KMem.nil G w⟩, ⟨D, l, cd, E 10 (by omega), hd⟩, ⟨none, 0, 0, E 11 (by omega), KSrc.nil G w⟩, fun i hi => rowOf_self hL hs hi, fun i hi => rowOf_caller hL hs hc hi, hs, hc, ⟨List.replicate 8 nilS, ⟨rfl, fun v hv => by rw [List.eq_of_mem_replicate hv]; exact ⟨none, 0, 0, rfl⟩⟩, fun i hi => rowOf_saved hL hs hc hi, KW.empty G w⟩⟩
theorem fill_call (B : Option Addr) (k c : Nat) (st : Bool) (slf caller : List Int) (hs : IsAddr slf) (hc : IsAddr caller) :
    Instr.fill ((#[(0, 1), (1, 1), (2, 1), (3, 1), (4, 1), (5, 1), (6, 1), (7, 1), (8, 1), (9, 1), (10, 1), (11, 1), (12, 20), (32, 20), (52, 8)] : Array (Nat × Nat))[·]?) zeroF.toArray [(0, .int .u8 2), (2, .bool st), (5, .slice B k c), (12, .agg (bv slf).toArray), (13, .agg (bv caller).toArray)] = some (rowOf (cells12 2 st (.slice B k c) (.slice none 0 0)) slf caller).toArray := by
  have e40 : bv (zeros 40) = bv (zeros 20) ++ bv (zeros 20) := by rw [← bv_append]; rfl
  have z1 : zeroF = [.int .u8 0, .int .u8 0, .bool false, nilS, nilS, nilS, nilS, nilS, nilS, nilS, nilS, nilS] ++ (bv (zeros 20) ++ (bv (zeros 20) ++ List.replicate 8 nilS)) := by
    unfold zeroF
    rw [e40, List.append_assoc]
    rfl
  rw [z1]
  have hl20 : (bv (zeros 20)).length = 20 := by rw [bv_len, zeros_len]
  have hlc : (bv caller).length = 20 := by rw [bv_len, hc.len]
  have hls : (bv slf).length = 20 := by rw [bv_len, hs.len]
  rw [fill_cons _ _ 0 (.int .u8 2) _ 0 1 rfl [.int .u8 2] rfl rfl (by simp)]
  rw [show spl ([Value.int .u8 0, .int .u8 0, .bool false, nilS, nilS, nilS, nilS, nilS, nilS, nilS, nilS, nilS] ++ (bv (zeros 20) ++ (bv (zeros 20) ++ List.replicate 8 nilS))) 0 [.int .u8 2] = [Value.int .u8 2, .int .u8 0, .bool false, nilS, nilS, nilS, nilS, nilS, nilS, nilS, nilS, nilS] ++ (bv (zeros 20) ++ (bv (zeros 20) ++ List.replicate 8 nilS)) from rfl]
  rw [fill_cons _ _ 2 (.bool st) _ 2 1 rfl [.bool st] rfl rfl (by simp)]
  rw [show spl ([Value.int .u8 2, .int .u8 0, .bool false, nilS, nilS, nilS, nilS, nilS, nilS, nilS, nilS, nilS] ++ (bv (zeros 20) ++ (bv (zeros 20) ++ List.replicate 8 nilS))) 2 [.bool st] = [Value.int .u8 2, .int .u8 0, .bool st, nilS, nilS, nilS, nilS, nilS, nilS, nilS, nilS, nilS] ++ (bv (zeros 20) ++ (bv (zeros 20) ++ List.replicate 8 nilS)) from rfl]
  rw [fill_cons _ _ 5 (.slice B k c) _ 5 1 rfl [.slice B k c] rfl rfl (by simp)]
  rw [show spl ([Value.int .u8 2, .int .u8 0, .bool st, nilS, nilS, nilS, nilS, nilS, nilS, nilS, nilS, nilS] ++ (bv (zeros 20) ++ (bv (zeros 20) ++ List.replicate 8 nilS))) 5 [.slice B k c] = [Value.int .u8 2, .int .u8 0, .bool st, nilS, nilS, .slice B k c, nilS, nilS, nilS, nilS, nilS, nilS] ++ (bv (zeros 20) ++ (bv (zeros 20) ++ List.replicate 8 nilS)) from rfl]
  rw [fill_cons _ _ 12 (.agg (bv slf).toArray) _ 12 20 rfl (bv slf) rfl hls (by simp [hl20])]
  have s12 := spl_mid [Value.int .u8 2, .int .u8 0, .bool st, nilS, nilS, .slice B k c, nilS, nilS, nilS, nilS, nilS, nilS] (bv (zeros 20)) (bv (zeros 20) ++ List.replicate 8 nilS) (bv slf) (by rw [hl20, hls])
  rw [show [Value.int .u8 2, .int .u8 0, .bool st, nilS, nilS, .slice B k c, nilS, nilS, nilS, nilS, nilS, nilS].length = 12 from rfl] at s12
  rw [s12]
  rw [fill_cons _ _ 13 (.agg (bv caller).toArray) _ 32 20 rfl (bv caller) rfl hlc (by simp [hl20, hls])]
  have s32 := spl_mid ([Value.int .u8 2, .int .u8 0, .bool st, nilS, nilS, .slice B k c, nilS, nilS, nilS, nilS, nilS, nilS] ++ bv slf) (bv (zeros 20)) (List.replicate 8 nilS) (bv caller) (by rw [hl20, hlc])
  rw [show ([Value.int .u8 2, .int .u8 0, .bool st, nilS, nilS, .slice B k c, nilS, nilS, nilS, nilS, nilS, nilS] ++ bv slf).length = 32 from by simp [hls], List.append_assoc] at s32
  rw [s32, List.append_assoc]
  rw [Instr.fill]
  rfl
theorem run_call (wx : World) (B : Option Addr) (k c : Nat) (st : Bool) (slf caller : List Int) (hs : IsAddr slf) (hc : IsAddr caller) : (Instr.build 194 #[(0, .int .u8 2), (2, .bool st), (5, .slice B k c), (12, .agg (bv slf).toArray), (13, .agg (bv caller).toArray)]).run Sakg.prog wx = .ok (.agg (rowOf (cells12 2 st (.slice B k c) (.slice none 0 0)) slf caller).toArray) wx := by
  obtain ⟨i0, hi0, hz0, hz1, hz2⟩ := info_parts infoFrame
  exact run_build_struct wx 194 _ placesFrame i0 _ hi0 hz0 zeroF rfl _ _ (fill_call B k c st slf caller hs hc)
theorem fill_create (B : Option Addr) (k c : Nat) (D : Option Addr) (l cd : Nat) (caller : List Int) (hc : IsAddr caller) :
    Instr.fill ((#[(0, 1), (1, 1), (2, 1), (3, 1), (4, 1), (5, 1), (6, 1), (7, 1), (8, 1), (9, 1), (10, 1), (11, 1), (12, 20), (32, 20), (52, 8)] : Array (Nat × Nat))[·]?) zeroF.toArray [(0, .int .u8 5), (5, .slice B k c), (13, .agg (bv caller).toArray), (10, .slice D l cd)] = some (rowOf (cells12 5 false (.slice B k c) (.slice D l cd)) (zeros 20) caller).toArray := by
  have e40 : bv (zeros 40) = bv (zeros 20) ++ bv (zeros 20) := by rw [← bv_append]; rfl
  have z1 : zeroF = [.int .u8 0, .int .u8 0, .bool false, nilS, nilS, nilS, nilS, nilS, nilS, nilS, nilS, nilS] ++ (bv (zeros 20) ++ (bv (zeros 20) ++ List.replicate 8 nilS)) := by
    unfold zeroF
    rw [e40, List.append_assoc]
    rfl
  rw [z1]
  have hl20 : (bv (zeros 20)).length = 20 := by rw [bv_len, zeros_len]
  have hlc : (bv caller).length = 20 := by rw [bv_len, hc.len]
  rw [fill_cons _ _ 0 (.int .u8 5) _ 0 1 rfl [.int .u8 5] rfl rfl (by simp)]
  rw [show spl ([Value.int .u8 0, .int .u8 0, .bool false, nilS, nilS, nilS, nilS, nilS, nilS, nilS, nilS, nilS] ++ (bv (zeros 20) ++ (bv (zeros 20) ++ List.replicate 8 nilS))) 0 [.int .u8 5] = [Value.int .u8 5, .int .u8 0, .bool false, nilS, nilS, nilS, nilS, nilS, nilS, nilS, nilS, nilS] ++ (bv (zeros 20) ++ (bv (zeros 20) ++ List.replicate 8 nilS)) from rfl]
  rw [fill_cons _ _ 5 (.slice B k c) _ 5 1 rfl [.slice B k c] rfl rfl (by simp)]
  rw [show spl ([Value.int .u8 5, .int .u8 0, .bool false, nilS, nilS, nilS, nilS, nilS, nilS, nilS, nilS, nilS] ++ (bv (zeros 20) ++ (bv (zeros 20) ++ List.replicate 8 nilS))) 5 [.slice B k c] = [Value.int .u8 5, .int .u8 0, .bool false, nilS, nilS, .slice B k c, nilS, nilS, nilS, nilS, nilS, nilS] ++ (bv (zeros 20) ++ (bv (zeros 20) ++ List.replicate 8 nilS)) from rfl]
  rw [fill_cons _ _ 13 (.agg (bv caller).toArray) _ 32 20 rfl (bv caller) rfl hlc (by simp [hl20])]
  have s32 := spl_mid ([Value.int .u8 5, .int .u8 0, .bool false, nilS, nilS, .slice B k c, nilS, nilS, nilS, nilS, nilS, nilS] ++ bv (zeros 20)) (bv (zeros 20)) (List.replicate 8 nilS) (bv caller) (by rw [hl20, hlc])
  rw [show ([Value.int .u8 5, .int .u8 0, .bool false, nilS, nilS, .slice B k c, nilS, nilS, nilS, nilS, nilS, nilS] ++ bv (zeros 20)).length = 32 from by simp [hl20], List.append_assoc] at s32
  rw [s32, List.append_assoc]
  rw [fill_cons _ _ 10 (.slice D l cd) _ 10 1 rfl [.slice D l cd] rfl rfl (by simp)]
  rw [show spl ([Value.int .u8 5, .int .u8 0, .bool false, nilS, nilS, .slice B k c, nilS, nilS, nilS, nilS, nilS, nilS] ++ (bv (zeros 20) ++ (bv caller ++ List.replicate 8 nilS))) 10 [.slice D l cd] = [Value.int .u8 5, .int .u8 0, .bool false, nilS, nilS, .slice B k c, nilS, nilS, nilS, nilS, .slice D l cd, nilS] ++ (bv (zeros 20) ++ (bv caller ++ List.replicate 8 nilS)) from rfl]
  rw [Instr.fill]
  rfl
theorem run_create (wx : World) (B : Option Addr) (k c : Nat) (D : Option Addr) (l cd : Nat) (caller : List Int) (hc : IsAddr caller) : (Instr.build 194 #[(0, .int .u8 5), (5, .slice B k c), (13, .agg (bv caller).toArray), (10, .slice D l cd)]).run Sakg.prog wx = .ok (.agg (rowOf (cells12 5 false (.slice B k c) (.slice D l cd)) (zeros 20) caller).toArray) wx := by
  obtain ⟨i0, hi0, hz0, hz1, hz2⟩ := info_parts infoFrame
  exact run_build_struct wx 194 _ placesFrame i0 _ hi0 hz0 zeroF rfl _ _ (fill_create B k c D l cd caller hc)
theorem KF.setKind {G : Nat → Prop} {c : Nat → Option Value} {f : FD} {w : World} (h : KF G c f w) (m : Nat) : KF G (upd c 0 (.int .u8 m)) { f with kind := m } w := by
  obtain ⟨h0, h1, h2, ⟨A3, k3, n3, e3, h3⟩, ⟨A4, k4, n4, e4, h4⟩, ⟨A5, k5, n5, e5, h5⟩, ⟨A6, k6, n6, e6, h6⟩, ⟨A7, k7, n7, e7, h7⟩, ⟨A8, k8, n8, e8, h8⟩, ⟨A9, n9, e9, h9⟩, ⟨A10, k10, n10, e10, h10⟩, ⟨A11, k11, n11, e11, h11⟩, h12, h13, h14, h15, ⟨r, r1, r2, r3⟩⟩ := h
  exact ⟨upd_same _ _ _, (upd_ne (by omega)).trans h1, (upd_ne (by omega)).trans h2, ⟨A3, k3, n3, (upd_ne (by omega)).trans e3, h3⟩, ⟨A4, k4, n4, (upd_ne (by omega)).trans e4, h4⟩, ⟨A5, k5, n5, (upd_ne (by omega)).trans e5, h5⟩, ⟨A6, k6, n6, (upd_ne (by omega)).trans e6, h6⟩, ⟨A7, k7, n7, (upd_ne (by omega)).trans e7, h7⟩, ⟨A8, k8, n8, (upd_ne (by omega)).trans e8, h8⟩, ⟨A9, n9, (upd_ne (by omega)).trans e9, h9⟩, ⟨A10, k10, n10, (upd_ne (by omega)).trans e10, h10⟩, ⟨A11, k11, n11, (upd_ne (by omega)).trans e11, h11⟩, fun i hi => (upd_ne (by omega)).trans (h12 i hi), fun i hi => (upd_ne (by omega)).trans (h13 i hi), h14, h15, ⟨r, r1, fun i hi => (upd_ne (by omega)).trans (r2 i hi), r3⟩⟩
theorem KF.setNative {G : Nat → Prop} {c : Nat → Option Value} {f : FD} {w : World} (h : KF G c f w) (m : Nat) : KF G (upd c 1 (.int .u8 m)) { f with native := m } w := by
  obtain ⟨h0, h1, h2, ⟨A3, k3, n3, e3, h3⟩, ⟨A4, k4, n4, e4, h4⟩, ⟨A5, k5, n5, e5, h5⟩, ⟨A6, k6, n6, e6, h6⟩, ⟨A7, k7, n7, e7, h7⟩, ⟨A8, k8, n8, e8, h8⟩, ⟨A9, n9, e9, h9⟩, ⟨A10, k10, n10, e10, h10⟩, ⟨A11, k11, n11, e11, h11⟩, h12, h13, h14, h15, ⟨r, r1, r2, r3⟩⟩ := h
  exact ⟨(upd_ne (by omega)).trans h0, upd_same _ _ _, (upd_ne (by omega)).trans h2, ⟨A3, k3, n3, (upd_ne (by omega)).trans e3, h3⟩, ⟨A4, k4, n4, (upd_ne (by omega)).trans e4, h4⟩, ⟨A5, k5, n5, (upd_ne (by omega)).trans e5, h5⟩, ⟨A6, k6, n6, (upd_ne (by omega)).trans e6, h6⟩, ⟨A7, k7, n7, (upd_ne (by omega)).trans e7, h7⟩, ⟨A8, k8, n8, (upd_ne (by omega)).trans e8, h8⟩, ⟨A9, n9, (upd_ne (by omega)).trans e9, h9⟩, ⟨A10, k10, n10, (upd_ne (by omega)).trans e10, h10⟩, ⟨A11, k11, n11, (upd_ne (by omega)).trans e11, h11⟩, fun i hi => (upd_ne (by omega)).trans (h12 i hi), fun i hi => (upd_ne (by omega)).trans (h13 i hi), h14, h15, ⟨r, r1, fun i hi => (upd_ne (by omega)).trans (r2 i hi), r3⟩⟩
theorem KF.setStatic {G : Nat → Prop} {c : Nat → Option Value} {f : FD} {w : World} (h : KF G c f w) (b : Bool) : KF G (upd c 2 (.bool b)) { f with static := b } w := by
  obtain ⟨h0, h1, h2, ⟨A3, k3, n3, e3, h3⟩, ⟨A4, k4, n4, e4, h4⟩, ⟨A5, k5, n5, e5, h5⟩, ⟨A6, k6, n6, e6, h6⟩, ⟨A7, k7, n7, e7, h7⟩, ⟨A8, k8, n8, e8, h8⟩, ⟨A9, n9, e9, h9⟩, ⟨A10, k10, n10, e10, h10⟩, ⟨A11, k11, n11, e11, h11⟩, h12, h13, h14, h15, ⟨r, r1, r2, r3⟩⟩ := h
  exact ⟨(upd_ne (by omega)).trans h0, (upd_ne (by omega)).trans h1, upd_same _ _ _, ⟨A3, k3, n3, (upd_ne (by omega)).trans e3, h3⟩, ⟨A4, k4, n4, (upd_ne (by omega)).trans e4, h4⟩, ⟨A5, k5, n5, (upd_ne (by omega)).trans e5, h5⟩, ⟨A6, k6, n6, (upd_ne (by omega)).trans e6, h6⟩, ⟨A7, k7, n7, (upd_ne (by omega)).trans e7, h7⟩, ⟨A8, k8, n8, (upd_ne (by omega)).trans e8, h8⟩, ⟨A9, n9, (upd_ne (by omega)).trans e9, h9⟩, ⟨A10, k10, n10, (upd_ne (by omega)).trans e10, h10⟩, ⟨A11, k11, n11, (upd_ne (by omega)).trans e11, h11⟩, fun i hi => (upd_ne (by omega)).trans (h12 i hi), fun i hi => (upd_ne (by omega)).trans (h13 i hi), h14, h15, ⟨r, r1, fun i hi => (upd_ne (by omega)).trans (r2 i hi), r3⟩⟩
theorem KF.setValue {G : Nat → Prop} {c : Nat → Option Value} {f : FD} {w : World} (h : KF G c f w) {A : Option Addr} {k n m : Nat} (hn : KNat G w A k n m) : KF G (upd c 5 (.slice A k n)) { f with value := m } w := by
  obtain ⟨h0, h1, h2, ⟨A3, k3, n3, e3, h3⟩, ⟨A4, k4, n4, e4, h4⟩, ⟨A5, k5, n5, e5, h5⟩, ⟨A6, k6, n6, e6, h6⟩, ⟨A7, k7, n7, e7, h7⟩, ⟨A8, k8, n8, e8, h8⟩, ⟨A9, n9, e9, h9⟩, ⟨A10, k10, n10, e10, h10⟩, ⟨A11, k11, n11, e11, h11⟩, h12, h13, h14, h15, ⟨r, r1, r2, r3⟩⟩ := h
  exact ⟨(upd_ne (by omega)).trans h0, (upd_ne (by omega)).trans h1, (upd_ne (by omega)).trans h2, ⟨A3, k3, n3, (upd_ne (by omega)).trans e3, h3⟩, ⟨A4, k4, n4, (upd_ne (by omega)).trans e4, h4⟩, ⟨A, k, n, upd_same _ _ _, hn⟩, ⟨A6, k6, n6, (upd_ne (by omega)).trans e6, h6⟩, ⟨A7, k7, n7, (upd_ne (by omega)).trans e7, h7⟩, ⟨A8, k8, n8, (upd_ne (by omega)).trans e8, h8⟩, ⟨A9, n9, (upd_ne (by omega)).trans e9, h9⟩, ⟨A10, k10, n10, (upd_ne (by omega)).trans e10, h10⟩, ⟨A11, k11, n11, (upd_ne (by omega)).trans e11, h11⟩, fun i hi => (upd_ne (by omega)).trans (h12 i hi), fun i hi => (upd_ne (by omega)).trans (h13 i hi), h14, h15, ⟨r, r1, fun i hi => (upd_ne (by omega)).trans (r2 i hi), r3⟩⟩
theorem KF.setCode {G : Nat → Prop} {c : Nat → Option Value} {f : FD} {w : World} (h : KF G c f w) {A : Option Addr} {k n : Nat} {xs : List Int} (hn : KSrc G w A k n xs) : KF G (upd c 10 (.slice A k n)) { f with code := xs } w := by
  obtain ⟨h0, h1, h2, ⟨A3, k3, n3, e3, h3⟩, ⟨A4, k4, n4, e4, h4⟩, ⟨A5, k5, n5, e5, h5⟩, ⟨A6, k6, n6, e6, h6⟩, ⟨A7, k7, n7, e7, h7⟩, ⟨A8, k8, n8, e8, h8⟩, ⟨A9, n9, e9, h9⟩, ⟨A10, k10, n10, e10, h10⟩, ⟨A11, k11, n11, e11, h11⟩, h12, h13, h14, h15, ⟨r, r1, r2, r3⟩⟩ := h
  exact ⟨(upd_ne (by omega)).trans h0, (upd_ne (by omega)).trans h1, (upd_ne (by omega)).trans h2, ⟨A3, k3, n3, (upd_ne (by omega)).trans e3, h3⟩, ⟨A4, k4, n4, (upd_ne (by omega)).trans e4, h4⟩, ⟨A5, k5, n5, (upd_ne (by omega)).trans e5, h5⟩, ⟨A6, k6, n6, (upd_ne (by omega)).trans e6, h6⟩, ⟨A7, k7, n7, (upd_ne (by omega)).trans e7, h7⟩, ⟨A8, k8, n8, (upd_ne (by omega)).trans e8, h8⟩, ⟨A9, n9, (upd_ne (by omega)).trans e9, h9⟩, ⟨A, k, n, upd_same _ _ _, hn⟩, ⟨A11, k11, n11, (upd_ne (by omega)).trans e11, h11⟩, fun i hi => (upd_ne (by omega)).trans (h12 i hi), fun i hi => (upd_ne (by omega)).trans (h13 i hi), h14, h15, ⟨r, r1, fun i hi => (upd_ne (by omega)).trans (r2 i hi), r3⟩⟩
theorem KF.setInput {G : Nat → Prop} {c : Nat → Option Value} {f : FD} {w : World} (h : KF G c f w) {A : Option Addr} {k n : Nat} {xs : List Int} (hn : KSrc G w A k n xs) : KF G (upd c 11 (.slice A k n)) { f with input := xs } w := by
  obtain ⟨h0, h1, h2, ⟨A3, k3, n3, e3, h3⟩, ⟨A4, k4, n4, e4, h4⟩, ⟨A5, k5, n5, e5, h5⟩, ⟨A6, k6, n6, e6, h6⟩, ⟨A7, k7, n7, e7, h7⟩, ⟨A8, k8, n8, e8, h8⟩, ⟨A9, n9, e9, h9⟩, ⟨A10, k10, n10, e10, h10⟩, ⟨A11, k11, n11, e11, h11⟩, h12, h13, h14, h15, ⟨r, r1, r2, r3⟩⟩ := h
  exact ⟨(upd_ne (by omega)).trans h0, (upd_ne (by omega)).trans h1, (upd_ne (by omega)).trans h2, ⟨A3, k3, n3, (upd_ne (by omega)).trans e3, h3⟩, ⟨A4, k4, n4, (upd_ne (by omega)).trans e4, h4⟩, ⟨A5, k5, n5, (upd_ne (by omega)).trans e5, h5⟩, ⟨A6, k6, n6, (upd_ne (by omega)).trans e6, h6⟩, ⟨A7, k7, n7, (upd_ne (by omega)).trans e7, h7⟩, ⟨A8, k8, n8, (upd_ne (by omega)).trans e8, h8⟩, ⟨A9, n9, (upd_ne (by omega)).trans e9, h9⟩, ⟨A10, k10, n10, (upd_ne (by omega)).trans e10, h10⟩, ⟨A, k, n, upd_same _ _ _, hn⟩, fun i hi => (upd_ne (by omega)).trans (h12 i hi), fun i hi => (upd_ne (by omega)).trans (h13 i hi), h14, h15, ⟨r, r1, fun i hi => (upd_ne (by omega)).trans (r2 i hi), r3⟩⟩
section
variable {G : Nat → Prop} {c c' : Nat → Option Value} {f : FD} {w : World}
theorem KF.setSelf (h : KF G c f w) {a : List Int} (ha : IsAddr a) (hlo : ∀ i, i < 60 → (i < 12 ∨ 32 ≤ i) → c' i = c i) (hm : ∀ i, i < 20 → c' (12 + i) = (bv a)[i]?) : KF G c' { f with self := a } w := by
  obtain ⟨h0, h1, h2, ⟨A3, k3, n3, e3, h3⟩, ⟨A4, k4, n4, e4, h4⟩, ⟨A5, k5, n5, e5, h5⟩, ⟨A6, k6, n6, e6, h6⟩, ⟨A7, k7, n7, e7, h7⟩, ⟨A8, k8, n8, e8, h8⟩, ⟨A9, n9, e9, h9⟩, ⟨A10, k10, n10, e10, h10⟩, ⟨A11, k11, n11, e11, h11⟩, h12, h13, h14, h15, ⟨r, r1, r2, r3⟩⟩ := h
  have E : ∀ i v, i < 60 → (i < 12 ∨ 32 ≤ i) → c i = v → c' i = v := fun i v hi hi2 hv => (hlo i hi hi2).trans hv
  exact ⟨E _ _ (by omega) (by omega) h0, E _ _ (by omega) (by omega) h1, E _ _ (by omega) (by omega) h2, ⟨A3, k3, n3, E _ _ (by omega) (by omega) e3, h3⟩, ⟨A4, k4, n4, E _ _ (by omega) (by omega) e4, h4⟩, ⟨A5, k5, n5, E _ _ (by omega) (by omega) e5, h5⟩, ⟨A6, k6, n6, E _ _ (by omega) (by omega) e6, h6⟩, ⟨A7, k7, n7, E _ _ (by omega) (by omega) e7, h7⟩, ⟨A8, k8, n8, E _ _ (by omega) (by omega) e8, h8⟩, ⟨A9, n9, E _ _ (by omega) (by omega) e9, h9⟩, ⟨A10, k10, n10, E _ _ (by omega) (by omega) e10, h10⟩, ⟨A11, k11, n11, E _ _ (by omega) (by omega) e11, h11⟩, hm, fun i hi => E _ _ (by omega) (by omega) (h13 i hi), ha, h15, ⟨r, r1, fun i hi => E _ _ (by omega) (by omega) (r2 i hi), r3⟩⟩
theorem KF.setCaller (h : KF G c f w) {a : List Int} (ha : IsAddr a) (hlo : ∀ i, i < 60 → (i < 32 ∨ 52 ≤ i) → c' i = c i) (hm : ∀ i, i < 20 → c' (32 + i) = (bv a)[i]?) : KF G c' { f with caller := a } w := by
  obtain ⟨h0, h1, h2, ⟨A3, k3, n3, e3, h3⟩, ⟨A4, k4, n4, e4, h4⟩, ⟨A5, k5, n5, e5, h5⟩, ⟨A6, k6, n6, e6, h6⟩, ⟨A7, k7, n7, e7, h7⟩, ⟨A8, k8, n8, e8, h8⟩, ⟨A9, n9, e9, h9⟩, ⟨A10, k10, n10, e10, h10⟩, ⟨A11, k11, n11, e11, h11⟩, h12, h13, h14, h15, ⟨r, r1, r2, r3⟩⟩ := h
  have E : ∀ i v, i < 60 → (i < 32 ∨ 52 ≤ i) → c i = v → c' i = v := fun i v hi hi2 hv => (hlo i hi hi2).trans hv
  exact ⟨E _ _ (by omega) (by omega) h0, E _ _ (by omega) (by omega) h1, E _ _ (by omega) (by omega) h2, ⟨A3, k3, n3, E _ _ (by omega) (by omega) e3, h3⟩, ⟨A4, k4, n4, E _ _ (by omega) (by omega) e4, h4⟩, ⟨A5, k5, n5, E _ _ (by omega) (by omega) e5, h5⟩, ⟨A6, k6, n6, E _ _ (by omega) (by omega) e6, h6⟩, ⟨A7, k7, n7, E _ _ (by omega) (by omega) e7, h7⟩, ⟨A8, k8, n8, E _ _ (by omega) (by omega) e8, h8⟩, ⟨A9, n9, E _ _ (by omega) (by omega) e9, h9⟩, ⟨A10, k10, n10, E _ _ (by omega) (by omega) e10, h10⟩, ⟨A11, k11, n11, E _ _ (by omega) (by omega) e11, h11⟩, fun i hi => E _ _ (by omega) (by omega) (h12 i hi), hm, h14, ha, ⟨r, r1, fun i hi => E _ _ (by omega) (by omega) (r2 i hi), r3⟩⟩
end
section
variable {G G' : Nat → Prop} {bw gf gb : Nat} {cs fr fb fb' : List Value} {d : WD} {f c c' : FD} {r fs : List FD} {x : XD} {w w' : World}
/-- another frame's box has turned -/
theorem SR.off (h : SR G bw gf cs fr d fs x w) (hc : Chg gb w w') (hg : G gb) (hrow : RowT 194 w gb fb) (h1 : gb ≠ bw) (h2 : gb ≠ gf) : SR G bw gf cs fr d fs x w' := by
  have hm : Mv G w w' := Mv.frame hrow hg hc
  exact ⟨h.cw.turn (hc.row h.cw.row (Ne.symm h1)) h.cw.len (fun _ _ => rfl) hm.chg, h.logsGo hm rfl rfl, h.xs.go hm.chg, h.phase, h.ne, hc.row h.row (Ne.symm h2), h.g, h.frames, h.len, h.kfs.go hm⟩
theorem SR.lift (h : SR G bw gf cs fr d fs x w) (hb : Below w.heap.size w w') (hs : ∀ i, G' i → i < w.heap.size → G i) (hG : ∀ i, G i → G' i) (hT : Ther G' w') : SR G' bw gf cs fr d fs x w' := by
  have h1 := h.sb.lift hb hs hG hT
  exact ⟨h1.cw, h1.logs, h1.xs, h1.phase, h.ne, h.row.kept hb, hG _ h.g, h.frames, h.len, (h.kfs.to hs hG).go (Mv.of hb)⟩
/-- an address is laid in a box -/
theorem FX.self (h : FX G gb 0 fb c w) (hl : fb.length = 60) {a : List Int} (ha : IsAddr a) (hr : RowT 194 w' gb (spl fb 12 (bv a))) (hc : Chg gb w w') : FX G gb 0 (spl fb 12 (bv a)) { c with self := a } w' := by
  have hal : (bv a).length = 20 := by rw [bv_len, ha.len]
  have hle : 12 + (bv a).length ≤ fb.length := by omega
  have hm : Mv G w w' := Mv.frame h.row h.g hc
  refine ⟨hr, by rw [spl_len _ _ _ hle]; omega, h.g, h.ther.go hm.size, (h.kf.go hm).setSelf ha (fun i hi hi2 => ?_) (fun i hi => ?_)⟩
  · unfold cellsAt
    rw [Nat.zero_add]
    exact spl_get hle i (by omega)
  · unfold cellsAt
    rw [Nat.zero_add]
    exact spl_hi hle i (by omega)
theorem FX.caller (h : FX G gb 0 fb c w) (hl : fb.length = 60) {a : List Int} (ha : IsAddr a) (hr : RowT 194 w' gb (spl fb 32 (bv a))) (hc : Chg gb w w') : FX G gb 0 (spl fb 32 (bv a)) { c with caller := a } w' := by
  have hal : (bv a).length = 20 := by rw [bv_len, ha.len]
  have hle : 32 + (bv a).length ≤ fb.length := by omega
  have hm : Mv G w w' := Mv.frame h.row h.g hc
  refine ⟨hr, by rw [spl_len _ _ _ hle]; omega, h.g, h.ther.go hm.size, (h.kf.go hm).setCaller ha (fun i hi hi2 => ?_) (fun i hi => ?_)⟩
  · unfold cellsAt
    rw [Nat.zero_add]
    exact spl_get hle i (by omega)
  · unfold cellsAt
    rw [Nat.zero_add]
    exact spl_hi hle i (by omega)
theorem FX.kfRow (h : FX G gb 0 fb c w) : KF G (fun i => fb[i]?) c w := h.kf.eq (fun i hi => by unfold cellsAt; rw [Nat.zero_add])
end

end Go.Proofs.YgcsakGreat
