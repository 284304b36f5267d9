/-
  law: specOf; Apply on a stage.
-/
import Derived.Test.YgcsakGreatLpH
import Derived.Test.YgcsakGreatLbB
namespace Go.Proofs.YgcsakGreat
set_option linter.unusedVariables false
set_option linter.unusedSimpArgs false
set_option maxRecDepth 100000
open Go.RowKit

/-- the chain's rest on a stage -/
def xS (tot : Nat) : XD := xNew (lowAddr 192) 0 0 1048576 (zeros 32) (zeros 32) (zeros 32) tot
theorem stageEnv_x : EnvX stageEnv (lowAddr 192) 0 0 1048576 (zeros 32) (zeros 32) (zeros 32) none 0 0 := by
  have e : stageEnv = envRow (xNew (lowAddr 192) 0 0 1048576 (zeros 32) (zeros 32) (zeros 32) 0) ++ [nilS] := by kernel_rfl
  have hl : (envRow (xNew (lowAddr 192) 0 0 1048576 (zeros 32) (zeros 32) (zeros 32) 0)).length = 119 := by kernel_rfl
  exact ⟨stageEnv_c, fun i hi => by rw [e, List.getElem?_append_left (by omega)], by decide, by decide, by decide, zeroW_is, zeroW_is, zeroW_is⟩
set_option maxHeartbeats 8000000 in
theorem specOf_x (A : Option Addr) (l c : Nat) (os : List OAcct) (w : World) (h : OAcctsR w A l c os) (hl : l ≤ 8) (hw : worldB os = true) :
    Calls Sakg.prog 12 #[.slice A l c] w fun e w' => ∃ bw cs tot, e = .returned (.pointer (some ⟨bw, 0, none⟩)) ∧ w.heap.size ≤ bw ∧ SI (· = bw) bw 0 cs (freshD (os.map acctOf)) (xS tot) w' ∧ XB (xS tot) ∧ Below w.heap.size w w' := by
  have HE := hide (stageEnv_any w)
  have HN : ∀ wz, Below w.heap.size w wz → Hid (Calls Sakg.prog 46 #[.slice A l c, .agg stageEnv.toArray] wz fun e w' => ∃ bw cs tot, e = .returned (.tuple #[.pointer (some ⟨bw, 0, none⟩), .bool true]) ∧ w.heap.size ≤ bw ∧ SI (· = bw) bw 0 cs (freshD (os.map acctOf)) (xS tot) w' ∧ XB (xS tot) ∧ Below wz.heap.size wz w') := fun wz hz => hide (by
    refine (new_k A l c os stageEnv (lowAddr 192) 1048576 (zeros 32) none 0 0 [] wz (h.kept hz) (by omega) stageEnv_c (Rws.ofNil _ 32) (fun r hr => by cases hr) (by omega)).mono ?_
    rintro e w' ⟨hb, hor⟩
    rcases hor with ⟨hf, -⟩ | ⟨-, bw, cs, he, hlb, hn, ht, hh⟩
    · rw [hw] at hf
      cases hf
    · obtain ⟨tot, h1, h2⟩ := new_si (ks := []) hn ht hh stageEnv_x hl (fun k hk => by cases hk) (by simp)
      exact ⟨bw, cs, tot, he, Nat.le_trans hz.size hlb, h1, h2, hb⟩)
  clear h
  go_enter Sakg.func12, Sakg.ntmps12
  go_wp2_with fail
  refine (unhide HE).mono ?_
  rintro e w1 ⟨rfl, b1⟩
  go_wp2_with fail
  refine (unhide (HN w1 b1)).mono ?_
  rintro e w2 ⟨bw, cs, tot, rfl, hlb, hn, ht, b2⟩
  have HNN := hide hn
  have HTT := hide ht
  clear hn ht
  go_wp2
  go_ret
  exact ⟨bw, cs, tot, rfl, hlb, unhide HNN, unhide HTT, b1.trans (b2.mono b1.size)⟩
theorem verd_stg {us : List YAcct} (hus : Ahead us) {cr : Bool} {v data : List Int} (hd : data.length ≤ 5) (hv : beN v ≤ 1) (hi : intrN (txY cr v data) ≤ 200000) : verdN (stgY us) 1048576 (zeros 32) (txY cr v data) = 0 := by
  have hf : (txY cr v data).frm = lowAddr 240 := rfl
  have e1 : lookY (stgY us) (lowAddr 240) = s0Y := look_last hus rfl
  have hm : beN (mostW (txY cr v data)) = 0 := beN_zeros
  have ht : beN (tipW (txY cr v data)) = 0 := beN_zeros
  have hg : (txY cr v data).gas = 200000 := rfl
  have hdd : (txY cr v data).data = data := rfl
  have hn : (txY cr v data).nonce = 0 := rfl
  have hl : listB (txY cr v data).access = true := rfl
  have hvv : (txY cr v data).value = v := rfl
  have q1 : s0Y.nonce = 0 := rfl
  have q2 : s0Y.code.length = 0 := rfl
  have q3 : s0Y.bal = 2 ^ 128 := rfl
  unfold verdN
  rw [hf, e1, hm, ht, hg, hdd, hn, hl, hvv, beN_zeros, q1, q2, q3]
  have hp : 1 ≤ (2 : Nat) ^ 128 := Nat.one_le_two_pow
  rw [if_neg (by omega), if_neg (by omega), if_neg (by simp), if_neg (by omega), if_neg (by omega), if_neg (by omega), if_neg (by omega), if_neg (by omega), if_neg (by omega), if_neg (by omega), if_neg (by omega), if_neg (by omega)]
theorem apply_stg {bw B tot : Nat} {cs : List Value} {us : List YAcct} {w w0 : World} (hus : Ahead us) (hlow : ∀ u ∈ us, ∃ z : Int, u.addr = lowAddr z) (hbw : w0.heap.size ≤ bw) (hbelow : Below w0.heap.size w0 w) (hsi : SI (· = bw) bw 0 cs (freshD (stgY us)) (xS tot) w) (hx : XB (xS tot)) (hg : Good B (freshD (stgY us))) (hwt : wt (freshD (stgY us)) ≤ 400000)
    (row : List Value) (cr : Bool) (v data : List Int) (A1 : Option Addr) (k1 c1 : Nat) (htx : TxC row (txY cr v data) A1 k1 c1 none 0 0) (hsrc : Src w0 A1 k1 c1 data) (hd : data.length ≤ 5) (hv : beN v ≤ 1) (hi : intrN (txY cr v data) ≤ 200000) (PD : List Int → List Int → WD → Nat → Prop) (hrun : RunsTo bw (stgY us) (xS tot) (txY cr v data) PD) :
    Calls Sakg.prog 13 #[.pointer (some ⟨bw, 0, none⟩), .agg row.toArray] w (ApX (· = bw) bw (stgY us) (xS tot) (txY cr v data) PD w) := by
  refine apply_x w0 (fun i hi => by have h1 : i = bw := hi; omega) hbelow hsi hx hg hwt (Nat.zero_le _) row (txY cr v data) A1 k1 c1 none 0 0 htx hsrc ⟨[], Rws.ofNil _ 21, trivial⟩ (verd_stg hus hd hv hi) rfl (fun _ => by show nativeN (lowAddr 1) = 0; decide) (fun _ => ?_) (fun a ha h2 => ?_) (by show data.length ≤ 1000; omega) htx.hvalue PD hrun
  · show (lookY (stgY us) (lowAddr 240)).nonce = 0
    have e1 : lookY (stgY us) (lowAddr 240) = s0Y := look_last hus rfl
    rw [e1]
    rfl
  · have hp : priceN (txY cr v data) (xS tot).fee = 0 := price_txY _ _ _
    rw [hp, begA_stg hus]
    have e : lookY (us ++ [s1Y]) a = zeroAcct a := look_high (high_k7 ha h2) (fun u hu => by
      rcases List.mem_append.mp hu with h | h
      · exact hlow u h
      · rw [List.mem_singleton.mp h]
        exact ⟨240, rfl⟩)
    rw [e]
    exact ⟨rfl, rfl⟩

end Go.Proofs.YgcsakGreat
