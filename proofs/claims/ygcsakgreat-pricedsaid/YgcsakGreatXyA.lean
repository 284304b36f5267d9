/-
  law: the stage as the chain holds it; how a call of account 1 starts.
-/
import Derived.Test.YgcsakGreatXuA
namespace Go.Proofs.YgcsakGreat
set_option linter.unusedVariables false
set_option linter.unusedSimpArgs false
set_option maxRecDepth 100000
open Go.RowKit

def s0Y : YAcct := ⟨lowAddr 240, 0, 2 ^ 128, [], []⟩
def s1Y : YAcct := ⟨lowAddr 240, 1, 2 ^ 128, [], []⟩
def stgY (us : List YAcct) : List YAcct := us ++ [s0Y]
/-- the contracts stand ahead of the sender -/
def Ahead (us : List YAcct) : Prop := ∀ u ∈ us, beforeB u.addr (lowAddr 240) = true ∧ u.addr ≠ lowAddr 240
def txY (cr : Bool) (v : List Int) (data : List Int) : YTx := ⟨lowAddr 240, lowAddr 1, cr, 0, 200000, zeros 32, v, data, false, zeros 32, zeros 32, []⟩
theorem before_self : beforeB (lowAddr 240) (lowAddr 240) = false := by decide +kernel
theorem look_last : ∀ {us : List YAcct}, Ahead us → ∀ {s : YAcct}, s.addr = lowAddr 240 → lookY (us ++ [s]) (lowAddr 240) = s
  | [], _, s, hs => lookY_cons_eq hs
  | u :: us, h, s, hs => by
    rw [List.cons_append, lookY_cons_ne (h u (List.mem_cons_self ..)).2]
    exact look_last (fun v hv => h v (List.mem_cons_of_mem _ hv)) hs
theorem putL_last {t : YAcct} (ht : t.addr = lowAddr 240) : ∀ {us : List YAcct}, Ahead us → ∀ {s : YAcct}, s.addr = lowAddr 240 → putL t false (us ++ [s]) = us ++ [t]
  | [], _, s, hs => by
    show putL t false [s] = [t]
    rw [putL, putL, hs, ht, before_self]
    simp
  | u :: us, h, s, hs => by
    obtain ⟨h1, h2⟩ := h u (List.mem_cons_self ..)
    rw [List.cons_append, putL, ht, h1, if_neg (by simp), if_neg h2]
    show [] ++ [u] ++ putL t false (us ++ [s]) = _
    rw [putL_last ht (fun v hv => h v (List.mem_cons_of_mem _ hv)) hs]
    rfl
theorem put_last {us : List YAcct} (h : Ahead us) {s t : YAcct} (hs : s.addr = lowAddr 240) (ht : t.addr = lowAddr 240) (hn : t.nonce ≠ 0) : putY (us ++ [s]) t = us ++ [t] := by
  have he : (emptyY t && decide (t.slots.length = 0)) = false := by
    unfold emptyY
    rw [decide_eq_false hn]
    rfl
  unfold putY
  rw [he]
  exact putL_last ht h hs
theorem begA_stg {us : List YAcct} (h : Ahead us) (cr : Bool) (v data : List Int) : begA (stgY us) (txY cr v data) 0 = us ++ [s1Y] := by
  have e1 : lookY (stgY us) (lowAddr 240) = s0Y := look_last h rfl
  have e2 : nonY (stgY us) (lowAddr 240) 1 = us ++ [s1Y] := by
    unfold nonY
    rw [e1]
    exact put_last h rfl rfl (by decide)
  show balY (nonY (stgY us) (lowAddr 240) ((lookY (stgY us) (lowAddr 240)).nonce + 1)) (lowAddr 240) ((lookY (stgY us) (lowAddr 240)).bal - 200000 * 0) = _
  rw [e1]
  show balY (nonY (stgY us) (lowAddr 240) 1) (lowAddr 240) (2 ^ 128) = _
  rw [e2]
  unfold balY
  rw [look_last h rfl]
  exact put_last h rfl rfl (by decide)
theorem price_txY (cr : Bool) (v data : List Int) : priceN (txY cr v data) (zeros 32) = 0 := by
  show beN (zeros 32) + min (beN (zeros 32)) (beN (zeros 32) - beN (zeros 32)) = 0
  rw [beN_zeros]
  rfl
theorem intr_call (v : List Int) : intrN (txY false v []) = 21000 := rfl
theorem move_zero (ds : List YAcct) (f t : List Int) : moveY ds f t 0 = ds := by
  unfold moveY
  rw [if_neg (by omega)]
/-- the world as the outer frame finds it, but for the value -/
def bDY (us : List YAcct) (als : List (List Int)) : WD := { freshD (us ++ [s1Y]) with warmA := als }
def oFY (code : List Int) (v : Nat) (sv : WD) : FD := { outerF 0 v (lowAddr 1) (lowAddr 240) with code := code, saved := sv }
/-- the addresses that are warm -/
def Warm0 (tg : List Int) (als : List (List Int)) : Prop := ∀ a, a ∈ als ↔ a = lowAddr 5 ∨ a = lowAddr 4 ∨ a = tg ∨ a = lowAddr 192 ∨ a = lowAddr 240
/-- a run that ends well, with what is asked of its world and its gas -/
def Ends (GW : Nat → Prop) (W : World) (bw B : Nat) (X : XD) (PD : WD → Nat → Prop) (w : World) : Prop := ∃ D left, PD D left ∧ D.gone = [] ∧ left ≤ 200000 ∧ EndX GW W bw B 5000000 D X left w
def CallRuns (bw : Nat) (us : List YAcct) (code : List Int) (x : XD) (v : List Int) (PD : WD → Nat → Prop) : Prop :=
  ∀ (GW : Nat → Prop) (W w : World) (B : Nat) (als : List (List Int)), Warm0 (lowAddr 1) als → Good B (bDY us als) →
    RunX GW W bw B 4000000 { bDY us als with accts := moveY (us ++ [s1Y]) (lowAddr 240) (lowAddr 1) (beN v) } (at4 (oFY code (beN v) (bDY us als)) 179000 0 [] 0) [] (begX (stgY us) x (txY false v []) (zeros 20)) true w →
    ∃ n, Goes bw (Ends GW W bw B (begX (stgY us) x (txY false v []) (zeros 20)) PD) n w
theorem runs_call {bw : Nat} {us : List YAcct} {code : List Int} {x : XD} {v : List Int} {PD : WD → Nat → Prop} (hus : Ahead us) (hu : (lookY (us ++ [s1Y]) (lowAddr 1)).code = code) (hfee : x.fee = zeros 32) (hcoin : x.coin = lowAddr 192) (h : CallRuns bw us code x v PD) :
    RunsTo bw (stgY us) x (txY false v []) (fun _ md D left => md = zeros 20 ∧ PD D left) := by
  intro GW W w1 B tg md als D1 htg hta hal hent hg hr
  have hp : priceN (txY false v []) x.fee = 0 := by rw [hfee]; exact price_txY _ _ _
  have hbd : begD (stgY us) (txY false v []) (priceN (txY false v []) x.fee) als = bDY us als := by
    rw [hp]
    unfold begD bDY
    rw [begA_stg hus]
    rfl
  obtain ⟨rfl, rfl⟩ : tg = lowAddr 1 ∧ md = zeros 20 := by
    rcases htg with ⟨-, h2, h3⟩ | ⟨h1, -⟩
    · exact ⟨h2, h3⟩
    · cases h1
  have hD1 : D1 = bDY us als := by
    rcases hent with ⟨-, h2⟩ | ⟨h1, -⟩
    · rw [h2, hbd]
    · cases h1
  rw [hbd] at hg
  have hfr : outFr (stgY us) x (txY false v []) (lowAddr 1) als = at4 (oFY code (beN v) (bDY us als)) 179000 0 [] 0 := by
    unfold outFr
    rw [hbd, hp]
    unfold begF
    rw [begA_stg hus, hu]
    rfl
  have hout : outD (stgY us) x (txY false v []) (lowAddr 1) als D1 = { bDY us als with accts := moveY (us ++ [s1Y]) (lowAddr 240) (lowAddr 1) (beN v) } := by
    unfold outD
    rw [hD1]
    rfl
  rw [hfr, hout] at hr
  obtain ⟨n, hn⟩ := h GW W w1 B als (fun a => by rw [hal a, hcoin]; rfl) hg hr
  refine ⟨n, ?_⟩
  have : (fun w' => ∃ D left, (zeros 20 = zeros 20 ∧ PD D left) ∧ D.gone = [] ∧ left ≤ (txY false v []).gas ∧ EndX GW W bw B 5000000 D (begX (stgY us) x (txY false v []) (zeros 20)) left w') = Ends GW W bw B (begX (stgY us) x (txY false v []) (zeros 20)) PD := by
    funext w'
    unfold Ends
    simp only [true_and, eq_self_iff_true]
    rfl
  rw [this]
  exact hn
section
variable {G0 : Nat → Prop} {W : World} {bw B K K' : Nat} {d : WD} {f : FD} {r : List FD} {x : XD} {z : Bool} {w : World}
theorem EndX.upto {left : Nat} (h : EndX G0 W bw B K d x left w) (hK : K ≤ K') (ht : K' + 60000 ≤ 2250000000) : EndX G0 W bw B K' d x left w := ⟨h.run, h.xb, h.good, Nat.le_trans h.wtle hK, ht, h.left⟩
end
theorem costB_new {p : Nat} {s : List Nat} {t b : Nat} (h : reachA p s = t) : costB p s 0 b = b + memN ((t + 31) / 32) := by
  unfold costB needA
  rw [h]
  have : max ((t + 31) / 32) (0 / 32) = (t + 31) / 32 := by omega
  rw [this]
  have : memN (0 / 32) = 0 := rfl
  omega
theorem memN_130 (m : Nat) (h : m ≤ 40) : memN m ≤ 130 := by
  have := Nat.mul_le_mul h h
  unfold memN
  omega
theorem end_zero (n : Nat) : endN 0 n = n := by
  unfold endN
  split <;> omega
def p2Y (n : Nat) : List Int := [97, ((n / 256 : Nat) : Int), ((n % 256 : Nat) : Int)]
theorem p2Y_val (n : Nat) (xs ys : List Int) (hx : xs.length = 0 ∨ xs.length = 1) : val (cutL (xs ++ p2Y n ++ ys) (xs.length + 1) (immA 97)).reverse = n := by
  match xs, hx with
  | [], _ =>
    show n % 256 + 256 * (n / 256 + 256 * 0) = n
    omega
  | [a], _ =>
    show n % 256 + 256 * (n / 256 + 256 * 0) = n
    omega
  | _ :: _ :: _, h => simp at h
/-- what a run has used -/
def UsedIs (u : Nat) (D : WD) (left : Nat) : Prop := usedN 200000 left D.refund = u
theorem used_plain {left u : Nat} {D : WD} (hr : D.refund = 0) (h : left + u = 200000) : UsedIs u D left := by
  unfold UsedIs usedN
  rw [hr]
  omega

end Go.Proofs.YgcsakGreat
