/-
  yp: plain (in hand).
-/
import Derived.Test.YgcsakGreatGrowA
namespace Go.Proofs.YgcsakGreat
set_option linter.unusedVariables false
set_option linter.unusedSimpArgs false
set_option maxRecDepth 100000
open Go.RowKit

theorem infoNat1 : (Sakg.prog.info? 54).map (fun i => (i.zero, i.size, i.bytes)) = some (some nilS, 1, 24) := by kernel_rfl

set_option maxHeartbeats 4000000 in
theorem arg_at {bw gf : Nat} {fr : List Value} {pc gas : Nat} {stk : List Nat} {mem code : List Int} {w wz : World} (h : FM bw gf fr pc gas stk mem code w) (hz : Below w.heap.size w wz) (hl : stk.length ≤ 1024) (i : Nat) (hi : i ≤ 1024) :
    Calls Sakg.prog 118 #[.pointer (some ⟨gf, 0, none⟩), .int .i64 i] wz fun e w' => (∃ A k c, e = .returned (.slice A k c) ∧ StabS (GF bw gf) (fun w => IsNat w A k c (argN stk i)) w) ∧ Quiet wz w' := by
  obtain ⟨A, l, c, s1, ⟨rows, s2, s3⟩⟩ := h.stkN
  have hlen : stk.length = l := by rw [← s3.len, s2.now.len_eq]
  have e8 : wz.cell? ⟨gf, 8, none⟩ = some (.slice A l c) := by rw [(h.row.kept hz).cell]; exact s1
  by_cases hil : i < l
  · have t0 : decide ((l : Int) ≤ (i : Int)) = false := decide_eq_false (by omega)
    obtain ⟨b, off, rfl, hlt, hat⟩ := rows_at' 0 s2.now s3 (by omega)
    obtain ⟨r, hrg, hrow⟩ := hat (l - 1 - i) (by omega)
    obtain ⟨A1, k1, c1, rfl, hn⟩ := hrow
    have hcell : wz.cell? ⟨b, off + (l - 1 - i), none⟩ = some (.slice A1 k1 c1) := by
      rw [hz.cell (p := ⟨b, off + (l - 1 - i), none⟩) hlt]
      have := hrg 0 _ rfl
      rwa [Nat.mul_one, Nat.add_zero] at this
    have hval : argN stk i = stk.getD (l - 1 - i) 0 := by rw [argN_at stk i (by omega), hlen]
    rw [← hval] at hn
    obtain ⟨j, hj⟩ : ∃ j, j = l - 1 - i := ⟨_, rfl⟩
    rw [← hj] at hcell
    have e1 : (l : Int) - 1 - (i : Int) = (j : Int) := by omega
    have hjl : j < l := by omega
    have HN := hide hn
    clear hn hrg hat s2 s3 hval hj h hz
    go_enter Sakg.func118, Sakg.ntmps118
    go_wp2_with fail
    go_quiet (fail)
    go_wp2
    go_ret
    exact ⟨⟨A1, k1, c1, rfl, unhide HN⟩, ⟨_, rfl⟩⟩
  · have t0 : decide ((l : Int) ≤ (i : Int)) = true := decide_eq_true (by omega)
    have hzr := argN_none stk i (by omega)
    rw [hzr]
    clear s2 s3 hzr h hz
    go_enter Sakg.func118, Sakg.ntmps118
    go_wp2
    go_ret
    exact ⟨⟨none, 0, 0, rfl, StabS.nat (IsNat.nil _) (OffS.nil _ _)⟩, Quiet.refl _⟩

/-- the operands laid so far -/
def Laid (G : Nat → Prop) (w : World) (stk : List Nat) (cs : List Value) (i : Nat) : Prop := ∀ j, j < i → ∃ A k c, cs[j]? = some (.slice A k c) ∧ StabS G (fun w => IsNat w A k c (argN stk j)) w
theorem Laid.snoc {G : Nat → Prop} {w : World} {stk : List Nat} {cs : List Value} {i : Nat} (h : Laid G w stk cs i) (hi : i < cs.length) {A : Option Addr} {k c : Nat} (hn : StabS G (fun w => IsNat w A k c (argN stk i)) w) : Laid G w stk (cs.set i (.slice A k c)) (i + 1) := by
  intro j hj
  by_cases e : j = i
  · subst e
    exact ⟨A, k, c, List.getElem?_set_self hi, hn⟩
  · obtain ⟨A', k', c', h1, h2⟩ := h j (by omega)
    exact ⟨A', k', c', by rw [List.getElem?_set_ne (by omega)]; exact h1, h2⟩
/-- what plain asks of the value -/
def argsOf (stk : List Nat) (n : Nat) : List Nat := (List.range n).map (argN stk)
theorem Laid.args {bw gf : Nat} {w wz : World} {stk : List Nat} {cs : List Value} {n g : Nat} (h : Laid (GF bw gf) w stk cs n) (hr : RowT 54 wz g cs) (hl : cs.length = n) (hn : n ≤ 100) (hc : ChgS (GF bw gf) w wz) : ArgsR wz (some ⟨g, 0, none⟩) n n (argsOf stk n) := by
  refine ⟨(List.range n).map (fun j => [cs.getD j nilS]), ?_, ?_⟩
  · have hmap : ∀ L : List Nat, (L.map (fun j => [cs.getD j nilS])).flatten = L.map (fun j => cs.getD j nilS) := by
      intro L
      induction L with
      | nil => rfl
      | cons x xs ih => simp only [List.map_cons, List.flatten_cons, ih, List.singleton_append]
    have hfl : ((List.range n).map (fun j => [cs.getD j nilS])).flatten = cs := by
      rw [hmap]
      apply List.ext_getElem?
      intro j
      by_cases hj : j < n
      · simp [hj, List.getD, hl]
      · rw [List.getElem?_eq_none (by simp; omega), List.getElem?_eq_none (by omega)]
    exact Rws.ofRow (by rw [hfl]; exact hr) (fun r hr => by obtain ⟨j, _, rfl⟩ := List.mem_map.1 hr; rfl) (by simp) (by unfold maxLen; omega)
  · have he : ∀ m, m ≤ n → Each (NatR wz) ((List.range m).map (fun j => [cs.getD j nilS])) ((List.range m).map (argN stk)) := by
      intro m
      induction m with
      | zero => intro _; exact trivial
      | succ m ih =>
        intro hm
        rw [List.range_succ, List.map_append, List.map_append]
        refine (ih (by omega)).snoc ?_
        obtain ⟨A, k, c, h1, h2⟩ := h m (by omega)
        refine ⟨A, k, c, ?_, h2 wz hc⟩
        show [cs.getD m nilS] = _
        rw [List.getD_eq_getElem?_getD, h1]
        rfl
    exact he n (Nat.le_refl _)

end Go.Proofs.YgcsakGreat
