/-
  yp: laws for plain: the operands laid in a list of their own.
-/
import Derived.Test.YgcsakGreatKhC
import Derived.Test.YgcsakGreatKfB
namespace Go.Proofs.YgcsakGreat
set_option linter.unusedVariables false
set_option maxRecDepth 100000
open Go.RowKit

/-- the operands laid so far -/
def LaidK (G : Nat → Prop) (w : World) (stk : List Nat) (cs : List Value) (i : Nat) : Prop := ∀ j, j < i → ∃ A k c, cs[j]? = some (.slice A k c) ∧ KNat G w A k c (argN stk j)
theorem LaidK.snoc {G : Nat → Prop} {w : World} {stk : List Nat} {cs : List Value} {i : Nat} (h : LaidK G w stk cs i) (hi : i < cs.length) {A : Option Addr} {k c : Nat} (hn : KNat G w A k c (argN stk i)) : LaidK G w stk (cs.set i (.slice A k c)) (i + 1) := by
  intro j hj
  by_cases e : j = i
  · subst e
    exact ⟨A, k, c, List.getElem?_set_self hi, hn⟩
  · obtain ⟨A', k', c', h1, h2⟩ := h j (by omega)
    exact ⟨A', k', c', by rw [List.getElem?_set_ne (by omega)]; exact h1, h2⟩
/-- the operands, the top one first -/
def argsK (stk : List Nat) (n : Nat) : List Nat := (List.range n).map (argN stk)
theorem argsK_get (stk : List Nat) (n i : Nat) (h : i < n) : (argsK stk n).getD i 0 = argN stk i := by
  simp [argsK, List.getD, h]
theorem argsK_lt {stk : List Nat} (h : ∀ x ∈ stk, x < P256) (n i : Nat) : (argsK stk n).getD i 0 < P256 := by
  by_cases hi : i < n
  · rw [argsK_get stk n i hi]
    exact argN_lt h i
  · have hz : (argsK stk n)[i]? = none := List.getElem?_eq_none (by simp [argsK]; omega)
    rw [List.getD_eq_getElem?_getD, hz]
    have := p256_ge
    show 0 < P256
    omega
theorem LaidK.stk {G : Nat → Prop} {w wz : World} {stk : List Nat} {cs : List Value} {n g : Nat} (h : LaidK G w stk cs n) (hr : RowT 54 wz g cs) (hl : cs.length = n) (hn : n ≤ 100) (hg : ¬ G g) (hc : ChgS G w wz) : SStk G wz (some ⟨g, 0, none⟩) n n (argsK stk n) := by
  refine ⟨(List.range n).map (fun j => [cs.getD j nilS]), StabS.rws ?_ (fun x hx _ hh => ?_), ?_⟩
  · have hmap : ∀ L : List Nat, (L.map (fun j => [cs.getD j nilS])).flatten = L.map (fun j => cs.getD j nilS) := by
      intro L
      induction L with
      | nil => rfl
      | cons x xs ih => simp only [List.map_cons, List.flatten_cons, ih, List.singleton_append]
    have hfl : ((List.range n).map (fun j => [cs.getD j nilS])).flatten = cs := by
      rw [hmap]
      apply List.ext_getElem?
      intro j
      by_cases hj : j < n
      · simp [hj, List.getD, hl]
      · rw [List.getElem?_eq_none (by simp; omega), List.getElem?_eq_none (by omega)]
    exact Rws.ofRow (by rw [hfl]; exact hr) (fun r hr => by obtain ⟨j, _, rfl⟩ := List.mem_map.1 hr; rfl) (by simp) (by unfold maxLen; omega)
  · rw [← Option.some.inj hx] at hh
    exact hg hh
  · have he : ∀ m, m ≤ n → Each (SNat G wz) ((List.range m).map (fun j => [cs.getD j nilS])) ((List.range m).map (argN stk)) := by
      intro m
      induction m with
      | zero => intro _; exact trivial
      | succ m ih =>
        intro hm
        rw [List.range_succ, List.map_append, List.map_append]
        refine (ih (by omega)).snoc ?_
        obtain ⟨A, k, c, h1, h2⟩ := h m (by omega)
        refine ⟨A, k, c, ?_, h2.kp hc⟩
        show [cs.getD m nilS] = _
        rw [List.getD_eq_getElem?_getD, h1]
        rfl
    exact he n (Nat.le_refl _)

/-- an operand read later on: what it says of the old world -/
theorem FX.argAt {G : Nat → Prop} {gf o : Nat} {fr : List Value} {f : FD} {w wz : World} (h : FX G gf o fr f w) (hb : Below w.heap.size w wz) (hl : f.stk.length ≤ 1024) (i : Nat) (hi : i ≤ 1024) :
    Calls Sakg.prog 118 #[.pointer (some ⟨gf, o, none⟩), .int .i64 i] wz fun e w' => (∃ A k c, e = .returned (.slice A k c) ∧ KNat G w A k c (argN f.stk i)) ∧ Quiet wz w' := by
  obtain ⟨A, l, c, s1, ⟨rows, s2, s3⟩⟩ := h.kf.stk
  have hlen : f.stk.length = l := by rw [← s3.len, s2.now.len_eq]
  have e8 : wz.cell? ⟨gf, o + 8, none⟩ = some (.slice A l c) := (h.kept hb).cell s1
  by_cases hil : i < l
  · have t0 : decide ((l : Int) ≤ (i : Int)) = false := decide_eq_false (by omega)
    obtain ⟨b, off, rfl, hlt, hat⟩ := rows_at' 0 s2.now s3 (by omega)
    obtain ⟨r, hrg, hrow⟩ := hat (l - 1 - i) (by omega)
    obtain ⟨A1, k1, c1, rfl, hn⟩ := hrow
    have hcell : wz.cell? ⟨b, off + (l - 1 - i), none⟩ = some (.slice A1 k1 c1) := by
      have := (range_below hrg hb (fun _ => hlt)) 0 _ rfl
      rwa [Nat.mul_one, Nat.add_zero] at this
    have hval : argN f.stk i = f.stk.getD (l - 1 - i) 0 := by rw [argN_at f.stk i (by omega), hlen]
    rw [← hval] at hn
    obtain ⟨j, hj⟩ : ∃ j, j = l - 1 - i := ⟨_, rfl⟩
    rw [← hj] at hcell
    have e1 : (l : Int) - 1 - (i : Int) = (j : Int) := by omega
    have hjl : j < l := by omega
    have HN := hide hn
    clear hn hrg hat s2 s3 hval hj h s1
    go_enter Sakg.func118, Sakg.ntmps118
    go_wp2_with fail
    go_quiet (fail)
    go_wp2
    go_ret
    exact ⟨⟨A1, k1, c1, rfl, unhide HN⟩, ⟨_, rfl⟩⟩
  · have t0 : decide ((l : Int) ≤ (i : Int)) = true := decide_eq_true (by omega)
    have hz := argN_none f.stk i (by omega)
    rw [hz]
    clear s2 s3 hz h s1
    go_enter Sakg.func118, Sakg.ntmps118
    go_wp2
    go_ret
    exact ⟨⟨none, 0, 0, rfl, StabS.nat (IsNat.nil _) (OffS.nil _ _)⟩, Quiet.refl _⟩

/-- the top frame goes on: its stack and its place -/
theorem SR.next {G : Nat → Prop} {bw gf : Nat} {cs fr : List Value} {d : WD} {f : FD} {r : List FD} {x : XD} {w : World} (h : SR G bw gf cs fr d (f :: r) x w) {A8 : Option Addr} {l8 c8 : Nat} {stk : List Nat} (hs : SStk G w A8 l8 c8 stk) {A3 : Option Addr} {k3 c3 pc : Nat} (hp : KNat G w A3 k3 c3 pc) :
    ∃ fr', fr'.length = fr.length ∧ SR G bw gf cs fr' d ({ f with stk := stk, pc := pc } :: r) x ((w.setCell ⟨gf, 60 * r.length + 8, none⟩ (.slice A8 l8 c8)).setCell ⟨gf, 60 * r.length + 3, none⟩ (.slice A3 k3 c3)) ∧ Mv G w ((w.setCell ⟨gf, 60 * r.length + 8, none⟩ (.slice A8 l8 c8)).setCell ⟨gf, 60 * r.length + 3, none⟩ (.slice A3 k3 c3)) := by
  obtain ⟨h1, o1⟩ := h.put (j := 8) (by omega) (h.fx.kf.setStk hs)
  obtain ⟨h2, o2⟩ := h1.put (j := 3) (by omega) (h1.fx.kf.setPc (hp.kp (ChgS.only o1 h.g)))
  exact ⟨_, by rw [List.length_set, List.length_set], h2, (Mv.frame h.row h.g (Chg.ofOnly o1)).trans (Mv.frame h1.row h1.g (Chg.ofOnly o2))⟩

end Go.Proofs.YgcsakGreat
