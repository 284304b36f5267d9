/-
  rlp.Number.
-/
import Derived.Test.YgcsakTmodel
namespace Go.Proofs.Ygcsak
set_option linter.unusedVariables false
set_option linter.unusedSimpArgs false
set_option maxRecDepth 100000
open Go.RowKit

def dropZ (l : List Int) : List Int := l.dropWhile (· == 0)
def sliceLen : Value → Nat | .slice _ n _ => n | _ => 0

theorem dropZ_len (l : List Int) : (dropZ l).length ≤ l.length := by unfold dropZ; exact (List.dropWhile_sublist _).length_le

theorem dropZ_step (l : List Int) (h : 0 < l.length) (h0 : l.getD 0 0 = 0) : dropZ (l.drop 1) = dropZ l := by
  match l, h with
  | x :: l, _ => simp at h0; subst h0; simp [dropZ]
theorem dropZ_stop (l : List Int) (h0 : l.length = 0 ∨ l.getD 0 0 ≠ 0) : dropZ l = l := by
  match l with
  | [] => rfl
  | x :: l => simp at h0; simp [dropZ, h0]

set_option maxHeartbeats 1000000 in
theorem number_nil (ao : Option Addr) (len cap : Nat) (ys : List Int) (w : World) (hs : Src w ao len cap ys) (hm : len + 9 ≤ 140737488355328) :
    Calls Sakg.prog 16 #[.slice none 0 0, .slice ao len cap] w (Makes w (strB (dropZ ys))) := by
  have HS := hide hs
  clear hs
  go_enter Sakg.func16, Sakg.ntmps16
  go_wp2_with fail
  go_loop [1] (fun v => ∃ (a : Option Addr) (l c : Nat) (zs : List Int), v = .slice a l c ∧ Src w a l c zs ∧ l ≤ len ∧ dropZ zs = dropZ ys) (fun v => sliceLen v)
  case atStart => exact ⟨ao, len, cap, ys, rfl, unhide HS, Nat.le_refl _, rfl⟩
  case round =>
    obtain ⟨a, l, c, zs, rfl, hsr, hll, hdz⟩ := hrel
    have hlen := hsr.len_eq
    have HD := hide hdz
    have HL := hide hlen
    clear hdz
    by_cases hl0 : 0 < l
    · obtain ⟨b, off, rfl, hc⟩ := hsr.at_ hl0
      have hc0 : w.cell? ⟨b, off, none⟩ = some (.int .u8 (zs.getD 0 0)) := by simpa using hc 0 hl0
      have hst := dropZ_step zs (by omega)
      have hsp := dropZ_stop zs
      obtain ⟨y, hy⟩ : ∃ y, y = zs.getD 0 0 := ⟨_, rfl⟩
      rw [← hy] at hc0 hst hsp
      clear hc
      by_cases hy0 : y = 0
      · have hst2 := hst hy0
        subst hy0
        clear hst hsp hy
        have hsub := hsr.sub 1 l c (by omega) (Nat.le_refl _) hsr.le (Nat.le_refl _)
        rw [List.take_of_length_le (by simp; omega)] at hsub
        obtain ⟨A, hA⟩ : ∃ A, (if c = 1 then some (⟨b, off, none⟩ : Addr) else some ⟨b, off + 1, none⟩) = A := ⟨_, rfl⟩
        rw [hA] at hsub
        have HSB := hide hsub
        have HST := hide hst2
        have hle := hsr.le
        have hmx := hsr.max
        clear hsub hst2 hsr hlen
        have a2 : (1 : Int) ≤ (l : Int) := by omega
        go_wp2
        go_round
        case rel => exact ⟨A, l - 1, c - 1, zs.drop 1, rfl, unhide HSB, by omega, by rw [unhide HST]; exact unhide HD⟩
        case measure => simp [sliceLen]; omega
      · have hz1 : (y == 0) = false := by simpa using hy0
        have hsp2 := hsp (.inr hy0)
        have HC := hide (string_nil (some ⟨b, off, none⟩) l c zs w hsr (by omega))
        have HP := hide hsp2
        clear hsp hst hsp2 hsr hy0 hy hlen
        go_wp2_with (go_at_call 9; refine (unhide HC).mono ?_; rintro e w1 ⟨a1, n1, c1, rfl, hs1, hb1⟩)
        go_ret
        refine ⟨_, _, _, rfl, ?_, hb1⟩
        rw [← unhide HD, unhide HP]
        exact hs1
    · obtain rfl : l = 0 := by omega
      have hsp := dropZ_stop zs (.inl hlen)
      have HC := hide (string_nil a 0 c zs w hsr (by omega))
      have HP := hide hsp
      clear hsp hsr hlen
      go_wp2_with (go_at_call 9; refine (unhide HC).mono ?_; rintro e w1 ⟨a1, n1, c1, rfl, hs1, hb1⟩)
      go_ret
      refine ⟨_, _, _, rfl, ?_, hb1⟩
      rw [← unhide HD, unhide HP]
      exact hs1

end Go.Proofs.Ygcsak
