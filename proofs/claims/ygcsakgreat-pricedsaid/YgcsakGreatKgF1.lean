/-
  yp: bareCost at any instruction.
-/
import Derived.Test.YgcsakGreatKgF0
namespace Go.Proofs.YgcsakGreat
set_option linter.unusedVariables false
set_option linter.unusedSimpArgs false
set_option maxRecDepth 100000
open Go.RowKit

section
variable {G : Nat → Prop} {bw gf : Nat} {cs fr : List Value} {d : WD} {f : FD} {r : List FD} {x : XD} {w : World} {B : Nat}
set_option maxHeartbeats 8000000 in
theorem bareC_0 (h : SR G bw gf cs fr d (f :: r) x w) (hx : XB x) (hg : Good B d) (hf : AnyF f) :
    Calls Sakg.prog 300 #[.pointer (some ⟨bw, 0, none⟩), .pointer (some ⟨gf, 60 * r.length, none⟩), .int .u8 0] w (BareR 0 f.stk w) := by
  have hBB := big_ge
  have hP := p256_ge
  have hPB := p256_big2
  have hP40 := pow40_ge
  have hP41 := pow41_ge
  have hB41 : (256 : Nat) ^ 41 ≤ BIG := big_pow 41 (by omega)
  have hs := argN_lt hf.stk
  have hsl := hf.slen
  have hfx := h.fx
  obtain ⟨o, ho⟩ : ∃ o, o = 60 * r.length := ⟨_, rfl⟩
  rw [← ho] at hfx ⊢
  have HF := hide hfx
  have HS := hide hs
  have HCW := hide h.cw
  have hc : 0 < 256 ^ 41 := by omega
  have hlow : Low 0 f.stk 0 := ⟨fun _ _ _ => by omega, fun hh => by unfold growO at hh; omega, fun hh => by omega, fun _ _ => by omega⟩
  have HL := hide hlow
  have HN := hide (num_any 0 w (by omega))
  clear h hfx hs ho hx hg hf hlow
  go_enter Sakg.func300, Sakg.ntmps300
  go_wp2_with (go_at_call 97; refine (unhide HN).mono ?_; rintro e w1 ⟨A1, k1, c1, rfl, n1, N1, b1⟩; have NN1 := hide n1; clear n1)
  go_ret
  exact ⟨A1, k1, c1, 0, rfl, unhide NN1, N1, hc, unhide HL, b1⟩
set_option maxHeartbeats 8000000 in
theorem bareC_1 (h : SR G bw gf cs fr d (f :: r) x w) (hx : XB x) (hg : Good B d) (hf : AnyF f) :
    Calls Sakg.prog 300 #[.pointer (some ⟨bw, 0, none⟩), .pointer (some ⟨gf, 60 * r.length, none⟩), .int .u8 1] w (BareR 1 f.stk w) := by
  have hBB := big_ge
  have hP := p256_ge
  have hPB := p256_big2
  have hP40 := pow40_ge
  have hP41 := pow41_ge
  have hB41 : (256 : Nat) ^ 41 ≤ BIG := big_pow 41 (by omega)
  have hs := argN_lt hf.stk
  have hsl := hf.slen
  have hfx := h.fx
  obtain ⟨o, ho⟩ : ∃ o, o = 60 * r.length := ⟨_, rfl⟩
  rw [← ho] at hfx ⊢
  have HF := hide hfx
  have HS := hide hs
  have HCW := hide h.cw
  have hc : 3 < 256 ^ 41 := by omega
  have hlow : Low 1 f.stk 3 := ⟨fun _ _ _ => by omega, fun hh => by unfold growO at hh; omega, fun hh => by omega, fun _ _ => by omega⟩
  have HL := hide hlow
  have HN := hide (num_any 3 w (by omega))
  clear h hfx hs ho hx hg hf hlow
  go_enter Sakg.func300, Sakg.ntmps300
  go_wp2_with (go_at_call 97; refine (unhide HN).mono ?_; rintro e w1 ⟨A1, k1, c1, rfl, n1, N1, b1⟩; have NN1 := hide n1; clear n1)
  go_ret
  exact ⟨A1, k1, c1, 3, rfl, unhide NN1, N1, hc, unhide HL, b1⟩
set_option maxHeartbeats 8000000 in
theorem bareC_2 (h : SR G bw gf cs fr d (f :: r) x w) (hx : XB x) (hg : Good B d) (hf : AnyF f) :
    Calls Sakg.prog 300 #[.pointer (some ⟨bw, 0, none⟩), .pointer (some ⟨gf, 60 * r.length, none⟩), .int .u8 2] w (BareR 2 f.stk w) := by
  have hBB := big_ge
  have hP := p256_ge
  have hPB := p256_big2
  have hP40 := pow40_ge
  have hP41 := pow41_ge
  have hB41 : (256 : Nat) ^ 41 ≤ BIG := big_pow 41 (by omega)
  have hs := argN_lt hf.stk
  have hsl := hf.slen
  have hfx := h.fx
  obtain ⟨o, ho⟩ : ∃ o, o = 60 * r.length := ⟨_, rfl⟩
  rw [← ho] at hfx ⊢
  have HF := hide hfx
  have HS := hide hs
  have HCW := hide h.cw
  have hc : 5 < 256 ^ 41 := by omega
  have hlow : Low 2 f.stk 5 := ⟨fun _ _ _ => by omega, fun hh => by unfold growO at hh; omega, fun hh => by omega, fun _ _ => by omega⟩
  have HL := hide hlow
  have HN := hide (num_any 5 w (by omega))
  clear h hfx hs ho hx hg hf hlow
  go_enter Sakg.func300, Sakg.ntmps300
  go_wp2_with (go_at_call 97; refine (unhide HN).mono ?_; rintro e w1 ⟨A1, k1, c1, rfl, n1, N1, b1⟩; have NN1 := hide n1; clear n1)
  go_ret
  exact ⟨A1, k1, c1, 5, rfl, unhide NN1, N1, hc, unhide HL, b1⟩
set_option maxHeartbeats 8000000 in
theorem bareC_3 (h : SR G bw gf cs fr d (f :: r) x w) (hx : XB x) (hg : Good B d) (hf : AnyF f) :
    Calls Sakg.prog 300 #[.pointer (some ⟨bw, 0, none⟩), .pointer (some ⟨gf, 60 * r.length, none⟩), .int .u8 3] w (BareR 3 f.stk w) := by
  have hBB := big_ge
  have hP := p256_ge
  have hPB := p256_big2
  have hP40 := pow40_ge
  have hP41 := pow41_ge
  have hB41 : (256 : Nat) ^ 41 ≤ BIG := big_pow 41 (by omega)
  have hs := argN_lt hf.stk
  have hsl := hf.slen
  have hfx := h.fx
  obtain ⟨o, ho⟩ : ∃ o, o = 60 * r.length := ⟨_, rfl⟩
  rw [← ho] at hfx ⊢
  have HF := hide hfx
  have HS := hide hs
  have HCW := hide h.cw
  have hc : 3 < 256 ^ 41 := by omega
  have hlow : Low 3 f.stk 3 := ⟨fun _ _ _ => by omega, fun hh => by unfold growO at hh; omega, fun hh => by omega, fun _ _ => by omega⟩
  have HL := hide hlow
  have HN := hide (num_any 3 w (by omega))
  clear h hfx hs ho hx hg hf hlow
  go_enter Sakg.func300, Sakg.ntmps300
  go_wp2_with (go_at_call 97; refine (unhide HN).mono ?_; rintro e w1 ⟨A1, k1, c1, rfl, n1, N1, b1⟩; have NN1 := hide n1; clear n1)
  go_ret
  exact ⟨A1, k1, c1, 3, rfl, unhide NN1, N1, hc, unhide HL, b1⟩
set_option maxHeartbeats 8000000 in
theorem bareC_4 (p : Nat) (h1 : 4 ≤ p) (h2 : p ≤ 7) (h : SR G bw gf cs fr d (f :: r) x w) (hx : XB x) (hg : Good B d) (hf : AnyF f) :
    Calls Sakg.prog 300 #[.pointer (some ⟨bw, 0, none⟩), .pointer (some ⟨gf, 60 * r.length, none⟩), .int .u8 p] w (BareR p f.stk w) := by
  have hBB := big_ge
  have hP := p256_ge
  have hPB := p256_big2
  have hP40 := pow40_ge
  have hP41 := pow41_ge
  have hB41 : (256 : Nat) ^ 41 ≤ BIG := big_pow 41 (by omega)
  have hs := argN_lt hf.stk
  have hsl := hf.slen
  have hfx := h.fx
  obtain ⟨o, ho⟩ : ∃ o, o = 60 * r.length := ⟨_, rfl⟩
  rw [← ho] at hfx ⊢
  have HF := hide hfx
  have HS := hide hs
  have HCW := hide h.cw
  have hc : 5 < 256 ^ 41 := by omega
  have hlow : Low p f.stk 5 := ⟨fun _ _ _ => by omega, fun hh => by unfold growO at hh; omega, fun hh => by omega, fun _ _ => by omega⟩
  have HL := hide hlow
  have HN := hide (num_any 5 w (by omega))
  clear h hfx hs ho hx hg hf hlow
  have u96 : decide ((96 : Int) ≤ (p : Int)) = false := decide_eq_false (by omega)
  have u16 : decide ((16 : Int) ≤ (p : Int)) = false := decide_eq_false (by omega)
  have t1 : ((p : Int) == 1) = false := by rw [beq_eq_false_iff_ne]; omega
  have t3 : ((p : Int) == 3) = false := by rw [beq_eq_false_iff_ne]; omega
  have t53 : ((p : Int) == 53) = false := by rw [beq_eq_false_iff_ne]; omega
  have u81 : decide ((81 : Int) ≤ (p : Int)) = false := decide_eq_false (by omega)
  have t2 : ((p : Int) == 2) = false := by rw [beq_eq_false_iff_ne]; omega
  have u4 : decide ((4 : Int) ≤ (p : Int)) = true := decide_eq_true (by omega)
  have v7 : decide ((p : Int) ≤ 7) = true := decide_eq_true (by omega)
  go_enter Sakg.func300, Sakg.ntmps300
  go_wp2_with (go_at_call 97; refine (unhide HN).mono ?_; rintro e w1 ⟨A1, k1, c1, rfl, n1, N1, b1⟩; have NN1 := hide n1; clear n1)
  go_ret
  exact ⟨A1, k1, c1, 5, rfl, unhide NN1, N1, hc, unhide HL, b1⟩
set_option maxHeartbeats 8000000 in
theorem bareC_8 (h : SR G bw gf cs fr d (f :: r) x w) (hx : XB x) (hg : Good B d) (hf : AnyF f) :
    Calls Sakg.prog 300 #[.pointer (some ⟨bw, 0, none⟩), .pointer (some ⟨gf, 60 * r.length, none⟩), .int .u8 8] w (BareR 8 f.stk w) := by
  have hBB := big_ge
  have hP := p256_ge
  have hPB := p256_big2
  have hP40 := pow40_ge
  have hP41 := pow41_ge
  have hB41 : (256 : Nat) ^ 41 ≤ BIG := big_pow 41 (by omega)
  have hs := argN_lt hf.stk
  have hsl := hf.slen
  have hfx := h.fx
  obtain ⟨o, ho⟩ : ∃ o, o = 60 * r.length := ⟨_, rfl⟩
  rw [← ho] at hfx ⊢
  have HF := hide hfx
  have HS := hide hs
  have HCW := hide h.cw
  have hc : 8 < 256 ^ 41 := by omega
  have hlow : Low 8 f.stk 8 := ⟨fun _ _ _ => by omega, fun hh => by unfold growO at hh; omega, fun hh => by omega, fun _ _ => by omega⟩
  have HL := hide hlow
  have HN := hide (num_any 8 w (by omega))
  clear h hfx hs ho hx hg hf hlow
  go_enter Sakg.func300, Sakg.ntmps300
  go_wp2_with (go_at_call 97; refine (unhide HN).mono ?_; rintro e w1 ⟨A1, k1, c1, rfl, n1, N1, b1⟩; have NN1 := hide n1; clear n1)
  go_ret
  exact ⟨A1, k1, c1, 8, rfl, unhide NN1, N1, hc, unhide HL, b1⟩
set_option maxHeartbeats 8000000 in
theorem bareC_9 (h : SR G bw gf cs fr d (f :: r) x w) (hx : XB x) (hg : Good B d) (hf : AnyF f) :
    Calls Sakg.prog 300 #[.pointer (some ⟨bw, 0, none⟩), .pointer (some ⟨gf, 60 * r.length, none⟩), .int .u8 9] w (BareR 9 f.stk w) := by
  have hBB := big_ge
  have hP := p256_ge
  have hPB := p256_big2
  have hP40 := pow40_ge
  have hP41 := pow41_ge
  have hB41 : (256 : Nat) ^ 41 ≤ BIG := big_pow 41 (by omega)
  have hs := argN_lt hf.stk
  have hsl := hf.slen
  have hfx := h.fx
  obtain ⟨o, ho⟩ : ∃ o, o = 60 * r.length := ⟨_, rfl⟩
  rw [← ho] at hfx ⊢
  have HF := hide hfx
  have HS := hide hs
  have HCW := hide h.cw
  have hc : 8 < 256 ^ 41 := by omega
  have hlow : Low 9 f.stk 8 := ⟨fun _ _ _ => by omega, fun hh => by unfold growO at hh; omega, fun hh => by omega, fun _ _ => by omega⟩
  have HL := hide hlow
  have HN := hide (num_any 8 w (by omega))
  clear h hfx hs ho hx hg hf hlow
  go_enter Sakg.func300, Sakg.ntmps300
  go_wp2_with (go_at_call 97; refine (unhide HN).mono ?_; rintro e w1 ⟨A1, k1, c1, rfl, n1, N1, b1⟩; have NN1 := hide n1; clear n1)
  go_ret
  exact ⟨A1, k1, c1, 8, rfl, unhide NN1, N1, hc, unhide HL, b1⟩
set_option maxHeartbeats 8000000 in
theorem bareC_11 (h : SR G bw gf cs fr d (f :: r) x w) (hx : XB x) (hg : Good B d) (hf : AnyF f) :
    Calls Sakg.prog 300 #[.pointer (some ⟨bw, 0, none⟩), .pointer (some ⟨gf, 60 * r.length, none⟩), .int .u8 11] w (BareR 11 f.stk w) := by
  have hBB := big_ge
  have hP := p256_ge
  have hPB := p256_big2
  have hP40 := pow40_ge
  have hP41 := pow41_ge
  have hB41 : (256 : Nat) ^ 41 ≤ BIG := big_pow 41 (by omega)
  have hs := argN_lt hf.stk
  have hsl := hf.slen
  have hfx := h.fx
  obtain ⟨o, ho⟩ : ∃ o, o = 60 * r.length := ⟨_, rfl⟩
  rw [← ho] at hfx ⊢
  have HF := hide hfx
  have HS := hide hs
  have HCW := hide h.cw
  have hc : 5 < 256 ^ 41 := by omega
  have hlow : Low 11 f.stk 5 := ⟨fun _ _ _ => by omega, fun hh => by unfold growO at hh; omega, fun hh => by omega, fun _ _ => by omega⟩
  have HL := hide hlow
  have HN := hide (num_any 5 w (by omega))
  clear h hfx hs ho hx hg hf hlow
  go_enter Sakg.func300, Sakg.ntmps300
  go_wp2_with (go_at_call 97; refine (unhide HN).mono ?_; rintro e w1 ⟨A1, k1, c1, rfl, n1, N1, b1⟩; have NN1 := hide n1; clear n1)
  go_ret
  exact ⟨A1, k1, c1, 5, rfl, unhide NN1, N1, hc, unhide HL, b1⟩
set_option maxHeartbeats 8000000 in
theorem bareC_12 (p : Nat) (h1 : 12 ≤ p) (h2 : p ≤ 15) (h : SR G bw gf cs fr d (f :: r) x w) (hx : XB x) (hg : Good B d) (hf : AnyF f) :
    Calls Sakg.prog 300 #[.pointer (some ⟨bw, 0, none⟩), .pointer (some ⟨gf, 60 * r.length, none⟩), .int .u8 p] w (BareR p f.stk w) := by
  have hBB := big_ge
  have hP := p256_ge
  have hPB := p256_big2
  have hP40 := pow40_ge
  have hP41 := pow41_ge
  have hB41 : (256 : Nat) ^ 41 ≤ BIG := big_pow 41 (by omega)
  have hs := argN_lt hf.stk
  have hsl := hf.slen
  have hfx := h.fx
  obtain ⟨o, ho⟩ : ∃ o, o = 60 * r.length := ⟨_, rfl⟩
  rw [← ho] at hfx ⊢
  have HF := hide hfx
  have HS := hide hs
  have HCW := hide h.cw
  have hc : 2 < 256 ^ 41 := by omega
  have hlow : Low p f.stk 2 := ⟨fun _ _ _ => by omega, fun hh => by unfold growO at hh; omega, fun hh => by omega, fun _ _ => by omega⟩
  have HL := hide hlow
  have HN := hide (num_any 2 w (by omega))
  have HFm := hide (family_any p (by omega) w)
  have hf0 : ((famA p : Int) == 16) = false := by
    have : famA p ≠ 16 := by unfold famA; repeat (first | omega | split)
    rw [beq_eq_false_iff_ne]; omega
  generalize famA p = F at HFm hf0
  clear h hfx hs ho hx hg hf hlow
  have u96 : decide ((96 : Int) ≤ (p : Int)) = false := decide_eq_false (by omega)
  have u16 : decide ((16 : Int) ≤ (p : Int)) = false := decide_eq_false (by omega)
  have t1 : ((p : Int) == 1) = false := by rw [beq_eq_false_iff_ne]; omega
  have t3 : ((p : Int) == 3) = false := by rw [beq_eq_false_iff_ne]; omega
  have t53 : ((p : Int) == 53) = false := by rw [beq_eq_false_iff_ne]; omega
  have u81 : decide ((81 : Int) ≤ (p : Int)) = false := decide_eq_false (by omega)
  have t2 : ((p : Int) == 2) = false := by rw [beq_eq_false_iff_ne]; omega
  have u4 : decide ((4 : Int) ≤ (p : Int)) = true := decide_eq_true (by omega)
  have v7 : decide ((p : Int) ≤ 7) = false := decide_eq_false (by omega)
  have t11 : ((p : Int) == 11) = false := by rw [beq_eq_false_iff_ne]; omega
  have t71 : ((p : Int) == 71) = false := by rw [beq_eq_false_iff_ne]; omega
  have t8 : ((p : Int) == 8) = false := by rw [beq_eq_false_iff_ne]; omega
  have t9 : ((p : Int) == 9) = false := by rw [beq_eq_false_iff_ne]; omega
  have t86 : ((p : Int) == 86) = false := by rw [beq_eq_false_iff_ne]; omega
  have t87 : ((p : Int) == 87) = false := by rw [beq_eq_false_iff_ne]; omega
  have t91 : ((p : Int) == 91) = false := by rw [beq_eq_false_iff_ne]; omega
  have t64 : ((p : Int) == 64) = false := by rw [beq_eq_false_iff_ne]; omega
  have t0 : ((p : Int) == 0) = false := by rw [beq_eq_false_iff_ne]; omega
  have t243 : ((p : Int) == 243) = false := by rw [beq_eq_false_iff_ne]; omega
  have t253 : ((p : Int) == 253) = false := by rw [beq_eq_false_iff_ne]; omega
  have t10 : ((p : Int) == 10) = false := by rw [beq_eq_false_iff_ne]; omega
  have t32 : ((p : Int) == 32) = false := by rw [beq_eq_false_iff_ne]; omega
  have t55 : ((p : Int) == 55) = false := by rw [beq_eq_false_iff_ne]; omega
  have t57 : ((p : Int) == 57) = false := by rw [beq_eq_false_iff_ne]; omega
  have t62 : ((p : Int) == 62) = false := by rw [beq_eq_false_iff_ne]; omega
  have t94 : ((p : Int) == 94) = false := by rw [beq_eq_false_iff_ne]; omega
  have t49 : ((p : Int) == 49) = false := by rw [beq_eq_false_iff_ne]; omega
  have t59 : ((p : Int) == 59) = false := by rw [beq_eq_false_iff_ne]; omega
  have t63 : ((p : Int) == 63) = false := by rw [beq_eq_false_iff_ne]; omega
  have t60 : ((p : Int) == 60) = false := by rw [beq_eq_false_iff_ne]; omega
  have u160 : decide ((160 : Int) ≤ (p : Int)) = false := decide_eq_false (by omega)
  have t84 : ((p : Int) == 84) = false := by rw [beq_eq_false_iff_ne]; omega
  have t85 : ((p : Int) == 85) = false := by rw [beq_eq_false_iff_ne]; omega
  have t92 : ((p : Int) == 92) = false := by rw [beq_eq_false_iff_ne]; omega
  have t93 : ((p : Int) == 93) = false := by rw [beq_eq_false_iff_ne]; omega
  have t255 : ((p : Int) == 255) = false := by rw [beq_eq_false_iff_ne]; omega
  go_enter Sakg.func300, Sakg.ntmps300
  go_wp2_with (first | (go_at_call 120; refine (unhide HFm).mono ?_; rintro e w0 ⟨rfl, rfl⟩) | (go_at_call 97; refine (unhide HN).mono ?_; rintro e w1 ⟨A1, k1, c1, rfl, n1, N1, b1⟩; have NN1 := hide n1; clear n1))
  go_ret
  exact ⟨A1, k1, c1, 2, rfl, unhide NN1, N1, hc, unhide HL, b1⟩
set_option maxHeartbeats 8000000 in
theorem bareC_16 (p : Nat) (h1 : 16 ≤ p) (h2 : p ≤ 29) (h : SR G bw gf cs fr d (f :: r) x w) (hx : XB x) (hg : Good B d) (hf : AnyF f) :
    Calls Sakg.prog 300 #[.pointer (some ⟨bw, 0, none⟩), .pointer (some ⟨gf, 60 * r.length, none⟩), .int .u8 p] w (BareR p f.stk w) := by
  have hBB := big_ge
  have hP := p256_ge
  have hPB := p256_big2
  have hP40 := pow40_ge
  have hP41 := pow41_ge
  have hB41 : (256 : Nat) ^ 41 ≤ BIG := big_pow 41 (by omega)
  have hs := argN_lt hf.stk
  have hsl := hf.slen
  have hfx := h.fx
  obtain ⟨o, ho⟩ : ∃ o, o = 60 * r.length := ⟨_, rfl⟩
  rw [← ho] at hfx ⊢
  have HF := hide hfx
  have HS := hide hs
  have HCW := hide h.cw
  have hc : 3 < 256 ^ 41 := by omega
  have hlow : Low p f.stk 3 := ⟨fun _ _ _ => by omega, fun hh => by unfold growO at hh; omega, fun hh => by omega, fun _ _ => by omega⟩
  have HL := hide hlow
  have HN := hide (num_any 3 w (by omega))
  clear h hfx hs ho hx hg hf hlow
  have u96 : decide ((96 : Int) ≤ (p : Int)) = false := decide_eq_false (by omega)
  have u16 : decide ((16 : Int) ≤ (p : Int)) = true := decide_eq_true (by omega)
  have v29 : decide ((p : Int) ≤ 29) = true := decide_eq_true (by omega)
  go_enter Sakg.func300, Sakg.ntmps300
  go_wp2_with (go_at_call 97; refine (unhide HN).mono ?_; rintro e w1 ⟨A1, k1, c1, rfl, n1, N1, b1⟩; have NN1 := hide n1; clear n1)
  go_ret
  exact ⟨A1, k1, c1, 3, rfl, unhide NN1, N1, hc, unhide HL, b1⟩
set_option maxHeartbeats 8000000 in
theorem bareC_30 (p : Nat) (h1 : 30 ≤ p) (h2 : p ≤ 31) (h : SR G bw gf cs fr d (f :: r) x w) (hx : XB x) (hg : Good B d) (hf : AnyF f) :
    Calls Sakg.prog 300 #[.pointer (some ⟨bw, 0, none⟩), .pointer (some ⟨gf, 60 * r.length, none⟩), .int .u8 p] w (BareR p f.stk w) := by
  have hBB := big_ge
  have hP := p256_ge
  have hPB := p256_big2
  have hP40 := pow40_ge
  have hP41 := pow41_ge
  have hB41 : (256 : Nat) ^ 41 ≤ BIG := big_pow 41 (by omega)
  have hs := argN_lt hf.stk
  have hsl := hf.slen
  have hfx := h.fx
  obtain ⟨o, ho⟩ : ∃ o, o = 60 * r.length := ⟨_, rfl⟩
  rw [← ho] at hfx ⊢
  have HF := hide hfx
  have HS := hide hs
  have HCW := hide h.cw
  have hc : 2 < 256 ^ 41 := by omega
  have hlow : Low p f.stk 2 := ⟨fun _ _ _ => by omega, fun hh => by unfold growO at hh; omega, fun hh => by omega, fun _ _ => by omega⟩
  have HL := hide hlow
  have HN := hide (num_any 2 w (by omega))
  have HFm := hide (family_any p (by omega) w)
  have hf0 : ((famA p : Int) == 16) = false := by
    have : famA p ≠ 16 := by unfold famA; repeat (first | omega | split)
    rw [beq_eq_false_iff_ne]; omega
  generalize famA p = F at HFm hf0
  clear h hfx hs ho hx hg hf hlow
  have u96 : decide ((96 : Int) ≤ (p : Int)) = false := decide_eq_false (by omega)
  have u16 : decide ((16 : Int) ≤ (p : Int)) = true := decide_eq_true (by omega)
  have v29 : decide ((p : Int) ≤ 29) = false := decide_eq_false (by omega)
  have t1 : ((p : Int) == 1) = false := by rw [beq_eq_false_iff_ne]; omega
  have t3 : ((p : Int) == 3) = false := by rw [beq_eq_false_iff_ne]; omega
  have t53 : ((p : Int) == 53) = false := by rw [beq_eq_false_iff_ne]; omega
  have u81 : decide ((81 : Int) ≤ (p : Int)) = false := decide_eq_false (by omega)
  have t2 : ((p : Int) == 2) = false := by rw [beq_eq_false_iff_ne]; omega
  have u4 : decide ((4 : Int) ≤ (p : Int)) = true := decide_eq_true (by omega)
  have v7 : decide ((p : Int) ≤ 7) = false := decide_eq_false (by omega)
  have t11 : ((p : Int) == 11) = false := by rw [beq_eq_false_iff_ne]; omega
  have t71 : ((p : Int) == 71) = false := by rw [beq_eq_false_iff_ne]; omega
  have t8 : ((p : Int) == 8) = false := by rw [beq_eq_false_iff_ne]; omega
  have t9 : ((p : Int) == 9) = false := by rw [beq_eq_false_iff_ne]; omega
  have t86 : ((p : Int) == 86) = false := by rw [beq_eq_false_iff_ne]; omega
  have t87 : ((p : Int) == 87) = false := by rw [beq_eq_false_iff_ne]; omega
  have t91 : ((p : Int) == 91) = false := by rw [beq_eq_false_iff_ne]; omega
  have t64 : ((p : Int) == 64) = false := by rw [beq_eq_false_iff_ne]; omega
  have t0 : ((p : Int) == 0) = false := by rw [beq_eq_false_iff_ne]; omega
  have t243 : ((p : Int) == 243) = false := by rw [beq_eq_false_iff_ne]; omega
  have t253 : ((p : Int) == 253) = false := by rw [beq_eq_false_iff_ne]; omega
  have t10 : ((p : Int) == 10) = false := by rw [beq_eq_false_iff_ne]; omega
  have t32 : ((p : Int) == 32) = false := by rw [beq_eq_false_iff_ne]; omega
  have t55 : ((p : Int) == 55) = false := by rw [beq_eq_false_iff_ne]; omega
  have t57 : ((p : Int) == 57) = false := by rw [beq_eq_false_iff_ne]; omega
  have t62 : ((p : Int) == 62) = false := by rw [beq_eq_false_iff_ne]; omega
  have t94 : ((p : Int) == 94) = false := by rw [beq_eq_false_iff_ne]; omega
  have t49 : ((p : Int) == 49) = false := by rw [beq_eq_false_iff_ne]; omega
  have t59 : ((p : Int) == 59) = false := by rw [beq_eq_false_iff_ne]; omega
  have t63 : ((p : Int) == 63) = false := by rw [beq_eq_false_iff_ne]; omega
  have t60 : ((p : Int) == 60) = false := by rw [beq_eq_false_iff_ne]; omega
  have u160 : decide ((160 : Int) ≤ (p : Int)) = false := decide_eq_false (by omega)
  have t84 : ((p : Int) == 84) = false := by rw [beq_eq_false_iff_ne]; omega
  have t85 : ((p : Int) == 85) = false := by rw [beq_eq_false_iff_ne]; omega
  have t92 : ((p : Int) == 92) = false := by rw [beq_eq_false_iff_ne]; omega
  have t93 : ((p : Int) == 93) = false := by rw [beq_eq_false_iff_ne]; omega
  have t255 : ((p : Int) == 255) = false := by rw [beq_eq_false_iff_ne]; omega
  go_enter Sakg.func300, Sakg.ntmps300
  go_wp2_with (first | (go_at_call 120; refine (unhide HFm).mono ?_; rintro e w0 ⟨rfl, rfl⟩) | (go_at_call 97; refine (unhide HN).mono ?_; rintro e w1 ⟨A1, k1, c1, rfl, n1, N1, b1⟩; have NN1 := hide n1; clear n1))
  go_ret
  exact ⟨A1, k1, c1, 2, rfl, unhide NN1, N1, hc, unhide HL, b1⟩
set_option maxHeartbeats 8000000 in
theorem bareC_33 (p : Nat) (h1 : 33 ≤ p) (h2 : p ≤ 48) (h : SR G bw gf cs fr d (f :: r) x w) (hx : XB x) (hg : Good B d) (hf : AnyF f) :
    Calls Sakg.prog 300 #[.pointer (some ⟨bw, 0, none⟩), .pointer (some ⟨gf, 60 * r.length, none⟩), .int .u8 p] w (BareR p f.stk w) := by
  have hBB := big_ge
  have hP := p256_ge
  have hPB := p256_big2
  have hP40 := pow40_ge
  have hP41 := pow41_ge
  have hB41 : (256 : Nat) ^ 41 ≤ BIG := big_pow 41 (by omega)
  have hs := argN_lt hf.stk
  have hsl := hf.slen
  have hfx := h.fx
  obtain ⟨o, ho⟩ : ∃ o, o = 60 * r.length := ⟨_, rfl⟩
  rw [← ho] at hfx ⊢
  have HF := hide hfx
  have HS := hide hs
  have HCW := hide h.cw
  have hc : 2 < 256 ^ 41 := by omega
  have hlow : Low p f.stk 2 := ⟨fun _ _ _ => by omega, fun hh => by unfold growO at hh; omega, fun hh => by omega, fun _ _ => by omega⟩
  have HL := hide hlow
  have HN := hide (num_any 2 w (by omega))
  have HFm := hide (family_any p (by omega) w)
  have hf0 : ((famA p : Int) == 16) = false := by
    have : famA p ≠ 16 := by unfold famA; repeat (first | omega | split)
    rw [beq_eq_false_iff_ne]; omega
  generalize famA p = F at HFm hf0
  clear h hfx hs ho hx hg hf hlow
  have u96 : decide ((96 : Int) ≤ (p : Int)) = false := decide_eq_false (by omega)
  have u16 : decide ((16 : Int) ≤ (p : Int)) = true := decide_eq_true (by omega)
  have v29 : decide ((p : Int) ≤ 29) = false := decide_eq_false (by omega)
  have t1 : ((p : Int) == 1) = false := by rw [beq_eq_false_iff_ne]; omega
  have t3 : ((p : Int) == 3) = false := by rw [beq_eq_false_iff_ne]; omega
  have t53 : ((p : Int) == 53) = false := by rw [beq_eq_false_iff_ne]; omega
  have u81 : decide ((81 : Int) ≤ (p : Int)) = false := decide_eq_false (by omega)
  have t2 : ((p : Int) == 2) = false := by rw [beq_eq_false_iff_ne]; omega
  have u4 : decide ((4 : Int) ≤ (p : Int)) = true := decide_eq_true (by omega)
  have v7 : decide ((p : Int) ≤ 7) = false := decide_eq_false (by omega)
  have t11 : ((p : Int) == 11) = false := by rw [beq_eq_false_iff_ne]; omega
  have t71 : ((p : Int) == 71) = false := by rw [beq_eq_false_iff_ne]; omega
  have t8 : ((p : Int) == 8) = false := by rw [beq_eq_false_iff_ne]; omega
  have t9 : ((p : Int) == 9) = false := by rw [beq_eq_false_iff_ne]; omega
  have t86 : ((p : Int) == 86) = false := by rw [beq_eq_false_iff_ne]; omega
  have t87 : ((p : Int) == 87) = false := by rw [beq_eq_false_iff_ne]; omega
  have t91 : ((p : Int) == 91) = false := by rw [beq_eq_false_iff_ne]; omega
  have t64 : ((p : Int) == 64) = false := by rw [beq_eq_false_iff_ne]; omega
  have t0 : ((p : Int) == 0) = false := by rw [beq_eq_false_iff_ne]; omega
  have t243 : ((p : Int) == 243) = false := by rw [beq_eq_false_iff_ne]; omega
  have t253 : ((p : Int) == 253) = false := by rw [beq_eq_false_iff_ne]; omega
  have t10 : ((p : Int) == 10) = false := by rw [beq_eq_false_iff_ne]; omega
  have t32 : ((p : Int) == 32) = false := by rw [beq_eq_false_iff_ne]; omega
  have t55 : ((p : Int) == 55) = false := by rw [beq_eq_false_iff_ne]; omega
  have t57 : ((p : Int) == 57) = false := by rw [beq_eq_false_iff_ne]; omega
  have t62 : ((p : Int) == 62) = false := by rw [beq_eq_false_iff_ne]; omega
  have t94 : ((p : Int) == 94) = false := by rw [beq_eq_false_iff_ne]; omega
  have t49 : ((p : Int) == 49) = false := by rw [beq_eq_false_iff_ne]; omega
  have t59 : ((p : Int) == 59) = false := by rw [beq_eq_false_iff_ne]; omega
  have t63 : ((p : Int) == 63) = false := by rw [beq_eq_false_iff_ne]; omega
  have t60 : ((p : Int) == 60) = false := by rw [beq_eq_false_iff_ne]; omega
  have u160 : decide ((160 : Int) ≤ (p : Int)) = false := decide_eq_false (by omega)
  have t84 : ((p : Int) == 84) = false := by rw [beq_eq_false_iff_ne]; omega
  have t85 : ((p : Int) == 85) = false := by rw [beq_eq_false_iff_ne]; omega
  have t92 : ((p : Int) == 92) = false := by rw [beq_eq_false_iff_ne]; omega
  have t93 : ((p : Int) == 93) = false := by rw [beq_eq_false_iff_ne]; omega
  have t255 : ((p : Int) == 255) = false := by rw [beq_eq_false_iff_ne]; omega
  go_enter Sakg.func300, Sakg.ntmps300
  go_wp2_with (first | (go_at_call 120; refine (unhide HFm).mono ?_; rintro e w0 ⟨rfl, rfl⟩) | (go_at_call 97; refine (unhide HN).mono ?_; rintro e w1 ⟨A1, k1, c1, rfl, n1, N1, b1⟩; have NN1 := hide n1; clear n1))
  go_ret
  exact ⟨A1, k1, c1, 2, rfl, unhide NN1, N1, hc, unhide HL, b1⟩
set_option maxHeartbeats 8000000 in
theorem bareC_50 (p : Nat) (h1 : 50 ≤ p) (h2 : p ≤ 52) (h : SR G bw gf cs fr d (f :: r) x w) (hx : XB x) (hg : Good B d) (hf : AnyF f) :
    Calls Sakg.prog 300 #[.pointer (some ⟨bw, 0, none⟩), .pointer (some ⟨gf, 60 * r.length, none⟩), .int .u8 p] w (BareR p f.stk w) := by
  have hBB := big_ge
  have hP := p256_ge
  have hPB := p256_big2
  have hP40 := pow40_ge
  have hP41 := pow41_ge
  have hB41 : (256 : Nat) ^ 41 ≤ BIG := big_pow 41 (by omega)
  have hs := argN_lt hf.stk
  have hsl := hf.slen
  have hfx := h.fx
  obtain ⟨o, ho⟩ : ∃ o, o = 60 * r.length := ⟨_, rfl⟩
  rw [← ho] at hfx ⊢
  have HF := hide hfx
  have HS := hide hs
  have HCW := hide h.cw
  have hc : 2 < 256 ^ 41 := by omega
  have hlow : Low p f.stk 2 := ⟨fun _ _ _ => by omega, fun hh => by unfold growO at hh; omega, fun hh => by omega, fun _ _ => by omega⟩
  have HL := hide hlow
  have HN := hide (num_any 2 w (by omega))
  have HFm := hide (family_any p (by omega) w)
  have hf0 : ((famA p : Int) == 16) = false := by
    have : famA p ≠ 16 := by unfold famA; repeat (first | omega | split)
    rw [beq_eq_false_iff_ne]; omega
  generalize famA p = F at HFm hf0
  clear h hfx hs ho hx hg hf hlow
  have u96 : decide ((96 : Int) ≤ (p : Int)) = false := decide_eq_false (by omega)
  have u16 : decide ((16 : Int) ≤ (p : Int)) = true := decide_eq_true (by omega)
  have v29 : decide ((p : Int) ≤ 29) = false := decide_eq_false (by omega)
  have t1 : ((p : Int) == 1) = false := by rw [beq_eq_false_iff_ne]; omega
  have t3 : ((p : Int) == 3) = false := by rw [beq_eq_false_iff_ne]; omega
  have t53 : ((p : Int) == 53) = false := by rw [beq_eq_false_iff_ne]; omega
  have u81 : decide ((81 : Int) ≤ (p : Int)) = false := decide_eq_false (by omega)
  have t2 : ((p : Int) == 2) = false := by rw [beq_eq_false_iff_ne]; omega
  have u4 : decide ((4 : Int) ≤ (p : Int)) = true := decide_eq_true (by omega)
  have v7 : decide ((p : Int) ≤ 7) = false := decide_eq_false (by omega)
  have t11 : ((p : Int) == 11) = false := by rw [beq_eq_false_iff_ne]; omega
  have t71 : ((p : Int) == 71) = false := by rw [beq_eq_false_iff_ne]; omega
  have t8 : ((p : Int) == 8) = false := by rw [beq_eq_false_iff_ne]; omega
  have t9 : ((p : Int) == 9) = false := by rw [beq_eq_false_iff_ne]; omega
  have t86 : ((p : Int) == 86) = false := by rw [beq_eq_false_iff_ne]; omega
  have t87 : ((p : Int) == 87) = false := by rw [beq_eq_false_iff_ne]; omega
  have t91 : ((p : Int) == 91) = false := by rw [beq_eq_false_iff_ne]; omega
  have t64 : ((p : Int) == 64) = false := by rw [beq_eq_false_iff_ne]; omega
  have t0 : ((p : Int) == 0) = false := by rw [beq_eq_false_iff_ne]; omega
  have t243 : ((p : Int) == 243) = false := by rw [beq_eq_false_iff_ne]; omega
  have t253 : ((p : Int) == 253) = false := by rw [beq_eq_false_iff_ne]; omega
  have t10 : ((p : Int) == 10) = false := by rw [beq_eq_false_iff_ne]; omega
  have t32 : ((p : Int) == 32) = false := by rw [beq_eq_false_iff_ne]; omega
  have t55 : ((p : Int) == 55) = false := by rw [beq_eq_false_iff_ne]; omega
  have t57 : ((p : Int) == 57) = false := by rw [beq_eq_false_iff_ne]; omega
  have t62 : ((p : Int) == 62) = false := by rw [beq_eq_false_iff_ne]; omega
  have t94 : ((p : Int) == 94) = false := by rw [beq_eq_false_iff_ne]; omega
  have t49 : ((p : Int) == 49) = false := by rw [beq_eq_false_iff_ne]; omega
  have t59 : ((p : Int) == 59) = false := by rw [beq_eq_false_iff_ne]; omega
  have t63 : ((p : Int) == 63) = false := by rw [beq_eq_false_iff_ne]; omega
  have t60 : ((p : Int) == 60) = false := by rw [beq_eq_false_iff_ne]; omega
  have u160 : decide ((160 : Int) ≤ (p : Int)) = false := decide_eq_false (by omega)
  have t84 : ((p : Int) == 84) = false := by rw [beq_eq_false_iff_ne]; omega
  have t85 : ((p : Int) == 85) = false := by rw [beq_eq_false_iff_ne]; omega
  have t92 : ((p : Int) == 92) = false := by rw [beq_eq_false_iff_ne]; omega
  have t93 : ((p : Int) == 93) = false := by rw [beq_eq_false_iff_ne]; omega
  have t255 : ((p : Int) == 255) = false := by rw [beq_eq_false_iff_ne]; omega
  go_enter Sakg.func300, Sakg.ntmps300
  go_wp2_with (first | (go_at_call 120; refine (unhide HFm).mono ?_; rintro e w0 ⟨rfl, rfl⟩) | (go_at_call 97; refine (unhide HN).mono ?_; rintro e w1 ⟨A1, k1, c1, rfl, n1, N1, b1⟩; have NN1 := hide n1; clear n1))
  go_ret
  exact ⟨A1, k1, c1, 2, rfl, unhide NN1, N1, hc, unhide HL, b1⟩
set_option maxHeartbeats 8000000 in
theorem bareC_53 (h : SR G bw gf cs fr d (f :: r) x w) (hx : XB x) (hg : Good B d) (hf : AnyF f) :
    Calls Sakg.prog 300 #[.pointer (some ⟨bw, 0, none⟩), .pointer (some ⟨gf, 60 * r.length, none⟩), .int .u8 53] w (BareR 53 f.stk w) := by
  have hBB := big_ge
  have hP := p256_ge
  have hPB := p256_big2
  have hP40 := pow40_ge
  have hP41 := pow41_ge
  have hB41 : (256 : Nat) ^ 41 ≤ BIG := big_pow 41 (by omega)
  have hs := argN_lt hf.stk
  have hsl := hf.slen
  have hfx := h.fx
  obtain ⟨o, ho⟩ : ∃ o, o = 60 * r.length := ⟨_, rfl⟩
  rw [← ho] at hfx ⊢
  have HF := hide hfx
  have HS := hide hs
  have HCW := hide h.cw
  have hc : 3 < 256 ^ 41 := by omega
  have hlow : Low 53 f.stk 3 := ⟨fun _ _ _ => by omega, fun hh => by unfold growO at hh; omega, fun hh => by omega, fun _ _ => by omega⟩
  have HL := hide hlow
  have HN := hide (num_any 3 w (by omega))
  clear h hfx hs ho hx hg hf hlow
  go_enter Sakg.func300, Sakg.ntmps300
  go_wp2_with (go_at_call 97; refine (unhide HN).mono ?_; rintro e w1 ⟨A1, k1, c1, rfl, n1, N1, b1⟩; have NN1 := hide n1; clear n1)
  go_ret
  exact ⟨A1, k1, c1, 3, rfl, unhide NN1, N1, hc, unhide HL, b1⟩
set_option maxHeartbeats 8000000 in
theorem bareC_54 (h : SR G bw gf cs fr d (f :: r) x w) (hx : XB x) (hg : Good B d) (hf : AnyF f) :
    Calls Sakg.prog 300 #[.pointer (some ⟨bw, 0, none⟩), .pointer (some ⟨gf, 60 * r.length, none⟩), .int .u8 54] w (BareR 54 f.stk w) := by
  have hBB := big_ge
  have hP := p256_ge
  have hPB := p256_big2
  have hP40 := pow40_ge
  have hP41 := pow41_ge
  have hB41 : (256 : Nat) ^ 41 ≤ BIG := big_pow 41 (by omega)
  have hs := argN_lt hf.stk
  have hsl := hf.slen
  have hfx := h.fx
  obtain ⟨o, ho⟩ : ∃ o, o = 60 * r.length := ⟨_, rfl⟩
  rw [← ho] at hfx ⊢
  have HF := hide hfx
  have HS := hide hs
  have HCW := hide h.cw
  have hc : 2 < 256 ^ 41 := by omega
  have hlow : Low 54 f.stk 2 := ⟨fun _ _ _ => by omega, fun hh => by unfold growO at hh; omega, fun hh => by omega, fun _ _ => by omega⟩
  have HL := hide hlow
  have HN := hide (num_any 2 w (by omega))
  have HFm := hide (family_any 54 (by omega) w)
  have hf0 : ((famA 54 : Int) == 16) = false := by
    have : famA 54 ≠ 16 := by unfold famA; repeat (first | omega | split)
    rw [beq_eq_false_iff_ne]; omega
  generalize famA 54 = F at HFm hf0
  clear h hfx hs ho hx hg hf hlow
  go_enter Sakg.func300, Sakg.ntmps300
  go_wp2_with (first | (go_at_call 120; refine (unhide HFm).mono ?_; rintro e w0 ⟨rfl, rfl⟩) | (go_at_call 97; refine (unhide HN).mono ?_; rintro e w1 ⟨A1, k1, c1, rfl, n1, N1, b1⟩; have NN1 := hide n1; clear n1))
  go_ret
  exact ⟨A1, k1, c1, 2, rfl, unhide NN1, N1, hc, unhide HL, b1⟩
set_option maxHeartbeats 8000000 in
theorem bareC_56 (h : SR G bw gf cs fr d (f :: r) x w) (hx : XB x) (hg : Good B d) (hf : AnyF f) :
    Calls Sakg.prog 300 #[.pointer (some ⟨bw, 0, none⟩), .pointer (some ⟨gf, 60 * r.length, none⟩), .int .u8 56] w (BareR 56 f.stk w) := by
  have hBB := big_ge
  have hP := p256_ge
  have hPB := p256_big2
  have hP40 := pow40_ge
  have hP41 := pow41_ge
  have hB41 : (256 : Nat) ^ 41 ≤ BIG := big_pow 41 (by omega)
  have hs := argN_lt hf.stk
  have hsl := hf.slen
  have hfx := h.fx
  obtain ⟨o, ho⟩ : ∃ o, o = 60 * r.length := ⟨_, rfl⟩
  rw [← ho] at hfx ⊢
  have HF := hide hfx
  have HS := hide hs
  have HCW := hide h.cw
  have hc : 2 < 256 ^ 41 := by omega
  have hlow : Low 56 f.stk 2 := ⟨fun _ _ _ => by omega, fun hh => by unfold growO at hh; omega, fun hh => by omega, fun _ _ => by omega⟩
  have HL := hide hlow
  have HN := hide (num_any 2 w (by omega))
  have HFm := hide (family_any 56 (by omega) w)
  have hf0 : ((famA 56 : Int) == 16) = false := by
    have : famA 56 ≠ 16 := by unfold famA; repeat (first | omega | split)
    rw [beq_eq_false_iff_ne]; omega
  generalize famA 56 = F at HFm hf0
  clear h hfx hs ho hx hg hf hlow
  go_enter Sakg.func300, Sakg.ntmps300
  go_wp2_with (first | (go_at_call 120; refine (unhide HFm).mono ?_; rintro e w0 ⟨rfl, rfl⟩) | (go_at_call 97; refine (unhide HN).mono ?_; rintro e w1 ⟨A1, k1, c1, rfl, n1, N1, b1⟩; have NN1 := hide n1; clear n1))
  go_ret
  exact ⟨A1, k1, c1, 2, rfl, unhide NN1, N1, hc, unhide HL, b1⟩
set_option maxHeartbeats 8000000 in
theorem bareC_58 (h : SR G bw gf cs fr d (f :: r) x w) (hx : XB x) (hg : Good B d) (hf : AnyF f) :
    Calls Sakg.prog 300 #[.pointer (some ⟨bw, 0, none⟩), .pointer (some ⟨gf, 60 * r.length, none⟩), .int .u8 58] w (BareR 58 f.stk w) := by
  have hBB := big_ge
  have hP := p256_ge
  have hPB := p256_big2
  have hP40 := pow40_ge
  have hP41 := pow41_ge
  have hB41 : (256 : Nat) ^ 41 ≤ BIG := big_pow 41 (by omega)
  have hs := argN_lt hf.stk
  have hsl := hf.slen
  have hfx := h.fx
  obtain ⟨o, ho⟩ : ∃ o, o = 60 * r.length := ⟨_, rfl⟩
  rw [← ho] at hfx ⊢
  have HF := hide hfx
  have HS := hide hs
  have HCW := hide h.cw
  have hc : 2 < 256 ^ 41 := by omega
  have hlow : Low 58 f.stk 2 := ⟨fun _ _ _ => by omega, fun hh => by unfold growO at hh; omega, fun hh => by omega, fun _ _ => by omega⟩
  have HL := hide hlow
  have HN := hide (num_any 2 w (by omega))
  have HFm := hide (family_any 58 (by omega) w)
  have hf0 : ((famA 58 : Int) == 16) = false := by
    have : famA 58 ≠ 16 := by unfold famA; repeat (first | omega | split)
    rw [beq_eq_false_iff_ne]; omega
  generalize famA 58 = F at HFm hf0
  clear h hfx hs ho hx hg hf hlow
  go_enter Sakg.func300, Sakg.ntmps300
  go_wp2_with (first | (go_at_call 120; refine (unhide HFm).mono ?_; rintro e w0 ⟨rfl, rfl⟩) | (go_at_call 97; refine (unhide HN).mono ?_; rintro e w1 ⟨A1, k1, c1, rfl, n1, N1, b1⟩; have NN1 := hide n1; clear n1))
  go_ret
  exact ⟨A1, k1, c1, 2, rfl, unhide NN1, N1, hc, unhide HL, b1⟩
set_option maxHeartbeats 8000000 in
theorem bareC_61 (h : SR G bw gf cs fr d (f :: r) x w) (hx : XB x) (hg : Good B d) (hf : AnyF f) :
    Calls Sakg.prog 300 #[.pointer (some ⟨bw, 0, none⟩), .pointer (some ⟨gf, 60 * r.length, none⟩), .int .u8 61] w (BareR 61 f.stk w) := by
  have hBB := big_ge
  have hP := p256_ge
  have hPB := p256_big2
  have hP40 := pow40_ge
  have hP41 := pow41_ge
  have hB41 : (256 : Nat) ^ 41 ≤ BIG := big_pow 41 (by omega)
  have hs := argN_lt hf.stk
  have hsl := hf.slen
  have hfx := h.fx
  obtain ⟨o, ho⟩ : ∃ o, o = 60 * r.length := ⟨_, rfl⟩
  rw [← ho] at hfx ⊢
  have HF := hide hfx
  have HS := hide hs
  have HCW := hide h.cw
  have hc : 2 < 256 ^ 41 := by omega
  have hlow : Low 61 f.stk 2 := ⟨fun _ _ _ => by omega, fun hh => by unfold growO at hh; omega, fun hh => by omega, fun _ _ => by omega⟩
  have HL := hide hlow
  have HN := hide (num_any 2 w (by omega))
  have HFm := hide (family_any 61 (by omega) w)
  have hf0 : ((famA 61 : Int) == 16) = false := by
    have : famA 61 ≠ 16 := by unfold famA; repeat (first | omega | split)
    rw [beq_eq_false_iff_ne]; omega
  generalize famA 61 = F at HFm hf0
  clear h hfx hs ho hx hg hf hlow
  go_enter Sakg.func300, Sakg.ntmps300
  go_wp2_with (first | (go_at_call 120; refine (unhide HFm).mono ?_; rintro e w0 ⟨rfl, rfl⟩) | (go_at_call 97; refine (unhide HN).mono ?_; rintro e w1 ⟨A1, k1, c1, rfl, n1, N1, b1⟩; have NN1 := hide n1; clear n1))
  go_ret
  exact ⟨A1, k1, c1, 2, rfl, unhide NN1, N1, hc, unhide HL, b1⟩
set_option maxHeartbeats 8000000 in
theorem bareC_64 (h : SR G bw gf cs fr d (f :: r) x w) (hx : XB x) (hg : Good B d) (hf : AnyF f) :
    Calls Sakg.prog 300 #[.pointer (some ⟨bw, 0, none⟩), .pointer (some ⟨gf, 60 * r.length, none⟩), .int .u8 64] w (BareR 64 f.stk w) := by
  have hBB := big_ge
  have hP := p256_ge
  have hPB := p256_big2
  have hP40 := pow40_ge
  have hP41 := pow41_ge
  have hB41 : (256 : Nat) ^ 41 ≤ BIG := big_pow 41 (by omega)
  have hs := argN_lt hf.stk
  have hsl := hf.slen
  have hfx := h.fx
  obtain ⟨o, ho⟩ : ∃ o, o = 60 * r.length := ⟨_, rfl⟩
  rw [← ho] at hfx ⊢
  have HF := hide hfx
  have HS := hide hs
  have HCW := hide h.cw
  have hc : 20 < 256 ^ 41 := by omega
  have hlow : Low 64 f.stk 20 := ⟨fun _ _ _ => by omega, fun hh => by unfold growO at hh; omega, fun hh => by omega, fun _ _ => by omega⟩
  have HL := hide hlow
  have HN := hide (num_any 20 w (by omega))
  clear h hfx hs ho hx hg hf hlow
  go_enter Sakg.func300, Sakg.ntmps300
  go_wp2_with (go_at_call 97; refine (unhide HN).mono ?_; rintro e w1 ⟨A1, k1, c1, rfl, n1, N1, b1⟩; have NN1 := hide n1; clear n1)
  go_ret
  exact ⟨A1, k1, c1, 20, rfl, unhide NN1, N1, hc, unhide HL, b1⟩
set_option maxHeartbeats 8000000 in
theorem bareC_65 (p : Nat) (h1 : 65 ≤ p) (h2 : p ≤ 70) (h : SR G bw gf cs fr d (f :: r) x w) (hx : XB x) (hg : Good B d) (hf : AnyF f) :
    Calls Sakg.prog 300 #[.pointer (some ⟨bw, 0, none⟩), .pointer (some ⟨gf, 60 * r.length, none⟩), .int .u8 p] w (BareR p f.stk w) := by
  have hBB := big_ge
  have hP := p256_ge
  have hPB := p256_big2
  have hP40 := pow40_ge
  have hP41 := pow41_ge
  have hB41 : (256 : Nat) ^ 41 ≤ BIG := big_pow 41 (by omega)
  have hs := argN_lt hf.stk
  have hsl := hf.slen
  have hfx := h.fx
  obtain ⟨o, ho⟩ : ∃ o, o = 60 * r.length := ⟨_, rfl⟩
  rw [← ho] at hfx ⊢
  have HF := hide hfx
  have HS := hide hs
  have HCW := hide h.cw
  have hc : 2 < 256 ^ 41 := by omega
  have hlow : Low p f.stk 2 := ⟨fun _ _ _ => by omega, fun hh => by unfold growO at hh; omega, fun hh => by omega, fun _ _ => by omega⟩
  have HL := hide hlow
  have HN := hide (num_any 2 w (by omega))
  have HFm := hide (family_any p (by omega) w)
  have hf0 : ((famA p : Int) == 16) = false := by
    have : famA p ≠ 16 := by unfold famA; repeat (first | omega | split)
    rw [beq_eq_false_iff_ne]; omega
  generalize famA p = F at HFm hf0
  clear h hfx hs ho hx hg hf hlow
  have u96 : decide ((96 : Int) ≤ (p : Int)) = false := decide_eq_false (by omega)
  have u16 : decide ((16 : Int) ≤ (p : Int)) = true := decide_eq_true (by omega)
  have v29 : decide ((p : Int) ≤ 29) = false := decide_eq_false (by omega)
  have t1 : ((p : Int) == 1) = false := by rw [beq_eq_false_iff_ne]; omega
  have t3 : ((p : Int) == 3) = false := by rw [beq_eq_false_iff_ne]; omega
  have t53 : ((p : Int) == 53) = false := by rw [beq_eq_false_iff_ne]; omega
  have u81 : decide ((81 : Int) ≤ (p : Int)) = false := decide_eq_false (by omega)
  have t2 : ((p : Int) == 2) = false := by rw [beq_eq_false_iff_ne]; omega
  have u4 : decide ((4 : Int) ≤ (p : Int)) = true := decide_eq_true (by omega)
  have v7 : decide ((p : Int) ≤ 7) = false := decide_eq_false (by omega)
  have t11 : ((p : Int) == 11) = false := by rw [beq_eq_false_iff_ne]; omega
  have t71 : ((p : Int) == 71) = false := by rw [beq_eq_false_iff_ne]; omega
  have t8 : ((p : Int) == 8) = false := by rw [beq_eq_false_iff_ne]; omega
  have t9 : ((p : Int) == 9) = false := by rw [beq_eq_false_iff_ne]; omega
  have t86 : ((p : Int) == 86) = false := by rw [beq_eq_false_iff_ne]; omega
  have t87 : ((p : Int) == 87) = false := by rw [beq_eq_false_iff_ne]; omega
  have t91 : ((p : Int) == 91) = false := by rw [beq_eq_false_iff_ne]; omega
  have t64 : ((p : Int) == 64) = false := by rw [beq_eq_false_iff_ne]; omega
  have t0 : ((p : Int) == 0) = false := by rw [beq_eq_false_iff_ne]; omega
  have t243 : ((p : Int) == 243) = false := by rw [beq_eq_false_iff_ne]; omega
  have t253 : ((p : Int) == 253) = false := by rw [beq_eq_false_iff_ne]; omega
  have t10 : ((p : Int) == 10) = false := by rw [beq_eq_false_iff_ne]; omega
  have t32 : ((p : Int) == 32) = false := by rw [beq_eq_false_iff_ne]; omega
  have t55 : ((p : Int) == 55) = false := by rw [beq_eq_false_iff_ne]; omega
  have t57 : ((p : Int) == 57) = false := by rw [beq_eq_false_iff_ne]; omega
  have t62 : ((p : Int) == 62) = false := by rw [beq_eq_false_iff_ne]; omega
  have t94 : ((p : Int) == 94) = false := by rw [beq_eq_false_iff_ne]; omega
  have t49 : ((p : Int) == 49) = false := by rw [beq_eq_false_iff_ne]; omega
  have t59 : ((p : Int) == 59) = false := by rw [beq_eq_false_iff_ne]; omega
  have t63 : ((p : Int) == 63) = false := by rw [beq_eq_false_iff_ne]; omega
  have t60 : ((p : Int) == 60) = false := by rw [beq_eq_false_iff_ne]; omega
  have u160 : decide ((160 : Int) ≤ (p : Int)) = false := decide_eq_false (by omega)
  have t84 : ((p : Int) == 84) = false := by rw [beq_eq_false_iff_ne]; omega
  have t85 : ((p : Int) == 85) = false := by rw [beq_eq_false_iff_ne]; omega
  have t92 : ((p : Int) == 92) = false := by rw [beq_eq_false_iff_ne]; omega
  have t93 : ((p : Int) == 93) = false := by rw [beq_eq_false_iff_ne]; omega
  have t255 : ((p : Int) == 255) = false := by rw [beq_eq_false_iff_ne]; omega
  go_enter Sakg.func300, Sakg.ntmps300
  go_wp2_with (first | (go_at_call 120; refine (unhide HFm).mono ?_; rintro e w0 ⟨rfl, rfl⟩) | (go_at_call 97; refine (unhide HN).mono ?_; rintro e w1 ⟨A1, k1, c1, rfl, n1, N1, b1⟩; have NN1 := hide n1; clear n1))
  go_ret
  exact ⟨A1, k1, c1, 2, rfl, unhide NN1, N1, hc, unhide HL, b1⟩
set_option maxHeartbeats 8000000 in
theorem bareC_71 (h : SR G bw gf cs fr d (f :: r) x w) (hx : XB x) (hg : Good B d) (hf : AnyF f) :
    Calls Sakg.prog 300 #[.pointer (some ⟨bw, 0, none⟩), .pointer (some ⟨gf, 60 * r.length, none⟩), .int .u8 71] w (BareR 71 f.stk w) := by
  have hBB := big_ge
  have hP := p256_ge
  have hPB := p256_big2
  have hP40 := pow40_ge
  have hP41 := pow41_ge
  have hB41 : (256 : Nat) ^ 41 ≤ BIG := big_pow 41 (by omega)
  have hs := argN_lt hf.stk
  have hsl := hf.slen
  have hfx := h.fx
  obtain ⟨o, ho⟩ : ∃ o, o = 60 * r.length := ⟨_, rfl⟩
  rw [← ho] at hfx ⊢
  have HF := hide hfx
  have HS := hide hs
  have HCW := hide h.cw
  have hc : 5 < 256 ^ 41 := by omega
  have hlow : Low 71 f.stk 5 := ⟨fun _ _ _ => by omega, fun hh => by unfold growO at hh; omega, fun hh => by omega, fun _ _ => by omega⟩
  have HL := hide hlow
  have HN := hide (num_any 5 w (by omega))
  clear h hfx hs ho hx hg hf hlow
  go_enter Sakg.func300, Sakg.ntmps300
  go_wp2_with (go_at_call 97; refine (unhide HN).mono ?_; rintro e w1 ⟨A1, k1, c1, rfl, n1, N1, b1⟩; have NN1 := hide n1; clear n1)
  go_ret
  exact ⟨A1, k1, c1, 5, rfl, unhide NN1, N1, hc, unhide HL, b1⟩
set_option maxHeartbeats 8000000 in
theorem bareC_72 (p : Nat) (h1 : 72 ≤ p) (h2 : p ≤ 80) (h : SR G bw gf cs fr d (f :: r) x w) (hx : XB x) (hg : Good B d) (hf : AnyF f) :
    Calls Sakg.prog 300 #[.pointer (some ⟨bw, 0, none⟩), .pointer (some ⟨gf, 60 * r.length, none⟩), .int .u8 p] w (BareR p f.stk w) := by
  have hBB := big_ge
  have hP := p256_ge
  have hPB := p256_big2
  have hP40 := pow40_ge
  have hP41 := pow41_ge
  have hB41 : (256 : Nat) ^ 41 ≤ BIG := big_pow 41 (by omega)
  have hs := argN_lt hf.stk
  have hsl := hf.slen
  have hfx := h.fx
  obtain ⟨o, ho⟩ : ∃ o, o = 60 * r.length := ⟨_, rfl⟩
  rw [← ho] at hfx ⊢
  have HF := hide hfx
  have HS := hide hs
  have HCW := hide h.cw
  have hc : 2 < 256 ^ 41 := by omega
  have hlow : Low p f.stk 2 := ⟨fun _ _ _ => by omega, fun hh => by unfold growO at hh; omega, fun hh => by omega, fun _ _ => by omega⟩
  have HL := hide hlow
  have HN := hide (num_any 2 w (by omega))
  have HFm := hide (family_any p (by omega) w)
  have hf0 : ((famA p : Int) == 16) = false := by
    have : famA p ≠ 16 := by unfold famA; repeat (first | omega | split)
    rw [beq_eq_false_iff_ne]; omega
  generalize famA p = F at HFm hf0
  clear h hfx hs ho hx hg hf hlow
  have u96 : decide ((96 : Int) ≤ (p : Int)) = false := decide_eq_false (by omega)
  have u16 : decide ((16 : Int) ≤ (p : Int)) = true := decide_eq_true (by omega)
  have v29 : decide ((p : Int) ≤ 29) = false := decide_eq_false (by omega)
  have t1 : ((p : Int) == 1) = false := by rw [beq_eq_false_iff_ne]; omega
  have t3 : ((p : Int) == 3) = false := by rw [beq_eq_false_iff_ne]; omega
  have t53 : ((p : Int) == 53) = false := by rw [beq_eq_false_iff_ne]; omega
  have u81 : decide ((81 : Int) ≤ (p : Int)) = false := decide_eq_false (by omega)
  have t2 : ((p : Int) == 2) = false := by rw [beq_eq_false_iff_ne]; omega
  have u4 : decide ((4 : Int) ≤ (p : Int)) = true := decide_eq_true (by omega)
  have v7 : decide ((p : Int) ≤ 7) = false := decide_eq_false (by omega)
  have t11 : ((p : Int) == 11) = false := by rw [beq_eq_false_iff_ne]; omega
  have t71 : ((p : Int) == 71) = false := by rw [beq_eq_false_iff_ne]; omega
  have t8 : ((p : Int) == 8) = false := by rw [beq_eq_false_iff_ne]; omega
  have t9 : ((p : Int) == 9) = false := by rw [beq_eq_false_iff_ne]; omega
  have t86 : ((p : Int) == 86) = false := by rw [beq_eq_false_iff_ne]; omega
  have t87 : ((p : Int) == 87) = false := by rw [beq_eq_false_iff_ne]; omega
  have t91 : ((p : Int) == 91) = false := by rw [beq_eq_false_iff_ne]; omega
  have t64 : ((p : Int) == 64) = false := by rw [beq_eq_false_iff_ne]; omega
  have t0 : ((p : Int) == 0) = false := by rw [beq_eq_false_iff_ne]; omega
  have t243 : ((p : Int) == 243) = false := by rw [beq_eq_false_iff_ne]; omega
  have t253 : ((p : Int) == 253) = false := by rw [beq_eq_false_iff_ne]; omega
  have t10 : ((p : Int) == 10) = false := by rw [beq_eq_false_iff_ne]; omega
  have t32 : ((p : Int) == 32) = false := by rw [beq_eq_false_iff_ne]; omega
  have t55 : ((p : Int) == 55) = false := by rw [beq_eq_false_iff_ne]; omega
  have t57 : ((p : Int) == 57) = false := by rw [beq_eq_false_iff_ne]; omega
  have t62 : ((p : Int) == 62) = false := by rw [beq_eq_false_iff_ne]; omega
  have t94 : ((p : Int) == 94) = false := by rw [beq_eq_false_iff_ne]; omega
  have t49 : ((p : Int) == 49) = false := by rw [beq_eq_false_iff_ne]; omega
  have t59 : ((p : Int) == 59) = false := by rw [beq_eq_false_iff_ne]; omega
  have t63 : ((p : Int) == 63) = false := by rw [beq_eq_false_iff_ne]; omega
  have t60 : ((p : Int) == 60) = false := by rw [beq_eq_false_iff_ne]; omega
  have u160 : decide ((160 : Int) ≤ (p : Int)) = false := decide_eq_false (by omega)
  have t84 : ((p : Int) == 84) = false := by rw [beq_eq_false_iff_ne]; omega
  have t85 : ((p : Int) == 85) = false := by rw [beq_eq_false_iff_ne]; omega
  have t92 : ((p : Int) == 92) = false := by rw [beq_eq_false_iff_ne]; omega
  have t93 : ((p : Int) == 93) = false := by rw [beq_eq_false_iff_ne]; omega
  have t255 : ((p : Int) == 255) = false := by rw [beq_eq_false_iff_ne]; omega
  go_enter Sakg.func300, Sakg.ntmps300
  go_wp2_with (first | (go_at_call 120; refine (unhide HFm).mono ?_; rintro e w0 ⟨rfl, rfl⟩) | (go_at_call 97; refine (unhide HN).mono ?_; rintro e w1 ⟨A1, k1, c1, rfl, n1, N1, b1⟩; have NN1 := hide n1; clear n1))
  go_ret
  exact ⟨A1, k1, c1, 2, rfl, unhide NN1, N1, hc, unhide HL, b1⟩
set_option maxHeartbeats 8000000 in
theorem bareC_81 (p : Nat) (h1 : 81 ≤ p) (h2 : p ≤ 83) (h : SR G bw gf cs fr d (f :: r) x w) (hx : XB x) (hg : Good B d) (hf : AnyF f) :
    Calls Sakg.prog 300 #[.pointer (some ⟨bw, 0, none⟩), .pointer (some ⟨gf, 60 * r.length, none⟩), .int .u8 p] w (BareR p f.stk w) := by
  have hBB := big_ge
  have hP := p256_ge
  have hPB := p256_big2
  have hP40 := pow40_ge
  have hP41 := pow41_ge
  have hB41 : (256 : Nat) ^ 41 ≤ BIG := big_pow 41 (by omega)
  have hs := argN_lt hf.stk
  have hsl := hf.slen
  have hfx := h.fx
  obtain ⟨o, ho⟩ : ∃ o, o = 60 * r.length := ⟨_, rfl⟩
  rw [← ho] at hfx ⊢
  have HF := hide hfx
  have HS := hide hs
  have HCW := hide h.cw
  have hc : 3 < 256 ^ 41 := by omega
  have hlow : Low p f.stk 3 := ⟨fun _ _ _ => by omega, fun hh => by unfold growO at hh; omega, fun hh => by omega, fun _ _ => by omega⟩
  have HL := hide hlow
  have HN := hide (num_any 3 w (by omega))
  clear h hfx hs ho hx hg hf hlow
  have u96 : decide ((96 : Int) ≤ (p : Int)) = false := decide_eq_false (by omega)
  have u16 : decide ((16 : Int) ≤ (p : Int)) = true := decide_eq_true (by omega)
  have v29 : decide ((p : Int) ≤ 29) = false := decide_eq_false (by omega)
  have t1 : ((p : Int) == 1) = false := by rw [beq_eq_false_iff_ne]; omega
  have t3 : ((p : Int) == 3) = false := by rw [beq_eq_false_iff_ne]; omega
  have t53 : ((p : Int) == 53) = false := by rw [beq_eq_false_iff_ne]; omega
  have u81 : decide ((81 : Int) ≤ (p : Int)) = true := decide_eq_true (by omega)
  have v83 : decide ((p : Int) ≤ 83) = true := decide_eq_true (by omega)
  go_enter Sakg.func300, Sakg.ntmps300
  go_wp2_with (go_at_call 97; refine (unhide HN).mono ?_; rintro e w1 ⟨A1, k1, c1, rfl, n1, N1, b1⟩; have NN1 := hide n1; clear n1)
  go_ret
  exact ⟨A1, k1, c1, 3, rfl, unhide NN1, N1, hc, unhide HL, b1⟩
set_option maxHeartbeats 8000000 in
theorem bareC_86 (h : SR G bw gf cs fr d (f :: r) x w) (hx : XB x) (hg : Good B d) (hf : AnyF f) :
    Calls Sakg.prog 300 #[.pointer (some ⟨bw, 0, none⟩), .pointer (some ⟨gf, 60 * r.length, none⟩), .int .u8 86] w (BareR 86 f.stk w) := by
  have hBB := big_ge
  have hP := p256_ge
  have hPB := p256_big2
  have hP40 := pow40_ge
  have hP41 := pow41_ge
  have hB41 : (256 : Nat) ^ 41 ≤ BIG := big_pow 41 (by omega)
  have hs := argN_lt hf.stk
  have hsl := hf.slen
  have hfx := h.fx
  obtain ⟨o, ho⟩ : ∃ o, o = 60 * r.length := ⟨_, rfl⟩
  rw [← ho] at hfx ⊢
  have HF := hide hfx
  have HS := hide hs
  have HCW := hide h.cw
  have hc : 8 < 256 ^ 41 := by omega
  have hlow : Low 86 f.stk 8 := ⟨fun _ _ _ => by omega, fun hh => by unfold growO at hh; omega, fun hh => by omega, fun _ _ => by omega⟩
  have HL := hide hlow
  have HN := hide (num_any 8 w (by omega))
  clear h hfx hs ho hx hg hf hlow
  go_enter Sakg.func300, Sakg.ntmps300
  go_wp2_with (go_at_call 97; refine (unhide HN).mono ?_; rintro e w1 ⟨A1, k1, c1, rfl, n1, N1, b1⟩; have NN1 := hide n1; clear n1)
  go_ret
  exact ⟨A1, k1, c1, 8, rfl, unhide NN1, N1, hc, unhide HL, b1⟩
set_option maxHeartbeats 8000000 in
theorem bareC_87 (h : SR G bw gf cs fr d (f :: r) x w) (hx : XB x) (hg : Good B d) (hf : AnyF f) :
    Calls Sakg.prog 300 #[.pointer (some ⟨bw, 0, none⟩), .pointer (some ⟨gf, 60 * r.length, none⟩), .int .u8 87] w (BareR 87 f.stk w) := by
  have hBB := big_ge
  have hP := p256_ge
  have hPB := p256_big2
  have hP40 := pow40_ge
  have hP41 := pow41_ge
  have hB41 : (256 : Nat) ^ 41 ≤ BIG := big_pow 41 (by omega)
  have hs := argN_lt hf.stk
  have hsl := hf.slen
  have hfx := h.fx
  obtain ⟨o, ho⟩ : ∃ o, o = 60 * r.length := ⟨_, rfl⟩
  rw [← ho] at hfx ⊢
  have HF := hide hfx
  have HS := hide hs
  have HCW := hide h.cw
  have hc : 10 < 256 ^ 41 := by omega
  have hlow : Low 87 f.stk 10 := ⟨fun _ _ _ => by omega, fun hh => by unfold growO at hh; omega, fun hh => by omega, fun _ _ => by omega⟩
  have HL := hide hlow
  have HN := hide (num_any 10 w (by omega))
  clear h hfx hs ho hx hg hf hlow
  go_enter Sakg.func300, Sakg.ntmps300
  go_wp2_with (go_at_call 97; refine (unhide HN).mono ?_; rintro e w1 ⟨A1, k1, c1, rfl, n1, N1, b1⟩; have NN1 := hide n1; clear n1)
  go_ret
  exact ⟨A1, k1, c1, 10, rfl, unhide NN1, N1, hc, unhide HL, b1⟩
set_option maxHeartbeats 8000000 in
theorem bareC_88 (p : Nat) (h1 : 88 ≤ p) (h2 : p ≤ 90) (h : SR G bw gf cs fr d (f :: r) x w) (hx : XB x) (hg : Good B d) (hf : AnyF f) :
    Calls Sakg.prog 300 #[.pointer (some ⟨bw, 0, none⟩), .pointer (some ⟨gf, 60 * r.length, none⟩), .int .u8 p] w (BareR p f.stk w) := by
  have hBB := big_ge
  have hP := p256_ge
  have hPB := p256_big2
  have hP40 := pow40_ge
  have hP41 := pow41_ge
  have hB41 : (256 : Nat) ^ 41 ≤ BIG := big_pow 41 (by omega)
  have hs := argN_lt hf.stk
  have hsl := hf.slen
  have hfx := h.fx
  obtain ⟨o, ho⟩ : ∃ o, o = 60 * r.length := ⟨_, rfl⟩
  rw [← ho] at hfx ⊢
  have HF := hide hfx
  have HS := hide hs
  have HCW := hide h.cw
  have hc : 2 < 256 ^ 41 := by omega
  have hlow : Low p f.stk 2 := ⟨fun _ _ _ => by omega, fun hh => by unfold growO at hh; omega, fun hh => by omega, fun _ _ => by omega⟩
  have HL := hide hlow
  have HN := hide (num_any 2 w (by omega))
  have HFm := hide (family_any p (by omega) w)
  have hf0 : ((famA p : Int) == 16) = false := by
    have : famA p ≠ 16 := by unfold famA; repeat (first | omega | split)
    rw [beq_eq_false_iff_ne]; omega
  generalize famA p = F at HFm hf0
  clear h hfx hs ho hx hg hf hlow
  have u96 : decide ((96 : Int) ≤ (p : Int)) = false := decide_eq_false (by omega)
  have u16 : decide ((16 : Int) ≤ (p : Int)) = true := decide_eq_true (by omega)
  have v29 : decide ((p : Int) ≤ 29) = false := decide_eq_false (by omega)
  have t1 : ((p : Int) == 1) = false := by rw [beq_eq_false_iff_ne]; omega
  have t3 : ((p : Int) == 3) = false := by rw [beq_eq_false_iff_ne]; omega
  have t53 : ((p : Int) == 53) = false := by rw [beq_eq_false_iff_ne]; omega
  have u81 : decide ((81 : Int) ≤ (p : Int)) = true := decide_eq_true (by omega)
  have v83 : decide ((p : Int) ≤ 83) = false := decide_eq_false (by omega)
  have t2 : ((p : Int) == 2) = false := by rw [beq_eq_false_iff_ne]; omega
  have u4 : decide ((4 : Int) ≤ (p : Int)) = true := decide_eq_true (by omega)
  have v7 : decide ((p : Int) ≤ 7) = false := decide_eq_false (by omega)
  have t11 : ((p : Int) == 11) = false := by rw [beq_eq_false_iff_ne]; omega
  have t71 : ((p : Int) == 71) = false := by rw [beq_eq_false_iff_ne]; omega
  have t8 : ((p : Int) == 8) = false := by rw [beq_eq_false_iff_ne]; omega
  have t9 : ((p : Int) == 9) = false := by rw [beq_eq_false_iff_ne]; omega
  have t86 : ((p : Int) == 86) = false := by rw [beq_eq_false_iff_ne]; omega
  have t87 : ((p : Int) == 87) = false := by rw [beq_eq_false_iff_ne]; omega
  have t91 : ((p : Int) == 91) = false := by rw [beq_eq_false_iff_ne]; omega
  have t64 : ((p : Int) == 64) = false := by rw [beq_eq_false_iff_ne]; omega
  have t0 : ((p : Int) == 0) = false := by rw [beq_eq_false_iff_ne]; omega
  have t243 : ((p : Int) == 243) = false := by rw [beq_eq_false_iff_ne]; omega
  have t253 : ((p : Int) == 253) = false := by rw [beq_eq_false_iff_ne]; omega
  have t10 : ((p : Int) == 10) = false := by rw [beq_eq_false_iff_ne]; omega
  have t32 : ((p : Int) == 32) = false := by rw [beq_eq_false_iff_ne]; omega
  have t55 : ((p : Int) == 55) = false := by rw [beq_eq_false_iff_ne]; omega
  have t57 : ((p : Int) == 57) = false := by rw [beq_eq_false_iff_ne]; omega
  have t62 : ((p : Int) == 62) = false := by rw [beq_eq_false_iff_ne]; omega
  have t94 : ((p : Int) == 94) = false := by rw [beq_eq_false_iff_ne]; omega
  have t49 : ((p : Int) == 49) = false := by rw [beq_eq_false_iff_ne]; omega
  have t59 : ((p : Int) == 59) = false := by rw [beq_eq_false_iff_ne]; omega
  have t63 : ((p : Int) == 63) = false := by rw [beq_eq_false_iff_ne]; omega
  have t60 : ((p : Int) == 60) = false := by rw [beq_eq_false_iff_ne]; omega
  have u160 : decide ((160 : Int) ≤ (p : Int)) = false := decide_eq_false (by omega)
  have t84 : ((p : Int) == 84) = false := by rw [beq_eq_false_iff_ne]; omega
  have t85 : ((p : Int) == 85) = false := by rw [beq_eq_false_iff_ne]; omega
  have t92 : ((p : Int) == 92) = false := by rw [beq_eq_false_iff_ne]; omega
  have t93 : ((p : Int) == 93) = false := by rw [beq_eq_false_iff_ne]; omega
  have t255 : ((p : Int) == 255) = false := by rw [beq_eq_false_iff_ne]; omega
  go_enter Sakg.func300, Sakg.ntmps300
  go_wp2_with (first | (go_at_call 120; refine (unhide HFm).mono ?_; rintro e w0 ⟨rfl, rfl⟩) | (go_at_call 97; refine (unhide HN).mono ?_; rintro e w1 ⟨A1, k1, c1, rfl, n1, N1, b1⟩; have NN1 := hide n1; clear n1))
  go_ret
  exact ⟨A1, k1, c1, 2, rfl, unhide NN1, N1, hc, unhide HL, b1⟩
set_option maxHeartbeats 8000000 in
theorem bareC_91 (h : SR G bw gf cs fr d (f :: r) x w) (hx : XB x) (hg : Good B d) (hf : AnyF f) :
    Calls Sakg.prog 300 #[.pointer (some ⟨bw, 0, none⟩), .pointer (some ⟨gf, 60 * r.length, none⟩), .int .u8 91] w (BareR 91 f.stk w) := by
  have hBB := big_ge
  have hP := p256_ge
  have hPB := p256_big2
  have hP40 := pow40_ge
  have hP41 := pow41_ge
  have hB41 : (256 : Nat) ^ 41 ≤ BIG := big_pow 41 (by omega)
  have hs := argN_lt hf.stk
  have hsl := hf.slen
  have hfx := h.fx
  obtain ⟨o, ho⟩ : ∃ o, o = 60 * r.length := ⟨_, rfl⟩
  rw [← ho] at hfx ⊢
  have HF := hide hfx
  have HS := hide hs
  have HCW := hide h.cw
  have hc : 1 < 256 ^ 41 := by omega
  have hlow : Low 91 f.stk 1 := ⟨fun _ _ _ => by omega, fun hh => by unfold growO at hh; omega, fun hh => by omega, fun _ _ => by omega⟩
  have HL := hide hlow
  have HN := hide (num_any 1 w (by omega))
  clear h hfx hs ho hx hg hf hlow
  go_enter Sakg.func300, Sakg.ntmps300
  go_wp2_with (go_at_call 97; refine (unhide HN).mono ?_; rintro e w1 ⟨A1, k1, c1, rfl, n1, N1, b1⟩; have NN1 := hide n1; clear n1)
  go_ret
  exact ⟨A1, k1, c1, 1, rfl, unhide NN1, N1, hc, unhide HL, b1⟩
set_option maxHeartbeats 8000000 in
theorem bareC_92 (h : SR G bw gf cs fr d (f :: r) x w) (hx : XB x) (hg : Good B d) (hf : AnyF f) :
    Calls Sakg.prog 300 #[.pointer (some ⟨bw, 0, none⟩), .pointer (some ⟨gf, 60 * r.length, none⟩), .int .u8 92] w (BareR 92 f.stk w) := by
  have hBB := big_ge
  have hP := p256_ge
  have hPB := p256_big2
  have hP40 := pow40_ge
  have hP41 := pow41_ge
  have hB41 : (256 : Nat) ^ 41 ≤ BIG := big_pow 41 (by omega)
  have hs := argN_lt hf.stk
  have hsl := hf.slen
  have hfx := h.fx
  obtain ⟨o, ho⟩ : ∃ o, o = 60 * r.length := ⟨_, rfl⟩
  rw [← ho] at hfx ⊢
  have HF := hide hfx
  have HS := hide hs
  have HCW := hide h.cw
  have hc : 100 < 256 ^ 41 := by omega
  have hlow : Low 92 f.stk 100 := ⟨fun _ _ _ => by omega, fun hh => by unfold growO at hh; omega, fun hh => by omega, fun _ _ => by omega⟩
  have HL := hide hlow
  have HN := hide (num_any 100 w (by omega))
  clear h hfx hs ho hx hg hf hlow
  go_enter Sakg.func300, Sakg.ntmps300
  go_wp2_with (go_at_call 97; refine (unhide HN).mono ?_; rintro e w1 ⟨A1, k1, c1, rfl, n1, N1, b1⟩; have NN1 := hide n1; clear n1)
  go_ret
  exact ⟨A1, k1, c1, 100, rfl, unhide NN1, N1, hc, unhide HL, b1⟩
set_option maxHeartbeats 8000000 in
theorem bareC_93 (h : SR G bw gf cs fr d (f :: r) x w) (hx : XB x) (hg : Good B d) (hf : AnyF f) :
    Calls Sakg.prog 300 #[.pointer (some ⟨bw, 0, none⟩), .pointer (some ⟨gf, 60 * r.length, none⟩), .int .u8 93] w (BareR 93 f.stk w) := by
  have hBB := big_ge
  have hP := p256_ge
  have hPB := p256_big2
  have hP40 := pow40_ge
  have hP41 := pow41_ge
  have hB41 : (256 : Nat) ^ 41 ≤ BIG := big_pow 41 (by omega)
  have hs := argN_lt hf.stk
  have hsl := hf.slen
  have hfx := h.fx
  obtain ⟨o, ho⟩ : ∃ o, o = 60 * r.length := ⟨_, rfl⟩
  rw [← ho] at hfx ⊢
  have HF := hide hfx
  have HS := hide hs
  have HCW := hide h.cw
  have hc : 100 < 256 ^ 41 := by omega
  have hlow : Low 93 f.stk 100 := ⟨fun _ _ _ => by omega, fun hh => by unfold growO at hh; omega, fun hh => by omega, fun _ _ => by omega⟩
  have HL := hide hlow
  have HN := hide (num_any 100 w (by omega))
  clear h hfx hs ho hx hg hf hlow
  go_enter Sakg.func300, Sakg.ntmps300
  go_wp2_with (go_at_call 97; refine (unhide HN).mono ?_; rintro e w1 ⟨A1, k1, c1, rfl, n1, N1, b1⟩; have NN1 := hide n1; clear n1)
  go_ret
  exact ⟨A1, k1, c1, 100, rfl, unhide NN1, N1, hc, unhide HL, b1⟩
set_option maxHeartbeats 8000000 in
theorem bareC_95 (h : SR G bw gf cs fr d (f :: r) x w) (hx : XB x) (hg : Good B d) (hf : AnyF f) :
    Calls Sakg.prog 300 #[.pointer (some ⟨bw, 0, none⟩), .pointer (some ⟨gf, 60 * r.length, none⟩), .int .u8 95] w (BareR 95 f.stk w) := by
  have hBB := big_ge
  have hP := p256_ge
  have hPB := p256_big2
  have hP40 := pow40_ge
  have hP41 := pow41_ge
  have hB41 : (256 : Nat) ^ 41 ≤ BIG := big_pow 41 (by omega)
  have hs := argN_lt hf.stk
  have hsl := hf.slen
  have hfx := h.fx
  obtain ⟨o, ho⟩ : ∃ o, o = 60 * r.length := ⟨_, rfl⟩
  rw [← ho] at hfx ⊢
  have HF := hide hfx
  have HS := hide hs
  have HCW := hide h.cw
  have hc : 2 < 256 ^ 41 := by omega
  have hlow : Low 95 f.stk 2 := ⟨fun _ _ _ => by omega, fun hh => by unfold growO at hh; omega, fun hh => by omega, fun _ _ => by omega⟩
  have HL := hide hlow
  have HN := hide (num_any 2 w (by omega))
  have HFm := hide (family_any 95 (by omega) w)
  have hf0 : ((famA 95 : Int) == 16) = false := by
    have : famA 95 ≠ 16 := by unfold famA; repeat (first | omega | split)
    rw [beq_eq_false_iff_ne]; omega
  generalize famA 95 = F at HFm hf0
  clear h hfx hs ho hx hg hf hlow
  go_enter Sakg.func300, Sakg.ntmps300
  go_wp2_with (first | (go_at_call 120; refine (unhide HFm).mono ?_; rintro e w0 ⟨rfl, rfl⟩) | (go_at_call 97; refine (unhide HN).mono ?_; rintro e w1 ⟨A1, k1, c1, rfl, n1, N1, b1⟩; have NN1 := hide n1; clear n1))
  go_ret
  exact ⟨A1, k1, c1, 2, rfl, unhide NN1, N1, hc, unhide HL, b1⟩
set_option maxHeartbeats 8000000 in
theorem bareC_96 (p : Nat) (h1 : 96 ≤ p) (h2 : p ≤ 159) (h : SR G bw gf cs fr d (f :: r) x w) (hx : XB x) (hg : Good B d) (hf : AnyF f) :
    Calls Sakg.prog 300 #[.pointer (some ⟨bw, 0, none⟩), .pointer (some ⟨gf, 60 * r.length, none⟩), .int .u8 p] w (BareR p f.stk w) := by
  have hBB := big_ge
  have hP := p256_ge
  have hPB := p256_big2
  have hP40 := pow40_ge
  have hP41 := pow41_ge
  have hB41 : (256 : Nat) ^ 41 ≤ BIG := big_pow 41 (by omega)
  have hs := argN_lt hf.stk
  have hsl := hf.slen
  have hfx := h.fx
  obtain ⟨o, ho⟩ : ∃ o, o = 60 * r.length := ⟨_, rfl⟩
  rw [← ho] at hfx ⊢
  have HF := hide hfx
  have HS := hide hs
  have HCW := hide h.cw
  have hc : 3 < 256 ^ 41 := by omega
  have hlow : Low p f.stk 3 := ⟨fun _ _ _ => by omega, fun hh => by unfold growO at hh; omega, fun hh => by omega, fun _ _ => by omega⟩
  have HL := hide hlow
  have HN := hide (num_any 3 w (by omega))
  clear h hfx hs ho hx hg hf hlow
  have u96 : decide ((96 : Int) ≤ (p : Int)) = true := decide_eq_true (by omega)
  have v159 : decide ((p : Int) ≤ 159) = true := decide_eq_true (by omega)
  go_enter Sakg.func300, Sakg.ntmps300
  go_wp2_with (go_at_call 97; refine (unhide HN).mono ?_; rintro e w1 ⟨A1, k1, c1, rfl, n1, N1, b1⟩; have NN1 := hide n1; clear n1)
  go_ret
  exact ⟨A1, k1, c1, 3, rfl, unhide NN1, N1, hc, unhide HL, b1⟩
set_option maxHeartbeats 8000000 in
theorem bareC_165 (p : Nat) (h1 : 165 ≤ p) (h2 : p ≤ 239) (h : SR G bw gf cs fr d (f :: r) x w) (hx : XB x) (hg : Good B d) (hf : AnyF f) :
    Calls Sakg.prog 300 #[.pointer (some ⟨bw, 0, none⟩), .pointer (some ⟨gf, 60 * r.length, none⟩), .int .u8 p] w (BareR p f.stk w) := by
  have hBB := big_ge
  have hP := p256_ge
  have hPB := p256_big2
  have hP40 := pow40_ge
  have hP41 := pow41_ge
  have hB41 : (256 : Nat) ^ 41 ≤ BIG := big_pow 41 (by omega)
  have hs := argN_lt hf.stk
  have hsl := hf.slen
  have hfx := h.fx
  obtain ⟨o, ho⟩ : ∃ o, o = 60 * r.length := ⟨_, rfl⟩
  rw [← ho] at hfx ⊢
  have HF := hide hfx
  have HS := hide hs
  have HCW := hide h.cw
  have hc : 2 < 256 ^ 41 := by omega
  have hlow : Low p f.stk 2 := ⟨fun _ _ _ => by omega, fun hh => by unfold growO at hh; omega, fun hh => by omega, fun _ _ => by omega⟩
  have HL := hide hlow
  have HN := hide (num_any 2 w (by omega))
  have HFm := hide (family_any p (by omega) w)
  have hf0 : ((famA p : Int) == 16) = false := by
    have : famA p ≠ 16 := by unfold famA; repeat (first | omega | split)
    rw [beq_eq_false_iff_ne]; omega
  generalize famA p = F at HFm hf0
  clear h hfx hs ho hx hg hf hlow
  have u96 : decide ((96 : Int) ≤ (p : Int)) = true := decide_eq_true (by omega)
  have v159 : decide ((p : Int) ≤ 159) = false := decide_eq_false (by omega)
  have u16 : decide ((16 : Int) ≤ (p : Int)) = true := decide_eq_true (by omega)
  have v29 : decide ((p : Int) ≤ 29) = false := decide_eq_false (by omega)
  have t1 : ((p : Int) == 1) = false := by rw [beq_eq_false_iff_ne]; omega
  have t3 : ((p : Int) == 3) = false := by rw [beq_eq_false_iff_ne]; omega
  have t53 : ((p : Int) == 53) = false := by rw [beq_eq_false_iff_ne]; omega
  have u81 : decide ((81 : Int) ≤ (p : Int)) = true := decide_eq_true (by omega)
  have v83 : decide ((p : Int) ≤ 83) = false := decide_eq_false (by omega)
  have t2 : ((p : Int) == 2) = false := by rw [beq_eq_false_iff_ne]; omega
  have u4 : decide ((4 : Int) ≤ (p : Int)) = true := decide_eq_true (by omega)
  have v7 : decide ((p : Int) ≤ 7) = false := decide_eq_false (by omega)
  have t11 : ((p : Int) == 11) = false := by rw [beq_eq_false_iff_ne]; omega
  have t71 : ((p : Int) == 71) = false := by rw [beq_eq_false_iff_ne]; omega
  have t8 : ((p : Int) == 8) = false := by rw [beq_eq_false_iff_ne]; omega
  have t9 : ((p : Int) == 9) = false := by rw [beq_eq_false_iff_ne]; omega
  have t86 : ((p : Int) == 86) = false := by rw [beq_eq_false_iff_ne]; omega
  have t87 : ((p : Int) == 87) = false := by rw [beq_eq_false_iff_ne]; omega
  have t91 : ((p : Int) == 91) = false := by rw [beq_eq_false_iff_ne]; omega
  have t64 : ((p : Int) == 64) = false := by rw [beq_eq_false_iff_ne]; omega
  have t0 : ((p : Int) == 0) = false := by rw [beq_eq_false_iff_ne]; omega
  have t243 : ((p : Int) == 243) = false := by rw [beq_eq_false_iff_ne]; omega
  have t253 : ((p : Int) == 253) = false := by rw [beq_eq_false_iff_ne]; omega
  have t10 : ((p : Int) == 10) = false := by rw [beq_eq_false_iff_ne]; omega
  have t32 : ((p : Int) == 32) = false := by rw [beq_eq_false_iff_ne]; omega
  have t55 : ((p : Int) == 55) = false := by rw [beq_eq_false_iff_ne]; omega
  have t57 : ((p : Int) == 57) = false := by rw [beq_eq_false_iff_ne]; omega
  have t62 : ((p : Int) == 62) = false := by rw [beq_eq_false_iff_ne]; omega
  have t94 : ((p : Int) == 94) = false := by rw [beq_eq_false_iff_ne]; omega
  have t49 : ((p : Int) == 49) = false := by rw [beq_eq_false_iff_ne]; omega
  have t59 : ((p : Int) == 59) = false := by rw [beq_eq_false_iff_ne]; omega
  have t63 : ((p : Int) == 63) = false := by rw [beq_eq_false_iff_ne]; omega
  have t60 : ((p : Int) == 60) = false := by rw [beq_eq_false_iff_ne]; omega
  have u160 : decide ((160 : Int) ≤ (p : Int)) = true := decide_eq_true (by omega)
  have v164 : decide ((p : Int) ≤ 164) = false := decide_eq_false (by omega)
  have t84 : ((p : Int) == 84) = false := by rw [beq_eq_false_iff_ne]; omega
  have t85 : ((p : Int) == 85) = false := by rw [beq_eq_false_iff_ne]; omega
  have t92 : ((p : Int) == 92) = false := by rw [beq_eq_false_iff_ne]; omega
  have t93 : ((p : Int) == 93) = false := by rw [beq_eq_false_iff_ne]; omega
  have t255 : ((p : Int) == 255) = false := by rw [beq_eq_false_iff_ne]; omega
  go_enter Sakg.func300, Sakg.ntmps300
  go_wp2_with (first | (go_at_call 120; refine (unhide HFm).mono ?_; rintro e w0 ⟨rfl, rfl⟩) | (go_at_call 97; refine (unhide HN).mono ?_; rintro e w1 ⟨A1, k1, c1, rfl, n1, N1, b1⟩; have NN1 := hide n1; clear n1))
  go_ret
  exact ⟨A1, k1, c1, 2, rfl, unhide NN1, N1, hc, unhide HL, b1⟩
set_option maxHeartbeats 8000000 in
theorem bareC_243 (h : SR G bw gf cs fr d (f :: r) x w) (hx : XB x) (hg : Good B d) (hf : AnyF f) :
    Calls Sakg.prog 300 #[.pointer (some ⟨bw, 0, none⟩), .pointer (some ⟨gf, 60 * r.length, none⟩), .int .u8 243] w (BareR 243 f.stk w) := by
  have hBB := big_ge
  have hP := p256_ge
  have hPB := p256_big2
  have hP40 := pow40_ge
  have hP41 := pow41_ge
  have hB41 : (256 : Nat) ^ 41 ≤ BIG := big_pow 41 (by omega)
  have hs := argN_lt hf.stk
  have hsl := hf.slen
  have hfx := h.fx
  obtain ⟨o, ho⟩ : ∃ o, o = 60 * r.length := ⟨_, rfl⟩
  rw [← ho] at hfx ⊢
  have HF := hide hfx
  have HS := hide hs
  have HCW := hide h.cw
  have hc : 0 < 256 ^ 41 := by omega
  have hlow : Low 243 f.stk 0 := ⟨fun _ _ _ => by omega, fun hh => by unfold growO at hh; omega, fun hh => by omega, fun _ _ => by omega⟩
  have HL := hide hlow
  have HN := hide (num_any 0 w (by omega))
  clear h hfx hs ho hx hg hf hlow
  go_enter Sakg.func300, Sakg.ntmps300
  go_wp2_with (go_at_call 97; refine (unhide HN).mono ?_; rintro e w1 ⟨A1, k1, c1, rfl, n1, N1, b1⟩; have NN1 := hide n1; clear n1)
  go_ret
  exact ⟨A1, k1, c1, 0, rfl, unhide NN1, N1, hc, unhide HL, b1⟩
set_option maxHeartbeats 8000000 in
theorem bareC_246 (p : Nat) (h1 : 246 ≤ p) (h2 : p ≤ 249) (h : SR G bw gf cs fr d (f :: r) x w) (hx : XB x) (hg : Good B d) (hf : AnyF f) :
    Calls Sakg.prog 300 #[.pointer (some ⟨bw, 0, none⟩), .pointer (some ⟨gf, 60 * r.length, none⟩), .int .u8 p] w (BareR p f.stk w) := by
  have hBB := big_ge
  have hP := p256_ge
  have hPB := p256_big2
  have hP40 := pow40_ge
  have hP41 := pow41_ge
  have hB41 : (256 : Nat) ^ 41 ≤ BIG := big_pow 41 (by omega)
  have hs := argN_lt hf.stk
  have hsl := hf.slen
  have hfx := h.fx
  obtain ⟨o, ho⟩ : ∃ o, o = 60 * r.length := ⟨_, rfl⟩
  rw [← ho] at hfx ⊢
  have HF := hide hfx
  have HS := hide hs
  have HCW := hide h.cw
  have hc : 2 < 256 ^ 41 := by omega
  have hlow : Low p f.stk 2 := ⟨fun _ _ _ => by omega, fun hh => by unfold growO at hh; omega, fun hh => by omega, fun _ _ => by omega⟩
  have HL := hide hlow
  have HN := hide (num_any 2 w (by omega))
  have HFm := hide (family_any p (by omega) w)
  have hf0 : ((famA p : Int) == 16) = false := by
    have : famA p ≠ 16 := by unfold famA; repeat (first | omega | split)
    rw [beq_eq_false_iff_ne]; omega
  generalize famA p = F at HFm hf0
  clear h hfx hs ho hx hg hf hlow
  have u96 : decide ((96 : Int) ≤ (p : Int)) = true := decide_eq_true (by omega)
  have v159 : decide ((p : Int) ≤ 159) = false := decide_eq_false (by omega)
  have u16 : decide ((16 : Int) ≤ (p : Int)) = true := decide_eq_true (by omega)
  have v29 : decide ((p : Int) ≤ 29) = false := decide_eq_false (by omega)
  have t1 : ((p : Int) == 1) = false := by rw [beq_eq_false_iff_ne]; omega
  have t3 : ((p : Int) == 3) = false := by rw [beq_eq_false_iff_ne]; omega
  have t53 : ((p : Int) == 53) = false := by rw [beq_eq_false_iff_ne]; omega
  have u81 : decide ((81 : Int) ≤ (p : Int)) = true := decide_eq_true (by omega)
  have v83 : decide ((p : Int) ≤ 83) = false := decide_eq_false (by omega)
  have t2 : ((p : Int) == 2) = false := by rw [beq_eq_false_iff_ne]; omega
  have u4 : decide ((4 : Int) ≤ (p : Int)) = true := decide_eq_true (by omega)
  have v7 : decide ((p : Int) ≤ 7) = false := decide_eq_false (by omega)
  have t11 : ((p : Int) == 11) = false := by rw [beq_eq_false_iff_ne]; omega
  have t71 : ((p : Int) == 71) = false := by rw [beq_eq_false_iff_ne]; omega
  have t8 : ((p : Int) == 8) = false := by rw [beq_eq_false_iff_ne]; omega
  have t9 : ((p : Int) == 9) = false := by rw [beq_eq_false_iff_ne]; omega
  have t86 : ((p : Int) == 86) = false := by rw [beq_eq_false_iff_ne]; omega
  have t87 : ((p : Int) == 87) = false := by rw [beq_eq_false_iff_ne]; omega
  have t91 : ((p : Int) == 91) = false := by rw [beq_eq_false_iff_ne]; omega
  have t64 : ((p : Int) == 64) = false := by rw [beq_eq_false_iff_ne]; omega
  have t0 : ((p : Int) == 0) = false := by rw [beq_eq_false_iff_ne]; omega
  have t243 : ((p : Int) == 243) = false := by rw [beq_eq_false_iff_ne]; omega
  have t253 : ((p : Int) == 253) = false := by rw [beq_eq_false_iff_ne]; omega
  have t10 : ((p : Int) == 10) = false := by rw [beq_eq_false_iff_ne]; omega
  have t32 : ((p : Int) == 32) = false := by rw [beq_eq_false_iff_ne]; omega
  have t55 : ((p : Int) == 55) = false := by rw [beq_eq_false_iff_ne]; omega
  have t57 : ((p : Int) == 57) = false := by rw [beq_eq_false_iff_ne]; omega
  have t62 : ((p : Int) == 62) = false := by rw [beq_eq_false_iff_ne]; omega
  have t94 : ((p : Int) == 94) = false := by rw [beq_eq_false_iff_ne]; omega
  have t49 : ((p : Int) == 49) = false := by rw [beq_eq_false_iff_ne]; omega
  have t59 : ((p : Int) == 59) = false := by rw [beq_eq_false_iff_ne]; omega
  have t63 : ((p : Int) == 63) = false := by rw [beq_eq_false_iff_ne]; omega
  have t60 : ((p : Int) == 60) = false := by rw [beq_eq_false_iff_ne]; omega
  have u160 : decide ((160 : Int) ≤ (p : Int)) = true := decide_eq_true (by omega)
  have v164 : decide ((p : Int) ≤ 164) = false := decide_eq_false (by omega)
  have t84 : ((p : Int) == 84) = false := by rw [beq_eq_false_iff_ne]; omega
  have t85 : ((p : Int) == 85) = false := by rw [beq_eq_false_iff_ne]; omega
  have t92 : ((p : Int) == 92) = false := by rw [beq_eq_false_iff_ne]; omega
  have t93 : ((p : Int) == 93) = false := by rw [beq_eq_false_iff_ne]; omega
  have t255 : ((p : Int) == 255) = false := by rw [beq_eq_false_iff_ne]; omega
  go_enter Sakg.func300, Sakg.ntmps300
  go_wp2_with (first | (go_at_call 120; refine (unhide HFm).mono ?_; rintro e w0 ⟨rfl, rfl⟩) | (go_at_call 97; refine (unhide HN).mono ?_; rintro e w1 ⟨A1, k1, c1, rfl, n1, N1, b1⟩; have NN1 := hide n1; clear n1))
  go_ret
  exact ⟨A1, k1, c1, 2, rfl, unhide NN1, N1, hc, unhide HL, b1⟩
set_option maxHeartbeats 8000000 in
theorem bareC_251 (p : Nat) (h1 : 251 ≤ p) (h2 : p ≤ 252) (h : SR G bw gf cs fr d (f :: r) x w) (hx : XB x) (hg : Good B d) (hf : AnyF f) :
    Calls Sakg.prog 300 #[.pointer (some ⟨bw, 0, none⟩), .pointer (some ⟨gf, 60 * r.length, none⟩), .int .u8 p] w (BareR p f.stk w) := by
  have hBB := big_ge
  have hP := p256_ge
  have hPB := p256_big2
  have hP40 := pow40_ge
  have hP41 := pow41_ge
  have hB41 : (256 : Nat) ^ 41 ≤ BIG := big_pow 41 (by omega)
  have hs := argN_lt hf.stk
  have hsl := hf.slen
  have hfx := h.fx
  obtain ⟨o, ho⟩ : ∃ o, o = 60 * r.length := ⟨_, rfl⟩
  rw [← ho] at hfx ⊢
  have HF := hide hfx
  have HS := hide hs
  have HCW := hide h.cw
  have hc : 2 < 256 ^ 41 := by omega
  have hlow : Low p f.stk 2 := ⟨fun _ _ _ => by omega, fun hh => by unfold growO at hh; omega, fun hh => by omega, fun _ _ => by omega⟩
  have HL := hide hlow
  have HN := hide (num_any 2 w (by omega))
  have HFm := hide (family_any p (by omega) w)
  have hf0 : ((famA p : Int) == 16) = false := by
    have : famA p ≠ 16 := by unfold famA; repeat (first | omega | split)
    rw [beq_eq_false_iff_ne]; omega
  generalize famA p = F at HFm hf0
  clear h hfx hs ho hx hg hf hlow
  have u96 : decide ((96 : Int) ≤ (p : Int)) = true := decide_eq_true (by omega)
  have v159 : decide ((p : Int) ≤ 159) = false := decide_eq_false (by omega)
  have u16 : decide ((16 : Int) ≤ (p : Int)) = true := decide_eq_true (by omega)
  have v29 : decide ((p : Int) ≤ 29) = false := decide_eq_false (by omega)
  have t1 : ((p : Int) == 1) = false := by rw [beq_eq_false_iff_ne]; omega
  have t3 : ((p : Int) == 3) = false := by rw [beq_eq_false_iff_ne]; omega
  have t53 : ((p : Int) == 53) = false := by rw [beq_eq_false_iff_ne]; omega
  have u81 : decide ((81 : Int) ≤ (p : Int)) = true := decide_eq_true (by omega)
  have v83 : decide ((p : Int) ≤ 83) = false := decide_eq_false (by omega)
  have t2 : ((p : Int) == 2) = false := by rw [beq_eq_false_iff_ne]; omega
  have u4 : decide ((4 : Int) ≤ (p : Int)) = true := decide_eq_true (by omega)
  have v7 : decide ((p : Int) ≤ 7) = false := decide_eq_false (by omega)
  have t11 : ((p : Int) == 11) = false := by rw [beq_eq_false_iff_ne]; omega
  have t71 : ((p : Int) == 71) = false := by rw [beq_eq_false_iff_ne]; omega
  have t8 : ((p : Int) == 8) = false := by rw [beq_eq_false_iff_ne]; omega
  have t9 : ((p : Int) == 9) = false := by rw [beq_eq_false_iff_ne]; omega
  have t86 : ((p : Int) == 86) = false := by rw [beq_eq_false_iff_ne]; omega
  have t87 : ((p : Int) == 87) = false := by rw [beq_eq_false_iff_ne]; omega
  have t91 : ((p : Int) == 91) = false := by rw [beq_eq_false_iff_ne]; omega
  have t64 : ((p : Int) == 64) = false := by rw [beq_eq_false_iff_ne]; omega
  have t0 : ((p : Int) == 0) = false := by rw [beq_eq_false_iff_ne]; omega
  have t243 : ((p : Int) == 243) = false := by rw [beq_eq_false_iff_ne]; omega
  have t253 : ((p : Int) == 253) = false := by rw [beq_eq_false_iff_ne]; omega
  have t10 : ((p : Int) == 10) = false := by rw [beq_eq_false_iff_ne]; omega
  have t32 : ((p : Int) == 32) = false := by rw [beq_eq_false_iff_ne]; omega
  have t55 : ((p : Int) == 55) = false := by rw [beq_eq_false_iff_ne]; omega
  have t57 : ((p : Int) == 57) = false := by rw [beq_eq_false_iff_ne]; omega
  have t62 : ((p : Int) == 62) = false := by rw [beq_eq_false_iff_ne]; omega
  have t94 : ((p : Int) == 94) = false := by rw [beq_eq_false_iff_ne]; omega
  have t49 : ((p : Int) == 49) = false := by rw [beq_eq_false_iff_ne]; omega
  have t59 : ((p : Int) == 59) = false := by rw [beq_eq_false_iff_ne]; omega
  have t63 : ((p : Int) == 63) = false := by rw [beq_eq_false_iff_ne]; omega
  have t60 : ((p : Int) == 60) = false := by rw [beq_eq_false_iff_ne]; omega
  have u160 : decide ((160 : Int) ≤ (p : Int)) = true := decide_eq_true (by omega)
  have v164 : decide ((p : Int) ≤ 164) = false := decide_eq_false (by omega)
  have t84 : ((p : Int) == 84) = false := by rw [beq_eq_false_iff_ne]; omega
  have t85 : ((p : Int) == 85) = false := by rw [beq_eq_false_iff_ne]; omega
  have t92 : ((p : Int) == 92) = false := by rw [beq_eq_false_iff_ne]; omega
  have t93 : ((p : Int) == 93) = false := by rw [beq_eq_false_iff_ne]; omega
  have t255 : ((p : Int) == 255) = false := by rw [beq_eq_false_iff_ne]; omega
  go_enter Sakg.func300, Sakg.ntmps300
  go_wp2_with (first | (go_at_call 120; refine (unhide HFm).mono ?_; rintro e w0 ⟨rfl, rfl⟩) | (go_at_call 97; refine (unhide HN).mono ?_; rintro e w1 ⟨A1, k1, c1, rfl, n1, N1, b1⟩; have NN1 := hide n1; clear n1))
  go_ret
  exact ⟨A1, k1, c1, 2, rfl, unhide NN1, N1, hc, unhide HL, b1⟩
set_option maxHeartbeats 8000000 in
theorem bareC_253 (h : SR G bw gf cs fr d (f :: r) x w) (hx : XB x) (hg : Good B d) (hf : AnyF f) :
    Calls Sakg.prog 300 #[.pointer (some ⟨bw, 0, none⟩), .pointer (some ⟨gf, 60 * r.length, none⟩), .int .u8 253] w (BareR 253 f.stk w) := by
  have hBB := big_ge
  have hP := p256_ge
  have hPB := p256_big2
  have hP40 := pow40_ge
  have hP41 := pow41_ge
  have hB41 : (256 : Nat) ^ 41 ≤ BIG := big_pow 41 (by omega)
  have hs := argN_lt hf.stk
  have hsl := hf.slen
  have hfx := h.fx
  obtain ⟨o, ho⟩ : ∃ o, o = 60 * r.length := ⟨_, rfl⟩
  rw [← ho] at hfx ⊢
  have HF := hide hfx
  have HS := hide hs
  have HCW := hide h.cw
  have hc : 0 < 256 ^ 41 := by omega
  have hlow : Low 253 f.stk 0 := ⟨fun _ _ _ => by omega, fun hh => by unfold growO at hh; omega, fun hh => by omega, fun _ _ => by omega⟩
  have HL := hide hlow
  have HN := hide (num_any 0 w (by omega))
  clear h hfx hs ho hx hg hf hlow
  go_enter Sakg.func300, Sakg.ntmps300
  go_wp2_with (go_at_call 97; refine (unhide HN).mono ?_; rintro e w1 ⟨A1, k1, c1, rfl, n1, N1, b1⟩; have NN1 := hide n1; clear n1)
  go_ret
  exact ⟨A1, k1, c1, 0, rfl, unhide NN1, N1, hc, unhide HL, b1⟩
set_option maxHeartbeats 8000000 in
theorem bareC_254 (h : SR G bw gf cs fr d (f :: r) x w) (hx : XB x) (hg : Good B d) (hf : AnyF f) :
    Calls Sakg.prog 300 #[.pointer (some ⟨bw, 0, none⟩), .pointer (some ⟨gf, 60 * r.length, none⟩), .int .u8 254] w (BareR 254 f.stk w) := by
  have hBB := big_ge
  have hP := p256_ge
  have hPB := p256_big2
  have hP40 := pow40_ge
  have hP41 := pow41_ge
  have hB41 : (256 : Nat) ^ 41 ≤ BIG := big_pow 41 (by omega)
  have hs := argN_lt hf.stk
  have hsl := hf.slen
  have hfx := h.fx
  obtain ⟨o, ho⟩ : ∃ o, o = 60 * r.length := ⟨_, rfl⟩
  rw [← ho] at hfx ⊢
  have HF := hide hfx
  have HS := hide hs
  have HCW := hide h.cw
  have hc : 2 < 256 ^ 41 := by omega
  have hlow : Low 254 f.stk 2 := ⟨fun _ _ _ => by omega, fun hh => by unfold growO at hh; omega, fun hh => by omega, fun _ _ => by omega⟩
  have HL := hide hlow
  have HN := hide (num_any 2 w (by omega))
  have HFm := hide (family_any 254 (by omega) w)
  have hf0 : ((famA 254 : Int) == 16) = false := by
    have : famA 254 ≠ 16 := by unfold famA; repeat (first | omega | split)
    rw [beq_eq_false_iff_ne]; omega
  generalize famA 254 = F at HFm hf0
  clear h hfx hs ho hx hg hf hlow
  go_enter Sakg.func300, Sakg.ntmps300
  go_wp2_with (first | (go_at_call 120; refine (unhide HFm).mono ?_; rintro e w0 ⟨rfl, rfl⟩) | (go_at_call 97; refine (unhide HN).mono ?_; rintro e w1 ⟨A1, k1, c1, rfl, n1, N1, b1⟩; have NN1 := hide n1; clear n1))
  go_ret
  exact ⟨A1, k1, c1, 2, rfl, unhide NN1, N1, hc, unhide HL, b1⟩
end

end Go.Proofs.YgcsakGreat
