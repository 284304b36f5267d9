/-
  yp: bareCost at any instruction.
-/
import Derived.Test.YgcsakGreatKgF1
import Derived.Test.YgcsakGreatKgF2
namespace Go.Proofs.YgcsakGreat
set_option linter.unusedVariables false
set_option linter.unusedSimpArgs false
set_option maxRecDepth 100000
open Go.RowKit

section
variable {G : Nat → Prop} {bw gf : Nat} {cs fr : List Value} {d : WD} {f : FD} {r : List FD} {x : XD} {w : World} {B : Nat}
set_option maxHeartbeats 8000000 in
theorem SR.bareCost (h : SR G bw gf cs fr d (f :: r) x w) (hx : XB x) (hg : Good B d) (hf : AnyF f) (p : Nat) (hp : p ≤ 255) :
    Calls Sakg.prog 300 #[.pointer (some ⟨bw, 0, none⟩), .pointer (some ⟨gf, 60 * r.length, none⟩), .int .u8 p] w (BareR p f.stk w) := by
  by_cases h0 : p ≤ 0
  · obtain rfl : p = 0 := by omega
    exact bareC_0 h hx hg hf
  by_cases h1 : p ≤ 1
  · obtain rfl : p = 1 := by omega
    exact bareC_1 h hx hg hf
  by_cases h2 : p ≤ 2
  · obtain rfl : p = 2 := by omega
    exact bareC_2 h hx hg hf
  by_cases h3 : p ≤ 3
  · obtain rfl : p = 3 := by omega
    exact bareC_3 h hx hg hf
  by_cases h4 : p ≤ 7
  · exact bareC_4 p (by omega) (by omega) h hx hg hf
  by_cases h8 : p ≤ 8
  · obtain rfl : p = 8 := by omega
    exact bareC_8 h hx hg hf
  by_cases h9 : p ≤ 9
  · obtain rfl : p = 9 := by omega
    exact bareC_9 h hx hg hf
  by_cases h10 : p ≤ 10
  · obtain rfl : p = 10 := by omega
    exact bareC_10 h hx hg hf
  by_cases h11 : p ≤ 11
  · obtain rfl : p = 11 := by omega
    exact bareC_11 h hx hg hf
  by_cases h12 : p ≤ 15
  · exact bareC_12 p (by omega) (by omega) h hx hg hf
  by_cases h16 : p ≤ 29
  · exact bareC_16 p (by omega) (by omega) h hx hg hf
  by_cases h30 : p ≤ 31
  · exact bareC_30 p (by omega) (by omega) h hx hg hf
  by_cases h32 : p ≤ 32
  · obtain rfl : p = 32 := by omega
    exact bareC_32 h hx hg hf
  by_cases h33 : p ≤ 48
  · exact bareC_33 p (by omega) (by omega) h hx hg hf
  by_cases h49 : p ≤ 49
  · obtain rfl : p = 49 := by omega
    exact bareC_49 h hx hg hf
  by_cases h50 : p ≤ 52
  · exact bareC_50 p (by omega) (by omega) h hx hg hf
  by_cases h53 : p ≤ 53
  · obtain rfl : p = 53 := by omega
    exact bareC_53 h hx hg hf
  by_cases h54 : p ≤ 54
  · obtain rfl : p = 54 := by omega
    exact bareC_54 h hx hg hf
  by_cases h55 : p ≤ 55
  · obtain rfl : p = 55 := by omega
    exact bareC_55 h hx hg hf
  by_cases h56 : p ≤ 56
  · obtain rfl : p = 56 := by omega
    exact bareC_56 h hx hg hf
  by_cases h57 : p ≤ 57
  · obtain rfl : p = 57 := by omega
    exact bareC_57 h hx hg hf
  by_cases h58 : p ≤ 58
  · obtain rfl : p = 58 := by omega
    exact bareC_58 h hx hg hf
  by_cases h59 : p ≤ 59
  · obtain rfl : p = 59 := by omega
    exact bareC_59 h hx hg hf
  by_cases h60 : p ≤ 60
  · obtain rfl : p = 60 := by omega
    exact bareC_60 h hx hg hf
  by_cases h61 : p ≤ 61
  · obtain rfl : p = 61 := by omega
    exact bareC_61 h hx hg hf
  by_cases h62 : p ≤ 62
  · obtain rfl : p = 62 := by omega
    exact bareC_62 h hx hg hf
  by_cases h63 : p ≤ 63
  · obtain rfl : p = 63 := by omega
    exact bareC_63 h hx hg hf
  by_cases h64 : p ≤ 64
  · obtain rfl : p = 64 := by omega
    exact bareC_64 h hx hg hf
  by_cases h65 : p ≤ 70
  · exact bareC_65 p (by omega) (by omega) h hx hg hf
  by_cases h71 : p ≤ 71
  · obtain rfl : p = 71 := by omega
    exact bareC_71 h hx hg hf
  by_cases h72 : p ≤ 80
  · exact bareC_72 p (by omega) (by omega) h hx hg hf
  by_cases h81 : p ≤ 83
  · exact bareC_81 p (by omega) (by omega) h hx hg hf
  by_cases h84 : p ≤ 84
  · obtain rfl : p = 84 := by omega
    exact bareC_84 h hx hg hf
  by_cases h85 : p ≤ 85
  · obtain rfl : p = 85 := by omega
    exact bareC_85 h hx hg hf
  by_cases h86 : p ≤ 86
  · obtain rfl : p = 86 := by omega
    exact bareC_86 h hx hg hf
  by_cases h87 : p ≤ 87
  · obtain rfl : p = 87 := by omega
    exact bareC_87 h hx hg hf
  by_cases h88 : p ≤ 90
  · exact bareC_88 p (by omega) (by omega) h hx hg hf
  by_cases h91 : p ≤ 91
  · obtain rfl : p = 91 := by omega
    exact bareC_91 h hx hg hf
  by_cases h92 : p ≤ 92
  · obtain rfl : p = 92 := by omega
    exact bareC_92 h hx hg hf
  by_cases h93 : p ≤ 93
  · obtain rfl : p = 93 := by omega
    exact bareC_93 h hx hg hf
  by_cases h94 : p ≤ 94
  · obtain rfl : p = 94 := by omega
    exact bareC_94 h hx hg hf
  by_cases h95 : p ≤ 95
  · obtain rfl : p = 95 := by omega
    exact bareC_95 h hx hg hf
  by_cases h96 : p ≤ 159
  · exact bareC_96 p (by omega) (by omega) h hx hg hf
  by_cases h160 : p ≤ 160
  · obtain rfl : p = 160 := by omega
    exact bareC_160 h hx hg hf
  by_cases h161 : p ≤ 161
  · obtain rfl : p = 161 := by omega
    exact bareC_161 h hx hg hf
  by_cases h162 : p ≤ 162
  · obtain rfl : p = 162 := by omega
    exact bareC_162 h hx hg hf
  by_cases h163 : p ≤ 163
  · obtain rfl : p = 163 := by omega
    exact bareC_163 h hx hg hf
  by_cases h164 : p ≤ 164
  · obtain rfl : p = 164 := by omega
    exact bareC_164 h hx hg hf
  by_cases h165 : p ≤ 239
  · exact bareC_165 p (by omega) (by omega) h hx hg hf
  by_cases h240 : p ≤ 240
  · obtain rfl : p = 240 := by omega
    exact bareC_240 h hx hg hf
  by_cases h241 : p ≤ 241
  · obtain rfl : p = 241 := by omega
    exact bareC_241 h hx hg hf
  by_cases h242 : p ≤ 242
  · obtain rfl : p = 242 := by omega
    exact bareC_242 h hx hg hf
  by_cases h243 : p ≤ 243
  · obtain rfl : p = 243 := by omega
    exact bareC_243 h hx hg hf
  by_cases h244 : p ≤ 244
  · obtain rfl : p = 244 := by omega
    exact bareC_244 h hx hg hf
  by_cases h245 : p ≤ 245
  · obtain rfl : p = 245 := by omega
    exact bareC_245 h hx hg hf
  by_cases h246 : p ≤ 249
  · exact bareC_246 p (by omega) (by omega) h hx hg hf
  by_cases h250 : p ≤ 250
  · obtain rfl : p = 250 := by omega
    exact bareC_250 h hx hg hf
  by_cases h251 : p ≤ 252
  · exact bareC_251 p (by omega) (by omega) h hx hg hf
  by_cases h253 : p ≤ 253
  · obtain rfl : p = 253 := by omega
    exact bareC_253 h hx hg hf
  by_cases h254 : p ≤ 254
  · obtain rfl : p = 254 := by omega
    exact bareC_254 h hx hg hf
  obtain rfl : p = 255 := by omega
  exact bareC_255 h hx hg hf
end

end Go.Proofs.YgcsakGreat
