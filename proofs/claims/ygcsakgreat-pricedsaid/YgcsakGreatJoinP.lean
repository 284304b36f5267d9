/-
  Priced's row: the closed facts on her road, one declaration each.
-/
import Derived.Test.YgcsakGreatRows
import Derived.WalkKit
import Derived.ProofKit
namespace Go.Proofs.YgcsakGreat.priced
set_option maxRecDepth 100000

theorem roadInPlace : Sakg.prog.inPlace 3 = [] := by kernel_rfl
theorem roadFollowed : Sakg.prog.unfollowed 3 = false := by kernel_rfl
theorem roadRecurses : Sakg.prog.recurses 3 = false := by kernel_rfl
theorem roadNamed : Sakg.prog.varsNamed 3 = [] := by kernel_rfl

end Go.Proofs.YgcsakGreat.priced
