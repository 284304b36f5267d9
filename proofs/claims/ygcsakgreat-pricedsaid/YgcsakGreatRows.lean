/-
  No cell of these rows narrows 'for every input' (looked for: loops, veiled, ifaces, maps, wideKeys, modest, calm, conditions, laid).
  DERIVED. THE GIVEN ROWS OF THIS SEAT. 6 by the template 'for every input the law returns true; each argument reads behind the call as it read before'; 0 by the template 'total and deterministic' (their statements: YgcsakGreatTotals.lean).
  GIVEN WITH THE SEED: the statements are not yours to turn. If you find one false, say at which input.
  Laid BY PROGRAM, IN A SANDBOX (cutbox-rows.mjs): the forced cells as the released guide's own fill.sh prints them over the translation df8510f08316a4c0… (all of the seat's roots in one cut). By AI agents, Wed Nov 11 2026. No macro, syntax, notation, axiom, sorry.
-/
import Derived.Test.YgcsakGreatChecked
import GoSem.Claim
import GoSem.ClaimJoined
import GoSem.ClaimMapViews
import Derived.JoinedTies
import Derived.KernelRfl
namespace Go.Proofs.YgcsakGreat
/- THE CELL 'sum', in the pinned program and in every row, IS THE sha256 OF THE DUMP (.gsa) THAT YgcsakGreatProg.lean LOADS. Nothing in Lean hashes anything: it is a label: what it is worth is what the hold of that sum in a sandbox is worth. -/
noncomputable def Sakg.pinned : Pinned := { name := "ygcsakgreat", sum := "df8510f08316a4c08e587923f164d53fb8c14bf41b72f7237e1aa9a84a7c8e88", checked := Sakg.checked }
namespace Rows
def none {H : Type} : Left H := { results := [], args := [] }

/-- 'law.Priced': WHATEVER THE INPUT: true; the input reads as it did. -/
def pricedSpec : ChangeSpec := { name := "priced", fn := fun _ => fun
  | [d1, d2] => { results := [.lit (.bool true)], args := [d1, d2] }
  | _ => none }
def pricedRow : OpenClaim := { program := "ygcsakgreat", sum := "df8510f08316a4c08e587923f164d53fb8c14bf41b72f7237e1aa9a84a7c8e88", func := "yellow/law.Priced", spec := "priced", apart := false }
def PricedSaid : Prop := pricedRow.holds Sakg.pinned (OpenSpec.ofChange pricedSpec)

/-- ITS FALSE NEIGHBOUR: 'it returns false'. Refute it at one input. -/
def pricedWrong : ChangeSpec := { name := "priced", fn := fun _ => fun
  | [d1, d2] => { results := [.lit (.bool false)], args := [d1, d2] }
  | _ => none }
def PricedWrongFalsely : Prop := pricedRow.holds Sakg.pinned (OpenSpec.ofChange pricedWrong)

/-- 'law.SpecAlu': WHATEVER THE INPUT: true; the input reads as it did. -/
def specAluSpec : ChangeSpec := { name := "specAlu", fn := fun _ => fun
  | [d1, d2, d3, d4] => { results := [.lit (.bool true)], args := [d1, d2, d3, d4] }
  | _ => none }
def specAluRow : OpenClaim := { program := "ygcsakgreat", sum := "df8510f08316a4c08e587923f164d53fb8c14bf41b72f7237e1aa9a84a7c8e88", func := "yellow/law.SpecAlu", spec := "specAlu", apart := false }
def SpecAluSaid : Prop := specAluRow.holds Sakg.pinned (OpenSpec.ofChange specAluSpec)

/-- ITS FALSE NEIGHBOUR: 'it returns false'. Refute it at one input. -/
def specAluWrong : ChangeSpec := { name := "specAlu", fn := fun _ => fun
  | [d1, d2, d3, d4] => { results := [.lit (.bool false)], args := [d1, d2, d3, d4] }
  | _ => none }
def SpecAluWrongFalsely : Prop := specAluRow.holds Sakg.pinned (OpenSpec.ofChange specAluWrong)

/-- 'law.RootSame': WHATEVER THE INPUT: true; the input reads as it did. -/
def rootSameSpec : ChangeSpec := { name := "rootSame", fn := fun _ => fun
  | [d1, d2, d3] => { results := [.lit (.bool true)], args := [d1, d2, d3] }
  | _ => none }
def rootSameRow : OpenClaim := { program := "ygcsakgreat", sum := "df8510f08316a4c08e587923f164d53fb8c14bf41b72f7237e1aa9a84a7c8e88", func := "yellow/law.RootSame", spec := "rootSame", inPlace := ["math/bits.Add64", "math/bits.Sub64"], named := ["math/bits.divideError", "math/bits.overflowError"], apart := false }
def RootSameSaid : Prop := rootSameRow.holds Sakg.pinned (OpenSpec.ofChange rootSameSpec)

/-- ITS FALSE NEIGHBOUR: 'it returns false'. Refute it at one input. -/
def rootSameWrong : ChangeSpec := { name := "rootSame", fn := fun _ => fun
  | [d1, d2, d3] => { results := [.lit (.bool false)], args := [d1, d2, d3] }
  | _ => none }
def RootSameWrongFalsely : Prop := rootSameRow.holds Sakg.pinned (OpenSpec.ofChange rootSameWrong)

/-- 'law.Conserves': WHATEVER THE INPUT: true; the input reads as it did. -/
def conservesSpec : ChangeSpec := { name := "conserves", fn := fun _ => fun
  | [d1, d2, d3] => { results := [.lit (.bool true)], args := [d1, d2, d3] }
  | _ => none }
def conservesRow : OpenClaim := { program := "ygcsakgreat", sum := "df8510f08316a4c08e587923f164d53fb8c14bf41b72f7237e1aa9a84a7c8e88", func := "yellow/law.Conserves", spec := "conserves", apart := false }
def ConservesSaid : Prop := conservesRow.holds Sakg.pinned (OpenSpec.ofChange conservesSpec)

/-- ITS FALSE NEIGHBOUR: 'it returns false'. Refute it at one input. -/
def conservesWrong : ChangeSpec := { name := "conserves", fn := fun _ => fun
  | [d1, d2, d3] => { results := [.lit (.bool false)], args := [d1, d2, d3] }
  | _ => none }
def ConservesWrongFalsely : Prop := conservesRow.holds Sakg.pinned (OpenSpec.ofChange conservesWrong)

/-- 'law.FailRestores': WHATEVER THE INPUT: true; the input reads as it did. -/
def failRestoresSpec : ChangeSpec := { name := "failRestores", fn := fun _ => fun
  | [d1, d2, d3] => { results := [.lit (.bool true)], args := [d1, d2, d3] }
  | _ => none }
def failRestoresRow : OpenClaim := { program := "ygcsakgreat", sum := "df8510f08316a4c08e587923f164d53fb8c14bf41b72f7237e1aa9a84a7c8e88", func := "yellow/law.FailRestores", spec := "failRestores", apart := false }
def FailRestoresSaid : Prop := failRestoresRow.holds Sakg.pinned (OpenSpec.ofChange failRestoresSpec)

/-- ITS FALSE NEIGHBOUR: 'it returns false'. Refute it at one input. -/
def failRestoresWrong : ChangeSpec := { name := "failRestores", fn := fun _ => fun
  | [d1, d2, d3] => { results := [.lit (.bool false)], args := [d1, d2, d3] }
  | _ => none }
def FailRestoresWrongFalsely : Prop := failRestoresRow.holds Sakg.pinned (OpenSpec.ofChange failRestoresWrong)

/-- 'law.GasBounds': WHATEVER THE INPUT: true; the input reads as it did. -/
def gasBoundsSpec : ChangeSpec := { name := "gasBounds", fn := fun _ => fun
  | [d1, d2, d3] => { results := [.lit (.bool true)], args := [d1, d2, d3] }
  | _ => none }
def gasBoundsRow : OpenClaim := { program := "ygcsakgreat", sum := "df8510f08316a4c08e587923f164d53fb8c14bf41b72f7237e1aa9a84a7c8e88", func := "yellow/law.GasBounds", spec := "gasBounds", apart := false }
def GasBoundsSaid : Prop := gasBoundsRow.holds Sakg.pinned (OpenSpec.ofChange gasBoundsSpec)

/-- ITS FALSE NEIGHBOUR: 'it returns false'. Refute it at one input. -/
def gasBoundsWrong : ChangeSpec := { name := "gasBounds", fn := fun _ => fun
  | [d1, d2, d3] => { results := [.lit (.bool false)], args := [d1, d2, d3] }
  | _ => none }
def GasBoundsWrongFalsely : Prop := gasBoundsRow.holds Sakg.pinned (OpenSpec.ofChange gasBoundsWrong)

end Rows
end Go.Proofs.YgcsakGreat
