/-
  No cell of these rows narrows 'for every input' (looked for: loops, veiled, ifaces, maps, wideKeys, modest, calm, conditions, laid).
  DERIVED. THE GIVEN ROWS OF THIS SEAT. 6 by the template 'for every input the law returns true; each argument reads behind the call as it read before'; 0 by the template 'total and deterministic' (their statements: YgcsakTotals.lean).
  GIVEN WITH THE SEED: the statements are not yours to turn. If you find one false, say at which input.
  Laid BY PROGRAM, IN A SANDBOX (cutbox-rows.mjs): the forced cells as the released guide's own fill.sh prints them over the translation a5b7b5167f6c7c98… (all of the seat's roots in one cut). By AI agents, Wed Nov 11 2026. No macro, syntax, notation, axiom, sorry.
-/
import Derived.Test.YgcsakChecked
import GoSem.Claim
import GoSem.ClaimJoined
import GoSem.ClaimMapViews
import Derived.JoinedTies
import Derived.KernelRfl
namespace Go.Proofs.Ygcsak
/- THE CELL 'sum', in the pinned program and in every row, IS THE sha256 OF THE DUMP (.gsa) THAT YgcsakProg.lean LOADS. Nothing in Lean hashes anything: it is a label: what it is worth is what the hold of that sum in a sandbox is worth. -/
noncomputable def Sakg.pinned : Pinned := { name := "ygcsak", sum := "a5b7b5167f6c7c986a2e873ac9339871db17a02f28ea8ffb3db06db14ae0ac31", checked := Sakg.checked }
namespace Rows
def none {H : Type} : Left H := { results := [], args := [] }

/-- 'law.RLPBack': WHATEVER THE INPUT: true; the input reads as it did. -/
def rLPBackSpec : ChangeSpec := { name := "rLPBack", fn := fun _ => fun
  | [d] => { results := [.lit (.bool true)], args := [d] }
  | _ => none }
def rLPBackRow : OpenClaim := { program := "ygcsak", sum := "a5b7b5167f6c7c986a2e873ac9339871db17a02f28ea8ffb3db06db14ae0ac31", func := "yellow/law.RLPBack", spec := "rLPBack", apart := false }
def RLPBackSaid : Prop := rLPBackRow.holds Sakg.pinned (OpenSpec.ofChange rLPBackSpec)

/-- ITS FALSE NEIGHBOUR: 'it returns false'. Refute it at one input. -/
def rLPBackWrong : ChangeSpec := { name := "rLPBack", fn := fun _ => fun
  | [d] => { results := [.lit (.bool false)], args := [d] }
  | _ => none }
def RLPBackWrongFalsely : Prop := rLPBackRow.holds Sakg.pinned (OpenSpec.ofChange rLPBackWrong)

/-- 'law.RLPCanon': WHATEVER THE INPUT: true; the input reads as it did. -/
def rLPCanonSpec : ChangeSpec := { name := "rLPCanon", fn := fun _ => fun
  | [d] => { results := [.lit (.bool true)], args := [d] }
  | _ => none }
def rLPCanonRow : OpenClaim := { program := "ygcsak", sum := "a5b7b5167f6c7c986a2e873ac9339871db17a02f28ea8ffb3db06db14ae0ac31", func := "yellow/law.RLPCanon", spec := "rLPCanon", apart := false }
def RLPCanonSaid : Prop := rLPCanonRow.holds Sakg.pinned (OpenSpec.ofChange rLPCanonSpec)

/-- ITS FALSE NEIGHBOUR: 'it returns false'. Refute it at one input. -/
def rLPCanonWrong : ChangeSpec := { name := "rLPCanon", fn := fun _ => fun
  | [d] => { results := [.lit (.bool false)], args := [d] }
  | _ => none }
def RLPCanonWrongFalsely : Prop := rLPCanonRow.holds Sakg.pinned (OpenSpec.ofChange rLPCanonWrong)

/-- 'law.RLPSame': WHATEVER THE INPUT: true; the input reads as it did. -/
def rLPSameSpec : ChangeSpec := { name := "rLPSame", fn := fun _ => fun
  | [d] => { results := [.lit (.bool true)], args := [d] }
  | _ => none }
def rLPSameRow : OpenClaim := { program := "ygcsak", sum := "a5b7b5167f6c7c986a2e873ac9339871db17a02f28ea8ffb3db06db14ae0ac31", func := "yellow/law.RLPSame", spec := "rLPSame", apart := false }
def RLPSameSaid : Prop := rLPSameRow.holds Sakg.pinned (OpenSpec.ofChange rLPSameSpec)

/-- ITS FALSE NEIGHBOUR: 'it returns false'. Refute it at one input. -/
def rLPSameWrong : ChangeSpec := { name := "rLPSame", fn := fun _ => fun
  | [d] => { results := [.lit (.bool false)], args := [d] }
  | _ => none }
def RLPSameWrongFalsely : Prop := rLPSameRow.holds Sakg.pinned (OpenSpec.ofChange rLPSameWrong)

/-- 'law.TrieRefines': WHATEVER THE INPUT: true; the input reads as it did. -/
def trieRefinesSpec : ChangeSpec := { name := "trieRefines", fn := fun _ => fun
  | [d] => { results := [.lit (.bool true)], args := [d] }
  | _ => none }
def trieRefinesRow : OpenClaim := { program := "ygcsak", sum := "a5b7b5167f6c7c986a2e873ac9339871db17a02f28ea8ffb3db06db14ae0ac31", func := "yellow/law.TrieRefines", spec := "trieRefines", apart := false }
def TrieRefinesSaid : Prop := trieRefinesRow.holds Sakg.pinned (OpenSpec.ofChange trieRefinesSpec)

/-- ITS FALSE NEIGHBOUR: 'it returns false'. Refute it at one input. -/
def trieRefinesWrong : ChangeSpec := { name := "trieRefines", fn := fun _ => fun
  | [d] => { results := [.lit (.bool false)], args := [d] }
  | _ => none }
def TrieRefinesWrongFalsely : Prop := trieRefinesRow.holds Sakg.pinned (OpenSpec.ofChange trieRefinesWrong)

/-- 'law.RootTells': WHATEVER THE INPUT: true; the input reads as it did. -/
def rootTellsSpec : ChangeSpec := { name := "rootTells", fn := fun _ => fun
  | [d1, d2] => { results := [.lit (.bool true)], args := [d1, d2] }
  | _ => none }
def rootTellsRow : OpenClaim := { program := "ygcsak", sum := "a5b7b5167f6c7c986a2e873ac9339871db17a02f28ea8ffb3db06db14ae0ac31", func := "yellow/law.RootTells", spec := "rootTells", apart := false }
def RootTellsSaid : Prop := rootTellsRow.holds Sakg.pinned (OpenSpec.ofChange rootTellsSpec)

/-- ITS FALSE NEIGHBOUR: 'it returns false'. Refute it at one input. -/
def rootTellsWrong : ChangeSpec := { name := "rootTells", fn := fun _ => fun
  | [d1, d2] => { results := [.lit (.bool false)], args := [d1, d2] }
  | _ => none }
def RootTellsWrongFalsely : Prop := rootTellsRow.holds Sakg.pinned (OpenSpec.ofChange rootTellsWrong)

/-- 'law.VerdictRight': WHATEVER THE INPUT: true; the input reads as it did. -/
def verdictRightSpec : ChangeSpec := { name := "verdictRight", fn := fun _ => fun
  | [d1, d2, d3] => { results := [.lit (.bool true)], args := [d1, d2, d3] }
  | _ => none }
def verdictRightRow : OpenClaim := { program := "ygcsak", sum := "a5b7b5167f6c7c986a2e873ac9339871db17a02f28ea8ffb3db06db14ae0ac31", func := "yellow/law.VerdictRight", spec := "verdictRight", apart := false }
def VerdictRightSaid : Prop := verdictRightRow.holds Sakg.pinned (OpenSpec.ofChange verdictRightSpec)

/-- ITS FALSE NEIGHBOUR: 'it returns false'. Refute it at one input. -/
def verdictRightWrong : ChangeSpec := { name := "verdictRight", fn := fun _ => fun
  | [d1, d2, d3] => { results := [.lit (.bool false)], args := [d1, d2, d3] }
  | _ => none }
def VerdictRightWrongFalsely : Prop := verdictRightRow.holds Sakg.pinned (OpenSpec.ofChange verdictRightWrong)

end Rows
end Go.Proofs.Ygcsak
