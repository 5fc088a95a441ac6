/-
  NARROWER THAN 'FOR EVERY INPUT', by the rows' own cells (each row's printed sentence says how): CheckSubst: loops · CheckSwaps: loops · CheckTypes: loops · CheckContexts: loops · CheckObjects: loops · CheckUnique: loops · CheckSignatures: loops · CheckWeak: loops · CheckPrefix: loops.
  DERIVED. THE GIVEN ROWS OF THIS SEAT. 9 by the template 'for every input the law returns true; each argument reads behind the call as it read before'; 0 by the template 'total and deterministic' (their statements: YtkkbapgekkhlhaaGreatTotals.lean).
  GIVEN WITH THE SEED: the statements are not yours to turn. If you find one false, say at which input.
  Laid BY PROGRAM, IN A SANDBOX (cutbox-rows.mjs): the forced cells as the released guide's own fill.sh prints them over the translation cda771c5427cc910… (all of the seat's roots in one cut). By AI agents, Wed Nov 11 2026. No macro, syntax, notation, axiom, sorry.
-/
import Derived.Test.YtkkbapgekkhlhaaGreatChecked
import GoSem.Claim
import GoSem.ClaimJoined
import GoSem.ClaimMapViews
import Derived.JoinedTies
import Derived.KernelRfl
namespace Go.Proofs.YtkkbapgekkhlhaaGreat
/- THE CELL 'sum', in the pinned program and in every row, IS THE sha256 OF THE DUMP (.gsa) THAT YtkkbapgekkhlhaaGreatProg.lean LOADS. Nothing in Lean hashes anything: it is a label: what it is worth is what the hold of that sum in a sandbox is worth. -/
noncomputable def Tryz.pinned : Pinned := { name := "ytkkbapgekkhlhaagreat", sum := "cda771c5427cc910e9b29145ad1c16998a95d43c5fe9dbc646fb8879a0102606", checked := Tryz.checked }
namespace Rows
def none {H : Type} : Left H := { results := [], args := [] }

/-- 'trusslaw06.CheckSubst': WHATEVER THE INPUT: true; the input reads as it did. -/
def checkSubstSpec : ChangeSpec := { name := "checkSubst", fn := fun _ => fun
  | [d1, d2] => { results := [.lit (.bool true)], args := [d1, d2] }
  | _ => none }
def checkSubstRow : OpenClaim := { program := "ytkkbapgekkhlhaagreat", sum := "cda771c5427cc910e9b29145ad1c16998a95d43c5fe9dbc646fb8879a0102606", func := "truss/trusslaw06.CheckSubst", spec := "checkSubst", unfollowed := true, recurses := true, loops := true, apart := false }
def CheckSubstSaid : Prop := checkSubstRow.holds Tryz.pinned (OpenSpec.ofChange checkSubstSpec)

/-- ITS FALSE NEIGHBOUR: 'it returns false'. Refute it at one input. -/
def checkSubstWrong : ChangeSpec := { name := "checkSubst", fn := fun _ => fun
  | [d1, d2] => { results := [.lit (.bool false)], args := [d1, d2] }
  | _ => none }
def CheckSubstWrongFalsely : Prop := checkSubstRow.holds Tryz.pinned (OpenSpec.ofChange checkSubstWrong)

/-- 'trusslaw06.CheckSwaps': WHATEVER THE INPUT: true; the input reads as it did. -/
def checkSwapsSpec : ChangeSpec := { name := "checkSwaps", fn := fun _ => fun
  | [d1, d2] => { results := [.lit (.bool true)], args := [d1, d2] }
  | _ => none }
def checkSwapsRow : OpenClaim := { program := "ytkkbapgekkhlhaagreat", sum := "cda771c5427cc910e9b29145ad1c16998a95d43c5fe9dbc646fb8879a0102606", func := "truss/trusslaw06.CheckSwaps", spec := "checkSwaps", unfollowed := true, recurses := true, loops := true, apart := false }
def CheckSwapsSaid : Prop := checkSwapsRow.holds Tryz.pinned (OpenSpec.ofChange checkSwapsSpec)

/-- ITS FALSE NEIGHBOUR: 'it returns false'. Refute it at one input. -/
def checkSwapsWrong : ChangeSpec := { name := "checkSwaps", fn := fun _ => fun
  | [d1, d2] => { results := [.lit (.bool false)], args := [d1, d2] }
  | _ => none }
def CheckSwapsWrongFalsely : Prop := checkSwapsRow.holds Tryz.pinned (OpenSpec.ofChange checkSwapsWrong)

/-- 'trusslaw06.CheckTypes': WHATEVER THE INPUT: true; the input reads as it did. -/
def checkTypesSpec : ChangeSpec := { name := "checkTypes", fn := fun _ => fun
  | [d1, d2] => { results := [.lit (.bool true)], args := [d1, d2] }
  | _ => none }
def checkTypesRow : OpenClaim := { program := "ytkkbapgekkhlhaagreat", sum := "cda771c5427cc910e9b29145ad1c16998a95d43c5fe9dbc646fb8879a0102606", func := "truss/trusslaw06.CheckTypes", spec := "checkTypes", unfollowed := true, recurses := true, loops := true, apart := false }
def CheckTypesSaid : Prop := checkTypesRow.holds Tryz.pinned (OpenSpec.ofChange checkTypesSpec)

/-- ITS FALSE NEIGHBOUR: 'it returns false'. Refute it at one input. -/
def checkTypesWrong : ChangeSpec := { name := "checkTypes", fn := fun _ => fun
  | [d1, d2] => { results := [.lit (.bool false)], args := [d1, d2] }
  | _ => none }
def CheckTypesWrongFalsely : Prop := checkTypesRow.holds Tryz.pinned (OpenSpec.ofChange checkTypesWrong)

/-- 'trusslaw06.CheckContexts': WHATEVER THE INPUT: true; the input reads as it did. -/
def checkContextsSpec : ChangeSpec := { name := "checkContexts", fn := fun _ => fun
  | [d] => { results := [.lit (.bool true)], args := [d] }
  | _ => none }
def checkContextsRow : OpenClaim := { program := "ytkkbapgekkhlhaagreat", sum := "cda771c5427cc910e9b29145ad1c16998a95d43c5fe9dbc646fb8879a0102606", func := "truss/trusslaw06.CheckContexts", spec := "checkContexts", unfollowed := true, recurses := true, loops := true, apart := false }
def CheckContextsSaid : Prop := checkContextsRow.holds Tryz.pinned (OpenSpec.ofChange checkContextsSpec)

/-- ITS FALSE NEIGHBOUR: 'it returns false'. Refute it at one input. -/
def checkContextsWrong : ChangeSpec := { name := "checkContexts", fn := fun _ => fun
  | [d] => { results := [.lit (.bool false)], args := [d] }
  | _ => none }
def CheckContextsWrongFalsely : Prop := checkContextsRow.holds Tryz.pinned (OpenSpec.ofChange checkContextsWrong)

/-- 'trusslaw06.CheckObjects': WHATEVER THE INPUT: true; the input reads as it did. -/
def checkObjectsSpec : ChangeSpec := { name := "checkObjects", fn := fun _ => fun
  | [d1, d2, d3] => { results := [.lit (.bool true)], args := [d1, d2, d3] }
  | _ => none }
def checkObjectsRow : OpenClaim := { program := "ytkkbapgekkhlhaagreat", sum := "cda771c5427cc910e9b29145ad1c16998a95d43c5fe9dbc646fb8879a0102606", func := "truss/trusslaw06.CheckObjects", spec := "checkObjects", unfollowed := true, recurses := true, loops := true, apart := false }
def CheckObjectsSaid : Prop := checkObjectsRow.holds Tryz.pinned (OpenSpec.ofChange checkObjectsSpec)

/-- ITS FALSE NEIGHBOUR: 'it returns false'. Refute it at one input. -/
def checkObjectsWrong : ChangeSpec := { name := "checkObjects", fn := fun _ => fun
  | [d1, d2, d3] => { results := [.lit (.bool false)], args := [d1, d2, d3] }
  | _ => none }
def CheckObjectsWrongFalsely : Prop := checkObjectsRow.holds Tryz.pinned (OpenSpec.ofChange checkObjectsWrong)

/-- 'trusslaw06.CheckUnique': WHATEVER THE INPUT: true; the input reads as it did. -/
def checkUniqueSpec : ChangeSpec := { name := "checkUnique", fn := fun _ => fun
  | [d1, d2, d3] => { results := [.lit (.bool true)], args := [d1, d2, d3] }
  | _ => none }
def checkUniqueRow : OpenClaim := { program := "ytkkbapgekkhlhaagreat", sum := "cda771c5427cc910e9b29145ad1c16998a95d43c5fe9dbc646fb8879a0102606", func := "truss/trusslaw06.CheckUnique", spec := "checkUnique", unfollowed := true, recurses := true, loops := true, apart := false }
def CheckUniqueSaid : Prop := checkUniqueRow.holds Tryz.pinned (OpenSpec.ofChange checkUniqueSpec)

/-- ITS FALSE NEIGHBOUR: 'it returns false'. Refute it at one input. -/
def checkUniqueWrong : ChangeSpec := { name := "checkUnique", fn := fun _ => fun
  | [d1, d2, d3] => { results := [.lit (.bool false)], args := [d1, d2, d3] }
  | _ => none }
def CheckUniqueWrongFalsely : Prop := checkUniqueRow.holds Tryz.pinned (OpenSpec.ofChange checkUniqueWrong)

/-- 'trusslaw06.CheckSignatures': WHATEVER THE INPUT: true; the input reads as it did. -/
def checkSignaturesSpec : ChangeSpec := { name := "checkSignatures", fn := fun _ => fun
  | [d1, d2] => { results := [.lit (.bool true)], args := [d1, d2] }
  | _ => none }
def checkSignaturesRow : OpenClaim := { program := "ytkkbapgekkhlhaagreat", sum := "cda771c5427cc910e9b29145ad1c16998a95d43c5fe9dbc646fb8879a0102606", func := "truss/trusslaw06.CheckSignatures", spec := "checkSignatures", unfollowed := true, recurses := true, loops := true, apart := false }
def CheckSignaturesSaid : Prop := checkSignaturesRow.holds Tryz.pinned (OpenSpec.ofChange checkSignaturesSpec)

/-- ITS FALSE NEIGHBOUR: 'it returns false'. Refute it at one input. -/
def checkSignaturesWrong : ChangeSpec := { name := "checkSignatures", fn := fun _ => fun
  | [d1, d2] => { results := [.lit (.bool false)], args := [d1, d2] }
  | _ => none }
def CheckSignaturesWrongFalsely : Prop := checkSignaturesRow.holds Tryz.pinned (OpenSpec.ofChange checkSignaturesWrong)

/-- 'trusslaw06.CheckWeak': WHATEVER THE INPUT: true; the input reads as it did. -/
def checkWeakSpec : ChangeSpec := { name := "checkWeak", fn := fun _ => fun
  | [d1, d2] => { results := [.lit (.bool true)], args := [d1, d2] }
  | _ => none }
def checkWeakRow : OpenClaim := { program := "ytkkbapgekkhlhaagreat", sum := "cda771c5427cc910e9b29145ad1c16998a95d43c5fe9dbc646fb8879a0102606", func := "truss/trusslaw06.CheckWeak", spec := "checkWeak", unfollowed := true, recurses := true, loops := true, apart := false }
def CheckWeakSaid : Prop := checkWeakRow.holds Tryz.pinned (OpenSpec.ofChange checkWeakSpec)

/-- ITS FALSE NEIGHBOUR: 'it returns false'. Refute it at one input. -/
def checkWeakWrong : ChangeSpec := { name := "checkWeak", fn := fun _ => fun
  | [d1, d2] => { results := [.lit (.bool false)], args := [d1, d2] }
  | _ => none }
def CheckWeakWrongFalsely : Prop := checkWeakRow.holds Tryz.pinned (OpenSpec.ofChange checkWeakWrong)

/-- 'trusslaw06.CheckPrefix': WHATEVER THE INPUT: true; the input reads as it did. -/
def checkPrefixSpec : ChangeSpec := { name := "checkPrefix", fn := fun _ => fun
  | [d] => { results := [.lit (.bool true)], args := [d] }
  | _ => none }
def checkPrefixRow : OpenClaim := { program := "ytkkbapgekkhlhaagreat", sum := "cda771c5427cc910e9b29145ad1c16998a95d43c5fe9dbc646fb8879a0102606", func := "truss/trusslaw06.CheckPrefix", spec := "checkPrefix", unfollowed := true, recurses := true, loops := true, apart := false }
def CheckPrefixSaid : Prop := checkPrefixRow.holds Tryz.pinned (OpenSpec.ofChange checkPrefixSpec)

/-- ITS FALSE NEIGHBOUR: 'it returns false'. Refute it at one input. -/
def checkPrefixWrong : ChangeSpec := { name := "checkPrefix", fn := fun _ => fun
  | [d] => { results := [.lit (.bool false)], args := [d] }
  | _ => none }
def CheckPrefixWrongFalsely : Prop := checkPrefixRow.holds Tryz.pinned (OpenSpec.ofChange checkPrefixWrong)

/- THE SECOND FORM. 'bulk': how many values and letters a reading holds, each counted each time it is reached (what is shared counts as often as it is met; a slice's spare places count too). A statement '..UptoSaid' is the law's where the arguments, and the package variables that the reading takes, are together of bulk at most 1048576: NARROWER than '..Said'. Prove '..Said' where nothing that the law and all that it calls make is longer than what came in: it says more and counts as full. Else prove '..UptoSaid'. A law counts once. -/
mutual
def uptoBulk {H : Type} : DataW H → Nat
  | .lit (.string bytes) => bytes.length + 1
  | .lit _ => 1
  | .nil => 1
  | .ptr d => uptoBulk d + 1
  | .slice elems spare => uptoBulkAll elems + uptoBulkAll spare + 1
  | .agg parts => uptoBulkAll parts + 1
  | .iface _ d => uptoBulk d + 1
  | .map entries => uptoBulkEntries entries + 1
  | .held _ => 1
def uptoBulkAll {H : Type} : List (DataW H) → Nat
  | [] => 0
  | d :: r => uptoBulk d + uptoBulkAll r
def uptoBulkEntries {H : Type} : List (Lit × DataW H) → Nat
  | [] => 0
  | x :: r => uptoBulkEntry x + uptoBulkEntries r
def uptoBulkEntry {H : Type} : Lit × DataW H → Nat
  | (.string bytes, d) => bytes.length + uptoBulk d + 1
  | (_, d) => uptoBulk d + 1
 end
def uptoSmall : (H : Type) → List (DataW H) → Bool := fun _ ds => decide (uptoBulkAll ds ≤ 1048576)
def OpenSpec.upto (s : _root_.Go.ChangeSpec) : _root_.Go.OpenSpec := { _root_.Go.OpenSpec.ofChange s with cond := some uptoSmall }

/-- 'trusslaw06.CheckSubst', WHERE WHAT IT READS IS OF BULK AT MOST 1048576: true; the input reads as it did. -/
def checkSubstUptoRow : OpenClaim := { program := "ytkkbapgekkhlhaagreat", sum := "cda771c5427cc910e9b29145ad1c16998a95d43c5fe9dbc646fb8879a0102606", func := "truss/trusslaw06.CheckSubst", spec := "checkSubst", unfollowed := true, recurses := true, loops := true, apart := false, narrowed := true }
def CheckSubstUptoSaid : Prop := checkSubstUptoRow.holds Tryz.pinned (OpenSpec.upto checkSubstSpec)

/-- 'trusslaw06.CheckSwaps', WHERE WHAT IT READS IS OF BULK AT MOST 1048576: true; the input reads as it did. -/
def checkSwapsUptoRow : OpenClaim := { program := "ytkkbapgekkhlhaagreat", sum := "cda771c5427cc910e9b29145ad1c16998a95d43c5fe9dbc646fb8879a0102606", func := "truss/trusslaw06.CheckSwaps", spec := "checkSwaps", unfollowed := true, recurses := true, loops := true, apart := false, narrowed := true }
def CheckSwapsUptoSaid : Prop := checkSwapsUptoRow.holds Tryz.pinned (OpenSpec.upto checkSwapsSpec)

/-- 'trusslaw06.CheckTypes', WHERE WHAT IT READS IS OF BULK AT MOST 1048576: true; the input reads as it did. -/
def checkTypesUptoRow : OpenClaim := { program := "ytkkbapgekkhlhaagreat", sum := "cda771c5427cc910e9b29145ad1c16998a95d43c5fe9dbc646fb8879a0102606", func := "truss/trusslaw06.CheckTypes", spec := "checkTypes", unfollowed := true, recurses := true, loops := true, apart := false, narrowed := true }
def CheckTypesUptoSaid : Prop := checkTypesUptoRow.holds Tryz.pinned (OpenSpec.upto checkTypesSpec)

/-- 'trusslaw06.CheckContexts', WHERE WHAT IT READS IS OF BULK AT MOST 1048576: true; the input reads as it did. -/
def checkContextsUptoRow : OpenClaim := { program := "ytkkbapgekkhlhaagreat", sum := "cda771c5427cc910e9b29145ad1c16998a95d43c5fe9dbc646fb8879a0102606", func := "truss/trusslaw06.CheckContexts", spec := "checkContexts", unfollowed := true, recurses := true, loops := true, apart := false, narrowed := true }
def CheckContextsUptoSaid : Prop := checkContextsUptoRow.holds Tryz.pinned (OpenSpec.upto checkContextsSpec)

/-- 'trusslaw06.CheckObjects', WHERE WHAT IT READS IS OF BULK AT MOST 1048576: true; the input reads as it did. -/
def checkObjectsUptoRow : OpenClaim := { program := "ytkkbapgekkhlhaagreat", sum := "cda771c5427cc910e9b29145ad1c16998a95d43c5fe9dbc646fb8879a0102606", func := "truss/trusslaw06.CheckObjects", spec := "checkObjects", unfollowed := true, recurses := true, loops := true, apart := false, narrowed := true }
def CheckObjectsUptoSaid : Prop := checkObjectsUptoRow.holds Tryz.pinned (OpenSpec.upto checkObjectsSpec)

/-- 'trusslaw06.CheckUnique', WHERE WHAT IT READS IS OF BULK AT MOST 1048576: true; the input reads as it did. -/
def checkUniqueUptoRow : OpenClaim := { program := "ytkkbapgekkhlhaagreat", sum := "cda771c5427cc910e9b29145ad1c16998a95d43c5fe9dbc646fb8879a0102606", func := "truss/trusslaw06.CheckUnique", spec := "checkUnique", unfollowed := true, recurses := true, loops := true, apart := false, narrowed := true }
def CheckUniqueUptoSaid : Prop := checkUniqueUptoRow.holds Tryz.pinned (OpenSpec.upto checkUniqueSpec)

/-- 'trusslaw06.CheckSignatures', WHERE WHAT IT READS IS OF BULK AT MOST 1048576: true; the input reads as it did. -/
def checkSignaturesUptoRow : OpenClaim := { program := "ytkkbapgekkhlhaagreat", sum := "cda771c5427cc910e9b29145ad1c16998a95d43c5fe9dbc646fb8879a0102606", func := "truss/trusslaw06.CheckSignatures", spec := "checkSignatures", unfollowed := true, recurses := true, loops := true, apart := false, narrowed := true }
def CheckSignaturesUptoSaid : Prop := checkSignaturesUptoRow.holds Tryz.pinned (OpenSpec.upto checkSignaturesSpec)

/-- 'trusslaw06.CheckWeak', WHERE WHAT IT READS IS OF BULK AT MOST 1048576: true; the input reads as it did. -/
def checkWeakUptoRow : OpenClaim := { program := "ytkkbapgekkhlhaagreat", sum := "cda771c5427cc910e9b29145ad1c16998a95d43c5fe9dbc646fb8879a0102606", func := "truss/trusslaw06.CheckWeak", spec := "checkWeak", unfollowed := true, recurses := true, loops := true, apart := false, narrowed := true }
def CheckWeakUptoSaid : Prop := checkWeakUptoRow.holds Tryz.pinned (OpenSpec.upto checkWeakSpec)

/-- 'trusslaw06.CheckPrefix', WHERE WHAT IT READS IS OF BULK AT MOST 1048576: true; the input reads as it did. -/
def checkPrefixUptoRow : OpenClaim := { program := "ytkkbapgekkhlhaagreat", sum := "cda771c5427cc910e9b29145ad1c16998a95d43c5fe9dbc646fb8879a0102606", func := "truss/trusslaw06.CheckPrefix", spec := "checkPrefix", unfollowed := true, recurses := true, loops := true, apart := false, narrowed := true }
def CheckPrefixUptoSaid : Prop := checkPrefixUptoRow.holds Tryz.pinned (OpenSpec.upto checkPrefixSpec)

end Rows
end Go.Proofs.YtkkbapgekkhlhaaGreat
