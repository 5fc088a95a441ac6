/-
  NARROWER THAN 'FOR EVERY INPUT', by the rows' own cells (each row's printed sentence says how): DependStrengthened: loops · DependSlices: loops · DependSliced: loops.
  DERIVED. THE GIVEN ROWS OF THIS SEAT. 3 by the template 'for every input the law returns true; each argument reads behind the call as it read before'; 0 by the template 'total and deterministic' (their statements: YtmockcponpmefaaGreatTotals.lean).
  GIVEN WITH THE SEED: the statements are not yours to turn. If you find one false, say at which input.
  Laid BY PROGRAM, IN A SANDBOX (cutbox-rows.mjs): the forced cells as the released guide's own fill.sh prints them over the translation bf5677c259d02520… (all of the seat's roots in one cut). By AI agents, Wed Nov 11 2026. No macro, syntax, notation, axiom, sorry.
-/
import Derived.Test.YtmockcponpmefaaGreatChecked
import GoSem.Claim
import GoSem.ClaimJoined
import GoSem.ClaimMapViews
import Derived.JoinedTies
import Derived.KernelRfl
namespace Go.Proofs.YtmockcponpmefaaGreat
/- THE CELL 'sum', in the pinned program and in every row, IS THE sha256 OF THE DUMP (.gsa) THAT YtmockcponpmefaaGreatProg.lean LOADS. Nothing in Lean hashes anything: it is a label: what it is worth is what the hold of that sum in a sandbox is worth. -/
noncomputable def Tryz.pinned : Pinned := { name := "ytmockcponpmefaagreat", sum := "bf5677c259d02520e731119e2d01804499a237e13bb036ddaae0e74cd58fc17a", checked := Tryz.checked }
namespace Rows
def none {H : Type} : Left H := { results := [], args := [] }

/-- 'trusslaw12.DependStrengthened': WHATEVER THE INPUT: true; the input reads as it did. -/
def dependStrengthenedSpec : ChangeSpec := { name := "dependStrengthened", fn := fun _ => fun
  | [d1, d2, d3] => { results := [.lit (.bool true)], args := [d1, d2, d3] }
  | _ => none }
def dependStrengthenedRow : OpenClaim := { program := "ytmockcponpmefaagreat", sum := "bf5677c259d02520e731119e2d01804499a237e13bb036ddaae0e74cd58fc17a", func := "truss/trusslaw12.DependStrengthened", spec := "dependStrengthened", unfollowed := true, recurses := true, loops := true, apart := false }
def DependStrengthenedSaid : Prop := dependStrengthenedRow.holds Tryz.pinned (OpenSpec.ofChange dependStrengthenedSpec)

/-- ITS FALSE NEIGHBOUR: 'it returns false'. Refute it at one input. -/
def dependStrengthenedWrong : ChangeSpec := { name := "dependStrengthened", fn := fun _ => fun
  | [d1, d2, d3] => { results := [.lit (.bool false)], args := [d1, d2, d3] }
  | _ => none }
def DependStrengthenedWrongFalsely : Prop := dependStrengthenedRow.holds Tryz.pinned (OpenSpec.ofChange dependStrengthenedWrong)

/-- 'trusslaw12.DependSlices': WHATEVER THE INPUT: true; the input reads as it did. -/
def dependSlicesSpec : ChangeSpec := { name := "dependSlices", fn := fun _ => fun
  | [d1, d2] => { results := [.lit (.bool true)], args := [d1, d2] }
  | _ => none }
def dependSlicesRow : OpenClaim := { program := "ytmockcponpmefaagreat", sum := "bf5677c259d02520e731119e2d01804499a237e13bb036ddaae0e74cd58fc17a", func := "truss/trusslaw12.DependSlices", spec := "dependSlices", unfollowed := true, recurses := true, loops := true, apart := false }
def DependSlicesSaid : Prop := dependSlicesRow.holds Tryz.pinned (OpenSpec.ofChange dependSlicesSpec)

/-- ITS FALSE NEIGHBOUR: 'it returns false'. Refute it at one input. -/
def dependSlicesWrong : ChangeSpec := { name := "dependSlices", fn := fun _ => fun
  | [d1, d2] => { results := [.lit (.bool false)], args := [d1, d2] }
  | _ => none }
def DependSlicesWrongFalsely : Prop := dependSlicesRow.holds Tryz.pinned (OpenSpec.ofChange dependSlicesWrong)

/-- 'trusslaw12.DependSliced': WHATEVER THE INPUT: true; the input reads as it did. -/
def dependSlicedSpec : ChangeSpec := { name := "dependSliced", fn := fun _ => fun
  | [d1, d2] => { results := [.lit (.bool true)], args := [d1, d2] }
  | _ => none }
def dependSlicedRow : OpenClaim := { program := "ytmockcponpmefaagreat", sum := "bf5677c259d02520e731119e2d01804499a237e13bb036ddaae0e74cd58fc17a", func := "truss/trusslaw12.DependSliced", spec := "dependSliced", unfollowed := true, recurses := true, loops := true, apart := false }
def DependSlicedSaid : Prop := dependSlicedRow.holds Tryz.pinned (OpenSpec.ofChange dependSlicedSpec)

/-- ITS FALSE NEIGHBOUR: 'it returns false'. Refute it at one input. -/
def dependSlicedWrong : ChangeSpec := { name := "dependSliced", fn := fun _ => fun
  | [d1, d2] => { results := [.lit (.bool false)], args := [d1, d2] }
  | _ => none }
def DependSlicedWrongFalsely : Prop := dependSlicedRow.holds Tryz.pinned (OpenSpec.ofChange dependSlicedWrong)

/- THE SECOND FORM. 'bulk': how many values and letters a reading holds, each counted each time it is reached (what is shared counts as often as it is met; a slice's spare places count too). A statement '..UptoSaid' is the law's where the arguments, and the package variables that the reading takes, are together of bulk at most 1048576: NARROWER than '..Said'. Prove '..Said' where nothing that the law and all that it calls make is longer than what came in: it says more and counts as full. Else prove '..UptoSaid'. A law counts once. -/
mutual
def uptoBulk {H : Type} : DataW H → Nat
  | .lit (.string bytes) => bytes.length + 1
  | .lit _ => 1
  | .nil => 1
  | .ptr d => uptoBulk d + 1
  | .slice elems spare => uptoBulkAll elems + uptoBulkAll spare + 1
  | .agg parts => uptoBulkAll parts + 1
  | .iface _ d => uptoBulk d + 1
  | .map entries => uptoBulkEntries entries + 1
  | .held _ => 1
def uptoBulkAll {H : Type} : List (DataW H) → Nat
  | [] => 0
  | d :: r => uptoBulk d + uptoBulkAll r
def uptoBulkEntries {H : Type} : List (Lit × DataW H) → Nat
  | [] => 0
  | x :: r => uptoBulkEntry x + uptoBulkEntries r
def uptoBulkEntry {H : Type} : Lit × DataW H → Nat
  | (.string bytes, d) => bytes.length + uptoBulk d + 1
  | (_, d) => uptoBulk d + 1
 end
def uptoSmall : (H : Type) → List (DataW H) → Bool := fun _ ds => decide (uptoBulkAll ds ≤ 1048576)
def OpenSpec.upto (s : _root_.Go.ChangeSpec) : _root_.Go.OpenSpec := { _root_.Go.OpenSpec.ofChange s with cond := some uptoSmall }

/-- 'trusslaw12.DependStrengthened', WHERE WHAT IT READS IS OF BULK AT MOST 1048576: true; the input reads as it did. -/
def dependStrengthenedUptoRow : OpenClaim := { program := "ytmockcponpmefaagreat", sum := "bf5677c259d02520e731119e2d01804499a237e13bb036ddaae0e74cd58fc17a", func := "truss/trusslaw12.DependStrengthened", spec := "dependStrengthened", unfollowed := true, recurses := true, loops := true, apart := false, narrowed := true }
def DependStrengthenedUptoSaid : Prop := dependStrengthenedUptoRow.holds Tryz.pinned (OpenSpec.upto dependStrengthenedSpec)

/-- 'trusslaw12.DependSlices', WHERE WHAT IT READS IS OF BULK AT MOST 1048576: true; the input reads as it did. -/
def dependSlicesUptoRow : OpenClaim := { program := "ytmockcponpmefaagreat", sum := "bf5677c259d02520e731119e2d01804499a237e13bb036ddaae0e74cd58fc17a", func := "truss/trusslaw12.DependSlices", spec := "dependSlices", unfollowed := true, recurses := true, loops := true, apart := false, narrowed := true }
def DependSlicesUptoSaid : Prop := dependSlicesUptoRow.holds Tryz.pinned (OpenSpec.upto dependSlicesSpec)

/-- 'trusslaw12.DependSliced', WHERE WHAT IT READS IS OF BULK AT MOST 1048576: true; the input reads as it did. -/
def dependSlicedUptoRow : OpenClaim := { program := "ytmockcponpmefaagreat", sum := "bf5677c259d02520e731119e2d01804499a237e13bb036ddaae0e74cd58fc17a", func := "truss/trusslaw12.DependSliced", spec := "dependSliced", unfollowed := true, recurses := true, loops := true, apart := false, narrowed := true }
def DependSlicedUptoSaid : Prop := dependSlicedUptoRow.holds Tryz.pinned (OpenSpec.upto dependSlicedSpec)

end Rows
end Go.Proofs.YtmockcponpmefaaGreat
