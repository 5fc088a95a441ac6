/-
  NARROWER THAN 'FOR EVERY INPUT', by the rows' own cells (each row's printed sentence says how): TermChecks: loops · TermShifts: loops · TermBack: loops · TermSame: loops · TermSimples: loops · TermBuilds: loops · TermOrdered: loops · TermJoined: loops · TermContents: loops · TermFree: loops.
  DERIVED. THE GIVEN ROWS OF THIS SEAT. 11 by the template 'for every input the law returns true; each argument reads behind the call as it read before'; 0 by the template 'total and deterministic' (their statements: YtalabpeelbkclaaTotals.lean).
  GIVEN WITH THE SEED: the statements are not yours to turn. If you find one false, say at which input.
  Laid BY PROGRAM, IN A SANDBOX (cutbox-rows.mjs): the forced cells as the released guide's own fill.sh prints them over the translation 678bedb12d3844c8… (all of the seat's roots in one cut). By AI agents, Wed Nov 11 2026. No macro, syntax, notation, axiom, sorry.
-/
import Derived.Test.YtalabpeelbkclaaChecked
import GoSem.Claim
import GoSem.ClaimJoined
import GoSem.ClaimMapViews
import Derived.JoinedTies
import Derived.KernelRfl
namespace Go.Proofs.Ytalabpeelbkclaa
/- THE CELL 'sum', in the pinned program and in every row, IS THE sha256 OF THE DUMP (.gsa) THAT YtalabpeelbkclaaProg.lean LOADS. Nothing in Lean hashes anything: it is a label: what it is worth is what the hold of that sum in a sandbox is worth. -/
noncomputable def Try.pinned : Pinned := { name := "ytalabpeelbkclaa", sum := "678bedb12d3844c82b8cc9c39280516b0c0703f0816ada92c585d9202e5ef54f", checked := Try.checked }
namespace Rows
def none {H : Type} : Left H := { results := [], args := [] }

/-- 'trusslaw03.TermChecks': WHATEVER THE INPUT: true; the input reads as it did. -/
def termChecksSpec : ChangeSpec := { name := "termChecks", fn := fun _ => fun
  | [d] => { results := [.lit (.bool true)], args := [d] }
  | _ => none }
def termChecksRow : OpenClaim := { program := "ytalabpeelbkclaa", sum := "678bedb12d3844c82b8cc9c39280516b0c0703f0816ada92c585d9202e5ef54f", func := "truss/trusslaw03.TermChecks", spec := "termChecks", unfollowed := true, recurses := true, loops := true, apart := false }
def TermChecksSaid : Prop := termChecksRow.holds Try.pinned (OpenSpec.ofChange termChecksSpec)

/-- ITS FALSE NEIGHBOUR: 'it returns false'. Refute it at one input. -/
def termChecksWrong : ChangeSpec := { name := "termChecks", fn := fun _ => fun
  | [d] => { results := [.lit (.bool false)], args := [d] }
  | _ => none }
def TermChecksWrongFalsely : Prop := termChecksRow.holds Try.pinned (OpenSpec.ofChange termChecksWrong)

/-- 'trusslaw03.TermShifts': WHATEVER THE INPUT: true; the input reads as it did. -/
def termShiftsSpec : ChangeSpec := { name := "termShifts", fn := fun _ => fun
  | [d1, d2, d3] => { results := [.lit (.bool true)], args := [d1, d2, d3] }
  | _ => none }
def termShiftsRow : OpenClaim := { program := "ytalabpeelbkclaa", sum := "678bedb12d3844c82b8cc9c39280516b0c0703f0816ada92c585d9202e5ef54f", func := "truss/trusslaw03.TermShifts", spec := "termShifts", unfollowed := true, recurses := true, loops := true, apart := false }
def TermShiftsSaid : Prop := termShiftsRow.holds Try.pinned (OpenSpec.ofChange termShiftsSpec)

/-- ITS FALSE NEIGHBOUR: 'it returns false'. Refute it at one input. -/
def termShiftsWrong : ChangeSpec := { name := "termShifts", fn := fun _ => fun
  | [d1, d2, d3] => { results := [.lit (.bool false)], args := [d1, d2, d3] }
  | _ => none }
def TermShiftsWrongFalsely : Prop := termShiftsRow.holds Try.pinned (OpenSpec.ofChange termShiftsWrong)

/-- 'trusslaw03.TermFull': WHATEVER THE INPUT: true; the input reads as it did. -/
def termFullSpec : ChangeSpec := { name := "termFull", fn := fun _ => fun
  | [d] => { results := [.lit (.bool true)], args := [d] }
  | _ => none }
def termFullRow : OpenClaim := { program := "ytalabpeelbkclaa", sum := "678bedb12d3844c82b8cc9c39280516b0c0703f0816ada92c585d9202e5ef54f", func := "truss/trusslaw03.TermFull", spec := "termFull", unfollowed := true, recurses := true, apart := false }
def TermFullSaid : Prop := termFullRow.holds Try.pinned (OpenSpec.ofChange termFullSpec)

/-- ITS FALSE NEIGHBOUR: 'it returns false'. Refute it at one input. -/
def termFullWrong : ChangeSpec := { name := "termFull", fn := fun _ => fun
  | [d] => { results := [.lit (.bool false)], args := [d] }
  | _ => none }
def TermFullWrongFalsely : Prop := termFullRow.holds Try.pinned (OpenSpec.ofChange termFullWrong)

/-- 'trusslaw03.TermBack': WHATEVER THE INPUT: true; the input reads as it did. -/
def termBackSpec : ChangeSpec := { name := "termBack", fn := fun _ => fun
  | [d] => { results := [.lit (.bool true)], args := [d] }
  | _ => none }
def termBackRow : OpenClaim := { program := "ytalabpeelbkclaa", sum := "678bedb12d3844c82b8cc9c39280516b0c0703f0816ada92c585d9202e5ef54f", func := "truss/trusslaw03.TermBack", spec := "termBack", unfollowed := true, recurses := true, loops := true, apart := false }
def TermBackSaid : Prop := termBackRow.holds Try.pinned (OpenSpec.ofChange termBackSpec)

/-- ITS FALSE NEIGHBOUR: 'it returns false'. Refute it at one input. -/
def termBackWrong : ChangeSpec := { name := "termBack", fn := fun _ => fun
  | [d] => { results := [.lit (.bool false)], args := [d] }
  | _ => none }
def TermBackWrongFalsely : Prop := termBackRow.holds Try.pinned (OpenSpec.ofChange termBackWrong)

/-- 'trusslaw03.TermSame': WHATEVER THE INPUT: true; the input reads as it did. -/
def termSameSpec : ChangeSpec := { name := "termSame", fn := fun _ => fun
  | [d] => { results := [.lit (.bool true)], args := [d] }
  | _ => none }
def termSameRow : OpenClaim := { program := "ytalabpeelbkclaa", sum := "678bedb12d3844c82b8cc9c39280516b0c0703f0816ada92c585d9202e5ef54f", func := "truss/trusslaw03.TermSame", spec := "termSame", unfollowed := true, recurses := true, loops := true, apart := false }
def TermSameSaid : Prop := termSameRow.holds Try.pinned (OpenSpec.ofChange termSameSpec)

/-- ITS FALSE NEIGHBOUR: 'it returns false'. Refute it at one input. -/
def termSameWrong : ChangeSpec := { name := "termSame", fn := fun _ => fun
  | [d] => { results := [.lit (.bool false)], args := [d] }
  | _ => none }
def TermSameWrongFalsely : Prop := termSameRow.holds Try.pinned (OpenSpec.ofChange termSameWrong)

/-- 'trusslaw03.TermSimples': WHATEVER THE INPUT: true; the input reads as it did. -/
def termSimplesSpec : ChangeSpec := { name := "termSimples", fn := fun _ => fun
  | [d1, d2] => { results := [.lit (.bool true)], args := [d1, d2] }
  | _ => none }
def termSimplesRow : OpenClaim := { program := "ytalabpeelbkclaa", sum := "678bedb12d3844c82b8cc9c39280516b0c0703f0816ada92c585d9202e5ef54f", func := "truss/trusslaw03.TermSimples", spec := "termSimples", unfollowed := true, recurses := true, loops := true, apart := false }
def TermSimplesSaid : Prop := termSimplesRow.holds Try.pinned (OpenSpec.ofChange termSimplesSpec)

/-- ITS FALSE NEIGHBOUR: 'it returns false'. Refute it at one input. -/
def termSimplesWrong : ChangeSpec := { name := "termSimples", fn := fun _ => fun
  | [d1, d2] => { results := [.lit (.bool false)], args := [d1, d2] }
  | _ => none }
def TermSimplesWrongFalsely : Prop := termSimplesRow.holds Try.pinned (OpenSpec.ofChange termSimplesWrong)

/-- 'trusslaw03.TermBuilds': WHATEVER THE INPUT: true; the input reads as it did. -/
def termBuildsSpec : ChangeSpec := { name := "termBuilds", fn := fun _ => fun
  | [d1, d2, d3] => { results := [.lit (.bool true)], args := [d1, d2, d3] }
  | _ => none }
def termBuildsRow : OpenClaim := { program := "ytalabpeelbkclaa", sum := "678bedb12d3844c82b8cc9c39280516b0c0703f0816ada92c585d9202e5ef54f", func := "truss/trusslaw03.TermBuilds", spec := "termBuilds", unfollowed := true, recurses := true, loops := true, apart := false }
def TermBuildsSaid : Prop := termBuildsRow.holds Try.pinned (OpenSpec.ofChange termBuildsSpec)

/-- ITS FALSE NEIGHBOUR: 'it returns false'. Refute it at one input. -/
def termBuildsWrong : ChangeSpec := { name := "termBuilds", fn := fun _ => fun
  | [d1, d2, d3] => { results := [.lit (.bool false)], args := [d1, d2, d3] }
  | _ => none }
def TermBuildsWrongFalsely : Prop := termBuildsRow.holds Try.pinned (OpenSpec.ofChange termBuildsWrong)

/-- 'trusslaw03.TermOrdered': WHATEVER THE INPUT: true; the input reads as it did. -/
def termOrderedSpec : ChangeSpec := { name := "termOrdered", fn := fun _ => fun
  | [d1, d2, d3] => { results := [.lit (.bool true)], args := [d1, d2, d3] }
  | _ => none }
def termOrderedRow : OpenClaim := { program := "ytalabpeelbkclaa", sum := "678bedb12d3844c82b8cc9c39280516b0c0703f0816ada92c585d9202e5ef54f", func := "truss/trusslaw03.TermOrdered", spec := "termOrdered", unfollowed := true, recurses := true, loops := true, apart := false }
def TermOrderedSaid : Prop := termOrderedRow.holds Try.pinned (OpenSpec.ofChange termOrderedSpec)

/-- ITS FALSE NEIGHBOUR: 'it returns false'. Refute it at one input. -/
def termOrderedWrong : ChangeSpec := { name := "termOrdered", fn := fun _ => fun
  | [d1, d2, d3] => { results := [.lit (.bool false)], args := [d1, d2, d3] }
  | _ => none }
def TermOrderedWrongFalsely : Prop := termOrderedRow.holds Try.pinned (OpenSpec.ofChange termOrderedWrong)

/-- 'trusslaw03.TermJoined': WHATEVER THE INPUT: true; the input reads as it did. -/
def termJoinedSpec : ChangeSpec := { name := "termJoined", fn := fun _ => fun
  | [d1, d2] => { results := [.lit (.bool true)], args := [d1, d2] }
  | _ => none }
def termJoinedRow : OpenClaim := { program := "ytalabpeelbkclaa", sum := "678bedb12d3844c82b8cc9c39280516b0c0703f0816ada92c585d9202e5ef54f", func := "truss/trusslaw03.TermJoined", spec := "termJoined", unfollowed := true, recurses := true, loops := true, apart := false }
def TermJoinedSaid : Prop := termJoinedRow.holds Try.pinned (OpenSpec.ofChange termJoinedSpec)

/-- ITS FALSE NEIGHBOUR: 'it returns false'. Refute it at one input. -/
def termJoinedWrong : ChangeSpec := { name := "termJoined", fn := fun _ => fun
  | [d1, d2] => { results := [.lit (.bool false)], args := [d1, d2] }
  | _ => none }
def TermJoinedWrongFalsely : Prop := termJoinedRow.holds Try.pinned (OpenSpec.ofChange termJoinedWrong)

/-- 'trusslaw03.TermContents': WHATEVER THE INPUT: true; the input reads as it did. -/
def termContentsSpec : ChangeSpec := { name := "termContents", fn := fun _ => fun
  | [d1, d2] => { results := [.lit (.bool true)], args := [d1, d2] }
  | _ => none }
def termContentsRow : OpenClaim := { program := "ytalabpeelbkclaa", sum := "678bedb12d3844c82b8cc9c39280516b0c0703f0816ada92c585d9202e5ef54f", func := "truss/trusslaw03.TermContents", spec := "termContents", unfollowed := true, recurses := true, loops := true, apart := false }
def TermContentsSaid : Prop := termContentsRow.holds Try.pinned (OpenSpec.ofChange termContentsSpec)

/-- ITS FALSE NEIGHBOUR: 'it returns false'. Refute it at one input. -/
def termContentsWrong : ChangeSpec := { name := "termContents", fn := fun _ => fun
  | [d1, d2] => { results := [.lit (.bool false)], args := [d1, d2] }
  | _ => none }
def TermContentsWrongFalsely : Prop := termContentsRow.holds Try.pinned (OpenSpec.ofChange termContentsWrong)

/-- 'trusslaw03.TermFree': WHATEVER THE INPUT: true; the input reads as it did. -/
def termFreeSpec : ChangeSpec := { name := "termFree", fn := fun _ => fun
  | [d1, d2] => { results := [.lit (.bool true)], args := [d1, d2] }
  | _ => none }
def termFreeRow : OpenClaim := { program := "ytalabpeelbkclaa", sum := "678bedb12d3844c82b8cc9c39280516b0c0703f0816ada92c585d9202e5ef54f", func := "truss/trusslaw03.TermFree", spec := "termFree", unfollowed := true, recurses := true, loops := true, apart := false }
def TermFreeSaid : Prop := termFreeRow.holds Try.pinned (OpenSpec.ofChange termFreeSpec)

/-- ITS FALSE NEIGHBOUR: 'it returns false'. Refute it at one input. -/
def termFreeWrong : ChangeSpec := { name := "termFree", fn := fun _ => fun
  | [d1, d2] => { results := [.lit (.bool false)], args := [d1, d2] }
  | _ => none }
def TermFreeWrongFalsely : Prop := termFreeRow.holds Try.pinned (OpenSpec.ofChange termFreeWrong)

/- THE SECOND FORM. 'bulk': how many values and letters a reading holds, each counted each time it is reached (what is shared counts as often as it is met; a slice's spare places count too). A statement '..UptoSaid' is the law's where the arguments, and the package variables that the reading takes, are together of bulk at most 1048576: NARROWER than '..Said'. Prove '..Said' where nothing that the law and all that it calls make is longer than what came in: it says more and counts as full. Else prove '..UptoSaid'. A law counts once. -/
mutual
def uptoBulk {H : Type} : DataW H → Nat
  | .lit (.string bytes) => bytes.length + 1
  | .lit _ => 1
  | .nil => 1
  | .ptr d => uptoBulk d + 1
  | .slice elems spare => uptoBulkAll elems + uptoBulkAll spare + 1
  | .agg parts => uptoBulkAll parts + 1
  | .iface _ d => uptoBulk d + 1
  | .map entries => uptoBulkEntries entries + 1
  | .held _ => 1
def uptoBulkAll {H : Type} : List (DataW H) → Nat
  | [] => 0
  | d :: r => uptoBulk d + uptoBulkAll r
def uptoBulkEntries {H : Type} : List (Lit × DataW H) → Nat
  | [] => 0
  | x :: r => uptoBulkEntry x + uptoBulkEntries r
def uptoBulkEntry {H : Type} : Lit × DataW H → Nat
  | (.string bytes, d) => bytes.length + uptoBulk d + 1
  | (_, d) => uptoBulk d + 1
 end
def uptoSmall : (H : Type) → List (DataW H) → Bool := fun _ ds => decide (uptoBulkAll ds ≤ 1048576)
def OpenSpec.upto (s : _root_.Go.ChangeSpec) : _root_.Go.OpenSpec := { _root_.Go.OpenSpec.ofChange s with cond := some uptoSmall }

/-- 'trusslaw03.TermChecks', WHERE WHAT IT READS IS OF BULK AT MOST 1048576: true; the input reads as it did. -/
def termChecksUptoRow : OpenClaim := { program := "ytalabpeelbkclaa", sum := "678bedb12d3844c82b8cc9c39280516b0c0703f0816ada92c585d9202e5ef54f", func := "truss/trusslaw03.TermChecks", spec := "termChecks", unfollowed := true, recurses := true, loops := true, apart := false, narrowed := true }
def TermChecksUptoSaid : Prop := termChecksUptoRow.holds Try.pinned (OpenSpec.upto termChecksSpec)

/-- 'trusslaw03.TermShifts', WHERE WHAT IT READS IS OF BULK AT MOST 1048576: true; the input reads as it did. -/
def termShiftsUptoRow : OpenClaim := { program := "ytalabpeelbkclaa", sum := "678bedb12d3844c82b8cc9c39280516b0c0703f0816ada92c585d9202e5ef54f", func := "truss/trusslaw03.TermShifts", spec := "termShifts", unfollowed := true, recurses := true, loops := true, apart := false, narrowed := true }
def TermShiftsUptoSaid : Prop := termShiftsUptoRow.holds Try.pinned (OpenSpec.upto termShiftsSpec)

/-- 'trusslaw03.TermFull', WHERE WHAT IT READS IS OF BULK AT MOST 1048576: true; the input reads as it did. -/
def termFullUptoRow : OpenClaim := { program := "ytalabpeelbkclaa", sum := "678bedb12d3844c82b8cc9c39280516b0c0703f0816ada92c585d9202e5ef54f", func := "truss/trusslaw03.TermFull", spec := "termFull", unfollowed := true, recurses := true, apart := false, narrowed := true }
def TermFullUptoSaid : Prop := termFullUptoRow.holds Try.pinned (OpenSpec.upto termFullSpec)

/-- 'trusslaw03.TermBack', WHERE WHAT IT READS IS OF BULK AT MOST 1048576: true; the input reads as it did. -/
def termBackUptoRow : OpenClaim := { program := "ytalabpeelbkclaa", sum := "678bedb12d3844c82b8cc9c39280516b0c0703f0816ada92c585d9202e5ef54f", func := "truss/trusslaw03.TermBack", spec := "termBack", unfollowed := true, recurses := true, loops := true, apart := false, narrowed := true }
def TermBackUptoSaid : Prop := termBackUptoRow.holds Try.pinned (OpenSpec.upto termBackSpec)

/-- 'trusslaw03.TermSame', WHERE WHAT IT READS IS OF BULK AT MOST 1048576: true; the input reads as it did. -/
def termSameUptoRow : OpenClaim := { program := "ytalabpeelbkclaa", sum := "678bedb12d3844c82b8cc9c39280516b0c0703f0816ada92c585d9202e5ef54f", func := "truss/trusslaw03.TermSame", spec := "termSame", unfollowed := true, recurses := true, loops := true, apart := false, narrowed := true }
def TermSameUptoSaid : Prop := termSameUptoRow.holds Try.pinned (OpenSpec.upto termSameSpec)

/-- 'trusslaw03.TermSimples', WHERE WHAT IT READS IS OF BULK AT MOST 1048576: true; the input reads as it did. -/
def termSimplesUptoRow : OpenClaim := { program := "ytalabpeelbkclaa", sum := "678bedb12d3844c82b8cc9c39280516b0c0703f0816ada92c585d9202e5ef54f", func := "truss/trusslaw03.TermSimples", spec := "termSimples", unfollowed := true, recurses := true, loops := true, apart := false, narrowed := true }
def TermSimplesUptoSaid : Prop := termSimplesUptoRow.holds Try.pinned (OpenSpec.upto termSimplesSpec)

/-- 'trusslaw03.TermBuilds', WHERE WHAT IT READS IS OF BULK AT MOST 1048576: true; the input reads as it did. -/
def termBuildsUptoRow : OpenClaim := { program := "ytalabpeelbkclaa", sum := "678bedb12d3844c82b8cc9c39280516b0c0703f0816ada92c585d9202e5ef54f", func := "truss/trusslaw03.TermBuilds", spec := "termBuilds", unfollowed := true, recurses := true, loops := true, apart := false, narrowed := true }
def TermBuildsUptoSaid : Prop := termBuildsUptoRow.holds Try.pinned (OpenSpec.upto termBuildsSpec)

/-- 'trusslaw03.TermOrdered', WHERE WHAT IT READS IS OF BULK AT MOST 1048576: true; the input reads as it did. -/
def termOrderedUptoRow : OpenClaim := { program := "ytalabpeelbkclaa", sum := "678bedb12d3844c82b8cc9c39280516b0c0703f0816ada92c585d9202e5ef54f", func := "truss/trusslaw03.TermOrdered", spec := "termOrdered", unfollowed := true, recurses := true, loops := true, apart := false, narrowed := true }
def TermOrderedUptoSaid : Prop := termOrderedUptoRow.holds Try.pinned (OpenSpec.upto termOrderedSpec)

/-- 'trusslaw03.TermJoined', WHERE WHAT IT READS IS OF BULK AT MOST 1048576: true; the input reads as it did. -/
def termJoinedUptoRow : OpenClaim := { program := "ytalabpeelbkclaa", sum := "678bedb12d3844c82b8cc9c39280516b0c0703f0816ada92c585d9202e5ef54f", func := "truss/trusslaw03.TermJoined", spec := "termJoined", unfollowed := true, recurses := true, loops := true, apart := false, narrowed := true }
def TermJoinedUptoSaid : Prop := termJoinedUptoRow.holds Try.pinned (OpenSpec.upto termJoinedSpec)

/-- 'trusslaw03.TermContents', WHERE WHAT IT READS IS OF BULK AT MOST 1048576: true; the input reads as it did. -/
def termContentsUptoRow : OpenClaim := { program := "ytalabpeelbkclaa", sum := "678bedb12d3844c82b8cc9c39280516b0c0703f0816ada92c585d9202e5ef54f", func := "truss/trusslaw03.TermContents", spec := "termContents", unfollowed := true, recurses := true, loops := true, apart := false, narrowed := true }
def TermContentsUptoSaid : Prop := termContentsUptoRow.holds Try.pinned (OpenSpec.upto termContentsSpec)

/-- 'trusslaw03.TermFree', WHERE WHAT IT READS IS OF BULK AT MOST 1048576: true; the input reads as it did. -/
def termFreeUptoRow : OpenClaim := { program := "ytalabpeelbkclaa", sum := "678bedb12d3844c82b8cc9c39280516b0c0703f0816ada92c585d9202e5ef54f", func := "truss/trusslaw03.TermFree", spec := "termFree", unfollowed := true, recurses := true, loops := true, apart := false, narrowed := true }
def TermFreeUptoSaid : Prop := termFreeUptoRow.holds Try.pinned (OpenSpec.upto termFreeSpec)

end Rows
end Go.Proofs.Ytalabpeelbkclaa
