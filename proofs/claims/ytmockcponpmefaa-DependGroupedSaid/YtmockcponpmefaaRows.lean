/-
  NARROWER THAN 'FOR EVERY INPUT', by the rows' own cells (each row's printed sentence says how): DependBelows: loops · DependGrouped: loops · DependContexts: loops · DependNeeds: loops · DependTransitive: loops.
  DERIVED. THE GIVEN ROWS OF THIS SEAT. 5 by the template 'for every input the law returns true; each argument reads behind the call as it read before'; 0 by the template 'total and deterministic' (their statements: YtmockcponpmefaaTotals.lean).
  GIVEN WITH THE SEED: the statements are not yours to turn. If you find one false, say at which input.
  Laid BY PROGRAM, IN A SANDBOX (cutbox-rows.mjs): the forced cells as the released guide's own fill.sh prints them over the translation d80caf411b2676cb… (all of the seat's roots in one cut). By AI agents, Wed Nov 11 2026. No macro, syntax, notation, axiom, sorry.
-/
import Derived.Test.YtmockcponpmefaaChecked
import GoSem.Claim
import GoSem.ClaimJoined
import GoSem.ClaimMapViews
import Derived.JoinedTies
import Derived.KernelRfl
namespace Go.Proofs.Ytmockcponpmefaa
/- THE CELL 'sum', in the pinned program and in every row, IS THE sha256 OF THE DUMP (.gsa) THAT YtmockcponpmefaaProg.lean LOADS. Nothing in Lean hashes anything: it is a label: what it is worth is what the hold of that sum in a sandbox is worth. -/
noncomputable def Try.pinned : Pinned := { name := "ytmockcponpmefaa", sum := "d80caf411b2676cb49b55e79452a1ce31b1518fe4d6d41a4a021a379a79942d5", checked := Try.checked }
namespace Rows
def none {H : Type} : Left H := { results := [], args := [] }

/-- 'trusslaw12.DependBelows': WHATEVER THE INPUT: true; the input reads as it did. -/
def dependBelowsSpec : ChangeSpec := { name := "dependBelows", fn := fun _ => fun
  | [d1, d2, d3] => { results := [.lit (.bool true)], args := [d1, d2, d3] }
  | _ => none }
def dependBelowsRow : OpenClaim := { program := "ytmockcponpmefaa", sum := "d80caf411b2676cb49b55e79452a1ce31b1518fe4d6d41a4a021a379a79942d5", func := "truss/trusslaw12.DependBelows", spec := "dependBelows", unfollowed := true, recurses := true, loops := true, apart := false }
def DependBelowsSaid : Prop := dependBelowsRow.holds Try.pinned (OpenSpec.ofChange dependBelowsSpec)

/-- ITS FALSE NEIGHBOUR: 'it returns false'. Refute it at one input. -/
def dependBelowsWrong : ChangeSpec := { name := "dependBelows", fn := fun _ => fun
  | [d1, d2, d3] => { results := [.lit (.bool false)], args := [d1, d2, d3] }
  | _ => none }
def DependBelowsWrongFalsely : Prop := dependBelowsRow.holds Try.pinned (OpenSpec.ofChange dependBelowsWrong)

/-- 'trusslaw12.DependGrouped': WHATEVER THE INPUT: true; the input reads as it did. -/
def dependGroupedSpec : ChangeSpec := { name := "dependGrouped", fn := fun _ => fun
  | [d1, d2] => { results := [.lit (.bool true)], args := [d1, d2] }
  | _ => none }
def dependGroupedRow : OpenClaim := { program := "ytmockcponpmefaa", sum := "d80caf411b2676cb49b55e79452a1ce31b1518fe4d6d41a4a021a379a79942d5", func := "truss/trusslaw12.DependGrouped", spec := "dependGrouped", unfollowed := true, recurses := true, loops := true, apart := false }
def DependGroupedSaid : Prop := dependGroupedRow.holds Try.pinned (OpenSpec.ofChange dependGroupedSpec)

/-- ITS FALSE NEIGHBOUR: 'it returns false'. Refute it at one input. -/
def dependGroupedWrong : ChangeSpec := { name := "dependGrouped", fn := fun _ => fun
  | [d1, d2] => { results := [.lit (.bool false)], args := [d1, d2] }
  | _ => none }
def DependGroupedWrongFalsely : Prop := dependGroupedRow.holds Try.pinned (OpenSpec.ofChange dependGroupedWrong)

/-- 'trusslaw12.DependContexts': WHATEVER THE INPUT: true; the input reads as it did. -/
def dependContextsSpec : ChangeSpec := { name := "dependContexts", fn := fun _ => fun
  | [d1, d2, d3] => { results := [.lit (.bool true)], args := [d1, d2, d3] }
  | _ => none }
def dependContextsRow : OpenClaim := { program := "ytmockcponpmefaa", sum := "d80caf411b2676cb49b55e79452a1ce31b1518fe4d6d41a4a021a379a79942d5", func := "truss/trusslaw12.DependContexts", spec := "dependContexts", unfollowed := true, recurses := true, loops := true, apart := false }
def DependContextsSaid : Prop := dependContextsRow.holds Try.pinned (OpenSpec.ofChange dependContextsSpec)

/-- ITS FALSE NEIGHBOUR: 'it returns false'. Refute it at one input. -/
def dependContextsWrong : ChangeSpec := { name := "dependContexts", fn := fun _ => fun
  | [d1, d2, d3] => { results := [.lit (.bool false)], args := [d1, d2, d3] }
  | _ => none }
def DependContextsWrongFalsely : Prop := dependContextsRow.holds Try.pinned (OpenSpec.ofChange dependContextsWrong)

/-- 'trusslaw12.DependNeeds': WHATEVER THE INPUT: true; the input reads as it did. -/
def dependNeedsSpec : ChangeSpec := { name := "dependNeeds", fn := fun _ => fun
  | [d1, d2] => { results := [.lit (.bool true)], args := [d1, d2] }
  | _ => none }
def dependNeedsRow : OpenClaim := { program := "ytmockcponpmefaa", sum := "d80caf411b2676cb49b55e79452a1ce31b1518fe4d6d41a4a021a379a79942d5", func := "truss/trusslaw12.DependNeeds", spec := "dependNeeds", unfollowed := true, recurses := true, loops := true, apart := false }
def DependNeedsSaid : Prop := dependNeedsRow.holds Try.pinned (OpenSpec.ofChange dependNeedsSpec)

/-- ITS FALSE NEIGHBOUR: 'it returns false'. Refute it at one input. -/
def dependNeedsWrong : ChangeSpec := { name := "dependNeeds", fn := fun _ => fun
  | [d1, d2] => { results := [.lit (.bool false)], args := [d1, d2] }
  | _ => none }
def DependNeedsWrongFalsely : Prop := dependNeedsRow.holds Try.pinned (OpenSpec.ofChange dependNeedsWrong)

/-- 'trusslaw12.DependTransitive': WHATEVER THE INPUT: true; the input reads as it did. -/
def dependTransitiveSpec : ChangeSpec := { name := "dependTransitive", fn := fun _ => fun
  | [d1, d2] => { results := [.lit (.bool true)], args := [d1, d2] }
  | _ => none }
def dependTransitiveRow : OpenClaim := { program := "ytmockcponpmefaa", sum := "d80caf411b2676cb49b55e79452a1ce31b1518fe4d6d41a4a021a379a79942d5", func := "truss/trusslaw12.DependTransitive", spec := "dependTransitive", unfollowed := true, recurses := true, loops := true, apart := false }
def DependTransitiveSaid : Prop := dependTransitiveRow.holds Try.pinned (OpenSpec.ofChange dependTransitiveSpec)

/-- ITS FALSE NEIGHBOUR: 'it returns false'. Refute it at one input. -/
def dependTransitiveWrong : ChangeSpec := { name := "dependTransitive", fn := fun _ => fun
  | [d1, d2] => { results := [.lit (.bool false)], args := [d1, d2] }
  | _ => none }
def DependTransitiveWrongFalsely : Prop := dependTransitiveRow.holds Try.pinned (OpenSpec.ofChange dependTransitiveWrong)

/- THE SECOND FORM. 'bulk': how many values and letters a reading holds, each counted each time it is reached (what is shared counts as often as it is met; a slice's spare places count too). A statement '..UptoSaid' is the law's where the arguments, and the package variables that the reading takes, are together of bulk at most 1048576: NARROWER than '..Said'. Prove '..Said' where nothing that the law and all that it calls make is longer than what came in: it says more and counts as full. Else prove '..UptoSaid'. A law counts once. -/
mutual
def uptoBulk {H : Type} : DataW H → Nat
  | .lit (.string bytes) => bytes.length + 1
  | .lit _ => 1
  | .nil => 1
  | .ptr d => uptoBulk d + 1
  | .slice elems spare => uptoBulkAll elems + uptoBulkAll spare + 1
  | .agg parts => uptoBulkAll parts + 1
  | .iface _ d => uptoBulk d + 1
  | .map entries => uptoBulkEntries entries + 1
  | .held _ => 1
def uptoBulkAll {H : Type} : List (DataW H) → Nat
  | [] => 0
  | d :: r => uptoBulk d + uptoBulkAll r
def uptoBulkEntries {H : Type} : List (Lit × DataW H) → Nat
  | [] => 0
  | x :: r => uptoBulkEntry x + uptoBulkEntries r
def uptoBulkEntry {H : Type} : Lit × DataW H → Nat
  | (.string bytes, d) => bytes.length + uptoBulk d + 1
  | (_, d) => uptoBulk d + 1
 end
def uptoSmall : (H : Type) → List (DataW H) → Bool := fun _ ds => decide (uptoBulkAll ds ≤ 1048576)
def OpenSpec.upto (s : _root_.Go.ChangeSpec) : _root_.Go.OpenSpec := { _root_.Go.OpenSpec.ofChange s with cond := some uptoSmall }

/-- 'trusslaw12.DependBelows', WHERE WHAT IT READS IS OF BULK AT MOST 1048576: true; the input reads as it did. -/
def dependBelowsUptoRow : OpenClaim := { program := "ytmockcponpmefaa", sum := "d80caf411b2676cb49b55e79452a1ce31b1518fe4d6d41a4a021a379a79942d5", func := "truss/trusslaw12.DependBelows", spec := "dependBelows", unfollowed := true, recurses := true, loops := true, apart := false, narrowed := true }
def DependBelowsUptoSaid : Prop := dependBelowsUptoRow.holds Try.pinned (OpenSpec.upto dependBelowsSpec)

/-- 'trusslaw12.DependGrouped', WHERE WHAT IT READS IS OF BULK AT MOST 1048576: true; the input reads as it did. -/
def dependGroupedUptoRow : OpenClaim := { program := "ytmockcponpmefaa", sum := "d80caf411b2676cb49b55e79452a1ce31b1518fe4d6d41a4a021a379a79942d5", func := "truss/trusslaw12.DependGrouped", spec := "dependGrouped", unfollowed := true, recurses := true, loops := true, apart := false, narrowed := true }
def DependGroupedUptoSaid : Prop := dependGroupedUptoRow.holds Try.pinned (OpenSpec.upto dependGroupedSpec)

/-- 'trusslaw12.DependContexts', WHERE WHAT IT READS IS OF BULK AT MOST 1048576: true; the input reads as it did. -/
def dependContextsUptoRow : OpenClaim := { program := "ytmockcponpmefaa", sum := "d80caf411b2676cb49b55e79452a1ce31b1518fe4d6d41a4a021a379a79942d5", func := "truss/trusslaw12.DependContexts", spec := "dependContexts", unfollowed := true, recurses := true, loops := true, apart := false, narrowed := true }
def DependContextsUptoSaid : Prop := dependContextsUptoRow.holds Try.pinned (OpenSpec.upto dependContextsSpec)

/-- 'trusslaw12.DependNeeds', WHERE WHAT IT READS IS OF BULK AT MOST 1048576: true; the input reads as it did. -/
def dependNeedsUptoRow : OpenClaim := { program := "ytmockcponpmefaa", sum := "d80caf411b2676cb49b55e79452a1ce31b1518fe4d6d41a4a021a379a79942d5", func := "truss/trusslaw12.DependNeeds", spec := "dependNeeds", unfollowed := true, recurses := true, loops := true, apart := false, narrowed := true }
def DependNeedsUptoSaid : Prop := dependNeedsUptoRow.holds Try.pinned (OpenSpec.upto dependNeedsSpec)

/-- 'trusslaw12.DependTransitive', WHERE WHAT IT READS IS OF BULK AT MOST 1048576: true; the input reads as it did. -/
def dependTransitiveUptoRow : OpenClaim := { program := "ytmockcponpmefaa", sum := "d80caf411b2676cb49b55e79452a1ce31b1518fe4d6d41a4a021a379a79942d5", func := "truss/trusslaw12.DependTransitive", spec := "dependTransitive", unfollowed := true, recurses := true, loops := true, apart := false, narrowed := true }
def DependTransitiveUptoSaid : Prop := dependTransitiveUptoRow.holds Try.pinned (OpenSpec.upto dependTransitiveSpec)

end Rows
end Go.Proofs.Ytmockcponpmefaa
