/-
  NARROWER THAN 'FOR EVERY INPUT', by the rows' own cells (each row's printed sentence says how): SignLevels: loops · SignSwapped: loops · SignLooks: loops · SignParted: loops · SignAdds: loops · SignUndone: loops.
  DERIVED. THE GIVEN ROWS OF THIS SEAT. 7 by the template 'for every input the law returns true; each argument reads behind the call as it read before'; 0 by the template 'total and deterministic' (their statements: YtbdomphfbpapdaaTotals.lean).
  GIVEN WITH THE SEED: the statements are not yours to turn. If you find one false, say at which input.
  Laid BY PROGRAM, IN A SANDBOX (cutbox-rows.mjs): the forced cells as the released guide's own fill.sh prints them over the translation 3961833cbb17e45b… (all of the seat's roots in one cut). By AI agents, Wed Nov 11 2026. No macro, syntax, notation, axiom, sorry.
-/
import Derived.Test.YtbdomphfbpapdaaChecked
import GoSem.Claim
import GoSem.ClaimJoined
import GoSem.ClaimMapViews
import Derived.JoinedTies
import Derived.KernelRfl
namespace Go.Proofs.Ytbdomphfbpapdaa
/- THE CELL 'sum', in the pinned program and in every row, IS THE sha256 OF THE DUMP (.gsa) THAT YtbdomphfbpapdaaProg.lean LOADS. Nothing in Lean hashes anything: it is a label: what it is worth is what the hold of that sum in a sandbox is worth. -/
noncomputable def Try.pinned : Pinned := { name := "ytbdomphfbpapdaa", sum := "3961833cbb17e45b91e39108ef2dc8a73d056b37204c58d55bcde3496a00da37", checked := Try.checked }
namespace Rows
def none {H : Type} : Left H := { results := [], args := [] }

/-- 'trusslaw05.SignLevels': WHATEVER THE INPUT: true; the input reads as it did. -/
def signLevelsSpec : ChangeSpec := { name := "signLevels", fn := fun _ => fun
  | [d1, d2] => { results := [.lit (.bool true)], args := [d1, d2] }
  | _ => none }
def signLevelsRow : OpenClaim := { program := "ytbdomphfbpapdaa", sum := "3961833cbb17e45b91e39108ef2dc8a73d056b37204c58d55bcde3496a00da37", func := "truss/trusslaw05.SignLevels", spec := "signLevels", unfollowed := true, recurses := true, loops := true, apart := false }
def SignLevelsSaid : Prop := signLevelsRow.holds Try.pinned (OpenSpec.ofChange signLevelsSpec)

/-- ITS FALSE NEIGHBOUR: 'it returns false'. Refute it at one input. -/
def signLevelsWrong : ChangeSpec := { name := "signLevels", fn := fun _ => fun
  | [d1, d2] => { results := [.lit (.bool false)], args := [d1, d2] }
  | _ => none }
def SignLevelsWrongFalsely : Prop := signLevelsRow.holds Try.pinned (OpenSpec.ofChange signLevelsWrong)

/-- 'trusslaw05.SignSwapped': WHATEVER THE INPUT: true; the input reads as it did. -/
def signSwappedSpec : ChangeSpec := { name := "signSwapped", fn := fun _ => fun
  | [d1, d2] => { results := [.lit (.bool true)], args := [d1, d2] }
  | _ => none }
def signSwappedRow : OpenClaim := { program := "ytbdomphfbpapdaa", sum := "3961833cbb17e45b91e39108ef2dc8a73d056b37204c58d55bcde3496a00da37", func := "truss/trusslaw05.SignSwapped", spec := "signSwapped", unfollowed := true, recurses := true, loops := true, apart := false }
def SignSwappedSaid : Prop := signSwappedRow.holds Try.pinned (OpenSpec.ofChange signSwappedSpec)

/-- ITS FALSE NEIGHBOUR: 'it returns false'. Refute it at one input. -/
def signSwappedWrong : ChangeSpec := { name := "signSwapped", fn := fun _ => fun
  | [d1, d2] => { results := [.lit (.bool false)], args := [d1, d2] }
  | _ => none }
def SignSwappedWrongFalsely : Prop := signSwappedRow.holds Try.pinned (OpenSpec.ofChange signSwappedWrong)

/-- 'trusslaw05.SignLooks': WHATEVER THE INPUT: true; the input reads as it did. -/
def signLooksSpec : ChangeSpec := { name := "signLooks", fn := fun _ => fun
  | [d1, d2, d3] => { results := [.lit (.bool true)], args := [d1, d2, d3] }
  | _ => none }
def signLooksRow : OpenClaim := { program := "ytbdomphfbpapdaa", sum := "3961833cbb17e45b91e39108ef2dc8a73d056b37204c58d55bcde3496a00da37", func := "truss/trusslaw05.SignLooks", spec := "signLooks", unfollowed := true, recurses := true, loops := true, apart := false }
def SignLooksSaid : Prop := signLooksRow.holds Try.pinned (OpenSpec.ofChange signLooksSpec)

/-- ITS FALSE NEIGHBOUR: 'it returns false'. Refute it at one input. -/
def signLooksWrong : ChangeSpec := { name := "signLooks", fn := fun _ => fun
  | [d1, d2, d3] => { results := [.lit (.bool false)], args := [d1, d2, d3] }
  | _ => none }
def SignLooksWrongFalsely : Prop := signLooksRow.holds Try.pinned (OpenSpec.ofChange signLooksWrong)

/-- 'trusslaw05.SignParted': WHATEVER THE INPUT: true; the input reads as it did. -/
def signPartedSpec : ChangeSpec := { name := "signParted", fn := fun _ => fun
  | [d] => { results := [.lit (.bool true)], args := [d] }
  | _ => none }
def signPartedRow : OpenClaim := { program := "ytbdomphfbpapdaa", sum := "3961833cbb17e45b91e39108ef2dc8a73d056b37204c58d55bcde3496a00da37", func := "truss/trusslaw05.SignParted", spec := "signParted", unfollowed := true, recurses := true, loops := true, apart := false }
def SignPartedSaid : Prop := signPartedRow.holds Try.pinned (OpenSpec.ofChange signPartedSpec)

/-- ITS FALSE NEIGHBOUR: 'it returns false'. Refute it at one input. -/
def signPartedWrong : ChangeSpec := { name := "signParted", fn := fun _ => fun
  | [d] => { results := [.lit (.bool false)], args := [d] }
  | _ => none }
def SignPartedWrongFalsely : Prop := signPartedRow.holds Try.pinned (OpenSpec.ofChange signPartedWrong)

/-- 'trusslaw05.SignAdds': WHATEVER THE INPUT: true; the input reads as it did. -/
def signAddsSpec : ChangeSpec := { name := "signAdds", fn := fun _ => fun
  | [d1, d2] => { results := [.lit (.bool true)], args := [d1, d2] }
  | _ => none }
def signAddsRow : OpenClaim := { program := "ytbdomphfbpapdaa", sum := "3961833cbb17e45b91e39108ef2dc8a73d056b37204c58d55bcde3496a00da37", func := "truss/trusslaw05.SignAdds", spec := "signAdds", unfollowed := true, recurses := true, loops := true, apart := false }
def SignAddsSaid : Prop := signAddsRow.holds Try.pinned (OpenSpec.ofChange signAddsSpec)

/-- ITS FALSE NEIGHBOUR: 'it returns false'. Refute it at one input. -/
def signAddsWrong : ChangeSpec := { name := "signAdds", fn := fun _ => fun
  | [d1, d2] => { results := [.lit (.bool false)], args := [d1, d2] }
  | _ => none }
def SignAddsWrongFalsely : Prop := signAddsRow.holds Try.pinned (OpenSpec.ofChange signAddsWrong)

/-- 'trusslaw05.SignFull': WHATEVER THE INPUT: true; the input reads as it did. -/
def signFullSpec : ChangeSpec := { name := "signFull", fn := fun _ => fun
  | [d] => { results := [.lit (.bool true)], args := [d] }
  | _ => none }
def signFullRow : OpenClaim := { program := "ytbdomphfbpapdaa", sum := "3961833cbb17e45b91e39108ef2dc8a73d056b37204c58d55bcde3496a00da37", func := "truss/trusslaw05.SignFull", spec := "signFull", unfollowed := true, recurses := true, apart := false }
def SignFullSaid : Prop := signFullRow.holds Try.pinned (OpenSpec.ofChange signFullSpec)

/-- ITS FALSE NEIGHBOUR: 'it returns false'. Refute it at one input. -/
def signFullWrong : ChangeSpec := { name := "signFull", fn := fun _ => fun
  | [d] => { results := [.lit (.bool false)], args := [d] }
  | _ => none }
def SignFullWrongFalsely : Prop := signFullRow.holds Try.pinned (OpenSpec.ofChange signFullWrong)

/-- 'trusslaw05.SignUndone': WHATEVER THE INPUT: true; the input reads as it did. -/
def signUndoneSpec : ChangeSpec := { name := "signUndone", fn := fun _ => fun
  | [d1, d2, d3] => { results := [.lit (.bool true)], args := [d1, d2, d3] }
  | _ => none }
def signUndoneRow : OpenClaim := { program := "ytbdomphfbpapdaa", sum := "3961833cbb17e45b91e39108ef2dc8a73d056b37204c58d55bcde3496a00da37", func := "truss/trusslaw05.SignUndone", spec := "signUndone", unfollowed := true, recurses := true, loops := true, apart := false }
def SignUndoneSaid : Prop := signUndoneRow.holds Try.pinned (OpenSpec.ofChange signUndoneSpec)

/-- ITS FALSE NEIGHBOUR: 'it returns false'. Refute it at one input. -/
def signUndoneWrong : ChangeSpec := { name := "signUndone", fn := fun _ => fun
  | [d1, d2, d3] => { results := [.lit (.bool false)], args := [d1, d2, d3] }
  | _ => none }
def SignUndoneWrongFalsely : Prop := signUndoneRow.holds Try.pinned (OpenSpec.ofChange signUndoneWrong)

/- THE SECOND FORM. 'bulk': how many values and letters a reading holds, each counted each time it is reached (what is shared counts as often as it is met; a slice's spare places count too). A statement '..UptoSaid' is the law's where the arguments, and the package variables that the reading takes, are together of bulk at most 1048576: NARROWER than '..Said'. Prove '..Said' where nothing that the law and all that it calls make is longer than what came in: it says more and counts as full. Else prove '..UptoSaid'. A law counts once. -/
mutual
def uptoBulk {H : Type} : DataW H → Nat
  | .lit (.string bytes) => bytes.length + 1
  | .lit _ => 1
  | .nil => 1
  | .ptr d => uptoBulk d + 1
  | .slice elems spare => uptoBulkAll elems + uptoBulkAll spare + 1
  | .agg parts => uptoBulkAll parts + 1
  | .iface _ d => uptoBulk d + 1
  | .map entries => uptoBulkEntries entries + 1
  | .held _ => 1
def uptoBulkAll {H : Type} : List (DataW H) → Nat
  | [] => 0
  | d :: r => uptoBulk d + uptoBulkAll r
def uptoBulkEntries {H : Type} : List (Lit × DataW H) → Nat
  | [] => 0
  | x :: r => uptoBulkEntry x + uptoBulkEntries r
def uptoBulkEntry {H : Type} : Lit × DataW H → Nat
  | (.string bytes, d) => bytes.length + uptoBulk d + 1
  | (_, d) => uptoBulk d + 1
 end
def uptoSmall : (H : Type) → List (DataW H) → Bool := fun _ ds => decide (uptoBulkAll ds ≤ 1048576)
def OpenSpec.upto (s : _root_.Go.ChangeSpec) : _root_.Go.OpenSpec := { _root_.Go.OpenSpec.ofChange s with cond := some uptoSmall }

/-- 'trusslaw05.SignLevels', WHERE WHAT IT READS IS OF BULK AT MOST 1048576: true; the input reads as it did. -/
def signLevelsUptoRow : OpenClaim := { program := "ytbdomphfbpapdaa", sum := "3961833cbb17e45b91e39108ef2dc8a73d056b37204c58d55bcde3496a00da37", func := "truss/trusslaw05.SignLevels", spec := "signLevels", unfollowed := true, recurses := true, loops := true, apart := false, narrowed := true }
def SignLevelsUptoSaid : Prop := signLevelsUptoRow.holds Try.pinned (OpenSpec.upto signLevelsSpec)

/-- 'trusslaw05.SignSwapped', WHERE WHAT IT READS IS OF BULK AT MOST 1048576: true; the input reads as it did. -/
def signSwappedUptoRow : OpenClaim := { program := "ytbdomphfbpapdaa", sum := "3961833cbb17e45b91e39108ef2dc8a73d056b37204c58d55bcde3496a00da37", func := "truss/trusslaw05.SignSwapped", spec := "signSwapped", unfollowed := true, recurses := true, loops := true, apart := false, narrowed := true }
def SignSwappedUptoSaid : Prop := signSwappedUptoRow.holds Try.pinned (OpenSpec.upto signSwappedSpec)

/-- 'trusslaw05.SignLooks', WHERE WHAT IT READS IS OF BULK AT MOST 1048576: true; the input reads as it did. -/
def signLooksUptoRow : OpenClaim := { program := "ytbdomphfbpapdaa", sum := "3961833cbb17e45b91e39108ef2dc8a73d056b37204c58d55bcde3496a00da37", func := "truss/trusslaw05.SignLooks", spec := "signLooks", unfollowed := true, recurses := true, loops := true, apart := false, narrowed := true }
def SignLooksUptoSaid : Prop := signLooksUptoRow.holds Try.pinned (OpenSpec.upto signLooksSpec)

/-- 'trusslaw05.SignParted', WHERE WHAT IT READS IS OF BULK AT MOST 1048576: true; the input reads as it did. -/
def signPartedUptoRow : OpenClaim := { program := "ytbdomphfbpapdaa", sum := "3961833cbb17e45b91e39108ef2dc8a73d056b37204c58d55bcde3496a00da37", func := "truss/trusslaw05.SignParted", spec := "signParted", unfollowed := true, recurses := true, loops := true, apart := false, narrowed := true }
def SignPartedUptoSaid : Prop := signPartedUptoRow.holds Try.pinned (OpenSpec.upto signPartedSpec)

/-- 'trusslaw05.SignAdds', WHERE WHAT IT READS IS OF BULK AT MOST 1048576: true; the input reads as it did. -/
def signAddsUptoRow : OpenClaim := { program := "ytbdomphfbpapdaa", sum := "3961833cbb17e45b91e39108ef2dc8a73d056b37204c58d55bcde3496a00da37", func := "truss/trusslaw05.SignAdds", spec := "signAdds", unfollowed := true, recurses := true, loops := true, apart := false, narrowed := true }
def SignAddsUptoSaid : Prop := signAddsUptoRow.holds Try.pinned (OpenSpec.upto signAddsSpec)

/-- 'trusslaw05.SignFull', WHERE WHAT IT READS IS OF BULK AT MOST 1048576: true; the input reads as it did. -/
def signFullUptoRow : OpenClaim := { program := "ytbdomphfbpapdaa", sum := "3961833cbb17e45b91e39108ef2dc8a73d056b37204c58d55bcde3496a00da37", func := "truss/trusslaw05.SignFull", spec := "signFull", unfollowed := true, recurses := true, apart := false, narrowed := true }
def SignFullUptoSaid : Prop := signFullUptoRow.holds Try.pinned (OpenSpec.upto signFullSpec)

/-- 'trusslaw05.SignUndone', WHERE WHAT IT READS IS OF BULK AT MOST 1048576: true; the input reads as it did. -/
def signUndoneUptoRow : OpenClaim := { program := "ytbdomphfbpapdaa", sum := "3961833cbb17e45b91e39108ef2dc8a73d056b37204c58d55bcde3496a00da37", func := "truss/trusslaw05.SignUndone", spec := "signUndone", unfollowed := true, recurses := true, loops := true, apart := false, narrowed := true }
def SignUndoneUptoSaid : Prop := signUndoneUptoRow.holds Try.pinned (OpenSpec.upto signUndoneSpec)

end Rows
end Go.Proofs.Ytbdomphfbpapdaa
