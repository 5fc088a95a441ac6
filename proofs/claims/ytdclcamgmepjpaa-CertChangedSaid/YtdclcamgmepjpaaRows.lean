/-
  NARROWER THAN 'FOR EVERY INPUT', by the rows' own cells (each row's printed sentence says how): CertTwice: loops · CertNodes: loops · CertSums: loops · CertBack: loops · CertChanged: loops.
  DERIVED. THE GIVEN ROWS OF THIS SEAT. 6 by the template 'for every input the law returns true; each argument reads behind the call as it read before'; 0 by the template 'total and deterministic' (their statements: YtdclcamgmepjpaaTotals.lean).
  GIVEN WITH THE SEED: the statements are not yours to turn. If you find one false, say at which input.
  Laid BY PROGRAM, IN A SANDBOX (cutbox-rows.mjs): the forced cells as the released guide's own fill.sh prints them over the translation 1d61717373934aa2… (all of the seat's roots in one cut). By AI agents, Wed Nov 11 2026. No macro, syntax, notation, axiom, sorry.
-/
import Derived.Test.YtdclcamgmepjpaaChecked
import GoSem.Claim
import GoSem.ClaimJoined
import GoSem.ClaimMapViews
import Derived.JoinedTies
import Derived.KernelRfl
namespace Go.Proofs.Ytdclcamgmepjpaa
/- THE CELL 'sum', in the pinned program and in every row, IS THE sha256 OF THE DUMP (.gsa) THAT YtdclcamgmepjpaaProg.lean LOADS. Nothing in Lean hashes anything: it is a label: what it is worth is what the hold of that sum in a sandbox is worth. -/
noncomputable def Try.pinned : Pinned := { name := "ytdclcamgmepjpaa", sum := "1d61717373934aa254e2f2455ab0b7142bc53b823a97a26cf44083deef7dee5c", checked := Try.checked }
namespace Rows
def none {H : Type} : Left H := { results := [], args := [] }

/-- 'trusslaw19.CertTwice': WHATEVER THE INPUT: true; the input reads as it did. -/
def certTwiceSpec : ChangeSpec := { name := "certTwice", fn := fun _ => fun
  | [d] => { results := [.lit (.bool true)], args := [d] }
  | _ => none }
def certTwiceRow : OpenClaim := { program := "ytdclcamgmepjpaa", sum := "1d61717373934aa254e2f2455ab0b7142bc53b823a97a26cf44083deef7dee5c", func := "truss/trusslaw19.CertTwice", spec := "certTwice", unfollowed := true, recurses := true, loops := true, apart := false }
def CertTwiceSaid : Prop := certTwiceRow.holds Try.pinned (OpenSpec.ofChange certTwiceSpec)

/-- ITS FALSE NEIGHBOUR: 'it returns false'. Refute it at one input. -/
def certTwiceWrong : ChangeSpec := { name := "certTwice", fn := fun _ => fun
  | [d] => { results := [.lit (.bool false)], args := [d] }
  | _ => none }
def CertTwiceWrongFalsely : Prop := certTwiceRow.holds Try.pinned (OpenSpec.ofChange certTwiceWrong)

/-- 'trusslaw19.CertNodes': WHATEVER THE INPUT: true; the input reads as it did. -/
def certNodesSpec : ChangeSpec := { name := "certNodes", fn := fun _ => fun
  | [d] => { results := [.lit (.bool true)], args := [d] }
  | _ => none }
def certNodesRow : OpenClaim := { program := "ytdclcamgmepjpaa", sum := "1d61717373934aa254e2f2455ab0b7142bc53b823a97a26cf44083deef7dee5c", func := "truss/trusslaw19.CertNodes", spec := "certNodes", unfollowed := true, recurses := true, loops := true, apart := false }
def CertNodesSaid : Prop := certNodesRow.holds Try.pinned (OpenSpec.ofChange certNodesSpec)

/-- ITS FALSE NEIGHBOUR: 'it returns false'. Refute it at one input. -/
def certNodesWrong : ChangeSpec := { name := "certNodes", fn := fun _ => fun
  | [d] => { results := [.lit (.bool false)], args := [d] }
  | _ => none }
def CertNodesWrongFalsely : Prop := certNodesRow.holds Try.pinned (OpenSpec.ofChange certNodesWrong)

/-- 'trusslaw19.CertSums': WHATEVER THE INPUT: true; the input reads as it did. -/
def certSumsSpec : ChangeSpec := { name := "certSums", fn := fun _ => fun
  | [d1, d2, d3] => { results := [.lit (.bool true)], args := [d1, d2, d3] }
  | _ => none }
def certSumsRow : OpenClaim := { program := "ytdclcamgmepjpaa", sum := "1d61717373934aa254e2f2455ab0b7142bc53b823a97a26cf44083deef7dee5c", func := "truss/trusslaw19.CertSums", spec := "certSums", unfollowed := true, recurses := true, loops := true, apart := false }
def CertSumsSaid : Prop := certSumsRow.holds Try.pinned (OpenSpec.ofChange certSumsSpec)

/-- ITS FALSE NEIGHBOUR: 'it returns false'. Refute it at one input. -/
def certSumsWrong : ChangeSpec := { name := "certSums", fn := fun _ => fun
  | [d1, d2, d3] => { results := [.lit (.bool false)], args := [d1, d2, d3] }
  | _ => none }
def CertSumsWrongFalsely : Prop := certSumsRow.holds Try.pinned (OpenSpec.ofChange certSumsWrong)

/-- 'trusslaw19.CertBack': WHATEVER THE INPUT: true; the input reads as it did. -/
def certBackSpec : ChangeSpec := { name := "certBack", fn := fun _ => fun
  | [d] => { results := [.lit (.bool true)], args := [d] }
  | _ => none }
def certBackRow : OpenClaim := { program := "ytdclcamgmepjpaa", sum := "1d61717373934aa254e2f2455ab0b7142bc53b823a97a26cf44083deef7dee5c", func := "truss/trusslaw19.CertBack", spec := "certBack", unfollowed := true, recurses := true, loops := true, apart := false }
def CertBackSaid : Prop := certBackRow.holds Try.pinned (OpenSpec.ofChange certBackSpec)

/-- ITS FALSE NEIGHBOUR: 'it returns false'. Refute it at one input. -/
def certBackWrong : ChangeSpec := { name := "certBack", fn := fun _ => fun
  | [d] => { results := [.lit (.bool false)], args := [d] }
  | _ => none }
def CertBackWrongFalsely : Prop := certBackRow.holds Try.pinned (OpenSpec.ofChange certBackWrong)

/-- 'trusslaw19.CertChanged': WHATEVER THE INPUT: true; the input reads as it did. -/
def certChangedSpec : ChangeSpec := { name := "certChanged", fn := fun _ => fun
  | [d1, d2, d3] => { results := [.lit (.bool true)], args := [d1, d2, d3] }
  | _ => none }
def certChangedRow : OpenClaim := { program := "ytdclcamgmepjpaa", sum := "1d61717373934aa254e2f2455ab0b7142bc53b823a97a26cf44083deef7dee5c", func := "truss/trusslaw19.CertChanged", spec := "certChanged", unfollowed := true, recurses := true, loops := true, apart := false }
def CertChangedSaid : Prop := certChangedRow.holds Try.pinned (OpenSpec.ofChange certChangedSpec)

/-- ITS FALSE NEIGHBOUR: 'it returns false'. Refute it at one input. -/
def certChangedWrong : ChangeSpec := { name := "certChanged", fn := fun _ => fun
  | [d1, d2, d3] => { results := [.lit (.bool false)], args := [d1, d2, d3] }
  | _ => none }
def CertChangedWrongFalsely : Prop := certChangedRow.holds Try.pinned (OpenSpec.ofChange certChangedWrong)

/-- 'trusslaw19.CertSealed': WHATEVER THE INPUT: true; the input reads as it did. -/
def certSealedSpec : ChangeSpec := { name := "certSealed", fn := fun _ => fun
  | [d] => { results := [.lit (.bool true)], args := [d] }
  | _ => none }
def certSealedRow : OpenClaim := { program := "ytdclcamgmepjpaa", sum := "1d61717373934aa254e2f2455ab0b7142bc53b823a97a26cf44083deef7dee5c", func := "truss/trusslaw19.CertSealed", spec := "certSealed", unfollowed := true, recurses := true, apart := false }
def CertSealedSaid : Prop := certSealedRow.holds Try.pinned (OpenSpec.ofChange certSealedSpec)

/-- ITS FALSE NEIGHBOUR: 'it returns false'. Refute it at one input. -/
def certSealedWrong : ChangeSpec := { name := "certSealed", fn := fun _ => fun
  | [d] => { results := [.lit (.bool false)], args := [d] }
  | _ => none }
def CertSealedWrongFalsely : Prop := certSealedRow.holds Try.pinned (OpenSpec.ofChange certSealedWrong)

/- THE SECOND FORM. 'bulk': how many values and letters a reading holds, each counted each time it is reached (what is shared counts as often as it is met; a slice's spare places count too). A statement '..UptoSaid' is the law's where the arguments, and the package variables that the reading takes, are together of bulk at most 1048576: NARROWER than '..Said'. Prove '..Said' where nothing that the law and all that it calls make is longer than what came in: it says more and counts as full. Else prove '..UptoSaid'. A law counts once. -/
mutual
def uptoBulk {H : Type} : DataW H → Nat
  | .lit (.string bytes) => bytes.length + 1
  | .lit _ => 1
  | .nil => 1
  | .ptr d => uptoBulk d + 1
  | .slice elems spare => uptoBulkAll elems + uptoBulkAll spare + 1
  | .agg parts => uptoBulkAll parts + 1
  | .iface _ d => uptoBulk d + 1
  | .map entries => uptoBulkEntries entries + 1
  | .held _ => 1
def uptoBulkAll {H : Type} : List (DataW H) → Nat
  | [] => 0
  | d :: r => uptoBulk d + uptoBulkAll r
def uptoBulkEntries {H : Type} : List (Lit × DataW H) → Nat
  | [] => 0
  | x :: r => uptoBulkEntry x + uptoBulkEntries r
def uptoBulkEntry {H : Type} : Lit × DataW H → Nat
  | (.string bytes, d) => bytes.length + uptoBulk d + 1
  | (_, d) => uptoBulk d + 1
 end
def uptoSmall : (H : Type) → List (DataW H) → Bool := fun _ ds => decide (uptoBulkAll ds ≤ 1048576)
def OpenSpec.upto (s : _root_.Go.ChangeSpec) : _root_.Go.OpenSpec := { _root_.Go.OpenSpec.ofChange s with cond := some uptoSmall }

/-- 'trusslaw19.CertTwice', WHERE WHAT IT READS IS OF BULK AT MOST 1048576: true; the input reads as it did. -/
def certTwiceUptoRow : OpenClaim := { program := "ytdclcamgmepjpaa", sum := "1d61717373934aa254e2f2455ab0b7142bc53b823a97a26cf44083deef7dee5c", func := "truss/trusslaw19.CertTwice", spec := "certTwice", unfollowed := true, recurses := true, loops := true, apart := false, narrowed := true }
def CertTwiceUptoSaid : Prop := certTwiceUptoRow.holds Try.pinned (OpenSpec.upto certTwiceSpec)

/-- 'trusslaw19.CertNodes', WHERE WHAT IT READS IS OF BULK AT MOST 1048576: true; the input reads as it did. -/
def certNodesUptoRow : OpenClaim := { program := "ytdclcamgmepjpaa", sum := "1d61717373934aa254e2f2455ab0b7142bc53b823a97a26cf44083deef7dee5c", func := "truss/trusslaw19.CertNodes", spec := "certNodes", unfollowed := true, recurses := true, loops := true, apart := false, narrowed := true }
def CertNodesUptoSaid : Prop := certNodesUptoRow.holds Try.pinned (OpenSpec.upto certNodesSpec)

/-- 'trusslaw19.CertSums', WHERE WHAT IT READS IS OF BULK AT MOST 1048576: true; the input reads as it did. -/
def certSumsUptoRow : OpenClaim := { program := "ytdclcamgmepjpaa", sum := "1d61717373934aa254e2f2455ab0b7142bc53b823a97a26cf44083deef7dee5c", func := "truss/trusslaw19.CertSums", spec := "certSums", unfollowed := true, recurses := true, loops := true, apart := false, narrowed := true }
def CertSumsUptoSaid : Prop := certSumsUptoRow.holds Try.pinned (OpenSpec.upto certSumsSpec)

/-- 'trusslaw19.CertBack', WHERE WHAT IT READS IS OF BULK AT MOST 1048576: true; the input reads as it did. -/
def certBackUptoRow : OpenClaim := { program := "ytdclcamgmepjpaa", sum := "1d61717373934aa254e2f2455ab0b7142bc53b823a97a26cf44083deef7dee5c", func := "truss/trusslaw19.CertBack", spec := "certBack", unfollowed := true, recurses := true, loops := true, apart := false, narrowed := true }
def CertBackUptoSaid : Prop := certBackUptoRow.holds Try.pinned (OpenSpec.upto certBackSpec)

/-- 'trusslaw19.CertChanged', WHERE WHAT IT READS IS OF BULK AT MOST 1048576: true; the input reads as it did. -/
def certChangedUptoRow : OpenClaim := { program := "ytdclcamgmepjpaa", sum := "1d61717373934aa254e2f2455ab0b7142bc53b823a97a26cf44083deef7dee5c", func := "truss/trusslaw19.CertChanged", spec := "certChanged", unfollowed := true, recurses := true, loops := true, apart := false, narrowed := true }
def CertChangedUptoSaid : Prop := certChangedUptoRow.holds Try.pinned (OpenSpec.upto certChangedSpec)

/-- 'trusslaw19.CertSealed', WHERE WHAT IT READS IS OF BULK AT MOST 1048576: true; the input reads as it did. -/
def certSealedUptoRow : OpenClaim := { program := "ytdclcamgmepjpaa", sum := "1d61717373934aa254e2f2455ab0b7142bc53b823a97a26cf44083deef7dee5c", func := "truss/trusslaw19.CertSealed", spec := "certSealed", unfollowed := true, recurses := true, apart := false, narrowed := true }
def CertSealedUptoSaid : Prop := certSealedUptoRow.holds Try.pinned (OpenSpec.upto certSealedSpec)

end Rows
end Go.Proofs.Ytdclcamgmepjpaa
