/-
  NARROWER THAN 'FOR EVERY INPUT', by the rows' own cells (each row's printed sentence says how): ExprChecks: loops · ExprCounts: loops · ExprNames: loops · ExprEach: loops · ExprParts: loops · ExprRenames: loops · ExprSame: loops.
  DERIVED. THE GIVEN ROWS OF THIS SEAT. 7 by the template 'for every input the law returns true; each argument reads behind the call as it read before'; 0 by the template 'total and deterministic' (their statements: YtfoddappedcplaaTotals.lean).
  GIVEN WITH THE SEED: the statements are not yours to turn. If you find one false, say at which input.
  Laid BY PROGRAM, IN A SANDBOX (cutbox-rows.mjs): the forced cells as the released guide's own fill.sh prints them over the translation 5c90b4db7b99a2bc… (all of the seat's roots in one cut). By AI agents, Wed Nov 11 2026. No macro, syntax, notation, axiom, sorry.
-/
import Derived.Test.YtfoddappedcplaaChecked
import GoSem.Claim
import GoSem.ClaimJoined
import GoSem.ClaimMapViews
import Derived.JoinedTies
import Derived.KernelRfl
namespace Go.Proofs.Ytfoddappedcplaa
/- THE CELL 'sum', in the pinned program and in every row, IS THE sha256 OF THE DUMP (.gsa) THAT YtfoddappedcplaaProg.lean LOADS. Nothing in Lean hashes anything: it is a label: what it is worth is what the hold of that sum in a sandbox is worth. -/
noncomputable def Try.pinned : Pinned := { name := "ytfoddappedcplaa", sum := "5c90b4db7b99a2bc91845dff66643438e0f34060e2629f80c7d2490c7dc70e57", checked := Try.checked }
namespace Rows
def none {H : Type} : Left H := { results := [], args := [] }

/-- 'synchronylaw06.ExprChecks': WHATEVER THE INPUT: true; the input reads as it did. -/
def exprChecksSpec : ChangeSpec := { name := "exprChecks", fn := fun _ => fun
  | [d] => { results := [.lit (.bool true)], args := [d] }
  | _ => none }
def exprChecksRow : OpenClaim := { program := "ytfoddappedcplaa", sum := "5c90b4db7b99a2bc91845dff66643438e0f34060e2629f80c7d2490c7dc70e57", func := "synchrony/synchronylaw06.ExprChecks", spec := "exprChecks", inPlace := ["internal/bytealg.IndexByteString", "internal/bytealg.IndexString"], unfollowed := true, recurses := true, named := ["internal/bytealg.MaxLen"], loops := true, apart := false }
def ExprChecksSaid : Prop := exprChecksRow.holds Try.pinned (OpenSpec.ofChange exprChecksSpec)

/-- ITS FALSE NEIGHBOUR: 'it returns false'. Refute it at one input. -/
def exprChecksWrong : ChangeSpec := { name := "exprChecks", fn := fun _ => fun
  | [d] => { results := [.lit (.bool false)], args := [d] }
  | _ => none }
def ExprChecksWrongFalsely : Prop := exprChecksRow.holds Try.pinned (OpenSpec.ofChange exprChecksWrong)

/-- 'synchronylaw06.ExprCounts': WHATEVER THE INPUT: true; the input reads as it did. -/
def exprCountsSpec : ChangeSpec := { name := "exprCounts", fn := fun _ => fun
  | [d1, d2] => { results := [.lit (.bool true)], args := [d1, d2] }
  | _ => none }
def exprCountsRow : OpenClaim := { program := "ytfoddappedcplaa", sum := "5c90b4db7b99a2bc91845dff66643438e0f34060e2629f80c7d2490c7dc70e57", func := "synchrony/synchronylaw06.ExprCounts", spec := "exprCounts", inPlace := ["internal/bytealg.IndexByteString", "internal/bytealg.IndexString"], unfollowed := true, recurses := true, named := ["internal/bytealg.MaxLen"], loops := true, apart := false }
def ExprCountsSaid : Prop := exprCountsRow.holds Try.pinned (OpenSpec.ofChange exprCountsSpec)

/-- ITS FALSE NEIGHBOUR: 'it returns false'. Refute it at one input. -/
def exprCountsWrong : ChangeSpec := { name := "exprCounts", fn := fun _ => fun
  | [d1, d2] => { results := [.lit (.bool false)], args := [d1, d2] }
  | _ => none }
def ExprCountsWrongFalsely : Prop := exprCountsRow.holds Try.pinned (OpenSpec.ofChange exprCountsWrong)

/-- 'synchronylaw06.ExprNames': WHATEVER THE INPUT: true; the input reads as it did. -/
def exprNamesSpec : ChangeSpec := { name := "exprNames", fn := fun _ => fun
  | [d] => { results := [.lit (.bool true)], args := [d] }
  | _ => none }
def exprNamesRow : OpenClaim := { program := "ytfoddappedcplaa", sum := "5c90b4db7b99a2bc91845dff66643438e0f34060e2629f80c7d2490c7dc70e57", func := "synchrony/synchronylaw06.ExprNames", spec := "exprNames", inPlace := ["internal/bytealg.IndexByteString", "internal/bytealg.IndexString"], unfollowed := true, recurses := true, named := ["internal/bytealg.MaxLen"], loops := true, apart := false }
def ExprNamesSaid : Prop := exprNamesRow.holds Try.pinned (OpenSpec.ofChange exprNamesSpec)

/-- ITS FALSE NEIGHBOUR: 'it returns false'. Refute it at one input. -/
def exprNamesWrong : ChangeSpec := { name := "exprNames", fn := fun _ => fun
  | [d] => { results := [.lit (.bool false)], args := [d] }
  | _ => none }
def ExprNamesWrongFalsely : Prop := exprNamesRow.holds Try.pinned (OpenSpec.ofChange exprNamesWrong)

/-- 'synchronylaw06.ExprEach': WHATEVER THE INPUT: true; the input reads as it did. -/
def exprEachSpec : ChangeSpec := { name := "exprEach", fn := fun _ => fun
  | [d1, d2] => { results := [.lit (.bool true)], args := [d1, d2] }
  | _ => none }
def exprEachRow : OpenClaim := { program := "ytfoddappedcplaa", sum := "5c90b4db7b99a2bc91845dff66643438e0f34060e2629f80c7d2490c7dc70e57", func := "synchrony/synchronylaw06.ExprEach", spec := "exprEach", inPlace := ["internal/bytealg.IndexByteString", "internal/bytealg.IndexString"], unfollowed := true, recurses := true, named := ["internal/bytealg.MaxLen"], loops := true, apart := false }
def ExprEachSaid : Prop := exprEachRow.holds Try.pinned (OpenSpec.ofChange exprEachSpec)

/-- ITS FALSE NEIGHBOUR: 'it returns false'. Refute it at one input. -/
def exprEachWrong : ChangeSpec := { name := "exprEach", fn := fun _ => fun
  | [d1, d2] => { results := [.lit (.bool false)], args := [d1, d2] }
  | _ => none }
def ExprEachWrongFalsely : Prop := exprEachRow.holds Try.pinned (OpenSpec.ofChange exprEachWrong)

/-- 'synchronylaw06.ExprParts': WHATEVER THE INPUT: true; the input reads as it did. -/
def exprPartsSpec : ChangeSpec := { name := "exprParts", fn := fun _ => fun
  | [d] => { results := [.lit (.bool true)], args := [d] }
  | _ => none }
def exprPartsRow : OpenClaim := { program := "ytfoddappedcplaa", sum := "5c90b4db7b99a2bc91845dff66643438e0f34060e2629f80c7d2490c7dc70e57", func := "synchrony/synchronylaw06.ExprParts", spec := "exprParts", inPlace := ["internal/bytealg.IndexByteString", "internal/bytealg.IndexString"], unfollowed := true, recurses := true, named := ["internal/bytealg.MaxLen"], loops := true, apart := false }
def ExprPartsSaid : Prop := exprPartsRow.holds Try.pinned (OpenSpec.ofChange exprPartsSpec)

/-- ITS FALSE NEIGHBOUR: 'it returns false'. Refute it at one input. -/
def exprPartsWrong : ChangeSpec := { name := "exprParts", fn := fun _ => fun
  | [d] => { results := [.lit (.bool false)], args := [d] }
  | _ => none }
def ExprPartsWrongFalsely : Prop := exprPartsRow.holds Try.pinned (OpenSpec.ofChange exprPartsWrong)

/-- 'synchronylaw06.ExprRenames': WHATEVER THE INPUT: true; the input reads as it did. -/
def exprRenamesSpec : ChangeSpec := { name := "exprRenames", fn := fun _ => fun
  | [d1, d2, d3] => { results := [.lit (.bool true)], args := [d1, d2, d3] }
  | _ => none }
def exprRenamesRow : OpenClaim := { program := "ytfoddappedcplaa", sum := "5c90b4db7b99a2bc91845dff66643438e0f34060e2629f80c7d2490c7dc70e57", func := "synchrony/synchronylaw06.ExprRenames", spec := "exprRenames", inPlace := ["internal/bytealg.IndexByteString", "internal/bytealg.IndexString"], unfollowed := true, recurses := true, named := ["internal/bytealg.MaxLen"], loops := true, apart := false }
def ExprRenamesSaid : Prop := exprRenamesRow.holds Try.pinned (OpenSpec.ofChange exprRenamesSpec)

/-- ITS FALSE NEIGHBOUR: 'it returns false'. Refute it at one input. -/
def exprRenamesWrong : ChangeSpec := { name := "exprRenames", fn := fun _ => fun
  | [d1, d2, d3] => { results := [.lit (.bool false)], args := [d1, d2, d3] }
  | _ => none }
def ExprRenamesWrongFalsely : Prop := exprRenamesRow.holds Try.pinned (OpenSpec.ofChange exprRenamesWrong)

/-- 'synchronylaw06.ExprSame': WHATEVER THE INPUT: true; the input reads as it did. -/
def exprSameSpec : ChangeSpec := { name := "exprSame", fn := fun _ => fun
  | [d1, d2] => { results := [.lit (.bool true)], args := [d1, d2] }
  | _ => none }
def exprSameRow : OpenClaim := { program := "ytfoddappedcplaa", sum := "5c90b4db7b99a2bc91845dff66643438e0f34060e2629f80c7d2490c7dc70e57", func := "synchrony/synchronylaw06.ExprSame", spec := "exprSame", inPlace := ["internal/bytealg.IndexByteString", "internal/bytealg.IndexString"], unfollowed := true, recurses := true, named := ["internal/bytealg.MaxLen"], loops := true, apart := false }
def ExprSameSaid : Prop := exprSameRow.holds Try.pinned (OpenSpec.ofChange exprSameSpec)

/-- ITS FALSE NEIGHBOUR: 'it returns false'. Refute it at one input. -/
def exprSameWrong : ChangeSpec := { name := "exprSame", fn := fun _ => fun
  | [d1, d2] => { results := [.lit (.bool false)], args := [d1, d2] }
  | _ => none }
def ExprSameWrongFalsely : Prop := exprSameRow.holds Try.pinned (OpenSpec.ofChange exprSameWrong)

/- THE SECOND FORM. 'bulk': how many values and letters a reading holds, each counted each time it is reached (what is shared counts as often as it is met; a slice's spare places count too). A statement '..UptoSaid' is the law's where the arguments, and the package variables that the reading takes, are together of bulk at most 1048576: NARROWER than '..Said'. Prove '..Said' where nothing that the law and all that it calls make is longer than what came in: it says more and counts as full. Else prove '..UptoSaid'. A law counts once. -/
mutual
def uptoBulk {H : Type} : DataW H → Nat
  | .lit (.string bytes) => bytes.length + 1
  | .lit _ => 1
  | .nil => 1
  | .ptr d => uptoBulk d + 1
  | .slice elems spare => uptoBulkAll elems + uptoBulkAll spare + 1
  | .agg parts => uptoBulkAll parts + 1
  | .iface _ d => uptoBulk d + 1
  | .map entries => uptoBulkEntries entries + 1
  | .held _ => 1
def uptoBulkAll {H : Type} : List (DataW H) → Nat
  | [] => 0
  | d :: r => uptoBulk d + uptoBulkAll r
def uptoBulkEntries {H : Type} : List (Lit × DataW H) → Nat
  | [] => 0
  | x :: r => uptoBulkEntry x + uptoBulkEntries r
def uptoBulkEntry {H : Type} : Lit × DataW H → Nat
  | (.string bytes, d) => bytes.length + uptoBulk d + 1
  | (_, d) => uptoBulk d + 1
 end
def uptoSmall : (H : Type) → List (DataW H) → Bool := fun _ ds => decide (uptoBulkAll ds ≤ 1048576)
def OpenSpec.upto (s : _root_.Go.ChangeSpec) : _root_.Go.OpenSpec := { _root_.Go.OpenSpec.ofChange s with cond := some uptoSmall }

/-- 'synchronylaw06.ExprChecks', WHERE WHAT IT READS IS OF BULK AT MOST 1048576: true; the input reads as it did. -/
def exprChecksUptoRow : OpenClaim := { program := "ytfoddappedcplaa", sum := "5c90b4db7b99a2bc91845dff66643438e0f34060e2629f80c7d2490c7dc70e57", func := "synchrony/synchronylaw06.ExprChecks", spec := "exprChecks", inPlace := ["internal/bytealg.IndexByteString", "internal/bytealg.IndexString"], unfollowed := true, recurses := true, named := ["internal/bytealg.MaxLen"], loops := true, apart := false, narrowed := true }
def ExprChecksUptoSaid : Prop := exprChecksUptoRow.holds Try.pinned (OpenSpec.upto exprChecksSpec)

/-- 'synchronylaw06.ExprCounts', WHERE WHAT IT READS IS OF BULK AT MOST 1048576: true; the input reads as it did. -/
def exprCountsUptoRow : OpenClaim := { program := "ytfoddappedcplaa", sum := "5c90b4db7b99a2bc91845dff66643438e0f34060e2629f80c7d2490c7dc70e57", func := "synchrony/synchronylaw06.ExprCounts", spec := "exprCounts", inPlace := ["internal/bytealg.IndexByteString", "internal/bytealg.IndexString"], unfollowed := true, recurses := true, named := ["internal/bytealg.MaxLen"], loops := true, apart := false, narrowed := true }
def ExprCountsUptoSaid : Prop := exprCountsUptoRow.holds Try.pinned (OpenSpec.upto exprCountsSpec)

/-- 'synchronylaw06.ExprNames', WHERE WHAT IT READS IS OF BULK AT MOST 1048576: true; the input reads as it did. -/
def exprNamesUptoRow : OpenClaim := { program := "ytfoddappedcplaa", sum := "5c90b4db7b99a2bc91845dff66643438e0f34060e2629f80c7d2490c7dc70e57", func := "synchrony/synchronylaw06.ExprNames", spec := "exprNames", inPlace := ["internal/bytealg.IndexByteString", "internal/bytealg.IndexString"], unfollowed := true, recurses := true, named := ["internal/bytealg.MaxLen"], loops := true, apart := false, narrowed := true }
def ExprNamesUptoSaid : Prop := exprNamesUptoRow.holds Try.pinned (OpenSpec.upto exprNamesSpec)

/-- 'synchronylaw06.ExprEach', WHERE WHAT IT READS IS OF BULK AT MOST 1048576: true; the input reads as it did. -/
def exprEachUptoRow : OpenClaim := { program := "ytfoddappedcplaa", sum := "5c90b4db7b99a2bc91845dff66643438e0f34060e2629f80c7d2490c7dc70e57", func := "synchrony/synchronylaw06.ExprEach", spec := "exprEach", inPlace := ["internal/bytealg.IndexByteString", "internal/bytealg.IndexString"], unfollowed := true, recurses := true, named := ["internal/bytealg.MaxLen"], loops := true, apart := false, narrowed := true }
def ExprEachUptoSaid : Prop := exprEachUptoRow.holds Try.pinned (OpenSpec.upto exprEachSpec)

/-- 'synchronylaw06.ExprParts', WHERE WHAT IT READS IS OF BULK AT MOST 1048576: true; the input reads as it did. -/
def exprPartsUptoRow : OpenClaim := { program := "ytfoddappedcplaa", sum := "5c90b4db7b99a2bc91845dff66643438e0f34060e2629f80c7d2490c7dc70e57", func := "synchrony/synchronylaw06.ExprParts", spec := "exprParts", inPlace := ["internal/bytealg.IndexByteString", "internal/bytealg.IndexString"], unfollowed := true, recurses := true, named := ["internal/bytealg.MaxLen"], loops := true, apart := false, narrowed := true }
def ExprPartsUptoSaid : Prop := exprPartsUptoRow.holds Try.pinned (OpenSpec.upto exprPartsSpec)

/-- 'synchronylaw06.ExprRenames', WHERE WHAT IT READS IS OF BULK AT MOST 1048576: true; the input reads as it did. -/
def exprRenamesUptoRow : OpenClaim := { program := "ytfoddappedcplaa", sum := "5c90b4db7b99a2bc91845dff66643438e0f34060e2629f80c7d2490c7dc70e57", func := "synchrony/synchronylaw06.ExprRenames", spec := "exprRenames", inPlace := ["internal/bytealg.IndexByteString", "internal/bytealg.IndexString"], unfollowed := true, recurses := true, named := ["internal/bytealg.MaxLen"], loops := true, apart := false, narrowed := true }
def ExprRenamesUptoSaid : Prop := exprRenamesUptoRow.holds Try.pinned (OpenSpec.upto exprRenamesSpec)

/-- 'synchronylaw06.ExprSame', WHERE WHAT IT READS IS OF BULK AT MOST 1048576: true; the input reads as it did. -/
def exprSameUptoRow : OpenClaim := { program := "ytfoddappedcplaa", sum := "5c90b4db7b99a2bc91845dff66643438e0f34060e2629f80c7d2490c7dc70e57", func := "synchrony/synchronylaw06.ExprSame", spec := "exprSame", inPlace := ["internal/bytealg.IndexByteString", "internal/bytealg.IndexString"], unfollowed := true, recurses := true, named := ["internal/bytealg.MaxLen"], loops := true, apart := false, narrowed := true }
def ExprSameUptoSaid : Prop := exprSameUptoRow.holds Try.pinned (OpenSpec.upto exprSameSpec)

end Rows
end Go.Proofs.Ytfoddappedcplaa
