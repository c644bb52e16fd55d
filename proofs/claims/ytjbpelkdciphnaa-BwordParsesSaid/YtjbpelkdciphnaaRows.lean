/-
  No cell of these rows narrows 'for every input' (looked for: loops, veiled, ifaces, maps, wideKeys, modest, calm, conditions, laid).
  DERIVED. THE GIVEN ROWS OF THIS SEAT. 9 by the template 'for every input the law returns true; each argument reads behind the call as it read before'; 0 by the template 'total and deterministic' (their statements: YtjbpelkdciphnaaTotals.lean).
  GIVEN WITH THE SEED: the statements are not yours to turn. If you find one false, say at which input.
  Laid BY PROGRAM, IN A SANDBOX (cutbox-rows.mjs): the forced cells as the released guide's own fill.sh prints them over the translation 69949fee32097d46… (all of the seat's roots in one cut). By AI agents, Wed Nov 11 2026. No macro, syntax, notation, axiom, sorry.
-/
import Derived.Test.YtjbpelkdciphnaaChecked
import GoSem.Claim
import GoSem.ClaimJoined
import GoSem.ClaimMapViews
import Derived.JoinedTies
import Derived.KernelRfl
namespace Go.Proofs.Ytjbpelkdciphnaa
/- THE CELL 'sum', in the pinned program and in every row, IS THE sha256 OF THE DUMP (.gsa) THAT YtjbpelkdciphnaaProg.lean LOADS. Nothing in Lean hashes anything: it is a label: what it is worth is what the hold of that sum in a sandbox is worth. -/
noncomputable def Try.pinned : Pinned := { name := "ytjbpelkdciphnaa", sum := "69949fee32097d46e526f85a8d0468990edcc36fb639e90d621d275ecdf1804a", checked := Try.checked }
namespace Rows
def none {H : Type} : Left H := { results := [], args := [] }

/-- 'synchronylaw02.BwordOns': WHATEVER THE INPUT: true; the input reads as it did. -/
def bwordOnsSpec : ChangeSpec := { name := "bwordOns", fn := fun _ => fun
  | [d1, d2] => { results := [.lit (.bool true)], args := [d1, d2] }
  | _ => none }
def bwordOnsRow : OpenClaim := { program := "ytjbpelkdciphnaa", sum := "69949fee32097d46e526f85a8d0468990edcc36fb639e90d621d275ecdf1804a", func := "synchrony/synchronylaw02.BwordOns", spec := "bwordOns", inPlace := ["internal/abi.NoEscape"], unfollowed := true, recurses := true, apart := false }
def BwordOnsSaid : Prop := bwordOnsRow.holds Try.pinned (OpenSpec.ofChange bwordOnsSpec)

/-- ITS FALSE NEIGHBOUR: 'it returns false'. Refute it at one input. -/
def bwordOnsWrong : ChangeSpec := { name := "bwordOns", fn := fun _ => fun
  | [d1, d2] => { results := [.lit (.bool false)], args := [d1, d2] }
  | _ => none }
def BwordOnsWrongFalsely : Prop := bwordOnsRow.holds Try.pinned (OpenSpec.ofChange bwordOnsWrong)

/-- 'synchronylaw02.BwordOnJoins': WHATEVER THE INPUT: true; the input reads as it did. -/
def bwordOnJoinsSpec : ChangeSpec := { name := "bwordOnJoins", fn := fun _ => fun
  | [d1, d2, d3] => { results := [.lit (.bool true)], args := [d1, d2, d3] }
  | _ => none }
def bwordOnJoinsRow : OpenClaim := { program := "ytjbpelkdciphnaa", sum := "69949fee32097d46e526f85a8d0468990edcc36fb639e90d621d275ecdf1804a", func := "synchrony/synchronylaw02.BwordOnJoins", spec := "bwordOnJoins", inPlace := ["internal/abi.NoEscape"], unfollowed := true, recurses := true, apart := false }
def BwordOnJoinsSaid : Prop := bwordOnJoinsRow.holds Try.pinned (OpenSpec.ofChange bwordOnJoinsSpec)

/-- ITS FALSE NEIGHBOUR: 'it returns false'. Refute it at one input. -/
def bwordOnJoinsWrong : ChangeSpec := { name := "bwordOnJoins", fn := fun _ => fun
  | [d1, d2, d3] => { results := [.lit (.bool false)], args := [d1, d2, d3] }
  | _ => none }
def BwordOnJoinsWrongFalsely : Prop := bwordOnJoinsRow.holds Try.pinned (OpenSpec.ofChange bwordOnJoinsWrong)

/-- 'synchronylaw02.BwordLetters': WHATEVER THE INPUT: true; the input reads as it did. -/
def bwordLettersSpec : ChangeSpec := { name := "bwordLetters", fn := fun _ => fun
  | [d1, d2, d3] => { results := [.lit (.bool true)], args := [d1, d2, d3] }
  | _ => none }
def bwordLettersRow : OpenClaim := { program := "ytjbpelkdciphnaa", sum := "69949fee32097d46e526f85a8d0468990edcc36fb639e90d621d275ecdf1804a", func := "synchrony/synchronylaw02.BwordLetters", spec := "bwordLetters", inPlace := ["internal/abi.NoEscape"], unfollowed := true, recurses := true, apart := false }
def BwordLettersSaid : Prop := bwordLettersRow.holds Try.pinned (OpenSpec.ofChange bwordLettersSpec)

/-- ITS FALSE NEIGHBOUR: 'it returns false'. Refute it at one input. -/
def bwordLettersWrong : ChangeSpec := { name := "bwordLetters", fn := fun _ => fun
  | [d1, d2, d3] => { results := [.lit (.bool false)], args := [d1, d2, d3] }
  | _ => none }
def BwordLettersWrongFalsely : Prop := bwordLettersRow.holds Try.pinned (OpenSpec.ofChange bwordLettersWrong)

/-- 'synchronylaw02.BwordNorms': WHATEVER THE INPUT: true; the input reads as it did. -/
def bwordNormsSpec : ChangeSpec := { name := "bwordNorms", fn := fun _ => fun
  | [d] => { results := [.lit (.bool true)], args := [d] }
  | _ => none }
def bwordNormsRow : OpenClaim := { program := "ytjbpelkdciphnaa", sum := "69949fee32097d46e526f85a8d0468990edcc36fb639e90d621d275ecdf1804a", func := "synchrony/synchronylaw02.BwordNorms", spec := "bwordNorms", inPlace := ["internal/abi.NoEscape"], unfollowed := true, recurses := true, apart := false }
def BwordNormsSaid : Prop := bwordNormsRow.holds Try.pinned (OpenSpec.ofChange bwordNormsSpec)

/-- ITS FALSE NEIGHBOUR: 'it returns false'. Refute it at one input. -/
def bwordNormsWrong : ChangeSpec := { name := "bwordNorms", fn := fun _ => fun
  | [d] => { results := [.lit (.bool false)], args := [d] }
  | _ => none }
def BwordNormsWrongFalsely : Prop := bwordNormsRow.holds Try.pinned (OpenSpec.ofChange bwordNormsWrong)

/-- 'synchronylaw02.BwordAnds': WHATEVER THE INPUT: true; the input reads as it did. -/
def bwordAndsSpec : ChangeSpec := { name := "bwordAnds", fn := fun _ => fun
  | [d1, d2] => { results := [.lit (.bool true)], args := [d1, d2] }
  | _ => none }
def bwordAndsRow : OpenClaim := { program := "ytjbpelkdciphnaa", sum := "69949fee32097d46e526f85a8d0468990edcc36fb639e90d621d275ecdf1804a", func := "synchrony/synchronylaw02.BwordAnds", spec := "bwordAnds", inPlace := ["internal/abi.NoEscape"], unfollowed := true, recurses := true, apart := false }
def BwordAndsSaid : Prop := bwordAndsRow.holds Try.pinned (OpenSpec.ofChange bwordAndsSpec)

/-- ITS FALSE NEIGHBOUR: 'it returns false'. Refute it at one input. -/
def bwordAndsWrong : ChangeSpec := { name := "bwordAnds", fn := fun _ => fun
  | [d1, d2] => { results := [.lit (.bool false)], args := [d1, d2] }
  | _ => none }
def BwordAndsWrongFalsely : Prop := bwordAndsRow.holds Try.pinned (OpenSpec.ofChange bwordAndsWrong)

/-- 'synchronylaw02.BwordShifts': WHATEVER THE INPUT: true; the input reads as it did. -/
def bwordShiftsSpec : ChangeSpec := { name := "bwordShifts", fn := fun _ => fun
  | [d1, d2, d3] => { results := [.lit (.bool true)], args := [d1, d2, d3] }
  | _ => none }
def bwordShiftsRow : OpenClaim := { program := "ytjbpelkdciphnaa", sum := "69949fee32097d46e526f85a8d0468990edcc36fb639e90d621d275ecdf1804a", func := "synchrony/synchronylaw02.BwordShifts", spec := "bwordShifts", inPlace := ["internal/abi.NoEscape"], unfollowed := true, recurses := true, apart := false }
def BwordShiftsSaid : Prop := bwordShiftsRow.holds Try.pinned (OpenSpec.ofChange bwordShiftsSpec)

/-- ITS FALSE NEIGHBOUR: 'it returns false'. Refute it at one input. -/
def bwordShiftsWrong : ChangeSpec := { name := "bwordShifts", fn := fun _ => fun
  | [d1, d2, d3] => { results := [.lit (.bool false)], args := [d1, d2, d3] }
  | _ => none }
def BwordShiftsWrongFalsely : Prop := bwordShiftsRow.holds Try.pinned (OpenSpec.ofChange bwordShiftsWrong)

/-- 'synchronylaw02.BwordSames': WHATEVER THE INPUT: true; the input reads as it did. -/
def bwordSamesSpec : ChangeSpec := { name := "bwordSames", fn := fun _ => fun
  | [d1, d2] => { results := [.lit (.bool true)], args := [d1, d2] }
  | _ => none }
def bwordSamesRow : OpenClaim := { program := "ytjbpelkdciphnaa", sum := "69949fee32097d46e526f85a8d0468990edcc36fb639e90d621d275ecdf1804a", func := "synchrony/synchronylaw02.BwordSames", spec := "bwordSames", inPlace := ["internal/abi.NoEscape"], unfollowed := true, recurses := true, apart := false }
def BwordSamesSaid : Prop := bwordSamesRow.holds Try.pinned (OpenSpec.ofChange bwordSamesSpec)

/-- ITS FALSE NEIGHBOUR: 'it returns false'. Refute it at one input. -/
def bwordSamesWrong : ChangeSpec := { name := "bwordSames", fn := fun _ => fun
  | [d1, d2] => { results := [.lit (.bool false)], args := [d1, d2] }
  | _ => none }
def BwordSamesWrongFalsely : Prop := bwordSamesRow.holds Try.pinned (OpenSpec.ofChange bwordSamesWrong)

/-- 'synchronylaw02.BwordTexts': WHATEVER THE INPUT: true; the input reads as it did. -/
def bwordTextsSpec : ChangeSpec := { name := "bwordTexts", fn := fun _ => fun
  | [d] => { results := [.lit (.bool true)], args := [d] }
  | _ => none }
def bwordTextsRow : OpenClaim := { program := "ytjbpelkdciphnaa", sum := "69949fee32097d46e526f85a8d0468990edcc36fb639e90d621d275ecdf1804a", func := "synchrony/synchronylaw02.BwordTexts", spec := "bwordTexts", inPlace := ["internal/abi.NoEscape", "internal/bytealg.IndexByteString", "internal/bytealg.IndexString"], unfollowed := true, recurses := true, named := ["internal/bytealg.MaxLen"], apart := false }
def BwordTextsSaid : Prop := bwordTextsRow.holds Try.pinned (OpenSpec.ofChange bwordTextsSpec)

/-- ITS FALSE NEIGHBOUR: 'it returns false'. Refute it at one input. -/
def bwordTextsWrong : ChangeSpec := { name := "bwordTexts", fn := fun _ => fun
  | [d] => { results := [.lit (.bool false)], args := [d] }
  | _ => none }
def BwordTextsWrongFalsely : Prop := bwordTextsRow.holds Try.pinned (OpenSpec.ofChange bwordTextsWrong)

/-- 'synchronylaw02.BwordParses': WHATEVER THE INPUT: true; the input reads as it did. -/
def bwordParsesSpec : ChangeSpec := { name := "bwordParses", fn := fun _ => fun
  | [d] => { results := [.lit (.bool true)], args := [d] }
  | _ => none }
def bwordParsesRow : OpenClaim := { program := "ytjbpelkdciphnaa", sum := "69949fee32097d46e526f85a8d0468990edcc36fb639e90d621d275ecdf1804a", func := "synchrony/synchronylaw02.BwordParses", spec := "bwordParses", inPlace := ["internal/abi.NoEscape", "internal/bytealg.IndexByteString", "internal/bytealg.IndexString"], unfollowed := true, recurses := true, named := ["internal/bytealg.MaxLen"], apart := false }
def BwordParsesSaid : Prop := bwordParsesRow.holds Try.pinned (OpenSpec.ofChange bwordParsesSpec)

/-- ITS FALSE NEIGHBOUR: 'it returns false'. Refute it at one input. -/
def bwordParsesWrong : ChangeSpec := { name := "bwordParses", fn := fun _ => fun
  | [d] => { results := [.lit (.bool false)], args := [d] }
  | _ => none }
def BwordParsesWrongFalsely : Prop := bwordParsesRow.holds Try.pinned (OpenSpec.ofChange bwordParsesWrong)

/- THE SECOND FORM. 'bulk': how many values and letters a reading holds, each counted each time it is reached (what is shared counts as often as it is met; a slice's spare places count too). A statement '..UptoSaid' is the law's where the arguments, and the package variables that the reading takes, are together of bulk at most 1048576: NARROWER than '..Said'. Prove '..Said' where nothing that the law and all that it calls make is longer than what came in: it says more and counts as full. Else prove '..UptoSaid'. A law counts once. -/
mutual
def uptoBulk {H : Type} : DataW H → Nat
  | .lit (.string bytes) => bytes.length + 1
  | .lit _ => 1
  | .nil => 1
  | .ptr d => uptoBulk d + 1
  | .slice elems spare => uptoBulkAll elems + uptoBulkAll spare + 1
  | .agg parts => uptoBulkAll parts + 1
  | .iface _ d => uptoBulk d + 1
  | .map entries => uptoBulkEntries entries + 1
  | .held _ => 1
def uptoBulkAll {H : Type} : List (DataW H) → Nat
  | [] => 0
  | d :: r => uptoBulk d + uptoBulkAll r
def uptoBulkEntries {H : Type} : List (Lit × DataW H) → Nat
  | [] => 0
  | x :: r => uptoBulkEntry x + uptoBulkEntries r
def uptoBulkEntry {H : Type} : Lit × DataW H → Nat
  | (.string bytes, d) => bytes.length + uptoBulk d + 1
  | (_, d) => uptoBulk d + 1
 end
def uptoSmall : (H : Type) → List (DataW H) → Bool := fun _ ds => decide (uptoBulkAll ds ≤ 1048576)
def OpenSpec.upto (s : _root_.Go.ChangeSpec) : _root_.Go.OpenSpec := { _root_.Go.OpenSpec.ofChange s with cond := some uptoSmall }

/-- 'synchronylaw02.BwordOns', WHERE WHAT IT READS IS OF BULK AT MOST 1048576: true; the input reads as it did. -/
def bwordOnsUptoRow : OpenClaim := { program := "ytjbpelkdciphnaa", sum := "69949fee32097d46e526f85a8d0468990edcc36fb639e90d621d275ecdf1804a", func := "synchrony/synchronylaw02.BwordOns", spec := "bwordOns", inPlace := ["internal/abi.NoEscape"], unfollowed := true, recurses := true, apart := false, narrowed := true }
def BwordOnsUptoSaid : Prop := bwordOnsUptoRow.holds Try.pinned (OpenSpec.upto bwordOnsSpec)

/-- 'synchronylaw02.BwordOnJoins', WHERE WHAT IT READS IS OF BULK AT MOST 1048576: true; the input reads as it did. -/
def bwordOnJoinsUptoRow : OpenClaim := { program := "ytjbpelkdciphnaa", sum := "69949fee32097d46e526f85a8d0468990edcc36fb639e90d621d275ecdf1804a", func := "synchrony/synchronylaw02.BwordOnJoins", spec := "bwordOnJoins", inPlace := ["internal/abi.NoEscape"], unfollowed := true, recurses := true, apart := false, narrowed := true }
def BwordOnJoinsUptoSaid : Prop := bwordOnJoinsUptoRow.holds Try.pinned (OpenSpec.upto bwordOnJoinsSpec)

/-- 'synchronylaw02.BwordLetters', WHERE WHAT IT READS IS OF BULK AT MOST 1048576: true; the input reads as it did. -/
def bwordLettersUptoRow : OpenClaim := { program := "ytjbpelkdciphnaa", sum := "69949fee32097d46e526f85a8d0468990edcc36fb639e90d621d275ecdf1804a", func := "synchrony/synchronylaw02.BwordLetters", spec := "bwordLetters", inPlace := ["internal/abi.NoEscape"], unfollowed := true, recurses := true, apart := false, narrowed := true }
def BwordLettersUptoSaid : Prop := bwordLettersUptoRow.holds Try.pinned (OpenSpec.upto bwordLettersSpec)

/-- 'synchronylaw02.BwordNorms', WHERE WHAT IT READS IS OF BULK AT MOST 1048576: true; the input reads as it did. -/
def bwordNormsUptoRow : OpenClaim := { program := "ytjbpelkdciphnaa", sum := "69949fee32097d46e526f85a8d0468990edcc36fb639e90d621d275ecdf1804a", func := "synchrony/synchronylaw02.BwordNorms", spec := "bwordNorms", inPlace := ["internal/abi.NoEscape"], unfollowed := true, recurses := true, apart := false, narrowed := true }
def BwordNormsUptoSaid : Prop := bwordNormsUptoRow.holds Try.pinned (OpenSpec.upto bwordNormsSpec)

/-- 'synchronylaw02.BwordAnds', WHERE WHAT IT READS IS OF BULK AT MOST 1048576: true; the input reads as it did. -/
def bwordAndsUptoRow : OpenClaim := { program := "ytjbpelkdciphnaa", sum := "69949fee32097d46e526f85a8d0468990edcc36fb639e90d621d275ecdf1804a", func := "synchrony/synchronylaw02.BwordAnds", spec := "bwordAnds", inPlace := ["internal/abi.NoEscape"], unfollowed := true, recurses := true, apart := false, narrowed := true }
def BwordAndsUptoSaid : Prop := bwordAndsUptoRow.holds Try.pinned (OpenSpec.upto bwordAndsSpec)

/-- 'synchronylaw02.BwordShifts', WHERE WHAT IT READS IS OF BULK AT MOST 1048576: true; the input reads as it did. -/
def bwordShiftsUptoRow : OpenClaim := { program := "ytjbpelkdciphnaa", sum := "69949fee32097d46e526f85a8d0468990edcc36fb639e90d621d275ecdf1804a", func := "synchrony/synchronylaw02.BwordShifts", spec := "bwordShifts", inPlace := ["internal/abi.NoEscape"], unfollowed := true, recurses := true, apart := false, narrowed := true }
def BwordShiftsUptoSaid : Prop := bwordShiftsUptoRow.holds Try.pinned (OpenSpec.upto bwordShiftsSpec)

/-- 'synchronylaw02.BwordSames', WHERE WHAT IT READS IS OF BULK AT MOST 1048576: true; the input reads as it did. -/
def bwordSamesUptoRow : OpenClaim := { program := "ytjbpelkdciphnaa", sum := "69949fee32097d46e526f85a8d0468990edcc36fb639e90d621d275ecdf1804a", func := "synchrony/synchronylaw02.BwordSames", spec := "bwordSames", inPlace := ["internal/abi.NoEscape"], unfollowed := true, recurses := true, apart := false, narrowed := true }
def BwordSamesUptoSaid : Prop := bwordSamesUptoRow.holds Try.pinned (OpenSpec.upto bwordSamesSpec)

/-- 'synchronylaw02.BwordTexts', WHERE WHAT IT READS IS OF BULK AT MOST 1048576: true; the input reads as it did. -/
def bwordTextsUptoRow : OpenClaim := { program := "ytjbpelkdciphnaa", sum := "69949fee32097d46e526f85a8d0468990edcc36fb639e90d621d275ecdf1804a", func := "synchrony/synchronylaw02.BwordTexts", spec := "bwordTexts", inPlace := ["internal/abi.NoEscape", "internal/bytealg.IndexByteString", "internal/bytealg.IndexString"], unfollowed := true, recurses := true, named := ["internal/bytealg.MaxLen"], apart := false, narrowed := true }
def BwordTextsUptoSaid : Prop := bwordTextsUptoRow.holds Try.pinned (OpenSpec.upto bwordTextsSpec)

/-- 'synchronylaw02.BwordParses', WHERE WHAT IT READS IS OF BULK AT MOST 1048576: true; the input reads as it did. -/
def bwordParsesUptoRow : OpenClaim := { program := "ytjbpelkdciphnaa", sum := "69949fee32097d46e526f85a8d0468990edcc36fb639e90d621d275ecdf1804a", func := "synchrony/synchronylaw02.BwordParses", spec := "bwordParses", inPlace := ["internal/abi.NoEscape", "internal/bytealg.IndexByteString", "internal/bytealg.IndexString"], unfollowed := true, recurses := true, named := ["internal/bytealg.MaxLen"], apart := false, narrowed := true }
def BwordParsesUptoSaid : Prop := bwordParsesUptoRow.holds Try.pinned (OpenSpec.upto bwordParsesSpec)

end Rows
end Go.Proofs.Ytjbpelkdciphnaa
