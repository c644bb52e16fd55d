/-
  NARROWER THAN 'FOR EVERY INPUT', by the rows' own cells (each row's printed sentence says how): ImageGets: laid · ImageSums: laid · ImageFlips: laid · ImageEnds: laid · ImagePuts: laid.
  DERIVED. THE GIVEN ROWS OF THIS SEAT. 5 by the template 'for every input the law returns true; each argument reads behind the call as it read before'; 0 by the template 'total and deterministic' (their statements: YtgmojjdojcmnaaaDoorTotals.lean).
  GIVEN WITH THE SEED: the statements are not yours to turn. If you find one false, say at which input.
  Laid BY PROGRAM, IN A SANDBOX (cutbox-rows.mjs): the forced cells as the released guide's own fill.sh prints them over the translation 26dc65955bec30ab… (all of the seat's roots in one cut). By AI agents, Wed Nov 11 2026. No macro, syntax, notation, axiom, sorry.
-/
import Derived.Test.YtgmojjdojcmnaaaDoorChecked
import GoSem.Claim
import GoSem.ClaimJoined
import GoSem.ClaimMapViews
import Derived.JoinedTies
import Derived.KernelRfl
namespace Go.Proofs.YtgmojjdojcmnaaaDoor
/- THE CELL 'sum', in the pinned program and in every row, IS THE sha256 OF THE DUMP (.gsa) THAT YtgmojjdojcmnaaaDoorProg.lean LOADS. Nothing in Lean hashes anything: it is a label: what it is worth is what the hold of that sum in a sandbox is worth. -/
noncomputable def Tryd.pinned : Pinned := { name := "ytgmojjdojcmnaaadoor", sum := "26dc65955bec30ab1223a3fe907d98ed5beccaee5a2463af70affe1c8fa7c180", checked := Tryd.checked }
namespace Rows
def none {H : Type} : Left H := { results := [], args := [] }

/- WHAT THE LISTED PACKAGE-LEVEL VARIABLES READ AS WHEN THE CALL BEGINS. Each datum BY PROGRAM (the guide's laid-datum.mjs) off the statement by which the dump's own 'gosem.cut.vars' lays the variable. In a bare row this is a premise. The card (YtgmojjdojcmnaaaDoorCards.lean) ties it to the program's text. -/
def laid_synchrony_asm_operations {H : Type} : DataW H := .agg [.agg [.lit (.string []), .agg [.lit (.int .i64 0), .lit (.int .i64 0), .lit (.int .i64 0), .lit (.int .i64 0)], .lit (.int .i64 0)], .agg [.lit (.string [108, 111, 97, 100]), .agg [.lit (.int .i64 1), .lit (.int .i64 3), .lit (.int .i64 0), .lit (.int .i64 0)], .lit (.int .i64 0)], .agg [.lit (.string [109, 111, 118, 101]), .agg [.lit (.int .i64 1), .lit (.int .i64 1), .lit (.int .i64 0), .lit (.int .i64 0)], .lit (.int .i64 0)], .agg [.lit (.string [114, 101, 97, 100]), .agg [.lit (.int .i64 1), .lit (.int .i64 2), .lit (.int .i64 0), .lit (.int .i64 0)], .lit (.int .i64 0)], .agg [.lit (.string [119, 114, 105, 116, 101]), .agg [.lit (.int .i64 2), .lit (.int .i64 1), .lit (.int .i64 0), .lit (.int .i64 0)], .lit (.int .i64 0)], .agg [.lit (.string [117, 110, 97, 114, 121]), .agg [.lit (.int .i64 1), .lit (.int .i64 1), .lit (.int .i64 5), .lit (.int .i64 0)], .lit (.int .i64 1)], .agg [.lit (.string [97, 112, 112, 108, 121]), .agg [.lit (.int .i64 1), .lit (.int .i64 1), .lit (.int .i64 1), .lit (.int .i64 5)], .lit (.int .i64 2)], .agg [.lit (.string [106, 117, 109, 112]), .agg [.lit (.int .i64 0), .lit (.int .i64 4), .lit (.int .i64 0), .lit (.int .i64 0)], .lit (.int .i64 0)], .agg [.lit (.string [122, 101, 114, 111]), .agg [.lit (.int .i64 1), .lit (.int .i64 4), .lit (.int .i64 0), .lit (.int .i64 0)], .lit (.int .i64 0)], .agg [.lit (.string [99, 97, 108, 108]), .agg [.lit (.int .i64 6), .lit (.int .i64 7), .lit (.int .i64 8), .lit (.int .i64 9)], .lit (.int .i64 0)], .agg [.lit (.string [114, 101, 115, 101, 116]), .agg [.lit (.int .i64 6), .lit (.int .i64 7), .lit (.int .i64 0), .lit (.int .i64 0)], .lit (.int .i64 0)]]

/-- 'synchronylaw29.ImageGets': WHATEVER THE INPUT: true; the input reads as it did. -/
def imageGetsSpec : ChangeSpec := { name := "imageGets", fn := fun _ => fun
  | [d1, d2] => { results := [.lit (.bool true)], args := [d1, d2] }
  | _ => none }
def imageGetsRow : OpenClaim := { program := "ytgmojjdojcmnaaadoor", sum := "26dc65955bec30ab1223a3fe907d98ed5beccaee5a2463af70affe1c8fa7c180", func := "synchrony/synchronylaw29.ImageGets", spec := "imageGets", unfollowed := true, recurses := true, named := ["synchrony/asm.operations"], apart := false, laid := [("synchrony/asm.operations", laid_synchrony_asm_operations)] }
def ImageGetsSaid : Prop := imageGetsRow.holds Tryd.pinned (OpenSpec.ofChange imageGetsSpec)

/-- ITS FALSE NEIGHBOUR: 'it returns false'. Refute it at one input. -/
def imageGetsWrong : ChangeSpec := { name := "imageGets", fn := fun _ => fun
  | [d1, d2] => { results := [.lit (.bool false)], args := [d1, d2] }
  | _ => none }
def ImageGetsWrongFalsely : Prop := imageGetsRow.holds Tryd.pinned (OpenSpec.ofChange imageGetsWrong)

/-- 'synchronylaw29.ImageSums': WHATEVER THE INPUT: true; the input reads as it did. -/
def imageSumsSpec : ChangeSpec := { name := "imageSums", fn := fun _ => fun
  | [d1, d2, d3] => { results := [.lit (.bool true)], args := [d1, d2, d3] }
  | _ => none }
def imageSumsRow : OpenClaim := { program := "ytgmojjdojcmnaaadoor", sum := "26dc65955bec30ab1223a3fe907d98ed5beccaee5a2463af70affe1c8fa7c180", func := "synchrony/synchronylaw29.ImageSums", spec := "imageSums", unfollowed := true, recurses := true, named := ["synchrony/asm.operations"], apart := false, laid := [("synchrony/asm.operations", laid_synchrony_asm_operations)] }
def ImageSumsSaid : Prop := imageSumsRow.holds Tryd.pinned (OpenSpec.ofChange imageSumsSpec)

/-- ITS FALSE NEIGHBOUR: 'it returns false'. Refute it at one input. -/
def imageSumsWrong : ChangeSpec := { name := "imageSums", fn := fun _ => fun
  | [d1, d2, d3] => { results := [.lit (.bool false)], args := [d1, d2, d3] }
  | _ => none }
def ImageSumsWrongFalsely : Prop := imageSumsRow.holds Tryd.pinned (OpenSpec.ofChange imageSumsWrong)

/-- 'synchronylaw29.ImageFlips': WHATEVER THE INPUT: true; the input reads as it did. -/
def imageFlipsSpec : ChangeSpec := { name := "imageFlips", fn := fun _ => fun
  | [d1, d2, d3] => { results := [.lit (.bool true)], args := [d1, d2, d3] }
  | _ => none }
def imageFlipsRow : OpenClaim := { program := "ytgmojjdojcmnaaadoor", sum := "26dc65955bec30ab1223a3fe907d98ed5beccaee5a2463af70affe1c8fa7c180", func := "synchrony/synchronylaw29.ImageFlips", spec := "imageFlips", unfollowed := true, recurses := true, named := ["synchrony/asm.operations"], apart := false, laid := [("synchrony/asm.operations", laid_synchrony_asm_operations)] }
def ImageFlipsSaid : Prop := imageFlipsRow.holds Tryd.pinned (OpenSpec.ofChange imageFlipsSpec)

/-- ITS FALSE NEIGHBOUR: 'it returns false'. Refute it at one input. -/
def imageFlipsWrong : ChangeSpec := { name := "imageFlips", fn := fun _ => fun
  | [d1, d2, d3] => { results := [.lit (.bool false)], args := [d1, d2, d3] }
  | _ => none }
def ImageFlipsWrongFalsely : Prop := imageFlipsRow.holds Tryd.pinned (OpenSpec.ofChange imageFlipsWrong)

/-- 'synchronylaw29.ImageEnds': WHATEVER THE INPUT: true; the input reads as it did. -/
def imageEndsSpec : ChangeSpec := { name := "imageEnds", fn := fun _ => fun
  | [d1, d2, d3] => { results := [.lit (.bool true)], args := [d1, d2, d3] }
  | _ => none }
def imageEndsRow : OpenClaim := { program := "ytgmojjdojcmnaaadoor", sum := "26dc65955bec30ab1223a3fe907d98ed5beccaee5a2463af70affe1c8fa7c180", func := "synchrony/synchronylaw29.ImageEnds", spec := "imageEnds", unfollowed := true, recurses := true, named := ["synchrony/asm.operations"], apart := false, laid := [("synchrony/asm.operations", laid_synchrony_asm_operations)] }
def ImageEndsSaid : Prop := imageEndsRow.holds Tryd.pinned (OpenSpec.ofChange imageEndsSpec)

/-- ITS FALSE NEIGHBOUR: 'it returns false'. Refute it at one input. -/
def imageEndsWrong : ChangeSpec := { name := "imageEnds", fn := fun _ => fun
  | [d1, d2, d3] => { results := [.lit (.bool false)], args := [d1, d2, d3] }
  | _ => none }
def ImageEndsWrongFalsely : Prop := imageEndsRow.holds Tryd.pinned (OpenSpec.ofChange imageEndsWrong)

/-- 'synchronylaw29.ImagePuts': WHATEVER THE INPUT: true; the input reads as it did. -/
def imagePutsSpec : ChangeSpec := { name := "imagePuts", fn := fun _ => fun
  | [d] => { results := [.lit (.bool true)], args := [d] }
  | _ => none }
def imagePutsRow : OpenClaim := { program := "ytgmojjdojcmnaaadoor", sum := "26dc65955bec30ab1223a3fe907d98ed5beccaee5a2463af70affe1c8fa7c180", func := "synchrony/synchronylaw29.ImagePuts", spec := "imagePuts", unfollowed := true, recurses := true, named := ["synchrony/asm.operations"], apart := false, laid := [("synchrony/asm.operations", laid_synchrony_asm_operations)] }
def ImagePutsSaid : Prop := imagePutsRow.holds Tryd.pinned (OpenSpec.ofChange imagePutsSpec)

/-- ITS FALSE NEIGHBOUR: 'it returns false'. Refute it at one input. -/
def imagePutsWrong : ChangeSpec := { name := "imagePuts", fn := fun _ => fun
  | [d] => { results := [.lit (.bool false)], args := [d] }
  | _ => none }
def ImagePutsWrongFalsely : Prop := imagePutsRow.holds Tryd.pinned (OpenSpec.ofChange imagePutsWrong)

/- THE SECOND FORM. 'bulk': how many values and letters a reading holds, each counted each time it is reached (what is shared counts as often as it is met; a slice's spare places count too). A statement '..UptoSaid' is the law's where the arguments, and the package variables that the reading takes, are together of bulk at most 1048576: NARROWER than '..Said'. Prove '..Said' where nothing that the law and all that it calls make is longer than what came in: it says more and counts as full. Else prove '..UptoSaid'. A law counts once. -/
mutual
def uptoBulk {H : Type} : DataW H → Nat
  | .lit (.string bytes) => bytes.length + 1
  | .lit _ => 1
  | .nil => 1
  | .ptr d => uptoBulk d + 1
  | .slice elems spare => uptoBulkAll elems + uptoBulkAll spare + 1
  | .agg parts => uptoBulkAll parts + 1
  | .iface _ d => uptoBulk d + 1
  | .map entries => uptoBulkEntries entries + 1
  | .held _ => 1
def uptoBulkAll {H : Type} : List (DataW H) → Nat
  | [] => 0
  | d :: r => uptoBulk d + uptoBulkAll r
def uptoBulkEntries {H : Type} : List (Lit × DataW H) → Nat
  | [] => 0
  | x :: r => uptoBulkEntry x + uptoBulkEntries r
def uptoBulkEntry {H : Type} : Lit × DataW H → Nat
  | (.string bytes, d) => bytes.length + uptoBulk d + 1
  | (_, d) => uptoBulk d + 1
 end
def uptoSmall : (H : Type) → List (DataW H) → Bool := fun _ ds => decide (uptoBulkAll ds ≤ 1048576)
def OpenSpec.upto (s : _root_.Go.ChangeSpec) : _root_.Go.OpenSpec := { _root_.Go.OpenSpec.ofChange s with cond := some uptoSmall }

/-- 'synchronylaw29.ImageGets', WHERE WHAT IT READS IS OF BULK AT MOST 1048576: true; the input reads as it did. -/
def imageGetsUptoRow : OpenClaim := { program := "ytgmojjdojcmnaaadoor", sum := "26dc65955bec30ab1223a3fe907d98ed5beccaee5a2463af70affe1c8fa7c180", func := "synchrony/synchronylaw29.ImageGets", spec := "imageGets", unfollowed := true, recurses := true, named := ["synchrony/asm.operations"], apart := false, laid := [("synchrony/asm.operations", laid_synchrony_asm_operations)], narrowed := true }
def ImageGetsUptoSaid : Prop := imageGetsUptoRow.holds Tryd.pinned (OpenSpec.upto imageGetsSpec)

/-- 'synchronylaw29.ImageSums', WHERE WHAT IT READS IS OF BULK AT MOST 1048576: true; the input reads as it did. -/
def imageSumsUptoRow : OpenClaim := { program := "ytgmojjdojcmnaaadoor", sum := "26dc65955bec30ab1223a3fe907d98ed5beccaee5a2463af70affe1c8fa7c180", func := "synchrony/synchronylaw29.ImageSums", spec := "imageSums", unfollowed := true, recurses := true, named := ["synchrony/asm.operations"], apart := false, laid := [("synchrony/asm.operations", laid_synchrony_asm_operations)], narrowed := true }
def ImageSumsUptoSaid : Prop := imageSumsUptoRow.holds Tryd.pinned (OpenSpec.upto imageSumsSpec)

/-- 'synchronylaw29.ImageFlips', WHERE WHAT IT READS IS OF BULK AT MOST 1048576: true; the input reads as it did. -/
def imageFlipsUptoRow : OpenClaim := { program := "ytgmojjdojcmnaaadoor", sum := "26dc65955bec30ab1223a3fe907d98ed5beccaee5a2463af70affe1c8fa7c180", func := "synchrony/synchronylaw29.ImageFlips", spec := "imageFlips", unfollowed := true, recurses := true, named := ["synchrony/asm.operations"], apart := false, laid := [("synchrony/asm.operations", laid_synchrony_asm_operations)], narrowed := true }
def ImageFlipsUptoSaid : Prop := imageFlipsUptoRow.holds Tryd.pinned (OpenSpec.upto imageFlipsSpec)

/-- 'synchronylaw29.ImageEnds', WHERE WHAT IT READS IS OF BULK AT MOST 1048576: true; the input reads as it did. -/
def imageEndsUptoRow : OpenClaim := { program := "ytgmojjdojcmnaaadoor", sum := "26dc65955bec30ab1223a3fe907d98ed5beccaee5a2463af70affe1c8fa7c180", func := "synchrony/synchronylaw29.ImageEnds", spec := "imageEnds", unfollowed := true, recurses := true, named := ["synchrony/asm.operations"], apart := false, laid := [("synchrony/asm.operations", laid_synchrony_asm_operations)], narrowed := true }
def ImageEndsUptoSaid : Prop := imageEndsUptoRow.holds Tryd.pinned (OpenSpec.upto imageEndsSpec)

/-- 'synchronylaw29.ImagePuts', WHERE WHAT IT READS IS OF BULK AT MOST 1048576: true; the input reads as it did. -/
def imagePutsUptoRow : OpenClaim := { program := "ytgmojjdojcmnaaadoor", sum := "26dc65955bec30ab1223a3fe907d98ed5beccaee5a2463af70affe1c8fa7c180", func := "synchrony/synchronylaw29.ImagePuts", spec := "imagePuts", unfollowed := true, recurses := true, named := ["synchrony/asm.operations"], apart := false, laid := [("synchrony/asm.operations", laid_synchrony_asm_operations)], narrowed := true }
def ImagePutsUptoSaid : Prop := imagePutsUptoRow.holds Tryd.pinned (OpenSpec.upto imagePutsSpec)

end Rows
end Go.Proofs.YtgmojjdojcmnaaaDoor
