/-
  NARROWER THAN 'FOR EVERY INPUT', by the rows' own cells (each row's printed sentence says how): ShapeExprs: loops · ShapeSames: loops · ShapeLess: loops · ShapeInside: loops.
  DERIVED. THE GIVEN ROWS OF THIS SEAT. 5 by the template 'for every input the law returns true; each argument reads behind the call as it read before'; 0 by the template 'total and deterministic' (their statements: YtdghfhnkacfahaaTotals.lean).
  GIVEN WITH THE SEED: the statements are not yours to turn. If you find one false, say at which input.
  Laid BY PROGRAM, IN A SANDBOX (cutbox-rows.mjs): the forced cells as the released guide's own fill.sh prints them over the translation 7962fbd45536bcba… (all of the seat's roots in one cut). By AI agents, Wed Nov 11 2026. No macro, syntax, notation, axiom, sorry.
-/
import Derived.Test.YtdghfhnkacfahaaChecked
import GoSem.Claim
import GoSem.ClaimJoined
import GoSem.ClaimMapViews
import Derived.JoinedTies
import Derived.KernelRfl
namespace Go.Proofs.Ytdghfhnkacfahaa
/- THE CELL 'sum', in the pinned program and in every row, IS THE sha256 OF THE DUMP (.gsa) THAT YtdghfhnkacfahaaProg.lean LOADS. Nothing in Lean hashes anything: it is a label: what it is worth is what the hold of that sum in a sandbox is worth. -/
noncomputable def Try.pinned : Pinned := { name := "ytdghfhnkacfahaa", sum := "7962fbd45536bcba2358d935ad3f687ab75e4e40c5ea56afdf3bc5ef7054e196", checked := Try.checked }
namespace Rows
def none {H : Type} : Left H := { results := [], args := [] }

/-- 'synchronylaw07.ShapeExprs': WHATEVER THE INPUT: true; the input reads as it did. -/
def shapeExprsSpec : ChangeSpec := { name := "shapeExprs", fn := fun _ => fun
  | [d1, d2] => { results := [.lit (.bool true)], args := [d1, d2] }
  | _ => none }
def shapeExprsRow : OpenClaim := { program := "ytdghfhnkacfahaa", sum := "7962fbd45536bcba2358d935ad3f687ab75e4e40c5ea56afdf3bc5ef7054e196", func := "synchrony/synchronylaw07.ShapeExprs", spec := "shapeExprs", inPlace := ["internal/bytealg.IndexByteString", "internal/bytealg.IndexString"], unfollowed := true, recurses := true, named := ["internal/bytealg.MaxLen"], loops := true, apart := false }
def ShapeExprsSaid : Prop := shapeExprsRow.holds Try.pinned (OpenSpec.ofChange shapeExprsSpec)

/-- ITS FALSE NEIGHBOUR: 'it returns false'. Refute it at one input. -/
def shapeExprsWrong : ChangeSpec := { name := "shapeExprs", fn := fun _ => fun
  | [d1, d2] => { results := [.lit (.bool false)], args := [d1, d2] }
  | _ => none }
def ShapeExprsWrongFalsely : Prop := shapeExprsRow.holds Try.pinned (OpenSpec.ofChange shapeExprsWrong)

/-- 'synchronylaw07.ShapeSames': WHATEVER THE INPUT: true; the input reads as it did. -/
def shapeSamesSpec : ChangeSpec := { name := "shapeSames", fn := fun _ => fun
  | [d1, d2] => { results := [.lit (.bool true)], args := [d1, d2] }
  | _ => none }
def shapeSamesRow : OpenClaim := { program := "ytdghfhnkacfahaa", sum := "7962fbd45536bcba2358d935ad3f687ab75e4e40c5ea56afdf3bc5ef7054e196", func := "synchrony/synchronylaw07.ShapeSames", spec := "shapeSames", inPlace := ["internal/bytealg.IndexByteString", "internal/bytealg.IndexString"], unfollowed := true, recurses := true, named := ["internal/bytealg.MaxLen"], loops := true, apart := false }
def ShapeSamesSaid : Prop := shapeSamesRow.holds Try.pinned (OpenSpec.ofChange shapeSamesSpec)

/-- ITS FALSE NEIGHBOUR: 'it returns false'. Refute it at one input. -/
def shapeSamesWrong : ChangeSpec := { name := "shapeSames", fn := fun _ => fun
  | [d1, d2] => { results := [.lit (.bool false)], args := [d1, d2] }
  | _ => none }
def ShapeSamesWrongFalsely : Prop := shapeSamesRow.holds Try.pinned (OpenSpec.ofChange shapeSamesWrong)

/-- 'synchronylaw07.ShapeLess': WHATEVER THE INPUT: true; the input reads as it did. -/
def shapeLessSpec : ChangeSpec := { name := "shapeLess", fn := fun _ => fun
  | [d1, d2] => { results := [.lit (.bool true)], args := [d1, d2] }
  | _ => none }
def shapeLessRow : OpenClaim := { program := "ytdghfhnkacfahaa", sum := "7962fbd45536bcba2358d935ad3f687ab75e4e40c5ea56afdf3bc5ef7054e196", func := "synchrony/synchronylaw07.ShapeLess", spec := "shapeLess", inPlace := ["internal/bytealg.IndexByteString", "internal/bytealg.IndexString"], unfollowed := true, recurses := true, named := ["internal/bytealg.MaxLen"], loops := true, apart := false }
def ShapeLessSaid : Prop := shapeLessRow.holds Try.pinned (OpenSpec.ofChange shapeLessSpec)

/-- ITS FALSE NEIGHBOUR: 'it returns false'. Refute it at one input. -/
def shapeLessWrong : ChangeSpec := { name := "shapeLess", fn := fun _ => fun
  | [d1, d2] => { results := [.lit (.bool false)], args := [d1, d2] }
  | _ => none }
def ShapeLessWrongFalsely : Prop := shapeLessRow.holds Try.pinned (OpenSpec.ofChange shapeLessWrong)

/-- 'synchronylaw07.ShapeLimits': WHATEVER THE INPUT: true; the input reads as it did. -/
def shapeLimitsSpec : ChangeSpec := { name := "shapeLimits", fn := fun _ => fun
  | [d1, d2] => { results := [.lit (.bool true)], args := [d1, d2] }
  | _ => none }
def shapeLimitsRow : OpenClaim := { program := "ytdghfhnkacfahaa", sum := "7962fbd45536bcba2358d935ad3f687ab75e4e40c5ea56afdf3bc5ef7054e196", func := "synchrony/synchronylaw07.ShapeLimits", spec := "shapeLimits", inPlace := ["internal/bytealg.IndexByteString", "internal/bytealg.IndexString"], unfollowed := true, recurses := true, named := ["internal/bytealg.MaxLen"], apart := false }
def ShapeLimitsSaid : Prop := shapeLimitsRow.holds Try.pinned (OpenSpec.ofChange shapeLimitsSpec)

/-- ITS FALSE NEIGHBOUR: 'it returns false'. Refute it at one input. -/
def shapeLimitsWrong : ChangeSpec := { name := "shapeLimits", fn := fun _ => fun
  | [d1, d2] => { results := [.lit (.bool false)], args := [d1, d2] }
  | _ => none }
def ShapeLimitsWrongFalsely : Prop := shapeLimitsRow.holds Try.pinned (OpenSpec.ofChange shapeLimitsWrong)

/-- 'synchronylaw07.ShapeInside': WHATEVER THE INPUT: true; the input reads as it did. -/
def shapeInsideSpec : ChangeSpec := { name := "shapeInside", fn := fun _ => fun
  | [d1, d2] => { results := [.lit (.bool true)], args := [d1, d2] }
  | _ => none }
def shapeInsideRow : OpenClaim := { program := "ytdghfhnkacfahaa", sum := "7962fbd45536bcba2358d935ad3f687ab75e4e40c5ea56afdf3bc5ef7054e196", func := "synchrony/synchronylaw07.ShapeInside", spec := "shapeInside", inPlace := ["internal/bytealg.IndexByteString", "internal/bytealg.IndexString"], unfollowed := true, recurses := true, named := ["internal/bytealg.MaxLen"], loops := true, apart := false }
def ShapeInsideSaid : Prop := shapeInsideRow.holds Try.pinned (OpenSpec.ofChange shapeInsideSpec)

/-- ITS FALSE NEIGHBOUR: 'it returns false'. Refute it at one input. -/
def shapeInsideWrong : ChangeSpec := { name := "shapeInside", fn := fun _ => fun
  | [d1, d2] => { results := [.lit (.bool false)], args := [d1, d2] }
  | _ => none }
def ShapeInsideWrongFalsely : Prop := shapeInsideRow.holds Try.pinned (OpenSpec.ofChange shapeInsideWrong)

/- THE SECOND FORM. 'bulk': how many values and letters a reading holds, each counted each time it is reached (what is shared counts as often as it is met; a slice's spare places count too). A statement '..UptoSaid' is the law's where the arguments, and the package variables that the reading takes, are together of bulk at most 1048576: NARROWER than '..Said'. Prove '..Said' where nothing that the law and all that it calls make is longer than what came in: it says more and counts as full. Else prove '..UptoSaid'. A law counts once. -/
mutual
def uptoBulk {H : Type} : DataW H → Nat
  | .lit (.string bytes) => bytes.length + 1
  | .lit _ => 1
  | .nil => 1
  | .ptr d => uptoBulk d + 1
  | .slice elems spare => uptoBulkAll elems + uptoBulkAll spare + 1
  | .agg parts => uptoBulkAll parts + 1
  | .iface _ d => uptoBulk d + 1
  | .map entries => uptoBulkEntries entries + 1
  | .held _ => 1
def uptoBulkAll {H : Type} : List (DataW H) → Nat
  | [] => 0
  | d :: r => uptoBulk d + uptoBulkAll r
def uptoBulkEntries {H : Type} : List (Lit × DataW H) → Nat
  | [] => 0
  | x :: r => uptoBulkEntry x + uptoBulkEntries r
def uptoBulkEntry {H : Type} : Lit × DataW H → Nat
  | (.string bytes, d) => bytes.length + uptoBulk d + 1
  | (_, d) => uptoBulk d + 1
 end
def uptoSmall : (H : Type) → List (DataW H) → Bool := fun _ ds => decide (uptoBulkAll ds ≤ 1048576)
def OpenSpec.upto (s : _root_.Go.ChangeSpec) : _root_.Go.OpenSpec := { _root_.Go.OpenSpec.ofChange s with cond := some uptoSmall }

/-- 'synchronylaw07.ShapeExprs', WHERE WHAT IT READS IS OF BULK AT MOST 1048576: true; the input reads as it did. -/
def shapeExprsUptoRow : OpenClaim := { program := "ytdghfhnkacfahaa", sum := "7962fbd45536bcba2358d935ad3f687ab75e4e40c5ea56afdf3bc5ef7054e196", func := "synchrony/synchronylaw07.ShapeExprs", spec := "shapeExprs", inPlace := ["internal/bytealg.IndexByteString", "internal/bytealg.IndexString"], unfollowed := true, recurses := true, named := ["internal/bytealg.MaxLen"], loops := true, apart := false, narrowed := true }
def ShapeExprsUptoSaid : Prop := shapeExprsUptoRow.holds Try.pinned (OpenSpec.upto shapeExprsSpec)

/-- 'synchronylaw07.ShapeSames', WHERE WHAT IT READS IS OF BULK AT MOST 1048576: true; the input reads as it did. -/
def shapeSamesUptoRow : OpenClaim := { program := "ytdghfhnkacfahaa", sum := "7962fbd45536bcba2358d935ad3f687ab75e4e40c5ea56afdf3bc5ef7054e196", func := "synchrony/synchronylaw07.ShapeSames", spec := "shapeSames", inPlace := ["internal/bytealg.IndexByteString", "internal/bytealg.IndexString"], unfollowed := true, recurses := true, named := ["internal/bytealg.MaxLen"], loops := true, apart := false, narrowed := true }
def ShapeSamesUptoSaid : Prop := shapeSamesUptoRow.holds Try.pinned (OpenSpec.upto shapeSamesSpec)

/-- 'synchronylaw07.ShapeLess', WHERE WHAT IT READS IS OF BULK AT MOST 1048576: true; the input reads as it did. -/
def shapeLessUptoRow : OpenClaim := { program := "ytdghfhnkacfahaa", sum := "7962fbd45536bcba2358d935ad3f687ab75e4e40c5ea56afdf3bc5ef7054e196", func := "synchrony/synchronylaw07.ShapeLess", spec := "shapeLess", inPlace := ["internal/bytealg.IndexByteString", "internal/bytealg.IndexString"], unfollowed := true, recurses := true, named := ["internal/bytealg.MaxLen"], loops := true, apart := false, narrowed := true }
def ShapeLessUptoSaid : Prop := shapeLessUptoRow.holds Try.pinned (OpenSpec.upto shapeLessSpec)

/-- 'synchronylaw07.ShapeLimits', WHERE WHAT IT READS IS OF BULK AT MOST 1048576: true; the input reads as it did. -/
def shapeLimitsUptoRow : OpenClaim := { program := "ytdghfhnkacfahaa", sum := "7962fbd45536bcba2358d935ad3f687ab75e4e40c5ea56afdf3bc5ef7054e196", func := "synchrony/synchronylaw07.ShapeLimits", spec := "shapeLimits", inPlace := ["internal/bytealg.IndexByteString", "internal/bytealg.IndexString"], unfollowed := true, recurses := true, named := ["internal/bytealg.MaxLen"], apart := false, narrowed := true }
def ShapeLimitsUptoSaid : Prop := shapeLimitsUptoRow.holds Try.pinned (OpenSpec.upto shapeLimitsSpec)

/-- 'synchronylaw07.ShapeInside', WHERE WHAT IT READS IS OF BULK AT MOST 1048576: true; the input reads as it did. -/
def shapeInsideUptoRow : OpenClaim := { program := "ytdghfhnkacfahaa", sum := "7962fbd45536bcba2358d935ad3f687ab75e4e40c5ea56afdf3bc5ef7054e196", func := "synchrony/synchronylaw07.ShapeInside", spec := "shapeInside", inPlace := ["internal/bytealg.IndexByteString", "internal/bytealg.IndexString"], unfollowed := true, recurses := true, named := ["internal/bytealg.MaxLen"], loops := true, apart := false, narrowed := true }
def ShapeInsideUptoSaid : Prop := shapeInsideUptoRow.holds Try.pinned (OpenSpec.upto shapeInsideSpec)

end Rows
end Go.Proofs.Ytdghfhnkacfahaa
