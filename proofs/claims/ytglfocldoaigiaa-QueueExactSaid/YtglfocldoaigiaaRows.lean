/-
  No cell of these rows narrows 'for every input' (looked for: loops, veiled, ifaces, maps, wideKeys, modest, calm, conditions, laid).
  DERIVED. THE GIVEN ROWS OF THIS SEAT. 12 by the template 'for every input the law returns true; each argument reads behind the call as it read before'; 0 by the template 'total and deterministic' (their statements: YtglfocldoaigiaaTotals.lean).
  GIVEN WITH THE SEED: the statements are not yours to turn. If you find one false, say at which input.
  Laid BY PROGRAM, IN A SANDBOX (cutbox-rows.mjs): the forced cells as the released guide's own fill.sh prints them over the translation dacba864dfbe997e… (all of the seat's roots in one cut). By AI agents, Wed Nov 11 2026. No macro, syntax, notation, axiom, sorry.
-/
import Derived.Test.YtglfocldoaigiaaChecked
import GoSem.Claim
import GoSem.ClaimJoined
import GoSem.ClaimMapViews
import Derived.JoinedTies
import Derived.KernelRfl
namespace Go.Proofs.Ytglfocldoaigiaa
/- THE CELL 'sum', in the pinned program and in every row, IS THE sha256 OF THE DUMP (.gsa) THAT YtglfocldoaigiaaProg.lean LOADS. Nothing in Lean hashes anything: it is a label: what it is worth is what the hold of that sum in a sandbox is worth. -/
noncomputable def Try.pinned : Pinned := { name := "ytglfocldoaigiaa", sum := "dacba864dfbe997ed97a582679ef71daabeef5fefa6fa3895f4913a287875546", checked := Try.checked }
namespace Rows
def none {H : Type} : Left H := { results := [], args := [] }

/-- 'synchronylaw31.PaceRates': WHATEVER THE INPUT: true; the input reads as it did. -/
def paceRatesSpec : ChangeSpec := { name := "paceRates", fn := fun _ => fun
  | [d] => { results := [.lit (.bool true)], args := [d] }
  | _ => none }
def paceRatesRow : OpenClaim := { program := "ytglfocldoaigiaa", sum := "dacba864dfbe997ed97a582679ef71daabeef5fefa6fa3895f4913a287875546", func := "synchrony/synchronylaw31.PaceRates", spec := "paceRates", unfollowed := true, recurses := true, apart := false }
def PaceRatesSaid : Prop := paceRatesRow.holds Try.pinned (OpenSpec.ofChange paceRatesSpec)

/-- ITS FALSE NEIGHBOUR: 'it returns false'. Refute it at one input. -/
def paceRatesWrong : ChangeSpec := { name := "paceRates", fn := fun _ => fun
  | [d] => { results := [.lit (.bool false)], args := [d] }
  | _ => none }
def PaceRatesWrongFalsely : Prop := paceRatesRow.holds Try.pinned (OpenSpec.ofChange paceRatesWrong)

/-- 'synchronylaw31.PaceGaps': WHATEVER THE INPUT: true; the input reads as it did. -/
def paceGapsSpec : ChangeSpec := { name := "paceGaps", fn := fun _ => fun
  | [d1, d2] => { results := [.lit (.bool true)], args := [d1, d2] }
  | _ => none }
def paceGapsRow : OpenClaim := { program := "ytglfocldoaigiaa", sum := "dacba864dfbe997ed97a582679ef71daabeef5fefa6fa3895f4913a287875546", func := "synchrony/synchronylaw31.PaceGaps", spec := "paceGaps", unfollowed := true, recurses := true, apart := false }
def PaceGapsSaid : Prop := paceGapsRow.holds Try.pinned (OpenSpec.ofChange paceGapsSpec)

/-- ITS FALSE NEIGHBOUR: 'it returns false'. Refute it at one input. -/
def paceGapsWrong : ChangeSpec := { name := "paceGaps", fn := fun _ => fun
  | [d1, d2] => { results := [.lit (.bool false)], args := [d1, d2] }
  | _ => none }
def PaceGapsWrongFalsely : Prop := paceGapsRow.holds Try.pinned (OpenSpec.ofChange paceGapsWrong)

/-- 'synchronylaw32.QueueNeeds': WHATEVER THE INPUT: true; the input reads as it did. -/
def queueNeedsSpec : ChangeSpec := { name := "queueNeeds", fn := fun _ => fun
  | [d1, d2, d3, d4, d5] => { results := [.lit (.bool true)], args := [d1, d2, d3, d4, d5] }
  | _ => none }
def queueNeedsRow : OpenClaim := { program := "ytglfocldoaigiaa", sum := "dacba864dfbe997ed97a582679ef71daabeef5fefa6fa3895f4913a287875546", func := "synchrony/synchronylaw32.QueueNeeds", spec := "queueNeeds", unfollowed := true, recurses := true, apart := false }
def QueueNeedsSaid : Prop := queueNeedsRow.holds Try.pinned (OpenSpec.ofChange queueNeedsSpec)

/-- ITS FALSE NEIGHBOUR: 'it returns false'. Refute it at one input. -/
def queueNeedsWrong : ChangeSpec := { name := "queueNeeds", fn := fun _ => fun
  | [d1, d2, d3, d4, d5] => { results := [.lit (.bool false)], args := [d1, d2, d3, d4, d5] }
  | _ => none }
def QueueNeedsWrongFalsely : Prop := queueNeedsRow.holds Try.pinned (OpenSpec.ofChange queueNeedsWrong)

/-- 'synchronylaw32.QueueExact': WHATEVER THE INPUT: true; the input reads as it did. -/
def queueExactSpec : ChangeSpec := { name := "queueExact", fn := fun _ => fun
  | [d1, d2, d3, d4, d5] => { results := [.lit (.bool true)], args := [d1, d2, d3, d4, d5] }
  | _ => none }
def queueExactRow : OpenClaim := { program := "ytglfocldoaigiaa", sum := "dacba864dfbe997ed97a582679ef71daabeef5fefa6fa3895f4913a287875546", func := "synchrony/synchronylaw32.QueueExact", spec := "queueExact", unfollowed := true, recurses := true, apart := false }
def QueueExactSaid : Prop := queueExactRow.holds Try.pinned (OpenSpec.ofChange queueExactSpec)

/-- ITS FALSE NEIGHBOUR: 'it returns false'. Refute it at one input. -/
def queueExactWrong : ChangeSpec := { name := "queueExact", fn := fun _ => fun
  | [d1, d2, d3, d4, d5] => { results := [.lit (.bool false)], args := [d1, d2, d3, d4, d5] }
  | _ => none }
def QueueExactWrongFalsely : Prop := queueExactRow.holds Try.pinned (OpenSpec.ofChange queueExactWrong)

/-- 'synchronylaw32.QueueLater': WHATEVER THE INPUT: true; the input reads as it did. -/
def queueLaterSpec : ChangeSpec := { name := "queueLater", fn := fun _ => fun
  | [d1, d2, d3, d4, d5] => { results := [.lit (.bool true)], args := [d1, d2, d3, d4, d5] }
  | _ => none }
def queueLaterRow : OpenClaim := { program := "ytglfocldoaigiaa", sum := "dacba864dfbe997ed97a582679ef71daabeef5fefa6fa3895f4913a287875546", func := "synchrony/synchronylaw32.QueueLater", spec := "queueLater", unfollowed := true, recurses := true, apart := false }
def QueueLaterSaid : Prop := queueLaterRow.holds Try.pinned (OpenSpec.ofChange queueLaterSpec)

/-- ITS FALSE NEIGHBOUR: 'it returns false'. Refute it at one input. -/
def queueLaterWrong : ChangeSpec := { name := "queueLater", fn := fun _ => fun
  | [d1, d2, d3, d4, d5] => { results := [.lit (.bool false)], args := [d1, d2, d3, d4, d5] }
  | _ => none }
def QueueLaterWrongFalsely : Prop := queueLaterRow.holds Try.pinned (OpenSpec.ofChange queueLaterWrong)

/-- 'synchronylaw31.PaceNths': WHATEVER THE INPUT: true; the input reads as it did. -/
def paceNthsSpec : ChangeSpec := { name := "paceNths", fn := fun _ => fun
  | [d1, d2] => { results := [.lit (.bool true)], args := [d1, d2] }
  | _ => none }
def paceNthsRow : OpenClaim := { program := "ytglfocldoaigiaa", sum := "dacba864dfbe997ed97a582679ef71daabeef5fefa6fa3895f4913a287875546", func := "synchrony/synchronylaw31.PaceNths", spec := "paceNths", unfollowed := true, recurses := true, apart := false }
def PaceNthsSaid : Prop := paceNthsRow.holds Try.pinned (OpenSpec.ofChange paceNthsSpec)

/-- ITS FALSE NEIGHBOUR: 'it returns false'. Refute it at one input. -/
def paceNthsWrong : ChangeSpec := { name := "paceNths", fn := fun _ => fun
  | [d1, d2] => { results := [.lit (.bool false)], args := [d1, d2] }
  | _ => none }
def PaceNthsWrongFalsely : Prop := paceNthsRow.holds Try.pinned (OpenSpec.ofChange paceNthsWrong)

/-- 'synchronylaw31.PaceSpans': WHATEVER THE INPUT: true; the input reads as it did. -/
def paceSpansSpec : ChangeSpec := { name := "paceSpans", fn := fun _ => fun
  | [d1, d2] => { results := [.lit (.bool true)], args := [d1, d2] }
  | _ => none }
def paceSpansRow : OpenClaim := { program := "ytglfocldoaigiaa", sum := "dacba864dfbe997ed97a582679ef71daabeef5fefa6fa3895f4913a287875546", func := "synchrony/synchronylaw31.PaceSpans", spec := "paceSpans", unfollowed := true, recurses := true, apart := false }
def PaceSpansSaid : Prop := paceSpansRow.holds Try.pinned (OpenSpec.ofChange paceSpansSpec)

/-- ITS FALSE NEIGHBOUR: 'it returns false'. Refute it at one input. -/
def paceSpansWrong : ChangeSpec := { name := "paceSpans", fn := fun _ => fun
  | [d1, d2] => { results := [.lit (.bool false)], args := [d1, d2] }
  | _ => none }
def PaceSpansWrongFalsely : Prop := paceSpansRow.holds Try.pinned (OpenSpec.ofChange paceSpansWrong)

/-- 'synchronylaw32.QueuePlays': WHATEVER THE INPUT: true; the input reads as it did. -/
def queuePlaysSpec : ChangeSpec := { name := "queuePlays", fn := fun _ => fun
  | [d1, d2, d3] => { results := [.lit (.bool true)], args := [d1, d2, d3] }
  | _ => none }
def queuePlaysRow : OpenClaim := { program := "ytglfocldoaigiaa", sum := "dacba864dfbe997ed97a582679ef71daabeef5fefa6fa3895f4913a287875546", func := "synchrony/synchronylaw32.QueuePlays", spec := "queuePlays", unfollowed := true, recurses := true, apart := false }
def QueuePlaysSaid : Prop := queuePlaysRow.holds Try.pinned (OpenSpec.ofChange queuePlaysSpec)

/-- ITS FALSE NEIGHBOUR: 'it returns false'. Refute it at one input. -/
def queuePlaysWrong : ChangeSpec := { name := "queuePlays", fn := fun _ => fun
  | [d1, d2, d3] => { results := [.lit (.bool false)], args := [d1, d2, d3] }
  | _ => none }
def QueuePlaysWrongFalsely : Prop := queuePlaysRow.holds Try.pinned (OpenSpec.ofChange queuePlaysWrong)

/-- 'synchronylaw32.QueueNil': WHATEVER THE INPUT: true; the input reads as it did. -/
def queueNilSpec : ChangeSpec := { name := "queueNil", fn := fun _ => fun
  | [d] => { results := [.lit (.bool true)], args := [d] }
  | _ => none }
def queueNilRow : OpenClaim := { program := "ytglfocldoaigiaa", sum := "dacba864dfbe997ed97a582679ef71daabeef5fefa6fa3895f4913a287875546", func := "synchrony/synchronylaw32.QueueNil", spec := "queueNil", unfollowed := true, recurses := true, apart := false }
def QueueNilSaid : Prop := queueNilRow.holds Try.pinned (OpenSpec.ofChange queueNilSpec)

/-- ITS FALSE NEIGHBOUR: 'it returns false'. Refute it at one input. -/
def queueNilWrong : ChangeSpec := { name := "queueNil", fn := fun _ => fun
  | [d] => { results := [.lit (.bool false)], args := [d] }
  | _ => none }
def QueueNilWrongFalsely : Prop := queueNilRow.holds Try.pinned (OpenSpec.ofChange queueNilWrong)

/-- 'synchronylaw31.PaceNorms': WHATEVER THE INPUT: true; the input reads as it did. -/
def paceNormsSpec : ChangeSpec := { name := "paceNorms", fn := fun _ => fun
  | [d1, d2, d3] => { results := [.lit (.bool true)], args := [d1, d2, d3] }
  | _ => none }
def paceNormsRow : OpenClaim := { program := "ytglfocldoaigiaa", sum := "dacba864dfbe997ed97a582679ef71daabeef5fefa6fa3895f4913a287875546", func := "synchrony/synchronylaw31.PaceNorms", spec := "paceNorms", unfollowed := true, recurses := true, apart := false }
def PaceNormsSaid : Prop := paceNormsRow.holds Try.pinned (OpenSpec.ofChange paceNormsSpec)

/-- ITS FALSE NEIGHBOUR: 'it returns false'. Refute it at one input. -/
def paceNormsWrong : ChangeSpec := { name := "paceNorms", fn := fun _ => fun
  | [d1, d2, d3] => { results := [.lit (.bool false)], args := [d1, d2, d3] }
  | _ => none }
def PaceNormsWrongFalsely : Prop := paceNormsRow.holds Try.pinned (OpenSpec.ofChange paceNormsWrong)

/-- 'synchronylaw31.PaceOrders': WHATEVER THE INPUT: true; the input reads as it did. -/
def paceOrdersSpec : ChangeSpec := { name := "paceOrders", fn := fun _ => fun
  | [d1, d2, d3] => { results := [.lit (.bool true)], args := [d1, d2, d3] }
  | _ => none }
def paceOrdersRow : OpenClaim := { program := "ytglfocldoaigiaa", sum := "dacba864dfbe997ed97a582679ef71daabeef5fefa6fa3895f4913a287875546", func := "synchrony/synchronylaw31.PaceOrders", spec := "paceOrders", unfollowed := true, recurses := true, apart := false }
def PaceOrdersSaid : Prop := paceOrdersRow.holds Try.pinned (OpenSpec.ofChange paceOrdersSpec)

/-- ITS FALSE NEIGHBOUR: 'it returns false'. Refute it at one input. -/
def paceOrdersWrong : ChangeSpec := { name := "paceOrders", fn := fun _ => fun
  | [d1, d2, d3] => { results := [.lit (.bool false)], args := [d1, d2, d3] }
  | _ => none }
def PaceOrdersWrongFalsely : Prop := paceOrdersRow.holds Try.pinned (OpenSpec.ofChange paceOrdersWrong)

/-- 'synchronylaw31.PaceOns': WHATEVER THE INPUT: true; the input reads as it did. -/
def paceOnsSpec : ChangeSpec := { name := "paceOns", fn := fun _ => fun
  | [d1, d2] => { results := [.lit (.bool true)], args := [d1, d2] }
  | _ => none }
def paceOnsRow : OpenClaim := { program := "ytglfocldoaigiaa", sum := "dacba864dfbe997ed97a582679ef71daabeef5fefa6fa3895f4913a287875546", func := "synchrony/synchronylaw31.PaceOns", spec := "paceOns", unfollowed := true, recurses := true, apart := false }
def PaceOnsSaid : Prop := paceOnsRow.holds Try.pinned (OpenSpec.ofChange paceOnsSpec)

/-- ITS FALSE NEIGHBOUR: 'it returns false'. Refute it at one input. -/
def paceOnsWrong : ChangeSpec := { name := "paceOns", fn := fun _ => fun
  | [d1, d2] => { results := [.lit (.bool false)], args := [d1, d2] }
  | _ => none }
def PaceOnsWrongFalsely : Prop := paceOnsRow.holds Try.pinned (OpenSpec.ofChange paceOnsWrong)

/- THE SECOND FORM. 'bulk': how many values and letters a reading holds, each counted each time it is reached (what is shared counts as often as it is met; a slice's spare places count too). A statement '..UptoSaid' is the law's where the arguments, and the package variables that the reading takes, are together of bulk at most 1048576: NARROWER than '..Said'. Prove '..Said' where nothing that the law and all that it calls make is longer than what came in: it says more and counts as full. Else prove '..UptoSaid'. A law counts once. -/
mutual
def uptoBulk {H : Type} : DataW H → Nat
  | .lit (.string bytes) => bytes.length + 1
  | .lit _ => 1
  | .nil => 1
  | .ptr d => uptoBulk d + 1
  | .slice elems spare => uptoBulkAll elems + uptoBulkAll spare + 1
  | .agg parts => uptoBulkAll parts + 1
  | .iface _ d => uptoBulk d + 1
  | .map entries => uptoBulkEntries entries + 1
  | .held _ => 1
def uptoBulkAll {H : Type} : List (DataW H) → Nat
  | [] => 0
  | d :: r => uptoBulk d + uptoBulkAll r
def uptoBulkEntries {H : Type} : List (Lit × DataW H) → Nat
  | [] => 0
  | x :: r => uptoBulkEntry x + uptoBulkEntries r
def uptoBulkEntry {H : Type} : Lit × DataW H → Nat
  | (.string bytes, d) => bytes.length + uptoBulk d + 1
  | (_, d) => uptoBulk d + 1
 end
def uptoSmall : (H : Type) → List (DataW H) → Bool := fun _ ds => decide (uptoBulkAll ds ≤ 1048576)
def OpenSpec.upto (s : _root_.Go.ChangeSpec) : _root_.Go.OpenSpec := { _root_.Go.OpenSpec.ofChange s with cond := some uptoSmall }

/-- 'synchronylaw31.PaceRates', WHERE WHAT IT READS IS OF BULK AT MOST 1048576: true; the input reads as it did. -/
def paceRatesUptoRow : OpenClaim := { program := "ytglfocldoaigiaa", sum := "dacba864dfbe997ed97a582679ef71daabeef5fefa6fa3895f4913a287875546", func := "synchrony/synchronylaw31.PaceRates", spec := "paceRates", unfollowed := true, recurses := true, apart := false, narrowed := true }
def PaceRatesUptoSaid : Prop := paceRatesUptoRow.holds Try.pinned (OpenSpec.upto paceRatesSpec)

/-- 'synchronylaw31.PaceGaps', WHERE WHAT IT READS IS OF BULK AT MOST 1048576: true; the input reads as it did. -/
def paceGapsUptoRow : OpenClaim := { program := "ytglfocldoaigiaa", sum := "dacba864dfbe997ed97a582679ef71daabeef5fefa6fa3895f4913a287875546", func := "synchrony/synchronylaw31.PaceGaps", spec := "paceGaps", unfollowed := true, recurses := true, apart := false, narrowed := true }
def PaceGapsUptoSaid : Prop := paceGapsUptoRow.holds Try.pinned (OpenSpec.upto paceGapsSpec)

/-- 'synchronylaw32.QueueNeeds', WHERE WHAT IT READS IS OF BULK AT MOST 1048576: true; the input reads as it did. -/
def queueNeedsUptoRow : OpenClaim := { program := "ytglfocldoaigiaa", sum := "dacba864dfbe997ed97a582679ef71daabeef5fefa6fa3895f4913a287875546", func := "synchrony/synchronylaw32.QueueNeeds", spec := "queueNeeds", unfollowed := true, recurses := true, apart := false, narrowed := true }
def QueueNeedsUptoSaid : Prop := queueNeedsUptoRow.holds Try.pinned (OpenSpec.upto queueNeedsSpec)

/-- 'synchronylaw32.QueueExact', WHERE WHAT IT READS IS OF BULK AT MOST 1048576: true; the input reads as it did. -/
def queueExactUptoRow : OpenClaim := { program := "ytglfocldoaigiaa", sum := "dacba864dfbe997ed97a582679ef71daabeef5fefa6fa3895f4913a287875546", func := "synchrony/synchronylaw32.QueueExact", spec := "queueExact", unfollowed := true, recurses := true, apart := false, narrowed := true }
def QueueExactUptoSaid : Prop := queueExactUptoRow.holds Try.pinned (OpenSpec.upto queueExactSpec)

/-- 'synchronylaw32.QueueLater', WHERE WHAT IT READS IS OF BULK AT MOST 1048576: true; the input reads as it did. -/
def queueLaterUptoRow : OpenClaim := { program := "ytglfocldoaigiaa", sum := "dacba864dfbe997ed97a582679ef71daabeef5fefa6fa3895f4913a287875546", func := "synchrony/synchronylaw32.QueueLater", spec := "queueLater", unfollowed := true, recurses := true, apart := false, narrowed := true }
def QueueLaterUptoSaid : Prop := queueLaterUptoRow.holds Try.pinned (OpenSpec.upto queueLaterSpec)

/-- 'synchronylaw31.PaceNths', WHERE WHAT IT READS IS OF BULK AT MOST 1048576: true; the input reads as it did. -/
def paceNthsUptoRow : OpenClaim := { program := "ytglfocldoaigiaa", sum := "dacba864dfbe997ed97a582679ef71daabeef5fefa6fa3895f4913a287875546", func := "synchrony/synchronylaw31.PaceNths", spec := "paceNths", unfollowed := true, recurses := true, apart := false, narrowed := true }
def PaceNthsUptoSaid : Prop := paceNthsUptoRow.holds Try.pinned (OpenSpec.upto paceNthsSpec)

/-- 'synchronylaw31.PaceSpans', WHERE WHAT IT READS IS OF BULK AT MOST 1048576: true; the input reads as it did. -/
def paceSpansUptoRow : OpenClaim := { program := "ytglfocldoaigiaa", sum := "dacba864dfbe997ed97a582679ef71daabeef5fefa6fa3895f4913a287875546", func := "synchrony/synchronylaw31.PaceSpans", spec := "paceSpans", unfollowed := true, recurses := true, apart := false, narrowed := true }
def PaceSpansUptoSaid : Prop := paceSpansUptoRow.holds Try.pinned (OpenSpec.upto paceSpansSpec)

/-- 'synchronylaw32.QueuePlays', WHERE WHAT IT READS IS OF BULK AT MOST 1048576: true; the input reads as it did. -/
def queuePlaysUptoRow : OpenClaim := { program := "ytglfocldoaigiaa", sum := "dacba864dfbe997ed97a582679ef71daabeef5fefa6fa3895f4913a287875546", func := "synchrony/synchronylaw32.QueuePlays", spec := "queuePlays", unfollowed := true, recurses := true, apart := false, narrowed := true }
def QueuePlaysUptoSaid : Prop := queuePlaysUptoRow.holds Try.pinned (OpenSpec.upto queuePlaysSpec)

/-- 'synchronylaw32.QueueNil', WHERE WHAT IT READS IS OF BULK AT MOST 1048576: true; the input reads as it did. -/
def queueNilUptoRow : OpenClaim := { program := "ytglfocldoaigiaa", sum := "dacba864dfbe997ed97a582679ef71daabeef5fefa6fa3895f4913a287875546", func := "synchrony/synchronylaw32.QueueNil", spec := "queueNil", unfollowed := true, recurses := true, apart := false, narrowed := true }
def QueueNilUptoSaid : Prop := queueNilUptoRow.holds Try.pinned (OpenSpec.upto queueNilSpec)

/-- 'synchronylaw31.PaceNorms', WHERE WHAT IT READS IS OF BULK AT MOST 1048576: true; the input reads as it did. -/
def paceNormsUptoRow : OpenClaim := { program := "ytglfocldoaigiaa", sum := "dacba864dfbe997ed97a582679ef71daabeef5fefa6fa3895f4913a287875546", func := "synchrony/synchronylaw31.PaceNorms", spec := "paceNorms", unfollowed := true, recurses := true, apart := false, narrowed := true }
def PaceNormsUptoSaid : Prop := paceNormsUptoRow.holds Try.pinned (OpenSpec.upto paceNormsSpec)

/-- 'synchronylaw31.PaceOrders', WHERE WHAT IT READS IS OF BULK AT MOST 1048576: true; the input reads as it did. -/
def paceOrdersUptoRow : OpenClaim := { program := "ytglfocldoaigiaa", sum := "dacba864dfbe997ed97a582679ef71daabeef5fefa6fa3895f4913a287875546", func := "synchrony/synchronylaw31.PaceOrders", spec := "paceOrders", unfollowed := true, recurses := true, apart := false, narrowed := true }
def PaceOrdersUptoSaid : Prop := paceOrdersUptoRow.holds Try.pinned (OpenSpec.upto paceOrdersSpec)

/-- 'synchronylaw31.PaceOns', WHERE WHAT IT READS IS OF BULK AT MOST 1048576: true; the input reads as it did. -/
def paceOnsUptoRow : OpenClaim := { program := "ytglfocldoaigiaa", sum := "dacba864dfbe997ed97a582679ef71daabeef5fefa6fa3895f4913a287875546", func := "synchrony/synchronylaw31.PaceOns", spec := "paceOns", unfollowed := true, recurses := true, apart := false, narrowed := true }
def PaceOnsUptoSaid : Prop := paceOnsUptoRow.holds Try.pinned (OpenSpec.upto paceOnsSpec)

end Rows
end Go.Proofs.Ytglfocldoaigiaa
