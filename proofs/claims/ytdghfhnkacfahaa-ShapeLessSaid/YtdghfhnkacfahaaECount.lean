/-
  Contract: the program's Count.
-/
import Derived.Test.YtdghfhnkacfahaaEFor
set_option linter.unusedVariables false
set_option linter.unusedSimpArgs false
namespace Go.Proofs.Ytdghfhnkacfahaa
open Go.RowKit Go.Shelf
attribute [local go_sem] Oper.semAt_some

def kindsN (l : List Tx) (q : Int) : Nat := (l.filter fun e => e.kind == q).length
theorem kindsN_le (l : List Tx) (q : Int) : kindsN l q ≤ l.length := List.length_filter_le _ _
theorem kindsN_snoc (l : List Tx) (e : Tx) (q : Int) : kindsN (l ++ [e]) q = kindsN l q + if e.kind == q then 1 else 0 := by
  unfold kindsN
  rw [List.filter_append, List.length_append]
  cases h : e.kind == q <;> simp [List.filter_cons, h]
/-- the expressions that have come -/
def els {w0 : World} (l : List (RTx w0)) : List Tx := l.map fun x => x.1
theorem els_snoc {w0 : World} (l : List (RTx w0)) (e : Tx) (h : RX w0 e) : els (l ++ [⟨e, h⟩]) = els l ++ [e] := by simp [els]
theorem els_length {w0 : World} (l : List (RTx w0)) : (els l).length = l.length := by simp [els]
/-- the box of a round's variable -/
def BoxAt (D : Nat) (mk : Value → Act) (x : Tx) (a' : Act) (W : World) : Prop := ∃ Bx, D ≤ Bx ∧ Blk W Bx 25 x.cells ∧ a' = mk (.pointer (some ⟨Bx, 0, none⟩))
theorem boxAt_own {D B : Nat} {mk : Value → Act} {x : Tx} {a' : Act} : OwnFrom B (fun (_ : Unit) W => BoxAt D mk x a' W) := by
  rintro s A C row ⟨Bx, h1, h2, h3⟩ hg hr
  refine ⟨Bx, h1, h2.grown hg (fun e => ?_), h3⟩
  obtain ⟨_, ob, ho, hc⟩ := hr _ e.symm
  unfold Blk at h2
  rw [h2] at ho; cases ho; cases hc

end Go.Proofs.Ytdghfhnkacfahaa
