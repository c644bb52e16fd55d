/-
  'f gives v': a contract from a world on, hidden from the walk; contracts of the words' functions in that form.
-/
import Derived.Test.YtdghfhnkacfahaaBase
namespace Go.Proofs.Ytdghfhnkacfahaa
open Go.RowKit

def Gives (w : World) (f : FuncId) (args : Array Value) (v : Value) : Prop := ∀ U : World, After w U → Calls Try.prog f args U fun e w' => e = .returned v ∧ ∃ y, w' = U.more y
theorem Gives.on {w : World} {f : FuncId} {args : Array Value} {v : Value} (h : Gives w f args v) (U : World) (k : After w U) : Calls Try.prog f args U fun e w' => e = .returned v ∧ ∃ y, w' = U.more y := h U k
/-- the same for a word as the result, or the first of two results -/
def GivesW (w : World) (f : FuncId) (args : Array Value) (H L : List Bool) (g : Value → Value) : Prop := ∀ U : World, After w U → Calls Try.prog f args U fun e w' => ∃ A c B d, e = .returned (g (.agg #[.slice A H.length c, .slice B L.length d])) ∧ RW w' A c B d H L ∧ ∃ y, w' = U.more y
theorem GivesW.on {w : World} {f : FuncId} {args : Array Value} {H L : List Bool} {g : Value → Value} (h : GivesW w f args H L g) (U : World) (k : After w U) :
    Calls Try.prog f args U fun e w' => ∃ A c B d, e = .returned (g (.agg #[.slice A H.length c, .slice B L.length d])) ∧ RW w' A c B d H L ∧ ∃ y, w' = U.more y := h U k
/-- a word by value -/
def wv (A : Option Addr) (c : Nat) (B : Option Addr) (d : Nat) (h l : List Bool) : Value := .agg #[.slice A h.length c, .slice B l.length d]
end Go.Proofs.Ytdghfhnkacfahaa
