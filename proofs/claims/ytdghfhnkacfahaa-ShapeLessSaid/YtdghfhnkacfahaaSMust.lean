/-
  Contracts: shape's must, right: the first error as a panic.
-/
import Derived.Test.YtdghfhnkacfahaaGives
import Derived.Test.YtdghfhnkacfahaaBlk
import Derived.Test.YtdghfhnkacfahaaESize
import Derived.WalkLawsBesides
set_option linter.unusedVariables false
set_option linter.unusedSimpArgs false
namespace Go.Proofs.Ytdghfhnkacfahaa
open Go.RowKit Go.BigFrame

/-- the panic with an error and its place -/
def pan (nd q E : Int) : Ending := .panicked [{ v := .iface 69 (.agg #[.int .i64 nd, .int .i64 q, .int .i64 E]), recovered := false }]
/-- how a method of look ends whose first error is E (0: none) -/
def PE (w : World) (nd q E : Int) (e : Ending) (w' : World) : Prop := After w w' ∧ ((E = 0 ∧ e = .returned (.tuple #[])) ∨ (E ≠ 0 ∧ e = pan nd q E))
theorem PE.of0 {w w' : World} {nd q : Int} {e : Ending} (h : PE w nd q 0 e w') : e = .returned (.tuple #[]) ∧ After w w' := by
  rcases h.2 with ⟨_, h2⟩ | ⟨h1, _⟩
  · exact ⟨h2, h.1⟩
  · exact absurd rfl h1
theorem PE.of1 {w w' : World} {nd q E : Int} {e : Ending} (h : PE w nd q E e w') (hE : E ≠ 0) : e = pan nd q E ∧ After w w' := by
  rcases h.2 with ⟨h1, _⟩ | ⟨_, h2⟩
  · exact absurd h1 hE
  · exact ⟨h2, h.1⟩
theorem PE.ofz {w w' : World} {nd q E : Int} {e : Ending} (h : PE w nd q E e w') (hE : E = 0) : e = .returned (.tuple #[]) ∧ After w w' := by subst hE; exact h.of0
theorem PE.to {w w' : World} {nd q E : Int} {e : Ending} (h : PE w nd q E e w') {F : Int} (hE : E = F) : PE w nd q F e w' := hE ▸ h
theorem PE.mk0 {w w' : World} {nd q : Int} (h : After w w') : PE w nd q 0 (.returned (.tuple #[])) w' := ⟨h, .inl ⟨rfl, rfl⟩⟩
theorem PE.mk1 {w w' : World} {nd q E : Int} (hE : E ≠ 0) (h : After w w') : PE w nd q E (pan nd q E) w' := ⟨h, .inr ⟨hE, rfl⟩⟩
theorem PE.base {w0 w w' : World} {nd q E : Int} {e : Ending} (h : PE w nd q E e w') (a : After w0 w) : PE w0 nd q E e w' := ⟨after_after a h.1, h.2⟩
/-- the struct of a look: the enumerations' slice, the place -/
def Look (w : World) (g : Nat) (A : Option Addr) (n c : Nat) (nd q : Int) : Prop := Blk w g 73 #[.slice A n c, .int .i64 nd, .int .i64 q]
theorem Look.here {w0 : World} {g A n c nd q} (h : Look w0 g A n c nd q) (w : World) [k : After w0 w] : Look w g A n c nd q := Blk.after h
theorem Look.fields {w : World} {g A n c nd q} (h : Look w g A n c nd q) : w.cell? ⟨g, 0, none⟩ = some (.slice A n c) ∧ w.cell? ⟨g, 1, none⟩ = some (.int .i64 nd) ∧ w.cell? ⟨g, 2, none⟩ = some (.int .i64 q) ∧ Le (g + 1) w :=
  ⟨by rw [Blk.cell h]; rfl, by rw [Blk.cell h]; rfl, by rw [Blk.cell h]; rfl, Blk.is_le h⟩
theorem must_yes (w : World) (g : Nat) (e : Int) : Calls Try.prog 33 #[.pointer (some ⟨g, 0, none⟩), .bool true, .int .i64 e] w fun e' w' => e' = .returned (.tuple #[]) ∧ w' = w := by
  go_enter Try.func33, Try.ntmps33
  go_wp2_with fail
  go_end0
  exact ⟨rfl, rfl⟩
theorem must_no {w : World} {g A n c nd q} (h : Look w g A n c nd q) (e : Int) : Calls Try.prog 33 #[.pointer (some ⟨g, 0, none⟩), .bool false, .int .i64 e] w fun e' w' => e' = pan nd q e ∧ w' = w := by
  obtain ⟨k0, k1, k2, kl⟩ := h.fields
  go_enter Try.func33, Try.ntmps33
  go_wp2_with fail
  exact ⟨rfl, rfl, rfl⟩
theorem must_any {w : World} {g A n c nd q} (h : Look w g A n c nd q) (ok : Bool) (e : Int) (he : e ≠ 0) : Calls Try.prog 33 #[.pointer (some ⟨g, 0, none⟩), .bool ok, .int .i64 e] w fun e' w' => PE w nd q (if ok then 0 else e) e' w' := by
  cases ok with
  | true =>
    refine (must_yes w g e).mono ?_
    rintro e' w' ⟨rfl, rfl⟩
    exact PE.mk0 inferInstance
  | false =>
    refine (must_no h e).mono ?_
    rintro e' w' ⟨rfl, rfl⟩
    exact PE.mk1 he inferInstance
theorem right_any {w : World} {g A n c nd q} (h : Look w g A n c nd q) (e : Int) : Calls Try.prog 72 #[.pointer (some ⟨g, 0, none⟩), .int .i64 e] w fun e' w' => PE w nd q e e' w' := by
  by_cases he : e = 0
  · subst he
    have HM := Lib.hid (must_yes w g 0)
    go_enter Try.func72, Try.ntmps72
    go_wp2_with fail
    refine HM.out.mono ?_
    rintro e' w' ⟨rfl, hw⟩
    rw [hw]
    go_wp2_with fail
    go_end0
    exact PE.mk0 inferInstance
  · have z1 : (e == 0) = false := by rw [beq_eq_false_iff_ne]; exact he
    have HM := Lib.hid (must_no h e)
    go_enter Try.func72, Try.ntmps72
    go_wp2_with fail
    refine HM.out.mono ?_
    rintro e' w' ⟨rfl, hw⟩
    rw [hw]
    unfold pan
    go_wp2_with fail
    exact ⟨rfl, PE.mk1 he inferInstance⟩
end Go.Proofs.Ytdghfhnkacfahaa
