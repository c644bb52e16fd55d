/-
  How look's node ends: the worlds in which one old block may have changed; the place of the first error; the row of a node's parts.
-/
import Derived.Test.YtdghfhnkacfahaaSLa
set_option linter.unusedVariables false
set_option linter.unusedSimpArgs false
namespace Go.Proofs.Ytdghfhnkacfahaa
open Go.RowKit Go.BigFrame

/-- 'w' is w with new memory, and block g may have changed' -/
structure Bex (g : Nat) (w w' : World) : Prop where
  os : w'.os = w.os
  tape : w'.tape = w.tape
  output : w'.output = w.output
  size : w.heap.size ≤ w'.heap.size
  block : ∀ k, k < w.heap.size → k ≠ g → w'.heap[k]? = w.heap[k]?
theorem Bex.refl (g : Nat) (w : World) : Bex g w w := ⟨rfl, rfl, rfl, Nat.le_refl _, fun _ _ _ => rfl⟩
theorem Bex.trans {g : Nat} {a b c : World} (h : Bex g a b) (k : Bex g b c) : Bex g a c :=
  ⟨k.os.trans h.os, k.tape.trans h.tape, k.output.trans h.output, Nat.le_trans h.size k.size, fun i hi hg => (k.block i (Nat.lt_of_lt_of_le hi h.size) hg).trans (h.block i hi hg)⟩
theorem Bex.of {g : Nat} {w w' : World} (h : After w w') : Bex g w w' := ⟨h.below.os, h.below.tape, h.below.output, h.below.size, fun k hk _ => h.below.block k hk⟩
theorem Bex.set {g : Nat} (w : World) (i : Nat) (v : Value) : Bex g w (w.setCell ⟨g, i, none⟩ v) := by
  have hb := (Below.refl 0 w).setCell (p := ⟨g, i, none⟩) (Nat.zero_le _) v
  exact ⟨hb.os, hb.tape, hb.output, hb.size, fun k _ hg => Below.heap_setCell w _ v k hg⟩
theorem Bex.after {g : Nat} {w0 w w' : World} (h : Bex g w w') (a : After w0 w) (hg : w0.heap.size ≤ g) : After w0 w' :=
  ⟨⟨h.os.trans a.below.os, h.tape.trans a.below.tape, h.output.trans a.below.output, Nat.le_trans a.below.size h.size, fun k hk => (h.block k (Nat.lt_of_lt_of_le hk a.below.size) (by omega)).trans (a.below.block k hk)⟩⟩
theorem Bex.blk {g : Nat} {w w' : World} (h : Bex g w w') {b : Nat} {t : TypeId} {cs : Array Value} (hb : Blk w b t cs) (hg : b ≠ g) : Blk w' b t cs := (h.block b hb.lt hg).trans hb

/-- how look's node ends -/
def ND (w : World) (g : Nat) (A : Option Addr) (n c : Nat) (i : Int) (E q : Int) (e : Ending) (w' : World) : Prop :=
  Bex g w w' ∧ ((E = 0 ∧ e = .returned (.tuple #[]) ∧ ∃ q', Look w' g A n c i q') ∨ (E ≠ 0 ∧ e = pan i q E))
theorem ND.mk1 {w : World} {g A n c i E q w'} (hE : E ≠ 0) (h : Bex g w w') : ND w g A n c i E q (pan i q E) w' := ⟨h, .inr ⟨hE, rfl⟩⟩
theorem ND.mk0 {w : World} {g A n c i q w' q'} (h : Bex g w w') (l : Look w' g A n c i q') : ND w g A n c i 0 q (.returned (.tuple #[])) w' := ⟨h, .inl ⟨rfl, rfl, _, l⟩⟩
/-- the index of the first element that has an error, from k on -/
def whereE {α : Type} (f : α → Int) : List α → Nat → Int
  | [], _ => -1
  | x :: l, k => if f x = 0 then whereE f l (k + 1) else k
theorem whereE_at {α : Type} (f : α → Int) : ∀ {l : List α} {j : Nat} {x : α} (k : Nat), l[j]? = some x → firstE f (l.take j) = 0 → f x ≠ 0 → whereE f l k = ((k + j : Nat) : Int)
  | [], j, x, k, h, _, _ => by simp at h
  | a :: l, 0, x, k, h, _, hx => by
    simp at h
    subst h
    rw [whereE, if_neg hx]; rfl
  | a :: l, j + 1, x, k, h, h0, hx => by
    rw [List.take_succ_cons, firstE] at h0
    have ha : f a = 0 := by
      by_cases h : f a = 0
      · exact h
      · rw [ore_no h] at h0; exact absurd h0 h
    rw [ore_yes ha] at h0
    rw [whereE, if_pos ha, whereE_at f (k + 1) (by simpa using h) h0 hx]
    congr 1; omega
theorem whereE_none {α : Type} (f : α → Int) : ∀ (l : List α) (k : Nat), firstE f l = 0 → whereE f l k = -1
  | [], _, _ => rfl
  | a :: l, k, h0 => by
    rw [firstE] at h0
    have ha : f a = 0 := by
      by_cases h : f a = 0
      · exact h
      · rw [ore_no h] at h0; exact absurd h0 h
    rw [ore_yes ha] at h0
    rw [whereE, if_pos ha, whereE_none f l (k + 1) h0]
/-- a node's first error, and in which equation it is (-1: in none) -/
noncomputable def nodeE (en : List EnD) (n : NdD) : Int := ore (headE en n) (ore (firstE (eqE en) n.eqs.l) (tailE en n))
noncomputable def nodeQ (en : List EnD) (n : NdD) : Int := if headE en n = 0 then whereE (eqE en) n.eqs.l 0 else -1
theorem lauto_any {w0 : World} {g : Nat} {nd q : Int} {eA : Option Addr} {ec : Nat} {el : List EnD} (h : Look w0 g eA el.length ec nd q) (hen : RowOf 2 PEn w0 ⟨eA, ec, el⟩) (A1 : Option Addr) (c1 : Nat) (l : List StT) (hx : RAu False w0 (.mk A1 c1 l)) (w : World) (hw : After w0 w) :
    Calls Try.prog 71 #[.pointer (some ⟨g, 0, none⟩), .agg #[.slice A1 l.length c1], .int .i64 0] w fun e w' => PE w nd q (auE el 0 (.mk A1 c1 l)) e w' :=
  lauto_n h hen 3 0 (by omega) A1 c1 l hx w hw
end Go.Proofs.Ytdghfhnkacfahaa
