/-
  Rows of the call's own that hold expressions or strings: what an append keeps; how a row reads.
-/
import Derived.Test.YtdghfhnkacfahaaESize
set_option linter.unusedVariables false
set_option linter.unusedSimpArgs false
namespace Go.Proofs.Ytdghfhnkacfahaa
open Go.RowKit Go.BigFrame

/-- from w and the row r to w' and the row r': all but r's block is kept; r' lies where r lay, or in new memory -/
structure RowTo (w w' : World) (r r' : Value) : Prop where
  grown : w.grownBy w' r.ownBlock
  next : r'.ownBlock = r.ownBlock ∨ ∀ g, r'.ownBlock = some g → w.heap.size ≤ g
theorem RowTo.refl (w : World) (r : Value) : RowTo w w r r := ⟨World.grownBy.refl w _, .inl rfl⟩
theorem RowTo.trans {w w1 w2 : World} {r r1 r2 : Value} (a : RowTo w w1 r r1) (b : RowTo w1 w2 r1 r2) : RowTo w w2 r r2 := by
  refine ⟨⟨b.grown.os.trans a.grown.os, b.grown.tape.trans a.grown.tape, b.grown.output.trans a.grown.output, Nat.le_trans a.grown.size b.grown.size, fun k hk hne => ?_⟩, ?_⟩
  · refine (b.grown.block k (Nat.lt_of_lt_of_le hk a.grown.size) ?_).trans (a.grown.block k hk hne)
    rcases a.next with h | h
    · rw [h]; exact hne
    · intro e; have := h k e.symm; omega
  · rcases b.next with h | h
    · rw [h]; exact a.next
    · exact .inr fun g hg => Nat.le_trans a.grown.size (h g hg)
theorem RowTo.after {w w1 w2 : World} {r r1 : Value} (a : RowTo w w1 r r1) (b : After w1 w2) : RowTo w w2 r r1 :=
  a.trans ⟨⟨b.below.os, b.below.tape, b.below.output, b.below.size, fun k hk _ => b.below.block k hk⟩, .inl rfl⟩
theorem RowTo.of_after {w w1 : World} (r : Value) (b : After w w1) : RowTo w w1 r r := (RowTo.refl w r).after b
theorem RowTo.pre {w w1 w2 : World} {r r1 : Value} (b : After w w1) (a : RowTo w1 w2 r r1) : RowTo w w2 r r1 := (RowTo.of_after r b).trans a
theorem RowTo.of_app {w w' : World} {r r' : Value} (hg : w.grownBy w' r.ownBlock) (h : r'.ownBlock = r.ownBlock ∨ r'.ownBlock = some w.heap.size) : RowTo w w' r r' :=
  ⟨hg, h.imp id fun h g hg => by rw [h] at hg; injection hg with hg; omega⟩
theorem RowTo.blk {w w' : World} {r r' : Value} (a : RowTo w w' r r') {g : Nat} {t : TypeId} {cs : Array Value} (h : Blk w g t cs) (hg : some g ≠ r.ownBlock) : Blk w' g t cs := h.grown a.grown hg
theorem RowTo.size {w w' : World} {r r' : Value} (a : RowTo w w' r r') : w.heap.size ≤ w'.heap.size := a.grown.size
theorem RowTo.old {w w' : World} {r r' : Value} (a : RowTo w w' r r') {g : Nat} (hg : g < w.heap.size) (h : some g ≠ r.ownBlock) : some g ≠ r'.ownBlock := by
  rcases a.next with e | e
  · rw [e]; exact h
  · intro e2; have := e g e2.symm; omega
/-- what lies below the row's base is kept -/
theorem RowTo.aft {w0 w w' : World} {r r' : Value} (a : RowTo w w' r r') (h : After w0 w) {B n size : Nat} {t : TypeId} {ys : List Value} (own : w.ownsRow B t size r n ys) (hB : w0.heap.size ≤ B) : After w0 w' :=
  @after_grown_ w0 w w' h B t size n r ys own hB a.grown
theorem own_after {w w' : World} {B n size : Nat} {t : TypeId} {r : Value} {ys : List Value} (own : w.ownsRow B t size r n ys) (h : After w w') : w'.ownsRow B t size r n ys := by
  refine ⟨own.1, own.2.imp id ?_⟩
  rintro ⟨g, cap, cur, hv, hbg, hh, rest⟩
  have hlt : g < w.heap.size := by
    rcases Nat.lt_or_ge g w.heap.size with h' | h'
    · exact h'
    · rw [Array.getElem?_eq_none h'] at hh; cases hh
  exact ⟨g, cap, cur, hv, hbg, (h.below.block g hlt).trans hh, rest⟩

theorem cell_keep {w w' : World} (a : After w w') {b i : Nat} [h : Le (b + 1) w] {x : Option Value} (e : w.cell? ⟨b, i, none⟩ = x) : w'.cell? ⟨b, i, none⟩ = x := (a.below.cell (p := ⟨b, i, none⟩) h.le).trans e
theorem le_keep {w w' : World} (a : After w w') {n : Nat} [h : Le n w] : Le n w' := ⟨Nat.le_trans h.le a.below.size⟩

/-! ### expressions in a row -/
def Tx.cellsL (e : Tx) : List Value := [.int .i64 e.kind, .int .i64 e.op, .int .i64 e.ty, .int .i64 e.va, .string e.name, .slice e.ad e.args.length e.cap]
def flat : List Tx → List Value
  | [] => []
  | e :: l => e.cellsL ++ flat l
theorem flat_append (a b : List Tx) : flat (a ++ b) = flat a ++ flat b := by
  induction a with
  | nil => rfl
  | cons e a ih => rw [List.cons_append, flat, flat, ih, List.append_assoc]
theorem flat_one (e : Tx) : flat [e] = e.cellsL := by simp [flat]
theorem flat_length (l : List Tx) : (flat l).length = l.length * 6 := by
  induction l with
  | nil => rfl
  | cons e l ih => rw [flat, List.length_append, ih, List.length_cons]; simp [Tx.cellsL]; omega
theorem flat_reads {w : World} {g : Nat} : ∀ (l : List Tx) (o : Nat), (∀ j u, (flat l)[j]? = some u → w.cell? ⟨g, o + j, none⟩ = some u) → (∀ e ∈ l, RX w e) → RXs w g o l
  | [], o, h, hx => by rw [RXs]; trivial
  | e :: l, o, h, hx => by
    rw [RXs]
    have h6 : ∀ j u, e.cellsL[j]? = some u → w.cell? ⟨g, o + j, none⟩ = some u := fun j u hu => h j u (by
      rw [flat, List.getElem?_append_left (List.getElem?_eq_some_iff.1 hu).1]; exact hu)
    refine ⟨⟨h6 0 _ rfl, h6 1 _ rfl, h6 2 _ rfl, h6 3 _ rfl, h6 4 _ rfl, h6 5 _ rfl⟩, hx e (by simp), flat_reads l (o + 6) (fun j u hu => ?_) (fun y hy => hx y (by simp [hy]))⟩
    have := h (6 + j) u (by rw [flat, List.getElem?_append_right (by simp [Tx.cellsL])]; simpa [Tx.cellsL] using hu)
    rwa [← Nat.add_assoc] at this
/-- a row of expressions, as the arguments of an expression -/
def rowX (A : Option Addr) (c : Nat) (l : List Tx) : Tx := .mk 0 0 0 0 ⟨#[]⟩ A c l
theorem rowX_of_own {w : World} {B : Nat} {t : TypeId} {r : Value} {l : List Tx} (own : w.ownsRow B t 6 r l.length (flat l)) (hl : l.length ≤ 140737488355328) (hx : ∀ e ∈ l, RX w e) :
    ∃ A c, r = .slice A l.length c ∧ RX w (rowX A c l) := by
  obtain ⟨A, c, rfl, h1, h2⟩ := own_slice own
  refine ⟨A, c, rfl, ?_⟩
  unfold rowX
  rw [RX]
  refine ⟨by decide, h1, h2, hl, ?_⟩
  rcases own.2 with ⟨hv, h0⟩ | ⟨g, cap, cur, hv, hbg, hh, hnc, hcap, hsz, htk⟩
  · exact .inl (List.eq_nil_of_length_eq_zero h0)
  · injection hv with hA
    subst hA
    have hlt : g < w.heap.size := by
      rcases Nat.lt_or_ge g w.heap.size with h' | h'
      · exact h'
      · rw [Array.getElem?_eq_none h'] at hh; cases hh
    refine .inr ⟨g, 0, rfl, hlt, flat_reads l 0 (fun j u hu => ?_) hx⟩
    have := own.cells (g := g) rfl j u hu
    rw [Addr.add_lit] at this
    exact this
theorem cells_flat {w : World} {g : Nat} (hg : w.heap.size = g) (o : Array Value) (t : TypeId) (news : List Value) (h : o.toList = news) (n : Nat) (size : Nat) (hn : news.length = n * size) : Reads (w.alloc (.cells o t)) (g + 1) size (some ⟨g, 0, none⟩) n news := by
  subst hg
  refine ⟨hn, fun _ => ⟨_, rfl, by simp, fun j u hu => ?_⟩⟩
  rw [Addr.add_lit, (Blk.new w t o).cell, ← Array.getElem?_toList, h]
  simpa using hu
end Go.Proofs.Ytdghfhnkacfahaa
