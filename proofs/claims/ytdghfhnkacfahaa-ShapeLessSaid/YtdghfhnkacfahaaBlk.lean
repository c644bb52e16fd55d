/-
  A block that is known whole; append of one element to a row of the call's own, in the general form.
-/
import Derived.Test.YtdghfhnkacfahaaBase
namespace Go.Proofs.Ytdghfhnkacfahaa
open Go.RowKit

def Blk (w : World) (g : Nat) (t : TypeId) (cs : Array Value) : Prop := w.heap[g]? = some (.cells cs t (0, 0))
section
variable {w w' : World} {g : Nat} {t : TypeId} {cs : Array Value}
theorem Blk.lt (h : Blk w g t cs) : g < w.heap.size := by
  rcases Nat.lt_or_ge g w.heap.size with hlt | hge
  · exact hlt
  · unfold Blk at h; rw [Array.getElem?_eq_none hge] at h; cases h
theorem Blk.is_le (h : Blk w g t cs) : Le (g + 1) w := ⟨h.lt⟩
theorem Blk.cell (h : Blk w g t cs) (i : Nat) : w.cell? ⟨g, i, none⟩ = cs[i]? := cell_of_row w g i cs t (0, 0) h
theorem Blk.frozen (h : Blk w g t cs) (i : Nat) : w.frozen? ⟨g, i, none⟩ = false := by
  unfold Blk at h
  simp [World.frozen?, h]
theorem Blk.new (w : World) (t : TypeId) (cs : Array Value) : Blk (w.alloc (.cells cs t)) w.heap.size t cs := heap_alloc_new w _
theorem Blk.drew (h : Blk w g t cs) : Blk w.drew g t cs := h
theorem Blk.drewN (h : Blk w g t cs) (n : Nat) : Blk (w.drewN n) g t cs := h
theorem Blk.alloc (h : Blk w g t cs) (o : Obj) : Blk (w.alloc o) g t cs := (Below.heap_alloc w o g h.lt).trans h
theorem Blk.set_ (h : Blk w g t cs) (i : Nat) (u : Value) : Blk (w.setCell ⟨g, i, none⟩ u) g t (cs.setIfInBounds i u) := by
  unfold Blk at h ⊢
  simp [World.setCell, Array.getElem?_modify, h]
theorem Blk.far (h : Blk w g t cs) {p : Addr} (hp : g ≠ p.block) (u : Value) : Blk (w.setCell p u) g t cs := (Below.heap_setCell w p u g hp).trans h
theorem Blk.more (h : Blk w g t cs) (y : World) : Blk (w.more y) g t cs := ((more_below w y).block g h.lt).trans h
theorem Blk.after (h : Blk w g t cs) [k : After w w'] : Blk w' g t cs := (k.below.block g h.lt).trans h
theorem Blk.grown (h : Blk w g t cs) {row : Option Nat} (hb : w.grownBy w' row) (hg : some g ≠ row) : Blk w' g t cs := (hb.block g h.lt hg).trans h
end

theorem grown_of_alloc {w w' : World} {o : Obj} {row : Option Nat} (h : (w.alloc o).grownBy w' row) : w.grownBy w' row :=
  ⟨h.os, h.tape, h.output, Nat.le_trans (by simp) h.size, fun k hk hne => (h.block k (by simp; omega) hne).trans (Below.heap_alloc w o k hk)⟩
theorem after_grown_ {w0 wr w' : World} [h : After w0 wr] {B : Nat} {e : TypeId} {size n : Nat} {v : Value} {xs : List Value} (hown : wr.ownsRow B e size v n xs) (hB : w0.heap.size ≤ B) (hg : wr.grownBy w' v.ownBlock) : After w0 w' :=
  ⟨h.below.grown hg h.below.size fun k hk => Nat.le_trans hB (hown.lt k hk).1⟩
theorem own_ne {w : World} {B : Nat} {e : TypeId} {size n : Nat} {v : Value} {xs : List Value} (hown : w.ownsRow B e size v n xs) {g : Nat} (hg : g < B) : some g ≠ v.ownBlock := by
  intro he
  have := (hown.lt g he.symm).1
  omega
theorem wp_append_gen {P : Program} (wr : World) {o : Oper} {a : Act} {K : Act → World → Prop} {Q : Exit → Act → World → Prop} (s x : Operand) (t : TypeId)
    (ho : o.op = .call { callee := .builtin .append, args := #[s, x], argTypes := #[t, t] }) (B : Nat)
    (e : TypeId) (z : Value) (bytes : Nat) (ht : P.underlying t = some (.slice e)) (hi : (P.info? e).map (fun i => (i.zero, i.size, i.bytes)) = some (some z, 1, bytes)) (hzs : z.cells.size = 1)
    (v : Value) (n : Nat) (xs : List Value) (u : Value) (hs : a.eval s = v) (hown : wr.ownsRow B e 1 v n xs) (hB : B ≤ wr.heap.size)
    (hx : a.eval x = .slice (some ⟨wr.heap.size, 0, none⟩) 1 1) (h1 : u.oneCell' = true) (hn : (n + 1) * bytes ≤ 140737488355328) (hm : n < 140737488355328)
    (h : ∀ v' w', w'.ownsRow B e 1 v' (n + 1) (xs ++ [u]) → wr.grownBy w' v.ownBlock → K (a.put o.dst v') w') :
    o.wp P a (wr.alloc (.cells #[u] e)) K Q := by
  obtain ⟨i, hi1, hi2, hi3, hi4⟩ := info_parts hi
  refine wp_append_own _ s x t ho B e i z 1 bytes ht hi1 hi2 hi3 hi4 hzs (by decide) v n xs hs (hown.alloc _) ⟨wr.heap.size, 0, none⟩ 1 1 [u] hx rfl ?_ ?_ (by unfold maxLen; omega) hn ?_ ?_
  · intro j b hj
    match j, hj with
    | 0, hj => simp at hj; subst hj; simp [Addr.add]
  · intro b hb; simp at hb; subst hb; exact h1
  · exact Nat.le_trans hB (by simp)
  · intro v' w' h2 h3 _
    exact h v' w' h2 (grown_of_alloc h3)
theorem step_append_gen {P : Program} (wr : World) {ops : Array Oper} {o : Oper} {a : Act} {K : Act → World → Prop} {Q : Exit → Act → World → Prop} {E : Prop} (hgd : o.guard = none) (s x : Operand) (t : TypeId)
    (ho : o.op = .call { callee := .builtin .append, args := #[s, x], argTypes := #[t, t] }) (B : Nat)
    (e : TypeId) (z : Value) (bytes : Nat) (ht : P.underlying t = some (.slice e)) (hi : (P.info? e).map (fun i => (i.zero, i.size, i.bytes)) = some (some z, 1, bytes)) (hzs : z.cells.size = 1)
    (v : Value) (n : Nat) (xs : List Value) (u : Value) (hs : a.eval s = v) (hown : wr.ownsRow B e 1 v n xs) (hB : B ≤ wr.heap.size)
    (hx : a.eval x = .slice (some ⟨wr.heap.size, 0, none⟩) 1 1) (h1 : u.oneCell' = true) (hn : (n + 1) * bytes ≤ 140737488355328) (hm : n < 140737488355328)
    (h : ∀ v' w', w'.ownsRow B e 1 v' (n + 1) (xs ++ [u]) → wr.grownBy w' v.ownBlock → K (a.put o.dst v') w') :
    if Region.wanted o (yielded ops a.tmps) = true then o.wp P a (wr.alloc (.cells #[u] e)) K Q else E := by
  rw [if_pos (by simp [Region.wanted, hgd])]
  exact wp_append_gen wr s x t ho B e z bytes ht hi hzs v n xs u hs hown hB hx h1 hn hm h
end Go.Proofs.Ytdghfhnkacfahaa
