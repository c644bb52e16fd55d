/-
  Append of bytes onto bytes of the call's own.
-/
import Derived.Test.YtgmojjdojcmnaaaDoorIGetF
set_option linter.unusedVariables false
set_option linter.unusedSimpArgs false
namespace Go.Proofs.YtgmojjdojcmnaaaDoor
open Go.RowKit Go.BigFrame

/-- bytes in a row of the call's own, made at or above B -/
structure OB (w : World) (B : Nat) (v : Value) (l : List UInt8) : Prop where
  own : w.ownsRow B 5 1 v l.length (yv l)
theorem OB.new (w : World) : OB (w.alloc (.cells #[] 5)) w.heap.size (.slice (some ⟨w.heap.size, 0, none⟩) 0 0) [] :=
  ⟨World.ownsRow_lit (e := 5) (size := 1) w #[] 0 (Nat.le_refl _) (by unfold maxLen; omega) rfl⟩
theorem OB.bytes {w : World} {B : Nat} {v : Value} {l : List UInt8} (h : OB w B v l) (hl : l.length ≤ 140737488355328) : ∃ A c, v = .slice A l.length c ∧ RY w A c l := RY.of_own h.own hl
theorem OB.here {w0 : World} {B : Nat} {v : Value} {l : List UInt8} (h : OB w0 B v l) (w : World) [k : After w0 w] : OB w B v l := ⟨own_after h.own k⟩
theorem wpList_app {ops : Array Oper} {rest : List Oper} {o : Oper} {a : Act} {Q : Exit → Act → World → Prop} {w : World} (hgd : o.guard = none) (s x : Operand)
    (ho : o.op = .call { callee := .builtin .append, args := #[s, x], argTypes := #[22, 22] })
    (B : Nat) (v : Value) (l : List UInt8) (hs : a.eval s = v) (hown : OB w B v l) (A : Option Addr) (m c : Nat) (l2 : List UInt8) (hx : a.eval x = .slice A m c) (hm : l2.length = m) (x2 : RY w A c l2)
    (hsum : l.length + m ≤ 140737488355328) (hbase : B ≤ w.heap.size)
    (h : ∀ v' w', OB w' B v' (l ++ l2) → (∀ w0 : World, After w0 w → w0.heap.size ≤ B → After w0 w') → wpList Tryd.prog ops Q rest (a.put o.dst v') w') : wpList Tryd.prog ops Q (o :: rest) a w := by
  obtain ⟨i0, hi, hz0, hz1, hz2⟩ := info_parts byteInfo
  subst hm
  refine wpList_append_any w hgd s x 22 ho B 5 i0 (.int .u8 0) 1 1 Tryd.underlying22 hi hz0 hz1 hz2 rfl (by omega) v l.length (yv l) hs hown.own w.heap.size A l2.length c (yv l2) hx x2.reads (fun u hu => yv_one hu) (by unfold maxLen; omega) (by omega) hbase ?_
  intro v' w' h1 h2 _
  refine h v' w' ⟨by rw [List.length_append, yv_append]; exact h1⟩ fun w0 h0 hB => ?_
  have := h0
  exact after_grown_ hown.own hB h2
end Go.Proofs.YtgmojjdojcmnaaaDoor
