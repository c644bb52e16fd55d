/-
  A queue, a row that a call makes, and a box beside them: each step on one keeps the others.
-/
import Derived.Test.YtglfocldoaigiaaPush
import Derived.Test.YtglfocldoaigiaaPlayF
import Derived.Test.YtglfocldoaigiaaRNeed
namespace Go.Proofs.Ytglfocldoaigiaa
open Go.RowKit Go.BigFrame

def LinkR (w0 w : World) (bx : Nat) (cs : Array Value) (g : Nat) (room : Int) (q : List Int) (peak : Int) (v : Value) (out : List Int) (r ro : Option Nat) : Prop :=
  QIs w 77 g room q peak r ∧ QRow w 3 v (iv out) ro ∧ Blk w bx 24 cs ∧ ro ≠ some g ∧ (∀ k, r = some k → ro ≠ some k) ∧ bx ≠ g ∧ r ≠ some bx ∧ ro ≠ some bx ∧
    w0.heap.size ≤ g ∧ (∀ k, r = some k → w0.heap.size ≤ k) ∧ (∀ k, ro = some k → w0.heap.size ≤ k)
structure Link (w0 w : World) (bx : Nat) (cs : Array Value) (g : Nat) (room : Int) (q : List Int) (peak : Int) (v : Value) (out : List Int) : Prop where
  aft : After w0 w
  ex : ∃ r ro, LinkR w0 w bx cs g room q peak v out r ro
section
variable {w0 w : World} {bx : Nat} {cs : Array Value} {g : Nat} {room : Int} {q out : List Int} {peak : Int} {v : Value}
theorem Link.box (h : Link w0 w bx cs g room q peak v out) : Blk w bx 24 cs := by obtain ⟨r, ro, _, _, k, _⟩ := h.ex; exact k
theorem Link.after (h : Link w0 w bx cs g room q peak v out) {w' : World} (k : After w w') : Link w0 w' bx cs g room q peak v out := by
  obtain ⟨r, ro, h1, h2, h3, h4⟩ := h.ex
  have := h.aft
  exact ⟨⟨h.aft.below.trans (k.below.mono h.aft.below.size)⟩, r, ro, h1.after, h2.keep fun b hb => k.below.block b (h2.lt hb), h3.after, h4⟩
theorem Link.stepQ {r ro r' : Option Nat} (aft : After w0 w) (h : LinkR w0 w bx cs g room q peak v out r ro) {w' : World} {q' : List Int} {peak' : Int}
    (h1' : QIs w' 77 g room q' peak' r') (f : Frame2 w w' g r) (hr' : ∀ k, r' = some k → r = some k ∨ w.heap.size ≤ k) : Link w0 w' bx cs g room q' peak' v out := by
  obtain ⟨h1, h2, h3, k1, k2, k3, k4, k5, b1, b2, b3⟩ := h
  have hbx := h3.lt
  refine ⟨Frame2.is_after f b1 b2, r', ro, h1', h2.keep fun b hb => f.block b (h2.lt hb) (fun e => k1 (by rw [hb, e])) (fun e => k2 b e.symm hb), (f.block bx hbx k3 (fun e => k4 e.symm)).trans h3, k1, fun k hk e => ?_, k3, fun e => ?_, k5, b1, fun k hk => ?_, b3⟩
  · rcases hr' k hk with h | h
    · exact k2 k h e
    · have := h2.lt e; omega
  · rcases hr' bx e with h | h
    · exact k4 h
    · omega
  · rcases hr' k hk with h | h
    · exact b2 k h
    · exact Nat.le_trans aft.below.size h
theorem Link.stepO {r ro ro' : Option Nat} (aft : After w0 w) (h : LinkR w0 w bx cs g room q peak v out r ro) {w' : World} {v' : Value} {out' : List Int}
    (h2' : QRow w' 3 v' (iv out') ro') (f : w.grownBy w' ro) (hr' : ∀ k, ro' = some k → ro = some k ∨ w.heap.size ≤ k) : Link w0 w' bx cs g room q peak v' out' := by
  obtain ⟨h1, h2, h3, k1, k2, k3, k4, k5, b1, b2, b3⟩ := h
  have hbx := h3.lt
  obtain ⟨v0, hb, hq⟩ := h1.row
  have hg := hb.lt
  have hr := fun k hk => hq.lt (g := k) hk
  refine ⟨⟨aft.below.grown f aft.below.size fun k hk => b3 k hk⟩, r, ro', ⟨⟨v0, (f.block g hg (fun e => k1 e.symm)).trans hb, hq.keep fun b hb => f.block b (hq.lt hb) (fun e => k2 b hb e.symm)⟩, h1.apart⟩, h2',
    (f.block bx hbx (fun e => k5 e.symm)).trans h3, fun e => ?_, fun k hk e => ?_, k3, k4, fun e => ?_, b1, b2, fun k hk => ?_⟩
  · rcases hr' g e with h | h
    · exact k1 h
    · omega
  · rcases hr' k e with h | h
    · exact k2 k hk h
    · have := hr k hk; omega
  · rcases hr' bx e with h | h
    · exact k5 h
    · omega
  · rcases hr' k hk with h | h
    · exact b3 k h
    · exact Nat.le_trans aft.below.size h
theorem Link.reads (h : Link w0 w bx cs g room q peak v out) (hl : out.length ≤ 1000000) : ∃ A c, v = .slice A out.length c ∧ RI w A c out := by
  obtain ⟨r, ro, h1, h2, _⟩ := h.ex
  obtain ⟨A, c, rfl, hc, hm⟩ := h2.slice
  have e0 : (iv out).length = out.length := by simp [iv]
  have hr := h2.reads
  rw [e0] at hr hc ⊢
  exact ⟨A, c, rfl, hr, hc, hm, by omega⟩
theorem Link.queue (h : Link w0 w bx cs g room q peak v out) : ∃ r, QIs w 77 g room q peak r := by obtain ⟨r, ro, h1, _⟩ := h.ex; exact ⟨r, h1⟩
theorem Link.slice (h : Link w0 w bx cs g room q peak v out) : ∃ A c, v = .slice A out.length c := by
  obtain ⟨r, ro, h1, h2, _⟩ := h.ex
  obtain ⟨A, c, rfl, hc, hm⟩ := h2.slice
  exact ⟨A, c, by simp [iv]⟩

theorem link_push (h : Link w0 w bx cs g room q peak v out) (k : Int) (hf : (q.length : Int) < room) (hmax : room ≤ 100000) :
    Calls Try.prog 39 #[.pointer (some ⟨g, 0, none⟩), .int .i64 k] w fun e w' => e = .returned (.int .i64 0) ∧ Link w0 w' bx cs g room (q ++ [k]) (max peak (q.length + 1)) v out := by
  obtain ⟨r, ro, hh⟩ := h.ex
  refine (push_room hh.1 k hf hmax).mono ?_
  rintro e w' ⟨rfl, r', q, f, hr⟩
  exact ⟨rfl, Link.stepQ h.aft hh q f hr⟩
theorem link_push_full (h : Link w0 w bx cs g room q peak v out) (k : Int) (hf : room ≤ q.length) :
    Calls Try.prog 39 #[.pointer (some ⟨g, 0, none⟩), .int .i64 k] w fun e w' => e = .returned (.int .i64 18) ∧ After w w' := by
  obtain ⟨r, ro, hh⟩ := h.ex
  refine (push_full hh.1 k hf).mono ?_
  rintro e w' ⟨rfl, y, rfl⟩
  exact ⟨rfl, inferInstance⟩
theorem link_pop {x : Int} (h : Link w0 w bx cs g room (x :: q) peak v out) :
    Calls Try.prog 37 #[.pointer (some ⟨g, 0, none⟩)] w fun e w' => e = .returned (.tuple #[.int .i64 x, .int .i64 0]) ∧ Link w0 w' bx cs g room q peak v out := by
  obtain ⟨r, ro, hh⟩ := h.ex
  refine (pop_some hh.1).mono ?_
  rintro e w' ⟨rfl, q, f⟩
  exact ⟨rfl, Link.stepQ h.aft hh q f fun k hk => .inl hk⟩
theorem link_pop_empty (h : Link w0 w bx cs g room [] peak v out) :
    Calls Try.prog 37 #[.pointer (some ⟨g, 0, none⟩)] w fun e w' => e = .returned (.tuple #[.int .i64 0, .int .i64 19]) ∧ After w w' := by
  obtain ⟨r, ro, hh⟩ := h.ex
  refine (pop_empty hh.1).mono ?_
  rintro e w' ⟨rfl, rfl⟩
  exact ⟨rfl, inferInstance⟩

theorem link_append {P : Program} {A : Option Addr} {n c : Nat} (h : Link w0 w bx cs g room q peak (.slice A n c) out) {ops : Array Oper} {rest : List Oper} {o : Oper} {a : Act} {Q : Exit → Act → World → Prop} (hgd : o.guard = none) (s x : Operand) (t : TypeId)
    (ho : o.op = .call { callee := .builtin .append, args := #[s, x], argTypes := #[t, t] })
    (ht : P.underlying t = some (.slice 3)) (hi : (P.info? 3).map (fun i => (i.zero, i.size, i.bytes)) = some (some (.int .i64 0), 1, 8))
    (hs : a.eval s = .slice A n c) (z : Int) (hx : a.eval x = .slice (some ⟨w.heap.size, 0, none⟩) 1 1) (hl : out.length ≤ 1000000)
    (hk : ∀ A' c' w', Link w0 w' bx cs g room q peak (.slice A' (out.length + 1) c') (out ++ [z]) → wpList P ops Q rest (a.put o.dst (.slice A' (out.length + 1) c')) w') :
    wpList P ops Q (o :: rest) a (w.alloc (.cells #[.int .i64 z] 3)) := by
  obtain ⟨i0, hi0, hz0, hz1, hz2⟩ := info_parts hi
  have h' := h.after (w' := w.alloc (.cells #[.int .i64 z] 3)) inferInstance
  obtain ⟨r, ro, hh⟩ := h'.ex
  have e0 : (iv out).length = out.length := by simp [iv]
  refine wpList_append_q _ hgd s x t ho 3 i0 _ 8 ht hi0 hz0 hz1 hz2 rfl _ (iv out) ro hs hh.2.1 ⟨w.heap.size, 0, none⟩ (.int .i64 z) hx ((Blk.new w 3 #[.int .i64 z]).cell 0) rfl (by rw [e0]; unfold maxLen; omega) (by rw [e0]; omega) ?_
  intro v1 w1 r1 hq1 hg1 hr1
  have e1 : iv out ++ [.int .i64 z] = iv (out ++ [z]) := by simp [iv]
  rw [e1] at hq1
  have hL := Link.stepO h'.aft hh hq1 hg1 hr1
  obtain ⟨A', c', e2⟩ := hL.slice
  rw [e2] at hL ⊢
  have e3 : (out ++ [z]).length = out.length + 1 := by simp
  rw [e3] at hL ⊢
  exact hk A' c' w1 hL
end
end Go.Proofs.Ytglfocldoaigiaa
