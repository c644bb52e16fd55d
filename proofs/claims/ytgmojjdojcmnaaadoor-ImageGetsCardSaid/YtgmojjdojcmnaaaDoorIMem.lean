/-
  Images in memory: instructions, routines, images.
-/
import Derived.Test.YtgmojjdojcmnaaaDoorINums
import Derived.Test.YtgmojjdojcmnaaaDoorGives
set_option linter.unusedVariables false
set_option linter.unusedSimpArgs false
namespace Go.Proofs.YtgmojjdojcmnaaaDoor
open Go.RowKit Go.BigFrame

theorem after_after {w0 w1 w2 : World} (a : After w0 w1) (b : After w1 w2) : After w0 w2 := ⟨a.below.trans (b.below.mono a.below.size)⟩
theorem Blk.new1 (w : World) (o : Obj) (t : TypeId) (cs : Array Value) : Blk ((w.alloc o).alloc (.cells cs t)) (w.heap.size + 1) t cs := by
  have := Blk.new (w.alloc o) t cs; rwa [size_alloc_] at this

/-- the five cells of an instruction -/
structure Five (w : World) (b o : Nat) (i : Ins) : Prop where
  c0 : w.cell? ⟨b, o, none⟩ = some (.int .i64 i.op)
  c1 : w.cell? ⟨b, o + 1, none⟩ = some (.int .i64 i.a)
  c2 : w.cell? ⟨b, o + 2, none⟩ = some (.int .i64 i.b)
  c3 : w.cell? ⟨b, o + 3, none⟩ = some (.int .i64 i.c)
  c4 : w.cell? ⟨b, o + 4, none⟩ = some (.int .i64 i.d)
theorem Five.keep {w w' : World} {b o : Nat} {i : Ins} (h : Five w b o i) (hk : ∀ j, w'.cell? ⟨b, j, none⟩ = w.cell? ⟨b, j, none⟩) : Five w' b o i :=
  ⟨(hk _).trans h.c0, (hk _).trans h.c1, (hk _).trans h.c2, (hk _).trans h.c3, (hk _).trans h.c4⟩
/-- a slice of instructions that reads as l -/
structure RC (w : World) (A : Option Addr) (c : Nat) (l : List Ins) : Prop where
  cells : l = [] ∨ ∃ b p, A = some ⟨b, p, none⟩ ∧ b < w.heap.size ∧ ∀ i x, l[i]? = some x → Five w b (p + i * 5) x
  le : l.length ≤ c
  cap : c ≤ 9223372036854775807
  len : l.length ≤ 140737488355328
theorem RC.below {w w' : World} {A c l} (h : RC w A c l) (hb : Below w.heap.size w w') : RC w' A c l := by
  refine ⟨?_, h.le, h.cap, h.len⟩
  rcases h.cells with e | ⟨b, p, e, hlt, hc⟩
  · exact .inl e
  · exact .inr ⟨b, p, e, Nat.lt_of_lt_of_le hlt hb.size, fun i x hx => (hc i x hx).keep fun j => hb.cell (p := ⟨b, j, none⟩) hlt⟩
theorem RC.here {w0 : World} {A c l} (h : RC w0 A c l) (w : World) [k : After w0 w] : RC w A c l := h.below k.below
theorem RC.nil (w : World) : RC w none 0 [] := ⟨.inl rfl, by simp, by omega, by simp⟩
theorem RC.part {w : World} {A c} {l : List Ins} (h : RC w A c l) {i : Nat} (hi : i < l.length) :
    ∃ b p op a b_ c_ d, A = some ⟨b, p, none⟩ ∧ Le (b + 1) w ∧ Hid (l[i]? = some ⟨op, a, b_, c_, d⟩) ∧
      w.cell? ⟨b, p + i * 5, none⟩ = some (.int .i64 op) ∧ w.cell? ⟨b, p + i * 5 + 1, none⟩ = some (.int .i64 a) ∧ w.cell? ⟨b, p + i * 5 + 2, none⟩ = some (.int .i64 b_) ∧
      w.cell? ⟨b, p + i * 5 + 3, none⟩ = some (.int .i64 c_) ∧ w.cell? ⟨b, p + i * 5 + 4, none⟩ = some (.int .i64 d) := by
  rcases h.cells with e | ⟨b, p, e, hlt, hc⟩
  · subst e; simp at hi
  · have h5 := hc i l[i] (List.getElem?_eq_getElem hi)
    exact ⟨b, p, _, _, _, _, _, e, ⟨hlt⟩, List.getElem?_eq_getElem hi, h5.c0, h5.c1, h5.c2, h5.c3, h5.c4⟩

/-- a routine by value -/
structure RRt (w : World) (s : ByteArray) (A1 : Option Addr) (c1 : Nat) (A2 : Option Addr) (c2 : Nat) (A3 : Option Addr) (c3 : Nat) (A4 : Option Addr) (c4 : Nat) (r : Rtn) : Prop where
  name : s.data.toList = r.name
  size : s.size ≤ 140737488355328
  ins : RI w A1 c1 r.ins
  outs : RI w A2 c2 r.outs
  init : RI w A3 c3 r.init
  code : RC w A4 c4 r.code
theorem RRt.below {w w' : World} {s A1 c1 A2 c2 A3 c3 A4 c4 r} (h : RRt w s A1 c1 A2 c2 A3 c3 A4 c4 r) (hb : Below w.heap.size w w') : RRt w' s A1 c1 A2 c2 A3 c3 A4 c4 r :=
  ⟨h.name, h.size, h.ins.below hb, h.outs.below hb, h.init.below hb, h.code.below hb⟩
theorem RRt.here {w0 : World} {s A1 c1 A2 c2 A3 c3 A4 c4 r} (h : RRt w0 s A1 c1 A2 c2 A3 c3 A4 c4 r) (w : World) [k : After w0 w] : RRt w s A1 c1 A2 c2 A3 c3 A4 c4 r := h.below k.below
theorem RRt.slen {w : World} {s A1 c1 A2 c2 A3 c3 A4 c4 r} (h : RRt w s A1 c1 A2 c2 A3 c3 A4 c4 r) : s.size = r.name.length := by rw [← h.name]; rfl
/-- the six cells of a routine -/
structure Sixr (w : World) (b o : Nat) (s : ByteArray) (A1 : Option Addr) (c1 : Nat) (A2 : Option Addr) (c2 : Nat) (A3 : Option Addr) (c3 : Nat) (A4 : Option Addr) (c4 : Nat) (r : Rtn) : Prop where
  g0 : w.cell? ⟨b, o, none⟩ = some (.string s)
  g1 : w.cell? ⟨b, o + 1, none⟩ = some (.slice A1 r.ins.length c1)
  g2 : w.cell? ⟨b, o + 2, none⟩ = some (.slice A2 r.outs.length c2)
  g3 : w.cell? ⟨b, o + 3, none⟩ = some (.int .i64 r.regs)
  g4 : w.cell? ⟨b, o + 4, none⟩ = some (.slice A3 r.init.length c3)
  g5 : w.cell? ⟨b, o + 5, none⟩ = some (.slice A4 r.code.length c4)
theorem Sixr.keep {w w' : World} {b o : Nat} {s A1 c1 A2 c2 A3 c3 A4 c4 r} (h : Sixr w b o s A1 c1 A2 c2 A3 c3 A4 c4 r) (hk : ∀ j, w'.cell? ⟨b, j, none⟩ = w.cell? ⟨b, j, none⟩) : Sixr w' b o s A1 c1 A2 c2 A3 c3 A4 c4 r :=
  ⟨(hk _).trans h.g0, (hk _).trans h.g1, (hk _).trans h.g2, (hk _).trans h.g3, (hk _).trans h.g4, (hk _).trans h.g5⟩
/-- a slice of routines that reads as l -/
structure RRs (w : World) (A : Option Addr) (c : Nat) (l : List Rtn) : Prop where
  cells : l = [] ∨ ∃ b p, A = some ⟨b, p, none⟩ ∧ b < w.heap.size ∧ ∀ i x, l[i]? = some x → ∃ s A1 c1 A2 c2 A3 c3 A4 c4, Sixr w b (p + i * 6) s A1 c1 A2 c2 A3 c3 A4 c4 x ∧ RRt w s A1 c1 A2 c2 A3 c3 A4 c4 x
  le : l.length ≤ c
  cap : c ≤ 9223372036854775807
  len : l.length ≤ 140737488355328
theorem RRs.below {w w' : World} {A c l} (h : RRs w A c l) (hb : Below w.heap.size w w') : RRs w' A c l := by
  refine ⟨?_, h.le, h.cap, h.len⟩
  rcases h.cells with e | ⟨b, p, e, hlt, hc⟩
  · exact .inl e
  · refine .inr ⟨b, p, e, Nat.lt_of_lt_of_le hlt hb.size, fun i x hx => ?_⟩
    obtain ⟨s, A1, c1, A2, c2, A3, c3, A4, c4, h6, hr⟩ := hc i x hx
    exact ⟨s, A1, c1, A2, c2, A3, c3, A4, c4, h6.keep fun j => hb.cell (p := ⟨b, j, none⟩) hlt, hr.below hb⟩
theorem RRs.here {w0 : World} {A c l} (h : RRs w0 A c l) (w : World) [k : After w0 w] : RRs w A c l := h.below k.below
theorem RRs.nil (w : World) : RRs w none 0 [] := ⟨.inl rfl, by simp, by omega, by simp⟩
theorem RRs.part {w : World} {A c} {l : List Rtn} (h : RRs w A c l) {i : Nat} (hi : i < l.length) :
    ∃ (b p : Nat) (s : ByteArray) (A1 : Option Addr) (c1 : Nat) (A2 : Option Addr) (c2 : Nat) (A3 : Option Addr) (c3 : Nat) (A4 : Option Addr) (c4 : Nat) (r : Rtn), A = some ⟨b, p, none⟩ ∧ Le (b + 1) w ∧ Hid (l[i]? = some r) ∧ Hid (RRt w s A1 c1 A2 c2 A3 c3 A4 c4 r) ∧
      w.cell? ⟨b, p + i * 6, none⟩ = some (.string s) ∧ w.cell? ⟨b, p + i * 6 + 1, none⟩ = some (.slice A1 r.ins.length c1) ∧ w.cell? ⟨b, p + i * 6 + 2, none⟩ = some (.slice A2 r.outs.length c2) ∧
      w.cell? ⟨b, p + i * 6 + 3, none⟩ = some (.int .i64 r.regs) ∧ w.cell? ⟨b, p + i * 6 + 4, none⟩ = some (.slice A3 r.init.length c3) ∧ w.cell? ⟨b, p + i * 6 + 5, none⟩ = some (.slice A4 r.code.length c4) := by
  rcases h.cells with e | ⟨b, p, e, hlt, hc⟩
  · subst e; simp at hi
  · obtain ⟨s, A1, c1, A2, c2, A3, c3, A4, c4, h6, hr⟩ := hc i l[i] (List.getElem?_eq_getElem hi)
    exact ⟨b, p, s, A1, c1, A2, c2, A3, c3, A4, c4, l[i], e, ⟨hlt⟩, List.getElem?_eq_getElem hi, hr, h6.g0, h6.g1, h6.g2, h6.g3, h6.g4, h6.g5⟩
/-- an image by value -/
structure RIm (w : World) (A : Option Addr) (c : Nat) (A' : Option Addr) (c' : Nat) (m : Img) : Prop where
  enums : RI w A c m.enums
  rts : RRs w A' c' m.rts
theorem RIm.below {w w' : World} {A c A' c' m} (h : RIm w A c A' c' m) (hb : Below w.heap.size w w') : RIm w' A c A' c' m := ⟨h.enums.below hb, h.rts.below hb⟩
theorem RIm.here {w0 : World} {A c A' c' m} (h : RIm w0 A c A' c' m) (w : World) [k : After w0 w] : RIm w A c A' c' m := h.below k.below
end Go.Proofs.YtgmojjdojcmnaaaDoor
