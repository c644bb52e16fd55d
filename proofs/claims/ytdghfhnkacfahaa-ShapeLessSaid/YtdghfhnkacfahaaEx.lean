/-
  Expressions xs data: a tree with the place of each list of arguments; how it lies in memory.
-/
import Derived.Test.YtdghfhnkacfahaaAny
namespace Go.Proofs.Ytdghfhnkacfahaa
open Go.RowKit Go.BigFrame
set_option linter.unusedVariables false

/-- an expression: kind, operator, type, value, name, arguments; A, c: where the arguments lie -/
inductive Tx where
  | mk (k o t v : Int) (s : ByteArray) (A : Option Addr) (c : Nat) (xs : List Tx)
namespace Tx
def kind : Tx → Int | mk k _ _ _ _ _ _ _ => k
def op : Tx → Int | mk _ o _ _ _ _ _ _ => o
def ty : Tx → Int | mk _ _ t _ _ _ _ _ => t
def va : Tx → Int | mk _ _ _ v _ _ _ _ => v
def name : Tx → ByteArray | mk _ _ _ _ s _ _ _ => s
def ad : Tx → Option Addr | mk _ _ _ _ _ A _ _ => A
def cap : Tx → Nat | mk _ _ _ _ _ _ c _ => c
def args : Tx → List Tx | mk _ _ _ _ _ _ _ xs => xs
/-- the value in Go -/
def val (e : Tx) : Value := .agg #[.int .i64 e.kind, .int .i64 e.op, .int .i64 e.ty, .int .i64 e.va, .string e.name, .slice e.ad e.args.length e.cap]
/-- its cells -/
def cells (e : Tx) : Array Value := #[.int .i64 e.kind, .int .i64 e.op, .int .i64 e.ty, .int .i64 e.va, .string e.name, .slice e.ad e.args.length e.cap]
mutual
def size : Tx → Nat
  | mk _ _ _ _ _ _ _ xs => sizes xs + 1
def sizes : List Tx → Nat
  | [] => 0
  | a :: xs => size a + sizes xs
end
mutual
def depth : Tx → Nat
  | mk _ _ _ _ _ _ _ xs => depths xs + 1
def depths : List Tx → Nat
  | [] => 0
  | a :: xs => max (depth a) (depths xs)
end
-- an expression and all in it, each one before its arguments
mutual
def list : Tx → List Tx
  | mk k o t v s A c xs => mk k o t v s A c xs :: lists xs
def lists : List Tx → List Tx
  | [] => []
  | a :: xs => list a ++ lists xs
end
theorem size_eq (e : Tx) : e.size = sizes e.args + 1 := by cases e; rw [size]; rfl
theorem depth_eq (e : Tx) : e.depth = depths e.args + 1 := by cases e; rw [depth]; rfl
theorem list_eq (e : Tx) : e.list = e :: lists e.args := by cases e; rw [list]; rfl
theorem sizes_append (a b : List Tx) : sizes (a ++ b) = sizes a + sizes b := by
  induction a with
  | nil => simp [sizes]
  | cons x a ih => rw [List.cons_append, sizes, sizes, ih]; omega
theorem lists_append (a b : List Tx) : lists (a ++ b) = lists a ++ lists b := by
  induction a with
  | nil => simp [lists]
  | cons x a ih => rw [List.cons_append, lists, lists, ih, List.append_assoc]
theorem depths_append (a b : List Tx) : depths (a ++ b) = max (depths a) (depths b) := by
  induction a with
  | nil => simp [depths]
  | cons x a ih => rw [List.cons_append, depths, depths, ih]; omega
theorem sizes_one (a : Tx) : sizes [a] = size a := by simp [sizes]
theorem lists_one (a : Tx) : lists [a] = list a := by simp [lists]
theorem depths_one (a : Tx) : depths [a] = depth a := by simp [depths]
theorem take_succ {l : List Tx} {k : Nat} {e : Tx} (h : l[k]? = some e) : l.take (k + 1) = l.take k ++ [e] := by
  obtain ⟨hk, rfl⟩ := List.getElem?_eq_some_iff.1 h
  exact List.take_succ_eq_append_getElem hk
theorem sizes_take {l : List Tx} {k : Nat} {e : Tx} (h : l[k]? = some e) : sizes (l.take (k + 1)) = sizes (l.take k) + size e := by rw [take_succ h, sizes_append, sizes_one]
theorem depths_take {l : List Tx} {k : Nat} {e : Tx} (h : l[k]? = some e) : depths (l.take (k + 1)) = max (depths (l.take k)) (depth e) := by rw [take_succ h, depths_append, depths_one]
theorem lists_take {l : List Tx} {k : Nat} {e : Tx} (h : l[k]? = some e) : lists (l.take (k + 1)) = lists (l.take k) ++ list e := by rw [take_succ h, lists_append, lists_one]
theorem size_pos (e : Tx) : 0 < e.size := by rw [size_eq]; omega
theorem sizes_mem {l : List Tx} {k : Nat} {e : Tx} (h : l[k]? = some e) : size e ≤ sizes l := by
  have h1 := sizes_take h
  have h2 := sizes_append (l.take (k + 1)) (l.drop (k + 1))
  rw [List.take_append_drop] at h2
  omega
theorem sizes_take_le (l : List Tx) (k : Nat) : sizes (l.take k) ≤ sizes l := by
  have h2 := sizes_append (l.take k) (l.drop k)
  rw [List.take_append_drop] at h2
  omega
mutual
theorem list_length : ∀ e : Tx, (list e).length = size e
  | mk k o t v s A c xs => by rw [list, size, List.length_cons, lists_length xs]
theorem lists_length : ∀ xs : List Tx, (lists xs).length = sizes xs
  | [] => rfl
  | a :: xs => by rw [lists, sizes, List.length_append, list_length a, lists_length xs]
end
theorem args_length_le (e : Tx) : e.args.length + 1 ≤ e.size := by
  rw [size_eq]
  have : ∀ l : List Tx, l.length ≤ sizes l := by
    intro l
    induction l with
    | nil => simp
    | cons a l ih => rw [sizes, List.length_cons]; have := size_pos a; omega
  have := this e.args
  omega
mutual
theorem depth_le_size : ∀ e : Tx, depth e ≤ size e
  | mk k o t v s A c xs => by rw [depth, size]; have := depths_le_sizes xs; omega
theorem depths_le_sizes : ∀ xs : List Tx, depths xs ≤ sizes xs
  | [] => by simp [depths]
  | a :: xs => by rw [depths, sizes]; have := depth_le_size a; have := depths_le_sizes xs; omega
end
end Tx

/-! ### in memory -/
/-- the six cells of an expression from o on in block b -/
structure Six (w : World) (b o : Nat) (e : Tx) : Prop where
  c0 : w.cell? ⟨b, o, none⟩ = some (.int .i64 e.kind)
  c1 : w.cell? ⟨b, o + 1, none⟩ = some (.int .i64 e.op)
  c2 : w.cell? ⟨b, o + 2, none⟩ = some (.int .i64 e.ty)
  c3 : w.cell? ⟨b, o + 3, none⟩ = some (.int .i64 e.va)
  c4 : w.cell? ⟨b, o + 4, none⟩ = some (.string e.name)
  c5 : w.cell? ⟨b, o + 5, none⟩ = some (.slice e.ad e.args.length e.cap)
mutual
-- the arguments of e, and theirs, lie in w
def RX (w : World) : Tx → Prop
  | .mk _ _ _ _ s A c xs => s.size ≤ 140737488355328 ∧ xs.length ≤ c ∧ c ≤ 9223372036854775807 ∧ xs.length ≤ 140737488355328 ∧ (xs = [] ∨ ∃ b o, A = some ⟨b, o, none⟩ ∧ b < w.heap.size ∧ RXs w b o xs)
def RXs (w : World) (b : Nat) : Nat → List Tx → Prop
  | _, [] => True
  | o, e :: es => Six w b o e ∧ RX w e ∧ RXs w b (o + 6) es
end
theorem Six.keep {w w' : World} {b o : Nat} {e : Tx} (h : Six w b o e) (hk : ∀ i, w'.cell? ⟨b, i, none⟩ = w.cell? ⟨b, i, none⟩) : Six w' b o e :=
  ⟨(hk _).trans h.c0, (hk _).trans h.c1, (hk _).trans h.c2, (hk _).trans h.c3, (hk _).trans h.c4, (hk _).trans h.c5⟩
mutual
theorem RX.below {w w' : World} (hb : Below w.heap.size w w') : ∀ {e : Tx}, RX w e → RX w' e
  | .mk _ _ _ _ s A c xs, h => by
    rw [RX] at h ⊢
    obtain ⟨h1, h2, h3, h4, h5⟩ := h
    refine ⟨h1, h2, h3, h4, ?_⟩
    rcases h5 with h5 | ⟨b, o, h5, h6, h7⟩
    · exact .inl h5
    · exact .inr ⟨b, o, h5, Nat.lt_of_lt_of_le h6 hb.size, RXs.below hb h6 h7⟩
theorem RXs.below {w w' : World} (hb : Below w.heap.size w w') {b : Nat} (hlt : b < w.heap.size) : ∀ {o : Nat} {es : List Tx}, RXs w b o es → RXs w' b o es
  | _, [], _ => by rw [RXs]; trivial
  | o, e :: es, h => by
    rw [RXs] at h ⊢
    exact ⟨h.1.keep (fun i => hb.cell (p := ⟨b, i, none⟩) hlt), RX.below hb h.2.1, RXs.below hb hlt h.2.2⟩
end
theorem RX.here {w0 : World} {e : Tx} (h : RX w0 e) (w : World) [k : After w0 w] : RX w e := h.below k.below
theorem RX.bounds {w : World} {e : Tx} (h : RX w e) : e.name.size ≤ 140737488355328 ∧ e.args.length ≤ e.cap ∧ e.cap ≤ 9223372036854775807 ∧ e.args.length ≤ 140737488355328 := by
  cases e; rw [RX] at h; exact ⟨h.1, h.2.1, h.2.2.1, h.2.2.2.1⟩
theorem RXs.get {w : World} {b : Nat} : ∀ {o : Nat} {es : List Tx} {i : Nat} {e : Tx}, RXs w b o es → es[i]? = some e → Six w b (o + i * 6) e ∧ RX w e
  | o, [], i, e, _, hi => by simp at hi
  | o, a :: es, 0, e, h, hi => by rw [RXs] at h; simp at hi; subst hi; exact ⟨by simpa using h.1, h.2.1⟩
  | o, a :: es, i + 1, e, h, hi => by
    rw [RXs] at h
    have := RXs.get h.2.2 (i := i) (e := e) (by simpa using hi)
    rw [show o + (i + 1) * 6 = o + 6 + i * 6 by omega]; exact this
/-- an argument: where it lies, its cells, and that it lies in w too -/
theorem RX.arg {w : World} {e : Tx} (h : RX w e) {i : Nat} (hi : i < e.args.length) :
    ∃ b o a, e.ad = some ⟨b, o, none⟩ ∧ Le (b + 1) w ∧ e.args[i]? = some a ∧ Six w b (o + i * 6) a ∧ RX w a := by
  cases e with
  | mk k o t v s A c xs =>
    rw [RX] at h
    rcases h.2.2.2.2 with h5 | ⟨b, o, h5, h6, h7⟩
    · simp [Tx.args, h5] at hi
    · have hi' : xs[i]? = some xs[i] := List.getElem?_eq_getElem hi
      obtain ⟨g1, g2⟩ := h7.get hi'
      exact ⟨b, o, xs[i], h5, ⟨h6⟩, hi', g1, g2⟩
/-- all in it lie in w -/
theorem RXs.all {w : World} {b : Nat} : ∀ {o : Nat} {es : List Tx}, RXs w b o es → ∀ x ∈ es, RX w x
  | _, [], _, x, hx => by simp at hx
  | o, e :: es, h, x, hx => by
    rw [RXs] at h
    rcases List.mem_cons.1 hx with rfl | hx
    · exact h.2.1
    · exact RXs.all h.2.2 x hx
theorem RX.all {w : World} {e : Tx} (h : RX w e) : ∀ x ∈ e.args, RX w x := by
  cases e with
  | mk k o t v s A c xs =>
    rw [RX] at h
    rcases h.2.2.2.2 with h5 | ⟨b, o, h5, h6, h7⟩
    · simp [Tx.args, h5]
    · exact h7.all
mutual
theorem RX.list {w : World} : ∀ {e : Tx}, RX w e → ∀ x ∈ e.list, RX w x
  | .mk k o t v s A c xs, h, x, hx => by
    rw [Tx.list] at hx
    rcases List.mem_cons.1 hx with rfl | hx
    · exact h
    · exact RX.lists (fun y hy => h.all y hy) x hx
theorem RX.lists {w : World} : ∀ {xs : List Tx}, (∀ y ∈ xs, RX w y) → ∀ x ∈ Tx.lists xs, RX w x
  | [], _, x, hx => by simp [Tx.lists] at hx
  | a :: xs, h, x, hx => by
    rw [Tx.lists] at hx
    rcases List.mem_append.1 hx with hx | hx
    · exact RX.list (h a (by simp)) x hx
    · exact RX.lists (fun y hy => h y (by simp [hy])) x hx
end
/-- an argument, its parts under names of their own -/
theorem RX.part {w : World} {k o t v : Int} {s : ByteArray} {A : Option Addr} {c : Nat} {xs : List Tx} (h : RX w (.mk k o t v s A c xs)) {i : Nat} (hi : i < xs.length) :
    ∃ b p k1 o1 t1 v1 s1 A1 c1 xs1, A = some ⟨b, p, none⟩ ∧ Le (b + 1) w ∧ Hid (xs[i]? = some (.mk k1 o1 t1 v1 s1 A1 c1 xs1)) ∧ Hid (RX w (.mk k1 o1 t1 v1 s1 A1 c1 xs1)) ∧
      w.cell? ⟨b, p + i * 6, none⟩ = some (.int .i64 k1) ∧ w.cell? ⟨b, p + i * 6 + 1, none⟩ = some (.int .i64 o1) ∧ w.cell? ⟨b, p + i * 6 + 2, none⟩ = some (.int .i64 t1) ∧ w.cell? ⟨b, p + i * 6 + 3, none⟩ = some (.int .i64 v1) ∧
      w.cell? ⟨b, p + i * 6 + 4, none⟩ = some (.string s1) ∧ w.cell? ⟨b, p + i * 6 + 5, none⟩ = some (.slice A1 xs1.length c1) := by
  obtain ⟨b, p, a, e, hb, hx, h6, hr⟩ := h.arg (i := i) hi
  cases a with
  | mk k1 o1 t1 v1 s1 A1 c1 xs1 => exact ⟨b, p, k1, o1, t1, v1, s1, A1, c1, xs1, e, hb, hx, hr, h6.c0, h6.c1, h6.c2, h6.c3, h6.c4, h6.c5⟩
/-- a count as an int holds it -/
def szN (n : Nat) : Int := wrap64 (n : Int)
theorem wrap_one (a : Int) : wrap64 (wrap64 a + 1) = wrap64 (a + 1) := by unfold wrap64; omega
theorem szN_zero : szN 0 = 0 := by unfold szN wrap64; omega
theorem szN_succ (n : Nat) : wrap64 (szN n + 1) = szN (n + 1) := wrap_one n
/-- the size of an expression as an int holds it -/
def szW (e : Tx) : Int := szN e.size
mutual
/-- the depth of an expression as an int holds it -/
def dpW : Tx → Int
  | .mk _ _ _ _ _ _ _ xs => wrap64 (dpsW xs + 1)
def dpsW : List Tx → Int
  | [] => 0
  | x :: l => max (dpW x) (dpsW l)
end
theorem dpsW_append (a b : List Tx) : dpsW (a ++ b) = max (dpsW a) (dpsW b) := by
  induction a with
  | nil =>
    have h : ∀ b : List Tx, 0 ≤ dpsW b := fun b => by
      induction b with
      | nil => simp [dpsW]
      | cons x l ih => rw [dpsW]; omega
    rw [List.nil_append, dpsW]; have := h b; omega
  | cons x a ih => rw [List.cons_append, dpsW, dpsW, ih]; omega
theorem dpsW_take {l : List Tx} {k : Nat} {e : Tx} (h : l[k]? = some e) : dpsW (l.take (k + 1)) = max (dpsW (l.take k)) (dpW e) := by
  rw [Tx.take_succ h, dpsW_append]
  have h0 : ∀ b : List Tx, 0 ≤ dpsW b := fun b => by
    induction b with
    | nil => simp [dpsW]
    | cons x l ih => rw [dpsW]; omega
  have := h0 (l.take k)
  rw [dpsW, dpsW]; omega
end Go.Proofs.Ytdghfhnkacfahaa
