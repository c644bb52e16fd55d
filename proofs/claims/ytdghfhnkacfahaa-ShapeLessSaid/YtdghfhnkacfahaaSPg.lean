/-
  Programs as data, with the place of each list; how they lie in memory.
-/
import Derived.Test.YtdghfhnkacfahaaBlk
import Derived.Test.YtdghfhnkacfahaaEx
set_option linter.unusedVariables false
set_option linter.unusedSimpArgs false
namespace Go.Proofs.Ytdghfhnkacfahaa
open Go.RowKit Go.BigFrame

/-- a list and where it lies -/
structure Lst (α : Type) where
  A : Option Addr
  c : Nat
  l : List α
def Lst.val {α : Type} (x : Lst α) : Value := .slice x.A x.l.length x.c
structure OnD where
  name : ByteArray
  t : Int
  tag : Int
structure DeclD where
  name : ByteArray
  ty : Int
  clock : Lst OnD
structure EnD where
  name : ByteArray
  tags : Lst ByteArray
structure EqD where
  left : Lst ByteArray
  right : Tx
structure TrD where
  cond : Tx
  dst : Int
  res : Bool
mutual
inductive StT where
  | mk (name : ByteArray) (locals : Lst DeclD) (eqs : Lst EqD) (A : Option Addr) (c : Nat) (autos : List AuT) (unl : Lst TrD) (unt : Lst TrD)
inductive AuT where
  | mk (A : Option Addr) (c : Nat) (states : List StT)
end
structure NdD where
  name : ByteArray
  ins : Lst DeclD
  outs : Lst DeclD
  locals : Lst DeclD
  eqs : Lst EqD
  autos : Lst AuT
  assume : Lst Tx
  ensure : Lst Tx
structure PgD where
  enums : Lst EnD
  nodes : Lst NdD

/-- a row of structs of sz cells in memory: P says what lies at an offset of a block -/
structure RowOf {α : Type} (sz : Nat) (P : World → Nat → Nat → α → Prop) (w : World) (x : Lst α) : Prop where
  cells : x.l = [] ∨ ∃ b p, x.A = some ⟨b, p, none⟩ ∧ b < w.heap.size ∧ ∀ i y, x.l[i]? = some y → P w b (p + i * sz) y
  le : x.l.length ≤ x.c
  cap : x.c ≤ 9223372036854775807
  len : x.l.length ≤ 140737488355328
/-- what lies in old blocks stays -/
def Keeps {α : Type} (P : World → Nat → Nat → α → Prop) : Prop := ∀ (w w' : World) (b o : Nat) (y : α), Below w.heap.size w w' → b < w.heap.size → P w b o y → P w' b o y
theorem RowOf.below {α : Type} {sz : Nat} {P : World → Nat → Nat → α → Prop} (hP : Keeps P) {w w' : World} {x : Lst α} (h : RowOf sz P w x) (hb : Below w.heap.size w w') : RowOf sz P w' x := by
  refine ⟨?_, h.le, h.cap, h.len⟩
  rcases h.cells with e | ⟨b, p, e, hlt, hc⟩
  · exact .inl e
  · exact .inr ⟨b, p, e, Nat.lt_of_lt_of_le hlt hb.size, fun i y hy => hP _ _ _ _ _ hb hlt (hc i y hy)⟩
theorem RowOf.part {α : Type} {sz : Nat} {P : World → Nat → Nat → α → Prop} {w : World} {x : Lst α} (h : RowOf sz P w x) {i : Nat} (hi : i < x.l.length) :
    ∃ b p y, x.A = some ⟨b, p, none⟩ ∧ Le (b + 1) w ∧ Hid (x.l[i]? = some y) ∧ P w b (p + i * sz) y := by
  rcases h.cells with e | ⟨b, p, e, hlt, hc⟩
  · rw [e] at hi; simp at hi
  · exact ⟨b, p, x.l[i], e, ⟨hlt⟩, List.getElem?_eq_getElem hi, hc i _ (List.getElem?_eq_getElem hi)⟩
theorem RowOf.elem {α : Type} {sz : Nat} {P : World → Nat → Nat → α → Prop} {w : World} {x : Lst α} (h : RowOf sz P w x) {i : Nat} {y : α} (hy : x.l[i]? = some y) : ∃ b o, P w b o y := by
  rcases h.cells with e | ⟨b, p, e, hlt, hc⟩
  · rw [e] at hy; simp at hy
  · exact ⟨b, _, hc i y hy⟩
theorem RowOf.nil {α : Type} {sz : Nat} {P : World → Nat → Nat → α → Prop} (w : World) : RowOf sz P w ⟨none, 0, []⟩ := ⟨.inl rfl, by simp, Nat.zero_le _, by simp⟩

/-! ### the structs -/
/-- the types' numbers are numbers of the machine -/
def TxB (e : Tx) : Prop := ∀ x ∈ e.list, x.ty ≤ 9223372036854775807
def PStr (w : World) (b o : Nat) (s : ByteArray) : Prop := w.cell? ⟨b, o, none⟩ = some (.string s) ∧ s.size ≤ 140737488355328
structure POn (w : World) (b o : Nat) (x : OnD) : Prop where
  tb : x.t ≤ 9223372036854775807
  c0 : w.cell? ⟨b, o, none⟩ = some (.string x.name)
  c1 : w.cell? ⟨b, o + 1, none⟩ = some (.int .i64 x.t)
  c2 : w.cell? ⟨b, o + 2, none⟩ = some (.int .i64 x.tag)
  nm : x.name.size ≤ 140737488355328
structure PDecl (w : World) (b o : Nat) (x : DeclD) : Prop where
  tb : x.ty ≤ 9223372036854775807
  c0 : w.cell? ⟨b, o, none⟩ = some (.string x.name)
  c1 : w.cell? ⟨b, o + 1, none⟩ = some (.int .i64 x.ty)
  c2 : w.cell? ⟨b, o + 2, none⟩ = some (.slice x.clock.A x.clock.l.length x.clock.c)
  nm : x.name.size ≤ 140737488355328
  cl : RowOf 3 POn w x.clock
structure PEn (w : World) (b o : Nat) (x : EnD) : Prop where
  c0 : w.cell? ⟨b, o, none⟩ = some (.string x.name)
  c1 : w.cell? ⟨b, o + 1, none⟩ = some (.slice x.tags.A x.tags.l.length x.tags.c)
  nm : x.name.size ≤ 140737488355328
  tg : RowOf 1 PStr w x.tags
structure PEq (S : Prop) (w : World) (b o : Nat) (x : EqD) : Prop where
  tb : TxB x.right
  sz : S → x.right.size ≤ 2000000
  c0 : w.cell? ⟨b, o, none⟩ = some (.slice x.left.A x.left.l.length x.left.c)
  six : Six w b (o + 1) x.right
  lf : RowOf 1 PStr w x.left
  ri : RX w x.right
structure PTr (S : Prop) (w : World) (b o : Nat) (x : TrD) : Prop where
  tb : TxB x.cond
  sz : S → x.cond.size ≤ 2000000
  six : Six w b o x.cond
  c6 : w.cell? ⟨b, o + 6, none⟩ = some (.int .i64 x.dst)
  c7 : w.cell? ⟨b, o + 7, none⟩ = some (.bool x.res)
  co : RX w x.cond
structure PTx (S : Prop) (w : World) (b o : Nat) (x : Tx) : Prop where
  tb : TxB x
  sz : S → x.size ≤ 2000000
  six : Six w b o x
  rx : RX w x
namespace AuT
def ad : AuT → Option Addr | mk A _ _ => A
def cap : AuT → Nat | mk _ c _ => c
def states : AuT → List StT | mk _ _ l => l
end AuT
namespace StT
def name : StT → ByteArray | mk n _ _ _ _ _ _ _ => n
def locals : StT → Lst DeclD | mk _ l _ _ _ _ _ _ => l
def eqs : StT → Lst EqD | mk _ _ e _ _ _ _ _ => e
def ad : StT → Option Addr | mk _ _ _ A _ _ _ _ => A
def cap : StT → Nat | mk _ _ _ _ c _ _ _ => c
def autos : StT → List AuT | mk _ _ _ _ _ a _ _ => a
def unl : StT → Lst TrD | mk _ _ _ _ _ _ u _ => u
def unt : StT → Lst TrD | mk _ _ _ _ _ _ _ u => u
end StT
/-- the six cells of a state -/
structure SixS (w : World) (b o : Nat) (x : StT) : Prop where
  c0 : w.cell? ⟨b, o, none⟩ = some (.string x.name)
  c1 : w.cell? ⟨b, o + 1, none⟩ = some (.slice x.locals.A x.locals.l.length x.locals.c)
  c2 : w.cell? ⟨b, o + 2, none⟩ = some (.slice x.eqs.A x.eqs.l.length x.eqs.c)
  c3 : w.cell? ⟨b, o + 3, none⟩ = some (.slice x.ad x.autos.length x.cap)
  c4 : w.cell? ⟨b, o + 4, none⟩ = some (.slice x.unl.A x.unl.l.length x.unl.c)
  c5 : w.cell? ⟨b, o + 5, none⟩ = some (.slice x.unt.A x.unt.l.length x.unt.c)
mutual
def RSta (S : Prop) (w : World) : StT → Prop
  | .mk n l e A c a u v => n.size ≤ 140737488355328 ∧ RowOf 3 PDecl w l ∧ RowOf 7 (PEq S) w e ∧ RowOf 8 (PTr S) w u ∧ RowOf 8 (PTr S) w v ∧ a.length ≤ c ∧ c ≤ 9223372036854775807 ∧ a.length ≤ 140737488355328 ∧ (a = [] ∨ ∃ b p, A = some ⟨b, p, none⟩ ∧ b < w.heap.size ∧ RAus S w b p a)
def RSts (S : Prop) (w : World) (b : Nat) : Nat → List StT → Prop
  | _, [] => True
  | o, x :: l => SixS w b o x ∧ RSta S w x ∧ RSts S w b (o + 6) l
def RAu (S : Prop) (w : World) : AuT → Prop
  | .mk A c l => l.length ≤ c ∧ c ≤ 9223372036854775807 ∧ l.length ≤ 140737488355328 ∧ (l = [] ∨ ∃ b p, A = some ⟨b, p, none⟩ ∧ b < w.heap.size ∧ RSts S w b p l)
def RAus (S : Prop) (w : World) (b : Nat) : Nat → List AuT → Prop
  | _, [] => True
  | o, x :: l => w.cell? ⟨b, o, none⟩ = some (.slice x.ad x.states.length x.cap) ∧ RAu S w x ∧ RAus S w b (o + 1) l
end
def PAu (S : Prop) (w : World) (b o : Nat) (x : AuT) : Prop := w.cell? ⟨b, o, none⟩ = some (.slice x.ad x.states.length x.cap) ∧ RAu S w x
def PSt (S : Prop) (w : World) (b o : Nat) (x : StT) : Prop := SixS w b o x ∧ RSta S w x
structure PNd (S : Prop) (w : World) (b o : Nat) (x : NdD) : Prop where
  c0 : w.cell? ⟨b, o, none⟩ = some (.string x.name)
  c1 : w.cell? ⟨b, o + 1, none⟩ = some (.slice x.ins.A x.ins.l.length x.ins.c)
  c2 : w.cell? ⟨b, o + 2, none⟩ = some (.slice x.outs.A x.outs.l.length x.outs.c)
  c3 : w.cell? ⟨b, o + 3, none⟩ = some (.slice x.locals.A x.locals.l.length x.locals.c)
  c4 : w.cell? ⟨b, o + 4, none⟩ = some (.slice x.eqs.A x.eqs.l.length x.eqs.c)
  c5 : w.cell? ⟨b, o + 5, none⟩ = some (.slice x.autos.A x.autos.l.length x.autos.c)
  c6 : w.cell? ⟨b, o + 6, none⟩ = some (.slice x.assume.A x.assume.l.length x.assume.c)
  c7 : w.cell? ⟨b, o + 7, none⟩ = some (.slice x.ensure.A x.ensure.l.length x.ensure.c)
  nm : x.name.size ≤ 140737488355328
  r1 : RowOf 3 PDecl w x.ins
  r2 : RowOf 3 PDecl w x.outs
  r3 : RowOf 3 PDecl w x.locals
  r4 : RowOf 7 (PEq S) w x.eqs
  r5 : RowOf 1 (PAu S) w x.autos
  r6 : RowOf 6 (PTx S) w x.assume
  r7 : RowOf 6 (PTx S) w x.ensure
structure RPg (S : Prop) (w : World) (x : PgD) : Prop where
  enums : RowOf 2 PEn w x.enums
  nodes : RowOf 8 (PNd S) w x.nodes

/-! ### they stay -/
variable {S : Prop}
section
variable {w w' : World}
theorem cellK {b j : Nat} (hb : Below w.heap.size w w') (hlt : b < w.heap.size) : w'.cell? ⟨b, j, none⟩ = w.cell? ⟨b, j, none⟩ := hb.cell (p := ⟨b, j, none⟩) hlt
theorem pstr_keeps : Keeps PStr := fun w w' b o y hb hlt h => ⟨(cellK hb hlt).trans h.1, h.2⟩
theorem pon_keeps : Keeps POn := fun w w' b o y hb hlt h => ⟨h.tb, (cellK hb hlt).trans h.c0, (cellK hb hlt).trans h.c1, (cellK hb hlt).trans h.c2, h.nm⟩
theorem pdecl_keeps : Keeps PDecl := fun w w' b o y hb hlt h => ⟨h.tb, (cellK hb hlt).trans h.c0, (cellK hb hlt).trans h.c1, (cellK hb hlt).trans h.c2, h.nm, h.cl.below pon_keeps hb⟩
theorem pen_keeps : Keeps PEn := fun w w' b o y hb hlt h => ⟨(cellK hb hlt).trans h.c0, (cellK hb hlt).trans h.c1, h.nm, h.tg.below pstr_keeps hb⟩
theorem peq_keeps : Keeps (PEq S) := fun w w' b o y hb hlt h => ⟨h.tb, h.sz, (cellK hb hlt).trans h.c0, h.six.keep fun i => cellK hb hlt, h.lf.below pstr_keeps hb, h.ri.below hb⟩
theorem ptr_keeps : Keeps (PTr S) := fun w w' b o y hb hlt h => ⟨h.tb, h.sz, h.six.keep fun i => cellK hb hlt, (cellK hb hlt).trans h.c6, (cellK hb hlt).trans h.c7, h.co.below hb⟩
theorem ptx_keeps : Keeps (PTx S) := fun w w' b o y hb hlt h => ⟨h.tb, h.sz, h.six.keep fun i => cellK hb hlt, h.rx.below hb⟩
theorem SixS.keep {b o : Nat} {x : StT} (hb : Below w.heap.size w w') (hlt : b < w.heap.size) (h : SixS w b o x) : SixS w' b o x :=
  ⟨(cellK hb hlt).trans h.c0, (cellK hb hlt).trans h.c1, (cellK hb hlt).trans h.c2, (cellK hb hlt).trans h.c3, (cellK hb hlt).trans h.c4, (cellK hb hlt).trans h.c5⟩
mutual
theorem RSta.below (hb : Below w.heap.size w w') : ∀ (x : StT), RSta S w x → RSta S w' x
  | .mk n l e A c a u v, h => by
    rw [RSta] at h ⊢
    obtain ⟨h1, h2, h3, h4, h5, h6, h7, h8, h9⟩ := h
    refine ⟨h1, h2.below pdecl_keeps hb, h3.below peq_keeps hb, h4.below ptr_keeps hb, h5.below ptr_keeps hb, h6, h7, h8, ?_⟩
    rcases h9 with h9 | ⟨b, p, e1, hlt, h9⟩
    · exact .inl h9
    · exact .inr ⟨b, p, e1, Nat.lt_of_lt_of_le hlt hb.size, RAus.below hb hlt p a h9⟩
theorem RSts.below (hb : Below w.heap.size w w') {b : Nat} (hlt : b < w.heap.size) : ∀ (o : Nat) (l : List StT), RSts S w b o l → RSts S w' b o l
  | _, [], _ => by rw [RSts]; trivial
  | o, x :: l, h => by
    rw [RSts] at h ⊢
    exact ⟨h.1.keep hb hlt, RSta.below hb x h.2.1, RSts.below hb hlt (o + 6) l h.2.2⟩
theorem RAu.below (hb : Below w.heap.size w w') : ∀ (x : AuT), RAu S w x → RAu S w' x
  | .mk A c l, h => by
    rw [RAu] at h ⊢
    obtain ⟨h1, h2, h3, h4⟩ := h
    refine ⟨h1, h2, h3, ?_⟩
    rcases h4 with h4 | ⟨b, p, e1, hlt, h4⟩
    · exact .inl h4
    · exact .inr ⟨b, p, e1, Nat.lt_of_lt_of_le hlt hb.size, RSts.below hb hlt p l h4⟩
theorem RAus.below (hb : Below w.heap.size w w') {b : Nat} (hlt : b < w.heap.size) : ∀ (o : Nat) (l : List AuT), RAus S w b o l → RAus S w' b o l
  | _, [], _ => by rw [RAus]; trivial
  | o, x :: l, h => by
    rw [RAus] at h ⊢
    exact ⟨(cellK hb hlt).trans h.1, RAu.below hb x h.2.1, RAus.below hb hlt (o + 1) l h.2.2⟩
end
theorem pau_keeps : Keeps (PAu S) := fun w w' b o y hb hlt h => ⟨(cellK hb hlt).trans h.1, RAu.below hb y h.2⟩
theorem pst_keeps : Keeps (PSt S) := fun w w' b o y hb hlt h => ⟨h.1.keep hb hlt, RSta.below hb y h.2⟩
theorem pnd_keeps : Keeps (PNd S) := fun w w' b o y hb hlt h =>
  ⟨(cellK hb hlt).trans h.c0, (cellK hb hlt).trans h.c1, (cellK hb hlt).trans h.c2, (cellK hb hlt).trans h.c3, (cellK hb hlt).trans h.c4, (cellK hb hlt).trans h.c5, (cellK hb hlt).trans h.c6, (cellK hb hlt).trans h.c7, h.nm,
   h.r1.below pdecl_keeps hb, h.r2.below pdecl_keeps hb, h.r3.below pdecl_keeps hb, h.r4.below peq_keeps hb, h.r5.below pau_keeps hb, h.r6.below ptx_keeps hb, h.r7.below ptx_keeps hb⟩
theorem RPg.below {x : PgD} (h : RPg S w x) (hb : Below w.heap.size w w') : RPg S w' x := ⟨h.enums.below pen_keeps hb, h.nodes.below pnd_keeps hb⟩
end
theorem RPg.here {w0 : World} {x : PgD} (h : RPg S w0 x) (w : World) [k : After w0 w] : RPg S w x := h.below k.below
theorem RowOf.enums {w0 : World} {x : Lst EnD} (h : RowOf 2 PEn w0 x) (w : World) [k : After w0 w] : RowOf 2 PEn w x := h.below pen_keeps k.below
theorem RowOf.decls {w0 : World} {x : Lst DeclD} (h : RowOf 3 PDecl w0 x) (w : World) [k : After w0 w] : RowOf 3 PDecl w x := h.below pdecl_keeps k.below
theorem RowOf.ons {w0 : World} {x : Lst OnD} (h : RowOf 3 POn w0 x) (w : World) [k : After w0 w] : RowOf 3 POn w x := h.below pon_keeps k.below
theorem RowOf.eqs {w0 : World} {x : Lst EqD} (h : RowOf 7 (PEq S) w0 x) (w : World) [k : After w0 w] : RowOf 7 (PEq S) w x := h.below peq_keeps k.below
theorem RowOf.trs {w0 : World} {x : Lst TrD} (h : RowOf 8 (PTr S) w0 x) (w : World) [k : After w0 w] : RowOf 8 (PTr S) w x := h.below ptr_keeps k.below
theorem RowOf.txs {w0 : World} {x : Lst Tx} (h : RowOf 6 (PTx S) w0 x) (w : World) [k : After w0 w] : RowOf 6 (PTx S) w x := h.below ptx_keeps k.below
theorem RowOf.strs {w0 : World} {x : Lst ByteArray} (h : RowOf 1 PStr w0 x) (w : World) [k : After w0 w] : RowOf 1 PStr w x := h.below pstr_keeps k.below
theorem RowOf.aus {w0 : World} {x : Lst AuT} (h : RowOf 1 (PAu S) w0 x) (w : World) [k : After w0 w] : RowOf 1 (PAu S) w x := h.below pau_keeps k.below
theorem RowOf.sts {w0 : World} {x : Lst StT} (h : RowOf 6 (PSt S) w0 x) (w : World) [k : After w0 w] : RowOf 6 (PSt S) w x := h.below pst_keeps k.below
theorem RowOf.nds {w0 : World} {x : Lst NdD} (h : RowOf 8 (PNd S) w0 x) (w : World) [k : After w0 w] : RowOf 8 (PNd S) w x := h.below pnd_keeps k.below

/-! ### the lists of automata and states as rows -/
theorem RAus.get {w : World} {b : Nat} : ∀ {o : Nat} {l : List AuT}, RAus S w b o l → ∀ i y, l[i]? = some y → PAu S w b (o + i * 1) y
  | _, [], _, i, y, h => by simp at h
  | o, x :: l, h, 0, y, hy => by
    rw [RAus] at h
    simp at hy
    subst hy
    exact ⟨by simpa using h.1, h.2.1⟩
  | o, x :: l, h, i + 1, y, hy => by
    rw [RAus] at h
    have := RAus.get h.2.2 i y (by simpa using hy)
    rw [show o + (i + 1) * 1 = o + 1 + i * 1 by omega]; exact this
theorem RSts.get {w : World} {b : Nat} : ∀ {o : Nat} {l : List StT}, RSts S w b o l → ∀ i y, l[i]? = some y → PSt S w b (o + i * 6) y
  | _, [], _, i, y, h => by simp at h
  | o, x :: l, h, 0, y, hy => by
    rw [RSts] at h
    simp at hy
    subst hy
    exact ⟨by simpa using h.1, h.2.1⟩
  | o, x :: l, h, i + 1, y, hy => by
    rw [RSts] at h
    have := RSts.get h.2.2 i y (by simpa using hy)
    rw [show o + (i + 1) * 6 = o + 6 + i * 6 by omega]; exact this
theorem RAu.rows {w : World} {A c l} (h : RAu S w (.mk A c l)) : RowOf 6 (PSt S) w ⟨A, c, l⟩ := by
  rw [RAu] at h
  obtain ⟨h1, h2, h3, h4⟩ := h
  refine ⟨?_, h1, h2, h3⟩
  rcases h4 with h4 | ⟨b, p, e, hlt, h4⟩
  · exact .inl h4
  · exact .inr ⟨b, p, e, hlt, h4.get⟩
/-- what a state holds -/
theorem RSta.parts {w : World} {n l e A c a u v} (h : RSta S w (.mk n l e A c a u v)) : n.size ≤ 140737488355328 ∧ RowOf 3 PDecl w l ∧ RowOf 7 (PEq S) w e ∧ RowOf 8 (PTr S) w u ∧ RowOf 8 (PTr S) w v ∧ RowOf 1 (PAu S) w ⟨A, c, a⟩ := by
  rw [RSta] at h
  obtain ⟨h1, h2, h3, h4, h5, h6, h7, h8, h9⟩ := h
  refine ⟨h1, h2, h3, h4, h5, ⟨?_, h6, h7, h8⟩⟩
  rcases h9 with h9 | ⟨b, p, e, hlt, h9⟩
  · exact .inl h9
  · exact .inr ⟨b, p, e, hlt, h9.get⟩
end Go.Proofs.Ytdghfhnkacfahaa
