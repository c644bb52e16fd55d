/-
  Arguments that are programs, lists of enumerations, expressions (printed by gen_sopp.py).
-/
import Derived.Test.YtdghfhnkacfahaaSOp
namespace Go.Proofs.Ytdghfhnkacfahaa
open Go.ChangeShapes Go.WideShapes Go.ChangeAt Go.RowKit Go.Joins Go.Deep
set_option linter.unusedVariables false
set_option linter.unusedSimpArgs false
section
variable {H : Type} {enc : TypeId × Value → H} {w : World} {base : Nat} {spare : Nat → Bool} {held : Bool} {S : Prop}

theorem RAus.of_get {w : World} {b : Nat} : ∀ (l : List AuT) (o : Nat), (∀ i e, l[i]? = some e → PAu S w b (o + i * 1) e) → RAus S w b o l
  | [], o, h => by rw [RAus]; trivial
  | e :: l, o, h => by
    rw [RAus]
    have h0 := h 0 e rfl
    refine ⟨by simpa using h0.1, h0.2, RAus.of_get l (o + 1) fun i x hi => ?_⟩
    have := h (i + 1) x (by simpa using hi)
    rwa [show o + (i + 1) * 1 = o + 1 + i * 1 by omega] at this
theorem RSts.of_get {w : World} {b : Nat} : ∀ (l : List StT) (o : Nat), (∀ i e, l[i]? = some e → PSt S w b (o + i * 6) e) → RSts S w b o l
  | [], o, h => by rw [RSts]; trivial
  | e :: l, o, h => by
    rw [RSts]
    have h0 := h 0 e rfl
    refine ⟨by simpa using h0.1, h0.2, RSts.of_get l (o + 6) fun i x hi => ?_⟩
    have := h (i + 1) x (by simpa using hi)
    rwa [show o + (i + 1) * 6 = o + 6 + i * 6 by omega] at this
def strCs (s : ByteArray) : List Value := [.string s]
def onCs (x : OnD) : List Value := [.string x.name, .int .i64 x.t, .int .i64 x.tag]
def declCs (x : DeclD) : List Value := [.string x.name, .int .i64 x.ty, .slice x.clock.A x.clock.l.length x.clock.c]
def enCs (x : EnD) : List Value := [.string x.name, .slice x.tags.A x.tags.l.length x.tags.c]
def eqCs (x : EqD) : List Value := .slice x.left.A x.left.l.length x.left.c :: x.right.cellsL
def trCs (x : TrD) : List Value := x.cond.cellsL ++ [.int .i64 x.dst, .bool x.res]
def stCs (x : StT) : List Value := [.string x.name, .slice x.locals.A x.locals.l.length x.locals.c, .slice x.eqs.A x.eqs.l.length x.eqs.c, .slice x.ad x.autos.length x.cap, .slice x.unl.A x.unl.l.length x.unl.c, .slice x.unt.A x.unt.l.length x.unt.c]
def auCs (x : AuT) : List Value := [.slice x.ad x.states.length x.cap]
def ndCs (x : NdD) : List Value := [.string x.name, .slice x.ins.A x.ins.l.length x.ins.c, .slice x.outs.A x.outs.l.length x.outs.c, .slice x.locals.A x.locals.l.length x.locals.c, .slice x.eqs.A x.eqs.l.length x.eqs.c, .slice x.autos.A x.autos.l.length x.autos.c, .slice x.assume.A x.assume.l.length x.assume.c, .slice x.ensure.A x.ensure.l.length x.ensure.c]
def pgCs (x : PgD) : List Value := [.slice x.enums.A x.enums.l.length x.enums.c, .slice x.nodes.A x.nodes.l.length x.nodes.c]
abbrev OP (enc : TypeId × Value → H) (w : World) (base : Nat) (spare : Nat → Bool) (held : Bool) (S : Prop) (n : Nat) (T : TypeId) {α : Type} (cells : α → List Value) (good : α → Prop) : Prop := Opn enc Try.prog w base spare held S n T cells good
def sl {α : Type} (x : Lst α) : List Value := [.slice x.A x.l.length x.c]

theorem op_str (n : Nat) : OP enc w base spare held S n 9 strCs (fun s => s.size ≤ 140737488355328) := Opn.str Try.underlying9
theorem op_int (n : Nat) : OP enc w base spare held S n 3 (fun a : Int => [.int .i64 a]) (fun a => a ≤ 9223372036854775807) := Opn.int Try.underlying3
theorem op_bool (n : Nat) : OP enc w base spare held S n 4 (fun a : Bool => [.bool a]) (fun _ => True) := Opn.bool Try.underlying4
theorem op_strs (n : Nat) : OP enc w base spare held S n 46 sl (RowOf 1 PStr w) := by
  cases n with
  | zero => exact Opn.zero
  | succ n => exact (Opn.slice (sz := 1) (cells := strCs) Try.underlying46 (by kernel_rfl) (by rw [show Program.bytesOf _ _ = 16 by kernel_rfl]; decide) (by decide) (fun _ => rfl) ⟨⟨#[]⟩⟩ (op_str n)).map id (fun _ => rfl) fun x h => h.imp fun b o y hy => ⟨hy.1 0 _ rfl, hy.2⟩
theorem op_tx (n : Nat) : OP enc w base spare held S n 25 Tx.cellsL (fun e => RX w e ∧ TxB e ∧ (S → e.size ≤ 2000000)) := fun cs x h hz => by
  obtain ⟨e, h1, h2, h3, h4⟩ := (open_tx2 (ts := 23) Try.underlying25 (by kernel_rfl) (by kernel_rfl) rfl rfl rfl rfl rfl rfl (by kernel_rfl) (by kernel_rfl) (by kernel_rfl) (by kernel_rfl) (by kernel_rfl) (by kernel_rfl)
    Try.underlying3 Try.underlying3 Try.underlying3 Try.underlying3 Try.underlying9 rfl Try.underlying23 n).1 _ _ h hz.1
  exact ⟨e, h1, h2, h3, fun hS => by have := hz.2 hS; omega⟩
theorem six_of {e : Tx} {w : World} {b o : Nat} (h : ∀ j u, e.cellsL[j]? = some u → w.cell? ⟨b, o + j, none⟩ = some u) : Six w b o e := ⟨h 0 _ rfl, h 1 _ rfl, h 2 _ rfl, h 3 _ rfl, h 4 _ rfl, h 5 _ rfl⟩
theorem op_txs (n : Nat) : OP enc w base spare held S n 23 sl (RowOf 6 (PTx S) w) := by
  cases n with
  | zero => exact Opn.zero
  | succ n => exact (Opn.slice (sz := 6) (cells := Tx.cellsL) Try.underlying23 (by kernel_rfl) (by rw [show Program.bytesOf _ _ = 72 by kernel_rfl]; decide) (by decide) (fun _ => rfl) ⟨default⟩ (op_tx n)).map id (fun _ => rfl) fun x h => h.imp fun b o y hy => ⟨hy.2.2.1, hy.2.2.2, six_of hy.1, hy.2.1⟩
theorem op_on (n : Nat) : OP enc w base spare held S n 130 onCs (fun x => x.name.size ≤ 140737488355328 ∧ x.t ≤ 9223372036854775807) := by
  cases n with
  | zero => exact Opn.zero
  | succ n => exact (Opn.st3 Try.underlying130 (by kernel_rfl) rfl rfl rfl (by kernel_rfl) (by kernel_rfl) (by kernel_rfl) (op_str n) (op_int n) (op_int n)).map (fun a => (⟨a.1, a.2.1, a.2.2⟩ : OnD)) (fun _ => rfl) fun a h => ⟨h.1, h.2.1⟩
theorem op_ons (n : Nat) : OP enc w base spare held S n 81 sl (RowOf 3 POn w) := by
  cases n with
  | zero => exact Opn.zero
  | succ n => exact (Opn.slice (sz := 3) (cells := onCs) Try.underlying81 (by kernel_rfl) (by rw [show Program.bytesOf _ _ = 32 by kernel_rfl]; decide) (by decide) (fun _ => rfl) ⟨(⟨⟨#[]⟩, 0, 0⟩ : OnD)⟩ (op_on n)).map id (fun _ => rfl) fun x h => h.imp fun b o y hy => ⟨hy.2.2, hy.1 0 _ rfl, hy.1 1 _ rfl, hy.1 2 _ rfl, hy.2.1⟩
theorem op_decl (n : Nat) : OP enc w base spare held S n 83 declCs (fun x => x.name.size ≤ 140737488355328 ∧ x.ty ≤ 9223372036854775807 ∧ RowOf 3 POn w x.clock) := by
  cases n with
  | zero => exact Opn.zero
  | succ n => exact (Opn.st3 Try.underlying83 (by kernel_rfl) rfl rfl rfl (by kernel_rfl) (by kernel_rfl) (by kernel_rfl) (op_str n) (op_int n) (op_ons n)).map (fun a => (⟨a.1, a.2.1, a.2.2⟩ : DeclD)) (fun _ => rfl) fun a h => ⟨h.1, h.2.1, h.2.2⟩
theorem op_decls (n : Nat) : OP enc w base spare held S n 41 sl (RowOf 3 PDecl w) := by
  cases n with
  | zero => exact Opn.zero
  | succ n => exact (Opn.slice (sz := 3) (cells := declCs) Try.underlying41 (by kernel_rfl) (by rw [show Program.bytesOf _ _ = 48 by kernel_rfl]; decide) (by decide) (fun _ => rfl) ⟨(⟨⟨#[]⟩, 0, ⟨none, 0, []⟩⟩ : DeclD)⟩ (op_decl n)).map id (fun _ => rfl) fun x h => h.imp fun b o y hy => ⟨hy.2.2.1, hy.1 0 _ rfl, hy.1 1 _ rfl, hy.1 2 _ rfl, hy.2.1, hy.2.2.2⟩
theorem op_en (n : Nat) : OP enc w base spare held S n 59 enCs (fun x => x.name.size ≤ 140737488355328 ∧ RowOf 1 PStr w x.tags) := by
  cases n with
  | zero => exact Opn.zero
  | succ n => exact (Opn.st2 Try.underlying59 (by kernel_rfl) rfl rfl (by kernel_rfl) (by kernel_rfl) (op_str n) (op_strs n)).map (fun a => (⟨a.1, a.2⟩ : EnD)) (fun _ => rfl) fun a h => ⟨h.1, h.2⟩
theorem op_ens (n : Nat) : OP enc w base spare held S n 22 sl (RowOf 2 PEn w) := by
  cases n with
  | zero => exact Opn.zero
  | succ n => exact (Opn.slice (sz := 2) (cells := enCs) Try.underlying22 (by kernel_rfl) (by rw [show Program.bytesOf _ _ = 40 by kernel_rfl]; decide) (by decide) (fun _ => rfl) ⟨(⟨⟨#[]⟩, ⟨none, 0, []⟩⟩ : EnD)⟩ (op_en n)).map id (fun _ => rfl) fun x h => h.imp fun b o y hy => ⟨hy.1 0 _ rfl, hy.1 1 _ rfl, hy.2.1, hy.2.2⟩
theorem op_eq (n : Nat) : OP enc w base spare held S n 48 eqCs (fun x => RowOf 1 PStr w x.left ∧ RX w x.right ∧ TxB x.right ∧ (S → x.right.size ≤ 2000000)) := by
  cases n with
  | zero => exact Opn.zero
  | succ n => exact (Opn.st2e Try.underlying48 (by kernel_rfl) rfl rfl (by kernel_rfl) (by kernel_rfl) (op_strs n) (op_tx n)).map (fun a => (⟨a.1, a.2⟩ : EqD)) (fun _ => rfl) fun a h => ⟨h.1, h.2⟩
theorem op_eqs (n : Nat) : OP enc w base spare held S n 42 sl (RowOf 7 (PEq S) w) := by
  cases n with
  | zero => exact Opn.zero
  | succ n => exact (Opn.slice (sz := 7) (cells := eqCs) Try.underlying42 (by kernel_rfl) (by rw [show Program.bytesOf _ _ = 96 by kernel_rfl]; decide) (by decide) (fun _ => rfl) ⟨(⟨⟨none, 0, []⟩, default⟩ : EqD)⟩ (op_eq n)).map id (fun _ => rfl) fun x h => h.imp fun b o y hy => ⟨hy.2.2.2.1, hy.2.2.2.2, hy.1 0 _ rfl, six_of fun j u hu => by have := hy.1 (j + 1) u hu; rwa [show o + (j + 1) = o + 1 + j by omega] at this, hy.2.1, hy.2.2.1⟩
theorem op_tr (n : Nat) : OP enc w base spare held S n 88 trCs (fun x => RX w x.cond ∧ TxB x.cond ∧ (S → x.cond.size ≤ 2000000)) := by
  cases n with
  | zero => exact Opn.zero
  | succ n => exact (Opn.st3e Try.underlying88 (by kernel_rfl) rfl rfl rfl (by kernel_rfl) (by kernel_rfl) (by kernel_rfl) (op_tx n) (op_int n) (op_bool n)).map (fun a => (⟨a.1, a.2.1, a.2.2⟩ : TrD)) (fun _ => rfl) fun a h => h.1
theorem op_trs (n : Nat) : OP enc w base spare held S n 78 sl (RowOf 8 (PTr S) w) := by
  cases n with
  | zero => exact Opn.zero
  | succ n => exact (Opn.slice (sz := 8) (cells := trCs) Try.underlying78 (by kernel_rfl) (by rw [show Program.bytesOf _ _ = 88 by kernel_rfl]; decide) (by decide) (fun _ => rfl) ⟨(⟨default, 0, false⟩ : TrD)⟩ (op_tr n)).map id (fun _ => rfl) fun x h => h.imp fun b o y hy => ⟨hy.2.2.1, hy.2.2.2, ⟨hy.1 0 _ rfl, hy.1 1 _ rfl, hy.1 2 _ rfl, hy.1 3 _ rfl, hy.1 4 _ rfl, hy.1 5 _ rfl⟩, hy.1 6 _ rfl, hy.1 7 _ rfl, hy.2.1⟩
theorem op_auto (n : Nat) : OP enc w base spare held S n 80 stCs (RSta S w) ∧ OP enc w base spare held S n 86 auCs (RAu S w) ∧ OP enc w base spare held S n 84 sl (RowOf 6 (PSt S) w) ∧ OP enc w base spare held S n 43 sl (RowOf 1 (PAu S) w) := by
  induction n with
  | zero => exact ⟨Opn.zero, Opn.zero, Opn.zero, Opn.zero⟩
  | succ n ih =>
    refine ⟨?_, ?_, ?_, ?_⟩
    · refine (Opn.st6 Try.underlying80 (by kernel_rfl) rfl rfl rfl rfl rfl rfl (by kernel_rfl) (by kernel_rfl) (by kernel_rfl) (by kernel_rfl) (by kernel_rfl) (by kernel_rfl) (op_str n) (op_decls n) (op_eqs n) ih.2.2.2 (op_trs n) (op_trs n)).map (fun a => (.mk a.1 a.2.1 a.2.2.1 a.2.2.2.1.A a.2.2.2.1.c a.2.2.2.1.l a.2.2.2.2.1 a.2.2.2.2.2 : StT)) (fun _ => rfl) fun a h => ?_
      rw [RSta]
      refine ⟨h.1, h.2.1, h.2.2.1, h.2.2.2.2.1, h.2.2.2.2.2, h.2.2.2.1.le, h.2.2.2.1.cap, h.2.2.2.1.len, ?_⟩
      rcases h.2.2.2.1.cells with e | ⟨b, p, e, hlt, hc⟩
      · exact .inl e
      · exact .inr ⟨b, p, e, hlt, RAus.of_get _ _ hc⟩
    · refine (Opn.st1 Try.underlying86 (by kernel_rfl) rfl (by kernel_rfl) ih.2.2.1).map (fun a => (.mk a.A a.c a.l : AuT)) (fun _ => rfl) fun a h => ?_
      rw [RAu]
      refine ⟨h.le, h.cap, h.len, ?_⟩
      rcases h.cells with e | ⟨b, p, e, hlt, hc⟩
      · exact .inl e
      · exact .inr ⟨b, p, e, hlt, RSts.of_get _ _ hc⟩
    · exact (Opn.slice (sz := 6) (cells := stCs) Try.underlying84 (by kernel_rfl) (by rw [show Program.bytesOf _ _ = 136 by kernel_rfl]; decide) (by decide) (fun _ => rfl) ⟨.mk ⟨#[]⟩ ⟨none, 0, []⟩ ⟨none, 0, []⟩ none 0 [] ⟨none, 0, []⟩ ⟨none, 0, []⟩⟩ ih.1).map id (fun _ => rfl) fun x h => h.imp fun b o y hy => ⟨⟨hy.1 0 _ rfl, hy.1 1 _ rfl, hy.1 2 _ rfl, hy.1 3 _ rfl, hy.1 4 _ rfl, hy.1 5 _ rfl⟩, hy.2⟩
    · exact (Opn.slice (sz := 1) (cells := auCs) Try.underlying43 (by kernel_rfl) (by rw [show Program.bytesOf _ _ = 24 by kernel_rfl]; decide) (by decide) (fun _ => rfl) ⟨.mk none 0 []⟩ ih.2.1).map id (fun _ => rfl) fun x h => h.imp fun b o y hy => ⟨hy.1 0 _ rfl, hy.2⟩
theorem op_autos (n : Nat) : OP enc w base spare held S n 43 sl (RowOf 1 (PAu S) w) := (op_auto n).2.2.2
theorem op_nd (n : Nat) : OP enc w base spare held S n 45 ndCs (fun x => x.name.size ≤ 140737488355328 ∧ RowOf 3 PDecl w x.ins ∧ RowOf 3 PDecl w x.outs ∧ RowOf 3 PDecl w x.locals ∧ RowOf 7 (PEq S) w x.eqs ∧ RowOf 1 (PAu S) w x.autos ∧ RowOf 6 (PTx S) w x.assume ∧ RowOf 6 (PTx S) w x.ensure) := by
  cases n with
  | zero => exact Opn.zero
  | succ n => exact (Opn.st8 Try.underlying45 (by kernel_rfl) rfl rfl rfl rfl rfl rfl rfl rfl (by kernel_rfl) (by kernel_rfl) (by kernel_rfl) (by kernel_rfl) (by kernel_rfl) (by kernel_rfl) (by kernel_rfl) (by kernel_rfl) (op_str n) (op_decls n) (op_decls n) (op_decls n) (op_eqs n) (op_autos n) (op_txs n) (op_txs n)).map (fun a => (⟨a.1, a.2.1, a.2.2.1, a.2.2.2.1, a.2.2.2.2.1, a.2.2.2.2.2.1, a.2.2.2.2.2.2.1, a.2.2.2.2.2.2.2⟩ : NdD)) (fun _ => rfl) fun a h => h
theorem op_nds (n : Nat) : OP enc w base spare held S n 30 sl (RowOf 8 (PNd S) w) := by
  cases n with
  | zero => exact Opn.zero
  | succ n => exact (Opn.slice (sz := 8) (cells := ndCs) Try.underlying30 (by kernel_rfl) (by rw [show Program.bytesOf _ _ = 184 by kernel_rfl]; decide) (by decide) (fun _ => rfl) ⟨(⟨⟨#[]⟩, ⟨none, 0, []⟩, ⟨none, 0, []⟩, ⟨none, 0, []⟩, ⟨none, 0, []⟩, ⟨none, 0, []⟩, ⟨none, 0, []⟩, ⟨none, 0, []⟩⟩ : NdD)⟩ (op_nd n)).map id (fun _ => rfl) fun x h => h.imp fun b o y hy => ⟨hy.1 0 _ rfl, hy.1 1 _ rfl, hy.1 2 _ rfl, hy.1 3 _ rfl, hy.1 4 _ rfl, hy.1 5 _ rfl, hy.1 6 _ rfl, hy.1 7 _ rfl, hy.2.1, hy.2.2.1, hy.2.2.2.1, hy.2.2.2.2.1, hy.2.2.2.2.2.1, hy.2.2.2.2.2.2.1, hy.2.2.2.2.2.2.2.1, hy.2.2.2.2.2.2.2.2⟩
theorem op_pg (n : Nat) : OP enc w base spare held S n 32 pgCs (RPg S w) := by
  cases n with
  | zero => exact Opn.zero
  | succ n => exact (Opn.st2 Try.underlying32 (by kernel_rfl) rfl rfl (by kernel_rfl) (by kernel_rfl) (op_ens n) (op_nds n)).map (fun a => (⟨a.1, a.2⟩ : PgD)) (fun _ => rfl) fun a h => ⟨h.1, h.2⟩
end
set_option maxRecDepth 100000 in
/-- an argument that is a program -/
theorem open_prog {H : Type} {enc : TypeId × Value → H} {w : World} {base b0 : Nat} {spare : Nat → Bool} {held : Bool} {r : Reach} {v : Value} {d : DataW H} {p : List MemPlace} {S : Prop}
    (hv : Value.okWide Try.prog w r b0 32 v) (h : DataW.Trod enc Try.prog w base spare held 32 v d p) (hz : ∀ n ∈ d.weights Try.prog 32, n ≤ reachBytes) (hS : S → Rows.uptoBulk d ≤ 1048576) :
    ∃ (eA nA : Option Addr) (ec nc : Nat) (el : List EnD) (nl : List NdD), v = .agg #[.slice eA el.length ec, .slice nA nl.length nc] ∧ RPg S w ⟨⟨eA, ec, el⟩, ⟨nA, nc, nl⟩⟩ := by
  obtain ⟨cs, rfl, hsz⟩ := okWide_struct Try.underlying32 hv
  obtain ⟨n, hn⟩ := h
  obtain ⟨⟨⟨eA, ec, el⟩, ⟨nA, nc, nl⟩⟩, he, hx⟩ := op_pg (S := S) n _ _ hn ⟨hz, hS⟩
  refine ⟨eA, nA, ec, nc, el, nl, ?_, hx⟩
  have : cs = (pgCs ⟨⟨eA, ec, el⟩, ⟨nA, nc, nl⟩⟩).toArray := by rw [← (show cs.toList = _ from he)]
  rw [this]; rfl
set_option maxRecDepth 100000 in
/-- an argument that is an expression -/
theorem open_ex {H : Type} {enc : TypeId × Value → H} {w : World} {base b0 : Nat} {spare : Nat → Bool} {held : Bool} {r : Reach} {v : Value} {d : DataW H} {p : List MemPlace} {S : Prop}
    (hv : Value.okWide Try.prog w r b0 25 v) (h : DataW.Trod enc Try.prog w base spare held 25 v d p) (hz : ∀ n ∈ d.weights Try.prog 25, n ≤ reachBytes) (hS : S → Rows.uptoBulk d ≤ 1048576) :
    ∃ (k o t v' : Int) (s : ByteArray) (A : Option Addr) (c : Nat) (xs : List Tx), v = .agg #[.int .i64 k, .int .i64 o, .int .i64 t, .int .i64 v', .string s, .slice A xs.length c] ∧ RX w (.mk k o t v' s A c xs) ∧ TxB (.mk k o t v' s A c xs) ∧ (S → (Tx.mk k o t v' s A c xs).size ≤ 2000000) := by
  obtain ⟨cs, rfl, hsz⟩ := okWide_struct Try.underlying25 hv
  obtain ⟨n, hn⟩ := h
  obtain ⟨e, he, hx⟩ := op_tx (S := S) n _ _ hn ⟨hz, hS⟩
  cases e with
  | mk k o t v' s A c xs =>
    refine ⟨k, o, t, v', s, A, c, xs, ?_, hx⟩
    have : cs = (Tx.cellsL (.mk k o t v' s A c xs)).toArray := by rw [← (show cs.toList = _ from he)]
    rw [this]; rfl
set_option maxRecDepth 100000 in
/-- an argument that is a list of enumerations -/
theorem open_ens {H : Type} {enc : TypeId × Value → H} {w : World} {base b0 : Nat} {spare : Nat → Bool} {held : Bool} {r : Reach} {v : Value} {d : DataW H} {p : List MemPlace} {S : Prop}
    (hv : Value.okWide Try.prog w r b0 22 v) (h : DataW.Trod enc Try.prog w base spare held 22 v d p) (hz : ∀ n ∈ d.weights Try.prog 22, n ≤ reachBytes) (hS : S → Rows.uptoBulk d ≤ 1048576) :
    ∃ (A : Option Addr) (c : Nat) (l : List EnD), v = .slice A l.length c ∧ RowOf 2 PEn w ⟨A, c, l⟩ := by
  obtain ⟨A0, n0, c0, rfl⟩ := okWide_slice Try.underlying22 hv
  obtain ⟨n, hn⟩ := h
  obtain ⟨⟨A, c, l⟩, he, hx⟩ := op_ens (S := S) n [.slice A0 n0 c0] _ (by simpa [Value.cells] using hn) ⟨hz, hS⟩
  exact ⟨A, c, l, (List.cons.inj he).1, hx⟩
end Go.Proofs.Ytdghfhnkacfahaa
