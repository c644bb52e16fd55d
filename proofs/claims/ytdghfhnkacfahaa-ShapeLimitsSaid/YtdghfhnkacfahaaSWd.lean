/-
  Words for the law's wide: blocks that are kept, a row of the call's own that a cell holds.
-/
/-
  Words for the law's wide: a step of an append loop, rows of one element n times, light's node with other parts, what Check says of it.
-/
/-
  Words for the law's wide, kinds 5 to 8: automata and states of the call's own, claims.
-/
/-
  Words for the law's wide, kinds 5 and 8: the list of kept blocks grows; automata of the call's own; a cell of the own row is stored.
-/
import Derived.Test.YtdghfhnkacfahaaSAw
import Derived.Test.YtdghfhnkacfahaaSPre
set_option linter.unusedVariables false
set_option linter.unusedSimpArgs false
namespace Go.Proofs.Ytdghfhnkacfahaa
open Go.RowKit Go.BigFrame

/-- a list of blocks that are known whole -/
abbrev BL := List (Nat × TypeId × Array Value)
def KL (L : BL) (w : World) : Prop := ∀ x ∈ L, Blk w x.1 x.2.1 x.2.2
theorem KL.here {L : BL} {w : World} (h : KL L w) (U : World) [k : After w U] : KL L U := fun x hx => (h x hx).after
theorem KL.grown {L : BL} {w U : World} {row : Option Nat} (h : KL L w) (g : w.grownBy U row) (hn : ∀ x ∈ L, some x.1 ≠ row) : KL L U := fun x hx => (h x hx).grown g (hn x hx)
theorem KL.far {L : BL} {w : World} {p : Addr} (h : KL L w) (hn : ∀ x ∈ L, x.1 ≠ p.block) (u : Value) : KL L (w.setCell p u) := fun x hx => (h x hx).far (hn x hx) u
/-- es, n times -/
def rep (es : List Value) (n : Nat) : List Value := (List.replicate n es).flatten
theorem rep_succ (es : List Value) (n : Nat) : rep es n ++ es = rep es (n + 1) := by unfold rep; rw [List.replicate_succ', List.flatten_append]; simp
/-- a row of the call's own, n elements with cells fl n, lies in cell oc of block gc -/
structure LI (L : BL) (gc oc : Nat) (Tc : TypeId) (cs : Array Value) (B : Nat) (eT : TypeId) (sz : Nat) (fl : Nat → List Value) (n : Nat) (A : Option Addr) (c : Nat) (w : World) : Prop where
  kl : KL L w
  bc : Blk w gc Tc (cs.setIfInBounds oc (.slice A n c))
  own : w.ownsRow B eT sz (.slice A n c) n (fl n)
  ne : ∀ x ∈ L, some x.1 ≠ (Value.slice A n c).ownBlock
  nc : some gc ≠ (Value.slice A n c).ownBlock
  far : ∀ x ∈ L, x.1 ≠ gc
  hB : B ≤ w.heap.size
  fits : oc < cs.size
section
variable {L : BL} {gc oc : Nat} {Tc : TypeId} {cs : Array Value} {B : Nat} {eT : TypeId} {sz : Nat} {fl : Nat → List Value} {n : Nat} {A : Option Addr} {c : Nat} {w : World}
theorem LI.here (h : LI L gc oc Tc cs B eT sz fl n A c w) (U : World) [k : After w U] : LI L gc oc Tc cs B eT sz fl n A c U :=
  ⟨h.kl.here U, h.bc.after, own_after h.own k, h.ne, h.nc, h.far, Nat.le_trans h.hB k.below.size, h.fits⟩
theorem LI.cell (h : LI L gc oc Tc cs B eT sz fl n A c w) : w.cell? ⟨gc, oc, none⟩ = some (.slice A n c) := by rw [h.bc.cell]; simp [h.fits]
theorem LI.frozen (h : LI L gc oc Tc cs B eT sz fl n A c w) : w.frozen? ⟨gc, oc, none⟩ = false := h.bc.frozen oc
theorem LI.le (h : LI L gc oc Tc cs B eT sz fl n A c w) : Le (gc + 1) w := h.bc.is_le
theorem LI.step (h : LI L gc oc Tc cs B eT sz fl n A c w) {v' : Value} {w' : World} {es : List Value} (hfl : fl n ++ es = fl (n + 1)) (ho : w'.ownsRow B eT sz v' (n + 1) (fl n ++ es)) (hg : w.grownBy w' (Value.slice A n c).ownBlock) (hn : v'.ownBlock = (Value.slice A n c).ownBlock ∨ v'.ownBlock = some w.heap.size) :
    ∃ A' c', v' = .slice A' (n + 1) c' ∧ LI L gc oc Tc cs B eT sz fl (n + 1) A' c' (w'.setCell ⟨gc, oc, none⟩ (.slice A' (n + 1) c')) := by
  obtain ⟨A', c', rfl, h1, h2⟩ := own_slice ho
  have hlt := h.bc.lt
  have hne : some gc ≠ (Value.slice A' (n + 1) c').ownBlock := by
    rcases hn with e | e
    · rw [e]; exact h.nc
    · rw [e]; intro h; injection h with h; omega
  refine ⟨A', c', rfl, (h.kl.grown hg h.ne).far h.far _, ?_, ?_, fun x hx => ?_, hne, h.far, ?_, h.fits⟩
  · have hb := (h.bc.grown hg h.nc).set_ oc (.slice A' (n + 1) c')
    rwa [Array.setIfInBounds_setIfInBounds] at hb
  · rw [← hfl]
    exact ho.kept (grown_set w' gc oc (.slice A' (n + 1) c')) (.inr (Ne.symm hne))
  · rcases hn with e | e
    · rw [e]; exact h.ne x hx
    · rw [e]; intro h'; injection h' with h'; have := (h.kl x hx).lt; omega
  · rw [size_set_]; exact Nat.le_trans h.hB hg.size
theorem LI.drop {x : Nat × TypeId × Array Value} (h : LI (x :: L) gc oc Tc cs B eT sz fl n A c w) : LI L gc oc Tc cs B eT sz fl n A c w :=
  ⟨fun y hy => h.kl y (List.mem_cons_of_mem _ hy), h.bc, h.own, fun y hy => h.ne y (List.mem_cons_of_mem _ hy), h.nc, fun y hy => h.far y (List.mem_cons_of_mem _ hy), h.hB, h.fits⟩
theorem LI.set (h : LI L gc oc Tc cs B eT sz fl n A c w) {g i : Nat} {u : Value} (hx : ∀ y ∈ L, y.1 ≠ g) (hg : gc ≠ g) (hn : some g ≠ (Value.slice A n c).ownBlock) : LI L gc oc Tc cs B eT sz fl n A c (w.setCell ⟨g, i, none⟩ u) :=
  ⟨h.kl.far (p := ⟨g, i, none⟩) hx u, h.bc.far (p := ⟨g, i, none⟩) hg u, h.own.kept (grown_set w g i u) (.inr (Ne.symm hn)), h.ne, h.nc, h.far, by rw [size_set_]; exact h.hB, h.fits⟩
end
/-- what wide hands back: a program whose first error is 'a limit' if it has more than it may -/
def WideR (w : World) (m : Int) (e : Ending) (w' : World) : Prop :=
  ∃ (eA nA : Option Addr) (ec nc : Nat) (el : List EnD) (nl : List NdD), e = .returned (.agg #[.slice eA el.length ec, .slice nA nl.length nc]) ∧ RowOf 2 PEn w' ⟨eA, ec, el⟩ ∧ RowOf 8 (PNd True) w' ⟨nA, nc, nl⟩ ∧ (checkV el nl).2.2 = (if m ≤ 0 then 0 else 3) ∧ After w w'
end Go.Proofs.Ytdghfhnkacfahaa
set_option linter.unusedVariables false
set_option linter.unusedSimpArgs false
namespace Go.Proofs.Ytdghfhnkacfahaa
open Go.RowKit Go.BigFrame

/-- the length of the slice that lies in a cell -/
def lenAt (w : World) (g o : Nat) : Nat := match w.cell? ⟨g, o, none⟩ with | some (.slice _ n _) => n | _ => 0
theorem lenAt_of {w : World} {g o n c : Nat} {A : Option Addr} (h : w.cell? ⟨g, o, none⟩ = some (.slice A n c)) : lenAt w g o = n := by unfold lenAt; rw [h]
section
variable {L : BL} {gc oc : Nat} {Tc : TypeId} {cs : Array Value} {B : Nat} {eT : TypeId} {sz : Nat} {fl : Nat → List Value} {n : Nat} {A : Option Addr} {c : Nat} {w : World}
theorem LI.push (h : LI L gc oc Tc cs B eT sz fl n A c w) {w0 : World} (a : After w0 w) (hb : w0.heap.size ≤ B) {v' : Value} {w' : World} {es : List Value} (hfl : fl n ++ es = fl (n + 1)) (ho : w'.ownsRow B eT sz v' (n + 1) (fl n ++ es)) (hg : w.grownBy w' (Value.slice A n c).ownBlock) (hn : v'.ownBlock = (Value.slice A n c).ownBlock ∨ v'.ownBlock = some w.heap.size) :
    ∃ A' c', v' = .slice A' (n + 1) c' ∧ w'.cell? ⟨gc, oc, none⟩ = some (.slice A n c) ∧ w'.frozen? ⟨gc, oc, none⟩ = false ∧ Le (gc + 1) w' ∧ After w0 w' ∧ Hid (LI L gc oc Tc cs B eT sz fl (n + 1) A' c' (w'.setCell ⟨gc, oc, none⟩ (.slice A' (n + 1) c'))) := by
  obtain ⟨A', c', e, h5⟩ := h.step hfl ho hg hn
  have hb4 := h.bc.grown hg h.nc
  exact ⟨A', c', e, by rw [hb4.cell]; simp [h.fits], hb4.frozen oc, hb4.is_le, after_grown_ (h := a) h.own hb hg, h5⟩
theorem LI.row0 {es : List Value} (h : LI L gc oc Tc cs B eT sz (rep es) n A c w) (hn : 1 ≤ n) : ∃ b, A = some ⟨b, 0, none⟩ ∧ Le (b + 1) w ∧ ∀ j u, es[j]? = some u → w.cell? ⟨b, j, none⟩ = some u := by
  have own := h.own
  rcases own.2 with ⟨hv, h0⟩ | ⟨g, cap, cur, hv, hbg, hh, hnc, hcap, hsz, htk⟩
  · omega
  · injection hv with hA
    subst hA
    refine ⟨g, rfl, ⟨?_⟩, fun j u hu => ?_⟩
    · rcases Nat.lt_or_ge g w.heap.size with h' | h'
      · exact h'
      · rw [Array.getElem?_eq_none h'] at hh; cases hh
    · obtain ⟨k, rfl⟩ : ∃ k, n = k + 1 := ⟨n - 1, by omega⟩
      have hj : j < es.length := (List.getElem?_eq_some_iff.1 hu).1
      have e : (rep es (k + 1))[j]? = some u := by
        unfold rep
        rw [List.replicate_succ, List.flatten_cons, List.getElem?_append_left hj]
        exact hu
      have := own.cells (g := g) rfl j u e
      rwa [Addr.add_lit, Nat.zero_add] at this
theorem LI.fall (h : LI L gc oc Tc cs B eT sz fl n A c w) {w0 w' : World} (a : After w0 w') (he : w' = w) : 400 - lenAt w' gc oc = 400 - n := by rw [he, lenAt_of h.cell]
end
theorem declInfo : (Try.prog.info? 83).map (fun i => (i.zero, i.size, i.bytes)) = some (some (.agg #[.string ⟨#[]⟩, .int .i64 0, .slice none 0 0]), 3, 48) := by kernel_rfl

theorem eqInfo : (Try.prog.info? 48).map (fun i => (i.zero, i.size, i.bytes)) = some (some (.agg #[.slice none 0 0, .int .i64 0, .int .i64 0, .int .i64 0, .int .i64 0, .string ⟨#[]⟩, .slice none 0 0]), 7, 96) := by kernel_rfl
theorem enumInfo : (Try.prog.info? 59).map (fun i => (i.zero, i.size, i.bytes)) = some (some (.agg #[.string ⟨#[]⟩, .slice none 0 0]), 2, 40) := by kernel_rfl
theorem strInfo : (Try.prog.info? 9).map (fun i => (i.zero, i.size, i.bytes)) = some (some (.string ⟨#[]⟩), 1, 16) := by kernel_rfl
/-- Red, Green and then Red again: n tags -/
def wTags (n : Nat) : List ByteArray := ⟨#[82, 101, 100]⟩ :: ⟨#[71, 114, 101, 101, 110]⟩ :: List.replicate (n - 2) ⟨#[82, 101, 100]⟩
def tagFl (n : Nat) : List Value := (wTags n).flatMap fun s => [.string s]
theorem wTags_len {n : Nat} (h : 2 ≤ n) : (wTags n).length = n := by unfold wTags; simp; omega
theorem tagFl_succ {n : Nat} (h : 2 ≤ n) : tagFl n ++ [.string ⟨#[82, 101, 100]⟩] = tagFl (n + 1) := by
  have e : wTags (n + 1) = wTags n ++ [⟨#[82, 101, 100]⟩] := by
    unfold wTags
    rw [show n + 1 - 2 = (n - 2) + 1 by omega, List.replicate_succ']
    rfl
  unfold tagFl
  rw [e, List.flatMap_append]
  rfl
/-- one element, n times, as a row -/
theorem row_rep {α : Type} {sz : Nat} {P : World → Nat → Nat → α → Prop} (cells : α → List Value) (hc : ∀ y, (cells y).length = sz) {w : World} {base n c : Nat} {A : Option Addr} {T : TypeId} {d : α} (own : w.ownsRow base T sz (.slice A n c) n (rep (cells d) n)) (hl : n ≤ 140737488355328)
    (hP : ∀ b o, b < w.heap.size → (∀ j u, (cells d)[j]? = some u → w.cell? ⟨b, o + j, none⟩ = some u) → P w b o d) : RowOf sz P w ⟨A, c, List.replicate n d⟩ := by
  have e : (List.replicate n (cells d)).flatten = (List.replicate n d).flatMap cells := by rw [List.flatMap_def, List.map_replicate]
  have en : (List.replicate n d).length = n := List.length_replicate
  unfold rep at own
  rw [e] at own
  obtain ⟨A', c', e1, h⟩ := RowOf.of_own (l := List.replicate n d) (v := .slice A n c) (P := P) hc (by rw [en]; exact own) (by rw [en]; exact hl) (fun b o y hb hy h => by obtain rfl := (List.mem_replicate.1 hy).2; exact hP b o hb h)
  injection e1 with e2 e3 e4
  rw [e2, e4]
  exact h
def declCells (x : DeclD) : List Value := [.string x.name, .int .i64 x.ty, .slice x.clock.A x.clock.l.length x.clock.c]
theorem declCells_len (x : DeclD) : (declCells x).length = 3 := rfl
def aDecl : DeclD := ⟨⟨#[97]⟩, 2, ⟨none, 0, []⟩⟩
theorem row_decl {w : World} {base n c : Nat} {A : Option Addr} (own : w.ownsRow base 83 3 (.slice A n c) n (rep [.string ⟨#[97]⟩, .int .i64 2, .slice none 0 0] n)) (hl : n ≤ 140737488355328) : RowOf 3 PDecl w ⟨A, c, List.replicate n aDecl⟩ :=
  row_rep declCells declCells_len (d := aDecl) own hl fun b o hb h => ⟨by decide, h 0 _ rfl, h 1 _ rfl, h 2 _ rfl, (by decide : ByteArray.size ⟨#[97]⟩ ≤ 140737488355328), RowOf.nil w⟩
/-- light's node with other parts -/
theorem wide_node {U : World} {G : Nat} (h2 : Blk U (G + 2) 83 #[.string ⟨#[120]⟩, .int .i64 3, .slice none 0 0]) {x : NdD} (C : Blk U (G + 8) 45 (ndCells x).toArray) (e1 : x.name = ⟨#[102]⟩) (e2 : x.outs = (lightN G).outs) (e3 : x.assume = ⟨none, 0, []⟩) (r1 : RowOf 3 PDecl U x.ins) (r3 : RowOf 3 PDecl U x.locals) (r4 : RowOf 7 (PEq True) U x.eqs) (r5 : RowOf 1 (PAu True) U x.autos) (r7 : RowOf 6 (PTx True) U x.ensure) : RowOf 8 (PNd True) U ⟨some ⟨G + 8, 0, none⟩, 1, [x]⟩ :=
  RowOf.one C.lt ⟨by rw [C.cell]; rfl, by rw [C.cell]; rfl, by rw [C.cell]; rfl, by rw [C.cell]; rfl, by rw [C.cell]; rfl, by rw [C.cell]; rfl, by rw [C.cell]; rfl, by rw [C.cell]; rfl, by rw [e1]; decide, r1, by rw [e2]; exact RowOf.one h2.lt ⟨by decide, by rw [h2.cell]; rfl, by rw [h2.cell]; rfl, by rw [h2.cell]; rfl, (by decide : ByteArray.size ⟨#[120]⟩ ≤ 140737488355328), RowOf.nil U⟩, r3, r4, r5, by rw [e3]; exact RowOf.nil U, r7⟩
/-- light's equation, from its cells -/
theorem wide_eq {U : World} {G b o : Nat} (h3 : Blk U (G + 3) 9 #[.string ⟨#[120]⟩]) (c : ∀ j u, ([.slice (some ⟨G + 3, 0, none⟩) 1 1, .int .i64 1, .int .i64 0, .int .i64 3, .int .i64 0, .string ⟨#[]⟩, .slice none 0 0] : List Value)[j]? = some u → U.cell? ⟨b, o + j, none⟩ = some u) : PEq True U b o ⟨⟨some ⟨G + 3, 0, none⟩, 1, [⟨#[120]⟩]⟩, redT⟩ :=
  ⟨redT_tb, fun _ => (by decide : redT.size ≤ 2000000), c 0 _ rfl, ⟨c 1 _ rfl, c 2 _ rfl, c 3 _ rfl, c 4 _ rfl, c 5 _ rfl, c 6 _ rfl⟩, RowOf.one h3.lt ⟨by rw [h3.cell]; rfl, by decide⟩, redT_rx U⟩
/-- light's enumeration, from its cells -/
theorem wide_enum {U : World} {G b o : Nat} (h6 : Blk U (G + 6) 9 #[.string ⟨#[82, 101, 100]⟩, .string ⟨#[71, 114, 101, 101, 110]⟩]) (c : ∀ j u, ([.string ⟨#[76, 105, 103, 104, 116]⟩, .slice (some ⟨G + 6, 0, none⟩) 2 2] : List Value)[j]? = some u → U.cell? ⟨b, o + j, none⟩ = some u) : PEn U b o (lightU G) := by
  refine ⟨c 0 _ rfl, c 1 _ rfl, (by decide : ByteArray.size ⟨#[76, 105, 103, 104, 116]⟩ ≤ 140737488355328), .inr ⟨_, 0, rfl, h6.lt, fun i y hy => ?_⟩, by simp [lightU], by simp [lightU], by simp [lightU]⟩
  match i, hy with
  | 0, hy => simp [lightU] at hy; subst hy; exact ⟨by rw [h6.cell]; rfl, by decide⟩
  | 1, hy => simp [lightU] at hy; subst hy; exact ⟨by rw [h6.cell]; rfl, by decide⟩
  | i + 2, hy => simp [lightU] at hy
theorem wide_enums {U : World} {G : Nat} (h6 : Blk U (G + 6) 9 #[.string ⟨#[82, 101, 100]⟩, .string ⟨#[71, 114, 101, 101, 110]⟩]) (h7 : Blk U (G + 7) 59 #[.string ⟨#[76, 105, 103, 104, 116]⟩, .slice (some ⟨G + 6, 0, none⟩) 2 2]) : RowOf 2 PEn U ⟨some ⟨G + 7, 0, none⟩, 1, [lightU G]⟩ :=
  RowOf.one h7.lt (wide_enum h6 fun j u hu => by rw [h7.cell, Nat.zero_add, ← Array.getElem?_toList]; exact hu)
theorem wide_eqs {U : World} {G : Nat} (h3 : Blk U (G + 3) 9 #[.string ⟨#[120]⟩]) (h4 : Blk U (G + 4) 48 #[.slice (some ⟨G + 3, 0, none⟩) 1 1, .int .i64 1, .int .i64 0, .int .i64 3, .int .i64 0, .string ⟨#[]⟩, .slice none 0 0]) : RowOf 7 (PEq True) U (lightN G).eqs :=
  RowOf.one h4.lt (wide_eq h3 fun j u hu => by rw [h4.cell, Nat.zero_add, ← Array.getElem?_toList]; exact hu)
def eqCells (x : EqD) : List Value := [.slice x.left.A x.left.l.length x.left.c, .int .i64 x.right.kind, .int .i64 x.right.op, .int .i64 x.right.ty, .int .i64 x.right.va, .string x.right.name, .slice x.right.ad x.right.args.length x.right.cap]
theorem row_eq {w : World} {base n c G : Nat} {A : Option Addr} (h3 : Blk w (G + 3) 9 #[.string ⟨#[120]⟩]) (own : w.ownsRow base 48 7 (.slice A n c) n (rep [.slice (some ⟨G + 3, 0, none⟩) 1 1, .int .i64 1, .int .i64 0, .int .i64 3, .int .i64 0, .string ⟨#[]⟩, .slice none 0 0] n)) (hl : n ≤ 140737488355328) : RowOf 7 (PEq True) w ⟨A, c, List.replicate n ⟨⟨some ⟨G + 3, 0, none⟩, 1, [⟨#[120]⟩]⟩, redT⟩⟩ :=
  row_rep eqCells (fun _ => rfl) (d := ⟨⟨some ⟨G + 3, 0, none⟩, 1, [⟨#[120]⟩]⟩, redT⟩) own hl fun b o hb h => wide_eq h3 h
theorem row_node {w : World} {base n c G : Nat} {A : Option Addr} (h : Light w G) (own : w.ownsRow base 45 8 (.slice A n c) n (rep [.string ⟨#[102]⟩, .slice none 0 0, .slice (some ⟨G + 2, 0, none⟩) 1 1, .slice none 0 0, .slice (some ⟨G + 4, 0, none⟩) 1 1, .slice none 0 0, .slice none 0 0, .slice none 0 0] n)) (hl : n ≤ 140737488355328) : RowOf 8 (PNd True) w ⟨A, c, List.replicate n (lightN G)⟩ :=
  row_rep ndCells (fun _ => rfl) (d := lightN G) own hl fun b o hb h' => light_node h h'
theorem row_enum {w : World} {base n c G : Nat} {A : Option Addr} (h6 : Blk w (G + 6) 9 #[.string ⟨#[82, 101, 100]⟩, .string ⟨#[71, 114, 101, 101, 110]⟩]) (own : w.ownsRow base 59 2 (.slice A n c) n (rep [.string ⟨#[76, 105, 103, 104, 116]⟩, .slice (some ⟨G + 6, 0, none⟩) 2 2] n)) (hl : n ≤ 140737488355328) : RowOf 2 PEn w ⟨A, c, List.replicate n (lightU G)⟩ :=
  row_rep (fun x => [.string x.name, .slice x.tags.A x.tags.l.length x.tags.c]) (fun _ => rfl) (d := lightU G) own hl fun b o hb h => wide_enum h6 h
theorem row_tags {w : World} {base n c : Nat} {A : Option Addr} (own : w.ownsRow base 9 1 (.slice A n c) n (tagFl n)) (h2 : 2 ≤ n) (hl : n ≤ 140737488355328) : RowOf 1 PStr w ⟨A, c, wTags n⟩ := by
  have en := wTags_len h2
  obtain ⟨A', c', e1, h⟩ := RowOf.of_own (l := wTags n) (v := .slice A n c) (P := PStr) (sz := 1) (cells := fun s => [.string s]) (fun _ => rfl) (by rw [en]; exact own) (by rw [en]; exact hl) (fun b o y hb hy h => ⟨h 0 _ rfl, by
    unfold wTags at hy
    simp only [List.mem_cons, List.mem_replicate] at hy
    rcases hy with rfl | rfl | ⟨_, rfl⟩ <;> decide⟩)
  injection e1 with e2 e3 e4
  rw [e2, e4]
  exact h
def tagU (A : Option Addr) (c n : Nat) : EnD := ⟨⟨#[76, 105, 103, 104, 116]⟩, ⟨A, c, wTags n⟩⟩
theorem row_tagU {w : World} {G n c : Nat} {A : Option Addr} (h7 : Blk w (G + 7) 59 #[.string ⟨#[76, 105, 103, 104, 116]⟩, .slice A n c]) (h : RowOf 1 PStr w ⟨A, c, wTags n⟩) (h2 : 2 ≤ n) : RowOf 2 PEn w ⟨some ⟨G + 7, 0, none⟩, 1, [tagU A c n]⟩ :=
  RowOf.one h7.lt ⟨by rw [h7.cell]; rfl, by rw [h7.cell]; show _ = some (Value.slice A (wTags n).length c); rw [wTags_len h2]; rfl, (by decide : ByteArray.size ⟨#[76, 105, 103, 104, 116]⟩ ≤ 140737488355328), h⟩
/-! ### plain -/
theorem firstE_rep {α : Type} {f : α → Int} {d : α} (h : f d = 0) (n : Nat) : firstE f (List.replicate n d) = 0 := by
  induction n with
  | zero => rfl
  | succ n ih => rw [List.replicate_succ, firstE, h, ih]; rfl
theorem check_one (G : Nat) (x : NdD) : (checkV [lightU G] [x]).2.2 = nodeE [lightU G] x := by
  unfold checkV
  rw [if_pos (pre_light G G _ (by simp)), nodesV]
  split
  · rename_i h; rw [nodesV, h]
  · rfl
theorem decl_a (l : List EnD) (b : Bool) : declE l b aDecl = 0 := by
  have h : decide ((0 : Int) < (sizeV l 2 : Int)) = true := by rw [decide_eq_true_eq]; show (0 : Int) < ((65536 : Nat) : Int); decide
  unfold declE aDecl
  simp only [firstE, identE, id_a, limE, h]
  cases b <;> rfl
/-- headE of a node with light's name and outputs -/
theorem head_wide (G : Nat) {x : NdD} (e1 : x.name = ⟨#[102]⟩) (e2 : x.outs = (lightN G).outs) (e3 : x.assume = ⟨none, 0, []⟩) (h1 : firstE (declE [lightU G] true) x.ins.l = 0) (h3 : firstE (declE [lightU G] false) x.locals.l = 0) :
    headE [lightU G] x = limE (decide ((x.ins.l.length : Int) ≤ 64) && (decide ((x.locals.l.length : Int) ≤ 256) && (decide ((x.eqs.l.length : Int) ≤ 256) && (decide ((x.autos.l.length : Int) ≤ 8) && decide ((x.ensure.l.length : Int) ≤ 8))))) 3 := by
  unfold headE declsE
  rw [e1, e2, e3, h1, h3]
  simp only [lightN, firstE, decl_x (two_light G), identE, id_f, List.length_cons, List.length_nil]
  generalize decide ((x.ins.l.length : Int) ≤ 64) = b1
  generalize decide ((x.locals.l.length : Int) ≤ 256) = b2
  generalize decide ((x.eqs.l.length : Int) ≤ 256) = b3
  generalize decide ((x.autos.l.length : Int) ≤ 8) = b4
  generalize decide ((x.ensure.l.length : Int) ≤ 8) = b5
  cases b1 <;> cases b2 <;> cases b3 <;> cases b4 <;> cases b5 <;> kernel_rfl
/-- what Check says of such a node -/
theorem node_wide (G : Nat) {x : NdD} (e1 : x.name = ⟨#[102]⟩) (e2 : x.outs = (lightN G).outs) (e3 : x.assume = ⟨none, 0, []⟩) (h1 : firstE (declE [lightU G] true) x.ins.l = 0) (h3 : firstE (declE [lightU G] false) x.locals.l = 0)
    (h4 : firstE (eqE [lightU G]) x.eqs.l = 0) (h5 : firstE (auE [lightU G] 0) x.autos.l = 0) (h7 : firstE (exE [lightU G]) x.ensure.l = 0) {b : Bool}
    (hb : (decide ((x.ins.l.length : Int) ≤ 64) && (decide ((x.locals.l.length : Int) ≤ 256) && (decide ((x.eqs.l.length : Int) ≤ 256) && (decide ((x.autos.l.length : Int) ≤ 8) && decide ((x.ensure.l.length : Int) ≤ 8))))) = b) : (checkV [lightU G] [x]).2.2 = limE b 3 := by
  rw [check_one]
  unfold nodeE tailE
  rw [head_wide G e1 e2 e3 h1 h3, hb, h4, h5, h7, e3]
  cases b <;> rfl
/-- Check at n nodes like light's -/
theorem nodes_rep (G n : Nat) : ∀ i, nodesV [lightU G] (List.replicate n (lightN G)) i = (0, 0, 0) := by
  induction n with
  | zero => intro i; rfl
  | succ n ih => intro i; rw [List.replicate_succ, nodesV, if_pos (node_light (two_light G) G), ih]
theorem check_nodes (G n : Nat) : (checkV [lightU G] (List.replicate n (lightN G))).2.2 = limE (decide ((n : Int) ≤ 96)) 3 := by
  have e : preE [lightU G] (List.replicate n (lightN G)) = limE (decide ((n : Int) ≤ 96)) 3 := by
    unfold preE
    rw [firstE, enum_light, firstE, List.length_replicate]
    cases decide ((n : Int) ≤ 96) <;> rfl
  unfold checkV
  rw [e]
  cases decide ((n : Int) ≤ 96)
  · rfl
  · show (if (0 : Int) = 0 then _ else _ : Int × Int × Int).2.2 = 0
    rw [if_pos rfl, nodes_rep]
/-- Check at n enumerations like light's -/
theorem check_enums (G n : Nat) (hn : 1 ≤ n) : (checkV (List.replicate n (lightU G)) [lightN G]).2.2 = limE (decide ((n : Int) ≤ 24)) 3 := by
  have e : preE (List.replicate n (lightU G)) [lightN G] = limE (decide ((n : Int) ≤ 24)) 3 := by
    unfold preE
    rw [firstE_rep (enum_light G), List.length_replicate]
    cases decide ((n : Int) ≤ 24) <;> rfl
  have h2 : Two (List.replicate n (lightU G)) := by
    obtain ⟨k, rfl⟩ : ∃ k, n = k + 1 := ⟨n - 1, by omega⟩
    exact ⟨_, _, List.replicate_succ, Nat.le_refl 2⟩
  unfold checkV
  rw [e]
  cases decide ((n : Int) ≤ 24)
  · rfl
  · show (if (0 : Int) = 0 then _ else _ : Int × Int × Int).2.2 = 0
    rw [if_pos rfl, nodesV, if_pos (node_light h2 G), nodesV]
theorem check_tags (G : Nat) {n : Nat} (h2 : 2 ≤ n) (A : Option Addr) (c : Nat) : (checkV [tagU A c n] [lightN G]).2.2 = limE (decide ((n : Int) ≤ 16)) 3 := by
  have ht : firstE identE (wTags n) = 0 := by
    unfold wTags
    rw [firstE, firstE, firstE_rep (show identE ⟨#[82, 101, 100]⟩ = 0 by unfold identE; rw [id_red]; rfl)]
    unfold identE
    rw [id_red, id_green]
    rfl
  have e : preE [tagU A c n] [lightN G] = limE (decide ((n : Int) ≤ 16)) 3 := by
    unfold preE
    rw [firstE, firstE]
    unfold enumE tagU
    rw [show identE ⟨#[76, 105, 103, 104, 116]⟩ = 0 by unfold identE; rw [id_light]; rfl]
    simp only []
    rw [ht, wTags_len h2, decide_eq_true (show (0 : Int) < (n : Int) by omega)]
    cases decide ((n : Int) ≤ 16) <;> rfl
  have h2' : Two [tagU A c n] := ⟨_, _, rfl, by show 2 ≤ (wTags n).length; rw [wTags_len h2]; exact h2⟩
  unfold checkV
  rw [e]
  cases decide ((n : Int) ≤ 16)
  · rfl
  · show (if (0 : Int) = 0 then _ else _ : Int × Int × Int).2.2 = 0
    rw [if_pos rfl, nodesV, if_pos (node_light h2' G), nodesV]
theorem limE_m {m : Int} {b : Bool} (h : b = decide (m ≤ 0)) : limE b 3 = if m ≤ 0 then 0 else 3 := by
  rw [h]
  by_cases hm : m ≤ 0 <;> simp [limE, hm]
end Go.Proofs.Ytdghfhnkacfahaa
set_option linter.unusedVariables false
set_option linter.unusedSimpArgs false
namespace Go.Proofs.Ytdghfhnkacfahaa
open Go.RowKit Go.BigFrame

theorem stInfo : (Try.prog.info? 80).map (fun i => (i.zero, i.size, i.bytes)) = some (some (.agg #[.string ⟨#[]⟩, .slice none 0 0, .slice none 0 0, .slice none 0 0, .slice none 0 0, .slice none 0 0]), 6, 136) := by kernel_rfl
theorem auInfo : (Try.prog.info? 86).map (fun i => (i.zero, i.size, i.bytes)) = some (some (.agg #[.slice none 0 0]), 1, 24) := by kernel_rfl
theorem trInfo : (Try.prog.info? 88).map (fun i => (i.zero, i.size, i.bytes)) = some (some (.agg #[.int .i64 0, .int .i64 0, .int .i64 0, .int .i64 0, .string ⟨#[]⟩, .slice none 0 0, .int .i64 0, .bool false]), 8, 88) := by kernel_rfl
theorem exInfo : (Try.prog.info? 25).map (fun i => (i.zero, i.size, i.bytes)) = some (some (.agg #[.int .i64 0, .int .i64 0, .int .i64 0, .int .i64 0, .string ⟨#[]⟩, .slice none 0 0]), 6, 72) := by kernel_rfl
section
variable {S : Prop}
theorem RSts.of {w : World} {b : Nat} : ∀ {o : Nat} {l : List StT}, (∀ i y, l[i]? = some y → PSt S w b (o + i * 6) y) → RSts S w b o l
  | _, [], _ => by rw [RSts]; trivial
  | o, x :: l, h => by
    rw [RSts]
    have h0 := h 0 x rfl
    rw [Nat.zero_mul, Nat.add_zero] at h0
    refine ⟨h0.1, h0.2, RSts.of fun i y hy => ?_⟩
    have := h (i + 1) y hy
    rwa [show o + (i + 1) * 6 = o + 6 + i * 6 by omega] at this
theorem RAu.of {w : World} {A : Option Addr} {c : Nat} {l : List StT} (h : RowOf 6 (PSt S) w ⟨A, c, l⟩) : RAu S w (.mk A c l) := by
  rw [RAu]
  refine ⟨h.le, h.cap, h.len, ?_⟩
  rcases h.cells with e | ⟨b, p, e, hlt, hc⟩
  · exact .inl e
  · exact .inr ⟨b, p, e, hlt, RSts.of hc⟩
end
/-- the law's state: one equation, at block q, and n times the transition yes -/
def wSt (G q : Nat) (A : Option Addr) (c : Nat) (l : List TrD) : StT := .mk ⟨#[65]⟩ ⟨none, 0, []⟩ ⟨some ⟨q, 0, none⟩, 1, [⟨⟨some ⟨G + 3, 0, none⟩, 1, [⟨#[120]⟩]⟩, redT⟩]⟩ none 0 [] ⟨none, 0, []⟩ ⟨A, c, l⟩
def yesTr : TrD := ⟨constT 1 1, 0, false⟩
def stCells (q : Nat) (A : Option Addr) (n c : Nat) : List Value := [.string ⟨#[65]⟩, .slice none 0 0, .slice (some ⟨q, 0, none⟩) 1 1, .slice none 0 0, .slice none 0 0, .slice A n c]
theorem wSt_is {w : World} {G q b o c : Nat} {A : Option Addr} {l : List TrD} (h3 : Blk w (G + 3) 9 #[.string ⟨#[120]⟩]) (hq : Blk w q 48 #[.slice (some ⟨G + 3, 0, none⟩) 1 1, .int .i64 1, .int .i64 0, .int .i64 3, .int .i64 0, .string ⟨#[]⟩, .slice none 0 0])
    (ht : RowOf 8 (PTr True) w ⟨A, c, l⟩) (h : ∀ j u, (stCells q A l.length c)[j]? = some u → w.cell? ⟨b, o + j, none⟩ = some u) : PSt True w b o (wSt G q A c l) :=
  ⟨⟨h 0 _ rfl, h 1 _ rfl, h 2 _ rfl, h 3 _ rfl, h 4 _ rfl, h 5 _ rfl⟩, by
    unfold wSt
    rw [RSta]
    exact ⟨by decide, RowOf.nil w, RowOf.one hq.lt (wide_eq h3 fun j u hu => by rw [hq.cell, Nat.zero_add, ← Array.getElem?_toList]; exact hu), RowOf.nil w, ht, Nat.le_refl 0, Nat.zero_le _, by simp, .inl rfl⟩⟩
theorem row_st {w : World} {base n c G q : Nat} {A : Option Addr} (h3 : Blk w (G + 3) 9 #[.string ⟨#[120]⟩]) (hq : Blk w q 48 #[.slice (some ⟨G + 3, 0, none⟩) 1 1, .int .i64 1, .int .i64 0, .int .i64 3, .int .i64 0, .string ⟨#[]⟩, .slice none 0 0])
    (own : w.ownsRow base 80 6 (.slice A n c) n (rep [.string ⟨#[65]⟩, .slice none 0 0, .slice (some ⟨q, 0, none⟩) 1 1, .slice none 0 0, .slice none 0 0, .slice none 0 0] n)) (hl : n ≤ 140737488355328) : RowOf 6 (PSt True) w ⟨A, c, List.replicate n (wSt G q none 0 [])⟩ :=
  row_rep (fun x : StT => [.string x.name, .slice x.locals.A x.locals.l.length x.locals.c, .slice x.eqs.A x.eqs.l.length x.eqs.c, .slice x.ad x.autos.length x.cap, .slice x.unl.A x.unl.l.length x.unl.c, .slice x.unt.A x.unt.l.length x.unt.c]) (fun _ => rfl) (d := wSt G q none 0 []) own hl fun b o hb h => wSt_is h3 hq (RowOf.nil w) h
theorem row_tr {w : World} {base n c : Nat} {A : Option Addr} (own : w.ownsRow base 88 8 (.slice A n c) n (rep [.int .i64 1, .int .i64 0, .int .i64 1, .int .i64 1, .string ⟨#[]⟩, .slice none 0 0, .int .i64 0, .bool false] n)) (hl : n ≤ 140737488355328) : RowOf 8 (PTr True) w ⟨A, c, List.replicate n yesTr⟩ :=
  row_rep (fun x : TrD => [.int .i64 x.cond.kind, .int .i64 x.cond.op, .int .i64 x.cond.ty, .int .i64 x.cond.va, .string x.cond.name, .slice x.cond.ad x.cond.args.length x.cond.cap, .int .i64 x.dst, .bool x.res]) (fun _ => rfl) (d := yesTr) own hl fun b o hb h => ⟨const_tb 1 1 (by decide), fun _ => (by decide : (constT 1 1).size ≤ 2000000), ⟨h 0 _ rfl, h 1 _ rfl, h 2 _ rfl, h 3 _ rfl, h 4 _ rfl, h 5 _ rfl⟩, h 6 _ rfl, h 7 _ rfl, const_rx w 1 1⟩
theorem row_ex {w : World} {base n c : Nat} {A : Option Addr} (own : w.ownsRow base 25 6 (.slice A n c) n (rep [.int .i64 1, .int .i64 0, .int .i64 1, .int .i64 1, .string ⟨#[]⟩, .slice none 0 0] n)) (hl : n ≤ 140737488355328) : RowOf 6 (PTx True) w ⟨A, c, List.replicate n (constT 1 1)⟩ :=
  row_rep (fun x : Tx => [.int .i64 x.kind, .int .i64 x.op, .int .i64 x.ty, .int .i64 x.va, .string x.name, .slice x.ad x.args.length x.cap]) (fun _ => rfl) (d := constT 1 1) own hl fun b o hb h => ⟨const_tb 1 1 (by decide), fun _ => (by decide : (constT 1 1).size ≤ 2000000), ⟨h 0 _ rfl, h 1 _ rfl, h 2 _ rfl, h 3 _ rfl, h 4 _ rfl, h 5 _ rfl⟩, const_rx w 1 1⟩
/-! ### plain -/
theorem node_tail (G : Nat) {x : NdD} (e1 : x.name = ⟨#[102]⟩) (e2 : x.outs = (lightN G).outs) (e3 : x.assume = ⟨none, 0, []⟩) (e4 : x.ins = ⟨none, 0, []⟩) (e5 : x.locals = ⟨none, 0, []⟩) (e6 : x.ensure = ⟨none, 0, []⟩) (e7 : x.eqs = (lightN G).eqs) (h8 : x.autos.l.length = 1) {b : Bool}
    (h5 : firstE (auE [lightU G] 0) x.autos.l = limE b 3) : (checkV [lightU G] [x]).2.2 = limE b 3 := by
  rw [check_one]
  unfold nodeE tailE
  rw [head_wide G e1 e2 e3 (by rw [e4]; rfl) (by rw [e5]; rfl), h5, e3, e6, e4, e5, e7, h8]
  simp only [lightN, firstE, eq_light (two_light G)]
  cases b <;> kernel_rfl
theorem wSt_err (G q : Nat) (A : Option Addr) (c n d : Nat) {l : List TrD} (hl : firstE (trE [lightU G] n false) l = 0) : stE [lightU G] n d (wSt G q A c l) = limE (decide ((l.length : Int) ≤ 4)) 3 := by
  unfold wSt
  rw [stE, hl, ausE]
  simp only [firstE, declsE, eq_light (two_light G), identE, id_A]
  cases decide ((l.length : Int) ≤ 4) <;> kernel_rfl
theorem yes_err (G n : Nat) (hn : 1 ≤ n) : trE [lightU G] n false yesTr = 0 := by
  unfold trE yesTr
  rw [ex_yes, decide_eq_true (show (0 : Int) < (n : Int) by omega)]
  rfl
theorem stsE_rep {en : List EnD} {n d : Nat} {x : StT} (h : stE en n d x = 0) : ∀ k, stsE en n d (List.replicate k x) = 0
  | 0 => by rw [List.replicate_zero, stsE]
  | k + 1 => by rw [List.replicate_succ, stsE, h, stsE_rep h k]; rfl
theorem st_none (G q n d : Nat) : stE [lightU G] n d (wSt G q none 0 []) = 0 := by rw [wSt_err G q none 0 n d rfl]; rfl
theorem au6_err (G q : Nat) {n : Nat} (hn : 1 ≤ n) (A : Option Addr) (c : Nat) : firstE (auE [lightU G] 0) [.mk A c (List.replicate n (wSt G q none 0 []))] = limE (decide ((n : Int) ≤ 8)) 3 := by
  rw [firstE, firstE, auE, List.length_replicate, stsE_rep (st_none G q n 0), decide_eq_true (show (0 : Int) < (n : Int) by omega)]
  cases decide ((n : Int) ≤ 8) <;> kernel_rfl
theorem au5_err (G q : Nat) : ∀ (l : List AuT), (∀ x ∈ l, ∃ A, x = .mk A 1 [wSt G q none 0 []]) → firstE (auE [lightU G] 0) l = 0
  | [], _ => rfl
  | x :: l, h => by
    obtain ⟨A, rfl⟩ := h x (List.mem_cons_self ..)
    rw [firstE, au5_err G q l fun y hy => h y (List.mem_cons_of_mem _ hy), auE, stsE, st_none, stsE]
    kernel_rfl
theorem au7_err (G q : Nat) (n : Nat) (Y A : Option Addr) (c : Nat) : firstE (auE [lightU G] 0) [.mk Y 1 [wSt G q A c (List.replicate n yesTr)]] = limE (decide ((n : Int) ≤ 4)) 3 := by
  rw [firstE, firstE, auE, stsE, stsE, wSt_err G q A c _ 0 (firstE_rep (yes_err G _ (by simp)) n), List.length_replicate]
  cases decide ((n : Int) ≤ 4) <;> kernel_rfl
/-- an automaton with one list of states, at a block -/
theorem row_au {w : World} {z c n : Nat} {A : Option Addr} {l : List StT} (hl : l.length = n) (hz : Blk w z 86 #[.slice A n c]) (h : RowOf 6 (PSt True) w ⟨A, c, l⟩) : RowOf 1 (PAu True) w ⟨some ⟨z, 0, none⟩, 1, [.mk A c l]⟩ :=
  RowOf.one hz.lt ⟨by rw [hz.cell]; show _ = some (Value.slice A l.length c); rw [hl]; rfl, RAu.of h⟩
end Go.Proofs.Ytdghfhnkacfahaa
set_option linter.unusedVariables false
set_option linter.unusedSimpArgs false
namespace Go.Proofs.Ytdghfhnkacfahaa
open Go.RowKit Go.BigFrame

section
variable {L L' : BL} {gc oc : Nat} {Tc : TypeId} {cs : Array Value} {B : Nat} {eT : TypeId} {sz : Nat} {fl fl' : Nat → List Value} {n : Nat} {A : Option Addr} {c : Nat} {w : World}
theorem LI.add (h : LI L gc oc Tc cs B eT sz fl n A c w) {x : Nat × TypeId × Array Value} (hx : Blk w x.1 x.2.1 x.2.2) (hn : some x.1 ≠ (Value.slice A n c).ownBlock) (hg : x.1 ≠ gc) : LI (x :: L) gc oc Tc cs B eT sz fl n A c w :=
  ⟨fun y hy => by
    rcases List.mem_cons.1 hy with rfl | hy
    · exact hx
    · exact h.kl y hy, h.bc, h.own, fun y hy => by
    rcases List.mem_cons.1 hy with rfl | hy
    · exact hn
    · exact h.ne y hy, h.nc, fun y hy => by
    rcases List.mem_cons.1 hy with rfl | hy
    · exact hg
    · exact h.far y hy, h.hB, h.fits⟩
theorem LI.sub (h : LI L gc oc Tc cs B eT sz fl n A c w) (hs : ∀ x ∈ L', x ∈ L) : LI L' gc oc Tc cs B eT sz fl n A c w :=
  ⟨fun y hy => h.kl y (hs y hy), h.bc, h.own, fun y hy => h.ne y (hs y hy), h.nc, fun y hy => h.far y (hs y hy), h.hB, h.fits⟩
theorem LI.row (h : LI L gc oc Tc cs B eT sz fl n A c w) (e : fl n = fl' n) : LI L gc oc Tc cs B eT sz fl' n A c w :=
  ⟨h.kl, h.bc, e ▸ h.own, h.ne, h.nc, h.far, h.hB, h.fits⟩
theorem LI.fresh (h : LI L gc oc Tc cs B eT sz fl n A c w) {b : Nat} (hb : w.heap.size ≤ b) : some b ≠ (Value.slice A n c).ownBlock := fun e => by
  have := (h.own.lt b e.symm).2
  omega
end
/-- the law's state as a block's image -/
def stPic (q : Nat) : Array Value := #[.string ⟨#[65]⟩, .slice none 0 0, .slice (some ⟨q, 0, none⟩) 1 1, .slice none 0 0, .slice none 0 0, .slice none 0 0]
def auF (q : Nat) (b : Nat) : Nat × TypeId × Array Value := (b, 80, stPic q)
/-- the row of automata over the state blocks bs (the newest first) -/
def auFl (bs : List Nat) (k : Nat) : List Value := (bs.reverse.take k).map fun b => .slice (some ⟨b, 0, none⟩) 1 1
theorem auFl_keep (bs : List Nat) (b : Nat) : auFl bs bs.length = auFl (b :: bs) bs.length := by
  unfold auFl
  rw [List.reverse_cons, List.take_append_of_le_length (by simp)]
theorem auFl_succ (bs : List Nat) (b : Nat) : auFl (b :: bs) bs.length ++ [.slice (some ⟨b, 0, none⟩) 1 1] = auFl (b :: bs) (bs.length + 1) := by
  unfold auFl
  rw [List.reverse_cons, List.take_append_of_le_length (by simp), List.take_of_length_le (l := bs.reverse ++ [b]) (by simp), List.take_of_length_le (by simp), List.map_append]
  rfl
def auOne (G q b : Nat) : AuT := .mk (some ⟨b, 0, none⟩) 1 [wSt G q none 0 []]
def auL (G q : Nat) (bs : List Nat) : List AuT := bs.reverse.map (auOne G q)
def auCells : AuT → List Value | .mk A c l => [.slice A l.length c]
theorem auL_len (G q : Nat) (bs : List Nat) : (auL G q bs).length = bs.length := by unfold auL; simp
theorem auL_cells (G q : Nat) (bs : List Nat) : (auL G q bs).flatMap auCells = auFl bs bs.length := by
  unfold auL auFl
  rw [List.take_of_length_le (by simp)]
  generalize bs.reverse = l
  induction l with
  | nil => rfl
  | cons b l ih => rw [List.map_cons, List.flatMap_cons, ih]; rfl
theorem au5_all (G q : Nat) (bs : List Nat) : firstE (auE [lightU G] 0) (auL G q bs) = 0 := au5_err G q _ fun x hx => by
  obtain ⟨b, _, rfl⟩ := List.mem_map.1 hx
  exact ⟨_, rfl⟩
theorem row_aus {w : World} {base c G q n : Nat} {A : Option Addr} {bs : List Nat} (hn : bs.length = n) (h3 : Blk w (G + 3) 9 #[.string ⟨#[120]⟩]) (hq : Blk w q 48 #[.slice (some ⟨G + 3, 0, none⟩) 1 1, .int .i64 1, .int .i64 0, .int .i64 3, .int .i64 0, .string ⟨#[]⟩, .slice none 0 0])
    (hb : ∀ b ∈ bs, Blk w b 80 (stPic q)) (own : w.ownsRow base 86 1 (.slice A n c) n (auFl bs n)) (hl : n ≤ 140737488355328) : RowOf 1 (PAu True) w ⟨A, c, auL G q bs⟩ := by
  subst hn
  have en := auL_len G q bs
  have own' : w.ownsRow base 86 1 (.slice A bs.length c) (auL G q bs).length ((auL G q bs).flatMap auCells) := by rw [en, auL_cells]; exact own
  obtain ⟨A', c', e1, h⟩ := RowOf.of_own (P := PAu True) (sz := 1) (cells := auCells) (fun y => by cases y; rfl) own' (by rw [en]; exact hl) (fun b o y hb' hy h => by
    obtain ⟨k, hk, rfl⟩ := List.mem_map.1 hy
    have hB := hb k (List.mem_reverse.1 hk)
    exact ⟨h 0 _ rfl, RAu.of (RowOf.one hB.lt (wSt_is h3 hq (RowOf.nil w) fun j u hu => by rw [hB.cell, Nat.zero_add, ← Array.getElem?_toList]; exact hu))⟩)
  injection e1 with e2 e3 e4
  rw [e2, e4]
  exact h
theorem rep_len {es : List Value} (h : es.length = 6) (n : Nat) : (rep es n).length = n * 6 := by
  unfold rep
  rw [List.length_flatten, List.map_replicate, h, List.sum_replicate_nat]
theorem yes_ex (G : Nat) : exE [lightU G] (constT 1 1) = 0 := ex_yes ..
theorem setCell_comm_ (w : World) {p q : Addr} (h : p.block ≠ q.block) (u v : Value) : (w.setCell p u).setCell q v = (w.setCell q v).setCell p u := by
  have k : ((w.setCell p u).setCell q v).heap = ((w.setCell q v).setCell p u).heap := by
    apply Array.ext_getElem?
    intro i
    simp only [World.setCell, Array.getElem?_modify]
    by_cases h1 : q.block = i
    · have h2 : p.block ≠ i := fun e => h (e.trans h1.symm)
      simp [h1, h2]
    · simp [h1]
  show ({ (w.setCell p u).setCell q v with heap := ((w.setCell p u).setCell q v).heap } : World) = { (w.setCell q v).setCell p u with heap := ((w.setCell q v).setCell p u).heap }
  rw [k]
  rfl
theorem grown_put {w w' : World} {row : Option Nat} (hg : w.grownBy w' row) {g : Nat} (h : row = some g ∨ w.heap.size ≤ g) (j : Nat) (u : Value) : w.grownBy (w'.setCell ⟨g, j, none⟩ u) row := by
  have hs := grown_set w' g j u
  refine ⟨hs.os.trans hg.os, hs.tape.trans hg.tape, hs.output.trans hg.output, Nat.le_trans hg.size hs.size, fun k hk hn => ?_⟩
  have hkg : k ≠ g := by
    rcases h with h | h
    · intro e; exact hn (by rw [h, e])
    · omega
  exact (hs.block k (Nat.lt_of_lt_of_le hk hg.size) (by intro e; injection e with e; exact hkg e)).trans (hg.block k hk hn)
section
variable {L : BL} {gc oc : Nat} {Tc : TypeId} {cs : Array Value} {B : Nat} {eT : TypeId} {fl : Nat → List Value} {n : Nat} {A : Option Addr} {c : Nat} {w : World}
theorem LI.push6 (h : LI L gc oc Tc cs B eT 6 fl n A c w) {w0 : World} (hgc : w0.heap.size ≤ gc) (a : After w0 w) (hb : w0.heap.size ≤ B) {v' : Value} {w' : World} {z0 z1 z2 z3 z4 z5 u0 u1 u2 u3 u4 u5 : Value} (hl : (fl n).length = n * 6) (hfl : fl n ++ [u0, u1, u2, u3, u4, u5] = fl (n + 1)) (ho : w'.ownsRow B eT 6 v' (n + 1) (fl n ++ [z0, z1, z2, z3, z4, z5])) (hg : w.grownBy w' (Value.slice A n c).ownBlock) (hn : v'.ownBlock = (Value.slice A n c).ownBlock ∨ v'.ownBlock = some w.heap.size) :
    ∃ g c', v' = .slice (some ⟨g, 0, none⟩) (n + 1) c' ∧ w'.cell? ⟨gc, oc, none⟩ = some (.slice A n c) ∧ w'.frozen? ⟨gc, oc, none⟩ = false ∧ Le (gc + 1) w' ∧ After w0 w' ∧ gc ≠ g ∧ Le (g + 1) w' ∧ w0.heap.size ≤ g ∧ (∀ j, w'.frozen? ⟨g, j, none⟩ = false) ∧ (∀ j z, [z0, z1, z2, z3, z4, z5][j]? = some z → w'.cell? ⟨g, n * 6 + j, none⟩ = some z) ∧
      ∃ W5, Hid ((((((((w'.setCell ⟨g, n * 6, none⟩ u0).setCell ⟨g, n * 6 + 1, none⟩ u1).setCell ⟨g, n * 6 + 2, none⟩ u2).setCell ⟨g, n * 6 + 3, none⟩ u3).setCell ⟨g, n * 6 + 4, none⟩ u4).setCell ⟨g, n * 6 + 5, none⟩ u5).setCell ⟨gc, oc, none⟩ (.slice (some ⟨g, 0, none⟩) (n + 1) c')) = W5) ∧ Hid ((((((((w'.setCell ⟨gc, oc, none⟩ (.slice (some ⟨g, 0, none⟩) (n + 1) c')).setCell ⟨g, n * 6, none⟩ u0).setCell ⟨g, n * 6 + 1, none⟩ u1).setCell ⟨g, n * 6 + 2, none⟩ u2).setCell ⟨g, n * 6 + 3, none⟩ u3).setCell ⟨g, n * 6 + 4, none⟩ u4).setCell ⟨g, n * 6 + 5, none⟩ u5) = W5) ∧ Hid (LI L gc oc Tc cs B eT 6 fl (n + 1) (some ⟨g, 0, none⟩) c' W5) ∧ After w0 W5 := by
  obtain ⟨g, c', rfl⟩ : ∃ g c', v' = .slice (some ⟨g, 0, none⟩) (n + 1) c' := by
    rcases ho.2 with ⟨h1, h2⟩ | ⟨g, cap, cur, hv, _⟩
    · omega
    · exact ⟨g, cap, hv⟩
  have hog : (Value.slice (some ⟨g, 0, none⟩) (n + 1) c').ownBlock = some g := rfl
  rw [hog] at hn
  have hgl := ho.lt g rfl
  have hlt := h.bc.lt
  have hrow : (Value.slice A n c).ownBlock = some g ∨ w.heap.size ≤ g := by
    rcases hn with e | e
    · exact .inl e.symm
    · injection e with e; exact .inr (Nat.le_of_eq e.symm)
  have hne : gc ≠ g := by
    intro e
    rcases hn with e' | e'
    · exact h.nc (by rw [e, ← e'])
    · injection e' with e'; omega
  have hb4 := h.bc.grown hg h.nc
  have k0 := (ho.stored (n * 6) u0).1
  have k1 := (k0.stored (n * 6 + 1) u1).1
  have k2 := (k1.stored (n * 6 + 2) u2).1
  have k3 := (k2.stored (n * 6 + 3) u3).1
  have k4 := (k3.stored (n * 6 + 4) u4).1
  have k5 := (k4.stored (n * 6 + 5) u5).1
  have eset : ((((((fl n ++ [z0, z1, z2, z3, z4, z5]).set (n * 6) u0).set (n * 6 + 1) u1).set (n * 6 + 2) u2).set (n * 6 + 3) u3).set (n * 6 + 4) u4).set (n * 6 + 5) u5 = fl n ++ [u0, u1, u2, u3, u4, u5] := by
    rw [← hl]
    simp [List.set_append_right]
  rw [eset] at k5
  have hg6 := grown_put (grown_put (grown_put (grown_put (grown_put (grown_put hg hrow (n * 6) u0) hrow (n * 6 + 1) u1) hrow (n * 6 + 2) u2) hrow (n * 6 + 3) u3) hrow (n * 6 + 4) u4) hrow (n * 6 + 5) u5
  obtain ⟨A', c2, e2, h5⟩ := h.step hfl k5 hg6 hn
  injection e2 with e3 e4 e5
  subst e3 e5
  have a4 : After w0 w' := after_grown_ (h := a) h.own hb hg
  have hgb : w0.heap.size ≤ g := Nat.le_trans hb hgl.1
  have a6 : After w0 (((((((w'.setCell ⟨g, n * 6, none⟩ u0).setCell ⟨g, n * 6 + 1, none⟩ u1).setCell ⟨g, n * 6 + 2, none⟩ u2).setCell ⟨g, n * 6 + 3, none⟩ u3).setCell ⟨g, n * 6 + 4, none⟩ u4).setCell ⟨g, n * 6 + 5, none⟩ u5).setCell ⟨gc, oc, none⟩ (.slice (some ⟨g, 0, none⟩) (n + 1) c')) := by
    first | exact after_set (h := after_set (h := after_set (h := after_set (h := after_set (h := after_set (h := after_set (h := a4) (k := ⟨hgb⟩) _ _) (k := ⟨hgb⟩) _ _) (k := ⟨hgb⟩) _ _) (k := ⟨hgb⟩) _ _) (k := ⟨hgb⟩) _ _) (k := ⟨hgb⟩) _ _) (k := ⟨hgc⟩) _ _
  have e7 : (((((((w'.setCell ⟨g, n * 6, none⟩ u0).setCell ⟨g, n * 6 + 1, none⟩ u1).setCell ⟨g, n * 6 + 2, none⟩ u2).setCell ⟨g, n * 6 + 3, none⟩ u3).setCell ⟨g, n * 6 + 4, none⟩ u4).setCell ⟨g, n * 6 + 5, none⟩ u5).setCell ⟨gc, oc, none⟩ (.slice (some ⟨g, 0, none⟩) (n + 1) c')) = (((((((w'.setCell ⟨gc, oc, none⟩ (.slice (some ⟨g, 0, none⟩) (n + 1) c')).setCell ⟨g, n * 6, none⟩ u0).setCell ⟨g, n * 6 + 1, none⟩ u1).setCell ⟨g, n * 6 + 2, none⟩ u2).setCell ⟨g, n * 6 + 3, none⟩ u3).setCell ⟨g, n * 6 + 4, none⟩ u4).setCell ⟨g, n * 6 + 5, none⟩ u5) := by
    rw [setCell_comm_ _ (p := ⟨g, n * 6 + 5, none⟩) (q := ⟨gc, oc, none⟩) (Ne.symm hne), setCell_comm_ _ (p := ⟨g, n * 6 + 4, none⟩) (q := ⟨gc, oc, none⟩) (Ne.symm hne), setCell_comm_ _ (p := ⟨g, n * 6 + 3, none⟩) (q := ⟨gc, oc, none⟩) (Ne.symm hne), setCell_comm_ _ (p := ⟨g, n * 6 + 2, none⟩) (q := ⟨gc, oc, none⟩) (Ne.symm hne), setCell_comm_ _ (p := ⟨g, n * 6 + 1, none⟩) (q := ⟨gc, oc, none⟩) (Ne.symm hne), setCell_comm_ _ (p := ⟨g, n * 6, none⟩) (q := ⟨gc, oc, none⟩) (Ne.symm hne)]
  refine ⟨g, c', rfl, by rw [hb4.cell]; simp [h.fits], hb4.frozen oc, hb4.is_le, after_grown_ (h := a) h.own hb hg, hne, ⟨hgl.2⟩, Nat.le_trans hb hgl.1, fun j => ?_, fun j z hz => ?_, _, rfl, e7.symm, h5, a6⟩
  · rcases ho.2 with ⟨h1, h2⟩ | ⟨g', cap, cur, hv, hbg, hh, _⟩
    · omega
    · injection hv with e6
      injection e6 with e6
      injection e6 with e6
      subst e6
      exact Blk.frozen (w := w') (t := eT) (cs := cur) hh j
  · have := ho.cells (g := g) rfl (n * 6 + j) z (by rw [List.getElem?_append_right (by omega), hl, show n * 6 + j - n * 6 = j by omega]; exact hz)
    rwa [Addr.add_lit, Nat.zero_add] at this
end
section
variable {K : BL} {gc oc q n : Nat} {Tc : TypeId} {cs : Array Value} {B : Nat} {bs : List Nat} {A : Option Addr} {c : Nat} {w : World}
theorem LI.push5 (hbn : bs.length = n) (h : LI (bs.map (auF q) ++ K) gc oc Tc cs B 86 1 (auFl bs) n A c w) {w0 : World} (a : After w0 w) (hb : w0.heap.size ≤ B) {U : World} {b : Nat} (aU : After w U) (hU : Blk U b 80 (stPic q)) (hb1 : w.heap.size ≤ b) {v' : Value} {w' : World}
    (ho : w'.ownsRow B 86 1 v' (n + 1) (auFl bs n ++ [.slice (some ⟨b, 0, none⟩) 1 1])) (hg : U.grownBy w' (Value.slice A n c).ownBlock) (hn : v'.ownBlock = (Value.slice A n c).ownBlock ∨ v'.ownBlock = some U.heap.size) :
    ∃ A' c', v' = .slice A' (n + 1) c' ∧ w'.cell? ⟨gc, oc, none⟩ = some (.slice A n c) ∧ w'.frozen? ⟨gc, oc, none⟩ = false ∧ Le (gc + 1) w' ∧ After w0 w' ∧ Hid (LI ((b :: bs).map (auF q) ++ K) gc oc Tc cs B 86 1 (auFl (b :: bs)) (n + 1) A' c' (w'.setCell ⟨gc, oc, none⟩ (.slice A' (n + 1) c'))) := by
  subst hbn
  have hlt := h.bc.lt
  have h2 := ((h.here U).add (x := auF q b) hU (h.fresh hb1) (by show b ≠ gc; omega)).row (auFl_keep bs b)
  rw [auFl_keep bs b] at ho
  exact h2.push (after_after a aU) hb (auFl_succ bs b) ho hg hn
end
end Go.Proofs.Ytdghfhnkacfahaa
