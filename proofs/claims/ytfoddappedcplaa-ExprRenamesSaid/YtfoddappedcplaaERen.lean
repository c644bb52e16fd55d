/-
  Plain words for renaming: trees without places; where the arguments of a tree lie.
-/
import Derived.Test.YtfoddappedcplaaESame
set_option linter.unusedVariables false
set_option linter.unusedSimpArgs false
namespace Go.Proofs.Ytfoddappedcplaa
open Go.RowKit Go.BigFrame

def renN (a b : ByteArray) (k : Int) (s : ByteArray) : ByteArray := if varB k && (s.toList == a.toList) then b else s
mutual
def Ex.ren (a b : ByteArray) : Ex → Ex
  | .mk k o t v s xs => .mk k o t v (renN a b k s) (Ex.rens a b xs)
def Ex.rens (a b : ByteArray) : List Ex → List Ex
  | [] => []
  | x :: xs => Ex.ren a b x :: Ex.rens a b xs
end
theorem rens_length (a b : ByteArray) : ∀ l : List Ex, (Ex.rens a b l).length = l.length
  | [] => rfl
  | x :: l => by rw [Ex.rens, List.length_cons, List.length_cons, rens_length a b l]
theorem rens_append (a b : ByteArray) : ∀ l m : List Ex, Ex.rens a b (l ++ m) = Ex.rens a b l ++ Ex.rens a b m
  | [], m => rfl
  | x :: l, m => by rw [List.cons_append, Ex.rens, rens_append a b l m, Ex.rens, List.cons_append]
theorem ers_append : ∀ l m : List Tx, Tx.ers (l ++ m) = Tx.ers l ++ Tx.ers m
  | [], m => rfl
  | x :: l, m => by rw [List.cons_append, Tx.ers, ers_append l m, Tx.ers, List.cons_append]
theorem rens_take {a b : ByteArray} {xs : List Tx} {j : Nat} {e : Tx} (h : xs[j]? = some e) : Ex.rens a b (Tx.ers (xs.take (j + 1))) = Ex.rens a b (Tx.ers (xs.take j)) ++ [Ex.ren a b e.er] := by
  rw [Tx.take_succ h, ers_append, rens_append]; rfl

/-! ### the blocks of a tree's arguments -/
mutual
def Foot (S : Nat → Prop) : Tx → Prop
  | .mk _ _ _ _ _ A _ xs => (xs = [] ∨ ∃ b o, A = some ⟨b, o, none⟩ ∧ S b) ∧ Foots S xs
def Foots (S : Nat → Prop) : List Tx → Prop
  | [] => True
  | e :: es => Foot S e ∧ Foots S es
end
mutual
theorem Foot.mono {S S' : Nat → Prop} (h : ∀ b, S b → S' b) : ∀ {e : Tx}, Foot S e → Foot S' e
  | .mk _ _ _ _ _ A _ xs, x => by
    rw [Foot] at x ⊢
    refine ⟨x.1.imp id ?_, Foots.mono h x.2⟩
    rintro ⟨b, o, e, hs⟩
    exact ⟨b, o, e, h b hs⟩
theorem Foots.mono {S S' : Nat → Prop} (h : ∀ b, S b → S' b) : ∀ {es : List Tx}, Foots S es → Foots S' es
  | [], _ => by rw [Foots]; trivial
  | e :: es, x => by rw [Foots] at x ⊢; exact ⟨Foot.mono h x.1, Foots.mono h x.2⟩
end
theorem Foots.append {S : Nat → Prop} : ∀ {l m : List Tx}, Foots S l → Foots S m → Foots S (l ++ m)
  | [], m, _, h => h
  | e :: l, m, x, h => by rw [Foots] at x; rw [List.cons_append, Foots]; exact ⟨x.1, Foots.append x.2 h⟩
mutual
/-- a tree stays where the blocks of its arguments stay -/
theorem RX.stay {w w' : World} {S : Nat → Prop} (hk : ∀ b, S b → b < w.heap.size → w'.heap[b]? = w.heap[b]?) (hz : w.heap.size ≤ w'.heap.size) : ∀ {e : Tx}, RX w e → Foot S e → RX w' e
  | .mk _ _ _ _ s A c xs, h, f => by
    rw [RX] at h ⊢
    rw [Foot] at f
    obtain ⟨h1, h2, h3, h4, h5⟩ := h
    refine ⟨h1, h2, h3, h4, ?_⟩
    rcases h5 with h5 | ⟨b, o, h5, h6, h7⟩
    · exact .inl h5
    · rcases f.1 with f1 | ⟨b', o', f1, f2⟩
      · exact .inl f1
      · rw [h5] at f1
        injection f1 with f1
        injection f1 with f3 f4
        subst f3
        exact .inr ⟨b, o, h5, Nat.lt_of_lt_of_le h6 hz, RXs.stay hk hz (hk b f2 h6) h7 f.2⟩
theorem RXs.stay {w w' : World} {S : Nat → Prop} (hk : ∀ b, S b → b < w.heap.size → w'.heap[b]? = w.heap[b]?) (hz : w.heap.size ≤ w'.heap.size) {b : Nat} (hb : w'.heap[b]? = w.heap[b]?) : ∀ {o : Nat} {es : List Tx}, RXs w b o es → Foots S es → RXs w' b o es
  | _, [], _, _ => by rw [RXs]; trivial
  | o, e :: es, h, f => by
    rw [RXs] at h ⊢
    rw [Foots] at f
    exact ⟨h.1.keep (fun i => by simp [World.cell?, hb]), RX.stay hk hz h.2.1 f.1, RXs.stay hk hz hb h.2.2 f.2⟩
end
theorem RX.all_stay {w w' : World} {S : Nat → Prop} (hk : ∀ b, S b → b < w.heap.size → w'.heap[b]? = w.heap[b]?) (hz : w.heap.size ≤ w'.heap.size) : ∀ {l : List Tx}, (∀ e ∈ l, RX w e) → Foots S l → ∀ e ∈ l, RX w' e
  | [], _, _, e, he => by simp at he
  | a :: l, h, f, e, he => by
    rw [Foots] at f
    rcases List.mem_cons.1 he with rfl | he
    · exact (h _ (by simp)).stay hk hz f.1
    · exact RX.all_stay hk hz (fun y hy => h y (by simp [hy])) f.2 e he

/-! ### a row that is made whole and filled from its head -/
structure Filled (cs : Array Value) (n : Nat) (ys : List Tx) : Prop where
  size : cs.size = n * 6
  get : ∀ i, i < ys.length * 6 → cs[i]? = (flat ys)[i]?
def set6 (cs : Array Value) (i : Nat) (e : Tx) : Array Value := (((((cs.setIfInBounds i (.int .i64 e.kind)).setIfInBounds (i + 1) (.int .i64 e.op)).setIfInBounds (i + 2) (.int .i64 e.ty)).setIfInBounds (i + 3) (.int .i64 e.va)).setIfInBounds (i + 4) (.string e.name)).setIfInBounds (i + 5) (.slice e.ad e.args.length e.cap)
theorem Filled.nil {cs : Array Value} {n : Nat} (h : cs.size = n * 6) : Filled cs n [] := ⟨h, fun i hi => by simp at hi⟩
theorem Filled.put {cs : Array Value} {n : Nat} {ys : List Tx} (h : Filled cs n ys) (hn : ys.length < n) (e : Tx) : Filled (set6 cs (ys.length * 6) e) n (ys ++ [e]) := by
  have hs := h.size
  refine ⟨by simp [set6, hs], fun i hi => ?_⟩
  rw [List.length_append, List.length_singleton] at hi
  rw [flat_append, flat_one]
  by_cases hlt : i < ys.length * 6
  · rw [List.getElem?_append_left (by rw [flat_length]; exact hlt), ← h.get i hlt]
    simp only [set6, Array.getElem?_setIfInBounds]
    rw [if_neg (by omega), if_neg (by omega), if_neg (by omega), if_neg (by omega), if_neg (by omega), if_neg (by omega)]
  · rw [List.getElem?_append_right (by rw [flat_length]; omega), flat_length]
    obtain ⟨r, hr, rfl⟩ : ∃ r, r < 6 ∧ i = ys.length * 6 + r := ⟨i - ys.length * 6, by omega, by omega⟩
    rw [show ys.length * 6 + r - ys.length * 6 = r by omega]
    simp only [set6, Array.getElem?_setIfInBounds, Array.size_setIfInBounds, hs]
    have : r = 0 ∨ r = 1 ∨ r = 2 ∨ r = 3 ∨ r = 4 ∨ r = 5 := by omega
    rcases this with rfl | rfl | rfl | rfl | rfl | rfl
    · rw [if_neg (by omega), if_neg (by omega), if_neg (by omega), if_neg (by omega), if_neg (by omega), if_pos (by omega), if_pos (by omega)]; rfl
    · rw [if_neg (by omega), if_neg (by omega), if_neg (by omega), if_neg (by omega), if_pos (by omega), if_pos (by omega)]; rfl
    · rw [if_neg (by omega), if_neg (by omega), if_neg (by omega), if_pos (by omega), if_pos (by omega)]; rfl
    · rw [if_neg (by omega), if_neg (by omega), if_pos (by omega), if_pos (by omega)]; rfl
    · rw [if_neg (by omega), if_pos (by omega), if_pos (by omega)]; rfl
    · rw [if_pos (by omega), if_pos (by omega)]; rfl
theorem Filled.reads {w : World} {g : Nat} {t : TypeId} {cs : Array Value} {n : Nat} {ys : List Tx} (h : Filled cs n ys) (b : Blk w g t cs) (hx : ∀ e ∈ ys, RX w e) : RXs w g 0 ys :=
  flat_reads ys 0 (fun j u hu => by
    rw [Nat.zero_add, b.cell, h.get j (by rw [← flat_length]; exact (List.getElem?_eq_some_iff.1 hu).1)]; exact hu) hx
theorem Blk.of_make {w : World} {g n : Nat} {B : Nat} {t : TypeId} {xs : List Value} (h : w.ownsRow B t 6 (.slice (some ⟨g, 0, none⟩) n n) n xs) : ∃ cs, Blk w g t cs ∧ cs.size = n * 6 := by
  rcases h.2 with ⟨h1, _⟩ | ⟨g', cap, cur, hv, _, hh, _, _, hsz, _⟩
  · cases h1
  · injection hv with e1 e2 e3
    injection e1 with e1
    injection e1 with e1
    subst e1; subst e3
    exact ⟨cur, hh, hsz⟩
/-! ### six cells stored -/
def setSix (w : World) (g o : Nat) (e : Tx) : World := (((((w.setCell ⟨g, o, none⟩ (.int .i64 e.kind)).setCell ⟨g, o + 1, none⟩ (.int .i64 e.op)).setCell ⟨g, o + 2, none⟩ (.int .i64 e.ty)).setCell ⟨g, o + 3, none⟩ (.int .i64 e.va)).setCell ⟨g, o + 4, none⟩ (.string e.name)).setCell ⟨g, o + 5, none⟩ (.slice e.ad e.args.length e.cap)
theorem set6_lit (z0 z1 z2 z3 z4 z5 : Value) (k o t v : Int) (s : ByteArray) (A : Option Addr) (c : Nat) (xs : List Tx) : set6 #[z0, z1, z2, z3, z4, z5] 0 (.mk k o t v s A c xs) = #[.int .i64 k, .int .i64 o, .int .i64 t, .int .i64 v, .string s, .slice A xs.length c] := by
  simp [set6, Tx.kind, Tx.op, Tx.ty, Tx.va, Tx.name, Tx.ad, Tx.args, Tx.cap]
theorem setSix_size (w : World) (g o : Nat) (e : Tx) : (setSix w g o e).heap.size = w.heap.size := by
  unfold setSix; simp only [size_set_]
theorem setSix_heap (w : World) (g o : Nat) (e : Tx) {b : Nat} (hb : b ≠ g) : (setSix w g o e).heap[b]? = w.heap[b]? := by
  unfold setSix
  rw [Below.heap_setCell _ _ _ _ hb, Below.heap_setCell _ _ _ _ hb, Below.heap_setCell _ _ _ _ hb, Below.heap_setCell _ _ _ _ hb, Below.heap_setCell _ _ _ _ hb, Below.heap_setCell _ _ _ _ hb]
theorem setSix_blk {w : World} {g : Nat} {t : TypeId} {cs : Array Value} (h : Blk w g t cs) (o : Nat) (e : Tx) : Blk (setSix w g o e) g t (set6 cs o e) :=
  (((((h.set_ o _).set_ (o + 1) _).set_ (o + 2) _).set_ (o + 3) _).set_ (o + 4) _).set_ (o + 5) _
theorem setSix_far {w : World} {g g' : Nat} {t : TypeId} {cs : Array Value} (h : Blk w g t cs) (hg : g ≠ g') (o : Nat) (e : Tx) : Blk (setSix w g' o e) g t cs := (setSix_heap w g' o e hg).trans h
theorem setSix_after {w0 w : World} (h : After w0 w) {g : Nat} (hg : w0.heap.size ≤ g) (o : Nat) (e : Tx) : After w0 (setSix w g o e) := by
  have : New w0 g := ⟨hg⟩
  unfold setSix
  infer_instance
theorem foots_stay {w w' : World} {g : Nat} {l : List Tx} (hx : ∀ e ∈ l, RX w e) (hf : Foots (fun b => g < b) l) (hz : w.heap.size ≤ w'.heap.size) (hk : ∀ b, g < b → w'.heap[b]? = w.heap[b]?) : ∀ e ∈ l, RX w' e :=
  RX.all_stay (fun b hb _ => hk b hb) hz hx hf
/-- one round of the filling -/
theorem fill_round {wr w1 w2 : World} {g n j : Nat} {t : TypeId} {cs : Array Value} {ys : List Tx} {y : Tx} (hyl : ys.length = j) (hj : j < n) (hf : Filled cs n ys) (hg : Blk wr g t cs) (a1 : After wr w1) (a2 : After w1 w2) (hx : ∀ e ∈ ys, RX wr e) (hft : Foots (fun b => g < b) ys) (hy : RX w2 y) (hfy : Foot (fun b => w1.heap.size ≤ b) y) :
    Filled (set6 cs (j * 6) y) n (ys ++ [y]) ∧ Blk (setSix w2 g (j * 6) y) g t (set6 cs (j * 6) y) ∧ (∀ e ∈ ys ++ [y], RX (setSix w2 g (j * 6) y) e) ∧ Foots (fun b => g < b) (ys ++ [y]) := by
  have hlt := hg.lt
  have hfy2 : Foot (fun b => g < b) y := hfy.mono fun b hb => by have := a1.below.size; omega
  have hfa : Foots (fun b => g < b) (ys ++ [y]) := hft.append (by rw [Foots, Foots]; exact ⟨hfy2, trivial⟩)
  refine ⟨by rw [← hyl]; exact hf.put (by omega) y, setSix_blk (hg.after (k := after_after a1 a2)) _ _, ?_, hfa⟩
  refine foots_stay (w := w2) (g := g) ?_ hfa (by rw [setSix_size]; exact Nat.le_refl _) (fun b hb => setSix_heap _ _ _ _ (by omega))
  intro e he
  rcases List.mem_append.1 he with he | he
  · exact (hx e he).below (after_after a1 a2).below
  · rw [List.mem_singleton.1 he]; exact hy
/-! ### a row that is appended to -/
mutual
theorem Foot.lt {w : World} {S : Nat → Prop} : ∀ {e : Tx}, RX w e → Foot S e → Foot (fun b => S b ∧ b < w.heap.size) e
  | .mk _ _ _ _ s A c xs, h, f => by
    rw [RX] at h
    rw [Foot] at f ⊢
    obtain ⟨h1, h2, h3, h4, h5⟩ := h
    rcases h5 with h5 | ⟨b, o, h5, h6, h7⟩
    · subst h5
      exact ⟨.inl rfl, by rw [Foots]; trivial⟩
    · refine ⟨?_, Foots.lt h7 f.2⟩
      rcases f.1 with f1 | ⟨b', o', f1, f2⟩
      · exact .inl f1
      · rw [h5] at f1
        injection f1 with f1
        injection f1 with f3 f4
        subst f3
        exact .inr ⟨b, o, h5, f2, h6⟩
theorem Foots.lt {w : World} {S : Nat → Prop} {b : Nat} : ∀ {o : Nat} {es : List Tx}, RXs w b o es → Foots S es → Foots (fun b => S b ∧ b < w.heap.size) es
  | _, [], _, _ => by rw [Foots]; trivial
  | o, e :: es, h, f => by
    rw [RXs] at h
    rw [Foots] at f ⊢
    exact ⟨Foot.lt h.2.1 f.1, Foots.lt h.2.2 f.2⟩
end
theorem app_round {wr w2 W' : World} {ob : Obj} {B : Nat} {t : TypeId} {r r' : Value} {ys : List Tx} {y : Tx} (own : wr.ownsRow B t 6 r ys.length (flat ys)) (hB : B ≤ wr.heap.size) (a : After wr w2) (hx : ∀ e ∈ ys, RX wr e) (hf : Foots (fun b => B ≤ b ∧ b < wr.heap.size ∧ some b ≠ r.ownBlock) ys)
    (hy : RX w2 y) (hfy : Foot (fun b => wr.heap.size ≤ b) y) (hg : (w2.alloc ob).grownBy W' r.ownBlock) (hnx : r'.ownBlock = r.ownBlock ∨ r'.ownBlock = some (w2.alloc ob).heap.size) :
    (∀ e ∈ ys ++ [y], RX W' e) ∧ Foots (fun b => B ≤ b ∧ b < W'.heap.size ∧ some b ≠ r'.ownBlock) (ys ++ [y]) := by
  have h1 : wr.heap.size ≤ w2.heap.size := a.below.size
  have h2 : (w2.alloc ob).heap.size = w2.heap.size + 1 := size_alloc_ _ _
  have h3 := hg.size
  have hfy1 := Foot.lt hy hfy
  have hfy2 : Foot (fun b => B ≤ b ∧ b < w2.heap.size ∧ some b ≠ r.ownBlock) y := hfy1.mono fun b hb => ⟨by omega, hb.2, fun e => by have := (own.lt b e.symm).2; omega⟩
  have hf2 : Foots (fun b => B ≤ b ∧ b < w2.heap.size ∧ some b ≠ r.ownBlock) (ys ++ [y]) := (hf.mono fun b hb => ⟨hb.1, by omega, hb.2.2⟩).append (by rw [Foots, Foots]; exact ⟨hfy2, trivial⟩)
  have hx2 : ∀ e ∈ ys ++ [y], RX w2 e := by
    intro e he
    rcases List.mem_append.1 he with he | he
    · exact (hx e he).below a.below
    · rw [List.mem_singleton.1 he]; exact hy
  refine ⟨RX.all_stay (w := w2) (fun b hb hlt => (hg.block b (by omega) hb.2.2).trans (Below.heap_alloc w2 ob b hlt)) (by omega) hx2 hf2, hf2.mono fun b hb => ⟨hb.1, by omega, ?_⟩⟩
  rcases hnx with e | e
  · rw [e]; exact hb.2.2
  · rw [e, h2]; intro e2; injection e2 with e2; omega
theorem row_foot {w : World} {B c : Nat} {A : Option Addr} {t : TypeId} {S : Nat → Prop} {ys : List Tx} (own : w.ownsRow B t 6 (.slice A ys.length c) ys.length (flat ys)) (hS : ∀ g, B ≤ g → S g) (hf : Foots S ys) : Foot S (rowX A c ys) := by
  unfold rowX
  rw [Foot]
  refine ⟨?_, hf⟩
  rcases own.2 with ⟨_, h⟩ | ⟨g, cap, cur, hv, hbg, _⟩
  · exact .inl (List.eq_nil_of_length_eq_zero h)
  · injection hv with h1
    exact .inr ⟨g, 0, h1, hS g hbg⟩
/-- what Rename leaves -/
def RenP (a b : ByteArray) (k o t v : Int) (s : ByteArray) (xs : List Tx) (w : World) (e : Ending) (w' : World) : Prop :=
  ∃ A' c' xs', e = .returned (.agg #[.int .i64 k, .int .i64 o, .int .i64 t, .int .i64 v, .string (renN a b k s), .slice A' xs'.length c']) ∧ Tx.ers xs' = Ex.rens a b (Tx.ers xs) ∧
    RX w' (.mk k o t v (renN a b k s) A' c' xs') ∧ Foot (fun g => w.heap.size ≤ g) (.mk k o t v (renN a b k s) A' c' xs') ∧ After w w'
theorem rens_len {a b : ByteArray} {xs xs' : List Tx} (h : Tx.ers xs' = Ex.rens a b (Tx.ers xs)) : xs'.length = xs.length := by
  have := congrArg List.length h
  rwa [ers_length, rens_length, ers_length] at this
theorem foots_of_all {S : Nat → Prop} : ∀ {l : List Tx}, (∀ e ∈ l, Foot S e) → Foots S l
  | [], _ => by rw [Foots]; trivial
  | a :: l, h => by rw [Foots]; exact ⟨h a (by simp), foots_of_all fun e he => h e (by simp [he])⟩
end Go.Proofs.Ytfoddappedcplaa
