/-
  From an argument as data to the words of the walks: expressions with their bounds, and programs (printed by gen_sop.py).
-/
import Derived.Test.YtdghfhnkacfahaaELift
import Derived.Test.YtdghfhnkacfahaaSPg
namespace Go.Proofs.Ytdghfhnkacfahaa
open Go.ChangeShapes Go.WideShapes Go.ChangeAt Go.RowKit Go.Joins Go.Deep
set_option linter.unusedVariables false
set_option linter.unusedSimpArgs false

theorem bulk_part {H : Type} {d : DataW H} {l : List (DataW H)} (h : d ∈ l) : Rows.uptoBulk d ≤ Rows.uptoBulkAll l := by
  induction l with
  | nil => cases h
  | cons x r ih =>
    simp only [Rows.uptoBulkAll]
    rcases List.mem_cons.1 h with e | e
    · subst e; omega
    · have := ih e; omega

theorem bulk_append {H : Type} (l r : List (DataW H)) : Rows.uptoBulkAll (l ++ r) = Rows.uptoBulkAll l + Rows.uptoBulkAll r := by
  induction l with
  | nil => simp [Rows.uptoBulkAll]
  | cons x l ih => simp only [List.cons_append, Rows.uptoBulkAll, ih]; omega
theorem sizes_append (a b : List Tx) : Tx.sizes (a ++ b) = Tx.sizes a + Tx.sizes b := by
  induction a with
  | nil => simp [Tx.sizes]
  | cons x l ih => simp only [List.cons_append, Tx.sizes, ih]; omega
theorem int_le_of_wf {a : Int} (h : (Lit.int .i64 a).wf = true) : a ≤ 9223372036854775807 := by
  simp [Lit.wf, IntKind.min, IntKind.max, IntKind.signed, IntKind.bits] at h
  omega
theorem txb_lists {l : List Tx} (h : ∀ e ∈ l, TxB e) : ∀ y ∈ Tx.lists l, y.ty ≤ 9223372036854775807 := by
  induction l with
  | nil => intro y hy; rw [Tx.lists] at hy; cases hy
  | cons a l ih =>
    intro y hy
    rw [Tx.lists, List.mem_append] at hy
    rcases hy with hy | hy
    · exact h a (by simp) y hy
    · exact ih (fun e he => h e (by simp [he])) y hy
section
variable {H : Type} {enc : TypeId × Value → H} {P : Program} {w : World} {base : Nat} {spare : Nat → Bool} {held : Bool}

/-- expressions, with the bounds of their numbers and of their size -/
theorem open_tx2 {te ts : TypeId} {f0 f1 f2 f3 f4 f5 : Field} (he : P.underlying te = some (.struct #[f0, f1, f2, f3, f4, f5])) (ce : P.cellsOf te = 6) (be : P.bytesOf te = 72)
    (o0 : f0.offset = 0) (o1 : f1.offset = 1) (o2 : f2.offset = 2) (o3 : f3.offset = 3) (o4 : f4.offset = 4) (o5 : f5.offset = 5)
    (c0 : P.cellsOf f0.type = 1) (c1 : P.cellsOf f1.type = 1) (c2 : P.cellsOf f2.type = 1) (c3 : P.cellsOf f3.type = 1) (c4 : P.cellsOf f4.type = 1) (c5 : P.cellsOf f5.type = 1)
    (t0 : P.underlying f0.type = some (.int .i64)) (t1 : P.underlying f1.type = some (.int .i64)) (t2 : P.underlying f2.type = some (.int .i64)) (t3 : P.underlying f3.type = some (.int .i64)) (t4 : P.underlying f4.type = some .string) (t5 : f5.type = ts) (hs : P.underlying ts = some (.slice te)) :
    ∀ n, (∀ cs x, DataW.trod enc P w base spare held n te cs = some x → (∀ m ∈ x.1.weights P te, m ≤ reachBytes) → ∃ e : Tx, cs = e.cellsL ∧ RX w e ∧ TxB e ∧ e.size ≤ Rows.uptoBulk x.1) ∧
      (∀ c x, DataW.trod enc P w base spare held n ts [c] = some x → (∀ m ∈ x.1.weights P ts, m ≤ reachBytes) → ∃ A cp l, c = .slice A l.length cp ∧ RX w (rowX A cp l) ∧ (∀ e ∈ l, TxB e) ∧ Tx.sizes l ≤ Rows.uptoBulk x.1) := by
  intro n
  induction n with
  | zero => exact ⟨fun cs x h => by simp [DataW.trod] at h, fun c x h => by simp [DataW.trod] at h⟩
  | succ n ih =>
    refine ⟨fun cs x h hz => ?_, fun c x h hz => ?_⟩
    · obtain ⟨xs, k, hk, hxy, hcl, hxl, hf⟩ := DataW.trod_struct he h
      obtain rfl : k = n := by omega
      rw [ce] at hcl
      match xs, hxl, cs, hcl with
      | [y0, y1, y2, y3, y4, y5], _, [v0, v1, v2, v3, v4, v5], _ =>
        have g0 := hf 0 f0 rfl
        have g1 := hf 1 f1 rfl
        have g2 := hf 2 f2 rfl
        have g3 := hf 3 f3 rfl
        have g4 := hf 4 f4 rfl
        have g5 := hf 5 f5 rfl
        simp [o0, c0] at g0
        simp [o1, c1] at g1
        simp [o2, c2] at g2
        simp [o3, c3] at g3
        simp [o4, c4] at g4
        simp [o5, c5] at g5
        rw [t5] at g5
        obtain ⟨a0, h0, -, -⟩ := DataW.trod_int t0 g0
        obtain ⟨a1, h1, -, -⟩ := DataW.trod_int t1 g1
        obtain ⟨a2, h2, -, wf2⟩ := DataW.trod_int t2 g2
        obtain ⟨a3, h3, -, -⟩ := DataW.trod_int t3 g3
        obtain ⟨s4, h4, e4, h4s⟩ := DataW.trod_string t4 g4
        have hw : ∀ m, (m ∈ y4.1.weights P f4.type ∨ m ∈ y5.1.weights P f5.type) → m ≤ reachBytes := by
          intro m hm
          refine hz m ?_
          rw [hxy]
          simp only [DataW.weights, he, DataW.weightsEach, List.map_cons, List.map_nil, List.mem_append]
          rcases hm with hm | hm
          · simp [hm]
          · simp [hm]
        obtain ⟨A, cp, l, h5, hx, htb, hsz⟩ := ih.2 v5 y5 g5 (fun m hm => hw m (.inr (by rw [t5]; exact hm)))
        have hs4 : s4.size ≤ 140737488355328 := by
          have := hw s4.data.toList.length (.inl (by rw [e4]; simp only [DataW.weights, List.mem_singleton]))
          unfold reachBytes at this
          have e : s4.size = s4.data.toList.length := rfl
          omega
        simp only [List.cons.injEq, and_true] at h0 h1 h2 h3 h4
        subst h0; subst h1; subst h2; subst h3; subst h4; subst h5
        refine ⟨.mk a0 a1 a2 a3 s4 A cp l, rfl, ?_, ?_, ?_⟩
        · unfold rowX at hx
          rw [RX] at hx ⊢
          exact ⟨hs4, hx.2⟩
        · intro y hy
          rw [Tx.list, List.mem_cons] at hy
          rcases hy with rfl | hy
          · show a2 ≤ _
            exact int_le_of_wf wf2
          · exact txb_lists htb y hy
        · rw [Tx.size]
          have h5b : Rows.uptoBulk y5.1 ≤ Rows.uptoBulkAll ([y0, y1, y2, y3, y4, y5].map (·.1)) := bulk_part (by simp)
          rw [hxy]
          simp only [Rows.uptoBulk]
          omega
    · rcases DataW.trod_slice hs h with ⟨h1, rfl⟩ | ⟨a, len, cap, elems, rest, k, hk, h1, hxy, hb, hl, hm, hlen, hel, -, -⟩
      · simp at h1
        subst h1
        refine ⟨none, 0, [], rfl, ?_, by simp, by simp [Tx.sizes]⟩
        unfold rowX
        rw [RX]
        exact ⟨by decide, by simp, by decide, by simp, .inl rfl⟩
      · obtain rfl : k = n := by omega
        simp at h1
        subst h1
        have hlenb : len ≤ 140737488355328 := by
          have := hz ((elems.length + rest.length) * P.bytesOf te) (by rw [hxy]; simp [DataW.weights, hs])
          rw [be] at this
          unfold reachBytes at this
          omega
        have each : ∀ i, i < len → ∃ e : Tx, ((∀ j, j < 6 → w.cell? ((a.add (i * 6)).add j) = e.cellsL[j]?) ∧ RX w e) ∧ TxB e ∧ ∀ y, elems[i]? = some y → e.size ≤ Rows.uptoBulk y.1 := by
          intro i hi
          have h2 := hel i hi
          rw [List.getElem?_eq_getElem (by omega)] at h2
          obtain ⟨cs', h3, h4⟩ := Option.bind_eq_some_iff.1 h2
          rw [ce] at h3
          obtain ⟨_, hcl, hcell⟩ := World.cells?_some h3
          obtain ⟨e, he1, he2, he3, he4⟩ := ih.1 cs' _ h4 (fun m hm => hz m (by
            rw [hxy]
            simp only [DataW.weights, hs, List.mem_cons, List.mem_append]
            exact .inr (.inl (weightsAll_mem (List.mem_map_of_mem (f := (·.1)) (List.getElem_mem (by omega : i < elems.length))) m hm))))
          exact ⟨e, ⟨fun j hj => by rw [hcell j hj, he1], he2⟩, he3, fun y hy => by rw [List.getElem?_eq_getElem (by omega)] at hy; injection hy with hy; rw [← hy]; exact he4⟩
        obtain ⟨f, hf⟩ := choose_lt each
        refine ⟨some a, cap, (List.range len).map f, by simp, ?_, ?_, ?_⟩
        · unfold rowX
          rw [RX]
          unfold maxLen at hm
          refine ⟨by decide, by simpa using hl, hm, by simpa using hlenb, ?_⟩
          by_cases h0 : len = 0
          · subst h0; exact .inl rfl
          · have hc0 := (hf 0 (by omega)).1.1 0 (by omega)
            rw [show (a.add (0 * 6)).add 0 = a by simp [Addr.add]] at hc0
            have hp := plain_of_cell (w := w) (a := a) (v := .int .i64 (f 0).kind) hc0
            refine .inr ⟨a.block, a.off, by rw [← hp], ?_, RXs.of_get _ _ fun i e hi => ?_⟩
            · rw [hp] at hc0; exact lt_of_cell_ hc0
            · have hi' : i < len := by
                have := (List.getElem?_eq_some_iff.1 hi).1
                simpa using this
              have hfe : f i = e := by simpa [hi'] using hi
              obtain ⟨g, hx⟩ := (hf i hi').1
              rw [hfe] at g hx
              rw [hp] at g
              simp only [add_plain] at g
              exact ⟨⟨g 0 (by omega), g 1 (by omega), g 2 (by omega), g 3 (by omega), g 4 (by omega), g 5 (by omega)⟩, hx⟩
        · intro e he_
          obtain ⟨i, hi, rfl⟩ := List.mem_map.1 he_
          exact (hf i (List.mem_range.1 hi)).2.1
        · have key : ∀ (m : Nat), m ≤ len → Tx.sizes ((List.range m).map f) ≤ Rows.uptoBulkAll ((elems.take m).map (·.1)) := by
            intro m
            induction m with
            | zero => intro _; simp [Tx.sizes]
            | succ m ihm =>
              intro hm_
              have h1 := ihm (by omega)
              have h2 := (hf m (by omega)).2.2 _ (List.getElem?_eq_getElem (by omega))
              rw [List.range_succ, List.map_append, sizes_append, List.take_add_one, List.getElem?_eq_getElem (by omega), List.map_append, bulk_append]
              simp only [List.map_cons, List.map_nil, Tx.sizes, Option.toList, Rows.uptoBulkAll]
              omega
          have h1 := key len (Nat.le_refl _)
          rw [List.take_of_length_le (by omega)] at h1
          rw [hxy]
          simp only [Rows.uptoBulk]
          omega

/-- what a part of an argument bears: the form's reach, and the bound of bulk -/
def Sm (P : Program) (S : Prop) (T : TypeId) (d : DataW H) : Prop := (∀ m ∈ d.weights P T, m ≤ reachBytes) ∧ (S → Rows.uptoBulk d ≤ 1048576)
/-- whatever is read at a type is the cells of some a that is good -/
def Opn (enc : TypeId × Value → H) (P : Program) (w : World) (base : Nat) (spare : Nat → Bool) (held : Bool) (S : Prop) (n : Nat) (T : TypeId) {α : Type} (cells : α → List Value) (good : α → Prop) : Prop :=
  ∀ cs x, DataW.trod enc P w base spare held n T cs = some x → Sm P S T x.1 → ∃ a, cs = cells a ∧ good a
variable {S : Prop} {n : Nat} {T : TypeId} {α β : Type}
theorem Opn.zero {cells : α → List Value} {good : α → Prop} : Opn enc P w base spare held S 0 T cells good := fun cs x h => by simp [DataW.trod] at h
theorem Opn.map {cells : α → List Value} {good : α → Prop} {cells' : β → List Value} {good' : β → Prop} (h : Opn enc P w base spare held S n T cells good) (f : α → β) (hc : ∀ a, cells a = cells' (f a)) (hg : ∀ a, good a → good' (f a)) : Opn enc P w base spare held S n T cells' good' := fun cs x h1 h2 => by
  obtain ⟨a, rfl, ga⟩ := h cs x h1 h2
  exact ⟨f a, hc a, hg a ga⟩
theorem Opn.str (ht : P.underlying T = some .string) : Opn enc P w base spare held S n T (fun s : ByteArray => [.string s]) (fun s => s.size ≤ 140737488355328) := fun cs x h hz => by
  obtain ⟨s, rfl, rfl, h1⟩ := DataW.trod_string ht h
  refine ⟨s, rfl, ?_⟩
  have := hz.1 s.data.toList.length (by simp only [DataW.weights, List.mem_singleton])
  unfold reachBytes at this
  have e : s.size = s.data.toList.length := rfl
  omega
theorem Opn.int (ht : P.underlying T = some (.int .i64)) : Opn enc P w base spare held S n T (fun a : Int => [.int .i64 a]) (fun a => a ≤ 9223372036854775807) := fun cs x h hz => by
  obtain ⟨a, rfl, rfl, h1⟩ := DataW.trod_int ht h
  exact ⟨a, rfl, int_le_of_wf h1⟩
theorem Opn.bool (ht : P.underlying T = some .bool) : Opn enc P w base spare held S n T (fun a : Bool => [.bool a]) (fun _ => True) := fun cs x h hz => by
  obtain ⟨a, rfl, rfl⟩ := DataW.trod_bool ht h
  exact ⟨a, rfl, trivial⟩
/-- an element as it lies in a row -/
def PG (cells : α → List Value) (good : α → Prop) (w : World) (b o : Nat) (y : α) : Prop := (∀ j u, (cells y)[j]? = some u → w.cell? ⟨b, o + j, none⟩ = some u) ∧ good y
theorem RowOf.imp {α : Type} {sz : Nat} {P Q : World → Nat → Nat → α → Prop} {w : World} {x : Lst α} (h : RowOf sz P w x) (hi : ∀ b o y, P w b o y → Q w b o y) : RowOf sz Q w x := by
  refine ⟨?_, h.le, h.cap, h.len⟩
  rcases h.cells with e | ⟨b, p, e, hlt, hc⟩
  · exact .inl e
  · exact .inr ⟨b, p, e, hlt, fun i y hy => hi _ _ _ (hc i y hy)⟩
theorem Opn.slice {te ts : TypeId} {sz : Nat} {cells : α → List Value} {good : α → Prop} (hs : P.underlying ts = some (.slice te)) (ce : P.cellsOf te = sz) (be : 0 < P.bytesOf te) (hsz : 0 < sz) (hc : ∀ a, (cells a).length = sz) (hn : Nonempty α) (h : Opn enc P w base spare held S n te cells good) :
    Opn enc P w base spare held S (n + 1) ts (fun x : Lst α => [.slice x.A x.l.length x.c]) (fun x => RowOf sz (PG cells good) w x) := fun cs x hh hz => by
  rcases DataW.trod_slice hs hh with ⟨h1, rfl⟩ | ⟨a, len, cap, elems, rest, k, hk, h1, hxy, hb, hl, hm, hlen, hel, -, -⟩
  · exact ⟨⟨none, 0, []⟩, h1, RowOf.nil w⟩
  · obtain rfl : k = n := by omega
    subst h1
    have hlenb : len ≤ 140737488355328 := by
      have h2 := hz.1 ((elems.length + rest.length) * P.bytesOf te) (by rw [hxy]; simp [DataW.weights, hs])
      unfold reachBytes at h2
      have h3 : (elems.length + rest.length) * 1 ≤ (elems.length + rest.length) * P.bytesOf te := Nat.mul_le_mul_left _ be
      omega
    have each : ∀ i, i < len → ∃ e : α, (∀ j, j < sz → w.cell? ((a.add (i * sz)).add j) = (cells e)[j]?) ∧ good e := by
      intro i hi
      have h2 := hel i hi
      rw [List.getElem?_eq_getElem (by omega)] at h2
      obtain ⟨cs', h3, h4⟩ := Option.bind_eq_some_iff.1 h2
      rw [ce] at h3
      obtain ⟨_, hcl, hcell⟩ := World.cells?_some h3
      obtain ⟨e, he1, he2⟩ := h cs' _ h4 ⟨fun m hm => hz.1 m (by
        rw [hxy]
        simp only [DataW.weights, hs, List.mem_cons, List.mem_append]
        exact .inr (.inl (weightsAll_mem (List.mem_map_of_mem (f := (·.1)) (List.getElem_mem (by omega : i < elems.length))) m hm))), fun hS => by
        have h5 := hz.2 hS
        rw [hxy] at h5
        simp only [Rows.uptoBulk] at h5
        have h6 := bulk_part (List.mem_map_of_mem (f := (·.1)) (List.getElem_mem (by omega : i < elems.length)))
        omega⟩
      exact ⟨e, fun j hj => by rw [hcell j hj, he1], he2⟩
    have : Inhabited α := ⟨Classical.choice hn⟩
    obtain ⟨f, hf⟩ := choose_lt each
    refine ⟨⟨some a, cap, (List.range len).map f⟩, by simp, ?_⟩
    unfold maxLen at hm
    refine ⟨?_, by simpa using hl, hm, by simpa using hlenb⟩
    by_cases h0 : len = 0
    · subst h0; exact .inl rfl
    · have hc0 := (hf 0 (by omega)).1 0 hsz
      rw [show (a.add (0 * sz)).add 0 = a by simp [Addr.add], List.getElem?_eq_getElem (by rw [hc]; exact hsz)] at hc0
      have hp := plain_of_cell hc0
      refine .inr ⟨a.block, a.off, by rw [← hp], ?_, fun i e hi => ?_⟩
      · rw [hp] at hc0; exact lt_of_cell_ hc0
      · have hi' : i < len := by
          have := (List.getElem?_eq_some_iff.1 hi).1
          simpa using this
        have hfe : f i = e := by simpa [hi'] using hi
        obtain ⟨g, hx⟩ := hf i hi'
        rw [hfe] at g hx
        rw [hp] at g
        simp only [add_plain] at g
        refine ⟨fun j u hu => ?_, hx⟩
        have hj : j < sz := by rw [← hc e]; exact (List.getElem?_eq_some_iff.1 hu).1
        rw [g j hj]; exact hu
theorem Sm.part {te : TypeId} {fs : Array Field} (he : P.underlying te = some (.struct fs)) {xs : List (DataW H × List MemPlace)} (h : Sm P S te (.agg (xs.map (·.1)))) {i : Nat} {f : Field} {y : DataW H × List MemPlace} (hf : fs[i]? = some f) (hy : xs[i]? = some y) : Sm P S f.type y.1 := by
  refine ⟨fun m hm => h.1 m ?_, fun hS => ?_⟩
  · simp only [DataW.weights, he]
    exact DataW.weights_mem_each (j := i) (t := f.type) (by simpa using ⟨f, by simpa using hf, rfl⟩) (by simp [hy]) m hm
  · have h1 := h.2 hS
    have h2 : Rows.uptoBulk y.1 ≤ Rows.uptoBulkAll (xs.map (·.1)) := bulk_part (List.mem_map_of_mem (f := (·.1)) (List.mem_of_getElem? hy))
    simp only [Rows.uptoBulk] at h1
    omega
theorem cut_list (l : List Value) (o n : Nat) : l.drop o = (l.drop o).take n ++ l.drop (o + n) := by
  rw [← List.drop_drop]
  exact (List.take_append_drop n _).symm
theorem Opn.st1 {te : TypeId} {f0 : Field} {α0 : Type} {cells0 : α0 → List Value} {good0 : α0 → Prop} (he : P.underlying te = some (.struct #[f0])) (ce : P.cellsOf te = 1) (o0 : f0.offset = 0) (c0 : P.cellsOf f0.type = 1) (h0 : Opn enc P w base spare held S n f0.type cells0 good0) :
    Opn enc P w base spare held S (n + 1) te (fun a : α0 => cells0 a) (fun a => good0 (a)) := fun cs x h hz => by
  obtain ⟨xs, k, hk, hxy, hcl, hxl, hf⟩ := DataW.trod_struct he h
  obtain rfl : k = n := by omega
  rw [ce] at hcl
  rw [hxy] at hz
  have g0 := hf 0 f0 rfl
  rw [o0, c0, List.getElem?_eq_getElem (by rw [hxl]; show 0 < 1; decide)] at g0
  obtain ⟨a0, e0, p0⟩ := h0 _ _ g0 (hz.part he (i := 0) rfl (List.getElem?_eq_getElem _))
  refine ⟨a0, ?_, p0⟩
  show cs = cells0 a0
  rw [← e0]
  have z : cs.drop 0 = cs := rfl
  have z0 := cut_list cs 0 1
  have zl : cs.drop 1 = [] := List.drop_eq_nil_of_le (by omega)
  simp only [Nat.zero_add, Nat.reduceAdd] at z0
  rw [zl, List.append_nil] at z0
  rw [z] at z0
  rw [z]
  simpa only [List.append_assoc] using z0
theorem Opn.st2 {te : TypeId} {f0 f1 : Field} {α0 α1 : Type} {cells0 : α0 → List Value} {good0 : α0 → Prop} {cells1 : α1 → List Value} {good1 : α1 → Prop} (he : P.underlying te = some (.struct #[f0, f1])) (ce : P.cellsOf te = 2) (o0 : f0.offset = 0) (o1 : f1.offset = 1) (c0 : P.cellsOf f0.type = 1) (c1 : P.cellsOf f1.type = 1) (h0 : Opn enc P w base spare held S n f0.type cells0 good0) (h1 : Opn enc P w base spare held S n f1.type cells1 good1) :
    Opn enc P w base spare held S (n + 1) te (fun a : α0 × α1 => cells0 (a.1) ++ cells1 (a.2)) (fun a => good0 (a.1) ∧ good1 (a.2)) := fun cs x h hz => by
  obtain ⟨xs, k, hk, hxy, hcl, hxl, hf⟩ := DataW.trod_struct he h
  obtain rfl : k = n := by omega
  rw [ce] at hcl
  rw [hxy] at hz
  have g0 := hf 0 f0 rfl
  rw [o0, c0, List.getElem?_eq_getElem (by rw [hxl]; show 0 < 2; decide)] at g0
  obtain ⟨a0, e0, p0⟩ := h0 _ _ g0 (hz.part he (i := 0) rfl (List.getElem?_eq_getElem _))
  have g1 := hf 1 f1 rfl
  rw [o1, c1, List.getElem?_eq_getElem (by rw [hxl]; show 1 < 2; decide)] at g1
  obtain ⟨a1, e1, p1⟩ := h1 _ _ g1 (hz.part he (i := 1) rfl (List.getElem?_eq_getElem _))
  refine ⟨(a0, a1), ?_, p0, p1⟩
  show cs = cells0 a0 ++ cells1 a1
  rw [← e0, ← e1]
  have z : cs.drop 0 = cs := rfl
  have z0 := cut_list cs 0 1
  have z1 := cut_list cs 1 1
  have zl : cs.drop 2 = [] := List.drop_eq_nil_of_le (by omega)
  simp only [Nat.zero_add, Nat.reduceAdd] at z0 z1
  rw [zl, List.append_nil] at z1
  rw [z1] at z0
  rw [z] at z0
  rw [z]
  simpa only [List.append_assoc] using z0
theorem Opn.st2e {te : TypeId} {f0 f1 : Field} {α0 α1 : Type} {cells0 : α0 → List Value} {good0 : α0 → Prop} {cells1 : α1 → List Value} {good1 : α1 → Prop} (he : P.underlying te = some (.struct #[f0, f1])) (ce : P.cellsOf te = 7) (o0 : f0.offset = 0) (o1 : f1.offset = 1) (c0 : P.cellsOf f0.type = 1) (c1 : P.cellsOf f1.type = 6) (h0 : Opn enc P w base spare held S n f0.type cells0 good0) (h1 : Opn enc P w base spare held S n f1.type cells1 good1) :
    Opn enc P w base spare held S (n + 1) te (fun a : α0 × α1 => cells0 (a.1) ++ cells1 (a.2)) (fun a => good0 (a.1) ∧ good1 (a.2)) := fun cs x h hz => by
  obtain ⟨xs, k, hk, hxy, hcl, hxl, hf⟩ := DataW.trod_struct he h
  obtain rfl : k = n := by omega
  rw [ce] at hcl
  rw [hxy] at hz
  have g0 := hf 0 f0 rfl
  rw [o0, c0, List.getElem?_eq_getElem (by rw [hxl]; show 0 < 2; decide)] at g0
  obtain ⟨a0, e0, p0⟩ := h0 _ _ g0 (hz.part he (i := 0) rfl (List.getElem?_eq_getElem _))
  have g1 := hf 1 f1 rfl
  rw [o1, c1, List.getElem?_eq_getElem (by rw [hxl]; show 1 < 2; decide)] at g1
  obtain ⟨a1, e1, p1⟩ := h1 _ _ g1 (hz.part he (i := 1) rfl (List.getElem?_eq_getElem _))
  refine ⟨(a0, a1), ?_, p0, p1⟩
  show cs = cells0 a0 ++ cells1 a1
  rw [← e0, ← e1]
  have z : cs.drop 0 = cs := rfl
  have z0 := cut_list cs 0 1
  have z1 := cut_list cs 1 6
  have zl : cs.drop 7 = [] := List.drop_eq_nil_of_le (by omega)
  simp only [Nat.zero_add, Nat.reduceAdd] at z0 z1
  rw [zl, List.append_nil] at z1
  rw [z1] at z0
  rw [z] at z0
  rw [z]
  simpa only [List.append_assoc] using z0
theorem Opn.st3 {te : TypeId} {f0 f1 f2 : Field} {α0 α1 α2 : Type} {cells0 : α0 → List Value} {good0 : α0 → Prop} {cells1 : α1 → List Value} {good1 : α1 → Prop} {cells2 : α2 → List Value} {good2 : α2 → Prop} (he : P.underlying te = some (.struct #[f0, f1, f2])) (ce : P.cellsOf te = 3) (o0 : f0.offset = 0) (o1 : f1.offset = 1) (o2 : f2.offset = 2) (c0 : P.cellsOf f0.type = 1) (c1 : P.cellsOf f1.type = 1) (c2 : P.cellsOf f2.type = 1) (h0 : Opn enc P w base spare held S n f0.type cells0 good0) (h1 : Opn enc P w base spare held S n f1.type cells1 good1) (h2 : Opn enc P w base spare held S n f2.type cells2 good2) :
    Opn enc P w base spare held S (n + 1) te (fun a : α0 × α1 × α2 => cells0 (a.1) ++ cells1 (a.2.1) ++ cells2 (a.2.2)) (fun a => good0 (a.1) ∧ good1 (a.2.1) ∧ good2 (a.2.2)) := fun cs x h hz => by
  obtain ⟨xs, k, hk, hxy, hcl, hxl, hf⟩ := DataW.trod_struct he h
  obtain rfl : k = n := by omega
  rw [ce] at hcl
  rw [hxy] at hz
  have g0 := hf 0 f0 rfl
  rw [o0, c0, List.getElem?_eq_getElem (by rw [hxl]; show 0 < 3; decide)] at g0
  obtain ⟨a0, e0, p0⟩ := h0 _ _ g0 (hz.part he (i := 0) rfl (List.getElem?_eq_getElem _))
  have g1 := hf 1 f1 rfl
  rw [o1, c1, List.getElem?_eq_getElem (by rw [hxl]; show 1 < 3; decide)] at g1
  obtain ⟨a1, e1, p1⟩ := h1 _ _ g1 (hz.part he (i := 1) rfl (List.getElem?_eq_getElem _))
  have g2 := hf 2 f2 rfl
  rw [o2, c2, List.getElem?_eq_getElem (by rw [hxl]; show 2 < 3; decide)] at g2
  obtain ⟨a2, e2, p2⟩ := h2 _ _ g2 (hz.part he (i := 2) rfl (List.getElem?_eq_getElem _))
  refine ⟨(a0, a1, a2), ?_, p0, p1, p2⟩
  show cs = cells0 a0 ++ cells1 a1 ++ cells2 a2
  rw [← e0, ← e1, ← e2]
  have z : cs.drop 0 = cs := rfl
  have z0 := cut_list cs 0 1
  have z1 := cut_list cs 1 1
  have z2 := cut_list cs 2 1
  have zl : cs.drop 3 = [] := List.drop_eq_nil_of_le (by omega)
  simp only [Nat.zero_add, Nat.reduceAdd] at z0 z1 z2
  rw [zl, List.append_nil] at z2
  rw [z2] at z1
  rw [z1] at z0
  rw [z] at z0
  rw [z]
  simpa only [List.append_assoc] using z0
theorem Opn.st3e {te : TypeId} {f0 f1 f2 : Field} {α0 α1 α2 : Type} {cells0 : α0 → List Value} {good0 : α0 → Prop} {cells1 : α1 → List Value} {good1 : α1 → Prop} {cells2 : α2 → List Value} {good2 : α2 → Prop} (he : P.underlying te = some (.struct #[f0, f1, f2])) (ce : P.cellsOf te = 8) (o0 : f0.offset = 0) (o1 : f1.offset = 6) (o2 : f2.offset = 7) (c0 : P.cellsOf f0.type = 6) (c1 : P.cellsOf f1.type = 1) (c2 : P.cellsOf f2.type = 1) (h0 : Opn enc P w base spare held S n f0.type cells0 good0) (h1 : Opn enc P w base spare held S n f1.type cells1 good1) (h2 : Opn enc P w base spare held S n f2.type cells2 good2) :
    Opn enc P w base spare held S (n + 1) te (fun a : α0 × α1 × α2 => cells0 (a.1) ++ cells1 (a.2.1) ++ cells2 (a.2.2)) (fun a => good0 (a.1) ∧ good1 (a.2.1) ∧ good2 (a.2.2)) := fun cs x h hz => by
  obtain ⟨xs, k, hk, hxy, hcl, hxl, hf⟩ := DataW.trod_struct he h
  obtain rfl : k = n := by omega
  rw [ce] at hcl
  rw [hxy] at hz
  have g0 := hf 0 f0 rfl
  rw [o0, c0, List.getElem?_eq_getElem (by rw [hxl]; show 0 < 3; decide)] at g0
  obtain ⟨a0, e0, p0⟩ := h0 _ _ g0 (hz.part he (i := 0) rfl (List.getElem?_eq_getElem _))
  have g1 := hf 1 f1 rfl
  rw [o1, c1, List.getElem?_eq_getElem (by rw [hxl]; show 1 < 3; decide)] at g1
  obtain ⟨a1, e1, p1⟩ := h1 _ _ g1 (hz.part he (i := 1) rfl (List.getElem?_eq_getElem _))
  have g2 := hf 2 f2 rfl
  rw [o2, c2, List.getElem?_eq_getElem (by rw [hxl]; show 2 < 3; decide)] at g2
  obtain ⟨a2, e2, p2⟩ := h2 _ _ g2 (hz.part he (i := 2) rfl (List.getElem?_eq_getElem _))
  refine ⟨(a0, a1, a2), ?_, p0, p1, p2⟩
  show cs = cells0 a0 ++ cells1 a1 ++ cells2 a2
  rw [← e0, ← e1, ← e2]
  have z : cs.drop 0 = cs := rfl
  have z0 := cut_list cs 0 6
  have z1 := cut_list cs 6 1
  have z2 := cut_list cs 7 1
  have zl : cs.drop 8 = [] := List.drop_eq_nil_of_le (by omega)
  simp only [Nat.zero_add, Nat.reduceAdd] at z0 z1 z2
  rw [zl, List.append_nil] at z2
  rw [z2] at z1
  rw [z1] at z0
  rw [z] at z0
  rw [z]
  simpa only [List.append_assoc] using z0
theorem Opn.st6 {te : TypeId} {f0 f1 f2 f3 f4 f5 : Field} {α0 α1 α2 α3 α4 α5 : Type} {cells0 : α0 → List Value} {good0 : α0 → Prop} {cells1 : α1 → List Value} {good1 : α1 → Prop} {cells2 : α2 → List Value} {good2 : α2 → Prop} {cells3 : α3 → List Value} {good3 : α3 → Prop} {cells4 : α4 → List Value} {good4 : α4 → Prop} {cells5 : α5 → List Value} {good5 : α5 → Prop} (he : P.underlying te = some (.struct #[f0, f1, f2, f3, f4, f5])) (ce : P.cellsOf te = 6) (o0 : f0.offset = 0) (o1 : f1.offset = 1) (o2 : f2.offset = 2) (o3 : f3.offset = 3) (o4 : f4.offset = 4) (o5 : f5.offset = 5) (c0 : P.cellsOf f0.type = 1) (c1 : P.cellsOf f1.type = 1) (c2 : P.cellsOf f2.type = 1) (c3 : P.cellsOf f3.type = 1) (c4 : P.cellsOf f4.type = 1) (c5 : P.cellsOf f5.type = 1) (h0 : Opn enc P w base spare held S n f0.type cells0 good0) (h1 : Opn enc P w base spare held S n f1.type cells1 good1) (h2 : Opn enc P w base spare held S n f2.type cells2 good2) (h3 : Opn enc P w base spare held S n f3.type cells3 good3) (h4 : Opn enc P w base spare held S n f4.type cells4 good4) (h5 : Opn enc P w base spare held S n f5.type cells5 good5) :
    Opn enc P w base spare held S (n + 1) te (fun a : α0 × α1 × α2 × α3 × α4 × α5 => cells0 (a.1) ++ cells1 (a.2.1) ++ cells2 (a.2.2.1) ++ cells3 (a.2.2.2.1) ++ cells4 (a.2.2.2.2.1) ++ cells5 (a.2.2.2.2.2)) (fun a => good0 (a.1) ∧ good1 (a.2.1) ∧ good2 (a.2.2.1) ∧ good3 (a.2.2.2.1) ∧ good4 (a.2.2.2.2.1) ∧ good5 (a.2.2.2.2.2)) := fun cs x h hz => by
  obtain ⟨xs, k, hk, hxy, hcl, hxl, hf⟩ := DataW.trod_struct he h
  obtain rfl : k = n := by omega
  rw [ce] at hcl
  rw [hxy] at hz
  have g0 := hf 0 f0 rfl
  rw [o0, c0, List.getElem?_eq_getElem (by rw [hxl]; show 0 < 6; decide)] at g0
  obtain ⟨a0, e0, p0⟩ := h0 _ _ g0 (hz.part he (i := 0) rfl (List.getElem?_eq_getElem _))
  have g1 := hf 1 f1 rfl
  rw [o1, c1, List.getElem?_eq_getElem (by rw [hxl]; show 1 < 6; decide)] at g1
  obtain ⟨a1, e1, p1⟩ := h1 _ _ g1 (hz.part he (i := 1) rfl (List.getElem?_eq_getElem _))
  have g2 := hf 2 f2 rfl
  rw [o2, c2, List.getElem?_eq_getElem (by rw [hxl]; show 2 < 6; decide)] at g2
  obtain ⟨a2, e2, p2⟩ := h2 _ _ g2 (hz.part he (i := 2) rfl (List.getElem?_eq_getElem _))
  have g3 := hf 3 f3 rfl
  rw [o3, c3, List.getElem?_eq_getElem (by rw [hxl]; show 3 < 6; decide)] at g3
  obtain ⟨a3, e3, p3⟩ := h3 _ _ g3 (hz.part he (i := 3) rfl (List.getElem?_eq_getElem _))
  have g4 := hf 4 f4 rfl
  rw [o4, c4, List.getElem?_eq_getElem (by rw [hxl]; show 4 < 6; decide)] at g4
  obtain ⟨a4, e4, p4⟩ := h4 _ _ g4 (hz.part he (i := 4) rfl (List.getElem?_eq_getElem _))
  have g5 := hf 5 f5 rfl
  rw [o5, c5, List.getElem?_eq_getElem (by rw [hxl]; show 5 < 6; decide)] at g5
  obtain ⟨a5, e5, p5⟩ := h5 _ _ g5 (hz.part he (i := 5) rfl (List.getElem?_eq_getElem _))
  refine ⟨(a0, a1, a2, a3, a4, a5), ?_, p0, p1, p2, p3, p4, p5⟩
  show cs = cells0 a0 ++ cells1 a1 ++ cells2 a2 ++ cells3 a3 ++ cells4 a4 ++ cells5 a5
  rw [← e0, ← e1, ← e2, ← e3, ← e4, ← e5]
  have z : cs.drop 0 = cs := rfl
  have z0 := cut_list cs 0 1
  have z1 := cut_list cs 1 1
  have z2 := cut_list cs 2 1
  have z3 := cut_list cs 3 1
  have z4 := cut_list cs 4 1
  have z5 := cut_list cs 5 1
  have zl : cs.drop 6 = [] := List.drop_eq_nil_of_le (by omega)
  simp only [Nat.zero_add, Nat.reduceAdd] at z0 z1 z2 z3 z4 z5
  rw [zl, List.append_nil] at z5
  rw [z5] at z4
  rw [z4] at z3
  rw [z3] at z2
  rw [z2] at z1
  rw [z1] at z0
  rw [z] at z0
  rw [z]
  simpa only [List.append_assoc] using z0
theorem Opn.st8 {te : TypeId} {f0 f1 f2 f3 f4 f5 f6 f7 : Field} {α0 α1 α2 α3 α4 α5 α6 α7 : Type} {cells0 : α0 → List Value} {good0 : α0 → Prop} {cells1 : α1 → List Value} {good1 : α1 → Prop} {cells2 : α2 → List Value} {good2 : α2 → Prop} {cells3 : α3 → List Value} {good3 : α3 → Prop} {cells4 : α4 → List Value} {good4 : α4 → Prop} {cells5 : α5 → List Value} {good5 : α5 → Prop} {cells6 : α6 → List Value} {good6 : α6 → Prop} {cells7 : α7 → List Value} {good7 : α7 → Prop} (he : P.underlying te = some (.struct #[f0, f1, f2, f3, f4, f5, f6, f7])) (ce : P.cellsOf te = 8) (o0 : f0.offset = 0) (o1 : f1.offset = 1) (o2 : f2.offset = 2) (o3 : f3.offset = 3) (o4 : f4.offset = 4) (o5 : f5.offset = 5) (o6 : f6.offset = 6) (o7 : f7.offset = 7) (c0 : P.cellsOf f0.type = 1) (c1 : P.cellsOf f1.type = 1) (c2 : P.cellsOf f2.type = 1) (c3 : P.cellsOf f3.type = 1) (c4 : P.cellsOf f4.type = 1) (c5 : P.cellsOf f5.type = 1) (c6 : P.cellsOf f6.type = 1) (c7 : P.cellsOf f7.type = 1) (h0 : Opn enc P w base spare held S n f0.type cells0 good0) (h1 : Opn enc P w base spare held S n f1.type cells1 good1) (h2 : Opn enc P w base spare held S n f2.type cells2 good2) (h3 : Opn enc P w base spare held S n f3.type cells3 good3) (h4 : Opn enc P w base spare held S n f4.type cells4 good4) (h5 : Opn enc P w base spare held S n f5.type cells5 good5) (h6 : Opn enc P w base spare held S n f6.type cells6 good6) (h7 : Opn enc P w base spare held S n f7.type cells7 good7) :
    Opn enc P w base spare held S (n + 1) te (fun a : α0 × α1 × α2 × α3 × α4 × α5 × α6 × α7 => cells0 (a.1) ++ cells1 (a.2.1) ++ cells2 (a.2.2.1) ++ cells3 (a.2.2.2.1) ++ cells4 (a.2.2.2.2.1) ++ cells5 (a.2.2.2.2.2.1) ++ cells6 (a.2.2.2.2.2.2.1) ++ cells7 (a.2.2.2.2.2.2.2)) (fun a => good0 (a.1) ∧ good1 (a.2.1) ∧ good2 (a.2.2.1) ∧ good3 (a.2.2.2.1) ∧ good4 (a.2.2.2.2.1) ∧ good5 (a.2.2.2.2.2.1) ∧ good6 (a.2.2.2.2.2.2.1) ∧ good7 (a.2.2.2.2.2.2.2)) := fun cs x h hz => by
  obtain ⟨xs, k, hk, hxy, hcl, hxl, hf⟩ := DataW.trod_struct he h
  obtain rfl : k = n := by omega
  rw [ce] at hcl
  rw [hxy] at hz
  have g0 := hf 0 f0 rfl
  rw [o0, c0, List.getElem?_eq_getElem (by rw [hxl]; show 0 < 8; decide)] at g0
  obtain ⟨a0, e0, p0⟩ := h0 _ _ g0 (hz.part he (i := 0) rfl (List.getElem?_eq_getElem _))
  have g1 := hf 1 f1 rfl
  rw [o1, c1, List.getElem?_eq_getElem (by rw [hxl]; show 1 < 8; decide)] at g1
  obtain ⟨a1, e1, p1⟩ := h1 _ _ g1 (hz.part he (i := 1) rfl (List.getElem?_eq_getElem _))
  have g2 := hf 2 f2 rfl
  rw [o2, c2, List.getElem?_eq_getElem (by rw [hxl]; show 2 < 8; decide)] at g2
  obtain ⟨a2, e2, p2⟩ := h2 _ _ g2 (hz.part he (i := 2) rfl (List.getElem?_eq_getElem _))
  have g3 := hf 3 f3 rfl
  rw [o3, c3, List.getElem?_eq_getElem (by rw [hxl]; show 3 < 8; decide)] at g3
  obtain ⟨a3, e3, p3⟩ := h3 _ _ g3 (hz.part he (i := 3) rfl (List.getElem?_eq_getElem _))
  have g4 := hf 4 f4 rfl
  rw [o4, c4, List.getElem?_eq_getElem (by rw [hxl]; show 4 < 8; decide)] at g4
  obtain ⟨a4, e4, p4⟩ := h4 _ _ g4 (hz.part he (i := 4) rfl (List.getElem?_eq_getElem _))
  have g5 := hf 5 f5 rfl
  rw [o5, c5, List.getElem?_eq_getElem (by rw [hxl]; show 5 < 8; decide)] at g5
  obtain ⟨a5, e5, p5⟩ := h5 _ _ g5 (hz.part he (i := 5) rfl (List.getElem?_eq_getElem _))
  have g6 := hf 6 f6 rfl
  rw [o6, c6, List.getElem?_eq_getElem (by rw [hxl]; show 6 < 8; decide)] at g6
  obtain ⟨a6, e6, p6⟩ := h6 _ _ g6 (hz.part he (i := 6) rfl (List.getElem?_eq_getElem _))
  have g7 := hf 7 f7 rfl
  rw [o7, c7, List.getElem?_eq_getElem (by rw [hxl]; show 7 < 8; decide)] at g7
  obtain ⟨a7, e7, p7⟩ := h7 _ _ g7 (hz.part he (i := 7) rfl (List.getElem?_eq_getElem _))
  refine ⟨(a0, a1, a2, a3, a4, a5, a6, a7), ?_, p0, p1, p2, p3, p4, p5, p6, p7⟩
  show cs = cells0 a0 ++ cells1 a1 ++ cells2 a2 ++ cells3 a3 ++ cells4 a4 ++ cells5 a5 ++ cells6 a6 ++ cells7 a7
  rw [← e0, ← e1, ← e2, ← e3, ← e4, ← e5, ← e6, ← e7]
  have z : cs.drop 0 = cs := rfl
  have z0 := cut_list cs 0 1
  have z1 := cut_list cs 1 1
  have z2 := cut_list cs 2 1
  have z3 := cut_list cs 3 1
  have z4 := cut_list cs 4 1
  have z5 := cut_list cs 5 1
  have z6 := cut_list cs 6 1
  have z7 := cut_list cs 7 1
  have zl : cs.drop 8 = [] := List.drop_eq_nil_of_le (by omega)
  simp only [Nat.zero_add, Nat.reduceAdd] at z0 z1 z2 z3 z4 z5 z6 z7
  rw [zl, List.append_nil] at z7
  rw [z7] at z6
  rw [z6] at z5
  rw [z5] at z4
  rw [z4] at z3
  rw [z3] at z2
  rw [z2] at z1
  rw [z1] at z0
  rw [z] at z0
  rw [z]
  simpa only [List.append_assoc] using z0
end
end Go.Proofs.Ytdghfhnkacfahaa
