/-
  From an argument as data to the words of the walks: expressions.
-/
import Derived.Test.YtdghfhnkacfahaaERow
import Derived.SizedLaws
import Derived.Lib.SmallJoins
import Derived.Deep.Slices
namespace Go.Proofs.Ytdghfhnkacfahaa
open Go.ChangeShapes Go.WideShapes Go.ChangeAt Go.RowKit Go.Joins Go.Deep
set_option linter.unusedVariables false
set_option linter.unusedSimpArgs false

theorem after_of_more {w0 U w3 : World} (h : ∃ y, w3 = U.more y) (a : After w0 U) : After w0 w3 := by obtain ⟨y, rfl⟩ := h; infer_instance
instance : Inhabited Tx := ⟨.mk 0 0 0 0 ⟨#[]⟩ none 0 []⟩

section
variable {H : Type} {enc : TypeId × Value → H} {P : Program} {w : World} {base : Nat} {spare : Nat → Bool} {held : Bool}

theorem lt_of_cell_ {w : World} {b o : Nat} {v : Value} (h : w.cell? ⟨b, o, none⟩ = some v) : b < w.heap.size := by
  rcases Nat.lt_or_ge b w.heap.size with hlt | hge
  · exact hlt
  · simp [World.cell?, Array.getElem?_eq_none hge] at h
theorem plain_of_cell {w : World} {a : Addr} {v : Value} (h : w.cell? a = some v) : a = ⟨a.block, a.off, none⟩ := by
  unfold World.cell? at h
  split at h
  · split at h
    · cases h
    · rename_i hs
      cases a with
      | mk b o s =>
        cases s with
        | none => rfl
        | some s => simp at hs
  · cases h
theorem RXs.of_get {w : World} {b : Nat} : ∀ (l : List Tx) (o : Nat), (∀ i e, l[i]? = some e → Six w b (o + i * 6) e ∧ RX w e) → RXs w b o l
  | [], o, h => by rw [RXs]; trivial
  | e :: l, o, h => by
    rw [RXs]
    have h0 := h 0 e rfl
    refine ⟨by simpa using h0.1, h0.2, RXs.of_get l (o + 6) fun i x hi => ?_⟩
    have := h (i + 1) x (by simpa using hi)
    rwa [show o + (i + 1) * 6 = o + 6 + i * 6 by omega] at this
theorem weightsAll_mem {e : TypeId} : ∀ {l : List (DataW H)} {d : DataW H}, d ∈ l → ∀ n ∈ d.weights P e, n ∈ DataW.weightsAll P e l
  | a :: l, d, hd, n, hn => by
    rw [DataW.weightsAll, List.mem_append]
    rcases List.mem_cons.1 hd with rfl | hd
    · exact .inl hn
    · exact .inr (weightsAll_mem hd n hn)

theorem open_tx {te ts : TypeId} {f0 f1 f2 f3 f4 f5 : Field} (he : P.underlying te = some (.struct #[f0, f1, f2, f3, f4, f5])) (ce : P.cellsOf te = 6) (be : P.bytesOf te = 72)
    (o0 : f0.offset = 0) (o1 : f1.offset = 1) (o2 : f2.offset = 2) (o3 : f3.offset = 3) (o4 : f4.offset = 4) (o5 : f5.offset = 5)
    (c0 : P.cellsOf f0.type = 1) (c1 : P.cellsOf f1.type = 1) (c2 : P.cellsOf f2.type = 1) (c3 : P.cellsOf f3.type = 1) (c4 : P.cellsOf f4.type = 1) (c5 : P.cellsOf f5.type = 1)
    (t0 : P.underlying f0.type = some (.int .i64)) (t1 : P.underlying f1.type = some (.int .i64)) (t2 : P.underlying f2.type = some (.int .i64)) (t3 : P.underlying f3.type = some (.int .i64)) (t4 : P.underlying f4.type = some .string) (t5 : f5.type = ts) (hs : P.underlying ts = some (.slice te)) :
    ∀ n, (∀ cs x, DataW.trod enc P w base spare held n te cs = some x → (∀ m ∈ x.1.weights P te, m ≤ reachBytes) → ∃ e : Tx, cs = e.cellsL ∧ RX w e) ∧
      (∀ c x, DataW.trod enc P w base spare held n ts [c] = some x → (∀ m ∈ x.1.weights P ts, m ≤ reachBytes) → ∃ A cp l, c = .slice A l.length cp ∧ RX w (rowX A cp l)) := by
  intro n
  induction n with
  | zero => exact ⟨fun cs x h => by simp [DataW.trod] at h, fun c x h => by simp [DataW.trod] at h⟩
  | succ n ih =>
    refine ⟨fun cs x h hz => ?_, fun c x h hz => ?_⟩
    · obtain ⟨xs, k, hk, hxy, hcl, hxl, hf⟩ := DataW.trod_struct he h
      obtain rfl : k = n := by omega
      rw [ce] at hcl
      match xs, hxl, cs, hcl with
      | [y0, y1, y2, y3, y4, y5], _, [v0, v1, v2, v3, v4, v5], _ =>
        have g0 := hf 0 f0 rfl
        have g1 := hf 1 f1 rfl
        have g2 := hf 2 f2 rfl
        have g3 := hf 3 f3 rfl
        have g4 := hf 4 f4 rfl
        have g5 := hf 5 f5 rfl
        simp [o0, c0] at g0
        simp [o1, c1] at g1
        simp [o2, c2] at g2
        simp [o3, c3] at g3
        simp [o4, c4] at g4
        simp [o5, c5] at g5
        rw [t5] at g5
        obtain ⟨a0, h0, -, -⟩ := DataW.trod_int t0 g0
        obtain ⟨a1, h1, -, -⟩ := DataW.trod_int t1 g1
        obtain ⟨a2, h2, -, -⟩ := DataW.trod_int t2 g2
        obtain ⟨a3, h3, -, -⟩ := DataW.trod_int t3 g3
        obtain ⟨s4, h4, e4, h4s⟩ := DataW.trod_string t4 g4
        have hw : ∀ m, (m ∈ y4.1.weights P f4.type ∨ m ∈ y5.1.weights P f5.type) → m ≤ reachBytes := by
          intro m hm
          refine hz m ?_
          rw [hxy]
          simp only [DataW.weights, he, DataW.weightsEach, List.map_cons, List.map_nil, List.mem_append]
          rcases hm with hm | hm
          · simp [hm]
          · simp [hm]
        obtain ⟨A, cp, l, h5, hx⟩ := ih.2 v5 y5 g5 (fun m hm => hw m (.inr (by rw [t5]; exact hm)))
        have hs4 : s4.size ≤ 140737488355328 := by
          have := hw s4.data.toList.length (.inl (by rw [e4]; simp only [DataW.weights, List.mem_singleton]))
          unfold reachBytes at this
          have e : s4.size = s4.data.toList.length := rfl
          omega
        simp only [List.cons.injEq, and_true] at h0 h1 h2 h3 h4
        subst h0; subst h1; subst h2; subst h3; subst h4; subst h5
        refine ⟨.mk a0 a1 a2 a3 s4 A cp l, rfl, ?_⟩
        unfold rowX at hx
        rw [RX] at hx ⊢
        exact ⟨hs4, hx.2⟩
    · rcases DataW.trod_slice hs h with ⟨h1, rfl⟩ | ⟨a, len, cap, elems, rest, k, hk, h1, hxy, hb, hl, hm, hlen, hel, -, -⟩
      · simp at h1
        subst h1
        refine ⟨none, 0, [], rfl, ?_⟩
        unfold rowX
        rw [RX]
        exact ⟨by decide, by simp, by decide, by simp, .inl rfl⟩
      · obtain rfl : k = n := by omega
        simp at h1
        subst h1
        have hlenb : len ≤ 140737488355328 := by
          have := hz ((elems.length + rest.length) * P.bytesOf te) (by rw [hxy]; simp [DataW.weights, hs])
          rw [be] at this
          unfold reachBytes at this
          omega
        have each : ∀ i, i < len → ∃ e : Tx, (∀ j, j < 6 → w.cell? ((a.add (i * 6)).add j) = e.cellsL[j]?) ∧ RX w e := by
          intro i hi
          have h2 := hel i hi
          rw [List.getElem?_eq_getElem (by omega)] at h2
          obtain ⟨cs', h3, h4⟩ := Option.bind_eq_some_iff.1 h2
          rw [ce] at h3
          obtain ⟨_, hcl, hcell⟩ := World.cells?_some h3
          obtain ⟨e, he1, he2⟩ := ih.1 cs' _ h4 (fun m hm => hz m (by
            rw [hxy]
            simp only [DataW.weights, hs, List.mem_cons, List.mem_append]
            exact .inr (.inl (weightsAll_mem (List.mem_map_of_mem (f := (·.1)) (List.getElem_mem (by omega : i < elems.length))) m hm))))
          exact ⟨e, fun j hj => by rw [hcell j hj, he1], he2⟩
        obtain ⟨f, hf⟩ := choose_lt each
        refine ⟨some a, cap, (List.range len).map f, by simp, ?_⟩
        unfold rowX
        rw [RX]
        unfold maxLen at hm
        refine ⟨by decide, by simpa using hl, hm, by simpa using hlenb, ?_⟩
        by_cases h0 : len = 0
        · subst h0; exact .inl rfl
        · have hc0 := (hf 0 (by omega)).1 0 (by omega)
          rw [show (a.add (0 * 6)).add 0 = a by simp [Addr.add]] at hc0
          have hp := plain_of_cell (w := w) (a := a) (v := .int .i64 (f 0).kind) hc0
          refine .inr ⟨a.block, a.off, by rw [← hp], ?_, RXs.of_get _ _ fun i e hi => ?_⟩
          · rw [hp] at hc0; exact lt_of_cell_ hc0
          · have hi' : i < len := by
              have := (List.getElem?_eq_some_iff.1 hi).1
              simpa using this
            have hfe : f i = e := by simpa [hi'] using hi
            obtain ⟨g, hx⟩ := hf i hi'
            rw [hfe] at g hx
            rw [hp] at g
            simp only [add_plain] at g
            exact ⟨⟨g 0 (by omega), g 1 (by omega), g 2 (by omega), g 3 (by omega), g 4 (by omega), g 5 (by omega)⟩, hx⟩
end
set_option maxRecDepth 100000 in
/-- an argument that is an expression -/
theorem open_expr {H : Type} {enc : TypeId × Value → H} {w : World} {base b0 : Nat} {spare : Nat → Bool} {held : Bool} {r : Reach} {v : Value} {d : DataW H} {p : List MemPlace}
    (hv : Value.okWide Try.prog w r b0 25 v) (h : DataW.Trod enc Try.prog w base spare held 25 v d p) (hz : ∀ n ∈ d.weights Try.prog 25, n ≤ reachBytes) :
    ∃ (k o t v' : Int) (s : ByteArray) (A : Option Addr) (c : Nat) (xs : List Tx), v = .agg #[.int .i64 k, .int .i64 o, .int .i64 t, .int .i64 v', .string s, .slice A xs.length c] ∧ RX w (.mk k o t v' s A c xs) := by
  obtain ⟨cs, rfl, hsz⟩ := okWide_struct Try.underlying25 hv
  obtain ⟨n, hn⟩ := h
  obtain ⟨e, he, hx⟩ := (open_tx (ts := 23) Try.underlying25 (by kernel_rfl) (by kernel_rfl) rfl rfl rfl rfl rfl rfl (by kernel_rfl) (by kernel_rfl) (by kernel_rfl) (by kernel_rfl) (by kernel_rfl) (by kernel_rfl)
    Try.underlying3 Try.underlying3 Try.underlying3 Try.underlying3 Try.underlying9 rfl Try.underlying23 n).1 _ _ hn hz
  cases e with
  | mk k o t v' s A c xs =>
    refine ⟨k, o, t, v', s, A, c, xs, ?_, hx⟩
    have he2 : cs.toList = Tx.cellsL (.mk k o t v' s A c xs) := he
    have : cs = (Tx.cellsL (.mk k o t v' s A c xs)).toArray := by rw [← he2]
    rw [this]; rfl
end Go.Proofs.Ytdghfhnkacfahaa
