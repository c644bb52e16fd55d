/-
  From an argument that is an image to the words of the walks.
-/
import Derived.Test.YtgmojjdojcmnaaaDoorILiftM
import Derived.Test.YtgmojjdojcmnaaaDoorIMem
import Derived.Test.YtgmojjdojcmnaaaDoorINum
set_option linter.unusedVariables false
set_option linter.unusedSimpArgs false
namespace Go.Proofs.YtgmojjdojcmnaaaDoor
open Go.ChangeShapes Go.WideShapes Go.ChangeAt Go.RowKit Go.Joins Go.Deep

section
variable {H : Type} {enc_ : TypeId × Value → H} {w : World} {base : Nat} {spare : Nat → Bool} {held : Bool}
theorem weightsAll_mem_ {P : Program} {e : TypeId} : ∀ {l : List (DataW H)} {d : DataW H}, d ∈ l → ∀ n ∈ d.weights P e, n ∈ DataW.weightsAll P e l
  | a :: l, d, hd, n, hn => by
    rw [DataW.weightsAll, List.mem_append]
    rcases List.mem_cons.1 hd with rfl | hd
    · exact .inl hn
    · exact .inr (weightsAll_mem_ hd n hn)
theorem open_ints {fuel : Nat} {c : Value} {x : DataW H × List MemPlace} (h : DataW.trod enc_ Tryd.prog w base spare held fuel 26 [c] = some x) (hz : ∀ n ∈ x.1.weights Tryd.prog 26, n ≤ reachBytes) :
    ∃ A cp l, c = .slice A l.length cp ∧ RI w A cp l ∧ ∀ t ∈ l, t ≤ 9223372036854775807 := by
  have ht := Tryd.underlying26
  have hc : Tryd.prog.cellsOf 3 = 1 := by kernel_rfl
  have hb : Tryd.prog.bytesOf 3 = 8 := by kernel_rfl
  rcases open_slice1 ht hc h with ⟨h1, rfl⟩ | ⟨a, len, cap, m, n, V, D, Pl, h1, hbase, hl, hm, hmm, rfl, hx⟩
  · simp at h1
    subst h1
    exact ⟨none, 0, [], rfl, ⟨Reads.none_, Nat.le_refl _, by omega, by simp⟩, by simp⟩
  · simp at h1
    subst h1
    have hlm : len ≤ m := by rw [hmm]; split <;> omega
    have hbit : ∀ i, i < m → ∃ b : Int, V i = .int .i64 b ∧ b ≤ 9223372036854775807 := by
      intro i hi
      obtain ⟨_, h2⟩ := hx i hi
      obtain ⟨b, h3, h4, h5⟩ := DataW.trod_int Tryd.underlying3 h2
      exact ⟨b, by simpa using h3, (i64_bd h5).2⟩
    obtain ⟨f, hf⟩ := choose_lt (α := Int) hbit
    refine ⟨some a, cap, (List.range len).map f, by simp, ⟨⟨by simp [iv], fun hn => ?_⟩, by simpa using hl, by unfold maxLen at hm; exact hm, ?_⟩, ?_⟩
    · simp at hn
      refine ⟨a, rfl, lt_of_cell_add (hx 0 (by omega)).1, fun j u hu => ?_⟩
      have hj : j < len := by
        have := (List.getElem?_eq_some_iff.1 hu).1
        simpa [iv] using this
      rw [(hx j (by omega)).1, (hf j (by omega)).1]
      rw [← hu]
      simp [iv, hj]
    · have := hz ((len + (m - len)) * Tryd.prog.bytesOf 3) (by simp [DataW.weights, ht])
      rw [hb] at this
      unfold reachBytes at this
      simp
      omega
    · intro t ht_
      obtain ⟨i, hi, rfl⟩ := List.mem_map.1 ht_
      exact (hf i (by have := List.mem_range.1 hi; omega)).2
theorem open_ins {fuel : Nat} {cs : List Value} {x : DataW H × List MemPlace} (h : DataW.trod enc_ Tryd.prog w base spare held fuel 61 cs = some x) :
    ∃ i : Ins, cs = [.int .i64 i.op, .int .i64 i.a, .int .i64 i.b, .int .i64 i.c, .int .i64 i.d] := by
  obtain ⟨xs, k, hk, hxy, hcl, hxl, hf⟩ := DataW.trod_struct Tryd.underlying61 h
  have c5 : Tryd.prog.cellsOf 61 = 5 := by kernel_rfl
  have ci1 : Tryd.prog.cellsOf 3 = 1 := by kernel_rfl
  rw [c5] at hcl
  match xs, hxl, cs, hcl with
  | [y0, y1, y2, y3, y4], _, [v0, v1, v2, v3, v4], _ =>
    have g0 := hf 0 _ rfl
    have g1 := hf 1 _ rfl
    have g2 := hf 2 _ rfl
    have g3 := hf 3 _ rfl
    have g4 := hf 4 _ rfl
    simp [ci1] at g0 g1 g2 g3 g4
    obtain ⟨a0, h0, -, -⟩ := DataW.trod_int Tryd.underlying3 g0
    obtain ⟨a1, h1, -, -⟩ := DataW.trod_int Tryd.underlying3 g1
    obtain ⟨a2, h2, -, -⟩ := DataW.trod_int Tryd.underlying3 g2
    obtain ⟨a3, h3, -, -⟩ := DataW.trod_int Tryd.underlying3 g3
    obtain ⟨a4, h4, -, -⟩ := DataW.trod_int Tryd.underlying3 g4
    simp only [List.cons.injEq, and_true] at h0 h1 h2 h3 h4
    subst h0; subst h1; subst h2; subst h3; subst h4
    exact ⟨⟨a0, a1, a2, a3, a4⟩, rfl⟩
theorem open_code {fuel : Nat} {c : Value} {x : DataW H × List MemPlace} (h : DataW.trod enc_ Tryd.prog w base spare held fuel 50 [c] = some x) (hz : ∀ n ∈ x.1.weights Tryd.prog 50, n ≤ reachBytes) :
    ∃ A cp l, c = .slice A l.length cp ∧ RC w A cp l := by
  have ce : Tryd.prog.cellsOf 61 = 5 := by kernel_rfl
  have be : Tryd.prog.bytesOf 61 = 40 := by kernel_rfl
  have hs := Tryd.underlying50
  rcases DataW.trod_slice hs h with ⟨h1, rfl⟩ | ⟨a, len, cap, elems, rest, k, hk, h1, hxy, hb, hl, hm, hlen, hel, -, -⟩
  · simp at h1
    subst h1
    exact ⟨none, 0, [], rfl, RC.nil w⟩
  · simp at h1
    subst h1
    have hlenb : len ≤ 140737488355328 := by
      have := hz ((elems.length + rest.length) * Tryd.prog.bytesOf 61) (by rw [hxy]; simp [DataW.weights, hs])
      rw [be] at this
      unfold reachBytes at this
      omega
    have each : ∀ i, i < len → ∃ e : Ins, (∀ j, j < 5 → w.cell? ((a.add (i * 5)).add j) = ([.int .i64 e.op, .int .i64 e.a, .int .i64 e.b, .int .i64 e.c, .int .i64 e.d] : List Value)[j]?) := by
      intro i hi
      have h2 := hel i hi
      rw [List.getElem?_eq_getElem (by omega)] at h2
      obtain ⟨cs', h3, h4⟩ := Option.bind_eq_some_iff.1 h2
      rw [ce] at h3
      obtain ⟨_, hcl, hcell⟩ := World.cells?_some h3
      obtain ⟨e, he1⟩ := open_ins h4
      exact ⟨e, fun j hj => by rw [hcell j hj, he1]⟩
    obtain ⟨f, hf⟩ := choose_lt each
    unfold maxLen at hm
    refine ⟨some a, cap, (List.range len).map f, by simp, ⟨?_, by simpa using hl, hm, by simpa using hlenb⟩⟩
    by_cases h0 : len = 0
    · subst h0; exact .inl rfl
    · have hc0 := hf 0 (by omega) 0 (by omega)
      rw [show (a.add (0 * 5)).add 0 = a by simp [Addr.add]] at hc0
      have hp := plain_of_cell (w := w) (a := a) (v := .int .i64 (f 0).op) hc0
      refine .inr ⟨a.block, a.off, by rw [← hp], ?_, fun i e hi => ?_⟩
      · exact lt_of_cell_add (a := a) (i := 0) (by rw [show a.add 0 = a by simp [Addr.add]]; exact hc0)
      · have hi' : i < len := by
          have := (List.getElem?_eq_some_iff.1 hi).1
          simpa using this
        have hfe : f i = e := by simpa [hi'] using hi
        have g := hf i hi'
        rw [hfe] at g
        rw [hp] at g
        simp only [add_plain] at g
        exact ⟨g 0 (by omega), g 1 (by omega), g 2 (by omega), g 3 (by omega), g 4 (by omega)⟩
theorem open_rtn {fuel : Nat} {cs : List Value} {x : DataW H × List MemPlace} (h : DataW.trod enc_ Tryd.prog w base spare held fuel 52 cs = some x) (hz : ∀ n ∈ x.1.weights Tryd.prog 52, n ≤ reachBytes) :
    ∃ (s : ByteArray) (A1 : Option Addr) (c1 : Nat) (A2 : Option Addr) (c2 : Nat) (A3 : Option Addr) (c3 : Nat) (A4 : Option Addr) (c4 : Nat) (r : Rtn),
      cs = [.string s, .slice A1 r.ins.length c1, .slice A2 r.outs.length c2, .int .i64 r.regs, .slice A3 r.init.length c3, .slice A4 r.code.length c4] ∧ RRt w s A1 c1 A2 c2 A3 c3 A4 c4 r ∧ ∀ t, t ∈ r.ins ∨ t ∈ r.outs → t ≤ 9223372036854775807 := by
  obtain ⟨xs, k, hk, hxy, hcl, hxl, hf⟩ := DataW.trod_struct Tryd.underlying52 h
  have c6 : Tryd.prog.cellsOf 52 = 6 := by kernel_rfl
  have cs1 : Tryd.prog.cellsOf 9 = 1 := by kernel_rfl
  have ci1 : Tryd.prog.cellsOf 3 = 1 := by kernel_rfl
  have cl1 : Tryd.prog.cellsOf 26 = 1 := by kernel_rfl
  have cc1 : Tryd.prog.cellsOf 50 = 1 := by kernel_rfl
  rw [c6] at hcl
  match xs, hxl, cs, hcl with
  | [y0, y1, y2, y3, y4, y5], _, [v0, v1, v2, v3, v4, v5], _ =>
    have g0 := hf 0 _ rfl
    have g1 := hf 1 _ rfl
    have g2 := hf 2 _ rfl
    have g3 := hf 3 _ rfl
    have g4 := hf 4 _ rfl
    have g5 := hf 5 _ rfl
    simp [ci1, cs1, cl1, cc1] at g0 g1 g2 g3 g4 g5
    have hw : ∀ m, (m ∈ y0.1.weights Tryd.prog 9 ∨ m ∈ y1.1.weights Tryd.prog 26 ∨ m ∈ y2.1.weights Tryd.prog 26 ∨ m ∈ y4.1.weights Tryd.prog 26 ∨ m ∈ y5.1.weights Tryd.prog 50) → m ≤ reachBytes := by
      intro m hm
      refine hz m ?_
      rw [hxy]
      simp only [DataW.weights, Tryd.underlying52, DataW.weightsEach, List.map_cons, List.map_nil, List.mem_append]
      rcases hm with hm | hm | hm | hm | hm <;> simp [hm]
    obtain ⟨s0, h0, e0, h0s⟩ := DataW.trod_string Tryd.underlying9 g0
    obtain ⟨A1, c1, l1, h1, x1, b1⟩ := open_ints g1 (fun m hm => hw m (.inr (.inl hm)))
    obtain ⟨A2, c2, l2, h2, x2, b2⟩ := open_ints g2 (fun m hm => hw m (.inr (.inr (.inl hm))))
    obtain ⟨a3, h3, -, -⟩ := DataW.trod_int Tryd.underlying3 g3
    obtain ⟨A4, c4, l4, h4, x4, b4⟩ := open_ints g4 (fun m hm => hw m (.inr (.inr (.inr (.inl hm)))))
    obtain ⟨A5, c5, l5, h5, x5⟩ := open_code g5 (fun m hm => hw m (.inr (.inr (.inr (.inr hm)))))
    simp only [List.cons.injEq, and_true] at h0 h3
    subst h0; subst h1; subst h2; subst h3; subst h4; subst h5
    have hs0 : s0.size ≤ 140737488355328 := by
      have := hw s0.data.toList.length (.inl (by rw [e0]; simp only [DataW.weights, List.mem_singleton]))
      unfold reachBytes at this
      have e : s0.size = s0.data.toList.length := rfl
      omega
    refine ⟨s0, A1, c1, A2, c2, A4, c4, A5, c5, ⟨s0.data.toList, l1, l2, a3, l4, l5⟩, rfl, ⟨rfl, hs0, x1, x2, x4, x5⟩, fun t ht => ?_⟩
    rcases ht with ht | ht
    · exact b1 t ht
    · exact b2 t ht
structure Rta where
  s : ByteArray
  A1 : Option Addr
  c1 : Nat
  A2 : Option Addr
  c2 : Nat
  A3 : Option Addr
  c3 : Nat
  A4 : Option Addr
  c4 : Nat
  r : Rtn
deriving Inhabited
theorem open_rts {fuel : Nat} {c : Value} {x : DataW H × List MemPlace} (h : DataW.trod enc_ Tryd.prog w base spare held fuel 27 [c] = some x) (hz : ∀ n ∈ x.1.weights Tryd.prog 27, n ≤ reachBytes) :
    ∃ A cp l, c = .slice A l.length cp ∧ RRs w A cp l ∧ ∀ r ∈ l, ∀ t, t ∈ r.ins ∨ t ∈ r.outs → t ≤ 9223372036854775807 := by
  have ce : Tryd.prog.cellsOf 52 = 6 := by kernel_rfl
  have be : Tryd.prog.bytesOf 52 = 120 := by kernel_rfl
  have hs := Tryd.underlying27
  rcases DataW.trod_slice hs h with ⟨h1, rfl⟩ | ⟨a, len, cap, elems, rest, k, hk, h1, hxy, hb, hl, hm, hlen, hel, -, -⟩
  · simp at h1
    subst h1
    exact ⟨none, 0, [], rfl, RRs.nil w, by simp⟩
  · simp at h1
    subst h1
    have hlenb : len ≤ 140737488355328 := by
      have := hz ((elems.length + rest.length) * Tryd.prog.bytesOf 52) (by rw [hxy]; simp [DataW.weights, hs])
      rw [be] at this
      unfold reachBytes at this
      omega
    have each : ∀ i, i < len → ∃ q : Rta, (∀ j, j < 6 → w.cell? ((a.add (i * 6)).add j) = ([.string q.s, .slice q.A1 q.r.ins.length q.c1, .slice q.A2 q.r.outs.length q.c2, .int .i64 q.r.regs, .slice q.A3 q.r.init.length q.c3, .slice q.A4 q.r.code.length q.c4] : List Value)[j]?) ∧ RRt w q.s q.A1 q.c1 q.A2 q.c2 q.A3 q.c3 q.A4 q.c4 q.r ∧ ∀ t, t ∈ q.r.ins ∨ t ∈ q.r.outs → t ≤ 9223372036854775807 := by
      intro i hi
      have h2 := hel i hi
      rw [List.getElem?_eq_getElem (by omega)] at h2
      obtain ⟨cs', h3, h4⟩ := Option.bind_eq_some_iff.1 h2
      rw [ce] at h3
      obtain ⟨_, hcl, hcell⟩ := World.cells?_some h3
      obtain ⟨s, A1, c1, A2, c2, A3, c3, A4, c4, r, he1, he2, he3⟩ := open_rtn h4 (fun m hm => hz m (by
            rw [hxy]
            simp only [DataW.weights, hs, List.mem_cons, List.mem_append]
            exact .inr (.inl (weightsAll_mem_ (List.mem_map_of_mem (f := (·.1)) (List.getElem_mem (by omega : i < elems.length))) m hm))))
      exact ⟨⟨s, A1, c1, A2, c2, A3, c3, A4, c4, r⟩, fun j hj => by rw [hcell j hj, he1], he2, he3⟩
    obtain ⟨f, hf⟩ := choose_lt each
    unfold maxLen at hm
    refine ⟨some a, cap, (List.range len).map fun i => (f i).r, by simp, ⟨?_, by simpa using hl, hm, by simpa using hlenb⟩, ?_⟩
    · by_cases h0 : len = 0
      · subst h0; exact .inl rfl
      · have hc0 := (hf 0 (by omega)).1 0 (by omega)
        rw [show (a.add (0 * 6)).add 0 = a by simp [Addr.add]] at hc0
        have hp := plain_of_cell (w := w) (a := a) (v := .string (f 0).s) hc0
        refine .inr ⟨a.block, a.off, by rw [← hp], ?_, fun i e hi => ?_⟩
        · exact lt_of_cell_add (a := a) (i := 0) (by rw [show a.add 0 = a by simp [Addr.add]]; exact hc0)
        · have hi' : i < len := by
            have := (List.getElem?_eq_some_iff.1 hi).1
            simpa using this
          have hfe : (f i).r = e := by simpa [hi'] using hi
          obtain ⟨g, hx, _⟩ := hf i hi'
          rw [hfe] at g hx
          rw [hp] at g
          simp only [add_plain] at g
          exact ⟨_, _, _, _, _, _, _, _, _, ⟨g 0 (by omega), g 1 (by omega), g 2 (by omega), g 3 (by omega), g 4 (by omega), g 5 (by omega)⟩, hx⟩
    · intro r hr t ht_
      obtain ⟨i, hi, rfl⟩ := List.mem_map.1 hr
      exact (hf i (List.mem_range.1 hi)).2.2 t ht_
/-- an argument that is an image -/
theorem open_image {b0 : Nat} {r : Reach} {v : Value} {d : DataW H} {p : List MemPlace}
    (hv : Value.okWide Tryd.prog w r b0 29 v) (h : DataW.Trod enc_ Tryd.prog w base spare held 29 v d p) (hz : ∀ n ∈ d.weights Tryd.prog 29, n ≤ reachBytes) :
    ∃ (A : Option Addr) (c : Nat) (B : Option Addr) (c' : Nat) (m : Img), v = .agg #[.slice A m.enums.length c, .slice B m.rts.length c'] ∧ RIm w A c B c' m ∧ ImB m := by
  obtain ⟨cs, rfl, hsz⟩ := okWide_struct Tryd.underlying29 hv
  obtain ⟨n, hn⟩ := h
  obtain ⟨xs, k, hk, hxy, hcl, hxl, hf⟩ := DataW.trod_struct Tryd.underlying29 hn
  have c2 : Tryd.prog.cellsOf 29 = 2 := by kernel_rfl
  have cl1 : Tryd.prog.cellsOf 26 = 1 := by kernel_rfl
  have cc1 : Tryd.prog.cellsOf 27 = 1 := by kernel_rfl
  obtain ⟨l, rfl⟩ : ∃ l : List Value, cs = l.toArray := ⟨cs.toList, by simp⟩
  simp only [Value.cells] at hf hcl
  rw [c2] at hcl
  match xs, hxl, l, hcl with
  | [y0, y1], _, [v0, v1], _ =>
    have g0 := hf 0 _ rfl
    have g1 := hf 1 _ rfl
    simp [cl1, cc1] at g0 g1
    have hd : d = .agg [y0.1, y1.1] := by
      have := congrArg Prod.fst hxy
      simpa using this
    have hw : ∀ m, (m ∈ y0.1.weights Tryd.prog 26 ∨ m ∈ y1.1.weights Tryd.prog 27) → m ≤ reachBytes := by
      intro m hm
      refine hz m ?_
      rw [hd]
      simp only [DataW.weights, Tryd.underlying29, DataW.weightsEach, List.map_cons, List.map_nil, List.mem_append]
      rcases hm with hm | hm <;> simp [hm]
    obtain ⟨A1, c1, l1, h1, x1, b1⟩ := open_ints g0 (fun m hm => hw m (.inl hm))
    obtain ⟨A2, c2, l2, h2, x2, b2⟩ := open_rts g1 (fun m hm => hw m (.inr hm))
    subst h1; subst h2
    exact ⟨A1, c1, A2, c2, ⟨l1, l2⟩, rfl, ⟨x1, x2⟩, b2⟩
end
end Go.Proofs.YtgmojjdojcmnaaaDoor
