/-
  From an argument as data to the words of the walks: slices of ints, of pairs (bool, int).
-/
import Derived.Test.YtglfocldoaigiaaLift
import Derived.Deep.SlicePairs
namespace Go.Proofs.Ytglfocldoaigiaa
open Go.ChangeShapes Go.WideShapes Go.ChangeAt Go.RowKit Go.Joins Go.Deep

/-- a slice of pairs (bool, int) that reads as l -/
structure RA (w : World) (A : Option Addr) (c : Nat) (l : List (Bool × Int)) : Prop where
  cells : ∀ k p, l[k]? = some p → ∃ ad, A = some ad ∧ ad.block < w.heap.size ∧ w.cell? (ad.add (k * 2)) = some (.bool p.1) ∧ w.cell? (ad.add (k * 2 + 1)) = some (.int .i64 p.2)
  le : l.length ≤ c
  cap : c ≤ 9223372036854775807
  len : l.length ≤ 140737488355328
theorem RA.below {w w' : World} {A c l} (h : RA w A c l) (hb : Below w.heap.size w w') : RA w' A c l := by
  refine ⟨fun k p hk => ?_, h.le, h.cap, h.len⟩
  obtain ⟨ad, e, hlt, h0, h1⟩ := h.cells k p hk
  have keep : ∀ j, w'.cell? (ad.add j) = w.cell? (ad.add j) := fun j => World.cell?_of_block (hb.block _ (by rw [block_of_add]; exact hlt))
  exact ⟨ad, e, Nat.lt_of_lt_of_le hlt hb.size, by rw [keep]; exact h0, by rw [keep]; exact h1⟩
theorem RA.here {w0 : World} {A c l} (h : RA w0 A c l) (w : World) [k : After w0 w] : RA w A c l := h.below k.below

section
variable {H : Type} {enc : TypeId × Value → H} {P : Program} {w : World} {base : Nat} {spare : Nat → Bool} {held : Bool}
theorem open_intl0 {t e : TypeId} {fuel : Nat} {c : Value} {x : DataW H × List MemPlace} (ht : P.underlying t = some (.slice e)) (he : P.underlying e = some (.int .i64)) (hc : P.cellsOf e = 1) (hb : P.bytesOf e = 8)
    (h : DataW.trod enc P w base spare held fuel t [c] = some x) (hz : ∀ n ∈ x.1.weights P t, n ≤ reachBytes) :
    ∃ A cp l, c = .slice A l.length cp ∧ RI w A cp l := by
  rcases open_slice1 ht hc h with ⟨h1, rfl⟩ | ⟨a, len, cap, m, n, V, D, Pl, h1, hbase, hl, hm, hmm, rfl, hx⟩
  · simp at h1
    subst h1
    exact ⟨none, 0, [], rfl, ⟨Reads.none_, Nat.le_refl _, by omega, by simp⟩⟩
  · simp at h1
    subst h1
    have hlm : len ≤ m := by rw [hmm]; split <;> omega
    have hbit : ∀ i, i < m → ∃ b, V i = .int .i64 b := by
      intro i hi
      obtain ⟨_, h2⟩ := hx i hi
      obtain ⟨b, h3, _⟩ := DataW.trod_int he h2
      exact ⟨b, by simpa using h3⟩
    obtain ⟨f, hf⟩ := choose_lt (α := Int) hbit
    refine ⟨some a, cap, (List.range len).map f, by simp, ⟨⟨by simp [iv], fun hn => ?_⟩, by simpa using hl, by unfold maxLen at hm; exact hm, ?_⟩⟩
    · simp at hn
      refine ⟨a, rfl, lt_of_cell_add (hx 0 (by omega)).1, fun j u hu => ?_⟩
      have hj : j < len := by
        have := (List.getElem?_eq_some_iff.1 hu).1
        simpa [iv] using this
      rw [(hx j (by omega)).1, hf j (by omega)]
      rw [← hu]
      simp [iv, hj]
    · have := hz ((len + (m - len)) * P.bytesOf e) (by simp [DataW.weights, ht])
      rw [hb] at this
      unfold reachBytes at this
      simp
      omega
theorem open_acts0 {t e : TypeId} {f0 f1 : Field} {fuel : Nat} {c : Value} {x : DataW H × List MemPlace} (ht : P.underlying t = some (.slice e)) (he : P.underlying e = some (.struct #[f0, f1]))
    (ce : P.cellsOf e = 2) (o0 : f0.offset = 0) (o1 : f1.offset = 1) (c0 : P.cellsOf f0.type = 1) (c1 : P.cellsOf f1.type = 1) (t0 : P.underlying f0.type = some .bool) (t1 : P.underlying f1.type = some (.int .i64)) (hb : P.bytesOf e = 16)
    (h : DataW.trod enc P w base spare held fuel t [c] = some x) (hz : ∀ n ∈ x.1.weights P t, n ≤ reachBytes) :
    ∃ A cp l, c = .slice A l.length cp ∧ RA w A cp l := by
  rcases open_slice_pairs ht he ce o0 o1 c0 c1 h with ⟨h1, rfl⟩ | ⟨a, len, cap, m, n, V0, V1, D0, D1, P0, P1, h1, hbase, hl, hm, hmm, rfl, hx⟩
  · simp at h1
    subst h1
    exact ⟨none, 0, [], rfl, ⟨fun k p hk => by simp at hk, Nat.le_refl _, by omega, by simp⟩⟩
  · simp at h1
    subst h1
    have hlm : len ≤ m := by rw [hmm]; split <;> omega
    have hbit : ∀ i, i < m → ∃ q : Bool × Int, V0 i = .bool q.1 ∧ V1 i = .int .i64 q.2 := by
      intro i hi
      obtain ⟨_, _, h2, h3⟩ := hx i hi
      obtain ⟨b, h4, _⟩ := DataW.trod_bool t0 h2
      obtain ⟨v, h5, _⟩ := DataW.trod_int t1 h3
      exact ⟨(b, v), by simpa using h4, by simpa using h5⟩
    obtain ⟨f, hf⟩ := choose_lt (α := Bool × Int) hbit
    refine ⟨some a, cap, (List.range len).map f, by simp, ⟨fun k p hk => ?_, by simpa using hl, by unfold maxLen at hm; exact hm, ?_⟩⟩
    · have hj : k < len := by
        have := (List.getElem?_eq_some_iff.1 hk).1
        simpa using this
      have hp : f k = p := by simpa [hj] using hk
      obtain ⟨g0, g1, _⟩ := hx k (by omega)
      obtain ⟨e0, e1⟩ := hf k (by omega)
      exact ⟨a, rfl, lt_of_cell_add g0, by rw [g0, e0, hp], by rw [g1, e1, hp]⟩
    · have := hz ((len + (m - len)) * P.bytesOf e) (by simp [DataW.weights, ht])
      rw [hb] at this
      unfold reachBytes at this
      simp
      omega
end
end Go.Proofs.Ytglfocldoaigiaa
