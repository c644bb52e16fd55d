/-
  From an argument as data to the words of the walks: slices of bools, words.
-/
import Derived.Test.YtjbpelkdciphnaaBase
import Derived.SizedLaws
import Derived.Lib.SmallJoins
import Derived.Deep.Slices
namespace Go.Proofs.Ytjbpelkdciphnaa
open Go.ChangeShapes Go.WideShapes Go.ChangeAt Go.RowKit Go.Joins Go.Deep

section
variable {H : Type} {enc : TypeId × Value → H} {P : Program} {w : World} {base : Nat} {spare : Nat → Bool} {held : Bool}

theorem lt_of_cell_add {w : World} {a : Addr} {i : Nat} {v : Value} (h : w.cell? (a.add i) = some v) : a.block < w.heap.size := by
  have hb := block_of_add a i
  rcases Nat.lt_or_ge a.block w.heap.size with hlt | hge
  · exact hlt
  · rw [← hb] at hge
    simp [World.cell?, Array.getElem?_eq_none hge] at h

theorem open_bools {t e : TypeId} {fuel : Nat} {c : Value} {x : DataW H × List MemPlace} (ht : P.underlying t = some (.slice e)) (he : P.underlying e = some .bool) (hc : P.cellsOf e = 1) (hb : P.bytesOf e = 1)
    (h : DataW.trod enc P w base spare held fuel t [c] = some x) (hz : ∀ n ∈ x.1.weights P t, n ≤ reachBytes) :
    ∃ A cp l, c = .slice A l.length cp ∧ RB w A cp l := by
  rcases open_slice1 ht hc h with ⟨h1, rfl⟩ | ⟨a, len, cap, m, n, V, D, Pl, h1, hbase, hl, hm, hmm, rfl, hx⟩
  · simp at h1
    subst h1
    exact ⟨none, 0, [], rfl, ⟨Reads.none_, Nat.le_refl _, by omega, by simp⟩⟩
  · simp at h1
    subst h1
    have hlm : len ≤ m := by rw [hmm]; split <;> omega
    have hbit : ∀ i, i < m → ∃ b, V i = .bool b := by
      intro i hi
      obtain ⟨_, h2⟩ := hx i hi
      obtain ⟨b, h3, _⟩ := DataW.trod_bool he h2
      exact ⟨b, by simpa using h3⟩
    obtain ⟨f, hf⟩ := choose_lt (α := Bool) hbit
    refine ⟨some a, cap, (List.range len).map f, by simp, ⟨⟨by simp [bv], fun hn => ?_⟩, by simpa using hl, by unfold maxLen at hm; exact hm, ?_⟩⟩
    · simp at hn
      refine ⟨a, rfl, lt_of_cell_add (hx 0 (by omega)).1, fun j u hu => ?_⟩
      have hj : j < len := by
        have := (List.getElem?_eq_some_iff.1 hu).1
        simpa [bv] using this
      rw [(hx j (by omega)).1, hf j (by omega)]
      rw [← hu]
      simp [bv, hj]
    · have := hz ((len + (m - len)) * P.bytesOf e) (by simp [DataW.weights, ht])
      rw [hb] at this
      unfold reachBytes at this
      simp
      omega

theorem open_word {r : Reach} {b0 : Nat} {t e : TypeId} {f0 f1 : Field} {v : Value} {d : DataW H} {p : List MemPlace} (hs : P.underlying t = some (.struct #[f0, f1])) (hone : oneCellFields P #[f0, f1] = true) (hC : P.cellsOf t = 2)
    (ht0 : P.underlying f0.type = some (.slice e)) (ht1 : P.underlying f1.type = some (.slice e)) (he : P.underlying e = some .bool) (hc : P.cellsOf e = 1) (hb : P.bytesOf e = 1)
    (hv : Value.okWide P w r b0 t v) (h : DataW.Trod enc P w base spare held t v d p) (hz : ∀ n ∈ d.weights P t, n ≤ reachBytes) :
    ∃ A c B c' h l, v = .agg #[.slice A h.length c, .slice B l.length c'] ∧ RW w A c B c' h l := by
  obtain ⟨c0, c1, y0, y1, n, rfl, rfl, rfl, h0, h1⟩ := open_agg2 hs hone hC hv h
  obtain ⟨A, cp, hl, rfl, x0⟩ := open_bools ht0 he hc hb h0 (fun n hn => hz n (by simp [DataW.weights, hs, DataW.weightsEach]; exact .inl hn))
  obtain ⟨B, cp', ll, rfl, x1⟩ := open_bools ht1 he hc hb h1 (fun n hn => hz n (by simp [DataW.weights, hs, DataW.weightsEach]; exact .inr hn))
  exact ⟨A, cp, B, cp', hl, ll, rfl, ⟨x0, x1⟩⟩
end
end Go.Proofs.Ytjbpelkdciphnaa
