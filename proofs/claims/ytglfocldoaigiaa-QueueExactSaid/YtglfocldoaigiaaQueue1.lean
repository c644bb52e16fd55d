/-
  Queues in memory: a row from an offset on, a queue's block; Clone, New, Peak, Len, Pop, Push of a full queue.
-/
import Derived.Test.YtglfocldoaigiaaBlk
import Derived.Test.YtglfocldoaigiaaPace1
namespace Go.Proofs.Ytglfocldoaigiaa
open Go.RowKit Go.BigFrame

/-- a slice value over a row of the program's own that holds the cells xs from some offset on; r: the row's block -/
def QRow (w : World) (e : TypeId) (v : Value) (xs : List Value) (r : Option Nat) : Prop :=
  (v = .slice none 0 0 ∧ xs = [] ∧ r = none) ∨
  ∃ g o cap cur, r = some g ∧ v = .slice (some ⟨g, o, none⟩) xs.length cap ∧ w.heap[g]? = some (.cells cur e (0, 0)) ∧ xs.length ≤ cap ∧ cap ≤ maxLen ∧ o + cap ≤ cur.size ∧ ∀ j, j < xs.length → cur[o + j]? = xs[j]?

/-- only block g and the row r of old memory may have changed -/
structure Frame2 (w w' : World) (g : Nat) (r : Option Nat) : Prop where
  os : w'.os = w.os
  tape : w'.tape = w.tape
  output : w'.output = w.output
  size : w.heap.size ≤ w'.heap.size
  block : ∀ k, k < w.heap.size → k ≠ g → some k ≠ r → w'.heap[k]? = w.heap[k]?

theorem QRow.of_own {w : World} {base n : Nat} {e : TypeId} {v : Value} {xs : List Value} (h : w.ownsRow base e 1 v n xs) : ∃ r, QRow w e v xs r ∧ ∀ g, r = some g → base ≤ g ∧ g < w.heap.size := by
  obtain ⟨hl, h⟩ := h
  have hlen : xs.length = n := by rw [hl]; omega
  rcases h with ⟨h1, h2⟩ | ⟨g, cap, cur, hv, hb, hh, hn, hm, hs, ht⟩
  · exact ⟨none, .inl ⟨h1, List.eq_nil_of_length_eq_zero (by omega), rfl⟩, fun g hg => by cases hg⟩
  · refine ⟨some g, .inr ⟨g, 0, cap, cur, rfl, by rw [hlen]; exact hv, hh, by omega, hm, by omega, fun j hj => ?_⟩, fun g' hg' => ?_⟩
    · rw [← ht, Nat.mul_one, List.getElem?_take, if_pos (by omega), Nat.zero_add]
      simp
    · injection hg' with hg'
      subst hg'
      refine ⟨hb, ?_⟩
      rcases Nat.lt_or_ge g w.heap.size with h' | h'
      · exact h'
      · rw [Array.getElem?_eq_none h'] at hh; cases hh
theorem QRow.lt {w : World} {e : TypeId} {v : Value} {xs : List Value} {r : Option Nat} (h : QRow w e v xs r) {g : Nat} (hg : r = some g) : g < w.heap.size := by
  rcases h with ⟨_, _, h3⟩ | ⟨g', o, cap, cur, h1, hv, hh, _⟩
  · rw [h3] at hg; cases hg
  · rw [h1] at hg; injection hg with hg; subst hg
    rcases Nat.lt_or_ge g' w.heap.size with h' | h'
    · exact h'
    · rw [Array.getElem?_eq_none h'] at hh; cases hh
/-- the row lies on where its block has not changed -/
theorem QRow.keep {w w' : World} {e : TypeId} {v : Value} {xs : List Value} {r : Option Nat} (h : QRow w e v xs r) (hk : ∀ g, r = some g → w'.heap[g]? = w.heap[g]?) : QRow w' e v xs r := by
  rcases h with h | ⟨g, o, cap, cur, h1, hv, hh, h2⟩
  · exact .inl h
  · exact .inr ⟨g, o, cap, cur, h1, hv, (hk g h1).trans hh, h2⟩
theorem QRow.slice {w : World} {e : TypeId} {v : Value} {xs : List Value} {r : Option Nat} (h : QRow w e v xs r) : ∃ A c, v = .slice A xs.length c ∧ xs.length ≤ c ∧ c ≤ 9223372036854775807 := by
  rcases h with ⟨h1, h2, _⟩ | ⟨g, o, cap, cur, h1, hv, hh, h2, h3, _⟩
  · subst h2; exact ⟨none, 0, h1, Nat.le_refl _, by omega⟩
  · exact ⟨_, _, hv, h2, by unfold maxLen at h3; exact h3⟩
theorem QRow.reads {w : World} {e : TypeId} {A : Option Addr} {n c : Nat} {xs : List Value} {r : Option Nat} (h : QRow w e (.slice A n c) xs r) : Reads w w.heap.size 1 A n xs := by
  rcases h with ⟨h1, h2, _⟩ | ⟨g, o, cap, cur, h1, hv, hh, h2, h3, h4, h5⟩
  · injection h1 with h1 h1' _
    subst h1; subst h1'; subst h2
    exact Reads.none_
  · injection hv with hA hn hc
    subst hA; subst hn
    refine ⟨by omega, fun hn => ⟨_, rfl, ?_, fun j u hu => ?_⟩⟩
    · rcases Nat.lt_or_ge g w.heap.size with h' | h'
      · exact h'
      · rw [Array.getElem?_eq_none h'] at hh; cases hh
    · have hj : j < xs.length := (List.getElem?_eq_some_iff.1 hu).1
      have : (⟨g, o, none⟩ : Addr).add j = ⟨g, o + j, none⟩ := Addr.add_lit ..
      rw [this, cell_of_row w g (o + j) cur e (0, 0) hh, h5 j hj, hu]
end Go.Proofs.Ytglfocldoaigiaa
