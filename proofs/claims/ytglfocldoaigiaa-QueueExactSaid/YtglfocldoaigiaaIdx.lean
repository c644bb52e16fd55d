/-
  Plain mathematics: where the ones of a list are; the k-th one of a word.
-/
import Derived.Test.YtglfocldoaigiaaWord
namespace Go.Proofs.Ytglfocldoaigiaa

/-- the indices of the ones -/
def idx (l : List Bool) : List Int := ((List.range l.length).filter fun i => l.getD i false).map Int.ofNat
theorem idx_nil : idx [] = [] := rfl
theorem idx_snoc (l : List Bool) (b : Bool) : idx (l ++ [b]) = idx l ++ if b = true then [(l.length : Int)] else [] := by
  unfold idx
  rw [List.length_append, List.length_singleton, List.range_succ, List.filter_append, List.map_append]
  congr 1
  · congr 1
    refine List.filter_congr fun i hi => ?_
    rw [List.mem_range] at hi
    simp [List.getD_eq_getElem?_getD, List.getElem?_append_left hi]
  · have : (l ++ [b]).getD l.length false = b := by simp [List.getD_eq_getElem?_getD]
    rw [List.filter_cons, this]
    cases b <;> simp
theorem take_succ_getD (l : List Bool) (k : Nat) (h : k < l.length) : l.take (k + 1) = l.take k ++ [l.getD k false] := by
  rw [List.take_succ_eq_append_getElem h]; simp [List.getD_eq_getElem?_getD, h]
theorem idx_take_succ (l : List Bool) (k : Nat) (h : k < l.length) : idx (l.take (k + 1)) = idx (l.take k) ++ if l.getD k false = true then [(k : Int)] else [] := by
  rw [take_succ_getD l k h, idx_snoc, List.length_take, Nat.min_eq_left (by omega)]
theorem idx_len (l : List Bool) : (idx l).length = W.cnt l := by
  have h : ∀ n ≤ l.length, (idx (l.take n)).length = W.cnt (l.take n) := by
    intro n
    induction n with
    | zero => intro _; simp [idx, W.cnt]
    | succ n ih =>
      intro hn
      rw [idx_take_succ l n (by omega), take_succ_getD l n (by omega), W.cnt_snoc, List.length_append, ih (by omega)]
      cases l.getD n false <;> simp
  have := h l.length (Nat.le_refl _)
  rwa [List.take_length] at this

theorem idx_bd (l : List Bool) (k : Nat) (hk : k < W.cnt l) : 0 ≤ (idx l).getD k 0 ∧ (idx l).getD k 0 < l.length := by
  have hlen := idx_len l
  have : (idx l).getD k 0 ∈ idx l := by
    rw [List.getD_eq_getElem?_getD, List.getElem?_eq_getElem (by omega)]; simp
  generalize (idx l).getD k 0 = z at *
  unfold idx at this
  rw [List.mem_map] at this
  obtain ⟨i, hi, rfl⟩ := this
  rw [List.mem_filter, List.mem_range] at hi
  exact ⟨by simp, by simpa using hi.1⟩

/-- the index of the k-th one -/
def nthN (h l : List Bool) (k : Nat) : Int :=
  if k < W.cnt h then (idx h).getD k 0 else (h.length : Int) + ((k - W.cnt h) / W.cnt l : Nat) * (l.length : Int) + (idx l).getD ((k - W.cnt h) % W.cnt l) 0

/-- the k-th index: a one, with k ones before it -/
theorem idx_spec (l : List Bool) (k : Nat) (hk : k < W.cnt l) : ∃ i : Nat, (idx l).getD k 0 = i ∧ i < l.length ∧ l.getD i false = true ∧ W.cnt (l.take i) = k := by
  have key : ∀ n, n ≤ l.length → ∀ k, k < W.cnt (l.take n) → ∃ i : Nat, (idx (l.take n)).getD k 0 = i ∧ i < n ∧ l.getD i false = true ∧ W.cnt (l.take i) = k := by
    intro n
    induction n with
    | zero => intro _ k hk; simp [W.cnt] at hk
    | succ n ih =>
      intro hn k hk
      have e := idx_take_succ l n (by omega)
      have hl := idx_len (l.take n)
      rw [take_succ_getD l n (by omega), W.cnt_snoc] at hk
      by_cases h1 : k < W.cnt (l.take n)
      · obtain ⟨i, h2, h3, h4, h5⟩ := ih (by omega) k h1
        refine ⟨i, ?_, by omega, h4, h5⟩
        rw [e, List.getD_eq_getElem?_getD, List.getElem?_append_left (by omega), ← List.getD_eq_getElem?_getD, h2]
      · cases hb : l.getD n false with
        | false => rw [hb] at hk; simp at hk; omega
        | true =>
          rw [hb] at hk
          have hk2 : k = W.cnt (l.take n) := by simp at hk; omega
          refine ⟨n, ?_, by omega, hb, hk2.symm⟩
          rw [e, hb, List.getD_eq_getElem?_getD, List.getElem?_append_right (by omega), show k - (idx (l.take n)).length = 0 by omega]
          simp
  have := key l.length (Nat.le_refl _) k (by rwa [List.take_length])
  rwa [List.take_length] at this

theorem ones_mono (h l : List Bool) (hl : 0 < l.length) {n m : Nat} (hnm : n ≤ m) : W.ones h l n ≤ W.ones h l m := by
  obtain ⟨d, rfl⟩ := Nat.exists_eq_add_of_le hnm
  clear hnm
  induction d with
  | zero => exact Nat.le_refl _
  | succ d ih => rw [← Nat.add_assoc, W.ones_succ _ _ _ hl]; omega

/-- nthN is the k-th one -/
theorem nthN_spec (h l : List Bool) (k : Nat) (hl : 0 < l.length) (hk : k < W.cnt h ∨ 0 < W.cnt l) :
    ∃ n : Nat, nthN h l k = n ∧ W.letter h l n = true ∧ W.ones h l n = k ∧ (W.cnt h ≤ k → h.length + (k - W.cnt h) / W.cnt l * l.length ≤ n) ∧ n < h.length + (k + 1) * l.length := by
  unfold nthN
  by_cases h1 : k < W.cnt h
  · rw [if_pos h1]
    obtain ⟨i, e1, e2, e3, e4⟩ := idx_spec h k h1
    refine ⟨i, e1, ?_, ?_, by omega, ?_⟩
    · unfold W.letter; rw [if_pos e2]; exact e3
    · rw [W.ones_head_le _ _ _ (by omega)]; exact e4
    · have : l.length ≤ (k + 1) * l.length := Nat.le_mul_of_pos_left _ (by omega)
      omega
  · rw [if_neg h1]
    have hc : 0 < W.cnt l := by omega
    obtain ⟨i, e1, e2, e3, e4⟩ := idx_spec l ((k - W.cnt h) % W.cnt l) (Nat.mod_lt _ hc)
    rw [e1]
    obtain ⟨q, hq⟩ : ∃ q, (k - W.cnt h) / W.cnt l = q := ⟨_, rfl⟩
    have hdm := Nat.div_add_mod (k - W.cnt h) (W.cnt l)
    rw [hq] at hdm
    rw [hq]
    refine ⟨h.length + q * l.length + i, by push_cast; rfl, ?_, ?_, fun _ => by omega, ?_⟩
    · have e : h.length + q * l.length + i = (h.length + i) + q * l.length := by omega
      rw [e, W.letter_add _ _ _ _ (by omega), W.letter_loop _ _ _ e2]
      rw [List.getD_eq_getElem?_getD, List.getElem?_eq_getElem e2] at e3
      simpa using e3
    · have e : h.length + q * l.length + i = (h.length + i) + q * l.length := by omega
      rw [e, W.ones_add_loop _ _ _ _ hl (by omega)]
      have : W.ones h l (h.length + i) = W.cnt h + W.cnt (l.take i) := by
        unfold W.ones
        by_cases h0 : i = 0
        · subst h0; simp [W.cnt]
        · rw [if_neg (by omega), show h.length + i - h.length = i by omega, Nat.div_eq_of_lt e2, Nat.mod_eq_of_lt e2]; omega
      rw [this, e4]
      have : W.cnt l * q = q * W.cnt l := Nat.mul_comm _ _
      omega
    · have hqk : q ≤ k := by rw [← hq]; exact Nat.le_trans (Nat.div_le_self _ _) (by omega)
      have : q * l.length ≤ k * l.length := Nat.mul_le_mul_right _ hqk
      have e : (k + 1) * l.length = k * l.length + l.length := by rw [Nat.add_mul]; omega
      omega

theorem nthN_unique (h l : List Bool) (hl : 0 < l.length) {n m : Nat} (e : W.ones h l n = W.ones h l m) (hn : W.letter h l n = true) (hm : W.letter h l m = true) : n = m := by
  rcases Nat.lt_trichotomy n m with h1 | h1 | h1
  · have := ones_mono h l hl (show n + 1 ≤ m by omega)
    rw [W.ones_succ _ _ _ hl, hn] at this; simp at this; omega
  · exact h1
  · have := ones_mono h l hl (show m + 1 ≤ n by omega)
    rw [W.ones_succ _ _ _ hl, hm] at this; simp at this; omega
end Go.Proofs.Ytglfocldoaigiaa
