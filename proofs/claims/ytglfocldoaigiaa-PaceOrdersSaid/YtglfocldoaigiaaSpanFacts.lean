/-
  Plain: the common loop of two words is a multiple of both loops; letters and counts repeat.
-/
import Derived.Test.YtglfocldoaigiaaGapV
namespace Go.Proofs.Ytglfocldoaigiaa
theorem span_mul2 (h l h' l' : List Bool) : ∃ m, (spanN h l h' l').2 = m * l'.length := ⟨_, rfl⟩
theorem span_mul1 (h l h' l' : List Bool) : ∃ m, (spanN h l h' l').2 = m * l.length := by
  refine ⟨l'.length / Nat.gcd l.length l'.length, ?_⟩
  show l.length / Nat.gcd l.length l'.length * l'.length = _
  rw [Nat.div_mul_right_comm (Nat.gcd_dvd_left _ _), Nat.mul_div_assoc _ (Nat.gcd_dvd_right _ _), Nat.mul_comm]
theorem span_head1 (h l h' l' : List Bool) : h.length ≤ (spanN h l h' l').1 := Nat.le_max_left _ _
theorem span_head2 (h l h' l' : List Bool) : h'.length ≤ (spanN h l h' l').1 := Nat.le_max_right _ _
theorem atB_span1 {h l h' l' : List Bool} (hv : Valid h l) (i : Nat) (hi : (spanN h l h' l').1 ≤ i) : atB h l ((i + (spanN h l h' l').2 : Nat) : Int) = atB h l (i : Nat) := by
  rw [atB_ok hv (by omega), atB_ok hv (by omega)]; unfold letterB; rw [Int.toNat_natCast, Int.toNat_natCast]
  obtain ⟨m, hm⟩ := span_mul1 h l h' l'
  rw [hm]; exact W.letter_add _ _ _ _ (Nat.le_trans (span_head1 h l h' l') hi)
theorem atB_span2 {h l h' l' : List Bool} (hv : Valid h' l') (i : Nat) (hi : (spanN h l h' l').1 ≤ i) : atB h' l' ((i + (spanN h l h' l').2 : Nat) : Int) = atB h' l' (i : Nat) := by
  rw [atB_ok hv (by omega), atB_ok hv (by omega)]; unfold letterB; rw [Int.toNat_natCast, Int.toNat_natCast]
  obtain ⟨m, hm⟩ := span_mul2 h l h' l'
  rw [hm]; exact W.letter_add _ _ _ _ (Nat.le_trans (span_head2 h l h' l') hi)

/-- the difference of counts over one more common loop changes by the same amount everywhere -/
theorem dN_add {h l h' l' : List Bool} (hv : Valid h l) (hv' : Valid h' l') (i : Nat) (hi : (spanN h l h' l').1 ≤ i) :
    dN h l h' l' (i + (spanN h l h' l').2) - dN h l h' l' i = dN h l h' l' ((spanN h l h' l').1 + (spanN h l h' l').2) - dN h l h' l' (spanN h l h' l').1 := by
  obtain ⟨a, ha⟩ := span_mul1 h l h' l'
  obtain ⟨b, hb⟩ := span_mul2 h l h' l'
  have key : ∀ j, (spanN h l h' l').1 ≤ j → dN h l h' l' (j + (spanN h l h' l').2) = dN h l h' l' j + ((a * W.cnt l : Nat) : Int) - ((b * W.cnt l' : Nat) : Int) := by
    intro j hj
    unfold dN diffI
    rw [onesI_ok hv, onesI_ok hv', onesI_ok hv, onesI_ok hv']
    have e1 := W.ones_add_loop h l j a hv.1 (Nat.le_trans (span_head1 h l h' l') hj)
    have e2 := W.ones_add_loop h' l' j b hv'.1 (Nat.le_trans (span_head2 h l h' l') hj)
    rw [← ha] at e1
    rw [← hb] at e2
    rw [e1, e2]
    omega
  rw [key i hi, key _ (Nat.le_refl _)]
  omega
theorem maxTo_ge (f : Nat → Int) (n : Nat) {i : Nat} (hi : i < n) : f i ≤ maxTo f n := by
  induction n with
  | zero => omega
  | succ n ih =>
    unfold maxTo
    by_cases h : i = n
    · subst h; omega
    · have := ih (by omega); omega
theorem maxTo_hit (f : Nat → Int) (h0 : f 0 = 0) (n : Nat) (hn : 0 < n) : ∃ i, i < n ∧ f i = maxTo f n := by
  have key : ∀ n, (∃ i, i < n ∧ f i = maxTo f n) ∨ maxTo f n = 0 := by
    intro n
    induction n with
    | zero => exact .inr rfl
    | succ n ih =>
      by_cases h : maxTo f n ≤ f n
      · exact .inl ⟨n, by omega, by unfold maxTo; omega⟩
      · rcases ih with ⟨i, hi, e⟩ | e
        · exact .inl ⟨i, by omega, by unfold maxTo; omega⟩
        · exact .inr (by unfold maxTo; omega)
  rcases key n with h | h
  · exact h
  · exact ⟨0, hn, by rw [h0, h]⟩
theorem dN_zero (h l h' l' : List Bool) : dN h l h' l' 0 = 0 := by
  unfold dN diffI; rw [onesI_low (by decide), onesI_low (by decide)]; rfl
/-- where there is a gap: no beginning exceeds it -/
theorem gap_bound {h l h' l' : List Bool} {g : Int} (e : gapV h l h' l' = (g, true)) (n : Nat) : dN h l h' l' n ≤ g := by
  unfold gapV at e
  split at e
  · rename_i hc
    obtain ⟨c1, c2, c3⟩ := hc
    have hv : Valid h l := Valid.of_checkI (by unfold checkI; omega)
    have hv' : Valid h' l' := Valid.of_checkI (by unfold checkI; omega)
    have hg : gapN h l h' l' = g := congrArg Prod.fst e
    have hb := spanN_bd hv hv'
    have c3' : dN h l h' l' ((spanN h l h' l').1 + (spanN h l h' l').2) ≤ dN h l h' l' (spanN h l h' l').1 := by unfold dN; push_cast; exact c3
    rw [← hg]
    unfold gapN
    induction n using Nat.strongRecOn with
    | _ n ih =>
      by_cases hn : n < (spanN h l h' l').1 + (spanN h l h' l').2 + 1
      · exact maxTo_ge _ _ hn
      · have := dN_add hv hv' (n - (spanN h l h' l').2) (by omega)
        rw [show n - (spanN h l h' l').2 + (spanN h l h' l').2 = n by omega] at this
        have := ih (n - (spanN h l h' l').2) (by omega)
        omega
  · simp at e
theorem gap_reached {h l h' l' : List Bool} {g : Int} (e : gapV h l h' l' = (g, true)) : ∃ n, n < (spanN h l h' l').1 + (spanN h l h' l').2 + 1 ∧ dN h l h' l' n = g := by
  unfold gapV at e
  split at e
  · have hg : gapN h l h' l' = g := congrArg Prod.fst e
    rw [← hg]
    exact maxTo_hit _ (dN_zero _ _ _ _) _ (by omega)
  · simp at e
theorem gap_valid {h l h' l' : List Bool} {g : Int} (e : gapV h l h' l' = (g, true)) : Valid h l ∧ Valid h' l' := by
  unfold gapV at e
  split at e
  · rename_i hc
    exact ⟨Valid.of_checkI (by unfold checkI; omega), Valid.of_checkI (by unfold checkI; omega)⟩
  · simp at e
end Go.Proofs.Ytglfocldoaigiaa
