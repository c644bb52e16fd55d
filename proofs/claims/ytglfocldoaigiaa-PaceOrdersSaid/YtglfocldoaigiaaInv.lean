/-
  Plain: rate, ones, gaps and order of words depend on the letters alone; what sampling does to the rate.
-/
import Derived.Test.YtglfocldoaigiaaSpanFacts
import Derived.Test.YtglfocldoaigiaaRf4
import Derived.Test.YtglfocldoaigiaaNorm
import Derived.Test.YtglfocldoaigiaaOnFacts
set_option linter.unusedVariables false
namespace Go.Proofs.Ytglfocldoaigiaa

section
variable {h l h' l' : List Bool}
/-- two ways to write the same letters: the ones of one loop, scaled -/
theorem cnt_scale (hl : 0 < l.length) (hl' : 0 < l'.length) (e : ∀ i, W.letter h l i = W.letter h' l' i) : l'.length * W.cnt l = l.length * W.cnt l' := by
  have a := W.ones_add_loop h l (max h.length h'.length) l'.length hl (Nat.le_max_left _ _)
  have b := W.ones_add_loop h' l' (max h.length h'.length) l.length hl' (Nat.le_max_right _ _)
  rw [Nat.mul_comm l.length l'.length] at b
  rw [W.ones_congr hl hl' e, W.ones_congr hl hl' e] at a
  omega
theorem lowest {p n p' n' : Nat} (hn : 0 < n) (hn' : 0 < n') (e : n' * p = n * p') : p / Nat.gcd n p = p' / Nat.gcd n' p' ∧ n / Nat.gcd n p = n' / Nat.gcd n' p' := by
  have g0 : 0 < Nat.gcd n p := Nat.gcd_pos_of_pos_left _ hn
  have g0' : 0 < Nat.gcd n' p' := Nat.gcd_pos_of_pos_left _ hn'
  have key : n * Nat.gcd n' p' = n' * Nat.gcd n p := by
    rw [← Nat.gcd_mul_left, ← Nat.gcd_mul_left, ← e, Nat.mul_comm n n']
  have key2 : p * Nat.gcd n' p' = p' * Nat.gcd n p := by
    refine Nat.eq_of_mul_eq_mul_left hn' ?_
    rw [← Nat.mul_assoc, e, Nat.mul_assoc, Nat.mul_comm p', ← Nat.mul_assoc, key, Nat.mul_assoc, Nat.mul_comm (Nat.gcd n p)]
  have hd := Nat.gcd_dvd_left n p
  have hd2 := Nat.gcd_dvd_right n p
  have hd' := Nat.gcd_dvd_left n' p'
  have hd2' := Nat.gcd_dvd_right n' p'
  generalize Nat.gcd n p = g at *
  generalize Nat.gcd n' p' = g' at *
  obtain ⟨a, rfl⟩ := hd
  obtain ⟨b, rfl⟩ := hd2
  obtain ⟨c, rfl⟩ := hd'
  obtain ⟨d, rfl⟩ := hd2'
  rw [Nat.mul_div_cancel_left _ g0, Nat.mul_div_cancel_left _ g0, Nat.mul_div_cancel_left _ g0', Nat.mul_div_cancel_left _ g0']
  constructor
  · refine Nat.eq_of_mul_eq_mul_left (Nat.mul_pos g0 g0') ?_
    rw [show g * g' * b = g * b * g' by rw [Nat.mul_right_comm], key2, Nat.mul_right_comm, Nat.mul_comm g' g]
  · refine Nat.eq_of_mul_eq_mul_left (Nat.mul_pos g0 g0') ?_
    rw [show g * g' * a = g * a * g' by rw [Nat.mul_right_comm], key, Nat.mul_right_comm, Nat.mul_comm g' g]
theorem rate_inv (hv : Valid h l) (hv' : Valid h' l') (e : ∀ i, W.letter h l i = W.letter h' l' i) : rateV h l = rateV h' l' := by
  rw [rateV_ok hv, rateV_ok hv']
  obtain ⟨a, b⟩ := lowest hv.1 hv'.1 (cnt_scale hv.1 hv'.1 e)
  unfold rateN
  rw [a, b]

theorem cnt_le_of_none (hl : 0 < l.length) (h0 : W.cnt l = 0) (n : Nat) : W.ones h l n ≤ W.cnt h := by
  unfold W.ones
  split
  · exact W.cnt_take_le _ _
  · have := W.cnt_take_le l ((n - h.length) % l.length)
    rw [h0]; omega
theorem nth_ok_inv (hl : 0 < l.length) (hl' : 0 < l'.length) (e : ∀ i, W.letter h l i = W.letter h' l' i) {k : Nat} (hk : k < W.cnt h ∨ 0 < W.cnt l) : k < W.cnt h' ∨ 0 < W.cnt l' := by
  rcases Nat.eq_zero_or_pos (W.cnt l') with h0 | h0
  · refine .inl ?_
    obtain ⟨n, _, h2, h3, _⟩ := nthN_spec h l k hl hk
    have h4 := W.ones_succ h l n hl
    rw [h2] at h4
    have h5 := cnt_le_of_none (h := h') hl' h0 (n + 1)
    rw [← W.ones_congr hl hl' e] at h5
    simp at h4
    omega
  · exact .inr h0
theorem nthN_inv (hl : 0 < l.length) (hl' : 0 < l'.length) (e : ∀ i, W.letter h l i = W.letter h' l' i) {k : Nat} (hk : k < W.cnt h ∨ 0 < W.cnt l) : nthN h l k = nthN h' l' k := by
  obtain ⟨n, h1, h2, h3, _⟩ := nthN_spec h l k hl hk
  obtain ⟨m, k1, k2, k3, _⟩ := nthN_spec h' l' k hl' (nth_ok_inv hl hl' e hk)
  rw [h1, k1]
  have : n = m := nthN_unique h l hl (by rw [h3, W.ones_congr hl hl' e, k3]) h2 (by rw [e]; exact k2)
  rw [this]
theorem nth_inv (hv : Valid h l) (hv' : Valid h' l') (e : ∀ i, W.letter h l i = W.letter h' l' i) (k : Int) : nthV h l k = nthV h' l' k := by
  unfold nthV
  rw [check_of_valid hv, check_of_valid hv']
  by_cases hk : 0 ≤ k ∧ k ≤ 2147483647
  · obtain ⟨j, rfl⟩ := Int.eq_ofNat_of_zero_le hk.1
    rw [Int.toNat_natCast]
    by_cases hc : j < W.cnt h ∨ 0 < W.cnt l
    · have hc' := nth_ok_inv hv.1 hv'.1 e hc
      rw [if_pos ⟨rfl, hk.1, hk.2, by omega⟩, if_pos ⟨rfl, hk.1, hk.2, by omega⟩, nthN_inv hv.1 hv'.1 e hc]
    · have hc' : ¬ (j < W.cnt h' ∨ 0 < W.cnt l') := fun h1 => hc (nth_ok_inv hv'.1 hv.1 (fun i => (e i).symm) h1)
      rw [if_neg (by omega), if_neg (by omega)]
  · rw [if_neg (by omega), if_neg (by omega)]

/-! ### order: by the counts -/
theorem dN_ones (hv : Valid h l) (hv' : Valid h' l') (n : Nat) : dN h l h' l' n = (W.ones h l n : Nat) - (W.ones h' l' n : Nat) := by
  unfold dN diffI; rw [onesI_ok hv, onesI_ok hv']
theorem dN_iter (hv : Valid h l) (hv' : Valid h' l') (i m : Nat) (hi : (spanN h l h' l').1 ≤ i) :
    dN h l h' l' (i + m * (spanN h l h' l').2) = dN h l h' l' i + m * (dN h l h' l' ((spanN h l h' l').1 + (spanN h l h' l').2) - dN h l h' l' (spanN h l h' l').1) := by
  induction m with
  | zero => simp
  | succ m ih =>
    have := dN_add hv hv' (i + m * (spanN h l h' l').2) (by omega)
    rw [Nat.succ_mul, ← Nat.add_assoc]
    generalize dN h l h' l' ((spanN h l h' l').1 + (spanN h l h' l').2) - dN h l h' l' (spanN h l h' l').1 = D at *
    have e1 : ((m + 1 : Nat) : Int) * D = (m : Int) * D + D := by push_cast; rw [Int.add_mul]; omega
    rw [e1]; omega
/-- is there a greatest difference? exactly if the differences are bounded -/
theorem gap_iff (hv : Valid h l) (hv' : Valid h' l') : (gapV h l h' l').2 = true ↔ ∃ B : Int, ∀ n, dN h l h' l' n ≤ B := by
  constructor
  · intro e
    exact ⟨(gapV h l h' l').1, fun n => gap_bound (g := (gapV h l h' l').1) (Prod.ext rfl e) n⟩
  · rintro ⟨B, hB⟩
    have hc : dN h l h' l' ((spanN h l h' l').1 + (spanN h l h' l').2) ≤ dN h l h' l' (spanN h l h' l').1 := by
      rcases Int.lt_or_le (dN h l h' l' (spanN h l h' l').1) (dN h l h' l' ((spanN h l h' l').1 + (spanN h l h' l').2)) with h1 | h1
      · exfalso
        obtain ⟨D, hD⟩ : ∃ D, dN h l h' l' ((spanN h l h' l').1 + (spanN h l h' l').2) - dN h l h' l' (spanN h l h' l').1 = D := ⟨_, rfl⟩
        have h2 := dN_iter hv hv' (spanN h l h' l').1 ((B - dN h l h' l' (spanN h l h' l').1).toNat + 1) (Nat.le_refl _)
        have h3 := hB ((spanN h l h' l').1 + ((B - dN h l h' l' (spanN h l h' l').1).toNat + 1) * (spanN h l h' l').2)
        rw [h2, hD] at h3
        have h4 : (((B - dN h l h' l' (spanN h l h' l').1).toNat + 1 : Nat) : Int) * 1 ≤ (((B - dN h l h' l' (spanN h l h' l').1).toNat + 1 : Nat) : Int) * D := Int.mul_le_mul_of_nonneg_left (by omega) (by omega)
        omega
      · exact h1
    rw [gapV_yes hv hv' (by unfold dN at hc; push_cast at hc; exact hc)]
theorem gap_congr {a b a' b' : List Bool} {c d c' d' : List Bool} (e1 : Valid a b) (e2 : Valid c d) (e3 : Valid a' b') (e4 : Valid c' d') (e : ∀ n, dN a b c d n = dN a' b' c' d' n) : gapV a b c d = gapV a' b' c' d' := by
  cases hb : (gapV a b c d).2 with
  | true =>
    have hb2 : (gapV a' b' c' d').2 = true := (gap_iff e3 e4).2 (by obtain ⟨B, hB⟩ := (gap_iff e1 e2).1 hb; exact ⟨B, fun n => by rw [← e]; exact hB n⟩)
    obtain ⟨n, _, h1⟩ := gap_reached (g := (gapV a b c d).1) (Prod.ext rfl hb)
    obtain ⟨m, _, h2⟩ := gap_reached (g := (gapV a' b' c' d').1) (Prod.ext rfl hb2)
    have h3 := gap_bound (g := (gapV a' b' c' d').1) (Prod.ext rfl hb2) n
    have h4 := gap_bound (g := (gapV a b c d).1) (Prod.ext rfl hb) m
    rw [e] at h1 h4
    exact Prod.ext (by omega) (hb.trans hb2.symm)
  | false =>
    have hb2 : (gapV a' b' c' d').2 = false := by
      cases hx : (gapV a' b' c' d').2 with
      | false => rfl
      | true =>
        have := (gap_iff e1 e2).2 (by obtain ⟨B, hB⟩ := (gap_iff e3 e4).1 hx; exact ⟨B, fun n => by rw [e]; exact hB n⟩)
        rw [hb] at this; cases this
    have z : ∀ {p q r s : List Bool}, (gapV p q r s).2 = false → gapV p q r s = (0, false) := by
      intro p q r s
      unfold gapV
      split
      · intro h; cases h
      · intro _; rfl
    rw [z hb, z hb2]
theorem gap_inv {a b : List Bool} (hv : Valid h l) (hv' : Valid h' l') (e : ∀ i, W.letter h l i = W.letter h' l' i) : gapV h l a b = gapV h' l' a b := by
  by_cases hw : Valid a b
  · refine gap_congr hv hw hv' hw fun n => ?_
    rw [dN_ones hv hw, dN_ones hv' hw, W.ones_congr hv.1 hv'.1 e]
  · rw [gapV_bad2 hw, gapV_bad2 hw]

theorem norm_valid (hv : Valid h l) : Valid (normW h l).1 (normW h l).2 ∧ ∀ i, W.letter h l i = W.letter (normW h l).1 (normW h l).2 i := by
  rw [normW_ok hv]
  have a := W.nf_le hv.1 (W.letter_per h l)
  have b := hv.2
  exact ⟨⟨a.2.2, by omega⟩, fun i => (W.nf_letter hv.1 (W.letter_per h l) i).symm⟩

/-! ### Before -/
theorem before_iff : beforeV h l h' l' = true ↔ Valid h l ∧ Valid h' l' ∧ ∀ n, W.ones h' l' n ≤ W.ones h l n := by
  unfold beforeV
  rw [Bool.and_eq_true, beq_iff_eq]
  constructor
  · rintro ⟨h1, h2⟩
    have he : gapV h' l' h l = (0, true) := Prod.ext h2 h1
    obtain ⟨v1, v2⟩ := gap_valid he
    refine ⟨v2, v1, fun n => ?_⟩
    have := gap_bound he n
    rw [dN_ones v1 v2] at this
    omega
  · rintro ⟨v2, v1, hn⟩
    have h1 : (gapV h' l' h l).2 = true := (gap_iff v1 v2).2 ⟨0, fun n => by rw [dN_ones v1 v2]; have := hn n; omega⟩
    refine ⟨h1, ?_⟩
    obtain ⟨n, _, h3⟩ := gap_reached (g := (gapV h' l' h l).1) (Prod.ext rfl h1)
    have h4 := gap_bound (g := (gapV h' l' h l).1) (Prod.ext rfl h1) 0
    rw [dN_zero] at h4
    rw [dN_ones v1 v2] at h3
    have := hn n
    omega
theorem letter_of_ones (hl : 0 < l.length) (hl' : 0 < l'.length) (e : ∀ n, W.ones h l n = W.ones h' l' n) (i : Nat) : W.letter h l i = W.letter h' l' i := by
  have a := W.ones_succ h l i hl
  have b := W.ones_succ h' l' i hl'
  rw [e, e] at a
  cases h1 : W.letter h l i <;> cases h2 : W.letter h' l' i <;> rw [h1] at a <;> rw [h2] at b <;> simp at a b <;> omega
theorem before_both : (beforeV h l h' l' && beforeV h' l' h l) = true ↔ Valid h l ∧ Valid h' l' ∧ W.nf (W.letter h l) = W.nf (W.letter h' l') := by
  rw [Bool.and_eq_true, before_iff, before_iff]
  constructor
  · rintro ⟨⟨v1, v2, a⟩, _, _, b⟩
    exact ⟨v1, v2, (W.nf_inj v1.1 (W.letter_per h l) v2.1 (W.letter_per h' l')).2 (letter_of_ones v1.1 v2.1 fun n => Nat.le_antisymm (b n) (a n))⟩
  · rintro ⟨v1, v2, e⟩
    have := fun n => W.ones_congr v1.1 v2.1 ((W.nf_inj v1.1 (W.letter_per h l) v2.1 (W.letter_per h' l')).1 e) n
    exact ⟨⟨v1, v2, fun n => Nat.le_of_eq (this n).symm⟩, v2, v1, fun n => Nat.le_of_eq (this n)⟩
end
end Go.Proofs.Ytglfocldoaigiaa
