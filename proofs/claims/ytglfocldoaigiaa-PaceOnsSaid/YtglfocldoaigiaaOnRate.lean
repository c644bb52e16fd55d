/-
  Plain: rates multiply when a word is sampled.
-/
import Derived.Test.YtglfocldoaigiaaOn
import Derived.Test.YtglfocldoaigiaaPace1
set_option linter.unusedVariables false
namespace Go.Proofs.Ytglfocldoaigiaa
theorem rateN_mul (l : List Bool) : (rateN l).1 * Nat.gcd l.length (W.cnt l) = W.cnt l ∧ (rateN l).2 * Nat.gcd l.length (W.cnt l) = l.length :=
  ⟨Nat.div_mul_cancel (Nat.gcd_dvd_right _ _), Nat.div_mul_cancel (Nat.gcd_dvd_left _ _)⟩
theorem rateN_bd {h l : List Bool} (hv : Valid h l) : (rateN l).1 ≤ 64 ∧ (rateN l).2 ≤ 64 := by
  have h1 := hv.2
  have h2 := W.cnt_le l
  exact ⟨Nat.le_trans (Nat.div_le_self _ _) (by omega), Nat.le_trans (Nat.div_le_self _ _) (by omega)⟩
theorem onW_cases (h l h' l' : List Bool) : (∃ H L, onW h l h' l' = ((H, L), 0) ∧ Valid h l ∧ Valid h' l' ∧ Valid H L ∧ ∀ i, W.letter H L i = W.onF h l h' l' i) ∨ ∃ e, onW h l h' l' = (([], []), e) ∧ (e = 5 ∨ e = 3) := by
  rcases both_cases h l h' l' with ⟨hv, hv'⟩ | ⟨hbad, h5⟩
  · obtain ⟨N, n, hn, hp⟩ : ∃ N n, 0 < n ∧ W.Per (W.onF h l h' l') N n := by
      rcases Nat.eq_zero_or_pos (W.cnt l) with h0 | h0
      · exact ⟨h.length, 1 * l.length, by have := hv.1; omega, W.onF_per_none hv.1 h0 1⟩
      · refine ⟨h.length + h'.length * l.length, l'.length * l.length, Nat.mul_pos hv'.1 hv.1, W.onF_per hv.1 (by omega) ?_ ⟨W.cnt l, Nat.mul_comm _ _⟩⟩
        have a := W.ones_add_loop h l h.length h'.length hv.1 (Nat.le_refl _)
        have : h'.length ≤ h'.length * W.cnt l := Nat.le_mul_of_pos_right _ h0
        omega
    rw [onW_ok hv hv']
    by_cases hf : Fits (W.onF h l h' l')
    · exact .inl ⟨_, _, fitW_yes hf, hv, hv', ⟨(W.nf_nf hn hp).pos, hf⟩, fun i => W.nf_letter hn hp i⟩
    · exact .inr ⟨3, fitW_no hf, .inr rfl⟩
  · exact .inr ⟨_, onW_bad hbad, h5⟩
theorem on_rates {h l h' l' H L : List Bool} (hv : Valid h l) (hv' : Valid h' l') (hV : Valid H L) (e : ∀ i, W.letter H L i = W.onF h l h' l' i) :
    (rateN L).1 * (rateN l).2 * (rateN l').2 = (rateN L).2 * (rateN l).1 * (rateN l').1 := by
  have key := W.on_rate hv.1 hv'.1 hV.1 e
  obtain ⟨a1, a2⟩ := rateN_mul L
  obtain ⟨b1, b2⟩ := rateN_mul l
  obtain ⟨c1, c2⟩ := rateN_mul l'
  have g1 : 0 < Nat.gcd L.length (W.cnt L) := Nat.gcd_pos_of_pos_left _ hV.1
  have g2 : 0 < Nat.gcd l.length (W.cnt l) := Nat.gcd_pos_of_pos_left _ hv.1
  have g3 : 0 < Nat.gcd l'.length (W.cnt l') := Nat.gcd_pos_of_pos_left _ hv'.1
  generalize hA : Nat.gcd L.length (W.cnt L) = p at *
  generalize hB : Nat.gcd l.length (W.cnt l) = q at *
  generalize hC : Nat.gcd l'.length (W.cnt l') = r at *
  generalize (rateN L).1 = n at *
  generalize (rateN L).2 = d at *
  generalize (rateN l).1 = x at *
  generalize (rateN l).2 = y at *
  generalize (rateN l').1 = u at *
  generalize (rateN l').2 = v at *
  refine Nat.eq_of_mul_eq_mul_right (Nat.mul_pos (Nat.mul_pos g1 g2) g3) ?_
  have e1 : n * y * v * (p * q * r) = n * p * (y * q * (v * r)) := by ac_rfl
  have e2 : d * x * u * (p * q * r) = d * p * (x * q * (u * r)) := by ac_rfl
  rw [e1, e2, a1, b2, c2, a2, b1, c1]
  exact key
end Go.Proofs.Ytglfocldoaigiaa
