/-
  Plain: rates multiply when a word is sampled.
-/
import Derived.Test.YtglfocldoaigiaaOn
import Derived.Test.YtglfocldoaigiaaPace1
set_option linter.unusedVariables false
namespace Go.Proofs.Ytglfocldoaigiaa
theorem rateN_mul (l : List Bool) : (rateN l).1 * Nat.gcd l.length (W.cnt l) = W.cnt l ∧ (rateN l).2 * Nat.gcd l.length (W.cnt l) = l.length :=
  ⟨Nat.div_mul_cancel (Nat.gcd_dvd_right _ _), Nat.div_mul_cancel (Nat.gcd_dvd_left _ _)⟩
theorem rateN_bd {h l : List Bool} (hv : Valid h l) : (rateN l).1 ≤ 64 ∧ (rateN l).2 ≤ 64 := by
  have h1 := hv.2
  have h2 := W.cnt_le l
  exact ⟨Nat.le_trans (Nat.div_le_self _ _) (by omega), Nat.le_trans (Nat.div_le_self _ _) (by omega)⟩
theorem on_rates {h l h' l' H L : List Bool} (hv : Valid h l) (hv' : Valid h' l') (hV : Valid H L) (e : ∀ i, W.letter H L i = W.onF h l h' l' i) :
    (rateN L).1 * (rateN l).2 * (rateN l').2 = (rateN L).2 * (rateN l).1 * (rateN l').1 := by
  have key := W.on_rate hv.1 hv'.1 hV.1 e
  obtain ⟨a1, a2⟩ := rateN_mul L
  obtain ⟨b1, b2⟩ := rateN_mul l
  obtain ⟨c1, c2⟩ := rateN_mul l'
  have g1 : 0 < Nat.gcd L.length (W.cnt L) := Nat.gcd_pos_of_pos_left _ hV.1
  have g2 : 0 < Nat.gcd l.length (W.cnt l) := Nat.gcd_pos_of_pos_left _ hv.1
  have g3 : 0 < Nat.gcd l'.length (W.cnt l') := Nat.gcd_pos_of_pos_left _ hv'.1
  generalize hA : Nat.gcd L.length (W.cnt L) = p at *
  generalize hB : Nat.gcd l.length (W.cnt l) = q at *
  generalize hC : Nat.gcd l'.length (W.cnt l') = r at *
  generalize (rateN L).1 = n at *
  generalize (rateN L).2 = d at *
  generalize (rateN l).1 = x at *
  generalize (rateN l).2 = y at *
  generalize (rateN l').1 = u at *
  generalize (rateN l').2 = v at *
  refine Nat.eq_of_mul_eq_mul_right (Nat.mul_pos (Nat.mul_pos g1 g2) g3) ?_
  have e1 : n * y * v * (p * q * r) = n * p * (y * q * (v * r)) := by ac_rfl
  have e2 : d * x * u * (p * q * r) = d * p * (x * q * (u * r)) := by ac_rfl
  rw [e1, e2, a1, b2, c2, a2, b1, c1]
  exact key
end Go.Proofs.Ytglfocldoaigiaa
