/-
  Plain facts on shiftW: what it answers, letter by letter; shifting twice is shifting once by the sum.
-/
import Derived.Test.YtjbpelkdciphnaaRShift
import Derived.Test.YtjbpelkdciphnaaRAnd
set_option linter.unusedVariables false
set_option linter.unusedSimpArgs false
namespace Go.Proofs.Ytjbpelkdciphnaa
open Go.RowKit Go.BigFrame

theorem letter_one (i : Nat) : W.letter [] [false] i = false := by unfold W.letter; simp [Nat.mod_one]
theorem cnt_of_false {h l : List Bool} (hl : 0 < l.length) (e : ∀ i, W.letter h l i = false) : W.cnt h + W.cnt l = 0 := by
  have z : ∀ n, W.ones h l n = 0 := by
    intro n
    induction n with
    | zero => exact W.ones_zero h l
    | succ n ih => rw [W.ones_succ h l n hl, ih, e]; rfl
  have a := W.ones_add_loop h l h.length 1 hl (Nat.le_refl _)
  rw [z, W.ones_head] at a
  omega
theorem letter_of_zero {h l : List Bool} (hl : 0 < l.length) (hc : W.cnt h + W.cnt l = 0) (i : Nat) : W.letter h l i = false := by
  have := W.nf_letter hl (W.letter_per h l) i
  rw [nf_zero hl hc] at this
  rw [← this]; exact letter_one i
theorem shiftF_lt {h l : List Bool} {k i : Nat} (hi : i < k) : W.shiftF h l k i = false := by unfold W.shiftF; simp; omega
theorem shiftF_ge {h l : List Bool} {k i : Nat} (hi : k ≤ i) : W.shiftF h l k i = W.letter h l (i - k) := by unfold W.shiftF; simp [hi]
theorem one_valid : Valid [] [false] := ⟨by decide, by decide⟩

theorem shift_shape (h l : List Bool) (n : Int) : (∃ H L, shiftW h l n = ((H, L), 0) ∧ Valid h l ∧ Valid H L ∧ 0 ≤ n ∧ ∀ i, W.letter H L i = W.shiftF h l n.toNat i) ∨ ∃ H L e, shiftW h l n = ((H, L), e) ∧ (e == 0) = false ∧ (e != 0) = true := by
  by_cases hv : Valid h l
  · by_cases hn : n < 0
    · exact .inr ⟨[], [], 2, shiftW_neg hv hn, by decide, by decide⟩
    · by_cases hc : W.cnt h + W.cnt l = 0
      · refine .inl ⟨[], [false], by rw [shiftW_zero hv hn hc, nf_zero hv.1 hc], hv, one_valid, by omega, fun i => ?_⟩
        rw [letter_one]
        by_cases hi : i < n.toNat
        · rw [shiftF_lt hi]
        · rw [shiftF_ge (by omega), letter_of_zero hv.1 hc]
      · by_cases hf : 128 < n
        · exact .inr ⟨[], [], 3, shiftW_far hv hn hc hf, by decide, by decide⟩
        · rw [shiftW_ok hv hn hc hf]
          by_cases hF : Fits (W.shiftF h l n.toNat)
          · exact .inl ⟨_, _, fitW_yes hF, hv, ⟨(W.nf_nf hv.1 (W.shiftF_per _)).pos, hF⟩, by omega, fun i => W.nf_letter hv.1 (W.shiftF_per _) i⟩
          · exact .inr ⟨[], [], 3, fitW_no hF, by decide, by decide⟩
  · rw [shiftW_bad hv]
    rcases check_cases h l with hv' | ⟨_, h5⟩
    · exact absurd hv' hv
    · exact .inr ⟨[], [], _, rfl, by rcases h5 with h5 | h5 <;> rw [h5] <;> decide, by rcases h5 with h5 | h5 <;> rw [h5] <;> decide⟩

theorem not_fits {h l : List Bool} (hl : 0 < l.length) (hc : ¬ W.cnt h + W.cnt l = 0) {k : Nat} (hk : 128 < k) : ¬ Fits (W.shiftF h l k) := by
  intro hF
  unfold Fits at hF
  have hp := W.shiftF_per (h := h) (l := l) k
  have hpos := (W.nf_nf hl hp).pos
  have e := W.nf_letter hl hp
  have z : ∀ i, W.letter (W.nf (W.shiftF h l k)).1 (W.nf (W.shiftF h l k)).2 i = false := by
    generalize (W.nf (W.shiftF h l k)).1 = P at *
    generalize (W.nf (W.shiftF h l k)).2 = Q at *
    have low : ∀ i, i < k → W.letter P Q i = false := fun i hi => by rw [e, shiftF_lt hi]
    intro i
    by_cases hi : i < P.length
    · exact low i (by omega)
    · have a := W.letter_add P Q (P.length + (i - P.length) % Q.length) ((i - P.length) / Q.length) (by omega)
      have m := Nat.mod_lt (i - P.length) hpos
      have dm := Nat.mod_add_div (i - P.length) Q.length
      rw [Nat.mul_comm] at dm
      rw [show P.length + (i - P.length) % Q.length + (i - P.length) / Q.length * Q.length = i by omega] at a
      rw [a]; exact low _ (by omega)
  exact hc (cnt_of_false hl fun i => by
    have := e (k + i)
    rw [z, shiftF_ge (by omega), show k + i - k = i by omega] at this
    exact this.symm)

theorem shift_shift {h l H L : List Bool} {n m : Int} (e : shiftW h l n = ((H, L), 0)) (hv : Valid h l) (hV : Valid H L) (n0 : 0 ≤ n) (n1 : n ≤ 100) (m0 : 0 ≤ m) (m1 : m ≤ 100)
    (he : ∀ i, W.letter H L i = W.shiftF h l n.toNat i) : shiftW H L m = shiftW h l (n + m) := by
  by_cases hc : W.cnt h + W.cnt l = 0
  · have hC : W.cnt H + W.cnt L = 0 := cnt_of_false hV.1 fun i => by
      rw [he]
      by_cases hi : i < n.toNat
      · rw [shiftF_lt hi]
      · rw [shiftF_ge (by omega), letter_of_zero hv.1 hc]
    rw [shiftW_zero hV (by omega) hC, shiftW_zero hv (by omega) hc, nf_zero hV.1 hC, nf_zero hv.1 hc]
  · have hC : ¬ W.cnt H + W.cnt L = 0 := fun hC => hc (cnt_of_false hv.1 fun i => by
      have := he (n.toNat + i)
      rw [letter_of_zero hV.1 hC, shiftF_ge (by omega), show n.toNat + i - n.toNat = i by omega] at this
      exact this.symm)
    have hs : W.shiftF H L m.toNat = W.shiftF h l (n + m).toNat := by
      funext i
      by_cases hi : i < m.toNat
      · rw [shiftF_lt hi, shiftF_lt (by omega)]
      · rw [shiftF_ge (by omega), he]
        by_cases h2 : i - m.toNat < n.toNat
        · rw [shiftF_lt h2, shiftF_lt (by omega)]
        · rw [shiftF_ge (by omega), shiftF_ge (by omega), show i - m.toNat - n.toNat = i - (n + m).toNat by omega]
    rw [shiftW_ok hV (by omega) hC (by omega), hs]
    by_cases hf : 128 < n + m
    · rw [shiftW_far hv (by omega) hc hf, fitW_no (not_fits hv.1 hc (by omega))]
    · rw [shiftW_ok hv (by omega) hc hf]

theorem at_shift {h l H L : List Bool} {n : Int} (hv : Valid h l) (hV : Valid H L) (n0 : 0 ≤ n) (he : ∀ i, W.letter H L i = W.shiftF h l n.toNat i) (j : Nat) : atB H L (j : Nat) = atB h l ((j : Nat) - n) := by
  rw [atB_ok hV (by omega), letterB_nat, he]
  by_cases hj : j < n.toNat
  · rw [shiftF_lt hj]
    unfold atB
    simp; omega
  · rw [shiftF_ge (by omega), atB_ok hv (by omega), show ((j : Nat) - n : Int) = ((j - n.toNat : Nat) : Int) by omega, letterB_nat]
end Go.Proofs.Ytjbpelkdciphnaa
