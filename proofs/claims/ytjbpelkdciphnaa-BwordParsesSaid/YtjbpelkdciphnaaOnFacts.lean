/-
  Plain: sampling a word by another: the letters, the periods, the ones, the rate; conjunction and shifting.
-/
import Derived.Test.YtjbpelkdciphnaaNf
set_option linter.unusedVariables false
namespace Go.Proofs.Ytjbpelkdciphnaa.W

/-- the letters of a sampled by b -/
def onF (h l h' l' : List Bool) (i : Nat) : Bool := letter h l i && letter h' l' (ones h l i)
def andF (h l h' l' : List Bool) (i : Nat) : Bool := letter h l i && letter h' l' i
def shiftF (h l : List Bool) (n i : Nat) : Bool := decide (n ≤ i) && letter h l (i - n)

section
variable {h l h' l' : List Bool}
theorem letter_mul (i m : Nat) (hi : h.length ≤ i) : letter h l (i + m * l.length) = letter h l i := letter_add h l i m hi
theorem letter_false_of_none (hl : 0 < l.length) (h0 : cnt l = 0) {i : Nat} (hi : h.length ≤ i) : letter h l i = false := by
  unfold letter
  rw [if_neg (by omega)]
  have hm : (i - h.length) % l.length < l.length := Nat.mod_lt _ hl
  have := cnt_take_succ l _ hm
  have a := cnt_take_le l ((i - h.length) % l.length + 1)
  rw [h0] at a
  rw [List.getD_eq_getElem?_getD, List.getElem?_eq_getElem hm]
  cases e : l[(i - h.length) % l.length] with
  | false => rfl
  | true => rw [e] at this; simp at this; omega
/-- periods of the sampled word -/
theorem onF_per_none (hl : 0 < l.length) (h0 : cnt l = 0) (m : Nat) : Per (onF h l h' l') h.length (m * l.length) := by
  intro i hi
  unfold onF
  rw [letter_false_of_none hl h0 hi, letter_false_of_none hl h0 (by omega)]; rfl
theorem onF_per (hl : 0 < l.length) {N m : Nat} (hN : h.length ≤ N) (hn : h'.length ≤ ones h l N) (hm : ∃ q, m * cnt l = q * l'.length) : Per (onF h l h' l') N (m * l.length) := by
  intro i hi
  obtain ⟨q, hq⟩ := hm
  unfold onF
  rw [letter_add _ _ _ _ (by omega), ones_add_loop _ _ _ _ hl (by omega), hq]
  have mono : ones h l N ≤ ones h l i := by
    obtain ⟨j, rfl⟩ := Nat.exists_eq_add_of_le hi
    clear hi
    induction j with
    | zero => exact Nat.le_refl _
    | succ j ih => rw [← Nat.add_assoc, ones_succ _ _ _ hl]; omega
  rw [letter_add _ _ _ _ (by omega)]
/-- the ones of the sampled word -/
def onesF (f : Nat → Bool) : Nat → Nat
  | 0 => 0
  | n + 1 => onesF f n + (f n).toNat
theorem onesF_letter (hl : 0 < l.length) (n : Nat) : onesF (letter h l) n = ones h l n := by
  induction n with
  | zero => rw [ones_zero]; rfl
  | succ n ih => rw [ones_succ _ _ _ hl, onesF, ih]
theorem onesF_congr {f g : Nat → Bool} (e : ∀ i, f i = g i) (n : Nat) : onesF f n = onesF g n := by rw [show f = g from funext e]
theorem ones_onF (hl : 0 < l.length) (hl' : 0 < l'.length) (n : Nat) : onesF (onF h l h' l') n = ones h' l' (ones h l n) := by
  induction n with
  | zero => rw [ones_zero, ones_zero]; rfl
  | succ n ih =>
    rw [onesF, ih, ones_succ _ _ _ hl]
    unfold onF
    cases letter h l n
    · simp
    · rw [show (true : Bool).toNat = 1 from rfl, ones_succ _ _ _ hl']; simp
theorem andF_per {N m : Nat} (hN : h.length ≤ N) (hN' : h'.length ≤ N) (h1 : ∃ q, m = q * l.length) (h2 : ∃ q, m = q * l'.length) : Per (andF h l h' l') N m := by
  intro i hi
  obtain ⟨q, hq⟩ := h1
  obtain ⟨q', hq'⟩ := h2
  unfold andF
  have a := letter_add h l i q (by omega)
  have b := letter_add h' l' i q' (by omega)
  rw [← hq] at a
  rw [← hq'] at b
  rw [a, b]
theorem shiftF_per (n : Nat) : Per (shiftF h l n) (n + h.length) l.length := by
  intro i hi
  unfold shiftF
  have a := letter_add h l (i - n) 1 (by omega)
  rw [Nat.one_mul] at a
  rw [show i + l.length - n = i - n + l.length by omega, a]
  simp [show n ≤ i by omega, show n ≤ i + l.length by omega]

/-- the rate of the sampled word: any way to write it -/
theorem on_rate {H L : List Bool} (hl : 0 < l.length) (hl' : 0 < l'.length) (hL : 0 < L.length) (e : ∀ i, letter H L i = onF h l h' l' i) :
    cnt L * (l.length * l'.length) = L.length * (cnt l * cnt l') := by
  have key : ∀ n, ones H L n = ones h' l' (ones h l n) := fun n => by
    rw [← ones_onF hl hl', ← onesF_letter hL]; exact onesF_congr e n
  rcases Nat.eq_zero_or_pos (cnt l) with h0 | h0
  · -- no ones in the loop
    have hz : ∀ i, max H.length h.length ≤ i → letter H L i = false := fun i hi => by
      rw [e]; unfold onF; rw [letter_false_of_none hl h0 (by omega)]; rfl
    have a := ones_add_loop H L (max H.length h.length) 1 hL (Nat.le_max_left _ _)
    have b : ∀ j, ones H L (max H.length h.length + j) = ones H L (max H.length h.length) := by
      intro j
      induction j with
      | zero => rfl
      | succ j ih => rw [← Nat.add_assoc, ones_succ _ _ _ hL, ih, hz _ (by omega)]; rfl
    rw [b] at a
    have : cnt L = 0 := by omega
    rw [this, h0]; simp
  · obtain ⟨N, hN⟩ : ∃ N, N = max H.length (h.length + h'.length * l.length) := ⟨_, rfl⟩
    have hn : h'.length ≤ ones h l N := by
      have a := ones_add_loop h l h.length h'.length hl (Nat.le_refl _)
      have b : h'.length ≤ h'.length * cnt l := Nat.le_mul_of_pos_right _ h0
      have mono : ones h l (h.length + h'.length * l.length) ≤ ones h l N := by
        obtain ⟨j, hj⟩ := Nat.exists_eq_add_of_le (show h.length + h'.length * l.length ≤ N by omega)
        rw [hj]
        clear hj
        induction j with
        | zero => exact Nat.le_refl _
        | succ j ih => rw [← Nat.add_assoc, ones_succ _ _ _ hl]; omega
      omega
    have a := ones_add_loop H L N (l.length * l'.length) hL (by omega)
    have b := ones_add_loop h l N (L.length * l'.length) hl (by omega)
    have c := ones_add_loop h' l' (ones h l N) (L.length * cnt l) hl' hn
    rw [key, key] at a
    rw [show l.length * l'.length * L.length = L.length * l'.length * l.length by rw [Nat.mul_comm (l.length * l'.length), Nat.mul_comm l.length, ← Nat.mul_assoc], b] at a
    rw [show L.length * l'.length * cnt l = L.length * cnt l * l'.length by rw [Nat.mul_right_comm], c] at a
    rw [Nat.mul_comm (cnt L), ← Nat.mul_assoc L.length]
    omega
end
end Go.Proofs.Ytjbpelkdciphnaa.W
