/-
  Plain: the greatest difference of counts of two words.
-/
import Derived.Test.YtglfocldoaigiaaPace3
namespace Go.Proofs.Ytglfocldoaigiaa

def diffI (h l h' l' : List Bool) (n : Int) : Int := onesI h l n - onesI h' l' n
def maxTo (f : Nat → Int) : Nat → Int
  | 0 => 0
  | n + 1 => max (maxTo f n) (f n)
def dN (h l h' l' : List Bool) (n : Nat) : Int := diffI h l h' l' n
def gapN (h l h' l' : List Bool) : Int := maxTo (dN h l h' l') ((spanN h l h' l').1 + (spanN h l h' l').2 + 1)
def gapV (h l h' l' : List Bool) : Int × Bool :=
  if W.check h l = 0 ∧ W.check h' l' = 0 ∧ diffI h l h' l' (((spanN h l h' l').1 : Nat) + ((spanN h l h' l').2 : Nat)) ≤ diffI h l h' l' ((spanN h l h' l').1 : Nat) then (gapN h l h' l', true) else (0, false)
theorem gapV_bad1 {h l h' l' : List Bool} (hv : ¬ Valid h l) : gapV h l h' l' = (0, false) := by
  unfold gapV; rw [if_neg]; intro e; exact hv (Valid.of_checkI (by unfold checkI; omega))
theorem gapV_bad2 {h l h' l' : List Bool} (hv : ¬ Valid h' l') : gapV h l h' l' = (0, false) := by
  unfold gapV; rw [if_neg]; intro e; exact hv (Valid.of_checkI (by unfold checkI; omega))
theorem gapV_no {h l h' l' : List Bool} (e : diffI h l h' l' ((spanN h l h' l').1 : Nat) < diffI h l h' l' (((spanN h l h' l').1 : Nat) + ((spanN h l h' l').2 : Nat))) : gapV h l h' l' = (0, false) := by
  unfold gapV; rw [if_neg]; omega
theorem gapV_yes {h l h' l' : List Bool} (hv : Valid h l) (hv' : Valid h' l') (e : diffI h l h' l' (((spanN h l h' l').1 : Nat) + ((spanN h l h' l').2 : Nat)) ≤ diffI h l h' l' ((spanN h l h' l').1 : Nat)) :
    gapV h l h' l' = (gapN h l h' l', true) := by
  unfold gapV; rw [if_pos ⟨check_of_valid hv, check_of_valid hv', e⟩]
theorem onesI_bd (h l : List Bool) (n : Int) : 0 ≤ onesI h l n ∧ (0 ≤ n → onesI h l n ≤ n) := by
  by_cases hv : Valid h l
  · by_cases hn : 0 ≤ n
    · obtain ⟨k, rfl⟩ := Int.eq_ofNat_of_zero_le hn
      rw [onesI_ok hv]
      have := W.ones_le h l k hv.1
      omega
    · rw [onesI_low (by omega)]; omega
  · rw [onesI_bad hv]; omega
theorem maxTo_bd (f : Nat → Int) (n : Nat) : 0 ≤ maxTo f n := by
  induction n with
  | zero => exact Int.le_refl _
  | succ n ih => unfold maxTo; omega
theorem maxTo_le (f : Nat → Int) (B : Int) (hB : 0 ≤ B) (n : Nat) (hf : ∀ i, i < n → f i ≤ B) : maxTo f n ≤ B := by
  induction n with
  | zero => exact hB
  | succ n ih => unfold maxTo; have := ih (fun i hi => hf i (by omega)); have := hf n (by omega); omega
end Go.Proofs.Ytglfocldoaigiaa
