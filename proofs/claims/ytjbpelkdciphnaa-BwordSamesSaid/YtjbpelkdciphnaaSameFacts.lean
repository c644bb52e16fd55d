/-
  Plain fact: two words are the same iff their first 8300 letters are alike.
-/
import Derived.Test.YtjbpelkdciphnaaSame
import Derived.Test.YtjbpelkdciphnaaAlike
set_option linter.unusedVariables false
set_option linter.unusedSimpArgs false
namespace Go.Proofs.Ytjbpelkdciphnaa

theorem letters_far {h l h' l' : List Bool} (hv : Valid h l) (hv' : Valid h' l') (e : ∀ k, k < 8300 → W.letter h l k = W.letter h' l' k) (i : Nat) : W.letter h l i = W.letter h' l' i := by
  by_cases hi : i < 64
  · exact e i (by omega)
  · obtain ⟨p, hp⟩ : ∃ p, l.length * l'.length = p := ⟨_, rfl⟩
    have hp0 : 0 < p := by rw [← hp]; exact Nat.mul_pos hv.1 hv'.1
    have hp1 : p ≤ 4096 := by rw [← hp]; exact Nat.le_trans (Nat.mul_le_mul (show l.length ≤ 64 by have := hv.2; omega) (show l'.length ≤ 64 by have := hv'.2; omega)) (by decide)
    have m := Nat.mod_lt (i - 64) hp0
    have dm := Nat.mod_add_div (i - 64) p
    have ei : i = 64 + (i - 64) % p + (i - 64) / p * p := by rw [Nat.mul_comm p] at dm; omega
    have h1 := W.letter_add h l (64 + (i - 64) % p) ((i - 64) / p * l'.length) (by have := hv.2; omega)
    have h2 := W.letter_add h' l' (64 + (i - 64) % p) ((i - 64) / p * l.length) (by have := hv'.2; omega)
    rw [Nat.mul_assoc, Nat.mul_comm l'.length, hp, ← ei] at h1
    rw [Nat.mul_assoc, hp, ← ei] at h2
    rw [h1, h2]
    exact e _ (by omega)

theorem same_alike {h l h' l' : List Bool} (hv : Valid h l) (hv' : Valid h' l') : sameB h l h' l' = alikeB h l h' l' 8300 := by
  by_cases e : ∀ k, k < 8300 → W.letter h l k = W.letter h' l' k
  · rw [alikeB_yes fun k hk => by rw [atB_ok hv (by omega), atB_ok hv' (by omega), letterB_nat, letterB_nat, e k hk]]
    unfold sameB
    rw [if_pos ⟨hv, hv', (W.nf_inj hv.1 (W.letter_per h l) hv'.1 (W.letter_per h' l')).2 (letters_far hv hv' e)⟩]
  · have : ∃ k, k < 8300 ∧ W.letter h l k ≠ W.letter h' l' k := by
      rcases Classical.em (∃ k, k < 8300 ∧ W.letter h l k ≠ W.letter h' l' k) with q | q
      · exact q
      · exact absurd (fun k hk => Classical.byContradiction fun n => q ⟨k, hk, n⟩) e
    obtain ⟨k, hk, n⟩ := this
    rw [alikeB_no hk (by rw [atB_ok hv (by omega), atB_ok hv' (by omega), letterB_nat, letterB_nat]; exact n)]
    unfold sameB
    rw [if_neg fun q => n ((W.nf_inj hv.1 (W.letter_per h l) hv'.1 (W.letter_per h' l')).1 q.2.2 k)]

theorem sameB_comm (h l h' l' : List Bool) : sameB h l h' l' = sameB h' l' h l := by
  unfold sameB
  by_cases e : Valid h l ∧ Valid h' l' ∧ W.nf (W.letter h l) = W.nf (W.letter h' l')
  · rw [if_pos e, if_pos ⟨e.2.1, e.1, e.2.2.symm⟩]
  · rw [if_neg e, if_neg fun q => e ⟨q.2.1, q.1, q.2.2.symm⟩]
theorem sameB_self (h l : List Bool) : sameB h l h l = (checkI h l == 0) := by
  unfold sameB
  rcases check_cases h l with hv | ⟨hv, h5⟩
  · rw [if_pos ⟨hv, hv, rfl⟩, checkI_0 hv]; rfl
  · rw [if_neg fun q => hv q.1]
    rcases h5 with h5 | h5 <;> rw [h5] <;> rfl
end Go.Proofs.Ytjbpelkdciphnaa
