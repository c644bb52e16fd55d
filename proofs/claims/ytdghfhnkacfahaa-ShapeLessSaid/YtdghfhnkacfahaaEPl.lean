/-
  Plain law: the program's form and the reference's say the same error.
-/
import Derived.Test.YtdghfhnkacfahaaERForm
import Derived.Test.YtdghfhnkacfahaaECheck
set_option linter.unusedVariables false
set_option linter.unusedSimpArgs false
namespace Go.Proofs.Ytdghfhnkacfahaa

/-- the reference's error of an expression -/
noncomputable def errR (k o t v : Int) (s : ByteArray) (n : Nat) : Int :=
  if 64 < n then 3 else if formR k o t v s n = false then 5 else if fN k = true ∧ identB s = false then 6 else 0
theorem one_is_ref (k o t v : Int) (s : ByteArray) (n : Nat) : oneI k o t v s n = errR k o t v s n := by
  unfold oneI errR
  by_cases h : 64 < n
  · rw [if_pos h, if_pos h]
  rw [if_neg h, if_neg h]
  by_cases hk : k < 1 ∨ 11 < k
  · have h1 : fA k o t v n = false := by
      unfold fA
      repeat' split
      all_goals first | rfl | (exfalso; simp at *; omega)
    have h2 : formR k o t v s n = false := by
      unfold formR
      rw [if_pos (by omega)]
    rw [h2, if_pos rfl]
    unfold oneB
    rw [if_pos (.inl h1)]
  have : k = 1 ∨ k = 2 ∨ k = 3 ∨ k = 4 ∨ k = 5 ∨ k = 6 ∨ k = 7 ∨ k = 8 ∨ k = 9 ∨ k = 10 ∨ k = 11 := by omega
  rcases this with rfl | rfl | rfl | rfl | rfl | rfl | rfl | rfl | rfl | rfl | rfl
  all_goals
    simp only [oneB, formR, fA, fO, fT, fN, fW, argsB, plainB, tagB, branchesB, operandsI]
    simp
    by_cases e : s.toList = []
    all_goals cases identB s
    all_goals by_cases e2 : (parseV s.data.toList).2 = 0
    all_goals simp only [e, e2, if_true, if_false, true_and, and_true, false_and, and_false, true_or, or_true, false_or, or_false, not_true, not_false_iff, true_implies, false_implies, implies_true]
    all_goals try (repeat' split)
    all_goals first | rfl | omega | (exfalso; simp_all; done) | (exfalso; simp_all; omega)
end Go.Proofs.Ytdghfhnkacfahaa
