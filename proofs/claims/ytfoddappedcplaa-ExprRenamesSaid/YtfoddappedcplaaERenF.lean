/-
  Plain facts on renaming.
-/
import Derived.Test.YtfoddappedcplaaERena
import Derived.Test.YtfoddappedcplaaERenb
import Derived.Test.YtfoddappedcplaaENmF
set_option linter.unusedVariables false
set_option linter.unusedSimpArgs false
namespace Go.Proofs.Ytfoddappedcplaa
mutual
theorem ren_size (a b : ByteArray) : ∀ y x : Tx, y.er = Ex.ren a b x.er → y.size = x.size
  | .mk _ _ _ _ _ _ _ ys, .mk _ _ _ _ _ _ _ xs, h => by
    rw [Tx.er, Tx.er, Ex.ren] at h
    injection h with h1 h2 h3 h4 h5 h6
    rw [Tx.size, Tx.size, rens_sizes a b ys xs h6]
theorem rens_sizes (a b : ByteArray) : ∀ ys xs : List Tx, Tx.ers ys = Ex.rens a b (Tx.ers xs) → Tx.sizes ys = Tx.sizes xs
  | [], [], _ => rfl
  | [], x :: xs, h => by simp [Tx.ers, Ex.rens] at h
  | y :: ys, [], h => by simp [Tx.ers, Ex.rens] at h
  | y :: ys, x :: xs, h => by
    rw [Tx.ers, Tx.ers, Ex.rens] at h
    injection h with h1 h2
    rw [Tx.sizes, Tx.sizes, ren_size a b y x h1, rens_sizes a b ys xs h2]
end
mutual
theorem ren_depth (a b : ByteArray) : ∀ y x : Tx, y.er = Ex.ren a b x.er → y.depth = x.depth
  | .mk _ _ _ _ _ _ _ ys, .mk _ _ _ _ _ _ _ xs, h => by
    rw [Tx.er, Tx.er, Ex.ren] at h
    injection h with h1 h2 h3 h4 h5 h6
    rw [Tx.depth, Tx.depth, rens_depths a b ys xs h6]
theorem rens_depths (a b : ByteArray) : ∀ ys xs : List Tx, Tx.ers ys = Ex.rens a b (Tx.ers xs) → Tx.depths ys = Tx.depths xs
  | [], [], _ => rfl
  | [], x :: xs, h => by simp [Tx.ers, Ex.rens] at h
  | y :: ys, [], h => by simp [Tx.ers, Ex.rens] at h
  | y :: ys, x :: xs, h => by
    rw [Tx.ers, Tx.ers, Ex.rens] at h
    injection h with h1 h2
    rw [Tx.depths, Tx.depths, ren_depth a b y x h1, rens_depths a b ys xs h2]
end
theorem renN_back (a b : ByteArray) (k : Int) (s : ByteArray) (h : varB k = true → s ≠ b) : renN b a k (renN a b k s) = s := by
  unfold renN
  cases hk : varB k with
  | false => simp
  | true =>
    have hb := h hk
    simp only [Bool.true_and]
    by_cases he : s.toList = a.toList
    · simp [he]
      exact (toList_inj he).symm
    · have hbe : (s.toList == a.toList) = false := by simpa using he
      simp only [hbe]
      have : (s.toList == b.toList) = false := by
        simp only [beq_eq_false_iff_ne, ne_eq]
        exact fun e => hb (toList_inj e)
      simp [this]
mutual
theorem ren_back (a b : ByteArray) : ∀ x : Tx, b ∉ Tx.vn false x → Ex.ren b a (Ex.ren a b x.er) = x.er
  | .mk k o t v s A c xs, h => by
    rw [Tx.vn, List.mem_append] at h
    rw [Tx.er, Ex.ren, Ex.ren, rens_back a b k xs 0 (fun e => h (.inr e)), renN_back a b k s]
    intro hk e
    apply h
    rw [if_pos hk]
    exact .inl (by rw [e]; simp)
theorem rens_back (a b : ByteArray) (k : Int) : ∀ (xs : List Tx) (i : Nat), b ∉ Tx.vns false k i xs → Ex.rens b a (Ex.rens a b (Tx.ers xs)) = Tx.ers xs
  | [], i, _ => rfl
  | x :: xs, i, h => by
    rw [Tx.vns, List.mem_append, if_neg (by simp [skipB])] at h
    rw [Tx.ers, Ex.rens, Ex.rens, ren_back a b x (fun e => h (.inl e)), rens_back a b k xs (i + 1) (fun e => h (.inr e))]
end
theorem back_of_has {a b : ByteArray} {x : Tx} (h : hasB (Tx.nms false x []) b = false) : Ex.ren b a (Ex.ren a b x.er) = x.er := by
  refine ren_back a b x fun e => ?_
  have : hasB (Tx.nms false x []) b = true := by rw [hasB_iff, nms_mem]; exact .inr e
  rw [h] at this; cases this
end Go.Proofs.Ytfoddappedcplaa
