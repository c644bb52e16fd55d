/-
  Plain facts on accepted expressions: their parts are accepted, their names are identifiers, their words are words.
-/
import Derived.Test.YtfoddappedcplaaEPl
set_option linter.unusedVariables false
set_option linter.unusedSimpArgs false
namespace Go.Proofs.Ytfoddappedcplaa
theorem firstI_zero : ∀ {l : List Tx}, firstI l = 0 → ∀ y ∈ l, errOf y = 0
  | [], _, y, hy => by simp at hy
  | a :: l, h, y, hy => by
    rw [firstI] at h
    by_cases ha : errOf a = 0
    · rw [if_pos ha] at h
      rcases List.mem_cons.1 hy with rfl | hy
      · exact ha
      · exact firstI_zero h y hy
    · rw [if_neg ha] at h; exact absurd h ha
theorem firstI_of : ∀ {l : List Tx}, (∀ y ∈ l, errOf y = 0) → firstI l = 0
  | [], _ => rfl
  | a :: l, h => by rw [firstI, if_pos (h a (by simp))]; exact firstI_of fun y hy => h y (by simp [hy])
theorem chk_zero {e : Tx} (h : chkI e = 0) : e.size ≤ 400 ∧ e.depth ≤ 32 ∧ firstI e.list = 0 := by
  unfold chkI at h
  split at h
  · cases h
  · rename_i hn
    exact ⟨by omega, by omega, h⟩
theorem chk_size {e : Tx} (h : chkI e = 0) : e.size ≤ 400 := (chk_zero h).1
theorem chk_all {e : Tx} (h : chkI e = 0) : ∀ y ∈ e.list, errOf y = 0 := firstI_zero (chk_zero h).2.2
theorem lists_mem : ∀ {xs : List Tx} {y u : Tx}, y ∈ xs → u ∈ y.list → u ∈ Tx.lists xs
  | a :: xs, y, u, hy, hu => by
    rw [Tx.lists, List.mem_append]
    rcases List.mem_cons.1 hy with rfl | hy
    · exact .inl hu
    · exact .inr (lists_mem hy hu)
theorem sizes_mem_ : ∀ {xs : List Tx} {y : Tx}, y ∈ xs → y.size ≤ Tx.sizes xs
  | a :: xs, y, hy => by
    rw [Tx.sizes]
    rcases List.mem_cons.1 hy with rfl | hy
    · omega
    · have := sizes_mem_ hy; omega
theorem depths_mem_ : ∀ {xs : List Tx} {y : Tx}, y ∈ xs → y.depth ≤ Tx.depths xs
  | a :: xs, y, hy => by
    rw [Tx.depths]
    rcases List.mem_cons.1 hy with rfl | hy
    · omega
    · have := depths_mem_ hy; omega
theorem chk_arg {k o t v : Int} {s : ByteArray} {A : Option Addr} {c : Nat} {xs : List Tx} (h : chkI (.mk k o t v s A c xs) = 0) (y : Tx) (hy : y ∈ xs) : chkI y = 0 := by
  obtain ⟨h1, h2, h3⟩ := chk_zero h
  rw [Tx.size] at h1
  rw [Tx.depth] at h2
  have h4 := sizes_mem_ hy
  have h5 := depths_mem_ hy
  unfold chkI
  rw [if_neg (by omega)]
  refine firstI_of fun u hu => firstI_zero h3 u ?_
  rw [Tx.list]
  exact List.mem_cons.2 (.inr (lists_mem hy hu))
theorem err_ident {k o t v : Int} {s : ByteArray} {A : Option Addr} {c : Nat} {xs : List Tx} (h : errOf (.mk k o t v s A c xs) = 0) (hk : fN k = true) : identB s = true := by
  have h' : oneI k o t v s xs.length = 0 := h
  rw [one_is_ref] at h'
  unfold errR at h'
  split at h'
  · cases h'
  · split at h'
    · cases h'
    · split at h'
      · cases h'
      · rename_i hn
        cases hi : identB s with
        | true => rfl
        | false => exact absurd ⟨hk, hi⟩ hn
theorem err_word {k o t v : Int} {s : ByteArray} {A : Option Addr} {c : Nat} {xs : List Tx} (h : errOf (.mk k o t v s A c xs) = 0) (hk : k = 11) : (parseV s.data.toList).2 = 0 := by
  subst hk
  have h' : oneI 11 o t v s xs.length = 0 := h
  unfold oneI at h'
  split at h'
  · cases h'
  · unfold oneB at h'
    simp only [fN, fW] at h'
    split at h'
    · cases h'
    · simp at h'
      exact h'
end Go.Proofs.Ytfoddappedcplaa
