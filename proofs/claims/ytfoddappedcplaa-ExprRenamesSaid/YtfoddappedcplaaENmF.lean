/-
  Plain facts on the names in an expression.
-/
import Derived.Test.YtfoddappedcplaaENm
set_option linter.unusedVariables false
set_option linter.unusedSimpArgs false
namespace Go.Proofs.Ytfoddappedcplaa
mutual
def Tx.vn (inst : Bool) : Tx → List ByteArray
  | .mk k o t v s A c xs => (if varB k then [s] else []) ++ Tx.vns inst k 0 xs
def Tx.vns (inst : Bool) (k : Int) : Nat → List Tx → List ByteArray
  | _, [] => []
  | i, x :: xs => (if skipB inst k i then [] else Tx.vn inst x) ++ Tx.vns inst k (i + 1) xs
end
mutual
theorem nms_mem (inst : Bool) (u : ByteArray) : ∀ (x : Tx) (l : List ByteArray), u ∈ Tx.nms inst x l ↔ u ∈ l ∨ u ∈ Tx.vn inst x
  | .mk k o t v s A c xs, l => by
    rw [Tx.nms, nmss_mem inst u k xs, Tx.vn, List.mem_append]
    cases hk : varB k with
    | false => simp
    | true =>
      cases hh : hasB l s with
      | true =>
        have := (hasB_iff l s).1 hh
        simp
        constructor
        · rintro (h | h)
          · exact .inl h
          · exact .inr (.inr h)
        · rintro (h | rfl | h)
          · exact .inl h
          · exact .inl this
          · exact .inr h
      | false => simp [or_assoc]
theorem nmss_mem (inst : Bool) (u : ByteArray) (k : Int) : ∀ (xs : List Tx) (i : Nat) (l : List ByteArray), u ∈ Tx.nmss inst k i xs l ↔ u ∈ l ∨ u ∈ Tx.vns inst k i xs
  | [], i, l => by simp [Tx.nmss, Tx.vns]
  | x :: xs, i, l => by
    rw [Tx.nmss, nmss_mem inst u k xs, Tx.vns, List.mem_append]
    split
    · simp
    · rw [nms_mem inst u x, or_assoc]
end
mutual
theorem vn_sub (u : ByteArray) : ∀ x : Tx, u ∈ Tx.vn true x → u ∈ Tx.vn false x
  | .mk k o t v s A c xs, h => by
    rw [Tx.vn, List.mem_append] at h ⊢
    exact h.imp id (vns_sub u k xs 0)
theorem vns_sub (u : ByteArray) (k : Int) : ∀ (xs : List Tx) (i : Nat), u ∈ Tx.vns true k i xs → u ∈ Tx.vns false k i xs
  | [], i, h => by simp [Tx.vns] at h
  | x :: xs, i, h => by
    rw [Tx.vns, List.mem_append] at h ⊢
    rw [if_neg (by simp [skipB])]
    rcases h with h | h
    · split at h
      · simp at h
      · exact .inl (vn_sub u x h)
    · exact .inr (vns_sub u k xs _ h)
end
theorem inst_names (x : Tx) (u : ByteArray) (h : u ∈ Tx.nms true x []) : hasB (Tx.nms false x []) u = true := by
  rw [hasB_iff, nms_mem]
  rw [nms_mem] at h
  exact h.imp id (vn_sub u x)
end Go.Proofs.Ytfoddappedcplaa
