/-
  Plain: one changed byte changes the checksum.
-/
import Derived.Test.YtgmojjdojcmnaaaDoorISum
namespace Go.Proofs.YtgmojjdojcmnaaaDoor

theorem inv_gen {a M P Q K : Nat} (hPQ : P * Q = 1 + M * K) (ha : a < M) : a * P % M * Q % M = a := by
  have hd := Nat.div_add_mod (a * P) M
  generalize a * P / M = t at hd
  generalize a * P % M = r at hd ⊢
  have h2 : (M * t + r) * Q = a + M * (a * K) := by
    rw [hd, Nat.mul_assoc, hPQ, Nat.mul_add, Nat.mul_one, Nat.mul_left_comm]
  have h3 : (M * t + r) * Q = r * Q + M * (t * Q) := by
    rw [Nat.add_mul, Nat.mul_assoc, Nat.add_comm]
  have h5 : (r * Q + M * (t * Q)) % M = (a + M * (a * K)) % M := by rw [← h3, h2]
  rw [Nat.add_mul_mod_self_left, Nat.add_mul_mod_self_left, Nat.mod_eq_of_lt ha] at h5
  exact h5
theorem pq : 16777619 * 899433627 = 1 + 4294967296 * 3513497 := by decide
theorem mulp_inv {a : Nat} (ha : a < 4294967296) : a * 16777619 % 4294967296 * 899433627 % 4294967296 = a := inv_gen pq ha
theorem mulp_inj {a b : Nat} (ha : a < 4294967296) (hb : b < 4294967296) (h : a * 16777619 % 4294967296 = b * 16777619 % 4294967296) : a = b := by
  rw [← mulp_inv ha, h, mulp_inv hb]
theorem xor_inj {h h' c : Nat} (e : h ^^^ c = h' ^^^ c) : h = h' := by
  have := congrArg (· ^^^ c) e
  simpa [Nat.xor_assoc, Nat.xor_self] using this
theorem xor_inj2 {h c c' : Nat} (e : h ^^^ c = h ^^^ c') : c = c' := by
  rw [Nat.xor_comm h c, Nat.xor_comm h c'] at e
  exact xor_inj e
theorem xlt {h : Nat} (hh : h < 4294967296) (c : UInt8) : h ^^^ c.toNat < 4294967296 := by
  have := c.toNat_lt
  have h2 : h ^^^ c.toNat < 2 ^ 32 := Nat.xor_lt_two_pow (by omega) (by omega)
  omega
theorem sumF_inj : ∀ (l : List UInt8) (h h' : Nat), h < 4294967296 → h' < 4294967296 → sumF h l = sumF h' l → h = h'
  | [], h, h', _, _, e => e
  | c :: l, h, h', h1, h2, e => by
    have e1 : sumF h (c :: l) = sumF (((h ^^^ c.toNat) * 16777619) % 4294967296) l := by simp only [sumF, List.foldl_cons]
    have e2 : sumF h' (c :: l) = sumF (((h' ^^^ c.toNat) * 16777619) % 4294967296) l := by simp only [sumF, List.foldl_cons]
    rw [e1, e2] at e
    have e3 := sumF_inj l _ _ (by omega) (by omega) e
    exact xor_inj (mulp_inj (xlt h1 c) (xlt h2 c) e3)
theorem sumB_set (l : List UInt8) (k : Nat) (hk : k < l.length) (y : UInt8) (hy : y ≠ l[k]) : sumB (l.set k y) ≠ sumB l := by
  intro e
  have e1 : l = l.take k ++ l[k] :: l.drop (k + 1) := by rw [← List.drop_eq_getElem_cons hk, List.take_append_drop]
  have e2 : l.set k y = l.take k ++ y :: l.drop (k + 1) := by rw [List.set_eq_take_append_cons_drop, if_pos hk]
  unfold sumB at e
  rw [e2] at e
  have e3 : sumF 2166136261 l = sumF 2166136261 (l.take k ++ l[k] :: l.drop (k + 1)) := by rw [← e1]
  rw [e3, sumF_append, sumF_append] at e
  have hH : sumF 2166136261 (l.take k) < 4294967296 := sumF_lt _ (by omega) _
  generalize sumF 2166136261 (l.take k) = H at *
  have f1 : ∀ c, sumF H (c :: l.drop (k + 1)) = sumF (((H ^^^ c.toNat) * 16777619) % 4294967296) (l.drop (k + 1)) := fun c => by simp only [sumF, List.foldl_cons]
  rw [f1, f1] at e
  have e4 := sumF_inj _ _ _ (by omega) (by omega) e
  have e5 := xor_inj2 (mulp_inj (xlt hH y) (xlt hH l[k]) e4)
  exact hy (UInt8.toNat.inj e5)
theorem xor_ne (x f : UInt8) (hf : f ≠ 0) : x ^^^ f ≠ x := by
  intro e
  apply hf
  apply UInt8.toNat.inj
  have h1 := congrArg UInt8.toNat e
  rw [UInt8.toNat_xor] at h1
  have h2 : x.toNat ^^^ f.toNat = x.toNat ^^^ 0 := by rw [h1, Nat.xor_zero]
  exact xor_inj2 h2
end Go.Proofs.YtgmojjdojcmnaaaDoor
