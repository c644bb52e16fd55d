/-
  Plain: one more initial value is one more in the peak; a consumer one tick later never needs less.
-/
import Derived.Test.YtglfocldoaigiaaNeed2
namespace Go.Proofs.Ytglfocldoaigiaa

theorem stepS_more {pu po first : Bool} {n m n' m' : Nat} (h : stepS pu po first (n, m) = some (n', m')) : stepS pu po first (n + 1, m + 1) = some (n' + 1, m' + 1) := by
  unfold stepS at h ⊢
  cases pu <;> cases po <;> cases first <;> simp at h ⊢ <;> omega
theorem simS_more {h l : List Bool} {fa ta : Nat} {first : Bool} {init : Nat} (t : Nat) : ∀ {n m : Nat}, simS h l fa ta first init t = some (n, m) → simS h l fa ta first (init + 1) t = some (n + 1, m + 1) := by
  induction t with
  | zero => intro n m e; simp [simS] at e ⊢; omega
  | succ t ih =>
    intro n m e
    rw [simS] at e ⊢
    cases e0 : simS h l fa ta first init t with
    | none => rw [e0] at e; simp at e
    | some s =>
      obtain ⟨n0, m0⟩ := s
      rw [e0, Option.bind_some] at e
      rw [ih e0, Option.bind_some]
      exact stepS_more e
theorem stepS_later {pu po po2 first : Bool} {n m m2 n' m' : Nat} (h : stepS pu po first (n, m) = some (n', m')) (hm : m ≤ m2) :
    ∃ m3, stepS pu po2 first (n + po2.toNat, m2) = some (n' + po.toNat, m3) ∧ m' ≤ m3 := by
  refine ⟨if pu then max m2 (if first then n + po2.toNat + 1 else n + 1) else m2, ?_, ?_⟩ <;> unfold stepS at * <;>
    cases pu <;> cases po <;> cases first <;> cases po2 <;> simp at h ⊢ <;> (try obtain ⟨h0, h⟩ := h) <;> (try omega)
theorem act_later (h l : List Bool) (ta t : Nat) : act h l (ta + 1) (t + 1) = act h l ta t := by
  unfold act
  rw [show t + 1 - (ta + 1) = t - ta by omega]
  congr 1
  simp
theorem simS_later {h l : List Bool} {fa ta : Nat} {first : Bool} {init : Nat} (t : Nat) : ∀ {n m : Nat}, simS h l fa ta first init t = some (n, m) → ∃ m2, simS h l fa (ta + 1) first init t = some (n + (act h l (ta + 1) t).toNat, m2) ∧ m ≤ m2 := by
  induction t with
  | zero =>
    intro n m e
    simp [simS] at e ⊢
    refine ⟨init, ⟨?_, rfl⟩, by omega⟩
    simp [act]; omega
  | succ t ih =>
    intro n m e
    rw [simS] at e
    cases e0 : simS h l fa ta first init t with
    | none => rw [e0] at e; simp at e
    | some s =>
      obtain ⟨n0, m0⟩ := s
      rw [e0, Option.bind_some] at e
      obtain ⟨m2, h1, h2⟩ := ih e0
      obtain ⟨m3, h3, h4⟩ := stepS_later (po2 := act h l (ta + 1) t) e h2
      refine ⟨m3, ?_, h4⟩
      rw [simS, h1, Option.bind_some, act_later]
      exact h3

/-- Need, one more initial value, one tick later -/
theorem need_later {h l : List Bool} {fa ta init : Nat} (first : Bool) (hv : Valid h l) (a : fa ≤ 63) (b : ta ≤ 62) (c : init ≤ 100) :
    needV h l fa ta init first = (0, 20) ∨ ∃ m k : Nat, m ≤ k ∧ m ≤ 1000 ∧ k ≤ 1000 ∧ needV h l fa ta init first = (((m : Nat) : Int), 0) ∧ needV h l fa ta ((init : Int) + 1) first = ((m : Int) + 1, 0) ∧ needV h l fa ((ta : Int) + 1) init first = (((k : Nat) : Int), 0) := by
  have hv2 := hv.2
  have h1 : okArgs h l fa ta init := ⟨hv, by omega, by omega, by omega, by omega, by omega, by omega⟩
  have h2 : okArgs h l fa ta (init + 1 : Nat) := ⟨hv, by omega, by omega, by omega, by omega, by omega, by omega⟩
  have h3 : okArgs h l fa (ta + 1 : Nat) init := ⟨hv, by omega, by omega, by omega, by omega, by omega, by omega⟩
  cases e : simS h l fa ta first init 200 with
  | none => exact .inl (needV_none first h1 200 (by omega) e)
  | some s =>
    obtain ⟨n, m⟩ := s
    obtain ⟨k, e3, hk⟩ := simS_later _ e
    have e2 := simS_more _ e
    have b1 := simS_bd h l _ _ first _ _ e
    have b2 := simS_bd h l _ _ first _ _ e3
    simp only [] at b1 b2
    exact .inr ⟨m, k, hk, by omega, by omega, needV_some first h1 200 (by omega) e, by have := needV_some first h2 200 (by omega) e2; simpa using this, by have := needV_some first h3 200 (by omega) e3; simpa using this⟩
end Go.Proofs.Ytglfocldoaigiaa
