/-
  Plain: a link followed tick by tick: the number of values and the greatest number so far; it is settled after one loop behind the lags and the head.
-/
import Derived.Test.YtglfocldoaigiaaWord
namespace Go.Proofs.Ytglfocldoaigiaa

/-- is a task with a lag active at tick t -/
def act (h l : List Bool) (lag t : Nat) : Bool := decide (lag ≤ t) && W.letter h l (t - lag)

def stepS (pu po first : Bool) (s : Nat × Nat) : Option (Nat × Nat) :=
  let s1 := if pu && first then (s.1 + 1, max s.2 (s.1 + 1)) else s
  if po && s1.1 == 0 then none else
    let s2 := if po then (s1.1 - 1, s1.2) else s1
    some (if pu && !first then (s2.1 + 1, max s2.2 (s2.1 + 1)) else s2)

def simS (h l : List Bool) (frm to : Nat) (first : Bool) (init : Nat) : Nat → Option (Nat × Nat)
  | 0 => some (init, init)
  | t + 1 => (simS h l frm to first init t).bind (stepS (act h l frm t) (act h l to t) first)

theorem ones_act (h l : List Bool) (lag t : Nat) (hl : 0 < l.length) : W.ones h l (t + 1 - lag) = W.ones h l (t - lag) + (act h l lag t).toNat := by
  unfold act
  by_cases hlt : lag ≤ t
  · rw [show t + 1 - lag = (t - lag) + 1 by omega, W.ones_succ _ _ _ hl]; simp [hlt]
  · rw [show t + 1 - lag = 0 by omega, show t - lag = 0 by omega]; simp [hlt]

theorem stepS_n {pu po first : Bool} {s s' : Nat × Nat} (h : stepS pu po first s = some s') : s'.1 + po.toNat = s.1 + pu.toNat := by
  obtain ⟨n, m⟩ := s
  unfold stepS at h
  cases pu <;> cases po <;> cases first <;> simp at h <;> (try (obtain ⟨h1, h⟩ := h)) <;> (try subst h) <;> simp <;> omega
theorem stepS_most {pu po first : Bool} {s s' : Nat × Nat} (h : stepS pu po first s = some s') : s.2 ≤ s'.2 := by
  obtain ⟨n, m⟩ := s
  unfold stepS at h
  cases pu <;> cases po <;> cases first <;> simp at h <;> (try (obtain ⟨h1, h⟩ := h)) <;> (try subst h) <;> simp <;> omega
/-- the same step from a greater peak that already covers it -/
theorem stepS_covered {pu po first : Bool} {n m m' n2 m2 : Nat} (h : stepS pu po first (n, m) = some (n2, m2)) (hm : m2 ≤ m') : stepS pu po first (n, m') = some (n2, m') := by
  unfold stepS at h ⊢
  cases pu <;> cases po <;> cases first <;> simp at h ⊢ <;> omega

theorem simS_n (h l : List Bool) (frm to : Nat) (first : Bool) (init : Nat) (hl : 0 < l.length) (t : Nat) {s : Nat × Nat} (e : simS h l frm to first init t = some s) :
    s.1 + W.ones h l (t - to) = init + W.ones h l (t - frm) := by
  induction t generalizing s with
  | zero => simp [simS] at e; subst e; simp [W.ones_zero]
  | succ t ih =>
    rw [simS, Option.bind_eq_some_iff] at e
    obtain ⟨s0, e0, e1⟩ := e
    have := ih e0
    have h2 := stepS_n e1
    rw [ones_act h l to t hl, ones_act h l frm t hl]
    omega
theorem simS_le (h l : List Bool) (frm to : Nat) (first : Bool) (init : Nat) {a b : Nat} (hab : a ≤ b) {s : Nat × Nat} (e : simS h l frm to first init b = some s) : ∃ s0, simS h l frm to first init a = some s0 ∧ s0.2 ≤ s.2 := by
  induction b generalizing s with
  | zero =>
    have : a = 0 := by omega
    subst this; exact ⟨s, e, Nat.le_refl _⟩
  | succ b ih =>
    by_cases h1 : a = b + 1
    · subst h1; exact ⟨s, e, Nat.le_refl _⟩
    · rw [simS, Option.bind_eq_some_iff] at e
      obtain ⟨s1, e1, e2⟩ := e
      obtain ⟨s0, h2, h3⟩ := ih (by omega) e1
      exact ⟨s0, h2, Nat.le_trans h3 (stepS_most e2)⟩
theorem simS_bd (h l : List Bool) (frm to : Nat) (first : Bool) (init : Nat) (t : Nat) {s : Nat × Nat} (e : simS h l frm to first init t = some s) : s.1 ≤ s.2 ∧ s.2 ≤ init + t ∧ init ≤ s.2 := by
  induction t generalizing s with
  | zero => simp [simS] at e; subst e; simp
  | succ t ih =>
    rw [simS, Option.bind_eq_some_iff] at e
    obtain ⟨⟨n, m⟩, e0, e1⟩ := e
    have h1 := ih e0
    unfold stepS at e1
    generalize act h l frm t = pu at e1
    generalize act h l to t = po at e1
    cases pu <;> cases po <;> cases first <;> simp at e1 <;> (try (obtain ⟨h2, e1⟩ := e1)) <;> (try subst e1) <;> simp at h1 ⊢ <;> omega

theorem act_period (h l : List Bool) (lag t : Nat) (ht : lag + h.length ≤ t) : act h l lag (t + l.length) = act h l lag t := by
  unfold act
  have := W.letter_add h l (t - lag) 1 (by omega)
  rw [Nat.one_mul] at this
  rw [show t + l.length - lag = t - lag + l.length by omega, this]
  simp [show lag ≤ t + l.length by omega, show lag ≤ t by omega]

/-- behind the lags, the head and one loop nothing new happens -/
theorem simS_stable (h l : List Bool) (frm to : Nat) (first : Bool) (init : Nat) (hl : 0 < l.length) (T : Nat) (hT : max frm to + h.length + l.length ≤ T) :
    (simS h l frm to first init T).map (·.2) = (simS h l frm to first init (max frm to + h.length + l.length)).map (·.2) := by
  obtain ⟨d, rfl⟩ := Nat.exists_eq_add_of_le hT
  clear hT
  induction d with
  | zero => rfl
  | succ d ih =>
    rw [← Nat.add_assoc]
    generalize hT : max frm to + h.length + l.length + d = T at *
    rw [← ih]
    cases e : simS h l frm to first init T with
    | none => simp [simS, e]
    | some s =>
      obtain ⟨n, m⟩ := s
      obtain ⟨T', hT'⟩ : ∃ T', T = T' + l.length := ⟨T - l.length, by omega⟩
      obtain ⟨⟨n2, m2⟩, e2, hm2⟩ := simS_le h l frm to first init (show T' + 1 ≤ T by omega) e
      have e3 := e2
      rw [simS, Option.bind_eq_some_iff] at e3
      obtain ⟨⟨n1, m1⟩, e4, e5⟩ := e3
      have hn := simS_n h l frm to first init hl T e
      have hn1 := simS_n h l frm to first init hl T' e4
      have a1 := W.ones_add_loop h l (T' - to) 1 hl (by omega)
      have a2 := W.ones_add_loop h l (T' - frm) 1 hl (by omega)
      rw [Nat.one_mul, Nat.one_mul] at a1 a2
      rw [hT', show T' + l.length - to = T' - to + l.length by omega, show T' + l.length - frm = T' - frm + l.length by omega, a1, a2] at hn
      have hnn : n = n1 := by simp at hn hn1; omega
      subst hnn
      rw [simS, e]
      simp only [Option.bind_some]
      rw [hT', act_period _ _ _ _ (by omega), act_period _ _ _ _ (by omega), stepS_covered e5 hm2]
      rfl
end Go.Proofs.Ytglfocldoaigiaa
