/-
  Plain: the normal form of an ultimately periodic word depends on the letters alone.
-/
import Derived.Test.YtjbpelkdciphnaaWord
set_option linter.unusedVariables false
namespace Go.Proofs.Ytjbpelkdciphnaa.W

/-- p is a period of f from N on -/
def Per (f : Nat → Bool) (N p : Nat) : Prop := ∀ i, N ≤ i → f (i + p) = f i

section
variable {f : Nat → Bool} {N M p q n : Nat}
theorem Per.mul (h : Per f N p) (k : Nat) : Per f N (k * p) := by
  induction k with
  | zero => intro i _; simp
  | succ k ih => intro i hi; rw [Nat.succ_mul, ← Nat.add_assoc, h _ (by omega), ih i hi]
theorem Per.mono (h : Per f N p) (hm : N ≤ M) : Per f M p := fun i hi => h i (by omega)
theorem Per.sub (h : Per f N p) (k : Per f N q) (hpq : p ≤ q) : Per f N (q - p) := by
  intro i hi
  rw [← h (i + (q - p)) (by omega), show i + (q - p) + p = i + q by omega]; exact k i hi
theorem Per.mod (h : Per f N p) (k : Per f N q) : Per f N (q % p) := by
  have e : q % p = q - q / p * p := by have := Nat.div_add_mod q p; rw [Nat.mul_comm] at this; omega
  have e2 : q / p * p ≤ q := Nat.div_mul_le_self q p
  rw [e]; exact (h.mul _).sub k e2
theorem Per.gcd : ∀ (p q : Nat), Per f N p → Per f N q → Per f N (Nat.gcd p q) := by
  intro p q
  induction p, q using Nat.gcd.induction with
  | H0 q => intro _ k; simpa using k
  | H1 p q hp ih => intro h k; rw [Nat.gcd_rec]; exact ih (h.mod k) h
/-- an eventual period of a word that is periodic from N on is a period from N on -/
theorem Per.down (hn : 0 < n) (h : Per f M p) (k : Per f N n) : Per f N p := by
  intro i hi
  have a := k.mul M (i + p) (by omega)
  have b := k.mul M i hi
  have c : M ≤ M * n := Nat.le_mul_of_pos_right M hn
  rw [← a, ← b, show i + p + M * n = i + M * n + p by omega]; exact h _ (by omega)
end

theorem letter_per (h l : List Bool) : Per (letter h l) h.length l.length := by
  intro i hi
  have := letter_add h l i 1 hi
  rwa [Nat.one_mul] at this

/-- (H, L) is the normal form of the word with the letters f -/
structure Nf (f : Nat → Bool) (H L : List Bool) : Prop where
  pos : 0 < L.length
  eq : ∀ i, letter H L i = f i
  minp : ∀ p N, 0 < p → Per f N p → L.length ≤ p
  minh : H.length = 0 ∨ f (H.length - 1 + L.length) ≠ f (H.length - 1)

theorem Nf.per {f H L} (n : Nf f H L) : Per f H.length L.length := by
  have := letter_per H L
  rwa [show letter H L = f from funext n.eq] at this

theorem ext_letters {H L H' L' : List Bool} (hh : H.length = H'.length) (hl : L.length = L'.length) (he : ∀ i, letter H L i = letter H' L' i) : H = H' ∧ L = L' := by
  constructor
  · refine List.ext_getElem hh fun i h1 h2 => ?_
    rw [← letter_head H L i h1, he, letter_head H' L' i h2]
  · refine List.ext_getElem hl fun i h1 h2 => ?_
    rw [← letter_loop H L i h1, he, hh, letter_loop H' L' i h2]

theorem Nf.unique {f H L H' L'} (a : Nf f H L) (b : Nf f H' L') : H = H' ∧ L = L' := by
  have e : L.length = L'.length := Nat.le_antisymm (a.minp _ _ b.pos b.per) (b.minp _ _ a.pos a.per)
  have e2 : H.length = H'.length := by
    rcases Nat.lt_trichotomy H.length H'.length with h | h | h
    · rcases b.minh with h2 | h2
      · omega
      · exact absurd (e ▸ a.per (H'.length - 1) (by omega)) h2
    · exact h
    · rcases a.minh with h2 | h2
      · omega
      · exact absurd (e ▸ b.per (H.length - 1) (by omega)) h2
  exact ext_letters e2 e fun i => (a.eq i).trans (b.eq i).symm

/-- the list f N, f (N+1), .. (p letters) -/
def tab (f : Nat → Bool) (N p : Nat) : List Bool := (List.range p).map fun i => f (N + i)
theorem tab_length (f : Nat → Bool) (N p : Nat) : (tab f N p).length = p := by simp [tab]
theorem tab_getElem (f : Nat → Bool) (N p i : Nat) (h : i < (tab f N p).length) : (tab f N p)[i] = f (N + i) := by simp [tab]
theorem tab_getD (f : Nat → Bool) (N p i : Nat) (h : i < p) : (tab f N p).getD i false = f (N + i) := by
  rw [List.getD_eq_getElem?_getD, List.getElem?_eq_getElem (by rw [tab_length]; exact h)]; simp [tab_getElem]
theorem tab_succ (f : Nat → Bool) (N p : Nat) : tab f N (p + 1) = tab f N p ++ [f (N + p)] := by simp [tab, List.range_succ]
theorem tab_cons (f : Nat → Bool) (N p : Nat) : tab f N (p + 1) = f N :: tab f (N + 1) p := by
  refine List.ext_getElem (by simp [tab]) fun i h1 h2 => ?_
  rw [tab_getElem]
  cases i with
  | zero => simp
  | succ i => simp [tab_getElem]; congr 1; omega
theorem tab_take (f : Nat → Bool) (N p k : Nat) (h : k ≤ p) : (tab f N p).take k = tab f N k := by
  refine List.ext_getElem (by simp [tab]; omega) fun i h1 h2 => ?_
  simp [tab_getElem]
theorem tab_drop (f : Nat → Bool) (N p k : Nat) : (tab f N p).drop k = tab f (N + k) (p - k) := by
  refine List.ext_getElem (by simp [tab]) fun i h1 h2 => ?_
  simp [tab_getElem]; congr 1; omega
theorem tab_congr {f g : Nat → Bool} {N M p : Nat} (h : ∀ i, i < p → f (N + i) = g (M + i)) : tab f N p = tab g M p :=
  List.ext_getElem (by simp [tab]) fun i h1 h2 => by rw [tab_getElem, tab_getElem]; exact h i (by rw [tab_length] at h1; exact h1)
theorem tab_letter_head (h l : List Bool) (k : Nat) (hk : k ≤ h.length) : tab (letter h l) 0 k = h.take k :=
  List.ext_getElem (by simp [tab]; omega) fun i h1 h2 => by
    rw [tab_getElem, Nat.zero_add, letter_head h l i (by rw [tab_length] at h1; omega)]; simp
theorem tab_letter_loop (h l : List Bool) (k : Nat) (hk : k ≤ l.length) : tab (letter h l) h.length k = l.take k :=
  List.ext_getElem (by simp [tab]; omega) fun i h1 h2 => by
    rw [tab_getElem, letter_loop h l i (by rw [tab_length] at h1; omega)]; simp

theorem letter_tab {f : Nat → Bool} {N p : Nat} (hp : 0 < p) (k : Per f N p) (i : Nat) : letter (tab f 0 N) (tab f N p) i = f i := by
  unfold letter
  rw [tab_length, tab_length]
  by_cases h : i < N
  · rw [if_pos h, tab_getD _ _ _ _ h, Nat.zero_add]
  · rw [if_neg h, tab_getD _ _ _ _ (Nat.mod_lt _ hp)]
    have := k.mul ((i - N) / p) (N + (i - N) % p) (by omega)
    rw [← this]
    congr 1
    have := Nat.div_add_mod (i - N) p
    rw [Nat.mul_comm] at this
    omega

/-- how a normal form is found: the least divisor of a period that is a period, and no letter more ahead -/
theorem Nf.found {f : Nat → Bool} {N n p h : Nat} (hn : 0 < n) (k : Per f N n) (hp : 0 < p) (kp : Per f h p) (hmin : ∀ d, 0 < d → n % d = 0 → Per f N d → p ≤ d) (hh : h = 0 ∨ f (h - 1 + p) ≠ f (h - 1)) :
    Nf f (tab f 0 h) (tab f h p) := by
  refine ⟨by rw [tab_length]; exact hp, letter_tab hp kp, fun q M hq kq => ?_, by rw [tab_length, tab_length]; exact hh⟩
  rw [tab_length]
  have g := Per.gcd q n (kq.mono (Nat.le_max_left M N)) (k.mono (Nat.le_max_right M N))
  have hg : 0 < Nat.gcd q n := Nat.gcd_pos_of_pos_left _ hq
  have := hmin (Nat.gcd q n) hg (Nat.mod_eq_zero_of_dvd (Nat.gcd_dvd_right q n)) (g.down hn k)
  exact Nat.le_trans this (Nat.gcd_le_left n hq)

/-- the least number that is good, below a bound -/
theorem least_of {P : Nat → Prop} (b : Nat) (hb : P b) : ∃ m, m ≤ b ∧ P m ∧ ∀ k, k < m → ¬ P k := by
  induction b using Nat.strongRecOn with
  | ind b ih =>
    by_cases h : ∃ k, k < b ∧ P k
    · obtain ⟨k, h1, h2⟩ := h
      obtain ⟨m, a, b', c⟩ := ih k h1 h2
      exact ⟨m, by omega, b', c⟩
    · exact ⟨b, Nat.le_refl _, hb, fun k hk hp => h ⟨k, hk, hp⟩⟩

theorem Nf.exists {f : Nat → Bool} {N n : Nat} (hn : 0 < n) (k : Per f N n) : ∃ H L, Nf f H L := by
  obtain ⟨p, h1, ⟨h2, h3, h4⟩, h5⟩ := least_of (P := fun d => 0 < d ∧ n % d = 0 ∧ Per f N d) n ⟨hn, Nat.mod_self n, k⟩
  obtain ⟨h, a1, a2, a3⟩ := least_of (P := fun h => Per f h p) N h4
  refine ⟨_, _, Nf.found hn k h2 a2 (fun d hd hd2 hd3 => ?_) ?_⟩
  · rcases Nat.lt_or_ge d p with h | h
    · exact absurd ⟨hd, hd2, hd3⟩ (h5 d h)
    · exact h
  · rcases Nat.eq_zero_or_pos h with h0 | h0
    · exact .inl h0
    · refine .inr fun e => a3 (h - 1) (by omega) fun i hi => ?_
      rcases Nat.lt_or_ge i h with h6 | h6
      · have : i = h - 1 := by omega
        rw [this]; exact e
      · exact a2 i h6

open Classical in
/-- the normal form of the word with the letters f -/
noncomputable def nf (f : Nat → Bool) : List Bool × List Bool := if h : ∃ x : List Bool × List Bool, Nf f x.1 x.2 then choose h else ([], [])
theorem nf_spec {f : Nat → Bool} {H L} (h : Nf f H L) : nf f = (H, L) := by
  have he : ∃ x : List Bool × List Bool, Nf f x.1 x.2 := ⟨(H, L), h⟩
  unfold nf
  rw [dif_pos he]
  have := (Classical.choose_spec he).unique h
  exact Prod.ext this.1 this.2
theorem nf_nf {f : Nat → Bool} {N n : Nat} (hn : 0 < n) (k : Per f N n) : Nf f (nf f).1 (nf f).2 := by
  obtain ⟨H, L, h⟩ := Nf.exists hn k
  rw [nf_spec h]; exact h
theorem nf_word (h l : List Bool) (hl : 0 < l.length) : Nf (letter h l) (nf (letter h l)).1 (nf (letter h l)).2 := nf_nf hl (letter_per h l)
theorem nf_letter {f : Nat → Bool} {N n : Nat} (hn : 0 < n) (k : Per f N n) (i : Nat) : letter (nf f).1 (nf f).2 i = f i := (nf_nf hn k).eq i
/-- the normal form is not longer -/
theorem nf_le {f : Nat → Bool} {N n : Nat} (hn : 0 < n) (k : Per f N n) : (nf f).2.length ≤ n ∧ (nf f).1.length ≤ N ∧ 0 < (nf f).2.length := by
  have h := nf_nf hn k
  refine ⟨h.minp _ _ hn k, ?_, h.pos⟩
  rcases h.minh with h0 | h0
  · omega
  · rcases Nat.lt_or_ge N (nf f).1.length with h1 | h1
    · have hk : Per f N (nf f).2.length := h.per.down hn k
      exact absurd (hk _ (by omega)) h0
    · exact h1
/-- equal letters, equal normal forms; and back -/
theorem nf_inj {f g : Nat → Bool} {N n M m : Nat} (hn : 0 < n) (k : Per f N n) (hm : 0 < m) (k' : Per g M m) : nf f = nf g ↔ ∀ i, f i = g i := by
  constructor
  · intro e i
    rw [← nf_letter hn k i, ← nf_letter hm k' i, e]
  · intro h
    rw [show f = g from funext h]
theorem nf_idem {f : Nat → Bool} {N n : Nat} (hn : 0 < n) (k : Per f N n) : nf (letter (nf f).1 (nf f).2) = nf f := by
  rw [show letter (nf f).1 (nf f).2 = f from funext (nf_letter hn k)]
end Go.Proofs.Ytjbpelkdciphnaa.W
