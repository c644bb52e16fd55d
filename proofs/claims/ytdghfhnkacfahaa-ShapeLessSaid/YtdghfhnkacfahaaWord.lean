/-
  Plain mathematics of ultimately periodic words: letters, counts, normal forms. No Go in sight.
-/
namespace Go.Proofs.Ytdghfhnkacfahaa.W

/-- the number of ones of a list -/
def cnt (l : List Bool) : Nat := l.count true

theorem cnt_nil : cnt [] = 0 := rfl
theorem cnt_append (a b : List Bool) : cnt (a ++ b) = cnt a + cnt b := by simp [cnt]
theorem cnt_le (l : List Bool) : cnt l ≤ l.length := List.count_le_length
theorem cnt_take_le (l : List Bool) (n : Nat) : cnt (l.take n) ≤ cnt l := by
  have h := List.take_append_drop n l
  have := cnt_append (l.take n) (l.drop n)
  rw [h] at this; omega
theorem cnt_snoc (l : List Bool) (b : Bool) : cnt (l ++ [b]) = cnt l + b.toNat := by
  rw [cnt_append]; cases b <;> rfl
theorem cnt_take_succ (l : List Bool) (k : Nat) (h : k < l.length) : cnt (l.take (k + 1)) = cnt (l.take k) + (l[k]).toNat := by
  rw [List.take_succ_eq_append_getElem h, cnt_snoc]

/-- letter i of the word h(l) -/
def letter (h l : List Bool) (i : Nat) : Bool := if i < h.length then h.getD i false else l.getD ((i - h.length) % l.length) false

/-- the ones among the first n letters -/
def ones (h l : List Bool) (n : Nat) : Nat :=
  if n ≤ h.length then cnt (h.take n) else cnt h + (n - h.length) / l.length * cnt l + cnt (l.take ((n - h.length) % l.length))

/-- the error number of a word -/
def check (h l : List Bool) : Nat := if l.length = 0 then 5 else if 64 < h.length + l.length then 3 else 0

theorem check_ok {h l : List Bool} : check h l = 0 ↔ 0 < l.length ∧ h.length + l.length ≤ 64 := by
  unfold check; split <;> try split
  all_goals omega

theorem ones_zero (h l : List Bool) : ones h l 0 = 0 := by simp [ones, cnt]

theorem ones_succ (h l : List Bool) (n : Nat) (hl : 0 < l.length) : ones h l (n + 1) = ones h l n + (letter h l n).toNat := by
  unfold ones letter
  by_cases h1 : n < h.length
  · rw [if_pos (by omega), if_pos (by omega), if_pos h1, cnt_take_succ _ _ h1]
    simp [List.getD_eq_getElem?_getD, h1]
  · have hd : n + 1 - h.length = (n - h.length) + 1 := by omega
    have hm : (n - h.length) % l.length < l.length := Nat.mod_lt _ hl
    rw [if_neg (by omega), if_neg h1, hd]
    have e0 : (if n ≤ h.length then cnt (h.take n) else cnt h + (n - h.length) / l.length * cnt l + cnt (l.take ((n - h.length) % l.length)))
        = cnt h + (n - h.length) / l.length * cnt l + cnt (l.take ((n - h.length) % l.length)) := by
      split
      · have : n = h.length := by omega
        subst this; simp [cnt]
      · rfl
    rw [e0]
    generalize hx : n - h.length = x at *
    have hg : l.getD (x % l.length) false = l[x % l.length] := by simp [List.getD_eq_getElem?_getD, hm]
    rw [hg]
    have hk := cnt_take_succ l (x % l.length) hm
    rcases Nat.lt_or_ge (x % l.length + 1) l.length with h2 | h2
    · have e1 : (x + 1) / l.length = x / l.length := by
        have := Nat.div_add_mod x l.length
        rw [Nat.div_eq_iff hl]
        have hc : l.length * (x / l.length) = x / l.length * l.length := Nat.mul_comm _ _
        omega
      have e2 : (x + 1) % l.length = x % l.length + 1 := by
        have a := Nat.div_add_mod x l.length
        have b := Nat.div_add_mod (x + 1) l.length
        rw [e1] at b; omega
      rw [e1, e2, hk]; omega
    · have e3 : x % l.length + 1 = l.length := by omega
      have e1 : (x + 1) / l.length = x / l.length + 1 := by
        have := Nat.div_add_mod x l.length
        rw [Nat.div_eq_iff hl]
        have hc : l.length * (x / l.length) = x / l.length * l.length := Nat.mul_comm _ _
        rw [Nat.add_mul]
        omega
      have e2 : (x + 1) % l.length = 0 := by
        have a := Nat.div_add_mod x l.length
        have b := Nat.div_add_mod (x + 1) l.length
        rw [e1, Nat.mul_add] at b; omega
      rw [e1, e2]
      rw [e3, List.take_length] at hk
      rw [Nat.add_mul]
      simp only [List.take_zero, cnt_nil]
      omega

theorem ones_le (h l : List Bool) (n : Nat) (hl : 0 < l.length) : ones h l n ≤ n := by
  induction n with
  | zero => simp [ones_zero]
  | succ n ih => rw [ones_succ _ _ _ hl]; have : (letter h l n).toNat ≤ 1 := Bool.toNat_le _; omega

/-- letters behind the head repeat -/
theorem letter_add (h l : List Bool) (i m : Nat) (hi : h.length ≤ i) : letter h l (i + m * l.length) = letter h l i := by
  unfold letter
  rw [if_neg (by omega), if_neg (by omega)]
  have : i + m * l.length - h.length = (i - h.length) + m * l.length := by omega
  rw [this, Nat.add_mul_mod_self_right]

theorem letter_head (h l : List Bool) (i : Nat) (hi : i < h.length) : letter h l i = h[i] := by
  unfold letter; rw [if_pos hi]; simp [List.getD_eq_getElem?_getD, hi]
theorem letter_loop (h l : List Bool) (i : Nat) (hi : i < l.length) : letter h l (h.length + i) = l[i] := by
  unfold letter; rw [if_neg (by omega)]
  have : h.length + i - h.length = i := by omega
  rw [this, Nat.mod_eq_of_lt hi]; simp [List.getD_eq_getElem?_getD, hi]

/-- a word whose letters agree on two counts: counts depend on letters alone -/
theorem ones_congr {h l h' l' : List Bool} (hl : 0 < l.length) (hl' : 0 < l'.length) (he : ∀ i, letter h l i = letter h' l' i) (n : Nat) :
    ones h l n = ones h' l' n := by
  induction n with
  | zero => simp [ones_zero]
  | succ n ih => rw [ones_succ _ _ _ hl, ones_succ _ _ _ hl', ih, he]

theorem ones_head (h l : List Bool) : ones h l h.length = cnt h := by simp [ones]
theorem ones_head_le (h l : List Bool) (n : Nat) (hn : n ≤ h.length) : ones h l n = cnt (h.take n) := by simp [ones, hn]

theorem ones_add_loop (h l : List Bool) (n m : Nat) (hl : 0 < l.length) (hn : h.length ≤ n) : ones h l (n + m * l.length) = ones h l n + m * cnt l := by
  have key : ∀ x, h.length ≤ x → ones h l x = cnt h + (x - h.length) / l.length * cnt l + cnt (l.take ((x - h.length) % l.length)) := by
    intro x hx
    unfold ones
    split
    · have : x = h.length := by omega
      subst this; simp [cnt]
    · rfl
  rw [key _ (by omega), key _ hn]
  have e : n + m * l.length - h.length = (n - h.length) + m * l.length := by omega
  rw [e, Nat.add_mul_div_right _ _ hl, Nat.add_mul_mod_self_right, Nat.add_mul]
  omega

end Go.Proofs.Ytdghfhnkacfahaa.W
