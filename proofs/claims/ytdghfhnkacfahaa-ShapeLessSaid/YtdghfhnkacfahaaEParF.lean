/-
  Plain: the texts of words, read.
-/
import Derived.Test.YtdghfhnkacfahaaELet
import Derived.Lib.Strings
import Derived.Lib.Bytealg
set_option linter.unusedVariables false
set_option linter.unusedSimpArgs false
namespace Go.Proofs.Ytdghfhnkacfahaa
open Go.RowKit Go.BigFrame

theorem isDig_digits (l : List Bool) : ∀ c ∈ digitsB l, isDig c = true := by
  intro c hc
  obtain ⟨b, _, rfl⟩ := List.mem_map.1 hc
  cases b <;> rfl
theorem allDig_digits (l : List Bool) : allDig (digitsB l) = true := by unfold allDig; rw [List.all_eq_true]; exact isDig_digits l
theorem bits_digits (l : List Bool) : bitsL (digitsB l) = l := by
  unfold bitsL digitsB
  rw [List.map_map]
  conv => rhs; rw [← List.map_id l]
  apply List.map_congr_left
  intro b _
  cases b <;> rfl
theorem digits_bits {l : List UInt8} (h : allDig l = true) : digitsB (bitsL l) = l := by
  unfold bitsL digitsB
  rw [List.map_map]
  conv => rhs; rw [← List.map_id l]
  apply List.map_congr_left
  intro c hc
  have := (List.all_eq_true.1 h) c hc
  simp only [isDig, Bool.or_eq_true, beq_iff_eq] at this
  rcases this with rfl | rfl <;> rfl
theorem takeWhile_stop {p : UInt8 → Bool} {a b : List UInt8} {c : UInt8} (ha : ∀ x ∈ a, p x = true) (hc : p c = false) : (a ++ c :: b).takeWhile p = a := by
  induction a with
  | nil => simp [List.takeWhile_cons, hc]
  | cons x a ih =>
    rw [List.cons_append, List.takeWhile_cons, if_pos (ha x (by simp)), ih fun y hy => ha y (by simp [hy])]
theorem pre_digits (h : List Bool) (c : UInt8) (t : List UInt8) (hc : isDig c = false) : pre (digitsB h ++ c :: t) = digitsB h := takeWhile_stop (isDig_digits h) hc

def IsText (s : List UInt8) (h l : List Bool) : Prop := s = textB h l ∧ Valid h l
theorem textB_eq (h l : List Bool) : textB h l = digitsB h ++ 40 :: (digitsB l ++ [41]) := by simp [textB]
theorem textB_inj {h l h' l' : List Bool} (e : textB h l = textB h' l') : h = h' ∧ l = l' := by
  rw [textB_eq, textB_eq] at e
  have e1 := congrArg pre e
  rw [pre_digits _ _ _ rfl, pre_digits _ _ _ rfl] at e1
  have hh : h = h' := by rw [← bits_digits h, e1, bits_digits]
  subst hh
  have e2 := (List.append_cancel_left e)
  simp only [List.cons.injEq, true_and] at e2
  have e3 := List.append_cancel_right e2
  exact ⟨rfl, by rw [← bits_digits l, e3, bits_digits]⟩
open Classical in
noncomputable def parseV (s : List UInt8) : (List Bool × List Bool) × Int :=
  if 66 < s.length then (([], []), 3) else if h : ∃ p : List Bool × List Bool, IsText s p.1 p.2 then (Classical.choose h, 0) else (([], []), 5)
theorem parseV_long {s : List UInt8} (h : 66 < s.length) : parseV s = (([], []), 3) := by unfold parseV; rw [if_pos h]
theorem parseV_text {s : List UInt8} (hn : ¬ 66 < s.length) {h l : List Bool} (t : IsText s h l) : parseV s = ((h, l), 0) := by
  unfold parseV
  rw [if_neg hn]
  have he : ∃ p : List Bool × List Bool, IsText s p.1 p.2 := ⟨(h, l), t⟩
  rw [dif_pos he]
  have k := Classical.choose_spec he
  have := textB_inj (k.1.symm.trans t.1)
  rw [show Classical.choose he = (h, l) from Prod.ext this.1 this.2]
theorem parseV_none {s : List UInt8} (hn : ¬ 66 < s.length) (t : ∀ h l, ¬ IsText s h l) : parseV s = (([], []), 5) := by
  unfold parseV
  rw [if_neg hn, dif_neg]
  rintro ⟨p, hp⟩
  exact t _ _ hp
theorem text_length {s h l} (t : IsText s h l) : s.length ≤ 66 := by
  rw [t.1, textB_eq]
  have := t.2.2
  simp [digitsB_length]
  omega

/-! the program's road -/
def CutP (l f r : List UInt8) (b : Bool) : Prop := (b = true → l = f ++ 40 :: r ∧ 40 ∉ f) ∧ (b = false → 40 ∉ l)
theorem cut_some {l : List UInt8} {i : Nat} (h1 : l[i]? = some 40) (h2 : ∀ j, j < i → l[j]? ≠ some 40) : CutP l (l.take i) (l.drop (i + 1)) true := by
  refine ⟨fun _ => ⟨?_, fun hm => ?_⟩, fun e => by cases e⟩
  · obtain ⟨hi, e⟩ := List.getElem?_eq_some_iff.1 h1
    rw [← e, ← List.drop_eq_getElem_cons hi, List.take_append_drop]
  · obtain ⟨j, hj, e⟩ := List.getElem_of_mem hm
    rw [List.length_take] at hj
    refine h2 j (by omega) ?_
    rw [List.getElem_take] at e
    rw [List.getElem?_eq_getElem (by omega), e]
theorem indexByte_spec (l : List UInt8) (c : UInt8) : (Lib.indexByte l c = -1 ∧ c ∉ l) ∨ ∃ i : Nat, Lib.indexByte l c = (i : Nat) ∧ i < l.length ∧ l[i]? = some c ∧ ∀ j, j < i → l[j]? ≠ some c := by
  induction l with
  | nil => exact .inl ⟨rfl, by simp⟩
  | cons b l ih =>
    unfold Lib.indexByte
    by_cases hb : b = c
    · subst hb
      exact .inr ⟨0, by simp, by simp, by simp, fun j hj => by omega⟩
    · rw [if_neg (by simpa using hb)]
      rcases ih with ⟨h1, h2⟩ | ⟨i, h1, h2, h3, h4⟩
      · rw [h1]; exact .inl ⟨rfl, by simp [h2]; exact fun e => hb e.symm⟩
      · rw [h1]
        refine .inr ⟨i + 1, ?_, by simpa using h2, by simpa using h3, fun j hj => ?_⟩
        · rw [if_neg (by simp)]; omega
        · cases j with
          | zero => simpa using hb
          | succ j => simpa using h4 j (by omega)
theorem cut_unique {f r f' r' : List UInt8} (h : 40 ∉ f) (h' : 40 ∉ f') (e : f ++ 40 :: r = f' ++ 40 :: r') : f = f' ∧ r = r' := by
  induction f generalizing f' with
  | nil =>
    cases f' with
    | nil => simp at e; exact ⟨rfl, e⟩
    | cons a f' => simp at e; exact absurd (by rw [← e.1]; simp) h'
  | cons a f ih =>
    cases f' with
    | nil => simp at e; exact absurd (by rw [e.1]; simp) h
    | cons b f' =>
      simp at e
      obtain ⟨rfl, e⟩ := e
      obtain ⟨rfl, rfl⟩ := ih (by simp at h; exact h.2) (by simp at h'; exact h'.2) e
      exact ⟨rfl, rfl⟩
theorem forty_digits (h : List Bool) : (40 : UInt8) ∉ digitsB h := fun hm => by have := isDig_digits h _ hm; simp [isDig] at this
def SufP (r back : List UInt8) (b : Bool) : Prop := (b = true → r = back ++ [41]) ∧ (b = false → ∀ x, r ≠ x ++ [41])
theorem suf_is (r : List UInt8) : SufP r (Lib.trimSuffix r [41]) (Lib.hasSuffix r [41]) := by
  refine ⟨fun h => ?_, fun h x e => ?_⟩
  · unfold Lib.trimSuffix
    rw [if_pos h]
    unfold Lib.hasSuffix at h
    rw [List.isSuffixOf_iff_suffix] at h
    obtain ⟨t, rfl⟩ := h
    simp
  · unfold Lib.hasSuffix at h
    rw [← Bool.not_eq_true, List.isSuffixOf_iff_suffix] at h
    exact h ⟨x, e.symm⟩
/-- all parts of a text are as they must be -/
theorem parts {l f r back : List UInt8} {b1 b2 : Bool} {h k : List Bool} (hc : CutP l f r b1) (hs : SufP r back b2) (t : IsText l h k) : b1 = true ∧ b2 = true ∧ f = digitsB h ∧ back = digitsB k := by
  obtain ⟨e, hv⟩ := t
  rw [textB_eq] at e
  cases b1 with
  | false => exact absurd (by rw [e]; simp) (hc.2 rfl)
  | true =>
    obtain ⟨e1, h1⟩ := hc.1 rfl
    obtain ⟨rfl, rfl⟩ := cut_unique h1 (forty_digits h) (e1.symm.trans e)
    cases b2 with
    | false => exact absurd rfl (hs.2 rfl _)
    | true => exact ⟨rfl, rfl, rfl, (List.append_cancel_right (hs.1 rfl)).symm⟩
theorem parse_yes {l f r back : List UInt8} (hc : CutP l f r true) (hs : SufP r back true) (h1 : allDig f = true) (h2 : allDig back = true) (hv : Valid (bitsL f) (bitsL back)) (hn : ¬ 66 < l.length) : parseV l = ((bitsL f, bitsL back), 0) := by
  refine parseV_text hn ⟨?_, hv⟩
  rw [textB_eq, digits_bits h1, digits_bits h2, (hc.1 rfl).1, hs.1 rfl]
theorem parse_no {l f r back : List UInt8} {b1 b2 : Bool} (hc : CutP l f r b1) (hs : SufP r back b2) (hn : ¬ 66 < l.length) (h : b1 = true → b2 = true → allDig f = true → allDig back = true → ¬ Valid (bitsL f) (bitsL back)) : parseV l = (([], []), 5) := by
  refine parseV_none hn fun a b t => ?_
  obtain ⟨h1, h2, rfl, rfl⟩ := parts hc hs t
  have := h h1 h2 (allDig_digits _) (allDig_digits _)
  rw [bits_digits, bits_digits] at this
  exact this t.2

/-! the reference's road -/
theorem pre_all (l : List UInt8) : allDig (pre l) = true := by
  unfold allDig pre
  exact List.all_takeWhile
theorem ref_no1 {l : List UInt8} (h : (pre l).length = l.length) (hn : ¬ 66 < l.length) : parseV l = (([], []), 5) := by
  refine parseV_none hn fun a b t => ?_
  rw [t.1, textB_eq, pre_digits _ _ _ rfl] at h
  simp at h
theorem ref_no2 {l : List UInt8} {c : UInt8} (h : l[(pre l).length]? = some c) (hc : c ≠ 40) (hn : ¬ 66 < l.length) : parseV l = (([], []), 5) := by
  refine parseV_none hn fun a b t => ?_
  rw [t.1, textB_eq, pre_digits _ _ _ rfl] at h
  simp at h
  exact hc h.symm
theorem split_pre {l : List UInt8} {c : UInt8} (h : l[(pre l).length]? = some c) : l = pre l ++ c :: l.drop ((pre l).length + 1) := by
  obtain ⟨hi, e⟩ := List.getElem?_eq_some_iff.1 h
  have h1 : pre l = l.take (pre l).length := by
    have : pre l <+: l := List.takeWhile_prefix _
    exact (List.prefix_iff_eq_take.1 this)
  conv => lhs; rw [← List.take_append_drop (pre l).length l, ← h1, List.drop_eq_getElem_cons hi, e]
theorem ref_parts {l h k} (t : IsText l h k) : pre l = digitsB h ∧ l.drop ((pre l).length + 1) = digitsB k ++ [41] ∧ pre (l.drop ((pre l).length + 1)) = digitsB k := by
  have h1 : pre l = digitsB h := by rw [t.1, textB_eq, pre_digits _ _ _ rfl]
  have h2 : l.drop ((pre l).length + 1) = digitsB k ++ [41] := by
    rw [h1, t.1, textB_eq, ← List.drop_drop, List.drop_left]; rfl
  exact ⟨h1, h2, by rw [h2]; exact pre_digits _ _ _ rfl⟩
theorem ref_no3 {l : List UInt8} (hn : ¬ 66 < l.length) (h : (pre l).length + 1 + (pre (l.drop ((pre l).length + 1))).length + 1 ≠ l.length) : parseV l = (([], []), 5) := by
  refine parseV_none hn fun a b t => ?_
  obtain ⟨h1, h2, h3⟩ := ref_parts t
  rw [h3, h1] at h
  refine h ?_
  rw [t.1, textB_eq]; simp; omega
theorem ref_no4 {l : List UInt8} (hn : ¬ 66 < l.length) {c : UInt8} (h : l[(pre l).length + 1 + (pre (l.drop ((pre l).length + 1))).length]? = some c) (hc : c ≠ 41) : parseV l = (([], []), 5) := by
  refine parseV_none hn fun a b t => ?_
  obtain ⟨h1, h2, h3⟩ := ref_parts t
  rw [← List.getElem?_drop, h3, h2] at h
  simp at h
  exact hc h.symm
theorem ref_no5 {l : List UInt8} (hn : ¬ 66 < l.length) (hv : ¬ Valid (bitsL (pre l)) (bitsL (pre (l.drop ((pre l).length + 1))))) : parseV l = (([], []), 5) := by
  refine parseV_none hn fun a b t => ?_
  obtain ⟨h1, h2, h3⟩ := ref_parts t
  rw [h3, h1, bits_digits, bits_digits] at hv
  exact hv t.2
theorem ref_yes {l : List UInt8} (hn : ¬ 66 < l.length) (h1 : l[(pre l).length]? = some 40) (h2 : (pre l).length + 1 + (pre (l.drop ((pre l).length + 1))).length + 1 = l.length)
    (h3 : l[(pre l).length + 1 + (pre (l.drop ((pre l).length + 1))).length]? = some 41) (hv : Valid (bitsL (pre l)) (bitsL (pre (l.drop ((pre l).length + 1))))) : parseV l = ((bitsL (pre l), bitsL (pre (l.drop ((pre l).length + 1)))), 0) := by
  refine parseV_text hn ⟨?_, hv⟩
  have e1 := split_pre h1
  have h3' := h3
  rw [← List.getElem?_drop] at h3'
  have e2 := split_pre h3'
  rw [textB_eq, digits_bits (pre_all _), digits_bits (pre_all _)]
  have e3 : (l.drop ((pre l).length + 1)).drop ((pre (l.drop ((pre l).length + 1))).length + 1) = [] := by
    apply List.drop_eq_nil_of_le
    rw [List.length_drop]; omega
  rw [e3] at e2
  rw [← e2]
  exact e1
end Go.Proofs.Ytdghfhnkacfahaa
