/-
  Plain: what is read from bytes without an error gives these bytes back.
-/
import Derived.Test.YtgmojjdojcmnaaaDoorIGetF
set_option linter.unusedVariables false
set_option linter.unusedSimpArgs false
namespace Go.Proofs.YtgmojjdojcmnaaaDoor

theorem enc_dec (a b c d : UInt8) : enc (dec a b c d) = [a, b, c, d] := enc_num4 a b c d _ (dec_mod a b c d)
/-- a reader whose bytes are given back -/
def Bk {α : Type} (f : St → α × St) (g : α → List UInt8) : Prop := ∀ s, (f s).2.e = 0 → s.e = 0 ∧ s.rest = g (f s).1 ++ (f s).2.rest
theorem numS_bk : Bk numS enc := by
  intro s h
  unfold numS at h ⊢
  by_cases he : s.e = 0
  · rw [if_pos he] at h ⊢
    by_cases h4 : s.rest.length < 4
    · rw [if_pos h4] at h
      exact absurd (show (4 : Int) = 0 from h) (by decide)
    · rw [if_neg h4] at h ⊢
      refine ⟨he, ?_⟩
      obtain ⟨r, e⟩ := s
      simp only [] at h4 ⊢
      match r, h4 with
      | a :: b :: c :: d :: r, _ =>
        simp only [List.getD_cons_zero, List.getD_cons_succ, List.drop_succ_cons, List.drop_zero, enc_dec]
        rfl
      | [], h4 => exact absurd (by simp) h4
      | [_], h4 => exact absurd (by simp) h4
      | [_, _], h4 => exact absurd (by simp) h4
      | [_, _, _], h4 => exact absurd (by simp) h4
  · rw [if_neg he] at h
    exact absurd h he
theorem manyS_bk : Bk manyS enc := by
  intro s h
  unfold manyS at h ⊢
  dsimp only at h ⊢
  by_cases he : (numS s).2.e = 0
  · rw [if_pos he] at h ⊢
    by_cases hr : (numS s).1 < 0 ∨ 65536 < (numS s).1
    · rw [if_pos hr] at h
      exact absurd (show (5 : Int) = 0 from h) (by decide)
    · rw [if_neg hr] at h ⊢
      exact numS_bk s he
  · rw [if_neg he] at h
    exact absurd h he
theorem manyS_nat (s : St) : ∃ n : Nat, (manyS s).1 = n := by
  have : 0 ≤ (manyS s).1 := by
    unfold manyS
    dsimp only
    split
    · split
      · exact Int.le_refl 0
      · omega
    · exact Int.le_refl 0
  exact ⟨(manyS s).1.toNat, by omega⟩
theorem textS_bk : Bk textS (fun t => enc t.length ++ t) := by
  intro s h
  obtain ⟨n, hn⟩ := manyS_nat s
  unfold textS at h ⊢
  dsimp only at h ⊢
  by_cases hl : ((manyS s).2.rest.length : Int) < (manyS s).1
  · rw [if_pos hl] at h
    exfalso
    unfold failS at h
    split at h
    · exact absurd (show (4 : Int) = 0 from h) (by decide)
    · rename_i h2; exact h2 h
  · rw [if_neg hl] at h ⊢
    obtain ⟨h1, h2⟩ := manyS_bk s h
    refine ⟨h1, ?_⟩
    rw [hn] at hl ⊢
    rw [Int.toNat_natCast]
    have e : ((manyS s).2.rest.take n).length = n := by rw [List.length_take]; omega
    simp only [e]
    rw [h2, hn, List.append_assoc, List.take_append_drop]
theorem allF_bk : ∀ (n : Nat) (acc : List Int) (s : St), (allF n acc s).2.e = 0 → ∃ l, (allF n acc s).1 = acc ++ l ∧ l.length = n ∧ s.e = 0 ∧ s.rest = l.flatMap enc ++ (allF n acc s).2.rest
  | 0, acc, s, h => ⟨[], by simp [allF], rfl, h, by simp [allF]⟩
  | n + 1, acc, s, h => by
    rw [allF] at h ⊢
    by_cases he : s.e = 0
    · rw [if_pos he] at h ⊢
      obtain ⟨l, h1, h2, h3, h4⟩ := allF_bk n _ _ h
      obtain ⟨_, h5⟩ := numS_bk s h3
      refine ⟨(numS s).1 :: l, by rw [h1]; simp, by rw [List.length_cons, h2], he, ?_⟩
      rw [List.flatMap_cons, List.append_assoc, ← h4, h5]
    · rw [if_neg he] at h
      exact absurd h he
theorem allS_bk : Bk allS encL := by
  intro s h
  unfold allS at h ⊢
  obtain ⟨l, h1, h2, h3, h4⟩ := allF_bk _ _ _ h
  obtain ⟨h5, h6⟩ := manyS_bk s h3
  obtain ⟨n, hn⟩ := manyS_nat s
  refine ⟨h5, ?_⟩
  rw [h1, List.nil_append]
  unfold encL
  rw [h6, List.append_assoc, ← h4]
  have e : (manyS s).1 = (l.length : Int) := by rw [h2, hn]; rfl
  rw [e]
theorem insS_bk : Bk insS encI := by
  intro s h
  unfold insS at h ⊢
  dsimp only at h ⊢
  obtain ⟨a4, b4⟩ := numS_bk _ h
  obtain ⟨a3, b3⟩ := numS_bk _ a4
  obtain ⟨a2, b2⟩ := numS_bk _ a3
  obtain ⟨a1, b1⟩ := numS_bk _ a2
  obtain ⟨a0, b0⟩ := numS_bk _ a1
  refine ⟨a0, ?_⟩
  unfold encI
  simp only [List.flatMap_cons, List.flatMap_nil, List.append_nil, List.append_assoc]
  rw [← b4, ← b3, ← b2, ← b1, b0]
theorem codeF_bk : ∀ (n : Nat) (acc : List Ins) (s : St), (codeF n acc s).2.e = 0 → ∃ l, (codeF n acc s).1 = acc ++ l ∧ l.length = n ∧ s.e = 0 ∧ s.rest = l.flatMap encI ++ (codeF n acc s).2.rest
  | 0, acc, s, h => ⟨[], by simp [codeF], rfl, h, by simp [codeF]⟩
  | n + 1, acc, s, h => by
    rw [codeF] at h ⊢
    by_cases he : s.e = 0
    · rw [if_pos he] at h ⊢
      obtain ⟨l, h1, h2, h3, h4⟩ := codeF_bk n _ _ h
      obtain ⟨_, h5⟩ := insS_bk s h3
      refine ⟨(insS s).1 :: l, by rw [h1]; simp, by rw [List.length_cons, h2], he, ?_⟩
      rw [List.flatMap_cons, List.append_assoc, ← h4, h5]
    · rw [if_neg he] at h
      exact absurd h he
theorem codeS_bk : Bk codeS (fun l => enc l.length ++ l.flatMap encI) := by
  intro s h
  unfold codeS at h ⊢
  obtain ⟨l, h1, h2, h3, h4⟩ := codeF_bk _ _ _ h
  obtain ⟨h5, h6⟩ := manyS_bk s h3
  obtain ⟨n, hn⟩ := manyS_nat s
  refine ⟨h5, ?_⟩
  rw [h1, List.nil_append]
  rw [h6, List.append_assoc, ← h4]
  have e : (manyS s).1 = (l.length : Int) := by rw [h2, hn]; rfl
  rw [e]
theorem rtnS_bk : Bk rtnS encR := by
  intro s h
  unfold rtnS at h ⊢
  dsimp only at h ⊢
  obtain ⟨a5, b5⟩ := codeS_bk _ h
  obtain ⟨a4, b4⟩ := allS_bk _ a5
  obtain ⟨a3, b3⟩ := numS_bk _ a4
  obtain ⟨a2, b2⟩ := allS_bk _ a3
  obtain ⟨a1, b1⟩ := allS_bk _ a2
  obtain ⟨a0, b0⟩ := textS_bk _ a1
  refine ⟨a0, ?_⟩
  unfold encR
  simp only [List.append_assoc] at b0 b5 ⊢
  rw [← b5, ← b4, ← b3, ← b2, ← b1, b0]
theorem rtsF_bk : ∀ (n : Nat) (acc : List Rtn) (s : St), (rtsF n acc s).2.e = 0 → ∃ l, (rtsF n acc s).1 = acc ++ l ∧ l.length = n ∧ s.e = 0 ∧ s.rest = l.flatMap encR ++ (rtsF n acc s).2.rest
  | 0, acc, s, h => ⟨[], by simp [rtsF], rfl, h, by simp [rtsF]⟩
  | n + 1, acc, s, h => by
    rw [rtsF] at h ⊢
    by_cases he : s.e = 0
    · rw [if_pos he] at h ⊢
      obtain ⟨l, h1, h2, h3, h4⟩ := rtsF_bk n _ _ h
      obtain ⟨_, h5⟩ := rtnS_bk s h3
      refine ⟨(rtnS s).1 :: l, by rw [h1]; simp, by rw [List.length_cons, h2], he, ?_⟩
      rw [List.flatMap_cons, List.append_assoc, ← h4, h5]
    · rw [if_neg he] at h
      exact absurd h he
theorem imgS_bk : Bk imgS (fun m => encL m.enums ++ enc m.rts.length ++ m.rts.flatMap encR) := by
  intro s h
  unfold imgS at h ⊢
  dsimp only at h ⊢
  obtain ⟨l, h1, h2, h3, h4⟩ := rtsF_bk _ _ _ h
  obtain ⟨h5, h6⟩ := manyS_bk _ h3
  obtain ⟨h7, h8⟩ := allS_bk _ h5
  obtain ⟨n, hn⟩ := manyS_nat (allS s).2
  refine ⟨h7, ?_⟩
  rw [h1, List.nil_append, h8, h6]
  have e : (manyS (allS s).2).1 = (l.length : Int) := by rw [h2, hn]; rfl
  rw [h4, ← e]
  simp only [List.append_assoc]

/-- bytes that are an image are the image's bytes -/
theorem getV_back {b : List UInt8} {m : Img} (h : getV b = (m, 0)) : putB m = b ∧ chk m = 0 ∧ m = (imgS ⟨(b.take (b.length - 4)).drop 4, 0⟩).1 := by
  unfold getV at h
  by_cases h8 : b.length < 8
  · rw [if_pos h8] at h
    injection h with _ h
    exact absurd h (by decide)
  · rw [if_neg h8] at h
    dsimp only at h
    by_cases hs : enc (sumB (b.take (b.length - 4))) ≠ b.drop (b.length - 4)
    · rw [if_pos hs] at h
      injection h with _ h
      exact absurd h (by decide)
    · rw [if_neg hs] at h
      by_cases hm : b.take 4 ≠ [83, 89, 78, 49]
      · rw [if_pos hm] at h
        injection h with _ h
        exact absurd h (by decide)
      · rw [if_neg hm] at h
        have hs' : enc (sumB (b.take (b.length - 4))) = b.drop (b.length - 4) := Classical.not_not.1 hs
        have hm' : b.take 4 = [83, 89, 78, 49] := Classical.not_not.1 hm
        obtain ⟨q, hq⟩ : ∃ q, imgS ⟨(b.take (b.length - 4)).drop 4, 0⟩ = q := ⟨_, rfl⟩
        have hbk := imgS_bk ⟨(b.take (b.length - 4)).drop 4, 0⟩
        rw [hq] at h hbk ⊢
        by_cases he : q.2.e = 0
        · rw [if_pos he] at h
          by_cases hr : q.2.rest = []
          · rw [if_pos hr] at h
            by_cases hc : chk q.1 = 0
            · rw [if_pos hc] at h
              injection h with h _
              obtain ⟨_, h2⟩ := hbk he
              rw [hr, List.append_nil] at h2
              rw [← h]
              refine ⟨?_, hc, rfl⟩
              have hB : bodyB q.1 = b.take (b.length - 4) := by
                unfold bodyB
                have e1 : b.take (b.length - 4) = (b.take (b.length - 4)).take 4 ++ (b.take (b.length - 4)).drop 4 := (List.take_append_drop _ _).symm
                rw [e1]
                have e2 : (b.take (b.length - 4)).take 4 = [83, 89, 78, 49] := by rw [List.take_take, Nat.min_eq_left (by omega), hm']
                rw [e2]
                simp only [] at h2
                rw [h2]
                simp only [List.append_assoc]
              unfold putB
              rw [hB, hs', List.take_append_drop]
            · rw [if_neg hc] at h
              injection h with _ h
              exact absurd h hc
          · rw [if_neg hr] at h
            rw [if_neg (by decide)] at h
            injection h with _ h
            exact absurd h (by decide)
        · rw [if_neg he, if_neg he] at h
          injection h with _ h
          exact absurd h he
end Go.Proofs.YtgmojjdojcmnaaaDoor
