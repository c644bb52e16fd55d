/-
  Plain: an accepted image has small numbers.
-/
import Derived.Test.YtgmojjdojcmnaaaDoorIReadF
set_option linter.unusedVariables false
set_option linter.unusedSimpArgs false
namespace Go.Proofs.YtgmojjdojcmnaaaDoor

theorem rtsE_all {m : Img} : ∀ (l : List Rtn) (k : Nat), rtsE m k l = 0 → ∀ i r, l[i]? = some r → rtnE m (k + i) r = 0
  | [], k, _, i, r, hi => by simp at hi
  | a :: l, k, h, i, r, hi => by
    rw [rtsE] at h
    split at h
    · rename_i h0
      match i, hi with
      | 0, hi =>
        simp at hi
        subst hi
        exact h0
      | i + 1, hi =>
        have := rtsE_all l (k + 1) h i r (by simpa using hi)
        rwa [show k + 1 + i = k + (i + 1) by omega] at this
    · rename_i h0
      exact absurd h h0
theorem codeE_all {m : Img} {r : Rtn} {k : Nat} : ∀ (l : List Ins) (at_ : Nat), codeE m r k at_ l = 0 → ∀ i ∈ l, ∃ j : Nat, formB i j r.code.length = true ∧ rangeB m r k i = true
  | [], at_, _, i, hi => by simp at hi
  | a :: l, at_, h, i, hi => by
    rw [codeE] at h
    split at h
    · rename_i h0
      split at h
      · rename_i h1
        rcases List.mem_cons.1 hi with e | hi
        · subst e; exact ⟨at_, h0, h1⟩
        · exact codeE_all l (at_ + 1) h i hi
      · exact absurd h (by decide)
    · exact absurd h (by decide)
structure RtnOk (m : Img) (k : Nat) (r : Rtn) : Prop where
  name : nameB r.name = true
  ins : r.ins.length ≤ 64
  outs : r.outs.length ≤ 64
  init : r.init.length ≤ 16384
  code : r.code.length ≤ 32768
  regs : r.regs ≤ 32768
  insT : ∀ t ∈ r.ins, validB m.enums.length t = true
  outsT : ∀ t ∈ r.outs, validB m.enums.length t = true
  arity : (r.ins.length : Int) + r.outs.length ≤ r.regs
  initV : ∀ v ∈ r.init, inB v = true
  codeV : codeE m r k 0 r.code = 0
theorem rtnE_ok {m : Img} {k : Nat} {r : Rtn} (h : rtnE m k r = 0) : RtnOk m k r := by
  unfold rtnE at h
  by_cases h1 : nameB r.name = true
  · by_cases h2 : limB r = true
    · by_cases h3 : (r.ins.all (validB m.enums.length) && r.outs.all (validB m.enums.length)) = true
      · by_cases h4 : r.regs < r.ins.length + r.outs.length
        · simp [h1, h2, h3, h4] at h
        · by_cases h5 : r.init.all inB = true
          · simp [h1, h2, h3, h4, h5] at h
            unfold limB at h2
            simp at h2
            simp at h3 h5
            exact ⟨h1, h2.1.1.1.1, h2.1.1.1.2, h2.1.1.2, h2.1.2, h2.2, h3.1, h3.2, by omega, h5, h⟩
          · simp [h1, h2, h3, h4, h5] at h
      · simp [h1, h2, h3] at h
    · simp [h1, h2] at h
  · simp [h1] at h
theorem ins_in {m : Img} {k : Nat} {r : Rtn} (h : RtnOk m k r) (hk : k ≤ 96) {i : Ins} {j : Nat} (hf : formB i j r.code.length = true) (hr : rangeB m r k i = true) : InIns i := by
  have b1 := h.init
  have b2 := h.code
  have b3 := h.regs
  obtain ⟨op, a, b, c, d⟩ := i
  have hop : op = 1 ∨ op = 2 ∨ op = 3 ∨ op = 4 ∨ op = 5 ∨ op = 6 ∨ op = 7 ∨ op = 8 ∨ op = 9 ∨ op = 10 := by
    by_cases h0 : op = 1 ∨ op = 2 ∨ op = 3 ∨ op = 4 ∨ op = 5 ∨ op = 6 ∨ op = 7 ∨ op = 8 ∨ op = 9 ∨ op = 10
    · exact h0
    · simp only [not_or] at h0
      obtain ⟨n1, n2, n3, n4, n5, n6, n7, n8, n9, n10⟩ := h0
      unfold formB at hf
      simp [n1, n2, n3, n4, n5, n6, n7, n8, n9, n10] at hf
  unfold InIns In32
  rcases hop with rfl | rfl | rfl | rfl | rfl | rfl | rfl | rfl | rfl | rfl
  all_goals simp [formB] at hf
  all_goals simp [rangeB, withinB] at hr
  all_goals simp only []
  all_goals omega
theorem rtn_in {m : Img} {k : Nat} {r : Rtn} (h : RtnOk m k r) (he : m.enums.length ≤ 24) (hk : k ≤ 96) : InRtn r := by
  have hn : r.name.length ≤ 40 := by
    have := h.name
    unfold nameB at this
    simp at this
    exact this.1.2
  have tv : ∀ t, validB m.enums.length t = true → In32 t := by
    intro t ht
    unfold validB at ht
    simp at ht
    unfold In32
    omega
  have iv_ : ∀ t, inB t = true → In32 t := by
    intro t ht
    unfold inB at ht
    simp at ht
    unfold In32
    omega
  have b1 := h.ins
  have b2 := h.outs
  have b3 := h.init
  have b4 := h.code
  have b5 := h.regs
  have b6 := h.arity
  refine ⟨by omega, ⟨by omega, fun a ha => tv a (h.insT a ha)⟩, ⟨by omega, fun a ha => tv a (h.outsT a ha)⟩, by unfold In32; omega, ⟨by omega, fun a ha => iv_ a (h.initV a ha)⟩, ⟨by omega, fun a ha => ?_⟩⟩
  obtain ⟨j, hf, hr⟩ := codeE_all _ _ h.codeV a ha
  exact ins_in h hk hf hr
structure ImgOk (m : Img) : Prop where
  enums : m.enums.length ≤ 24
  rts : m.rts.length ≤ 96
  some_ : m.rts.length ≠ 0
  tags : ∀ t ∈ m.enums, tagB t = true
  each : ∀ k r, m.rts[k]? = some r → RtnOk m k r
theorem chk_ok {m : Img} (h : chk m = 0) : ImgOk m := by
  unfold chk at h
  by_cases h1 : 24 < m.enums.length ∨ 96 < m.rts.length
  · simp [h1] at h
  · by_cases h2 : m.enums.all tagB = true
    · by_cases h3 : m.rts.length = 0
      · rw [if_neg h1, h2, if_neg (by decide), if_pos h3] at h
        exact absurd h (by decide)
      · rw [if_neg h1, h2, if_neg (by decide), if_neg h3] at h
        refine ⟨by omega, by omega, h3, by simpa using h2, fun k r hr => ?_⟩
        have := rtsE_all m.rts 0 h k r hr
        rw [Nat.zero_add] at this
        exact rtnE_ok this
    · rw [if_neg h1, if_pos (by simp only [Bool.not_eq_true] at h2; rw [h2]; rfl)] at h
      exact absurd h (by decide)
theorem img_in {m : Img} (h : chk m = 0) : InImg m := by
  have ho := chk_ok h
  have b1 := ho.enums
  have b2 := ho.rts
  refine ⟨⟨by omega, fun a ha => ?_⟩, ⟨by omega, fun r hr => ?_⟩⟩
  · have := ho.tags a ha
    unfold tagB at this
    simp at this
    unfold In32
    omega
  · obtain ⟨k, hk⟩ := List.getElem?_of_mem hr
    have hlt : k < m.rts.length := (List.getElem?_eq_some_iff.1 hk).1
    exact rtn_in (ho.each k r hk) b1 (by omega)
end Go.Proofs.YtgmojjdojcmnaaaDoor
