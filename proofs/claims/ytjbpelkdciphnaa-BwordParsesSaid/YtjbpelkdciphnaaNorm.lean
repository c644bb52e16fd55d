/-
  Contracts: bword.Norm, bword.Same.
-/
import Derived.Test.YtjbpelkdciphnaaNormal
set_option linter.unusedVariables false
namespace Go.Proofs.Ytjbpelkdciphnaa
open Go.RowKit Go.BigFrame

open Classical in
noncomputable def normW (h l : List Bool) : List Bool × List Bool := if Valid h l then W.nf (W.letter h l) else ([], [])
theorem normW_ok {h l : List Bool} (hv : Valid h l) : normW h l = W.nf (W.letter h l) := by unfold normW; rw [if_pos hv]
theorem normW_bad {h l : List Bool} (hv : ¬ Valid h l) : normW h l = ([], []) := by unfold normW; rw [if_neg hv]
theorem RB.nil_ (w : World) : RB w none 0 [] := ⟨Reads.none_, Nat.le_refl _, by omega, by simp⟩

set_option maxHeartbeats 800000 in
theorem norm_any {w0 : World} {A B c d h l} (x : RW w0 A c B d h l) (w : World) [After w0 w] :
    Calls Try.prog 20 #[.agg #[.slice A h.length c, .slice B l.length d]] w fun e w' => ∃ A' c' B' d', e = .returned (.agg #[.slice A' (normW h l).1.length c', .slice B' (normW h l).2.length d']) ∧
      RW w' A' c' B' d' (normW h l).1 (normW h l).2 ∧ ∃ y, w' = w.more y := by
  replace x := x.here w
  have HZ : Hid (∀ U : World, After ((w.alloc (.cells #[.slice A h.length c, .slice B l.length d] 24)).alloc (.cells #[.slice none 0 0, .slice none 0 0] 24)) U → Blk U (w.heap.size + 1) 24 #[.slice none 0 0, .slice none 0 0]) := by
    intro U k
    have := (Blk.new (w.alloc (.cells #[.slice A h.length c, .slice B l.length d] 24)) 24 #[.slice none 0 0, .slice none 0 0]).after (w' := U)
    rwa [size_alloc_] at this
  have iN : New w (w.heap.size + 1) := ⟨by omega⟩
  rcases check_cases h l with hv | ⟨hv, h5⟩
  · have hc0 := Lib.hid (checkI_0 hv)
    have HF := Lib.hid (normW_ok hv)
    obtain ⟨hl, h64⟩ := hv
    go_enter Try.func20, Try.ntmps20
    go_wp2_with (go_at_call 19; refine (check_val x _ hc0.out).mono ?_; rintro e w' ⟨rfl, y, rfl⟩)
    refine (normal_any x _ hl (by omega) (by omega)).mono ?_
    rintro e w' ⟨A5, c5, B5, d5, rfl, x5, n5, m5, y5, rfl⟩
    have X5 := Lib.hid x5
    clear x5
    have a5 : After ((w.alloc (.cells #[.slice A h.length c, .slice B l.length d] 24)).alloc (.cells #[.slice none 0 0, .slice none 0 0] 24)) ((((w.alloc (.cells #[.slice A h.length c, .slice B l.length d] 24)).alloc (.cells #[.slice none 0 0, .slice none 0 0] 24)).more y).more y5) := inferInstance
    have n6 : From (w.heap.size + 2) A5 := n5.mono (by have := more_size ((w.alloc (.cells #[.slice A h.length c, .slice B l.length d] 24)).alloc (.cells #[.slice none 0 0, .slice none 0 0] 24)) y; simp at this; omega)
    have m6 : From (w.heap.size + 2) B5 := m5.mono (by have := more_size ((w.alloc (.cells #[.slice A h.length c, .slice B l.length d] 24)).alloc (.cells #[.slice none 0 0, .slice none 0 0] 24)) y; simp at this; omega)
    obtain ⟨W6, hW6⟩ : ∃ W6, (((w.alloc (.cells #[.slice A h.length c, .slice B l.length d] 24)).alloc (.cells #[.slice none 0 0, .slice none 0 0] 24)).more y).more y5 = W6 := ⟨_, rfl⟩
    rw [hW6] at X5 a5 ⊢
    clear hW6 n5 m5
    have aw : After w W6 := after_after inferInstance a5
    have z6 := Lib.hid (HZ.out W6 a5)
    have d0 : W6.cell? ⟨w.heap.size + 1, 0, none⟩ = some (.slice none 0 0) := by rw [z6.out.cell]; rfl
    have d1 : W6.cell? ⟨w.heap.size + 1, 1, none⟩ = some (.slice none 0 0) := by rw [z6.out.cell]; rfl
    have f0 := z6.out.frozen 0
    have f1 := z6.out.frozen 1
    have l6 := z6.out.is_le
    go_wp2_with fail
    have r2 := (z6.out.set_ 0 (.slice A5 (W.nf (W.letter h l)).1.length c5)).set_ 1 (.slice B5 (W.nf (W.letter h l)).2.length d5)
    have k0 : ((W6.setCell ⟨w.heap.size + 1, 0, none⟩ (.slice A5 (W.nf (W.letter h l)).1.length c5)).setCell ⟨w.heap.size + 1, 1, none⟩ (.slice B5 (W.nf (W.letter h l)).2.length d5)).cell? ⟨w.heap.size + 1, 0, none⟩ = some (.slice A5 (W.nf (W.letter h l)).1.length c5) := by rw [r2.cell]; rfl
    have k1 : ((W6.setCell ⟨w.heap.size + 1, 0, none⟩ (.slice A5 (W.nf (W.letter h l)).1.length c5)).setCell ⟨w.heap.size + 1, 1, none⟩ (.slice B5 (W.nf (W.letter h l)).2.length d5)).cell? ⟨w.heap.size + 1, 1, none⟩ = some (.slice B5 (W.nf (W.letter h l)).2.length d5) := by rw [r2.cell]; rfl
    refine bodyPost_ret (v := .agg #[.slice A5 (W.nf (W.letter h l)).1.length c5, .slice B5 (W.nf (W.letter h l)).2.length d5]) (by simp [results, Try.results20, go_sem, k0, k1]) rfl ⟨A5, c5, B5, d5, by rw [HF.out], ?_, After.is_more _ _⟩
    rw [HF.out]
    exact ⟨(X5.out.head.set_ n6 (by omega) 0 _).set_ n6 (by omega) 1 _, (X5.out.loop.set_ m6 (by omega) 0 _).set_ m6 (by omega) 1 _⟩
  · have HF := Lib.hid (normW_bad hv)
    rcases h5 with h5 | h5
    all_goals
      have hc0 := Lib.hid h5
      clear h5
      go_enter Try.func20, Try.ntmps20
      go_wp2_with fail
      refine (check_val x _ hc0.out).mono ?_
      rintro e w' ⟨rfl, y, rfl⟩
      have a5 : After ((w.alloc (.cells #[.slice A h.length c, .slice B l.length d] 24)).alloc (.cells #[.slice none 0 0, .slice none 0 0] 24)) (((w.alloc (.cells #[.slice A h.length c, .slice B l.length d] 24)).alloc (.cells #[.slice none 0 0, .slice none 0 0] 24)).more y) := inferInstance
      obtain ⟨W6, hW6⟩ : ∃ W6, ((w.alloc (.cells #[.slice A h.length c, .slice B l.length d] 24)).alloc (.cells #[.slice none 0 0, .slice none 0 0] 24)).more y = W6 := ⟨_, rfl⟩
      rw [hW6] at a5 ⊢
      clear hW6
      have aw : After w W6 := after_after inferInstance a5
      have z6 := Lib.hid (HZ.out W6 a5)
      have d0 : W6.cell? ⟨w.heap.size + 1, 0, none⟩ = some (.slice none 0 0) := by rw [z6.out.cell]; rfl
      have d1 : W6.cell? ⟨w.heap.size + 1, 1, none⟩ = some (.slice none 0 0) := by rw [z6.out.cell]; rfl
      have f0 := z6.out.frozen 0
      have f1 := z6.out.frozen 1
      have l6 := z6.out.is_le
      go_wp2_with fail
      have r2 := (z6.out.set_ 0 (.slice none 0 0)).set_ 1 (.slice none 0 0)
      have k0 : ((W6.setCell ⟨w.heap.size + 1, 0, none⟩ (.slice none 0 0)).setCell ⟨w.heap.size + 1, 1, none⟩ (.slice none 0 0)).cell? ⟨w.heap.size + 1, 0, none⟩ = some (.slice none 0 0) := by rw [r2.cell]; rfl
      have k1 : ((W6.setCell ⟨w.heap.size + 1, 0, none⟩ (.slice none 0 0)).setCell ⟨w.heap.size + 1, 1, none⟩ (.slice none 0 0)).cell? ⟨w.heap.size + 1, 1, none⟩ = some (.slice none 0 0) := by rw [r2.cell]; rfl
      refine bodyPost_ret (v := .agg #[.slice none 0 0, .slice none 0 0]) (by simp [results, Try.results20, go_sem, k0, k1]) rfl ⟨none, 0, none, 0, by rw [HF.out]; rfl, ?_, After.is_more _ _⟩
      rw [HF.out]
      exact ⟨RB.nil_ _, RB.nil_ _⟩
end Go.Proofs.Ytjbpelkdciphnaa
