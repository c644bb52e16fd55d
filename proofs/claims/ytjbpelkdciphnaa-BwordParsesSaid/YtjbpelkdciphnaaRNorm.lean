/-
  Contracts: the reference's Norm, fits, both.
-/
import Derived.Test.YtjbpelkdciphnaaRLet
set_option linter.unusedVariables false
set_option linter.unusedSimpArgs false
namespace Go.Proofs.Ytjbpelkdciphnaa
open Go.RowKit Go.BigFrame
attribute [local go_sem ↓] Go.wp_at_zero Go.wp_at_succ

theorem after_of_more {w0 U w3 : World} (h : ∃ y, w3 = U.more y) (a : After w0 U) : After w0 w3 := by obtain ⟨y, rfl⟩ := h; infer_instance

set_option maxHeartbeats 800000 in
theorem rnorm_any {w0 : World} {A B c d h l} (x : RW w0 A c B d h l) (w : World) [After w0 w] :
    Calls Try.prog 25 #[.agg #[.slice A h.length c, .slice B l.length d]] w fun e w' => ∃ A' c' B' d', e = .returned (.agg #[.slice A' (normW h l).1.length c', .slice B' (normW h l).2.length d']) ∧
      RW w' A' c' B' d' (normW h l).1 (normW h l).2 ∧ ∃ y, w' = w.more y := by
  replace x := x.here w
  have HZ : Hid (∀ U : World, After ((w.alloc (.cells #[.slice A h.length c, .slice B l.length d] 24)).alloc (.cells #[.slice none 0 0, .slice none 0 0] 24)) U → Blk U (w.heap.size + 1) 24 #[.slice none 0 0, .slice none 0 0]) := by
    intro U k
    have := (Blk.new (w.alloc (.cells #[.slice A h.length c, .slice B l.length d] 24)) 24 #[.slice none 0 0, .slice none 0 0]).after (w' := U)
    rwa [size_alloc_] at this
  have iN : New w (w.heap.size + 1) := ⟨by omega⟩
  rcases check_cases h l with hv | ⟨hv, h5⟩
  · have hc0 := Lib.hid (checkI_0 hv)
    have HF := Lib.hid (normW_ok hv)
    obtain ⟨hl, h64⟩ := hv
    have iB : New (w.alloc (.cells #[.slice A h.length c, .slice B l.length d] 24)) (w.heap.size + 1) := ⟨by simp⟩
    have HK : Hid (∀ U : World, After (w.alloc (.cells #[.slice A h.length c, .slice B l.length d] 24)) U → U.cell? ⟨w.heap.size, 0, none⟩ = some (.slice A h.length c) ∧ U.cell? ⟨w.heap.size, 1, none⟩ = some (.slice B l.length d)) := by
      intro U k
      have := ((Blk.new w 24 #[.slice A h.length c, .slice B l.length d]).after (w' := U))
      exact ⟨by rw [this.cell]; rfl, by rw [this.cell]; rfl⟩
    have GL : Hid (∀ U, After w U → Calls Try.prog 52 #[.agg #[.slice A h.length c, .slice B l.length d], .int .i64 ((h.length : Int) + 2 * (l.length : Int))] U fun e w' => ∃ A' c', e = .returned (.slice A' (h.length + 2 * l.length) c') ∧ RB w' A' c' (W.tab (W.letter h l) 0 (h.length + 2 * l.length)) ∧ From U.heap.size A' ∧ ∃ y, w' = U.more y) := fun U _ => by
      have := rletters_any x U (h.length + 2 * l.length) (by omega) hl
      push_cast at this; exact this
    have HP := Lib.hid (W.letter_per h l)
    have e1 : IntKind.i64.wrap (2 * (l.length : Int)) = 2 * (l.length : Int) := IntWalk.i64_in _ (by omega)
    have e2 : IntKind.i64.wrap ((h.length : Int) + 2 * (l.length : Int)) = (h.length : Int) + 2 * (l.length : Int) := IntWalk.i64_in _ (by omega)
    have hb : h.length + 2 * l.length ≤ 100000 := by omega
    go_enter Try.func25, Try.ntmps25
    go_wp2_with (go_at_call 21; refine (rcheck_val x _ hc0.out).mono ?_; rintro e w' ⟨rfl, y, rfl⟩)
    obtain ⟨U1, hU1, aU1⟩ : ∃ U1, ((w.alloc (.cells #[.slice A h.length c, .slice B l.length d] 24)).alloc (.cells #[.slice none 0 0, .slice none 0 0] 24)).more y = U1 ∧ After ((w.alloc (.cells #[.slice A h.length c, .slice B l.length d] 24)).alloc (.cells #[.slice none 0 0, .slice none 0 0] 24)) U1 := ⟨_, rfl, inferInstance⟩
    rw [hU1]
    clear hU1
    have bU1 : After (w.alloc (.cells #[.slice A h.length c, .slice B l.length d] 24)) U1 := after_after inferInstance aU1
    have q0 := (HK.out U1 bU1).1
    have q1 := (HK.out U1 bU1).2
    go_region_held3 (fun U => U.cell? ⟨w.heap.size, 0, none⟩ = some (.slice A h.length c) ∧ U.cell? ⟨w.heap.size, 1, none⟩ = some (.slice B l.length d)) (exact HK.out _ inferInstance)
      (first
        | (go_at_call 52; with_reducible refine (GL.out _ (after_after (after_after inferInstance aU1) inferInstance)).mono ?_; rintro e w1 ⟨A1, c1, rfl, x1, n1, hy⟩; have a1 : After U1 w1 := after_of_more hy inferInstance; have b1 : After (w.alloc (.cells #[.slice A h.length c, .slice B l.length d] 24)) w1 := after_after bU1 a1; clear hy)
        | (go_at_call 49; refine (shortest_any x1 _ hl hb HP.out).mono ?_; rintro e w3 ⟨A5, c5, B5, d5, rfl, x5, n5, m5, hy⟩; have a3 : After U1 w3 := after_of_more hy (after_after a1 inferInstance); have b3 : After (w.alloc (.cells #[.slice A h.length c, .slice B l.length d] 24)) w3 := after_after bU1 a3; replace n5 := From.mono n5 a1.below.size; replace m5 := From.mono m5 a1.below.size; clear hy; have z6 := Lib.hid (HZ.out w3 (after_after aU1 a3)); have d0 : w3.cell? ⟨w.heap.size + 1, 0, none⟩ = some (.slice none 0 0) := (by rw [z6.out.cell]; rfl); have d1 : w3.cell? ⟨w.heap.size + 1, 1, none⟩ = some (.slice none 0 0) := (by rw [z6.out.cell]; rfl); have f0 := z6.out.frozen 0; have f1 := z6.out.frozen 1; have l6 := z6.out.is_le))
    have X5 := Lib.hid x5
    have aw : After w w3 := after_after (after_after inferInstance aU1) a3
    have hz : w.heap.size + 2 ≤ U1.heap.size := by have := aU1.below.size; simp at this; omega
    clear x5 x1
    go_wp2_with fail
    have r2 := (z6.out.set_ 0 (.slice A5 (W.nf (W.letter h l)).1.length c5)).set_ 1 (.slice B5 (W.nf (W.letter h l)).2.length d5)
    have k0 : ((w3.setCell ⟨w.heap.size + 1, 0, none⟩ (.slice A5 (W.nf (W.letter h l)).1.length c5)).setCell ⟨w.heap.size + 1, 1, none⟩ (.slice B5 (W.nf (W.letter h l)).2.length d5)).cell? ⟨w.heap.size + 1, 0, none⟩ = some (.slice A5 (W.nf (W.letter h l)).1.length c5) := by rw [r2.cell]; rfl
    have k1 : ((w3.setCell ⟨w.heap.size + 1, 0, none⟩ (.slice A5 (W.nf (W.letter h l)).1.length c5)).setCell ⟨w.heap.size + 1, 1, none⟩ (.slice B5 (W.nf (W.letter h l)).2.length d5)).cell? ⟨w.heap.size + 1, 1, none⟩ = some (.slice B5 (W.nf (W.letter h l)).2.length d5) := by rw [r2.cell]; rfl
    refine bodyPost_ret (v := .agg #[.slice A5 (W.nf (W.letter h l)).1.length c5, .slice B5 (W.nf (W.letter h l)).2.length d5]) (by simp [results, Try.results25, go_sem, k0, k1]) rfl ⟨A5, c5, B5, d5, by rw [HF.out], ?_, After.is_more _ _⟩
    rw [HF.out]
    exact ⟨(X5.out.head.set_ n5 (by omega) 0 _).set_ n5 (by omega) 1 _, (X5.out.loop.set_ m5 (by omega) 0 _).set_ m5 (by omega) 1 _⟩
  · have HF := Lib.hid (normW_bad hv)
    rcases h5 with h5 | h5
    all_goals
      have hc0 := Lib.hid h5
      clear h5
      go_enter Try.func25, Try.ntmps25
      go_wp2_with fail
      refine (rcheck_val x _ hc0.out).mono ?_
      rintro e w' ⟨rfl, y, rfl⟩
      obtain ⟨W6, hW6, a5⟩ : ∃ W6, ((w.alloc (.cells #[.slice A h.length c, .slice B l.length d] 24)).alloc (.cells #[.slice none 0 0, .slice none 0 0] 24)).more y = W6 ∧ After ((w.alloc (.cells #[.slice A h.length c, .slice B l.length d] 24)).alloc (.cells #[.slice none 0 0, .slice none 0 0] 24)) W6 := ⟨_, rfl, inferInstance⟩
      rw [hW6]
      clear hW6
      have aw : After w W6 := after_after inferInstance a5
      have z6 := Lib.hid (HZ.out W6 a5)
      have d0 : W6.cell? ⟨w.heap.size + 1, 0, none⟩ = some (.slice none 0 0) := by rw [z6.out.cell]; rfl
      have d1 : W6.cell? ⟨w.heap.size + 1, 1, none⟩ = some (.slice none 0 0) := by rw [z6.out.cell]; rfl
      have f0 := z6.out.frozen 0
      have f1 := z6.out.frozen 1
      have l6 := z6.out.is_le
      go_wp2_with fail
      have r2 := (z6.out.set_ 0 (.slice none 0 0)).set_ 1 (.slice none 0 0)
      have k0 : ((W6.setCell ⟨w.heap.size + 1, 0, none⟩ (.slice none 0 0)).setCell ⟨w.heap.size + 1, 1, none⟩ (.slice none 0 0)).cell? ⟨w.heap.size + 1, 0, none⟩ = some (.slice none 0 0) := by rw [r2.cell]; rfl
      have k1 : ((W6.setCell ⟨w.heap.size + 1, 0, none⟩ (.slice none 0 0)).setCell ⟨w.heap.size + 1, 1, none⟩ (.slice none 0 0)).cell? ⟨w.heap.size + 1, 1, none⟩ = some (.slice none 0 0) := by rw [r2.cell]; rfl
      refine bodyPost_ret (v := .agg #[.slice none 0 0, .slice none 0 0]) (by simp [results, Try.results25, go_sem, k0, k1]) rfl ⟨none, 0, none, 0, by rw [HF.out]; rfl, ?_, After.is_more _ _⟩
      rw [HF.out]
      exact ⟨RB.nil_ _, RB.nil_ _⟩

open Classical in
noncomputable def fitV (h l : List Bool) : (List Bool × List Bool) × Int := if h.length + l.length ≤ 64 then ((h, l), 0) else (([], []), 3)
theorem fitV_nf (F : Nat → Bool) : fitV (W.nf F).1 (W.nf F).2 = fitW F := by
  by_cases hf : Fits F
  · rw [fitW_yes hf]; unfold fitV; exact if_pos hf
  · rw [fitW_no hf]; unfold fitV; exact if_neg hf
set_option maxHeartbeats 800000 in
theorem fits_any {w0 : World} {A B c d h l} (x : RW w0 A c B d h l) (w : World) [After w0 w] :
    Calls Try.prog 48 #[.agg #[.slice A h.length c, .slice B l.length d]] w fun e w' => ∃ A' c' B' d', e = .returned (.tuple #[.agg #[.slice A' (fitV h l).1.1.length c', .slice B' (fitV h l).1.2.length d'], .int .i64 (fitV h l).2]) ∧
      RW w' A' c' B' d' (fitV h l).1.1 (fitV h l).1.2 ∧ (∀ n, From n A → From n A') ∧ (∀ n, From n B → From n B') ∧ ∃ y, w' = w.more y := by
  replace x := x.here w
  have b1 := x.lens
  have iN : New w (w.heap.size + 1) := ⟨by omega⟩
  have z6 : Hid (Blk ((w.alloc (.cells #[.slice A h.length c, .slice B l.length d] 24)).alloc (.cells #[.slice none 0 0, .slice none 0 0] 24)) (w.heap.size + 1) 24 #[.slice none 0 0, .slice none 0 0]) := by
    have := (Blk.new (w.alloc (.cells #[.slice A h.length c, .slice B l.length d] 24)) 24 #[.slice none 0 0, .slice none 0 0])
    rwa [size_alloc_] at this
  by_cases h64 : h.length + l.length ≤ 64
  · have HF : Hid (fitV h l = ((h, l), 0)) := by unfold fitV; exact if_pos h64
    have t1 : ¬ (64 : Int) < (h.length : Int) + (l.length : Int) := by omega
    go_enter Try.func48, Try.ntmps48
    go_wp2_with fail
    have bz := Blk.new1 w (.cells #[.slice A h.length c, .slice B l.length d] 24) 24 #[.slice A h.length c, .slice B l.length d]
    have k0 : ((w.alloc (.cells #[.slice A h.length c, .slice B l.length d] 24)).alloc (.cells #[.slice A h.length c, .slice B l.length d] 24)).cell? ⟨w.heap.size + 1, 0, none⟩ = some (.slice A h.length c) := by rw [bz.cell]; rfl
    have k1 : ((w.alloc (.cells #[.slice A h.length c, .slice B l.length d] 24)).alloc (.cells #[.slice A h.length c, .slice B l.length d] 24)).cell? ⟨w.heap.size + 1, 1, none⟩ = some (.slice B l.length d) := by rw [bz.cell]; rfl
    exact bodyPost_ret (v := .tuple #[.agg #[.slice A h.length c, .slice B l.length d], .int .i64 0]) (by simp [results, Try.results48, go_sem, k0, k1]) rfl ⟨A, c, B, d, by rw [HF.out], by rw [HF.out]; exact x.here _, fun n h => h, fun n h => h, After.is_more _ _⟩
  · have HF : Hid (fitV h l = (([], []), 3)) := by unfold fitV; exact if_neg h64
    have t1 : (64 : Int) < (h.length : Int) + (l.length : Int) := by omega
    go_enter Try.func48, Try.ntmps48
    go_wp2_with fail
    have bz := Blk.new1 w (.cells #[.slice A h.length c, .slice B l.length d] 24) 24 #[.slice none 0 0, .slice none 0 0]
    have k0 : ((w.alloc (.cells #[.slice A h.length c, .slice B l.length d] 24)).alloc (.cells #[.slice none 0 0, .slice none 0 0] 24)).cell? ⟨w.heap.size + 1, 0, none⟩ = some (.slice none 0 0) := by rw [bz.cell]; rfl
    have k1 : ((w.alloc (.cells #[.slice A h.length c, .slice B l.length d] 24)).alloc (.cells #[.slice none 0 0, .slice none 0 0] 24)).cell? ⟨w.heap.size + 1, 1, none⟩ = some (.slice none 0 0) := by rw [bz.cell]; rfl
    exact bodyPost_ret (v := .tuple #[.agg #[.slice none 0 0, .slice none 0 0], .int .i64 3]) (by simp [results, Try.results48, go_sem, k0, k1]) rfl ⟨none, 0, none, 0, by rw [HF.out]; rfl, by rw [HF.out]; exact ⟨RB.nil_ _, RB.nil_ _⟩, (fun n _ ad h => by cases h), (fun n _ ad h => by cases h), After.is_more _ _⟩
theorem rboth_any {w0 : World} {A B c d h l A' B' c' d' h' l'} (x : RW w0 A c B d h l) (x' : RW w0 A' c' B' d' h' l') (w : World) [After w0 w] :
    Calls Try.prog 44 #[.agg #[.slice A h.length c, .slice B l.length d], .agg #[.slice A' h'.length c', .slice B' l'.length d']] w fun e w' => e = .returned (.int .i64 (bothI h l h' l')) ∧ ∃ y, w' = w.more y := by
  rcases check_cases h l with hv | ⟨hv, h5⟩
  · have hc0 := Lib.hid (checkI_0 hv)
    have HB : Hid (bothI h l h' l' = checkI h' l') := by unfold bothI; show (if _ then _ else _) = _; rw [if_pos hc0.out]
    go_enter Try.func44, Try.ntmps44
    go_wp2_with fail
    refine (rcheck_val x _ hc0.out).mono ?_
    rintro e w' ⟨rfl, y1, rfl⟩
    go_wp2_with fail
    refine (rcheck_any x' _).mono ?_
    rintro e w' ⟨rfl, y2, rfl⟩
    go_wp2_with fail
    go_ret
    exact ⟨ret_int HB.out.symm, After.is_more _ _⟩
  · rcases h5 with h5 | h5
    all_goals
      have hc0 := Lib.hid h5
      have HB : Hid (bothI h l h' l' = checkI h l) := by unfold bothI; show (if _ then _ else _) = _; rw [if_neg (by omega)]
      clear h5
      go_enter Try.func44, Try.ntmps44
      go_wp2_with fail
      refine (rcheck_val x _ hc0.out).mono ?_
      rintro e w' ⟨rfl, y1, rfl⟩
      go_wp2_with fail
      go_ret
      exact ⟨ret_int (by rw [HB.out, hc0.out]), After.is_more _ _⟩
end Go.Proofs.Ytjbpelkdciphnaa
