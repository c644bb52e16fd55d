/-
  Contract: bword.Same.
-/
import Derived.Test.YtglfocldoaigiaaNorm
import Derived.Deep.DrawnRows
namespace Go.Proofs.Ytglfocldoaigiaa
open Go.RowKit Go.BigFrame
attribute [local go_sem ↓] Go.wp_at_zero Go.wp_at_succ
set_option linter.unusedSimpArgs false
set_option linter.unusedVariables false

open Classical in
noncomputable def sameB (h l h' l' : List Bool) : Bool := if Valid h l ∧ Valid h' l' ∧ W.nf (W.letter h l) = W.nf (W.letter h' l') then true else false
theorem sameB_bad1 {h l h' l' : List Bool} (hv : ¬ Valid h l) : sameB h l h' l' = false := by unfold sameB; rw [if_neg]; exact fun e => hv e.1
theorem sameB_bad2 {h l h' l' : List Bool} (hv : ¬ Valid h' l') : sameB h l h' l' = false := by unfold sameB; rw [if_neg]; exact fun e => hv e.2.1
theorem sameB_no1 {h l h' l' : List Bool} (e : ((W.nf (W.letter h l)).1 == (W.nf (W.letter h' l')).1) = false) : sameB h l h' l' = false := by
  unfold sameB
  rw [if_neg]
  rintro ⟨_, _, e2⟩
  rw [e2] at e; simp at e
theorem sameB_ok {h l h' l' : List Bool} (hv : Valid h l) (hv' : Valid h' l') (e : ((W.nf (W.letter h l)).1 == (W.nf (W.letter h' l')).1) = true) : sameB h l h' l' = ((W.nf (W.letter h l)).2 == (W.nf (W.letter h' l')).2) := by
  unfold sameB
  rw [beq_iff_eq] at e
  by_cases h2 : (W.nf (W.letter h l)).2 = (W.nf (W.letter h' l')).2
  · rw [if_pos ⟨hv, hv', Prod.ext e h2⟩]; simp [h2]
  · rw [if_neg (fun h => h2 (by rw [h.2.2]))]; simp [h2]

/-- a row keeps its letters where another block is written -/
theorem RB.setx {w : World} {A c l} (x : RB w A c l) {b : Nat} (h : ∀ ad, A = some ad → ad.block ≠ b) (i : Nat) (v : Value) : RB (w.setCell ⟨b, i, none⟩ v) A c l := by
  refine ⟨⟨x.reads.1, fun hn => ?_⟩, x.le, x.cap, x.len⟩
  obtain ⟨ad, e, hlt, hc⟩ := x.reads.2 hn
  refine ⟨ad, e, by rw [size_set_]; exact hlt, fun j u hu => (World.cell?_setCell_other w _ _ v fun e2 => ?_).trans (hc j u hu)⟩
  have h1 := congrArg Addr.block e2
  rw [block_of_add] at h1
  have h3 : b = ad.block := by first | exact h1 | exact h1.symm
  exact h ad e h3.symm

theorem RB.frame {w wx : World} {A c l B} (x : RB w A c l) (n : From B A) (hs : w.heap.size ≤ wx.heap.size) (hk : ∀ k, B ≤ k → k < w.heap.size → wx.heap[k]? = w.heap[k]?) : RB wx A c l := by
  refine ⟨⟨x.reads.1, fun hn => ?_⟩, x.le, x.cap, x.len⟩
  obtain ⟨ad, e, hlt, hc⟩ := x.reads.2 hn
  exact ⟨ad, e, Nat.lt_of_lt_of_le hlt hs, fun j u hu => (World.cell?_of_block (by rw [block_of_add]; exact hk _ (n ad e) hlt)).trans (hc j u hu)⟩
theorem RW.frame {w wx : World} {A c B d h l b} (x : RW w A c B d h l) (n : From b A) (m : From b B) (hs : w.heap.size ≤ wx.heap.size) (hk : ∀ k, b ≤ k → k < w.heap.size → wx.heap[k]? = w.heap[k]?) : RW wx A c B d h l :=
  ⟨x.head.frame n hs hk, x.loop.frame m hs hk⟩
set_option maxHeartbeats 3200000 in
theorem same_any {w0 : World} {A B c d h l A' B' c' d' h' l'} (x : RW w0 A c B d h l) (x' : RW w0 A' c' B' d' h' l') (w : World) [After w0 w] :
    Calls Try.prog 50 #[.agg #[.slice A h.length c, .slice B l.length d], .agg #[.slice A' h'.length c', .slice B' l'.length d']] w fun e w' => e = .returned (.bool (sameB h l h' l')) ∧ ∃ y, w' = w.more y := by
  replace x := x.here w
  replace x' := x'.here w
  rcases check_cases h l with hv | ⟨hv, h5⟩
  · have hc0 := Lib.hid (checkI_0 hv)
    rcases check_cases h' l' with hv' | ⟨hv', h5'⟩
    · have hc0' := Lib.hid (checkI_0 hv')
      have HS := Lib.hid (sameB_ok hv hv')
      have HS1 := Lib.hid (sameB_no1 (h := h) (l := l) (h' := h') (l' := l'))
      obtain ⟨hl, h64⟩ := hv
      obtain ⟨hl', h64'⟩ := hv'
      go_enter Try.func50, Try.ntmps50
      go_wp2_with fail
      refine (check_val x _ hc0.out).mono ?_
      rintro e w' ⟨rfl, y1, rfl⟩
      go_wp2_with fail
      refine (check_val x' _ hc0'.out).mono ?_
      rintro e w' ⟨rfl, y2, rfl⟩
      go_wp2_with fail
      obtain ⟨W2, hW2, hK, a2⟩ : ∃ W2, (((w.alloc (.cells #[.slice A h.length c, .slice B l.length d] 24)).alloc (.cells #[.slice A' h'.length c', .slice B' l'.length d'] 24)).more y1).more y2 = W2 ∧
          Hid (∀ U, After W2 U → U.cell? ⟨w.heap.size, 0, none⟩ = some (.slice A h.length c) ∧ U.cell? ⟨w.heap.size, 1, none⟩ = some (.slice B l.length d) ∧ U.cell? ⟨w.heap.size + 1, 0, none⟩ = some (.slice A' h'.length c') ∧ U.cell? ⟨w.heap.size + 1, 1, none⟩ = some (.slice B' l'.length d')) ∧ After w W2 := by
        refine ⟨_, rfl, fun U k => ?_, inferInstance⟩
        have e1 := ((((Blk.new w 24 #[.slice A h.length c, .slice B l.length d]).alloc (.cells #[.slice A' h'.length c', .slice B' l'.length d'] 24)).more y1).more y2).after (w' := U)
        have e2 := (((Blk.new (w.alloc (.cells #[.slice A h.length c, .slice B l.length d] 24)) 24 #[.slice A' h'.length c', .slice B' l'.length d']).more y1).more y2).after (w' := U)
        rw [size_alloc_] at e2
        exact ⟨by rw [e1.cell]; rfl, by rw [e1.cell]; rfl, by rw [e2.cell]; rfl, by rw [e2.cell]; rfl⟩
      rw [hW2]
      clear hW2
      have e0 := hK.out W2 inferInstance
      obtain ⟨q0, q1, q2, q3⟩ := e0
      have N1 : Hid (∀ U, After w U → Calls Try.prog 66 #[.agg #[.slice A h.length c, .slice B l.length d]] U fun e w' => ∃ A' c' B' d', e = .returned (.agg #[.slice A' (W.nf (W.letter h l)).1.length c', .slice B' (W.nf (W.letter h l)).2.length d']) ∧
        RW w' A' c' B' d' (W.nf (W.letter h l)).1 (W.nf (W.letter h l)).2 ∧ From U.heap.size A' ∧ From U.heap.size B' ∧ U.heap.size ≤ w'.heap.size ∧ ∃ y, w' = U.more y) := fun U _ => (normal_any x U hl (by omega) (by omega)).mono fun _ _ ⟨a, b, c, d, e, f, g, i, y, hy⟩ => ⟨a, b, c, d, e, f, g, i, by rw [hy]; exact more_size U y, y, hy⟩
      have N2 : Hid (∀ U, After w U → Calls Try.prog 66 #[.agg #[.slice A' h'.length c', .slice B' l'.length d']] U fun e w' => ∃ A' c' B' d', e = .returned (.agg #[.slice A' (W.nf (W.letter h' l')).1.length c', .slice B' (W.nf (W.letter h' l')).2.length d']) ∧
        RW w' A' c' B' d' (W.nf (W.letter h' l')).1 (W.nf (W.letter h' l')).2 ∧ From U.heap.size A' ∧ From U.heap.size B' ∧ U.heap.size ≤ w'.heap.size ∧ ∃ y, w' = U.more y) := fun U _ => (normal_any x' U hl' (by omega) (by omega)).mono fun _ _ ⟨a, b, c, d, e, f, g, i, y, hy⟩ => ⟨a, b, c, d, e, f, g, i, by rw [hy]; exact more_size U y, y, hy⟩
      go_cut [5, 6] (fun p q wx => ∃ (g5 g6 : Nat) (A5 : Option Addr) (c5 : Nat) (B5 : Option Addr) (d5 : Nat) (A6 : Option Addr) (c6 : Nat) (B6 : Option Addr) (d6 : Nat), p = .pointer (some ⟨g5, 0, none⟩) ∧ q = .pointer (some ⟨g6, 0, none⟩) ∧
        Hid (Blk wx g5 24 #[.slice A5 (W.nf (W.letter h l)).1.length c5, .slice B5 (W.nf (W.letter h l)).2.length d5]) ∧ Hid (Blk wx g6 24 #[.slice A6 (W.nf (W.letter h' l')).1.length c6, .slice B6 (W.nf (W.letter h' l')).2.length d6]) ∧
        Hid (RW wx A5 c5 B5 d5 (W.nf (W.letter h l)).1 (W.nf (W.letter h l)).2) ∧ Hid (RW wx A6 c6 B6 d6 (W.nf (W.letter h' l')).1 (W.nf (W.letter h' l')).2) ∧ After w wx)
      case rest =>
        obtain ⟨g5, g6, A5, c5, B5, d5, A6, c6, B6, d6, rfl, rfl, b5, b6, x5, x6, a5⟩ := hcut
        obtain ⟨wo, rfl⟩ : ∃ wo : World, wo = wc := ⟨_, rfl⟩
        have k0 : wo.cell? ⟨g5, 0, none⟩ = some (.slice A5 (W.nf (W.letter h l)).1.length c5) := by rw [b5.out.cell]; rfl
        have k1 : wo.cell? ⟨g5, 1, none⟩ = some (.slice B5 (W.nf (W.letter h l)).2.length d5) := by rw [b5.out.cell]; rfl
        have k2 : wo.cell? ⟨g6, 0, none⟩ = some (.slice A6 (W.nf (W.letter h' l')).1.length c6) := by rw [b6.out.cell]; rfl
        have k3 : wo.cell? ⟨g6, 1, none⟩ = some (.slice B6 (W.nf (W.letter h' l')).2.length d6) := by rw [b6.out.cell]; rfl
        have l5 := b5.out.is_le
        have l6 := b6.out.is_le
        have E1 : Hid (∀ U, After wo U → Calls Try.prog 67 #[.slice A5 (W.nf (W.letter h l)).1.length c5, .slice A6 (W.nf (W.letter h' l')).1.length c6] U fun e w' => e = .returned (.bool ((W.nf (W.letter h l)).1 == (W.nf (W.letter h' l')).1)) ∧ ∃ y, w' = U.more y) := fun U _ => equal_bools x5.out.head x6.out.head U
        have E2 : Hid (∀ U, After wo U → Calls Try.prog 67 #[.slice B5 (W.nf (W.letter h l)).2.length d5, .slice B6 (W.nf (W.letter h' l')).2.length d6] U fun e w' => e = .returned (.bool ((W.nf (W.letter h l)).2 == (W.nf (W.letter h' l')).2)) ∧ ∃ y, w' = U.more y) := fun U _ => equal_bools x5.out.loop x6.out.loop U
        clear x5 x6 b5 b6 hK q0 q1 q2 q3 N1 N2
        generalize hb1 : ((W.nf (W.letter h l)).1 == (W.nf (W.letter h' l')).1) = b1 at E1 HS HS1
        generalize hb2 : ((W.nf (W.letter h l)).2 == (W.nf (W.letter h' l')).2) = b2 at E2 HS
        clear hb1 hb2
        cases b1
        all_goals
          go_wp2_with fail
          refine (E1.out _ inferInstance).mono ?_
          rintro e w' ⟨rfl, y7, rfl⟩
          try
            go_wp2_with fail
            refine (E2.out _ inferInstance).mono ?_
            rintro e w' ⟨rfl, y8, rfl⟩
          go_wp2_with fail
          go_ret
        · exact ⟨ret_bool (HS1.out (by first | trivial | rfl)).symm, @After.is_more w _ (after_after a5 inferInstance)⟩
        · exact ⟨ret_bool (HS.out (by first | trivial | rfl)).symm, @After.is_more w _ (after_after a5 inferInstance)⟩
      case first =>
       go_region_held3 (fun U => U.cell? ⟨w.heap.size, 0, none⟩ = some (.slice A h.length c) ∧ U.cell? ⟨w.heap.size, 1, none⟩ = some (.slice B l.length d) ∧ U.cell? ⟨w.heap.size + 1, 0, none⟩ = some (.slice A' h'.length c') ∧ U.cell? ⟨w.heap.size + 1, 1, none⟩ = some (.slice B' l'.length d'))
         (exact hK.out _ inferInstance)
         (first
          | (go_at_call 66; with_reducible refine (N1.out _ (after_after a2 inferInstance)).mono ?_; rintro e w' ⟨A5, c5, B5, d5, rfl, x5, n5, m5, s5, y5, rfl⟩)
          | (go_at_call 66; with_reducible refine (N2.out _ (after_after a2 inferInstance)).mono ?_; rintro e w' ⟨A6, c6, B6, d6, rfl, x6, n6, m6, s6, y6, rfl⟩))
       all_goals
         go_wp2_with fail
         go_meet
         refine ⟨_, _, A5, c5, B5, d5, A6, c6, B6, d6, rfl, rfl, ?_, ?_, ?_, ?_, after_after a2 inferInstance⟩
         · show Blk _ _ _ _
           (repeat (first | with_reducible exact Blk.new _ _ _ | with_reducible exact Blk.new1 _ _ _ _ | with_reducible apply Blk.set0 | with_reducible apply Blk.set1 | (with_reducible refine Blk.far2 ?_ (by simp only [size_alloc_, size_set_, drew_heap] at *; omega)) | with_reducible refine Blk.drew ?_ | with_reducible refine Blk.more ?_ _ | with_reducible refine Blk.alloc ?_ _))
         · show Blk _ _ _ _
           (repeat (first | with_reducible exact Blk.new _ _ _ | with_reducible exact Blk.new1 _ _ _ _ | with_reducible apply Blk.set0 | with_reducible apply Blk.set1 | (with_reducible refine Blk.far2 ?_ (by simp only [size_alloc_, size_set_, drew_heap] at *; omega)) | with_reducible refine Blk.drew ?_ | with_reducible refine Blk.more ?_ _ | with_reducible refine Blk.alloc ?_ _))
         · refine x5.frame n5 m5 (by simp only [size_alloc_, size_set_, drew_heap] at *; omega) (fun k h1 h2 => ?_)
           (repeat (first | with_reducible rfl | (refine (frame_set ?_).trans ?_; (first | (simp only [size_alloc_, size_set_, drew_heap] at *; omega))) | (refine (frame_alloc ?_).trans ?_; (first | (simp only [size_alloc_, size_set_, drew_heap] at *; omega))) | (refine (frame_more ?_).trans ?_; (first | (simp only [size_alloc_, size_set_, drew_heap] at *; omega)))))
         · refine x6.frame n6 m6 (by simp only [size_alloc_, size_set_, drew_heap] at *; omega) (fun k h1 h2 => ?_)
           (repeat (first | with_reducible rfl | (refine (frame_set ?_).trans ?_; (first | (simp only [size_alloc_, size_set_, drew_heap] at *; omega))) | (refine (frame_alloc ?_).trans ?_; (first | (simp only [size_alloc_, size_set_, drew_heap] at *; omega))) | (refine (frame_more ?_).trans ?_; (first | (simp only [size_alloc_, size_set_, drew_heap] at *; omega)))))
    · have HS := Lib.hid (sameB_bad2 (h := h) (l := l) hv')
      rcases h5' with h5' | h5'
      all_goals
        have hc0' := Lib.hid h5'
        clear h5'
        go_enter Try.func50, Try.ntmps50
        go_wp2_with fail
        refine (check_val x _ hc0.out).mono ?_
        rintro e w' ⟨rfl, y1, rfl⟩
        go_wp2_with fail
        refine (check_val x' _ hc0'.out).mono ?_
        rintro e w' ⟨rfl, y2, rfl⟩
        go_wp2_with fail
        go_ret
        exact ⟨ret_bool HS.out.symm, After.is_more _ _⟩
  · have HS := Lib.hid (sameB_bad1 (h' := h') (l' := l') hv)
    rcases h5 with h5 | h5
    all_goals
      have hc0 := Lib.hid h5
      clear h5
      go_enter Try.func50, Try.ntmps50
      go_wp2_with fail
      refine (check_val x _ hc0.out).mono ?_
      rintro e w' ⟨rfl, y1, rfl⟩
      go_wp2_with fail
      go_ret
      exact ⟨ret_bool HS.out.symm, After.is_more _ _⟩
end Go.Proofs.Ytglfocldoaigiaa
