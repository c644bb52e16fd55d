/-
  Contract: the reference's Same.
-/
import Derived.Test.YtjbpelkdciphnaaSameFacts
import Derived.Test.YtjbpelkdciphnaaRNorm
import Derived.Test.YtjbpelkdciphnaaGives
set_option linter.unusedVariables false
set_option linter.unusedSimpArgs false
namespace Go.Proofs.Ytjbpelkdciphnaa
open Go.RowKit Go.BigFrame

set_option maxHeartbeats 3200000 in
theorem rsame_any {w0 : World} {A B c d h l A' B' c' d' h' l'} (x : RW w0 A c B d h l) (x' : RW w0 A' c' B' d' h' l') (w : World) [After w0 w] :
    Calls Try.prog 33 #[.agg #[.slice A h.length c, .slice B l.length d], .agg #[.slice A' h'.length c', .slice B' l'.length d']] w fun e w' => e = .returned (.bool (sameB h l h' l')) ∧ ∃ y, w' = w.more y := by
  replace x := x.here w
  replace x' := x'.here w
  rcases check_cases h l with hv | ⟨hv, h5⟩
  · have G1 : Gives w 21 #[.agg #[.slice A h.length c, .slice B l.length d]] (.int .i64 0) := fun U _ => checkI_0 hv ▸ rcheck_any x U
    rcases check_cases h' l' with hv' | ⟨hv', h5'⟩
    · have G2 : Gives w 21 #[.agg #[.slice A' h'.length c', .slice B' l'.length d']] (.int .i64 0) := fun U _ => checkI_0 hv' ▸ rcheck_any x' U
      have HS : Hid (sameB h l h' l' = ((normW h l).1 == (normW h' l').1 && (normW h l).2 == (normW h' l').2)) := by
        rw [normW_ok hv, normW_ok hv']
        cases e : ((W.nf (W.letter h l)).1 == (W.nf (W.letter h' l')).1) with
        | true => rw [sameB_ok hv hv' e, Bool.true_and]; exact Lib.hid rfl
        | false => rw [sameB_no1 e, Bool.false_and]; exact Lib.hid rfl
      have N1 : Hid (∀ U, After w U → Calls Try.prog 25 #[.agg #[.slice A h.length c, .slice B l.length d]] U fun e w' => ∃ A9 c9 B9 d9, e = .returned (.agg #[.slice A9 (normW h l).1.length c9, .slice B9 (normW h l).2.length d9]) ∧ RW w' A9 c9 B9 d9 (normW h l).1 (normW h l).2 ∧ U.heap.size ≤ w'.heap.size ∧ ∃ y, w' = U.more y) := fun U _ => (rnorm_any x U).mono fun _ _ ⟨a, b, c, d, e, f, y, hy⟩ => ⟨a, b, c, d, e, f, by rw [hy]; exact more_size U y, y, hy⟩
      have N2 : Hid (∀ U, After w U → Calls Try.prog 25 #[.agg #[.slice A' h'.length c', .slice B' l'.length d']] U fun e w' => ∃ A9 c9 B9 d9, e = .returned (.agg #[.slice A9 (normW h' l').1.length c9, .slice B9 (normW h' l').2.length d9]) ∧ RW w' A9 c9 B9 d9 (normW h' l').1 (normW h' l').2 ∧ U.heap.size ≤ w'.heap.size ∧ ∃ y, w' = U.more y) := fun U _ => (rnorm_any x' U).mono fun _ _ ⟨a, b, c, d, e, f, y, hy⟩ => ⟨a, b, c, d, e, f, by rw [hy]; exact more_size U y, y, hy⟩
      clear hv hv'
      have HK : Hid (∀ U : World, After ((w.alloc (.cells #[.slice A h.length c, .slice B l.length d] 24)).alloc (.cells #[.slice A' h'.length c', .slice B' l'.length d'] 24)) U → U.cell? ⟨w.heap.size, 0, none⟩ = some (.slice A h.length c) ∧ U.cell? ⟨w.heap.size, 1, none⟩ = some (.slice B l.length d) ∧ U.cell? ⟨w.heap.size + 1, 0, none⟩ = some (.slice A' h'.length c') ∧ U.cell? ⟨w.heap.size + 1, 1, none⟩ = some (.slice B' l'.length d')) := fun U k => by
        have f1 := ((Blk.new w 24 #[.slice A h.length c, .slice B l.length d]).alloc (.cells #[.slice A' h'.length c', .slice B' l'.length d'] 24)).after (w' := U)
        have f2 := (Blk.new1 w (.cells #[.slice A h.length c, .slice B l.length d] 24) 24 #[.slice A' h'.length c', .slice B' l'.length d']).after (w' := U)
        exact ⟨by rw [f1.cell]; rfl, by rw [f1.cell]; rfl, by rw [f2.cell]; rfl, by rw [f2.cell]; rfl⟩
      go_enter Try.func33, Try.ntmps33
      go_wp2_with fail
      go_region_held3 (fun U => U.cell? ⟨w.heap.size, 0, none⟩ = some (.slice A h.length c) ∧ U.cell? ⟨w.heap.size, 1, none⟩ = some (.slice B l.length d) ∧ U.cell? ⟨w.heap.size + 1, 0, none⟩ = some (.slice A' h'.length c') ∧ U.cell? ⟨w.heap.size + 1, 1, none⟩ = some (.slice B' l'.length d')) (exact HK.out _ inferInstance)
        (first
          | (go_at_call 21; (with_reducible refine (Gives.on G1 _ inferInstance).mono ?_); rintro e v1 ⟨rfl, y1, rfl⟩)
          | (go_at_call 21; (with_reducible refine (Gives.on G2 _ inferInstance).mono ?_); rintro e v2 ⟨rfl, y2, rfl⟩)
          | (go_at_call 25; (with_reducible refine (N1.out _ inferInstance).mono ?_); rintro e v3 ⟨A5, c5, B5, d5, rfl, x5, s5, y5, rfl⟩)
          | (go_at_call 25; (with_reducible refine (N2.out _ inferInstance).mono ?_); rintro e v4 ⟨A6, c6, B6, d6, rfl, x6, s6, y6, rfl⟩)
          | (go_at_call 16; (with_reducible refine (requal_any (x5.here _) x6 _).mono ?_); rintro e v5 ⟨rfl, y7, rfl⟩))
      all_goals
        go_wp2_with fail
        go_ret
        exact ⟨ret_bool HS.out.symm, After.is_more _ _⟩
    · have HS := Lib.hid (sameB_bad2 (h := h) (l := l) hv')
      clear hv hv'
      rcases h5' with h5 | h5
      all_goals
        have G2 : Gives w 21 #[.agg #[.slice A' h'.length c', .slice B' l'.length d']] _ := fun U _ => h5 ▸ rcheck_any x' U
        go_enter Try.func33, Try.ntmps33
        go_wp2_with fail
        refine wp_region_more (by kernel_rfl) (by kernel_rfl) ?_
        repeat (go_big_quiet_step ((first | (go_at_call 21; with_reducible exact Calls.more_of (Gives.on G1 _ inferInstance)) | (go_at_call 21; with_reducible exact Calls.more_of (Gives.on G2 _ inferInstance)))))
        refine wpQuiet_nil ?_
        rintro _ ⟨yr, rfl⟩
        go_wp2_with fail
        go_ret
        exact ⟨ret_bool HS.out.symm, After.is_more _ _⟩
  · have HS := Lib.hid (sameB_bad1 (h' := h') (l' := l') hv)
    clear hv
    rcases h5 with h5 | h5
    all_goals
      have G1 : Gives w 21 #[.agg #[.slice A h.length c, .slice B l.length d]] _ := fun U _ => h5 ▸ rcheck_any x U
      go_enter Try.func33, Try.ntmps33
      go_wp2_with fail
      refine wp_region_more (by kernel_rfl) (by kernel_rfl) ?_
      repeat (go_big_quiet_step ((go_at_call 21; with_reducible exact Calls.more_of (Gives.on G1 _ inferInstance))))
      refine wpQuiet_nil ?_
      rintro _ ⟨yr, rfl⟩
      go_wp2_with fail
      go_ret
      exact ⟨ret_bool HS.out.symm, After.is_more _ _⟩
end Go.Proofs.Ytjbpelkdciphnaa
