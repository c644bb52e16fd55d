/-
  Contracts of package pace: Gap.
-/
import Derived.Test.YtglfocldoaigiaaGapV
namespace Go.Proofs.Ytglfocldoaigiaa
open Go.RowKit Go.BigFrame

theorem Le.of_cell {w : World} {b i : Nat} {v : Value} (h : w.cell? ⟨b, i, none⟩ = some v) : Le (b + 1) w := by
  refine ⟨?_⟩
  rcases Nat.lt_or_ge b w.heap.size with hlt | hge
  · exact hlt
  · simp [World.cell?, Array.getElem?_eq_none hge] at h

theorem differ_any {w0 : World} {A B c d h l A' B' c' d' h' l'} (x : RW w0 A c B d h l) (x' : RW w0 A' c' B' d' h' l') (w : World) [After w0 w] (n : Int) (hn : n ≤ 1099511627776) (h0 : 0 ≤ n) (b b' : Nat)
    (e1 : w.cell? ⟨b, 0, none⟩ = some (.slice A h.length c)) (e2 : w.cell? ⟨b, 1, none⟩ = some (.slice B l.length d))
    (e3 : w.cell? ⟨b', 0, none⟩ = some (.slice A' h'.length c')) (e4 : w.cell? ⟨b', 1, none⟩ = some (.slice B' l'.length d')) :
    Calls Try.prog 57 #[.int .i64 n, .pointer (some ⟨b, 0, none⟩), .pointer (some ⟨b', 0, none⟩)] w fun e w' => e = .returned (.int .i64 (diffI h l h' l' n)) ∧ ∃ y, w' = w.more y := by
  have o1 := onesI_bd h l n
  have o2 := onesI_bd h' l' n
  have w1 : IntKind.i64.wrap (onesI h l n - onesI h' l' n) = onesI h l n - onesI h' l' n := IntWalk.i64_in _ (by omega)
  have f1 := Le.of_cell e1
  have f3 := Le.of_cell e3
  go_enter Try.func57, Try.ntmps57
  go_wp2_with fail
  refine wp_region_more (by kernel_rfl) (by kernel_rfl) ?_
  repeat (go_big_quiet_step ((first
    | (go_at_call 24; with_reducible exact Calls.more_of (ones_any x _ _ hn))
    | (go_at_call 24; with_reducible exact Calls.more_of (ones_any x' _ _ hn)))))
  refine wpQuiet_nil ?_
  rintro _ ⟨y3, rfl⟩
  go_wp2
  go_ret
  exact ⟨rfl, After.is_more _ _⟩

set_option maxHeartbeats 1600000 in
theorem gap_any {w0 : World} {A B c d h l A' B' c' d' h' l'} (x : RW w0 A c B d h l) (x' : RW w0 A' c' B' d' h' l') (w : World) [After w0 w] :
    Calls Try.prog 21 #[.agg #[.slice A h.length c, .slice B l.length d], .agg #[.slice A' h'.length c', .slice B' l'.length d']] w
      fun e w' => e = .returned (.tuple #[.int .i64 (gapV h l h' l').1, .bool (gapV h l h' l').2]) ∧ ∃ y, w' = w.more y := by
  by_cases hvv : Valid h l ∧ Valid h' l'
  · obtain ⟨hv, hv'⟩ := hvv
    have hsb := spanN_bd hv hv'
    have hsp := spanV_ok hv hv'
    have hgno := gapV_no (h := h) (l := l) (h' := h') (l' := l')
    have hgyes := gapV_yes hv hv'
    unfold gapN at hgyes
    obtain ⟨m, hm⟩ : ∃ m, (spanN h l h' l').1 = m := ⟨_, rfl⟩
    obtain ⟨n, hn⟩ : ∃ n, (spanN h l h' l').2 = n := ⟨_, rfl⟩
    rw [hm, hn] at hsb hsp hgno hgyes
    have HS : Hid (∀ U : World, After w0 U → Calls Try.prog 23 #[.agg #[.slice A h.length c, .slice B l.length d], .agg #[.slice A' h'.length c', .slice B' l'.length d']] U
      fun e w' => e = .returned (.tuple #[.int .i64 (m : Nat), .int .i64 (n : Nat)]) ∧ ∃ y, w' = U.more y) := by
      intro U _
      have := span_any x x' U
      rwa [hsp] at this
    clear hm hn hsp
    have o1 := onesI_bd h l ((m : Int) + (n : Int))
    have o2 := onesI_bd h l (m : Int)
    have o3 := onesI_bd h' l' ((m : Int) + (n : Int))
    have o4 := onesI_bd h' l' (m : Int)
    have w1 : IntKind.i64.wrap ((m : Int) + (n : Int)) = (m : Int) + (n : Int) := IntWalk.i64_in _ (by omega)
    have w2 : IntKind.i64.wrap (onesI h l ((m : Int) + (n : Int)) - onesI h l (m : Int)) = onesI h l ((m : Int) + (n : Int)) - onesI h l (m : Int) := IntWalk.i64_in _ (by omega)
    have w3 : IntKind.i64.wrap (onesI h' l' ((m : Int) + (n : Int)) - onesI h' l' (m : Int)) = onesI h' l' ((m : Int) + (n : Int)) - onesI h' l' (m : Int) := IntWalk.i64_in _ (by omega)
    have b1 : ((n : Int) == 0) = false := by rw [beq_eq_false_iff_ne]; omega
    by_cases hc : onesI h' l' ((m : Int) + (n : Int)) - onesI h' l' (m : Int) < onesI h l ((m : Int) + (n : Int)) - onesI h l (m : Int)
    · have HV := Lib.hid (hgno (by unfold diffI; omega))
      clear hgno hgyes
      go_enter Try.func21, Try.ntmps21
      go_wp2_with (go_at_call 23; with_reducible refine (HS.out _ inferInstance).mono ?_; rintro e w' ⟨rfl, y1, rfl⟩)
      refine wp_region_more (by kernel_rfl) (by kernel_rfl) ?_
      repeat (go_big_quiet_step ((first
        | (go_at_call 24; with_reducible exact Calls.more_of (ones_any x _ _ (by omega)))
        | (go_at_call 24; with_reducible exact Calls.more_of (ones_any x' _ _ (by omega))))))
      refine wpQuiet_nil ?_
      rintro _ ⟨y3, rfl⟩
      go_wp2
      go_ret2
      exact ⟨by rw [HV.out]; rfl, After.is_more _ _⟩
    · have HV := Lib.hid (hgyes (by unfold diffI; omega))
      clear hgno hgyes
      go_enter Try.func21, Try.ntmps21
      go_wp2_with (go_at_call 23; with_reducible refine (HS.out _ inferInstance).mono ?_; rintro e w' ⟨rfl, y1, rfl⟩)
      refine wp_region_more (by kernel_rfl) (by kernel_rfl) ?_
      repeat (go_big_quiet_step ((first
        | (go_at_call 24; with_reducible exact Calls.more_of (ones_any x _ _ (by omega)))
        | (go_at_call 24; with_reducible exact Calls.more_of (ones_any x' _ _ (by omega))))))
      refine wpQuiet_nil ?_
      rintro _ ⟨y3, rfl⟩
      go_wp2
      go_loopw [8, 45] (fun v i wr => ∃ k : Nat, k ≤ m + n + 1 ∧ i = .int .i64 k ∧ v = .int .i64 (maxTo (dN h l h' l') k) ∧
        After ((w.alloc (.cells #[.slice A h.length c, .slice B l.length d] 24)).alloc (.cells #[.slice A' h'.length c', .slice B' l'.length d'] 24)) wr) (fun _ i _ => m + n + 1 - (intOf i).toNat)
      case atStart => exact ⟨0, by omega, rfl, rfl, inferInstance⟩
      case round =>
        obtain ⟨k, hk, rfl, rfl, haft⟩ := hrel
        obtain ⟨z, rfl⟩ := After.is_more ((w.alloc (.cells #[.slice A h.length c, .slice B l.length d] 24)).alloc (.cells #[.slice A' h'.length c', .slice B' l'.length d'] 24)) wr
        by_cases hlt : k < m + n + 1
        · have HM : Hid (maxTo (dN h l h' l') (k + 1) = max (maxTo (dN h l h' l') k) (diffI h l h' l' (k : Int))) := rfl
          go_wp2_with (go_at_call 57; with_reducible refine (differ_any x x' _ (k : Int) (by omega) (by omega) w.heap.size (w.heap.size + 1) (by simp [go_sem]) (by simp [go_sem]) (by simp [go_sem]) (by simp [go_sem])).mono ?_; rintro e w' ⟨rfl, y4, rfl⟩)
          go_roundw
          case rel => exact ⟨k + 1, by omega, by go_num, congrArg (Value.int .i64) (by rw [HM.out]; split <;> omega), inferInstance⟩
          case measure => simp [intOf]; omega
        · obtain rfl : k = m + n + 1 := by omega
          go_wp2
          go_ret2
          exact ⟨by rw [HV.out]; rfl, After.is_more _ _⟩
  · have hsp : spanV h l h' l' = (0, 0) := by
      by_cases hv : Valid h l
      · exact spanV_bad2 (fun e => hvv ⟨hv, e⟩)
      · exact spanV_bad1 hv
    have hgv : gapV h l h' l' = (0, false) := by
      by_cases hv : Valid h l
      · exact gapV_bad2 (fun e => hvv ⟨hv, e⟩)
      · exact gapV_bad1 hv
    rw [hgv]
    have HS : Hid (∀ U : World, After w0 U → Calls Try.prog 23 #[.agg #[.slice A h.length c, .slice B l.length d], .agg #[.slice A' h'.length c', .slice B' l'.length d']] U
      fun e w' => e = .returned (.tuple #[.int .i64 0, .int .i64 0]) ∧ ∃ y, w' = U.more y) := by
      intro U _
      have := span_any x x' U
      rwa [hsp] at this
    clear hsp hgv
    go_enter Try.func21, Try.ntmps21
    go_wp2_with (go_at_call 23; with_reducible refine (HS.out _ inferInstance).mono ?_; rintro e w' ⟨rfl, y1, rfl⟩)
    go_quiet (fail)
    go_wp2
    go_ret2
    exact ⟨rfl, After.is_more _ _⟩
end Go.Proofs.Ytglfocldoaigiaa
