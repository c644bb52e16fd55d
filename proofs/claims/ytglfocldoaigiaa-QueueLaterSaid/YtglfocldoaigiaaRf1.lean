/-
  Contracts: the reference's Check, letter, At, count, Ones (written by gen_ref1.py out of the program's).
-/
import Derived.Test.YtglfocldoaigiaaBw1
namespace Go.Proofs.Ytglfocldoaigiaa
open Go.RowKit Go.BigFrame

/-! ### the reference's -/
theorem rcheck_any {w0 : World} {A B c d h l} (x : RW w0 A c B d h l) (w : World) [After w0 w] :
    Calls Try.prog 28 #[.agg #[.slice A h.length c, .slice B l.length d]] w fun e w' => e = .returned (.int .i64 (checkI h l)) ∧ ∃ y, w' = w.more y := by
  replace x := x.here w
  obtain ⟨b1, b2⟩ := x.lens
  go_enter Try.func28, Try.ntmps28
  go_wp2
  all_goals
    go_ret
    refine ⟨ret_int ?_, After.is_more _ _⟩
  · exact (checkI_5 (by simpa using ‹((l.length : Int) == 0) = true›)).symm
  · have h1 : ¬ ((l.length : Int) = 0) := by simpa using ‹((l.length : Int) == 0) = false›
    exact (checkI_3 (by omega) (by omega)).symm
  · have h1 : ¬ ((l.length : Int) = 0) := by simpa using ‹((l.length : Int) == 0) = false›
    exact (checkI_0 ⟨by omega, by omega⟩).symm
/-- the same at a known error -/
theorem rcheck_val {w0 : World} {A B c d h l} (x : RW w0 A c B d h l) (w : World) [After w0 w] {v : Int} (hv : checkI h l = v) :
    Calls Try.prog 28 #[.agg #[.slice A h.length c, .slice B l.length d]] w fun e w' => e = .returned (.int .i64 v) ∧ ∃ y, w' = w.more y := by
  rw [← hv]; exact rcheck_any x w

theorem rletter_any {w0 : World} {A B c d h l} (x : RW w0 A c B d h l) (w : World) [After w0 w] (i : Int) (h0 : 0 ≤ i) (hi : i ≤ 9223372036854775807) (hl : 0 < l.length) :
    Calls Try.prog 75 #[.agg #[.slice A h.length c, .slice B l.length d], .int .i64 i] w fun e w' => e = .returned (.bool (letterB h l i)) ∧ ∃ y, w' = w.more y := by
  replace x := x.here w
  obtain ⟨b1, b2⟩ := x.lens
  obtain ⟨k, rfl⟩ := Int.eq_ofNat_of_zero_le h0
  by_cases hlt : k < h.length
  · obtain ⟨ad, rfl, hb, hc⟩ := x.head.at_ hlt
    go_enter Try.func75, Try.ntmps75
    go_wp2
    go_ret
    exact ⟨ret_bool (by simp [letterB, W.letter, hlt]), After.is_more _ _⟩
  · obtain ⟨j, rfl⟩ : ∃ j : Nat, k = j + h.length := ⟨k - h.length, by omega⟩
    obtain ⟨ad, b, rfl, hb, hc, HB⟩ := x.loop.bit (k := j % l.length) (Nat.mod_lt _ hl)
    have hj : j % l.length < l.length := Nat.mod_lt _ hl
    have e1 : IntKind.i64.wrap (((j + h.length : Nat) : Int) - (h.length : Int)) = (j : Int) := by rw [IntWalk.i64_in _ (by omega)]; omega
    have e2 : ((j : Int).tmod (l.length : Int)) = ((j % l.length : Nat) : Int) := by rw [Int.tmod_eq_emod_of_nonneg (by omega)]; simp
    have e3 : ¬ ((l.length : Int) = 0) := by omega
    go_enter Try.func75, Try.ntmps75
    go_wp2_with fail
    go_quiet (fail)
    go_wp2
    go_ret
    exact ⟨ret_bool (by rw [letterB_loop, HB.out]), After.is_more _ _⟩

theorem rat_any {w0 : World} {A B c d h l} (x : RW w0 A c B d h l) (w : World) [After w0 w] (i : Int) (hi : i ≤ 9223372036854775807) :
    Calls Try.prog 72 #[.agg #[.slice A h.length c, .slice B l.length d], .int .i64 i] w fun e w' => e = .returned (.bool (atB h l i)) ∧ ∃ y, w' = w.more y := by
  rcases check_cases h l with hv | ⟨hv, h5⟩
  · have hc0 := Lib.hid (checkI_0 hv)
    by_cases hi0 : i < 0
    · rw [atB_neg hi0]
      go_enter Try.func72, Try.ntmps72
      go_wp2_with (go_at_call 28; refine (rcheck_val x _ hc0.out).mono ?_; rintro e w' ⟨rfl, y, rfl⟩)
      go_ret
      exact ⟨rfl, After.is_more _ _⟩
    · rw [atB_ok hv (by omega)]
      have hl := hv.1
      have h0 : 0 ≤ i := by omega
      go_enter Try.func72, Try.ntmps72
      go_wp2_with (first
        | (go_at_call 28; refine (rcheck_val x _ hc0.out).mono ?_; rintro e w' ⟨rfl, y, rfl⟩)
        | (go_at_call 75; refine (rletter_any x _ i h0 hi hl).mono ?_; rintro e w' ⟨rfl, y, rfl⟩))
      go_ret
      exact ⟨rfl, After.is_more _ _⟩
  · rw [atB_bad hv]
    rcases h5 with h5 | h5
    all_goals
      have hc0 := Lib.hid h5
      clear h5
      go_enter Try.func72, Try.ntmps72
      go_wp2_with (go_at_call 28; refine (rcheck_val x _ hc0.out).mono ?_; rintro e w' ⟨rfl, y, rfl⟩)
      go_ret
      exact ⟨rfl, After.is_more _ _⟩

set_option maxHeartbeats 400000 in
theorem rcount_any {w0 : World} {A c l} (x : RB w0 A c l) (w : World) [After w0 w] :
    Calls Try.prog 71 #[.slice A l.length c] w fun e w' => e = .returned (.int .i64 (cntI l)) ∧ w = w' := by
  replace x := x.here w
  have b1 := x.le; have b2 := x.cap
  go_enter Try.func71, Try.ntmps71
  go_wp2
  go_loop [3, 4] (fun n i => ∃ k : Nat, k ≤ l.length ∧ i = .int .i64 k ∧ n = .int .i64 (cntI (l.take k))) (fun _ i => l.length - (intOf i).toNat)
  case atStart => exact ⟨0, by omega, rfl, by simp [cntI, W.cnt]⟩
  case round =>
    obtain ⟨k, hk, rfl, rfl⟩ := hrel
    have hb := cntI_bd (l.take k)
    have hl : (l.take k).length ≤ k := List.length_take_le _ _
    by_cases hlt : k < l.length
    · obtain ⟨ad, b, rfl, hbk, hc, HB⟩ := x.bit hlt
      have HS := Lib.hid (cntI_take_succ l k hlt)
      cases b
      all_goals
        go_wp2
        go_round
        case rel => exact ⟨k + 1, by omega, by go_num, by rw [HS.out, HB.out]; first | rfl | simp⟩
        case measure => simp [intOf]; omega
    · go_wp2
      go_ret
      exact ⟨ret_int (by rw [List.take_of_length_le (by omega)]), rfl⟩

/-- count of the first k -/
theorem rcount_cut {w0 : World} {A c l} (x : RB w0 A c l) (w : World) [After w0 w] (k : Nat) (hk : k ≤ l.length) :
    Calls Try.prog 71 #[.slice A k c] w fun e w' => e = .returned (.int .i64 (cntI (l.take k))) ∧ w = w' := by
  have h := rcount_any (x.cut k hk) w
  rwa [show (l.take k).length = k by rw [List.length_take]; omega] at h

theorem rones_all {w0 : World} {A B c d h l} (x : RW w0 A c B d h l) (w : World) [After w0 w] (i : Int) (hi : i ≤ 9223372036854775807) :
    Calls Try.prog 55 #[.agg #[.slice A h.length c, .slice B l.length d], .int .i64 i] w fun e w' => e = .returned (.int .i64 (onesI h l i)) ∧ ∃ y, w' = w.more y := by
  rcases check_cases h l with hv | ⟨hv, h5⟩
  · have hc0 := Lib.hid (checkI_0 hv)
    obtain ⟨b1, b2⟩ := x.lens
    by_cases hi0 : i < 1
    · rw [onesI_low hi0]
      go_enter Try.func55, Try.ntmps55
      go_wp2_with (go_at_call 28; refine (rcheck_val x _ hc0.out).mono ?_; rintro e w' ⟨rfl, y, rfl⟩)
      go_ret
      exact ⟨rfl, After.is_more _ _⟩
    · obtain ⟨n, rfl⟩ := Int.eq_ofNat_of_zero_le (show 0 ≤ i by omega)
      by_cases hn : n ≤ h.length
      · rw [onesI_head hv n hn]
        have hcap := x.head.le
        go_enter Try.func55, Try.ntmps55
        go_wp2_with (first
          | (go_at_call 28; refine (rcheck_val x _ hc0.out).mono ?_; rintro e w' ⟨rfl, y, rfl⟩)
          | (go_at_call 71; refine (rcount_cut x.head _ n hn).mono ?_; rintro e w' ⟨rfl, rfl⟩))
        go_ret
        exact ⟨rfl, After.is_more _ _⟩
      · obtain ⟨j, rfl⟩ : ∃ j : Nat, n = j + h.length := ⟨n - h.length, by omega⟩
        rw [onesI_loop hv j (by omega)]
        have hl := hv.1
        have hcap := x.loop.le
        obtain ⟨q, hqe⟩ : ∃ q, j / l.length = q := ⟨_, rfl⟩
        obtain ⟨r, hre⟩ : ∃ r, j % l.length = r := ⟨_, rfl⟩
        rw [hqe, hre]
        have e2 : ((j : Int).tmod (l.length : Int)) = (r : Int) := by rw [Int.tmod_eq_emod_of_nonneg (by omega), ← hre]; simp
        have e3 : ((j : Int).tdiv (l.length : Int)) = (q : Int) := by rw [Int.tdiv_eq_ediv_of_nonneg (by omega), ← hqe]; simp
        have e4 : ¬ ((l.length : Int) = 0) := by omega
        have hq : q ≤ j := by rw [← hqe]; exact Nat.div_le_self _ _
        have hr : r < l.length := by rw [← hre]; exact Nat.mod_lt _ hl
        have hdm : l.length * q + r = j := by rw [← hqe, ← hre]; exact Nat.div_add_mod j l.length
        clear hqe hre
        have c1 := cntI_bd h
        have c2 := cntI_bd l
        have c3 := cntI_bd (l.take r)
        have c4 : (l.take r).length ≤ l.length := by rw [List.length_take]; omega
        have hv2 := hv.2
        have c5 : cntI (l.take r) ≤ (r : Int) := by
          have := List.length_take_le r l
          omega
        have m0 : (q : Int) * cntI l ≤ (q : Int) * (l.length : Int) := Int.mul_le_mul_of_nonneg_left c2.2 (by omega)
        have m1 : 0 ≤ (q : Int) * cntI l := Int.mul_nonneg (by omega) c2.1
        have m2 : (q : Int) * (l.length : Int) + (r : Int) = (j : Int) := by rw [← hdm]; push_cast; rw [Int.mul_comm]
        have w1 : IntKind.i64.wrap ((q : Int) * cntI l) = (q : Int) * cntI l := IntWalk.i64_in _ (by omega)
        have w2 : IntKind.i64.wrap (cntI h + (q : Int) * cntI l) = cntI h + (q : Int) * cntI l := IntWalk.i64_in _ (by omega)
        have w3 : IntKind.i64.wrap (cntI h + (q : Int) * cntI l + cntI (l.take r)) = cntI h + (q : Int) * cntI l + cntI (l.take r) := IntWalk.i64_in _ (by omega)
        have w4 : IntKind.i64.wrap (q : Int) = (q : Int) := IntWalk.i64_in _ (by omega)
        have w5 : (((j + h.length : Nat) : Int) - (h.length : Int)) = (j : Int) := by omega
        clear m0 m2 hdm c5
        go_enter Try.func55, Try.ntmps55
        go_wp2_with (first
          | (go_at_call 28; refine (rcheck_val x _ hc0.out).mono ?_; rintro e w' ⟨rfl, y, rfl⟩))
        refine wp_region_more (by kernel_rfl) (by kernel_rfl) ?_
        repeat (go_big_quiet_step ((first
          | (go_at_call 71; with_reducible exact Calls.more_same (rcount_any x.head _))
          | (go_at_call 71; with_reducible exact Calls.more_same (rcount_any x.loop _))
          | (go_at_call 71; with_reducible exact Calls.more_same (rcount_cut x.loop _ r (by omega))))))
        refine wpQuiet_nil ?_
        rintro _ ⟨y2, rfl⟩
        go_wp2
        go_ret
        exact ⟨rfl, After.is_more _ _⟩
  · rw [onesI_bad hv]
    rcases h5 with h5 | h5
    all_goals
      have hc0 := Lib.hid h5
      clear h5
      go_enter Try.func55, Try.ntmps55
      go_wp2_with (go_at_call 28; refine (rcheck_val x _ hc0.out).mono ?_; rintro e w' ⟨rfl, y, rfl⟩)
      go_ret
      exact ⟨rfl, After.is_more _ _⟩
theorem rones_any {w0 : World} {A B c d h l} (x : RW w0 A c B d h l) (w : World) [After w0 w] (i : Int) (hi : i ≤ 1099511627776) :
    Calls Try.prog 55 #[.agg #[.slice A h.length c, .slice B l.length d], .int .i64 i] w fun e w' => e = .returned (.int .i64 (onesI h l i)) ∧ ∃ y, w' = w.more y := rones_all x w i (by omega)
end Go.Proofs.Ytglfocldoaigiaa
