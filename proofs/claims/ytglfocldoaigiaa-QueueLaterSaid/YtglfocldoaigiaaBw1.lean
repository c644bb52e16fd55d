/-
  Contracts: bword's Check, letter, At, count, Ones; the reference's Check, letter, At, count, Ones.
-/
import Derived.Test.YtglfocldoaigiaaBase
namespace Go.Proofs.Ytglfocldoaigiaa
open Go.RowKit Go.BigFrame

/-! ### what they compute -/
def checkI (h l : List Bool) : Int := (W.check h l : Nat)
def Valid (h l : List Bool) : Prop := 0 < l.length ∧ h.length + l.length ≤ 64
theorem checkI_5 {h l : List Bool} (hl : l.length = 0) : checkI h l = 5 := by simp [checkI, W.check, hl]
theorem checkI_3 {h l : List Bool} (hl : 0 < l.length) (h3 : 64 < h.length + l.length) : checkI h l = 3 := by
  unfold checkI W.check; rw [if_neg (by omega), if_pos h3]; rfl
theorem checkI_0 {h l : List Bool} (hv : Valid h l) : checkI h l = 0 := by
  unfold checkI W.check; rw [if_neg (by have := hv.1; omega), if_neg (by have := hv.2; omega)]; rfl
theorem check_cases (h l : List Bool) : Valid h l ∨ (¬ Valid h l ∧ (checkI h l = 5 ∨ checkI h l = 3)) := by
  by_cases h1 : l.length = 0
  · exact .inr ⟨fun hv => by have := hv.1; omega, .inl (checkI_5 h1)⟩
  · by_cases h2 : 64 < h.length + l.length
    · exact .inr ⟨fun hv => by have := hv.2; omega, .inr (checkI_3 (by omega) h2)⟩
    · exact .inl ⟨by omega, by omega⟩
theorem Valid.of_checkI {h l : List Bool} (e : checkI h l = 0) : Valid h l := by
  rcases check_cases h l with hv | ⟨_, h5 | h3⟩
  · exact hv
  · omega
  · omega
def letterB (h l : List Bool) (i : Int) : Bool := W.letter h l i.toNat
theorem letterB_loop (h l : List Bool) (j : Nat) : letterB h l ((j + h.length : Nat) : Int) = l.getD (j % l.length) false := by
  unfold letterB W.letter; rw [Int.toNat_natCast, if_neg (by omega), show j + h.length - h.length = j by omega]
def atB (h l : List Bool) (i : Int) : Bool := W.check h l == 0 && decide (0 ≤ i) && W.letter h l i.toNat
theorem atB_bad {h l : List Bool} (hv : ¬ Valid h l) (i : Int) : atB h l i = false := by
  unfold atB; have : (W.check h l == 0) = false := by
    rw [beq_eq_false_iff_ne]; intro e; exact hv (Valid.of_checkI (by unfold checkI; omega))
  rw [this]; rfl
theorem atB_neg {h l : List Bool} {i : Int} (hi : i < 0) : atB h l i = false := by
  unfold atB; simp [show ¬ (0 ≤ i) by omega]
theorem check_of_valid {h l : List Bool} (hv : Valid h l) : W.check h l = 0 := by have := checkI_0 hv; unfold checkI at this; omega
theorem atB_ok {h l : List Bool} (hv : Valid h l) {i : Int} (hi : 0 ≤ i) : atB h l i = letterB h l i := by
  unfold atB letterB; simp [check_of_valid hv, hi]
def cntI (l : List Bool) : Int := (W.cnt l : Nat)
theorem cntI_bd (l : List Bool) : 0 ≤ cntI l ∧ cntI l ≤ l.length := by unfold cntI; have := W.cnt_le l; omega
theorem cntI_take_succ (l : List Bool) (k : Nat) (h : k < l.length) : cntI (l.take (k + 1)) = cntI (l.take k) + if l.getD k false = true then 1 else 0 := by
  unfold cntI; rw [W.cnt_take_succ l k h]
  have : l.getD k false = l[k] := by simp [List.getD_eq_getElem?_getD, h]
  rw [this]; cases l[k] <;> simp
def onesI (h l : List Bool) (n : Int) : Int := if W.check h l = 0 ∧ 1 ≤ n then (W.ones h l n.toNat : Nat) else 0
theorem onesI_bad {h l : List Bool} (hv : ¬ Valid h l) (n : Int) : onesI h l n = 0 := by
  unfold onesI; rw [if_neg]; intro e; exact hv (Valid.of_checkI (by unfold checkI; omega))
theorem onesI_low {h l : List Bool} {n : Int} (hn : n < 1) : onesI h l n = 0 := by unfold onesI; rw [if_neg (by omega)]
theorem onesI_ok {h l : List Bool} (hv : Valid h l) (n : Nat) : onesI h l n = (W.ones h l n : Nat) := by
  unfold onesI
  by_cases h1 : 1 ≤ n
  · rw [if_pos ⟨check_of_valid hv, by omega⟩]; simp
  · have : n = 0 := by omega
    subst this
    rw [if_neg (by omega), W.ones_zero]; rfl
theorem onesI_head {h l : List Bool} (hv : Valid h l) (n : Nat) (h2 : n ≤ h.length) : onesI h l n = cntI (h.take n) := by
  rw [onesI_ok hv, W.ones_head_le _ _ _ h2]; rfl
theorem onesI_loop {h l : List Bool} (hv : Valid h l) (n : Nat) (h2 : 0 < n) : onesI h l ((n + h.length : Nat) : Int) = cntI h + ((n / l.length : Nat) : Int) * cntI l + cntI (l.take (n % l.length)) := by
  rw [onesI_ok hv]; unfold W.ones cntI; rw [if_neg (by omega)]
  have : n + h.length - h.length = n := by omega
  rw [this]; push_cast; rfl

/-! ### the program's -/
theorem check_any {w0 : World} {A B c d h l} (x : RW w0 A c B d h l) (w : World) [After w0 w] :
    Calls Try.prog 19 #[.agg #[.slice A h.length c, .slice B l.length d]] w fun e w' => e = .returned (.int .i64 (checkI h l)) ∧ ∃ y, w' = w.more y := by
  replace x := x.here w
  obtain ⟨b1, b2⟩ := x.lens
  go_enter Try.func19, Try.ntmps19
  go_wp2
  all_goals
    go_ret
    refine ⟨ret_int ?_, After.is_more _ _⟩
  · exact (checkI_5 (by simpa using ‹((l.length : Int) == 0) = true›)).symm
  · have h1 : ¬ ((l.length : Int) = 0) := by simpa using ‹((l.length : Int) == 0) = false›
    exact (checkI_3 (by omega) (by omega)).symm
  · have h1 : ¬ ((l.length : Int) = 0) := by simpa using ‹((l.length : Int) == 0) = false›
    exact (checkI_0 ⟨by omega, by omega⟩).symm
/-- the same at a known error -/
theorem check_val {w0 : World} {A B c d h l} (x : RW w0 A c B d h l) (w : World) [After w0 w] {v : Int} (hv : checkI h l = v) :
    Calls Try.prog 19 #[.agg #[.slice A h.length c, .slice B l.length d]] w fun e w' => e = .returned (.int .i64 v) ∧ ∃ y, w' = w.more y := by
  rw [← hv]; exact check_any x w

theorem letter_any {w0 : World} {A B c d h l} (x : RW w0 A c B d h l) (w : World) [After w0 w] (i : Int) (h0 : 0 ≤ i) (hi : i ≤ 9223372036854775807) (hl : 0 < l.length) :
    Calls Try.prog 65 #[.agg #[.slice A h.length c, .slice B l.length d], .int .i64 i] w fun e w' => e = .returned (.bool (letterB h l i)) ∧ ∃ y, w' = w.more y := by
  replace x := x.here w
  obtain ⟨b1, b2⟩ := x.lens
  obtain ⟨k, rfl⟩ := Int.eq_ofNat_of_zero_le h0
  by_cases hlt : k < h.length
  · obtain ⟨ad, rfl, hb, hc⟩ := x.head.at_ hlt
    go_enter Try.func65, Try.ntmps65
    go_wp2
    go_ret
    exact ⟨ret_bool (by simp [letterB, W.letter, hlt]), After.is_more _ _⟩
  · obtain ⟨j, rfl⟩ : ∃ j : Nat, k = j + h.length := ⟨k - h.length, by omega⟩
    obtain ⟨ad, b, rfl, hb, hc, HB⟩ := x.loop.bit (k := j % l.length) (Nat.mod_lt _ hl)
    have hj : j % l.length < l.length := Nat.mod_lt _ hl
    have e1 : IntKind.i64.wrap (((j + h.length : Nat) : Int) - (h.length : Int)) = (j : Int) := by rw [IntWalk.i64_in _ (by omega)]; omega
    have e2 : ((j : Int).tmod (l.length : Int)) = ((j % l.length : Nat) : Int) := by rw [Int.tmod_eq_emod_of_nonneg (by omega)]; simp
    have e3 : ¬ ((l.length : Int) = 0) := by omega
    go_enter Try.func65, Try.ntmps65
    go_wp2_with fail
    go_quiet (fail)
    go_wp2
    go_ret
    exact ⟨ret_bool (by rw [letterB_loop, HB.out]), After.is_more _ _⟩

theorem at_any {w0 : World} {A B c d h l} (x : RW w0 A c B d h l) (w : World) [After w0 w] (i : Int) (hi : i ≤ 9223372036854775807) :
    Calls Try.prog 34 #[.agg #[.slice A h.length c, .slice B l.length d], .int .i64 i] w fun e w' => e = .returned (.bool (atB h l i)) ∧ ∃ y, w' = w.more y := by
  rcases check_cases h l with hv | ⟨hv, h5⟩
  · have hc0 := Lib.hid (checkI_0 hv)
    by_cases hi0 : i < 0
    · rw [atB_neg hi0]
      go_enter Try.func34, Try.ntmps34
      go_wp2_with (go_at_call 19; refine (check_val x _ hc0.out).mono ?_; rintro e w' ⟨rfl, y, rfl⟩)
      go_ret
      exact ⟨rfl, After.is_more _ _⟩
    · rw [atB_ok hv (by omega)]
      have hl := hv.1
      have h0 : 0 ≤ i := by omega
      go_enter Try.func34, Try.ntmps34
      go_wp2_with (first
        | (go_at_call 19; refine (check_val x _ hc0.out).mono ?_; rintro e w' ⟨rfl, y, rfl⟩)
        | (go_at_call 65; refine (letter_any x _ i h0 hi hl).mono ?_; rintro e w' ⟨rfl, y, rfl⟩))
      go_ret
      exact ⟨rfl, After.is_more _ _⟩
  · rw [atB_bad hv]
    rcases h5 with h5 | h5
    all_goals
      have hc0 := Lib.hid h5
      clear h5
      go_enter Try.func34, Try.ntmps34
      go_wp2_with (go_at_call 19; refine (check_val x _ hc0.out).mono ?_; rintro e w' ⟨rfl, y, rfl⟩)
      go_ret
      exact ⟨rfl, After.is_more _ _⟩

set_option maxHeartbeats 400000 in
theorem count_any {w0 : World} {A c l} (x : RB w0 A c l) (w : World) [After w0 w] :
    Calls Try.prog 59 #[.slice A l.length c] w fun e w' => e = .returned (.int .i64 (cntI l)) ∧ w = w' := by
  replace x := x.here w
  have b1 := x.le; have b2 := x.cap
  go_enter Try.func59, Try.ntmps59
  go_wp2
  go_loop [3, 8] (fun n i => ∃ k : Nat, k ≤ l.length ∧ i = .int .i64 k ∧ n = .int .i64 (cntI (l.take k))) (fun _ i => l.length - (intOf i).toNat)
  case atStart => exact ⟨0, by omega, rfl, by simp [cntI, W.cnt]⟩
  case round =>
    obtain ⟨k, hk, rfl, rfl⟩ := hrel
    have hb := cntI_bd (l.take k)
    have hl : (l.take k).length ≤ k := List.length_take_le _ _
    by_cases hlt : k < l.length
    · obtain ⟨ad, b, rfl, hbk, hc, HB⟩ := x.bit hlt
      have HS := Lib.hid (cntI_take_succ l k hlt)
      cases b
      all_goals
        go_wp2
        go_round
        case rel => exact ⟨k + 1, by omega, by go_num, by rw [HS.out, HB.out]; first | rfl | simp⟩
        case measure => simp [intOf]; omega
    · go_wp2
      go_ret
      exact ⟨ret_int (by rw [List.take_of_length_le (by omega)]), rfl⟩

theorem RB.cut {w : World} {A c l} (x : RB w A c l) (k : Nat) (hk : k ≤ l.length) : RB w A c (l.take k) := by
  have e : (l.take k).length = k := by rw [List.length_take]; omega
  refine ⟨⟨by rw [bv, List.length_map]; omega, fun hn => ?_⟩, by have := x.le; omega, x.cap, by have := x.len; omega⟩
  obtain ⟨ad, e2, hb, hc⟩ := x.reads.2 (by omega)
  refine ⟨ad, e2, hb, fun j u hu => hc j u ?_⟩
  have : j < k := by
    have := (List.getElem?_eq_some_iff.1 hu).1
    simp [bv] at this; omega
  rw [← hu]; simp [bv, List.getElem?_map, this]
/-- count of the first k -/
theorem count_cut {w0 : World} {A c l} (x : RB w0 A c l) (w : World) [After w0 w] (k : Nat) (hk : k ≤ l.length) :
    Calls Try.prog 59 #[.slice A k c] w fun e w' => e = .returned (.int .i64 (cntI (l.take k))) ∧ w = w' := by
  have h := count_any (x.cut k hk) w
  rwa [show (l.take k).length = k by rw [List.length_take]; omega] at h

theorem ones_all {w0 : World} {A B c d h l} (x : RW w0 A c B d h l) (w : World) [After w0 w] (i : Int) (hi : i ≤ 9223372036854775807) :
    Calls Try.prog 24 #[.agg #[.slice A h.length c, .slice B l.length d], .int .i64 i] w fun e w' => e = .returned (.int .i64 (onesI h l i)) ∧ ∃ y, w' = w.more y := by
  rcases check_cases h l with hv | ⟨hv, h5⟩
  · have hc0 := Lib.hid (checkI_0 hv)
    obtain ⟨b1, b2⟩ := x.lens
    by_cases hi0 : i < 1
    · rw [onesI_low hi0]
      go_enter Try.func24, Try.ntmps24
      go_wp2_with (go_at_call 19; refine (check_val x _ hc0.out).mono ?_; rintro e w' ⟨rfl, y, rfl⟩)
      go_ret
      exact ⟨rfl, After.is_more _ _⟩
    · obtain ⟨n, rfl⟩ := Int.eq_ofNat_of_zero_le (show 0 ≤ i by omega)
      by_cases hn : n ≤ h.length
      · rw [onesI_head hv n hn]
        have hcap := x.head.le
        go_enter Try.func24, Try.ntmps24
        go_wp2_with (first
          | (go_at_call 19; refine (check_val x _ hc0.out).mono ?_; rintro e w' ⟨rfl, y, rfl⟩)
          | (go_at_call 59; refine (count_cut x.head _ n hn).mono ?_; rintro e w' ⟨rfl, rfl⟩))
        go_ret
        exact ⟨rfl, After.is_more _ _⟩
      · obtain ⟨j, rfl⟩ : ∃ j : Nat, n = j + h.length := ⟨n - h.length, by omega⟩
        rw [onesI_loop hv j (by omega)]
        have hl := hv.1
        have hcap := x.loop.le
        obtain ⟨q, hqe⟩ : ∃ q, j / l.length = q := ⟨_, rfl⟩
        obtain ⟨r, hre⟩ : ∃ r, j % l.length = r := ⟨_, rfl⟩
        rw [hqe, hre]
        have e2 : ((j : Int).tmod (l.length : Int)) = (r : Int) := by rw [Int.tmod_eq_emod_of_nonneg (by omega), ← hre]; simp
        have e3 : ((j : Int).tdiv (l.length : Int)) = (q : Int) := by rw [Int.tdiv_eq_ediv_of_nonneg (by omega), ← hqe]; simp
        have e4 : ¬ ((l.length : Int) = 0) := by omega
        have hq : q ≤ j := by rw [← hqe]; exact Nat.div_le_self _ _
        have hr : r < l.length := by rw [← hre]; exact Nat.mod_lt _ hl
        have hdm : l.length * q + r = j := by rw [← hqe, ← hre]; exact Nat.div_add_mod j l.length
        clear hqe hre
        have c1 := cntI_bd h
        have c2 := cntI_bd l
        have c3 := cntI_bd (l.take r)
        have c4 : (l.take r).length ≤ l.length := by rw [List.length_take]; omega
        have hv2 := hv.2
        have c5 : cntI (l.take r) ≤ (r : Int) := by
          have := List.length_take_le r l
          omega
        have m0 : (q : Int) * cntI l ≤ (q : Int) * (l.length : Int) := Int.mul_le_mul_of_nonneg_left c2.2 (by omega)
        have m1 : 0 ≤ (q : Int) * cntI l := Int.mul_nonneg (by omega) c2.1
        have m2 : (q : Int) * (l.length : Int) + (r : Int) = (j : Int) := by rw [← hdm]; push_cast; rw [Int.mul_comm]
        have w1 : IntKind.i64.wrap ((q : Int) * cntI l) = (q : Int) * cntI l := IntWalk.i64_in _ (by omega)
        have w2 : IntKind.i64.wrap (cntI h + (q : Int) * cntI l) = cntI h + (q : Int) * cntI l := IntWalk.i64_in _ (by omega)
        have w3 : IntKind.i64.wrap (cntI h + (q : Int) * cntI l + cntI (l.take r)) = cntI h + (q : Int) * cntI l + cntI (l.take r) := IntWalk.i64_in _ (by omega)
        have w4 : IntKind.i64.wrap (q : Int) = (q : Int) := IntWalk.i64_in _ (by omega)
        have w5 : (((j + h.length : Nat) : Int) - (h.length : Int)) = (j : Int) := by omega
        clear m0 m2 hdm c5
        go_enter Try.func24, Try.ntmps24
        go_wp2_with (first
          | (go_at_call 19; refine (check_val x _ hc0.out).mono ?_; rintro e w' ⟨rfl, y, rfl⟩))
        refine wp_region_more (by kernel_rfl) (by kernel_rfl) ?_
        repeat (go_big_quiet_step ((first
          | (go_at_call 59; with_reducible exact Calls.more_same (count_any x.head _))
          | (go_at_call 59; with_reducible exact Calls.more_same (count_any x.loop _))
          | (go_at_call 59; with_reducible exact Calls.more_same (count_cut x.loop _ r (by omega))))))
        refine wpQuiet_nil ?_
        rintro _ ⟨y2, rfl⟩
        go_wp2
        go_ret
        exact ⟨rfl, After.is_more _ _⟩
  · rw [onesI_bad hv]
    rcases h5 with h5 | h5
    all_goals
      have hc0 := Lib.hid h5
      clear h5
      go_enter Try.func24, Try.ntmps24
      go_wp2_with (go_at_call 19; refine (check_val x _ hc0.out).mono ?_; rintro e w' ⟨rfl, y, rfl⟩)
      go_ret
      exact ⟨rfl, After.is_more _ _⟩
theorem ones_any {w0 : World} {A B c d h l} (x : RW w0 A c B d h l) (w : World) [After w0 w] (i : Int) (hi : i ≤ 1099511627776) :
    Calls Try.prog 24 #[.agg #[.slice A h.length c, .slice B l.length d], .int .i64 i] w fun e w' => e = .returned (.int .i64 (onesI h l i)) ∧ ∃ y, w' = w.more y := ones_all x w i (by omega)
end Go.Proofs.Ytglfocldoaigiaa
