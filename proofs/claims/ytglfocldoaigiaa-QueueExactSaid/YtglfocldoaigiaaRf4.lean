/-
  Contracts: the reference's Rate, diff, Gap, Before; the program's Before.
-/
import Derived.Test.YtglfocldoaigiaaPace4
import Derived.Test.YtglfocldoaigiaaRf2
import Derived.Test.YtglfocldoaigiaaRf3
namespace Go.Proofs.Ytglfocldoaigiaa
open Go.RowKit Go.BigFrame

theorem rdiff_any {w0 : World} {A B c d h l A' B' c' d' h' l'} (x : RW w0 A c B d h l) (x' : RW w0 A' c' B' d' h' l') (w : World) [After w0 w] (n : Int) (hn : n ≤ 1099511627776) (h0 : 0 ≤ n) :
    Calls Try.prog 58 #[.agg #[.slice A h.length c, .slice B l.length d], .agg #[.slice A' h'.length c', .slice B' l'.length d'], .int .i64 n] w fun e w' => e = .returned (.int .i64 (diffI h l h' l' n)) ∧ ∃ y, w' = w.more y := by
  have o1 := onesI_bd h l n
  have o2 := onesI_bd h' l' n
  have w1 : IntKind.i64.wrap (onesI h l n - onesI h' l' n) = onesI h l n - onesI h' l' n := IntWalk.i64_in _ (by omega)
  go_enter Try.func58, Try.ntmps58
  go_wp2_with fail
  refine wp_region_more (by kernel_rfl) (by kernel_rfl) ?_
  repeat (go_big_quiet_step ((first
    | (go_at_call 55; with_reducible exact Calls.more_of (rones_any x _ _ hn))
    | (go_at_call 55; with_reducible exact Calls.more_of (rones_any x' _ _ hn)))))
  refine wpQuiet_nil ?_
  rintro _ ⟨y3, rfl⟩
  go_wp2
  go_ret
  exact ⟨rfl, After.is_more _ _⟩

theorem rrate_any {w0 : World} {A B c d h l} (x : RW w0 A c B d h l) (w : World) [After w0 w] :
    Calls Try.prog 18 #[.agg #[.slice A h.length c, .slice B l.length d]] w fun e w' => e = .returned (.tuple #[.int .i64 (rateV h l).1, .int .i64 (rateV h l).2]) ∧ ∃ y, w' = w.more y := by
  rcases check_cases h l with hv | ⟨hv, h5⟩
  · rw [rateV_ok hv]
    have hc0 := Lib.hid (checkI_0 hv)
    have hv2 := hv.2
    have hv1 := hv.1
    have hcnt := W.cnt_le l
    have hch := W.cnt_le h
    have hg : 0 < Nat.gcd l.length (W.cnt l) := Nat.gcd_pos_of_pos_left _ hv1
    have q1 := tdiv_gcd (W.cnt l) (Nat.gcd l.length (W.cnt l))
    have q2 := tdiv_gcd l.length (Nat.gcd l.length (W.cnt l))
    have hg1 : ¬ ((Nat.gcd l.length (W.cnt l) : Nat) : Int) = 0 := by omega
    have hr1 : W.cnt l / Nat.gcd l.length (W.cnt l) = (rateN l).1 := rfl
    have hr2 : l.length / Nat.gcd l.length (W.cnt l) = (rateN l).2 := rfl
    have hg2 := Nat.gcd_le_left (W.cnt l) hv1
    rw [hr1] at q1; rw [hr2] at q2
    have l1 : (rateN l).1 ≤ W.cnt l := Nat.div_le_self _ _
    have l2 : (rateN l).2 ≤ l.length := Nat.div_le_self _ _
    clear hr1 hr2
    generalize (rateN l).1 = r1 at *
    generalize (rateN l).2 = r2 at *
    have w1 : IntKind.i64.wrap (r1 : Int) = (r1 : Int) := IntWalk.i64_in _ (by omega)
    have w2 : IntKind.i64.wrap (r2 : Int) = (r2 : Int) := IntWalk.i64_in _ (by omega)
    have C1 := Lib.hid (cntI_head h l hv)
    have C2 := Lib.hid (cntI_both h l hv)
    obtain ⟨p, hp⟩ : ∃ p, W.cnt h = p := ⟨_, rfl⟩
    obtain ⟨s, hs⟩ : ∃ s, W.cnt l = s := ⟨_, rfl⟩
    have K1 : Hid (∀ U : World, After w0 U → Calls Try.prog 55 #[.agg #[.slice A h.length c, .slice B l.length d], .int .i64 (h.length : Nat)] U fun e w' => e = .returned (.int .i64 (p : Nat)) ∧ ∃ y, w' = U.more y) := by
      intro U _
      have := rones_any x U (h.length : Nat) (by omega)
      rwa [C1.out, hp] at this
    have K2 : Hid (∀ U : World, After w0 U → Calls Try.prog 55 #[.agg #[.slice A h.length c, .slice B l.length d], .int .i64 ((h.length : Int) + (l.length : Int))] U fun e w' => e = .returned (.int .i64 ((p : Int) + (s : Int))) ∧ ∃ y, w' = U.more y) := by
      intro U _
      have := rones_any x U ((h.length + l.length : Nat) : Int) (by omega)
      rw [C2.out, hp, hs] at this
      push_cast at this
      exact this
    rw [hs] at q1 q2 hg1 hg hg2 hcnt l1
    rw [hp] at hch
    clear hp hs
    obtain ⟨g, hgg⟩ : ∃ g, Nat.gcd l.length s = g := ⟨_, rfl⟩
    rw [hgg] at q1 q2 hg1 hg hg2
    have HG : Hid (∀ U : World, Calls Try.prog 56 #[.int .i64 (l.length : Nat), .int .i64 (s : Nat)] U fun e w' => e = .returned (.int .i64 (g : Nat)) ∧ ∃ y, w' = U.more y) := by
      intro U
      rw [← hgg]
      exact gcd_r31 _ _ (by omega) (by omega)
    clear hgg
    have w3 : IntKind.i64.wrap ((h.length : Int) + (l.length : Int)) = (h.length : Int) + (l.length : Int) := IntWalk.i64_in _ (by omega)
    have w4 : IntKind.i64.wrap ((p : Int) + (s : Int) - (p : Int)) = (s : Int) := by rw [IntWalk.i64_in _ (by omega)]; omega
    have e9 : (p : Int) + (s : Int) - (p : Int) = (s : Int) := by omega
    have w5 : IntKind.i64.wrap (s : Int) = (s : Int) := IntWalk.i64_in _ (by omega)
    go_enter Try.func18, Try.ntmps18
    go_wp2_with (go_at_call 28; refine (rcheck_val x _ hc0.out).mono ?_; rintro e w' ⟨rfl, y, rfl⟩)
    refine wp_region_more (by kernel_rfl) (by kernel_rfl) ?_
    repeat (go_big_quiet_step ((first
      | (go_at_call 55; with_reducible exact Calls.more_of (K1.out _ inferInstance))
      | (go_at_call 55; with_reducible exact Calls.more_of (K2.out _ inferInstance)))))
    refine wpQuiet_nil ?_
    rintro _ ⟨y3, rfl⟩
    go_wp2_with (go_at_call 56; with_reducible refine (HG.out _).mono ?_; rintro e w' ⟨rfl, y2, rfl⟩)
    go_quiet (fail)
    go_wp2
    go_ret2
    exact ⟨rfl, After.is_more _ _⟩
  · rw [rateV_bad hv]
    rcases h5 with h5 | h5
    all_goals
      have hc0 := Lib.hid h5
      clear h5
      go_enter Try.func18, Try.ntmps18
      go_wp2_with (go_at_call 28; refine (rcheck_val x _ hc0.out).mono ?_; rintro e w' ⟨rfl, y, rfl⟩)
      go_ret2
      exact ⟨rfl, After.is_more _ _⟩

set_option maxHeartbeats 1600000 in
theorem rgap_any {w0 : World} {A B c d h l A' B' c' d' h' l'} (x : RW w0 A c B d h l) (x' : RW w0 A' c' B' d' h' l') (w : World) [After w0 w] :
    Calls Try.prog 22 #[.agg #[.slice A h.length c, .slice B l.length d], .agg #[.slice A' h'.length c', .slice B' l'.length d']] w
      fun e w' => e = .returned (.tuple #[.int .i64 (gapV h l h' l').1, .bool (gapV h l h' l').2]) ∧ ∃ y, w' = w.more y := by
  by_cases hvv : Valid h l ∧ Valid h' l'
  · obtain ⟨hv, hv'⟩ := hvv
    have hsb := spanN_bd hv hv'
    have hsp := spanV_ok hv hv'
    have hgno := gapV_no (h := h) (l := l) (h' := h') (l' := l')
    have hgyes := gapV_yes hv hv'
    unfold gapN at hgyes
    obtain ⟨m, hm⟩ : ∃ m, (spanN h l h' l').1 = m := ⟨_, rfl⟩
    obtain ⟨n, hn⟩ : ∃ n, (spanN h l h' l').2 = n := ⟨_, rfl⟩
    rw [hm, hn] at hsb hsp hgno hgyes
    have HS : Hid (∀ U : World, After w0 U → Calls Try.prog 35 #[.agg #[.slice A h.length c, .slice B l.length d], .agg #[.slice A' h'.length c', .slice B' l'.length d']] U
      fun e w' => e = .returned (.tuple #[.int .i64 (m : Nat), .int .i64 (n : Nat)]) ∧ ∃ y, w' = U.more y) := by
      intro U _
      have := rspan_any x x' U
      rwa [hsp] at this
    clear hm hn hsp
    have w1 : IntKind.i64.wrap ((m : Int) + (n : Int)) = (m : Int) + (n : Int) := IntWalk.i64_in _ (by omega)
    have b1 : ((n : Int) == 0) = false := by rw [beq_eq_false_iff_ne]; omega
    by_cases hc : diffI h l h' l' (m : Int) < diffI h l h' l' ((m : Int) + (n : Int))
    · have HV := Lib.hid (hgno hc)
      clear hgno hgyes
      go_enter Try.func22, Try.ntmps22
      go_wp2_with (go_at_call 35; with_reducible refine (HS.out _ inferInstance).mono ?_; rintro e w' ⟨rfl, y1, rfl⟩)
      refine wp_region_more (by kernel_rfl) (by kernel_rfl) ?_
      repeat (go_big_quiet_step ((go_at_call 58; with_reducible exact Calls.more_of (rdiff_any x x' _ _ (by omega) (by omega)))))
      refine wpQuiet_nil ?_
      rintro _ ⟨y3, rfl⟩
      go_wp2
      go_ret2
      exact ⟨by rw [HV.out]; rfl, After.is_more _ _⟩
    · have HV := Lib.hid (hgyes (by omega))
      clear hgno hgyes
      go_enter Try.func22, Try.ntmps22
      go_wp2_with (go_at_call 35; with_reducible refine (HS.out _ inferInstance).mono ?_; rintro e w' ⟨rfl, y1, rfl⟩)
      refine wp_region_more (by kernel_rfl) (by kernel_rfl) ?_
      repeat (go_big_quiet_step ((go_at_call 58; with_reducible exact Calls.more_of (rdiff_any x x' _ _ (by omega) (by omega)))))
      refine wpQuiet_nil ?_
      rintro _ ⟨y3, rfl⟩
      go_wp2
      go_loopw [8, 9] (fun v i wr => ∃ k : Nat, k ≤ m + n + 1 ∧ i = .int .i64 k ∧ v = .int .i64 (maxTo (dN h l h' l') k) ∧
        After ((w.alloc (.cells #[.slice A h.length c, .slice B l.length d] 24)).alloc (.cells #[.slice A' h'.length c', .slice B' l'.length d'] 24)) wr) (fun _ i _ => m + n + 1 - (intOf i).toNat)
      case atStart => exact ⟨0, by omega, rfl, rfl, inferInstance⟩
      case round =>
        obtain ⟨k, hk, rfl, rfl, haft⟩ := hrel
        obtain ⟨z, rfl⟩ := After.is_more ((w.alloc (.cells #[.slice A h.length c, .slice B l.length d] 24)).alloc (.cells #[.slice A' h'.length c', .slice B' l'.length d'] 24)) wr
        by_cases hlt : k < m + n + 1
        · have HM : Hid (maxTo (dN h l h' l') (k + 1) = max (maxTo (dN h l h' l') k) (diffI h l h' l' (k : Int))) := rfl
          go_wp2_with (go_at_call 58; with_reducible refine (rdiff_any x x' _ _ (by omega) (by omega)).mono ?_; rintro e w' ⟨rfl, y4, rfl⟩)
          go_roundw
          case rel => exact ⟨k + 1, by omega, by go_num, congrArg (Value.int .i64) (by rw [HM.out]; split <;> omega), inferInstance⟩
          case measure => simp [intOf]; omega
        · obtain rfl : k = m + n + 1 := by omega
          go_wp2
          go_ret2
          exact ⟨by rw [HV.out]; rfl, After.is_more _ _⟩
  · have hsp : spanV h l h' l' = (0, 0) := by
      by_cases hv : Valid h l
      · exact spanV_bad2 (fun e => hvv ⟨hv, e⟩)
      · exact spanV_bad1 hv
    have hgv : gapV h l h' l' = (0, false) := by
      by_cases hv : Valid h l
      · exact gapV_bad2 (fun e => hvv ⟨hv, e⟩)
      · exact gapV_bad1 hv
    rw [hgv]
    have HS : Hid (∀ U : World, After w0 U → Calls Try.prog 35 #[.agg #[.slice A h.length c, .slice B l.length d], .agg #[.slice A' h'.length c', .slice B' l'.length d']] U
      fun e w' => e = .returned (.tuple #[.int .i64 0, .int .i64 0]) ∧ ∃ y, w' = U.more y) := by
      intro U _
      have := rspan_any x x' U
      rwa [hsp] at this
    clear hsp hgv
    go_enter Try.func22, Try.ntmps22
    go_wp2_with (go_at_call 35; with_reducible refine (HS.out _ inferInstance).mono ?_; rintro e w' ⟨rfl, y1, rfl⟩)
    go_quiet (fail)
    go_wp2
    go_ret2
    exact ⟨rfl, After.is_more _ _⟩

def beforeV (h l h' l' : List Bool) : Bool := (gapV h' l' h l).2 && (gapV h' l' h l).1 == 0

theorem before_any {w0 : World} {A B c d h l A' B' c' d' h' l'} (x : RW w0 A c B d h l) (x' : RW w0 A' c' B' d' h' l') (w : World) [After w0 w] :
    Calls Try.prog 48 #[.agg #[.slice A h.length c, .slice B l.length d], .agg #[.slice A' h'.length c', .slice B' l'.length d']] w
      fun e w' => e = .returned (.bool (beforeV h l h' l')) ∧ ∃ y, w' = w.more y := by
  obtain ⟨g, hg⟩ : ∃ g, (gapV h' l' h l).1 = g := ⟨_, rfl⟩
  obtain ⟨b, hb⟩ : ∃ b, (gapV h' l' h l).2 = b := ⟨_, rfl⟩
  have HG : Hid (∀ U : World, After w0 U → Calls Try.prog 21 #[.agg #[.slice A' h'.length c', .slice B' l'.length d'], .agg #[.slice A h.length c, .slice B l.length d]] U
      fun e w' => e = .returned (.tuple #[.int .i64 g, .bool b]) ∧ ∃ y, w' = U.more y) := by
    intro U _
    have := gap_any x' x U
    rwa [hg, hb] at this
  have HV : Hid (beforeV h l h' l' = (b && g == 0)) := by unfold beforeV; rw [hg, hb]; rfl
  clear hg hb
  cases b
  · go_enter Try.func48, Try.ntmps48
    go_wp2_with (go_at_call 21; with_reducible refine (HG.out _ inferInstance).mono ?_; rintro e w' ⟨rfl, y1, rfl⟩)
    go_ret
    exact ⟨by rw [HV.out]; rfl, After.is_more _ _⟩
  · go_enter Try.func48, Try.ntmps48
    go_wp2_with (go_at_call 21; with_reducible refine (HG.out _ inferInstance).mono ?_; rintro e w' ⟨rfl, y1, rfl⟩)
    go_ret
    exact ⟨by rw [HV.out]; exact ret_bool (by simp), After.is_more _ _⟩

theorem rbefore_any {w0 : World} {A B c d h l A' B' c' d' h' l'} (x : RW w0 A c B d h l) (x' : RW w0 A' c' B' d' h' l') (w : World) [After w0 w] :
    Calls Try.prog 49 #[.agg #[.slice A h.length c, .slice B l.length d], .agg #[.slice A' h'.length c', .slice B' l'.length d']] w
      fun e w' => e = .returned (.bool (beforeV h l h' l')) ∧ ∃ y, w' = w.more y := by
  obtain ⟨g, hg⟩ : ∃ g, (gapV h' l' h l).1 = g := ⟨_, rfl⟩
  obtain ⟨b, hb⟩ : ∃ b, (gapV h' l' h l).2 = b := ⟨_, rfl⟩
  have HG : Hid (∀ U : World, After w0 U → Calls Try.prog 22 #[.agg #[.slice A' h'.length c', .slice B' l'.length d'], .agg #[.slice A h.length c, .slice B l.length d]] U
      fun e w' => e = .returned (.tuple #[.int .i64 g, .bool b]) ∧ ∃ y, w' = U.more y) := by
    intro U _
    have := rgap_any x' x U
    rwa [hg, hb] at this
  have HV : Hid (beforeV h l h' l' = (b && g == 0)) := by unfold beforeV; rw [hg, hb]; rfl
  clear hg hb
  cases b
  · go_enter Try.func49, Try.ntmps49
    go_wp2_with (go_at_call 22; with_reducible refine (HG.out _ inferInstance).mono ?_; rintro e w' ⟨rfl, y1, rfl⟩)
    go_ret
    exact ⟨by rw [HV.out]; rfl, After.is_more _ _⟩
  · go_enter Try.func49, Try.ntmps49
    go_wp2_with (go_at_call 22; with_reducible refine (HG.out _ inferInstance).mono ?_; rintro e w' ⟨rfl, y1, rfl⟩)
    go_ret
    exact ⟨by rw [HV.out]; exact ret_bool (by simp), After.is_more _ _⟩
end Go.Proofs.Ytglfocldoaigiaa
