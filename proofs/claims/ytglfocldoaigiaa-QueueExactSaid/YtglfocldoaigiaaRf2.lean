/-
  Contract: the reference's Nth.
-/
import Derived.Test.YtglfocldoaigiaaPace2
import Derived.Test.YtglfocldoaigiaaRf1
namespace Go.Proofs.Ytglfocldoaigiaa
open Go.RowKit Go.BigFrame

theorem cntI_head (h l : List Bool) (hv : Valid h l) : onesI h l (h.length : Nat) = (W.cnt h : Nat) := by rw [onesI_ok hv, W.ones_head]
theorem cntI_both (h l : List Bool) (hv : Valid h l) : onesI h l ((h.length + l.length : Nat) : Int) = (W.cnt h : Nat) + (W.cnt l : Nat) := by
  have := W.ones_add_loop h l h.length 1 hv.1 (Nat.le_refl _)
  rw [Nat.one_mul, Nat.one_mul, W.ones_head] at this
  rw [onesI_ok hv, this]; push_cast; rfl

set_option maxHeartbeats 1600000 in
theorem rnth_any {w0 : World} {A B c d h l} (x : RW w0 A c B d h l) (w : World) [After w0 w] (k : Int) :
    Calls Try.prog 33 #[.agg #[.slice A h.length c, .slice B l.length d], .int .i64 k] w fun e w' => e = .returned (.tuple #[.int .i64 (nthV h l k).1, .bool (nthV h l k).2]) ∧ ∃ y, w' = w.more y := by
  rcases check_cases h l with hv | ⟨hv, h5⟩
  · have hc0 := Lib.hid (checkI_0 hv)
    by_cases hk0 : k < 0
    · rw [nthV_out (.inl hk0)]
      go_enter Try.func33, Try.ntmps33
      go_wp2_with (go_at_call 28; refine (rcheck_val x _ hc0.out).mono ?_; rintro e w' ⟨rfl, y, rfl⟩)
      go_ret2
      exact ⟨rfl, After.is_more _ _⟩
    · by_cases hk1 : 2147483647 < k
      · rw [nthV_out (.inr hk1)]
        go_enter Try.func33, Try.ntmps33
        go_wp2_with (go_at_call 28; refine (rcheck_val x _ hc0.out).mono ?_; rintro e w' ⟨rfl, y, rfl⟩)
        go_ret2
        exact ⟨rfl, After.is_more _ _⟩
      · obtain ⟨k, rfl⟩ := Int.eq_ofNat_of_zero_le (show 0 ≤ k by omega)
        have hv2 := hv.2
        have hv1 := hv.1
        have hlen : l.length ≤ 64 := by omega
        have hcl := W.cnt_le l
        have hch := W.cnt_le h
        have C1 := Lib.hid (cntI_head h l hv)
        have C2 := Lib.hid (cntI_both h l hv)
        obtain ⟨p, hp⟩ : ∃ p, W.cnt h = p := ⟨_, rfl⟩
        obtain ⟨s, hs⟩ : ∃ s, W.cnt l = s := ⟨_, rfl⟩
        have K1 : Hid (∀ U : World, After w0 U → Calls Try.prog 55 #[.agg #[.slice A h.length c, .slice B l.length d], .int .i64 (h.length : Nat)] U fun e w' => e = .returned (.int .i64 (p : Nat)) ∧ ∃ y, w' = U.more y) := by
          intro U _
          have := rones_any x U (h.length : Nat) (by omega)
          rwa [C1.out, hp] at this
        have K2 : Hid (∀ U : World, After w0 U → Calls Try.prog 55 #[.agg #[.slice A h.length c, .slice B l.length d], .int .i64 ((h.length : Int) + (l.length : Int))] U fun e w' => e = .returned (.int .i64 ((p : Int) + (s : Int))) ∧ ∃ y, w' = U.more y) := by
          intro U _
          have := rones_any x U ((h.length + l.length : Nat) : Int) (by omega)
          rw [C2.out, hp, hs] at this
          push_cast at this
          exact this
        rw [hp] at hch
        rw [hs] at hcl
        by_cases hnone : s = 0 ∧ p ≤ k
        · obtain ⟨rfl, hpk⟩ := hnone
          have HV := Lib.hid (nthV_none (h := h) (l := l) (k := k) (by omega) hs)
          clear hp hs
          go_enter Try.func33, Try.ntmps33
          go_wp2_with (first
            | (go_at_call 28; refine (rcheck_val x _ hc0.out).mono ?_; rintro e w' ⟨rfl, y, rfl⟩)
            | (go_at_call 55; with_reducible refine (K1.out _ inferInstance).mono ?_; rintro e w' ⟨rfl, y1, rfl⟩)
            | (go_at_call 55; with_reducible refine (K2.out _ inferInstance).mono ?_; rintro e w' ⟨rfl, y2, rfl⟩))
          go_ret2
          exact ⟨by rw [HV.out]; rfl, After.is_more _ _⟩
        · have hsome : k < W.cnt h ∨ 0 < W.cnt l := by omega
          obtain ⟨N, hN, hlet, hone, hstart, hNbd⟩ := nthN_spec h l k hv1 hsome
          have HV : Hid (nthV h l k = ((N : Int), true)) := by
            show nthV h l k = _
            unfold nthV
            rw [if_pos ⟨check_of_valid hv, by omega, by omega, by omega⟩, Int.toNat_natCast, hN]
          have hNb : N ≤ 64 + 2147483648 * 64 := by
            have : (k + 1) * l.length ≤ 2147483648 * 64 := Nat.mul_le_mul (by omega) hlen
            omega
          have R1 : Hid (∀ (U : World) (a : Nat), After w0 U → a < N → ∃ o : Nat, o ≤ k ∧ Calls Try.prog 55 #[.agg #[.slice A h.length c, .slice B l.length d], .int .i64 ((a : Int) + 1)] U fun e w' => e = .returned (.int .i64 (o : Nat)) ∧ ∃ y, w' = U.more y) := by
            intro U a _ ha
            have := rones_any x U ((a + 1 : Nat) : Int) (by omega)
            rw [onesI_ok hv] at this
            push_cast at this
            refine ⟨W.ones h l (a + 1), ?_, this⟩
            rw [← hone]; exact ones_mono h l hv1 (by omega)
          have R2 : Hid (∀ (U : World), After w0 U → Calls Try.prog 55 #[.agg #[.slice A h.length c, .slice B l.length d], .int .i64 ((N : Int) + 1)] U fun e w' => e = .returned (.int .i64 ((k : Int) + 1)) ∧ ∃ y, w' = U.more y) := by
            intro U _
            have := rones_any x U ((N + 1 : Nat) : Int) (by omega)
            rw [onesI_ok hv, W.ones_succ _ _ _ hv1, hlet, hone] at this
            push_cast at this
            exact this
          rw [hp, hs] at hstart
          clear hN hlet hone hsome hp hs
          obtain ⟨q, hq⟩ : ∃ q, (k - p) / s = q := ⟨_, rfl⟩
          rw [hq] at hstart
          have hqk : q ≤ k := by rw [← hq]; exact Nat.le_trans (Nat.div_le_self _ _) (by omega)
          have e9 : (p : Int) + (s : Int) - (p : Int) = (s : Int) := by omega
          have hcase : (k < p ∧ ((s : Int) == 0) = true) ∨ (k < p ∧ ((s : Int) == 0) = false) ∨ (p ≤ k ∧ ((s : Int) == 0) = false) := by
            by_cases h1 : s = 0
            · exact .inl ⟨by omega, by rw [h1]; rfl⟩
            · have : ((s : Int) == 0) = false := by rw [beq_eq_false_iff_ne]; omega
              by_cases h2 : k < p
              · exact .inr (.inl ⟨h2, this⟩)
              · exact .inr (.inr ⟨by omega, this⟩)
          have hd : p ≤ k → ((k : Int) - (p : Int)).tdiv (s : Int) = (q : Int) := by
            intro hpk
            have : ((k : Int) - (p : Int)) = ((k - p : Nat) : Int) := by omega
            rw [this, Int.tdiv_eq_ediv_of_nonneg (by omega), ← hq]; simp
          have m1 : 0 ≤ (q : Int) * (l.length : Int) ∧ (q : Int) * (l.length : Int) ≤ 2147483647 * 64 := by
            constructor
            · exact Int.mul_nonneg (by omega) (by omega)
            · exact Int.mul_le_mul (by omega) (by omega) (by omega) (by omega)
          have m2 : p ≤ k → (h.length : Int) + (q : Int) * (l.length : Int) ≤ (N : Int) := by
            intro hpk
            have := hstart hpk
            have e : ((h.length + q * l.length : Nat) : Int) = (h.length : Int) + (q : Int) * (l.length : Int) := by push_cast; rfl
            omega
          have w1 : IntKind.i64.wrap ((q : Int) * (l.length : Int)) = (q : Int) * (l.length : Int) := IntWalk.i64_in _ (by omega)
          have w2 : IntKind.i64.wrap ((h.length : Int) + (q : Int) * (l.length : Int)) = (h.length : Int) + (q : Int) * (l.length : Int) := IntWalk.i64_in _ (by omega)
          have w4 : IntKind.i64.wrap (q : Int) = (q : Int) := IntWalk.i64_in _ (by omega)
          have S2 : Hid (p ≤ k → ∃ a : Nat, (a : Int) = (h.length : Int) + (q : Int) * (l.length : Int) ∧ a ≤ N) := fun hpk => ⟨h.length + q * l.length, by push_cast; rfl, hstart hpk⟩
          have hD := Lib.hid hd
          clear hq hd m2 hstart
          rcases hcase with ⟨hk, hs0⟩ | ⟨hk, hs0⟩ | ⟨hk, hs0⟩
          · have hd1 : decide (p ≤ k) = false := by simp; omega
            go_enter Try.func33, Try.ntmps33
            go_wp2_with (first
                | (go_at_call 28; refine (rcheck_val x _ hc0.out).mono ?_; rintro e w' ⟨rfl, y, rfl⟩)
                | (go_at_call 55; with_reducible refine (K1.out _ inferInstance).mono ?_; rintro e w' ⟨rfl, y1, rfl⟩)
                | (go_at_call 55; with_reducible refine (K2.out _ inferInstance).mono ?_; rintro e w' ⟨rfl, y2, rfl⟩))
            go_loopw [8] (fun v wr => ∃ a : Nat, v = .int .i64 a ∧ a ≤ N ∧ After (w.alloc (.cells #[.slice A h.length c, .slice B l.length d] 24)) wr) (fun v _ => N - (intOf v).toNat)
            case atStart => exact ⟨0, rfl, by omega, inferInstance⟩
            case round =>
              obtain ⟨a, rfl, haN, haft⟩ := hrel
              obtain ⟨z, rfl⟩ := After.is_more (w.alloc (.cells #[.slice A h.length c, .slice B l.length d] 24)) wr
              by_cases haN2 : a < N
              · obtain ⟨o, ho, RO⟩ := R1.out (((w.alloc (.cells #[.slice A h.length c, .slice B l.length d] 24)).more z)) a inferInstance haN2
                have RO := Lib.hid RO
                go_wp2_with (go_at_call 55; with_reducible refine RO.out.mono ?_; rintro e w' ⟨rfl, y3, rfl⟩)
                go_roundw
                case rel => first | exact ⟨a + 1, by go_num, by omega, inferInstance⟩ | ((repeat apply Exists.intro); exact ⟨⟨a + 1, by go_num, by omega, inferInstance⟩, rfl⟩)
                case measure => simp [intOf]; omega
              · obtain rfl : a = N := by omega
                go_wp2_with (go_at_call 55; with_reducible refine (R2.out _ inferInstance).mono ?_; rintro e w' ⟨rfl, y3, rfl⟩)
                go_ret2
                exact ⟨by rw [HV.out]; rfl, After.is_more _ _⟩
          · have hd1 : decide (p ≤ k) = false := by simp; omega
            go_enter Try.func33, Try.ntmps33
            go_wp2_with (first
                | (go_at_call 28; refine (rcheck_val x _ hc0.out).mono ?_; rintro e w' ⟨rfl, y, rfl⟩)
                | (go_at_call 55; with_reducible refine (K1.out _ inferInstance).mono ?_; rintro e w' ⟨rfl, y1, rfl⟩)
                | (go_at_call 55; with_reducible refine (K2.out _ inferInstance).mono ?_; rintro e w' ⟨rfl, y2, rfl⟩))
            go_loopw [8] (fun v wr => ∃ a : Nat, v = .int .i64 a ∧ a ≤ N ∧ After (w.alloc (.cells #[.slice A h.length c, .slice B l.length d] 24)) wr) (fun v _ => N - (intOf v).toNat)
            case atStart => exact ⟨0, rfl, by omega, inferInstance⟩
            case round =>
              obtain ⟨a, rfl, haN, haft⟩ := hrel
              obtain ⟨z, rfl⟩ := After.is_more (w.alloc (.cells #[.slice A h.length c, .slice B l.length d] 24)) wr
              by_cases haN2 : a < N
              · obtain ⟨o, ho, RO⟩ := R1.out (((w.alloc (.cells #[.slice A h.length c, .slice B l.length d] 24)).more z)) a inferInstance haN2
                have RO := Lib.hid RO
                go_wp2_with (go_at_call 55; with_reducible refine RO.out.mono ?_; rintro e w' ⟨rfl, y3, rfl⟩)
                go_roundw
                case rel => first | exact ⟨a + 1, by go_num, by omega, inferInstance⟩ | ((repeat apply Exists.intro); exact ⟨⟨a + 1, by go_num, by omega, inferInstance⟩, rfl⟩)
                case measure => simp [intOf]; omega
              · obtain rfl : a = N := by omega
                go_wp2_with (go_at_call 55; with_reducible refine (R2.out _ inferInstance).mono ?_; rintro e w' ⟨rfl, y3, rfl⟩)
                go_ret2
                exact ⟨by rw [HV.out]; rfl, After.is_more _ _⟩
          · have hd1 : decide (p ≤ k) = true := by simp; omega
            have e8 := hD.out hk
            obtain ⟨at0, hat0, hatN⟩ := S2.out hk
            have HA := Lib.hid hat0
            clear hat0
            go_enter Try.func33, Try.ntmps33
            go_wp2_with (first
                | (go_at_call 28; refine (rcheck_val x _ hc0.out).mono ?_; rintro e w' ⟨rfl, y, rfl⟩)
                | (go_at_call 55; with_reducible refine (K1.out _ inferInstance).mono ?_; rintro e w' ⟨rfl, y1, rfl⟩)
                | (go_at_call 55; with_reducible refine (K2.out _ inferInstance).mono ?_; rintro e w' ⟨rfl, y2, rfl⟩))
            go_loopw [8] (fun v wr => ∃ a : Nat, v = .int .i64 a ∧ a ≤ N ∧ After (w.alloc (.cells #[.slice A h.length c, .slice B l.length d] 24)) wr) (fun v _ => N - (intOf v).toNat)
            case atStart => exact ⟨at0, by rw [HA.out], hatN, inferInstance⟩
            case round =>
              obtain ⟨a, rfl, haN, haft⟩ := hrel
              obtain ⟨z, rfl⟩ := After.is_more (w.alloc (.cells #[.slice A h.length c, .slice B l.length d] 24)) wr
              by_cases haN2 : a < N
              · obtain ⟨o, ho, RO⟩ := R1.out (((w.alloc (.cells #[.slice A h.length c, .slice B l.length d] 24)).more z)) a inferInstance haN2
                have RO := Lib.hid RO
                go_wp2_with (go_at_call 55; with_reducible refine RO.out.mono ?_; rintro e w' ⟨rfl, y3, rfl⟩)
                go_roundw
                case rel => first | exact ⟨a + 1, by go_num, by omega, inferInstance⟩ | ((repeat apply Exists.intro); exact ⟨⟨a + 1, by go_num, by omega, inferInstance⟩, rfl⟩)
                case measure => simp [intOf]; omega
              · obtain rfl : a = N := by omega
                go_wp2_with (go_at_call 55; with_reducible refine (R2.out _ inferInstance).mono ?_; rintro e w' ⟨rfl, y3, rfl⟩)
                go_ret2
                exact ⟨by rw [HV.out]; rfl, After.is_more _ _⟩
  · rw [nthV_bad hv]
    rcases h5 with h5 | h5
    all_goals
      have hc0 := Lib.hid h5
      clear h5
      go_enter Try.func33, Try.ntmps33
      go_wp2_with (go_at_call 28; refine (rcheck_val x _ hc0.out).mono ?_; rintro e w' ⟨rfl, y, rfl⟩)
      go_ret2
      exact ⟨rfl, After.is_more _ _⟩
end Go.Proofs.Ytglfocldoaigiaa
