/-
  Contracts of package pace: Span.
-/
import Derived.Test.YtglfocldoaigiaaPace1
namespace Go.Proofs.Ytglfocldoaigiaa
open Go.RowKit Go.BigFrame

def spanN (h l h' l' : List Bool) : Nat × Nat := (max h.length h'.length, l.length / Nat.gcd l.length l'.length * l'.length)
def spanV (h l h' l' : List Bool) : Int × Int := if W.check h l = 0 ∧ W.check h' l' = 0 then ((((spanN h l h' l').1 : Nat) : Int), (((spanN h l h' l').2 : Nat) : Int)) else (0, 0)
theorem spanV_ok {h l h' l' : List Bool} (hv : Valid h l) (hv' : Valid h' l') : spanV h l h' l' = ((((spanN h l h' l').1 : Nat) : Int), (((spanN h l h' l').2 : Nat) : Int)) := by
  unfold spanV; rw [if_pos ⟨check_of_valid hv, check_of_valid hv'⟩]
theorem spanV_bad1 {h l h' l' : List Bool} (hv : ¬ Valid h l) : spanV h l h' l' = (0, 0) := by
  unfold spanV; rw [if_neg]; intro e; exact hv (Valid.of_checkI (by unfold checkI; omega))
theorem spanV_bad2 {h l h' l' : List Bool} (hv : ¬ Valid h' l') : spanV h l h' l' = (0, 0) := by
  unfold spanV; rw [if_neg]; intro e; exact hv (Valid.of_checkI (by unfold checkI; omega))
theorem spanN_bd {h l h' l' : List Bool} (hv : Valid h l) (hv' : Valid h' l') : (spanN h l h' l').1 ≤ 64 ∧ 0 < (spanN h l h' l').2 ∧ (spanN h l h' l').2 ≤ 4096 := by
  have a1 := hv.2; have a2 := hv'.2; have a3 := hv.1; have a4 := hv'.1
  unfold spanN
  refine ⟨by simp only []; omega, ?_, ?_⟩
  · simp only []
    have hg : 0 < Nat.gcd l.length l'.length := Nat.gcd_pos_of_pos_left _ a3
    have : 0 < l.length / Nat.gcd l.length l'.length := Nat.div_pos (Nat.gcd_le_left _ a3) hg
    exact Nat.mul_pos this a4
  · simp only []
    have : l.length / Nat.gcd l.length l'.length ≤ 64 := Nat.le_trans (Nat.div_le_self _ _) (by omega)
    exact Nat.mul_le_mul this (show l'.length ≤ 64 by omega)

set_option maxHeartbeats 1000000 in
theorem span_any {w0 : World} {A B c d h l A' B' c' d' h' l'} (x : RW w0 A c B d h l) (x' : RW w0 A' c' B' d' h' l') (w : World) [After w0 w] :
    Calls Try.prog 23 #[.agg #[.slice A h.length c, .slice B l.length d], .agg #[.slice A' h'.length c', .slice B' l'.length d']] w
      fun e w' => e = .returned (.tuple #[.int .i64 (spanV h l h' l').1, .int .i64 (spanV h l h' l').2]) ∧ ∃ y, w' = w.more y := by
  rcases check_cases h l with hv | ⟨hv, h5⟩
  · have hc0 := Lib.hid (checkI_0 hv)
    rcases check_cases h' l' with hv' | ⟨hv', h5⟩
    · have hc0' := Lib.hid (checkI_0 hv')
      have hb := spanN_bd hv hv'
      rw [spanV_ok hv hv']
      obtain ⟨m, hm⟩ : ∃ m, (spanN h l h' l').1 = m := ⟨_, rfl⟩
      obtain ⟨n, hn⟩ : ∃ n, (spanN h l h' l').2 = n := ⟨_, rfl⟩
      rw [hm, hn] at hb ⊢
      obtain ⟨g, hg⟩ : ∃ g, Nat.gcd l.length l'.length = g := ⟨_, rfl⟩
      have hv1 := hv.1
      have hv2 := hv.2
      have hv1' := hv'.1
      have hv2' := hv'.2
      have hg0 : 0 < g := by rw [← hg]; exact Nat.gcd_pos_of_pos_left _ hv1
      have hgl : g ≤ 64 := by have := Nat.gcd_le_left l'.length hv1; omega
      obtain ⟨q, hq⟩ : ∃ q, l.length / g = q := ⟨_, rfl⟩
      have hq64 : q ≤ 64 := by rw [← hq]; exact Nat.le_trans (Nat.div_le_self _ _) (by omega)
      have e1 := tdiv_gcd l.length g
      rw [hq] at e1
      have hqn : q * l'.length = n := by rw [← hn, ← hq, ← hg]; rfl
      have e2 : IntKind.i64.wrap ((q : Int) * (l'.length : Int)) = (n : Int) := by
        have : (q : Int) * (l'.length : Int) = ((q * l'.length : Nat) : Int) := by push_cast; rfl
        rw [this, hqn, IntWalk.i64_in _ (by omega)]
      have e3 : IntKind.i64.wrap (q : Int) = (q : Int) := IntWalk.i64_in _ (by omega)
      have hne : ¬ ((g : Int) = 0) := by omega
      have HM : Hid (max h.length h'.length = m) := hm
      have HG : Hid (∀ W : World, Calls Try.prog 54 #[.int .i64 (l.length : Nat), .int .i64 (l'.length : Nat)] W fun e w' => e = .returned (.int .i64 (g : Nat)) ∧ ∃ y, w' = W.more y) := by
        intro W
        rw [← hg]
        exact gcd_pace _ _ (by omega) (by omega)
      clear hg hq hqn hm hn
      go_enter Try.func23, Try.ntmps23
      go_wp2_with (first
        | (go_at_call 19; with_reducible refine (check_val x _ hc0.out).mono ?_; rintro e w' ⟨rfl, y, rfl⟩)
        | (go_at_call 19; with_reducible refine (check_val x' _ hc0'.out).mono ?_; rintro e w' ⟨rfl, y2, rfl⟩))
      go_quiet (fail)
      go_wp2_with fail
      refine wp_region_more (by kernel_rfl) (by kernel_rfl) ?_
      rcases Nat.lt_or_ge h.length h'.length with hlt | hge
      all_goals
        repeat (go_big_quiet_step ((go_at_call 54; with_reducible exact Calls.more_of (HG.out _))))
        refine wpQuiet_nil ?_
        rintro _ ⟨y3, rfl⟩
        go_wp2_with fail
        go_ret2
        exact ⟨ret_ii (by have := HM.out; omega) rfl, After.is_more _ _⟩
    · rw [spanV_bad2 hv']
      rcases h5 with h5 | h5
      all_goals
        have hc0' := Lib.hid h5
        clear h5
        go_enter Try.func23, Try.ntmps23
        go_wp2_with (first
          | (go_at_call 19; with_reducible refine (check_val x _ hc0.out).mono ?_; rintro e w' ⟨rfl, y, rfl⟩)
          | (go_at_call 19; with_reducible refine (check_val x' _ hc0'.out).mono ?_; rintro e w' ⟨rfl, y2, rfl⟩))
        go_ret2
        exact ⟨rfl, After.is_more _ _⟩
  · rw [spanV_bad1 hv]
    rcases h5 with h5 | h5
    all_goals
      have hc0 := Lib.hid h5
      clear h5
      go_enter Try.func23, Try.ntmps23
      go_wp2_with (go_at_call 19; refine (check_val x _ hc0.out).mono ?_; rintro e w' ⟨rfl, y, rfl⟩)
      go_ret2
      exact ⟨rfl, After.is_more _ _⟩
end Go.Proofs.Ytglfocldoaigiaa
