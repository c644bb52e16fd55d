/-
  Contract: the reference's Span (written by gen_ref3.py).
-/
import Derived.Test.YtglfocldoaigiaaPace3
import Derived.Test.YtglfocldoaigiaaRf1
namespace Go.Proofs.Ytglfocldoaigiaa
open Go.RowKit Go.BigFrame

set_option maxHeartbeats 1000000 in
theorem rspan_any {w0 : World} {A B c d h l A' B' c' d' h' l'} (x : RW w0 A c B d h l) (x' : RW w0 A' c' B' d' h' l') (w : World) [After w0 w] :
    Calls Try.prog 35 #[.agg #[.slice A h.length c, .slice B l.length d], .agg #[.slice A' h'.length c', .slice B' l'.length d']] w
      fun e w' => e = .returned (.tuple #[.int .i64 (spanV h l h' l').1, .int .i64 (spanV h l h' l').2]) ∧ ∃ y, w' = w.more y := by
  rcases check_cases h l with hv | ⟨hv, h5⟩
  · have hc0 := Lib.hid (checkI_0 hv)
    rcases check_cases h' l' with hv' | ⟨hv', h5⟩
    · have hc0' := Lib.hid (checkI_0 hv')
      have hb := spanN_bd hv hv'
      rw [spanV_ok hv hv']
      obtain ⟨m, hm⟩ : ∃ m, (spanN h l h' l').1 = m := ⟨_, rfl⟩
      obtain ⟨n, hn⟩ : ∃ n, (spanN h l h' l').2 = n := ⟨_, rfl⟩
      rw [hm, hn] at hb ⊢
      obtain ⟨g, hg⟩ : ∃ g, Nat.gcd l.length l'.length = g := ⟨_, rfl⟩
      have hv1 := hv.1
      have hv2 := hv.2
      have hv1' := hv'.1
      have hv2' := hv'.2
      have hg0 : 0 < g := by rw [← hg]; exact Nat.gcd_pos_of_pos_left _ hv1
      have hgl : g ≤ 64 := by have := Nat.gcd_le_left l'.length hv1; omega
      obtain ⟨q, hq⟩ : ∃ q, l.length / g = q := ⟨_, rfl⟩
      have hq64 : q ≤ 64 := by rw [← hq]; exact Nat.le_trans (Nat.div_le_self _ _) (by omega)
      have e1 := tdiv_gcd l.length g
      rw [hq] at e1
      have hqn : q * l'.length = n := by rw [← hn, ← hq, ← hg]; rfl
      have e2 : IntKind.i64.wrap ((q : Int) * (l'.length : Int)) = (n : Int) := by
        have : (q : Int) * (l'.length : Int) = ((q * l'.length : Nat) : Int) := by push_cast; rfl
        rw [this, hqn, IntWalk.i64_in _ (by omega)]
      have e3 : IntKind.i64.wrap (q : Int) = (q : Int) := IntWalk.i64_in _ (by omega)
      have hne : ¬ ((g : Int) = 0) := by omega
      have HM : Hid (max h.length h'.length = m) := hm
      have HG : Hid (∀ W : World, Calls Try.prog 56 #[.int .i64 (l.length : Nat), .int .i64 (l'.length : Nat)] W fun e w' => e = .returned (.int .i64 (g : Nat)) ∧ ∃ y, w' = W.more y) := by
        intro W
        rw [← hg]
        exact gcd_r31 _ _ (by omega) (by omega)
      clear hg hq hqn hm hn
      go_enter Try.func35, Try.ntmps35
      go_wp2_with (first
        | (go_at_call 28; with_reducible refine (rcheck_val x _ hc0.out).mono ?_; rintro e w' ⟨rfl, y, rfl⟩)
        | (go_at_call 28; with_reducible refine (rcheck_val x' _ hc0'.out).mono ?_; rintro e w' ⟨rfl, y2, rfl⟩))
      refine wp_region_more (by kernel_rfl) (by kernel_rfl) ?_
      rcases Nat.lt_or_ge h.length h'.length with hlt | hge
      all_goals
        repeat (go_big_quiet_step ((go_at_call 56; with_reducible exact Calls.more_of (HG.out _))))
        refine wpQuiet_nil ?_
        rintro _ ⟨y3, rfl⟩
        go_wp2_with fail
        go_ret2
        exact ⟨ret_ii (by have := HM.out; omega) rfl, After.is_more _ _⟩
    · rw [spanV_bad2 hv']
      rcases h5 with h5 | h5
      all_goals
        have hc0' := Lib.hid h5
        clear h5
        go_enter Try.func35, Try.ntmps35
        go_wp2_with (first
          | (go_at_call 28; with_reducible refine (rcheck_val x _ hc0.out).mono ?_; rintro e w' ⟨rfl, y, rfl⟩)
          | (go_at_call 28; with_reducible refine (rcheck_val x' _ hc0'.out).mono ?_; rintro e w' ⟨rfl, y2, rfl⟩))
        go_ret2
        exact ⟨rfl, After.is_more _ _⟩
  · rw [spanV_bad1 hv]
    rcases h5 with h5 | h5
    all_goals
      have hc0 := Lib.hid h5
      clear h5
      go_enter Try.func35, Try.ntmps35
      go_wp2_with (go_at_call 28; refine (rcheck_val x _ hc0.out).mono ?_; rintro e w' ⟨rfl, y, rfl⟩)
      go_ret2
      exact ⟨rfl, After.is_more _ _⟩
end Go.Proofs.Ytglfocldoaigiaa
