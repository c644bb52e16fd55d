/-
  The rate of a word is the chapter's, in lowest terms, and not above 1: for every word. No conditions.
-/
import Derived.Test.YtglfocldoaigiaaLaw31a
import Derived.Test.YtglfocldoaigiaaLift
namespace Go.Proofs.Ytglfocldoaigiaa.paceRates
open Go.ChangeShapes Go.WideShapes Go.ChangeAt Go.RowKit Go.BigFrame
set_option linter.unusedVariables false

theorem own : ownKnob Try.prog.godebug = none := by kernel_rfl
theorem laidOut : laidOutB Try.prog = true := by kernel_rfl

theorem rate_coprime {l : List Bool} (h : 0 < l.length) : Nat.gcd (rateN l).1 (rateN l).2 = 1 := by
  unfold rateN
  rw [Nat.gcd_comm]
  exact Nat.coprime_div_gcd_div_gcd (Nat.gcd_pos_of_pos_left _ h)
theorem rate_le {l : List Bool} : (rateN l).1 ≤ (rateN l).2 := Nat.div_le_div_right (W.cnt_le l)
theorem rate_pos {l : List Bool} (h : 0 < l.length) : 0 < (rateN l).2 := Nat.div_pos (Nat.gcd_le_left _ h) (Nat.gcd_pos_of_pos_left _ h)

set_option maxHeartbeats 800000 in
theorem walk {A B c d h l} (w : World) (x : RW w A c B d h l) :
    Calls Try.prog 3 #[.agg #[.slice A h.length c, .slice B l.length d]] w fun e w' => e = .returned (.bool true) ∧ ∃ y, w' = w.more y := by
  cases hH : hugeB h l
  case true =>
    have HH : Hid (∀ U : World, After w U → Calls Try.prog 15 #[.agg #[.slice A h.length c, .slice B l.length d]] U fun e w' => e = .returned (.bool true) ∧ ∃ y, w' = U.more y) := by
      intro U _; have := huge_any x U; rwa [hH] at this
    clear hH
    go_enter Try.func3, Try.ntmps3
    go_wp2_with (first
      | (go_at_call 15; with_reducible refine (HH.out _ inferInstance).mono ?_; rintro e w' ⟨rfl, y, rfl⟩)
      | (go_at_call 16; with_reducible refine (awake_any _).mono ?_; rintro e w' ⟨rfl, y, rfl⟩))
    go_ret
    exact ⟨rfl, After.is_more _ _⟩
  case false =>
    have HH : Hid (∀ U : World, After w U → Calls Try.prog 15 #[.agg #[.slice A h.length c, .slice B l.length d]] U fun e w' => e = .returned (.bool false) ∧ ∃ y, w' = U.more y) := by
      intro U _; have := huge_any x U; rwa [hH] at this
    clear hH
    obtain ⟨p, hp⟩ : ∃ p, (rateV h l).1 = p := ⟨_, rfl⟩
    obtain ⟨q, hq⟩ : ∃ q, (rateV h l).2 = q := ⟨_, rfl⟩
    have H1 : Hid (∀ U : World, After w U → Calls Try.prog 17 #[.agg #[.slice A h.length c, .slice B l.length d]] U fun e w' => e = .returned (.tuple #[.int .i64 p, .int .i64 q]) ∧ ∃ y, w' = U.more y) := by
      intro U _; have := rate_any x U; rwa [hp, hq] at this
    have H2 : Hid (∀ U : World, After w U → Calls Try.prog 18 #[.agg #[.slice A h.length c, .slice B l.length d]] U fun e w' => e = .returned (.tuple #[.int .i64 p, .int .i64 q]) ∧ ∃ y, w' = U.more y) := by
      intro U _; have := rrate_any x U; rwa [hp, hq] at this
    have b1 : (p != p) = false := by simp
    have b2 : (q != q) = false := by simp
    rcases check_cases h l with hv | ⟨hv, h5⟩
    · have hc0 := Lib.hid (checkI_0 hv)
      have e := rateV_ok hv
      have hv1 := hv.1
      have hv2 := hv.2
      have r1 := rate_coprime hv1
      have r2 := rate_le (l := l)
      have r3 := rate_pos hv1
      have hp2 : p = ((rateN l).1 : Nat) := by rw [← hp, e]
      have hq2 : q = ((rateN l).2 : Nat) := by rw [← hq, e]
      have l2 : (rateN l).2 ≤ l.length := Nat.div_le_self _ _
      clear hp hq e
      obtain ⟨a, ha⟩ : ∃ a, (rateN l).1 = a := ⟨_, rfl⟩
      obtain ⟨b, hb⟩ : ∃ b, (rateN l).2 = b := ⟨_, rfl⟩
      rw [ha] at r1 r2 hp2
      rw [hb] at r1 r2 r3 hq2 l2
      subst hp2 hq2
      clear ha hb
      have HG : Hid (∀ U : World, Calls Try.prog 20 #[.int .i64 (a : Nat), .int .i64 (b : Nat)] U fun e w' => e = .returned (.int .i64 1) ∧ ∃ y, w' = U.more y) := by
        intro U
        have := gcd_law (w := U) a b (by omega) (by omega)
        rw [r1] at this
        exact this
      clear r1
      go_enter Try.func3, Try.ntmps3
      go_wp2_with (first
        | (go_at_call 15; with_reducible refine (HH.out _ inferInstance).mono ?_; rintro e w' ⟨rfl, y, rfl⟩)
        | (go_at_call 17; with_reducible refine (H1.out _ inferInstance).mono ?_; rintro e w' ⟨rfl, y, rfl⟩)
        | (go_at_call 18; with_reducible refine (H2.out _ inferInstance).mono ?_; rintro e w' ⟨rfl, y, rfl⟩)
        | (go_at_call 19; with_reducible refine (check_val x _ hc0.out).mono ?_; rintro e w' ⟨rfl, y, rfl⟩)
        | (go_at_call 20; with_reducible refine (HG.out _).mono ?_; rintro e w' ⟨rfl, y, rfl⟩)
        | (go_at_call 16; with_reducible refine (awake_any _).mono ?_; rintro e w' ⟨rfl, y, rfl⟩))
      go_ret
      exact ⟨rfl, After.is_more _ _⟩
    · clear hp hq
      rcases h5 with h5 | h5
      all_goals
        have hc0 := Lib.hid h5
        clear h5
        go_enter Try.func3, Try.ntmps3
        go_wp2_with (first
          | (go_at_call 15; with_reducible refine (HH.out _ inferInstance).mono ?_; rintro e w' ⟨rfl, y, rfl⟩)
          | (go_at_call 17; with_reducible refine (H1.out _ inferInstance).mono ?_; rintro e w' ⟨rfl, y, rfl⟩)
          | (go_at_call 18; with_reducible refine (H2.out _ inferInstance).mono ?_; rintro e w' ⟨rfl, y, rfl⟩)
          | (go_at_call 19; with_reducible refine (check_val x _ hc0.out).mono ?_; rintro e w' ⟨rfl, y, rfl⟩)
          | (go_at_call 16; with_reducible refine (awake_any _).mono ?_; rintro e w' ⟨rfl, y, rfl⟩))
        go_ret
        exact ⟨rfl, After.is_more _ _⟩

set_option maxRecDepth 100000 in
theorem lifted (os : Os) (started : os.Started) (H : Type) (enc : TypeId × Value → H) :
    ReturnsInHanded {} Try.checked os 3 .any (Rows.paceRatesSpec.pre6 enc Try.prog Try.f3 Rows.paceRatesRow.domain false) (Rows.paceRatesSpec.post enc Try.prog Try.f3 false true false false) := by
  refine returnsInHanded_of_change_sized (C := Try.checked) own started (by kernel_rfl) Try.func3
    (ChangeSpec.witness6 (enc := enc) (C := Try.checked) false ⟨#[], #[.agg #[.slice none 0 0, .slice none 0 0]], []⟩ 8 (by kernel_rfl) (by kernel_rfl) (by kernel_rfl) (by kernel_rfl)) ?_
  intro W base args ds gs before hval0 hW hcnd hsz0 _
  have hval : ∀ (j : Nat) t v, Try.f3.params[j]? = some t → args[j]? = some v → Value.okWide Try.prog W .any base t v := hval0
  have hsz : (DataW.weightsEach Try.prog (Try.f3.params.toList ++ Rows.paceRatesSpec.plain.varTypes Try.prog) (ds ++ gs)).all (· ≤ reachBytes) = true := hsz0
  have hW' := hW
  obtain ⟨p, q, hA0, hV, rfl, hfz, hnd⟩ := hW
  have hA : DataW.TrodAll enc Try.prog W 0 (fun _ => true) true Try.f3.params.toList args.toList ds p := hA0
  rw [Try.params3] at hA hval hsz
  obtain ⟨v0, vs0, d0, ds0, p0, q0, hargs, rfl, rfl, h0, r0⟩ := trodAll_cons hA
  obtain ⟨rfl, rfl, rfl⟩ := trodAll_nil r0
  obtain rfl : args = #[v0] := by cases args; simp_all
  obtain ⟨rfl, rfl⟩ := trodVars_none hV
  have k0 := h0
  have lt0 : ∀ x ∈ p0, x.block < W.heap.size := by obtain ⟨m, hm⟩ := k0; exact DataW.trod_lt m _ _ _ hm
  have z0 : ∀ n ∈ d0.weights Try.prog 24, n ≤ reachBytes := fun n hn => by
    simpa using List.all_eq_true.1 hsz n (DataW.weights_mem_each (j := 0) (t := 24) rfl rfl n hn)
  obtain ⟨A, c, B, c', hl, ll, rfl, x0⟩ := open_word (e := 4) Try.underlying24 (by kernel_rfl) (by kernel_rfl) Try.underlying22 Try.underlying22 Try.underlying4 (by kernel_rfl) (by kernel_rfl) (hval 0 24 v0 rfl rfl) h0 z0
  clear hA0 hval0 hsz0 hsz
  refine (walk W x0).mono fun e W' ⟨he, y, hy⟩ => ?_
  subst he
  have bel : Below W.heap.size W W' := by rw [hy]; exact more_below W y
  exact ⟨_, rfl, _, _, _, [], _, [], hW', trodAll_mk1 (shut_bool Try.underlying4 _), (trodAll_cons_mk (Below.trod laidOut (by kernel_rfl) (of_decide_eq_true (by kernel_rfl)) k0 bel lt0) trodAll_mk0), rfl, bel.frame _, fun h => by cases h⟩

theorem over : Rows.paceRatesRow.holds Try.pinned (OpenSpec.ofChange Rows.paceRatesSpec) :=
  OpenClaim.holds_of_wide 3 Try.f3 rfl rfl rfl rfl rfl rfl rfl ⟨rfl, rfl, rfl, rfl, rfl⟩ rfl rfl rfl rfl rfl (by kernel_rfl) Try.func3 (by kernel_rfl)
    (of_decide_eq_true (by kernel_rfl)) (by unfold Func.isWrapper; first | (rw [if_pos (by decide +kernel)]; kernel_rfl) | (rw [if_neg (by decide +kernel)]; exact ⟨rfl, rfl⟩))
    (fun os started H enc _ => lifted os started H enc)

theorem proved : Rows.PaceRatesSaid := over
#print axioms proved
end Go.Proofs.Ytglfocldoaigiaa.paceRates
