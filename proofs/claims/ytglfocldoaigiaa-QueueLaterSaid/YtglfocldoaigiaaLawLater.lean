/-
  A consumer one tick later never needs less, and one more initial value is exactly one more: for all words, lags, initial values and orders. No conditions.
-/
import Derived.Test.YtglfocldoaigiaaLives
import Derived.Test.YtglfocldoaigiaaLater
import Derived.Test.YtglfocldoaigiaaLawNeeds
import Derived.Test.YtglfocldoaigiaaLift
namespace Go.Proofs.Ytglfocldoaigiaa.queueLater
open Go.ChangeShapes Go.WideShapes Go.ChangeAt Go.RowKit Go.BigFrame
set_option linter.unusedVariables false

theorem own : ownKnob Try.prog.godebug = none := by kernel_rfl
theorem laidOut : laidOutB Try.prog = true := by kernel_rfl

theorem u8_in {n : Int} (h : (Lit.int .u8 n).wf = true) : 0 ≤ n ∧ n ≤ 255 := by
  simpa [Lit.wf, IntKind.min, IntKind.max, IntKind.signed, IntKind.bits] using h
theorem lcheck {w0 : World} {A B c d h l} (x : RW w0 A c B d h l) {v : Int} (hv : checkI h l = v) (w : World) (_ : After w0 w) :
    Calls Try.prog 19 #[.agg #[.slice A h.length c, .slice B l.length d]] w fun e w' => e = .returned (.int .i64 v) ∧ ∃ y, w' = w.more y := (check_val x w hv).mono fun e w' h => h
theorem lrcheck {w0 : World} {A B c d h l} (x : RW w0 A c B d h l) {v : Int} (hv : checkI h l = v) (w : World) (_ : After w0 w) :
    Calls Try.prog 28 #[.agg #[.slice A h.length c, .slice B l.length d]] w fun e w' => e = .returned (.int .i64 v) ∧ ∃ y, w' = w.more y := (rcheck_val x w hv).mono fun e w' h => h
theorem lneed {w0 : World} {A B c d h l} (x : RW w0 A c B d h l) {fa ta init : Int} {first : Bool} {p q : Int} (hv : needV h l fa ta init first = (p, q)) (w : World) (_ : After w0 w) :
    Calls Try.prog 26 #[.agg #[.slice A h.length c, .slice B l.length d], .int .i64 fa, .int .i64 ta, .int .i64 init, .bool first] w fun e w' => e = .returned (.tuple #[.int .i64 p, .int .i64 q]) ∧ ∃ y, w' = w.more y := by
  have := queueNeeds.need_any x w fa ta init first
  rwa [hv] at this
set_option maxRecDepth 100000 in
set_option maxHeartbeats 3200000 in
theorem walk {A B c d h l} (w : World) (x : RW w A c B d h l) (fa : Int) (_ : (Lit.int .i64 fa).wf = true) (ta : Int) (_ : (Lit.int .i64 ta).wf = true) (init : Int) (hi : (Lit.int .u8 init).wf = true) (first : Bool) :
    Calls Try.prog 7 #[.agg #[.slice A h.length c, .slice B l.length d], .int .i64 fa, .int .i64 ta, .int .u8 init, .bool first] w fun e w' => e = .returned (.bool true) ∧ ∃ y, w' = w.more y := by
  obtain ⟨i0, i1⟩ := u8_in hi
  clear hi
  by_cases hv : Valid h l
  · have hc := Lib.hid (checkI_0 hv)
    by_cases b1 : fa < 0
    · go_enter Try.func7, Try.ntmps7
      go_wp2_with fail
      refine (lcheck x hc.out _ inferInstance).mono ?_
      rintro e w' ⟨rfl, y, rfl⟩
      go_wp2_with fail
      refine (lrcheck x hc.out _ inferInstance).mono ?_
      rintro e w' ⟨rfl, y, rfl⟩
      go_wp2_with fail
      refine (lives_any _).mono ?_
      rintro e w' ⟨rfl, y, rfl⟩
      go_wp2_with fail
      go_ret
      exact ⟨rfl, After.is_more _ _⟩
    by_cases b2 : 63 < fa
    · go_enter Try.func7, Try.ntmps7
      go_wp2_with fail
      refine (lcheck x hc.out _ inferInstance).mono ?_
      rintro e w' ⟨rfl, y, rfl⟩
      go_wp2_with fail
      refine (lrcheck x hc.out _ inferInstance).mono ?_
      rintro e w' ⟨rfl, y, rfl⟩
      go_wp2_with fail
      refine (lives_any _).mono ?_
      rintro e w' ⟨rfl, y, rfl⟩
      go_wp2_with fail
      go_ret
      exact ⟨rfl, After.is_more _ _⟩
    by_cases b3 : ta < 0
    · go_enter Try.func7, Try.ntmps7
      go_wp2_with fail
      refine (lcheck x hc.out _ inferInstance).mono ?_
      rintro e w' ⟨rfl, y, rfl⟩
      go_wp2_with fail
      refine (lrcheck x hc.out _ inferInstance).mono ?_
      rintro e w' ⟨rfl, y, rfl⟩
      go_wp2_with fail
      refine (lives_any _).mono ?_
      rintro e w' ⟨rfl, y, rfl⟩
      go_wp2_with fail
      go_ret
      exact ⟨rfl, After.is_more _ _⟩
    by_cases b4 : 62 < ta
    · go_enter Try.func7, Try.ntmps7
      go_wp2_with fail
      refine (lcheck x hc.out _ inferInstance).mono ?_
      rintro e w' ⟨rfl, y, rfl⟩
      go_wp2_with fail
      refine (lrcheck x hc.out _ inferInstance).mono ?_
      rintro e w' ⟨rfl, y, rfl⟩
      go_wp2_with fail
      refine (lives_any _).mono ?_
      rintro e w' ⟨rfl, y, rfl⟩
      go_wp2_with fail
      go_ret
      exact ⟨rfl, After.is_more _ _⟩
    by_cases b5 : 100 < init
    · go_enter Try.func7, Try.ntmps7
      go_wp2_with fail
      refine (lcheck x hc.out _ inferInstance).mono ?_
      rintro e w' ⟨rfl, y, rfl⟩
      go_wp2_with fail
      refine (lrcheck x hc.out _ inferInstance).mono ?_
      rintro e w' ⟨rfl, y, rfl⟩
      go_wp2_with fail
      refine (lives_any _).mono ?_
      rintro e w' ⟨rfl, y, rfl⟩
      go_wp2_with fail
      go_ret
      exact ⟨rfl, After.is_more _ _⟩
    obtain ⟨fa, rfl⟩ := Int.eq_ofNat_of_zero_le (show 0 ≤ fa by omega)
    obtain ⟨ta, rfl⟩ := Int.eq_ofNat_of_zero_le (show 0 ≤ ta by omega)
    obtain ⟨init, rfl⟩ := Int.eq_ofNat_of_zero_le i0
    rcases need_later (fa := fa) (ta := ta) (init := init) first hv (by omega) (by omega) (by omega) with h1 | ⟨m, k, hmk, hm, hk, h1, h2, h3⟩
    · replace h1 := Lib.hid h1
      go_enter Try.func7, Try.ntmps7
      go_wp2_with fail
      refine (lcheck x hc.out _ inferInstance).mono ?_
      rintro e w' ⟨rfl, y, rfl⟩
      go_wp2_with fail
      refine (lrcheck x hc.out _ inferInstance).mono ?_
      rintro e w' ⟨rfl, y, rfl⟩
      go_wp2_with fail
      refine (lneed x h1.out _ inferInstance).mono ?_
      rintro e w' ⟨rfl, y, rfl⟩
      go_wp2_with fail
      refine (lives_any _).mono ?_
      rintro e w' ⟨rfl, y, rfl⟩
      go_wp2_with fail
      go_ret
      exact ⟨rfl, After.is_more _ _⟩
    · replace h1 := Lib.hid h1
      replace h2 := Lib.hid h2
      replace h3 := Lib.hid h3
      have hge : (m : Int) ≤ (k : Int) := by omega
      go_enter Try.func7, Try.ntmps7
      go_wp2_with fail
      refine (lcheck x hc.out _ inferInstance).mono ?_
      rintro e w' ⟨rfl, y, rfl⟩
      go_wp2_with fail
      refine (lrcheck x hc.out _ inferInstance).mono ?_
      rintro e w' ⟨rfl, y, rfl⟩
      go_wp2_with fail
      refine (lneed x h1.out _ inferInstance).mono ?_
      rintro e w' ⟨rfl, y, rfl⟩
      go_wp2_with fail
      refine (lneed x h2.out _ inferInstance).mono ?_
      rintro e w' ⟨rfl, y, rfl⟩
      go_wp2_with fail
      refine (lneed x h3.out _ inferInstance).mono ?_
      rintro e w' ⟨rfl, y, rfl⟩
      go_wp2_with fail
      refine (lives_any _).mono ?_
      rintro e w' ⟨rfl, y, rfl⟩
      go_wp2_with fail
      go_ret
      exact ⟨rfl, After.is_more _ _⟩
  · obtain ⟨e, he, hne⟩ : ∃ e, checkI h l = e ∧ (e = 5 ∨ e = 3) := by
      rcases check_cases h l with hv' | ⟨_, h5 | h5⟩
      · exact absurd hv' hv
      · exact ⟨5, h5, .inl rfl⟩
      · exact ⟨3, h5, .inr rfl⟩
    have hc := Lib.hid he
    clear he
    rcases hne with rfl | rfl
    all_goals
      go_enter Try.func7, Try.ntmps7
      go_wp2_with fail
      refine (lcheck x hc.out _ inferInstance).mono ?_
      rintro e w' ⟨rfl, y, rfl⟩
      go_wp2_with fail
      refine (lives_any _).mono ?_
      rintro e w' ⟨rfl, y, rfl⟩
      go_wp2_with fail
      go_ret
      exact ⟨rfl, After.is_more _ _⟩

set_option maxRecDepth 100000 in
theorem lifted (os : Os) (started : os.Started) (H : Type) (enc : TypeId × Value → H) :
    ReturnsInHanded {} Try.checked os 7 .any (Rows.queueLaterSpec.pre6 enc Try.prog Try.f7 Rows.queueLaterRow.domain false) (Rows.queueLaterSpec.post enc Try.prog Try.f7 false true false false) := by
  refine returnsInHanded_of_change_sized (C := Try.checked) own started (by kernel_rfl) Try.func7
    (ChangeSpec.witness6 (enc := enc) (C := Try.checked) false ⟨#[], #[.agg #[.slice none 0 0, .slice none 0 0], .int .i64 0, .int .i64 0, .int .u8 0, .bool false], []⟩ 8 (by kernel_rfl) (by kernel_rfl) (by kernel_rfl) (by kernel_rfl)) ?_
  intro W base args ds gs before hval0 hW hcnd hsz0 _
  have hval : ∀ (j : Nat) t v, Try.f7.params[j]? = some t → args[j]? = some v → Value.okWide Try.prog W .any base t v := hval0
  have hsz : (DataW.weightsEach Try.prog (Try.f7.params.toList ++ Rows.queueLaterSpec.plain.varTypes Try.prog) (ds ++ gs)).all (· ≤ reachBytes) = true := hsz0
  have hW' := hW
  obtain ⟨p, q, hA0, hV, rfl, hfz, hnd⟩ := hW
  have hA : DataW.TrodAll enc Try.prog W 0 (fun _ => true) true Try.f7.params.toList args.toList ds p := hA0
  rw [Try.params7] at hA hval hsz
  obtain ⟨v0, vs0, d0, ds0, p0, q0, hargs, rfl, rfl, h0, r0⟩ := trodAll_cons hA
  obtain ⟨v1, vs1, d1, ds1, p1, q1, rfl, rfl, rfl, h1, r1⟩ := trodAll_cons r0
  obtain ⟨v2, vs2, d2, ds2, p2, q2, rfl, rfl, rfl, h2, r2⟩ := trodAll_cons r1
  obtain ⟨v3, vs3, d3, ds3, p3, q3, rfl, rfl, rfl, h3, r3⟩ := trodAll_cons r2
  obtain ⟨v4, vs4, d4, ds4, p4, q4, rfl, rfl, rfl, h4, r4⟩ := trodAll_cons r3
  obtain ⟨rfl, rfl, rfl⟩ := trodAll_nil r4
  obtain rfl : args = #[v0, v1, v2, v3, v4] := by cases args; simp_all
  obtain ⟨rfl, rfl⟩ := trodVars_none hV
  have k0 := h0
  have lt0 : ∀ x ∈ p0, x.block < W.heap.size := by obtain ⟨m, hm⟩ := k0; exact DataW.trod_lt m _ _ _ hm
  have z0 : ∀ n ∈ d0.weights Try.prog 24, n ≤ reachBytes := fun n hn => by
    simpa using List.all_eq_true.1 hsz n (DataW.weights_mem_each (j := 0) (t := 24) rfl rfl n hn)
  obtain ⟨A0, c0, B0, c0', hl0, ll0, rfl, x0⟩ := open_word (e := 4) Try.underlying24 (by kernel_rfl) (by kernel_rfl) Try.underlying22 Try.underlying22 Try.underlying4 (by kernel_rfl) (by kernel_rfl) (hval 0 24 v0 rfl rfl) h0 z0
  obtain ⟨a1, rfl, rfl, rfl, w1⟩ := open_int Try.underlying3 (hval 1 3 v1 rfl rfl) h1
  obtain ⟨a2, rfl, rfl, rfl, w2⟩ := open_int Try.underlying3 (hval 2 3 v2 rfl rfl) h2
  obtain ⟨a3, rfl, rfl, rfl, w3⟩ := open_int Try.underlying5 (hval 3 5 v3 rfl rfl) h3
  obtain ⟨a4, rfl, rfl, rfl⟩ := open_bool Try.underlying4 (hval 4 4 v4 rfl rfl) h4
  clear hA0 hval0 hsz0 hsz
  refine (walk W x0 a1 w1 a2 w2 a3 w3 a4).mono fun e W' ⟨he, y, hy⟩ => ?_
  subst he
  have bel : Below W.heap.size W W' := by rw [hy]; exact more_below W y
  exact ⟨_, rfl, _, _, _, [], _, [], hW', trodAll_mk1 (shut_bool Try.underlying4 _), (trodAll_cons_mk (Below.trod laidOut (by kernel_rfl) (of_decide_eq_true (by kernel_rfl)) k0 bel lt0) (trodAll_cons_mk (shut_int Try.underlying3 w1) (trodAll_cons_mk (shut_int Try.underlying3 w2) (trodAll_cons_mk (shut_int Try.underlying5 w3) (trodAll_cons_mk (shut_bool Try.underlying4 a4) trodAll_mk0))))), rfl, bel.frame _, fun h => by cases h⟩

theorem over : Rows.queueLaterRow.holds Try.pinned (OpenSpec.ofChange Rows.queueLaterSpec) :=
  OpenClaim.holds_of_wide 7 Try.f7 rfl rfl rfl rfl rfl rfl rfl ⟨rfl, rfl, rfl, rfl, rfl⟩ rfl rfl rfl rfl rfl (by kernel_rfl) Try.func7 (by kernel_rfl)
    (of_decide_eq_true (by kernel_rfl)) (by unfold Func.isWrapper; first | (rw [if_pos (by decide +kernel)]; kernel_rfl) | (rw [if_neg (by decide +kernel)]; exact ⟨rfl, rfl⟩))
    (fun os started H enc _ => lifted os started H enc)

theorem proved : Rows.QueueLaterSaid := over
#print axioms proved
end Go.Proofs.Ytglfocldoaigiaa.queueLater
