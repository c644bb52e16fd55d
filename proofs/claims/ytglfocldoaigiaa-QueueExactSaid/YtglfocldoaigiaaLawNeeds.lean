/-
  The exact capacity of a link is the chapter's, or its error: for all words of at most 100 letters, lags, initial values and orders. No conditions.
-/
import Derived.Test.YtglfocldoaigiaaLives
import Derived.Test.YtglfocldoaigiaaRNeed
import Derived.Test.YtglfocldoaigiaaLift
namespace Go.Proofs.Ytglfocldoaigiaa.queueNeeds
open Go.ChangeShapes Go.WideShapes Go.ChangeAt Go.RowKit Go.BigFrame
set_option linter.unusedVariables false

theorem own : ownKnob Try.prog.godebug = none := by kernel_rfl
theorem laidOut : laidOutB Try.prog = true := by kernel_rfl

theorem need_any {w0 : World} {A B c d h l} (x : RW w0 A c B d h l) (w : World) [After w0 w] (fa ta init : Int) (first : Bool) :
    Calls Try.prog 26 #[.agg #[.slice A h.length c, .slice B l.length d], .int .i64 fa, .int .i64 ta, .int .i64 init, .bool first] w fun e w' => e = .returned (.tuple #[.int .i64 (needV h l fa ta init first).1, .int .i64 (needV h l fa ta init first).2]) ∧ ∃ y, w' = w.more y := by
  by_cases hb : okArgs h l fa ta init
  · obtain ⟨fa, rfl⟩ := Int.eq_ofNat_of_zero_le hb.2.1
    obtain ⟨ta, rfl⟩ := Int.eq_ofNat_of_zero_le hb.2.2.2.1
    obtain ⟨init, rfl⟩ := Int.eq_ofNat_of_zero_le hb.2.2.2.2.2.1
    exact need_ok x w fa ta init first hb
  · have := need_bad x w fa ta init first hb
    rwa [needV_bad first hb]
theorem rneed_any {w0 : World} {A B c d h l} (x : RW w0 A c B d h l) (w : World) [After w0 w] (fa ta init : Int) (first : Bool) :
    Calls Try.prog 27 #[.agg #[.slice A h.length c, .slice B l.length d], .int .i64 fa, .int .i64 ta, .int .i64 init, .bool first] w fun e w' => e = .returned (.tuple #[.int .i64 (needV h l fa ta init first).1, .int .i64 (needV h l fa ta init first).2]) ∧ ∃ y, w' = w.more y := by
  by_cases hb : okArgs h l fa ta init
  · obtain ⟨fa, rfl⟩ := Int.eq_ofNat_of_zero_le hb.2.1
    obtain ⟨ta, rfl⟩ := Int.eq_ofNat_of_zero_le hb.2.2.2.1
    obtain ⟨init, rfl⟩ := Int.eq_ofNat_of_zero_le hb.2.2.2.2.2.1
    exact rneed_ok x w fa ta init first hb
  · have := rneed_bad x w fa ta init first hb
    rwa [needV_bad first hb]
set_option maxRecDepth 100000 in
set_option maxHeartbeats 1600000 in
theorem walk {A B c d h l} (w : World) (x : RW w A c B d h l) (fa : Int) (_ : (Lit.int .i64 fa).wf = true) (ta : Int) (_ : (Lit.int .i64 ta).wf = true) (init : Int) (_ : (Lit.int .i64 init).wf = true) (first : Bool) :
    Calls Try.prog 5 #[.agg #[.slice A h.length c, .slice B l.length d], .int .i64 fa, .int .i64 ta, .int .i64 init, .bool first] w fun e w' => e = .returned (.bool true) ∧ ∃ y, w' = w.more y := by
  obtain ⟨hl1, hl2⟩ := x.lens
  by_cases hbig : (100 : Int) < (h.length : Nat) + (l.length : Nat)
  · go_enter Try.func5, Try.ntmps5
    go_wp2_with fail
    refine (lives_any _).mono ?_
    rintro e w' ⟨rfl, y, rfl⟩
    go_wp2_with fail
    go_ret
    exact ⟨rfl, After.is_more _ _⟩
  · obtain ⟨v, hv⟩ : ∃ v, (needV h l fa ta init first).1 = v := ⟨_, rfl⟩
    obtain ⟨e, he⟩ : ∃ e, (needV h l fa ta init first).2 = e := ⟨_, rfl⟩
    have H1 : ∀ U : World, After w U → Calls Try.prog 26 #[.agg #[.slice A h.length c, .slice B l.length d], .int .i64 fa, .int .i64 ta, .int .i64 init, .bool first] U fun e' w' => e' = .returned (.tuple #[.int .i64 v, .int .i64 e]) ∧ ∃ y, w' = U.more y := by
      intro U _; have := need_any x U fa ta init first; rwa [hv, he] at this
    have H2 : ∀ U : World, After w U → Calls Try.prog 27 #[.agg #[.slice A h.length c, .slice B l.length d], .int .i64 fa, .int .i64 ta, .int .i64 init, .bool first] U fun e' w' => e' = .returned (.tuple #[.int .i64 v, .int .i64 e]) ∧ ∃ y, w' = U.more y := by
      intro U _; have := rneed_any x U fa ta init first; rwa [hv, he] at this
    replace H1 := Lib.hid H1
    replace H2 := Lib.hid H2
    clear hv he
    go_enter Try.func5, Try.ntmps5
    go_wp2_with fail
    refine (H1.out _ inferInstance).mono ?_
    rintro e' w' ⟨rfl, y, rfl⟩
    go_wp2_with fail
    refine (H2.out _ inferInstance).mono ?_
    rintro e' w' ⟨rfl, y2, rfl⟩
    go_wp2_with fail
    refine (lives_any _).mono ?_
    rintro e w' ⟨rfl, y, rfl⟩
    go_wp2_with fail
    go_ret
    exact ⟨rfl, After.is_more _ _⟩

set_option maxRecDepth 100000 in
theorem lifted (os : Os) (started : os.Started) (H : Type) (enc : TypeId × Value → H) :
    ReturnsInHanded {} Try.checked os 5 .any (Rows.queueNeedsSpec.pre6 enc Try.prog Try.f5 Rows.queueNeedsRow.domain false) (Rows.queueNeedsSpec.post enc Try.prog Try.f5 false true false false) := by
  refine returnsInHanded_of_change_sized (C := Try.checked) own started (by kernel_rfl) Try.func5
    (ChangeSpec.witness6 (enc := enc) (C := Try.checked) false ⟨#[], #[.agg #[.slice none 0 0, .slice none 0 0], .int .i64 0, .int .i64 0, .int .i64 0, .bool false], []⟩ 8 (by kernel_rfl) (by kernel_rfl) (by kernel_rfl) (by kernel_rfl)) ?_
  intro W base args ds gs before hval0 hW hcnd hsz0 _
  have hval : ∀ (j : Nat) t v, Try.f5.params[j]? = some t → args[j]? = some v → Value.okWide Try.prog W .any base t v := hval0
  have hsz : (DataW.weightsEach Try.prog (Try.f5.params.toList ++ Rows.queueNeedsSpec.plain.varTypes Try.prog) (ds ++ gs)).all (· ≤ reachBytes) = true := hsz0
  have hW' := hW
  obtain ⟨p, q, hA0, hV, rfl, hfz, hnd⟩ := hW
  have hA : DataW.TrodAll enc Try.prog W 0 (fun _ => true) true Try.f5.params.toList args.toList ds p := hA0
  rw [Try.params5] at hA hval hsz
  obtain ⟨v0, vs0, d0, ds0, p0, q0, hargs, rfl, rfl, h0, r0⟩ := trodAll_cons hA
  obtain ⟨v1, vs1, d1, ds1, p1, q1, rfl, rfl, rfl, h1, r1⟩ := trodAll_cons r0
  obtain ⟨v2, vs2, d2, ds2, p2, q2, rfl, rfl, rfl, h2, r2⟩ := trodAll_cons r1
  obtain ⟨v3, vs3, d3, ds3, p3, q3, rfl, rfl, rfl, h3, r3⟩ := trodAll_cons r2
  obtain ⟨v4, vs4, d4, ds4, p4, q4, rfl, rfl, rfl, h4, r4⟩ := trodAll_cons r3
  obtain ⟨rfl, rfl, rfl⟩ := trodAll_nil r4
  obtain rfl : args = #[v0, v1, v2, v3, v4] := by cases args; simp_all
  obtain ⟨rfl, rfl⟩ := trodVars_none hV
  have k0 := h0
  have lt0 : ∀ x ∈ p0, x.block < W.heap.size := by obtain ⟨m, hm⟩ := k0; exact DataW.trod_lt m _ _ _ hm
  have z0 : ∀ n ∈ d0.weights Try.prog 24, n ≤ reachBytes := fun n hn => by
    simpa using List.all_eq_true.1 hsz n (DataW.weights_mem_each (j := 0) (t := 24) rfl rfl n hn)
  obtain ⟨A0, c0, B0, c0', hl0, ll0, rfl, x0⟩ := open_word (e := 4) Try.underlying24 (by kernel_rfl) (by kernel_rfl) Try.underlying22 Try.underlying22 Try.underlying4 (by kernel_rfl) (by kernel_rfl) (hval 0 24 v0 rfl rfl) h0 z0
  obtain ⟨a1, rfl, rfl, rfl, w1⟩ := open_int Try.underlying3 (hval 1 3 v1 rfl rfl) h1
  obtain ⟨a2, rfl, rfl, rfl, w2⟩ := open_int Try.underlying3 (hval 2 3 v2 rfl rfl) h2
  obtain ⟨a3, rfl, rfl, rfl, w3⟩ := open_int Try.underlying3 (hval 3 3 v3 rfl rfl) h3
  obtain ⟨a4, rfl, rfl, rfl⟩ := open_bool Try.underlying4 (hval 4 4 v4 rfl rfl) h4
  clear hA0 hval0 hsz0 hsz
  refine (walk W x0 a1 w1 a2 w2 a3 w3 a4).mono fun e W' ⟨he, y, hy⟩ => ?_
  subst he
  have bel : Below W.heap.size W W' := by rw [hy]; exact more_below W y
  exact ⟨_, rfl, _, _, _, [], _, [], hW', trodAll_mk1 (shut_bool Try.underlying4 _), (trodAll_cons_mk (Below.trod laidOut (by kernel_rfl) (of_decide_eq_true (by kernel_rfl)) k0 bel lt0) (trodAll_cons_mk (shut_int Try.underlying3 w1) (trodAll_cons_mk (shut_int Try.underlying3 w2) (trodAll_cons_mk (shut_int Try.underlying3 w3) (trodAll_cons_mk (shut_bool Try.underlying4 a4) trodAll_mk0))))), rfl, bel.frame _, fun h => by cases h⟩

theorem over : Rows.queueNeedsRow.holds Try.pinned (OpenSpec.ofChange Rows.queueNeedsSpec) :=
  OpenClaim.holds_of_wide 5 Try.f5 rfl rfl rfl rfl rfl rfl rfl ⟨rfl, rfl, rfl, rfl, rfl⟩ rfl rfl rfl rfl rfl (by kernel_rfl) Try.func5 (by kernel_rfl)
    (of_decide_eq_true (by kernel_rfl)) (by unfold Func.isWrapper; first | (rw [if_pos (by decide +kernel)]; kernel_rfl) | (rw [if_neg (by decide +kernel)]; exact ⟨rfl, rfl⟩))
    (fun os started H enc _ => lifted os started H enc)

theorem proved : Rows.QueueNeedsSaid := over
#print axioms proved
end Go.Proofs.Ytglfocldoaigiaa.queueNeeds
