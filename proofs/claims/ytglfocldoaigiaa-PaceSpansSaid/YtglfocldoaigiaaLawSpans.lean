/-
  The lengths of the common head and loop are the chapter's, and the letters of both words repeat: for any two words. No conditions.
-/
import Derived.Test.YtglfocldoaigiaaLaw31a
import Derived.Test.YtglfocldoaigiaaSpanFacts
import Derived.Test.YtglfocldoaigiaaLift
namespace Go.Proofs.Ytglfocldoaigiaa.paceSpans
open Go.ChangeShapes Go.WideShapes Go.ChangeAt Go.RowKit Go.BigFrame
set_option linter.unusedVariables false

theorem own : ownKnob Try.prog.godebug = none := by kernel_rfl
theorem laidOut : laidOutB Try.prog = true := by kernel_rfl

set_option maxRecDepth 100000 in
set_option maxHeartbeats 1600000 in
theorem walk {A B c d h l A' B' c' d' h' l'} (w : World) (x : RW w A c B d h l) (x' : RW w A' c' B' d' h' l') :
    Calls Try.prog 9 #[.agg #[.slice A h.length c, .slice B l.length d], .agg #[.slice A' h'.length c', .slice B' l'.length d']] w fun e w' => e = .returned (.bool true) ∧ ∃ y, w' = w.more y := by
  cases hH : hugeB h l
  case true =>
    have HH : Hid (∀ U : World, After w U → Calls Try.prog 15 #[.agg #[.slice A h.length c, .slice B l.length d]] U fun e w' => e = .returned (.bool true) ∧ ∃ y, w' = U.more y) := by
      intro U _; have := huge_any x U; rwa [hH] at this
    clear hH
    go_enter Try.func9, Try.ntmps9
    go_wp2_with (first
      | (go_at_call 15; with_reducible refine (HH.out _ inferInstance).mono ?_; rintro e w' ⟨rfl, y, rfl⟩)
      | (go_at_call 16; with_reducible refine (awake_any _).mono ?_; rintro e w' ⟨rfl, y, rfl⟩))
    go_ret
    exact ⟨rfl, After.is_more _ _⟩
  case false =>
    have HH : Hid (∀ U : World, After w U → Calls Try.prog 15 #[.agg #[.slice A h.length c, .slice B l.length d]] U fun e w' => e = .returned (.bool false) ∧ ∃ y, w' = U.more y) := by
      intro U _; have := huge_any x U; rwa [hH] at this
    clear hH
    cases hH' : hugeB h' l'
    case true =>
      have HH' : Hid (∀ U : World, After w U → Calls Try.prog 15 #[.agg #[.slice A' h'.length c', .slice B' l'.length d']] U fun e w' => e = .returned (.bool true) ∧ ∃ y, w' = U.more y) := by
        intro U _; have := huge_any x' U; rwa [hH'] at this
      clear hH'
      go_enter Try.func9, Try.ntmps9
      go_wp2_with (first
        | (go_at_call 15; with_reducible refine (HH.out _ inferInstance).mono ?_; rintro e w' ⟨rfl, y, rfl⟩)
        | (go_at_call 15; with_reducible refine (HH'.out _ inferInstance).mono ?_; rintro e w' ⟨rfl, y, rfl⟩)
        | (go_at_call 16; with_reducible refine (awake_any _).mono ?_; rintro e w' ⟨rfl, y, rfl⟩))
      go_ret
      exact ⟨rfl, After.is_more _ _⟩
    case false =>
      have HH' : Hid (∀ U : World, After w U → Calls Try.prog 15 #[.agg #[.slice A' h'.length c', .slice B' l'.length d']] U fun e w' => e = .returned (.bool false) ∧ ∃ y, w' = U.more y) := by
        intro U _; have := huge_any x' U; rwa [hH'] at this
      clear hH'
      by_cases hvv : Valid h l ∧ Valid h' l'
      · obtain ⟨hv, hv'⟩ := hvv
        have hsp := spanV_ok hv hv'
        have hsb := spanN_bd hv hv'
        have ha1 := fun i hi => atB_span1 (h' := h') (l' := l') hv (i := i) hi
        have ha2 := fun i hi => atB_span2 (h := h) (l := l) hv' (i := i) hi
        obtain ⟨m, hm⟩ : ∃ m, (spanN h l h' l').1 = m := ⟨_, rfl⟩
        obtain ⟨n, hn⟩ : ∃ n, (spanN h l h' l').2 = n := ⟨_, rfl⟩
        rw [hm, hn] at hsp hsb
        simp only [hm, hn] at ha1 ha2
        have H1 : Hid (∀ U : World, After w U → Calls Try.prog 23 #[.agg #[.slice A h.length c, .slice B l.length d], .agg #[.slice A' h'.length c', .slice B' l'.length d']] U fun e w' => e = .returned (.tuple #[.int .i64 (m : Nat), .int .i64 (n : Nat)]) ∧ ∃ y, w' = U.more y) := by
          intro U _; have := span_any x x' U; rwa [hsp] at this
        have H2 : Hid (∀ U : World, After w U → Calls Try.prog 35 #[.agg #[.slice A h.length c, .slice B l.length d], .agg #[.slice A' h'.length c', .slice B' l'.length d']] U fun e w' => e = .returned (.tuple #[.int .i64 (m : Nat), .int .i64 (n : Nat)]) ∧ ∃ y, w' = U.more y) := by
          intro U _; have := rspan_any x x' U; rwa [hsp] at this
        clear hm hn hsp
        have b1 : ((m : Int) != (m : Int)) = false := by simp
        have b2 : ((n : Int) != (n : Int)) = false := by simp
        have R1 : Hid (∀ (k : Nat), m ≤ k → k < m + 200 → ∃ u : Bool, Hid (∀ U : World, After w U → Calls Try.prog 34 #[.agg #[.slice A h.length c, .slice B l.length d], .int .i64 (k : Nat)] U fun e w' => e = .returned (.bool u) ∧ ∃ y, w' = U.more y) ∧
            Hid (∀ U : World, After w U → Calls Try.prog 34 #[.agg #[.slice A h.length c, .slice B l.length d], .int .i64 ((k : Int) + (n : Int))] U fun e w' => e = .returned (.bool u) ∧ ∃ y, w' = U.more y)) := by
          intro k hk hk2
          refine ⟨atB h l k, fun U _ => at_any x U _ (by omega), fun U _ => ?_⟩
          have := at_any x U ((k + n : Nat) : Int) (by omega)
          rw [ha1 k hk] at this
          push_cast at this
          exact this
        have R2 : Hid (∀ (k : Nat), m ≤ k → k < m + 200 → ∃ u : Bool, Hid (∀ U : World, After w U → Calls Try.prog 34 #[.agg #[.slice A' h'.length c', .slice B' l'.length d'], .int .i64 (k : Nat)] U fun e w' => e = .returned (.bool u) ∧ ∃ y, w' = U.more y) ∧
            Hid (∀ U : World, After w U → Calls Try.prog 34 #[.agg #[.slice A' h'.length c', .slice B' l'.length d'], .int .i64 ((k : Int) + (n : Int))] U fun e w' => e = .returned (.bool u) ∧ ∃ y, w' = U.more y)) := by
          intro k hk hk2
          refine ⟨atB h' l' k, fun U _ => at_any x' U _ (by omega), fun U _ => ?_⟩
          have := at_any x' U ((k + n : Nat) : Int) (by omega)
          rw [ha2 k hk] at this
          push_cast at this
          exact this
        clear ha1 ha2
        go_enter Try.func9, Try.ntmps9
        go_wp2_with (first
          | (go_at_call 15; with_reducible refine (HH.out _ inferInstance).mono ?_; rintro e w' ⟨rfl, y, rfl⟩)
          | (go_at_call 15; with_reducible refine (HH'.out _ inferInstance).mono ?_; rintro e w' ⟨rfl, y, rfl⟩)
          | (go_at_call 23; with_reducible refine (H1.out _ inferInstance).mono ?_; rintro e w' ⟨rfl, y, rfl⟩)
          | (go_at_call 35; with_reducible refine (H2.out _ inferInstance).mono ?_; rintro e w' ⟨rfl, y, rfl⟩))
        go_loopw [9] (fun i wr => ∃ k : Nat, i = .int .i64 k ∧ m ≤ k ∧ k ≤ m + 200 ∧ After ((w.alloc (.cells #[.slice A h.length c, .slice B l.length d] 24)).alloc (.cells #[.slice A' h'.length c', .slice B' l'.length d'] 24)) wr) (fun i _ => m + 200 - (intOf i).toNat)
        case atStart => exact ⟨m, rfl, by omega, by omega, inferInstance⟩
        case round =>
          obtain ⟨k, rfl, hmk, hk, haft⟩ := hrel
          obtain ⟨z, rfl⟩ := After.is_more ((w.alloc (.cells #[.slice A h.length c, .slice B l.length d] 24)).alloc (.cells #[.slice A' h'.length c', .slice B' l'.length d'] 24)) wr
          by_cases hlt : k < m + 200
          · obtain ⟨u, U1, U2⟩ := R1.out k hmk hlt
            obtain ⟨v, V1, V2⟩ := R2.out k hmk hlt
            have e1 : IntKind.i64.wrap ((k : Int) + (n : Int)) = (k : Int) + (n : Int) := IntWalk.i64_in _ (by omega)
            have e2 : (u != u) = false := by cases u <;> rfl
            have e3 : (v != v) = false := by cases v <;> rfl
            go_wp2_with fail
            refine wp_region_more (by kernel_rfl) (by kernel_rfl) ?_
            repeat (go_big_quiet_step ((first
              | (go_at_call 34; with_reducible exact Calls.more_of (U1.out _ inferInstance))
              | (go_at_call 34; with_reducible exact Calls.more_of (U2.out _ inferInstance))
              | (go_at_call 34; with_reducible exact Calls.more_of (V1.out _ inferInstance))
              | (go_at_call 34; with_reducible exact Calls.more_of (V2.out _ inferInstance)))))
            refine wpQuiet_nil ?_
            rintro _ ⟨y3, rfl⟩
            go_wp2_with fail
            go_roundw
            case rel => first | exact ⟨k + 1, by go_num, by omega, by omega, inferInstance⟩ | ((repeat apply Exists.intro); exact ⟨⟨k + 1, by go_num, by omega, by omega, inferInstance⟩, rfl⟩)
            case measure => simp [intOf]; omega
          · have hk2 : k = m + 200 := by omega
            have hkm : ¬ ((k : Int) < (m : Int) + 200) := by omega
            clear hk2
            go_wp2_with (go_at_call 16; with_reducible refine (awake_any _).mono ?_; rintro e w' ⟨rfl, y, rfl⟩)
            go_ret
            exact ⟨rfl, After.is_more _ _⟩
      · have hsp : spanV h l h' l' = (0, 0) := by
          by_cases hv : Valid h l
          · exact spanV_bad2 (fun e => hvv ⟨hv, e⟩)
          · exact spanV_bad1 hv
        have H1 : Hid (∀ U : World, After w U → Calls Try.prog 23 #[.agg #[.slice A h.length c, .slice B l.length d], .agg #[.slice A' h'.length c', .slice B' l'.length d']] U fun e w' => e = .returned (.tuple #[.int .i64 0, .int .i64 0]) ∧ ∃ y, w' = U.more y) := by
          intro U _; have := span_any x x' U; rwa [hsp] at this
        have H2 : Hid (∀ U : World, After w U → Calls Try.prog 35 #[.agg #[.slice A h.length c, .slice B l.length d], .agg #[.slice A' h'.length c', .slice B' l'.length d']] U fun e w' => e = .returned (.tuple #[.int .i64 0, .int .i64 0]) ∧ ∃ y, w' = U.more y) := by
          intro U _; have := rspan_any x x' U; rwa [hsp] at this
        clear hsp hvv
        go_enter Try.func9, Try.ntmps9
        go_wp2_with (first
          | (go_at_call 15; with_reducible refine (HH.out _ inferInstance).mono ?_; rintro e w' ⟨rfl, y, rfl⟩)
          | (go_at_call 15; with_reducible refine (HH'.out _ inferInstance).mono ?_; rintro e w' ⟨rfl, y, rfl⟩)
          | (go_at_call 23; with_reducible refine (H1.out _ inferInstance).mono ?_; rintro e w' ⟨rfl, y, rfl⟩)
          | (go_at_call 35; with_reducible refine (H2.out _ inferInstance).mono ?_; rintro e w' ⟨rfl, y, rfl⟩))
        refine wp_loop_rounds 1 ?_
        rw [rounds_succ]
        go_wp2_with (go_at_call 16; with_reducible refine (awake_any _).mono ?_; rintro e w' ⟨rfl, y, rfl⟩)
        go_ret
        exact ⟨rfl, After.is_more _ _⟩

set_option maxRecDepth 100000 in
theorem lifted (os : Os) (started : os.Started) (H : Type) (enc : TypeId × Value → H) :
    ReturnsInHanded {} Try.checked os 9 .any (Rows.paceSpansSpec.pre6 enc Try.prog Try.f9 Rows.paceSpansRow.domain false) (Rows.paceSpansSpec.post enc Try.prog Try.f9 false true false false) := by
  refine returnsInHanded_of_change_sized (C := Try.checked) own started (by kernel_rfl) Try.func9
    (ChangeSpec.witness6 (enc := enc) (C := Try.checked) false ⟨#[], #[.agg #[.slice none 0 0, .slice none 0 0], .agg #[.slice none 0 0, .slice none 0 0]], []⟩ 8 (by kernel_rfl) (by kernel_rfl) (by kernel_rfl) (by kernel_rfl)) ?_
  intro W base args ds gs before hval0 hW hcnd hsz0 _
  have hval : ∀ (j : Nat) t v, Try.f9.params[j]? = some t → args[j]? = some v → Value.okWide Try.prog W .any base t v := hval0
  have hsz : (DataW.weightsEach Try.prog (Try.f9.params.toList ++ Rows.paceSpansSpec.plain.varTypes Try.prog) (ds ++ gs)).all (· ≤ reachBytes) = true := hsz0
  have hW' := hW
  obtain ⟨p, q, hA0, hV, rfl, hfz, hnd⟩ := hW
  have hA : DataW.TrodAll enc Try.prog W 0 (fun _ => true) true Try.f9.params.toList args.toList ds p := hA0
  rw [Try.params9] at hA hval hsz
  obtain ⟨v0, vs0, d0, ds0, p0, q0, hargs, rfl, rfl, h0, r0⟩ := trodAll_cons hA
  obtain ⟨v1, vs1, d1, ds1, p1, q1, rfl, rfl, rfl, h1, r1⟩ := trodAll_cons r0
  obtain ⟨rfl, rfl, rfl⟩ := trodAll_nil r1
  obtain rfl : args = #[v0, v1] := by cases args; simp_all
  obtain ⟨rfl, rfl⟩ := trodVars_none hV
  have k0 := h0
  have lt0 : ∀ x ∈ p0, x.block < W.heap.size := by obtain ⟨m, hm⟩ := k0; exact DataW.trod_lt m _ _ _ hm
  have z0 : ∀ n ∈ d0.weights Try.prog 24, n ≤ reachBytes := fun n hn => by
    simpa using List.all_eq_true.1 hsz n (DataW.weights_mem_each (j := 0) (t := 24) rfl rfl n hn)
  obtain ⟨A0, c0, B0, c0', hl0, ll0, rfl, x0⟩ := open_word (e := 4) Try.underlying24 (by kernel_rfl) (by kernel_rfl) Try.underlying22 Try.underlying22 Try.underlying4 (by kernel_rfl) (by kernel_rfl) (hval 0 24 v0 rfl rfl) h0 z0
  have k1 := h1
  have lt1 : ∀ x ∈ p1, x.block < W.heap.size := by obtain ⟨m, hm⟩ := k1; exact DataW.trod_lt m _ _ _ hm
  have z1 : ∀ n ∈ d1.weights Try.prog 24, n ≤ reachBytes := fun n hn => by
    simpa using List.all_eq_true.1 hsz n (DataW.weights_mem_each (j := 1) (t := 24) rfl rfl n hn)
  obtain ⟨A1, c1, B1, c1', hl1, ll1, rfl, x1⟩ := open_word (e := 4) Try.underlying24 (by kernel_rfl) (by kernel_rfl) Try.underlying22 Try.underlying22 Try.underlying4 (by kernel_rfl) (by kernel_rfl) (hval 1 24 v1 rfl rfl) h1 z1
  clear hA0 hval0 hsz0 hsz
  refine (walk W x0 x1).mono fun e W' ⟨he, y, hy⟩ => ?_
  subst he
  have bel : Below W.heap.size W W' := by rw [hy]; exact more_below W y
  exact ⟨_, rfl, _, _, _, [], _, [], hW', trodAll_mk1 (shut_bool Try.underlying4 _), (trodAll_cons_mk (Below.trod laidOut (by kernel_rfl) (of_decide_eq_true (by kernel_rfl)) k0 bel lt0) (trodAll_cons_mk (Below.trod laidOut (by kernel_rfl) (of_decide_eq_true (by kernel_rfl)) k1 bel lt1) trodAll_mk0)), rfl, bel.frame _, fun h => by cases h⟩

theorem over : Rows.paceSpansRow.holds Try.pinned (OpenSpec.ofChange Rows.paceSpansSpec) :=
  OpenClaim.holds_of_wide 9 Try.f9 rfl rfl rfl rfl rfl rfl rfl ⟨rfl, rfl, rfl, rfl, rfl⟩ rfl rfl rfl rfl rfl (by kernel_rfl) Try.func9 (by kernel_rfl)
    (of_decide_eq_true (by kernel_rfl)) (by unfold Func.isWrapper; first | (rw [if_pos (by decide +kernel)]; kernel_rfl) | (rw [if_neg (by decide +kernel)]; exact ⟨rfl, rfl⟩))
    (fun os started H enc _ => lifted os started H enc)

theorem proved : Rows.PaceSpansSaid := over
#print axioms proved
end Go.Proofs.Ytglfocldoaigiaa.paceSpans
