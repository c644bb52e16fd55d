/-
  The greatest difference of the counts of two words is the chapter's; no beginning exceeds it and some beginning reaches it: for any two words. No conditions.
-/
import Derived.Test.YtglfocldoaigiaaLaw31a
import Derived.Test.YtglfocldoaigiaaSpanFacts
import Derived.Test.YtglfocldoaigiaaLift
namespace Go.Proofs.Ytglfocldoaigiaa.paceGaps
open Go.ChangeShapes Go.WideShapes Go.ChangeAt Go.RowKit Go.BigFrame
set_option linter.unusedVariables false

theorem own : ownKnob Try.prog.godebug = none := by kernel_rfl
theorem laidOut : laidOutB Try.prog = true := by kernel_rfl

theorem found_step {k i0 : Nat} (h : k ≤ i0) (hne : k ≠ i0) : k + 1 ≤ i0 := by omega
set_option maxRecDepth 100000 in
set_option maxHeartbeats 1600000 in
theorem walk {A B c d h l A' B' c' d' h' l'} (w : World) (x : RW w A c B d h l) (x' : RW w A' c' B' d' h' l') :
    Calls Try.prog 4 #[.agg #[.slice A h.length c, .slice B l.length d], .agg #[.slice A' h'.length c', .slice B' l'.length d']] w fun e w' => e = .returned (.bool true) ∧ ∃ y, w' = w.more y := by
  cases hH : hugeB h l
  case true =>
    have HH : Hid (∀ U : World, After w U → Calls Try.prog 15 #[.agg #[.slice A h.length c, .slice B l.length d]] U fun e w' => e = .returned (.bool true) ∧ ∃ y, w' = U.more y) := by
      intro U _; have := huge_any x U; rwa [hH] at this
    clear hH
    go_enter Try.func4, Try.ntmps4
    go_wp2_with (first
      | (go_at_call 15; with_reducible refine (HH.out _ inferInstance).mono ?_; rintro e w' ⟨rfl, y, rfl⟩)
      | (go_at_call 16; with_reducible refine (awake_any _).mono ?_; rintro e w' ⟨rfl, y, rfl⟩))
    go_ret
    exact ⟨rfl, After.is_more _ _⟩
  case false =>
    have HH : Hid (∀ U : World, After w U → Calls Try.prog 15 #[.agg #[.slice A h.length c, .slice B l.length d]] U fun e w' => e = .returned (.bool false) ∧ ∃ y, w' = U.more y) := by
      intro U _; have := huge_any x U; rwa [hH] at this
    clear hH
    cases hH' : hugeB h' l'
    case true =>
      have HH' : Hid (∀ U : World, After w U → Calls Try.prog 15 #[.agg #[.slice A' h'.length c', .slice B' l'.length d']] U fun e w' => e = .returned (.bool true) ∧ ∃ y, w' = U.more y) := by
        intro U _; have := huge_any x' U; rwa [hH'] at this
      clear hH'
      go_enter Try.func4, Try.ntmps4
      go_wp2_with (first
        | (go_at_call 15; with_reducible refine (HH.out _ inferInstance).mono ?_; rintro e w' ⟨rfl, y, rfl⟩)
        | (go_at_call 15; with_reducible refine (HH'.out _ inferInstance).mono ?_; rintro e w' ⟨rfl, y, rfl⟩)
        | (go_at_call 16; with_reducible refine (awake_any _).mono ?_; rintro e w' ⟨rfl, y, rfl⟩))
      go_ret
      exact ⟨rfl, After.is_more _ _⟩
    case false =>
      have HH' : Hid (∀ U : World, After w U → Calls Try.prog 15 #[.agg #[.slice A' h'.length c', .slice B' l'.length d']] U fun e w' => e = .returned (.bool false) ∧ ∃ y, w' = U.more y) := by
        intro U _; have := huge_any x' U; rwa [hH'] at this
      clear hH'
      obtain ⟨g, hg⟩ : ∃ g, (gapV h l h' l').1 = g := ⟨_, rfl⟩
      obtain ⟨b, hb⟩ : ∃ b, (gapV h l h' l').2 = b := ⟨_, rfl⟩
      have G1 : Hid (∀ U : World, After w U → Calls Try.prog 21 #[.agg #[.slice A h.length c, .slice B l.length d], .agg #[.slice A' h'.length c', .slice B' l'.length d']] U fun e w' => e = .returned (.tuple #[.int .i64 g, .bool b]) ∧ ∃ y, w' = U.more y) := by
        intro U _; have := gap_any x x' U; rwa [hg, hb] at this
      have G2 : Hid (∀ U : World, After w U → Calls Try.prog 22 #[.agg #[.slice A h.length c, .slice B l.length d], .agg #[.slice A' h'.length c', .slice B' l'.length d']] U fun e w' => e = .returned (.tuple #[.int .i64 g, .bool b]) ∧ ∃ y, w' = U.more y) := by
        intro U _; have := rgap_any x x' U; rwa [hg, hb] at this
      have b1 : (g != g) = false := by simp
      cases b
      · clear hg hb
        go_enter Try.func4, Try.ntmps4
        go_wp2_with (first
          | (go_at_call 15; with_reducible refine (HH.out _ inferInstance).mono ?_; rintro e w' ⟨rfl, y, rfl⟩)
          | (go_at_call 15; with_reducible refine (HH'.out _ inferInstance).mono ?_; rintro e w' ⟨rfl, y, rfl⟩)
          | (go_at_call 21; with_reducible refine (G1.out _ inferInstance).mono ?_; rintro e w' ⟨rfl, y, rfl⟩)
          | (go_at_call 22; with_reducible refine (G2.out _ inferInstance).mono ?_; rintro e w' ⟨rfl, y, rfl⟩)
          | (go_at_call 16; with_reducible refine (awake_any _).mono ?_; rintro e w' ⟨rfl, y, rfl⟩))
        go_ret
        exact ⟨rfl, After.is_more _ _⟩
      · have hgv : gapV h l h' l' = (g, true) := by rw [← hg, ← hb]
        clear hg hb
        obtain ⟨hv, hv'⟩ := gap_valid hgv
        have hsp := spanV_ok hv hv'
        have hsb := spanN_bd hv hv'
        have gb := gap_bound hgv
        obtain ⟨i0, hi0, hig⟩ := gap_reached hgv
        obtain ⟨m, hm⟩ : ∃ m, (spanN h l h' l').1 = m := ⟨_, rfl⟩
        obtain ⟨n, hn⟩ : ∃ n, (spanN h l h' l').2 = n := ⟨_, rfl⟩
        rw [hm, hn] at hsp hsb hi0
        have H1 : Hid (∀ U : World, After w U → Calls Try.prog 23 #[.agg #[.slice A h.length c, .slice B l.length d], .agg #[.slice A' h'.length c', .slice B' l'.length d']] U fun e w' => e = .returned (.tuple #[.int .i64 (m : Nat), .int .i64 (n : Nat)]) ∧ ∃ y, w' = U.more y) := by
          intro U _; have := span_any x x' U; rwa [hsp] at this
        clear hm hn hsp hgv
        have R1 : Hid (∀ (k : Nat), k ≤ m + 2 * n → ∃ p q : Int, 0 ≤ p ∧ p ≤ 10000 ∧ 0 ≤ q ∧ q ≤ 10000 ∧ p - q ≤ g ∧ dN h l h' l' k = p - q ∧
            Hid (∀ U : World, After w U → Calls Try.prog 24 #[.agg #[.slice A h.length c, .slice B l.length d], .int .i64 (k : Nat)] U fun e w' => e = .returned (.int .i64 p) ∧ ∃ y, w' = U.more y) ∧
            Hid (∀ U : World, After w U → Calls Try.prog 24 #[.agg #[.slice A' h'.length c', .slice B' l'.length d'], .int .i64 (k : Nat)] U fun e w' => e = .returned (.int .i64 q) ∧ ∃ y, w' = U.more y)) := by
          intro k hk
          have o1 := onesI_bd h l k
          have o2 := onesI_bd h' l' k
          refine ⟨onesI h l k, onesI h' l' k, o1.1, by omega, o2.1, by omega, gb k, rfl, fun U _ => ones_any x U _ (by omega), fun U _ => ones_any x' U _ (by omega)⟩
        have gbd : g ≤ 10000 ∧ -10000 ≤ g := by
          have o1 := onesI_bd h l i0
          have o2 := onesI_bd h' l' i0
          unfold dN diffI at hig
          omega
        have HIG : Hid (dN h l h' l' i0 = g) := hig
        clear hig gb
        go_enter Try.func4, Try.ntmps4
        go_wp2_with (first
          | (go_at_call 15; with_reducible refine (HH.out _ inferInstance).mono ?_; rintro e w' ⟨rfl, y, rfl⟩)
          | (go_at_call 15; with_reducible refine (HH'.out _ inferInstance).mono ?_; rintro e w' ⟨rfl, y, rfl⟩)
          | (go_at_call 21; with_reducible refine (G1.out _ inferInstance).mono ?_; rintro e w' ⟨rfl, y, rfl⟩)
          | (go_at_call 22; with_reducible refine (G2.out _ inferInstance).mono ?_; rintro e w' ⟨rfl, y, rfl⟩)
          | (go_at_call 23; with_reducible refine (H1.out _ inferInstance).mono ?_; rintro e w' ⟨rfl, y, rfl⟩))
        go_loopw [11, 12] (fun f i wr => ∃ (k : Nat) (b : Bool), i = .int .i64 k ∧ f = .bool b ∧ k ≤ m + 2 * n + 1 ∧ (b = true ∨ k ≤ i0) ∧ After ((w.alloc (.cells #[.slice A h.length c, .slice B l.length d] 24)).alloc (.cells #[.slice A' h'.length c', .slice B' l'.length d'] 24)) wr) (fun _ i _ => m + 2 * n + 1 - (intOf i).toNat)
        case atStart => exact ⟨0, false, rfl, rfl, by omega, .inr (by omega), inferInstance⟩
        case round =>
          obtain ⟨k, b, rfl, rfl, hk, hfound, haft⟩ := hrel
          obtain ⟨z, rfl⟩ := After.is_more ((w.alloc (.cells #[.slice A h.length c, .slice B l.length d] 24)).alloc (.cells #[.slice A' h'.length c', .slice B' l'.length d'] 24)) wr
          by_cases hlt : k < m + 2 * n + 1
          · obtain ⟨p, q, p0, p1, q0, q1, hpq, hdn, P1, Q1⟩ := R1.out k (by omega)
            have HD : Hid (dN h l h' l' k = p - q) := hdn
            clear hdn
            have e1 : IntKind.i64.wrap (p - q) = p - q := IntWalk.i64_in _ (by omega)
            have hF : Hid (b = true ∨ k ≤ i0) := hfound
            clear hfound
            have hle : (k : Int) ≤ (m : Int) + 2 * (n : Int) := by omega
            have hgt : ¬ (g < p - q) := by omega
            cases b
            · by_cases hpg : p - q = g
              · have hq : (p - q == g) = true := by simp [hpg]
                have HP : Hid ((p - q = g)) := hpg
                clear hpg
                go_wp2_with fail
                refine wp_region_more (by kernel_rfl) (by kernel_rfl) ?_
                repeat (go_big_quiet_step ((first
                  | (go_at_call 24; with_reducible exact Calls.more_of (P1.out _ inferInstance))
                  | (go_at_call 24; with_reducible exact Calls.more_of (Q1.out _ inferInstance)))))
                refine wpQuiet_nil ?_
                rintro _ ⟨y3, rfl⟩
                go_wp2_with fail
                go_roundw
                case rel => first | exact ⟨k + 1, true, by go_num, rfl, by omega, .inl rfl, inferInstance⟩ | ((repeat apply Exists.intro); exact ⟨⟨k + 1, true, by go_num, rfl, by omega, .inl rfl, inferInstance⟩, rfl⟩)
                case measure => simp [intOf]; omega
              · have hq : (p - q == g) = false := by simpa using hpg
                have HP : Hid ((¬ p - q = g)) := hpg
                clear hpg
                go_wp2_with fail
                refine wp_region_more (by kernel_rfl) (by kernel_rfl) ?_
                repeat (go_big_quiet_step ((first
                  | (go_at_call 24; with_reducible exact Calls.more_of (P1.out _ inferInstance))
                  | (go_at_call 24; with_reducible exact Calls.more_of (Q1.out _ inferInstance)))))
                refine wpQuiet_nil ?_
                rintro _ ⟨y3, rfl⟩
                go_wp2_with fail
                go_roundw
                case rel => first | exact ⟨k + 1, false, by go_num, rfl, by omega, .inr (found_step (hF.out.resolve_left (by decide)) (fun e => HP.out (by rw [← HD.out, e]; exact HIG.out))), inferInstance⟩ | ((repeat apply Exists.intro); exact ⟨⟨k + 1, false, by go_num, rfl, by omega, .inr (found_step (hF.out.resolve_left (by decide)) (fun e => HP.out (by rw [← HD.out, e]; exact HIG.out))), inferInstance⟩, rfl⟩)
                case measure => simp [intOf]; omega
            · have hpg : True := trivial
              go_wp2_with fail
              refine wp_region_more (by kernel_rfl) (by kernel_rfl) ?_
              repeat (go_big_quiet_step ((first
                | (go_at_call 24; with_reducible exact Calls.more_of (P1.out _ inferInstance))
                | (go_at_call 24; with_reducible exact Calls.more_of (Q1.out _ inferInstance)))))
              refine wpQuiet_nil ?_
              rintro _ ⟨y3, rfl⟩
              go_wp2_with fail
              go_roundw
              case rel => first | exact ⟨k + 1, true, by go_num, rfl, by omega, .inl rfl, inferInstance⟩ | ((repeat apply Exists.intro); exact ⟨⟨k + 1, true, by go_num, rfl, by omega, .inl rfl, inferInstance⟩, rfl⟩)
              case measure => simp [intOf]; omega
          · have hb : b = true := by rcases hfound with h | h
                                     · exact h
                                     · omega
            subst hb
            have hle : ¬ ((k : Int) ≤ (m : Int) + 2 * (n : Int)) := by omega
            go_wp2_with (go_at_call 16; with_reducible refine (awake_any _).mono ?_; rintro e w' ⟨rfl, y, rfl⟩)
            go_ret
            exact ⟨rfl, After.is_more _ _⟩

set_option maxRecDepth 100000 in
theorem lifted (os : Os) (started : os.Started) (H : Type) (enc : TypeId × Value → H) :
    ReturnsInHanded {} Try.checked os 4 .any (Rows.paceGapsSpec.pre6 enc Try.prog Try.f4 Rows.paceGapsRow.domain false) (Rows.paceGapsSpec.post enc Try.prog Try.f4 false true false false) := by
  refine returnsInHanded_of_change_sized (C := Try.checked) own started (by kernel_rfl) Try.func4
    (ChangeSpec.witness6 (enc := enc) (C := Try.checked) false ⟨#[], #[.agg #[.slice none 0 0, .slice none 0 0], .agg #[.slice none 0 0, .slice none 0 0]], []⟩ 8 (by kernel_rfl) (by kernel_rfl) (by kernel_rfl) (by kernel_rfl)) ?_
  intro W base args ds gs before hval0 hW hcnd hsz0 _
  have hval : ∀ (j : Nat) t v, Try.f4.params[j]? = some t → args[j]? = some v → Value.okWide Try.prog W .any base t v := hval0
  have hsz : (DataW.weightsEach Try.prog (Try.f4.params.toList ++ Rows.paceGapsSpec.plain.varTypes Try.prog) (ds ++ gs)).all (· ≤ reachBytes) = true := hsz0
  have hW' := hW
  obtain ⟨p, q, hA0, hV, rfl, hfz, hnd⟩ := hW
  have hA : DataW.TrodAll enc Try.prog W 0 (fun _ => true) true Try.f4.params.toList args.toList ds p := hA0
  rw [Try.params4] at hA hval hsz
  obtain ⟨v0, vs0, d0, ds0, p0, q0, hargs, rfl, rfl, h0, r0⟩ := trodAll_cons hA
  obtain ⟨v1, vs1, d1, ds1, p1, q1, rfl, rfl, rfl, h1, r1⟩ := trodAll_cons r0
  obtain ⟨rfl, rfl, rfl⟩ := trodAll_nil r1
  obtain rfl : args = #[v0, v1] := by cases args; simp_all
  obtain ⟨rfl, rfl⟩ := trodVars_none hV
  have k0 := h0
  have lt0 : ∀ x ∈ p0, x.block < W.heap.size := by obtain ⟨m, hm⟩ := k0; exact DataW.trod_lt m _ _ _ hm
  have z0 : ∀ n ∈ d0.weights Try.prog 24, n ≤ reachBytes := fun n hn => by
    simpa using List.all_eq_true.1 hsz n (DataW.weights_mem_each (j := 0) (t := 24) rfl rfl n hn)
  obtain ⟨A0, c0, B0, c0', hl0, ll0, rfl, x0⟩ := open_word (e := 4) Try.underlying24 (by kernel_rfl) (by kernel_rfl) Try.underlying22 Try.underlying22 Try.underlying4 (by kernel_rfl) (by kernel_rfl) (hval 0 24 v0 rfl rfl) h0 z0
  have k1 := h1
  have lt1 : ∀ x ∈ p1, x.block < W.heap.size := by obtain ⟨m, hm⟩ := k1; exact DataW.trod_lt m _ _ _ hm
  have z1 : ∀ n ∈ d1.weights Try.prog 24, n ≤ reachBytes := fun n hn => by
    simpa using List.all_eq_true.1 hsz n (DataW.weights_mem_each (j := 1) (t := 24) rfl rfl n hn)
  obtain ⟨A1, c1, B1, c1', hl1, ll1, rfl, x1⟩ := open_word (e := 4) Try.underlying24 (by kernel_rfl) (by kernel_rfl) Try.underlying22 Try.underlying22 Try.underlying4 (by kernel_rfl) (by kernel_rfl) (hval 1 24 v1 rfl rfl) h1 z1
  clear hA0 hval0 hsz0 hsz
  refine (walk W x0 x1).mono fun e W' ⟨he, y, hy⟩ => ?_
  subst he
  have bel : Below W.heap.size W W' := by rw [hy]; exact more_below W y
  exact ⟨_, rfl, _, _, _, [], _, [], hW', trodAll_mk1 (shut_bool Try.underlying4 _), (trodAll_cons_mk (Below.trod laidOut (by kernel_rfl) (of_decide_eq_true (by kernel_rfl)) k0 bel lt0) (trodAll_cons_mk (Below.trod laidOut (by kernel_rfl) (of_decide_eq_true (by kernel_rfl)) k1 bel lt1) trodAll_mk0)), rfl, bel.frame _, fun h => by cases h⟩

theorem over : Rows.paceGapsRow.holds Try.pinned (OpenSpec.ofChange Rows.paceGapsSpec) :=
  OpenClaim.holds_of_wide 4 Try.f4 rfl rfl rfl rfl rfl rfl rfl ⟨rfl, rfl, rfl, rfl, rfl⟩ rfl rfl rfl rfl rfl (by kernel_rfl) Try.func4 (by kernel_rfl)
    (of_decide_eq_true (by kernel_rfl)) (by unfold Func.isWrapper; first | (rw [if_pos (by decide +kernel)]; kernel_rfl) | (rw [if_neg (by decide +kernel)]; exact ⟨rfl, rfl⟩))
    (fun os started H enc _ => lifted os started H enc)

theorem proved : Rows.PaceGapsSaid := over
#print axioms proved
end Go.Proofs.Ytglfocldoaigiaa.paceGaps
