/-
  The rate of a word that is sampled by another one is the product of their rates: for any two words. No conditions.
-/
import Derived.Test.YtglfocldoaigiaaLaw31a
import Derived.Test.YtglfocldoaigiaaOnRate
import Derived.Test.YtglfocldoaigiaaGives
import Derived.Test.YtglfocldoaigiaaLift
namespace Go.Proofs.Ytglfocldoaigiaa.paceOns
open Go.ChangeShapes Go.WideShapes Go.ChangeAt Go.RowKit Go.BigFrame
set_option linter.unusedVariables false

theorem own : ownKnob Try.prog.godebug = none := by kernel_rfl
theorem laidOut : laidOutB Try.prog = true := by kernel_rfl

theorem huge_v {w0 : World} {A B c d h l} (x : RW w0 A c B d h l) {v : Bool} (e : hugeB h l = v) : Gives w0 15 #[.agg #[.slice A h.length c, .slice B l.length d]] (.bool v) := fun U _ => e ▸ huge_any x U
theorem check_v {w0 : World} {A B c d h l} (x : RW w0 A c B d h l) {v : Int} (e : checkI h l = v) : Gives w0 19 #[.agg #[.slice A h.length c, .slice B l.length d]] (.int .i64 v) := fun U _ => e ▸ check_any x U
theorem rate_v {w0 : World} {A B c d h l} (x : RW w0 A c B d h l) {p q : Int} (e : rateV h l = (p, q)) : Gives w0 17 #[.agg #[.slice A h.length c, .slice B l.length d]] (.tuple #[.int .i64 p, .int .i64 q]) := fun U _ => by have := rate_any x U; rwa [e] at this
theorem nth_v {w0 : World} {A B c d h l} (x : RW w0 A c B d h l) {k p : Int} {q : Bool} (e : nthV h l k = (p, q)) : Gives w0 32 #[.agg #[.slice A h.length c, .slice B l.length d], .int .i64 k] (.tuple #[.int .i64 p, .bool q]) := fun U _ => by have := nth_any x U k; rwa [e] at this
theorem gap_v {w0 : World} {A B c d h l A' B' c' d' h' l'} (x : RW w0 A c B d h l) (x' : RW w0 A' c' B' d' h' l') {p : Int} {q : Bool} (e : gapV h l h' l' = (p, q)) : Gives w0 21 #[.agg #[.slice A h.length c, .slice B l.length d], .agg #[.slice A' h'.length c', .slice B' l'.length d']] (.tuple #[.int .i64 p, .bool q]) := fun U _ => by have := gap_any x x' U; rwa [e] at this
set_option maxRecDepth 100000 in
set_option maxHeartbeats 1600000 in
theorem walk {A B c d h l A' B' c' d' h' l'} (w : World) (x : RW w A c B d h l) (x' : RW w A' c' B' d' h' l') :
    Calls Try.prog 14 #[.agg #[.slice A h.length c, .slice B l.length d], .agg #[.slice A' h'.length c', .slice B' l'.length d']] w fun e w' => e = .returned (.bool true) ∧ ∃ y, w' = w.more y := by
  cases h1 : hugeB h l with
  | true =>
    have G1 := huge_v x h1
    clear h1
    go_enter Try.func14, Try.ntmps14
    go_wp2_with fail
    refine (Gives.on G1 _ inferInstance).mono ?_
    rintro e w' ⟨rfl, y78, rfl⟩
    go_wp2_with fail
    refine (awake_any _).mono ?_
    rintro e w' ⟨rfl, yw, rfl⟩
    go_wp2_with fail
    go_ret
    exact ⟨rfl, After.is_more _ _⟩
  | false =>
    have G1 := huge_v x h1
    clear h1
    cases h2 : hugeB h' l' with
    | true =>
      have G2 := huge_v x' h2
      clear h2
      go_enter Try.func14, Try.ntmps14
      go_wp2_with fail
      refine (Gives.on G1 _ inferInstance).mono ?_
      rintro e w' ⟨rfl, y79, rfl⟩
      go_wp2_with fail
      refine (Gives.on G2 _ inferInstance).mono ?_
      rintro e w' ⟨rfl, y80, rfl⟩
      go_wp2_with fail
      refine (awake_any _).mono ?_
      rintro e w' ⟨rfl, yw, rfl⟩
      go_wp2_with fail
      go_ret
      exact ⟨rfl, After.is_more _ _⟩
    | false =>
      have G2 := huge_v x' h2
      clear h2
      rcases onW_cases h l h' l' with ⟨H, L, eo, hv, hv', hV, he⟩ | ⟨e, eo, h5⟩
      · have GO : GivesW w 51 #[.agg #[.slice A h.length c, .slice B l.length d], .agg #[.slice A' h'.length c', .slice B' l'.length d']] H L (fun v => .tuple #[v, .int .i64 0]) := fun U _ => by have := on_any x x' U; rwa [eo] at this
        have r1 := rateV_ok hV
        have G4 := rate_v x (rateV_ok hv)
        have G5 := rate_v x' (rateV_ok hv')
        have b1 := rateN_bd hV
        have b2 := rateN_bd hv
        have b3 := rateN_bd hv'
        have key := on_rates hv hv' hV he
        generalize (rateN L).1 = n at *
        generalize (rateN L).2 = d9 at *
        generalize (rateN l).1 = x9 at *
        generalize (rateN l).2 = y9 at *
        generalize (rateN l').1 = u9 at *
        generalize (rateN l').2 = v9 at *
        obtain ⟨p1, hp1⟩ : ∃ p, n * y9 = p := ⟨_, rfl⟩
        obtain ⟨p2, hp2⟩ : ∃ p, d9 * x9 = p := ⟨_, rfl⟩
        rw [hp1, hp2] at key
        obtain ⟨p3, hp3⟩ : ∃ p, p1 * v9 = p := ⟨_, rfl⟩
        rw [hp3] at key
        have i1 : (n : Int) * (y9 : Int) = (p1 : Int) := by rw [← hp1]; push_cast; rfl
        have i2 : (d9 : Int) * (x9 : Int) = (p2 : Int) := by rw [← hp2]; push_cast; rfl
        have i3 : (p1 : Int) * (v9 : Int) = (p3 : Int) := by rw [← hp3]; push_cast; rfl
        have i4 : (p2 : Int) * (u9 : Int) = (p3 : Int) := by rw [key]; push_cast; rfl
        have m1 : p1 ≤ 64 * 64 := by rw [← hp1]; exact Nat.mul_le_mul b1.1 b2.2
        have m2 : p2 ≤ 64 * 64 := by rw [← hp2]; exact Nat.mul_le_mul b1.2 b2.1
        have m3 : p3 ≤ 64 * 64 * 64 := by rw [← hp3]; exact Nat.mul_le_mul m1 b3.2
        replace r1 := Lib.hid r1
        clear hp1 hp2 hp3 key he eo hv hv' hV
        go_enter Try.func14, Try.ntmps14
        go_wp2_with fail
        refine (Gives.on G1 _ inferInstance).mono ?_
        rintro e w' ⟨rfl, y81, rfl⟩
        go_wp2_with fail
        refine (Gives.on G2 _ inferInstance).mono ?_
        rintro e w' ⟨rfl, y82, rfl⟩
        go_wp2_with fail
        refine (GivesW.on GO _ inferInstance).mono ?_
        rintro e w' ⟨A5, c5, B5, d5, rfl, x5, y5, rfl⟩
        go_wp2_with fail
        refine (Gives.on (rate_v x5 r1.out) _ inferInstance).mono ?_
        rintro e w' ⟨rfl, y83, rfl⟩
        go_wp2_with fail
        refine (Gives.on G4 _ inferInstance).mono ?_
        rintro e w' ⟨rfl, y84, rfl⟩
        go_wp2_with fail
        refine (Gives.on G5 _ inferInstance).mono ?_
        rintro e w' ⟨rfl, y85, rfl⟩
        go_wp2_with fail
        refine (awake_any _).mono ?_
        rintro e w' ⟨rfl, yw, rfl⟩
        go_wp2_with fail
        go_ret
        exact ⟨rfl, After.is_more _ _⟩
      · have GO : GivesW w 51 #[.agg #[.slice A h.length c, .slice B l.length d], .agg #[.slice A' h'.length c', .slice B' l'.length d']] [] [] (fun v => .tuple #[v, .int .i64 e]) := fun U _ => by have := on_any x x' U; rwa [eo] at this
        clear eo
        rcases h5 with rfl | rfl
        all_goals
          go_enter Try.func14, Try.ntmps14
          go_wp2_with fail
          refine (Gives.on G1 _ inferInstance).mono ?_
          rintro e w' ⟨rfl, y86, rfl⟩
          go_wp2_with fail
          refine (Gives.on G2 _ inferInstance).mono ?_
          rintro e w' ⟨rfl, y87, rfl⟩
          go_wp2_with fail
          refine (GivesW.on GO _ inferInstance).mono ?_
          rintro e w' ⟨A5, c5, B5, d5, rfl, x5, y5, rfl⟩
          go_wp2_with fail
          refine (awake_any _).mono ?_
          rintro e w' ⟨rfl, yw, rfl⟩
          go_wp2_with fail
          go_ret
          exact ⟨rfl, After.is_more _ _⟩

set_option maxRecDepth 100000 in
theorem lifted (os : Os) (started : os.Started) (H : Type) (enc : TypeId × Value → H) :
    ReturnsInHanded {} Try.checked os 14 .any (Rows.paceOnsSpec.pre6 enc Try.prog Try.f14 Rows.paceOnsRow.domain false) (Rows.paceOnsSpec.post enc Try.prog Try.f14 false true false false) := by
  refine returnsInHanded_of_change_sized (C := Try.checked) own started (by kernel_rfl) Try.func14
    (ChangeSpec.witness6 (enc := enc) (C := Try.checked) false ⟨#[], #[.agg #[.slice none 0 0, .slice none 0 0], .agg #[.slice none 0 0, .slice none 0 0]], []⟩ 8 (by kernel_rfl) (by kernel_rfl) (by kernel_rfl) (by kernel_rfl)) ?_
  intro W base args ds gs before hval0 hW hcnd hsz0 _
  have hval : ∀ (j : Nat) t v, Try.f14.params[j]? = some t → args[j]? = some v → Value.okWide Try.prog W .any base t v := hval0
  have hsz : (DataW.weightsEach Try.prog (Try.f14.params.toList ++ Rows.paceOnsSpec.plain.varTypes Try.prog) (ds ++ gs)).all (· ≤ reachBytes) = true := hsz0
  have hW' := hW
  obtain ⟨p, q, hA0, hV, rfl, hfz, hnd⟩ := hW
  have hA : DataW.TrodAll enc Try.prog W 0 (fun _ => true) true Try.f14.params.toList args.toList ds p := hA0
  rw [Try.params14] at hA hval hsz
  obtain ⟨v0, vs0, d0, ds0, p0, q0, hargs, rfl, rfl, h0, r0⟩ := trodAll_cons hA
  obtain ⟨v1, vs1, d1, ds1, p1, q1, rfl, rfl, rfl, h1, r1⟩ := trodAll_cons r0
  obtain ⟨rfl, rfl, rfl⟩ := trodAll_nil r1
  obtain rfl : args = #[v0, v1] := by cases args; simp_all
  obtain ⟨rfl, rfl⟩ := trodVars_none hV
  have k0 := h0
  have lt0 : ∀ x ∈ p0, x.block < W.heap.size := by obtain ⟨m, hm⟩ := k0; exact DataW.trod_lt m _ _ _ hm
  have z0 : ∀ n ∈ d0.weights Try.prog 24, n ≤ reachBytes := fun n hn => by
    simpa using List.all_eq_true.1 hsz n (DataW.weights_mem_each (j := 0) (t := 24) rfl rfl n hn)
  obtain ⟨A0, c0, B0, c0', hl0, ll0, rfl, x0⟩ := open_word (e := 4) Try.underlying24 (by kernel_rfl) (by kernel_rfl) Try.underlying22 Try.underlying22 Try.underlying4 (by kernel_rfl) (by kernel_rfl) (hval 0 24 v0 rfl rfl) h0 z0
  have k1 := h1
  have lt1 : ∀ x ∈ p1, x.block < W.heap.size := by obtain ⟨m, hm⟩ := k1; exact DataW.trod_lt m _ _ _ hm
  have z1 : ∀ n ∈ d1.weights Try.prog 24, n ≤ reachBytes := fun n hn => by
    simpa using List.all_eq_true.1 hsz n (DataW.weights_mem_each (j := 1) (t := 24) rfl rfl n hn)
  obtain ⟨A1, c1, B1, c1', hl1, ll1, rfl, x1⟩ := open_word (e := 4) Try.underlying24 (by kernel_rfl) (by kernel_rfl) Try.underlying22 Try.underlying22 Try.underlying4 (by kernel_rfl) (by kernel_rfl) (hval 1 24 v1 rfl rfl) h1 z1
  clear hA0 hval0 hsz0 hsz
  refine (walk W x0 x1).mono fun e W' ⟨he, y, hy⟩ => ?_
  subst he
  have bel : Below W.heap.size W W' := by rw [hy]; exact more_below W y
  exact ⟨_, rfl, _, _, _, [], _, [], hW', trodAll_mk1 (shut_bool Try.underlying4 _), (trodAll_cons_mk (Below.trod laidOut (by kernel_rfl) (of_decide_eq_true (by kernel_rfl)) k0 bel lt0) (trodAll_cons_mk (Below.trod laidOut (by kernel_rfl) (of_decide_eq_true (by kernel_rfl)) k1 bel lt1) trodAll_mk0)), rfl, bel.frame _, fun h => by cases h⟩

theorem over : Rows.paceOnsRow.holds Try.pinned (OpenSpec.ofChange Rows.paceOnsSpec) :=
  OpenClaim.holds_of_wide 14 Try.f14 rfl rfl rfl rfl rfl rfl rfl ⟨rfl, rfl, rfl, rfl, rfl⟩ rfl rfl rfl rfl rfl (by kernel_rfl) Try.func14 (by kernel_rfl)
    (of_decide_eq_true (by kernel_rfl)) (by unfold Func.isWrapper; first | (rw [if_pos (by decide +kernel)]; kernel_rfl) | (rw [if_neg (by decide +kernel)]; exact ⟨rfl, rfl⟩))
    (fun os started H enc _ => lifted os started H enc)

theorem proved : Rows.PaceOnsSaid := over
#print axioms proved
end Go.Proofs.Ytglfocldoaigiaa.paceOns
