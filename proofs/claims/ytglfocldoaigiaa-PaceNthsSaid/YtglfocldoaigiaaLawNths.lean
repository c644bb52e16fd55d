/-
  The index of the k-th one is the chapter's, the letter there is a one, and k ones come before it: for every word and number. No conditions.
-/
import Derived.Test.YtglfocldoaigiaaLaw31a
import Derived.Test.YtglfocldoaigiaaLift
namespace Go.Proofs.Ytglfocldoaigiaa.paceNths
open Go.ChangeShapes Go.WideShapes Go.ChangeAt Go.RowKit Go.BigFrame
set_option linter.unusedVariables false

theorem own : ownKnob Try.prog.godebug = none := by kernel_rfl
theorem laidOut : laidOutB Try.prog = true := by kernel_rfl

theorem nth_facts {h l : List Bool} {k : Int} {i : Int} (e : nthV h l k = (i, true)) : atB h l i = true ∧ onesI h l i = k ∧ 0 ≤ i ∧ i ≤ 1099511627776 := by
  unfold nthV at e
  split at e
  · rename_i hc
    obtain ⟨h0, h1, h2, h3⟩ := hc
    have hv : Valid h l := Valid.of_checkI (by unfold checkI; omega)
    obtain ⟨n, e1, e2, e3, _, e5⟩ := nthN_spec h l k.toNat hv.1 (by omega)
    have hi : i = (n : Int) := by
      have := congrArg Prod.fst e
      simp only [] at this
      rw [← this, e1]
    subst hi
    have hlen := hv.2
    refine ⟨?_, ?_, by omega, ?_⟩
    · rw [atB_ok hv (by omega)]; unfold letterB; rw [Int.toNat_natCast]; exact e2
    · rw [onesI_ok hv, e3]; omega
    · have : (k.toNat + 1) * l.length ≤ 2147483648 * 64 := Nat.mul_le_mul (by omega) (by omega)
      omega
  · simp at e

set_option maxHeartbeats 800000 in
theorem walk {A B c d h l} (w : World) (x : RW w A c B d h l) (k : Int) (wk : (Lit.int .i64 k).wf = true) :
    Calls Try.prog 8 #[.agg #[.slice A h.length c, .slice B l.length d], .int .i64 k] w fun e w' => e = .returned (.bool true) ∧ ∃ y, w' = w.more y := by
  clear wk
  cases hH : hugeB h l
  case true =>
    have HH : Hid (∀ U : World, After w U → Calls Try.prog 15 #[.agg #[.slice A h.length c, .slice B l.length d]] U fun e w' => e = .returned (.bool true) ∧ ∃ y, w' = U.more y) := by
      intro U _; have := huge_any x U; rwa [hH] at this
    clear hH
    go_enter Try.func8, Try.ntmps8
    go_wp2_with (first
      | (go_at_call 15; with_reducible refine (HH.out _ inferInstance).mono ?_; rintro e w' ⟨rfl, y, rfl⟩)
      | (go_at_call 16; with_reducible refine (awake_any _).mono ?_; rintro e w' ⟨rfl, y, rfl⟩))
    go_ret
    exact ⟨rfl, After.is_more _ _⟩
  case false =>
    have HH : Hid (∀ U : World, After w U → Calls Try.prog 15 #[.agg #[.slice A h.length c, .slice B l.length d]] U fun e w' => e = .returned (.bool false) ∧ ∃ y, w' = U.more y) := by
      intro U _; have := huge_any x U; rwa [hH] at this
    clear hH
    obtain ⟨p, hp⟩ : ∃ p, (nthV h l k).1 = p := ⟨_, rfl⟩
    obtain ⟨b, hb⟩ : ∃ b, (nthV h l k).2 = b := ⟨_, rfl⟩
    have H1 : Hid (∀ U : World, After w U → Calls Try.prog 32 #[.agg #[.slice A h.length c, .slice B l.length d], .int .i64 k] U fun e w' => e = .returned (.tuple #[.int .i64 p, .bool b]) ∧ ∃ y, w' = U.more y) := by
      intro U _; have := nth_any x U k; rwa [hp, hb] at this
    have H2 : Hid (∀ U : World, After w U → Calls Try.prog 33 #[.agg #[.slice A h.length c, .slice B l.length d], .int .i64 k] U fun e w' => e = .returned (.tuple #[.int .i64 p, .bool b]) ∧ ∃ y, w' = U.more y) := by
      intro U _; have := rnth_any x U k; rwa [hp, hb] at this
    have b1 : (p != p) = false := by simp
    cases b
    · clear hp hb
      go_enter Try.func8, Try.ntmps8
      go_wp2_with (first
        | (go_at_call 15; with_reducible refine (HH.out _ inferInstance).mono ?_; rintro e w' ⟨rfl, y, rfl⟩)
        | (go_at_call 32; with_reducible refine (H1.out _ inferInstance).mono ?_; rintro e w' ⟨rfl, y, rfl⟩)
        | (go_at_call 33; with_reducible refine (H2.out _ inferInstance).mono ?_; rintro e w' ⟨rfl, y, rfl⟩)
        | (go_at_call 16; with_reducible refine (awake_any _).mono ?_; rintro e w' ⟨rfl, y, rfl⟩))
      go_ret
      exact ⟨rfl, After.is_more _ _⟩
    · obtain ⟨f1, f2, f3, f4⟩ := nth_facts (h := h) (l := l) (k := k) (i := p) (by rw [← hp, ← hb])
      clear hp hb
      have H3 : Hid (∀ U : World, After w U → Calls Try.prog 34 #[.agg #[.slice A h.length c, .slice B l.length d], .int .i64 p] U fun e w' => e = .returned (.bool true) ∧ ∃ y, w' = U.more y) := by
        intro U _; have := at_any x U p (by omega); rwa [f1] at this
      have H4 : Hid (∀ U : World, After w U → Calls Try.prog 24 #[.agg #[.slice A h.length c, .slice B l.length d], .int .i64 p] U fun e w' => e = .returned (.int .i64 k) ∧ ∃ y, w' = U.more y) := by
        intro U _; have := ones_any x U p f4; rwa [f2] at this
      have b2 : (k == k) = true := by simp
      clear f1 f2 f3 f4
      go_enter Try.func8, Try.ntmps8
      go_wp2_with (first
        | (go_at_call 15; with_reducible refine (HH.out _ inferInstance).mono ?_; rintro e w' ⟨rfl, y, rfl⟩)
        | (go_at_call 32; with_reducible refine (H1.out _ inferInstance).mono ?_; rintro e w' ⟨rfl, y, rfl⟩)
        | (go_at_call 33; with_reducible refine (H2.out _ inferInstance).mono ?_; rintro e w' ⟨rfl, y, rfl⟩)
        | (go_at_call 34; with_reducible refine (H3.out _ inferInstance).mono ?_; rintro e w' ⟨rfl, y, rfl⟩)
        | (go_at_call 24; with_reducible refine (H4.out _ inferInstance).mono ?_; rintro e w' ⟨rfl, y, rfl⟩)
        | (go_at_call 16; with_reducible refine (awake_any _).mono ?_; rintro e w' ⟨rfl, y, rfl⟩))
      go_ret
      exact ⟨rfl, After.is_more _ _⟩

set_option maxRecDepth 100000 in
theorem lifted (os : Os) (started : os.Started) (H : Type) (enc : TypeId × Value → H) :
    ReturnsInHanded {} Try.checked os 8 .any (Rows.paceNthsSpec.pre6 enc Try.prog Try.f8 Rows.paceNthsRow.domain false) (Rows.paceNthsSpec.post enc Try.prog Try.f8 false true false false) := by
  refine returnsInHanded_of_change_sized (C := Try.checked) own started (by kernel_rfl) Try.func8
    (ChangeSpec.witness6 (enc := enc) (C := Try.checked) false ⟨#[], #[.agg #[.slice none 0 0, .slice none 0 0], .int .i64 0], []⟩ 8 (by kernel_rfl) (by kernel_rfl) (by kernel_rfl) (by kernel_rfl)) ?_
  intro W base args ds gs before hval0 hW hcnd hsz0 _
  have hval : ∀ (j : Nat) t v, Try.f8.params[j]? = some t → args[j]? = some v → Value.okWide Try.prog W .any base t v := hval0
  have hsz : (DataW.weightsEach Try.prog (Try.f8.params.toList ++ Rows.paceNthsSpec.plain.varTypes Try.prog) (ds ++ gs)).all (· ≤ reachBytes) = true := hsz0
  have hW' := hW
  obtain ⟨p, q, hA0, hV, rfl, hfz, hnd⟩ := hW
  have hA : DataW.TrodAll enc Try.prog W 0 (fun _ => true) true Try.f8.params.toList args.toList ds p := hA0
  rw [Try.params8] at hA hval hsz
  obtain ⟨v0, vs0, d0, ds0, p0, q0, hargs, rfl, rfl, h0, r0⟩ := trodAll_cons hA
  obtain ⟨v1, vs1, d1, ds1, p1, q1, rfl, rfl, rfl, h1, r1⟩ := trodAll_cons r0
  obtain ⟨rfl, rfl, rfl⟩ := trodAll_nil r1
  obtain rfl : args = #[v0, v1] := by cases args; simp_all
  obtain ⟨rfl, rfl⟩ := trodVars_none hV
  have k0 := h0
  have lt0 : ∀ x ∈ p0, x.block < W.heap.size := by obtain ⟨m, hm⟩ := k0; exact DataW.trod_lt m _ _ _ hm
  have z0 : ∀ n ∈ d0.weights Try.prog 24, n ≤ reachBytes := fun n hn => by
    simpa using List.all_eq_true.1 hsz n (DataW.weights_mem_each (j := 0) (t := 24) rfl rfl n hn)
  obtain ⟨A0, c0, B0, c0', hl0, ll0, rfl, x0⟩ := open_word (e := 4) Try.underlying24 (by kernel_rfl) (by kernel_rfl) Try.underlying22 Try.underlying22 Try.underlying4 (by kernel_rfl) (by kernel_rfl) (hval 0 24 v0 rfl rfl) h0 z0
  obtain ⟨a1, rfl, rfl, rfl, w1⟩ := open_int Try.underlying3 (hval 1 3 v1 rfl rfl) h1
  clear hA0 hval0 hsz0 hsz
  refine (walk W x0 a1 w1).mono fun e W' ⟨he, y, hy⟩ => ?_
  subst he
  have bel : Below W.heap.size W W' := by rw [hy]; exact more_below W y
  exact ⟨_, rfl, _, _, _, [], _, [], hW', trodAll_mk1 (shut_bool Try.underlying4 _), (trodAll_cons_mk (Below.trod laidOut (by kernel_rfl) (of_decide_eq_true (by kernel_rfl)) k0 bel lt0) (trodAll_cons_mk (shut_int Try.underlying3 w1) trodAll_mk0)), rfl, bel.frame _, fun h => by cases h⟩

theorem over : Rows.paceNthsRow.holds Try.pinned (OpenSpec.ofChange Rows.paceNthsSpec) :=
  OpenClaim.holds_of_wide 8 Try.f8 rfl rfl rfl rfl rfl rfl rfl ⟨rfl, rfl, rfl, rfl, rfl⟩ rfl rfl rfl rfl rfl (by kernel_rfl) Try.func8 (by kernel_rfl)
    (of_decide_eq_true (by kernel_rfl)) (by unfold Func.isWrapper; first | (rw [if_pos (by decide +kernel)]; kernel_rfl) | (rw [if_neg (by decide +kernel)]; exact ⟨rfl, rfl⟩))
    (fun os started H enc _ => lifted os started H enc)

theorem proved : Rows.PaceNthsSaid := over
#print axioms proved
end Go.Proofs.Ytglfocldoaigiaa.paceNths
