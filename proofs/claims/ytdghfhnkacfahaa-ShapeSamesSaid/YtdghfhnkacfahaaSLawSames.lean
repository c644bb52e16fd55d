/-
  Any two programs are equal exactly if all their parts are (the chapter's answer), equality is symmetric, and each is equal to itself. No conditions.
-/
import Derived.Test.YtdghfhnkacfahaaSOq
import Derived.Test.YtdghfhnkacfahaaSAw
import Derived.Test.YtdghfhnkacfahaaSRs
import Derived.Deep.CondSized
namespace Go.Proofs.Ytdghfhnkacfahaa.shapeSames
open Go.ChangeShapes Go.WideShapes Go.ChangeAt Go.RowKit Go.BigFrame
set_option linter.unusedVariables false
set_option linter.unusedSimpArgs false

theorem own : ownKnob Try.prog.godebug = none := by kernel_rfl
theorem laidOut : laidOutB Try.prog = true := by kernel_rfl

set_option maxRecDepth 100000 in
set_option maxHeartbeats 3200000 in
theorem walk {eA nA eA' nA' : Option Addr} {ec nc ec' nc' : Nat} {el el' : List EnD} {nl nl' : List NdD} (w : World) (x : RPg False w ⟨⟨eA, ec, el⟩, ⟨nA, nc, nl⟩⟩) (y : RPg False w ⟨⟨eA', ec', el'⟩, ⟨nA', nc', nl'⟩⟩) :
    Calls Try.prog 4 #[.agg #[.slice eA el.length ec, .slice nA nl.length nc], .agg #[.slice eA' el'.length ec', .slice nA' nl'.length nc']] w fun e w' => e = .returned (.bool true) ∧ ∃ y, w' = w.more y := by
  obtain ⟨q, hq⟩ : ∃ q, pgSame ⟨⟨eA, ec, el⟩, ⟨nA, nc, nl⟩⟩ ⟨⟨eA', ec', el'⟩, ⟨nA', nc', nl'⟩⟩ = q := ⟨_, rfl⟩
  have hq2 : pgSame ⟨⟨eA', ec', el'⟩, ⟨nA', nc', nl'⟩⟩ ⟨⟨eA, ec, el⟩, ⟨nA, nc, nl⟩⟩ = q := (pgSame_comm _ _).trans hq
  have G1 : Gives w 11 #[.agg #[.slice eA el.length ec, .slice nA nl.length nc], .agg #[.slice eA' el'.length ec', .slice nA' nl'.length nc']] (.bool q) := fun U hU => (hq ▸ psame_any x.enums y.enums x.nodes y.nodes U hU).mono fun e w' h => ⟨h.1, @After.is_more _ _ h.2⟩
  have G2 : Gives w 11 #[.agg #[.slice eA' el'.length ec', .slice nA' nl'.length nc'], .agg #[.slice eA el.length ec, .slice nA nl.length nc]] (.bool q) := fun U hU => (hq2 ▸ psame_any y.enums x.enums y.nodes x.nodes U hU).mono fun e w' h => ⟨h.1, @After.is_more _ _ h.2⟩
  have G3 : Gives w 11 #[.agg #[.slice eA el.length ec, .slice nA nl.length nc], .agg #[.slice eA el.length ec, .slice nA nl.length nc]] (.bool true) := fun U hU => (pgSame_refl ⟨⟨eA, ec, el⟩, ⟨nA, nc, nl⟩⟩ ▸ psame_any x.enums x.enums x.nodes x.nodes U hU).mono fun e w' h => ⟨h.1, @After.is_more _ _ h.2⟩
  have G4 : Gives w 11 #[.agg #[.slice eA' el'.length ec', .slice nA' nl'.length nc'], .agg #[.slice eA' el'.length ec', .slice nA' nl'.length nc']] (.bool true) := fun U hU => (pgSame_refl ⟨⟨eA', ec', el'⟩, ⟨nA', nc', nl'⟩⟩ ▸ psame_any y.enums y.enums y.nodes y.nodes U hU).mono fun e w' h => ⟨h.1, @After.is_more _ _ h.2⟩
  have G5 : Gives w 12 #[.agg #[.slice eA el.length ec, .slice nA nl.length nc], .agg #[.slice eA' el'.length ec', .slice nA' nl'.length nc']] (.bool q) := fun U hU => (hq ▸ rpsame_any x.enums y.enums x.nodes y.nodes U hU).mono fun e w' h => ⟨h.1, @After.is_more _ _ h.2⟩
  have G6 : Gives w 10 #[] (.bool true) := fun U hU => (awake_any U).mono fun e w' h => ⟨h.1, @After.is_more _ _ h.2⟩
  have hqq : (q == q) = true := by cases q <;> rfl
  clear hq hq2 x y
  go_enter Try.func4, Try.ntmps4
  go_wp2_with fail
  refine wp_region_more (by kernel_rfl) (by kernel_rfl) ?_
  repeat (go_big_quiet_step (first
    | (go_at_call 11; with_reducible exact Calls.more_of (Gives.on G1 _ inferInstance))
    | (go_at_call 11; with_reducible exact Calls.more_of (Gives.on G2 _ inferInstance))
    | (go_at_call 11; with_reducible exact Calls.more_of (Gives.on G3 _ inferInstance))
    | (go_at_call 11; with_reducible exact Calls.more_of (Gives.on G4 _ inferInstance))
    | (go_at_call 12; with_reducible exact Calls.more_of (Gives.on G5 _ inferInstance))
    | (go_at_call 10; with_reducible exact Calls.more_of (Gives.on G6 _ inferInstance))))
  refine wpQuiet_nil ?_
  rintro _ ⟨y_, rfl⟩
  go_wp2_with fail
  go_ret
  exact ⟨rfl, After.is_more _ _⟩

set_option maxRecDepth 100000 in
theorem lifted (os : Os) (started : os.Started) (H : Type) (enc : TypeId × Value → H) :
    ReturnsInHanded {} Try.checked os 4 .any (Rows.shapeSamesSpec.pre6 enc Try.prog Try.f4 Rows.shapeSamesRow.domain false) (Rows.shapeSamesSpec.post enc Try.prog Try.f4 false true false false) := by
  refine returnsInHanded_of_change_sized (C := Try.checked) own started (by kernel_rfl) Try.func4
    (ChangeSpec.witness6 (enc := enc) (C := Try.checked) false ⟨#[], #[.agg #[.slice none 0 0, .slice none 0 0], .agg #[.slice none 0 0, .slice none 0 0]], []⟩ 8 (by kernel_rfl) (by kernel_rfl) (by kernel_rfl) (by kernel_rfl)) ?_
  intro W base args ds gs before hval0 hW hcnd hsz0 _
  have hval : ∀ (j : Nat) t v, Try.f4.params[j]? = some t → args[j]? = some v → Value.okWide Try.prog W .any base t v := hval0
  have hsz : (DataW.weightsEach Try.prog (Try.f4.params.toList ++ Rows.shapeSamesSpec.plain.varTypes Try.prog) (ds ++ gs)).all (· ≤ reachBytes) = true := hsz0
  have hW' := hW
  obtain ⟨p, q, hA0, hV, rfl, hfz, hnd⟩ := hW
  have hA : DataW.TrodAll enc Try.prog W 0 (fun _ => true) true Try.f4.params.toList args.toList ds p := hA0
  rw [Try.params4] at hA hval hsz
  obtain ⟨v0, vs0, d0, ds0, p0, q0, hargs, rfl, rfl, h0, r0⟩ := trodAll_cons hA
  obtain ⟨v1, vs1, d1, ds1, p1, q1, rfl, rfl, rfl, h1, r1⟩ := trodAll_cons r0
  obtain ⟨rfl, rfl, rfl⟩ := trodAll_nil r1
  obtain rfl : args = #[v0, v1] := by cases args; simp_all
  obtain ⟨rfl, rfl⟩ := trodVars_none hV
  have k0 := h0
  have lt0 : ∀ x ∈ p0, x.block < W.heap.size := by obtain ⟨m, hm⟩ := k0; exact DataW.trod_lt m _ _ _ hm
  have z0 : ∀ n ∈ d0.weights Try.prog 32, n ≤ reachBytes := fun n hn => by
    simpa using List.all_eq_true.1 hsz n (DataW.weights_mem_each (j := 0) (t := 32) rfl rfl n hn)
  obtain ⟨eA0, nA0, ec0, nc0, el0, nl0, rfl, x0⟩ := open_prog (S := False) (hval 0 32 v0 rfl rfl) h0 z0 (fun h => h.elim)
  have k1 := h1
  have lt1 : ∀ x ∈ p1, x.block < W.heap.size := by obtain ⟨m, hm⟩ := k1; exact DataW.trod_lt m _ _ _ hm
  have z1 : ∀ n ∈ d1.weights Try.prog 32, n ≤ reachBytes := fun n hn => by
    simpa using List.all_eq_true.1 hsz n (DataW.weights_mem_each (j := 1) (t := 32) rfl rfl n hn)
  obtain ⟨eA1, nA1, ec1, nc1, el1, nl1, rfl, x1⟩ := open_prog (S := False) (hval 1 32 v1 rfl rfl) h1 z1 (fun h => h.elim)
  clear hA0 hval0 hsz0 hsz
  refine (walk W x0 x1).mono fun e W' ⟨he, y, hy⟩ => ?_
  subst he
  have bel : Below W.heap.size W W' := by rw [hy]; exact more_below W y
  exact ⟨_, rfl, _, _, _, [], _, [], hW', trodAll_mk1 (shut_bool Try.underlying4 _), (trodAll_cons_mk (Below.trod laidOut (by kernel_rfl) (of_decide_eq_true (by kernel_rfl)) k0 bel lt0) (trodAll_cons_mk (Below.trod laidOut (by kernel_rfl) (of_decide_eq_true (by kernel_rfl)) k1 bel lt1) trodAll_mk0)), rfl, bel.frame _, fun h => by cases h⟩

theorem over : Rows.shapeSamesRow.holds Try.pinned (OpenSpec.ofChange Rows.shapeSamesSpec) :=
  OpenClaim.holds_of_wide 4 Try.f4 rfl rfl rfl rfl rfl rfl rfl ⟨rfl, rfl, rfl, rfl, rfl⟩ rfl rfl rfl rfl rfl (by kernel_rfl) Try.func4 (by kernel_rfl)
    (of_decide_eq_true (by kernel_rfl)) (by unfold Func.isWrapper; first | (rw [if_pos (by decide +kernel)]; kernel_rfl) | (rw [if_neg (by decide +kernel)]; exact ⟨rfl, rfl⟩))
    (fun os started H enc _ => lifted os started H enc)

theorem proved : Rows.ShapeSamesSaid := over
#print axioms proved
end Go.Proofs.Ytdghfhnkacfahaa.shapeSames
