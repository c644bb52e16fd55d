/-
  Size, Depth, Count and Stateless are those of the chapter, for every expression (of at most 500 expressions, as the law says) and kind. No conditions.
-/
import Derived.Test.YtfoddappedcplaaELives
import Derived.Test.YtfoddappedcplaaELift
namespace Go.Proofs.Ytfoddappedcplaa.exprCounts
open Go.ChangeShapes Go.WideShapes Go.ChangeAt Go.RowKit Go.BigFrame
set_option linter.unusedVariables false
set_option linter.unusedSimpArgs false

theorem own : ownKnob Try.prog.godebug = none := by kernel_rfl
theorem laidOut : laidOutB Try.prog = true := by kernel_rfl

set_option maxRecDepth 100000 in
set_option maxHeartbeats 3200000 in
theorem walk {k o t v : Int} {s : ByteArray} {A : Option Addr} {c : Nat} {xs : List Tx} (w : World) (x : RX w (.mk k o t v s A c xs)) (q : Int) (wq : (Lit.int .i64 q).wf = true) :
    Calls Try.prog 4 #[.agg #[.int .i64 k, .int .i64 o, .int .i64 t, .int .i64 v, .string s, .slice A xs.length c], .int .i64 q] w fun e w' => e = .returned (.bool true) ∧ ∃ y, w' = w.more y := by
  replace x := Lib.hid x
  have GL : Gives w 11 #[] (.bool true) := fun U hU => (lives_any U).mono fun e w' h => ⟨h.1, @After.is_more _ _ h.2⟩
  have HK : Hid (∀ U : World, After (w.alloc (.cells #[.int .i64 k, .int .i64 o, .int .i64 t, .int .i64 v, .string s, .slice A xs.length c] 24)) U → After w U ∧ Le (w.heap.size + 1) U ∧ U.cell? ⟨w.heap.size, 0, none⟩ = some (.int .i64 k) ∧ U.cell? ⟨w.heap.size, 1, none⟩ = some (.int .i64 o) ∧ U.cell? ⟨w.heap.size, 2, none⟩ = some (.int .i64 t) ∧ U.cell? ⟨w.heap.size, 3, none⟩ = some (.int .i64 v) ∧ U.cell? ⟨w.heap.size, 4, none⟩ = some (.string s) ∧ U.cell? ⟨w.heap.size, 5, none⟩ = some (.slice A xs.length c)) := Lib.hid fun U hU => by
    have f_ := (Blk.new w 24 #[.int .i64 k, .int .i64 o, .int .i64 t, .int .i64 v, .string s, .slice A xs.length c]).after (w' := U)
    exact ⟨after_after inferInstance hU, f_.is_le, (f_.cell 0).trans rfl, (f_.cell 1).trans rfl, (f_.cell 2).trans rfl, (f_.cell 3).trans rfl, (f_.cell 4).trans rfl, (f_.cell 5).trans rfl⟩
  cases hv : heavyB (Tx.mk k o t v s A c xs) with
  | true =>
    have GH : Gives w 10 #[.agg #[.int .i64 k, .int .i64 o, .int .i64 t, .int .i64 v, .string s, .slice A xs.length c]] (.bool true) := fun U hU => (hv ▸ heavy_any x.out U hU).mono fun e w' h => ⟨h.1, @After.is_more _ _ h.2⟩
    go_enter Try.func4, Try.ntmps4
    go_wp2_with fail
    refine (Gives.on GH _ inferInstance).mono ?_
    rintro e w1 ⟨rfl, hy⟩
    have a1 : After (w.alloc (.cells #[.int .i64 k, .int .i64 o, .int .i64 t, .int .i64 v, .string s, .slice A xs.length c] 24)) w1 := after_of_more hy inferInstance
    obtain ⟨aw_w1, le_w1, h0_w1, h1_w1, h2_w1, h3_w1, h4_w1, h5_w1⟩ := HK.out w1 a1
    clear hy
    go_wp2_with fail
    refine (Gives.on GL _ inferInstance).mono ?_
    rintro e w2 ⟨rfl, hy2⟩
    have a2 : After w w2 := after_of_more hy2 inferInstance
    go_wp2_with fail
    go_ret
    exact ⟨rfl, After.is_more _ _⟩
  | false =>
    have hs : (Tx.mk k o t v s A c xs).size ≤ 500 := by unfold heavyB at hv; simpa using hv
    have GH : Gives w 10 #[.agg #[.int .i64 k, .int .i64 o, .int .i64 t, .int .i64 v, .string s, .slice A xs.length c]] (.bool false) := fun U hU => (hv ▸ heavy_any x.out U hU).mono fun e w' h => ⟨h.1, @After.is_more _ _ h.2⟩
    clear hv
    have hll : (Tx.mk k o t v s A c xs).list.length ≤ 500 := by rw [Tx.list_length]; exact hs
    obtain ⟨z1, hz1⟩ : ∃ z, (Tx.mk k o t v s A c xs).size = z := ⟨_, rfl⟩
    obtain ⟨z2, hz2⟩ : ∃ z, (Tx.mk k o t v s A c xs).depth = z := ⟨_, rfl⟩
    obtain ⟨z3, hz3⟩ : ∃ z, kindsN (Tx.mk k o t v s A c xs).list q = z := ⟨_, rfl⟩
    obtain ⟨z4, hz4⟩ : ∃ z, stateless (Tx.mk k o t v s A c xs).list = z := ⟨_, rfl⟩
    have G1 : Gives w 14 #[.agg #[.int .i64 k, .int .i64 o, .int .i64 t, .int .i64 v, .string s, .slice A xs.length c]] (.int .i64 (z1 : Nat)) := fun U hU => (hz1 ▸ size_any (by omega) x.out U hU).mono fun e w' h => ⟨h.1, @After.is_more _ _ h.2⟩
    have G2 : Gives w 15 #[.agg #[.int .i64 k, .int .i64 o, .int .i64 t, .int .i64 v, .string s, .slice A xs.length c]] (.int .i64 (z1 : Nat)) := fun U hU => (hz1 ▸ rsize_any (by omega) x.out U hU).mono fun e w' h => ⟨h.1, @After.is_more _ _ h.2⟩
    have G3 : Gives w 16 #[.agg #[.int .i64 k, .int .i64 o, .int .i64 t, .int .i64 v, .string s, .slice A xs.length c]] (.int .i64 (z2 : Nat)) := fun U hU => (hz2 ▸ depth_any (by omega) x.out U hU).mono fun e w' h => ⟨h.1, @After.is_more _ _ h.2⟩
    have G4 : Gives w 17 #[.agg #[.int .i64 k, .int .i64 o, .int .i64 t, .int .i64 v, .string s, .slice A xs.length c]] (.int .i64 (z2 : Nat)) := fun U hU => (hz2 ▸ rdepth_any (by omega) x.out U hU).mono fun e w' h => ⟨h.1, @After.is_more _ _ h.2⟩
    have G5 : Gives w 18 #[.agg #[.int .i64 k, .int .i64 o, .int .i64 t, .int .i64 v, .string s, .slice A xs.length c], .int .i64 q] (.int .i64 (z3 : Nat)) := fun U hU => (hz3 ▸ count_any (by omega) x.out q U hU).mono fun e w' h => ⟨h.1, @After.is_more _ _ h.2⟩
    have G6 : Gives w 19 #[.agg #[.int .i64 k, .int .i64 o, .int .i64 t, .int .i64 v, .string s, .slice A xs.length c], .int .i64 q] (.int .i64 (z3 : Nat)) := fun U hU => (hz3 ▸ rcount_any (by omega) x.out q U hU).mono fun e w' h => ⟨h.1, @After.is_more _ _ h.2⟩
    have G7 : Gives w 20 #[.agg #[.int .i64 k, .int .i64 o, .int .i64 t, .int .i64 v, .string s, .slice A xs.length c]] (.bool z4) := fun U hU => (hz4 ▸ stateless_any x.out U hU).mono fun e w' h => ⟨h.1, @After.is_more _ _ h.2⟩
    have G8 : Gives w 21 #[.agg #[.int .i64 k, .int .i64 o, .int .i64 t, .int .i64 v, .string s, .slice A xs.length c]] (.bool z4) := fun U hU => (hz4 ▸ rstateless_any (by omega) x.out U hU).mono fun e w' h => ⟨h.1, @After.is_more _ _ h.2⟩
    clear hz1 hz2 hz3 hz4 hs hll
    go_enter Try.func4, Try.ntmps4
    go_wp2_with fail
    refine (Gives.on GH _ inferInstance).mono ?_
    rintro e w1 ⟨rfl, hy⟩
    have a1 : After (w.alloc (.cells #[.int .i64 k, .int .i64 o, .int .i64 t, .int .i64 v, .string s, .slice A xs.length c] 24)) w1 := after_of_more hy inferInstance
    obtain ⟨aw_w1, le_w1, h0_w1, h1_w1, h2_w1, h3_w1, h4_w1, h5_w1⟩ := HK.out w1 a1
    clear hy GH
    go_wp2_with fail
    refine wp_region_more (by kernel_rfl) (by kernel_rfl) ?_
    repeat (go_big_quiet_step ((first | (go_at_call 14; with_reducible exact Calls.more_of (Gives.on G1 _ inferInstance)) | (go_at_call 15; with_reducible exact Calls.more_of (Gives.on G2 _ inferInstance)) | (go_at_call 16; with_reducible exact Calls.more_of (Gives.on G3 _ inferInstance)) | (go_at_call 17; with_reducible exact Calls.more_of (Gives.on G4 _ inferInstance)) | (go_at_call 18; with_reducible exact Calls.more_of (Gives.on G5 _ inferInstance)) | (go_at_call 19; with_reducible exact Calls.more_of (Gives.on G6 _ inferInstance)) | (go_at_call 20; with_reducible exact Calls.more_of (Gives.on G7 _ inferInstance)) | (go_at_call 21; with_reducible exact Calls.more_of (Gives.on G8 _ inferInstance)) | (go_at_call 11; with_reducible exact Calls.more_of (Gives.on GL _ inferInstance)))))
    refine wpQuiet_nil ?_
    rintro _ ⟨y, rfl⟩
    go_wp2_with fail
    go_ret
    exact ⟨rfl, After.is_more _ _⟩

set_option maxRecDepth 100000 in
theorem lifted (os : Os) (started : os.Started) (H : Type) (enc : TypeId × Value → H) :
    ReturnsInHanded {} Try.checked os 4 .any (Rows.exprCountsSpec.pre6 enc Try.prog Try.f4 Rows.exprCountsRow.domain false) (Rows.exprCountsSpec.post enc Try.prog Try.f4 false true false false) := by
  refine returnsInHanded_of_change_sized (C := Try.checked) own started (by kernel_rfl) Try.func4
    (ChangeSpec.witness6 (enc := enc) (C := Try.checked) false ⟨#[], #[.agg #[.int .i64 0, .int .i64 0, .int .i64 0, .int .i64 0, .string ByteArray.empty, .slice none 0 0], .int .i64 0], []⟩ 8 (by kernel_rfl) (by kernel_rfl) (by kernel_rfl) (by kernel_rfl)) ?_
  intro W base args ds gs before hval0 hW hcnd hsz0 _
  have hval : ∀ (j : Nat) t v, Try.f4.params[j]? = some t → args[j]? = some v → Value.okWide Try.prog W .any base t v := hval0
  have hsz : (DataW.weightsEach Try.prog (Try.f4.params.toList ++ Rows.exprCountsSpec.plain.varTypes Try.prog) (ds ++ gs)).all (· ≤ reachBytes) = true := hsz0
  have hW' := hW
  obtain ⟨p, q, hA0, hV, rfl, hfz, hnd⟩ := hW
  have hA : DataW.TrodAll enc Try.prog W 0 (fun _ => true) true Try.f4.params.toList args.toList ds p := hA0
  rw [Try.params4] at hA hval hsz
  obtain ⟨v0, vs0, d0, ds0, p0, q0, hargs, rfl, rfl, h0, r0⟩ := trodAll_cons hA
  obtain ⟨v1, vs1, d1, ds1, p1, q1, rfl, rfl, rfl, h1, r1⟩ := trodAll_cons r0
  obtain ⟨rfl, rfl, rfl⟩ := trodAll_nil r1
  obtain rfl : args = #[v0, v1] := by cases args; simp_all
  obtain ⟨rfl, rfl⟩ := trodVars_none hV
  have k0 := h0
  have lt0 : ∀ x ∈ p0, x.block < W.heap.size := by obtain ⟨m, hm⟩ := k0; exact DataW.trod_lt m _ _ _ hm
  have z0 : ∀ n ∈ d0.weights Try.prog 24, n ≤ reachBytes := fun n hn => by
    simpa using List.all_eq_true.1 hsz n (DataW.weights_mem_each (j := 0) (t := 24) rfl rfl n hn)
  obtain ⟨k0_, o0_, t0_, u0_, s0_, A0, c0, xs0, rfl, x0⟩ := open_expr (hval 0 24 v0 rfl rfl) h0 z0
  obtain ⟨a1, rfl, rfl, rfl, w1⟩ := open_int Try.underlying3 (hval 1 3 v1 rfl rfl) h1
  clear hA0 hval0 hsz0 hsz
  refine (walk W x0 a1 w1).mono fun e W' ⟨he, y, hy⟩ => ?_
  subst he
  have bel : Below W.heap.size W W' := by rw [hy]; exact more_below W y
  exact ⟨_, rfl, _, _, _, [], _, [], hW', trodAll_mk1 (shut_bool Try.underlying4 _), (trodAll_cons_mk (Below.trod laidOut (by kernel_rfl) (of_decide_eq_true (by kernel_rfl)) k0 bel lt0) (trodAll_cons_mk (shut_int Try.underlying3 w1) trodAll_mk0)), rfl, bel.frame _, fun h => by cases h⟩

theorem over : Rows.exprCountsRow.holds Try.pinned (OpenSpec.ofChange Rows.exprCountsSpec) :=
  OpenClaim.holds_of_wide 4 Try.f4 rfl rfl rfl rfl rfl rfl rfl ⟨rfl, rfl, rfl, rfl, rfl⟩ rfl rfl rfl rfl rfl (by kernel_rfl) Try.func4 (by kernel_rfl)
    (of_decide_eq_true (by kernel_rfl)) (by unfold Func.isWrapper; first | (rw [if_pos (by decide +kernel)]; kernel_rfl) | (rw [if_neg (by decide +kernel)]; exact ⟨rfl, rfl⟩))
    (fun os started H enc _ => lifted os started H enc)

theorem proved : Rows.ExprCountsSaid := over
#print axioms proved
end Go.Proofs.Ytfoddappedcplaa.exprCounts
