/-
  Check returns the error of the chapter, for every expression (of at most 500 expressions, as the law says). No conditions.
-/
import Derived.Test.YtfoddappedcplaaELives
import Derived.Test.YtfoddappedcplaaELift
namespace Go.Proofs.Ytfoddappedcplaa.exprChecks
open Go.ChangeShapes Go.WideShapes Go.ChangeAt Go.RowKit Go.BigFrame
set_option linter.unusedVariables false
set_option linter.unusedSimpArgs false

theorem own : ownKnob Try.prog.godebug = none := by kernel_rfl
theorem laidOut : laidOutB Try.prog = true := by kernel_rfl

set_option maxRecDepth 100000 in
set_option maxHeartbeats 3200000 in
theorem walk {k o t v : Int} {s : ByteArray} {A : Option Addr} {c : Nat} {xs : List Tx} (w : World) (x : RX w (.mk k o t v s A c xs)) :
    Calls Try.prog 3 #[.agg #[.int .i64 k, .int .i64 o, .int .i64 t, .int .i64 v, .string s, .slice A xs.length c]] w fun e w' => e = .returned (.bool true) ∧ ∃ y, w' = w.more y := by
  replace x := Lib.hid x
  have GL : Gives w 11 #[] (.bool true) := fun U hU => (lives_any U).mono fun e w' h => ⟨h.1, @After.is_more _ _ h.2⟩
  have HK : Hid (∀ U : World, After (w.alloc (.cells #[.int .i64 k, .int .i64 o, .int .i64 t, .int .i64 v, .string s, .slice A xs.length c] 24)) U → After w U ∧ Le (w.heap.size + 1) U ∧ U.cell? ⟨w.heap.size, 0, none⟩ = some (.int .i64 k) ∧ U.cell? ⟨w.heap.size, 1, none⟩ = some (.int .i64 o) ∧ U.cell? ⟨w.heap.size, 2, none⟩ = some (.int .i64 t) ∧ U.cell? ⟨w.heap.size, 3, none⟩ = some (.int .i64 v) ∧ U.cell? ⟨w.heap.size, 4, none⟩ = some (.string s) ∧ U.cell? ⟨w.heap.size, 5, none⟩ = some (.slice A xs.length c)) := Lib.hid fun U hU => by
    have f_ := (Blk.new w 24 #[.int .i64 k, .int .i64 o, .int .i64 t, .int .i64 v, .string s, .slice A xs.length c]).after (w' := U)
    exact ⟨after_after inferInstance hU, f_.is_le, (f_.cell 0).trans rfl, (f_.cell 1).trans rfl, (f_.cell 2).trans rfl, (f_.cell 3).trans rfl, (f_.cell 4).trans rfl, (f_.cell 5).trans rfl⟩
  cases hv : heavyB (Tx.mk k o t v s A c xs) with
  | true =>
    have GH : Gives w 10 #[.agg #[.int .i64 k, .int .i64 o, .int .i64 t, .int .i64 v, .string s, .slice A xs.length c]] (.bool true) := fun U hU => (hv ▸ heavy_any x.out U hU).mono fun e w' h => ⟨h.1, @After.is_more _ _ h.2⟩
    go_enter Try.func3, Try.ntmps3
    go_wp2_with fail
    refine (Gives.on GH _ inferInstance).mono ?_
    rintro e w1 ⟨rfl, hy⟩
    have a1 : After (w.alloc (.cells #[.int .i64 k, .int .i64 o, .int .i64 t, .int .i64 v, .string s, .slice A xs.length c] 24)) w1 := after_of_more hy inferInstance
    obtain ⟨aw_w1, le_w1, h0_w1, h1_w1, h2_w1, h3_w1, h4_w1, h5_w1⟩ := HK.out w1 a1
    clear hy
    go_wp2_with fail
    refine (Gives.on GL _ inferInstance).mono ?_
    rintro e w2 ⟨rfl, hy2⟩
    have a2 : After w w2 := after_of_more hy2 inferInstance
    go_wp2_with fail
    go_ret
    exact ⟨rfl, After.is_more _ _⟩
  | false =>
    have hs : (Tx.mk k o t v s A c xs).size ≤ 500 := by unfold heavyB at hv; simpa using hv
    have GH : Gives w 10 #[.agg #[.int .i64 k, .int .i64 o, .int .i64 t, .int .i64 v, .string s, .slice A xs.length c]] (.bool false) := fun U hU => (hv ▸ heavy_any x.out U hU).mono fun e w' h => ⟨h.1, @After.is_more _ _ h.2⟩
    clear hv
    obtain ⟨z, hz⟩ : ∃ z, chkI (Tx.mk k o t v s A c xs) = z := ⟨_, rfl⟩
    have G1 : Gives w 12 #[.agg #[.int .i64 k, .int .i64 o, .int .i64 t, .int .i64 v, .string s, .slice A xs.length c]] (.int .i64 z) := fun U hU => (hz ▸ chk_any (by omega) x.out U hU).mono fun e w' h => ⟨h.1, @After.is_more _ _ h.2⟩
    have G2 : Gives w 13 #[.agg #[.int .i64 k, .int .i64 o, .int .i64 t, .int .i64 v, .string s, .slice A xs.length c]] (.int .i64 z) := fun U hU => (hz ▸ rchk_any (by omega) x.out U hU).mono fun e w' h => ⟨h.1, @After.is_more _ _ h.2⟩
    clear hz hs
    go_enter Try.func3, Try.ntmps3
    go_wp2_with fail
    refine (Gives.on GH _ inferInstance).mono ?_
    rintro e w1 ⟨rfl, hy⟩
    have a1 : After (w.alloc (.cells #[.int .i64 k, .int .i64 o, .int .i64 t, .int .i64 v, .string s, .slice A xs.length c] 24)) w1 := after_of_more hy inferInstance
    obtain ⟨aw_w1, le_w1, h0_w1, h1_w1, h2_w1, h3_w1, h4_w1, h5_w1⟩ := HK.out w1 a1
    clear hy GH
    go_wp2_with fail
    refine wp_region_more (by kernel_rfl) (by kernel_rfl) ?_
    repeat (go_big_quiet_step ((first | (go_at_call 12; with_reducible exact Calls.more_of (Gives.on G1 _ inferInstance)) | (go_at_call 13; with_reducible exact Calls.more_of (Gives.on G2 _ inferInstance)) | (go_at_call 11; with_reducible exact Calls.more_of (Gives.on GL _ inferInstance)))))
    refine wpQuiet_nil ?_
    rintro _ ⟨y, rfl⟩
    go_wp2_with fail
    go_ret
    exact ⟨rfl, After.is_more _ _⟩

set_option maxRecDepth 100000 in
theorem lifted (os : Os) (started : os.Started) (H : Type) (enc : TypeId × Value → H) :
    ReturnsInHanded {} Try.checked os 3 .any (Rows.exprChecksSpec.pre6 enc Try.prog Try.f3 Rows.exprChecksRow.domain false) (Rows.exprChecksSpec.post enc Try.prog Try.f3 false true false false) := by
  refine returnsInHanded_of_change_sized (C := Try.checked) own started (by kernel_rfl) Try.func3
    (ChangeSpec.witness6 (enc := enc) (C := Try.checked) false ⟨#[], #[.agg #[.int .i64 0, .int .i64 0, .int .i64 0, .int .i64 0, .string ByteArray.empty, .slice none 0 0]], []⟩ 8 (by kernel_rfl) (by kernel_rfl) (by kernel_rfl) (by kernel_rfl)) ?_
  intro W base args ds gs before hval0 hW hcnd hsz0 _
  have hval : ∀ (j : Nat) t v, Try.f3.params[j]? = some t → args[j]? = some v → Value.okWide Try.prog W .any base t v := hval0
  have hsz : (DataW.weightsEach Try.prog (Try.f3.params.toList ++ Rows.exprChecksSpec.plain.varTypes Try.prog) (ds ++ gs)).all (· ≤ reachBytes) = true := hsz0
  have hW' := hW
  obtain ⟨p, q, hA0, hV, rfl, hfz, hnd⟩ := hW
  have hA : DataW.TrodAll enc Try.prog W 0 (fun _ => true) true Try.f3.params.toList args.toList ds p := hA0
  rw [Try.params3] at hA hval hsz
  obtain ⟨v0, vs0, d0, ds0, p0, q0, hargs, rfl, rfl, h0, r0⟩ := trodAll_cons hA
  obtain ⟨rfl, rfl, rfl⟩ := trodAll_nil r0
  obtain rfl : args = #[v0] := by cases args; simp_all
  obtain ⟨rfl, rfl⟩ := trodVars_none hV
  have k0 := h0
  have lt0 : ∀ x ∈ p0, x.block < W.heap.size := by obtain ⟨m, hm⟩ := k0; exact DataW.trod_lt m _ _ _ hm
  have z0 : ∀ n ∈ d0.weights Try.prog 24, n ≤ reachBytes := fun n hn => by
    simpa using List.all_eq_true.1 hsz n (DataW.weights_mem_each (j := 0) (t := 24) rfl rfl n hn)
  obtain ⟨k0_, o0_, t0_, u0_, s0_, A0, c0, xs0, rfl, x0⟩ := open_expr (hval 0 24 v0 rfl rfl) h0 z0
  clear hA0 hval0 hsz0 hsz
  refine (walk W x0).mono fun e W' ⟨he, y, hy⟩ => ?_
  subst he
  have bel : Below W.heap.size W W' := by rw [hy]; exact more_below W y
  exact ⟨_, rfl, _, _, _, [], _, [], hW', trodAll_mk1 (shut_bool Try.underlying4 _), (trodAll_cons_mk (Below.trod laidOut (by kernel_rfl) (of_decide_eq_true (by kernel_rfl)) k0 bel lt0) trodAll_mk0), rfl, bel.frame _, fun h => by cases h⟩

theorem over : Rows.exprChecksRow.holds Try.pinned (OpenSpec.ofChange Rows.exprChecksSpec) :=
  OpenClaim.holds_of_wide 3 Try.f3 rfl rfl rfl rfl rfl rfl rfl ⟨rfl, rfl, rfl, rfl, rfl⟩ rfl rfl rfl rfl rfl (by kernel_rfl) Try.func3 (by kernel_rfl)
    (of_decide_eq_true (by kernel_rfl)) (by unfold Func.isWrapper; first | (rw [if_pos (by decide +kernel)]; kernel_rfl) | (rw [if_neg (by decide +kernel)]; exact ⟨rfl, rfl⟩))
    (fun os started H enc _ => lifted os started H enc)

theorem proved : Rows.ExprChecksSaid := over
#print axioms proved
end Go.Proofs.Ytfoddappedcplaa.exprChecks
