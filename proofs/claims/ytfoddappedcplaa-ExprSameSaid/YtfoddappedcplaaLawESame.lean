/-
  Same is equality of all fields, for any two expressions (of at most 500 expressions each, as the law says). No conditions.
-/
import Derived.Test.YtfoddappedcplaaELives
import Derived.Test.YtfoddappedcplaaELift
import Derived.Test.YtfoddappedcplaaESame
namespace Go.Proofs.Ytfoddappedcplaa.exprSame
open Go.ChangeShapes Go.WideShapes Go.ChangeAt Go.RowKit Go.BigFrame
set_option linter.unusedVariables false
set_option linter.unusedSimpArgs false

theorem own : ownKnob Try.prog.godebug = none := by kernel_rfl
theorem laidOut : laidOutB Try.prog = true := by kernel_rfl

set_option maxRecDepth 100000 in
set_option maxHeartbeats 3200000 in
theorem walk {k o t v : Int} {s : ByteArray} {A : Option Addr} {c : Nat} {xs : List Tx} {k' o' t' v' : Int} {s' : ByteArray} {A' : Option Addr} {c' : Nat} {xs' : List Tx} (w : World) (x : RX w (.mk k o t v s A c xs)) (x' : RX w (.mk k' o' t' v' s' A' c' xs')) :
    Calls Try.prog 9 #[.agg #[.int .i64 k, .int .i64 o, .int .i64 t, .int .i64 v, .string s, .slice A xs.length c], .agg #[.int .i64 k', .int .i64 o', .int .i64 t', .int .i64 v', .string s', .slice A' xs'.length c']] w fun e w' => e = .returned (.bool true) ∧ ∃ y, w' = w.more y := by
  replace x := Lib.hid x
  replace x' := Lib.hid x'
  have GL : Gives w 11 #[] (.bool true) := fun U hU => (lives_any U).mono fun e w' h => ⟨h.1, @After.is_more _ _ h.2⟩
  have HK : Hid (∀ U : World, After ((w.alloc (.cells #[.int .i64 k, .int .i64 o, .int .i64 t, .int .i64 v, .string s, .slice A xs.length c] 24)).alloc (.cells #[.int .i64 k', .int .i64 o', .int .i64 t', .int .i64 v', .string s', .slice A' xs'.length c'] 24)) U → After w U ∧ Le (w.heap.size + 1) U ∧ Le (w.heap.size + 1 + 1) U ∧ U.cell? ⟨w.heap.size, 0, none⟩ = some (.int .i64 k) ∧ U.cell? ⟨w.heap.size, 1, none⟩ = some (.int .i64 o) ∧ U.cell? ⟨w.heap.size, 2, none⟩ = some (.int .i64 t) ∧ U.cell? ⟨w.heap.size, 3, none⟩ = some (.int .i64 v) ∧ U.cell? ⟨w.heap.size, 4, none⟩ = some (.string s) ∧ U.cell? ⟨w.heap.size, 5, none⟩ = some (.slice A xs.length c) ∧ U.cell? ⟨w.heap.size + 1, 0, none⟩ = some (.int .i64 k') ∧ U.cell? ⟨w.heap.size + 1, 1, none⟩ = some (.int .i64 o') ∧ U.cell? ⟨w.heap.size + 1, 2, none⟩ = some (.int .i64 t') ∧ U.cell? ⟨w.heap.size + 1, 3, none⟩ = some (.int .i64 v') ∧ U.cell? ⟨w.heap.size + 1, 4, none⟩ = some (.string s') ∧ U.cell? ⟨w.heap.size + 1, 5, none⟩ = some (.slice A' xs'.length c')) := Lib.hid fun U hU => by
    have f1 := ((Blk.new w 24 #[.int .i64 k, .int .i64 o, .int .i64 t, .int .i64 v, .string s, .slice A xs.length c]).alloc (.cells #[.int .i64 k', .int .i64 o', .int .i64 t', .int .i64 v', .string s', .slice A' xs'.length c'] 24)).after (w' := U)
    have f2 := (Blk.at_ (w := w.alloc (.cells #[.int .i64 k, .int .i64 o, .int .i64 t, .int .i64 v, .string s, .slice A xs.length c] 24)) (size_alloc_ _ _) 24 #[.int .i64 k', .int .i64 o', .int .i64 t', .int .i64 v', .string s', .slice A' xs'.length c']).after (w' := U)
    exact ⟨after_after inferInstance hU, f1.is_le, f2.is_le, (f1.cell 0).trans rfl, (f1.cell 1).trans rfl, (f1.cell 2).trans rfl, (f1.cell 3).trans rfl, (f1.cell 4).trans rfl, (f1.cell 5).trans rfl, (f2.cell 0).trans rfl, (f2.cell 1).trans rfl, (f2.cell 2).trans rfl, (f2.cell 3).trans rfl, (f2.cell 4).trans rfl, (f2.cell 5).trans rfl⟩
  cases hv : heavyB (Tx.mk k o t v s A c xs) with
  | true =>
    have GH : Gives w 10 #[.agg #[.int .i64 k, .int .i64 o, .int .i64 t, .int .i64 v, .string s, .slice A xs.length c]] (.bool true) := fun U hU => (hv ▸ heavy_any x.out U hU).mono fun e w' h => ⟨h.1, @After.is_more _ _ h.2⟩
    go_enter Try.func9, Try.ntmps9
    go_wp2_with fail
    refine (Gives.on GH _ (by infer_instance)).mono ?_
    rintro e w1 ⟨rfl, hy⟩
    have a1 : After ((w.alloc (.cells #[.int .i64 k, .int .i64 o, .int .i64 t, .int .i64 v, .string s, .slice A xs.length c] 24)).alloc (.cells #[.int .i64 k', .int .i64 o', .int .i64 t', .int .i64 v', .string s', .slice A' xs'.length c'] 24)) w1 := after_of_more hy (by infer_instance)
    obtain ⟨aw_w1, le_w1, lf_w1, h0_w1, h1_w1, h2_w1, h3_w1, h4_w1, h5_w1, g0_w1, g1_w1, g2_w1, g3_w1, g4_w1, g5_w1⟩ := HK.out w1 a1
    clear hy
    go_wp2_with fail
    refine (Gives.on GL _ (by infer_instance)).mono ?_
    rintro e w9 ⟨rfl, hy2⟩
    have a9 : After w w9 := after_of_more hy2 (by infer_instance)
    go_wp2_with fail
    go_ret
    exact ⟨rfl, After.is_more _ _⟩
  | false =>
    have GH : Gives w 10 #[.agg #[.int .i64 k, .int .i64 o, .int .i64 t, .int .i64 v, .string s, .slice A xs.length c]] (.bool false) := fun U hU => (hv ▸ heavy_any x.out U hU).mono fun e w' h => ⟨h.1, @After.is_more _ _ h.2⟩
    cases hv' : heavyB (Tx.mk k' o' t' v' s' A' c' xs') with
    | true =>
      have GH' : Gives w 10 #[.agg #[.int .i64 k', .int .i64 o', .int .i64 t', .int .i64 v', .string s', .slice A' xs'.length c']] (.bool true) := fun U hU => (hv' ▸ heavy_any x'.out U hU).mono fun e w' h => ⟨h.1, @After.is_more _ _ h.2⟩
      go_enter Try.func9, Try.ntmps9
      go_wp2_with fail
      refine (Gives.on GH _ (by infer_instance)).mono ?_
      rintro e w1 ⟨rfl, hy⟩
      have a1 : After ((w.alloc (.cells #[.int .i64 k, .int .i64 o, .int .i64 t, .int .i64 v, .string s, .slice A xs.length c] 24)).alloc (.cells #[.int .i64 k', .int .i64 o', .int .i64 t', .int .i64 v', .string s', .slice A' xs'.length c'] 24)) w1 := after_of_more hy (by infer_instance)
      obtain ⟨aw_w1, le_w1, lf_w1, h0_w1, h1_w1, h2_w1, h3_w1, h4_w1, h5_w1, g0_w1, g1_w1, g2_w1, g3_w1, g4_w1, g5_w1⟩ := HK.out w1 a1
      clear hy
      go_wp2_with fail
      refine (Gives.on GH' _ (by infer_instance)).mono ?_
      rintro e w2 ⟨rfl, hy⟩
      have a2 : After ((w.alloc (.cells #[.int .i64 k, .int .i64 o, .int .i64 t, .int .i64 v, .string s, .slice A xs.length c] 24)).alloc (.cells #[.int .i64 k', .int .i64 o', .int .i64 t', .int .i64 v', .string s', .slice A' xs'.length c'] 24)) w2 := after_of_more hy (by infer_instance)
      obtain ⟨aw_w2, le_w2, lf_w2, h0_w2, h1_w2, h2_w2, h3_w2, h4_w2, h5_w2, g0_w2, g1_w2, g2_w2, g3_w2, g4_w2, g5_w2⟩ := HK.out w2 a2
      clear hy
      go_wp2_with fail
      refine (Gives.on GL _ (by infer_instance)).mono ?_
      rintro e w9 ⟨rfl, hy2⟩
      have a9 : After w w9 := after_of_more hy2 (by infer_instance)
      go_wp2_with fail
      go_ret
      exact ⟨rfl, After.is_more _ _⟩
    | false =>
      have GH' : Gives w 10 #[.agg #[.int .i64 k', .int .i64 o', .int .i64 t', .int .i64 v', .string s', .slice A' xs'.length c']] (.bool false) := fun U hU => (hv' ▸ heavy_any x'.out U hU).mono fun e w' h => ⟨h.1, @After.is_more _ _ h.2⟩
      obtain ⟨z, hz⟩ : ∃ z, Tx.same (Tx.mk k o t v s A c xs) (Tx.mk k' o' t' v' s' A' c' xs') = z := ⟨_, rfl⟩
      have G1 : Gives w 36 #[.agg #[.int .i64 k, .int .i64 o, .int .i64 t, .int .i64 v, .string s, .slice A xs.length c], .agg #[.int .i64 k', .int .i64 o', .int .i64 t', .int .i64 v', .string s', .slice A' xs'.length c']] (.bool z) := fun U hU => (hz ▸ same_any x.out x'.out U hU).mono fun e w' h => ⟨h.1, @After.is_more _ _ h.2⟩
      have G2 : Gives w 30 #[.agg #[.int .i64 k, .int .i64 o, .int .i64 t, .int .i64 v, .string s, .slice A xs.length c], .agg #[.int .i64 k', .int .i64 o', .int .i64 t', .int .i64 v', .string s', .slice A' xs'.length c']] (.bool z) := fun U hU => (hz ▸ rsame_any x.out x'.out U hU).mono fun e w' h => ⟨h.1, @After.is_more _ _ h.2⟩
      have G3 : Gives w 36 #[.agg #[.int .i64 k, .int .i64 o, .int .i64 t, .int .i64 v, .string s, .slice A xs.length c], .agg #[.int .i64 k, .int .i64 o, .int .i64 t, .int .i64 v, .string s, .slice A xs.length c]] (.bool true) := fun U hU => (same_refl (Tx.mk k o t v s A c xs) ▸ same_any x.out x.out U hU).mono fun e w' h => ⟨h.1, @After.is_more _ _ h.2⟩
      have G4 : Gives w 36 #[.agg #[.int .i64 k', .int .i64 o', .int .i64 t', .int .i64 v', .string s', .slice A' xs'.length c'], .agg #[.int .i64 k, .int .i64 o, .int .i64 t, .int .i64 v, .string s, .slice A xs.length c]] (.bool z) := fun U hU => (hz ▸ (same_comm (Tx.mk k o t v s A c xs) (Tx.mk k' o' t' v' s' A' c' xs')).symm ▸ same_any x'.out x.out U hU).mono fun e w' h => ⟨h.1, @After.is_more _ _ h.2⟩
      clear hz
      go_enter Try.func9, Try.ntmps9
      go_wp2_with fail
      refine (Gives.on GH _ (by infer_instance)).mono ?_
      rintro e w1 ⟨rfl, hy⟩
      have a1 : After ((w.alloc (.cells #[.int .i64 k, .int .i64 o, .int .i64 t, .int .i64 v, .string s, .slice A xs.length c] 24)).alloc (.cells #[.int .i64 k', .int .i64 o', .int .i64 t', .int .i64 v', .string s', .slice A' xs'.length c'] 24)) w1 := after_of_more hy (by infer_instance)
      obtain ⟨aw_w1, le_w1, lf_w1, h0_w1, h1_w1, h2_w1, h3_w1, h4_w1, h5_w1, g0_w1, g1_w1, g2_w1, g3_w1, g4_w1, g5_w1⟩ := HK.out w1 a1
      clear hy
      go_wp2_with fail
      refine (Gives.on GH' _ (by infer_instance)).mono ?_
      rintro e w2 ⟨rfl, hy⟩
      have a2 : After ((w.alloc (.cells #[.int .i64 k, .int .i64 o, .int .i64 t, .int .i64 v, .string s, .slice A xs.length c] 24)).alloc (.cells #[.int .i64 k', .int .i64 o', .int .i64 t', .int .i64 v', .string s', .slice A' xs'.length c'] 24)) w2 := after_of_more hy (by infer_instance)
      obtain ⟨aw_w2, le_w2, lf_w2, h0_w2, h1_w2, h2_w2, h3_w2, h4_w2, h5_w2, g0_w2, g1_w2, g2_w2, g3_w2, g4_w2, g5_w2⟩ := HK.out w2 a2
      clear hy
      go_wp2_with fail
      refine wp_region_more (by kernel_rfl) (by kernel_rfl) ?_
      repeat (go_big_quiet_step ((first | (go_at_call 36; with_reducible (first | exact Calls.more_of (Gives.on G1 _ (by infer_instance)) | exact Calls.more_of (Gives.on G3 _ (by infer_instance)) | exact Calls.more_of (Gives.on G4 _ (by infer_instance)))) | (go_at_call 30; with_reducible exact Calls.more_of (Gives.on G2 _ (by infer_instance))) | (go_at_call 11; with_reducible exact Calls.more_of (Gives.on GL _ (by infer_instance))))))
      refine wpQuiet_nil ?_
      rintro _ ⟨y, rfl⟩
      go_wp2_with fail
      go_ret
      exact ⟨rfl, After.is_more _ _⟩

set_option maxRecDepth 100000 in
theorem lifted (os : Os) (started : os.Started) (H : Type) (enc : TypeId × Value → H) :
    ReturnsInHanded {} Try.checked os 9 .any (Rows.exprSameSpec.pre6 enc Try.prog Try.f9 Rows.exprSameRow.domain false) (Rows.exprSameSpec.post enc Try.prog Try.f9 false true false false) := by
  refine returnsInHanded_of_change_sized (C := Try.checked) own started (by kernel_rfl) Try.func9
    (ChangeSpec.witness6 (enc := enc) (C := Try.checked) false ⟨#[], #[.agg #[.int .i64 0, .int .i64 0, .int .i64 0, .int .i64 0, .string ByteArray.empty, .slice none 0 0], .agg #[.int .i64 0, .int .i64 0, .int .i64 0, .int .i64 0, .string ByteArray.empty, .slice none 0 0]], []⟩ 8 (by kernel_rfl) (by kernel_rfl) (by kernel_rfl) (by kernel_rfl)) ?_
  intro W base args ds gs before hval0 hW hcnd hsz0 _
  have hval : ∀ (j : Nat) t v, Try.f9.params[j]? = some t → args[j]? = some v → Value.okWide Try.prog W .any base t v := hval0
  have hsz : (DataW.weightsEach Try.prog (Try.f9.params.toList ++ Rows.exprSameSpec.plain.varTypes Try.prog) (ds ++ gs)).all (· ≤ reachBytes) = true := hsz0
  have hW' := hW
  obtain ⟨p, q, hA0, hV, rfl, hfz, hnd⟩ := hW
  have hA : DataW.TrodAll enc Try.prog W 0 (fun _ => true) true Try.f9.params.toList args.toList ds p := hA0
  rw [Try.params9] at hA hval hsz
  obtain ⟨v0, vs0, d0, ds0, p0, q0, hargs, rfl, rfl, h0, r0⟩ := trodAll_cons hA
  obtain ⟨v1, vs1, d1, ds1, p1, q1, rfl, rfl, rfl, h1, r1⟩ := trodAll_cons r0
  obtain ⟨rfl, rfl, rfl⟩ := trodAll_nil r1
  obtain rfl : args = #[v0, v1] := by cases args; simp_all
  obtain ⟨rfl, rfl⟩ := trodVars_none hV
  have k0 := h0
  have lt0 : ∀ x ∈ p0, x.block < W.heap.size := by obtain ⟨m, hm⟩ := k0; exact DataW.trod_lt m _ _ _ hm
  have z0 : ∀ n ∈ d0.weights Try.prog 24, n ≤ reachBytes := fun n hn => by
    simpa using List.all_eq_true.1 hsz n (DataW.weights_mem_each (j := 0) (t := 24) rfl rfl n hn)
  obtain ⟨k0_, o0_, t0_, u0_, s0_, A0, c0, xs0, rfl, x0⟩ := open_expr (hval 0 24 v0 rfl rfl) h0 z0
  have k1 := h1
  have lt1 : ∀ x ∈ p1, x.block < W.heap.size := by obtain ⟨m, hm⟩ := k1; exact DataW.trod_lt m _ _ _ hm
  have z1 : ∀ n ∈ d1.weights Try.prog 24, n ≤ reachBytes := fun n hn => by
    simpa using List.all_eq_true.1 hsz n (DataW.weights_mem_each (j := 1) (t := 24) rfl rfl n hn)
  obtain ⟨k1_, o1_, t1_, u1_, s1_, A1, c1, xs1, rfl, x1⟩ := open_expr (hval 1 24 v1 rfl rfl) h1 z1
  clear hA0 hval0 hsz0 hsz
  refine (walk W x0 x1).mono fun e W' ⟨he, y, hy⟩ => ?_
  subst he
  have bel : Below W.heap.size W W' := by rw [hy]; exact more_below W y
  exact ⟨_, rfl, _, _, _, [], _, [], hW', trodAll_mk1 (shut_bool Try.underlying4 _), (trodAll_cons_mk (Below.trod laidOut (by kernel_rfl) (of_decide_eq_true (by kernel_rfl)) k0 bel lt0) (trodAll_cons_mk (Below.trod laidOut (by kernel_rfl) (of_decide_eq_true (by kernel_rfl)) k1 bel lt1) trodAll_mk0)), rfl, bel.frame _, fun h => by cases h⟩

theorem over : Rows.exprSameRow.holds Try.pinned (OpenSpec.ofChange Rows.exprSameSpec) :=
  OpenClaim.holds_of_wide 9 Try.f9 rfl rfl rfl rfl rfl rfl rfl ⟨rfl, rfl, rfl, rfl, rfl⟩ rfl rfl rfl rfl rfl (by kernel_rfl) Try.func9 (by kernel_rfl)
    (of_decide_eq_true (by kernel_rfl)) (by unfold Func.isWrapper; first | (rw [if_pos (by decide +kernel)]; kernel_rfl) | (rw [if_neg (by decide +kernel)]; exact ⟨rfl, rfl⟩))
    (fun os started H enc _ => lifted os started H enc)

theorem proved : Rows.ExprSameSaid := over
#print axioms proved
end Go.Proofs.Ytfoddappedcplaa.exprSame
