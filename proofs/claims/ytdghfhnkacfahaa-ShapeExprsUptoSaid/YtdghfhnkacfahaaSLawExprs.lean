/-
  The first error of any expression over any enumerations is the chapter's, for arguments of bulk at most 1048576. No other conditions.
-/
import Derived.Test.YtdghfhnkacfahaaSOq
import Derived.Test.YtdghfhnkacfahaaSAw
import Derived.Test.YtdghfhnkacfahaaSExB
import Derived.Deep.CondSized
namespace Go.Proofs.Ytdghfhnkacfahaa.shapeExprs
open Go.ChangeShapes Go.WideShapes Go.ChangeAt Go.RowKit Go.BigFrame
set_option linter.unusedVariables false
set_option linter.unusedSimpArgs false

theorem own : ownKnob Try.prog.godebug = none := by kernel_rfl
theorem laidOut : laidOutB Try.prog = true := by kernel_rfl

set_option maxRecDepth 100000 in
set_option maxHeartbeats 3200000 in
theorem walk {eA : Option Addr} {ec : Nat} {el : List EnD} {k o t v : Int} {s : ByteArray} {A : Option Addr} {c : Nat} {xs : List Tx} (w : World) (he : RowOf 2 PEn w ⟨eA, ec, el⟩) (x : RX w (.mk k o t v s A c xs) ∧ TxB (.mk k o t v s A c xs) ∧ (True → (Tx.mk k o t v s A c xs).size ≤ 2000000)) :
    Calls Try.prog 3 #[.slice eA el.length ec, .agg #[.int .i64 k, .int .i64 o, .int .i64 t, .int .i64 v, .string s, .slice A xs.length c]] w fun e w' => e = .returned (.bool true) ∧ ∃ y, w' = w.more y := by
  obtain ⟨q, hq⟩ : ∃ q, exE el (.mk k o t v s A c xs) = q := ⟨_, rfl⟩
  have G1 : Gives w 8 #[.slice eA el.length ec, .agg #[.int .i64 k, .int .i64 o, .int .i64 t, .int .i64 v, .string s, .slice A xs.length c]] (.int .i64 q) := fun U hU => (hq ▸ sexpr_any (x := ⟨eA, ec, el⟩) he (x.2.2 trivial) x.1 x.2.1 U hU).mono fun e w' h => ⟨h.1, @After.is_more _ _ h.2⟩
  have G2 : Gives w 9 #[.slice eA el.length ec, .agg #[.int .i64 k, .int .i64 o, .int .i64 t, .int .i64 v, .string s, .slice A xs.length c]] (.int .i64 q) := fun U hU => (hq ▸ rexpr_any (x := ⟨eA, ec, el⟩) he (x.2.2 trivial) x.1 x.2.1 U hU).mono fun e w' h => ⟨h.1, @After.is_more _ _ h.2⟩
  have G3 : Gives w 10 #[] (.bool true) := fun U hU => (awake_any U).mono fun e w' h => ⟨h.1, @After.is_more _ _ h.2⟩
  clear hq he x
  go_enter Try.func3, Try.ntmps3
  go_wp2_with fail
  refine wp_region_more (by kernel_rfl) (by kernel_rfl) ?_
  repeat (go_big_quiet_step (first
    | (go_at_call 8; with_reducible exact Calls.more_of (Gives.on G1 _ inferInstance))
    | (go_at_call 9; with_reducible exact Calls.more_of (Gives.on G2 _ inferInstance))
    | (go_at_call 10; with_reducible exact Calls.more_of (Gives.on G3 _ inferInstance))))
  refine wpQuiet_nil ?_
  rintro _ ⟨y_, rfl⟩
  go_wp2_with fail
  go_ret
  exact ⟨rfl, After.is_more _ _⟩

set_option maxRecDepth 100000 in
theorem lifted (os : Os) (started : os.Started) (H : Type) (enc : TypeId × Value → H) (F : Stop.Interp) :
    ReturnsInHanded {} Try.checked os 3 .any ((Rows.OpenSpec.upto Rows.shapeExprsSpec).pre6 enc Try.prog Try.f3 Rows.shapeExprsUptoRow.domain false) (((Rows.OpenSpec.upto Rows.shapeExprsSpec).at F).post enc Try.prog Try.f3 false true false false) := by
  refine returnsInHanded_of_cond_sized (C := Try.checked) (s := Rows.OpenSpec.upto Rows.shapeExprsSpec) (k := Rows.uptoSmall) rfl own started (by kernel_rfl) Try.func3
    (OpenSpec.witness (enc := enc) (C := Try.checked) (s := Rows.OpenSpec.upto Rows.shapeExprsSpec) (k := Rows.uptoSmall) rfl false ⟨#[], #[.slice none 0 0, .agg #[.int .i64 0, .int .i64 0, .int .i64 0, .int .i64 0, .string ByteArray.empty, .slice none 0 0]], []⟩ 8 (by kernel_rfl) (by kernel_rfl) (by kernel_rfl)
      (x := ([.nil, .agg [.lit (.int .i64 0), .lit (.int .i64 0), .lit (.int .i64 0), .lit (.int .i64 0), .lit (.string []), .nil]], [], [])) (by kernel_rfl) rfl (by kernel_rfl)) ?_
  intro W base args ds gs before hval0 hW hcnd hk hsz0 _
  have hbk : Rows.uptoBulkAll (ds ++ gs) ≤ 1048576 := of_decide_eq_true hk
  clear hk
  have hval : ∀ (j : Nat) t v, Try.f3.params[j]? = some t → args[j]? = some v → Value.okWide Try.prog W .any base t v := hval0
  have hsz : (DataW.weightsEach Try.prog (Try.f3.params.toList ++ Rows.shapeExprsSpec.plain.varTypes Try.prog) (ds ++ gs)).all (· ≤ reachBytes) = true := hsz0
  have hW' := hW
  obtain ⟨p, q, hA0, hV, rfl, hfz, hnd⟩ := hW
  have hA : DataW.TrodAll enc Try.prog W 0 (fun _ => true) true Try.f3.params.toList args.toList ds p := hA0
  rw [Try.params3] at hA hval hsz
  obtain ⟨v0, vs0, d0, ds0, p0, q0, hargs, rfl, rfl, h0, r0⟩ := trodAll_cons hA
  obtain ⟨v1, vs1, d1, ds1, p1, q1, rfl, rfl, rfl, h1, r1⟩ := trodAll_cons r0
  obtain ⟨rfl, rfl, rfl⟩ := trodAll_nil r1
  obtain rfl : args = #[v0, v1] := by cases args; simp_all
  obtain ⟨rfl, rfl⟩ := trodVars_none hV
  have k0 := h0
  have lt0 : ∀ x ∈ p0, x.block < W.heap.size := by obtain ⟨m, hm⟩ := k0; exact DataW.trod_lt m _ _ _ hm
  have z0 : ∀ n ∈ d0.weights Try.prog 22, n ≤ reachBytes := fun n hn => by
    simpa using List.all_eq_true.1 hsz n (DataW.weights_mem_each (j := 0) (t := 22) rfl rfl n hn)
  obtain ⟨A0, c0, l0, rfl, x0⟩ := open_ens (S := True) (hval 0 22 v0 rfl rfl) h0 z0 (fun _ => Nat.le_trans (bulk_part (by simp)) hbk)
  have k1 := h1
  have lt1 : ∀ x ∈ p1, x.block < W.heap.size := by obtain ⟨m, hm⟩ := k1; exact DataW.trod_lt m _ _ _ hm
  have z1 : ∀ n ∈ d1.weights Try.prog 25, n ≤ reachBytes := fun n hn => by
    simpa using List.all_eq_true.1 hsz n (DataW.weights_mem_each (j := 1) (t := 25) rfl rfl n hn)
  obtain ⟨k1_, o1_, t1_, u1_, s1_, A1, c1, xs1, rfl, x1⟩ := open_ex (S := True) (hval 1 25 v1 rfl rfl) h1 z1 (fun _ => Nat.le_trans (bulk_part (by simp)) hbk)
  clear hA0 hval0 hsz0 hsz
  refine (walk W x0 x1).mono fun e W' ⟨he, y, hy⟩ => ?_
  subst he
  have bel : Below W.heap.size W W' := by rw [hy]; exact more_below W y
  exact ⟨_, rfl, _, _, _, [], _, [], hW', trodAll_mk1 (shut_bool Try.underlying4 _), (trodAll_cons_mk (Below.trod laidOut (by kernel_rfl) (of_decide_eq_true (by kernel_rfl)) k0 bel lt0) (trodAll_cons_mk (Below.trod laidOut (by kernel_rfl) (of_decide_eq_true (by kernel_rfl)) k1 bel lt1) trodAll_mk0)), rfl, bel.frame _, fun h => by cases h⟩

theorem over : Rows.shapeExprsUptoRow.holds Try.pinned (Rows.OpenSpec.upto Rows.shapeExprsSpec) :=
  OpenClaim.holds_of_cond 3 Try.f3 rfl rfl rfl rfl rfl rfl rfl ⟨rfl, rfl, rfl, rfl, rfl⟩ rfl rfl rfl rfl rfl (by kernel_rfl) Try.func3 (by kernel_rfl)
    (of_decide_eq_true (by kernel_rfl)) (by unfold Func.isWrapper; first | (rw [if_pos (by decide +kernel)]; kernel_rfl) | (rw [if_neg (by decide +kernel)]; exact ⟨rfl, rfl⟩))
    (fun os started H enc _ F => lifted os started H enc F)

theorem proved : Rows.ShapeExprsUptoSaid := over
#print axioms proved
end Go.Proofs.Ytdghfhnkacfahaa.shapeExprs
