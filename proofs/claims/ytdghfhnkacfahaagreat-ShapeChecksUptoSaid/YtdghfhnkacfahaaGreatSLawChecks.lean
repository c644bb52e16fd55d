/-
  The first error of any program and its place are the chapter's, whether it has automata, and the node with any name, for arguments of bulk at most 1048576. No other conditions.
-/
import Derived.Test.YtdghfhnkacfahaaGreatSOq
import Derived.Test.YtdghfhnkacfahaaGreatSAw
import Derived.Test.YtdghfhnkacfahaaGreatRkC
import Derived.Deep.CondSized
import Derived.ChangeMaps5
namespace Go.Proofs.YtdghfhnkacfahaaGreat.shapeChecks
open Go.ChangeShapes Go.WideShapes Go.ChangeAt Go.RowKit Go.BigFrame Go.ChangeMaps
set_option linter.unusedVariables false
set_option linter.unusedSimpArgs false

theorem own : ownKnob Tryz.prog.godebug = none := by kernel_rfl
theorem laidOut : laidOutB Tryz.prog = true := by kernel_rfl

theorem where_eq (a b : Int) (W : World) : (binOp BinOp.neq 27 (.agg #[.int .i64 a, .int .i64 b]) (.agg #[.int .i64 a, .int .i64 b])).run Tryz.prog W = .ok (.bool false) W := by simp [go_sem]
set_option maxRecDepth 100000 in
set_option maxHeartbeats 3200000 in
theorem walk {eA nA : Option Addr} {ec nc : Nat} {el : List EnD} {nl : List NdD} (w : World) (x : RPg True w ⟨⟨eA, ec, el⟩, ⟨nA, nc, nl⟩⟩) (s : ByteArray) (hs : s.size ≤ 140737488355328) :
    Calls Tryz.prog 3 #[.agg #[.slice eA el.length ec, .slice nA nl.length nc], .string s] w fun e w' => e = .returned (.bool true) ∧ ∃ y, w' = w.more y := by
  have G1 : Hid (∀ U, After w U → Calls Tryz.prog 4 #[.agg #[.slice eA el.length ec, .slice nA nl.length nc]] U fun e w' => e = .returned (.tuple #[.agg #[.int .i64 (checkV el nl).1, .int .i64 (checkV el nl).2.1], .int .i64 (checkV el nl).2.2]) ∧ After U w') := fun U hU => pcheck_any x.enums x.nodes U hU
  have G2 : Hid (∀ U, After w U → Calls Tryz.prog 5 #[.agg #[.slice eA el.length ec, .slice nA nl.length nc]] U fun e w' => e = .returned (.tuple #[.agg #[.int .i64 (checkV el nl).1, .int .i64 (checkV el nl).2.1], .int .i64 (checkV el nl).2.2]) ∧ After U w') := fun U hU => rpcheck_any x.enums x.nodes U hU
  obtain ⟨v1, hv1⟩ : ∃ v, (checkV el nl).1 = v := ⟨_, rfl⟩
  obtain ⟨v2, hv2⟩ : ∃ v, (checkV el nl).2.1 = v := ⟨_, rfl⟩
  obtain ⟨v3, hv3⟩ : ∃ v, (checkV el nl).2.2 = v := ⟨_, rfl⟩
  rw [hv1, hv2, hv3] at G1 G2
  obtain ⟨q, hq⟩ : ∃ q, (!nl.any hasAutos) = q := ⟨_, rfl⟩
  obtain ⟨i, hi⟩ : ∃ i, max (ixV (isNamed s) nl 0) 0 = i := ⟨_, rfl⟩
  obtain ⟨k, hk⟩ : ∃ k, decide (0 ≤ ixV (isNamed s) nl 0) = k := ⟨_, rfl⟩
  have G3 : Gives w 6 #[.agg #[.slice eA el.length ec, .slice nA nl.length nc]] (.bool q) := fun U hU => (hq ▸ splain_any x.nodes U hU)
  have G4 : Gives w 7 #[.agg #[.slice eA el.length ec, .slice nA nl.length nc]] (.bool q) := fun U hU => (hq ▸ rplain_any x.nodes U hU).mono fun e w' h => ⟨h.1, @After.is_more _ _ h.2⟩
  have G5 : Gives w 8 #[.agg #[.slice eA el.length ec, .slice nA nl.length nc], .string s] (.tuple #[.int .i64 i, .bool k]) := fun U hU => by
    have h := sfind_any (eA := eA) (en := el.length) (ec := ec) x.nodes s U hU
    rwa [hi, hk] at h
  have G6 : Gives w 9 #[.agg #[.slice eA el.length ec, .slice nA nl.length nc], .string s] (.tuple #[.int .i64 i, .bool k]) := fun U hU => by
    have h := rfind_any (eA := eA) (en := el.length) (ec := ec) x.nodes s U hU
    rw [hi, hk] at h
    exact h.mono fun e w' h => ⟨h.1, @After.is_more _ _ h.2⟩
  have G7 : Gives w 10 #[] (.bool true) := fun U hU => (awake_any U).mono fun e w' h => ⟨h.1, @After.is_more _ _ h.2⟩
  have hqq : (q != q) = false := by cases q <;> rfl
  have hkk : (k == k) = true := by cases k <;> rfl
  have hvv : (v3 != v3) = false := by simp
  have hwb := fun W => where_eq v1 v2 W
  clear x hv1 hv2 hv3 hq hi hk
  obtain ⟨g, hg⟩ : ∃ g, w.heap.size = g := ⟨_, rfl⟩
  obtain ⟨W0, hW0, a0, HK⟩ : ∃ W, w.alloc (.cells #[.slice eA el.length ec, .slice nA nl.length nc] 25) = W ∧ After w W ∧ Hid (∀ U, After W U → U.cell? ⟨g, 0, none⟩ = some (.slice eA el.length ec) ∧ U.cell? ⟨g, 1, none⟩ = some (.slice nA nl.length nc) ∧ Le (g + 1) U) := by
    refine ⟨_, rfl, inferInstance, fun U hU => ?_⟩
    have f_ := (Blk.new w 25 #[.slice eA el.length ec, .slice nA nl.length nc]).after (w' := U)
    rw [hg] at f_
    exact ⟨(f_.cell 0).trans rfl, (f_.cell 1).trans rfl, f_.is_le⟩
  obtain ⟨c0, c1, cl⟩ := HK.out W0 (after_refl _)
  go_enter Tryz.func3, Tryz.ntmps3
  go_wp2_with fail
  try rw [hW0]
  try rw [hg]
  clear hW0 hg
  refine (G1.out W0 a0).mono ?_
  rintro e w1 ⟨rfl, a1⟩
  clear c0 c1 cl
  obtain ⟨c0, c1, cl⟩ := HK.out w1 a1
  go_wp2_with fail
  obtain ⟨g2, hg2⟩ : ∃ g, w1.heap.size = g := ⟨_, rfl⟩
  obtain ⟨W2, hW2, a2, HK2⟩ : ∃ W, w1.alloc (.cells #[.int .i64 v1, .int .i64 v2] 27) = W ∧ After w1 W ∧ Hid (∀ U, After W U → U.cell? ⟨g2, 0, none⟩ = some (.int .i64 v1) ∧ U.cell? ⟨g2, 1, none⟩ = some (.int .i64 v2) ∧ Le (g2 + 1) U) := by
    refine ⟨_, rfl, inferInstance, fun U hU => ?_⟩
    have f_ := (Blk.new w1 27 #[.int .i64 v1, .int .i64 v2]).after (w' := U)
    rw [hg2] at f_
    exact ⟨(f_.cell 0).trans rfl, (f_.cell 1).trans rfl, f_.is_le⟩
  try rw [hW2]
  try rw [hg2]
  clear hW2 hg2 c0 c1 cl
  have b2 : After W0 W2 := after_after a1 a2
  refine (G2.out W2 (after_after a0 b2)).mono ?_
  rintro e w3 ⟨rfl, a3⟩
  have b3 : After W0 w3 := after_after b2 a3
  obtain ⟨c0, c1, cl⟩ := HK.out w3 b3
  go_wp2_with fail
  obtain ⟨g4, hg4⟩ : ∃ g, w3.heap.size = g := ⟨_, rfl⟩
  obtain ⟨W4, hW4, a4, HK4⟩ : ∃ W, w3.alloc (.cells #[.int .i64 v1, .int .i64 v2] 27) = W ∧ After w3 W ∧ Hid (∀ U, After W U → U.cell? ⟨g4, 0, none⟩ = some (.int .i64 v1) ∧ U.cell? ⟨g4, 1, none⟩ = some (.int .i64 v2) ∧ Le (g4 + 1) U) := by
    refine ⟨_, rfl, inferInstance, fun U hU => ?_⟩
    have f_ := (Blk.new w3 27 #[.int .i64 v1, .int .i64 v2]).after (w' := U)
    rw [hg4] at f_
    exact ⟨(f_.cell 0).trans rfl, (f_.cell 1).trans rfl, f_.is_le⟩
  try rw [hW4]
  try rw [hg4]
  clear hW4 hg4 c0 c1 cl
  have b4 : After W0 W4 := after_after b3 a4
  have d4 : After w W4 := after_after a0 b4
  obtain ⟨c0, c1, cl⟩ := HK.out W4 b4
  obtain ⟨e0, e1, el_⟩ := HK2.out W4 (after_after a3 a4)
  obtain ⟨f0, f1, fl⟩ := HK4.out W4 (after_refl _)
  refine wp_region_more (by kernel_rfl) (by kernel_rfl) ?_
  repeat (go_big_quiet_step (first
    | (go_at_call 6; with_reducible exact Calls.more_of (Gives.on G3 _ (after_after d4 inferInstance)))
    | (go_at_call 7; with_reducible exact Calls.more_of (Gives.on G4 _ (after_after d4 inferInstance)))))
  refine wpQuiet_nil ?_
  rintro _ ⟨y_, rfl⟩
  obtain ⟨W5, hW5, a5⟩ : ∃ v, W4.more y_ = v ∧ After W4 v := ⟨_, rfl, inferInstance⟩
  rw [hW5]
  clear hW5 c0 c1 cl e0 e1 el_ f0 f1 fl
  obtain ⟨c0, c1, cl⟩ := HK.out W5 (after_after b4 a5)
  have d5 : After w W5 := after_after d4 a5
  go_wp2_with fail
  refine (Gives.on G5 _ d5).mono ?_
  rintro e w6 ⟨rfl, hy⟩
  have a6 : After W5 w6 := after_of_more hy (after_refl _)
  clear hy c0 c1 cl
  have d6 : After w w6 := after_after d5 a6
  obtain ⟨c0, c1, cl⟩ := HK.out w6 (after_after b4 (after_after a5 a6))
  go_wp2_with fail
  refine (Gives.on G6 _ d6).mono ?_
  rintro e w7 ⟨rfl, hy⟩
  have a7 : After w6 w7 := after_of_more hy (after_refl _)
  clear hy c0 c1 cl
  have d7 : After w w7 := after_after d6 a7
  go_wp2_with fail
  refine (Gives.on G7 _ d7).mono ?_
  rintro e w8 ⟨rfl, hy⟩
  have d8 : After w w8 := after_of_more hy d7
  clear hy
  go_wp2_with fail
  go_ret
  exact ⟨rfl, After.is_more _ _⟩

set_option maxRecDepth 100000 in
theorem lifted (os : Os) (started : os.Started) (H : Type) (enc : TypeId × Value → H) (F : Stop.Interp) :
    ReturnsInHanded {} Tryz.checked os 3 .any ((Rows.OpenSpec.upto Rows.shapeChecksSpec).pre6 enc Tryz.prog Tryz.f3 Rows.shapeChecksUptoRow.domain false) (((Rows.OpenSpec.upto Rows.shapeChecksSpec).at F).post enc Tryz.prog Tryz.f3 false true false false) := by
  refine returnsInHanded_of_cond_sized (C := Tryz.checked) (s := Rows.OpenSpec.upto Rows.shapeChecksSpec) (k := Rows.uptoSmall) rfl own started (by kernel_rfl) Tryz.func3
    (OpenSpec.witness (enc := enc) (C := Tryz.checked) (s := Rows.OpenSpec.upto Rows.shapeChecksSpec) (k := Rows.uptoSmall) rfl false ⟨#[], #[.agg #[.slice none 0 0, .slice none 0 0], .string ByteArray.empty], []⟩ 8 (by kernel_rfl) (by kernel_rfl) (by kernel_rfl)
      (x := ([.agg [.nil, .nil], .lit (.string [])], [], [])) (by kernel_rfl) rfl (by kernel_rfl)) ?_
  intro W base args ds gs before hval0 hW hcnd hk hsz0 _
  have hbk : Rows.uptoBulkAll (ds ++ gs) ≤ 1048576 := of_decide_eq_true hk
  clear hk
  have hval : ∀ (j : Nat) t v, Tryz.f3.params[j]? = some t → args[j]? = some v → Value.okWide Tryz.prog W .any base t v := hval0
  have hsz : (DataW.weightsEach Tryz.prog (Tryz.f3.params.toList ++ Rows.shapeChecksSpec.plain.varTypes Tryz.prog) (ds ++ gs)).all (· ≤ reachBytes) = true := hsz0
  have hW' := hW
  obtain ⟨p, q, hA0, hV, rfl, hfz, hnd⟩ := hW
  have hA : DataW.TrodAll enc Tryz.prog W 0 (fun _ => true) true Tryz.f3.params.toList args.toList ds p := hA0
  rw [Tryz.params3] at hA hval hsz
  obtain ⟨v0, vs0, d0, ds0, p0, q0, hargs, rfl, rfl, h0, r0⟩ := trodAll_cons hA
  obtain ⟨v1, vs1, d1, ds1, p1, q1, rfl, rfl, rfl, h1, r1⟩ := trodAll_cons r0
  obtain ⟨rfl, rfl, rfl⟩ := trodAll_nil r1
  obtain rfl : args = #[v0, v1] := by cases args; simp_all
  obtain ⟨rfl, rfl⟩ := trodVars_none hV
  have k0 := h0
  have lt0 : ∀ x ∈ p0, x.block < W.heap.size := by obtain ⟨m, hm⟩ := k0; exact DataW.trod_lt m _ _ _ hm
  have z0 : ∀ n ∈ d0.weights Tryz.prog 25, n ≤ reachBytes := fun n hn => by
    simpa using List.all_eq_true.1 hsz n (DataW.weights_mem_each (j := 0) (t := 25) rfl rfl n hn)
  obtain ⟨eA0, nA0, ec0, nc0, el0, nl0, rfl, x0⟩ := open_prog (S := True) (hval 0 25 v0 rfl rfl) h0 z0 (fun _ => Nat.le_trans (bulk_part (by simp)) hbk)
  have z1 : ∀ n ∈ d1.weights Tryz.prog 9, n ≤ reachBytes := fun n hn => by
    simpa using List.all_eq_true.1 hsz n (DataW.weights_mem_each (j := 1) (t := 9) rfl rfl n hn)
  obtain ⟨s1, rfl, rfl, rfl, w1⟩ := open_string Tryz.underlying9 (hval 1 9 v1 rfl rfl) h1
  have n1 : s1.size ≤ 140737488355328 := Nat.le_trans (show s1.data.toList.length ≤ reachBytes from z1 s1.data.toList.length (by simp [DataW.weights])) (by unfold reachBytes; decide)
  clear hA0 hval0 hsz0 hsz
  refine (walk W x0 s1 n1).mono fun e W' ⟨he, y, hy⟩ => ?_
  subst he
  have bel : Below W.heap.size W W' := by rw [hy]; exact more_below W y
  exact ⟨_, rfl, _, _, _, [], _, [], hW', trodAll_mk1 (shut_bool Tryz.underlying4 _), (trodAll_cons_mk (Below.trod laidOut (by kernel_rfl) (of_decide_eq_true (by kernel_rfl)) k0 bel lt0) (trodAll_cons_mk (shut_string Tryz.underlying9 w1) trodAll_mk0)), rfl, bel.frame _, fun h => by cases h⟩

theorem over : Rows.shapeChecksUptoRow.holds Tryz.pinned (Rows.OpenSpec.upto Rows.shapeChecksSpec) :=
  OpenClaim.holds_of_cond 3 Tryz.f3 rfl rfl rfl rfl rfl rfl rfl ⟨rfl, rfl, rfl, rfl, rfl⟩ rfl rfl rfl rfl rfl (by kernel_rfl) Tryz.func3 (by kernel_rfl)
    (of_decide_eq_true (by kernel_rfl)) (by unfold Func.isWrapper; first | (rw [if_pos (by decide +kernel)]; kernel_rfl) | (rw [if_neg (by decide +kernel)]; exact ⟨rfl, rfl⟩))
    (fun os started H enc _ F => lifted os started H enc F)

theorem proved : Rows.ShapeChecksUptoSaid := over
#print axioms proved
end Go.Proofs.YtdghfhnkacfahaaGreat.shapeChecks
