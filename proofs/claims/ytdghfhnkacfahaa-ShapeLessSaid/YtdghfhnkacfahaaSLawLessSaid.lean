/-
  A well-formed program without its last nodes is well-formed. No conditions.
-/
import Derived.Test.YtdghfhnkacfahaaSOq
import Derived.Test.YtdghfhnkacfahaaSAw
import Derived.Test.YtdghfhnkacfahaaSPre
import Derived.Deep.CondSized
import Derived.ChangeMaps5
namespace Go.Proofs.Ytdghfhnkacfahaa.shapeLess
open Go.ChangeShapes Go.WideShapes Go.ChangeAt Go.RowKit Go.BigFrame
set_option linter.unusedVariables false
set_option linter.unusedSimpArgs false

theorem own : ownKnob Try.prog.godebug = none := by kernel_rfl
theorem laidOut : laidOutB Try.prog = true := by kernel_rfl

set_option maxRecDepth 100000 in
set_option maxHeartbeats 3200000 in
theorem walk {eA nA : Option Addr} {ec nc : Nat} {el : List EnD} {nl : List NdD} (w : World) (x : RPg False w ⟨⟨eA, ec, el⟩, ⟨nA, nc, nl⟩⟩) (k : Int) (wk : (Lit.int .u8 k).wf = true) :
    Calls Try.prog 5 #[.agg #[.slice eA el.length ec, .slice nA nl.length nc], .int .u8 k] w fun e w' => e = .returned (.bool true) ∧ ∃ y, w' = w.more y := by
  have hk := u8_bd wk
  have hle := x.nodes.len
  have hcap := x.nodes.cap
  have hlc := x.nodes.le
  simp only [] at hle hcap hlc
  have G1 : Hid (∀ U, After w U → Calls Try.prog 13 #[.agg #[.slice eA el.length ec, .slice nA nl.length nc]] U fun e w' => e = .returned (.tuple #[.agg #[.int .i64 (checkV el nl).1, .int .i64 (checkV el nl).2.1], .int .i64 (checkV el nl).2.2]) ∧ After U w') := fun U hU => pcheck_any x.enums x.nodes U hU
  have G3 : Gives w 10 #[] (.bool true) := fun U hU => (awake_any U).mono fun e w' h => ⟨h.1, @After.is_more _ _ h.2⟩
  have HX := Lib.hid x
  obtain ⟨v1, hv1⟩ : ∃ v, (checkV el nl).1 = v := ⟨_, rfl⟩
  obtain ⟨v2, hv2⟩ : ∃ v, (checkV el nl).2.1 = v := ⟨_, rfl⟩
  obtain ⟨v3, hv3⟩ : ∃ v, (checkV el nl).2.2 = v := ⟨_, rfl⟩
  rw [hv1, hv2, hv3] at G1
  have HC := Lib.hid hv3
  clear x hv1 hv2 hv3 wk
  obtain ⟨g, hg⟩ : ∃ g, w.heap.size = g := ⟨_, rfl⟩
  have HK : Hid (∀ U, After (w.alloc (.cells #[.slice eA el.length ec, .slice nA nl.length nc] 32)) U → U.cell? ⟨g, 0, none⟩ = some (.slice eA el.length ec) ∧ U.cell? ⟨g, 1, none⟩ = some (.slice nA nl.length nc) ∧ Le (g + 1) U ∧ After w U) := fun U hU => by
    have f_ := (Blk.new w 32 #[.slice eA el.length ec, .slice nA nl.length nc]).after (w' := U)
    rw [hg] at f_
    exact ⟨(f_.cell 0).trans rfl, (f_.cell 1).trans rfl, f_.is_le, after_after inferInstance hU⟩
  go_enter Try.func5, Try.ntmps5
  go_wp2_with fail
  refine (G1.out _ inferInstance).mono ?_
  rintro e w1 ⟨rfl, a1⟩
  obtain ⟨c0, c1, cl, aw1⟩ := HK.out w1 a1
  try rw [hg]
  by_cases h3 : v3 = 0
  rotate_left
  · have h3n : (v3 != 0) = true := by simpa using h3
    go_wp2_with fail
    refine (Gives.on G3 _ inferInstance).mono ?_
    rintro e w2 ⟨rfl, hy⟩
    have a2 : After w w2 := after_of_more hy inferInstance
    go_wp2_with fail
    go_ret
    exact ⟨rfl, After.is_more _ _⟩
  subst h3
  by_cases hn0 : nl.length = 0
  · obtain ⟨n9, hn9⟩ : ∃ n, nl.length = n := ⟨_, rfl⟩
    rw [hn9] at hn0 c1 
    subst hn0
    go_wp2_with fail
    refine (Gives.on G3 _ inferInstance).mono ?_
    rintro e w2 ⟨rfl, hy⟩
    have a2 : After w w2 := after_of_more hy inferInstance
    go_wp2_with fail
    go_ret
    exact ⟨rfl, After.is_more _ _⟩
  obtain ⟨m, hm⟩ : ∃ m : Nat, k.tmod (nl.length : Int) = m := ⟨(k.tmod (nl.length : Int)).toNat, by have := Int.tmod_nonneg (nl.length : Int) hk.1; omega⟩
  have hml : m < nl.length := by have := Int.tmod_lt_of_pos k (show (0 : Int) < (nl.length : Int) by omega); omega
  have hwk : IntKind.i64.wrap k = k := IntWalk.i64_in _ (by omega)
  have hwm : IntKind.i64.wrap (k.tmod (nl.length : Int)) = (m : Int) := by rw [hm]; exact IntWalk.i64_in _ (by omega)
  have hn1 : ¬ ((nl.length : Int) = 0) := by omega
  have hmI : (m : Int) < (nl.length : Int) := by omega
  have hmc : m ≤ nc := by omega
  have hmcI : (m : Int) ≤ (nc : Int) := by omega
  go_wp2_with fail
  obtain ⟨gq, hgq⟩ : ∃ g, w1.heap.size + 1 = g := ⟨_, rfl⟩
  obtain ⟨W3, hW3, a3, bq⟩ : ∃ W, (w1.alloc (.cells #[.int .i64 v1, .int .i64 v2] 35)).alloc (.cells #[.slice eA el.length ec, .slice nA nl.length nc] 32) = W ∧ After w1 W ∧ Blk W gq 32 #[.slice eA el.length ec, .slice nA nl.length nc] := by
    refine ⟨_, rfl, inferInstance, ?_⟩
    have := Blk.new (w1.alloc (.cells #[.int .i64 v1, .int .i64 v2] 35)) 32 #[.slice eA el.length ec, .slice nA nl.length nc]
    rw [size_alloc_, hgq] at this
    exact this
  have q0 : W3.cell? ⟨gq, 0, none⟩ = some (.slice eA el.length ec) := (bq.cell 0).trans rfl
  have q1 : W3.cell? ⟨gq, 1, none⟩ = some (.slice nA nl.length nc) := (bq.cell 1).trans rfl
  have fq := bq.frozen 1
  have lq := bq.is_le
  have nq : New w gq := ⟨by have := aw1.below.size; omega⟩
  have aw3 : After w W3 := after_after aw1 a3
  have H4 := Lib.hid (bq.set_ 1 (.slice nA m nc))
  clear c0 c1 cl
  obtain ⟨c0, c1, cl, _⟩ := HK.out W3 (after_after a1 a3)
  try rw [hW3]
  try rw [hgq]
  clear hW3 hgq bq a3 a1
  go_region
  obtain ⟨W4, hW4, b4, aw4⟩ : ∃ W, (W3.setCell ⟨gq, 1, none⟩ (.slice nA m nc)).drew = W ∧ Blk W gq 32 #[.slice eA el.length ec, .slice nA m nc] ∧ After w W := ⟨_, rfl, H4.out, inferInstance⟩
  have p0 : W4.cell? ⟨gq, 0, none⟩ = some (.slice eA el.length ec) := (b4.cell 0).trans rfl
  have p1 : W4.cell? ⟨gq, 1, none⟩ = some (.slice nA m nc) := (b4.cell 1).trans rfl
  have lp := b4.is_le
  try rw [hW4]
  clear hW4 H4 q0 q1 fq lq c0 c1 cl b4
  have HT : Hid ((checkV el (nl.take m)).2.2 = 0) := check_take HC.out m
  have htl : (nl.take m).length = m := by simp; omega
  have G5 : Hid (Calls Try.prog 13 #[.agg #[.slice eA el.length ec, .slice nA m nc]] W4 fun e w' => ∃ a b, e = .returned (.tuple #[.agg #[.int .i64 a, .int .i64 b], .int .i64 0]) ∧ After W4 w') := by
    have h := pcheck_any HX.out.enums (HX.out.nodes.take m) W4 aw4
    rw [htl, HT.out] at h
    exact h.mono fun e w' h => ⟨_, _, h.1, h.2⟩
  clear htl
  go_wp2_with fail
  refine G5.out.mono ?_
  rintro e w5 ⟨u1, u2, rfl, a5⟩
  have aw5 : After w w5 := after_after aw4 a5
  go_wp2_with fail
  refine (Gives.on G3 _ (after_after aw5 inferInstance)).mono ?_
  rintro e w6 ⟨rfl, hy⟩
  have a6 : After w w6 := after_of_more hy (after_after aw5 inferInstance)
  go_wp2_with fail
  go_ret
  exact ⟨rfl, After.is_more _ _⟩

set_option maxRecDepth 100000 in
theorem lifted (os : Os) (started : os.Started) (H : Type) (enc : TypeId × Value → H) :
    ReturnsInHanded {} Try.checked os 5 .any (Rows.shapeLessSpec.pre6 enc Try.prog Try.f5 Rows.shapeLessRow.domain false) (Rows.shapeLessSpec.post enc Try.prog Try.f5 false true false false) := by
  refine returnsInHanded_of_change_sized (C := Try.checked) own started (by kernel_rfl) Try.func5
    (ChangeSpec.witness6 (enc := enc) (C := Try.checked) false ⟨#[], #[.agg #[.slice none 0 0, .slice none 0 0], .int .u8 0], []⟩ 8 (by kernel_rfl) (by kernel_rfl) (by kernel_rfl) (by kernel_rfl)) ?_
  intro W base args ds gs before hval0 hW hcnd hsz0 _
  have hval : ∀ (j : Nat) t v, Try.f5.params[j]? = some t → args[j]? = some v → Value.okWide Try.prog W .any base t v := hval0
  have hsz : (DataW.weightsEach Try.prog (Try.f5.params.toList ++ Rows.shapeLessSpec.plain.varTypes Try.prog) (ds ++ gs)).all (· ≤ reachBytes) = true := hsz0
  have hW' := hW
  obtain ⟨p, q, hA0, hV, rfl, hfz, hnd⟩ := hW
  have hA : DataW.TrodAll enc Try.prog W 0 (fun _ => true) true Try.f5.params.toList args.toList ds p := hA0
  rw [Try.params5] at hA hval hsz
  obtain ⟨v0, vs0, d0, ds0, p0, q0, hargs, rfl, rfl, h0, r0⟩ := trodAll_cons hA
  obtain ⟨v1, vs1, d1, ds1, p1, q1, rfl, rfl, rfl, h1, r1⟩ := trodAll_cons r0
  obtain ⟨rfl, rfl, rfl⟩ := trodAll_nil r1
  obtain rfl : args = #[v0, v1] := by cases args; simp_all
  obtain ⟨rfl, rfl⟩ := trodVars_none hV
  have k0 := h0
  have lt0 : ∀ x ∈ p0, x.block < W.heap.size := by obtain ⟨m, hm⟩ := k0; exact DataW.trod_lt m _ _ _ hm
  have z0 : ∀ n ∈ d0.weights Try.prog 32, n ≤ reachBytes := fun n hn => by
    simpa using List.all_eq_true.1 hsz n (DataW.weights_mem_each (j := 0) (t := 32) rfl rfl n hn)
  obtain ⟨eA0, nA0, ec0, nc0, el0, nl0, rfl, x0⟩ := open_prog (S := False) (hval 0 32 v0 rfl rfl) h0 z0 (fun h => h.elim)
  obtain ⟨a1, rfl, rfl, rfl, w1⟩ := open_int Try.underlying5 (hval 1 5 v1 rfl rfl) h1
  clear hA0 hval0 hsz0 hsz
  refine (walk W x0 a1 w1).mono fun e W' ⟨he, y, hy⟩ => ?_
  subst he
  have bel : Below W.heap.size W W' := by rw [hy]; exact more_below W y
  exact ⟨_, rfl, _, _, _, [], _, [], hW', trodAll_mk1 (shut_bool Try.underlying4 _), (trodAll_cons_mk (Below.trod laidOut (by kernel_rfl) (of_decide_eq_true (by kernel_rfl)) k0 bel lt0) (trodAll_cons_mk (shut_int Try.underlying5 w1) trodAll_mk0)), rfl, bel.frame _, fun h => by cases h⟩

theorem over : Rows.shapeLessRow.holds Try.pinned (OpenSpec.ofChange Rows.shapeLessSpec) :=
  OpenClaim.holds_of_wide 5 Try.f5 rfl rfl rfl rfl rfl rfl rfl ⟨rfl, rfl, rfl, rfl, rfl⟩ rfl rfl rfl rfl rfl (by kernel_rfl) Try.func5 (by kernel_rfl)
    (of_decide_eq_true (by kernel_rfl)) (by unfold Func.isWrapper; first | (rw [if_pos (by decide +kernel)]; kernel_rfl) | (rw [if_neg (by decide +kernel)]; exact ⟨rfl, rfl⟩))
    (fun os started H enc _ => lifted os started H enc)

theorem proved : Rows.ShapeLessSaid := over
#print axioms proved
end Go.Proofs.Ytdghfhnkacfahaa.shapeLess
