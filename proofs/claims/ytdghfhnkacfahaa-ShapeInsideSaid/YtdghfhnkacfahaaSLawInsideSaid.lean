/-
  Each right side of a well-formed program's equations satisfies Expr over its enumerations. No conditions.
-/
import Derived.Test.YtdghfhnkacfahaaSOq
import Derived.Test.YtdghfhnkacfahaaSAw
import Derived.Test.YtdghfhnkacfahaaSPre
import Derived.Deep.CondSized
import Derived.ChangeMaps5
namespace Go.Proofs.Ytdghfhnkacfahaa.shapeInside
open Go.ChangeShapes Go.WideShapes Go.ChangeAt Go.RowKit Go.BigFrame
set_option linter.unusedVariables false
set_option linter.unusedSimpArgs false

theorem own : ownKnob Try.prog.godebug = none := by kernel_rfl
theorem laidOut : laidOutB Try.prog = true := by kernel_rfl

set_option maxRecDepth 100000 in
set_option maxHeartbeats 3200000 in
theorem walk {eA nA : Option Addr} {ec nc : Nat} {el : List EnD} {nl : List NdD} (w : World) (x : RPg False w ⟨⟨eA, ec, el⟩, ⟨nA, nc, nl⟩⟩) (kk : Int) (wk : (Lit.int .u8 kk).wf = true) :
    Calls Try.prog 7 #[.agg #[.slice eA el.length ec, .slice nA nl.length nc], .int .u8 kk] w fun e w' => e = .returned (.bool true) ∧ ∃ y, w' = w.more y := by
  have hk := u8_bd wk
  have hle := x.nodes.len
  have hcap := x.nodes.cap
  have hlc := x.nodes.le
  simp only [] at hle hcap hlc
  have G1 : Hid (∀ U, After w U → Calls Try.prog 13 #[.agg #[.slice eA el.length ec, .slice nA nl.length nc]] U fun e w' => e = .returned (.tuple #[.agg #[.int .i64 (checkV el nl).1, .int .i64 (checkV el nl).2.1], .int .i64 (checkV el nl).2.2]) ∧ After U w') := fun U hU => pcheck_any x.enums x.nodes U hU
  have G3 : Gives w 10 #[] (.bool true) := fun U hU => (awake_any U).mono fun e w' h => ⟨h.1, @After.is_more _ _ h.2⟩
  have HX := Lib.hid x
  obtain ⟨v1, hv1⟩ : ∃ v, (checkV el nl).1 = v := ⟨_, rfl⟩
  obtain ⟨v2, hv2⟩ : ∃ v, (checkV el nl).2.1 = v := ⟨_, rfl⟩
  obtain ⟨v3, hv3⟩ : ∃ v, (checkV el nl).2.2 = v := ⟨_, rfl⟩
  rw [hv1, hv2, hv3] at G1
  have HC := Lib.hid hv3
  clear x hv1 hv2 hv3 wk
  obtain ⟨g, hg⟩ : ∃ g, w.heap.size = g := ⟨_, rfl⟩
  have HK : Hid (∀ U, After (w.alloc (.cells #[.slice eA el.length ec, .slice nA nl.length nc] 32)) U → U.cell? ⟨g, 0, none⟩ = some (.slice eA el.length ec) ∧ U.cell? ⟨g, 1, none⟩ = some (.slice nA nl.length nc) ∧ Le (g + 1) U ∧ After w U) := fun U hU => by
    have f_ := (Blk.new w 32 #[.slice eA el.length ec, .slice nA nl.length nc]).after (w' := U)
    rw [hg] at f_
    exact ⟨(f_.cell 0).trans rfl, (f_.cell 1).trans rfl, f_.is_le, after_after inferInstance hU⟩
  go_enter Try.func7, Try.ntmps7
  go_wp2_with fail
  refine (G1.out _ inferInstance).mono ?_
  rintro e w1 ⟨rfl, a1⟩
  obtain ⟨c0, c1, cl, aw1⟩ := HK.out w1 a1
  try rw [hg]
  by_cases h3 : v3 = 0
  rotate_left
  · have h3n : (v3 != 0) = true := by simpa using h3
    go_wp2_with fail
    refine (Gives.on G3 _ inferInstance).mono ?_
    rintro e w2 ⟨rfl, hy⟩
    have a2 : After w w2 := after_of_more hy inferInstance
    go_wp2_with fail
    go_ret
    exact ⟨rfl, After.is_more _ _⟩
  subst h3
  by_cases hn0 : nl.length = 0
  · obtain ⟨n9, hn9⟩ : ∃ n, nl.length = n := ⟨_, rfl⟩
    rw [hn9] at hn0 c1 
    subst hn0
    go_wp2_with fail
    refine (Gives.on G3 _ inferInstance).mono ?_
    rintro e w2 ⟨rfl, hy⟩
    have a2 : After w w2 := after_of_more hy inferInstance
    go_wp2_with fail
    go_ret
    exact ⟨rfl, After.is_more _ _⟩
  obtain ⟨m, hm⟩ : ∃ m : Nat, kk.tmod (nl.length : Int) = m := ⟨(kk.tmod (nl.length : Int)).toNat, by have := Int.tmod_nonneg (nl.length : Int) hk.1; omega⟩
  have hml : m < nl.length := by have := Int.tmod_lt_of_pos kk (show (0 : Int) < (nl.length : Int) by omega); omega
  have hwk : IntKind.i64.wrap kk = kk := IntWalk.i64_in _ (by omega)
  have hwm : IntKind.i64.wrap (kk.tmod (nl.length : Int)) = (m : Int) := by rw [hm]; exact IntWalk.i64_in _ (by omega)
  have hn1 : ¬ ((nl.length : Int) = 0) := by omega
  have hmI : (m : Int) < (nl.length : Int) := by omega
  obtain ⟨b, p, y, hA, hle1, HY, hP⟩ := (HX.out.nodes.nds w1 (k := aw1)).part (i := m) hml
  simp only [] at hA
  subst hA
  have HYM : Hid (y ∈ nl) := List.mem_of_getElem? HY.out
  obtain ⟨_, _, HP0_⟩ := HX.out.nodes.elem (i := m) HY.out
  have HP0 := Lib.hid HP0_
  obtain ⟨nm, ⟨inA, inc, in_⟩, ⟨ouA, ouc, ou⟩, ⟨loA, loc, lo⟩, ⟨eqA, eqc, eq⟩, ⟨auA, auc, au⟩, ⟨asA, asc, as_⟩, ⟨enA, enc, en_⟩⟩ := y
  obtain ⟨z0, z1, z2, z3, z4, z5, z6, z7⟩ : w1.cell? ⟨b, p + m * 8, none⟩ = some (.string nm) ∧ w1.cell? ⟨b, p + m * 8 + 1, none⟩ = some (.slice inA in_.length inc) ∧ w1.cell? ⟨b, p + m * 8 + 2, none⟩ = some (.slice ouA ou.length ouc) ∧ w1.cell? ⟨b, p + m * 8 + 3, none⟩ = some (.slice loA lo.length loc) ∧ w1.cell? ⟨b, p + m * 8 + 4, none⟩ = some (.slice eqA eq.length eqc) ∧ w1.cell? ⟨b, p + m * 8 + 5, none⟩ = some (.slice auA au.length auc) ∧ w1.cell? ⟨b, p + m * 8 + 6, none⟩ = some (.slice asA as_.length asc) ∧ w1.cell? ⟨b, p + m * 8 + 7, none⟩ = some (.slice enA en_.length enc) := ⟨hP.c0, hP.c1, hP.c2, hP.c3, hP.c4, hP.c5, hP.c6, hP.c7⟩
  have HRE : Hid (∀ q ∈ eq, exE el q.right = 0) := fun q hq => check_right HC.out HYM.out hq
  have hle2 := HP0.out.r4.len
  simp only [] at hle2
  clear hP HP0_ HY
  go_wp2_with fail
  go_region
  obtain ⟨gn, hgn⟩ : ∃ g, w1.heap.size + 1 = g := ⟨_, rfl⟩
  obtain ⟨W3, hW3, a3, bn⟩ : ∃ W, ((w1.alloc (.cells #[.int .i64 v1, .int .i64 v2] 35)).alloc (.cells #[.string nm, .slice inA in_.length inc, .slice ouA ou.length ouc, .slice loA lo.length loc, .slice eqA eq.length eqc, .slice auA au.length auc, .slice asA as_.length asc, .slice enA en_.length enc] 45)).drew = W ∧ After w1 W ∧ Blk W gn 45 #[.string nm, .slice inA in_.length inc, .slice ouA ou.length ouc, .slice loA lo.length loc, .slice eqA eq.length eqc, .slice auA au.length auc, .slice asA as_.length asc, .slice enA en_.length enc] := by
    refine ⟨_, rfl, inferInstance, ?_⟩
    have := Blk.new (w1.alloc (.cells #[.int .i64 v1, .int .i64 v2] 35)) 45 #[.string nm, .slice inA in_.length inc, .slice ouA ou.length ouc, .slice loA lo.length loc, .slice eqA eq.length eqc, .slice auA au.length auc, .slice asA as_.length asc, .slice enA en_.length enc]
    rw [size_alloc_, hgn] at this
    exact this
  have HK3 : Hid (∀ U, After W3 U → U.cell? ⟨g, 0, none⟩ = some (.slice eA el.length ec) ∧ U.cell? ⟨gn, 4, none⟩ = some (.slice eqA eq.length eqc) ∧ Le (g + 1) U ∧ Le (gn + 1) U ∧ After w U) := fun U hU => by
    have f_ := bn.after (w' := U)
    obtain ⟨x0, _, x2, x3⟩ := HK.out U (after_after a1 (after_after a3 hU))
    exact ⟨x0, (f_.cell 4).trans rfl, x2, f_.is_le, x3⟩
  try rw [hW3]
  try rw [hgn]
  clear hW3 hgn bn c0 c1 cl z0 z1 z2 z3 z4 z5 z6 z7 hle1 a1 aw1 a3
  obtain ⟨e0, e1, gl, nl_, aw3⟩ := HK3.out W3 (after_refl _)
  go_wp2_with fail
  go_loopw [8] (fun i wr => ∃ j : Nat, j ≤ eq.length ∧ i = .int .i64 (j : Nat) ∧ After W3 wr) (fun i _ => eq.length - (intOf i).toNat)
  case atStart => exact ⟨0, by omega, rfl, after_refl _⟩
  case round =>
    obtain ⟨j, hj, rfl, ar⟩ := hrel
    clear e0 e1 gl nl_
    obtain ⟨e0, e1, gl, nl_, awr⟩ := HK3.out wr ar
    by_cases hltj : j < eq.length
    · have hltjI : (j : Int) < (eq.length : Int) := by omega
      obtain ⟨b2, p2, yj, hA2, hle3, HYj, hPj⟩ := (HP0.out.r4.eqs wr (k := awr)).part (i := j) hltj
      simp only [] at hA2
      subst hA2
      obtain ⟨⟨qA, qc, ql⟩, ⟨k, o, t, v, s, A, c, xs⟩⟩ := yj
      obtain ⟨_, _, HQ_⟩ := HP0.out.r4.elem (i := j) HYj.out
      have h0 : exE el (.mk k o t v s A c xs) = 0 := HRE.out _ (List.mem_of_getElem? HYj.out)
      have HC : Gives wr 8 #[.slice eA el.length ec, .agg #[.int .i64 k, .int .i64 o, .int .i64 t, .int .i64 v, .string s, .slice A xs.length c]] (.int .i64 0) := fun U hU => (h0 ▸ sexpr_any (x := ⟨eA, ec, el⟩) HX.out.enums trivial HQ_.ri HQ_.tb U (after_after awr hU)).mono fun e w' h => ⟨h.1, @After.is_more _ _ h.2⟩
      obtain ⟨z0, z1, z2, z3, z4, z5⟩ := hPj.six
      simp only [Tx.kind, Tx.op, Tx.ty, Tx.va, Tx.name, Tx.ad, Tx.args, Tx.cap] at z0 z1 z2 z3 z4 z5
      clear HQ_ h0 hPj HYj
      go_wp2_with fail
      refine wp_region_more (by kernel_rfl) (by kernel_rfl) ?_
      repeat (go_big_quiet_step ((go_at_call 8; with_reducible exact Calls.more_of (Gives.on HC _ inferInstance))))
      refine wpQuiet_nil ?_
      rintro _ ⟨y_, rfl⟩
      go_wp2_with fail
      go_roundw
      case rel => exact ⟨j + 1, by omega, by go_num, after_after ar inferInstance⟩
      case measure => simp only [intOf]; omega
    · go_wp2_with fail
      refine (Gives.on G3 _ (after_after awr inferInstance)).mono ?_
      rintro e w6 ⟨rfl, hy⟩
      have a6 : After w w6 := after_of_more hy (after_after awr inferInstance)
      go_wp2_with fail
      go_ret
      exact ⟨rfl, After.is_more _ _⟩

set_option maxRecDepth 100000 in
theorem lifted (os : Os) (started : os.Started) (H : Type) (enc : TypeId × Value → H) :
    ReturnsInHanded {} Try.checked os 7 .any (Rows.shapeInsideSpec.pre6 enc Try.prog Try.f7 Rows.shapeInsideRow.domain false) (Rows.shapeInsideSpec.post enc Try.prog Try.f7 false true false false) := by
  refine returnsInHanded_of_change_sized (C := Try.checked) own started (by kernel_rfl) Try.func7
    (ChangeSpec.witness6 (enc := enc) (C := Try.checked) false ⟨#[], #[.agg #[.slice none 0 0, .slice none 0 0], .int .u8 0], []⟩ 8 (by kernel_rfl) (by kernel_rfl) (by kernel_rfl) (by kernel_rfl)) ?_
  intro W base args ds gs before hval0 hW hcnd hsz0 _
  have hval : ∀ (j : Nat) t v, Try.f7.params[j]? = some t → args[j]? = some v → Value.okWide Try.prog W .any base t v := hval0
  have hsz : (DataW.weightsEach Try.prog (Try.f7.params.toList ++ Rows.shapeInsideSpec.plain.varTypes Try.prog) (ds ++ gs)).all (· ≤ reachBytes) = true := hsz0
  have hW' := hW
  obtain ⟨p, q, hA0, hV, rfl, hfz, hnd⟩ := hW
  have hA : DataW.TrodAll enc Try.prog W 0 (fun _ => true) true Try.f7.params.toList args.toList ds p := hA0
  rw [Try.params7] at hA hval hsz
  obtain ⟨v0, vs0, d0, ds0, p0, q0, hargs, rfl, rfl, h0, r0⟩ := trodAll_cons hA
  obtain ⟨v1, vs1, d1, ds1, p1, q1, rfl, rfl, rfl, h1, r1⟩ := trodAll_cons r0
  obtain ⟨rfl, rfl, rfl⟩ := trodAll_nil r1
  obtain rfl : args = #[v0, v1] := by cases args; simp_all
  obtain ⟨rfl, rfl⟩ := trodVars_none hV
  have k0 := h0
  have lt0 : ∀ x ∈ p0, x.block < W.heap.size := by obtain ⟨m, hm⟩ := k0; exact DataW.trod_lt m _ _ _ hm
  have z0 : ∀ n ∈ d0.weights Try.prog 32, n ≤ reachBytes := fun n hn => by
    simpa using List.all_eq_true.1 hsz n (DataW.weights_mem_each (j := 0) (t := 32) rfl rfl n hn)
  obtain ⟨eA0, nA0, ec0, nc0, el0, nl0, rfl, x0⟩ := open_prog (S := False) (hval 0 32 v0 rfl rfl) h0 z0 (fun h => h.elim)
  obtain ⟨a1, rfl, rfl, rfl, w1⟩ := open_int Try.underlying5 (hval 1 5 v1 rfl rfl) h1
  clear hA0 hval0 hsz0 hsz
  refine (walk W x0 a1 w1).mono fun e W' ⟨he, y, hy⟩ => ?_
  subst he
  have bel : Below W.heap.size W W' := by rw [hy]; exact more_below W y
  exact ⟨_, rfl, _, _, _, [], _, [], hW', trodAll_mk1 (shut_bool Try.underlying4 _), (trodAll_cons_mk (Below.trod laidOut (by kernel_rfl) (of_decide_eq_true (by kernel_rfl)) k0 bel lt0) (trodAll_cons_mk (shut_int Try.underlying5 w1) trodAll_mk0)), rfl, bel.frame _, fun h => by cases h⟩

theorem over : Rows.shapeInsideRow.holds Try.pinned (OpenSpec.ofChange Rows.shapeInsideSpec) :=
  OpenClaim.holds_of_wide 7 Try.f7 rfl rfl rfl rfl rfl rfl rfl ⟨rfl, rfl, rfl, rfl, rfl⟩ rfl rfl rfl rfl rfl (by kernel_rfl) Try.func7 (by kernel_rfl)
    (of_decide_eq_true (by kernel_rfl)) (by unfold Func.isWrapper; first | (rw [if_pos (by decide +kernel)]; kernel_rfl) | (rw [if_neg (by decide +kernel)]; exact ⟨rfl, rfl⟩))
    (fun os started H enc _ => lifted os started H enc)

theorem proved : Rows.ShapeInsideSaid := over
#print axioms proved
end Go.Proofs.Ytdghfhnkacfahaa.shapeInside
