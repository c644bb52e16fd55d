/-
  Each yields the expressions in preorder, and stops when the caller does; for every expression and number (of at most 500 expressions, as the law says). No conditions.
-/
import Derived.Test.YtfoddappedcplaaELives
import Derived.Test.YtfoddappedcplaaELift
import Derived.Test.YtfoddappedcplaaESame
import Derived.Shelf.RegionOpen
import Derived.Sort.CutIn
namespace Go.Proofs.Ytfoddappedcplaa.exprEach
open Go.ChangeShapes Go.WideShapes Go.ChangeAt Go.RowKit Go.BigFrame
set_option linter.unusedVariables false
set_option linter.unusedSimpArgs false

theorem own : ownKnob Try.prog.godebug = none := by kernel_rfl
theorem laidOut : laidOutB Try.prog = true := by kernel_rfl

open Go.Shelf
attribute [local go_sem] Oper.semAt_some
theorem u8_le {k : Int} (h : (Lit.int .u8 k).wf = true) : 0 ≤ k ∧ k ≤ 255 := by
  simpa [Lit.wf, IntKind.min, IntKind.max, IntKind.signed, IntKind.bits] using h
theorem map_length_ {w0 : World} (pre : List (RTx w0)) : (els pre).length = pre.length := els_length pre
theorem run_equal_func_nil {P : Program} (w : World) (t : TypeId) (ps rs : Array TypeId) (v : Bool) (fn : Fn) (cs cc : Array Value) (h : P.underlying t = some (.func ps rs v)) : (Op.equal t (.func fn cs cc) .nilFunc).run P w = .ok false w := by
  show (Op.equalIn (9999 + 1) t (.func fn cs cc) .nilFunc).run P w = .ok false w
  unfold Op.equalIn
  simp [run_underlying h]
theorem fn_nil (fn : Fn) (cs cc : Array Value) (W : World) : (binOp BinOp.eql 37 (Value.func fn cs cc) Value.nilFunc).run Try.prog W = .ok (.bool false) W := by
  simp [binOp, go_sem]
  rw [run_equal_func_nil W _ _ _ _ fn cs cc Try.underlying37]
  rfl
set_option maxRecDepth 100000 in
set_option maxHeartbeats 6400000 in
theorem walk {k o t v : Int} {s : ByteArray} {A : Option Addr} {c : Nat} {xs : List Tx} (w : World) (x : RX w (.mk k o t v s A c xs)) (st : Int) (wst : (Lit.int .u8 st).wf = true) :
    Calls Try.prog 6 #[.agg #[.int .i64 k, .int .i64 o, .int .i64 t, .int .i64 v, .string s, .slice A xs.length c], .int .u8 st] w fun e w' => e = .returned (.bool true) ∧ ∃ y, w' = w.more y := by
  obtain ⟨hst0, hst1⟩ := u8_le wst
  refine (callsIn_wide (n := 4)).1 ?_
  have hmix : Try.prog.follows .mixedOrders = true := by kernel_rfl
  replace x := Lib.hid x
  have GL : Hid (∀ U : World, CallsIn Fence.wide 3 Try.prog 11 #[] U fun e w' => e = .returned (.bool true) ∧ After U w') := Lib.hid fun U => callsIn_wide.2 (lives_any U)
  have GH : Hid (∀ U : World, After w U → CallsIn Fence.wide 3 Try.prog 10 #[.agg #[.int .i64 k, .int .i64 o, .int .i64 t, .int .i64 v, .string s, .slice A xs.length c]] U fun e w' => e = .returned (.bool (heavyB (Tx.mk k o t v s A c xs))) ∧ After U w') := Lib.hid fun U hU => callsIn_wide.2 (heavy_any x.out U hU)
  refine callsIn_of_wp_marks Try.func6 rfl trivial ?_ rfl
  simp only [Try.ntmps6, List.size_toArray, List.length_cons, List.length_nil, Nat.reduceAdd, Nat.reduceSub, Array.replicate_succ, Array.replicate_zero, List.push_toArray, List.append_toArray, List.nil_append, List.cons_append]
  gi_wp2_with fail
  try refine ⟨trivial, ?_⟩
  refine (eachv_in Fence.wide 3 trivial rfl k o t v s A c xs _).mono ?_
  rintro e w' ⟨rfl, rfl⟩
  gi_wp2_with fail
  rw [fn_nil]
  simp only [Result.andThen]
  rw [Oper.uponIn_value]
  obtain ⟨V, hV, aV, HBV, HSV, HRV, HEV, sV⟩ : ∃ V, ((((w.alloc (.cells #[.int .i64 k, .int .i64 o, .int .i64 t, .int .i64 v, .string s, .slice A xs.length c] 24)).alloc (.cells #[.int .u8 st] 5)).alloc (.cells #[.bool false] 4)).alloc (.cells #[.int .i64 k, .int .i64 o, .int .i64 t, .int .i64 v, .string s, .slice A xs.length c] 24)) = V ∧ After w V ∧ Hid (Blk V w.heap.size 24 #[.int .i64 k, .int .i64 o, .int .i64 t, .int .i64 v, .string s, .slice A xs.length c]) ∧ Hid (Blk V (w.heap.size + 1) 5 #[.int .u8 st]) ∧ Hid (Blk V (w.heap.size + 1 + 1) 4 #[.bool false]) ∧ Hid (Blk V (w.heap.size + 1 + 1 + 1) 24 #[.int .i64 k, .int .i64 o, .int .i64 t, .int .i64 v, .string s, .slice A xs.length c]) ∧ V.heap.size = w.heap.size + 4 := by
    refine ⟨_, rfl, inferInstance, Lib.hid ((((Blk.new w 24 #[.int .i64 k, .int .i64 o, .int .i64 t, .int .i64 v, .string s, .slice A xs.length c]).alloc _).alloc _).alloc _), Lib.hid (((Blk.at_' (size_alloc_ _ _) 5 _).alloc _).alloc _), Lib.hid ((Blk.at_' (by simp) 4 _).alloc _), Lib.hid (Blk.at_' (by simp) 24 _), by simp⟩
  rw [hV]
  clear hV
  have HK : Hid (∀ U : World, After V U → Le (w.heap.size + 1) U ∧ U.cell? ⟨w.heap.size, 0, none⟩ = some (.int .i64 k) ∧ U.cell? ⟨w.heap.size, 1, none⟩ = some (.int .i64 o) ∧ U.cell? ⟨w.heap.size, 2, none⟩ = some (.int .i64 t) ∧ U.cell? ⟨w.heap.size, 3, none⟩ = some (.int .i64 v) ∧ U.cell? ⟨w.heap.size, 4, none⟩ = some (.string s) ∧ U.cell? ⟨w.heap.size, 5, none⟩ = some (.slice A xs.length c)) := Lib.hid fun U hU => by
    have f_ := HBV.out.after (k := hU)
    exact ⟨f_.is_le, (f_.cell 0).trans rfl, (f_.cell 1).trans rfl, (f_.cell 2).trans rfl, (f_.cell 3).trans rfl, (f_.cell 4).trans rfl, (f_.cell 5).trans rfl⟩
  obtain ⟨lV, b0, b1, b2, b3, b4, b5⟩ := HK.out V inferInstance
  gi_wp2_with fail
  try refine ⟨trivial, ?_⟩
  refine (GH.out _ aV).mono ?_
  rintro _ w1 ⟨rfl, k1_⟩
  have a1 : After w w1 := after_after aV k1_
  obtain ⟨l1_, c0_, c1_, c2_, c3_, c4_, c5_⟩ := HK.out w1 k1_
  have HR1 := Lib.hid (HRV.out.after (k := k1_))
  have r1_ : w1.cell? ⟨w.heap.size + 1 + 1, 0, none⟩ = some (.bool false) := (HR1.out.cell 0).trans rfl
  have fr1_ := HR1.out.frozen 0
  have lr1_ : Le (w.heap.size + 1 + 1 + 1) w1 := HR1.out.is_le
  clear b0 b1 b2 b3 b4 b5 lV
  cases hv : heavyB (Tx.mk k o t v s A c xs) with
  | true =>
    gi_wp2_with fail
    try refine ⟨trivial, ?_⟩
    refine (GL.out _).mono ?_
    rintro _ w2 ⟨rfl, k2_⟩
    have HR2 := Lib.hid (HR1.out.after (k := k2_))
    have r2_ : w2.cell? ⟨w.heap.size + 1 + 1, 0, none⟩ = some (.bool false) := (HR2.out.cell 0).trans rfl
    have fr2_ := HR2.out.frozen 0
    have lr2_ : Le (w.heap.size + 1 + 1 + 1) w2 := HR2.out.is_le
    have a2 : After w w2 := after_after a1 k2_
    have R3 := HR2.out.set_ 0 (.bool true)
    have y3_ : (w2.setCell ⟨w.heap.size + 1 + 1, 0, none⟩ (.bool true)).cell? ⟨w.heap.size + 1 + 1, 0, none⟩ = some (.bool true) := (R3.cell 0).trans rfl
    have a3 : After w (w2.setCell ⟨w.heap.size + 1 + 1, 0, none⟩ (.bool true)) := by have : New w (w.heap.size + 1 + 1) := ⟨by omega⟩; infer_instance
    gi_wp2
    exact ⟨.bool true, by simp [results, Try.results6, go_sem, y3_], rfl, After.is_more _ _⟩
  | false =>
    have hs : (Tx.mk k o t v s A c xs).size ≤ 500 := by unfold heavyB at hv; simpa using hv
    have HL : Hid (∀ U : World, After w U → CallsIn Fence.wide 3 Try.prog 29 #[.agg #[.int .i64 k, .int .i64 o, .int .i64 t, .int .i64 v, .string s, .slice A xs.length c]] U fun e w' => ∃ A' c', e = .returned (.slice A' (Tx.mk k o t v s A c xs).list.length c') ∧ RX w' (rowX A' c' (Tx.mk k o t v s A c xs).list) ∧ After U w') := Lib.hid fun U hU => callsIn_wide.2 (rList_any (by omega) x.out U hU)
    have hll : (Tx.mk k o t v s A c xs).list.length = (Tx.mk k o t v s A c xs).size := Tx.list_length _
    obtain ⟨l, hl⟩ : ∃ l, (Tx.mk k o t v s A c xs).list = l := ⟨_, rfl⟩
    rw [hl] at HL hll
    obtain ⟨n2, hn2⟩ : ∃ n, l.length = n := ⟨_, rfl⟩
    rw [hn2] at HL hll
    replace hl := Lib.hid hl
    replace hn2 := Lib.hid hn2
    have hn2b : n2 ≤ 500 := by omega
    replace hll := Lib.hid hll
    obtain ⟨sn, rfl⟩ : ∃ sn : Nat, st = (sn : Int) := ⟨st.toNat, by omega⟩
    gi_wp2_with fail
    try refine ⟨trivial, ?_⟩
    refine (HL.out _ a1).mono ?_
    rintro _ w2 ⟨A2, c2, rfl, hx2, k2_⟩
    replace hx2 := Lib.hid hx2
    gi_wp2_with fail
    have aV2 : After V w2 := after_after k1_ k2_
    obtain ⟨g, hg⟩ : ∃ g, w2.heap.size = g := ⟨_, rfl⟩
    obtain ⟨U, hU, aU, bG, bN, sU⟩ : ∃ U, (w2.alloc (.cells #[.slice A2 n2 c2] 22)).alloc (.cells #[.int .i64 0] 3) = U ∧ After w2 U ∧ Hid (Blk U g 22 #[.slice A2 n2 c2]) ∧ Hid (Blk U (g + 1) 3 #[.int .i64 0]) ∧ U.heap.size = g + 2 := ⟨_, rfl, inferInstance, Lib.hid ((Blk.at_' hg _ _).alloc _), Lib.hid (Blk.at_' (by simp [hg]) _ _), by simp [hg]⟩
    rw [hU, hg]
    clear hU
    have aVU : After V U := after_after aV2 aU
    have aw2 : After w w2 := after_after aV aV2
    have awU : After w U := after_after aw2 aU
    have hgs : w.heap.size + 4 ≤ g := by have := aV2.below.size; omega
    clear r1_ fr1_ lr1_ HR1 c0_ c1_ c2_ c3_ c4_ c5_ l1_
    have hseq := each_stops Fence.wide rfl 3 trivial trivial rfl (w.heap.size + 1 + 1 + 1) U.heap.size w k o t v s A c xs x.out U awU (Nat.le_refl _) (HEV.out.after (k := aVU))
    have hn0 := awU.below.size
    rw [← hll.out] at hseq
    refine wpIn_rangeFunc_ownH rfl (by decide) (gf := 44) (lb := #[.pointer (some ⟨w.heap.size + 1 + 1 + 1, 0, none⟩)]) rfl trivial (enters_of Try.func44 (by kernel_rfl) rfl) hseq KpE.trans (KpE.turn (by omega)) (Below.refl _ _) (fun _ => rfl)
      (fun pre W => Blk W (g + 1) 3 #[.int .i64 (pre.length : Nat)] ∧ Below (g + 1) U W ∧ U.heap.size ≤ W.heap.size ∧ Hid (pre.length ≤ sn))
      (fun c pre W => (c = .ret ∧ Hid (∃ (j : Nat) (e y : Tx), (els pre)[j]? = some e ∧ l[j]? = some y ∧ e.same y = false)) ∨ (c = .exit 0 ∧ Blk W (g + 1) 3 #[.int .i64 (pre.length : Nat)] ∧ Below (g + 1) U W ∧ U.heap.size ≤ W.heap.size ∧ Hid (pre.length = sn + 1)))
      (fun s A B row hs hg hr => ⟨hs.1.grown hg (fun e => by have := (hr _ e.symm).1; omega), hs.2.1.grown hg (by have := hs.2.2.1; omega) (fun k e => by have := (hr _ e).1; omega), Nat.le_trans hs.2.2.1 hg.size, hs.2.2.2⟩)
      (fun c s A B row hs hg hr => by
        rcases hs with hs | ⟨h1, h2, h3, h4, h5⟩
        · exact .inl hs
        · exact .inr ⟨h1, h2.grown hg (fun e => by have := (hr _ e.symm).1; omega), h3.grown hg (by omega) (fun k e => by have := (hr _ e).1; omega), Nat.le_trans h4 hg.size, h5⟩)
      ⟨bN.out, Below.refl _ _, Nat.le_refl _, Lib.hid (by simp)⟩
      (fun x a' W => BoxAt U.heap.size (fun p => { tmps := #[.agg #[.int .i64 k, .int .i64 o, .int .i64 t, .int .i64 v, .string s, .slice A xs.length c], .int .u8 (sn : Int), .pointer (some ⟨w.heap.size, 0, none⟩), .pointer (some ⟨w.heap.size + 1, 0, none⟩), .pointer (some ⟨w.heap.size + 1 + 1, 0, none⟩), .func (.func 44) #[] #[.pointer (some ⟨w.heap.size + 1 + 1 + 1, 0, none⟩)], .pointer (some ⟨g, 0, none⟩), .pointer (some ⟨g + 1, 0, none⟩), p, .agg #[.int .i64 k, .int .i64 o, .int .i64 t, .int .i64 v, .string s, .slice A xs.length c], .func (.func 44) #[] #[.pointer (some ⟨w.heap.size + 1 + 1 + 1, 0, none⟩)], .func (.func 44) #[] #[.pointer (some ⟨w.heap.size + 1 + 1 + 1, 0, none⟩)], .bool false, .agg #[.int .i64 k, .int .i64 o, .int .i64 t, .int .i64 v, .string s, .slice A xs.length c], .bool false, undef, .agg #[.int .i64 k, .int .i64 o, .int .i64 t, .int .i64 v, .string s, .slice A xs.length c], .slice A2 n2 c2, .func (.func 44) #[] #[.pointer (some ⟨w.heap.size + 1 + 1 + 1, 0, none⟩)], x.1.val, undef, undef, undef, undef, undef, undef, undef, undef, undef, undef, undef, undef, undef, undef, undef, undef, undef, undef, undef, undef, undef, undef, undef, undef, undef, undef, undef, undef, undef, undef], defers := [] }) x.1 a' W)
      (fun x a' => boxAt_own) ?assign ?body ?done ?stop
    case assign =>
      rintro lp pre ⟨⟨k1, o1, t1, v1, s1, A1, c1, xs1⟩, hx⟩ W K ⟨i1, i2, i3, i4⟩ hK
      simp only [Tx.val, Tx.kind, Tx.op, Tx.ty, Tx.va, Tx.name, Tx.ad, Tx.args, Tx.cap]
      gi_wp2
      exact hK _ _ ((KeepsOthers.alloc _ _).from _) (KpE.after (by omega) inferInstance) ⟨i1.alloc _, i2.alloc (by omega) _, by simp; omega, i4⟩ ⟨W.heap.size, i3, Blk.new _ _ _, rfl⟩
    case body =>
      rintro lp pre ⟨⟨k0, o0, t0, v0, s0, A0, c0, xs0⟩, hx⟩ a' W hlp _ ⟨i1, i2, i3, i4⟩ ⟨Bx, hBx, bX, rfl⟩ hlt
      obtain ⟨j, hj⟩ : ∃ j, pre.length = j := ⟨_, rfl⟩
      rw [hj] at i1 i4 hlt
      have hjl : j < l.length := by rw [hn2.out]; exact hlt
      have bw2 : Below w2.heap.size w2 W := aU.below.trans (i2.mono (by omega))
      have awW : After w W := after_after aw2 ⟨bw2⟩
      obtain ⟨b, p, k1, o1, t1, v1, s1, A1, c1, xs1, rfl, hb1, HX1, HR1, e0, e1, e2, e3, e4, e5⟩ := (hx2.out.below bw2).part (i := j) hjl
      simp only [Tx.cells, Tx.kind, Tx.op, Tx.ty, Tx.va, Tx.name, Tx.ad, Tx.args, Tx.cap] at bX
      have HGW : Hid (Blk W g 22 #[.slice (some ⟨b, p, none⟩) n2 c2]) := Lib.hid ((i2.block g (by omega)).trans bG.out)
      have HSW : Hid (Blk W (w.heap.size + 1) 5 #[.int .u8 (sn : Int)]) := Lib.hid ((i2.block _ (by omega)).trans (HSV.out.after (k := aVU)))
      have HRW : Hid (Blk W (w.heap.size + 1 + 1) 4 #[.bool false]) := Lib.hid ((i2.block _ (by omega)).trans (HRV.out.after (k := aVU)))
      obtain ⟨bb, hbb⟩ : ∃ bb, (Tx.mk k0 o0 t0 v0 s0 A0 c0 xs0).same (.mk k1 o1 t1 v1 s1 A1 c1 xs1) = bb := ⟨_, rfl⟩
      have HC : Hid (∀ m W', After W W' → CallsIn (Fence.wide.inRound lp) m Try.prog 30 #[.agg #[.int .i64 k0, .int .i64 o0, .int .i64 t0, .int .i64 v0, .string s0, .slice A0 xs0.length c0], .agg #[.int .i64 k1, .int .i64 o1, .int .i64 t1, .int .i64 v1, .string s1, .slice A1 xs1.length c1]] W' fun en w' => en = .returned (.bool bb) ∧ After W' w') := Lib.hid fun m W' hW' => by
        have h := rsame_any (hx.below (after_after awW hW').below) (HR1.out.below hW'.below) W' inferInstance
        rw [hbb] at h
        exact CallsIn.inRound lp (callsIn_wide.2 h)
      have HMM : Hid (bb = false → ∃ (j : Nat) (e y : Tx), (els (pre ++ [⟨.mk k0 o0 t0 v0 s0 A0 c0 xs0, hx⟩]))[j]? = some e ∧ l[j]? = some y ∧ e.same y = false) := Lib.hid fun h => ⟨j, _, _, by rw [els_snoc, List.getElem?_append_right (by rw [els_length, hj]; exact Nat.le_refl _), els_length, hj, Nat.sub_self]; rfl, HX1.out, by rw [hbb, h]⟩
      clear hbb HR1 HX1
      have n_ : W.cell? ⟨g + 1, 0, none⟩ = some (.int .i64 (j : Nat)) := (i1.cell 0).trans rfl
      have w_ : W.cell? ⟨g, 0, none⟩ = some (.slice (some ⟨b, p, none⟩) n2 c2) := (HGW.out.cell 0).trans rfl
      have s_ : W.cell? ⟨w.heap.size + 1, 0, none⟩ = some (.int .u8 (sn : Int)) := (HSW.out.cell 0).trans rfl
      have r_ : W.cell? ⟨w.heap.size + 1 + 1, 0, none⟩ = some (.bool false) := (HRW.out.cell 0).trans rfl
      have x0_ : W.cell? ⟨Bx, 0, none⟩ = some (.int .i64 k0) := (bX.cell 0).trans rfl
      have x1_ : W.cell? ⟨Bx, 1, none⟩ = some (.int .i64 o0) := (bX.cell 1).trans rfl
      have x2_ : W.cell? ⟨Bx, 2, none⟩ = some (.int .i64 t0) := (bX.cell 2).trans rfl
      have x3_ : W.cell? ⟨Bx, 3, none⟩ = some (.int .i64 v0) := (bX.cell 3).trans rfl
      have x4_ : W.cell? ⟨Bx, 4, none⟩ = some (.string s0) := (bX.cell 4).trans rfl
      have x5_ : W.cell? ⟨Bx, 5, none⟩ = some (.slice A0 xs0.length c0) := (bX.cell 5).trans rfl
      have ln_ := i1.is_le
      have lw_ := HGW.out.is_le
      have ls_ := HSW.out.is_le
      have lr_ := HRW.out.is_le
      have lx_ := bX.is_le
      have hjI : ¬ (n2 : Int) ≤ (j : Int) := by omega
      have hjI2 : (j : Int) < (n2 : Int) := by omega
      have hw1 : IntKind.i64.wrap ((j : Int) + 1) = (j : Int) + 1 := IntWalk.i64_in _ (by omega)
      replace i1 := Lib.hid i1
      replace i2 := Lib.hid i2
      gi_wp2_with fail
      gi_cut [32] from 20 (fun q wx => q = .bool (!bb) ∧ After W wx)
      case first =>
        gi_region_with_o (first | (refine ⟨trivial, (HC.out _ _ (by infer_instance)).mono ?_⟩; rintro _ w6 ⟨rfl, k6⟩; have aW6 : After W w6 := after_after inferInstance k6; clear k6))
        all_goals
          gi_wp2_with fail
          gi_meet
          have h_ : ¬ n2 ≤ j := by omega
          exact ⟨by simp [h_], inferInstance⟩
      case rest =>
        obtain ⟨rfl, aW6⟩ := hcut
        have R6 : Hid (Blk wc (w.heap.size + 1 + 1) 4 #[.bool false]) := Lib.hid (HRW.out.after (k := aW6))
        have N6 : Hid (Blk wc (g + 1) 3 #[.int .i64 (j : Nat)]) := Lib.hid (i1.out.after (k := aW6))
        have n6 : wc.cell? ⟨g + 1, 0, none⟩ = some (.int .i64 (j : Nat)) := (N6.out.cell 0).trans rfl
        have nf6 := N6.out.frozen 0
        have ln6 := N6.out.is_le
        have r6 : wc.cell? ⟨w.heap.size + 1 + 1, 0, none⟩ = some (.bool false) := (R6.out.cell 0).trans rfl
        have rf6 := R6.out.frozen 0
        have lr6 := R6.out.is_le
        have s6 := cell_keep aW6 s_
        have ls6 : Le (w.heap.size + 1 + 1) wc := le_keep aW6
        have hb6 : Below (g + 1) U wc := i2.out.trans (aW6.below.mono (by omega))
        have hz6 : U.heap.size ≤ wc.heap.size := Nat.le_trans i3 aW6.below.size
        have hNe : w.heap.size + 1 ≠ g + 1 := by omega
        have hNe2 : w.heap.size + 1 + 1 ≠ g + 1 := by omega
        clear n_ w_ s_ r_ x0_ x1_ x2_ x3_ x4_ x5_ ln_ lw_ ls_ lr_ lx_ e0 e1 e2 e3 e4 e5
        cases bb with
        | false =>
          gi_wp2
          exact ⟨((KeepsOthers.of_after aW6).trans (KeepsOthers.setCell _ _ _)).from _, .inl ⟨rfl, Lib.hid (by obtain ⟨q1, q2, q3, q4, q5, q6⟩ := HMM.out (by simp); exact ⟨q1, q2, q4, q3, q5, q6⟩)⟩⟩
        | true =>
          have NN := N6.out.set_ 0 (.int .i64 ((j : Int) + 1))
          have nn_ : (wc.setCell ⟨g + 1, 0, none⟩ (.int .i64 ((j : Int) + 1))).cell? ⟨g + 1, 0, none⟩ = some (.int .i64 ((j : Int) + 1)) := (NN.cell 0).trans rfl
          have ss_ : (wc.setCell ⟨g + 1, 0, none⟩ (.int .i64 ((j : Int) + 1))).cell? ⟨w.heap.size + 1, 0, none⟩ = some (.int .u8 (sn : Int)) := by rw [World.cell?_setCell_other _ _ _ _ (fun e => hNe (congrArg Addr.block e).symm)]; exact s6
          have NB : Hid (Blk (wc.setCell ⟨g + 1, 0, none⟩ (.int .i64 ((j : Int) + 1))) (g + 1) 3 #[.int .i64 ((pre ++ [(⟨.mk k0 o0 t0 v0 s0 A0 c0 xs0, hx⟩ : RTx w)]).length : Nat)]) := Lib.hid (by rw [List.length_append, hj]; simpa using NN)
          clear NN
          by_cases hbr : (sn : Int) < (j : Int) + 1
          · gi_wp2
            exact ⟨((KeepsOthers.of_after aW6).trans (KeepsOthers.setCell _ _ _)).from _, .inr ⟨rfl, NB.out, hb6.setCell (p := ⟨g + 1, 0, none⟩) (Nat.le_refl _) _, by rw [size_set_]; omega, Lib.hid (by have := i4.out; rw [List.length_append, hj]; simp; omega)⟩⟩
          · gi_wp2
            exact ⟨((KeepsOthers.of_after aW6).trans (KeepsOthers.setCell _ _ _)).from _, KpE.trans (KpE.after (by have := awW.below.size; omega) aW6) (KpE.set (by omega) (by omega) 0 _), NB.out, hb6.setCell (p := ⟨g + 1, 0, none⟩) (Nat.le_refl _) _, by rw [size_set_]; omega, Lib.hid (by rw [List.length_append, hj]; simp; omega)⟩
    case done =>
      rintro D ys W hD hys ⟨i1, i2, i3, i4⟩ hK
      have hyl : ys.length = n2 := by have := congrArg List.length hys; rw [List.length_map, hl.out, hn2.out] at this; exact this
      rw [hyl] at i1 i4
      have hmin : min (n2 : Int) ((sn : Int) + 1) = (n2 : Int) := by have := i4.out; omega
      have HGW : Hid (Blk W g 22 #[.slice A2 n2 c2]) := Lib.hid ((i2.block g (by omega)).trans bG.out)
      have HSW : Hid (Blk W (w.heap.size + 1) 5 #[.int .u8 (sn : Int)]) := Lib.hid ((i2.block _ (by omega)).trans (HSV.out.after (k := aVU)))
      have HRW : Hid (Blk W (w.heap.size + 1 + 1) 4 #[.bool false]) := Lib.hid ((i2.block _ (by omega)).trans (HRV.out.after (k := aVU)))
      have awW : After w W := ⟨awU.below.trans (i2.mono (by omega))⟩
      have n_ : W.cell? ⟨g + 1, 0, none⟩ = some (.int .i64 (n2 : Nat)) := (i1.cell 0).trans rfl
      have w_ : W.cell? ⟨g, 0, none⟩ = some (.slice A2 n2 c2) := (HGW.out.cell 0).trans rfl
      have s_ : W.cell? ⟨w.heap.size + 1, 0, none⟩ = some (.int .u8 (sn : Int)) := (HSW.out.cell 0).trans rfl
      have ln_ := i1.is_le
      have lw_ := HGW.out.is_le
      have ls_ := HSW.out.is_le
      have hw1 : IntKind.i64.wrap ((sn : Int) + 1) = (sn : Int) + 1 := IntWalk.i64_in _ (by omega)
      replace hK := Lib.hid hK
      replace i2 := Lib.hid i2
      replace i1 := Lib.hid i1
      gi_wp2_with fail
      try refine ⟨trivial, ?_⟩
      refine (GL.out _).mono ?_
      rintro _ w5 ⟨rfl, k5⟩
      have HR5 := Lib.hid (HRW.out.after (k := k5))
      have r5 : w5.cell? ⟨w.heap.size + 1 + 1, 0, none⟩ = some (.bool false) := (HR5.out.cell 0).trans rfl
      have rf5 := HR5.out.frozen 0
      have lr5 := HR5.out.is_le
      have aw5 : After w w5 := after_after awW k5
      have hK5 : w5.heap[D]? = some (.deferred (some [])) := (KeepsOthers.of_after k5).same D _ hK.out rfl
      have hK6 := (KeepsOthers.setCell w5 ⟨w.heap.size + 1 + 1, 0, none⟩ (.bool true)).same D _ hK5 rfl
      have R6 := HR5.out.set_ 0 (.bool true)
      have ck : ((w5.setCell ⟨w.heap.size + 1 + 1, 0, none⟩ (.bool true)).putObj D (.deferred none)).cell? ⟨w.heap.size + 1 + 1, 0, none⟩ = some (.bool true) := cell_kept (by rw [R6.cell]; rfl) (grownBy_putObj' _ D (.deferred none)) (fun r e => by cases e; exact ⟨_, hK6, rfl⟩)
      have hb3 := (aw5.below.setCell (p := ⟨w.heap.size + 1 + 1, 0, none⟩) (by show w.heap.size ≤ w.heap.size + 1 + 1; omega) (.bool true)).trans (belowK_b (w := w) (Nat.le_refl _) (w5.setCell ⟨w.heap.size + 1 + 1, 0, none⟩ (.bool true)) D _ (.deferred none) (by omega) hK6 rfl rfl)
      replace hK5 := Lib.hid hK5
      replace hK6 := Lib.hid hK6
      replace ck := Lib.hid ck
      replace hb3 := Lib.hid hb3
      gi_wp2
      refine ⟨by simp, .inl ⟨_, _, rfl, run_takeDeferred hK6.out, ?_⟩⟩
      exact ⟨.bool true, by have ck_ := ck.out; simp [results, Try.results6, go_sem, ck_], rfl, @After.is_more _ _ ⟨hb3.out⟩⟩
    case stop =>
      rintro D cc pre W hD hpre hcc hK
      rcases hcc with ⟨rfl, hmm⟩ | ⟨rfl, i1, i2, i3, i4⟩
      · exfalso
        obtain ⟨j, e, y, h1, h2, h3⟩ := hmm.out
        have hp : els pre <+: l := by have := hpre; rw [hl.out] at this; exact this
        obtain ⟨r, hr⟩ := hp
        rw [← hr, List.getElem?_append_left (List.getElem?_eq_some_iff.1 h1).1, h1] at h2
        injection h2 with h2
        rw [← h2, same_refl] at h3
        cases h3
      · have hp : els pre <+: l := by have := hpre; rw [hl.out] at this; exact this
        have hpl : pre.length ≤ n2 := by have := hp.length_le; rw [els_length, hn2.out] at this; exact this
        rw [i4.out] at i1 hpl
        have hmin : min (n2 : Int) ((sn : Int) + 1) = (((sn + 1 : Nat)) : Int) := by omega
        have hcast : ((sn + 1 : Nat) : Int) = (sn : Int) + 1 := by omega
        rw [hcast] at i1 hmin
        have HGW : Hid (Blk W g 22 #[.slice A2 n2 c2]) := Lib.hid ((i2.block g (by omega)).trans bG.out)
        have HSW : Hid (Blk W (w.heap.size + 1) 5 #[.int .u8 (sn : Int)]) := Lib.hid ((i2.block _ (by omega)).trans (HSV.out.after (k := aVU)))
        have HRW : Hid (Blk W (w.heap.size + 1 + 1) 4 #[.bool false]) := Lib.hid ((i2.block _ (by omega)).trans (HRV.out.after (k := aVU)))
        have awW : After w W := ⟨awU.below.trans (i2.mono (by omega))⟩
        have n_ : W.cell? ⟨g + 1, 0, none⟩ = some (.int .i64 ((sn : Int) + 1)) := (i1.cell 0).trans rfl
        have w_ : W.cell? ⟨g, 0, none⟩ = some (.slice A2 n2 c2) := (HGW.out.cell 0).trans rfl
        have s_ : W.cell? ⟨w.heap.size + 1, 0, none⟩ = some (.int .u8 (sn : Int)) := (HSW.out.cell 0).trans rfl
        have ln_ := i1.is_le
        have lw_ := HGW.out.is_le
        have ls_ := HSW.out.is_le
        have hw1 : IntKind.i64.wrap ((sn : Int) + 1) = (sn : Int) + 1 := IntWalk.i64_in _ (by omega)
        replace hK := Lib.hid hK
        replace i2 := Lib.hid i2
        replace i1 := Lib.hid i1
        gi_wp2_with fail
        try refine ⟨trivial, ?_⟩
        refine (GL.out _).mono ?_
        rintro _ w5 ⟨rfl, k5⟩
        have HR5 := Lib.hid (HRW.out.after (k := k5))
        have r5 : w5.cell? ⟨w.heap.size + 1 + 1, 0, none⟩ = some (.bool false) := (HR5.out.cell 0).trans rfl
        have rf5 := HR5.out.frozen 0
        have lr5 := HR5.out.is_le
        have aw5 : After w w5 := after_after awW k5
        have hK5 : w5.heap[D]? = some (.deferred (some [])) := (KeepsOthers.of_after k5).same D _ hK.out rfl
        have hK6 := (KeepsOthers.setCell w5 ⟨w.heap.size + 1 + 1, 0, none⟩ (.bool true)).same D _ hK5 rfl
        have R6 := HR5.out.set_ 0 (.bool true)
        have ck : ((w5.setCell ⟨w.heap.size + 1 + 1, 0, none⟩ (.bool true)).putObj D (.deferred none)).cell? ⟨w.heap.size + 1 + 1, 0, none⟩ = some (.bool true) := cell_kept (by rw [R6.cell]; rfl) (grownBy_putObj' _ D (.deferred none)) (fun r e => by cases e; exact ⟨_, hK6, rfl⟩)
        have hb3 := (aw5.below.setCell (p := ⟨w.heap.size + 1 + 1, 0, none⟩) (by show w.heap.size ≤ w.heap.size + 1 + 1; omega) (.bool true)).trans (belowK_b (w := w) (Nat.le_refl _) (w5.setCell ⟨w.heap.size + 1 + 1, 0, none⟩ (.bool true)) D _ (.deferred none) (by omega) hK6 rfl rfl)
        replace hK5 := Lib.hid hK5
        replace hK6 := Lib.hid hK6
        replace ck := Lib.hid ck
        replace hb3 := Lib.hid hb3
        gi_wp2
        refine ⟨by simp, .inl ⟨_, _, rfl, run_takeDeferred hK6.out, ?_⟩⟩
        exact ⟨.bool true, by have ck_ := ck.out; simp [results, Try.results6, go_sem, ck_], rfl, @After.is_more _ _ ⟨hb3.out⟩⟩

set_option maxRecDepth 100000 in
theorem lifted (os : Os) (started : os.Started) (H : Type) (enc : TypeId × Value → H) :
    ReturnsInHanded {} Try.checked os 6 .any (Rows.exprEachSpec.pre6 enc Try.prog Try.f6 Rows.exprEachRow.domain false) (Rows.exprEachSpec.post enc Try.prog Try.f6 false true false false) := by
  refine returnsInHanded_of_change_sized (C := Try.checked) own started (by kernel_rfl) Try.func6
    (ChangeSpec.witness6 (enc := enc) (C := Try.checked) false ⟨#[], #[.agg #[.int .i64 0, .int .i64 0, .int .i64 0, .int .i64 0, .string ByteArray.empty, .slice none 0 0], .int .u8 0], []⟩ 8 (by kernel_rfl) (by kernel_rfl) (by kernel_rfl) (by kernel_rfl)) ?_
  intro W base args ds gs before hval0 hW hcnd hsz0 _
  have hval : ∀ (j : Nat) t v, Try.f6.params[j]? = some t → args[j]? = some v → Value.okWide Try.prog W .any base t v := hval0
  have hsz : (DataW.weightsEach Try.prog (Try.f6.params.toList ++ Rows.exprEachSpec.plain.varTypes Try.prog) (ds ++ gs)).all (· ≤ reachBytes) = true := hsz0
  have hW' := hW
  obtain ⟨p, q, hA0, hV, rfl, hfz, hnd⟩ := hW
  have hA : DataW.TrodAll enc Try.prog W 0 (fun _ => true) true Try.f6.params.toList args.toList ds p := hA0
  rw [Try.params6] at hA hval hsz
  obtain ⟨v0, vs0, d0, ds0, p0, q0, hargs, rfl, rfl, h0, r0⟩ := trodAll_cons hA
  obtain ⟨v1, vs1, d1, ds1, p1, q1, rfl, rfl, rfl, h1, r1⟩ := trodAll_cons r0
  obtain ⟨rfl, rfl, rfl⟩ := trodAll_nil r1
  obtain rfl : args = #[v0, v1] := by cases args; simp_all
  obtain ⟨rfl, rfl⟩ := trodVars_none hV
  have k0 := h0
  have lt0 : ∀ x ∈ p0, x.block < W.heap.size := by obtain ⟨m, hm⟩ := k0; exact DataW.trod_lt m _ _ _ hm
  have z0 : ∀ n ∈ d0.weights Try.prog 24, n ≤ reachBytes := fun n hn => by
    simpa using List.all_eq_true.1 hsz n (DataW.weights_mem_each (j := 0) (t := 24) rfl rfl n hn)
  obtain ⟨k0_, o0_, t0_, u0_, s0_, A0, c0, xs0, rfl, x0⟩ := open_expr (hval 0 24 v0 rfl rfl) h0 z0
  obtain ⟨a1, rfl, rfl, rfl, w1⟩ := open_int Try.underlying5 (hval 1 5 v1 rfl rfl) h1
  clear hA0 hval0 hsz0 hsz
  refine (walk W x0 a1 w1).mono fun e W' ⟨he, y, hy⟩ => ?_
  subst he
  have bel : Below W.heap.size W W' := by rw [hy]; exact more_below W y
  exact ⟨_, rfl, _, _, _, [], _, [], hW', trodAll_mk1 (shut_bool Try.underlying4 _), (trodAll_cons_mk (Below.trod laidOut (by kernel_rfl) (of_decide_eq_true (by kernel_rfl)) k0 bel lt0) (trodAll_cons_mk (shut_int Try.underlying5 w1) trodAll_mk0)), rfl, bel.frame _, fun h => by cases h⟩

theorem over : Rows.exprEachRow.holds Try.pinned (OpenSpec.ofChange Rows.exprEachSpec) :=
  OpenClaim.holds_of_wide 6 Try.f6 rfl rfl rfl rfl rfl rfl rfl ⟨rfl, rfl, rfl, rfl, rfl⟩ rfl rfl rfl rfl rfl (by kernel_rfl) Try.func6 (by kernel_rfl)
    (of_decide_eq_true (by kernel_rfl)) (by unfold Func.isWrapper; first | (rw [if_pos (by decide +kernel)]; kernel_rfl) | (rw [if_neg (by decide +kernel)]; exact ⟨rfl, rfl⟩))
    (fun os started H enc _ => lifted os started H enc)

theorem proved : Rows.ExprEachSaid := over
#print axioms proved
end Go.Proofs.Ytfoddappedcplaa.exprEach
