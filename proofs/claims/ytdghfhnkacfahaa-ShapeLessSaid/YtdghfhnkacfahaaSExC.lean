/-
  Contract: shape.Expr, the first error of an expression over enumerations.
-/
import Derived.Test.YtdghfhnkacfahaaSEach
import Derived.Test.YtdghfhnkacfahaaECheck
set_option linter.unusedVariables false
set_option linter.unusedSimpArgs false
namespace Go.Proofs.Ytdghfhnkacfahaa
open Go.RowKit Go.Shelf
attribute [local go_sem] Oper.semAt_some

def elsb {w0 : World} (l : List (RTb w0)) : List Tx := l.map (·.1)
theorem elsb_snoc {w0 : World} (l : List (RTb w0)) (x : RTb w0) : elsb (l ++ [x]) = elsb l ++ [x.1] := by simp [elsb]

set_option maxRecDepth 100000 in
set_option maxHeartbeats 4000000 in
theorem sexpr_in {x : Lst EnD} {k o t v : Int} {s : ByteArray} {A : Option Addr} {c : Nat} {xs : List Tx} {w0 : World} (h : RowOf 2 PEn w0 x) (hs : True) (h0 : chkI (.mk k o t v s A c xs) = 0) (hX : RX w0 (.mk k o t v s A c xs)) (hB : TxB (.mk k o t v s A c xs)) (w : World) (aft : After w0 w) :
    CallsIn Fence.wide 3 Try.prog 8 #[.slice x.A x.l.length x.c, .agg #[.int .i64 k, .int .i64 o, .int .i64 t, .int .i64 v, .string s, .slice A xs.length c]] w fun e w' => e = .returned (.int .i64 (firstX x.l (Tx.mk k o t v s A c xs).list)) ∧ After w w' := by
  have HZ : Hid (∀ U, After w0 U → CallsIn Fence.wide 2 Try.prog 15 #[.agg #[.int .i64 k, .int .i64 o, .int .i64 t, .int .i64 v, .string s, .slice A xs.length c]] U fun e w' => e = .returned (.int .i64 0) ∧ After U w') := Lib.hid fun U hU => by
    have := chk_any hX U hU
    rw [h0] at this
    exact callsIn_wide.2 this
  refine callsIn_of_wp_marks Try.func8 rfl trivial ?_ rfl
  simp only [Try.ntmps8, List.size_toArray, List.length_cons, List.length_nil, Nat.reduceAdd, Nat.reduceSub, Array.replicate_succ, Array.replicate_zero, List.push_toArray, List.append_toArray, List.nil_append, List.cons_append]
  gi_wp2_with fail
  refine ⟨trivial, (HZ.out _ (by infer_instance)).mono ?_⟩
  rintro _ w1 ⟨rfl, ha⟩
  obtain ⟨y1, rfl⟩ := @After.is_more _ _ ha
  clear ha HZ
  gi_wp2_with fail
  obtain ⟨V, hV, bV, nV, aV, sV⟩ : ∃ V, (((w.alloc (.cells #[.slice x.A x.l.length x.c] 22)).alloc (.cells #[.int .i64 k, .int .i64 o, .int .i64 t, .int .i64 v, .string s, .slice A xs.length c] 25)).alloc (.cells #[.int .i64 0] 26)).more y1 = V ∧ Blk V (w.heap.size + 1 + 1) 26 #[.int .i64 0] ∧ Blk V w.heap.size 22 #[.slice x.A x.l.length x.c] ∧ After w V ∧ w.heap.size + 3 ≤ V.heap.size := by
    refine ⟨_, rfl, ?_, ?_, inferInstance, ?_⟩
    · have := Blk.new ((w.alloc (.cells #[.slice x.A x.l.length x.c] 22)).alloc (.cells #[.int .i64 k, .int .i64 o, .int .i64 t, .int .i64 v, .string s, .slice A xs.length c] 25)) 26 #[.int .i64 0]
      simp only [World.size_alloc] at this
      exact this.more _
    · exact (((Blk.new w 22 #[.slice x.A x.l.length x.c]).alloc _).alloc _).more _
    have h2 := After.size (((w.alloc (.cells #[.slice x.A x.l.length x.c] 22)).alloc (.cells #[.int .i64 k, .int .i64 o, .int .i64 t, .int .i64 v, .string s, .slice A xs.length c] 25)).alloc (.cells #[.int .i64 0] 26)) ((((w.alloc (.cells #[.slice x.A x.l.length x.c] 22)).alloc (.cells #[.int .i64 k, .int .i64 o, .int .i64 t, .int .i64 v, .string s, .slice A xs.length c] 25)).alloc (.cells #[.int .i64 0] 26)).more y1)
    simpa using h2
  rw [hV]
  clear hV
  refine ⟨trivial, (eachv_in Fence.wide 2 trivial rfl k o t v s A c xs _).mono ?_⟩
  rintro e w' ⟨rfl, rfl⟩
  gi_wp2_with fail
  obtain ⟨g, hg⟩ : ∃ g, V.heap.size = g := ⟨_, rfl⟩
  obtain ⟨U, hU, hUs_, nU, bU, bE, kU⟩ : ∃ U, V.alloc (.cells #[.int .i64 k, .int .i64 o, .int .i64 t, .int .i64 v, .string s, .slice A xs.length c] 25) = U ∧ U.heap.size = g + 1 ∧ Blk U w.heap.size 22 #[.slice x.A x.l.length x.c] ∧ Blk U (w.heap.size + 1 + 1) 26 #[.int .i64 0] ∧ Blk U g 25 #[.int .i64 k, .int .i64 o, .int .i64 t, .int .i64 v, .string s, .slice A xs.length c] ∧ After w U :=
    ⟨_, rfl, by simp [hg], nV.alloc _, bV.alloc _, by rw [← hg]; exact Blk.new V _ _, inferInstance⟩
  have hseq := eachB_stops Fence.wide rfl 2 trivial trivial rfl g g w0 k o t v s A c xs ⟨hX, hB⟩ U (after_after aft kU) (by omega) bE
  have hn0 := aft.below.size
  rw [hU, hg]
  rw [hg] at sV
  clear hU hg
  refine wpIn_rangeFunc_ownH rfl (by decide) (gf := 39) (lb := #[.pointer (some ⟨g, 0, none⟩)]) rfl trivial (enters_of Try.func39 (by kernel_rfl) rfl) hseq KpE.trans (KpE.turn (by omega)) (Below.refl _ _) (fun _ => rfl)
    (fun pre W => Blk W (w.heap.size + 1 + 1) 26 #[.int .i64 0] ∧ Hid (firstX x.l (elsb pre) = 0) ∧ Below w.heap.size w W ∧ U.heap.size ≤ W.heap.size ∧ Blk W w.heap.size 22 #[.slice x.A x.l.length x.c])
    (fun c pre W => c = .ret ∧ Blk W (w.heap.size + 1 + 1) 26 #[.int .i64 (firstX x.l (elsb pre))] ∧ Hid (firstX x.l (elsb pre) ≠ 0) ∧ Below w.heap.size w W)
    (fun s A B row hs hg hr => ⟨hs.1.grown hg (fun e => by have := (hr _ e.symm).1; omega), hs.2.1, hs.2.2.1.grown hg hs.2.2.1.size (fun k e => by have := (hr _ e).1; omega), Nat.le_trans hs.2.2.2.1 hg.size, hs.2.2.2.2.grown hg (fun e => by have := (hr _ e.symm).1; omega)⟩)
    (fun c s A B row hs hg hr => ⟨hs.1, hs.2.1.grown hg (fun e => by have := (hr _ e.symm).1; omega), hs.2.2.1, hs.2.2.2.grown hg hs.2.2.2.size (fun k e => by have := (hr _ e).1; omega)⟩) ⟨bU, rfl, kU.below, Nat.le_refl _, nU⟩
    (fun y a' W => BoxAt U.heap.size (fun p => { tmps := #[.slice x.A x.l.length x.c, .agg #[.int .i64 k, .int .i64 o, .int .i64 t, .int .i64 v, .string s, .slice A xs.length c], .pointer (some ⟨w.heap.size, 0, none⟩), .pointer (some ⟨w.heap.size + 1, 0, none⟩), .pointer (some ⟨w.heap.size + 1 + 1, 0, none⟩), .int .i64 0, p, undef, .agg #[.int .i64 k, .int .i64 o, .int .i64 t, .int .i64 v, .string s, .slice A xs.length c], .int .i64 0, .int .i64 0, .bool false, undef, .agg #[.int .i64 k, .int .i64 o, .int .i64 t, .int .i64 v, .string s, .slice A xs.length c], .func (.func 39) #[] #[.pointer (some ⟨g, 0, none⟩)], y.1.val, undef, undef, undef, undef, undef, undef], defers := [] }) y.1 a' W)
    (fun x a' => boxAt_own) ?assign ?body ?done ?stop
  case assign =>
    rintro l pre ⟨⟨k1, o1, t1, v1, s1, A1, c1, xs1⟩, hx⟩ W K ⟨i1, i2, i3, i4, i5⟩ hK
    simp only [Tx.val, Tx.kind, Tx.op, Tx.ty, Tx.va, Tx.name, Tx.ad, Tx.args, Tx.cap]
    gi_wp2
    exact hK _ _ ((KeepsOthers.alloc _ _).from _) (KpE.after (by omega) inferInstance) ⟨i1.alloc _, i2, i3.alloc i3.size _, by simp; omega, i5.alloc _⟩ ⟨W.heap.size, i4, Blk.new _ _ _, rfl⟩
  case body =>
    rintro l pre ⟨e, hx⟩ a' W hl _ ⟨i1, i2, i3, i4, i5⟩ ⟨Bx, hBx, bX, rfl⟩ hlt
    have c0 : W.cell? ⟨Bx, 0, none⟩ = some (.int .i64 e.kind) := by rw [bX.cell]; rfl
    have c1 : W.cell? ⟨Bx, 1, none⟩ = some (.int .i64 e.op) := by rw [bX.cell]; rfl
    have c2 : W.cell? ⟨Bx, 2, none⟩ = some (.int .i64 e.ty) := by rw [bX.cell]; rfl
    have c3 : W.cell? ⟨Bx, 3, none⟩ = some (.int .i64 e.va) := by rw [bX.cell]; rfl
    have c4 : W.cell? ⟨Bx, 4, none⟩ = some (.string e.name) := by rw [bX.cell]; rfl
    have c5 : W.cell? ⟨Bx, 5, none⟩ = some (.slice e.ad e.args.length e.cap) := by rw [bX.cell]; rfl
    have lX := bX.is_le
    have n0 : W.cell? ⟨w.heap.size, 0, none⟩ = some (.slice x.A x.l.length x.c) := by rw [i5.cell]; rfl
    have ln := i5.is_le
    obtain ⟨r, hr⟩ : ∃ r, insX x.l e = r := ⟨_, rfl⟩
    have HC : Hid (∀ m, CallsIn (Fence.wide.inRound l) m Try.prog 17 #[.slice x.A x.l.length x.c, .agg #[.int .i64 e.kind, .int .i64 e.op, .int .i64 e.ty, .int .i64 e.va, .string e.name, .slice e.ad e.args.length e.cap]] W fun en w' => en = .returned (.int .i64 r) ∧ After W w') := Lib.hid fun m => by
      have hb := hx.bounds
      have := sinside_any h W (after_after aft ⟨i3⟩) e.kind e.op e.ty e.va e.name e.ad e.args.length e.cap hx.2.ty hb.2.2.2
      rw [show insE x.l e.kind e.ty e.va e.args.length = r from hr] at this
      exact CallsIn.inRound l (callsIn_wide.2 this)
    have HSN : Hid (firstX x.l (elsb (pre ++ [⟨e, hx⟩])) = r) := by show _ = _; rw [elsb_snoc, firstX_snoc, if_pos i2.out, hr]
    clear hr
    gi_wp2_with fail
    refine ⟨trivial, (HC.out _).mono ?_⟩
    rintro _ w2 ⟨rfl, ha⟩
    have i1' : Blk w2 (w.heap.size + 1 + 1) 26 #[.int .i64 0] := i1.after (k := ha)
    have i3' : Below w.heap.size w w2 := i3.trans (ha.below.mono i3.size)
    have i4' : U.heap.size ≤ w2.heap.size := Nat.le_trans i4 ha.below.size
    have cr : w2.cell? ⟨w.heap.size + 1 + 1, 0, none⟩ = some (.int .i64 0) := by rw [i1'.cell]; rfl
    have fr := i1'.frozen 0
    have lr := i1'.is_le
    have i5_ : Blk w2 w.heap.size 22 #[.slice x.A x.l.length x.c] := i5.after (k := ha)
    clear HC n0 ln c0 c1 c2 c3 c4 c5 lX
    by_cases h0 : r = 0
    · subst h0
      gi_wp2
      exact ⟨(KeepsOthers.of_after ha).from _, KpE.after (by omega) ha, i1', HSN, i3', i4', i5_⟩
    · have h0' : (r != 0) = true := by simpa using h0
      gi_wp2
      refine ⟨((KeepsOthers.of_after ha).trans (KeepsOthers.setCell _ _ _)).from _, rfl, ?_, ?_, i3'.setCell (p := ⟨w.heap.size + 1 + 1, 0, none⟩) (by show w.heap.size ≤ w.heap.size + 1 + 1; omega) _⟩
      · rw [HSN.out]; exact i1'.set_ 0 (.int .i64 r)
      · show _ ≠ _; rw [HSN.out]; exact h0
  case done =>
    rintro D ys W hD hys ⟨i1, i2, i3, i4, i5⟩ hK
    have HS : Hid (firstX x.l (Tx.mk k o t v s A c xs).list = 0) := by have := i2.out; rwa [show elsb ys = _ from hys] at this
    have c2 : W.cell? ⟨w.heap.size + 1 + 1, 0, none⟩ = some (.int .i64 0) := by rw [i1.cell]; rfl
    have f2 := i1.frozen 0
    have l2 := i1.is_le
    have i5 := Lib.hid (i1.set_ 0 (.int .i64 0))
    have hK2 := (KeepsOthers.setCell W ⟨w.heap.size + 1 + 1, 0, none⟩ (.int .i64 0)).same D _ hK rfl
    have ck : ((W.setCell ⟨w.heap.size + 1 + 1, 0, none⟩ (.int .i64 0)).putObj D (.deferred none)).cell? ⟨w.heap.size + 1 + 1, 0, none⟩ = some (.int .i64 0) := cell_kept (by rw [i5.out.cell]; rfl) (grownBy_putObj' _ D (.deferred none)) (fun r e => by cases e; exact ⟨_, hK2, rfl⟩)
    have hb3 := (i3.setCell (p := ⟨w.heap.size + 1 + 1, 0, none⟩) (by show w.heap.size ≤ w.heap.size + 1 + 1; omega) (.int .i64 0)).trans (belowK_b (w := w) (Nat.le_refl _) (W.setCell ⟨w.heap.size + 1 + 1, 0, none⟩ (.int .i64 0)) D _ (.deferred none) (by omega) hK2 rfl rfl)
    gi_wp2
    refine ⟨by simp, .inl ⟨_, _, rfl, run_takeDeferred hK2, ?_⟩⟩
    exact ⟨.int .i64 0, by simp [results, Try.results8, go_sem, ck], by rw [HS.out], ⟨hb3⟩⟩
  case stop =>
    rintro D c pre W hD hpre ⟨rfl, i1, i2, i3⟩ hK
    have HS : Hid (firstX x.l (Tx.mk k o t v s A c xs).list = firstX x.l (elsb pre)) := firstX_pre x.l (show elsb pre <+: _ from hpre) i2.out
    have ck : (W.putObj D (.deferred none)).cell? ⟨w.heap.size + 1 + 1, 0, none⟩ = some (.int .i64 (firstX x.l (elsb pre))) := cell_kept (by rw [i1.cell]; rfl) (grownBy_putObj' _ D (.deferred none)) (fun r e => by cases e; exact ⟨_, hK, rfl⟩)
    gi_wp2
    refine ⟨by simp, .inl ⟨_, _, rfl, run_takeDeferred hK, ?_⟩⟩
    exact ⟨.int .i64 (firstX x.l (elsb pre)), by simp [results, Try.results8, go_sem, ck], by rw [HS.out], ⟨i3.trans (belowK_b (w := w) (Nat.le_refl _) W D _ _ (by omega) hK rfl rfl)⟩⟩

set_option maxRecDepth 100000 in
set_option maxHeartbeats 4000000 in
theorem sexpr_any {x : Lst EnD} {k o t v : Int} {s : ByteArray} {A : Option Addr} {c : Nat} {xs : List Tx} {w0 : World} (h : RowOf 2 PEn w0 x) (hs : True) (hX : RX w0 (.mk k o t v s A c xs)) (hB : TxB (.mk k o t v s A c xs)) (w : World) (aft : After w0 w) :
    Calls Try.prog 8 #[.slice x.A x.l.length x.c, .agg #[.int .i64 k, .int .i64 o, .int .i64 t, .int .i64 v, .string s, .slice A xs.length c]] w fun e w' => e = .returned (.int .i64 (exE x.l (.mk k o t v s A c xs))) ∧ After w w' := by
  by_cases h0 : chkI (.mk k o t v s A c xs) = 0
  · have := (callsIn_wide (n := 3)).1 (sexpr_in h hs h0 hX hB w aft)
    unfold exE
    rw [if_pos h0]
    exact this
  have HV : Hid (exE x.l (.mk k o t v s A c xs) = chkI (.mk k o t v s A c xs)) := by show _ = _; unfold exE; rw [if_neg h0]
  have HC : Hid (∀ U, After w0 U → Calls Try.prog 15 #[.agg #[.int .i64 k, .int .i64 o, .int .i64 t, .int .i64 v, .string s, .slice A xs.length c]] U fun e w' => e = .returned (.int .i64 (chkI (.mk k o t v s A c xs))) ∧ After U w') := Lib.hid fun U hU => chk_any hX U hU
  obtain ⟨q, hq⟩ : ∃ q, chkI (.mk k o t v s A c xs) = q := ⟨_, rfl⟩
  rw [hq] at HV HC h0
  clear hq hs
  have z1 : (q == 0) = false := by rw [beq_eq_false_iff_ne]; exact h0
  have z2 : (q != 0) = true := by rw [bne, z1]; rfl
  go_enter Try.func8, Try.ntmps8
  go_wp2_with fail
  refine (HC.out _ inferInstance).mono ?_
  rintro _ w1 ⟨rfl, ha⟩
  obtain ⟨y1, rfl⟩ := @After.is_more _ _ ha
  clear ha HC
  go_wp2_with fail
  refine bodyPost_ret (v := .int .i64 q) (by simp [results, Try.results8, go_sem]) rfl ⟨by rw [HV.out], inferInstance⟩
end Go.Proofs.Ytdghfhnkacfahaa
