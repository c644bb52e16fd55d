/-
  Contract: the program's Check.
-/
import Derived.Test.YtdghfhnkacfahaaEOne
import Derived.Test.YtdghfhnkacfahaaEStl
set_option linter.unusedVariables false
set_option linter.unusedSimpArgs false
namespace Go.Proofs.Ytdghfhnkacfahaa
open Go.RowKit Go.Shelf
attribute [local go_sem] Oper.semAt_some

/-- the error of an expression without its arguments -/
noncomputable def errOf (e : Tx) : Int := oneI e.kind e.op e.ty e.va e.name e.args.length
/-- the first error in a list -/
noncomputable def firstI : List Tx → Int
  | [] => 0
  | e :: l => if errOf e = 0 then firstI l else errOf e
theorem firstI_append (l m : List Tx) : firstI (l ++ m) = if firstI l = 0 then firstI m else firstI l := by
  induction l with
  | nil => simp [firstI]
  | cons a l ih =>
    rw [List.cons_append, firstI, firstI, ih]
    by_cases h : errOf a = 0
    · rw [if_pos h, if_pos h]
    · rw [if_neg h, if_neg h, if_neg h]
theorem firstI_snoc (l : List Tx) (e : Tx) : firstI (l ++ [e]) = if firstI l = 0 then errOf e else firstI l := by
  rw [firstI_append]
  have : firstI [e] = errOf e := by simp only [firstI]; split <;> simp_all
  rw [this]
theorem firstI_pre {l m : List Tx} (h : l <+: m) (e : firstI l ≠ 0) : firstI m = firstI l := by
  obtain ⟨r, rfl⟩ := h
  rw [firstI_append, if_neg e]
noncomputable def chkI (e : Tx) : Int := if 400 < szW e ∨ 32 < dpW e then 3 else firstI e.list
theorem KeepsOthers.of_after {A B : World} (h : After A B) : KeepsOthers A B :=
  ⟨h.below.size, fun i o hi _ => by
    have hlt : i < A.heap.size := by
      rcases Nat.lt_or_ge i A.heap.size with h | h
      · exact h
      · rw [Array.getElem?_eq_none h] at hi; cases hi
    rw [h.below.block i hlt]; exact hi⟩

set_option maxRecDepth 100000 in
set_option maxHeartbeats 4000000 in
theorem check_in {k o t v : Int} {s : ByteArray} {A : Option Addr} {c : Nat} {xs : List Tx} {w0 : World} (h4 : ¬ 400 < szW (Tx.mk k o t v s A c xs)) (h3 : ¬ 32 < dpW (Tx.mk k o t v s A c xs)) (x : RX w0 (.mk k o t v s A c xs)) (w : World) (aft : After w0 w) :
    CallsIn Fence.wide 3 Try.prog 15 #[.agg #[.int .i64 k, .int .i64 o, .int .i64 t, .int .i64 v, .string s, .slice A xs.length c]] w fun e w' => e = .returned (.int .i64 (firstI (Tx.mk k o t v s A c xs).list)) ∧ After w w' := by
  have HZ : Hid (∀ U, After w0 U → CallsIn Fence.wide 2 Try.prog 36 #[.agg #[.int .i64 k, .int .i64 o, .int .i64 t, .int .i64 v, .string s, .slice A xs.length c]] U fun e w' => e = .returned (.int .i64 (szW (Tx.mk k o t v s A c xs))) ∧ After U w') := Lib.hid fun U hU => callsIn_wide.2 (size_any x U hU)
  have HD : Hid (∀ U, After w0 U → CallsIn Fence.wide 2 Try.prog 37 #[.agg #[.int .i64 k, .int .i64 o, .int .i64 t, .int .i64 v, .string s, .slice A xs.length c]] U fun e w' => e = .returned (.int .i64 (dpW (Tx.mk k o t v s A c xs))) ∧ After U w') := Lib.hid fun U hU => callsIn_wide.2 (depth_any x U hU)
  obtain ⟨nz, hnz⟩ : ∃ nz, szW (Tx.mk k o t v s A c xs) = nz := ⟨_, rfl⟩
  obtain ⟨nd, hnd⟩ : ∃ nd, dpW (Tx.mk k o t v s A c xs) = nd := ⟨_, rfl⟩
  rw [hnz] at HZ h4
  rw [hnd] at HD h3
  have h4I : ¬ (400 : Int) < (nz : Int) := by omega
  have h3I : ¬ (32 : Int) < (nd : Int) := by omega
  clear hnd
  refine callsIn_of_wp_marks Try.func15 rfl trivial ?_ rfl
  simp only [Try.ntmps15, List.size_toArray, List.length_cons, List.length_nil, Nat.reduceAdd, Nat.reduceSub, Array.replicate_succ, Array.replicate_zero, List.push_toArray, List.append_toArray, List.nil_append, List.cons_append]
  gi_wp2_with fail
  refine ⟨trivial, (HZ.out _ (by infer_instance)).mono ?_⟩
  rintro _ w1 ⟨rfl, ha⟩
  obtain ⟨y1, rfl⟩ := @After.is_more _ _ ha
  clear ha HZ
  gi_wp2_with fail
  refine ⟨trivial, (HD.out _ (by infer_instance)).mono ?_⟩
  rintro _ w2 ⟨rfl, ha⟩
  obtain ⟨y2, rfl⟩ := @After.is_more _ _ ha
  clear ha HD
  gi_wp2_with fail
  simp only [show decide ((400 : Int) < (nz : Int)) = false from decide_eq_false (by omega), show decide ((32 : Int) < (nd : Int)) = false from decide_eq_false (by omega), Bool.or_false]
  obtain ⟨V, hV, bV, aV, sV⟩ : ∃ V, (((w.alloc (.cells #[.int .i64 k, .int .i64 o, .int .i64 t, .int .i64 v, .string s, .slice A xs.length c] 25)).alloc (.cells #[.int .i64 0] 26)).more y1).more y2 = V ∧ Blk V (w.heap.size + 1) 26 #[.int .i64 0] ∧ After w V ∧ w.heap.size + 2 ≤ V.heap.size := by
    refine ⟨_, rfl, ((Blk.new1 w _ _ _).more _).more _, inferInstance, ?_⟩
    have h2 := After.size ((w.alloc (.cells #[.int .i64 k, .int .i64 o, .int .i64 t, .int .i64 v, .string s, .slice A xs.length c] 25)).alloc (.cells #[.int .i64 0] 26)) ((((w.alloc (.cells #[.int .i64 k, .int .i64 o, .int .i64 t, .int .i64 v, .string s, .slice A xs.length c] 25)).alloc (.cells #[.int .i64 0] 26)).more y1).more y2)
    simpa using h2
  rw [hV]
  clear hV
  refine ⟨trivial, (eachv_in Fence.wide 2 trivial rfl k o t v s A c xs _).mono ?_⟩
  rintro e w' ⟨rfl, rfl⟩
  gi_wp2_with fail
  obtain ⟨g, hg⟩ : ∃ g, V.heap.size = g := ⟨_, rfl⟩
  obtain ⟨U, hU, hUs_, bU, bE, kU⟩ : ∃ U, V.alloc (.cells #[.int .i64 k, .int .i64 o, .int .i64 t, .int .i64 v, .string s, .slice A xs.length c] 25) = U ∧ U.heap.size = g + 1 ∧ Blk U (w.heap.size + 1) 26 #[.int .i64 0] ∧ Blk U g 25 #[.int .i64 k, .int .i64 o, .int .i64 t, .int .i64 v, .string s, .slice A xs.length c] ∧ After w U :=
    ⟨_, rfl, by simp [hg], bV.alloc _, by rw [← hg]; exact Blk.new V _ _, inferInstance⟩
  have hseq := each_stops Fence.wide rfl 2 trivial trivial rfl g g w0 k o t v s A c xs x U (after_after aft kU) (by omega) bE
  have hn0 := aft.below.size
  rw [hU, hg]
  rw [hg] at sV
  clear hU hg
  refine wpIn_rangeFunc_ownH rfl (by decide) (gf := 39) (lb := #[.pointer (some ⟨g, 0, none⟩)]) rfl trivial (enters_of Try.func39 (by kernel_rfl) rfl) hseq KpE.trans (KpE.turn (by omega)) (Below.refl _ _) (fun _ => rfl)
    (fun pre W => Blk W (w.heap.size + 1) 26 #[.int .i64 0] ∧ Hid (firstI (els pre) = 0) ∧ Below w.heap.size w W ∧ U.heap.size ≤ W.heap.size)
    (fun c pre W => c = .ret ∧ Blk W (w.heap.size + 1) 26 #[.int .i64 (firstI (els pre))] ∧ Hid (firstI (els pre) ≠ 0) ∧ Below w.heap.size w W)
    (fun s A B row hs hg hr => ⟨hs.1.grown hg (fun e => by have := (hr _ e.symm).1; omega), hs.2.1, hs.2.2.1.grown hg hs.2.2.1.size (fun k e => by have := (hr _ e).1; omega), Nat.le_trans hs.2.2.2 hg.size⟩)
    (fun c s A B row hs hg hr => ⟨hs.1, hs.2.1.grown hg (fun e => by have := (hr _ e.symm).1; omega), hs.2.2.1, hs.2.2.2.grown hg hs.2.2.2.size (fun k e => by have := (hr _ e).1; omega)⟩) ⟨bU, rfl, kU.below, Nat.le_refl _⟩
    (fun x a' W => BoxAt U.heap.size (fun p => { tmps := #[.agg #[.int .i64 k, .int .i64 o, .int .i64 t, .int .i64 v, .string s, .slice A xs.length c], .pointer (some ⟨w.heap.size, 0, none⟩), .pointer (some ⟨w.heap.size + 1, 0, none⟩), p, undef, .agg #[.int .i64 k, .int .i64 o, .int .i64 t, .int .i64 v, .string s, .slice A xs.length c], .int .i64 nz, .bool false, .bool false, .agg #[.int .i64 k, .int .i64 o, .int .i64 t, .int .i64 v, .string s, .slice A xs.length c], .int .i64 nd, .bool false, .bool false, .agg #[.int .i64 k, .int .i64 o, .int .i64 t, .int .i64 v, .string s, .slice A xs.length c], .func (.func 39) #[] #[.pointer (some ⟨g, 0, none⟩)], x.1.val, undef, undef, undef, undef, undef], defers := [] }) x.1 a' W)
    (fun x a' => boxAt_own) ?assign ?body ?done ?stop
  case assign =>
    rintro l pre ⟨⟨k1, o1, t1, v1, s1, A1, c1, xs1⟩, hx⟩ W K ⟨i1, i2, i3, i4⟩ hK
    simp only [Tx.val, Tx.kind, Tx.op, Tx.ty, Tx.va, Tx.name, Tx.ad, Tx.args, Tx.cap]
    gi_wp2
    exact hK _ _ ((KeepsOthers.alloc _ _).from _) (KpE.after (by omega) inferInstance) ⟨i1.alloc _, i2, i3.alloc i3.size _, by simp; omega⟩ ⟨W.heap.size, i4, Blk.new _ _ _, rfl⟩
  case body =>
    rintro l pre ⟨e, hx⟩ a' W hl _ ⟨i1, i2, i3, i4⟩ ⟨Bx, hBx, bX, rfl⟩ hlt
    have c0 : W.cell? ⟨Bx, 0, none⟩ = some (.int .i64 e.kind) := by rw [bX.cell]; rfl
    have c1 : W.cell? ⟨Bx, 1, none⟩ = some (.int .i64 e.op) := by rw [bX.cell]; rfl
    have c2 : W.cell? ⟨Bx, 2, none⟩ = some (.int .i64 e.ty) := by rw [bX.cell]; rfl
    have c3 : W.cell? ⟨Bx, 3, none⟩ = some (.int .i64 e.va) := by rw [bX.cell]; rfl
    have c4 : W.cell? ⟨Bx, 4, none⟩ = some (.string e.name) := by rw [bX.cell]; rfl
    have c5 : W.cell? ⟨Bx, 5, none⟩ = some (.slice e.ad e.args.length e.cap) := by rw [bX.cell]; rfl
    have lX := bX.is_le
    obtain ⟨r, hr⟩ : ∃ r, errOf e = r := ⟨_, rfl⟩
    have HC : Hid (∀ m W', CallsIn (Fence.wide.inRound l) m Try.prog 38 #[.agg #[.int .i64 e.kind, .int .i64 e.op, .int .i64 e.ty, .int .i64 e.va, .string e.name, .slice e.ad e.args.length e.cap]] W' fun en w' => en = .returned (.int .i64 r) ∧ After W' w') := Lib.hid fun m W' => by
      have hb := hx.bounds
      have := one_any (k := e.kind) (o := e.op) (t := e.ty) (v := e.va) (s := e.name) (A := e.ad) (n := e.args.length) (c := e.cap) hb.2.2.2 hb.1 W'
      rw [show oneI e.kind e.op e.ty e.va e.name e.args.length = r from hr] at this
      exact CallsIn.inRound l (callsIn_wide.2 this)
    have HSN : Hid (firstI (els (pre ++ [⟨e, hx⟩])) = r) := by show _ = _; rw [els_snoc, firstI_snoc, if_pos i2.out, hr]
    clear hr
    gi_wp2_with fail
    refine ⟨trivial, (HC.out _ _).mono ?_⟩
    rintro _ w2 ⟨rfl, ha⟩
    have i1' : Blk w2 (w.heap.size + 1) 26 #[.int .i64 0] := i1.after (k := ha)
    have i3' : Below w.heap.size w w2 := i3.trans (ha.below.mono i3.size)
    have i4' : U.heap.size ≤ w2.heap.size := Nat.le_trans i4 ha.below.size
    have cr : w2.cell? ⟨w.heap.size + 1, 0, none⟩ = some (.int .i64 0) := by rw [i1'.cell]; rfl
    have fr := i1'.frozen 0
    have lr := i1'.is_le
    clear HC c0 c1 c2 c3 c4 c5 lX
    by_cases h0 : r = 0
    · subst h0
      gi_wp2
      exact ⟨(KeepsOthers.of_after ha).from _, KpE.after (by omega) ha, i1', HSN, i3', i4'⟩
    · have h0' : (r != 0) = true := by simpa using h0
      gi_wp2
      refine ⟨((KeepsOthers.of_after ha).trans (KeepsOthers.setCell _ _ _)).from _, rfl, ?_, ?_, i3'.setCell (p := ⟨w.heap.size + 1, 0, none⟩) (by show w.heap.size ≤ w.heap.size + 1; omega) _⟩
      · rw [HSN.out]; exact i1'.set_ 0 (.int .i64 r)
      · show _ ≠ _; rw [HSN.out]; exact h0
  case done =>
    rintro D ys W hD hys ⟨i1, i2, i3, i4⟩ hK
    have HS : Hid (firstI (Tx.mk k o t v s A c xs).list = 0) := by have := i2.out; rwa [show els ys = _ from hys] at this
    have c2 : W.cell? ⟨w.heap.size + 1, 0, none⟩ = some (.int .i64 0) := by rw [i1.cell]; rfl
    have f2 := i1.frozen 0
    have l2 := i1.is_le
    have i5 := Lib.hid (i1.set_ 0 (.int .i64 0))
    have hK2 := (KeepsOthers.setCell W ⟨w.heap.size + 1, 0, none⟩ (.int .i64 0)).same D _ hK rfl
    have ck : ((W.setCell ⟨w.heap.size + 1, 0, none⟩ (.int .i64 0)).putObj D (.deferred none)).cell? ⟨w.heap.size + 1, 0, none⟩ = some (.int .i64 0) := cell_kept (by rw [i5.out.cell]; rfl) (grownBy_putObj' _ D (.deferred none)) (fun r e => by cases e; exact ⟨_, hK2, rfl⟩)
    have hb3 := (i3.setCell (p := ⟨w.heap.size + 1, 0, none⟩) (by show w.heap.size ≤ w.heap.size + 1; omega) (.int .i64 0)).trans (belowK_b (w := w) (Nat.le_refl _) (W.setCell ⟨w.heap.size + 1, 0, none⟩ (.int .i64 0)) D _ (.deferred none) (by omega) hK2 rfl rfl)
    gi_wp2
    refine ⟨by simp, .inl ⟨_, _, rfl, run_takeDeferred hK2, ?_⟩⟩
    exact ⟨.int .i64 0, by simp [results, Try.results15, go_sem, ck], by rw [HS.out], ⟨hb3⟩⟩
  case stop =>
    rintro D c pre W hD hpre ⟨rfl, i1, i2, i3⟩ hK
    have HS : Hid (firstI (Tx.mk k o t v s A c xs).list = firstI (els pre)) := firstI_pre (show els pre <+: _ from hpre) i2.out
    have ck : (W.putObj D (.deferred none)).cell? ⟨w.heap.size + 1, 0, none⟩ = some (.int .i64 (firstI (els pre))) := cell_kept (by rw [i1.cell]; rfl) (grownBy_putObj' _ D (.deferred none)) (fun r e => by cases e; exact ⟨_, hK, rfl⟩)
    gi_wp2
    refine ⟨by simp, .inl ⟨_, _, rfl, run_takeDeferred hK, ?_⟩⟩
    exact ⟨.int .i64 (firstI (els pre)), by simp [results, Try.results15, go_sem, ck], by rw [HS.out], ⟨i3.trans (belowK_b (w := w) (Nat.le_refl _) W D _ _ (by omega) hK rfl rfl)⟩⟩

set_option maxRecDepth 100000 in
set_option maxHeartbeats 4000000 in
theorem chk_any {k o t v : Int} {s : ByteArray} {A : Option Addr} {c : Nat} {xs : List Tx} {w0 : World} (x : RX w0 (.mk k o t v s A c xs)) (w : World) (aft : After w0 w) :
    Calls Try.prog 15 #[.agg #[.int .i64 k, .int .i64 o, .int .i64 t, .int .i64 v, .string s, .slice A xs.length c]] w fun e w' => e = .returned (.int .i64 (chkI (Tx.mk k o t v s A c xs))) ∧ After w w' := by
  by_cases h4 : 400 < szW (Tx.mk k o t v s A c xs)
  · have HV : Hid (chkI (Tx.mk k o t v s A c xs) = 3) := by show _ = _; unfold chkI; rw [if_pos (.inl h4)]
    have HZ : Hid (∀ U, After w0 U → Calls Try.prog 36 #[.agg #[.int .i64 k, .int .i64 o, .int .i64 t, .int .i64 v, .string s, .slice A xs.length c]] U fun e w' => e = .returned (.int .i64 (szW (Tx.mk k o t v s A c xs))) ∧ After U w') := Lib.hid fun U hU => size_any x U hU
    obtain ⟨nz, hnz⟩ : ∃ nz, szW (Tx.mk k o t v s A c xs) = nz := ⟨_, rfl⟩
    rw [hnz] at HZ h4
    have h4I : (400 : Int) < (nz : Int) := by omega
    clear hnz
    go_enter Try.func15, Try.ntmps15
    go_wp2_with fail
    refine (HZ.out _ inferInstance).mono ?_
    rintro _ w1 ⟨rfl, ha⟩
    obtain ⟨y1, rfl⟩ := @After.is_more _ _ ha
    clear ha HZ
    go_wp2_with fail
    refine bodyPost_ret (v := .int .i64 3) (by simp [results, Try.results15, go_sem]) rfl ⟨by rw [HV.out], inferInstance⟩
  by_cases h3 : 32 < dpW (Tx.mk k o t v s A c xs)
  · have HV : Hid (chkI (Tx.mk k o t v s A c xs) = 3) := by show _ = _; unfold chkI; rw [if_pos (.inr h3)]
    have HZ : Hid (∀ U, After w0 U → Calls Try.prog 36 #[.agg #[.int .i64 k, .int .i64 o, .int .i64 t, .int .i64 v, .string s, .slice A xs.length c]] U fun e w' => e = .returned (.int .i64 (szW (Tx.mk k o t v s A c xs))) ∧ After U w') := Lib.hid fun U hU => size_any x U hU
    have HD : Hid (∀ U, After w0 U → Calls Try.prog 37 #[.agg #[.int .i64 k, .int .i64 o, .int .i64 t, .int .i64 v, .string s, .slice A xs.length c]] U fun e w' => e = .returned (.int .i64 (dpW (Tx.mk k o t v s A c xs))) ∧ After U w') := Lib.hid fun U hU => depth_any x U hU
    obtain ⟨nz, hnz⟩ : ∃ nz, szW (Tx.mk k o t v s A c xs) = nz := ⟨_, rfl⟩
    obtain ⟨nd, hnd⟩ : ∃ nd, dpW (Tx.mk k o t v s A c xs) = nd := ⟨_, rfl⟩
    rw [hnz] at HZ h4
    rw [hnd] at HD h3
    have h4I : ¬ (400 : Int) < (nz : Int) := by omega
    have h3I : (32 : Int) < (nd : Int) := by omega
    clear hnz hnd
    go_enter Try.func15, Try.ntmps15
    go_wp2_with fail
    refine (HZ.out _ inferInstance).mono ?_
    rintro _ w1 ⟨rfl, ha⟩
    obtain ⟨y1, rfl⟩ := @After.is_more _ _ ha
    clear ha HZ
    go_wp2_with fail
    refine (HD.out _ inferInstance).mono ?_
    rintro _ w1 ⟨rfl, ha⟩
    obtain ⟨y2, rfl⟩ := @After.is_more _ _ ha
    clear ha HD
    go_wp2_with fail
    refine bodyPost_ret (v := .int .i64 3) (by simp [results, Try.results15, go_sem]) rfl ⟨by rw [HV.out], inferInstance⟩
  have := (callsIn_wide (n := 3)).1 (check_in h4 h3 x w aft)
  unfold chkI
  rw [if_neg (by omega)]
  exact this
end Go.Proofs.Ytdghfhnkacfahaa
