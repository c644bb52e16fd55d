/-
  Contract: the program's Stateless.
-/
import Derived.Test.YtdghfhnkacfahaaECount
set_option linter.unusedVariables false
set_option linter.unusedSimpArgs false
namespace Go.Proofs.Ytdghfhnkacfahaa
open Go.RowKit Go.Shelf
attribute [local go_sem] Oper.semAt_some

/-- is a kind one that keeps a state -/
def dk (q : Int) : Bool := q == 5 || q == 6 || q == 7 || q == 10 || q == 11
def stateless (l : List Tx) : Bool := l.all fun e => !dk e.kind
theorem stateless_snoc (l : List Tx) (e : Tx) : stateless (l ++ [e]) = (stateless l && !dk e.kind) := by simp [stateless, List.all_append]
theorem stateless_pre {l m : List Tx} (h : l <+: m) (e : stateless l = false) : stateless m = false := by
  obtain ⟨r, rfl⟩ := h
  unfold stateless at *
  rw [List.all_append, e]; rfl

set_option maxRecDepth 100000 in
set_option maxHeartbeats 4000000 in
theorem stateless_in (F : Fence) (hd : F.depth = none) (n : Nat) (h1 : F.fn 105) (ha : F.fn 16) (hc : F.fn 39) (hf : F.fn 40) (hro : F.round = none) (hn : 3 ≤ n)
    {k o t v : Int} {s : ByteArray} {A : Option Addr} {c : Nat} {xs : List Tx} {w0 : World} (x : RX w0 (.mk k o t v s A c xs)) (w : World) (aft : After w0 w) :
    CallsIn F n Try.prog 105 #[.agg #[.int .i64 k, .int .i64 o, .int .i64 t, .int .i64 v, .string s, .slice A xs.length c]] w fun e w' => e = .returned (.bool (stateless (Tx.mk k o t v s A c xs).list)) ∧ After w w' := by
  have hn1 : 1 ≤ n := by omega
  have hdd : ∀ i : Nat, (F.depth.isSome = true → 1 ≤ i) := fun i h => by rw [hd] at h; cases h
  refine callsIn_of_wp_marks Try.func105 rfl h1 ?_ hro
  simp only [Try.ntmps105, List.size_toArray, List.length_cons, List.length_nil, Nat.reduceAdd, Nat.reduceSub, Array.replicate_succ, Array.replicate_zero, List.push_toArray, List.append_toArray, List.nil_append, List.cons_append]
  gi_wp2_with fail
  refine (eachv_in F (n - 1) ha hro k o t v s A c xs _).mono ?_
  rintro e w' ⟨rfl, rfl⟩
  gi_wp2_with fail
  obtain ⟨U, hU, hUs_, bU, bE, kU⟩ : ∃ U, (((w.alloc (.cells #[.int .i64 k, .int .i64 o, .int .i64 t, .int .i64 v, .string s, .slice A xs.length c] 25)).alloc (.cells #[.bool false] 4)).alloc (.cells #[.int .i64 k, .int .i64 o, .int .i64 t, .int .i64 v, .string s, .slice A xs.length c] 25)) = U ∧ U.heap.size = w.heap.size + 3 ∧ Blk U (w.heap.size + 1) 4 #[.bool false] ∧ Blk U (w.heap.size + 2) 25 #[.int .i64 k, .int .i64 o, .int .i64 t, .int .i64 v, .string s, .slice A xs.length c] ∧ After w U := by
    refine ⟨_, rfl, by simp, (Blk.new1 w _ _ _).alloc _, ?_, inferInstance⟩
    have := Blk.new1 (w.alloc (.cells #[.int .i64 k, .int .i64 o, .int .i64 t, .int .i64 v, .string s, .slice A xs.length c] 25)) (.cells #[.bool false] 4) 25 #[.int .i64 k, .int .i64 o, .int .i64 t, .int .i64 v, .string s, .slice A xs.length c]
    rw [size_alloc_] at this; exact this
  have hseq := each_stops F hd (n - 1) hc hf hro (w.heap.size + 2) (w.heap.size + 2) w0 k o t v s A c xs x U (after_after aft kU) (by omega) bE
  have hn0 := aft.below.size
  have hU1 : w.heap.size + 3 ≤ U.heap.size := Nat.le_of_eq hUs_.symm
  have hU2 : U.heap.size ≤ w.heap.size + 3 := Nat.le_of_eq hUs_
  rw [hU]
  clear hU hUs_
  refine wpIn_rangeFunc_ownH hro hn1 (gf := 39) (lb := #[.pointer (some ⟨w.heap.size + 2, 0, none⟩)]) rfl hc (enters_of Try.func39 (by kernel_rfl) rfl) hseq KpE.trans (KpE.turn (by omega)) (Below.refl _ _) (fun _ => rfl)
    (fun pre W => Blk W (w.heap.size + 1) 4 #[.bool false] ∧ Hid (stateless (els pre) = true) ∧ Below w.heap.size w W ∧ U.heap.size ≤ W.heap.size)
    (fun c pre W => c = .ret ∧ Blk W (w.heap.size + 1) 4 #[.bool false] ∧ Hid (stateless (els pre) = false) ∧ Below w.heap.size w W)
    (fun s A B row hs hg hr => ⟨hs.1.grown hg (fun e => by have := (hr _ e.symm).1; omega), hs.2.1, hs.2.2.1.grown hg hs.2.2.1.size (fun k e => by have := (hr _ e).1; omega), Nat.le_trans hs.2.2.2 hg.size⟩)
    (fun c s A B row hs hg hr => ⟨hs.1, hs.2.1.grown hg (fun e => by have := (hr _ e.symm).1; omega), hs.2.2.1, hs.2.2.2.grown hg hs.2.2.2.size (fun k e => by have := (hr _ e).1; omega)⟩) ⟨bU, rfl, kU.below, Nat.le_refl _⟩
    (fun x a' W => BoxAt U.heap.size (fun p => { tmps := #[.agg #[.int .i64 k, .int .i64 o, .int .i64 t, .int .i64 v, .string s, .slice A xs.length c], .pointer (some ⟨w.heap.size, 0, none⟩), .pointer (some ⟨w.heap.size + 1, 0, none⟩), p, .agg #[.int .i64 k, .int .i64 o, .int .i64 t, .int .i64 v, .string s, .slice A xs.length c], .func (.func 39) #[] #[.pointer (some ⟨w.heap.size + 2, 0, none⟩)], x.1.val, undef, undef, undef, undef, undef, undef, undef, undef], defers := [] }) x.1 a' W)
    (fun x a' => boxAt_own) ?assign ?body ?done ?stop
  case assign =>
    rintro l pre ⟨⟨k1, o1, t1, v1, s1, A1, c1, xs1⟩, hx⟩ W K ⟨i1, i2, i3, i4⟩ hK
    simp only [Tx.val, Tx.kind, Tx.op, Tx.ty, Tx.va, Tx.name, Tx.ad, Tx.args, Tx.cap]
    gi_wp2
    exact hK _ _ ((KeepsOthers.alloc _ _).from _) (KpE.after (by omega) inferInstance) ⟨i1.alloc _, i2, i3.alloc i3.size _, by simp; omega⟩ ⟨W.heap.size, i4, Blk.new _ _ _, rfl⟩
  case body =>
    rintro l pre ⟨e, hx⟩ a' W hl _ ⟨i1, i2, i3, i4⟩ ⟨Bx, hBx, bX, rfl⟩ hlt
    have HSN : Hid (stateless (els (pre ++ [⟨e, hx⟩])) = !dk e.kind) := by show _ = _; rw [els_snoc, stateless_snoc, i2.out, Bool.true_and]
    have c0 : W.cell? ⟨Bx, 0, none⟩ = some (.int .i64 e.kind) := by rw [bX.cell]; rfl
    have c2 : W.cell? ⟨w.heap.size + 1, 0, none⟩ = some (.bool false) := by rw [i1.cell]; rfl
    have f2 := i1.frozen 0
    have lX := bX.is_le
    have l2 := i1.is_le
    have HR : dk e.kind = true → ∀ a : Act, (ownPostG U.heap.size (KpE w0.heap.size (w.heap.size + 2)) (fun (pre : List (RTx w0)) W => Blk W (w.heap.size + 1) 4 #[.bool false] ∧ Hid (stateless (els pre) = true) ∧ Below w.heap.size w W ∧ U.heap.size ≤ W.heap.size)
        (fun c pre W => c = .ret ∧ Blk W (w.heap.size + 1) 4 #[.bool false] ∧ Hid (stateless (els pre) = false) ∧ Below w.heap.size w W) (pre ++ [⟨e, hx⟩]) W .ret a (W.setCell ⟨w.heap.size + 1, 0, none⟩ (.bool false))) := fun hk a => by
      refine ⟨(KeepsOthers.setCell _ _ _).from _, rfl, i1.set_ 0 (.bool false), ?_, i3.setCell (p := ⟨w.heap.size + 1, 0, none⟩) (by show w.heap.size ≤ w.heap.size + 1; omega) _⟩
      show _ = _
      rw [HSN.out, hk]; rfl
    replace HR := Lib.hid HR
    generalize e.kind = q at c0 HSN HR
    by_cases b5 : q = 5
    · subst b5; gi_wp2; exact HR.out rfl _
    by_cases b6 : q = 6
    · subst b6; gi_wp2; exact HR.out rfl _
    by_cases b7 : q = 7
    · subst b7; gi_wp2; exact HR.out rfl _
    by_cases b8 : q = 10
    · subst b8; gi_wp2; exact HR.out rfl _
    by_cases b9 : q = 11
    · subst b9; gi_wp2; exact HR.out rfl _
    have t5 : (q == 5) = false := by simpa using b5
    have t6 : (q == 6) = false := by simpa using b6
    have t7 : (q == 7) = false := by simpa using b7
    have t8 : (q == 10) = false := by simpa using b8
    have t9 : (q == 11) = false := by simpa using b9
    have HD : Hid (stateless (els (pre ++ [⟨e, hx⟩])) = true) := by show _ = _; rw [HSN.out]; unfold dk; rw [t5, t6, t7, t8, t9]; rfl
    gi_wp2
    exact ⟨(KeepsOthers.refl _).from _, KpE.refl _ _ _, i1, HD, i3, i4⟩
  case done =>
    rintro D ys W hD hys ⟨i1, i2, i3, i4⟩ hK
    have HS : Hid (stateless (Tx.mk k o t v s A c xs).list = true) := by have := i2.out; rwa [show els ys = _ from hys] at this
    have c2 : W.cell? ⟨w.heap.size + 1, 0, none⟩ = some (.bool false) := by rw [i1.cell]; rfl
    have f2 := i1.frozen 0
    have l2 := i1.is_le
    have i5 := Lib.hid (i1.set_ 0 (.bool true))
    have hK2 := (KeepsOthers.setCell W ⟨w.heap.size + 1, 0, none⟩ (.bool true)).same D _ hK rfl
    have ck : ((W.setCell ⟨w.heap.size + 1, 0, none⟩ (.bool true)).putObj D (.deferred none)).cell? ⟨w.heap.size + 1, 0, none⟩ = some (.bool true) := cell_kept (by rw [i5.out.cell]; rfl) (grownBy_putObj' _ D (.deferred none)) (fun r e => by cases e; exact ⟨_, hK2, rfl⟩)
    have hb3 := (i3.setCell (p := ⟨w.heap.size + 1, 0, none⟩) (by show w.heap.size ≤ w.heap.size + 1; omega) (.bool true)).trans (belowK_b (w := w) (Nat.le_refl _) (W.setCell ⟨w.heap.size + 1, 0, none⟩ (.bool true)) D _ (.deferred none) (by omega) hK2 rfl rfl)
    gi_wp2
    refine ⟨by simp, .inl ⟨_, _, rfl, run_takeDeferred hK2, ?_⟩⟩
    exact ⟨.bool true, by simp [results, Try.results105, go_sem, ck], by rw [HS.out], ⟨hb3⟩⟩
  case stop =>
    rintro D c pre W hD hpre ⟨rfl, i1, i2, i3⟩ hK
    have HS : Hid (stateless (Tx.mk k o t v s A c xs).list = false) := stateless_pre (show els pre <+: _ from hpre) i2.out
    have ck : (W.putObj D (.deferred none)).cell? ⟨w.heap.size + 1, 0, none⟩ = some (.bool false) := cell_kept (by rw [i1.cell]; rfl) (grownBy_putObj' _ D (.deferred none)) (fun r e => by cases e; exact ⟨_, hK, rfl⟩)
    gi_wp2
    refine ⟨by simp, .inl ⟨_, _, rfl, run_takeDeferred hK, ?_⟩⟩
    exact ⟨.bool false, by simp [results, Try.results105, go_sem, ck], by rw [HS.out], ⟨i3.trans (belowK_b (w := w) (Nat.le_refl _) W D _ _ (by omega) hK rfl rfl)⟩⟩
theorem stateless_any {k o t v : Int} {s : ByteArray} {A : Option Addr} {c : Nat} {xs : List Tx} {w0 : World} (x : RX w0 (.mk k o t v s A c xs)) (w : World) (aft : After w0 w) :
    Calls Try.prog 105 #[.agg #[.int .i64 k, .int .i64 o, .int .i64 t, .int .i64 v, .string s, .slice A xs.length c]] w fun e w' => e = .returned (.bool (stateless (Tx.mk k o t v s A c xs).list)) ∧ After w w' :=
  (callsIn_wide (n := 3)).1 (stateless_in _ rfl 3 trivial trivial trivial trivial rfl (by decide) x w aft)
end Go.Proofs.Ytdghfhnkacfahaa
