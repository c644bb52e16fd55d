/-
  Contract: the program's Count.
-/
import Derived.Test.YtfoddappedcplaaEFor
set_option linter.unusedVariables false
set_option linter.unusedSimpArgs false
namespace Go.Proofs.Ytfoddappedcplaa
open Go.RowKit Go.Shelf
attribute [local go_sem] Oper.semAt_some

def kindsN (l : List Tx) (q : Int) : Nat := (l.filter fun e => e.kind == q).length
theorem kindsN_le (l : List Tx) (q : Int) : kindsN l q ≤ l.length := List.length_filter_le _ _
theorem kindsN_snoc (l : List Tx) (e : Tx) (q : Int) : kindsN (l ++ [e]) q = kindsN l q + if e.kind == q then 1 else 0 := by
  unfold kindsN
  rw [List.filter_append, List.length_append]
  cases h : e.kind == q <;> simp [List.filter_cons, h]
/-- the expressions that have come -/
def els {w0 : World} (l : List (RTx w0)) : List Tx := l.map fun x => x.1
theorem els_snoc {w0 : World} (l : List (RTx w0)) (e : Tx) (h : RX w0 e) : els (l ++ [⟨e, h⟩]) = els l ++ [e] := by simp [els]
theorem els_length {w0 : World} (l : List (RTx w0)) : (els l).length = l.length := by simp [els]
/-- the box of a round's variable -/
def BoxAt (D : Nat) (mk : Value → Act) (x : Tx) (a' : Act) (W : World) : Prop := ∃ Bx, D ≤ Bx ∧ Blk W Bx 24 x.cells ∧ a' = mk (.pointer (some ⟨Bx, 0, none⟩))
theorem boxAt_own {D B : Nat} {mk : Value → Act} {x : Tx} {a' : Act} : OwnFrom B (fun (_ : Unit) W => BoxAt D mk x a' W) := by
  rintro s A C row ⟨Bx, h1, h2, h3⟩ hg hr
  refine ⟨Bx, h1, h2.grown hg (fun e => ?_), h3⟩
  obtain ⟨_, ob, ho, hc⟩ := hr _ e.symm
  unfold Blk at h2
  rw [h2] at ho; cases ho; cases hc

set_option maxRecDepth 100000 in
set_option maxHeartbeats 4000000 in
theorem count_in (F : Fence) (hd : F.depth = none) (n : Nat) (h1 : F.fn 18) (ha : F.fn 28) (hc : F.fn 44) (hf : F.fn 45) (hro : F.round = none) (hn : 3 ≤ n)
    {k o t v : Int} {s : ByteArray} {A : Option Addr} {c : Nat} {xs : List Tx} {w0 : World} (hs : (Tx.mk k o t v s A c xs).size ≤ 1000000) (x : RX w0 (.mk k o t v s A c xs)) (q : Int) (w : World) (aft : After w0 w) :
    CallsIn F n Try.prog 18 #[.agg #[.int .i64 k, .int .i64 o, .int .i64 t, .int .i64 v, .string s, .slice A xs.length c], .int .i64 q] w fun e w' => e = .returned (.int .i64 (kindsN (Tx.mk k o t v s A c xs).list q : Nat)) ∧ After w w' := by
  have hn1 : 1 ≤ n := by omega
  have hdd : ∀ i : Nat, (F.depth.isSome = true → 1 ≤ i) := fun i h => by rw [hd] at h; cases h
  refine callsIn_of_wp_marks Try.func18 rfl h1 ?_ hro
  simp only [Try.ntmps18, List.size_toArray, List.length_cons, List.length_nil, Nat.reduceAdd, Nat.reduceSub, Array.replicate_succ, Array.replicate_zero, List.push_toArray, List.append_toArray, List.nil_append, List.cons_append]
  gi_wp2_with fail
  refine (eachv_in F (n - 1) ha hro k o t v s A c xs _).mono ?_
  rintro e w' ⟨rfl, rfl⟩
  gi_wp2_with fail
  obtain ⟨N, hNs⟩ : ∃ N, (Tx.mk k o t v s A c xs).size = N := ⟨_, rfl⟩
  obtain ⟨U, hU, hUs_, bQ, bU, bE, kU⟩ : ∃ U, ((((w.alloc (.cells #[.int .i64 k, .int .i64 o, .int .i64 t, .int .i64 v, .string s, .slice A xs.length c] 24)).alloc (.cells #[.int .i64 q] 3)).alloc (.cells #[.int .i64 0] 3)).alloc (.cells #[.int .i64 k, .int .i64 o, .int .i64 t, .int .i64 v, .string s, .slice A xs.length c] 24)) = U ∧ U.heap.size = w.heap.size + 4 ∧ Blk U (w.heap.size + 1) 3 #[.int .i64 q] ∧ Blk U (w.heap.size + 2) 3 #[.int .i64 0] ∧ Blk U (w.heap.size + 3) 24 #[.int .i64 k, .int .i64 o, .int .i64 t, .int .i64 v, .string s, .slice A xs.length c] ∧ After w U := by
    refine ⟨_, rfl, by simp, ((Blk.new1 w _ _ _).alloc _).alloc _, ?_, ?_, inferInstance⟩
    · have := (Blk.new1 (w.alloc (.cells #[.int .i64 k, .int .i64 o, .int .i64 t, .int .i64 v, .string s, .slice A xs.length c] 24)) (.cells #[.int .i64 q] 3) 3 #[.int .i64 0]).alloc (.cells #[.int .i64 k, .int .i64 o, .int .i64 t, .int .i64 v, .string s, .slice A xs.length c] 24)
      rw [size_alloc_] at this; exact this
    · have := Blk.new1 ((w.alloc (.cells #[.int .i64 k, .int .i64 o, .int .i64 t, .int .i64 v, .string s, .slice A xs.length c] 24)).alloc (.cells #[.int .i64 q] 3)) (.cells #[.int .i64 0] 3) 24 #[.int .i64 k, .int .i64 o, .int .i64 t, .int .i64 v, .string s, .slice A xs.length c]
      rw [size_alloc_, size_alloc_] at this; exact this
  have hseq := each_stops F hd (n - 1) hc hf hro (w.heap.size + 3) (w.heap.size + 3) w0 k o t v s A c xs x U (after_after aft kU) (by omega) bE
  have hn0 := aft.below.size
  have hU1 : w.heap.size + 4 ≤ U.heap.size := Nat.le_of_eq hUs_.symm
  have hU2 : U.heap.size ≤ w.heap.size + 4 := Nat.le_of_eq hUs_
  rw [hNs] at hseq hs
  rw [hU]
  clear hU hUs_
  refine wpIn_rangeFunc_ownH hro hn1 (gf := 44) (lb := #[.pointer (some ⟨w.heap.size + 3, 0, none⟩)]) rfl hc (enters_of Try.func44 (by kernel_rfl) rfl) hseq KpE.trans (KpE.turn (by omega)) (Below.refl _ _) (fun _ => rfl)
    (fun pre W => Blk W (w.heap.size + 1) 3 #[.int .i64 q] ∧ Blk W (w.heap.size + 2) 3 #[.int .i64 (kindsN (els pre) q : Nat)] ∧ Below w.heap.size w W ∧ U.heap.size ≤ W.heap.size) (fun _ _ _ => False)
    (fun s A B row hs hg hr => ⟨hs.1.grown hg (fun e => by have := (hr _ e.symm).1; omega), hs.2.1.grown hg (fun e => by have := (hr _ e.symm).1; omega), hs.2.2.1.grown hg hs.2.2.1.size (fun k e => by have := (hr _ e).1; omega), Nat.le_trans hs.2.2.2 hg.size⟩)
    (fun _ _ _ _ _ hs _ _ => hs) ⟨bQ, bU, kU.below, Nat.le_refl _⟩
    (fun x a' W => BoxAt U.heap.size (fun p => { tmps := #[.agg #[.int .i64 k, .int .i64 o, .int .i64 t, .int .i64 v, .string s, .slice A xs.length c], .int .i64 q, .pointer (some ⟨w.heap.size, 0, none⟩), .pointer (some ⟨w.heap.size + 1, 0, none⟩), .int .i64 0, .pointer (some ⟨w.heap.size + 2, 0, none⟩), p, .agg #[.int .i64 k, .int .i64 o, .int .i64 t, .int .i64 v, .string s, .slice A xs.length c], .func (.func 44) #[] #[.pointer (some ⟨w.heap.size + 3, 0, none⟩)], x.1.val, undef, undef, undef, undef, undef, undef, undef], defers := [] }) x.1 a' W)
    (fun x a' => boxAt_own) ?assign ?body ?done ?stop
  case assign =>
    rintro l pre ⟨⟨k1, o1, t1, v1, s1, A1, c1, xs1⟩, hx⟩ W K ⟨i1, i2, i3, i4⟩ hK
    simp only [Tx.val, Tx.kind, Tx.op, Tx.ty, Tx.va, Tx.name, Tx.ad, Tx.args, Tx.cap]
    gi_wp2
    exact hK _ _ ((KeepsOthers.alloc _ _).from _) (KpE.after (by omega) inferInstance) ⟨i1.alloc _, i2.alloc _, i3.alloc i3.size _, by simp; omega⟩ ⟨W.heap.size, i4, Blk.new _ _ _, rfl⟩
  case body =>
    rintro l pre ⟨e, hx⟩ a' W hl _ ⟨i1, i2, i3, i4⟩ ⟨Bx, hBx, bX, rfl⟩ hlt
    have hle := kindsN_le (els pre) q
    rw [els_length] at hle
    have hlI : ((kindsN (els pre) q : Nat) : Int) + 1 ≤ 1000000 := by omega
    have hsn := kindsN_snoc (els pre) e q
    have c0 : W.cell? ⟨Bx, 0, none⟩ = some (.int .i64 e.kind) := by rw [bX.cell]; rfl
    have c1 : W.cell? ⟨w.heap.size + 1, 0, none⟩ = some (.int .i64 q) := by rw [i1.cell]; rfl
    have c2 : W.cell? ⟨w.heap.size + 2, 0, none⟩ = some (.int .i64 (kindsN (els pre) q : Nat)) := by rw [i2.cell]; rfl
    have f2 := i2.frozen 0
    have lX := bX.is_le
    have HSN := Lib.hid hsn
    clear hsn
    obtain ⟨z, hz⟩ : ∃ z, kindsN (els pre) q = z := ⟨_, rfl⟩
    rw [hz] at hlI c2 HSN i2
    clear hle hz
    cases hb : (e.kind == q)
    · have HB := Lib.hid hb
      gi_wp2
      refine ⟨(KeepsOthers.refl _).from _, KpE.refl _ _ _, i1, ?_, i3, i4⟩
      rw [els_snoc, HSN.out, HB.out]; exact i2
    · have HB := Lib.hid hb
      gi_wp2
      refine ⟨(KeepsOthers.setCell _ _ _).from _, KpE.set (by omega) (by omega) 0 _, i1.far (by show w.heap.size + 1 ≠ w.heap.size + 2; omega) _, ?_, i3.setCell (p := ⟨w.heap.size + 2, 0, none⟩) (by show w.heap.size ≤ w.heap.size + 2; omega) _, by simpa [World.setCell] using i4⟩
      have := i2.set_ 0 (.int .i64 ((z : Int) + 1))
      rw [els_snoc, HSN.out, HB.out]
      simpa using this
  case done =>
    rintro D ys W hD hys ⟨i1, i2, i3, i4⟩ hK
    rw [show els ys = _ from hys] at i2
    have c2 : W.cell? ⟨w.heap.size + 2, 0, none⟩ = some (.int .i64 (kindsN (Tx.mk k o t v s A c xs).list q : Nat)) := by rw [i2.cell]; rfl
    obtain ⟨z, hz⟩ : ∃ z, kindsN (Tx.mk k o t v s A c xs).list q = z := ⟨_, rfl⟩
    rw [hz] at c2
    gi_wp2
    refine ⟨by simp, .inl ⟨_, _, rfl, run_takeDeferred hK, ?_⟩⟩
    exact ⟨_, results_tmp rfl _ _ _, rfl, ⟨i3.trans (belowK_b (w := w) (Nat.le_refl _) W D _ _ (by omega) hK rfl rfl)⟩⟩
  case stop =>
    rintro D c pre W _ _ h _
    exact h.elim
theorem count_any {k o t v : Int} {s : ByteArray} {A : Option Addr} {c : Nat} {xs : List Tx} {w0 : World} (hs : (Tx.mk k o t v s A c xs).size ≤ 1000000) (x : RX w0 (.mk k o t v s A c xs)) (q : Int) (w : World) (aft : After w0 w) :
    Calls Try.prog 18 #[.agg #[.int .i64 k, .int .i64 o, .int .i64 t, .int .i64 v, .string s, .slice A xs.length c], .int .i64 q] w fun e w' => e = .returned (.int .i64 (kindsN (Tx.mk k o t v s A c xs).list q : Nat)) ∧ After w w' :=
  (callsIn_wide (n := 3)).1 (count_in _ rfl 3 trivial trivial trivial trivial rfl (by decide) hs x q w aft)
end Go.Proofs.Ytfoddappedcplaa
