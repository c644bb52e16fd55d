/-
  Contracts: expr.each, Each: an expression and all in it are handed to a loop's body, each one before its arguments.
-/
import Derived.RangeFuncNested
import Derived.RangeFuncBound
import Derived.RangeFuncCalls
import Derived.RangeFuncLeaves
import Derived.RangeFuncFrom
import Derived.Shelf.Abstract
import Derived.Shelf.RegionOpen
import Derived.WalkKit
import Derived.OwnWalkIn
import Derived.TacticsInMore
import Derived.LoopNIn
import Derived.LoopIn
import Derived.Test.YtdghfhnkacfahaaESize
set_option linter.unusedVariables false
set_option linter.unusedSimpArgs false
namespace Go.Proofs.Ytdghfhnkacfahaa
open Go.RowKit Go.Shelf
attribute [local go_sem] Oper.semAt_some

/-- an expression that lies in w0 -/
abbrev RTx (w0 : World) : Type := { x : Tx // RX w0 x }
/-- what a round keeps: what lies below n₀; every row of cells at or beyond B -/
structure KpE (n₀ B : Nat) (W W' : World) : Prop where
  below : Below n₀ W W'
  keep : ∀ (k : Nat) (ob : Obj), B ≤ k → W.heap[k]? = some ob → ob.isCells = true → W'.heap[k]? = some ob
theorem KpE.refl (n₀ B : Nat) (W : World) : KpE n₀ B W W := ⟨Below.refl _ _, fun _ _ _ h _ => h⟩
theorem KpE.trans {n₀ B : Nat} {a b c : World} (h : KpE n₀ B a b) (k : KpE n₀ B b c) : KpE n₀ B a c := ⟨h.below.trans k.below, fun i ob hi ho hc => k.keep i ob hi (h.keep i ob hi ho hc) hc⟩
theorem KpE.turn {n₀ B : Nat} {w : World} (hn : n₀ ≤ w.heap.size) (W : World) (l : Nat) (ob ob' : Obj) (hl : w.heap.size ≤ l) (h : W.heap[l]? = some ob) (h1 : ob.isCells = false) (h2 : ob.isWalk = false) : KpE n₀ B W (W.putObj l ob') := by
  refine ⟨belowK_b hn W l ob ob' hl h h1 h2, fun k o hk ho hc => ?_⟩
  have hne : k ≠ l := fun e => by subst e; rw [h] at ho; cases ho; rw [h1] at hc; cases hc
  exact ((grownBy_putObj' W l ob').block k (Array.getElem?_eq_some_iff.1 ho).1 (fun e => hne (by cases e; rfl))).trans ho
theorem KpE.after {n₀ B : Nat} {W W' : World} (hn : n₀ ≤ W.heap.size) (k : After W W') : KpE n₀ B W W' :=
  ⟨k.below.mono hn, fun i ob hi ho hc => (k.below.block i (Array.getElem?_eq_some_iff.1 ho).1).trans ho⟩
theorem KpE.set {n₀ B b : Nat} {W : World} (h1 : n₀ ≤ b) (h2 : b < B) (i : Nat) (v : Value) : KpE n₀ B W (W.setCell ⟨b, i, none⟩ v) :=
  ⟨(Below.refl _ _).setCell (p := ⟨b, i, none⟩) h1 v, fun k ob hk ho hc => (Below.heap_setCell W ⟨b, i, none⟩ v k (fun e => by simp at e; omega)).trans ho⟩
theorem KpE.blk {n₀ B : Nat} {W W' : World} (h : KpE n₀ B W W') {g : Nat} {t : TypeId} {cs : Array Value} (hg : B ≤ g) (b : Blk W g t cs) : Blk W' g t cs := h.keep g _ hg b rfl
theorem KpE.aft {B : Nat} {w0 W W' : World} (h : KpE w0.heap.size B W W') (a : After w0 W) : After w0 W' := ⟨a.below.trans h.below⟩
theorem YieldAt_any {F : Fence} (hd : F.depth = none) {m : Nat} (m' : Nat) {P : Program} {l : Nat} {args : Array Value} {W : World} {R : Ending → World → Prop} (h : YieldAt F m P l args W R) : YieldAt F m' P l args W R := by
  obtain ⟨fn, tmps, assign, body, hy, hR⟩ := h
  exact ⟨fn, tmps, assign, body, hy, hR.1, fun c cs _ => hR.2 c cs (fun d h => by rw [hd] at h; cases h)⟩
def EachPost {w0 : World} (B : Nat) (J Jx : List (RTx w0) → World → Prop) (pre : List (RTx w0)) (l : List Tx) (W : World) (e : Ending) (W' : World) : Prop :=
  (e = .returned (.bool true) ∧ (∃ ys : List (RTx w0), ys.map (·.1) = l ∧ J (pre ++ ys) W') ∧ KpE w0.heap.size B W W') ∨ (e = .returned (.bool false) ∧ ∃ q : List (RTx w0), q.map (·.1) <+: l ∧ Jx (pre ++ q) W')

set_option maxRecDepth 100000 in
set_option maxHeartbeats 4000000 in
theorem each_in (F : Fence) (hd : F.depth = none) (hf : F.fn 40) (hro : F.round = none) (l B N Bj : Nat) (w0 : World) (J Jx : List (RTx w0) → World → Prop) (hJ : AbidesFrom Bj J)
    (hY : ∀ m pre (x : RTx w0) W, J pre W → pre.length < N → YieldAt F m Try.prog l #[x.1.val] W fun e W' =>
      (e = .returned (.bool true) ∧ J (pre ++ [x]) W' ∧ KpE w0.heap.size B W W') ∨ (e = .returned (.bool false) ∧ Jx (pre ++ [x]) W')) (M : Nat) :
    ∀ (k o t v : Int) (s : ByteArray) (A : Option Addr) (c : Nat) (xs : List Tx), (Tx.mk k o t v s A c xs).size ≤ M → RX w0 (.mk k o t v s A c xs) → ∀ (n : Nat) (pre : List (RTx w0)) (W : World), After w0 W → B ≤ W.heap.size → J pre W → pre.length + (Tx.mk k o t v s A c xs).size ≤ N →
      CallsIn F n Try.prog 40 #[.agg #[.int .i64 k, .int .i64 o, .int .i64 t, .int .i64 v, .string s, .slice A xs.length c], .func (.yield l) #[] #[]] W (EachPost B J Jx pre (Tx.mk k o t v s A c xs).list W) := by
  induction M with
  | zero =>
    intro k o t v s A c xs hs
    simp [Tx.size] at hs
  | succ M ih =>
    intro k o t v s A c xs hs x n pre W aft hB h0 hN
    rw [Tx.size] at hs hN
    rw [Tx.list]
    have hbd := x.bounds
    simp only [Tx.args, Tx.cap, Tx.name] at hbd
    obtain ⟨hb1_, hb2_, hb3_, hb4_⟩ := hbd
    have hdd : ∀ i : Nat, (F.depth.isSome = true → 1 ≤ i) := fun i h => by rw [hd] at h; cases h
    have hal : ∀ (q : List (RTx w0)) (U : World) (ob : Obj), J q U → J q (U.alloc ob) := fun q U ob h => hJ q U _ none h (World.grownBy_alloc U ob none) (fun r e => by cases e)
    obtain ⟨g, hg⟩ : ∃ g, W.heap.size = g := ⟨_, rfl⟩
    obtain ⟨W1, hW1, b1, k1, j1⟩ : ∃ W1, W.alloc (.cells #[.int .i64 k, .int .i64 o, .int .i64 t, .int .i64 v, .string s, .slice A xs.length c] 25) = W1 ∧ Blk W1 g 25 #[.int .i64 k, .int .i64 o, .int .i64 t, .int .i64 v, .string s, .slice A xs.length c] ∧ After W W1 ∧ J pre W1 := ⟨_, rfl, by rw [← hg]; exact Blk.new _ _ _, inferInstance, hal _ _ _ h0⟩
    have a1 : After w0 W1 := after_after aft k1
    obtain ⟨fn, tmps, assign, body, hy, hR⟩ := hY (n - 1) pre ⟨_, x⟩ W1 j1 (by omega)
    simp only [Tx.val, Tx.kind, Tx.op, Tx.ty, Tx.va, Tx.name, Tx.ad, Tx.args, Tx.cap] at hy
    have hBg : B ≤ g := by omega
    have c0 : W1.cell? ⟨g, 0, none⟩ = some (.int .i64 k) := by rw [b1.cell]; rfl
    have c1 : W1.cell? ⟨g, 1, none⟩ = some (.int .i64 o) := by rw [b1.cell]; rfl
    have c2 : W1.cell? ⟨g, 2, none⟩ = some (.int .i64 t) := by rw [b1.cell]; rfl
    have c3 : W1.cell? ⟨g, 3, none⟩ = some (.int .i64 v) := by rw [b1.cell]; rfl
    have c4 : W1.cell? ⟨g, 4, none⟩ = some (.string s) := by rw [b1.cell]; rfl
    have c5 : W1.cell? ⟨g, 5, none⟩ = some (.slice A xs.length c) := by rw [b1.cell]; rfl
    have l1 := b1.is_le
    have K1 : KpE w0.heap.size B W W1 := KpE.after aft.below.size k1
    replace b1 := Lib.hid b1
    replace hal := Lib.hid hal
    replace ih := Lib.hid ih
    replace x := Lib.hid x
    replace K1 := Lib.hid K1
    replace hY := Lib.hid hY
    refine callsIn_of_wp Try.func40 rfl hf ?_ hro
    simp only [Try.ntmps40, List.size_toArray, List.length_cons, List.length_nil, Nat.reduceAdd, Nat.reduceSub, Array.replicate_succ, Array.replicate_zero, List.push_toArray, List.append_toArray, List.nil_append, List.cons_append]
    gi_wp2
    refine hR.mono ?_
    rintro e W2 (⟨rfl, j2, k2⟩ | ⟨rfl, jx2⟩)
    · replace K1 := Lib.hid (K1.out.trans k2)
      have a2 : After w0 W2 := k2.aft a1
      replace b1 := Lib.hid (k2.blk hBg b1.out)
      have d5 : W2.cell? ⟨g, 5, none⟩ = some (.slice A xs.length c) := by rw [b1.out.cell]; rfl
      have l2 := b1.out.is_le
      have hB2 : B ≤ W2.heap.size := Nat.le_trans hBg (Nat.le_of_lt b1.out.lt)
      clear hR hy c0 c1 c2 c3 c4 c5 l1 k2 k1 hW1
      gi_wp2
      gi_loopw [14] (fun i wr => ∃ (j : Nat) (ys : List (RTx w0)), j ≤ xs.length ∧ i = .int .i64 (j : Nat) ∧ Hid (ys.map (·.1) = Tx.mk k o t v s A c xs :: Tx.lists (xs.take j)) ∧ Hid (J (pre ++ ys) wr) ∧ Hid (KpE w0.heap.size B W wr) ∧ Hid (Blk wr g 25 #[.int .i64 k, .int .i64 o, .int .i64 t, .int .i64 v, .string s, .slice A xs.length c])) (fun i _ => xs.length - (intOf i).toNat)
      case atStart => exact ⟨0, [⟨_, x.out⟩], by omega, rfl, by show _ = _; simp [Tx.lists], j2, K1, b1⟩
      case round =>
        clear b1 K1 j2 a2 d5 l2 hB2
        obtain ⟨j, ys, hj, rfl, HM, HJ, K1, b1⟩ := hrel
        have a2 : After w0 wr := K1.out.aft aft
        have d5 : wr.cell? ⟨g, 5, none⟩ = some (.slice A xs.length c) := by rw [b1.out.cell]; rfl
        have l2 := b1.out.is_le
        have hBr : B ≤ wr.heap.size := Nat.le_trans hBg (Nat.le_of_lt b1.out.lt)
        by_cases hlt : j < xs.length
        · have hltI : (j : Int) < (xs.length : Int) := by omega
          obtain ⟨b, p, k1, o1, t1, v1, s1, A1, c1, xs1, rfl, hb1, HX1, HR1, e0, e1, e2, e3, e4, e5⟩ := (x.out.here wr).part (i := j) hlt
          have hR0 : RX w0 (.mk k1 o1 t1 v1 s1 A1 c1 xs1) := x.out.all _ (List.mem_of_getElem? HX1.out)
          have hst := Tx.sizes_take HX1.out
          have hme := Tx.sizes_mem HX1.out
          have htl := Tx.sizes_take_le xs (j + 1)
          have hyl : ys.length = Tx.sizes (xs.take j) + 1 := by have := congrArg List.length HM.out; rw [List.length_map, List.length_cons, Tx.lists_length] at this; exact this
          have HLT := Lib.hid (Tx.lists_take HX1.out)
          have HSZ : Hid ((pre ++ ys).length + (Tx.mk k1 o1 t1 v1 s1 A1 c1 xs1).size ≤ N) := by show _ ≤ _; rw [List.length_append]; omega
          have HS1 : Hid ((Tx.mk k1 o1 t1 v1 s1 A1 c1 xs1).size ≤ M) := by show _ ≤ _; omega
          clear hst hme htl hyl
          obtain ⟨g2, hg2⟩ : ∃ g, wr.heap.size = g := ⟨_, rfl⟩
          obtain ⟨W3, hW3, b3, k3, j3⟩ : ∃ W3, wr.alloc (.cells #[.int .i64 k1, .int .i64 o1, .int .i64 t1, .int .i64 v1, .string s1, .slice A1 xs1.length c1] 25) = W3 ∧ Hid (Blk W3 g2 25 #[.int .i64 k1, .int .i64 o1, .int .i64 t1, .int .i64 v1, .string s1, .slice A1 xs1.length c1]) ∧ After wr W3 ∧ Hid (J (pre ++ ys) W3) := ⟨_, rfl, by rw [← hg2]; exact Blk.new _ _ _, inferInstance, hal.out _ _ _ HJ.out⟩
          have a3 : After w0 W3 := after_after a2 k3
          have hB3 : B ≤ W3.heap.size := Nat.le_trans hBr k3.below.size
          have f0 : W3.cell? ⟨g2, 0, none⟩ = some (.int .i64 k1) := by rw [b3.out.cell]; rfl
          have f1 : W3.cell? ⟨g2, 1, none⟩ = some (.int .i64 o1) := by rw [b3.out.cell]; rfl
          have f2 : W3.cell? ⟨g2, 2, none⟩ = some (.int .i64 t1) := by rw [b3.out.cell]; rfl
          have f3 : W3.cell? ⟨g2, 3, none⟩ = some (.int .i64 v1) := by rw [b3.out.cell]; rfl
          have f4 : W3.cell? ⟨g2, 4, none⟩ = some (.string s1) := by rw [b3.out.cell]; rfl
          have f5 : W3.cell? ⟨g2, 5, none⟩ = some (.slice A1 xs1.length c1) := by rw [b3.out.cell]; rfl
          have l3 := b3.out.is_le
          have HC := Lib.hid (ih.out k1 o1 t1 v1 s1 A1 c1 xs1 HS1.out hR0 (n - 1) (pre ++ ys) W3 a3 hB3 j3.out HSZ.out)
          have K3 := Lib.hid (K1.out.trans (KpE.after a2.below.size k3))
          have b13 := Lib.hid (b1.out.after (w' := W3))
          gi_wp2_with fail
          refine HC.out.mono ?_
          clear HC ih
          rintro e W4 (⟨rfl, ⟨ys2, hy2, j4⟩, k4⟩ | ⟨rfl, q, hq, jx4⟩)
          · have HM2 : Hid ((ys ++ ys2).map (·.1) = Tx.mk k o t v s (some ⟨b, p, none⟩) c xs :: Tx.lists (xs.take (j + 1))) := by show _ = _; rw [List.map_append, HM.out, hy2, HLT.out, List.cons_append]
            have HJ2 : Hid (J (pre ++ (ys ++ ys2)) W4) := by rw [← List.append_assoc]; exact j4
            have K4 := Lib.hid (K3.out.trans k4)
            have b14 := Lib.hid (k4.blk hBg b13.out)
            clear hy2 j4 k4
            gi_wp2
            go_roundw
            case rel => exact ⟨j + 1, ys ++ ys2, by omega, by go_num, HM2, HJ2, K4, b14⟩
            case measure => simp [intOf]; omega
          · have HP : Hid ((ys ++ q).map (·.1) <+: Tx.mk k o t v s (some ⟨b, p, none⟩) c xs :: Tx.lists xs) := by
              have h2 := Tx.lists_append (xs.take (j + 1)) (xs.drop (j + 1))
              rw [List.take_append_drop, HLT.out] at h2
              show _ <+: _
              rw [List.map_append, HM.out, h2, List.cons_append, List.append_assoc]
              exact List.cons_prefix_cons.2 ⟨rfl, (List.prefix_append_right_inj _).2 (hq.trans (List.prefix_append _ _))⟩
            have HJ2 : Hid (Jx (pre ++ (ys ++ q)) W4) := by rw [← List.append_assoc]; exact jx4
            clear hq jx4
            gi_wp2
            go_ret
            exact .inr ⟨rfl, ys ++ q, HP.out, HJ2.out⟩
        · obtain rfl : j = xs.length := by omega
          gi_wp2
          go_ret
          exact .inl ⟨rfl, ⟨ys, by have := HM.out; rwa [List.take_length] at this, HJ.out⟩, K1.out⟩
    · gi_wp2
      go_ret
      exact .inr ⟨rfl, [⟨_, x.out⟩], by simp, jx2⟩

set_option maxHeartbeats 2000000 in
/-- the closure that Each returns -/
theorem each1_in (F : Fence) (hd : F.depth = none) (n : Nat) (hc : F.fn 39) (hf : F.fn 40) (hro : F.round = none) (l g B Bj : Nat) (w0 : World) (J Jx : List (RTx w0) → World → Prop) (hJ : AbidesFrom Bj J)
    (k o t v : Int) (s : ByteArray) (A : Option Addr) (c : Nat) (xs : List Tx) (x : RX w0 (.mk k o t v s A c xs))
    (hY : ∀ pre (x : RTx w0) W, J pre W → pre.length < (Tx.mk k o t v s A c xs).size → YieldAt F (n - 1) Try.prog l #[x.1.val] W fun e W' =>
      (e = .returned (.bool true) ∧ J (pre ++ [x]) W' ∧ KpE w0.heap.size B W W') ∨ (e = .returned (.bool false) ∧ Jx (pre ++ [x]) W'))
    (W : World) (aft : After w0 W) (hB : B ≤ W.heap.size) (hg : Blk W g 25 #[.int .i64 k, .int .i64 o, .int .i64 t, .int .i64 v, .string s, .slice A xs.length c]) (h0 : J [] W) :
    CallsIn F n Try.prog 39 #[.func (.yield l) #[] #[], .pointer (some ⟨g, 0, none⟩)] W fun e W' => (∃ v, e = .returned v) ∧
      ((∃ ys : List (RTx w0), ys.map (·.1) = (Tx.mk k o t v s A c xs).list ∧ J ys W') ∨ (∃ pre : List (RTx w0), pre.map (·.1) <+: (Tx.mk k o t v s A c xs).list ∧ Jx pre W')) := by
  have hdd : ∀ i : Nat, (F.depth.isSome = true → 1 ≤ i) := fun i h => by rw [hd] at h; cases h
  have HC := Lib.hid (each_in F hd hf hro l B (Tx.mk k o t v s A c xs).size Bj w0 J Jx hJ (fun m pre x W hj hl => YieldAt_any hd m (hY pre x W hj hl)) _ k o t v s A c xs (Nat.le_refl _) x (n - 1) [] W aft hB h0 (by simp))
  have c0 : W.cell? ⟨g, 0, none⟩ = some (.int .i64 k) := by rw [hg.cell]; rfl
  have c1 : W.cell? ⟨g, 1, none⟩ = some (.int .i64 o) := by rw [hg.cell]; rfl
  have c2 : W.cell? ⟨g, 2, none⟩ = some (.int .i64 t) := by rw [hg.cell]; rfl
  have c3 : W.cell? ⟨g, 3, none⟩ = some (.int .i64 v) := by rw [hg.cell]; rfl
  have c4 : W.cell? ⟨g, 4, none⟩ = some (.string s) := by rw [hg.cell]; rfl
  have c5 : W.cell? ⟨g, 5, none⟩ = some (.slice A xs.length c) := by rw [hg.cell]; rfl
  have hl := hg.is_le
  replace hY := Lib.hid hY
  replace hg := Lib.hid hg
  refine callsIn_of_wp Try.func39 rfl hc ?_ hro
  simp only [Try.ntmps39, List.size_toArray, List.length_cons, List.length_nil, Nat.reduceAdd, Nat.reduceSub, Array.replicate_succ, Array.replicate_zero, List.push_toArray, List.append_toArray, List.nil_append, List.cons_append]
  gi_wp2_with fail
  refine HC.out.mono ?_
  clear HC
  rintro e W4 (⟨rfl, ⟨ys2, hy2, j4⟩, k4⟩ | ⟨rfl, q, hq, jx4⟩)
  · have H1 := Lib.hid hy2
    have H2 := Lib.hid j4
    clear hy2 j4 k4
    gi_wp2
    go_end0
    exact ⟨⟨_, rfl⟩, .inl ⟨ys2, H1.out, H2.out⟩⟩
  · have H1 := Lib.hid hq
    have H2 := Lib.hid jx4
    clear hq jx4
    gi_wp2
    go_end0
    exact ⟨⟨_, rfl⟩, .inr ⟨q, H1.out, H2.out⟩⟩
/-- Each: the expression is boxed; the function value holds the box -/
theorem eachv_in (F : Fence) (n : Nat) (ha : F.fn 16) (hro : F.round = none) (k o t v : Int) (s : ByteArray) (A : Option Addr) (c : Nat) (xs : List Tx) (w : World) :
    CallsIn F n Try.prog 16 #[.agg #[.int .i64 k, .int .i64 o, .int .i64 t, .int .i64 v, .string s, .slice A xs.length c]] w fun e w' => e = .returned (.func (.func 39) #[] #[.pointer (some ⟨w.heap.size, 0, none⟩)]) ∧ w' = w.alloc (.cells #[.int .i64 k, .int .i64 o, .int .i64 t, .int .i64 v, .string s, .slice A xs.length c] 25) := by
  refine callsIn_of_wp Try.func16 rfl ha ?_ hro
  simp only [Try.ntmps16, List.size_toArray, List.length_cons, List.length_nil, Nat.reduceAdd, Nat.reduceSub, Array.replicate_succ, Array.replicate_zero, List.push_toArray, List.append_toArray, List.nil_append, List.cons_append]
  gi_wp2
  go_ret
  exact ⟨rfl, rfl⟩
/-- what Each returns hands on all in the expression, in order, or a beginning of it -/
theorem each_stops (F : Fence) (hd : F.depth = none) (n : Nat) (hc : F.fn 39) (hf : F.fn 40) (hro : F.round = none) (g B : Nat) (w0 : World) (k o t v : Int) (s : ByteArray) (A : Option Addr) (c : Nat) (xs : List Tx) (x : RX w0 (.mk k o t v s A c xs)) (w : World)
    (aft : After w0 w) (hB : B ≤ w.heap.size) (hg : Blk w g 25 #[.int .i64 k, .int .i64 o, .int .i64 t, .int .i64 v, .string s, .slice A xs.length c]) :
    SeqStopsK F n Try.prog 39 #[.pointer (some ⟨g, 0, none⟩)] (fun x : RTx w0 => #[x.1.val]) (KpE w0.heap.size B) (fun ys => ys.map (·.1) = (Tx.mk k o t v s A c xs).list) (fun pre => pre.map (·.1) <+: (Tx.mk k o t v s A c xs).list) (Tx.mk k o t v s A c xs).size w := fun l J Jx W hW hJ _ hY h0 =>
  each1_in F hd n hc hf hro l g B _ w0 J Jx hJ k o t v s A c xs x hY W (after_after aft ⟨hW⟩) (Nat.le_trans hB hW.size) ((hW.block g hg.lt).trans hg) h0
end Go.Proofs.Ytdghfhnkacfahaa
