/-
  Words for memory: slices that read as lists of bools and of ints; what a callee keeps.
-/
import Derived.Test.YtdghfhnkacfahaaRows
import Derived.Test.YtdghfhnkacfahaaWord
import Derived.WalkKit
import Derived.ProofKit
import Derived.OpenShut
import Derived.Lib.Hide
import Derived.WalkSpells
import Derived.WalkLawsBesides
import Derived.Below
import Derived.Laws.OwnMore
import Derived.Deep.AppendLies
import Derived.Deep.Draws
import Derived.Deep.QuietTactic
import Derived.BigQuiet
import Derived.Outline
import Derived.Deep.DeepCutAuto
import Derived.Deep.LoopGhost
import Derived.Deep.RegionWith
import Derived.Deep.RegionLaw
import Derived.Deep.RegionHeld3
import Derived.StillTailTactics
namespace Go.Proofs.Ytdghfhnkacfahaa
open Go.RowKit

theorem block_of_add (a : Addr) (n : Nat) : (a.add n).block = a.block := by unfold Addr.add; split <;> rfl
theorem add_of_add (a : Addr) (i j : Nat) : (a.add i).add j = a.add (i + j) := by
  unfold Addr.add
  by_cases hi : i = 0 <;> by_cases hj : j = 0 <;> simp [hi, hj, Nat.add_assoc]

def Reads (w : World) (B size : Nat) (A : Option Addr) (n : Nat) (xs : List Value) : Prop :=
  xs.length = n * size ∧ (0 < n → ∃ ad, A = some ad ∧ ad.block < B ∧ ∀ j u, xs[j]? = some u → w.cell? (ad.add j) = some u)

section
variable {w w' : World} {B B' size n : Nat} {A : Option Addr} {xs : List Value}
theorem Reads.none_ : Reads w B size A 0 [] := ⟨by simp, fun h => absurd h (by omega)⟩
theorem Reads.at_ {k : Nat} (h : Reads w B 1 A n xs) (hk : k < n) : ∃ ad u, A = some ad ∧ ad.block < B ∧ xs[k]? = some u ∧ w.cell? (ad.add k) = some u := by
  obtain ⟨ad, e, hb, hc⟩ := h.2 (by omega)
  have hl : k < xs.length := by have := h.1; omega
  exact ⟨ad, xs[k], e, hb, List.getElem?_eq_getElem hl, hc k _ (List.getElem?_eq_getElem hl)⟩
theorem Reads.keep (h : Reads w B size A n xs) (hk : ∀ p : Addr, p.block < B → w'.cell? p = w.cell? p) : Reads w' B size A n xs :=
  ⟨h.1, fun hn => by
    obtain ⟨ad, e, hb, hc⟩ := h.2 hn
    exact ⟨ad, e, hb, fun j u hu => (hk _ (by rw [block_of_add]; exact hb)).trans (hc j u hu)⟩⟩
theorem Reads.more (h : Reads w B size A n xs) (hB : B ≤ B') : Reads w B' size A n xs :=
  ⟨h.1, fun hn => by
    obtain ⟨ad, e, hb, hc⟩ := h.2 hn
    exact ⟨ad, e, by omega, hc⟩⟩
theorem Reads.below (h : Reads w B size A n xs) (hb : Below B w w') : Reads w' B size A n xs := h.keep fun _ hp => hb.cell hp
end

/-! ### 'w.more y': a world that is w below w's own size, and whatever above: what a callee leaves -/
end Go.Proofs.Ytdghfhnkacfahaa
namespace Go.World
open Classical in
noncomputable def more (w y : World) : World := if Go.RowKit.Below w.heap.size w y then y else w
end Go.World
namespace Go.Proofs.Ytdghfhnkacfahaa
open Go.RowKit
theorem more_below (w y : World) : Below w.heap.size w (w.more y) := by
  unfold World.more; split
  · assumption
  · exact Below.refl _ _
theorem Below.is_more {w w' : World} (h : Below w.heap.size w w') : ∃ y, w' = w.more y := ⟨w', by unfold World.more; rw [if_pos h]⟩
theorem more_size (w y : World) : w.heap.size ≤ (w.more y).heap.size := (more_below w y).size

/-! ### side conditions by instances: 'n blocks lie in w'; 'these two blocks differ' -/
class Le (n : Nat) (w : World) : Prop where
  le : n ≤ w.heap.size
class Ne' (a b : Nat) : Prop where
  ne : a ≠ b
section
variable {w : World} {n b : Nat}
theorem size_alloc_ (w : World) (o : Obj) : (w.alloc o).heap.size = w.heap.size + 1 := by simp
theorem size_set_ (w : World) (a : Addr) (v : Value) : (w.setCell a v).heap.size = w.heap.size := by simp [World.setCell]
instance le_self (w : World) : Le w.heap.size w := ⟨Nat.le_refl _⟩
instance le_alloc [h : Le n w] (o : Obj) : Le n (w.alloc o) := ⟨by rw [size_alloc_]; exact Nat.le_succ_of_le h.le⟩
instance le_alloc_succ [h : Le n w] (o : Obj) : Le (n + 1) (w.alloc o) := ⟨by rw [size_alloc_]; exact Nat.succ_le_succ h.le⟩
instance le_drew [h : Le n w] : Le n w.drew := ⟨h.le⟩
instance le_drewN [h : Le n w] (k : Nat) : Le n (w.drewN k) := ⟨h.le⟩
instance le_more [h : Le n w] (y : World) : Le n (w.more y) := ⟨Nat.le_trans h.le (more_size w y)⟩
instance le_set [h : Le n w] (a : Addr) (v : Value) : Le n (w.setCell a v) := ⟨by rw [size_set_]; exact h.le⟩
instance ne_size [h : Le (b + 1) w] : Ne' b w.heap.size := ⟨by have := h.le; omega⟩
instance ne_size' [h : Le (b + 1) w] : Ne' w.heap.size b := ⟨by have := h.le; omega⟩
instance ne_size_add [h : Le (b + 1) w] (k : Nat) : Ne' b (w.heap.size + k) := ⟨by have := h.le; omega⟩
instance ne_size_add' [h : Le (b + 1) w] (k : Nat) : Ne' (w.heap.size + k) b := ⟨by have := h.le; omega⟩
end

/-! old cells behind new blocks, draws, callees, stores into other blocks: rules of the walk -/
section
variable (w y : World) (o : Obj) (b i k n : Nat) (ad : Addr) (v : Value)
theorem cell_alloc_old [h : Le (b + 1) w] : (w.alloc o).cell? ⟨b, i, none⟩ = w.cell? ⟨b, i, none⟩ := World.cell?_alloc_lt w o _ h.le
theorem cell_alloc_add [h : Le (ad.block + 1) w] : (w.alloc o).cell? (ad.add k) = w.cell? (ad.add k) :=
  World.cell?_alloc_lt w o _ (by rw [block_of_add]; exact h.le)
theorem frozen_alloc_old [h : Le (b + 1) w] : (w.alloc o).frozen? ⟨b, i, none⟩ = w.frozen? ⟨b, i, none⟩ :=
  ((Below.refl _ _).alloc (Nat.le_refl w.heap.size) o).frozen (p := ⟨b, i, none⟩) h.le
theorem cell_more [h : Le (b + 1) w] : (w.more y).cell? ⟨b, i, none⟩ = w.cell? ⟨b, i, none⟩ := (more_below w y).cell (p := ⟨b, i, none⟩) h.le
theorem frozen_more [h : Le (b + 1) w] : (w.more y).frozen? ⟨b, i, none⟩ = w.frozen? ⟨b, i, none⟩ := (more_below w y).frozen (p := ⟨b, i, none⟩) h.le
theorem cell_more_add [h : Le (ad.block + 1) w] : (w.more y).cell? (ad.add k) = w.cell? (ad.add k) :=
  (more_below w y).cell (by rw [block_of_add]; exact h.le)
theorem cell_drew_add : w.drew.cell? (ad.add k) = w.cell? (ad.add k) := rfl
theorem cell_drewN_add : (w.drewN n).cell? (ad.add k) = w.cell? (ad.add k) := rfl
theorem cell_set_add [h : Ne' ad.block b] : (w.setCell ⟨b, i, none⟩ v).cell? (ad.add k) = w.cell? (ad.add k) :=
  World.cell?_setCell_other w _ _ v (fun e => h.ne (by have := congrArg Addr.block e; rw [block_of_add] at this; exact this.symm))
theorem cell_set_other (j : Nat) [h : Ne' n b] : (w.setCell ⟨b, i, none⟩ v).cell? ⟨n, j, none⟩ = w.cell? ⟨n, j, none⟩ :=
  World.cell?_setCell_other w _ _ v (fun e => h.ne (congrArg Addr.block e).symm)
theorem drew_heap (w : World) : w.drew.heap = w.heap := by cases w; rfl
end
attribute [go_sem] cell_alloc_old cell_alloc_add frozen_alloc_old cell_more frozen_more cell_more_add cell_drew_add cell_drewN_add cell_set_add cell_set_other drew_heap
theorem more_self (w : World) : ∃ y, w = w.more y := Below.is_more (Below.refl _ _)

/-- 'w is w0 with new memory': found by instances -/
class After (w0 w : World) : Prop where
  below : Below w0.heap.size w0 w
/-- 'block b is none of w0's' -/
class New (w0 : World) (b : Nat) : Prop where
  le : w0.heap.size ≤ b
section
variable {w0 w : World}
instance after_refl (w : World) : After w w := ⟨Below.refl _ _⟩
instance after_alloc [h : After w0 w] (o : Obj) : After w0 (w.alloc o) := ⟨h.below.alloc h.below.size o⟩
instance after_drew [h : After w0 w] : After w0 w.drew := ⟨h.below.drew⟩
instance after_drewN [h : After w0 w] (n : Nat) : After w0 (w.drewN n) := ⟨⟨h.below.os, h.below.tape, h.below.output, h.below.size, h.below.block⟩⟩
instance after_more [h : After w0 w] (y : World) : After w0 (w.more y) := ⟨h.below.trans ((more_below w y).mono h.below.size)⟩
instance new_size [h : After w0 w] : New w0 w.heap.size := ⟨h.below.size⟩
instance new_add {b : Nat} [h : New w0 b] (k : Nat) : New w0 (b + k) := ⟨Nat.le_trans h.le (Nat.le_add_right _ _)⟩
instance after_set {b : Nat} [h : After w0 w] [k : New w0 b] (o : Nat) (v : Value) : After w0 (w.setCell ⟨b, o, none⟩ v) := ⟨h.below.setCell (p := ⟨b, o, none⟩) k.le v⟩
theorem After.is_more (w0 w : World) [h : After w0 w] : ∃ y, w = w0.more y := Below.is_more h.below
theorem After.size (w0 w : World) [h : After w0 w] : w0.heap.size ≤ w.heap.size := h.below.size
end

/-- the class of worlds in which a region that calls is walked once, whatever its order -/
theorem wp_region_more {P : Program} {id : Nat} {Q : Exit → Act → World → Prop} {a : Act} {w : World} {l : List Oper} (hm : P.follows .mixedOrders = true) (hB : Region.lexB .any l.toArray = true)
    (h : wpQuiet P l.toArray (fun w' => ∃ y, w' = w.more y) (fun a' => ∀ w', (∃ y, w' = w.more y) → Q .normal a' w') l a) : (Code.region id l.toArray true).wp P Q a w :=
  wp_region_quiet (C := fun w' => ∃ y, w' = w.more y) hm hB (After.is_more w w.drew) (by simpa using h)

/-- a callee's contract, met in the world 'w.more y' -/
theorem Calls.more_of {P : Program} {f : FuncId} {args : Array Value} {w y : World} {v : Value}
    (h : Calls P f args (w.more y) fun e w' => e = .returned v ∧ ∃ z, w' = (w.more y).more z) :
    Calls P f args (w.more y) fun e w'' => e = .returned v ∧ ∃ z, w'' = w.more z :=
  h.mono fun _ _ ⟨he, z, hb⟩ => ⟨he, by rw [hb]; exact After.is_more _ _⟩
theorem Calls.more_same {P : Program} {f : FuncId} {args : Array Value} {w y : World} {v : Value}
    (h : Calls P f args (w.more y) fun e w' => e = .returned v ∧ w.more y = w') :
    Calls P f args (w.more y) fun e w'' => e = .returned v ∧ ∃ z, w'' = w.more z :=
  h.mono fun _ _ ⟨he, hb⟩ => ⟨he, y, hb.symm⟩

/-- the cells of a list of bools, of a list of ints -/
def bv (l : List Bool) : List Value := l.map Value.bool
def iv (l : List Int) : List Value := l.map (Value.int .i64)

/-- a slice of bools (A, l.length, c) that reads as l, and lies in old memory -/
structure RB (w : World) (A : Option Addr) (c : Nat) (l : List Bool) : Prop where
  reads : Reads w w.heap.size 1 A l.length (bv l)
  le : l.length ≤ c
  cap : c ≤ 9223372036854775807
  len : l.length ≤ 140737488355328

theorem RB.below {w w' : World} {A c l} (h : RB w A c l) (hb : Below w.heap.size w w') : RB w' A c l :=
  ⟨(h.reads.below hb).more hb.size, h.le, h.cap, h.len⟩
theorem RB.here {w0 : World} {A c l} (h : RB w0 A c l) (w : World) [k : After w0 w] : RB w A c l := h.below k.below
theorem RB.at_ {w : World} {A c l} (h : RB w A c l) {k : Nat} (hk : k < l.length) :
    ∃ ad, A = some ad ∧ Le (ad.block + 1) w ∧ w.cell? (ad.add k) = some (.bool (l.getD k false)) := by
  obtain ⟨ad, u, e, hb, hx, hc⟩ := h.reads.at_ hk
  refine ⟨ad, e, ⟨hb⟩, hc.trans ?_⟩
  rw [← hx]; simp [bv, List.getD_eq_getElem?_getD, hk]

/-- the same, the letter under a name of its own -/
theorem RB.bit {w : World} {A c l} (h : RB w A c l) {k : Nat} (hk : k < l.length) :
    ∃ ad b, A = some ad ∧ Le (ad.block + 1) w ∧ w.cell? (ad.add k) = some (.bool b) ∧ Hid (l.getD k false = b) := by
  obtain ⟨ad, e, hb, hc⟩ := h.at_ hk
  exact ⟨ad, _, e, hb, hc, rfl⟩

/-- a word by value: two slices of bools -/
structure RW (w : World) (A : Option Addr) (c : Nat) (B : Option Addr) (d : Nat) (h l : List Bool) : Prop where
  head : RB w A c h
  loop : RB w B d l
theorem RW.below {w w' : World} {A c B d h l} (x : RW w A c B d h l) (hb : Below w.heap.size w w') : RW w' A c B d h l :=
  ⟨x.head.below hb, x.loop.below hb⟩
theorem RW.here {w0 : World} {A c B d h l} (x : RW w0 A c B d h l) (w : World) [k : After w0 w] : RW w A c B d h l := x.below k.below
theorem RW.lens {w : World} {A c B d h l} (x : RW w A c B d h l) : h.length ≤ 140737488355328 ∧ l.length ≤ 140737488355328 := ⟨x.head.len, x.loop.len⟩

/-- a slice of ints that reads as l -/
structure RI (w : World) (A : Option Addr) (c : Nat) (l : List Int) : Prop where
  reads : Reads w w.heap.size 1 A l.length (iv l)
  le : l.length ≤ c
  cap : c ≤ 9223372036854775807
  len : l.length ≤ 140737488355328
theorem RI.below {w w' : World} {A c l} (h : RI w A c l) (hb : Below w.heap.size w w') : RI w' A c l :=
  ⟨(h.reads.below hb).more hb.size, h.le, h.cap, h.len⟩
theorem RI.here {w0 : World} {A c l} (h : RI w0 A c l) (w : World) [k : After w0 w] : RI w A c l := h.below k.below
theorem RI.at_ {w : World} {A c l} (h : RI w A c l) {k : Nat} (hk : k < l.length) :
    ∃ ad, A = some ad ∧ Le (ad.block + 1) w ∧ w.cell? (ad.add k) = some (.int .i64 (l.getD k 0)) := by
  obtain ⟨ad, u, e, hb, hx, hc⟩ := h.reads.at_ hk
  refine ⟨ad, e, ⟨hb⟩, hc.trans ?_⟩
  rw [← hx]; simp [iv, List.getD_eq_getElem?_getD, hk]
theorem RI.int {w : World} {A c l} (h : RI w A c l) {k : Nat} (hk : k < l.length) :
    ∃ ad z, A = some ad ∧ Le (ad.block + 1) w ∧ w.cell? (ad.add k) = some (.int .i64 z) ∧ Hid (l.getD k 0 = z) := by
  obtain ⟨ad, e, hb, hc⟩ := h.at_ hk
  exact ⟨ad, _, e, hb, hc, rfl⟩

/-- from an owned row to a reading -/
theorem Reads.of_own {w : World} {size n : Nat} {A : Option Addr} {xs : List Value} {base : Nat} {e : TypeId} {c : Nat} (h : w.ownsRow base e size (.slice A n c) n xs) : Reads w w.heap.size size A n xs := by
  refine ⟨h.1, fun hn => ?_⟩
  rcases h.2 with ⟨h1, h2⟩ | ⟨g, cap, cur, hv, hbg, hh, hnc, hcap, hsz, htk⟩
  · omega
  · injection hv with hA
    subst hA
    have hlt : g < w.heap.size := by
      rcases Nat.lt_or_ge g w.heap.size with h' | h'
      · exact h'
      · rw [Array.getElem?_eq_none h'] at hh; cases hh
    exact ⟨_, rfl, hlt, h.cells (g := g) rfl⟩
theorem own_slice {w : World} {size n : Nat} {v : Value} {xs : List Value} {base : Nat} {e : TypeId} (h : w.ownsRow base e size v n xs) :
    ∃ A c, v = .slice A n c ∧ n ≤ c ∧ c ≤ 9223372036854775807 := by
  rcases h.2 with ⟨h1, h2⟩ | ⟨g, cap, cur, hv, hbg, hh, hnc, hcap, hsz, htk⟩
  · subst h2; exact ⟨none, 0, h1, Nat.le_refl _, by omega⟩
  · exact ⟨_, _, hv, hnc, by unfold maxLen at hcap; exact hcap⟩
theorem RB.of_own {w : World} {v : Value} {l : List Bool} {base : Nat} {e : TypeId} (h : w.ownsRow base e 1 v l.length (bv l)) (hl : l.length ≤ 140737488355328) :
    ∃ A c, v = .slice A l.length c ∧ RB w A c l := by
  obtain ⟨A, c, rfl, h1, h2⟩ := own_slice h
  exact ⟨A, c, rfl, Reads.of_own h, h1, h2, hl⟩
theorem RI.of_own {w : World} {v : Value} {l : List Int} {base : Nat} {e : TypeId} (h : w.ownsRow base e 1 v l.length (iv l)) (hl : l.length ≤ 140737488355328) :
    ∃ A c, v = .slice A l.length c ∧ RI w A c l := by
  obtain ⟨A, c, rfl, h1, h2⟩ := own_slice h
  exact ⟨A, c, rfl, Reads.of_own h, h1, h2, hl⟩

theorem ret_int {k : IntKind} {a b : Int} (h : a = b) : Ending.returned (.int k a) = .returned (.int k b) := by rw [h]
theorem ret_ii {k k' : IntKind} {a b c d : Int} (h : a = b) (h' : c = d) : Ending.returned (.tuple #[.int k a, .int k' c]) = .returned (.tuple #[.int k b, .int k' d]) := by rw [h, h']
theorem ret_ib {k : IntKind} {a b : Int} {c d : Bool} (h : a = b) (h' : c = d) : Ending.returned (.tuple #[.int k a, .bool c]) = .returned (.tuple #[.int k b, .bool d]) := by rw [h, h']
theorem ret_bool {a b : Bool} (h : a = b) : Ending.returned (.bool a) = .returned (.bool b) := by rw [h]


/-! ### 'out = append(out, x)' on a row of the call's own -/
theorem after_grown {w0 wr w' : World} [h : After w0 wr] {e : TypeId} {size n : Nat} {v : Value} {xs : List Value} (hown : wr.ownsRow w0.heap.size e size v n xs) (hg : wr.grownBy w' v.ownBlock) : After w0 w' :=
  ⟨h.below.grown hg h.below.size fun k hk => (hown.lt k hk).1⟩
theorem wpList_append_one {P : Program} {w0 : World} (wr : World) [After w0 wr] {ops : Array Oper} {rest : List Oper} {o : Oper} {a : Act} {Q : Exit → Act → World → Prop} (hgd : o.guard = none) (s x : Operand) (t : TypeId)
    (ho : o.op = .call { callee := .builtin .append, args := #[s, x], argTypes := #[t, t] })
    (e : TypeId) (z : Value) (bytes : Nat) (ht : P.underlying t = some (.slice e)) (hi : (P.info? e).map (fun i => (i.zero, i.size, i.bytes)) = some (some z, 1, bytes)) (hzs : z.cells.size = 1)
    (v : Value) (n : Nat) (xs : List Value) (u : Value) (hs : a.eval s = v) (hown : wr.ownsRow w0.heap.size e 1 v n xs)
    (hx : a.eval x = .slice (some ⟨wr.heap.size, 0, none⟩) 1 1) (h1 : u.oneCell' = true) (hn : (n + 1) * bytes ≤ 140737488355328) (hm : n < 140737488355328)
    (h : ∀ v' w', w'.ownsRow w0.heap.size e 1 v' (n + 1) (xs ++ [u]) → After w0 w' → wpList P ops Q rest (a.put o.dst v') w') :
    wpList P ops Q (o :: rest) a (wr.alloc (.cells #[u] e)) := by
  obtain ⟨i, hi1, hi2, hi3, hi4⟩ := info_parts hi
  refine wpList_append_own _ hgd s x t ho w0.heap.size e i z 1 bytes ht hi1 hi2 hi3 hi4 hzs (by decide) v n xs hs (hown.alloc _) ⟨wr.heap.size, 0, none⟩ 1 1 [u] hx rfl ?_ ?_ (by unfold maxLen; omega) hn ?_ ?_
  · intro j b hj
    match j, hj with
    | 0, hj => simp at hj; subst hj; simp [Addr.add]
  · intro b hb; simp at hb; subst hb; exact h1
  · exact Nat.le_trans (After.size w0 wr) (by simp)
  · intro v' w' h2 h3 _
    exact h v' w' h2 (after_grown (hown.alloc _) h3)
end Go.Proofs.Ytdghfhnkacfahaa
