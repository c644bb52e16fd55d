/-
  What stays when one block (a reader's) changes; rows of instructions and of routines; a struct stored whole.
-/
import Derived.Test.YtgmojjdojcmnaaaDoorIAll
set_option linter.unusedVariables false
set_option linter.unusedSimpArgs false
namespace Go.Proofs.YtgmojjdojcmnaaaDoor
open Go.RowKit Go.BigFrame

/-! ### what stays -/
section
variable {w w' : World} {g : Nat}
theorem Fr.alloc (h : Fr w w' g none) (o : Obj) : Fr w (w'.alloc o) g none :=
  ⟨h.os, h.tape, h.output, by rw [size_alloc_]; exact Nat.le_succ_of_le h.size, fun k hk h1 h2 => (Below.heap_alloc w' o k (Nat.lt_of_lt_of_le hk h.size)).trans (h.block k hk h1 h2)⟩
theorem Fr.drewN (h : Fr w w' g none) (n : Nat) : Fr w (w'.drewN n) g none := ⟨h.os, h.tape, h.output, h.size, h.block⟩
theorem Fr.drew (h : Fr w w' g none) : Fr w w'.drew g none := ⟨h.os, h.tape, h.output, h.size, h.block⟩
theorem Fr.set (h : Fr w w' g none) {k : Nat} (hk : w.heap.size ≤ k) (i : Nat) (v : Value) : Fr w (w'.setCell ⟨k, i, none⟩ v) g none :=
  ⟨h.os, h.tape, h.output, by rw [size_set_]; exact h.size, fun j hj h1 h2 => (Below.heap_setCell w' ⟨k, i, none⟩ v j (by show j ≠ k; omega)).trans (h.block j hj h1 h2)⟩
theorem Fr.mono {w0 : World} {r : Option Nat} (h : Fr w w' g none) (h0 : Fr w0 w g none) : Fr w0 w' g none := h0.tr h
theorem Fr.blk (h : Fr w w' g none) {k : Nat} {t : TypeId} {cs : Array Value} (hb : Blk w k t cs) (hk : k ≠ g) : Blk w' k t cs := (h.block k hb.lt hk (by simp)).trans hb
theorem RI.st {A c l} (x : RI w A c l) (h : Fr w w' g none) (hA : ∀ ad, A = some ad → ad.block ≠ g) : RI w' A c l := x.fr h fun ad e => ⟨hA ad e, by simp⟩
theorem RY.st {A c l} (x : RY w A c l) (h : Fr w w' g none) (hA : ∀ ad, A = some ad → ad.block ≠ g) : RY w' A c l :=
  ⟨⟨x.reads.1, fun hn => by
    obtain ⟨ad, e, hb, hc⟩ := x.reads.2 hn
    exact ⟨ad, e, Nat.lt_of_lt_of_le hb h.size, fun j u hu => by
      rw [← hc j u hu]
      exact World.cell?_of_block (w := w) (by rw [block_of_add]; exact h.block _ hb (hA ad e) (by simp))⟩⟩, x.le, x.cap, x.len⟩
theorem Fr.cell (h : Fr w w' g none) {b : Nat} (hb : b < w.heap.size) (hg : b ≠ g) (j : Nat) : w'.cell? ⟨b, j, none⟩ = w.cell? ⟨b, j, none⟩ :=
  World.cell?_of_block (w := w) (h.block b hb hg (by simp))
theorem RC.st {A c l} (x : RC w A c l) (h : Fr w w' g none) (hA : ∀ ad, A = some ad → ad.block ≠ g) : RC w' A c l := by
  refine ⟨?_, x.le, x.cap, x.len⟩
  rcases x.cells with e | ⟨b, p, e, hlt, hc⟩
  · exact .inl e
  · exact .inr ⟨b, p, e, Nat.lt_of_lt_of_le hlt h.size, fun i y hy => (hc i y hy).keep fun j => h.cell hlt (hA _ e) j⟩
end

/-! ### rows of several cells an element -/
theorem flat_get {α : Type} (f : α → List Value) (n : Nat) (hf : ∀ a, (f a).length = n) : ∀ (l : List α) (i : Nat) (a : α), l[i]? = some a → ∀ j, j < n → (l.flatMap f)[i * n + j]? = (f a)[j]?
  | [], i, a, h, j, hj => by simp at h
  | x :: l, 0, a, h, j, hj => by
    simp at h; subst h
    rw [List.flatMap_cons, Nat.zero_mul, Nat.zero_add, List.getElem?_append_left (by rw [hf]; exact hj)]
  | x :: l, i + 1, a, h, j, hj => by
    rw [List.flatMap_cons, List.getElem?_append_right (by rw [hf, Nat.succ_mul]; omega), hf, show (i + 1) * n + j - n = i * n + j by rw [Nat.succ_mul]; omega]
    exact flat_get f n hf l i a (by simpa using h) j hj
theorem flat_len {α : Type} (f : α → List Value) (n : Nat) (hf : ∀ a, (f a).length = n) (l : List α) : (l.flatMap f).length = l.length * n := by
  induction l with
  | nil => simp
  | cons a l ih => rw [List.flatMap_cons, List.length_append, hf, ih, List.length_cons, Nat.succ_mul]; omega
def c5 (i : Ins) : List Value := [.int .i64 i.op, .int .i64 i.a, .int .i64 i.b, .int .i64 i.c, .int .i64 i.d]
theorem c5_len (i : Ins) : (c5 i).length = 5 := rfl
theorem own_at {w : World} {base : Nat} {e : TypeId} {size n : Nat} {v : Value} {xs : List Value} (h : w.ownsRow base e size v n xs) (hn : 0 < n) : ∃ g c, v = .slice (some ⟨g, 0, none⟩) n c ∧ g < w.heap.size ∧ ∀ j u, xs[j]? = some u → w.cell? ⟨g, j, none⟩ = some u := by
  rcases h.2 with ⟨h1, h2⟩ | ⟨g, cap, cur, hv, hbg, hh, hnc, hcap, hsz, htk⟩
  · omega
  · subst hv
    refine ⟨g, cap, rfl, ?_, fun j u hu => ?_⟩
    · rcases Nat.lt_or_ge g w.heap.size with h' | h'
      · exact h'
      · rw [Array.getElem?_eq_none h'] at hh; cases hh
    · have := h.cells (g := g) rfl j u hu
      rwa [Addr.add_lit, Nat.zero_add] at this
theorem RC.of_own {w : World} {base : Nat} {e : TypeId} {A : Option Addr} {c : Nat} {l : List Ins} (h : w.ownsRow base e 5 (.slice A l.length c) l.length (l.flatMap c5)) (hl : l.length ≤ 140737488355328) : RC w A c l := by
  obtain ⟨A', c', e', h1, h2⟩ := own_slice h
  injection e' with _ _ e3
  subst e3
  refine ⟨?_, h1, h2, hl⟩
  rcases Nat.eq_zero_or_pos l.length with h0 | h0
  · exact .inl (List.eq_nil_of_length_eq_zero h0)
  · obtain ⟨g, c1, e1, hg, hc⟩ := own_at h h0
    injection e1 with eA _ _
    refine .inr ⟨g, 0, eA, hg, fun i x hx => ?_⟩
    have hget := flat_get c5 5 c5_len l i x hx
    refine ⟨hc _ _ ?_, hc _ _ ?_, hc _ _ ?_, hc _ _ ?_, hc _ _ ?_⟩
    · rw [Nat.zero_add]; exact (hget 0 (by omega)).trans rfl
    · rw [Nat.zero_add]; exact (hget 1 (by omega)).trans rfl
    · rw [Nat.zero_add]; exact (hget 2 (by omega)).trans rfl
    · rw [Nat.zero_add]; exact (hget 3 (by omega)).trans rfl
    · rw [Nat.zero_add]; exact (hget 4 (by omega)).trans rfl

/-! ### six cells stored -/
def put6 (w : World) (g : Nat) (v0 v1 v2 v3 v4 v5 : Value) : World := (((((w.setCell ⟨g, 0, none⟩ v0).setCell ⟨g, 1, none⟩ v1).setCell ⟨g, 2, none⟩ v2).setCell ⟨g, 3, none⟩ v3).setCell ⟨g, 4, none⟩ v4).setCell ⟨g, 5, none⟩ v5
theorem lit6 (a0 a1 a2 a3 a4 a5 v0 v1 v2 v3 v4 v5 : Value) : ((((((#[a0, a1, a2, a3, a4, a5] : Array Value).setIfInBounds 0 v0).setIfInBounds 1 v1).setIfInBounds 2 v2).setIfInBounds 3 v3).setIfInBounds 4 v4).setIfInBounds 5 v5 = #[v0, v1, v2, v3, v4, v5] := by simp
theorem put6_blk {w : World} {g : Nat} {t : TypeId} {a0 a1 a2 a3 a4 a5 : Value} (h : Blk w g t #[a0, a1, a2, a3, a4, a5]) (v0 v1 v2 v3 v4 v5 : Value) : Blk (put6 w g v0 v1 v2 v3 v4 v5) g t #[v0, v1, v2, v3, v4, v5] := by
  rw [← lit6 a0 a1 a2 a3 a4 a5]
  exact (((((h.set_ 0 v0).set_ 1 v1).set_ 2 v2).set_ 3 v3).set_ 4 v4).set_ 5 v5
theorem put6_size (w : World) (g : Nat) (v0 v1 v2 v3 v4 v5 : Value) : (put6 w g v0 v1 v2 v3 v4 v5).heap.size = w.heap.size := by
  unfold put6; simp only [size_set_]
theorem put6_heap (w : World) (g : Nat) (v0 v1 v2 v3 v4 v5 : Value) {b : Nat} (hb : b ≠ g) : (put6 w g v0 v1 v2 v3 v4 v5).heap[b]? = w.heap[b]? := by
  unfold put6
  rw [Below.heap_setCell _ _ _ _ hb, Below.heap_setCell _ _ _ _ hb, Below.heap_setCell _ _ _ _ hb, Below.heap_setCell _ _ _ _ hb, Below.heap_setCell _ _ _ _ hb, Below.heap_setCell _ _ _ _ hb]
theorem Fr.put6 {w w' : World} {g : Nat} (h : Fr w w' g none) {k : Nat} (hk : w.heap.size ≤ k) (v0 v1 v2 v3 v4 v5 : Value) : Fr w (put6 w' k v0 v1 v2 v3 v4 v5) g none :=
  (((((h.set hk 0 v0).set hk 1 v1).set hk 2 v2).set hk 3 v3).set hk 4 v4).set hk 5 v5
theorem RdIs.far {w : World} {g A c bs s} (h : RdIs w g A c bs s) {k : Nat} (hk : g ≠ k) (i : Nat) (v : Value) : RdIs (w.setCell ⟨k, i, none⟩ v) g A c bs s := by
  obtain ⟨n, hb, h1, h2⟩ := h.blk
  exact ⟨n, hb.far (p := ⟨k, i, none⟩) hk v, h1, h2⟩
theorem RdIs.put6 {w : World} {g A c bs s} (h : RdIs w g A c bs s) {k : Nat} (hk : g ≠ k) (v0 v1 v2 v3 v4 v5 : Value) : RdIs (put6 w k v0 v1 v2 v3 v4 v5) g A c bs s :=
  (((((h.far hk 0 v0).far hk 1 v1).far hk 2 v2).far hk 3 v3).far hk 4 v4).far hk 5 v5
theorem RdIs.drew {w : World} {g A c bs s} (h : RdIs w g A c bs s) : RdIs w.drew g A c bs s := by
  obtain ⟨k, hb, hk, hr⟩ := h.blk
  exact ⟨k, hb.drew, hk, hr⟩
theorem codeF_stop {n : Nat} {acc : List Ins} {s : St} (h : s.e ≠ 0) : codeF n acc s = (acc, s) := by
  cases n with
  | zero => rfl
  | succ n => rw [codeF, if_neg h]
theorem rtsF_stop {n : Nat} {acc : List Rtn} {s : St} (h : s.e ≠ 0) : rtsF n acc s = (acc, s) := by
  cases n with
  | zero => rfl
  | succ n => rw [rtsF, if_neg h]
theorem instrInfo : (Tryd.prog.info? 61).map (fun i => (i.zero, i.size, i.bytes)) = some (some (.agg #[.int .i64 0, .int .i64 0, .int .i64 0, .int .i64 0, .int .i64 0]), 5, 40) := by kernel_rfl
theorem rtnInfo : (Tryd.prog.info? 52).map (fun i => (i.zero, i.size, i.bytes)) = some (some (.agg #[.string ⟨#[]⟩, .slice none 0 0, .slice none 0 0, .int .i64 0, .slice none 0 0, .slice none 0 0]), 6, 120) := by kernel_rfl
theorem Reads.lit (w : World) (t : TypeId) (n : Nat) (us : List Value) (hu : us.length = n) : Reads (w.alloc (.cells us.toArray t)) (w.heap.size + 1) n (some ⟨w.heap.size, 0, none⟩) 1 us := by
  refine ⟨by omega, fun _ => ⟨_, rfl, Nat.lt_succ_self _, fun j x hx => ?_⟩⟩
  rw [Addr.add_lit, (Blk.new w t us.toArray).cell, ← hx]; simp
theorem c5_one {i : Ins} : ∀ u ∈ c5 i, u.oneCell' = true := by
  intro u hu
  simp only [c5, List.mem_cons, List.not_mem_nil, or_false] at hu
  rcases hu with rfl | rfl | rfl | rfl | rfl <;> rfl
theorem fr_put6 (w : World) (g : Nat) (v0 v1 v2 v3 v4 v5 : Value) : Fr w (put6 w g v0 v1 v2 v3 v4 v5) g none :=
  (((((fr_set w g 0 v0).tr (fr_set _ g 1 v1)).tr (fr_set _ g 2 v2)).tr (fr_set _ g 3 v3)).tr (fr_set _ g 4 v4)).tr (fr_set _ g 5 v5)
end Go.Proofs.YtgmojjdojcmnaaaDoor
