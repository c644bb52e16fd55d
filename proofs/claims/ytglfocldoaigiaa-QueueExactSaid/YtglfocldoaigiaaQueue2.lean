/-
  Contracts: slices.Clone at []int; queue.New; Peak, Len, Pop; Push of a full queue.
-/
import Derived.Test.YtglfocldoaigiaaAny
import Derived.Test.YtglfocldoaigiaaQueue1
namespace Go.Proofs.Ytglfocldoaigiaa
open Go.RowKit Go.BigFrame

set_option maxHeartbeats 800000 in
theorem clone_ints {w0 : World} {A c l} (x : RI w0 A c l) (w : World) [After w0 w] (hl : l.length ≤ 1000000) :
    Calls Try.prog 64 #[.slice A l.length c] w fun e w' => ∃ v r, e = .returned v ∧ QRow w' 3 v (iv l) r ∧ (∀ g, r = some g → w.heap.size ≤ g) ∧ ∃ y, w' = w.more y := by
  replace x := x.here w
  obtain ⟨i0, hi0, hz0, hz1, hz2⟩ := info_parts int_info
  cases A with
  | none =>
    have h0 : l = [] := by
      cases l with
      | nil => rfl
      | cons a b => obtain ⟨ad, h, _⟩ := x.reads.2 (by simp); cases h
    subst h0
    have hnil := fun (u : World) => Lib.run_eql_slice_nil (P := Try.prog) u 40 3 none 0 c 0 0 Try.underlying40
    go_enter Try.func64, Try.ntmps64
    go_wp2
    go_ret
    exact ⟨_, none, rfl, .inl ⟨rfl, rfl, rfl⟩, (fun g hg => by cases hg), After.is_more _ _⟩
  | some ad =>
    have hnil := fun (u : World) => Lib.run_eql_slice_nil (P := Try.prog) u 40 3 (some ad) l.length c 0 0 Try.underlying40
    have hr : Reads (w.alloc (.cells #[] 3)) w.heap.size 1 (some ad) l.length (iv l) := x.reads.keep fun p hp => World.cell?_alloc_lt w _ p hp
    have h1 : ∀ u ∈ iv l, u.oneCell' = true := ints_oneCell _ _
    go_enter Try.func64, Try.ntmps64
    go_wp2_with (at_builtin; refine wpList_append_any _ rfl (.tmp 5) (.tmp 6) 40 rfl w.heap.size 3 i0 _ 1 8 Try.underlying40 hi0 hz0 hz1 hz2 rfl (by omega) (.slice (some ⟨w.heap.size, 0, none⟩) 0 0) 0 [] rfl (World.ownsRow_made _ #[] 0 (Nat.le_refl _) (by decide) (by decide)) w.heap.size (some ad) l.length c (iv l) rfl hr h1 (by unfold maxLen; omega) (by omega) (by simp) ?_; intro v1 w1 hown1 hg1 _)
    go_ret
    obtain ⟨r, hq, hlt⟩ := QRow.of_own hown1
    have haft : After w w1 := ⟨((Below.refl _ _).alloc (Nat.le_refl _) _).grown hg1 (by simp) (fun k hk => by simp [Value.ownBlock] at hk; omega)⟩
    exact ⟨_, r, rfl, by simpa using hq, fun g hg => (hlt g hg).1, After.is_more _ _⟩

/-- a queue in memory: its block g, its row r -/
structure QIs (w : World) (T : TypeId) (g : Nat) (room : Int) (xs : List Int) (peak : Int) (r : Option Nat) : Prop where
  row : ∃ v, Blk w g T #[.int .i64 room, v, .int .i64 peak] ∧ QRow w 3 v (iv xs) r
  apart : r ≠ some g

theorem QIs.after {w w' : World} {T g room xs peak r} (h : QIs w T g room xs peak r) [After w w'] : QIs w' T g room xs peak r := by
  obtain ⟨v, hb, hq⟩ := h.row
  have k : After w w' := inferInstance
  exact ⟨⟨v, hb.after, hq.keep fun g' hg' => k.below.block g' (hq.lt hg')⟩, h.apart⟩
theorem QIs.more {w : World} {T g room xs peak r} (h : QIs w T g room xs peak r) (y : World) : QIs (w.more y) T g room xs peak r := h.after
/-- another queue, or memory, that the step does not touch -/
theorem QIs.frame {w w' : World} {T g room xs peak r} {g' : Nat} {r' : Option Nat} (h : QIs w T g room xs peak r) (f : Frame2 w w' g' r') (h1 : g ≠ g') (h2 : some g ≠ r') (h3 : ∀ k, r = some k → k ≠ g' ∧ some k ≠ r') : QIs w' T g room xs peak r := by
  obtain ⟨v, hb, hq⟩ := h.row
  exact ⟨⟨v, (f.block g hb.lt h1 h2).trans hb, hq.keep fun k hk => f.block k (hq.lt hk) (h3 k hk).1 (h3 k hk).2⟩, h.apart⟩

theorem RI.lens {w : World} {A c l} (x : RI w A c l) : l.length ≤ 140737488355328 := x.len
theorem new_bad {w0 : World} {A c l} (x : RI w0 A c l) (w : World) [After w0 w] (room : Int) (hb : room < 0 ∨ 65536 < room ∨ room < l.length) :
    Calls Try.prog 29 #[.int .i64 room, .slice A l.length c] w fun e w' => e = .returned (.tuple #[.pointer none, .int .i64 2]) ∧ ∃ y, w' = w.more y := by
  have hl := x.len
  by_cases h1 : room < 0
  · go_enter Try.func29, Try.ntmps29
    go_wp2_with fail
    go_ret2
    exact ⟨rfl, After.is_more _ _⟩
  · by_cases h2 : 65536 < room
    · go_enter Try.func29, Try.ntmps29
      go_wp2_with fail
      go_ret2
      exact ⟨rfl, After.is_more _ _⟩
    · have h3 : room < (l.length : Int) := by omega
      go_enter Try.func29, Try.ntmps29
      go_wp2_with fail
      go_ret2
      exact ⟨rfl, After.is_more _ _⟩
set_option maxHeartbeats 800000 in
theorem new_ok {w0 : World} {A c l} (x : RI w0 A c l) (w : World) [After w0 w] (room : Int) (h0 : 0 ≤ room) (h1 : room ≤ 65536) (h2 : l.length ≤ room) :
    Calls Try.prog 29 #[.int .i64 room, .slice A l.length c] w fun e w' => ∃ g r, e = .returned (.tuple #[.pointer (some ⟨g, 0, none⟩), .int .i64 0]) ∧ QIs w' 77 g room l l.length r ∧ w.heap.size ≤ g ∧ (∀ k, r = some k → w.heap.size ≤ k) ∧ ∃ y, w' = w.more y := by
  have hl : l.length ≤ 1000000 := by omega
  go_enter Try.func29, Try.ntmps29
  go_wp2_with (go_at_call 64; with_reducible refine (clone_ints x _ hl).mono ?_; rintro e w' ⟨v, r, rfl, hq, hlt, y, rfl⟩; obtain ⟨A1, c1, rfl, _, _⟩ := hq.slice)
  go_ret2
  refine ⟨(w.more y).heap.size, r, rfl, ⟨⟨_, Blk.new (w.more y) _ _, hq.keep fun g hg => Below.heap_alloc _ _ g (hq.lt hg)⟩, fun e => ?_⟩, more_size w y, hlt, After.is_more _ _⟩
  have := hq.lt e
  omega

/-! ### Peak, Len, Pop; Push of a full queue -/
theorem peak_any {w : World} {g room xs peak r} (h : QIs w 77 g room xs peak r) :
    Calls Try.prog 31 #[.pointer (some ⟨g, 0, none⟩)] w fun e w' => e = .returned (.int .i64 peak) ∧ w = w' := by
  obtain ⟨v, hb, hq⟩ := h.row
  have c2 : w.cell? ⟨g, 2, none⟩ = some (.int .i64 peak) := by rw [hb.cell]; rfl
  go_enter Try.func31, Try.ntmps31
  go_wp2
  go_ret
  exact ⟨rfl, rfl⟩
theorem len_any {w : World} {g room xs peak r} (h : QIs w 77 g room xs peak r) :
    Calls Try.prog 41 #[.pointer (some ⟨g, 0, none⟩)] w fun e w' => e = .returned (.int .i64 (xs.length : Nat)) ∧ w = w' := by
  obtain ⟨v, hb, hq⟩ := h.row
  obtain ⟨A1, c1, rfl, _, _⟩ := hq.slice
  have e0 : (iv xs).length = xs.length := by simp [iv]
  rw [e0] at hb
  have c1 : w.cell? ⟨g, 1, none⟩ = some (.slice A1 xs.length c1) := by rw [hb.cell]; rfl
  clear e0
  go_enter Try.func41, Try.ntmps41
  go_wp2
  go_ret
  exact ⟨rfl, rfl⟩
end Go.Proofs.Ytglfocldoaigiaa
