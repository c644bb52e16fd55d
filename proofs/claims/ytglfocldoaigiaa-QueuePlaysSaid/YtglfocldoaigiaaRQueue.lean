/-
  Contracts: the reference's queue; the queue's List.
-/
import Derived.Test.YtglfocldoaigiaaPush
namespace Go.Proofs.Ytglfocldoaigiaa
open Go.RowKit Go.BigFrame

theorem rnew_bad {w0 : World} {A c l} (x : RI w0 A c l) (w : World) [After w0 w] (room : Int) (hb : room < 0 ∨ 65536 < room ∨ room < l.length) :
    Calls Try.prog 36 #[.int .i64 room, .slice A l.length c] w fun e w' => e = .returned (.tuple #[.pointer none, .int .i64 2]) ∧ ∃ y, w' = w.more y := by
  have hl := x.len
  by_cases h1 : room < 0
  · go_enter Try.func36, Try.ntmps36
    go_wp2_with fail
    go_ret2
    exact ⟨rfl, After.is_more _ _⟩
  · by_cases h2 : 65536 < room
    · go_enter Try.func36, Try.ntmps36
      go_wp2_with fail
      go_ret2
      exact ⟨rfl, After.is_more _ _⟩
    · have h3 : room < (l.length : Int) := by omega
      go_enter Try.func36, Try.ntmps36
      go_wp2_with fail
      go_ret2
      exact ⟨rfl, After.is_more _ _⟩

theorem rpeak_any {w : World} {g room xs peak r} (h : QIs w 79 g room xs peak r) :
    Calls Try.prog 43 #[.pointer (some ⟨g, 0, none⟩)] w fun e w' => e = .returned (.int .i64 peak) ∧ w = w' := by
  obtain ⟨v, hb, hq⟩ := h.row
  have c2 : w.cell? ⟨g, 2, none⟩ = some (.int .i64 peak) := by rw [hb.cell]; rfl
  go_enter Try.func43, Try.ntmps43
  go_wp2
  go_ret
  exact ⟨rfl, rfl⟩

theorem rlen_any {w : World} {g room xs peak r} (h : QIs w 79 g room xs peak r) :
    Calls Try.prog 42 #[.pointer (some ⟨g, 0, none⟩)] w fun e w' => e = .returned (.int .i64 (xs.length : Nat)) ∧ w = w' := by
  obtain ⟨v, hb, hq⟩ := h.row
  obtain ⟨A1, c1, rfl, _, _⟩ := hq.slice
  have e0 : (iv xs).length = xs.length := by simp [iv]
  rw [e0] at hb
  have c1 : w.cell? ⟨g, 1, none⟩ = some (.slice A1 xs.length c1) := by rw [hb.cell]; rfl
  clear e0
  go_enter Try.func42, Try.ntmps42
  go_wp2
  go_ret
  exact ⟨rfl, rfl⟩

theorem rpop_empty {w : World} {g room peak r} (h : QIs w 79 g room [] peak r) :
    Calls Try.prog 38 #[.pointer (some ⟨g, 0, none⟩)] w fun e w' => e = .returned (.tuple #[.int .i64 0, .int .i64 19]) ∧ w = w' := by
  obtain ⟨v, hb, hq⟩ := h.row
  obtain ⟨A1, c1, rfl, _, _⟩ := hq.slice
  have c1 : w.cell? ⟨g, 1, none⟩ = some (.slice A1 0 c1) := by rw [hb.cell]; rfl
  go_enter Try.func38, Try.ntmps38
  go_wp2
  go_ret2
  exact ⟨rfl, rfl⟩


set_option maxHeartbeats 800000 in
theorem rpop_some {w : World} {g room x xs peak r} (h : QIs w 79 g room (x :: xs) peak r) :
    Calls Try.prog 38 #[.pointer (some ⟨g, 0, none⟩)] w fun e w' => e = .returned (.tuple #[.int .i64 x, .int .i64 0]) ∧ QIs w' 79 g room xs peak r ∧ Frame2 w w' g r := by
  obtain ⟨v, hb, hq⟩ := h.row
  have hap := h.apart
  rcases hq with ⟨_, h2, _⟩ | ⟨g2, o, cap, cur, hr, rfl, hh, hn, hm, hsz, hcur⟩
  · simp [iv] at h2
  · have e0 : (iv (x :: xs)).length = xs.length + 1 := by simp [iv]
    rw [e0] at hb hn
    have c1 : w.cell? ⟨g, 1, none⟩ = some (.slice (some ⟨g2, o, none⟩) (xs.length + 1) cap) := by rw [hb.cell]; rfl
    have f1 := hb.frozen 1
    have d0 : w.cell? ⟨g2, o, none⟩ = some (.int .i64 x) := by
      have := cell_of_row w g2 o cur 3 (0, 0) hh
      rw [this]
      have := hcur 0 (by simp [iv])
      simpa [iv] using this
    have hne : g2 ≠ g := fun e => hap (by rw [hr, e])
    have hm' : cap ≤ 9223372036854775807 := by unfold maxLen at hm; exact hm
    have hcur' : ∀ j, j < (iv xs).length → cur[o + 1 + j]? = (iv xs)[j]? := fun j hj => by
      have := hcur (j + 1) (by simp [iv] at hj ⊢; omega)
      rw [show o + 1 + j = o + (j + 1) by omega, this]
      simp [iv]
    have hlen : (iv xs).length = xs.length := by simp [iv]
    have HH := Lib.hid hh
    have HC := Lib.hid hcur'
    have HL := Lib.hid hlen
    clear hh hcur hcur' e0 hlen
    by_cases hcap : cap = 1
    · subst hcap
      have hx0 : xs.length = 0 := by omega
      have hxs : xs = [] := List.eq_nil_of_length_eq_zero hx0
      subst hxs
      go_enter Try.func38, Try.ntmps38
      go_wp2
      go_ret2
      exact ⟨rfl, ⟨⟨_, hb.set_ 1 _, .inr ⟨g2, o, 0, cur, hr, rfl, (Below.heap_setCell w ⟨g, 1, none⟩ _ g2 hne).trans HH.out, by simp [iv], by decide, by omega, fun j hj => by simp [iv] at hj⟩⟩, h.apart⟩, Frame2.set _ _ _ _⟩
    · go_enter Try.func38, Try.ntmps38
      go_wp2
      go_ret2
      exact ⟨rfl, ⟨⟨_, hb.set_ 1 _, .inr ⟨g2, o + 1, cap - 1, cur, hr, by rw [HL.out], (Below.heap_setCell w ⟨g, 1, none⟩ _ g2 hne).trans HH.out, by rw [HL.out]; omega, by unfold maxLen; omega, by omega, HC.out⟩⟩, h.apart⟩, Frame2.set _ _ _ _⟩


theorem rpush_full {w : World} {g room xs peak r} (h : QIs w 79 g room xs peak r) (v : Int) (hf : room ≤ xs.length) :
    Calls Try.prog 40 #[.pointer (some ⟨g, 0, none⟩), .int .i64 v] w fun e w' => e = .returned (.int .i64 18) ∧ ∃ y, w' = w.more y := by
  obtain ⟨v0, hb, hq⟩ := h.row
  obtain ⟨A1, c1, rfl, _, _⟩ := hq.slice
  have e0 : (iv xs).length = xs.length := by simp [iv]
  rw [e0] at hb
  have c0 : w.cell? ⟨g, 0, none⟩ = some (.int .i64 room) := by rw [hb.cell]; rfl
  have c1 : w.cell? ⟨g, 1, none⟩ = some (.slice A1 xs.length c1) := by rw [hb.cell]; rfl
  clear e0
  go_enter Try.func40, Try.ntmps40
  go_wp2_with fail
  go_quiet (fail)
  go_wp2_with fail
  go_ret
  exact ⟨rfl, After.is_more _ _⟩

set_option maxHeartbeats 800000 in
theorem rnew_ok {w0 : World} {A c l} (x : RI w0 A c l) (w : World) [After w0 w] (room : Int) (h0 : 0 ≤ room) (h1 : room ≤ 65536) (h2 : l.length ≤ room) :
    Calls Try.prog 36 #[.int .i64 room, .slice A l.length c] w fun e w' => ∃ g r, e = .returned (.tuple #[.pointer (some ⟨g, 0, none⟩), .int .i64 0]) ∧ QIs w' 79 g room l l.length r ∧ w.heap.size ≤ g ∧ (∀ k, r = some k → w.heap.size ≤ k) ∧ ∃ y, w' = w.more y := by
  have hl : l.length ≤ 1000000 := by omega
  replace x := x.here w
  obtain ⟨i0, hi0, hz0, hz1, hz2⟩ := info_parts int_info
  have hr : Reads (w.alloc (.cells #[] 3)) w.heap.size 1 A l.length (iv l) := x.reads.keep fun p hp => World.cell?_alloc_lt w _ p hp
  have h1 : ∀ u ∈ iv l, u.oneCell' = true := ints_oneCell _ _
  go_enter Try.func36, Try.ntmps36
  go_wp2_with (at_builtin; go_loud (refine wpList_append_any _ rfl (.tmp 19) (.tmp 20) 40 rfl w.heap.size 3 i0 _ 1 8 Try.underlying40 hi0 hz0 hz1 hz2 rfl (by omega) (.slice (some ⟨w.heap.size, 0, none⟩) 0 0) 0 [] rfl (World.ownsRow_made _ #[] 0 (Nat.le_refl _) (by decide) (by decide)) w.heap.size A l.length c (iv l) rfl hr h1 (by unfold maxLen; omega) (by omega) (by simp) ?_; intro v1 w1 hown1 hg1 _; obtain ⟨r1, hq1, hlt1⟩ := QRow.of_own hown1; obtain ⟨A2, c2, rfl, _, _⟩ := hq1.slice; replace hown1 := Lib.hid hown1; replace hg1 := Lib.hid hg1; replace hlt1 := Lib.hid hlt1; replace hq1 := Lib.hid hq1))
  go_ret2
  have haft : After w w1 := ⟨((Below.refl _ _).alloc (Nat.le_refl _) _).grown hg1.out (by simp) (fun k hk => by simp [Value.ownBlock] at hk; omega)⟩
  have hq2 := hq1.out
  simp only [List.nil_append] at hq2
  refine ⟨w1.heap.size, r1, rfl, ⟨⟨_, Blk.new w1 _ _, ?_⟩, fun e => ?_⟩, haft.below.size, fun k hk => (hlt1.out k hk).1, After.is_more _ _⟩
  · have := hq2.keep (w' := w1.alloc (.cells #[.int .i64 room, .slice A2 l.length c2, .int .i64 l.length] 79)) fun k hk => Below.heap_alloc w1 _ k (hq2.lt hk)
    simpa [iv] using this
  · have := (hlt1.out _ e).2
    omega

set_option maxHeartbeats 800000 in
theorem rlist_any {w : World} {g room xs peak r} (h : QIs w 79 g room xs peak r) (hl : xs.length ≤ 1000000) :
    Calls Try.prog 46 #[.pointer (some ⟨g, 0, none⟩)] w fun e w' => ∃ A c, e = .returned (.slice A xs.length c) ∧ RI w' A c xs ∧ ∃ y, w' = w.more y := by
  obtain ⟨v, hb, hq⟩ := h.row
  obtain ⟨i0, hi0, hz0, hz1, hz2⟩ := info_parts int_info
  obtain ⟨A1, c1, rfl, _, _⟩ := hq.slice
  have e0 : (iv xs).length = xs.length := by simp [iv]
  rw [e0] at hb hq
  have hr : Reads (w.alloc (.cells #[] 3)) w.heap.size 1 A1 xs.length (iv xs) := (hq.reads).keep fun p hp => World.cell?_alloc_lt w _ p hp
  have h1 : ∀ u ∈ iv xs, u.oneCell' = true := ints_oneCell _ _
  have hle := hb.is_le
  have d1 : (w.alloc (.cells #[] 3)).cell? ⟨g, 1, none⟩ = some (.slice A1 xs.length c1) := ((hb.alloc _).cell 1).trans rfl
  have d2 : w.cell? ⟨g, 1, none⟩ = some (.slice A1 xs.length c1) := (hb.cell 1).trans rfl
  clear e0
  go_enter Try.func46, Try.ntmps46
  go_wp2_with (at_builtin; go_loud (refine wpList_append_any _ rfl (.tmp 3) (.tmp 7) 40 rfl w.heap.size 3 i0 _ 1 8 Try.underlying40 hi0 hz0 hz1 hz2 rfl (by omega) (.slice (some ⟨w.heap.size, 0, none⟩) 0 0) 0 [] rfl (World.ownsRow_made _ #[] 0 (Nat.le_refl _) (by decide) (by decide)) w.heap.size A1 xs.length c1 (iv xs) rfl hr h1 (by unfold maxLen; omega) (by omega) (by simp) ?_; intro v1 w1 hown1 hg1 _))
  go_ret
  have haft : After w w1 := ⟨((Below.refl _ _).alloc (Nat.le_refl _) _).grown hg1 (by simp) (fun k hk => by simp [Value.ownBlock] at hk; omega)⟩
  have hown2 : w1.ownsRow w.heap.size 3 1 v1 xs.length (iv xs) := by simpa using hown1
  obtain ⟨A2, c2, rfl, x2⟩ := RI.of_own hown2 (by omega)
  exact ⟨A2, c2, rfl, x2, After.is_more _ _⟩

theorem list_any {w : World} {g room xs peak r} (h : QIs w 77 g room xs peak r) (hl : xs.length ≤ 1000000) :
    Calls Try.prog 45 #[.pointer (some ⟨g, 0, none⟩)] w fun e w' => ∃ A c, e = .returned (.slice A xs.length c) ∧ RI w' A c xs ∧ ∃ y, w' = w.more y := by
  obtain ⟨v, hb, hq⟩ := h.row
  obtain ⟨A1, c1, rfl, h2, h3⟩ := hq.slice
  have e0 : (iv xs).length = xs.length := by simp [iv]
  rw [e0] at hb hq h2
  have x : RI w A1 c1 xs := ⟨hq.reads, h2, h3, by omega⟩
  have d2 : w.cell? ⟨g, 1, none⟩ = some (.slice A1 xs.length c1) := (hb.cell 1).trans rfl
  clear e0
  go_enter Try.func45, Try.ntmps45
  go_wp2_with fail
  refine (clone_ints x _ hl).mono ?_
  rintro e w' ⟨v, r2, rfl, hq2, hlt, y, rfl⟩
  obtain ⟨A2, c2, rfl, g1, g2⟩ := hq2.slice
  have e0 : (iv xs).length = xs.length := by simp [iv]
  rw [e0] at hq2 g1 ⊢
  go_wp2_with fail
  go_ret
  exact ⟨A2, c2, rfl, ⟨hq2.reads, g1, g2, by omega⟩, After.is_more _ _⟩
end Go.Proofs.Ytglfocldoaigiaa
