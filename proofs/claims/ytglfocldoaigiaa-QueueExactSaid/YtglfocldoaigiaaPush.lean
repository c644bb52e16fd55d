/-
  Contract: Push with room.
-/
import Derived.Test.YtglfocldoaigiaaQApp
import Derived.Test.YtglfocldoaigiaaNeed1
namespace Go.Proofs.Ytglfocldoaigiaa
open Go.RowKit Go.BigFrame

set_option maxHeartbeats 1600000 in
theorem push_room {w : World} {g room xs peak r} (h : QIs w 77 g room xs peak r) (v : Int) (hf : (xs.length : Int) < room) (hmax : room ≤ 100000) :
    Calls Try.prog 39 #[.pointer (some ⟨g, 0, none⟩), .int .i64 v] w fun e w' => e = .returned (.int .i64 0) ∧ ∃ r', QIs w' 77 g room (xs ++ [v]) (max peak (xs.length + 1)) r' ∧ Frame2 w w' g r ∧ (∀ k, r' = some k → r = some k ∨ w.heap.size ≤ k) := by
  obtain ⟨v0, hb, hq⟩ := h.row
  obtain ⟨i0, hi0, hz0, hz1, hz2⟩ := info_parts int_info
  have hap := h.apart
  have hq0 : ∀ n, QRow ((w.drewN n).alloc (.cells #[.int .i64 v] 3)) 3 v0 (iv xs) r := fun n => hq.keep fun k hk => Below.heap_alloc (w.drewN n) _ k (hq.lt hk)
  have hb0 : ∀ n, Blk ((w.drewN n).alloc (.cells #[.int .i64 v] 3)) g 77 #[.int .i64 room, v0, .int .i64 peak] := fun n => (hb.drewN n).alloc _
  have hlr : ∀ k, r = some k → k < w.heap.size := fun k hk => hq.lt hk
  obtain ⟨A1, c1', rfl, _, _⟩ := hq.slice
  have e0 : (iv xs).length = xs.length := by simp [iv]
  rw [e0] at hb hb0
  have c0 : w.cell? ⟨g, 0, none⟩ = some (.int .i64 room) := by rw [hb.cell]; rfl
  have c1 : w.cell? ⟨g, 1, none⟩ = some (.slice A1 xs.length c1') := by rw [hb.cell]; rfl
  have hn1 : xs.length + 1 ≤ 100000 := by omega
  have hle := hb.is_le
  have HQ := Lib.hid hq0
  have HE := Lib.hid e0
  have HI := Lib.hid int_info
  have HB := Lib.hid hb0
  have HL : Hid ((iv xs ++ [Value.int .i64 v]).length = xs.length + 1) := by show _ = _; simp [iv]
  have hap' := (Ne.symm hap)
  clear e0 hq hq0 hb0
  go_enter Try.func39, Try.ntmps39
  go_wp2_with fail
  go_quiet (fail)
  go_wp2_with (at_builtin; go_loud (refine wpList_append_q _ rfl (.tmp 21) (.tmp 23) 40 rfl 3 i0 _ 8 Try.underlying40 hi0 hz0 hz1 hz2 rfl _ (iv xs) r (by rw [HE.out]; rfl) (HQ.out _) ⟨w.heap.size, 0, none⟩ (.int .i64 v) rfl ((Blk.new (w.drewN _) 3 #[.int .i64 v]).cell 0) rfl (by rw [HE.out]; unfold maxLen; omega) (by rw [HE.out]; omega) ?_; intro v1 w1 r1 hq1 hg1 hr1; obtain ⟨A2, c2, rfl, _, _⟩ := hq1.slice; rw [HL.out]; have hb1 := Lib.hid ((HB.out _).grown hg1 hap'); have d0 : w1.cell? ⟨g, 0, none⟩ = some (.int .i64 room) := (hb1.out.cell 0).trans rfl; have d1 : w1.cell? ⟨g, 1, none⟩ = some (.slice A1 xs.length c1') := (hb1.out.cell 1).trans rfl; have d2 : w1.cell? ⟨g, 2, none⟩ = some (.int .i64 peak) := (hb1.out.cell 2).trans rfl; have f1 := hb1.out.frozen 1; have f2 := hb1.out.frozen 2; have l1 := hb1.out.is_le; replace hq1 := Lib.hid hq1; replace hg1 := Lib.hid hg1; replace hr1 := Lib.hid hr1))
  obtain ⟨w5, hw5⟩ : ∃ w5, w1.setCell ⟨g, 1, none⟩ (.slice A2 (xs.length + 1) c2) = w5 := ⟨_, rfl⟩
  have hb5 := Lib.hid (show Blk w5 g 77 #[.int .i64 room, .slice A2 (xs.length + 1) c2, .int .i64 peak] by rw [← hw5]; exact hb1.out.set_ 1 _)
  have hm5 : Hid (w1.setCell ⟨g, 1, none⟩ (.slice A2 (xs.length + 1) c2) = w5) := hw5
  rw [hw5]
  clear hw5 d0 d1 d2 f1 f2 l1
  have d0 : w5.cell? ⟨g, 0, none⟩ = some (.int .i64 room) := (hb5.out.cell 0).trans rfl
  have d1 : w5.cell? ⟨g, 1, none⟩ = some (.slice A2 (xs.length + 1) c2) := (hb5.out.cell 1).trans rfl
  have d2 : w5.cell? ⟨g, 2, none⟩ = some (.int .i64 peak) := (hb5.out.cell 2).trans rfl
  have f2 := hb5.out.frozen 2
  have l5 := hb5.out.is_le
  go_cut [4] (fun _ wx => ∃ n, wx = ((w5.drewN n).alloc (.cells #[.int .i64 ((xs.length : Int) + 1)] 3)).setCell ⟨g, 2, none⟩ (.int .i64 (max peak ((xs.length : Int) + 1))))
  case first =>
    go_region_with (go_at_call 62; refine (greatest_two _ _ peak ((xs.length : Int) + 1) (by simp [go_sem])).mono ?_; rintro e w' ⟨rfl, rfl⟩)
    all_goals
      go_wp2_with fail
      go_meet
      exact ⟨_, rfl⟩
  case rest =>
    obtain ⟨n6, rfl⟩ := hcut
    go_wp2_with fail
    go_ret
    have hq1' := hq1.out
    rw [HL.out] at hq1'
    have hrg : ∀ k, r1 = some k → k ≠ g := fun k hk e => by
      rcases hr1.out k hk with h1 | h1
      · exact hap (by rw [h1, e])
      · rw [size_alloc_] at h1
        have : w.heap.size + 1 ≤ k := h1
        have := hle.le
        omega
    have hsz5 : w5.heap.size = w1.heap.size := by rw [← hm5.out, size_set_]
    have hkeep : ∀ k, k < w1.heap.size → k ≠ g → ∀ o : Obj, ∀ u : Value, (((w5.drewN n6).alloc o).setCell ⟨g, 2, none⟩ u).heap[k]? = w1.heap[k]? := fun k hk hkg o u =>
      (Below.heap_setCell ((w5.drewN n6).alloc o) ⟨g, 2, none⟩ u k hkg).trans ((Below.heap_alloc (w5.drewN n6) o k (by show k < w5.heap.size; omega)).trans (by
        show w5.heap[k]? = _
        rw [← hm5.out]
        exact Below.heap_setCell w1 ⟨g, 1, none⟩ _ k hkg))
    have hw1 : w.heap.size + 1 ≤ w1.heap.size := by have := hg1.out.size; rw [size_alloc_] at this; exact this
    have hm1 : w5.os = w1.os ∧ w5.tape = w1.tape ∧ w5.output = w1.output := by rw [← hm5.out]; exact ⟨rfl, rfl, rfl⟩
    refine ⟨rfl, r1, ⟨⟨.slice A2 (xs.length + 1) c2, ((hb5.out.drewN n6).alloc _).set_ 2 _, ?_⟩, fun e => hrg g e rfl⟩, ⟨hm1.1.trans hg1.out.os, hm1.2.1.trans hg1.out.tape, hm1.2.2.trans hg1.out.output, ?_, fun k hk h1 h2 => ?_⟩, fun k hk => ?_⟩
    · have := hq1'.keep (w' := ((w5.drewN n6).alloc (.cells #[.int .i64 ((xs.length : Int) + 1)] 3)).setCell ⟨g, 2, none⟩ (.int .i64 (max peak ((xs.length : Int) + 1)))) fun k hk => hkeep k (hq1'.lt hk) (hrg k hk) _ _
      simpa [iv] using this
    · rw [size_set_, size_alloc_]
      show w.heap.size ≤ w5.heap.size + 1
      omega
    · refine (hkeep k (by omega) h1 _ _).trans ((hg1.out.block k ?_ h2).trans (Below.heap_alloc (w.drewN nq) _ k hk))
      rw [size_alloc_]; exact Nat.lt_succ_of_lt hk
    · rcases hr1.out k hk with h1 | h1
      · exact .inl h1
      · rw [size_alloc_] at h1
        have : w.heap.size + 1 ≤ k := h1
        exact .inr (by omega)
end Go.Proofs.Ytglfocldoaigiaa
