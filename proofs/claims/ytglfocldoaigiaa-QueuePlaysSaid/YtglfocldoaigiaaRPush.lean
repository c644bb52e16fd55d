/-
  Contract: the reference's Push with room.
-/
import Derived.Test.YtglfocldoaigiaaRQueue
namespace Go.Proofs.Ytglfocldoaigiaa
open Go.RowKit Go.BigFrame

set_option maxHeartbeats 1600000 in
theorem rpush_room {w : World} {g room xs peak r} (h : QIs w 79 g room xs peak r) (v : Int) (hf : (xs.length : Int) < room) (hmax : room ≤ 100000) :
    Calls Try.prog 40 #[.pointer (some ⟨g, 0, none⟩), .int .i64 v] w fun e w' => e = .returned (.int .i64 0) ∧ ∃ r', QIs w' 79 g room (xs ++ [v]) (max peak (xs.length + 1)) r' ∧ Frame2 w w' g r ∧ (∀ k, r' = some k → r = some k ∨ w.heap.size ≤ k) := by
  obtain ⟨v0, hb, hq⟩ := h.row
  obtain ⟨i0, hi0, hz0, hz1, hz2⟩ := info_parts int_info
  obtain ⟨A1, c1', rfl, _, _⟩ := hq.slice
  have e0 : (iv xs).length = xs.length := by simp [iv]
  rw [e0] at hb hq
  have hr : ∀ n, Reads ((w.drewN n).alloc (.cells #[] 3)) w.heap.size 1 A1 xs.length (iv xs) := fun n => (hq.reads).keep fun p hp => World.cell?_alloc_lt (w.drewN n) _ p hp
  have h1 : ∀ u ∈ iv xs, u.oneCell' = true := ints_oneCell _ _
  have c0 : w.cell? ⟨g, 0, none⟩ = some (.int .i64 room) := (hb.cell 0).trans rfl
  have c1 : w.cell? ⟨g, 1, none⟩ = some (.slice A1 xs.length c1') := (hb.cell 1).trans rfl
  have hb0 : ∀ n, Blk ((w.drewN n).alloc (.cells #[] 3)) g 79 #[.int .i64 room, .slice A1 xs.length c1', .int .i64 peak] := fun n => (hb.drewN n).alloc _
  have d1 : ∀ n, ((w.drewN n).alloc (.cells #[] 3)).cell? ⟨g, 1, none⟩ = some (.slice A1 xs.length c1') := fun n => ((hb0 n).cell 1).trans rfl
  have hn1 : xs.length + 1 ≤ 100000 := by omega
  have hgs : g < w.heap.size := hb.lt
  have hle := hb.is_le
  have HR := Lib.hid hr
  have HB := Lib.hid hb0
  have H1 := Lib.hid h1
  have HL : Hid ((iv xs ++ [Value.int .i64 v]).length = xs.length + 1) := by show _ = _; simp [iv]
  have HE := Lib.hid e0
  clear hr hb0 h1 hq hb h e0
  go_enter Try.func40, Try.ntmps40
  go_wp2_with fail
  go_quiet (fail)
  go_wp2_with (at_builtin; first
    | (refine wpList_append_any _ rfl (.tmp 16) (.tmp 20) 40 rfl w.heap.size 3 i0 _ 1 8 Try.underlying40 hi0 hz0 hz1 hz2 rfl (by omega) (.slice (some ⟨w.heap.size, 0, none⟩) 0 0) 0 [] rfl (World.ownsRow_made (w.drewN _) #[] 0 (Nat.le_refl _) (by decide) (by decide)) w.heap.size A1 xs.length c1' (iv xs) rfl (HR.out _) H1.out (by unfold maxLen; omega) (by omega) (by simp) ?_; intro v1 w1 hown1 hg1 _; obtain ⟨r1, hq1, hlt1⟩ := QRow.of_own hown1; obtain ⟨A2, c2, rfl, _, _⟩ := hq1.slice; simp only [List.nil_append] at hq1 ⊢; rw [HE.out] at hq1; rw [HE.out]; have hb1 := Lib.hid ((HB.out _).grown hg1 (by simp [Value.ownBlock]; omega)); have l1 := hb1.out.is_le; have hq1a : Hid (QRow (w1.alloc (.cells #[.int .i64 v] 3)) 3 (.slice A2 xs.length c2) (iv xs) r1) := hq1.keep fun k hk => Below.heap_alloc w1 _ k (hq1.lt hk); replace hown1 := Lib.hid hown1; replace hg1 := Lib.hid hg1; replace hlt1 := Lib.hid hlt1; replace hq1 := Lib.hid hq1)
    | go_loud (refine wpList_append_q _ rfl (.tmp 21) (.tmp 23) 40 rfl 3 i0 _ 8 Try.underlying40 hi0 hz0 hz1 hz2 rfl _ (iv xs) r1 rfl hq1a.out ⟨w1.heap.size, 0, none⟩ (.int .i64 v) rfl ((Blk.new w1 3 #[.int .i64 v]).cell 0) rfl (by rw [HE.out]; unfold maxLen; omega) (by rw [HE.out]; omega) ?_; intro v2 w2 r2 hq2 hg2 hr2; obtain ⟨A3, c3, rfl, _, _⟩ := hq2.slice; rw [HL.out] at hq2 ⊢; have hb2 := Lib.hid ((hb1.out.alloc (.cells #[.int .i64 v] 3)).grown hg2 (fun e => by have := (hlt1.out g e.symm).1; omega)); have d0 : w2.cell? ⟨g, 0, none⟩ = some (.int .i64 room) := (hb2.out.cell 0).trans rfl; have d1 : w2.cell? ⟨g, 1, none⟩ = some (.slice A1 xs.length c1') := (hb2.out.cell 1).trans rfl; have d2 : w2.cell? ⟨g, 2, none⟩ = some (.int .i64 peak) := (hb2.out.cell 2).trans rfl; have f1 := hb2.out.frozen 1; have f2 := hb2.out.frozen 2; have l2 := hb2.out.is_le; replace hq2 := Lib.hid hq2; replace hg2 := Lib.hid hg2; replace hr2 := Lib.hid hr2))
  obtain ⟨w5, hw5⟩ : ∃ w5, w2.setCell ⟨g, 1, none⟩ (.slice A3 (xs.length + 1) c3) = w5 := ⟨_, rfl⟩
  have hb5 := Lib.hid (show Blk w5 g 79 #[.int .i64 room, .slice A3 (xs.length + 1) c3, .int .i64 peak] by rw [← hw5]; exact hb2.out.set_ 1 _)
  have hm5 : Hid (w2.setCell ⟨g, 1, none⟩ (.slice A3 (xs.length + 1) c3) = w5) := hw5
  rw [hw5]
  clear hw5 d0 d1 d2 f1 f2 l2
  have d0 : w5.cell? ⟨g, 0, none⟩ = some (.int .i64 room) := (hb5.out.cell 0).trans rfl
  have d1 : w5.cell? ⟨g, 1, none⟩ = some (.slice A3 (xs.length + 1) c3) := (hb5.out.cell 1).trans rfl
  have d2 : w5.cell? ⟨g, 2, none⟩ = some (.int .i64 peak) := (hb5.out.cell 2).trans rfl
  have f2 := hb5.out.frozen 2
  have l5 := hb5.out.is_le
  go_cut [4] (fun _ wx => ∃ n, wx = (w5.drewN n).setCell ⟨g, 2, none⟩ (.int .i64 (max peak ((xs.length : Int) + 1))))
  case first =>
    rcases Int.lt_trichotomy peak ((xs.length : Int) + 1) with hlt | hlt | hlt
    · have hmax2 := Lib.hid (show (xs.length : Int) + 1 = max peak ((xs.length : Int) + 1) by omega)
      go_region
      all_goals
        go_wp2_with fail
        go_meet
        exact ⟨_, (congrArg (fun x : Int => World.setCell (World.drewN w5 _) ⟨g, 2, none⟩ (.int .i64 x)) hmax2.out)⟩
    · subst hlt
      have hmax2 := Lib.hid (show (xs.length : Int) + 1 = max ((xs.length : Int) + 1) ((xs.length : Int) + 1) by omega)
      go_region
      all_goals
        go_wp2_with fail
        go_meet
        exact ⟨_, (congrArg (fun x : Int => World.setCell (World.drewN w5 _) ⟨g, 2, none⟩ (.int .i64 x)) hmax2.out)⟩
    · have hmax2 := Lib.hid (show peak = max peak ((xs.length : Int) + 1) by omega)
      go_region
      all_goals
        go_wp2_with fail
        go_meet
        exact ⟨_, (congrArg (fun x : Int => World.setCell (World.drewN w5 _) ⟨g, 2, none⟩ (.int .i64 x)) hmax2.out)⟩
  case rest =>
    obtain ⟨n6, rfl⟩ := hcut
    go_wp2_with fail
    go_ret
    have hq2' := hq2.out
    have hr1g : ∀ k, r1 = some k → w.heap.size ≤ k := fun k hk => (hlt1.out k hk).1
    have hw1 : w.heap.size + 1 ≤ w1.heap.size := by have := hg1.out.size; rw [size_alloc_] at this; exact this
    have hw2 : w1.heap.size + 1 ≤ w2.heap.size := by have := hg2.out.size; rw [size_alloc_] at this; exact this
    have hr2g : ∀ k, r2 = some k → w.heap.size ≤ k := fun k hk => by
      rcases hr2.out k hk with h1 | h1
      · exact hr1g k h1
      · rw [size_alloc_] at h1; omega
    have hsz5 : w5.heap.size = w2.heap.size := by rw [← hm5.out, size_set_]
    have hkeep : ∀ k, k ≠ g → ∀ u : Value, ((w5.drewN n6).setCell ⟨g, 2, none⟩ u).heap[k]? = w2.heap[k]? := fun k hkg u =>
      (Below.heap_setCell (w5.drewN n6) ⟨g, 2, none⟩ u k hkg).trans (by
        show w5.heap[k]? = _
        rw [← hm5.out]
        exact Below.heap_setCell w2 ⟨g, 1, none⟩ _ k hkg)
    have hm1 : w5.os = w2.os ∧ w5.tape = w2.tape ∧ w5.output = w2.output := by rw [← hm5.out]; exact ⟨rfl, rfl, rfl⟩
    refine ⟨rfl, r2, ⟨⟨.slice A3 (xs.length + 1) c3, (hb5.out.drewN n6).set_ 2 _, ?_⟩, fun e => by have := hr2g g e; omega⟩, ⟨hm1.1.trans (hg2.out.os.trans hg1.out.os), hm1.2.1.trans (hg2.out.tape.trans hg1.out.tape), hm1.2.2.trans (hg2.out.output.trans hg1.out.output), ?_, fun k hk h1 h2 => ?_⟩, fun k hk => .inr (hr2g k hk)⟩
    · have := hq2'.keep (w' := (w5.drewN n6).setCell ⟨g, 2, none⟩ (.int .i64 (max peak ((xs.length : Int) + 1)))) fun k hk => hkeep k (fun e => by have := hr2g k hk; omega) _
      simpa [iv] using this
    · rw [size_set_]
      show w.heap.size ≤ w5.heap.size
      omega
    · refine (hkeep k h1 _).trans ((hg2.out.block k ?_ (fun e => by have := hr1g k e.symm; omega)).trans ((Below.heap_alloc w1 _ k (by omega)).trans ((hg1.out.block k ?_ ?_).trans (Below.heap_alloc (w.drewN _) _ k hk))))
      · rw [size_alloc_]; omega
      · rw [size_alloc_]; exact Nat.lt_succ_of_lt hk
      · simp [Value.ownBlock]; omega
end Go.Proofs.Ytglfocldoaigiaa
