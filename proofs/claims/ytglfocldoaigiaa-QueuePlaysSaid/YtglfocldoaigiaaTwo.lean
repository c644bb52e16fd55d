/-
  Two queues in memory, the program's and the reference's: each step on one keeps the other.
-/
import Derived.Test.YtglfocldoaigiaaRPush
import Derived.Test.YtglfocldoaigiaaInts
import Derived.Test.YtglfocldoaigiaaLives
namespace Go.Proofs.Ytglfocldoaigiaa
open Go.RowKit Go.BigFrame

def TwoR (w0 w : World) (g g2 : Nat) (room : Int) (xs : List Int) (peak : Int) (ys : List Int) (peak2 : Int) (r r2 : Option Nat) : Prop :=
  QIs w 77 g room xs peak r ∧ QIs w 79 g2 room ys peak2 r2 ∧ g ≠ g2 ∧ r ≠ some g2 ∧ r2 ≠ some g ∧ (∀ k, r = some k → r2 ≠ some k) ∧
    w0.heap.size ≤ g ∧ w0.heap.size ≤ g2 ∧ (∀ k, r = some k → w0.heap.size ≤ k) ∧ (∀ k, r2 = some k → w0.heap.size ≤ k)
structure Two (w0 w : World) (g g2 : Nat) (room : Int) (xs : List Int) (peak : Int) (ys : List Int) (peak2 : Int) : Prop where
  ex : ∃ r r2, TwoR w0 w g g2 room xs peak ys peak2 r r2
section
variable {w0 w : World} {g g2 : Nat} {room : Int} {xs ys : List Int} {peak peak2 : Int}
theorem QIs.lt {w : World} {T g room xs peak r} (h : QIs w T g room xs peak r) : g < w.heap.size := by
  obtain ⟨v, hb, _⟩ := h.row; exact hb.lt
theorem QIs.rlt {w : World} {T g room xs peak r} (h : QIs w T g room xs peak r) : ∀ k, r = some k → k < w.heap.size := by
  obtain ⟨v, _, hq⟩ := h.row; exact fun k hk => hq.lt hk
theorem Two.after (h : Two w0 w g g2 room xs peak ys peak2) {w' : World} (_ : After w w') : Two w0 w' g g2 room xs peak ys peak2 := by
  obtain ⟨r, r2, h1, h2, k⟩ := h.ex
  exact ⟨r, r2, h1.after, h2.after, k⟩
theorem TwoR.step1 {r r2 r' : Option Nat} (h : TwoR w0 w g g2 room xs peak ys peak2 r r2) (aft : After w0 w) {w' : World} {xs' : List Int} {peak' : Int}
    (q1 : QIs w' 77 g room xs' peak' r') (f : Frame2 w w' g r) (hr' : ∀ k, r' = some k → r = some k ∨ w.heap.size ≤ k) :
    ∃ y, w' = w0.more y ∧ Two w0 (w0.more y) g g2 room xs' peak' ys peak2 := by
  obtain ⟨h1, h2, k1, k2, k3, k4, b1, b2, b3, b4⟩ := h
  have hf : After w0 w' := Frame2.is_after f b1 b3
  have l2 := h2.lt
  have lr2 := h2.rlt
  have t : Two w0 w' g g2 room xs' peak' ys peak2 := ⟨r', r2, q1, h2.frame f (Ne.symm k1) (fun e => k2 e.symm) (fun k hk => ⟨fun e => k3 (by rw [hk, e]), fun e => k4 k e.symm hk⟩), k1, fun e => by
      rcases hr' g2 e with h | h
      · exact k2 h
      · omega, k3, fun k hk e => by
      rcases hr' k hk with h | h
      · exact k4 k h e
      · have := lr2 k e; omega, b1, b2, fun k hk => by
      rcases hr' k hk with h | h
      · exact b3 k h
      · exact Nat.le_trans aft.below.size h, b4⟩
  obtain ⟨y, rfl⟩ := After.is_more w0 w'
  exact ⟨y, rfl, t⟩
theorem TwoR.step2 {r r2 r' : Option Nat} (h : TwoR w0 w g g2 room xs peak ys peak2 r r2) (aft : After w0 w) {w' : World} {ys' : List Int} {peak' : Int}
    (q1 : QIs w' 79 g2 room ys' peak' r') (f : Frame2 w w' g2 r2) (hr' : ∀ k, r' = some k → r2 = some k ∨ w.heap.size ≤ k) :
    ∃ y, w' = w0.more y ∧ Two w0 (w0.more y) g g2 room xs peak ys' peak' := by
  obtain ⟨h1, h2, k1, k2, k3, k4, b1, b2, b3, b4⟩ := h
  have hf : After w0 w' := Frame2.is_after f b2 b4
  have l1 := h1.lt
  have lr1 := h1.rlt
  have t : Two w0 w' g g2 room xs peak ys' peak' := ⟨r, r', h1.frame f k1 (fun e => k3 e.symm) (fun k hk => ⟨fun e => k2 (by rw [hk, e]), fun e => k4 k hk e.symm⟩), q1, k1, k2, fun e => by
      rcases hr' g e with h | h
      · exact k3 h
      · omega, fun k hk e => by
      rcases hr' k e with h | h
      · exact k4 k hk h
      · have := lr1 k hk; omega, b1, b2, b3, fun k hk => by
      rcases hr' k hk with h | h
      · exact b4 k h
      · exact Nat.le_trans aft.below.size h⟩
  obtain ⟨y, rfl⟩ := After.is_more w0 w'
  exact ⟨y, rfl, t⟩

theorem two_push (h : Two w0 w g g2 room xs peak ys peak2) (aft : After w0 w) (v : Int) (hf : (xs.length : Int) < room) (hmax : room ≤ 100000) :
    Calls Try.prog 39 #[.pointer (some ⟨g, 0, none⟩), .int .i64 v] w fun e w' => e = .returned (.int .i64 0) ∧ ∃ y, w' = w0.more y ∧ Two w0 (w0.more y) g g2 room (xs ++ [v]) (max peak (xs.length + 1)) ys peak2 := by
  obtain ⟨r, r2, hh⟩ := h.ex
  have h1 := hh.1
  have h2 := hh.2.1
  refine (push_room h1 v hf hmax).mono ?_
  rintro e w' ⟨rfl, r', q, f, hr⟩
  exact ⟨rfl, hh.step1 aft q f hr⟩
theorem two_rpush (h : Two w0 w g g2 room xs peak ys peak2) (aft : After w0 w) (v : Int) (hf : (ys.length : Int) < room) (hmax : room ≤ 100000) :
    Calls Try.prog 40 #[.pointer (some ⟨g2, 0, none⟩), .int .i64 v] w fun e w' => e = .returned (.int .i64 0) ∧ ∃ y, w' = w0.more y ∧ Two w0 (w0.more y) g g2 room xs peak (ys ++ [v]) (max peak2 (ys.length + 1)) := by
  obtain ⟨r, r2, hh⟩ := h.ex
  have h1 := hh.1
  have h2 := hh.2.1
  refine (rpush_room h2 v hf hmax).mono ?_
  rintro e w' ⟨rfl, r', q, f, hr⟩
  exact ⟨rfl, hh.step2 aft q f hr⟩
theorem two_push_full (h : Two w0 w g g2 room xs peak ys peak2) (aft : After w0 w) (v : Int) (hf : room ≤ xs.length) :
    Calls Try.prog 39 #[.pointer (some ⟨g, 0, none⟩), .int .i64 v] w fun e w' => e = .returned (.int .i64 18) ∧ ∃ y, w' = w0.more y ∧ Two w0 (w0.more y) g g2 room xs peak ys peak2 := by
  obtain ⟨r, r2, hh⟩ := h.ex
  have h1 := hh.1
  have h2 := hh.2.1
  refine (push_full h1 v hf).mono ?_
  rintro e w' ⟨rfl, y, rfl⟩
  obtain ⟨y2, hy2⟩ := After.is_more w0 (w.more y)
  exact ⟨rfl, y2, hy2, by rw [← hy2]; exact h.after inferInstance⟩
theorem two_rpush_full (h : Two w0 w g g2 room xs peak ys peak2) (aft : After w0 w) (v : Int) (hf : room ≤ ys.length) :
    Calls Try.prog 40 #[.pointer (some ⟨g2, 0, none⟩), .int .i64 v] w fun e w' => e = .returned (.int .i64 18) ∧ ∃ y, w' = w0.more y ∧ Two w0 (w0.more y) g g2 room xs peak ys peak2 := by
  obtain ⟨r, r2, hh⟩ := h.ex
  have h1 := hh.1
  have h2 := hh.2.1
  refine (rpush_full h2 v hf).mono ?_
  rintro e w' ⟨rfl, y, rfl⟩
  obtain ⟨y2, hy2⟩ := After.is_more w0 (w.more y)
  exact ⟨rfl, y2, hy2, by rw [← hy2]; exact h.after inferInstance⟩
theorem two_pop {x : Int} (h : Two w0 w g g2 room (x :: xs) peak ys peak2) (aft : After w0 w) :
    Calls Try.prog 37 #[.pointer (some ⟨g, 0, none⟩)] w fun e w' => e = .returned (.tuple #[.int .i64 x, .int .i64 0]) ∧ ∃ y, w' = w0.more y ∧ Two w0 (w0.more y) g g2 room xs peak ys peak2 := by
  obtain ⟨r, r2, hh⟩ := h.ex
  have h1 := hh.1
  have h2 := hh.2.1
  refine (pop_some h1).mono ?_
  rintro e w' ⟨rfl, q, f⟩
  exact ⟨rfl, hh.step1 aft q f fun k hk => .inl hk⟩
theorem two_rpop {x : Int} (h : Two w0 w g g2 room xs peak (x :: ys) peak2) (aft : After w0 w) :
    Calls Try.prog 38 #[.pointer (some ⟨g2, 0, none⟩)] w fun e w' => e = .returned (.tuple #[.int .i64 x, .int .i64 0]) ∧ ∃ y, w' = w0.more y ∧ Two w0 (w0.more y) g g2 room xs peak ys peak2 := by
  obtain ⟨r, r2, hh⟩ := h.ex
  have h1 := hh.1
  have h2 := hh.2.1
  refine (rpop_some h2).mono ?_
  rintro e w' ⟨rfl, q, f⟩
  exact ⟨rfl, hh.step2 aft q f fun k hk => .inl hk⟩
theorem two_pop_empty (h : Two w0 w g g2 room [] peak ys peak2) (aft : After w0 w) :
    Calls Try.prog 37 #[.pointer (some ⟨g, 0, none⟩)] w fun e w' => e = .returned (.tuple #[.int .i64 0, .int .i64 19]) ∧ ∃ y, w' = w0.more y ∧ Two w0 (w0.more y) g g2 room [] peak ys peak2 := by
  obtain ⟨r, r2, hh⟩ := h.ex
  have h1 := hh.1
  have h2 := hh.2.1
  refine (pop_empty h1).mono ?_
  rintro e w' ⟨rfl, rfl⟩
  obtain ⟨y2, hy2⟩ := After.is_more w0 w
  exact ⟨rfl, y2, hy2, by rw [← hy2]; exact h⟩
theorem two_rpop_empty (h : Two w0 w g g2 room xs peak [] peak2) (aft : After w0 w) :
    Calls Try.prog 38 #[.pointer (some ⟨g2, 0, none⟩)] w fun e w' => e = .returned (.tuple #[.int .i64 0, .int .i64 19]) ∧ ∃ y, w' = w0.more y ∧ Two w0 (w0.more y) g g2 room xs peak [] peak2 := by
  obtain ⟨r, r2, hh⟩ := h.ex
  have h1 := hh.1
  have h2 := hh.2.1
  refine (rpop_empty h2).mono ?_
  rintro e w' ⟨rfl, rfl⟩
  obtain ⟨y2, hy2⟩ := After.is_more w0 w
  exact ⟨rfl, y2, hy2, by rw [← hy2]; exact h⟩
theorem two_len (h : Two w0 w g g2 room xs peak ys peak2) (aft : After w0 w) :
    Calls Try.prog 41 #[.pointer (some ⟨g, 0, none⟩)] w fun e w' => e = .returned (.int .i64 (xs.length : Nat)) ∧ ∃ y, w' = w0.more y ∧ Two w0 (w0.more y) g g2 room xs peak ys peak2 := by
  obtain ⟨r, r2, hh⟩ := h.ex
  have h1 := hh.1
  have h2 := hh.2.1
  refine (len_any h1).mono ?_
  rintro e w' ⟨rfl, rfl⟩
  obtain ⟨y2, hy2⟩ := After.is_more w0 w
  exact ⟨rfl, y2, hy2, by rw [← hy2]; exact h⟩
theorem two_rlen (h : Two w0 w g g2 room xs peak ys peak2) (aft : After w0 w) :
    Calls Try.prog 42 #[.pointer (some ⟨g2, 0, none⟩)] w fun e w' => e = .returned (.int .i64 (ys.length : Nat)) ∧ ∃ y, w' = w0.more y ∧ Two w0 (w0.more y) g g2 room xs peak ys peak2 := by
  obtain ⟨r, r2, hh⟩ := h.ex
  have h1 := hh.1
  have h2 := hh.2.1
  refine (rlen_any h2).mono ?_
  rintro e w' ⟨rfl, rfl⟩
  obtain ⟨y2, hy2⟩ := After.is_more w0 w
  exact ⟨rfl, y2, hy2, by rw [← hy2]; exact h⟩
theorem two_peak (h : Two w0 w g g2 room xs peak ys peak2) (aft : After w0 w) :
    Calls Try.prog 31 #[.pointer (some ⟨g, 0, none⟩)] w fun e w' => e = .returned (.int .i64 peak) ∧ ∃ y, w' = w0.more y ∧ Two w0 (w0.more y) g g2 room xs peak ys peak2 := by
  obtain ⟨r, r2, hh⟩ := h.ex
  have h1 := hh.1
  have h2 := hh.2.1
  refine (peak_any h1).mono ?_
  rintro e w' ⟨rfl, rfl⟩
  obtain ⟨y2, hy2⟩ := After.is_more w0 w
  exact ⟨rfl, y2, hy2, by rw [← hy2]; exact h⟩
theorem two_rpeak (h : Two w0 w g g2 room xs peak ys peak2) (aft : After w0 w) :
    Calls Try.prog 43 #[.pointer (some ⟨g2, 0, none⟩)] w fun e w' => e = .returned (.int .i64 peak2) ∧ ∃ y, w' = w0.more y ∧ Two w0 (w0.more y) g g2 room xs peak ys peak2 := by
  obtain ⟨r, r2, hh⟩ := h.ex
  have h1 := hh.1
  have h2 := hh.2.1
  refine (rpeak_any h2).mono ?_
  rintro e w' ⟨rfl, rfl⟩
  obtain ⟨y2, hy2⟩ := After.is_more w0 w
  exact ⟨rfl, y2, hy2, by rw [← hy2]; exact h⟩
theorem two_list (h : Two w0 w g g2 room xs peak ys peak2) (aft : After w0 w) (hl : xs.length ≤ 1000000) :
    Calls Try.prog 45 #[.pointer (some ⟨g, 0, none⟩)] w fun e w' => ∃ A c, e = .returned (.slice A xs.length c) ∧ ∃ y, w' = w0.more y ∧ RI (w0.more y) A c xs ∧ Two w0 (w0.more y) g g2 room xs peak ys peak2 := by
  obtain ⟨r, r2, hh⟩ := h.ex
  refine (list_any hh.1 hl).mono ?_
  rintro e w' ⟨A, c, rfl, x, y, rfl⟩
  obtain ⟨y2, hy2⟩ := After.is_more w0 (w.more y)
  exact ⟨A, c, rfl, y2, hy2, by rw [← hy2]; exact x, by rw [← hy2]; exact h.after inferInstance⟩
theorem two_rlist (h : Two w0 w g g2 room xs peak ys peak2) (hl : ys.length ≤ 1000000) :
    Calls Try.prog 46 #[.pointer (some ⟨g2, 0, none⟩)] w fun e w' => ∃ A c, e = .returned (.slice A ys.length c) ∧ RI w' A c ys ∧ ∃ y, w' = w.more y := by
  obtain ⟨r, r2, hh⟩ := h.ex
  exact rlist_any hh.2.1 hl
end
end Go.Proofs.Ytglfocldoaigiaa
