/-
  Contracts: Pop; Push of a full queue.
-/
import Derived.Test.YtglfocldoaigiaaQueue2
namespace Go.Proofs.Ytglfocldoaigiaa
open Go.RowKit Go.BigFrame

theorem Frame2.set {w : World} (g i : Nat) (v : Value) (r : Option Nat) : Frame2 w (w.setCell ⟨g, i, none⟩ v) g r :=
  ⟨rfl, rfl, rfl, by rw [size_set_]; exact Nat.le_refl _, fun k _ hk _ => Below.heap_setCell w ⟨g, i, none⟩ v k hk⟩
theorem Frame2.after {w w' : World} (g : Nat) (r : Option Nat) [h : After w w'] : Frame2 w w' g r :=
  ⟨h.below.os, h.below.tape, h.below.output, h.below.size, fun k hk _ _ => h.below.block k hk⟩
theorem Frame2.trans {a b c : World} {g : Nat} {r r' : Option Nat} (h : Frame2 a b g r) (k : Frame2 b c g r') (hr : ∀ x, r' = some x → r = some x ∨ a.heap.size ≤ x) : Frame2 a c g r :=
  ⟨k.os.trans h.os, k.tape.trans h.tape, k.output.trans h.output, Nat.le_trans h.size k.size, fun x hx h1 h2 => (k.block x (Nat.lt_of_lt_of_le hx h.size) h1 (fun e => by
    rcases hr x e.symm with h3 | h3
    · exact h2 h3.symm
    · omega)).trans (h.block x hx h1 h2)⟩
/-- a step on a queue that is new since w0 -/
theorem Frame2.is_after {w0 w w' : World} {g : Nat} {r : Option Nat} [h : After w0 w] (f : Frame2 w w' g r) (hg : w0.heap.size ≤ g) (hr : ∀ k, r = some k → w0.heap.size ≤ k) : After w0 w' :=
  ⟨⟨f.os.trans h.below.os, f.tape.trans h.below.tape, f.output.trans h.below.output, Nat.le_trans h.below.size f.size, fun k hk => (f.block k (Nat.lt_of_lt_of_le hk h.below.size) (by omega) (fun e => by have := hr k e.symm; omega)).trans (h.below.block k hk)⟩⟩

theorem pop_empty {w : World} {g room peak r} (h : QIs w 77 g room [] peak r) :
    Calls Try.prog 37 #[.pointer (some ⟨g, 0, none⟩)] w fun e w' => e = .returned (.tuple #[.int .i64 0, .int .i64 19]) ∧ w = w' := by
  obtain ⟨v, hb, hq⟩ := h.row
  obtain ⟨A1, c1, rfl, _, _⟩ := hq.slice
  have c1 : w.cell? ⟨g, 1, none⟩ = some (.slice A1 0 c1) := by rw [hb.cell]; rfl
  go_enter Try.func37, Try.ntmps37
  go_wp2
  go_ret2
  exact ⟨rfl, rfl⟩

set_option maxHeartbeats 800000 in
theorem pop_some {w : World} {g room x xs peak r} (h : QIs w 77 g room (x :: xs) peak r) :
    Calls Try.prog 37 #[.pointer (some ⟨g, 0, none⟩)] w fun e w' => e = .returned (.tuple #[.int .i64 x, .int .i64 0]) ∧ QIs w' 77 g room xs peak r ∧ Frame2 w w' g r := by
  obtain ⟨v, hb, hq⟩ := h.row
  have hap := h.apart
  rcases hq with ⟨_, h2, _⟩ | ⟨g2, o, cap, cur, hr, rfl, hh, hn, hm, hsz, hcur⟩
  · simp [iv] at h2
  · have e0 : (iv (x :: xs)).length = xs.length + 1 := by simp [iv]
    rw [e0] at hb hn
    have c1 : w.cell? ⟨g, 1, none⟩ = some (.slice (some ⟨g2, o, none⟩) (xs.length + 1) cap) := by rw [hb.cell]; rfl
    have f1 := hb.frozen 1
    have d0 : w.cell? ⟨g2, o, none⟩ = some (.int .i64 x) := by
      have := cell_of_row w g2 o cur 3 (0, 0) hh
      rw [this]
      have := hcur 0 (by simp [iv])
      simpa [iv] using this
    have hne : g2 ≠ g := fun e => hap (by rw [hr, e])
    have hm' : cap ≤ 9223372036854775807 := by unfold maxLen at hm; exact hm
    have hcur' : ∀ j, j < (iv xs).length → cur[o + 1 + j]? = (iv xs)[j]? := fun j hj => by
      have := hcur (j + 1) (by simp [iv] at hj ⊢; omega)
      rw [show o + 1 + j = o + (j + 1) by omega, this]
      simp [iv]
    have hlen : (iv xs).length = xs.length := by simp [iv]
    have HH := Lib.hid hh
    have HC := Lib.hid hcur'
    have HL := Lib.hid hlen
    clear hh hcur hcur' e0 hlen
    by_cases hcap : cap = 1
    · subst hcap
      have hx0 : xs.length = 0 := by omega
      have hxs : xs = [] := List.eq_nil_of_length_eq_zero hx0
      subst hxs
      go_enter Try.func37, Try.ntmps37
      go_wp2
      go_ret2
      exact ⟨rfl, ⟨⟨_, hb.set_ 1 _, .inr ⟨g2, o, 0, cur, hr, rfl, (Below.heap_setCell w ⟨g, 1, none⟩ _ g2 hne).trans HH.out, by simp [iv], by decide, by omega, fun j hj => by simp [iv] at hj⟩⟩, h.apart⟩, Frame2.set _ _ _ _⟩
    · go_enter Try.func37, Try.ntmps37
      go_wp2
      go_ret2
      exact ⟨rfl, ⟨⟨_, hb.set_ 1 _, .inr ⟨g2, o + 1, cap - 1, cur, hr, by rw [HL.out], (Below.heap_setCell w ⟨g, 1, none⟩ _ g2 hne).trans HH.out, by rw [HL.out]; omega, by unfold maxLen; omega, by omega, HC.out⟩⟩, h.apart⟩, Frame2.set _ _ _ _⟩

theorem push_full {w : World} {g room xs peak r} (h : QIs w 77 g room xs peak r) (v : Int) (hf : room ≤ xs.length) :
    Calls Try.prog 39 #[.pointer (some ⟨g, 0, none⟩), .int .i64 v] w fun e w' => e = .returned (.int .i64 18) ∧ ∃ y, w' = w.more y := by
  obtain ⟨v0, hb, hq⟩ := h.row
  obtain ⟨A1, c1, rfl, _, _⟩ := hq.slice
  have e0 : (iv xs).length = xs.length := by simp [iv]
  rw [e0] at hb
  have c0 : w.cell? ⟨g, 0, none⟩ = some (.int .i64 room) := by rw [hb.cell]; rfl
  have c1 : w.cell? ⟨g, 1, none⟩ = some (.slice A1 xs.length c1) := by rw [hb.cell]; rfl
  clear e0
  go_enter Try.func39, Try.ntmps39
  go_wp2_with fail
  go_quiet (fail)
  go_wp2_with fail
  go_ret
  exact ⟨rfl, After.is_more _ _⟩
end Go.Proofs.Ytglfocldoaigiaa
