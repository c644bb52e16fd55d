/-
  Contracts: greatest; the closures of Need; the reference's Active.
-/
import Derived.Test.YtglfocldoaigiaaSim
import Derived.Test.YtglfocldoaigiaaQueue1
import Derived.Test.YtglfocldoaigiaaRf1
namespace Go.Proofs.Ytglfocldoaigiaa
open Go.RowKit Go.BigFrame

theorem act_at {h l : List Bool} (hv : Valid h l) (lag t : Nat) (hlt : lag ≤ t) : atB h l ((t : Int) - (lag : Int)) = act h l lag t := by
  rw [show ((t : Int) - (lag : Int)) = ((t - lag : Nat) : Int) by omega, atB_ok hv (by omega)]
  unfold letterB act; rw [Int.toNat_natCast]; simp [hlt]
theorem act_before {h l : List Bool} (lag t : Nat) (hlt : t < lag) : act h l lag t = false := by
  unfold act; simp [show ¬ lag ≤ t by omega]

theorem acts_any {w0 : World} {A B c d h l} (x : RW w0 A c B d h l) (w : World) [After w0 w] (hv : Valid h l) (t lag : Nat) (ht : t ≤ 1000000) (hlag : lag ≤ 1000000) (b : Nat)
    (e1 : w.cell? ⟨b, 0, none⟩ = some (.slice A h.length c)) (e2 : w.cell? ⟨b, 1, none⟩ = some (.slice B l.length d)) :
    Calls Try.prog 60 #[.int .i64 (t : Nat), .int .i64 (lag : Nat), .pointer (some ⟨b, 0, none⟩)] w fun e w' => e = .returned (.bool (act h l lag t)) ∧ ∃ y, w' = w.more y := by
  by_cases hlt : t < lag
  · rw [act_before lag t hlt]
    go_enter Try.func60, Try.ntmps60
    go_wp2_with fail
    go_ret
    exact ⟨rfl, After.is_more _ _⟩
  · have HA : Hid (∀ U : World, After w0 U → Calls Try.prog 34 #[.agg #[.slice A h.length c, .slice B l.length d], .int .i64 ((t : Int) - (lag : Int))] U fun e w' => e = .returned (.bool (act h l lag t)) ∧ ∃ y, w' = U.more y) := by
      intro U _
      have := at_any x U ((t : Int) - (lag : Int)) (by omega)
      rwa [act_at hv lag t (by omega)] at this
    have hle : (lag : Int) ≤ (t : Int) := by omega
    go_enter Try.func60, Try.ntmps60
    go_wp2_with (go_at_call 34; with_reducible refine (HA.out _ inferInstance).mono ?_; rintro e w' ⟨rfl, y, rfl⟩)
    go_ret
    exact ⟨rfl, After.is_more _ _⟩

theorem ractive_any {w0 : World} {A B c d h l} (x : RW w0 A c B d h l) (w : World) [After w0 w] (hv : Valid h l) (t lag : Nat) (ht : t ≤ 1000000) (hlag : lag ≤ 1000000) :
    Calls Try.prog 63 #[.agg #[.slice A h.length c, .slice B l.length d], .int .i64 (lag : Nat), .int .i64 (t : Nat)] w fun e w' => e = .returned (.bool (act h l lag t)) ∧ ∃ y, w' = w.more y := by
  by_cases hlt : t < lag
  · rw [act_before lag t hlt]
    go_enter Try.func63, Try.ntmps63
    go_wp2_with fail
    go_ret
    exact ⟨rfl, After.is_more _ _⟩
  · have HA : Hid (∀ U : World, After w0 U → Calls Try.prog 72 #[.agg #[.slice A h.length c, .slice B l.length d], .int .i64 ((t : Int) - (lag : Int))] U fun e w' => e = .returned (.bool (act h l lag t)) ∧ ∃ y, w' = U.more y) := by
      intro U _
      have := rat_any x U ((t : Int) - (lag : Int)) (by omega)
      rwa [act_at hv lag t (by omega)] at this
    have hle : (lag : Int) ≤ (t : Int) := by omega
    go_enter Try.func63, Try.ntmps63
    go_wp2_with (go_at_call 72; with_reducible refine (HA.out _ inferInstance).mono ?_; rintro e w' ⟨rfl, y, rfl⟩)
    go_ret
    exact ⟨rfl, After.is_more _ _⟩

/-- greatest of two -/
theorem greatest_two (w : World) (g : Nat) (a z : Int) (hc : w.cell? ⟨g, 0, none⟩ = some (.int .i64 z)) :
    Calls Try.prog 62 #[.int .i64 a, .slice (some ⟨g, 0, none⟩) 1 1] w fun e w' => e = .returned (.int .i64 (max a z)) ∧ w = w' := by
  by_cases h : a < z
  · rw [show max a z = z by omega]
    go_enter Try.func62, Try.ntmps62
    go_wp2
    refine wp_loop_rounds 2 ?_
    rw [rounds_succ]
    go_wp2
    rw [rounds_succ]
    go_wp2
    go_ret
    exact ⟨rfl, rfl⟩
  · rw [show max a z = a by omega]
    go_enter Try.func62, Try.ntmps62
    go_wp2
    refine wp_loop_rounds 2 ?_
    rw [rounds_succ]
    go_wp2
    rw [rounds_succ]
    go_wp2
    go_ret
    exact ⟨rfl, rfl⟩

/-- push: n and the peak are counted up -/
theorem push_any (w : World) (bn bp : Nat) (n m : Int) (hn : 0 ≤ n ∧ n ≤ 1000000) (h1 : Blk w bn 3 #[.int .i64 n]) (h2 : Blk w bp 3 #[.int .i64 m]) (hne : bn ≠ bp) :
    Calls Try.prog 61 #[.pointer (some ⟨bn, 0, none⟩), .pointer (some ⟨bp, 0, none⟩)] w fun e w' => e = .returned (.tuple #[]) ∧
      w' = ((w.setCell ⟨bn, 0, none⟩ (.int .i64 (n + 1))).alloc (.cells #[.int .i64 (n + 1)] 3)).setCell ⟨bp, 0, none⟩ (.int .i64 (max m (n + 1))) := by
  have c1 : w.cell? ⟨bn, 0, none⟩ = some (.int .i64 n) := by rw [h1.cell]; rfl
  have c2 : w.cell? ⟨bp, 0, none⟩ = some (.int .i64 m) := by rw [h2.cell]; rfl
  have f1 := h1.frozen 0
  have f2 := h2.frozen 0
  have i1 := h1.is_le
  have i2 := h2.is_le
  have i3 : Ne' bn bp := ⟨hne⟩
  have i4 : Ne' bp bn := ⟨fun e => hne e.symm⟩
  go_enter Try.func61, Try.ntmps61
  go_wp2_with (go_at_call 62; refine (greatest_two _ _ m (n + 1) (by simp [go_sem])).mono ?_; rintro e w' ⟨rfl, rfl⟩)
  go_end0
  exact ⟨rfl, rfl⟩
end Go.Proofs.Ytglfocldoaigiaa
