/-
  Contracts: the reference's letters, Norm, fits, both.
-/
import Derived.Test.YtjbpelkdciphnaaShort
import Derived.Test.YtjbpelkdciphnaaRf1
import Derived.Test.YtjbpelkdciphnaaNorm
import Derived.Test.YtjbpelkdciphnaaClos
set_option linter.unusedVariables false
set_option linter.unusedSimpArgs false
namespace Go.Proofs.Ytjbpelkdciphnaa
open Go.RowKit Go.BigFrame
attribute [local go_sem ↓] Go.wp_at_zero Go.wp_at_succ

theorem own_after {w w' : World} (a : After w w') {B : Nat} {e : TypeId} {size n : Nat} {v : Value} {xs : List Value} (h : w.ownsRow B e size v n xs) : w'.ownsRow B e size v n xs :=
  h.kept (grow_after (row := none) a) (by cases v.ownBlock <;> simp)
theorem rletter_v {w0 : World} {A B c d h l} (x : RW w0 A c B d h l) (hl : 0 < l.length) (i : Nat) (hi : i ≤ 1000000) : Gives w0 47 #[.agg #[.slice A h.length c, .slice B l.length d], .int .i64 (i : Nat)] (.bool (W.letter h l i)) := fun V _ => by
  have := rletter_any x V (i : Nat) (by omega) (by omega) hl; rwa [letterB_nat] at this

set_option maxHeartbeats 800000 in
theorem rletters_any {w0 : World} {A B c d h l} (x : RW w0 A c B d h l) (w : World) [After w0 w] (n : Nat) (hn : n ≤ 100000) (hl : 0 < l.length) :
    Calls Try.prog 52 #[.agg #[.slice A h.length c, .slice B l.length d], .int .i64 (n : Nat)] w fun e w' => ∃ A' c', e = .returned (.slice A' n c') ∧ RB w' A' c' (W.tab (W.letter h l) 0 n) ∧ From w.heap.size A' ∧ ∃ y, w' = w.more y := by
  replace x := x.here w
  have HL : ∀ i : Nat, i ≤ 1000000 → Gives w 47 #[.agg #[.slice A h.length c, .slice B l.length d], .int .i64 (i : Nat)] (.bool (W.letter h l i)) := fun i hi => rletter_v x hl i hi
  replace HL := Lib.hid HL
  go_enter Try.func52, Try.ntmps52
  go_wp2_with fail
  obtain ⟨W1, hW1, a1, b1⟩ : ∃ W1, w.alloc (.cells #[.slice A h.length c, .slice B l.length d] 24) = W1 ∧ After w W1 ∧ Hid (Blk W1 w.heap.size 24 #[.slice A h.length c, .slice B l.length d]) := ⟨_, rfl, inferInstance, Blk.new _ _ _⟩
  rw [hW1]
  clear hW1
  go_loopw [5, 6] (fun v i wr => ∃ k : Nat, k ≤ n ∧ i = .int .i64 k ∧ Hid (wr.ownsRow W1.heap.size 4 1 v k (bv (W.tab (W.letter h l) 0 k))) ∧ After W1 wr) (fun _ i _ => n - (intOf i).toNat)
  case atStart => exact ⟨0, by omega, rfl, World.ownsRow_nil _ _ _ _, inferInstance⟩
  case round =>
    obtain ⟨k, hk, rfl, HO, haft⟩ := hrel
    obtain ⟨A0, c0, rfl, _, _⟩ := own_slice HO.out
    by_cases hlt : k < n
    · have bb := b1.out.after (w' := wr)
      have q0 : wr.cell? ⟨w.heap.size, 0, none⟩ = some (.slice A h.length c) := by rw [bb.cell]; rfl
      have q1 : wr.cell? ⟨w.heap.size, 1, none⟩ = some (.slice B l.length d) := by rw [bb.cell]; rfl
      have aw : After w wr := after_after a1 haft
      have G := HL.out k (by omega)
      have HT := Lib.hid (bv_tab_succ (W.letter h l) 0 k)
      rw [Nat.zero_add] at HT
      generalize W.letter h l k = b at G HT
      clear bb
      go_wp2_with fail
      refine (Gives.on G _ inferInstance).mono ?_
      rintro e w' ⟨rfl, y1, rfl⟩
      have ho2 := own_after (w' := wr.more y1) inferInstance HO.out
      replace ho2 := Lib.hid ho2
      go_wp2_with (at_builtin; refine wpList_append_one (w0 := W1) (wr.more y1) rfl (.tmp 12) (.tmp 16) 22 rfl 4 _ 1 Try.underlying22 boolInfo rfl (.slice A0 k c0) k _ (.bool b) rfl ho2.out rfl rfl (by omega) (by omega) ?_; intro v1 w1 hown1 haft1; replace hown1 := Lib.hid hown1)
      go_roundw
      case rel => exact ⟨k + 1, by omega, by go_num, by rw [HT.out]; exact hown1.out, haft1⟩
      case measure => simp [intOf]; omega
    · obtain rfl : k = n := by omega
      obtain ⟨A1, c1, e1, x1, n1⟩ := RB.of_tab HO.out (by omega)
      cases e1
      have aw : After w wr := after_after a1 haft
      have X1 := Lib.hid x1
      clear x1
      go_wp2_with fail
      go_ret
      exact ⟨A0, c0, rfl, X1.out, n1.mono a1.below.size, After.is_more _ _⟩
end Go.Proofs.Ytjbpelkdciphnaa
