/-
  Contract: the law's alike.
-/
import Derived.Test.YtjbpelkdciphnaaAwake2
import Derived.Test.YtjbpelkdciphnaaGives
set_option linter.unusedVariables false
set_option linter.unusedSimpArgs false
namespace Go.Proofs.Ytjbpelkdciphnaa
open Go.RowKit Go.BigFrame

def alikeB (h l h' l' : List Bool) (n : Nat) : Bool := (List.range n).all fun i => atB h l (i : Nat) == atB h' l' (i : Nat)
theorem alikeB_no {h l h' l' : List Bool} {n k : Nat} (hk : k < n) (e : atB h l (k : Nat) ≠ atB h' l' (k : Nat)) : alikeB h l h' l' n = false := by
  unfold alikeB; rw [List.all_eq_false]; exact ⟨k, List.mem_range.2 hk, by simpa using e⟩
theorem alikeB_yes {h l h' l' : List Bool} {n : Nat} (e : ∀ k, k < n → atB h l (k : Nat) = atB h' l' (k : Nat)) : alikeB h l h' l' n = true := by
  unfold alikeB; rw [List.all_eq_true]; intro k hk; simpa using e k (List.mem_range.1 hk)
set_option maxRecDepth 100000 in
set_option maxHeartbeats 3200000 in
theorem alike_any {w0 : World} {A c B d} {h l : List Bool} {A' c' B' d'} {h' l' : List Bool} (x : RW w0 A c B d h l) (x' : RW w0 A' c' B' d' h' l') (w : World) [After w0 w] (n : Nat) (hn : n ≤ 100000) :
    Calls Try.prog 26 #[.agg #[.slice A h.length c, .slice B l.length d], .agg #[.slice A' h'.length c', .slice B' l'.length d'], .int .i64 (n : Nat)] w fun e w' => e = .returned (.bool (alikeB h l h' l' n)) ∧ ∃ y, w' = w.more y := by
  replace x := x.here w
  replace x' := x'.here w
  have HK : Hid (∀ U : World, After ((w.alloc (.cells #[.slice A h.length c, .slice B l.length d] 24)).alloc (.cells #[.slice A' h'.length c', .slice B' l'.length d'] 24)) U → U.cell? ⟨w.heap.size, 0, none⟩ = some (.slice A h.length c) ∧ U.cell? ⟨w.heap.size, 1, none⟩ = some (.slice B l.length d) ∧ U.cell? ⟨w.heap.size + 1, 0, none⟩ = some (.slice A' h'.length c') ∧ U.cell? ⟨w.heap.size + 1, 1, none⟩ = some (.slice B' l'.length d')) := fun U k => by
    have f1 := ((Blk.new w 24 #[.slice A h.length c, .slice B l.length d]).alloc (.cells #[.slice A' h'.length c', .slice B' l'.length d'] 24)).after (w' := U)
    have f2 := (Blk.new1 w (.cells #[.slice A h.length c, .slice B l.length d] 24) 24 #[.slice A' h'.length c', .slice B' l'.length d']).after (w' := U)
    exact ⟨by rw [f1.cell]; rfl, by rw [f1.cell]; rfl, by rw [f2.cell]; rfl, by rw [f2.cell]; rfl⟩
  have GA : Hid (∀ i : Nat, i ≤ 100000 → Gives w 22 #[.agg #[.slice A h.length c, .slice B l.length d], .int .i64 (i : Nat)] (.bool (atB h l (i : Nat)))) := fun i hi U _ => at_any x U i (by omega)
  have GB : Hid (∀ i : Nat, i ≤ 100000 → Gives w 22 #[.agg #[.slice A' h'.length c', .slice B' l'.length d'], .int .i64 (i : Nat)] (.bool (atB h' l' (i : Nat)))) := fun i hi U _ => at_any x' U i (by omega)
  go_enter Try.func26, Try.ntmps26
  go_wp2_with fail
  go_loopw [7] (fun k wr => ∃ j : Nat, j ≤ n ∧ k = .int .i64 j ∧ Hid (∀ i, i < j → atB h l (i : Nat) = atB h' l' (i : Nat)) ∧ After ((w.alloc (.cells #[.slice A h.length c, .slice B l.length d] 24)).alloc (.cells #[.slice A' h'.length c', .slice B' l'.length d'] 24)) wr) (fun k _ => n - (intOf k).toNat)
  case atStart => exact ⟨0, by omega, rfl, fun i hi => by omega, inferInstance⟩
  case round =>
    obtain ⟨j, hj, rfl, HT, ar_⟩ := hrel
    have a0_wr : After ((w.alloc (.cells #[.slice A h.length c, .slice B l.length d] 24)).alloc (.cells #[.slice A' h'.length c', .slice B' l'.length d'] 24)) wr := ar_
    have l00_wr : Le (w.heap.size + 1) wr := ⟨by have := a0_wr.below.size; simp at this; omega⟩
    have l01_wr : Le (w.heap.size + 2) wr := ⟨by have := a0_wr.below.size; simp at this; omega⟩
    have h0_wr := HK.out wr a0_wr
    have aw_wr : After w wr := after_after inferInstance a0_wr
    by_cases hlt : j < n
    · have hltI : (j : Int) < (n : Int) := by omega
      have Ga := GA.out j (by omega)
      have Gb := GB.out j (by omega)
      have HN : Hid (atB h l (j : Nat) ≠ atB h' l' (j : Nat) → alikeB h l h' l' n = false) := fun e => alikeB_no hlt e
      have HY : Hid (atB h l (j : Nat) = atB h' l' (j : Nat) → ∀ i, i < j + 1 → atB h l (i : Nat) = atB h' l' (i : Nat)) := fun e i hi => by
        rcases Nat.lt_or_ge i j with h_ | h_
        · exact HT.out i h_
        · rw [show i = j by omega]; exact e
      generalize atB h l (j : Nat) = b1 at Ga HN HY
      generalize atB h' l' (j : Nat) = b2 at Gb HN HY
      by_cases hb : b1 = b2
      · subst hb
        have t1 : (b1 != b1) = false := by simp
        go_wp2_with fail
        refine wp_region_more (by kernel_rfl) (by kernel_rfl) ?_
        repeat (go_big_quiet_step ((first | (go_at_call 22; with_reducible exact Calls.more_of (Gives.on Ga _ (after_after aw_wr inferInstance))) | (go_at_call 22; with_reducible exact Calls.more_of (Gives.on Gb _ (after_after aw_wr inferInstance))))))
        refine wpQuiet_nil ?_
        rintro _ ⟨yr, rfl⟩
        obtain ⟨w21_, hw_, hy⟩ : ∃ U, wr.more yr = U ∧ ∃ y, U = wr.more y := ⟨_, rfl, _, rfl⟩
        rw [hw_]
        clear hw_
        have a0_w21_ : After ((w.alloc (.cells #[.slice A h.length c, .slice B l.length d] 24)).alloc (.cells #[.slice A' h'.length c', .slice B' l'.length d'] 24)) w21_ := after_of_more hy (after_after a0_wr inferInstance)
        have l00_w21_ : Le (w.heap.size + 1) w21_ := ⟨by have := a0_w21_.below.size; simp at this; omega⟩
        have l01_w21_ : Le (w.heap.size + 2) w21_ := ⟨by have := a0_w21_.below.size; simp at this; omega⟩
        have h0_w21_ := HK.out w21_ a0_w21_
        have aw_w21_ : After w w21_ := after_after inferInstance a0_w21_
        clear hy
        clear t1
        go_wp2_with fail
        go_roundw
        case rel => exact ⟨j + 1, by omega, by go_num, HY.out (by first | trivial | rfl), a0_w21_⟩
        case measure => simp [intOf]; omega
      · have t1 : (b1 == b2) = false := by simpa using hb
        have HN2 := Lib.hid (HN.out hb)
        replace hb := Lib.hid hb
        go_wp2_with fail
        refine wp_region_more (by kernel_rfl) (by kernel_rfl) ?_
        repeat (go_big_quiet_step ((first | (go_at_call 22; with_reducible exact Calls.more_of (Gives.on Ga _ (after_after aw_wr inferInstance))) | (go_at_call 22; with_reducible exact Calls.more_of (Gives.on Gb _ (after_after aw_wr inferInstance))))))
        refine wpQuiet_nil ?_
        rintro _ ⟨yr, rfl⟩
        obtain ⟨w41_, hw_, hy⟩ : ∃ U, wr.more yr = U ∧ ∃ y, U = wr.more y := ⟨_, rfl, _, rfl⟩
        rw [hw_]
        clear hw_
        have a0_w41_ : After ((w.alloc (.cells #[.slice A h.length c, .slice B l.length d] 24)).alloc (.cells #[.slice A' h'.length c', .slice B' l'.length d'] 24)) w41_ := after_of_more hy (after_after a0_wr inferInstance)
        have l00_w41_ : Le (w.heap.size + 1) w41_ := ⟨by have := a0_w41_.below.size; simp at this; omega⟩
        have l01_w41_ : Le (w.heap.size + 2) w41_ := ⟨by have := a0_w41_.below.size; simp at this; omega⟩
        have h0_w41_ := HK.out w41_ a0_w41_
        have aw_w41_ : After w w41_ := after_after inferInstance a0_w41_
        clear hy
        go_wp2_with fail
        go_ret
        exact ⟨ret_bool HN2.out.symm, @After.is_more w _ (after_after aw_w41_ inferInstance)⟩
    · obtain rfl : j = n := by omega
      go_wp2_with fail
      go_ret
      exact ⟨ret_bool (alikeB_yes HT.out).symm, @After.is_more w _ (after_after aw_wr inferInstance)⟩
end Go.Proofs.Ytjbpelkdciphnaa
