/-
  Contract: the reference's Shift.
-/
import Derived.Test.YtjbpelkdciphnaaRNorm
import Derived.Test.YtjbpelkdciphnaaShift
import Derived.Laws.MakeOwn
set_option linter.unusedVariables false
set_option linter.unusedSimpArgs false
namespace Go.Proofs.Ytjbpelkdciphnaa
open Go.RowKit Go.BigFrame
attribute [local go_sem ↓] Go.wp_at_zero Go.wp_at_succ

theorem madeCells_list (n : Nat) : (madeCells #[Value.bool false] n).toList = bv (List.replicate n false) := by
  refine List.ext_getElem (by simp [madeCells, bv]) fun i h1 h2 => ?_
  simp [madeCells, bv, Nat.mod_one]
theorem own_made {w : World} {n B : Nat} {e : TypeId} (hn : n ≤ 1000000) (hB : B ≤ w.heap.size) : (w.alloc (.cells (madeCells #[.bool false] n) e)).ownsRow B e 1 (.slice (some ⟨w.heap.size, 0, none⟩) n n) n (bv (List.replicate n false)) :=
  ⟨by simp [bv], .inr ⟨w.heap.size, n, madeCells #[.bool false] n, rfl, hB, heap_alloc_new w _, Nat.le_refl _, by unfold maxLen; omega, by rw [size_madeCells]; omega, by rw [madeCells_list]; simp [bv]⟩⟩
theorem make_run (n : Nat) (hn : n ≤ 1000000) (U : World) : (Instr.makeSlice 22 (.int .i64 (n : Nat)) (.int .i64 (n : Nat))).run Try.prog U = .ok (.slice (some ⟨U.heap.size, 0, none⟩) n n) (U.alloc (.cells (madeCells #[.bool false] n) 4)) := by
  obtain ⟨i0, hi0, hz0, hz1, hz2⟩ := info_parts boolInfo
  have := run_make (P := Try.prog) U 22 4 i0 _ Try.underlying22 hi0 hz0 .i64 .i64 (n : Nat) (n : Nat) (by omega) (by omega) (by rw [hz2]; omega) (by omega)
  rw [hz1, Int.toNat_natCast, Nat.mul_one] at this
  exact this
theorem shift_list (h l : List Bool) (k m : Nat) : bv (List.replicate k false) ++ bv (W.tab (W.letter h l) 0 m) = bv (W.tab (W.shiftF h l k) 0 (k + m)) := by
  unfold bv
  rw [← List.map_append]
  congr 1
  refine List.ext_getElem (by simp [W.tab]) fun i h1 h2 => ?_
  rw [W.tab_getElem]
  unfold W.shiftF
  rw [Nat.zero_add]
  by_cases hi : i < k
  · rw [List.getElem_append_left (by simpa using hi)]; simp; omega
  · rw [List.getElem_append_right (by simpa using hi), W.tab_getElem]
    simp
    omega
theorem nf_zero {h l : List Bool} (hl : 0 < l.length) (hc : W.cnt h + W.cnt l = 0) : W.nf (W.letter h l) = ([], [false]) := by
  refine W.nf_spec ⟨by decide, fun i => ?_, fun p N hp _ => hp, .inl rfl⟩
  have e1 : W.letter [] [false] i = false := by unfold W.letter; simp [Nat.mod_one]
  rw [e1]
  symm
  by_cases hi : i < h.length
  · have := W.ones_succ h l i hl
    have a := W.cnt_take_le h (i + 1)
    rw [W.ones_head_le _ _ _ (by omega)] at this
    cases e : W.letter h l i with
    | false => rfl
    | true => rw [e] at this; simp at this; omega
  · exact W.letter_false_of_none hl (by omega) (by omega)

set_option maxHeartbeats 3200000 in
theorem rshift_any {w0 : World} {A B c d h l} (x : RW w0 A c B d h l) (w : World) [After w0 w] (n : Int) :
    Calls Try.prog 31 #[.agg #[.slice A h.length c, .slice B l.length d], .int .i64 n] w fun e w' =>
      ∃ A5 c5 B5 d5, e = .returned (.tuple #[.agg #[.slice A5 (shiftW h l n).1.1.length c5, .slice B5 (shiftW h l n).1.2.length d5], .int .i64 (shiftW h l n).2]) ∧ RW w' A5 c5 B5 d5 (shiftW h l n).1.1 (shiftW h l n).1.2 ∧ ∃ y, w' = w.more y := by
  replace x := x.here w
  have iN : New w (w.heap.size + 1) := ⟨by omega⟩
  have HZ : Hid (∀ U : World, After ((w.alloc (.cells #[.slice A h.length c, .slice B l.length d] 24)).alloc (.cells #[.slice none 0 0, .slice none 0 0] 24)) U → Blk U (w.heap.size + 1) 24 #[.slice none 0 0, .slice none 0 0]) := by
    intro U k
    have := (Blk.new (w.alloc (.cells #[.slice A h.length c, .slice B l.length d] 24)) 24 #[.slice none 0 0, .slice none 0 0]).after (w' := U)
    rwa [size_alloc_] at this
  have HK : Hid (∀ U : World, After ((w.alloc (.cells #[.slice A h.length c, .slice B l.length d] 24)).alloc (.cells #[.slice none 0 0, .slice none 0 0] 24)) U → U.cell? ⟨w.heap.size, 0, none⟩ = some (.slice A h.length c) ∧ U.cell? ⟨w.heap.size, 1, none⟩ = some (.slice B l.length d) ∧ Le (w.heap.size + 1) U) := by
    intro U k
    have := (((Blk.new w 24 #[.slice A h.length c, .slice B l.length d]).alloc (.cells #[.slice none 0 0, .slice none 0 0] 24)).after (w' := U))
    exact ⟨by rw [this.cell]; rfl, by rw [this.cell]; rfl, this.is_le⟩
  rcases check_cases h l with hv | ⟨hv, h5⟩
  · have hc0 := Lib.hid (checkI_0 hv)
    have hl := hv.1
    have h64 := hv.2
    by_cases hn : n < 0
    · have HF := Lib.hid (shiftW_neg hv hn)
      clear hv
      go_enter Try.func31, Try.ntmps31
      go_wp2_with fail
      refine (rcheck_val x _ hc0.out).mono ?_
      rintro e w' ⟨rfl, y1, rfl⟩
      obtain ⟨w5, hU0, aU0⟩ : ∃ U0, ((w.alloc (.cells #[.slice A h.length c, .slice B l.length d] 24)).alloc (.cells #[.slice none 0 0, .slice none 0 0] 24)).more y1 = U0 ∧ After ((w.alloc (.cells #[.slice A h.length c, .slice B l.length d] 24)).alloc (.cells #[.slice none 0 0, .slice none 0 0] 24)) U0 := ⟨_, rfl, inferInstance⟩
      rw [hU0]
      clear hU0
      have aw : After w w5 := after_after inferInstance aU0
      obtain ⟨c0, c1, lz⟩ := HK.out w5 aU0
      have z6 := Lib.hid (HZ.out w5 aU0)
      clear HZ HK
      have d0 : w5.cell? ⟨w.heap.size + 1, 0, none⟩ = some (.slice none 0 0) := by rw [z6.out.cell]; rfl
      have d1 : w5.cell? ⟨w.heap.size + 1, 1, none⟩ = some (.slice none 0 0) := by rw [z6.out.cell]; rfl
      have f0 := z6.out.frozen 0
      have f1 := z6.out.frozen 1
      have l6 := z6.out.is_le
      go_wp2_with fail
      have r2 := (z6.out.set_ 0 (.slice none 0 0)).set_ 1 (.slice none 0 0)
      have k0 : ((w5.setCell ⟨w.heap.size + 1, 0, none⟩ (.slice none 0 0)).setCell ⟨w.heap.size + 1, 1, none⟩ (.slice none 0 0)).cell? ⟨w.heap.size + 1, 0, none⟩ = some (.slice none 0 0) := by rw [r2.cell]; rfl
      have k1 : ((w5.setCell ⟨w.heap.size + 1, 0, none⟩ (.slice none 0 0)).setCell ⟨w.heap.size + 1, 1, none⟩ (.slice none 0 0)).cell? ⟨w.heap.size + 1, 1, none⟩ = some (.slice none 0 0) := by rw [r2.cell]; rfl
      refine bodyPost_ret (v := .tuple #[.agg #[.slice none 0 0, .slice none 0 0], .int .i64 2]) (by simp [results, Try.results31, go_sem, k0, k1]) rfl ⟨none, 0, none, 0, by rw [HF.out]; rfl, ?_, After.is_more _ _⟩
      rw [HF.out]
      exact ⟨RB.nil _, RB.nil _⟩
    · have hcl := W.cnt_le l
      have hch := W.cnt_le h
      have CH : Hid (∀ U, After w U → Calls Try.prog 45 #[.slice A h.length c] U fun e w' => e = .returned (.int .i64 (W.cnt h : Nat)) ∧ U = w') := fun U _ => rcount_any x.head U
      have CL : Hid (∀ U, After w U → Calls Try.prog 45 #[.slice B l.length d] U fun e w' => e = .returned (.int .i64 (W.cnt l : Nat)) ∧ U = w') := fun U _ => rcount_any x.loop U
      have hn' : ¬ (n < 0) := hn
      by_cases hc : W.cnt h + W.cnt l = 0
      · have HF : Hid (shiftW h l n = (([], [false]), 0)) := by have := shiftW_zero hv hn hc; rwa [nf_zero hl hc] at this
        have z1 : W.cnt h = 0 := by omega
        have z2 : W.cnt l = 0 := by omega
        rw [z1] at CH
        rw [z2] at CL
        replace hc := Lib.hid hc
        clear hv z1 z2
        go_enter Try.func31, Try.ntmps31
        go_wp2_with fail
        refine (rcheck_val x _ hc0.out).mono ?_
        rintro e w' ⟨rfl, y1, rfl⟩
        obtain ⟨w5, hU0, aU0⟩ : ∃ U0, ((w.alloc (.cells #[.slice A h.length c, .slice B l.length d] 24)).alloc (.cells #[.slice none 0 0, .slice none 0 0] 24)).more y1 = U0 ∧ After ((w.alloc (.cells #[.slice A h.length c, .slice B l.length d] 24)).alloc (.cells #[.slice none 0 0, .slice none 0 0] 24)) U0 := ⟨_, rfl, inferInstance⟩
        rw [hU0]
        clear hU0
        have aw : After w w5 := after_after inferInstance aU0
        obtain ⟨c0, c1, lz⟩ := HK.out w5 aU0
        go_wp2_with fail
        refine (CH.out _ aw).mono ?_
        rintro e w' ⟨rfl, rfl⟩
        go_wp2_with fail
        refine (CL.out _ aw).mono ?_
        rintro e w' ⟨rfl, rfl⟩
        have z6 := Lib.hid (HZ.out w5 aU0)
        have d0 : w5.cell? ⟨w.heap.size + 1, 0, none⟩ = some (.slice none 0 0) := by rw [z6.out.cell]; rfl
        have d1 : w5.cell? ⟨w.heap.size + 1, 1, none⟩ = some (.slice none 0 0) := by rw [z6.out.cell]; rfl
        have f0 := z6.out.frozen 0
        have f1 := z6.out.frozen 1
        have l6 := z6.out.is_le
        go_wp2_with fail
        have zz := Lib.hid (z6.out.alloc (.cells #[.bool false] 4))
        obtain ⟨Ab, cb, eb, xb⟩ := RB.of_own (l := [false]) (own_built w5 (.bool false) 4 w5.heap.size (Nat.le_refl _)) (by decide)
        cases eb
        have nb : From w5.heap.size (some ⟨w5.heap.size, 0, none⟩) := fun ad e => by cases e; exact Nat.le_refl _
        have hsz : w.heap.size + 2 ≤ w5.heap.size := by have := aU0.below.size; simp at this; omega
        have r2 := (zz.out.set_ 0 (.slice none 0 0)).set_ 1 (.slice (some ⟨w5.heap.size, 0, none⟩) 1 1)
        have k0 : (((w5.alloc (.cells #[.bool false] 4)).setCell ⟨w.heap.size + 1, 0, none⟩ (.slice none 0 0)).setCell ⟨w.heap.size + 1, 1, none⟩ (.slice (some ⟨w5.heap.size, 0, none⟩) 1 1)).cell? ⟨w.heap.size + 1, 0, none⟩ = some (.slice none 0 0) := by rw [r2.cell]; rfl
        have k1 : (((w5.alloc (.cells #[.bool false] 4)).setCell ⟨w.heap.size + 1, 0, none⟩ (.slice none 0 0)).setCell ⟨w.heap.size + 1, 1, none⟩ (.slice (some ⟨w5.heap.size, 0, none⟩) 1 1)).cell? ⟨w.heap.size + 1, 1, none⟩ = some (.slice (some ⟨w5.heap.size, 0, none⟩) 1 1) := by rw [r2.cell]; rfl
        refine bodyPost_ret (v := .tuple #[.agg #[.slice none 0 0, .slice (some ⟨w5.heap.size, 0, none⟩) 1 1], .int .i64 0]) (by simp [results, Try.results31, go_sem, k0, k1]) rfl ⟨none, 0, some ⟨w5.heap.size, 0, none⟩, 1, by rw [HF.out]; rfl, ?_, After.is_more _ _⟩
        rw [HF.out]
        exact ⟨RB.nil _, (xb.set_ nb (by omega) 0 _).set_ nb (by omega) 1 _⟩
      · by_cases hf : 128 < n
        · have HF := Lib.hid (shiftW_far hv hn hc hf)
          clear hv
          by_cases z1 : W.cnt h = 0
          · have z2 : ((W.cnt l : Int) == 0) = false := by rw [beq_eq_false_iff_ne]; omega
            rw [z1] at CH
            replace hc := Lib.hid hc
            clear z1
            go_enter Try.func31, Try.ntmps31
            go_wp2_with fail
            refine (rcheck_val x _ hc0.out).mono ?_
            rintro e w' ⟨rfl, y1, rfl⟩
            obtain ⟨w5, hU0, aU0⟩ : ∃ U0, ((w.alloc (.cells #[.slice A h.length c, .slice B l.length d] 24)).alloc (.cells #[.slice none 0 0, .slice none 0 0] 24)).more y1 = U0 ∧ After ((w.alloc (.cells #[.slice A h.length c, .slice B l.length d] 24)).alloc (.cells #[.slice none 0 0, .slice none 0 0] 24)) U0 := ⟨_, rfl, inferInstance⟩
            rw [hU0]
            clear hU0
            have aw : After w w5 := after_after inferInstance aU0
            obtain ⟨c0, c1, lz⟩ := HK.out w5 aU0
            go_wp2_with fail
            refine (CH.out _ aw).mono ?_
            rintro e w' ⟨rfl, rfl⟩
            go_wp2_with fail
            refine (CL.out _ aw).mono ?_
            rintro e w' ⟨rfl, rfl⟩
            have z6 := Lib.hid (HZ.out w5 aU0)
            clear HZ HK
            have d0 : w5.cell? ⟨w.heap.size + 1, 0, none⟩ = some (.slice none 0 0) := by rw [z6.out.cell]; rfl
            have d1 : w5.cell? ⟨w.heap.size + 1, 1, none⟩ = some (.slice none 0 0) := by rw [z6.out.cell]; rfl
            have f0 := z6.out.frozen 0
            have f1 := z6.out.frozen 1
            have l6 := z6.out.is_le
            go_wp2_with fail
            have r2 := (z6.out.set_ 0 (.slice none 0 0)).set_ 1 (.slice none 0 0)
            have k0 : ((w5.setCell ⟨w.heap.size + 1, 0, none⟩ (.slice none 0 0)).setCell ⟨w.heap.size + 1, 1, none⟩ (.slice none 0 0)).cell? ⟨w.heap.size + 1, 0, none⟩ = some (.slice none 0 0) := by rw [r2.cell]; rfl
            have k1 : ((w5.setCell ⟨w.heap.size + 1, 0, none⟩ (.slice none 0 0)).setCell ⟨w.heap.size + 1, 1, none⟩ (.slice none 0 0)).cell? ⟨w.heap.size + 1, 1, none⟩ = some (.slice none 0 0) := by rw [r2.cell]; rfl
            refine bodyPost_ret (v := .tuple #[.agg #[.slice none 0 0, .slice none 0 0], .int .i64 3]) (by simp [results, Try.results31, go_sem, k0, k1]) rfl ⟨none, 0, none, 0, by rw [HF.out]; rfl, ?_, After.is_more _ _⟩
            rw [HF.out]
            exact ⟨RB.nil _, RB.nil _⟩
          · have z2 : ((W.cnt h : Int) == 0) = false := by rw [beq_eq_false_iff_ne]; omega
            replace hc := Lib.hid hc
            replace z1 := Lib.hid z1
            go_enter Try.func31, Try.ntmps31
            go_wp2_with fail
            refine (rcheck_val x _ hc0.out).mono ?_
            rintro e w' ⟨rfl, y1, rfl⟩
            obtain ⟨w5, hU0, aU0⟩ : ∃ U0, ((w.alloc (.cells #[.slice A h.length c, .slice B l.length d] 24)).alloc (.cells #[.slice none 0 0, .slice none 0 0] 24)).more y1 = U0 ∧ After ((w.alloc (.cells #[.slice A h.length c, .slice B l.length d] 24)).alloc (.cells #[.slice none 0 0, .slice none 0 0] 24)) U0 := ⟨_, rfl, inferInstance⟩
            rw [hU0]
            clear hU0
            have aw : After w w5 := after_after inferInstance aU0
            obtain ⟨c0, c1, lz⟩ := HK.out w5 aU0
            go_wp2_with fail
            refine (CH.out _ aw).mono ?_
            rintro e w' ⟨rfl, rfl⟩
            have z6 := Lib.hid (HZ.out w5 aU0)
            clear HZ HK
            have d0 : w5.cell? ⟨w.heap.size + 1, 0, none⟩ = some (.slice none 0 0) := by rw [z6.out.cell]; rfl
            have d1 : w5.cell? ⟨w.heap.size + 1, 1, none⟩ = some (.slice none 0 0) := by rw [z6.out.cell]; rfl
            have f0 := z6.out.frozen 0
            have f1 := z6.out.frozen 1
            have l6 := z6.out.is_le
            go_wp2_with fail
            have r2 := (z6.out.set_ 0 (.slice none 0 0)).set_ 1 (.slice none 0 0)
            have k0 : ((w5.setCell ⟨w.heap.size + 1, 0, none⟩ (.slice none 0 0)).setCell ⟨w.heap.size + 1, 1, none⟩ (.slice none 0 0)).cell? ⟨w.heap.size + 1, 0, none⟩ = some (.slice none 0 0) := by rw [r2.cell]; rfl
            have k1 : ((w5.setCell ⟨w.heap.size + 1, 0, none⟩ (.slice none 0 0)).setCell ⟨w.heap.size + 1, 1, none⟩ (.slice none 0 0)).cell? ⟨w.heap.size + 1, 1, none⟩ = some (.slice none 0 0) := by rw [r2.cell]; rfl
            refine bodyPost_ret (v := .tuple #[.agg #[.slice none 0 0, .slice none 0 0], .int .i64 3]) (by simp [results, Try.results31, go_sem, k0, k1]) rfl ⟨none, 0, none, 0, by rw [HF.out]; rfl, ?_, After.is_more _ _⟩
            rw [HF.out]
            exact ⟨RB.nil _, RB.nil _⟩
        · obtain ⟨k, rfl⟩ := Int.eq_ofNat_of_zero_le (show 0 ≤ n by omega)
          have HF : Hid (shiftW h l (k : Nat) = fitW (W.shiftF h l k)) := by have := shiftW_ok hv hn hc hf; rwa [Int.toNat_natCast] at this
          have HP := Lib.hid (W.shiftF_per (h := h) (l := l) k)
          have hk : k ≤ 128 := by omega
          obtain ⟨i0, hi0, hz0, hz1, hz2⟩ := info_parts boolInfo
          have hmk := make_run k (by omega)
          have GL : Hid (∀ U, After w U → Calls Try.prog 52 #[.agg #[.slice A h.length c, .slice B l.length d], .int .i64 ((h.length : Int) + 2 * (l.length : Int))] U fun e w' => ∃ A' c', e = .returned (.slice A' (h.length + 2 * l.length) c') ∧ RB w' A' c' (W.tab (W.letter h l) 0 (h.length + 2 * l.length)) ∧ From U.heap.size A' ∧ ∃ y, w' = U.more y) := fun U _ => by
            have := rletters_any x U (h.length + 2 * l.length) (by omega) hl
            push_cast at this; exact this
          clear hv
          by_cases z1 : W.cnt h = 0
          · have z2 : ((W.cnt l : Int) == 0) = false := by rw [beq_eq_false_iff_ne]; omega
            rw [z1] at CH
            replace hc := Lib.hid hc
            clear z1
            go_enter Try.func31, Try.ntmps31
            go_wp2_with fail
            refine (rcheck_val x _ hc0.out).mono ?_
            rintro e w' ⟨rfl, y1, rfl⟩
            obtain ⟨w5, hU0, aU0⟩ : ∃ U0, ((w.alloc (.cells #[.slice A h.length c, .slice B l.length d] 24)).alloc (.cells #[.slice none 0 0, .slice none 0 0] 24)).more y1 = U0 ∧ After ((w.alloc (.cells #[.slice A h.length c, .slice B l.length d] 24)).alloc (.cells #[.slice none 0 0, .slice none 0 0] 24)) U0 := ⟨_, rfl, inferInstance⟩
            rw [hU0]
            clear hU0
            have aw : After w w5 := after_after inferInstance aU0
            obtain ⟨c0, c1, lz⟩ := HK.out w5 aU0
            go_wp2_with fail
            refine (CH.out _ aw).mono ?_
            rintro e w' ⟨rfl, rfl⟩
            go_wp2_with fail
            refine (CL.out _ aw).mono ?_
            rintro e w' ⟨rfl, rfl⟩
            go_wp2_with fail
            obtain ⟨g, hg⟩ : ∃ g, w5.heap.size = g := ⟨_, rfl⟩
            obtain ⟨w6, hw6, a6, own6⟩ : ∃ U, w5.alloc (.cells (madeCells #[.bool false] k) 4) = U ∧ After w5 U ∧ Hid (U.ownsRow g 4 1 (.slice (some ⟨g, 0, none⟩) k k) k (bv (List.replicate k false))) := ⟨_, rfl, inferInstance, by rw [← hg]; exact own_made (by omega) (Nat.le_refl _)⟩
            rw [hw6, hg]
            clear hw6 hmk
            have hsz : w.heap.size + 2 ≤ g := by have := aU0.below.size; rw [← hg]; simp at this; omega
            have b6 : After ((w.alloc (.cells #[.slice A h.length c, .slice B l.length d] 24)).alloc (.cells #[.slice none 0 0, .slice none 0 0] 24)) w6 := after_after aU0 a6
            have aw6 : After w w6 := after_after aw a6
            obtain ⟨d0_, d1_, ly⟩ := HK.out w6 b6
            refine (GL.out _ aw6).mono ?_
            rintro e w7 ⟨A1, c1', rfl, x1, n1, hy⟩
            have a7 : After w6 w7 := after_of_more hy inferInstance
            clear hy
            have own7 := Lib.hid (own_after a7 own6.out)
            have hrd : Hid (Reads w7 w7.heap.size 1 A1 (h.length + 2 * l.length) (bv (W.tab (W.letter h l) 0 (h.length + 2 * l.length)))) := by have := x1.reads; rwa [W.tab_length] at this
            have b7 : After ((w.alloc (.cells #[.slice A h.length c, .slice B l.length d] 24)).alloc (.cells #[.slice none 0 0, .slice none 0 0] 24)) w7 := after_after b6 a7
            have hg7 : g ≤ w7.heap.size := by have := a7.below.size; have := a6.below.size; omega
            go_wp2_with (at_builtin; refine wpList_append_any w7 rfl (.tmp 34) (.tmp 44) 22 rfl g 4 i0 _ 1 1 Try.underlying22 hi0 hz0 hz1 hz2 rfl (by omega) (.slice (some ⟨g, 0, none⟩) k k) k _ rfl own7.out w7.heap.size A1 (h.length + 2 * l.length) c1' _ rfl hrd.out (bv_oneCell _) (by unfold maxLen; omega) (by omega) hg7 ?_; intro v1 w8 hown8 hg8 _; rw [shift_list, ← Nat.add_assoc] at hown8; obtain ⟨A2, c2, rfl, x2, n2⟩ := RB.of_tab hown8 (by omega); have b8 : After ((w.alloc (.cells #[.slice A h.length c, .slice B l.length d] 24)).alloc (.cells #[.slice none 0 0, .slice none 0 0] 24)) w8 := after_of_grown b7 hg8 (fun q hq => by simp only [Value.ownBlock, Option.map_some, Option.some.injEq] at hq; subst hq; simp; omega); obtain ⟨e0_, e1_, lx⟩ := HK.out w8 b8; replace x2 := Lib.hid x2; clear hown8 hg8)
            have G1 : Hid (Calls Try.prog 49 #[.slice A2 (k + h.length + 2 * l.length) c2, .int .i64 ((k : Int) + (h.length : Int)), .int .i64 ((l.length : Nat) : Int)] w8 fun e w' => ∃ A' c' B' d', e = .returned (.agg #[.slice A' (W.nf (W.shiftF h l k)).1.length c', .slice B' (W.nf (W.shiftF h l k)).2.length d']) ∧ RW w' A' c' B' d' (W.nf (W.shiftF h l k)).1 (W.nf (W.shiftF h l k)).2 ∧ From w8.heap.size A' ∧ From w8.heap.size B' ∧ ∃ y, w' = w8.more y) := by
              have e : ((k + h.length : Nat) : Int) = (k : Int) + (h.length : Int) := by push_cast; rfl
              have := shortest_any x2.out w8 hl (by omega) HP.out
              rw [e] at this
              exact this
            go_wp2_with fail
            refine G1.out.mono ?_
            rintro e w9 ⟨A5, c5, B5, d5, rfl, x5, n5, m5, hy⟩
            have a9 : After w8 w9 := after_of_more hy inferInstance
            clear hy
            have X5 := Lib.hid x5
            clear x5
            go_wp2_with fail
            have G2 : Hid (∀ U, After w9 U → Calls Try.prog 48 #[.agg #[.slice A5 (W.nf (W.shiftF h l k)).1.length c5, .slice B5 (W.nf (W.shiftF h l k)).2.length d5]] U fun e w' => ∃ A' c' B' d', e = .returned (.tuple #[.agg #[.slice A' (fitW (W.shiftF h l k)).1.1.length c', .slice B' (fitW (W.shiftF h l k)).1.2.length d'], .int .i64 (fitW (W.shiftF h l k)).2]) ∧ RW w' A' c' B' d' (fitW (W.shiftF h l k)).1.1 (fitW (W.shiftF h l k)).1.2 ∧ (∀ n, From n A5 → From n A') ∧ (∀ n, From n B5 → From n B') ∧ ∃ y, w' = U.more y) := fun U _ => by
              have := fits_any X5.out U
              rwa [fitV_nf] at this
            refine (G2.out _ inferInstance).mono ?_
            rintro e w10 ⟨A6, c6, B6, d6, rfl, x6, fA, fB, hy⟩
            have a10 : After w9 w10 := after_of_more hy inferInstance
            clear hy
            have X6 := Lib.hid x6
            have n6 := fA _ n5
            have m6 := fB _ m5
            have hz8 : w.heap.size + 2 ≤ w8.heap.size := by have := b8.below.size; simp at this; omega
            have z6 := Lib.hid (HZ.out w10 (after_after (after_after b8 a9) a10))
            have aw10 : After w w10 := after_after (after_after (after_after inferInstance b8) a9) a10
            clear x6 n5 m5 fA fB HZ HK G1 G2
            have d0 : w10.cell? ⟨w.heap.size + 1, 0, none⟩ = some (.slice none 0 0) := by rw [z6.out.cell]; rfl
            have d1 : w10.cell? ⟨w.heap.size + 1, 1, none⟩ = some (.slice none 0 0) := by rw [z6.out.cell]; rfl
            have f0 := z6.out.frozen 0
            have f1 := z6.out.frozen 1
            have l6 := z6.out.is_le
            go_wp2_with fail
            have r2 := (z6.out.set_ 0 (.slice A6 (fitW (W.shiftF h l k)).1.1.length c6)).set_ 1 (.slice B6 (fitW (W.shiftF h l k)).1.2.length d6)
            have k0 : ((w10.setCell ⟨w.heap.size + 1, 0, none⟩ (.slice A6 (fitW (W.shiftF h l k)).1.1.length c6)).setCell ⟨w.heap.size + 1, 1, none⟩ (.slice B6 (fitW (W.shiftF h l k)).1.2.length d6)).cell? ⟨w.heap.size + 1, 0, none⟩ = some (.slice A6 (fitW (W.shiftF h l k)).1.1.length c6) := by rw [r2.cell]; rfl
            have k1 : ((w10.setCell ⟨w.heap.size + 1, 0, none⟩ (.slice A6 (fitW (W.shiftF h l k)).1.1.length c6)).setCell ⟨w.heap.size + 1, 1, none⟩ (.slice B6 (fitW (W.shiftF h l k)).1.2.length d6)).cell? ⟨w.heap.size + 1, 1, none⟩ = some (.slice B6 (fitW (W.shiftF h l k)).1.2.length d6) := by rw [r2.cell]; rfl
            refine bodyPost_ret (v := .tuple #[.agg #[.slice A6 (fitW (W.shiftF h l k)).1.1.length c6, .slice B6 (fitW (W.shiftF h l k)).1.2.length d6], .int .i64 (fitW (W.shiftF h l k)).2]) (by simp [results, Try.results31, go_sem, k0, k1]) rfl ⟨A6, c6, B6, d6, by rw [HF.out], ?_, After.is_more _ _⟩
            rw [HF.out]
            exact ⟨(X6.out.head.set_ n6 (by omega) 0 _).set_ n6 (by omega) 1 _, (X6.out.loop.set_ m6 (by omega) 0 _).set_ m6 (by omega) 1 _⟩
          · have z2 : ((W.cnt h : Int) == 0) = false := by rw [beq_eq_false_iff_ne]; omega
            replace hc := Lib.hid hc
            replace z1 := Lib.hid z1
            go_enter Try.func31, Try.ntmps31
            go_wp2_with fail
            refine (rcheck_val x _ hc0.out).mono ?_
            rintro e w' ⟨rfl, y1, rfl⟩
            obtain ⟨w5, hU0, aU0⟩ : ∃ U0, ((w.alloc (.cells #[.slice A h.length c, .slice B l.length d] 24)).alloc (.cells #[.slice none 0 0, .slice none 0 0] 24)).more y1 = U0 ∧ After ((w.alloc (.cells #[.slice A h.length c, .slice B l.length d] 24)).alloc (.cells #[.slice none 0 0, .slice none 0 0] 24)) U0 := ⟨_, rfl, inferInstance⟩
            rw [hU0]
            clear hU0
            have aw : After w w5 := after_after inferInstance aU0
            obtain ⟨c0, c1, lz⟩ := HK.out w5 aU0
            go_wp2_with fail
            refine (CH.out _ aw).mono ?_
            rintro e w' ⟨rfl, rfl⟩
            go_wp2_with fail
            obtain ⟨g, hg⟩ : ∃ g, w5.heap.size = g := ⟨_, rfl⟩
            obtain ⟨w6, hw6, a6, own6⟩ : ∃ U, w5.alloc (.cells (madeCells #[.bool false] k) 4) = U ∧ After w5 U ∧ Hid (U.ownsRow g 4 1 (.slice (some ⟨g, 0, none⟩) k k) k (bv (List.replicate k false))) := ⟨_, rfl, inferInstance, by rw [← hg]; exact own_made (by omega) (Nat.le_refl _)⟩
            rw [hw6, hg]
            clear hw6 hmk
            have hsz : w.heap.size + 2 ≤ g := by have := aU0.below.size; rw [← hg]; simp at this; omega
            have b6 : After ((w.alloc (.cells #[.slice A h.length c, .slice B l.length d] 24)).alloc (.cells #[.slice none 0 0, .slice none 0 0] 24)) w6 := after_after aU0 a6
            have aw6 : After w w6 := after_after aw a6
            obtain ⟨d0_, d1_, ly⟩ := HK.out w6 b6
            refine (GL.out _ aw6).mono ?_
            rintro e w7 ⟨A1, c1', rfl, x1, n1, hy⟩
            have a7 : After w6 w7 := after_of_more hy inferInstance
            clear hy
            have own7 := Lib.hid (own_after a7 own6.out)
            have hrd : Hid (Reads w7 w7.heap.size 1 A1 (h.length + 2 * l.length) (bv (W.tab (W.letter h l) 0 (h.length + 2 * l.length)))) := by have := x1.reads; rwa [W.tab_length] at this
            have b7 : After ((w.alloc (.cells #[.slice A h.length c, .slice B l.length d] 24)).alloc (.cells #[.slice none 0 0, .slice none 0 0] 24)) w7 := after_after b6 a7
            have hg7 : g ≤ w7.heap.size := by have := a7.below.size; have := a6.below.size; omega
            go_wp2_with (at_builtin; refine wpList_append_any w7 rfl (.tmp 34) (.tmp 44) 22 rfl g 4 i0 _ 1 1 Try.underlying22 hi0 hz0 hz1 hz2 rfl (by omega) (.slice (some ⟨g, 0, none⟩) k k) k _ rfl own7.out w7.heap.size A1 (h.length + 2 * l.length) c1' _ rfl hrd.out (bv_oneCell _) (by unfold maxLen; omega) (by omega) hg7 ?_; intro v1 w8 hown8 hg8 _; rw [shift_list, ← Nat.add_assoc] at hown8; obtain ⟨A2, c2, rfl, x2, n2⟩ := RB.of_tab hown8 (by omega); have b8 : After ((w.alloc (.cells #[.slice A h.length c, .slice B l.length d] 24)).alloc (.cells #[.slice none 0 0, .slice none 0 0] 24)) w8 := after_of_grown b7 hg8 (fun q hq => by simp only [Value.ownBlock, Option.map_some, Option.some.injEq] at hq; subst hq; simp; omega); obtain ⟨e0_, e1_, lx⟩ := HK.out w8 b8; replace x2 := Lib.hid x2; clear hown8 hg8)
            have G1 : Hid (Calls Try.prog 49 #[.slice A2 (k + h.length + 2 * l.length) c2, .int .i64 ((k : Int) + (h.length : Int)), .int .i64 ((l.length : Nat) : Int)] w8 fun e w' => ∃ A' c' B' d', e = .returned (.agg #[.slice A' (W.nf (W.shiftF h l k)).1.length c', .slice B' (W.nf (W.shiftF h l k)).2.length d']) ∧ RW w' A' c' B' d' (W.nf (W.shiftF h l k)).1 (W.nf (W.shiftF h l k)).2 ∧ From w8.heap.size A' ∧ From w8.heap.size B' ∧ ∃ y, w' = w8.more y) := by
              have e : ((k + h.length : Nat) : Int) = (k : Int) + (h.length : Int) := by push_cast; rfl
              have := shortest_any x2.out w8 hl (by omega) HP.out
              rw [e] at this
              exact this
            go_wp2_with fail
            refine G1.out.mono ?_
            rintro e w9 ⟨A5, c5, B5, d5, rfl, x5, n5, m5, hy⟩
            have a9 : After w8 w9 := after_of_more hy inferInstance
            clear hy
            have X5 := Lib.hid x5
            clear x5
            go_wp2_with fail
            have G2 : Hid (∀ U, After w9 U → Calls Try.prog 48 #[.agg #[.slice A5 (W.nf (W.shiftF h l k)).1.length c5, .slice B5 (W.nf (W.shiftF h l k)).2.length d5]] U fun e w' => ∃ A' c' B' d', e = .returned (.tuple #[.agg #[.slice A' (fitW (W.shiftF h l k)).1.1.length c', .slice B' (fitW (W.shiftF h l k)).1.2.length d'], .int .i64 (fitW (W.shiftF h l k)).2]) ∧ RW w' A' c' B' d' (fitW (W.shiftF h l k)).1.1 (fitW (W.shiftF h l k)).1.2 ∧ (∀ n, From n A5 → From n A') ∧ (∀ n, From n B5 → From n B') ∧ ∃ y, w' = U.more y) := fun U _ => by
              have := fits_any X5.out U
              rwa [fitV_nf] at this
            refine (G2.out _ inferInstance).mono ?_
            rintro e w10 ⟨A6, c6, B6, d6, rfl, x6, fA, fB, hy⟩
            have a10 : After w9 w10 := after_of_more hy inferInstance
            clear hy
            have X6 := Lib.hid x6
            have n6 := fA _ n5
            have m6 := fB _ m5
            have hz8 : w.heap.size + 2 ≤ w8.heap.size := by have := b8.below.size; simp at this; omega
            have z6 := Lib.hid (HZ.out w10 (after_after (after_after b8 a9) a10))
            have aw10 : After w w10 := after_after (after_after (after_after inferInstance b8) a9) a10
            clear x6 n5 m5 fA fB HZ HK G1 G2
            have d0 : w10.cell? ⟨w.heap.size + 1, 0, none⟩ = some (.slice none 0 0) := by rw [z6.out.cell]; rfl
            have d1 : w10.cell? ⟨w.heap.size + 1, 1, none⟩ = some (.slice none 0 0) := by rw [z6.out.cell]; rfl
            have f0 := z6.out.frozen 0
            have f1 := z6.out.frozen 1
            have l6 := z6.out.is_le
            go_wp2_with fail
            have r2 := (z6.out.set_ 0 (.slice A6 (fitW (W.shiftF h l k)).1.1.length c6)).set_ 1 (.slice B6 (fitW (W.shiftF h l k)).1.2.length d6)
            have k0 : ((w10.setCell ⟨w.heap.size + 1, 0, none⟩ (.slice A6 (fitW (W.shiftF h l k)).1.1.length c6)).setCell ⟨w.heap.size + 1, 1, none⟩ (.slice B6 (fitW (W.shiftF h l k)).1.2.length d6)).cell? ⟨w.heap.size + 1, 0, none⟩ = some (.slice A6 (fitW (W.shiftF h l k)).1.1.length c6) := by rw [r2.cell]; rfl
            have k1 : ((w10.setCell ⟨w.heap.size + 1, 0, none⟩ (.slice A6 (fitW (W.shiftF h l k)).1.1.length c6)).setCell ⟨w.heap.size + 1, 1, none⟩ (.slice B6 (fitW (W.shiftF h l k)).1.2.length d6)).cell? ⟨w.heap.size + 1, 1, none⟩ = some (.slice B6 (fitW (W.shiftF h l k)).1.2.length d6) := by rw [r2.cell]; rfl
            refine bodyPost_ret (v := .tuple #[.agg #[.slice A6 (fitW (W.shiftF h l k)).1.1.length c6, .slice B6 (fitW (W.shiftF h l k)).1.2.length d6], .int .i64 (fitW (W.shiftF h l k)).2]) (by simp [results, Try.results31, go_sem, k0, k1]) rfl ⟨A6, c6, B6, d6, by rw [HF.out], ?_, After.is_more _ _⟩
            rw [HF.out]
            exact ⟨(X6.out.head.set_ n6 (by omega) 0 _).set_ n6 (by omega) 1 _, (X6.out.loop.set_ m6 (by omega) 0 _).set_ m6 (by omega) 1 _⟩
  · have HF := Lib.hid (shiftW_bad (n := n) hv)
    clear hv
    rcases h5 with h5 | h5
    · have hc0 := Lib.hid h5
      clear h5
      go_enter Try.func31, Try.ntmps31
      go_wp2_with fail
      refine (rcheck_val x _ hc0.out).mono ?_
      rintro e w' ⟨rfl, y1, rfl⟩
      obtain ⟨w5, hU0, aU0⟩ : ∃ U0, ((w.alloc (.cells #[.slice A h.length c, .slice B l.length d] 24)).alloc (.cells #[.slice none 0 0, .slice none 0 0] 24)).more y1 = U0 ∧ After ((w.alloc (.cells #[.slice A h.length c, .slice B l.length d] 24)).alloc (.cells #[.slice none 0 0, .slice none 0 0] 24)) U0 := ⟨_, rfl, inferInstance⟩
      rw [hU0]
      clear hU0
      have aw : After w w5 := after_after inferInstance aU0
      obtain ⟨c0, c1, lz⟩ := HK.out w5 aU0
      have z6 := Lib.hid (HZ.out w5 aU0)
      clear HZ HK
      have d0 : w5.cell? ⟨w.heap.size + 1, 0, none⟩ = some (.slice none 0 0) := by rw [z6.out.cell]; rfl
      have d1 : w5.cell? ⟨w.heap.size + 1, 1, none⟩ = some (.slice none 0 0) := by rw [z6.out.cell]; rfl
      have f0 := z6.out.frozen 0
      have f1 := z6.out.frozen 1
      have l6 := z6.out.is_le
      go_wp2_with fail
      have r2 := (z6.out.set_ 0 (.slice none 0 0)).set_ 1 (.slice none 0 0)
      have k0 : ((w5.setCell ⟨w.heap.size + 1, 0, none⟩ (.slice none 0 0)).setCell ⟨w.heap.size + 1, 1, none⟩ (.slice none 0 0)).cell? ⟨w.heap.size + 1, 0, none⟩ = some (.slice none 0 0) := by rw [r2.cell]; rfl
      have k1 : ((w5.setCell ⟨w.heap.size + 1, 0, none⟩ (.slice none 0 0)).setCell ⟨w.heap.size + 1, 1, none⟩ (.slice none 0 0)).cell? ⟨w.heap.size + 1, 1, none⟩ = some (.slice none 0 0) := by rw [r2.cell]; rfl
      refine bodyPost_ret (v := .tuple #[.agg #[.slice none 0 0, .slice none 0 0], .int .i64 5]) (by simp [results, Try.results31, go_sem, k0, k1]) rfl ⟨none, 0, none, 0, by rw [HF.out, hc0.out]; rfl, ?_, After.is_more _ _⟩
      rw [HF.out]
      exact ⟨RB.nil _, RB.nil _⟩
    · have hc0 := Lib.hid h5
      clear h5
      go_enter Try.func31, Try.ntmps31
      go_wp2_with fail
      refine (rcheck_val x _ hc0.out).mono ?_
      rintro e w' ⟨rfl, y1, rfl⟩
      obtain ⟨w5, hU0, aU0⟩ : ∃ U0, ((w.alloc (.cells #[.slice A h.length c, .slice B l.length d] 24)).alloc (.cells #[.slice none 0 0, .slice none 0 0] 24)).more y1 = U0 ∧ After ((w.alloc (.cells #[.slice A h.length c, .slice B l.length d] 24)).alloc (.cells #[.slice none 0 0, .slice none 0 0] 24)) U0 := ⟨_, rfl, inferInstance⟩
      rw [hU0]
      clear hU0
      have aw : After w w5 := after_after inferInstance aU0
      obtain ⟨c0, c1, lz⟩ := HK.out w5 aU0
      have z6 := Lib.hid (HZ.out w5 aU0)
      clear HZ HK
      have d0 : w5.cell? ⟨w.heap.size + 1, 0, none⟩ = some (.slice none 0 0) := by rw [z6.out.cell]; rfl
      have d1 : w5.cell? ⟨w.heap.size + 1, 1, none⟩ = some (.slice none 0 0) := by rw [z6.out.cell]; rfl
      have f0 := z6.out.frozen 0
      have f1 := z6.out.frozen 1
      have l6 := z6.out.is_le
      go_wp2_with fail
      have r2 := (z6.out.set_ 0 (.slice none 0 0)).set_ 1 (.slice none 0 0)
      have k0 : ((w5.setCell ⟨w.heap.size + 1, 0, none⟩ (.slice none 0 0)).setCell ⟨w.heap.size + 1, 1, none⟩ (.slice none 0 0)).cell? ⟨w.heap.size + 1, 0, none⟩ = some (.slice none 0 0) := by rw [r2.cell]; rfl
      have k1 : ((w5.setCell ⟨w.heap.size + 1, 0, none⟩ (.slice none 0 0)).setCell ⟨w.heap.size + 1, 1, none⟩ (.slice none 0 0)).cell? ⟨w.heap.size + 1, 1, none⟩ = some (.slice none 0 0) := by rw [r2.cell]; rfl
      refine bodyPost_ret (v := .tuple #[.agg #[.slice none 0 0, .slice none 0 0], .int .i64 3]) (by simp [results, Try.results31, go_sem, k0, k1]) rfl ⟨none, 0, none, 0, by rw [HF.out, hc0.out]; rfl, ?_, After.is_more _ _⟩
      rw [HF.out]
      exact ⟨RB.nil _, RB.nil _⟩
end Go.Proofs.Ytjbpelkdciphnaa
