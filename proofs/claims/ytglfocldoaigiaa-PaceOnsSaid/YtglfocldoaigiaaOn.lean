/-
  Contract: bword.On.
-/
import Derived.Test.YtglfocldoaigiaaClos
set_option linter.unusedVariables false
namespace Go.Proofs.Ytglfocldoaigiaa
open Go.RowKit Go.BigFrame

open Classical in
noncomputable def onW (h l h' l' : List Bool) : (List Bool × List Bool) × Int := if Valid h l ∧ Valid h' l' then fitW (W.onF h l h' l') else (([], []), bothI h l h' l')
theorem onW_ok {h l h' l' : List Bool} (hv : Valid h l) (hv' : Valid h' l') : onW h l h' l' = fitW (W.onF h l h' l') := by unfold onW; rw [if_pos ⟨hv, hv'⟩]
theorem onW_bad {h l h' l' : List Bool} (hv : ¬ (Valid h l ∧ Valid h' l')) : onW h l h' l' = (([], []), bothI h l h' l') := by unfold onW; rw [if_neg hv]

theorem on_start {w : World} {A B c d h l A' B' c' d' h' l'} (U : World) (k : After (((w.alloc (.cells #[.slice A h.length c, .slice B l.length d] 24)).alloc (.cells #[.slice A' h'.length c', .slice B' l'.length d'] 24)).alloc (.cells #[.slice none 0 0, .slice none 0 0] 24)) U) :
    OnSt w A c B d A' c' B' d' h l h' l' w.heap.size (w.heap.size + 1) U.heap.size 0 (U.alloc (.cells #[.int .i64 0] 3)) :=
  have e1 : Blk (((w.alloc (.cells #[.slice A h.length c, .slice B l.length d] 24)).alloc (.cells #[.slice A' h'.length c', .slice B' l'.length d'] 24)).alloc (.cells #[.slice none 0 0, .slice none 0 0] 24)) w.heap.size 24 #[.slice A h.length c, .slice B l.length d] := ((Blk.new w _ _).alloc _).alloc _
  have e2 : Blk (((w.alloc (.cells #[.slice A h.length c, .slice B l.length d] 24)).alloc (.cells #[.slice A' h'.length c', .slice B' l'.length d'] 24)).alloc (.cells #[.slice none 0 0, .slice none 0 0] 24)) (w.heap.size + 1) 24 #[.slice A' h'.length c', .slice B' l'.length d'] := (Blk.new1 w _ _ _).alloc _
  ⟨(e1.after (w' := U)).alloc _, (e2.after (w' := U)).alloc _, by rw [W.ones_zero]; exact Blk.new _ _ _, after_after (after_after inferInstance k) inferInstance⟩
theorem OnSt.later {w : World} {A B c d h l A' B' c' d' h' l'} {ga gb gk i : Nat} {U V : World} (s : OnSt w A c B d A' c' B' d' h l h' l' ga gb gk i U) {n : Nat} (h1 : ga < n) (h2 : gb < n) (h3 : gk < n) (hw : w.heap.size ≤ n) (b : Below n U V) : OnSt w A c B d A' c' B' d' h l h' l' ga gb gk i V :=
  ⟨(b.block _ h1).trans s.ba, (b.block _ h2).trans s.bb, (b.block _ h3).trans s.bk, ⟨s.aft.below.trans (b.mono hw)⟩⟩

/-- what On hands to made, and what made hands back -/
theorem on_made {w : World} {A B c d h l A' B' c' d' h' l'} (x : RW w A c B d h l) (x' : RW w A' c' B' d' h' l') (hl : 0 < l.length) (hl' : 0 < l'.length) {ga gb gk : Nat} (hga : w.heap.size ≤ ga) (hgb : w.heap.size ≤ gb) (hgk : w.heap.size ≤ gk) (n1 : ga ≠ gk) (n2 : gb ≠ gk)
    (head loop : Nat) (hlp : 0 < loop) (hb : head + loop ≤ 100000) (hper : W.Per (W.onF h l h' l') head loop) (U : World) (s : OnSt w A c B d A' c' B' d' h l h' l' ga gb gk 0 U) {hI lI : Int} (e1 : hI = head) (e2 : lI = loop) :
    Calls Try.prog 69 #[.int .i64 hI, .int .i64 lI, .func (.func 70) #[] #[.pointer (some ⟨ga, 0, none⟩), .pointer (some ⟨gk, 0, none⟩), .pointer (some ⟨gb, 0, none⟩)]] U fun e w' =>
      ∃ A c B d, e = .returned (.tuple #[.agg #[.slice A (fitW (W.onF h l h' l')).1.1.length c, .slice B (fitW (W.onF h l h' l')).1.2.length d], .int .i64 (fitW (W.onF h l h' l')).2]) ∧
      RW w' A c B d (fitW (W.onF h l h' l')).1.1 (fitW (W.onF h l h' l')).1.2 ∧ From U.heap.size A ∧ From U.heap.size B ∧ U.grownBy w' (some gk) := by
  subst e1 e2
  have lk := s.bk.lt
  have la := s.ba.lt
  have lb := s.bb.lt
  refine made_any _ _ (enters_of Try.func70 (by kernel_rfl) rfl) (W.onF h l h' l') (OnSt w A c B d A' c' B' d' h l h' l' ga gb gk) (some gk) U head loop hlp hb hper (fun k hk => by cases hk; exact lk) s (fun i U' V s' b => ?_) (fun i V hi s' hg => ?_)
  · exact s'.later (n := U.heap.size) la lb lk s.aft.below.size b
  · exact on_clos x x' hl hl' hga hgb hgk n1 n2 i (by omega) V s'

set_option maxHeartbeats 1600000 in
theorem on_any {w0 : World} {A B c d h l A' B' c' d' h' l'} (x : RW w0 A c B d h l) (x' : RW w0 A' c' B' d' h' l') (w : World) [After w0 w] :
    Calls Try.prog 51 #[.agg #[.slice A h.length c, .slice B l.length d], .agg #[.slice A' h'.length c', .slice B' l'.length d']] w fun e w' =>
      ∃ A5 c5 B5 d5, e = .returned (.tuple #[.agg #[.slice A5 (onW h l h' l').1.1.length c5, .slice B5 (onW h l h' l').1.2.length d5], .int .i64 (onW h l h' l').2]) ∧ RW w' A5 c5 B5 d5 (onW h l h' l').1.1 (onW h l h' l').1.2 ∧ ∃ y, w' = w.more y := by
  replace x := x.here w
  replace x' := x'.here w
  have HZ : Hid (∀ U : World, After (((w.alloc (.cells #[.slice A h.length c, .slice B l.length d] 24)).alloc (.cells #[.slice A' h'.length c', .slice B' l'.length d'] 24)).alloc (.cells #[.slice none 0 0, .slice none 0 0] 24)) U → Blk U (w.heap.size + 2) 24 #[.slice none 0 0, .slice none 0 0]) := by
    intro U k
    have := (Blk.new ((w.alloc (.cells #[.slice A h.length c, .slice B l.length d] 24)).alloc (.cells #[.slice A' h'.length c', .slice B' l'.length d'] 24)) 24 #[.slice none 0 0, .slice none 0 0]).after (w' := U)
    rwa [size_alloc_, size_alloc_] at this
  rcases both_cases h l h' l' with ⟨hv, hv'⟩ | ⟨hbad, h5⟩
  · have HF := Lib.hid (onW_ok hv hv')
    have HB := Lib.hid (bothI_ok hv hv')
    have b1 := hv.2
    have b2 := hv'.2
    have hl := hv.1
    have hl' := hv'.1
    have hcb := cntI_bd l
    have HCT : Hid (cntI l = (W.cnt l : Nat)) := rfl
    clear hv hv'
    by_cases hk : 0 < cntI l
    · obtain ⟨m1, hm1⟩ : ∃ m1, l.length * h'.length = m1 := ⟨_, rfl⟩
      obtain ⟨m2, hm2⟩ : ∃ m2, l.length * l'.length = m2 := ⟨_, rfl⟩
      have bm1 : m1 ≤ 64 * 64 := by rw [← hm1]; exact Nat.mul_le_mul (by omega) (by omega)
      have bm2 : m2 ≤ 64 * 64 := by rw [← hm2]; exact Nat.mul_le_mul (by omega) (by omega)
      have e1 : (l.length : Int) * (h'.length : Int) = (m1 : Int) := by rw [← hm1]; push_cast; rfl
      have e2 : (l.length : Int) * (l'.length : Int) = (m2 : Int) := by rw [← hm2]; push_cast; rfl
      have pm2 : 0 < m2 := by rw [← hm2]; exact Nat.mul_pos hl hl'
      have HP : Hid (W.Per (W.onF h l h' l') (h.length + m1) m2) := by
        have hk' : 0 < W.cnt l := by have := HCT.out; omega
        rw [← hm2, Nat.mul_comm]
        refine W.onF_per hl (by omega) ?_ ⟨W.cnt l, Nat.mul_comm _ _⟩
        have a := W.ones_add_loop h l h.length h'.length hl (Nat.le_refl _)
        rw [← hm1, Nat.mul_comm l.length, a]
        have : h'.length ≤ h'.length * W.cnt l := Nat.le_mul_of_pos_right _ hk'
        omega
      clear hm1 hm2
      have hm12 : h.length + m1 + m2 ≤ 100000 := by omega
      go_enter Try.func51, Try.ntmps51
      go_wp2_with fail
      refine (both_any x x' _).mono ?_
      rintro e w' ⟨rfl, y1, rfl⟩
      rw [HB.out]
      go_wp2_with fail
      refine wp_region_more (by kernel_rfl) (by kernel_rfl) ?_
      repeat (go_big_quiet_step (fail))
      refine wpQuiet_nil ?_
      rintro _ ⟨y2, rfl⟩
      go_wp2_with fail
      refine (count_any x.loop _).mono ?_
      rintro e w' ⟨rfl, rfl⟩
      go_wp2_with fail
      obtain ⟨U0, hU0, aU0⟩ : ∃ U0, ((((w.alloc (.cells #[.slice A h.length c, .slice B l.length d] 24)).alloc (.cells #[.slice A' h'.length c', .slice B' l'.length d'] 24)).alloc (.cells #[.slice none 0 0, .slice none 0 0] 24)).more y1).more y2 = U0 ∧ After (((w.alloc (.cells #[.slice A h.length c, .slice B l.length d] 24)).alloc (.cells #[.slice A' h'.length c', .slice B' l'.length d'] 24)).alloc (.cells #[.slice none 0 0, .slice none 0 0] 24)) U0 := ⟨_, rfl, inferInstance⟩
      rw [hU0]
      clear hU0
      have hsz : w.heap.size + 3 ≤ U0.heap.size := by have := aU0.below.size; simp at this; omega
      refine (on_made x x' hl hl' (Nat.le_refl _) (by omega) (by omega) (by omega) (by omega) (h.length + m1) m2 pm2 hm12 HP.out _ (on_start U0 aU0) (by push_cast; rfl) rfl).mono ?_
      rintro e w5 ⟨A5, c5, B5, d5, rfl, x5, n5, m5, g5⟩
      have z6 := Lib.hid (((HZ.out U0 aU0).alloc (.cells #[.int .i64 0] 3)).grown g5 (fun e => by have := Option.some.inj e; omega))
      have X5 := Lib.hid x5
      have a6 : After w (U0.alloc (.cells #[.int .i64 0] 3)) := after_after (after_after inferInstance aU0) inferInstance
      have aw : After w w5 := ⟨a6.below.trans (below_grow g5 (by simp; omega) (fun k hk => by have := Option.some.inj hk; omega))⟩
      clear x5 g5 HZ
      have d0 : w5.cell? ⟨w.heap.size + 2, 0, none⟩ = some (.slice none 0 0) := by rw [z6.out.cell]; rfl
      have d1 : w5.cell? ⟨w.heap.size + 2, 1, none⟩ = some (.slice none 0 0) := by rw [z6.out.cell]; rfl
      have f0 := z6.out.frozen 0
      have f1 := z6.out.frozen 1
      have l6 := z6.out.is_le
      go_wp2_with fail
      have r2 := (z6.out.set_ 0 (.slice A5 (fitW (W.onF h l h' l')).1.1.length c5)).set_ 1 (.slice B5 (fitW (W.onF h l h' l')).1.2.length d5)
      have k0 : ((w5.setCell ⟨w.heap.size + 2, 0, none⟩ (.slice A5 (fitW (W.onF h l h' l')).1.1.length c5)).setCell ⟨w.heap.size + 2, 1, none⟩ (.slice B5 (fitW (W.onF h l h' l')).1.2.length d5)).cell? ⟨w.heap.size + 2, 0, none⟩ = some (.slice A5 (fitW (W.onF h l h' l')).1.1.length c5) := by rw [r2.cell]; rfl
      have k1 : ((w5.setCell ⟨w.heap.size + 2, 0, none⟩ (.slice A5 (fitW (W.onF h l h' l')).1.1.length c5)).setCell ⟨w.heap.size + 2, 1, none⟩ (.slice B5 (fitW (W.onF h l h' l')).1.2.length d5)).cell? ⟨w.heap.size + 2, 1, none⟩ = some (.slice B5 (fitW (W.onF h l h' l')).1.2.length d5) := by rw [r2.cell]; rfl
      refine bodyPost_ret (v := .tuple #[.agg #[.slice A5 (fitW (W.onF h l h' l')).1.1.length c5, .slice B5 (fitW (W.onF h l h' l')).1.2.length d5], .int .i64 (fitW (W.onF h l h' l')).2]) (by simp [results, Try.results51, go_sem, k0, k1]) rfl ⟨A5, c5, B5, d5, by rw [HF.out], ?_, After.is_more _ _⟩
      rw [HF.out]
      exact ⟨(X5.out.head.set_ n5 (by simp; omega) 0 _).set_ n5 (by simp; omega) 1 _, (X5.out.loop.set_ m5 (by simp; omega) 0 _).set_ m5 (by simp; omega) 1 _⟩
    · have HP : Hid (W.Per (W.onF h l h' l') h.length (1 * l.length)) := W.onF_per_none hl (by have := HCT.out; omega) 1
      have hm12 : h.length + l.length ≤ 100000 := by omega
      rw [Nat.one_mul] at HP
      go_enter Try.func51, Try.ntmps51
      go_wp2_with fail
      refine (both_any x x' _).mono ?_
      rintro e w' ⟨rfl, y1, rfl⟩
      rw [HB.out]
      go_wp2_with fail
      refine wp_region_more (by kernel_rfl) (by kernel_rfl) ?_
      repeat (go_big_quiet_step (fail))
      refine wpQuiet_nil ?_
      rintro _ ⟨y2, rfl⟩
      go_wp2_with fail
      refine (count_any x.loop _).mono ?_
      rintro e w' ⟨rfl, rfl⟩
      go_wp2_with fail
      obtain ⟨U0, hU0, aU0⟩ : ∃ U0, ((((w.alloc (.cells #[.slice A h.length c, .slice B l.length d] 24)).alloc (.cells #[.slice A' h'.length c', .slice B' l'.length d'] 24)).alloc (.cells #[.slice none 0 0, .slice none 0 0] 24)).more y1).more y2 = U0 ∧ After (((w.alloc (.cells #[.slice A h.length c, .slice B l.length d] 24)).alloc (.cells #[.slice A' h'.length c', .slice B' l'.length d'] 24)).alloc (.cells #[.slice none 0 0, .slice none 0 0] 24)) U0 := ⟨_, rfl, inferInstance⟩
      rw [hU0]
      clear hU0
      have hsz : w.heap.size + 3 ≤ U0.heap.size := by have := aU0.below.size; simp at this; omega
      refine (on_made x x' hl hl' (Nat.le_refl _) (by omega) (by omega) (by omega) (by omega) h.length l.length hl hm12 HP.out _ (on_start U0 aU0) rfl rfl).mono ?_
      rintro e w5 ⟨A5, c5, B5, d5, rfl, x5, n5, m5, g5⟩
      have z6 := Lib.hid (((HZ.out U0 aU0).alloc (.cells #[.int .i64 0] 3)).grown g5 (fun e => by have := Option.some.inj e; omega))
      have X5 := Lib.hid x5
      have a6 : After w (U0.alloc (.cells #[.int .i64 0] 3)) := after_after (after_after inferInstance aU0) inferInstance
      have aw : After w w5 := ⟨a6.below.trans (below_grow g5 (by simp; omega) (fun k hk => by have := Option.some.inj hk; omega))⟩
      clear x5 g5 HZ
      have d0 : w5.cell? ⟨w.heap.size + 2, 0, none⟩ = some (.slice none 0 0) := by rw [z6.out.cell]; rfl
      have d1 : w5.cell? ⟨w.heap.size + 2, 1, none⟩ = some (.slice none 0 0) := by rw [z6.out.cell]; rfl
      have f0 := z6.out.frozen 0
      have f1 := z6.out.frozen 1
      have l6 := z6.out.is_le
      go_wp2_with fail
      have r2 := (z6.out.set_ 0 (.slice A5 (fitW (W.onF h l h' l')).1.1.length c5)).set_ 1 (.slice B5 (fitW (W.onF h l h' l')).1.2.length d5)
      have k0 : ((w5.setCell ⟨w.heap.size + 2, 0, none⟩ (.slice A5 (fitW (W.onF h l h' l')).1.1.length c5)).setCell ⟨w.heap.size + 2, 1, none⟩ (.slice B5 (fitW (W.onF h l h' l')).1.2.length d5)).cell? ⟨w.heap.size + 2, 0, none⟩ = some (.slice A5 (fitW (W.onF h l h' l')).1.1.length c5) := by rw [r2.cell]; rfl
      have k1 : ((w5.setCell ⟨w.heap.size + 2, 0, none⟩ (.slice A5 (fitW (W.onF h l h' l')).1.1.length c5)).setCell ⟨w.heap.size + 2, 1, none⟩ (.slice B5 (fitW (W.onF h l h' l')).1.2.length d5)).cell? ⟨w.heap.size + 2, 1, none⟩ = some (.slice B5 (fitW (W.onF h l h' l')).1.2.length d5) := by rw [r2.cell]; rfl
      refine bodyPost_ret (v := .tuple #[.agg #[.slice A5 (fitW (W.onF h l h' l')).1.1.length c5, .slice B5 (fitW (W.onF h l h' l')).1.2.length d5], .int .i64 (fitW (W.onF h l h' l')).2]) (by simp [results, Try.results51, go_sem, k0, k1]) rfl ⟨A5, c5, B5, d5, by rw [HF.out], ?_, After.is_more _ _⟩
      rw [HF.out]
      exact ⟨(X5.out.head.set_ n5 (by simp; omega) 0 _).set_ n5 (by simp; omega) 1 _, (X5.out.loop.set_ m5 (by simp; omega) 0 _).set_ m5 (by simp; omega) 1 _⟩
  · have HF := Lib.hid (onW_bad hbad)
    clear hbad
    rcases h5 with h5 | h5
    · have HB := Lib.hid h5
      clear h5
      go_enter Try.func51, Try.ntmps51
      go_wp2_with fail
      refine (both_any x x' _).mono ?_
      rintro e w' ⟨rfl, y1, rfl⟩
      rw [HB.out]
      obtain ⟨w5, hU0, aU0⟩ : ∃ U0, (((w.alloc (.cells #[.slice A h.length c, .slice B l.length d] 24)).alloc (.cells #[.slice A' h'.length c', .slice B' l'.length d'] 24)).alloc (.cells #[.slice none 0 0, .slice none 0 0] 24)).more y1 = U0 ∧ After (((w.alloc (.cells #[.slice A h.length c, .slice B l.length d] 24)).alloc (.cells #[.slice A' h'.length c', .slice B' l'.length d'] 24)).alloc (.cells #[.slice none 0 0, .slice none 0 0] 24)) U0 := ⟨_, rfl, inferInstance⟩
      rw [hU0]
      clear hU0
      have z6 := Lib.hid (HZ.out w5 aU0)
      have aw : After w w5 := after_after inferInstance aU0
      have iN : New w (w.heap.size + 2) := ⟨by omega⟩
      clear HZ
      have d0 : w5.cell? ⟨w.heap.size + 2, 0, none⟩ = some (.slice none 0 0) := by rw [z6.out.cell]; rfl
      have d1 : w5.cell? ⟨w.heap.size + 2, 1, none⟩ = some (.slice none 0 0) := by rw [z6.out.cell]; rfl
      have f0 := z6.out.frozen 0
      have f1 := z6.out.frozen 1
      have l6 := z6.out.is_le
      go_wp2_with fail
      have r2 := (z6.out.set_ 0 (.slice none 0 0)).set_ 1 (.slice none 0 0)
      have k0 : ((w5.setCell ⟨w.heap.size + 2, 0, none⟩ (.slice none 0 0)).setCell ⟨w.heap.size + 2, 1, none⟩ (.slice none 0 0)).cell? ⟨w.heap.size + 2, 0, none⟩ = some (.slice none 0 0) := by rw [r2.cell]; rfl
      have k1 : ((w5.setCell ⟨w.heap.size + 2, 0, none⟩ (.slice none 0 0)).setCell ⟨w.heap.size + 2, 1, none⟩ (.slice none 0 0)).cell? ⟨w.heap.size + 2, 1, none⟩ = some (.slice none 0 0) := by rw [r2.cell]; rfl
      refine bodyPost_ret (v := .tuple #[.agg #[.slice none 0 0, .slice none 0 0], .int .i64 5]) (by simp [results, Try.results51, go_sem, k0, k1]) rfl ⟨none, 0, none, 0, by rw [HF.out, HB.out]; rfl, ?_, After.is_more _ _⟩
      rw [HF.out]
      exact ⟨RB.nil _, RB.nil _⟩
    · have HB := Lib.hid h5
      clear h5
      go_enter Try.func51, Try.ntmps51
      go_wp2_with fail
      refine (both_any x x' _).mono ?_
      rintro e w' ⟨rfl, y1, rfl⟩
      rw [HB.out]
      obtain ⟨w5, hU0, aU0⟩ : ∃ U0, (((w.alloc (.cells #[.slice A h.length c, .slice B l.length d] 24)).alloc (.cells #[.slice A' h'.length c', .slice B' l'.length d'] 24)).alloc (.cells #[.slice none 0 0, .slice none 0 0] 24)).more y1 = U0 ∧ After (((w.alloc (.cells #[.slice A h.length c, .slice B l.length d] 24)).alloc (.cells #[.slice A' h'.length c', .slice B' l'.length d'] 24)).alloc (.cells #[.slice none 0 0, .slice none 0 0] 24)) U0 := ⟨_, rfl, inferInstance⟩
      rw [hU0]
      clear hU0
      have z6 := Lib.hid (HZ.out w5 aU0)
      have aw : After w w5 := after_after inferInstance aU0
      have iN : New w (w.heap.size + 2) := ⟨by omega⟩
      clear HZ
      have d0 : w5.cell? ⟨w.heap.size + 2, 0, none⟩ = some (.slice none 0 0) := by rw [z6.out.cell]; rfl
      have d1 : w5.cell? ⟨w.heap.size + 2, 1, none⟩ = some (.slice none 0 0) := by rw [z6.out.cell]; rfl
      have f0 := z6.out.frozen 0
      have f1 := z6.out.frozen 1
      have l6 := z6.out.is_le
      go_wp2_with fail
      have r2 := (z6.out.set_ 0 (.slice none 0 0)).set_ 1 (.slice none 0 0)
      have k0 : ((w5.setCell ⟨w.heap.size + 2, 0, none⟩ (.slice none 0 0)).setCell ⟨w.heap.size + 2, 1, none⟩ (.slice none 0 0)).cell? ⟨w.heap.size + 2, 0, none⟩ = some (.slice none 0 0) := by rw [r2.cell]; rfl
      have k1 : ((w5.setCell ⟨w.heap.size + 2, 0, none⟩ (.slice none 0 0)).setCell ⟨w.heap.size + 2, 1, none⟩ (.slice none 0 0)).cell? ⟨w.heap.size + 2, 1, none⟩ = some (.slice none 0 0) := by rw [r2.cell]; rfl
      refine bodyPost_ret (v := .tuple #[.agg #[.slice none 0 0, .slice none 0 0], .int .i64 3]) (by simp [results, Try.results51, go_sem, k0, k1]) rfl ⟨none, 0, none, 0, by rw [HF.out, HB.out]; rfl, ?_, After.is_more _ _⟩
      rw [HF.out]
      exact ⟨RB.nil _, RB.nil _⟩
theorem onW_cases (h l h' l' : List Bool) : (∃ H L, onW h l h' l' = ((H, L), 0) ∧ Valid h l ∧ Valid h' l' ∧ Valid H L ∧ ∀ i, W.letter H L i = W.onF h l h' l' i) ∨ ∃ e, onW h l h' l' = (([], []), e) ∧ (e = 5 ∨ e = 3) := by
  rcases both_cases h l h' l' with ⟨hv, hv'⟩ | ⟨hbad, h5⟩
  · obtain ⟨N, n, hn, hp⟩ : ∃ N n, 0 < n ∧ W.Per (W.onF h l h' l') N n := by
      rcases Nat.eq_zero_or_pos (W.cnt l) with h0 | h0
      · exact ⟨h.length, 1 * l.length, by have := hv.1; omega, W.onF_per_none hv.1 h0 1⟩
      · refine ⟨h.length + h'.length * l.length, l'.length * l.length, Nat.mul_pos hv'.1 hv.1, W.onF_per hv.1 (by omega) ?_ ⟨W.cnt l, Nat.mul_comm _ _⟩⟩
        have a := W.ones_add_loop h l h.length h'.length hv.1 (Nat.le_refl _)
        have : h'.length ≤ h'.length * W.cnt l := Nat.le_mul_of_pos_right _ h0
        omega
    rw [onW_ok hv hv']
    by_cases hf : Fits (W.onF h l h' l')
    · exact .inl ⟨_, _, fitW_yes hf, hv, hv', ⟨(W.nf_nf hn hp).pos, hf⟩, fun i => W.nf_letter hn hp i⟩
    · exact .inr ⟨3, fitW_no hf, .inr rfl⟩
  · exact .inr ⟨_, onW_bad hbad, h5⟩
end Go.Proofs.Ytglfocldoaigiaa
