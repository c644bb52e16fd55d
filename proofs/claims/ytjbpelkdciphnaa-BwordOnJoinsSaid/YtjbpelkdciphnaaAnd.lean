/-
  Contract: bword.And.
-/
import Derived.Test.YtjbpelkdciphnaaClos
set_option linter.unusedVariables false
namespace Go.Proofs.Ytjbpelkdciphnaa
open Go.RowKit Go.BigFrame

open Classical in
noncomputable def andW (h l h' l' : List Bool) : (List Bool × List Bool) × Int := if Valid h l ∧ Valid h' l' then fitW (W.andF h l h' l') else (([], []), bothI h l h' l')
theorem andW_ok {h l h' l' : List Bool} (hv : Valid h l) (hv' : Valid h' l') : andW h l h' l' = fitW (W.andF h l h' l') := by unfold andW; rw [if_pos ⟨hv, hv'⟩]
theorem andW_bad {h l h' l' : List Bool} (hv : ¬ (Valid h l ∧ Valid h' l')) : andW h l h' l' = (([], []), bothI h l h' l') := by unfold andW; rw [if_neg hv]

structure AndSt (w : World) (A : Option Addr) (c : Nat) (B : Option Addr) (d : Nat) (A' : Option Addr) (c' : Nat) (B' : Option Addr) (d' : Nat) (h l h' l' : List Bool) (ga gb : Nat) (U : World) : Prop where
  ba : Blk U ga 24 #[.slice A h.length c, .slice B l.length d]
  bb : Blk U gb 24 #[.slice A' h'.length c', .slice B' l'.length d']
  aft : After w U
theorem AndSt.later {w : World} {A B c d h l A' B' c' d' h' l'} {ga gb : Nat} {U V : World} (s : AndSt w A c B d A' c' B' d' h l h' l' ga gb U) {n : Nat} (h1 : ga < n) (h2 : gb < n) (hw : w.heap.size ≤ n) (b : Below n U V) : AndSt w A c B d A' c' B' d' h l h' l' ga gb V :=
  ⟨(b.block _ h1).trans s.ba, (b.block _ h2).trans s.bb, ⟨s.aft.below.trans (b.mono hw)⟩⟩

set_option maxHeartbeats 800000 in
theorem and_clos {w : World} {A B c d h l A' B' c' d' h' l'} (x : RW w A c B d h l) (x' : RW w A' c' B' d' h' l') (hl : 0 < l.length) (hl' : 0 < l'.length) {ga gb : Nat}
    (i : Nat) (hi : i ≤ 100000) (U : World) (s : AndSt w A c B d A' c' B' d' h l h' l' ga gb U) :
    Calls Try.prog 53 #[.int .i64 (i : Nat), .pointer (some ⟨ga, 0, none⟩), .pointer (some ⟨gb, 0, none⟩)] U fun e w' => e = .returned (.bool (W.andF h l h' l' i)) ∧ AndSt w A c B d A' c' B' d' h l h' l' ga gb w' ∧ U.grownBy w' none := by
  have aft := s.aft
  have c0 : U.cell? ⟨ga, 0, none⟩ = some (.slice A h.length c) := by rw [s.ba.cell]; rfl
  have c1 : U.cell? ⟨ga, 1, none⟩ = some (.slice B l.length d) := by rw [s.ba.cell]; rfl
  have e0 : U.cell? ⟨gb, 0, none⟩ = some (.slice A' h'.length c') := by rw [s.bb.cell]; rfl
  have e1 : U.cell? ⟨gb, 1, none⟩ = some (.slice B' l'.length d') := by rw [s.bb.cell]; rfl
  have la := s.ba.is_le
  have lb := s.bb.is_le
  have HL : Gives w 43 #[.agg #[.slice A h.length c, .slice B l.length d], .int .i64 (i : Nat)] (.bool (W.letter h l i)) := fun V _ => by
    have := letter_any x V (i : Nat) (by omega) (by omega) hl; rwa [letterB_nat] at this
  have HL' : Gives w 43 #[.agg #[.slice A' h'.length c', .slice B' l'.length d'], .int .i64 (i : Nat)] (.bool (W.letter h' l' i)) := fun V _ => by
    have := letter_any x' V (i : Nat) (by omega) (by omega) hl'; rwa [letterB_nat] at this
  have HO : Hid (W.andF h l h' l' i = (W.letter h l i && W.letter h' l' i)) := rfl
  have HS := Lib.hid s
  generalize W.letter h l i = b1 at HL HO
  generalize W.letter h' l' i = b2 at HL' HO
  clear s
  cases b1
  · go_enter Try.func53, Try.ntmps53
    go_wp2_with fail
    refine (HL _ inferInstance).mono ?_
    rintro e w' ⟨rfl, y1, rfl⟩
    go_wp2_with fail
    go_ret
    exact ⟨ret_bool HO.out.symm, ⟨HS.out.ba.more y1, HS.out.bb.more y1, inferInstance⟩, grow_after inferInstance⟩
  · go_enter Try.func53, Try.ntmps53
    go_wp2_with fail
    refine (HL _ inferInstance).mono ?_
    rintro e w' ⟨rfl, y1, rfl⟩
    go_wp2_with fail
    refine (HL' _ inferInstance).mono ?_
    rintro e w' ⟨rfl, y2, rfl⟩
    go_wp2_with fail
    go_ret
    exact ⟨ret_bool (by rw [HO.out, Bool.true_and]), ⟨(HS.out.ba.more y1).more y2, (HS.out.bb.more y1).more y2, inferInstance⟩, grow_after inferInstance⟩

theorem and_made {w : World} {A B c d h l A' B' c' d' h' l'} (x : RW w A c B d h l) (x' : RW w A' c' B' d' h' l') (hl : 0 < l.length) (hl' : 0 < l'.length) {ga gb : Nat}
    (head loop : Nat) (hlp : 0 < loop) (hb : head + loop ≤ 100000) (hper : W.Per (W.andF h l h' l') head loop) (U : World) (s : AndSt w A c B d A' c' B' d' h l h' l' ga gb U) {hI lI : Int} (e1 : hI = head) (e2 : lI = loop) :
    Calls Try.prog 41 #[.int .i64 hI, .int .i64 lI, .func (.func 53) #[] #[.pointer (some ⟨ga, 0, none⟩), .pointer (some ⟨gb, 0, none⟩)]] U fun e w' =>
      ∃ A c B d, e = .returned (.tuple #[.agg #[.slice A (fitW (W.andF h l h' l')).1.1.length c, .slice B (fitW (W.andF h l h' l')).1.2.length d], .int .i64 (fitW (W.andF h l h' l')).2]) ∧
      RW w' A c B d (fitW (W.andF h l h' l')).1.1 (fitW (W.andF h l h' l')).1.2 ∧ From U.heap.size A ∧ From U.heap.size B ∧ U.grownBy w' none := by
  subst e1 e2
  have la := s.ba.lt
  have lb := s.bb.lt
  refine made_any _ _ (enters_of Try.func53 (by kernel_rfl) rfl) (W.andF h l h' l') (fun _ => AndSt w A c B d A' c' B' d' h l h' l' ga gb) none U head loop hlp hb hper (fun k hk => by cases hk) s (fun i U' V s' b => ?_) (fun i V hi s' hg => ?_)
  · exact s'.later (n := U.heap.size) la lb s.aft.below.size b
  · exact and_clos x x' hl hl' i (by omega) V s'

set_option maxHeartbeats 1600000 in
theorem and_all {w0 : World} {A B c d h l A' B' c' d' h' l'} (x : RW w0 A c B d h l) (x' : RW w0 A' c' B' d' h' l') (w : World) [After w0 w] :
    Calls Try.prog 27 #[.agg #[.slice A h.length c, .slice B l.length d], .agg #[.slice A' h'.length c', .slice B' l'.length d']] w fun e w' =>
      ∃ A5 c5 B5 d5, e = .returned (.tuple #[.agg #[.slice A5 (andW h l h' l').1.1.length c5, .slice B5 (andW h l h' l').1.2.length d5], .int .i64 (andW h l h' l').2]) ∧ RW w' A5 c5 B5 d5 (andW h l h' l').1.1 (andW h l h' l').1.2 ∧ From w.heap.size A5 ∧ From w.heap.size B5 ∧ ∃ y, w' = w.more y := by
  replace x := x.here w
  replace x' := x'.here w
  have iN : New w (w.heap.size + 2) := ⟨by omega⟩
  have HZ : Hid (∀ U : World, After (((w.alloc (.cells #[.slice A h.length c, .slice B l.length d] 24)).alloc (.cells #[.slice A' h'.length c', .slice B' l'.length d'] 24)).alloc (.cells #[.slice none 0 0, .slice none 0 0] 24)) U → Blk U (w.heap.size + 2) 24 #[.slice none 0 0, .slice none 0 0]) := by
    intro U k
    have := (Blk.new ((w.alloc (.cells #[.slice A h.length c, .slice B l.length d] 24)).alloc (.cells #[.slice A' h'.length c', .slice B' l'.length d'] 24)) 24 #[.slice none 0 0, .slice none 0 0]).after (w' := U)
    rwa [size_alloc_, size_alloc_] at this
  have HS : Hid (∀ U : World, After (((w.alloc (.cells #[.slice A h.length c, .slice B l.length d] 24)).alloc (.cells #[.slice A' h'.length c', .slice B' l'.length d'] 24)).alloc (.cells #[.slice none 0 0, .slice none 0 0] 24)) U → AndSt w A c B d A' c' B' d' h l h' l' w.heap.size (w.heap.size + 1) U) := by
    intro U k
    have e1 : Blk (((w.alloc (.cells #[.slice A h.length c, .slice B l.length d] 24)).alloc (.cells #[.slice A' h'.length c', .slice B' l'.length d'] 24)).alloc (.cells #[.slice none 0 0, .slice none 0 0] 24)) w.heap.size 24 #[.slice A h.length c, .slice B l.length d] := ((Blk.new w _ _).alloc _).alloc _
    have e2 : Blk (((w.alloc (.cells #[.slice A h.length c, .slice B l.length d] 24)).alloc (.cells #[.slice A' h'.length c', .slice B' l'.length d'] 24)).alloc (.cells #[.slice none 0 0, .slice none 0 0] 24)) (w.heap.size + 1) 24 #[.slice A' h'.length c', .slice B' l'.length d'] := (Blk.new1 w _ _ _).alloc _
    exact ⟨e1.after (w' := U), e2.after (w' := U), after_after inferInstance k⟩
  rcases both_cases h l h' l' with ⟨hv, hv'⟩ | ⟨hbad, h5⟩
  · have HF := Lib.hid (andW_ok hv hv')
    have HB := Lib.hid (bothI_ok hv hv')
    have b1 := hv.2
    have b2 := hv'.2
    have hl := hv.1
    have hl' := hv'.1
    clear hv hv'
    obtain ⟨m2, hm2⟩ : ∃ m2, l.length * l'.length = m2 := ⟨_, rfl⟩
    have bm2 : m2 ≤ 64 * 64 := by rw [← hm2]; exact Nat.mul_le_mul (by omega) (by omega)
    have e2 : (l.length : Int) * (l'.length : Int) = (m2 : Int) := by rw [← hm2]; push_cast; rfl
    have pm2 : 0 < m2 := by rw [← hm2]; exact Nat.mul_pos hl hl'
    have HP : Hid (W.Per (W.andF h l h' l') (max h.length h'.length) m2) := W.andF_per (Nat.le_max_left _ _) (Nat.le_max_right _ _) ⟨l'.length, by rw [← hm2, Nat.mul_comm]⟩ ⟨l.length, hm2.symm⟩
    clear hm2
    have hm12 : max h.length h'.length + m2 ≤ 100000 := by omega
    rcases Nat.lt_or_ge h.length h'.length with hmx | hmx
    all_goals
      go_enter Try.func27, Try.ntmps27
      go_wp2_with fail
      refine (both_any x x' _).mono ?_
      rintro e w' ⟨rfl, y1, rfl⟩
      rw [HB.out]
      go_wp2_with fail
      obtain ⟨U0, hU0, aU0⟩ : ∃ U0, (((w.alloc (.cells #[.slice A h.length c, .slice B l.length d] 24)).alloc (.cells #[.slice A' h'.length c', .slice B' l'.length d'] 24)).alloc (.cells #[.slice none 0 0, .slice none 0 0] 24)).more y1 = U0 ∧ After (((w.alloc (.cells #[.slice A h.length c, .slice B l.length d] 24)).alloc (.cells #[.slice A' h'.length c', .slice B' l'.length d'] 24)).alloc (.cells #[.slice none 0 0, .slice none 0 0] 24)) U0 := ⟨_, rfl, inferInstance⟩
      rw [hU0]
      clear hU0
      have hsz : w.heap.size + 3 ≤ U0.heap.size := by have := aU0.below.size; simp at this; omega
      refine (and_made x x' hl hl' (max h.length h'.length) m2 pm2 hm12 HP.out _ (HS.out U0 aU0) (by omega) rfl).mono ?_
      rintro e w5 ⟨A5, c5, B5, d5, rfl, x5, n5, m5, g5⟩
      have a5 : After U0 w5 := after_grow g5
      have z6 := Lib.hid (HZ.out w5 (after_after aU0 a5))
      have X5 := Lib.hid x5
      have aw : After w w5 := after_after (after_after inferInstance aU0) a5
      clear x5 g5 HZ HS
      have d0 : w5.cell? ⟨w.heap.size + 2, 0, none⟩ = some (.slice none 0 0) := by rw [z6.out.cell]; rfl
      have d1 : w5.cell? ⟨w.heap.size + 2, 1, none⟩ = some (.slice none 0 0) := by rw [z6.out.cell]; rfl
      have f0 := z6.out.frozen 0
      have f1 := z6.out.frozen 1
      have l6 := z6.out.is_le
      go_wp2_with fail
      have r2 := (z6.out.set_ 0 (.slice A5 (fitW (W.andF h l h' l')).1.1.length c5)).set_ 1 (.slice B5 (fitW (W.andF h l h' l')).1.2.length d5)
      have k0 : ((w5.setCell ⟨w.heap.size + 2, 0, none⟩ (.slice A5 (fitW (W.andF h l h' l')).1.1.length c5)).setCell ⟨w.heap.size + 2, 1, none⟩ (.slice B5 (fitW (W.andF h l h' l')).1.2.length d5)).cell? ⟨w.heap.size + 2, 0, none⟩ = some (.slice A5 (fitW (W.andF h l h' l')).1.1.length c5) := by rw [r2.cell]; rfl
      have k1 : ((w5.setCell ⟨w.heap.size + 2, 0, none⟩ (.slice A5 (fitW (W.andF h l h' l')).1.1.length c5)).setCell ⟨w.heap.size + 2, 1, none⟩ (.slice B5 (fitW (W.andF h l h' l')).1.2.length d5)).cell? ⟨w.heap.size + 2, 1, none⟩ = some (.slice B5 (fitW (W.andF h l h' l')).1.2.length d5) := by rw [r2.cell]; rfl
      refine bodyPost_ret (v := .tuple #[.agg #[.slice A5 (fitW (W.andF h l h' l')).1.1.length c5, .slice B5 (fitW (W.andF h l h' l')).1.2.length d5], .int .i64 (fitW (W.andF h l h' l')).2]) (by simp [results, Try.results27, go_sem, k0, k1]) rfl ⟨A5, c5, B5, d5, by rw [HF.out], ?_, From.mono n5 (by omega), From.mono m5 (by omega), After.is_more _ _⟩
      rw [HF.out]
      exact ⟨(X5.out.head.set_ n5 (by omega) 0 _).set_ n5 (by omega) 1 _, (X5.out.loop.set_ m5 (by omega) 0 _).set_ m5 (by omega) 1 _⟩
  · have HF := Lib.hid (andW_bad hbad)
    clear hbad
    rcases h5 with h5 | h5
    · have HB := Lib.hid h5
      clear h5
      go_enter Try.func27, Try.ntmps27
      go_wp2_with fail
      refine (both_any x x' _).mono ?_
      rintro e w' ⟨rfl, y1, rfl⟩
      rw [HB.out]
      obtain ⟨w5, hU0, aU0⟩ : ∃ U0, (((w.alloc (.cells #[.slice A h.length c, .slice B l.length d] 24)).alloc (.cells #[.slice A' h'.length c', .slice B' l'.length d'] 24)).alloc (.cells #[.slice none 0 0, .slice none 0 0] 24)).more y1 = U0 ∧ After (((w.alloc (.cells #[.slice A h.length c, .slice B l.length d] 24)).alloc (.cells #[.slice A' h'.length c', .slice B' l'.length d'] 24)).alloc (.cells #[.slice none 0 0, .slice none 0 0] 24)) U0 := ⟨_, rfl, inferInstance⟩
      rw [hU0]
      clear hU0
      have z6 := Lib.hid (HZ.out w5 aU0)
      have aw : After w w5 := after_after inferInstance aU0
      clear HZ
      have d0 : w5.cell? ⟨w.heap.size + 2, 0, none⟩ = some (.slice none 0 0) := by rw [z6.out.cell]; rfl
      have d1 : w5.cell? ⟨w.heap.size + 2, 1, none⟩ = some (.slice none 0 0) := by rw [z6.out.cell]; rfl
      have f0 := z6.out.frozen 0
      have f1 := z6.out.frozen 1
      have l6 := z6.out.is_le
      go_wp2_with fail
      have r2 := (z6.out.set_ 0 (.slice none 0 0)).set_ 1 (.slice none 0 0)
      have k0 : ((w5.setCell ⟨w.heap.size + 2, 0, none⟩ (.slice none 0 0)).setCell ⟨w.heap.size + 2, 1, none⟩ (.slice none 0 0)).cell? ⟨w.heap.size + 2, 0, none⟩ = some (.slice none 0 0) := by rw [r2.cell]; rfl
      have k1 : ((w5.setCell ⟨w.heap.size + 2, 0, none⟩ (.slice none 0 0)).setCell ⟨w.heap.size + 2, 1, none⟩ (.slice none 0 0)).cell? ⟨w.heap.size + 2, 1, none⟩ = some (.slice none 0 0) := by rw [r2.cell]; rfl
      refine bodyPost_ret (v := .tuple #[.agg #[.slice none 0 0, .slice none 0 0], .int .i64 5]) (by simp [results, Try.results27, go_sem, k0, k1]) rfl ⟨none, 0, none, 0, by rw [HF.out, HB.out]; rfl, ?_, (fun ad h => by cases h), (fun ad h => by cases h), After.is_more _ _⟩
      rw [HF.out]
      exact ⟨RB.nil _, RB.nil _⟩
    · have HB := Lib.hid h5
      clear h5
      go_enter Try.func27, Try.ntmps27
      go_wp2_with fail
      refine (both_any x x' _).mono ?_
      rintro e w' ⟨rfl, y1, rfl⟩
      rw [HB.out]
      obtain ⟨w5, hU0, aU0⟩ : ∃ U0, (((w.alloc (.cells #[.slice A h.length c, .slice B l.length d] 24)).alloc (.cells #[.slice A' h'.length c', .slice B' l'.length d'] 24)).alloc (.cells #[.slice none 0 0, .slice none 0 0] 24)).more y1 = U0 ∧ After (((w.alloc (.cells #[.slice A h.length c, .slice B l.length d] 24)).alloc (.cells #[.slice A' h'.length c', .slice B' l'.length d'] 24)).alloc (.cells #[.slice none 0 0, .slice none 0 0] 24)) U0 := ⟨_, rfl, inferInstance⟩
      rw [hU0]
      clear hU0
      have z6 := Lib.hid (HZ.out w5 aU0)
      have aw : After w w5 := after_after inferInstance aU0
      clear HZ
      have d0 : w5.cell? ⟨w.heap.size + 2, 0, none⟩ = some (.slice none 0 0) := by rw [z6.out.cell]; rfl
      have d1 : w5.cell? ⟨w.heap.size + 2, 1, none⟩ = some (.slice none 0 0) := by rw [z6.out.cell]; rfl
      have f0 := z6.out.frozen 0
      have f1 := z6.out.frozen 1
      have l6 := z6.out.is_le
      go_wp2_with fail
      have r2 := (z6.out.set_ 0 (.slice none 0 0)).set_ 1 (.slice none 0 0)
      have k0 : ((w5.setCell ⟨w.heap.size + 2, 0, none⟩ (.slice none 0 0)).setCell ⟨w.heap.size + 2, 1, none⟩ (.slice none 0 0)).cell? ⟨w.heap.size + 2, 0, none⟩ = some (.slice none 0 0) := by rw [r2.cell]; rfl
      have k1 : ((w5.setCell ⟨w.heap.size + 2, 0, none⟩ (.slice none 0 0)).setCell ⟨w.heap.size + 2, 1, none⟩ (.slice none 0 0)).cell? ⟨w.heap.size + 2, 1, none⟩ = some (.slice none 0 0) := by rw [r2.cell]; rfl
      refine bodyPost_ret (v := .tuple #[.agg #[.slice none 0 0, .slice none 0 0], .int .i64 3]) (by simp [results, Try.results27, go_sem, k0, k1]) rfl ⟨none, 0, none, 0, by rw [HF.out, HB.out]; rfl, ?_, (fun ad h => by cases h), (fun ad h => by cases h), After.is_more _ _⟩
      rw [HF.out]
      exact ⟨RB.nil _, RB.nil _⟩
theorem and_any {w0 : World} {A B c d h l A' B' c' d' h' l'} (x : RW w0 A c B d h l) (x' : RW w0 A' c' B' d' h' l') (w : World) [After w0 w] :
    Calls Try.prog 27 #[.agg #[.slice A h.length c, .slice B l.length d], .agg #[.slice A' h'.length c', .slice B' l'.length d']] w fun e w' =>
      ∃ A5 c5 B5 d5, e = .returned (.tuple #[.agg #[.slice A5 (andW h l h' l').1.1.length c5, .slice B5 (andW h l h' l').1.2.length d5], .int .i64 (andW h l h' l').2]) ∧ RW w' A5 c5 B5 d5 (andW h l h' l').1.1 (andW h l h' l').1.2 ∧ ∃ y, w' = w.more y :=
  (and_all x x' w).mono fun _ _ ⟨a, b, c, d, e, f, _, _, g⟩ => ⟨a, b, c, d, e, f, g⟩
end Go.Proofs.Ytjbpelkdciphnaa
