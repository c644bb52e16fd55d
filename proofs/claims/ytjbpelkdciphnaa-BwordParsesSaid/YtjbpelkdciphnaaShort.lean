/-
  Contract: the reference's shortest.
-/
import Derived.Test.YtjbpelkdciphnaaRsh
import Derived.Test.YtjbpelkdciphnaaMade
set_option linter.unusedVariables false
set_option linter.unusedSimpArgs false
namespace Go.Proofs.Ytjbpelkdciphnaa
open Go.RowKit Go.BigFrame
attribute [local go_sem ↓] Go.wp_at_zero Go.wp_at_succ

theorem own_empty {w : World} {g B : Nat} {e : TypeId} (h : Blk w g e #[]) (hB : B ≤ g) : w.ownsRow B e 1 (.slice (some ⟨g, 0, none⟩) 0 0) 0 [] :=
  ⟨by simp, .inr ⟨g, 0, #[], rfl, hB, h, Nat.le_refl _, by decide, by simp, by simp⟩⟩
theorem after_of_grown {w U w1 : World} {row : Option Nat} (a : After w U) (h : U.grownBy w1 row) (hr : ∀ k, row = some k → w.heap.size ≤ k) : After w w1 :=
  ⟨a.below.trans ⟨h.os, h.tape, h.output, h.size, fun k hk => h.block k (Nat.lt_of_lt_of_le hk a.below.size) (fun e => by have := hr k e.symm; omega)⟩⟩
theorem short_found {F : Nat → Bool} {head loop p h : Nat} (hlp : 0 < loop) (hper : W.Per F head loop) (hp : 0 < p) (hmin : ∀ d, 0 < d → d < p → ¬ (loop % d = 0 ∧ repB F head loop d = true)) (kp : W.Per F h p) (hs : h = 0 ∨ F (h - 1 + p) ≠ F (h - 1)) :
    W.nf F = (W.tab F 0 h, W.tab F h p) := by
  refine W.nf_spec (W.Nf.found hlp hper hp kp (fun d hd hd2 hd3 => ?_) hs)
  rcases Nat.lt_or_ge d p with h1 | h1
  · exact absurd ⟨hd2, (repB_iff hlp hper).2 hd3⟩ (hmin d hd h1)
  · exact h1

set_option maxHeartbeats 1600000 in
theorem shortest_any {w0 : World} {A c} {F : Nat → Bool} {head loop : Nat} (x : RB w0 A c (W.tab F 0 (head + 2 * loop))) (w : World) [After w0 w] (hlp : 0 < loop) (hb : head + 2 * loop ≤ 100000) (hper : W.Per F head loop) :
    Calls Try.prog 49 #[.slice A (head + 2 * loop) c, .int .i64 (head : Nat), .int .i64 (loop : Nat)] w fun e w' => ∃ A' c' B' d', e = .returned (.agg #[.slice A' (W.nf F).1.length c', .slice B' (W.nf F).2.length d']) ∧
      RW w' A' c' B' d' (W.nf F).1 (W.nf F).2 ∧ From w.heap.size A' ∧ From w.heap.size B' ∧ ∃ y, w' = w.more y := by
  replace x := x.here w
  have hcap : head + 2 * loop ≤ c := by have := x.le; rwa [W.tab_length] at this
  obtain ⟨i0, hi0, hz0, hz1, hz2⟩ := info_parts boolInfo
  have HF : Hid (∀ p h, 0 < p → (∀ d, 0 < d → d < p → ¬ (loop % d = 0 ∧ repB F head loop d = true)) → W.Per F h p → (h = 0 ∨ F (h - 1 + p) ≠ F (h - 1)) → W.nf F = (W.tab F 0 h, W.tab F h p)) := fun p h => short_found hlp hper
  have HP : Hid (W.Per F head loop) := hper
  clear hper
  obtain ⟨ad, rfl, hbk, _⟩ := x.tab_bit (k := 0) (by omega)
  have HR : Hid (∀ (p : Nat) U, After w U → p ≤ loop → Calls Try.prog 66 #[.slice (some ad) (head + 2 * loop) c, .int .i64 (head : Nat), .int .i64 ((head : Int) + (loop : Nat)), .int .i64 (p : Nat)] U fun e w' => e = .returned (.bool (repB F head loop p)) ∧ ∃ y, w' = U.more y) := fun p U _ hp => repeats_any x U head loop p (by omega) (by omega)
  go_enter Try.func49, Try.ntmps49
  go_wp2_with fail
  go_loopw [7] (fun i wr => ∃ p : Nat, 0 < p ∧ p ≤ loop ∧ i = .int .i64 p ∧ Hid (∀ d, 0 < d → d < p → ¬ (loop % d = 0 ∧ repB F head loop d = true)) ∧ After (w.alloc (.cells #[.slice none 0 0, .slice none 0 0] 24)) wr) (fun i _ => loop - (intOf i).toNat)
  case atStart => exact ⟨1, by omega, by omega, rfl, fun d h1 h2 => by omega, inferInstance⟩
  case round =>
    obtain ⟨p, hp, hpl, rfl, HM, haft⟩ := hrel
    have haw : After w wr := after_after inferInstance haft
    by_cases hm : loop % p = 0
    · cases hrb : repB F head loop p with
      | false =>
        have hlt : p < loop := by
          rcases Nat.lt_or_ge p loop with h | h
          · exact h
          · have : p = loop := by omega
            rw [this, (repB_iff hlp HP.out).2 HP.out] at hrb; cases hrb
        have G := Lib.hid (HR.out p wr haw hpl)
        rw [hrb] at G
        have HN : Hid (¬ (loop % p = 0 ∧ repB F head loop p = true)) := by
          intro h; rw [hrb] at h; cases h.2
        have e2 : ((loop : Int) % (p : Int) != 0) = false := by rw [bne_eq_false_iff_eq]; omega
        replace hm := Lib.hid hm
        clear hrb
        go_wp2_with fail
        refine G.out.mono ?_
        rintro e w' ⟨rfl, y1, rfl⟩
        go_wp2_with fail
        go_roundw
        case rel => exact ⟨p + 1, by omega, by omega, by go_num, fun d h1 h2 => by
          rcases Nat.lt_or_ge d p with h | h
          · exact HM.out d h1 h
          · rw [show d = p by omega]; exact HN.out, after_after haft inferInstance⟩
        case measure => simp [intOf]; omega
      | true =>
        have G := Lib.hid (HR.out p wr haw hpl)
        have HPP : Hid (W.Per F head p) := (repB_iff hlp HP.out).1 hrb
        rw [hrb] at G
        have e2 : ((loop : Int) % (p : Int) != 0) = false := by rw [bne_eq_false_iff_eq]; omega
        replace hm := Lib.hid hm
        clear hrb
        go_wp2_with fail
        refine G.out.mono ?_
        rintro e w' ⟨rfl, y1, rfl⟩
        obtain ⟨wo, hwo, ao⟩ : ∃ wo, wr.more y1 = wo ∧ After (w.alloc (.cells #[.slice none 0 0, .slice none 0 0] 24)) wo := ⟨_, rfl, after_after haft inferInstance⟩
        rw [hwo]
        clear hwo G HR haft haw
        go_wp2_with fail
        go_loopw [8] (fun i wq => ∃ k : Nat, k ≤ head ∧ i = .int .i64 k ∧ Hid (W.Per F k p) ∧ After (w.alloc (.cells #[.slice none 0 0, .slice none 0 0] 24)) wq) (fun i _ => (intOf i).toNat)
        case atStart => exact ⟨head, by omega, rfl, HPP, ao⟩
        case round =>
          clear HPP
          obtain ⟨k, hk, rfl, HK, haft⟩ := hrel
          have haw : After w wr := after_after inferInstance haft
          by_cases hk0 : k = 0
          · have t0 : decide (0 < k) = false := by rw [decide_eq_false_iff_not]; omega
            have HN := Lib.hid (HF.out p k hp HM.out HK.out (.inl hk0))
            replace hk0 := Lib.hid hk0
            go_wp2_with fail
            refine wp_region_more (by kernel_rfl) (by kernel_rfl) ?_
            repeat (go_big_quiet_step (fail))
            refine wpQuiet_nil ?_
            rintro _ ⟨y5, rfl⟩
            obtain ⟨wz, hwz, az⟩ : ∃ wz, wr.more y5 = wz ∧ After (w.alloc (.cells #[.slice none 0 0, .slice none 0 0] 24)) wz := ⟨_, rfl, after_after haft inferInstance⟩
            rw [hwz]
            clear hwz
            have j1 : (0 : Int) ≤ (k : Int) := by omega
            have j2 : (k : Int) ≤ (c : Int) := by omega
            have j3 : (k : Int) ≤ (k : Int) + (p : Int) := by omega
            have j4 : (k : Int) + (p : Int) ≤ (c : Int) := by omega
            have j5 : k ≠ c := by omega
            have j7 : IntKind.i64.wrap ((k : Int) + (p : Int)) = (k : Int) + (p : Int) := IntWalk.i64_in _ (by omega)
            have j6 : ((k : Int) + (p : Int)).toNat = k + p := by omega
            have sz : w.heap.size + 1 ≤ wz.heap.size := by have := az.below.size; rwa [size_alloc_] at this
            have HA : Hid (∀ U, After (w.alloc (.cells #[.slice none 0 0, .slice none 0 0] 24)) U → Reads U w.heap.size 1 (some ad) k (bv (W.tab F 0 k))) := fun U a => by
              have := ((x.cut k (by rw [W.tab_length]; omega)).reads.below (after_after (w0 := w) inferInstance a).below)
              rwa [W.tab_take _ _ _ _ (by omega), W.tab_length] at this
            have HB : Hid (∀ U, After (w.alloc (.cells #[.slice none 0 0, .slice none 0 0] 24)) U → Reads U w.heap.size 1 (if c = k then some ad else some (ad.add k)) p (bv (W.tab F k p))) := fun U a => by
              rw [if_neg (fun e => j5 e.symm)]
              have := (((x.drop k (by rw [W.tab_length]; omega)).cut p (by rw [W.tab_drop, W.tab_length]; omega)).reads.below (after_after (w0 := w) inferInstance a).below)
              rw [W.tab_drop, W.tab_take _ _ _ _ (by omega), W.tab_length, Nat.zero_add] at this
              exact this
            have HZ : Hid (∀ U, After (w.alloc (.cells #[.slice none 0 0, .slice none 0 0] 24)) U → Blk U w.heap.size 24 #[.slice none 0 0, .slice none 0 0]) := fun U a => (Blk.new w _ _).after
            have tok : True := trivial
            go_wp2_with fail
            go_region_law (first
              | (have _t := tok; refine step_append_any _ rfl (.tmp 45) (.tmp 48) 22 rfl (w.heap.size + 1) 4 i0 _ 1 1 Try.underlying22 hi0 hz0 hz1 hz2 rfl (by omega) _ 0 [] (by rfl) (own_empty (by (repeat (first | assumption | with_reducible exact Blk.new _ _ _ | with_reducible exact Blk.new1 _ _ _ _ | with_reducible refine Blk.drew ?_ | with_reducible refine Blk.alloc ?_ _))) (by (try simp only [size_alloc_, drew_heap]); omega)) w.heap.size (some ad) k c (bv (W.tab F 0 k)) (by rfl) (HA.out _ (after_after az inferInstance)) (bv_oneCell _) (by unfold maxLen; omega) (by omega) (by (try simp only [size_alloc_, drew_heap]); omega) ?_; intro v1 w1 hown1 hg1 hat1; rw [Nat.zero_add, List.nil_append] at hown1; obtain ⟨A1, c1, rfl, x1, n1⟩ := RB.of_tab hown1 (by omega); have a1 : After (w.alloc (.cells #[.slice none 0 0, .slice none 0 0] 24)) w1 := (after_of_grown (after_after az inferInstance) hg1 (fun q hq => by simp only [Value.ownBlock, Option.map_some, Option.some.injEq] at hq; subst hq; (try simp only [size_alloc_, drew_heap]); omega)); clear _t tok)
              | (refine step_append_any _ rfl (.tmp 50) (.tmp 56) 22 rfl (w.heap.size + 1) 4 i0 _ 1 1 Try.underlying22 hi0 hz0 hz1 hz2 rfl (by omega) _ 0 [] (by rfl) (own_empty (by first | (((repeat (first | assumption | with_reducible exact Blk.new _ _ _ | with_reducible exact Blk.new1 _ _ _ _ | with_reducible refine Blk.drew ?_ | with_reducible refine Blk.alloc ?_ _))); done) | exact Blk.grown (by (repeat (first | assumption | with_reducible exact Blk.new _ _ _ | with_reducible exact Blk.new1 _ _ _ _ | with_reducible refine Blk.drew ?_ | with_reducible refine Blk.alloc ?_ _))) hg1 (by simp [Value.ownBlock])) (by have := hg1.size; (try simp only [size_alloc_, drew_heap] at *); omega)) w.heap.size (if c = k then some ad else some (ad.add k)) p (c - k) (bv (W.tab F k p)) (by rfl) (HB.out _ (after_after a1 inferInstance)) (bv_oneCell _) (by unfold maxLen; omega) (by omega) (by have := hg1.size; (try simp only [size_alloc_, drew_heap] at *); omega) ?_; intro v2 w2 hown2 hg2 hat2; rw [Nat.zero_add, List.nil_append] at hown2; obtain ⟨A2, c2, rfl, x2, n2⟩ := RB.of_tab hown2 (by omega); have a2 : After (w.alloc (.cells #[.slice none 0 0, .slice none 0 0] 24)) w2 := (after_of_grown (after_after a1 inferInstance) hg2 (fun q hq => by have := hg1.size; simp only [Value.ownBlock, Option.map_some, Option.some.injEq] at hq; subst hq; (try simp only [size_alloc_, drew_heap] at *); omega)); have z2 := Lib.hid (HZ.out w2 a2); have d0 : w2.cell? ⟨w.heap.size, 0, none⟩ = some (.slice none 0 0) := (by rw [z2.out.cell]; rfl); have d1 : w2.cell? ⟨w.heap.size, 1, none⟩ = some (.slice none 0 0) := (by rw [z2.out.cell]; rfl); have f0 := z2.out.frozen 0; have f1 := z2.out.frozen 1; have l2 := z2.out.is_le))
            all_goals
              have x3 := Lib.hid ((x1.here _).grown hg2 (fun ad e => by subst e; intro e2; have e3 := Option.some.inj e2; have e4 := (hown1.lt ad.block rfl).2; simp only [Value.ownBlock, Option.map_some, Option.some.injEq] at hat1; have := hg1.size; (try simp only [size_alloc_, drew_heap] at *); omega))
              have X2 := Lib.hid x2
              have aw3 : After w w2 := after_after inferInstance a2
              clear x1 x2 hg1 hg2 hat1 hat2 hown1 hown2
              go_wp2_with fail
              have r2 := (z2.out.set_ 0 (.slice A1 k c1)).set_ 1 (.slice A2 p c2)
              have k0 : ((w2.setCell ⟨w.heap.size, 0, none⟩ (.slice A1 k c1)).setCell ⟨w.heap.size, 1, none⟩ (.slice A2 p c2)).cell? ⟨w.heap.size, 0, none⟩ = some (.slice A1 k c1) := by rw [r2.cell]; rfl
              have k1 : ((w2.setCell ⟨w.heap.size, 0, none⟩ (.slice A1 k c1)).setCell ⟨w.heap.size, 1, none⟩ (.slice A2 p c2)).cell? ⟨w.heap.size, 1, none⟩ = some (.slice A2 p c2) := by rw [r2.cell]; rfl
              refine bodyPost_ret (v := .agg #[.slice A1 k c1, .slice A2 p c2]) (by simp [results, Try.results49, go_sem, k0, k1]) rfl ⟨A1, c1, A2, c2, by rw [HN.out, W.tab_length, W.tab_length], ?_, n1.mono (by omega), n2.mono (by omega), After.is_more _ _⟩
              rw [HN.out]
              exact ⟨(x3.out.set_ n1 (by omega) 0 _).set_ n1 (by omega) 1 _, (X2.out.set_ n2 (by omega) 0 _).set_ n2 (by omega) 1 _⟩
          · obtain ⟨j, rfl⟩ : ∃ j, k = j + 1 := ⟨k - 1, by omega⟩
            obtain ⟨ad', e', hbk', hc'⟩ := (x.here wr).tab_bit (k := j) (by omega)
            cases e'
            obtain ⟨ad', e', hbk2, hc2⟩ := (x.here wr).tab_bit (k := j + p) (by omega)
            cases e'
            have t0 : decide (0 < j + 1) = true := by simp
            have i1 : (0 : Int) ≤ (j : Int) := by omega
            have i2 : (j : Int) < (head : Int) + 2 * (loop : Int) := by omega
            have i3 : (0 : Int) ≤ (j : Int) + (p : Int) := by omega
            have i4 : (j : Int) + (p : Int) < (head : Int) + 2 * (loop : Int) := by omega
            have i5 : IntKind.i64.wrap ((j : Int) + (p : Int)) = (j : Int) + (p : Int) := IntWalk.i64_in _ (by omega)
            have i6 : ((j : Int) + (p : Int)).toNat = j + p := by omega
            have HE1 : Hid (F j = F (j + p) → W.Per F j p) := fun e i hi => by
              rcases Nat.eq_or_lt_of_le hi with h4 | h4
              · rw [← h4]; exact e.symm
              · exact HK.out i h4
            have HN : Hid (F j ≠ F (j + p) → W.nf F = (W.tab F 0 (j + 1), W.tab F (j + 1) p)) := fun e => HF.out p (j + 1) hp HM.out HK.out (.inr (by rw [Nat.add_sub_cancel]; exact fun e2 => e e2.symm))
            generalize F j = b1 at hc' HE1 HN
            generalize F (j + p) = b2 at hc2 HE1 HN
            by_cases hbb : b1 = b2
            · subst hbb
              have t2 : (b1 == b1) = true := by simp
              go_wp2_with fail
              refine wp_region_more (by kernel_rfl) (by kernel_rfl) ?_
              repeat (go_big_quiet_step (fail))
              refine wpQuiet_nil ?_
              rintro _ ⟨y5, rfl⟩
              clear i5 i6
              go_wp2_with fail
              go_roundw
              case rel => exact ⟨j, by omega, by first | rfl | go_num, HE1.out (by first | trivial | rfl), after_after haft inferInstance⟩
              case measure => first | (simp [intOf]; done) | (simp [intOf]; omega)
            · have t2 : (b1 == b2) = false := by simpa using hbb
              replace HN := Lib.hid (HN.out hbb)
              replace hbb := Lib.hid hbb
              go_wp2_with fail
              refine wp_region_more (by kernel_rfl) (by kernel_rfl) ?_
              repeat (go_big_quiet_step (fail))
              refine wpQuiet_nil ?_
              rintro _ ⟨y5, rfl⟩
              clear i5 i6
              obtain ⟨k, hkj⟩ : ∃ k, j + 1 = k := ⟨_, rfl⟩
              have hck : (j : Int) + 1 = (k : Int) := by omega
              rw [hkj] at HN ⊢
              have hk' : k ≤ head := by omega
              clear hck
              obtain ⟨wz, hwz, az⟩ : ∃ wz, wr.more y5 = wz ∧ After (w.alloc (.cells #[.slice none 0 0, .slice none 0 0] 24)) wz := ⟨_, rfl, after_after haft inferInstance⟩
              rw [hwz]
              clear hwz
              have j1 : (0 : Int) ≤ (k : Int) := by omega
              have j2 : (k : Int) ≤ (c : Int) := by omega
              have j3 : (k : Int) ≤ (k : Int) + (p : Int) := by omega
              have j4 : (k : Int) + (p : Int) ≤ (c : Int) := by omega
              have j5 : k ≠ c := by omega
              have j7 : IntKind.i64.wrap ((k : Int) + (p : Int)) = (k : Int) + (p : Int) := IntWalk.i64_in _ (by omega)
              have j6 : ((k : Int) + (p : Int)).toNat = k + p := by omega
              have sz : w.heap.size + 1 ≤ wz.heap.size := by have := az.below.size; rwa [size_alloc_] at this
              have HA : Hid (∀ U, After (w.alloc (.cells #[.slice none 0 0, .slice none 0 0] 24)) U → Reads U w.heap.size 1 (some ad) k (bv (W.tab F 0 k))) := fun U a => by
                have := ((x.cut k (by rw [W.tab_length]; omega)).reads.below (after_after (w0 := w) inferInstance a).below)
                rwa [W.tab_take _ _ _ _ (by omega), W.tab_length] at this
              have HB : Hid (∀ U, After (w.alloc (.cells #[.slice none 0 0, .slice none 0 0] 24)) U → Reads U w.heap.size 1 (if c = k then some ad else some (ad.add k)) p (bv (W.tab F k p))) := fun U a => by
                rw [if_neg (fun e => j5 e.symm)]
                have := (((x.drop k (by rw [W.tab_length]; omega)).cut p (by rw [W.tab_drop, W.tab_length]; omega)).reads.below (after_after (w0 := w) inferInstance a).below)
                rw [W.tab_drop, W.tab_take _ _ _ _ (by omega), W.tab_length, Nat.zero_add] at this
                exact this
              have HZ : Hid (∀ U, After (w.alloc (.cells #[.slice none 0 0, .slice none 0 0] 24)) U → Blk U w.heap.size 24 #[.slice none 0 0, .slice none 0 0]) := fun U a => (Blk.new w _ _).after
              have tok : True := trivial
              go_wp2_with fail
              go_region_law (first
                | (have _t := tok; refine step_append_any _ rfl (.tmp 45) (.tmp 48) 22 rfl (w.heap.size + 1) 4 i0 _ 1 1 Try.underlying22 hi0 hz0 hz1 hz2 rfl (by omega) _ 0 [] (by rfl) (own_empty (by (repeat (first | assumption | with_reducible exact Blk.new _ _ _ | with_reducible exact Blk.new1 _ _ _ _ | with_reducible refine Blk.drew ?_ | with_reducible refine Blk.alloc ?_ _))) (by (try simp only [size_alloc_, drew_heap]); omega)) w.heap.size (some ad) k c (bv (W.tab F 0 k)) (by rfl) (HA.out _ (after_after az inferInstance)) (bv_oneCell _) (by unfold maxLen; omega) (by omega) (by (try simp only [size_alloc_, drew_heap]); omega) ?_; intro v1 w1 hown1 hg1 hat1; rw [Nat.zero_add, List.nil_append] at hown1; obtain ⟨A1, c1, rfl, x1, n1⟩ := RB.of_tab hown1 (by omega); have a1 : After (w.alloc (.cells #[.slice none 0 0, .slice none 0 0] 24)) w1 := (after_of_grown (after_after az inferInstance) hg1 (fun q hq => by simp only [Value.ownBlock, Option.map_some, Option.some.injEq] at hq; subst hq; (try simp only [size_alloc_, drew_heap]); omega)); clear _t tok)
                | (refine step_append_any _ rfl (.tmp 50) (.tmp 56) 22 rfl (w.heap.size + 1) 4 i0 _ 1 1 Try.underlying22 hi0 hz0 hz1 hz2 rfl (by omega) _ 0 [] (by rfl) (own_empty (by first | (((repeat (first | assumption | with_reducible exact Blk.new _ _ _ | with_reducible exact Blk.new1 _ _ _ _ | with_reducible refine Blk.drew ?_ | with_reducible refine Blk.alloc ?_ _))); done) | exact Blk.grown (by (repeat (first | assumption | with_reducible exact Blk.new _ _ _ | with_reducible exact Blk.new1 _ _ _ _ | with_reducible refine Blk.drew ?_ | with_reducible refine Blk.alloc ?_ _))) hg1 (by simp [Value.ownBlock])) (by have := hg1.size; (try simp only [size_alloc_, drew_heap] at *); omega)) w.heap.size (if c = k then some ad else some (ad.add k)) p (c - k) (bv (W.tab F k p)) (by rfl) (HB.out _ (after_after a1 inferInstance)) (bv_oneCell _) (by unfold maxLen; omega) (by omega) (by have := hg1.size; (try simp only [size_alloc_, drew_heap] at *); omega) ?_; intro v2 w2 hown2 hg2 hat2; rw [Nat.zero_add, List.nil_append] at hown2; obtain ⟨A2, c2, rfl, x2, n2⟩ := RB.of_tab hown2 (by omega); have a2 : After (w.alloc (.cells #[.slice none 0 0, .slice none 0 0] 24)) w2 := (after_of_grown (after_after a1 inferInstance) hg2 (fun q hq => by have := hg1.size; simp only [Value.ownBlock, Option.map_some, Option.some.injEq] at hq; subst hq; (try simp only [size_alloc_, drew_heap] at *); omega)); have z2 := Lib.hid (HZ.out w2 a2); have d0 : w2.cell? ⟨w.heap.size, 0, none⟩ = some (.slice none 0 0) := (by rw [z2.out.cell]; rfl); have d1 : w2.cell? ⟨w.heap.size, 1, none⟩ = some (.slice none 0 0) := (by rw [z2.out.cell]; rfl); have f0 := z2.out.frozen 0; have f1 := z2.out.frozen 1; have l2 := z2.out.is_le))
              all_goals
                have x3 := Lib.hid ((x1.here _).grown hg2 (fun ad e => by subst e; intro e2; have e3 := Option.some.inj e2; have e4 := (hown1.lt ad.block rfl).2; simp only [Value.ownBlock, Option.map_some, Option.some.injEq] at hat1; have := hg1.size; (try simp only [size_alloc_, drew_heap] at *); omega))
                have X2 := Lib.hid x2
                have aw3 : After w w2 := after_after inferInstance a2
                clear x1 x2 hg1 hg2 hat1 hat2 hown1 hown2
                go_wp2_with fail
                have r2 := (z2.out.set_ 0 (.slice A1 k c1)).set_ 1 (.slice A2 p c2)
                have k0 : ((w2.setCell ⟨w.heap.size, 0, none⟩ (.slice A1 k c1)).setCell ⟨w.heap.size, 1, none⟩ (.slice A2 p c2)).cell? ⟨w.heap.size, 0, none⟩ = some (.slice A1 k c1) := by rw [r2.cell]; rfl
                have k1 : ((w2.setCell ⟨w.heap.size, 0, none⟩ (.slice A1 k c1)).setCell ⟨w.heap.size, 1, none⟩ (.slice A2 p c2)).cell? ⟨w.heap.size, 1, none⟩ = some (.slice A2 p c2) := by rw [r2.cell]; rfl
                refine bodyPost_ret (v := .agg #[.slice A1 k c1, .slice A2 p c2]) (by simp [results, Try.results49, go_sem, k0, k1]) rfl ⟨A1, c1, A2, c2, by rw [HN.out, W.tab_length, W.tab_length], ?_, n1.mono (by omega), n2.mono (by omega), After.is_more _ _⟩
                rw [HN.out]
                exact ⟨(x3.out.set_ n1 (by omega) 0 _).set_ n1 (by omega) 1 _, (X2.out.set_ n2 (by omega) 0 _).set_ n2 (by omega) 1 _⟩
    · have e2 : ((loop : Int) % (p : Int) != 0) = true := by rw [bne_iff_ne]; omega
      have hlt : p < loop := by
        rcases Nat.lt_or_ge p loop with h | h
        · exact h
        · exfalso; apply hm; rw [show p = loop by omega]; exact Nat.mod_self _
      have HN : Hid (¬ (loop % p = 0 ∧ repB F head loop p = true)) := fun h => hm h.1
      replace hm := Lib.hid hm
      go_wp2_with fail
      go_roundw
      case rel => exact ⟨p + 1, by omega, by omega, by go_num, fun d h1 h2 => by
        rcases Nat.lt_or_ge d p with h | h
        · exact HM.out d h1 h
        · rw [show d = p by omega]; exact HN.out, after_after haft inferInstance⟩
      case measure => simp [intOf]; omega
end Go.Proofs.Ytjbpelkdciphnaa
