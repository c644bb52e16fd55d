/-
  Contract: the reference's And.
-/
import Derived.Test.YtjbpelkdciphnaaRNorm
import Derived.Test.YtjbpelkdciphnaaAnd
import Derived.Test.YtjbpelkdciphnaaGcd
set_option linter.unusedVariables false
set_option linter.unusedSimpArgs false
namespace Go.Proofs.Ytjbpelkdciphnaa
open Go.RowKit Go.BigFrame
attribute [local go_sem ↓] Go.wp_at_zero Go.wp_at_succ

set_option maxRecDepth 100000 in
set_option maxHeartbeats 3200000 in
theorem rand_any {w0 : World} {A B c d h l A' B' c' d' h' l'} (x : RW w0 A c B d h l) (x' : RW w0 A' c' B' d' h' l') (w : World) [After w0 w] :
    Calls Try.prog 28 #[.agg #[.slice A h.length c, .slice B l.length d], .agg #[.slice A' h'.length c', .slice B' l'.length d']] w fun e w' =>
      ∃ A5 c5 B5 d5, e = .returned (.tuple #[.agg #[.slice A5 (andW h l h' l').1.1.length c5, .slice B5 (andW h l h' l').1.2.length d5], .int .i64 (andW h l h' l').2]) ∧ RW w' A5 c5 B5 d5 (andW h l h' l').1.1 (andW h l h' l').1.2 ∧ ∃ y, w' = w.more y := by
  replace x := x.here w
  replace x' := x'.here w
  have iN : New w (w.heap.size + 2) := ⟨by omega⟩
  have HZ : Hid (∀ U : World, After (((w.alloc (.cells #[.slice A h.length c, .slice B l.length d] 24)).alloc (.cells #[.slice A' h'.length c', .slice B' l'.length d'] 24)).alloc (.cells #[.slice none 0 0, .slice none 0 0] 24)) U → Blk U (w.heap.size + 2) 24 #[.slice none 0 0, .slice none 0 0]) := by
    intro U k
    have := (Blk.new ((w.alloc (.cells #[.slice A h.length c, .slice B l.length d] 24)).alloc (.cells #[.slice A' h'.length c', .slice B' l'.length d'] 24)) 24 #[.slice none 0 0, .slice none 0 0]).after (w' := U)
    rwa [size_alloc_, size_alloc_] at this
  have HK : Hid (∀ U : World, After (((w.alloc (.cells #[.slice A h.length c, .slice B l.length d] 24)).alloc (.cells #[.slice A' h'.length c', .slice B' l'.length d'] 24)).alloc (.cells #[.slice none 0 0, .slice none 0 0] 24)) U → U.cell? ⟨w.heap.size, 0, none⟩ = some (.slice A h.length c) ∧ U.cell? ⟨w.heap.size, 1, none⟩ = some (.slice B l.length d) ∧ U.cell? ⟨w.heap.size + 1, 0, none⟩ = some (.slice A' h'.length c') ∧ U.cell? ⟨w.heap.size + 1, 1, none⟩ = some (.slice B' l'.length d')) := by
    intro U k
    have e1 : Blk (((w.alloc (.cells #[.slice A h.length c, .slice B l.length d] 24)).alloc (.cells #[.slice A' h'.length c', .slice B' l'.length d'] 24)).alloc (.cells #[.slice none 0 0, .slice none 0 0] 24)) w.heap.size 24 #[.slice A h.length c, .slice B l.length d] := ((Blk.new w _ _).alloc _).alloc _
    have e2 : Blk (((w.alloc (.cells #[.slice A h.length c, .slice B l.length d] 24)).alloc (.cells #[.slice A' h'.length c', .slice B' l'.length d'] 24)).alloc (.cells #[.slice none 0 0, .slice none 0 0] 24)) (w.heap.size + 1) 24 #[.slice A' h'.length c', .slice B' l'.length d'] := (Blk.new1 w _ _ _).alloc _
    have f1 := e1.after (w' := U)
    have f2 := e2.after (w' := U)
    exact ⟨by rw [f1.cell]; rfl, by rw [f1.cell]; rfl, by rw [f2.cell]; rfl, by rw [f2.cell]; rfl⟩
  rcases both_cases h l h' l' with ⟨hv, hv'⟩ | ⟨hbad, h5⟩
  · have HF := Lib.hid (andW_ok hv hv')
    have HB := Lib.hid (bothI_ok hv hv')
    have b1 := hv.2
    have b2 := hv'.2
    have hl := hv.1
    have hl' := hv'.1
    clear hv hv'
    have HLa : Hid (∀ i : Nat, i ≤ 1000000 → Gives w 47 #[.agg #[.slice A h.length c, .slice B l.length d], .int .i64 (i : Nat)] (.bool (W.letter h l i))) := fun i hi => rletter_v x hl i hi
    have HLb : Hid (∀ i : Nat, i ≤ 1000000 → Gives w 47 #[.agg #[.slice A' h'.length c', .slice B' l'.length d'], .int .i64 (i : Nat)] (.bool (W.letter h' l' i))) := fun i hi => rletter_v x' hl' i hi
    obtain ⟨g, hg⟩ : ∃ g, Nat.gcd l.length l'.length = g := ⟨_, rfl⟩
    have g0 : 0 < g := by rw [← hg]; exact Nat.gcd_pos_of_pos_left _ hl
    have gle : g ≤ l.length := by rw [← hg]; exact Nat.gcd_le_left _ hl
    obtain ⟨q, hq⟩ : ∃ q, l.length / g = q := ⟨_, rfl⟩
    have hqg : q * g = l.length := by rw [← hq, ← hg]; exact Nat.div_mul_cancel (Nat.gcd_dvd_left _ _)
    obtain ⟨m2, hm2⟩ : ∃ m2, q * l'.length = m2 := ⟨_, rfl⟩
    have q0 : 0 < q := by
      rcases Nat.eq_zero_or_pos q with h0 | h0
      · rw [h0] at hqg; omega
      · exact h0
    have qle : q ≤ 64 := by rw [← hq]; exact Nat.le_trans (Nat.div_le_self _ _) (by omega)
    have bm2 : m2 ≤ 64 * 64 := by rw [← hm2]; exact Nat.mul_le_mul qle (by omega)
    have pm2 : 0 < m2 := by rw [← hm2]; exact Nat.mul_pos q0 hl'
    have e2 : (q : Int) * (l'.length : Int) = (m2 : Int) := by rw [← hm2]; push_cast; rfl
    have e1 : ((l.length : Int).tdiv (g : Int)) = (q : Int) := by rw [Int.tdiv_eq_ediv_of_nonneg (by omega), ← hq]; simp
    have e3 : ((l.length : Int) / (g : Int)) = (q : Int) := by rw [← hq]; simp
    have e4 : ¬ ((g : Int) = 0) := by omega
    have HP : Hid (W.Per (W.andF h l h' l') (max h.length h'.length) m2) := W.andF_per (Nat.le_max_left _ _) (Nat.le_max_right _ _) (by
      obtain ⟨t, ht⟩ := hg ▸ Nat.gcd_dvd_right l.length l'.length
      exact ⟨t, by rw [← hm2, ht, ← hqg, ← Nat.mul_assoc, Nat.mul_comm]⟩) ⟨q, hm2.symm⟩
    have GG : Gives w 46 #[.int .i64 (l.length : Nat), .int .i64 (l'.length : Nat)] (.int .i64 (g : Nat)) := fun U _ => by
      have := gcd_r02 (w := U) l.length l'.length (by omega) (by omega); rwa [hg] at this
    clear hg hq hqg hm2
    rcases Nat.lt_or_ge h.length h'.length with hmx | hmx
    · replace HP : Hid (W.Per (W.andF h l h' l') h'.length m2) := by have := HP.out; rwa [show max h.length h'.length = h'.length by omega] at this
      have bhd : h'.length ≤ 64 := by omega
      go_enter Try.func28, Try.ntmps28
      go_wp2_with fail
      refine (rboth_any x x' _).mono ?_
      rintro e w' ⟨rfl, y1, rfl⟩
      rw [HB.out]
      go_wp2_with fail
      refine wp_region_more (by kernel_rfl) (by kernel_rfl) ?_
      repeat (go_big_quiet_step ((go_at_call 46; with_reducible exact Calls.more_of (Gives.on GG _ inferInstance))))
      refine wpQuiet_nil ?_
      rintro _ ⟨y2, rfl⟩
      clear e1 e3 e4 GG
      obtain ⟨W1, hW1, a0⟩ : ∃ U0, ((((w.alloc (.cells #[.slice A h.length c, .slice B l.length d] 24)).alloc (.cells #[.slice A' h'.length c', .slice B' l'.length d'] 24)).alloc (.cells #[.slice none 0 0, .slice none 0 0] 24)).more y1).more y2 = U0 ∧ After (((w.alloc (.cells #[.slice A h.length c, .slice B l.length d] 24)).alloc (.cells #[.slice A' h'.length c', .slice B' l'.length d'] 24)).alloc (.cells #[.slice none 0 0, .slice none 0 0] 24)) U0 := ⟨_, rfl, inferInstance⟩
      rw [hW1]
      clear hW1
      go_wp2_with fail
      go_loopw [9, 10] (fun v i wr => ∃ k : Nat, k ≤ h'.length + 2 * m2 ∧ i = .int .i64 k ∧ Hid (wr.ownsRow W1.heap.size 4 1 v k (bv (W.tab (W.andF h l h' l') 0 k))) ∧ After W1 wr) (fun _ i _ => h'.length + 2 * m2 - (intOf i).toNat)
      case atStart => exact ⟨0, by omega, rfl, World.ownsRow_nil _ _ _ _, inferInstance⟩
      case round =>
        obtain ⟨k, hk, rfl, HO, haft⟩ := hrel
        by_cases hlt : k < h'.length + 2 * m2
        · obtain ⟨A0, c0, rfl, _, _⟩ := own_slice HO.out
          obtain ⟨k0, k1, k2, k3⟩ := HK.out wr (after_after a0 haft)
          have lw : Le (w.heap.size + 2) wr := ⟨by have := (after_after a0 haft).below.size; simp at this; omega⟩
          have aw : After w wr := after_after (after_after inferInstance a0) haft
          have hltI : (k : Int) < (h'.length : Int) + 2 * (m2 : Int) := by omega
          have G1 := HLa.out k (by omega)
          have G2 := HLb.out k (by omega)
          have HT := Lib.hid (bv_tab_succ (W.andF h l h' l') 0 k)
          have HV : Hid (W.andF h l h' l' (0 + k) = (W.letter h l k && W.letter h' l' k)) := by rw [Nat.zero_add]; rfl
          rw [HV.out] at HT
          clear HV
          generalize W.letter h l k = ba at G1 HT
          generalize W.letter h' l' k = bb at G2 HT
          cases ba
          · go_wp2_with fail
            refine (Gives.on G1 _ inferInstance).mono ?_
            rintro e w1 ⟨rfl, hy⟩
            have a1 : After wr w1 := after_of_more hy inferInstance
            clear hy
            have ho2 := Lib.hid (own_after a1 HO.out)
            have aW : After W1 w1 := after_after haft a1
            go_wp2_with (at_builtin; refine wpList_append_one (w0 := W1) w1 rfl (.tmp 48) (.tmp 57) 22 rfl 4 _ 1 Try.underlying22 boolInfo rfl (.slice A0 k c0) k _ (.bool false) rfl ho2.out rfl rfl (by omega) (by omega) ?_; intro v1 w4 hown1 haft1; replace hown1 := Lib.hid hown1)
            go_roundw
            case rel => exact ⟨k + 1, by omega, by go_num, by rw [HT.out]; exact hown1.out, haft1⟩
            case measure => simp [intOf]; omega
          · go_wp2_with fail
            refine (Gives.on G1 _ inferInstance).mono ?_
            rintro e w1 ⟨rfl, hy⟩
            have a1 : After wr w1 := after_of_more hy inferInstance
            clear hy
            obtain ⟨j0, j1, j2, j3⟩ := HK.out w1 (after_after (after_after a0 haft) a1)
            have lw1 : Le (w.heap.size + 2) w1 := ⟨Nat.le_trans lw.le a1.below.size⟩
            go_wp2_with fail
            refine (Gives.on G2 _ (after_after aw (after_after a1 inferInstance))).mono ?_
            rintro e w2 ⟨rfl, hy⟩
            replace a1 : After wr w2 := after_of_more hy (after_after a1 inferInstance)
            clear hy
            have ho2 := Lib.hid (own_after a1 HO.out)
            have aW : After W1 w2 := after_after haft a1
            go_wp2_with (at_builtin; refine wpList_append_one (w0 := W1) w2 rfl (.tmp 48) (.tmp 57) 22 rfl 4 _ 1 Try.underlying22 boolInfo rfl (.slice A0 k c0) k _ (.bool bb) rfl ho2.out rfl rfl (by omega) (by omega) ?_; intro v1 w4 hown1 haft1; replace hown1 := Lib.hid hown1)
            go_roundw
            case rel => exact ⟨k + 1, by omega, by go_num, by rw [HT.out]; exact hown1.out, haft1⟩
            case measure => simp [intOf]; omega
        · obtain rfl : k = h'.length + 2 * m2 := by omega
          obtain ⟨A0, c0, e1, x1, n1⟩ := RB.of_tab HO.out (by omega)
          subst e1
          have a1 := after_after a0 haft
          have awr : After w wr := after_after inferInstance a1
          have G1 : Hid (Calls Try.prog 49 #[.slice A0 (h'.length + 2 * m2) c0, .int .i64 ((h'.length : Nat) : Int), .int .i64 ((m2 : Nat) : Int)] wr fun e w' => ∃ A' c' B' d', e = .returned (.agg #[.slice A' (W.nf (W.andF h l h' l')).1.length c', .slice B' (W.nf (W.andF h l h' l')).2.length d']) ∧ RW w' A' c' B' d' (W.nf (W.andF h l h' l')).1 (W.nf (W.andF h l h' l')).2 ∧ From wr.heap.size A' ∧ From wr.heap.size B' ∧ ∃ y, w' = wr.more y) := shortest_any x1 wr pm2 (by omega) HP.out
          clear x1
          go_wp2_with fail
          refine G1.out.mono ?_
          rintro e w3 ⟨A5, c5, B5, d5, rfl, x5, n5, m5, hy⟩
          have a3 : After wr w3 := after_of_more hy inferInstance
          clear hy
          have X5 := Lib.hid x5
          clear x5
          go_wp2_with fail
          have G2 : Hid (∀ U, After w3 U → Calls Try.prog 48 #[.agg #[.slice A5 (W.nf (W.andF h l h' l')).1.length c5, .slice B5 (W.nf (W.andF h l h' l')).2.length d5]] U fun e w' => ∃ A' c' B' d', e = .returned (.tuple #[.agg #[.slice A' (fitW (W.andF h l h' l')).1.1.length c', .slice B' (fitW (W.andF h l h' l')).1.2.length d'], .int .i64 (fitW (W.andF h l h' l')).2]) ∧ RW w' A' c' B' d' (fitW (W.andF h l h' l')).1.1 (fitW (W.andF h l h' l')).1.2 ∧ (∀ n, From n A5 → From n A') ∧ (∀ n, From n B5 → From n B') ∧ ∃ y, w' = U.more y) := fun U _ => by
            have := fits_any X5.out U
            rwa [fitV_nf] at this
          refine (G2.out _ inferInstance).mono ?_
          rintro e w5 ⟨A6, c6, B6, d6, rfl, x6, fA, fB, hy⟩
          have a5 : After w3 w5 := after_of_more hy inferInstance
          clear hy
          have X6 := Lib.hid x6
          have n6 := fA _ n5
          have m6 := fB _ m5
          have hz : w.heap.size + 3 ≤ wr.heap.size := by have := a1.below.size; simp at this; omega
          have z6 := Lib.hid (HZ.out w5 (after_after (after_after a1 a3) a5))
          have aw : After w w5 := after_after (after_after (after_after inferInstance a1) a3) a5
          clear x6 n5 m5 fA fB HZ HK G1 G2
          have d0 : w5.cell? ⟨w.heap.size + 2, 0, none⟩ = some (.slice none 0 0) := by rw [z6.out.cell]; rfl
          have d1 : w5.cell? ⟨w.heap.size + 2, 1, none⟩ = some (.slice none 0 0) := by rw [z6.out.cell]; rfl
          have f0 := z6.out.frozen 0
          have f1 := z6.out.frozen 1
          have l6 := z6.out.is_le
          go_wp2_with fail
          have r2 := (z6.out.set_ 0 (.slice A6 (fitW (W.andF h l h' l')).1.1.length c6)).set_ 1 (.slice B6 (fitW (W.andF h l h' l')).1.2.length d6)
          have k0 : ((w5.setCell ⟨w.heap.size + 2, 0, none⟩ (.slice A6 (fitW (W.andF h l h' l')).1.1.length c6)).setCell ⟨w.heap.size + 2, 1, none⟩ (.slice B6 (fitW (W.andF h l h' l')).1.2.length d6)).cell? ⟨w.heap.size + 2, 0, none⟩ = some (.slice A6 (fitW (W.andF h l h' l')).1.1.length c6) := by rw [r2.cell]; rfl
          have k1 : ((w5.setCell ⟨w.heap.size + 2, 0, none⟩ (.slice A6 (fitW (W.andF h l h' l')).1.1.length c6)).setCell ⟨w.heap.size + 2, 1, none⟩ (.slice B6 (fitW (W.andF h l h' l')).1.2.length d6)).cell? ⟨w.heap.size + 2, 1, none⟩ = some (.slice B6 (fitW (W.andF h l h' l')).1.2.length d6) := by rw [r2.cell]; rfl
          refine bodyPost_ret (v := .tuple #[.agg #[.slice A6 (fitW (W.andF h l h' l')).1.1.length c6, .slice B6 (fitW (W.andF h l h' l')).1.2.length d6], .int .i64 (fitW (W.andF h l h' l')).2]) (by simp [results, Try.results28, go_sem, k0, k1]) rfl ⟨A6, c6, B6, d6, by rw [HF.out], ?_, After.is_more _ _⟩
          rw [HF.out]
          exact ⟨(X6.out.head.set_ n6 (by omega) 0 _).set_ n6 (by omega) 1 _, (X6.out.loop.set_ m6 (by omega) 0 _).set_ m6 (by omega) 1 _⟩
    · replace HP : Hid (W.Per (W.andF h l h' l') h.length m2) := by have := HP.out; rwa [show max h.length h'.length = h.length by omega] at this
      have bhd : h.length ≤ 64 := by omega
      go_enter Try.func28, Try.ntmps28
      go_wp2_with fail
      refine (rboth_any x x' _).mono ?_
      rintro e w' ⟨rfl, y1, rfl⟩
      rw [HB.out]
      go_wp2_with fail
      refine wp_region_more (by kernel_rfl) (by kernel_rfl) ?_
      repeat (go_big_quiet_step ((go_at_call 46; with_reducible exact Calls.more_of (Gives.on GG _ inferInstance))))
      refine wpQuiet_nil ?_
      rintro _ ⟨y2, rfl⟩
      clear e1 e3 e4 GG
      obtain ⟨W1, hW1, a0⟩ : ∃ U0, ((((w.alloc (.cells #[.slice A h.length c, .slice B l.length d] 24)).alloc (.cells #[.slice A' h'.length c', .slice B' l'.length d'] 24)).alloc (.cells #[.slice none 0 0, .slice none 0 0] 24)).more y1).more y2 = U0 ∧ After (((w.alloc (.cells #[.slice A h.length c, .slice B l.length d] 24)).alloc (.cells #[.slice A' h'.length c', .slice B' l'.length d'] 24)).alloc (.cells #[.slice none 0 0, .slice none 0 0] 24)) U0 := ⟨_, rfl, inferInstance⟩
      rw [hW1]
      clear hW1
      go_wp2_with fail
      go_loopw [9, 10] (fun v i wr => ∃ k : Nat, k ≤ h.length + 2 * m2 ∧ i = .int .i64 k ∧ Hid (wr.ownsRow W1.heap.size 4 1 v k (bv (W.tab (W.andF h l h' l') 0 k))) ∧ After W1 wr) (fun _ i _ => h.length + 2 * m2 - (intOf i).toNat)
      case atStart => exact ⟨0, by omega, rfl, World.ownsRow_nil _ _ _ _, inferInstance⟩
      case round =>
        obtain ⟨k, hk, rfl, HO, haft⟩ := hrel
        by_cases hlt : k < h.length + 2 * m2
        · obtain ⟨A0, c0, rfl, _, _⟩ := own_slice HO.out
          obtain ⟨k0, k1, k2, k3⟩ := HK.out wr (after_after a0 haft)
          have lw : Le (w.heap.size + 2) wr := ⟨by have := (after_after a0 haft).below.size; simp at this; omega⟩
          have aw : After w wr := after_after (after_after inferInstance a0) haft
          have hltI : (k : Int) < (h.length : Int) + 2 * (m2 : Int) := by omega
          have G1 := HLa.out k (by omega)
          have G2 := HLb.out k (by omega)
          have HT := Lib.hid (bv_tab_succ (W.andF h l h' l') 0 k)
          have HV : Hid (W.andF h l h' l' (0 + k) = (W.letter h l k && W.letter h' l' k)) := by rw [Nat.zero_add]; rfl
          rw [HV.out] at HT
          clear HV
          generalize W.letter h l k = ba at G1 HT
          generalize W.letter h' l' k = bb at G2 HT
          cases ba
          · go_wp2_with fail
            refine (Gives.on G1 _ inferInstance).mono ?_
            rintro e w1 ⟨rfl, hy⟩
            have a1 : After wr w1 := after_of_more hy inferInstance
            clear hy
            have ho2 := Lib.hid (own_after a1 HO.out)
            have aW : After W1 w1 := after_after haft a1
            go_wp2_with (at_builtin; refine wpList_append_one (w0 := W1) w1 rfl (.tmp 48) (.tmp 57) 22 rfl 4 _ 1 Try.underlying22 boolInfo rfl (.slice A0 k c0) k _ (.bool false) rfl ho2.out rfl rfl (by omega) (by omega) ?_; intro v1 w4 hown1 haft1; replace hown1 := Lib.hid hown1)
            go_roundw
            case rel => exact ⟨k + 1, by omega, by go_num, by rw [HT.out]; exact hown1.out, haft1⟩
            case measure => simp [intOf]; omega
          · go_wp2_with fail
            refine (Gives.on G1 _ inferInstance).mono ?_
            rintro e w1 ⟨rfl, hy⟩
            have a1 : After wr w1 := after_of_more hy inferInstance
            clear hy
            obtain ⟨j0, j1, j2, j3⟩ := HK.out w1 (after_after (after_after a0 haft) a1)
            have lw1 : Le (w.heap.size + 2) w1 := ⟨Nat.le_trans lw.le a1.below.size⟩
            go_wp2_with fail
            refine (Gives.on G2 _ (after_after aw (after_after a1 inferInstance))).mono ?_
            rintro e w2 ⟨rfl, hy⟩
            replace a1 : After wr w2 := after_of_more hy (after_after a1 inferInstance)
            clear hy
            have ho2 := Lib.hid (own_after a1 HO.out)
            have aW : After W1 w2 := after_after haft a1
            go_wp2_with (at_builtin; refine wpList_append_one (w0 := W1) w2 rfl (.tmp 48) (.tmp 57) 22 rfl 4 _ 1 Try.underlying22 boolInfo rfl (.slice A0 k c0) k _ (.bool bb) rfl ho2.out rfl rfl (by omega) (by omega) ?_; intro v1 w4 hown1 haft1; replace hown1 := Lib.hid hown1)
            go_roundw
            case rel => exact ⟨k + 1, by omega, by go_num, by rw [HT.out]; exact hown1.out, haft1⟩
            case measure => simp [intOf]; omega
        · obtain rfl : k = h.length + 2 * m2 := by omega
          obtain ⟨A0, c0, e1, x1, n1⟩ := RB.of_tab HO.out (by omega)
          subst e1
          have a1 := after_after a0 haft
          have awr : After w wr := after_after inferInstance a1
          have G1 : Hid (Calls Try.prog 49 #[.slice A0 (h.length + 2 * m2) c0, .int .i64 ((h.length : Nat) : Int), .int .i64 ((m2 : Nat) : Int)] wr fun e w' => ∃ A' c' B' d', e = .returned (.agg #[.slice A' (W.nf (W.andF h l h' l')).1.length c', .slice B' (W.nf (W.andF h l h' l')).2.length d']) ∧ RW w' A' c' B' d' (W.nf (W.andF h l h' l')).1 (W.nf (W.andF h l h' l')).2 ∧ From wr.heap.size A' ∧ From wr.heap.size B' ∧ ∃ y, w' = wr.more y) := shortest_any x1 wr pm2 (by omega) HP.out
          clear x1
          go_wp2_with fail
          refine G1.out.mono ?_
          rintro e w3 ⟨A5, c5, B5, d5, rfl, x5, n5, m5, hy⟩
          have a3 : After wr w3 := after_of_more hy inferInstance
          clear hy
          have X5 := Lib.hid x5
          clear x5
          go_wp2_with fail
          have G2 : Hid (∀ U, After w3 U → Calls Try.prog 48 #[.agg #[.slice A5 (W.nf (W.andF h l h' l')).1.length c5, .slice B5 (W.nf (W.andF h l h' l')).2.length d5]] U fun e w' => ∃ A' c' B' d', e = .returned (.tuple #[.agg #[.slice A' (fitW (W.andF h l h' l')).1.1.length c', .slice B' (fitW (W.andF h l h' l')).1.2.length d'], .int .i64 (fitW (W.andF h l h' l')).2]) ∧ RW w' A' c' B' d' (fitW (W.andF h l h' l')).1.1 (fitW (W.andF h l h' l')).1.2 ∧ (∀ n, From n A5 → From n A') ∧ (∀ n, From n B5 → From n B') ∧ ∃ y, w' = U.more y) := fun U _ => by
            have := fits_any X5.out U
            rwa [fitV_nf] at this
          refine (G2.out _ inferInstance).mono ?_
          rintro e w5 ⟨A6, c6, B6, d6, rfl, x6, fA, fB, hy⟩
          have a5 : After w3 w5 := after_of_more hy inferInstance
          clear hy
          have X6 := Lib.hid x6
          have n6 := fA _ n5
          have m6 := fB _ m5
          have hz : w.heap.size + 3 ≤ wr.heap.size := by have := a1.below.size; simp at this; omega
          have z6 := Lib.hid (HZ.out w5 (after_after (after_after a1 a3) a5))
          have aw : After w w5 := after_after (after_after (after_after inferInstance a1) a3) a5
          clear x6 n5 m5 fA fB HZ HK G1 G2
          have d0 : w5.cell? ⟨w.heap.size + 2, 0, none⟩ = some (.slice none 0 0) := by rw [z6.out.cell]; rfl
          have d1 : w5.cell? ⟨w.heap.size + 2, 1, none⟩ = some (.slice none 0 0) := by rw [z6.out.cell]; rfl
          have f0 := z6.out.frozen 0
          have f1 := z6.out.frozen 1
          have l6 := z6.out.is_le
          go_wp2_with fail
          have r2 := (z6.out.set_ 0 (.slice A6 (fitW (W.andF h l h' l')).1.1.length c6)).set_ 1 (.slice B6 (fitW (W.andF h l h' l')).1.2.length d6)
          have k0 : ((w5.setCell ⟨w.heap.size + 2, 0, none⟩ (.slice A6 (fitW (W.andF h l h' l')).1.1.length c6)).setCell ⟨w.heap.size + 2, 1, none⟩ (.slice B6 (fitW (W.andF h l h' l')).1.2.length d6)).cell? ⟨w.heap.size + 2, 0, none⟩ = some (.slice A6 (fitW (W.andF h l h' l')).1.1.length c6) := by rw [r2.cell]; rfl
          have k1 : ((w5.setCell ⟨w.heap.size + 2, 0, none⟩ (.slice A6 (fitW (W.andF h l h' l')).1.1.length c6)).setCell ⟨w.heap.size + 2, 1, none⟩ (.slice B6 (fitW (W.andF h l h' l')).1.2.length d6)).cell? ⟨w.heap.size + 2, 1, none⟩ = some (.slice B6 (fitW (W.andF h l h' l')).1.2.length d6) := by rw [r2.cell]; rfl
          refine bodyPost_ret (v := .tuple #[.agg #[.slice A6 (fitW (W.andF h l h' l')).1.1.length c6, .slice B6 (fitW (W.andF h l h' l')).1.2.length d6], .int .i64 (fitW (W.andF h l h' l')).2]) (by simp [results, Try.results28, go_sem, k0, k1]) rfl ⟨A6, c6, B6, d6, by rw [HF.out], ?_, After.is_more _ _⟩
          rw [HF.out]
          exact ⟨(X6.out.head.set_ n6 (by omega) 0 _).set_ n6 (by omega) 1 _, (X6.out.loop.set_ m6 (by omega) 0 _).set_ m6 (by omega) 1 _⟩
  · have HF := Lib.hid (andW_bad hbad)
    clear hbad
    rcases h5 with h5 | h5
    · have HB := Lib.hid h5
      clear h5
      go_enter Try.func28, Try.ntmps28
      go_wp2_with fail
      refine (rboth_any x x' _).mono ?_
      rintro e w' ⟨rfl, y1, rfl⟩
      rw [HB.out]
      obtain ⟨w5, hU0, aU0⟩ : ∃ U0, (((w.alloc (.cells #[.slice A h.length c, .slice B l.length d] 24)).alloc (.cells #[.slice A' h'.length c', .slice B' l'.length d'] 24)).alloc (.cells #[.slice none 0 0, .slice none 0 0] 24)).more y1 = U0 ∧ After (((w.alloc (.cells #[.slice A h.length c, .slice B l.length d] 24)).alloc (.cells #[.slice A' h'.length c', .slice B' l'.length d'] 24)).alloc (.cells #[.slice none 0 0, .slice none 0 0] 24)) U0 := ⟨_, rfl, inferInstance⟩
      rw [hU0]
      clear hU0
      have z6 := Lib.hid (HZ.out w5 aU0)
      have aw : After w w5 := after_after inferInstance aU0
      clear HZ HK
      have d0 : w5.cell? ⟨w.heap.size + 2, 0, none⟩ = some (.slice none 0 0) := by rw [z6.out.cell]; rfl
      have d1 : w5.cell? ⟨w.heap.size + 2, 1, none⟩ = some (.slice none 0 0) := by rw [z6.out.cell]; rfl
      have f0 := z6.out.frozen 0
      have f1 := z6.out.frozen 1
      have l6 := z6.out.is_le
      go_wp2_with fail
      have r2 := (z6.out.set_ 0 (.slice none 0 0)).set_ 1 (.slice none 0 0)
      have k0 : ((w5.setCell ⟨w.heap.size + 2, 0, none⟩ (.slice none 0 0)).setCell ⟨w.heap.size + 2, 1, none⟩ (.slice none 0 0)).cell? ⟨w.heap.size + 2, 0, none⟩ = some (.slice none 0 0) := by rw [r2.cell]; rfl
      have k1 : ((w5.setCell ⟨w.heap.size + 2, 0, none⟩ (.slice none 0 0)).setCell ⟨w.heap.size + 2, 1, none⟩ (.slice none 0 0)).cell? ⟨w.heap.size + 2, 1, none⟩ = some (.slice none 0 0) := by rw [r2.cell]; rfl
      refine bodyPost_ret (v := .tuple #[.agg #[.slice none 0 0, .slice none 0 0], .int .i64 5]) (by simp [results, Try.results28, go_sem, k0, k1]) rfl ⟨none, 0, none, 0, by rw [HF.out, HB.out]; rfl, ?_, After.is_more _ _⟩
      rw [HF.out]
      exact ⟨RB.nil _, RB.nil _⟩
    · have HB := Lib.hid h5
      clear h5
      go_enter Try.func28, Try.ntmps28
      go_wp2_with fail
      refine (rboth_any x x' _).mono ?_
      rintro e w' ⟨rfl, y1, rfl⟩
      rw [HB.out]
      obtain ⟨w5, hU0, aU0⟩ : ∃ U0, (((w.alloc (.cells #[.slice A h.length c, .slice B l.length d] 24)).alloc (.cells #[.slice A' h'.length c', .slice B' l'.length d'] 24)).alloc (.cells #[.slice none 0 0, .slice none 0 0] 24)).more y1 = U0 ∧ After (((w.alloc (.cells #[.slice A h.length c, .slice B l.length d] 24)).alloc (.cells #[.slice A' h'.length c', .slice B' l'.length d'] 24)).alloc (.cells #[.slice none 0 0, .slice none 0 0] 24)) U0 := ⟨_, rfl, inferInstance⟩
      rw [hU0]
      clear hU0
      have z6 := Lib.hid (HZ.out w5 aU0)
      have aw : After w w5 := after_after inferInstance aU0
      clear HZ HK
      have d0 : w5.cell? ⟨w.heap.size + 2, 0, none⟩ = some (.slice none 0 0) := by rw [z6.out.cell]; rfl
      have d1 : w5.cell? ⟨w.heap.size + 2, 1, none⟩ = some (.slice none 0 0) := by rw [z6.out.cell]; rfl
      have f0 := z6.out.frozen 0
      have f1 := z6.out.frozen 1
      have l6 := z6.out.is_le
      go_wp2_with fail
      have r2 := (z6.out.set_ 0 (.slice none 0 0)).set_ 1 (.slice none 0 0)
      have k0 : ((w5.setCell ⟨w.heap.size + 2, 0, none⟩ (.slice none 0 0)).setCell ⟨w.heap.size + 2, 1, none⟩ (.slice none 0 0)).cell? ⟨w.heap.size + 2, 0, none⟩ = some (.slice none 0 0) := by rw [r2.cell]; rfl
      have k1 : ((w5.setCell ⟨w.heap.size + 2, 0, none⟩ (.slice none 0 0)).setCell ⟨w.heap.size + 2, 1, none⟩ (.slice none 0 0)).cell? ⟨w.heap.size + 2, 1, none⟩ = some (.slice none 0 0) := by rw [r2.cell]; rfl
      refine bodyPost_ret (v := .tuple #[.agg #[.slice none 0 0, .slice none 0 0], .int .i64 3]) (by simp [results, Try.results28, go_sem, k0, k1]) rfl ⟨none, 0, none, 0, by rw [HF.out, HB.out]; rfl, ?_, After.is_more _ _⟩
      rw [HF.out]
      exact ⟨RB.nil _, RB.nil _⟩
end Go.Proofs.Ytjbpelkdciphnaa
