/-
  Contract: bword.normal: the normal form of the word with these letters.
-/
import Derived.Test.YtglfocldoaigiaaPeriod
set_option linter.unusedVariables false
namespace Go.Proofs.Ytglfocldoaigiaa
open Go.RowKit Go.BigFrame

/-! ### plain: the walk's two lists -/
theorem take_tab_loop {h l : List Bool} {p : Nat} (hp : p ≤ l.length) : l.take p = W.tab (W.letter h l) h.length p := (W.tab_letter_loop h l p hp).symm
theorem take_tab_head {h l : List Bool} {k : Nat} (hk : k ≤ h.length) : h.take k = W.tab (W.letter h l) 0 k := (W.tab_letter_head h l k hk).symm
/-- a divisor that is a period of the loop is a period of the word, behind the head -/
theorem per_shift {h l : List Bool} {p : Nat} : W.Per (W.letter [] l) 0 p ↔ W.Per (W.letter h l) h.length p := by
  have e : ∀ i, W.letter h l (h.length + i) = W.letter [] l i := by intro i; unfold W.letter; rw [if_neg (by omega)]; simp
  constructor
  · intro k i hi
    obtain ⟨j, rfl⟩ := Nat.exists_eq_add_of_le hi
    rw [Nat.add_assoc, e, e]; exact k j (by omega)
  · intro k i _
    rw [← e, ← e, ← Nat.add_assoc]; exact k _ (by omega)
theorem tab_rot {f : Nat → Bool} {k p : Nat} (hp : 0 < p) (e : f (k + p) = f k) : W.tab f k p = f (k + p) :: (W.tab f (k + 1) p).take (p - 1) := by
  obtain ⟨q, rfl⟩ : ∃ q, p = q + 1 := ⟨p - 1, by omega⟩
  rw [W.tab_cons, e, W.tab_take _ _ _ _ (by omega)]; simp
theorem normal_found {h l : List Bool} (hl : 0 < l.length) {k : Nat} (hp : W.Per (W.letter h l) k (perN l)) (hs : k = 0 ∨ W.letter h l (k - 1 + perN l) ≠ W.letter h l (k - 1)) :
    W.nf (W.letter h l) = (W.tab (W.letter h l) 0 k, W.tab (W.letter h l) k (perN l)) := by
  have hi := perN_is hl
  refine W.nf_spec (W.Nf.found hl (W.letter_per h l) hi.pos hp (fun d hd hd2 hd3 => ?_) hs)
  rcases Nat.lt_or_ge d (perN l) with h1 | h1
  · have := hi.least d hd h1
    have h2 := (perB_iff hd (by have := hi.le; omega)).2 ⟨hd2, per_shift.2 hd3⟩
    rw [this] at h2; cases h2
  · exact h1

def NState (f : Nat → Bool) (p k : Nat) (hd lp : List Bool) : Prop := hd = W.tab f 0 k ∧ lp = W.tab f k p ∧ W.Per f k p

theorem normal_start {h l : List Bool} (hl : 0 < l.length) : NState (W.letter h l) (perN l) h.length h (l.take (perN l)) := by
  have hi := perN_is hl
  refine ⟨?_, take_tab_loop hi.le, per_shift.1 ((perB_iff hi.pos hi.le).1 hi.per).2⟩
  rw [← take_tab_head (Nat.le_refl _), List.take_length]
theorem NState.step {f p k hd lp} (hp : 0 < p) (h : NState f p (k + 1) hd lp) (e : hd.getD k false = lp.getD (p - 1) false) :
    NState f p k (hd.take k) (lp.getD (p - 1) false :: lp.take (p - 1)) := by
  obtain ⟨rfl, rfl, h3⟩ := h
  rw [W.tab_getD _ _ _ _ (by omega), W.tab_getD _ _ _ _ (by omega), Nat.zero_add, show k + 1 + (p - 1) = k + p by omega] at e
  refine ⟨W.tab_take _ _ _ _ (by omega), ?_, fun i hi => ?_⟩
  · rw [W.tab_getD _ _ _ _ (by omega), show k + 1 + (p - 1) = k + p by omega]
    exact (tab_rot hp e.symm).symm
  · rcases Nat.eq_or_lt_of_le hi with h4 | h4
    · rw [← h4]; exact e.symm
    · exact h3 i h4
theorem NState.done {h l k hd lp} (hl : 0 < l.length) (s : NState (W.letter h l) (perN l) k hd lp) (hs : k = 0 ∨ hd.getD (k - 1) false ≠ lp.getD (perN l - 1) false) : W.nf (W.letter h l) = (hd, lp) := by
  have hp := (perN_is hl).pos
  obtain ⟨rfl, rfl, h3⟩ := s
  refine normal_found hl h3 ?_
  rcases hs with h4 | h4
  · exact .inl h4
  · rcases Nat.eq_zero_or_pos k with h0 | h0
    · exact .inl h0
    · rw [W.tab_getD _ _ _ _ (by omega), W.tab_getD _ _ _ _ (by omega), Nat.zero_add, show k + (perN l - 1) = k - 1 + perN l by omega] at h4
      exact .inr (Ne.symm h4)
theorem NState.lens {f p k hd lp} (h : NState f p k hd lp) : hd.length = k ∧ lp.length = p := by
  obtain ⟨rfl, rfl, _⟩ := h; exact ⟨W.tab_length _ _ _, W.tab_length _ _ _⟩

def sliceLen (v : Value) : Nat := match v with | .slice _ n _ => n | _ => 0
@[simp] theorem sliceLen_slice (A : Option Addr) (n c : Nat) : sliceLen (.slice A n c) = n := rfl
theorem own_built (w : World) (u : Value) (e : TypeId) (B : Nat) (hB : B ≤ w.heap.size) : (w.alloc (.cells #[u] e)).ownsRow B e 1 (.slice (some ⟨w.heap.size, 0, none⟩) 1 1) 1 [u] :=
  ⟨by simp, .inr ⟨w.heap.size, 1, #[u], rfl, hB, heap_alloc_new w _, Nat.le_refl _, by decide, by simp, by simp⟩⟩
theorem bv_oneCell (l : List Bool) : ∀ u ∈ bv l, u.oneCell' = true := by intro u hu; simp [bv] at hu; rcases hu with ⟨_, rfl⟩ | ⟨_, rfl⟩ <;> rfl
theorem RB.of_front {w : World} {b : Bool} {l : List Bool} {v : Value} {n B : Nat} {e : TypeId} (h : w.ownsRow B e 1 v n ([Value.bool b] ++ bv l)) (hn : n = l.length + 1) (hl : l.length ≤ 1000000) : ∃ A c, v = .slice A n c ∧ RB w A c (b :: l) := by
  subst hn
  exact RB.of_own (l := b :: l) h (by simp; omega)

set_option maxHeartbeats 1600000 in
theorem normal_any {w0 : World} {A B c d h l} (x : RW w0 A c B d h l) (w : World) [After w0 w] (hl : 0 < l.length) (hh : h.length ≤ 1000000) (hll : l.length ≤ 1000000) :
    Calls Try.prog 66 #[.agg #[.slice A h.length c, .slice B l.length d]] w fun e w' => ∃ A' c' B' d', e = .returned (.agg #[.slice A' (W.nf (W.letter h l)).1.length c', .slice B' (W.nf (W.letter h l)).2.length d']) ∧
      RW w' A' c' B' d' (W.nf (W.letter h l)).1 (W.nf (W.letter h l)).2 ∧ From w.heap.size A' ∧ From w.heap.size B' ∧ ∃ y, w' = w.more y := by
  replace x := x.here w
  have b1 := x.lens
  have b2 := x.head.le
  have b3 := x.loop.le
  have hp1 := (perN_is hl).pos
  have hp2 := (perN_is hl).le
  obtain ⟨q, hp⟩ : ∃ q, perN l = q + 1 := ⟨perN l - 1, by omega⟩
  have HS := Lib.hid (normal_start (h := h) hl)
  have HD : Hid (∀ k hd lp, NState (W.letter h l) (perN l) k hd lp → (k = 0 ∨ hd.getD (k - 1) false ≠ lp.getD (perN l - 1) false) → W.nf (W.letter h l) = (hd, lp)) := fun k hd lp s hs => s.done hl hs
  have HPe : Hid (∀ U : World, After w U → Calls Try.prog 74 #[.slice B l.length d] U fun e w' => e = .returned (.int .i64 ((q : Int) + 1)) ∧ ∃ y, w' = U.more y) := by
    intro U _; have := period_any x.loop U hl; rw [hp] at this; exact this
  rw [hp] at hp1 hp2 HS HD
  have xc := x.loop.cut (q + 1) hp2
  have HL := Lib.hid (show (l.take (q + 1)).length = q + 1 by simp; omega)
  have HC : Hid (∀ U : World, After w U → Calls Try.prog 73 #[.slice B (q + 1) d] U fun e w' => ∃ A' c', e = .returned (.slice A' (q + 1) c') ∧ RB w' A' c' (l.take (q + 1)) ∧ From U.heap.size A' ∧ ∃ y, w' = U.more y) := by
    intro U _; have := clone_bools xc U (by rw [HL.out]; omega); rwa [HL.out] at this
  clear xc hp
  have hpd : q + 1 ≤ d := by omega
  have hpd0 : (0 : Int) ≤ (q : Int) + 1 := by omega
  have hpd1 : (q : Int) + 1 ≤ (d : Int) := by omega
  obtain ⟨ad, rfl, hbk0, _⟩ := x.loop.at_ hl
  have HK : Hid (∀ U : World, After ((w.alloc (.cells #[.slice A h.length c, .slice (some ad) l.length d] 24)).alloc (.cells #[.slice none 0 0, .slice none 0 0] 24)) U → U.cell? ⟨w.heap.size, 1, none⟩ = some (.slice (some ad) l.length d)) := by
    intro U k
    have := (((Blk.new w 24 #[.slice A h.length c, .slice (some ad) l.length d]).alloc (.cells #[.slice none 0 0, .slice none 0 0] 24)).after (w' := U)).cell 1
    rw [this]; rfl
  obtain ⟨i0, hi0, hz0, hz1, hz2⟩ := info_parts boolInfo
  go_enter Try.func66, Try.ntmps66
  go_wp2_with fail
  refine (clone_bools x.head _ hh).mono ?_
  rintro e w' ⟨A1, c1, rfl, x1, n1, y1, rfl⟩
  go_wp2_with fail
  go_region_held3 (fun w' => w'.cell? ⟨w.heap.size, 1, none⟩ = some (.slice (some ad) l.length d)) (exact HK.out _ inferInstance)
    (first
      | (go_at_call 74; with_reducible refine (HPe.out _ inferInstance).mono ?_; rintro e w' ⟨rfl, y2, rfl⟩)
      | (go_at_call 73; with_reducible refine (HC.out _ inferInstance).mono ?_; rintro e w' ⟨A2, c2, rfl, x2, n2, y3, rfl⟩))
  go_wp2_with fail
  have hx1 := Lib.hid (x1.here (((((w.alloc (.cells #[.slice A h.length c, .slice (some ad) l.length d] 24)).alloc (.cells #[.slice none 0 0, .slice none 0 0] 24)).more y1).drew.more y2).more y3))
  have hx2 := Lib.hid x2
  have HK2 : Hid (∀ U : World, After ((w.alloc (.cells #[.slice A h.length c, .slice (some ad) l.length d] 24)).alloc (.cells #[.slice none 0 0, .slice none 0 0] 24)) U → Blk U (w.heap.size + 1) 24 #[.slice none 0 0, .slice none 0 0]) := by
    intro U k
    have := (Blk.new (w.alloc (.cells #[.slice A h.length c, .slice (some ad) l.length d] 24)) 24 #[.slice none 0 0, .slice none 0 0]).after (w' := U)
    rwa [size_alloc_] at this
  clear HK HC HPe
  have N1 : From (w.heap.size + 2) A1 := n1.mono (by simp)
  have N2 : From (w.heap.size + 2) A2 := n2.mono (by first | (have := more_size (((w.alloc (.cells #[.slice A h.length c, .slice (some ad) l.length d] 24)).alloc (.cells #[.slice none 0 0, .slice none 0 0] 24)).more y1).drew y2; have h2 := more_size ((w.alloc (.cells #[.slice A h.length c, .slice (some ad) l.length d] 24)).alloc (.cells #[.slice none 0 0, .slice none 0 0] 24)) y1; simp at this h2; omega))
  clear x1 x2 n1 n2
  go_loopw [3, 4] (fun a b wr => ∃ (k : Nat) (hd lp : List Bool) (A' : Option Addr) (c' : Nat) (B' : Option Addr) (d' : Nat), a = .slice A' k c' ∧ b = .slice B' (q + 1) d' ∧ k ≤ h.length ∧ Hid (NState (W.letter h l) (q + 1) k hd lp) ∧
    Hid (RB wr A' c' hd) ∧ Hid (RB wr B' d' lp) ∧ From (w.heap.size + 2) A' ∧ From (w.heap.size + 2) B' ∧ After ((w.alloc (.cells #[.slice A h.length c, .slice (some ad) l.length d] 24)).alloc (.cells #[.slice none 0 0, .slice none 0 0] 24)) wr) (fun a _ _ => sliceLen a)
  case atStart => exact ⟨h.length, _, _, _, _, _, _, rfl, rfl, Nat.le_refl _, HS, hx1, hx2, N1, N2, inferInstance⟩
  case round =>
    clear hx1 hx2 HS N1 N2
    obtain ⟨k, hd, lp, A5, c5, B5, d5, rfl, rfl, hk, HN, H5, H6, N5, N6, haft⟩ := hrel
    have hl5 := HN.out.lens.1
    have hl6 := HN.out.lens.2
    have c5k := H5.out.le
    have c6k := H6.out.le
    rw [hl5] at c5k
    rw [hl6] at c6k
    have HL5 := Lib.hid hl5
    have HL6 := Lib.hid hl6
    have haw : After w wr := after_after inferInstance haft
    obtain ⟨ad6, b6, rfl, i6, g6, HB6⟩ := H6.out.bit (k := q) (by omega)
    cases k with
    | zero =>
      clear hl5 hl6
      have r0 := HK2.out wr haft
      have d0 : wr.cell? ⟨w.heap.size + 1, 0, none⟩ = some (.slice none 0 0) := by rw [r0.cell]; rfl
      have d1 : wr.cell? ⟨w.heap.size + 1, 1, none⟩ = some (.slice none 0 0) := by rw [r0.cell]; rfl
      have g0 := r0.frozen 0
      have g1 := r0.frozen 1
      have iL := r0.is_le
      have HF := Lib.hid (HD.out 0 hd lp HN.out (.inl rfl))
      go_wp2_with fail
      refine wp_region_more (by kernel_rfl) (by kernel_rfl) ?_
      repeat (go_big_quiet_step (fail))
      refine wpQuiet_nil ?_
      rintro _ ⟨y5, rfl⟩
      go_wp2_with fail
      have r2 := ((r0.more y5).set_ 0 (.slice A5 0 c5)).set_ 1 (.slice (some ad6) (q + 1) d5)
      have k0 : (((wr.more y5).setCell ⟨w.heap.size + 1, 0, none⟩ (.slice A5 0 c5)).setCell ⟨w.heap.size + 1, 1, none⟩ (.slice (some ad6) (q + 1) d5)).cell? ⟨w.heap.size + 1, 0, none⟩ = some (.slice A5 0 c5) := by rw [r2.cell]; rfl
      have k1 : (((wr.more y5).setCell ⟨w.heap.size + 1, 0, none⟩ (.slice A5 0 c5)).setCell ⟨w.heap.size + 1, 1, none⟩ (.slice (some ad6) (q + 1) d5)).cell? ⟨w.heap.size + 1, 1, none⟩ = some (.slice (some ad6) (q + 1) d5) := by rw [r2.cell]; rfl
      have iN : New w (w.heap.size + 1) := ⟨by omega⟩
      refine bodyPost_ret (v := .agg #[.slice A5 0 c5, .slice (some ad6) (q + 1) d5]) (by simp [results, Try.results66, go_sem, k0, k1]) rfl ⟨A5, c5, some ad6, d5, ?_, ?_, N5.mono (by omega), N6.mono (by omega), After.is_more _ _⟩
      · rw [HF.out, HL5.out, HL6.out]
      · rw [HF.out]
        exact ⟨((H5.out.here (wr.more y5)).set_ N5 (by omega) 0 _).set_ N5 (by omega) 1 _, ((H6.out.here (wr.more y5)).set_ N6 (by omega) 0 _).set_ N6 (by omega) 1 _⟩
    | succ k =>
      obtain ⟨ad5, b5, rfl, i5, g5, HB5⟩ := H5.out.bit (k := k) (by omega)
      clear hl5 hl6
      by_cases hbb : b5 = b6
      · subst hbb
        have HN2 := Lib.hid (HN.out.step (by omega) (HB5.out.trans HB6.out.symm))
        go_wp2_with fail
        refine wp_region_more (by kernel_rfl) (by kernel_rfl) ?_
        repeat (go_big_quiet_step (fail))
        refine wpQuiet_nil ?_
        rintro _ ⟨y5, rfl⟩
        obtain ⟨wq, hq, aq⟩ : ∃ wq, wr.more y5 = wq ∧ After wr wq := ⟨_, rfl, inferInstance⟩
        rw [hq]
        clear hq
        have i6q : Le (ad6.block + 1) wq := ⟨Nat.le_trans i6.le aq.below.size⟩
        have g6q : wq.cell? (ad6.add q) = some (.bool b5) := by
          rw [← g6]; exact aq.below.cell (p := ad6.add q) (by rw [block_of_add]; exact i6.le)
        have hr0 : Reads wq wq.heap.size 1 (some ad6) q (bv (lp.take q)) := by
          have := ((H6.out.here wq).cut q (by rw [HL6.out]; omega)).reads
          rwa [show (lp.take q).length = q by rw [List.length_take, HL6.out]; omega] at this
        have hr : Hid (Reads (wq.drew.alloc (.cells #[.bool b5] 4)) wq.heap.size 1 (some ad6) q (bv (lp.take q))) := hr0.keep fun p hp => World.cell?_alloc_lt wq.drew _ p hp
        have HW : Hid (wq.heap.size ≥ wr.heap.size) := aq.below.size
        clear hr0
        have iq : (q : Int) < (q : Int) + 1 := by omega
        have iq2 : (q : Int) ≤ (d5 : Int) := by omega
        go_wp2_with fail
        go_region_law (refine step_append_any (wq.drew.alloc (.cells #[.bool b5] 4)) rfl (.tmp 41) (.tmp 44) 22 rfl wq.heap.size 4 i0 _ 1 1 Try.underlying22 hi0 hz0 hz1 hz2 rfl (by omega) (.slice (some ⟨wq.heap.size, 0, none⟩) 1 1) 1 [.bool b5] (by simp [Act.eval]) (own_built wq.drew _ _ _ (Nat.le_refl _)) wq.heap.size (some ad6) q d5 (bv (lp.take q)) (by simp [Act.eval]) hr.out (bv_oneCell _) (by unfold maxLen; omega) (by omega) (by simp) ?_; intro v1 w1 hown1 hg1 _; rw [Nat.add_comm 1 q] at hown1; obtain ⟨A4, c4, rfl, x4⟩ := RB.of_front hown1 (by rw [List.length_take, HL6.out]; omega) (by rw [List.length_take, HL6.out]; omega); have n4 := From.of_own hown1; have a4 : After wq w1 := ⟨((Below.refl _ _).drew.alloc (Nat.le_refl _) _).grown hg1 (by simp) (fun k hk => by simp [Value.ownBlock] at hk; subst hk; exact Nat.le_refl _)⟩; replace x4 := Lib.hid x4; clear hown1 hg1)
        all_goals
          have a5 : After wr w1 := after_after aq a4
          have x5 := Lib.hid ((H5.out.here w1).cut k (by rw [HL5.out]; omega))
          go_wp2_with fail
          go_roundw
          case rel => exact ⟨k, hd.take k, _, _, _, _, _, rfl, rfl, by omega, HN2, x5, HB6.out ▸ x4, N5, n4.mono (by have := HW.out; have := haft.below.size; simp at this; omega), after_after haft a5⟩
          case measure => simp
      · have hne : (b5 == b6) = false := by simpa using hbb
        have r0 := HK2.out wr haft
        have d0 : wr.cell? ⟨w.heap.size + 1, 0, none⟩ = some (.slice none 0 0) := by rw [r0.cell]; rfl
        have d1 : wr.cell? ⟨w.heap.size + 1, 1, none⟩ = some (.slice none 0 0) := by rw [r0.cell]; rfl
        have g0 := r0.frozen 0
        have g1 := r0.frozen 1
        have iL := r0.is_le
        have HF := Lib.hid (HD.out (k + 1) hd lp HN.out (.inr fun e => hbb (HB5.out.symm.trans (e.trans HB6.out))))
        replace hbb := Lib.hid hbb
        go_wp2_with fail
        refine wp_region_more (by kernel_rfl) (by kernel_rfl) ?_
        repeat (go_big_quiet_step (fail))
        refine wpQuiet_nil ?_
        rintro _ ⟨y5, rfl⟩
        go_wp2_with fail
        have r2 := ((r0.more y5).set_ 0 (.slice (some ad5) (k + 1) c5)).set_ 1 (.slice (some ad6) (q + 1) d5)
        have k0 : (((wr.more y5).setCell ⟨w.heap.size + 1, 0, none⟩ (.slice (some ad5) (k + 1) c5)).setCell ⟨w.heap.size + 1, 1, none⟩ (.slice (some ad6) (q + 1) d5)).cell? ⟨w.heap.size + 1, 0, none⟩ = some (.slice (some ad5) (k + 1) c5) := by rw [r2.cell]; rfl
        have k1 : (((wr.more y5).setCell ⟨w.heap.size + 1, 0, none⟩ (.slice (some ad5) (k + 1) c5)).setCell ⟨w.heap.size + 1, 1, none⟩ (.slice (some ad6) (q + 1) d5)).cell? ⟨w.heap.size + 1, 1, none⟩ = some (.slice (some ad6) (q + 1) d5) := by rw [r2.cell]; rfl
        have iN : New w (w.heap.size + 1) := ⟨by omega⟩
        refine bodyPost_ret (v := .agg #[.slice (some ad5) (k + 1) c5, .slice (some ad6) (q + 1) d5]) (by simp [results, Try.results66, go_sem, k0, k1]) rfl ⟨some ad5, c5, some ad6, d5, ?_, ?_, N5.mono (by omega), N6.mono (by omega), After.is_more _ _⟩
        · rw [HF.out, HL5.out, HL6.out]
        · rw [HF.out]
          exact ⟨((H5.out.here (wr.more y5)).set_ N5 (by omega) 0 _).set_ N5 (by omega) 1 _, ((H6.out.here (wr.more y5)).set_ N6 (by omega) 0 _).set_ N6 (by omega) 1 _⟩
end Go.Proofs.Ytglfocldoaigiaa
