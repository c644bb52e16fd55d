/-
  Contract: the reference's Parse.
-/
import Derived.Test.YtdghfhnkacfahaaEParF
set_option linter.unusedVariables false
set_option linter.unusedSimpArgs false
namespace Go.Proofs.Ytdghfhnkacfahaa
open Go.RowKit Go.BigFrame

theorem lrun (s : ByteArray) (w : World) (hs : s.size ≤ 2000000) (a : Nat) (ha : a ≤ s.size) {ai : Int} (hai : ai = (a : Nat)) {bs : List Bool} (hb : bitsL (pre (s.data.toList.drop a)) = bs) :
    Calls Try.prog 99 #[.string s, .int .i64 ai] w fun e w' => ∃ A c, e = .returned (.slice A bs.length c) ∧ RB w' A c bs ∧ From w.heap.size A ∧ After w w' := by
  subst hai hb
  refine (run_any s w hs a ha).mono ?_
  rintro e w' ⟨A, c, rfl, x, n, y, rfl⟩
  exact ⟨A, c, by rw [bitsL_length], x, n, inferInstance⟩
theorem byte_ne (c : UInt8) (k : UInt8) : (c = k ∧ ((c.toNat : Int) != (k.toNat : Int)) = false) ∨ (c ≠ k ∧ ((c.toNat : Int) != (k.toNat : Int)) = true) := by
  by_cases h : c = k
  · subst h; exact .inl ⟨rfl, by simp⟩
  · refine .inr ⟨h, ?_⟩
    simp only [bne_iff_ne, ne_eq]
    intro e
    exact h (UInt8.toNat_inj.1 (by omega))

set_option maxRecDepth 100000 in
set_option maxHeartbeats 3200000 in
theorem rparse_any (s : ByteArray) (w : World) (hs : s.size ≤ 140737488355328) :
    Calls Try.prog 81 #[.string s] w fun e w' => ∃ A c B d, e = .returned (.tuple #[.agg #[.slice A (parseV s.data.toList).1.1.length c, .slice B (parseV s.data.toList).1.2.length d], .int .i64 (parseV s.data.toList).2]) ∧ RW w' A c B d (parseV s.data.toList).1.1 (parseV s.data.toList).1.2 ∧ ∃ y, w' = w.more y := by
  have hl : s.data.toList.length = s.size := (bytes_size rfl).symm
  by_cases hlong : 66 < s.size
  · have hn0 : New w w.heap.size := inferInstance
    have HF := Lib.hid (parseV_long (s := s.data.toList) (by omega))
    have z2 := Lib.hid (Blk.new w 121 #[.slice none 0 0, .slice none 0 0])
    have hlI : (66 : Int) < (s.size : Int) := by omega
    clear hl
    go_enter Try.func81, Try.ntmps81
    go_wp2_with fail
    have r2 := (z2.out.set_ 0 (.slice none 0 0)).set_ 1 (.slice none 0 0)
    have k0 : (((w.alloc (.cells #[.slice none 0 0, .slice none 0 0] 121)).setCell ⟨w.heap.size, 0, none⟩ (.slice none 0 0)).setCell ⟨w.heap.size, 1, none⟩ (.slice none 0 0)).cell? ⟨w.heap.size, 0, none⟩ = some (.slice none 0 0) := by rw [r2.cell]; rfl
    have k1 : (((w.alloc (.cells #[.slice none 0 0, .slice none 0 0] 121)).setCell ⟨w.heap.size, 0, none⟩ (.slice none 0 0)).setCell ⟨w.heap.size, 1, none⟩ (.slice none 0 0)).cell? ⟨w.heap.size, 1, none⟩ = some (.slice none 0 0) := by rw [r2.cell]; rfl
    refine bodyPost_ret (v := .tuple #[.agg #[.slice none 0 0, .slice none 0 0], .int .i64 3]) (by simp [results, Try.results81, go_sem, k0, k1]) rfl ⟨none, 0, none, 0, by rw [HF.out]; rfl, by rw [HF.out]; exact ⟨RB.nil_ _, RB.nil_ _⟩, After.is_more _ _⟩
  · replace hs : s.size ≤ 2000000 := by omega
    have hn : ¬ 66 < s.data.toList.length := by omega
    have HN := Lib.hid hn
    have HL := Lib.hid hl
    have hlI : (s.size : Int) ≤ 66 := by omega
    obtain ⟨g0, hg0⟩ : ∃ g0, w.heap.size = g0 := ⟨_, rfl⟩
    obtain ⟨W1, hW1, z, a1, hsz1⟩ : ∃ W1, (w.alloc (.cells #[.slice none 0 0, .slice none 0 0] 121)) = W1 ∧ Hid (Blk W1 g0 121 #[.slice none 0 0, .slice none 0 0]) ∧ After w W1 ∧ g0 < W1.heap.size := ⟨_, rfl, by rw [← hg0]; exact Blk.new _ _ _, inferInstance, by rw [← hg0]; simp⟩
    have ng0 : New w g0 := ⟨by omega⟩
    obtain ⟨P, hP⟩ : ∃ P, bitsL (pre s.data.toList) = P := ⟨_, rfl⟩
    have hPl : (pre s.data.toList).length = P.length := by rw [← hP, bitsL_length]
    have hPs : P.length ≤ s.size := by rw [← hPl, ← hl]; exact pre_le _
    obtain ⟨Q, hQ⟩ : ∃ Q, bitsL (pre (s.data.toList.drop (P.length + 1))) = Q := ⟨_, rfl⟩
    have hQl : (pre (s.data.toList.drop (P.length + 1))).length = Q.length := by rw [← hQ, bitsL_length]
    have HP := Lib.hid hP
    have HPl := Lib.hid hPl
    have HQ := Lib.hid hQ
    have HQl := Lib.hid hQl
    have hQs : Q.length ≤ s.size := by
      have := pre_le (s.data.toList.drop (P.length + 1))
      rw [hQl, List.length_drop, hl] at this; omega
    clear hl hn hP hPl hQ hQl
    go_enter Try.func81, Try.ntmps81
    go_wp2_with fail
    try rw [hW1]
    try rw [hg0]
    clear hW1 hg0
    refine (lrun s _ hs 0 (Nat.zero_le _) rfl (bs := P) (by rw [List.drop_zero]; exact HP.out)).mono ?_
    rintro e w1 ⟨A5, c5, rfl, x5, n5, k1⟩
    have X5 := Lib.hid x5
    clear x5
    have m5 : From (g0 + 1) A5 := n5.mono hsz1
    obtain ⟨g4, hg4⟩ : ∃ g, w1.heap.size = g := ⟨_, rfl⟩
    obtain ⟨W2, hW2, b2, a2, hs2⟩ : ∃ W2, w1.alloc (.cells #[.slice A5 P.length c5, .slice none 0 0] 121) = W2 ∧ Hid (Blk W2 g4 121 #[.slice A5 P.length c5, .slice none 0 0]) ∧ After w1 W2 ∧ g4 < W2.heap.size := ⟨_, rfl, by rw [← hg4]; exact Blk.new _ _ _, inferInstance, by rw [← hg4]; simp⟩
    have ng4 : New w1 g4 := ⟨by omega⟩
    have a12 : After W1 W2 := after_after k1 a2
    have aw2 : After w W2 := after_after a1 a12
    have e0 : W2.cell? ⟨g4, 0, none⟩ = some (.slice A5 P.length c5) := by rw [b2.out.cell]; rfl
    have e1 : W2.cell? ⟨g4, 1, none⟩ = some (.slice none 0 0) := by rw [b2.out.cell]; rfl
    have l2 := b2.out.is_le
    have fz0 := b2.out.frozen 0
    have fz1 := b2.out.frozen 1
    have hW2b : W2.setCell ⟨g4, 1, none⟩ (.slice none 0 0) = W2 := by rw [← hW2, ← hg4]; simp [go_sem]
    by_cases hall : P.length = s.size
    · have hI : (s.size : Int) ≤ (P.length : Int) := by omega
      replace hall := Lib.hid hall
      have HF := Lib.hid (ref_no1 (by rw [HPl.out, HL.out]; exact hall.out) HN.out)
      have z2 := Lib.hid (z.out.after (w' := W2))
      have d0 : W2.cell? ⟨g0, 0, none⟩ = some (.slice none 0 0) := by rw [z2.out.cell]; rfl
      have d1 : W2.cell? ⟨g0, 1, none⟩ = some (.slice none 0 0) := by rw [z2.out.cell]; rfl
      have f0 := z2.out.frozen 0
      have f1 := z2.out.frozen 1
      have l6 := z2.out.is_le
      go_wp2_with fail
      have r2 := (z2.out.set_ 0 (.slice none 0 0)).set_ 1 (.slice none 0 0)
      have k0 : ((W2.setCell ⟨g0, 0, none⟩ (.slice none 0 0)).setCell ⟨g0, 1, none⟩ (.slice none 0 0)).cell? ⟨g0, 0, none⟩ = some (.slice none 0 0) := by rw [r2.cell]; rfl
      have k1 : ((W2.setCell ⟨g0, 0, none⟩ (.slice none 0 0)).setCell ⟨g0, 1, none⟩ (.slice none 0 0)).cell? ⟨g0, 1, none⟩ = some (.slice none 0 0) := by rw [r2.cell]; rfl
      refine bodyPost_ret (v := .tuple #[.agg #[.slice none 0 0, .slice none 0 0], .int .i64 5]) (by simp [results, Try.results81, go_sem, k0, k1]) rfl ⟨none, 0, none, 0, by rw [HF.out]; rfl, by rw [HF.out]; exact ⟨RB.nil_ _, RB.nil_ _⟩, After.is_more _ _⟩
    have hlt : P.length < s.size := by omega
    have hltI : (P.length : Int) < (s.size : Int) := by omega
    have HB := Lib.hid (byte_at hlt)
    rcases byte_ne s[P.length] 40 with ⟨hc, t1⟩ | ⟨hc, t1⟩
    rotate_left
    · replace t1 : ((s[P.length].toNat : Int) != 40) = true := t1
      have HF := Lib.hid (ref_no2 (by rw [HPl.out]; exact HB.out) hc HN.out)
      have z2 := Lib.hid (z.out.after (w' := W2))
      have d0 : W2.cell? ⟨g0, 0, none⟩ = some (.slice none 0 0) := by rw [z2.out.cell]; rfl
      have d1 : W2.cell? ⟨g0, 1, none⟩ = some (.slice none 0 0) := by rw [z2.out.cell]; rfl
      have f0 := z2.out.frozen 0
      have f1 := z2.out.frozen 1
      have l6 := z2.out.is_le
      go_wp2_with fail
      have r2 := (z2.out.set_ 0 (.slice none 0 0)).set_ 1 (.slice none 0 0)
      have k0 : ((W2.setCell ⟨g0, 0, none⟩ (.slice none 0 0)).setCell ⟨g0, 1, none⟩ (.slice none 0 0)).cell? ⟨g0, 0, none⟩ = some (.slice none 0 0) := by rw [r2.cell]; rfl
      have k1 : ((W2.setCell ⟨g0, 0, none⟩ (.slice none 0 0)).setCell ⟨g0, 1, none⟩ (.slice none 0 0)).cell? ⟨g0, 1, none⟩ = some (.slice none 0 0) := by rw [r2.cell]; rfl
      refine bodyPost_ret (v := .tuple #[.agg #[.slice none 0 0, .slice none 0 0], .int .i64 5]) (by simp [results, Try.results81, go_sem, k0, k1]) rfl ⟨none, 0, none, 0, by rw [HF.out]; rfl, by rw [HF.out]; exact ⟨RB.nil_ _, RB.nil_ _⟩, After.is_more _ _⟩
    replace t1 : ((s[P.length].toNat : Int) != 40) = false := t1
    have H40 : Hid (s.data.toList[(pre s.data.toList).length]? = some 40) := by show _ = _; rw [HPl.out, HB.out, hc]
    clear hc
    have hw1 : IntKind.i64.wrap ((P.length : Int) + 1) = (P.length : Int) + 1 := IntWalk.i64_in _ (by omega)
    go_wp2_with fail
    refine (lrun s _ hs (P.length + 1) (by omega) (by push_cast; rfl) (bs := Q) HQ.out).mono ?_
    rintro e w3 ⟨A6, c6, rfl, x6, n6, k3⟩
    have m6 : From (g4 + 1) A6 := n6.mono hs2
    have m60 : From (g0 + 1) A6 := n6.mono (Nat.le_trans hsz1 a12.below.size)
    have a23 : After w1 w3 := after_after a2 k3
    have a13 : After W1 w3 := after_after k1 a23
    have aw3 : After w w3 := after_after a1 a13
    have b3 := Lib.hid (b2.out.after (w' := w3))
    have q0 : w3.cell? ⟨g4, 0, none⟩ = some (.slice A5 P.length c5) := by rw [b3.out.cell]; rfl
    have q1 : w3.cell? ⟨g4, 1, none⟩ = some (.slice none 0 0) := by rw [b3.out.cell]; rfl
    have f3 := b3.out.frozen 1
    have l3 := b3.out.is_le
    obtain ⟨W4, hW4, b4, r4, a4, hz4⟩ : ∃ W4, w3.setCell ⟨g4, 1, none⟩ (.slice A6 Q.length c6) = W4 ∧ Hid (Blk W4 g4 121 #[.slice A5 P.length c5, .slice A6 Q.length c6]) ∧ Hid (RW W4 A5 c5 A6 c6 P Q) ∧ After w W4 ∧ Hid (Blk W4 g0 121 #[.slice none 0 0, .slice none 0 0]) := by
      have hne : g0 ≠ g4 := by have := k1.below.size; omega
      refine ⟨_, rfl, b3.out.set_ 1 _, ⟨?_, x6.set_ m6 (by omega) 1 _⟩, ?_, (z.out.after (w' := w3)).far hne _⟩
      · have := a23; exact X5.out.here _
      · have : New w g4 := ⟨Nat.le_trans a1.below.size (by have := k1.below.size; omega)⟩; infer_instance
    have X6 := Lib.hid x6
    clear x6
    have p0 : W4.cell? ⟨g4, 0, none⟩ = some (.slice A5 P.length c5) := by rw [b4.out.cell]; rfl
    have p1 : W4.cell? ⟨g4, 1, none⟩ = some (.slice A6 Q.length c6) := by rw [b4.out.cell]; rfl
    have l4 := b4.out.is_le
    by_cases hend : P.length + 1 + Q.length + 1 = s.size
    rotate_left
    · have hI : ((P.length : Int) + 1 + (Q.length : Int) != (s.size : Int) - 1) = true := by simp; omega
      have HF := Lib.hid (ref_no3 HN.out (by rw [HPl.out, HQl.out, HL.out]; exact hend))
      have z2 := hz4
      have d0 : W4.cell? ⟨g0, 0, none⟩ = some (.slice none 0 0) := by rw [z2.out.cell]; rfl
      have d1 : W4.cell? ⟨g0, 1, none⟩ = some (.slice none 0 0) := by rw [z2.out.cell]; rfl
      have f0 := z2.out.frozen 0
      have f1 := z2.out.frozen 1
      have l6 := z2.out.is_le
      go_wp2_with fail
      have r2 := (z2.out.set_ 0 (.slice none 0 0)).set_ 1 (.slice none 0 0)
      have k0 : ((W4.setCell ⟨g0, 0, none⟩ (.slice none 0 0)).setCell ⟨g0, 1, none⟩ (.slice none 0 0)).cell? ⟨g0, 0, none⟩ = some (.slice none 0 0) := by rw [r2.cell]; rfl
      have k1 : ((W4.setCell ⟨g0, 0, none⟩ (.slice none 0 0)).setCell ⟨g0, 1, none⟩ (.slice none 0 0)).cell? ⟨g0, 1, none⟩ = some (.slice none 0 0) := by rw [r2.cell]; rfl
      refine bodyPost_ret (v := .tuple #[.agg #[.slice none 0 0, .slice none 0 0], .int .i64 5]) (by simp [results, Try.results81, go_sem, k0, k1]) rfl ⟨none, 0, none, 0, by rw [HF.out]; rfl, by rw [HF.out]; exact ⟨RB.nil_ _, RB.nil_ _⟩, After.is_more _ _⟩
    have hI : ((P.length : Int) + 1 + (Q.length : Int) != (s.size : Int) - 1) = false := by simp; omega
    have hlt2 : P.length + 1 + Q.length < s.size := by omega
    have hltI2 : (P.length : Int) + 1 + (Q.length : Int) < (s.size : Int) := by omega
    have htn : ((P.length : Int) + 1 + (Q.length : Int)).toNat = P.length + 1 + Q.length := by omega
    have HB2 := Lib.hid (byte_at hlt2)
    rcases byte_ne s[P.length + 1 + Q.length] 41 with ⟨hc, t2⟩ | ⟨hc, t2⟩
    rotate_left
    · replace t2 : ((s[P.length + 1 + Q.length].toNat : Int) != 41) = true := t2
      have HF := Lib.hid (ref_no4 HN.out (by rw [HPl.out, HQl.out]; exact HB2.out) hc)
      have z2 := hz4
      have d0 : W4.cell? ⟨g0, 0, none⟩ = some (.slice none 0 0) := by rw [z2.out.cell]; rfl
      have d1 : W4.cell? ⟨g0, 1, none⟩ = some (.slice none 0 0) := by rw [z2.out.cell]; rfl
      have f0 := z2.out.frozen 0
      have f1 := z2.out.frozen 1
      have l6 := z2.out.is_le
      go_wp2_with fail
      have r2 := (z2.out.set_ 0 (.slice none 0 0)).set_ 1 (.slice none 0 0)
      have k0 : ((W4.setCell ⟨g0, 0, none⟩ (.slice none 0 0)).setCell ⟨g0, 1, none⟩ (.slice none 0 0)).cell? ⟨g0, 0, none⟩ = some (.slice none 0 0) := by rw [r2.cell]; rfl
      have k1 : ((W4.setCell ⟨g0, 0, none⟩ (.slice none 0 0)).setCell ⟨g0, 1, none⟩ (.slice none 0 0)).cell? ⟨g0, 1, none⟩ = some (.slice none 0 0) := by rw [r2.cell]; rfl
      refine bodyPost_ret (v := .tuple #[.agg #[.slice none 0 0, .slice none 0 0], .int .i64 5]) (by simp [results, Try.results81, go_sem, k0, k1]) rfl ⟨none, 0, none, 0, by rw [HF.out]; rfl, by rw [HF.out]; exact ⟨RB.nil_ _, RB.nil_ _⟩, After.is_more _ _⟩
    replace t2 : ((s[P.length + 1 + Q.length].toNat : Int) != 41) = false := t2
    have H41 : Hid (s.data.toList[(pre s.data.toList).length + 1 + (pre (s.data.toList.drop ((pre s.data.toList).length + 1))).length]? = some 41) := by show _ = _; rw [HPl.out, HQl.out, HB2.out, hc]
    clear hc
    rcases check_cases P Q with hv | ⟨hv, h5⟩
    · have HF : Hid (parseV s.data.toList = ((P, Q), 0)) := by
        have := ref_yes HN.out H40.out (by rw [HPl.out, HQl.out, HL.out]; exact hend) H41.out (by rw [HPl.out, HP.out, HQ.out]; exact hv)
        rw [HPl.out, HP.out, HQ.out] at this; exact this
      have hc0 := Lib.hid (checkI_0 hv)
      clear hv
      go_wp2_with fail
      refine (rcheck_val r4.out _ hc0.out).mono ?_
      rintro e w6 ⟨rfl, y6, hy6⟩
      have a6 : After W4 w6 := by rw [hy6]; infer_instance
      have aw6 : After w w6 := after_after a4 a6
      clear hy6
      have z2 := Lib.hid (hz4.out.after (w' := w6))
      have d0 : w6.cell? ⟨g0, 0, none⟩ = some (.slice none 0 0) := by rw [z2.out.cell]; rfl
      have d1 : w6.cell? ⟨g0, 1, none⟩ = some (.slice none 0 0) := by rw [z2.out.cell]; rfl
      have f0 := z2.out.frozen 0
      have f1 := z2.out.frozen 1
      have l6 := z2.out.is_le
      have b6 := Lib.hid (b4.out.after (w' := w6))
      have e0' : w6.cell? ⟨g4, 0, none⟩ = some (.slice A5 P.length c5) := by rw [b6.out.cell]; rfl
      have e1' : w6.cell? ⟨g4, 1, none⟩ = some (.slice A6 Q.length c6) := by rw [b6.out.cell]; rfl
      have l6' := b6.out.is_le
      go_wp2_with fail
      have r2 := (z2.out.set_ 0 (.slice A5 P.length c5)).set_ 1 (.slice A6 Q.length c6)
      have k0 : ((w6.setCell ⟨g0, 0, none⟩ (.slice A5 P.length c5)).setCell ⟨g0, 1, none⟩ (.slice A6 Q.length c6)).cell? ⟨g0, 0, none⟩ = some (.slice A5 P.length c5) := by rw [r2.cell]; rfl
      have k1 : ((w6.setCell ⟨g0, 0, none⟩ (.slice A5 P.length c5)).setCell ⟨g0, 1, none⟩ (.slice A6 Q.length c6)).cell? ⟨g0, 1, none⟩ = some (.slice A6 Q.length c6) := by rw [r2.cell]; rfl
      refine bodyPost_ret (v := .tuple #[.agg #[.slice A5 P.length c5, .slice A6 Q.length c6], .int .i64 0]) (by simp [results, Try.results81, go_sem, k0, k1]) rfl ⟨A5, c5, A6, c6, by rw [HF.out], by rw [HF.out]; exact ⟨((r4.out.head.here w6).set_ m5 (by omega) 0 _).set_ m5 (by omega) 1 _, ((r4.out.loop.here w6).set_ m60 (by omega) 0 _).set_ m60 (by omega) 1 _⟩, After.is_more _ _⟩
    · have HF : Hid (parseV s.data.toList = (([], []), 5)) := ref_no5 HN.out (by rw [HPl.out, HP.out, HQ.out]; exact hv)
      rcases h5 with h5 | h5
      all_goals
        have hc0 := Lib.hid h5
        clear h5
        go_wp2_with fail
        refine (rcheck_val r4.out _ hc0.out).mono ?_
        rintro e w6 ⟨rfl, y6, hy6⟩
        have a6 : After W4 w6 := by rw [hy6]; infer_instance
        have aw6 : After w w6 := after_after a4 a6
        clear hy6
        have z2 := Lib.hid (hz4.out.after (w' := w6))
        have d0 : w6.cell? ⟨g0, 0, none⟩ = some (.slice none 0 0) := by rw [z2.out.cell]; rfl
        have d1 : w6.cell? ⟨g0, 1, none⟩ = some (.slice none 0 0) := by rw [z2.out.cell]; rfl
        have f0 := z2.out.frozen 0
        have f1 := z2.out.frozen 1
        have l6 := z2.out.is_le
        go_wp2_with fail
        have r2 := (z2.out.set_ 0 (.slice none 0 0)).set_ 1 (.slice none 0 0)
        have k0 : ((w6.setCell ⟨g0, 0, none⟩ (.slice none 0 0)).setCell ⟨g0, 1, none⟩ (.slice none 0 0)).cell? ⟨g0, 0, none⟩ = some (.slice none 0 0) := by rw [r2.cell]; rfl
        have k1 : ((w6.setCell ⟨g0, 0, none⟩ (.slice none 0 0)).setCell ⟨g0, 1, none⟩ (.slice none 0 0)).cell? ⟨g0, 1, none⟩ = some (.slice none 0 0) := by rw [r2.cell]; rfl
        refine bodyPost_ret (v := .tuple #[.agg #[.slice none 0 0, .slice none 0 0], .int .i64 5]) (by simp [results, Try.results81, go_sem, k0, k1]) rfl ⟨none, 0, none, 0, by rw [HF.out]; rfl, by rw [HF.out]; exact ⟨RB.nil_ _, RB.nil_ _⟩, After.is_more _ _⟩

end Go.Proofs.Ytdghfhnkacfahaa
