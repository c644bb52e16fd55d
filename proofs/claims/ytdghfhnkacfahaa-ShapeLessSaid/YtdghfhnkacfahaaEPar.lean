/-
  Contract: bword.Parse.
-/
import Derived.Test.YtdghfhnkacfahaaEParF
import Derived.Test.YtdghfhnkacfahaaShelf
set_option linter.unusedVariables false
set_option linter.unusedSimpArgs false
namespace Go.Proofs.Ytdghfhnkacfahaa
open Go.RowKit Go.BigFrame

theorem extract_list (s : ByteArray) (a b : Nat) : (s.extract a b).data.toList = (s.data.toList.drop a).take (b - a) := by
  obtain ⟨⟨l⟩⟩ := s
  rw [ByteArray.extract_mk]
  first | done | simp
theorem lcut0 (s : ByteArray) (w : World) (hs : s.size ≤ 2000000) :
    Calls Try.prog 107 #[.string s, .string ⟨#[40]⟩] w fun e w' => ∃ (f r : ByteArray) (b : Bool), e = .returned (.tuple #[.string f, .string r, .bool b]) ∧ CutP s.data.toList f.data.toList r.data.toList b ∧ f.size ≤ s.size ∧ r.size ≤ s.size ∧ After w w' := by
  have hl : s.data.toList.length = s.size := (bytes_size rfl).symm
  rcases indexByte_spec s.data.toList 40 with ⟨h1, h2⟩ | ⟨i, h1, h2, h3, h4⟩
  · replace h2 := Lib.hid h2
    go_enter Try.func107, Try.ntmps107
    go_wp2_with fail
    refine (Try.stringslite_Index_one s 40 _).mono ?_
    rintro e w' ⟨rfl, rfl⟩
    rw [h1]
    go_wp2_with fail
    go_ret3
    exact ⟨_, _, _, rfl, ⟨fun e => (by cases e), fun _ => h2.out⟩, Nat.le_refl _, Nat.zero_le _, inferInstance⟩
  · have HC := Lib.hid (cut_some h3 h4)
    have hi : i < s.size := by omega
    have hiI : (i : Int) + 1 ≤ (s.size : Int) := by omega
    clear h2 h3 h4
    go_enter Try.func107, Try.ntmps107
    go_wp2_with fail
    refine (Try.stringslite_Index_one s 40 _).mono ?_
    rintro e w' ⟨rfl, rfl⟩
    rw [h1]
    clear h1
    have hw1 : IntKind.i64.wrap ((i : Int) + 1) = (i : Int) + 1 := IntWalk.i64_in _ (by omega)
    have hw2 : ((i : Int) + 1).toNat = i + 1 := by omega
    go_wp2_with fail
    go_quiet (fail)
    go_wp2_with fail
    go_ret3
    have e1 : (s.extract 0 i).data.toList = s.data.toList.take i := by rw [extract_list]; simp
    have e2 : (s.extract (i + 1) s.size).data.toList = s.data.toList.drop (i + 1) := by rw [extract_list, List.take_of_length_le (by rw [List.length_drop]; omega)]
    refine ⟨_, _, _, rfl, ?_, ?_, ?_, inferInstance⟩
    · rw [e1, e2]
      exact HC.out
    · rw [bytes_size e1, List.length_take]; omega
    · rw [bytes_size e2, List.length_drop]; omega
theorem lcut (s : ByteArray) (w : World) (hs : s.size ≤ 2000000) :
    Calls Try.prog 95 #[.string s, .string ⟨#[40]⟩] w fun e w' => ∃ (f r : ByteArray) (b : Bool), e = .returned (.tuple #[.string f, .string r, .bool b]) ∧ CutP s.data.toList f.data.toList r.data.toList b ∧ f.size ≤ s.size ∧ r.size ≤ s.size ∧ After w w' := by
  go_enter Try.func95, Try.ntmps95
  go_wp2_with fail
  refine (lcut0 s _ hs).mono ?_
  rintro e w' ⟨f, r, b, rfl, HC, z1, z2, k1⟩
  replace HC := Lib.hid HC
  go_wp2_with fail
  go_ret3
  exact ⟨f, r, b, rfl, HC.out, z1, z2, k1⟩
theorem lsuf (s : ByteArray) (w : World) (hs : s.size ≤ 2000000) :
    Calls Try.prog 96 #[.string s, .string ⟨#[41]⟩] w fun e w' => ∃ (r : ByteArray) (b : Bool), e = .returned (.tuple #[.string r, .bool b]) ∧ SufP s.data.toList r.data.toList b ∧ r.size ≤ s.size ∧ After w w' := by
  refine (Try.strings_CutSuffix s ⟨#[41]⟩ w (by omega)).mono ?_
  rintro e w' ⟨rfl, rfl⟩
  refine ⟨_, _, rfl, suf_is _, ?_, inferInstance⟩
  have h1 : (⟨(Lib.trimSuffix s.data.toList [41]).toArray⟩ : ByteArray).size = (Lib.trimSuffix s.data.toList [41]).length := rfl
  have h2 : s.data.toList.length = s.size := (bytes_size rfl).symm
  show (⟨(Lib.trimSuffix s.data.toList [41]).toArray⟩ : ByteArray).size ≤ s.size
  rw [h1]
  unfold Lib.trimSuffix
  split
  · rw [List.length_take]; omega
  · omega
theorem llet (s : ByteArray) (w : World) (hs : s.size ≤ 2000000) :
    Calls Try.prog 97 #[.string s] w fun e w' => ∃ (A : Option Addr) (c : Nat) (l : List Bool) (b : Bool), e = .returned (.tuple #[.slice A l.length c, .bool b]) ∧ RB w' A c l ∧ From w.heap.size A ∧ Hid (b = allDig s.data.toList) ∧ Hid (b = true → l = bitsL s.data.toList) ∧ After w w' := by
  refine (letters_all s w hs).mono ?_
  rintro e w' (⟨h, A, c, rfl, x, n, y, rfl⟩ | ⟨h, rfl, y, rfl⟩)
  · have hl : s.size = (bitsL s.data.toList).length := by rw [bitsL_length]; exact bytes_size rfl
    exact ⟨A, c, _, true, by rw [hl], x, n, h.symm, fun _ => rfl, inferInstance⟩
  · exact ⟨none, 0, [], false, rfl, RB.nil_ _, (fun ad e => by cases e), h.symm, (fun e => by cases e), inferInstance⟩
set_option maxRecDepth 100000 in
set_option maxHeartbeats 3200000 in
theorem parse_any (s : ByteArray) (w : World) (hs : s.size ≤ 140737488355328) :
    Calls Try.prog 75 #[.string s] w fun e w' => ∃ A c B d, e = .returned (.tuple #[.agg #[.slice A (parseV s.data.toList).1.1.length c, .slice B (parseV s.data.toList).1.2.length d], .int .i64 (parseV s.data.toList).2]) ∧ RW w' A c B d (parseV s.data.toList).1.1 (parseV s.data.toList).1.2 ∧ ∃ y, w' = w.more y := by
  have hl : s.data.toList.length = s.size := (bytes_size rfl).symm
  by_cases hlong : 66 < s.size
  · have hn0 : New w w.heap.size := inferInstance
    have HF := Lib.hid (parseV_long (s := s.data.toList) (by omega))
    have z2 := Lib.hid (Blk.new w 121 #[.slice none 0 0, .slice none 0 0])
    have hlI : (66 : Int) < (s.size : Int) := by omega
    clear hl
    go_enter Try.func75, Try.ntmps75
    go_wp2_with fail
    have r2 := (z2.out.set_ 0 (.slice none 0 0)).set_ 1 (.slice none 0 0)
    have k0 : (((w.alloc (.cells #[.slice none 0 0, .slice none 0 0] 121)).setCell ⟨w.heap.size, 0, none⟩ (.slice none 0 0)).setCell ⟨w.heap.size, 1, none⟩ (.slice none 0 0)).cell? ⟨w.heap.size, 0, none⟩ = some (.slice none 0 0) := by rw [r2.cell]; rfl
    have k1 : (((w.alloc (.cells #[.slice none 0 0, .slice none 0 0] 121)).setCell ⟨w.heap.size, 0, none⟩ (.slice none 0 0)).setCell ⟨w.heap.size, 1, none⟩ (.slice none 0 0)).cell? ⟨w.heap.size, 1, none⟩ = some (.slice none 0 0) := by rw [r2.cell]; rfl
    refine bodyPost_ret (v := .tuple #[.agg #[.slice none 0 0, .slice none 0 0], .int .i64 3]) (by simp [results, Try.results75, go_sem, k0, k1]) rfl ⟨none, 0, none, 0, by rw [HF.out]; rfl, by rw [HF.out]; exact ⟨RB.nil_ _, RB.nil_ _⟩, After.is_more _ _⟩
  · replace hs : s.size ≤ 2000000 := by omega
    have hn : ¬ 66 < s.data.toList.length := by omega
    have HN := Lib.hid hn
    have hlI : (s.size : Int) ≤ 66 := by omega
    obtain ⟨g0, hg0⟩ : ∃ g0, w.heap.size = g0 := ⟨_, rfl⟩
    obtain ⟨W1, hW1, z, a1, hsz1⟩ : ∃ W1, (w.alloc (.cells #[.slice none 0 0, .slice none 0 0] 121)) = W1 ∧ Hid (Blk W1 g0 121 #[.slice none 0 0, .slice none 0 0]) ∧ After w W1 ∧ g0 < W1.heap.size := ⟨_, rfl, by rw [← hg0]; exact Blk.new _ _ _, inferInstance, by rw [← hg0]; simp⟩
    have ng0 : New w g0 := ⟨by omega⟩
    clear hl hn
    go_enter Try.func75, Try.ntmps75
    go_wp2_with fail
    try rw [hW1]
    try rw [hg0]
    clear hW1 hg0
    refine (lcut s _ hs).mono ?_
    rintro e w1 ⟨f, r, b1, rfl, hc, zf, zr, k1⟩
    have HC := Lib.hid hc
    clear hc
    go_wp2_with fail
    refine (lsuf r _ (by omega)).mono ?_
    rintro e w2 ⟨bk, b2, rfl, hsu, zb, k2⟩
    have HS := Lib.hid hsu
    clear hsu
    go_wp2_with fail
    refine (llet f _ (by omega)).mono ?_
    rintro e w3 ⟨A5, c5, H5, b3, rfl, x5, n5, D5, E5, k3⟩
    have X5 := Lib.hid x5
    clear x5
    go_wp2_with fail
    refine (llet bk _ (by omega)).mono ?_
    rintro e w4 ⟨A6, c6, H6, b4, rfl, x6, n6, D6, E6, k4⟩
    have X6 := Lib.hid (RW.mk (X5.out.below k4.below) x6)
    clear x6
    have q1 : After W1 w1 := k1
    have q2 : After W1 w2 := after_after q1 k2
    have q3 : After W1 w3 := after_after q2 k3
    have q4 : After W1 w4 := after_after q3 k4
    have m5 : From (g0 + 1) A5 := n5.mono (Nat.le_trans hsz1 q2.below.size)
    have m6 : From (g0 + 1) A6 := n6.mono (Nat.le_trans hsz1 q3.below.size)
    obtain ⟨g5, hg5⟩ : ∃ g, w4.heap.size = g := ⟨_, rfl⟩
    obtain ⟨W5, hW5, b5, a5, r5⟩ : ∃ W5, w4.alloc (.cells #[.slice A5 H5.length c5, .slice A6 H6.length c6] 121) = W5 ∧ Hid (Blk W5 g5 121 #[.slice A5 H5.length c5, .slice A6 H6.length c6]) ∧ After W1 W5 ∧ Hid (RW W5 A5 c5 A6 c6 H5 H6) := ⟨_, rfl, by rw [← hg5]; exact Blk.new _ _ _, after_after q4 inferInstance, X6.out.here _⟩
    have aw5 : After w W5 := after_after a1 a5
    have e0 : W5.cell? ⟨g5, 0, none⟩ = some (.slice A5 H5.length c5) := by rw [b5.out.cell]; rfl
    have e1 : W5.cell? ⟨g5, 1, none⟩ = some (.slice A6 H6.length c6) := by rw [b5.out.cell]; rfl
    have l5 := b5.out.is_le
    cases b1
    · have HF := Lib.hid (parse_no HC.out HS.out HN.out (fun e => by cases e))
      have z2 := Lib.hid (z.out.after (w' := W5))
      have d0 : W5.cell? ⟨g0, 0, none⟩ = some (.slice none 0 0) := by rw [z2.out.cell]; rfl
      have d1 : W5.cell? ⟨g0, 1, none⟩ = some (.slice none 0 0) := by rw [z2.out.cell]; rfl
      have f0 := z2.out.frozen 0
      have f1 := z2.out.frozen 1
      have l6 := z2.out.is_le
      go_wp2_with fail
      have r2 := (z2.out.set_ 0 (.slice none 0 0)).set_ 1 (.slice none 0 0)
      have k0 : ((W5.setCell ⟨g0, 0, none⟩ (.slice none 0 0)).setCell ⟨g0, 1, none⟩ (.slice none 0 0)).cell? ⟨g0, 0, none⟩ = some (.slice none 0 0) := by rw [r2.cell]; rfl
      have k1 : ((W5.setCell ⟨g0, 0, none⟩ (.slice none 0 0)).setCell ⟨g0, 1, none⟩ (.slice none 0 0)).cell? ⟨g0, 1, none⟩ = some (.slice none 0 0) := by rw [r2.cell]; rfl
      refine bodyPost_ret (v := .tuple #[.agg #[.slice none 0 0, .slice none 0 0], .int .i64 5]) (by simp [results, Try.results75, go_sem, k0, k1]) rfl ⟨none, 0, none, 0, by rw [HF.out]; rfl, by rw [HF.out]; exact ⟨RB.nil_ _, RB.nil_ _⟩, After.is_more _ _⟩
    cases b2
    · have HF := Lib.hid (parse_no HC.out HS.out HN.out (fun _ e => by cases e))
      have z2 := Lib.hid (z.out.after (w' := W5))
      have d0 : W5.cell? ⟨g0, 0, none⟩ = some (.slice none 0 0) := by rw [z2.out.cell]; rfl
      have d1 : W5.cell? ⟨g0, 1, none⟩ = some (.slice none 0 0) := by rw [z2.out.cell]; rfl
      have f0 := z2.out.frozen 0
      have f1 := z2.out.frozen 1
      have l6 := z2.out.is_le
      go_wp2_with fail
      have r2 := (z2.out.set_ 0 (.slice none 0 0)).set_ 1 (.slice none 0 0)
      have k0 : ((W5.setCell ⟨g0, 0, none⟩ (.slice none 0 0)).setCell ⟨g0, 1, none⟩ (.slice none 0 0)).cell? ⟨g0, 0, none⟩ = some (.slice none 0 0) := by rw [r2.cell]; rfl
      have k1 : ((W5.setCell ⟨g0, 0, none⟩ (.slice none 0 0)).setCell ⟨g0, 1, none⟩ (.slice none 0 0)).cell? ⟨g0, 1, none⟩ = some (.slice none 0 0) := by rw [r2.cell]; rfl
      refine bodyPost_ret (v := .tuple #[.agg #[.slice none 0 0, .slice none 0 0], .int .i64 5]) (by simp [results, Try.results75, go_sem, k0, k1]) rfl ⟨none, 0, none, 0, by rw [HF.out]; rfl, by rw [HF.out]; exact ⟨RB.nil_ _, RB.nil_ _⟩, After.is_more _ _⟩
    cases b3
    · have HF := Lib.hid (parse_no HC.out HS.out HN.out (fun _ _ e => by rw [← D5.out] at e; cases e))
      have z2 := Lib.hid (z.out.after (w' := W5))
      have d0 : W5.cell? ⟨g0, 0, none⟩ = some (.slice none 0 0) := by rw [z2.out.cell]; rfl
      have d1 : W5.cell? ⟨g0, 1, none⟩ = some (.slice none 0 0) := by rw [z2.out.cell]; rfl
      have f0 := z2.out.frozen 0
      have f1 := z2.out.frozen 1
      have l6 := z2.out.is_le
      go_wp2_with fail
      have r2 := (z2.out.set_ 0 (.slice none 0 0)).set_ 1 (.slice none 0 0)
      have k0 : ((W5.setCell ⟨g0, 0, none⟩ (.slice none 0 0)).setCell ⟨g0, 1, none⟩ (.slice none 0 0)).cell? ⟨g0, 0, none⟩ = some (.slice none 0 0) := by rw [r2.cell]; rfl
      have k1 : ((W5.setCell ⟨g0, 0, none⟩ (.slice none 0 0)).setCell ⟨g0, 1, none⟩ (.slice none 0 0)).cell? ⟨g0, 1, none⟩ = some (.slice none 0 0) := by rw [r2.cell]; rfl
      refine bodyPost_ret (v := .tuple #[.agg #[.slice none 0 0, .slice none 0 0], .int .i64 5]) (by simp [results, Try.results75, go_sem, k0, k1]) rfl ⟨none, 0, none, 0, by rw [HF.out]; rfl, by rw [HF.out]; exact ⟨RB.nil_ _, RB.nil_ _⟩, After.is_more _ _⟩
    cases b4
    · have HF := Lib.hid (parse_no HC.out HS.out HN.out (fun _ _ _ e => by rw [← D6.out] at e; cases e))
      have z2 := Lib.hid (z.out.after (w' := W5))
      have d0 : W5.cell? ⟨g0, 0, none⟩ = some (.slice none 0 0) := by rw [z2.out.cell]; rfl
      have d1 : W5.cell? ⟨g0, 1, none⟩ = some (.slice none 0 0) := by rw [z2.out.cell]; rfl
      have f0 := z2.out.frozen 0
      have f1 := z2.out.frozen 1
      have l6 := z2.out.is_le
      go_wp2_with fail
      have r2 := (z2.out.set_ 0 (.slice none 0 0)).set_ 1 (.slice none 0 0)
      have k0 : ((W5.setCell ⟨g0, 0, none⟩ (.slice none 0 0)).setCell ⟨g0, 1, none⟩ (.slice none 0 0)).cell? ⟨g0, 0, none⟩ = some (.slice none 0 0) := by rw [r2.cell]; rfl
      have k1 : ((W5.setCell ⟨g0, 0, none⟩ (.slice none 0 0)).setCell ⟨g0, 1, none⟩ (.slice none 0 0)).cell? ⟨g0, 1, none⟩ = some (.slice none 0 0) := by rw [r2.cell]; rfl
      refine bodyPost_ret (v := .tuple #[.agg #[.slice none 0 0, .slice none 0 0], .int .i64 5]) (by simp [results, Try.results75, go_sem, k0, k1]) rfl ⟨none, 0, none, 0, by rw [HF.out]; rfl, by rw [HF.out]; exact ⟨RB.nil_ _, RB.nil_ _⟩, After.is_more _ _⟩
    have hH5 := E5.out rfl
    have hH6 := E6.out rfl
    rcases check_cases H5 H6 with hv | ⟨hv, h5⟩
    · have HF : Hid (parseV s.data.toList = ((H5, H6), 0)) := by subst hH5; subst hH6; exact parse_yes HC.out HS.out D5.out.symm D6.out.symm hv HN.out
      have hc0 := Lib.hid (checkI_0 hv)
      clear hH5 hH6 hv
      go_wp2_with fail
      refine (check_val r5.out _ hc0.out).mono ?_
      rintro e w6 ⟨rfl, y6, hy6⟩
      have a6 : After W5 w6 := by rw [hy6]; infer_instance
      have a16 : After W1 w6 := after_after a5 a6
      have aw6 : After w w6 := after_after a1 a16
      clear hy6
      have b6 := Lib.hid (b5.out.after (w' := w6))
      have e0' : w6.cell? ⟨g5, 0, none⟩ = some (.slice A5 H5.length c5) := by rw [b6.out.cell]; rfl
      have e1' : w6.cell? ⟨g5, 1, none⟩ = some (.slice A6 H6.length c6) := by rw [b6.out.cell]; rfl
      have l6' := b6.out.is_le
      have z2 := Lib.hid (z.out.after (w' := w6))
      have d0 : w6.cell? ⟨g0, 0, none⟩ = some (.slice none 0 0) := by rw [z2.out.cell]; rfl
      have d1 : w6.cell? ⟨g0, 1, none⟩ = some (.slice none 0 0) := by rw [z2.out.cell]; rfl
      have f0 := z2.out.frozen 0
      have f1 := z2.out.frozen 1
      have l6 := z2.out.is_le
      go_wp2_with fail
      have r2 := (z2.out.set_ 0 (.slice A5 H5.length c5)).set_ 1 (.slice A6 H6.length c6)
      have k0 : ((w6.setCell ⟨g0, 0, none⟩ (.slice A5 H5.length c5)).setCell ⟨g0, 1, none⟩ (.slice A6 H6.length c6)).cell? ⟨g0, 0, none⟩ = some (.slice A5 H5.length c5) := by rw [r2.cell]; rfl
      have k1 : ((w6.setCell ⟨g0, 0, none⟩ (.slice A5 H5.length c5)).setCell ⟨g0, 1, none⟩ (.slice A6 H6.length c6)).cell? ⟨g0, 1, none⟩ = some (.slice A6 H6.length c6) := by rw [r2.cell]; rfl
      refine bodyPost_ret (v := .tuple #[.agg #[.slice A5 H5.length c5, .slice A6 H6.length c6], .int .i64 0]) (by simp [results, Try.results75, go_sem, k0, k1]) rfl ⟨A5, c5, A6, c6, by rw [HF.out], by rw [HF.out]; exact ⟨((r5.out.head.here w6).set_ m5 (by omega) 0 _).set_ m5 (by omega) 1 _, ((r5.out.loop.here w6).set_ m6 (by omega) 0 _).set_ m6 (by omega) 1 _⟩, After.is_more _ _⟩
    · have HF : Hid (parseV s.data.toList = (([], []), 5)) := by subst hH5; subst hH6; exact parse_no HC.out HS.out HN.out fun _ _ _ _ => hv
      clear hH5 hH6
      rcases h5 with h5 | h5
      all_goals
        have hc0 := Lib.hid h5
        clear h5
        go_wp2_with fail
        refine (check_val r5.out _ hc0.out).mono ?_
        rintro e w6 ⟨rfl, y6, hy6⟩
        have a6 : After W5 w6 := by rw [hy6]; infer_instance
        have a16 : After W1 w6 := after_after a5 a6
        have aw6 : After w w6 := after_after a1 a16
        clear hy6
        have z2 := Lib.hid (z.out.after (w' := w6))
        have d0 : w6.cell? ⟨g0, 0, none⟩ = some (.slice none 0 0) := by rw [z2.out.cell]; rfl
        have d1 : w6.cell? ⟨g0, 1, none⟩ = some (.slice none 0 0) := by rw [z2.out.cell]; rfl
        have f0 := z2.out.frozen 0
        have f1 := z2.out.frozen 1
        have l6 := z2.out.is_le
        go_wp2_with fail
        have r2 := (z2.out.set_ 0 (.slice none 0 0)).set_ 1 (.slice none 0 0)
        have k0 : ((w6.setCell ⟨g0, 0, none⟩ (.slice none 0 0)).setCell ⟨g0, 1, none⟩ (.slice none 0 0)).cell? ⟨g0, 0, none⟩ = some (.slice none 0 0) := by rw [r2.cell]; rfl
        have k1 : ((w6.setCell ⟨g0, 0, none⟩ (.slice none 0 0)).setCell ⟨g0, 1, none⟩ (.slice none 0 0)).cell? ⟨g0, 1, none⟩ = some (.slice none 0 0) := by rw [r2.cell]; rfl
        refine bodyPost_ret (v := .tuple #[.agg #[.slice none 0 0, .slice none 0 0], .int .i64 5]) (by simp [results, Try.results75, go_sem, k0, k1]) rfl ⟨none, 0, none, 0, by rw [HF.out]; rfl, by rw [HF.out]; exact ⟨RB.nil_ _, RB.nil_ _⟩, After.is_more _ _⟩
end Go.Proofs.Ytdghfhnkacfahaa
