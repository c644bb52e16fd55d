/-
  A queue with the room Need is never full or empty when the link uses it, and reaches its room; one with less room is full at some tick; without enough values a pop finds the queue empty: for all words, lags, initial values and orders. No conditions.
-/
import Derived.Test.YtglfocldoaigiaaLives
import Derived.Test.YtglfocldoaigiaaPlay
import Derived.Test.YtglfocldoaigiaaLawNeeds
import Derived.Test.YtglfocldoaigiaaLift
import Derived.OwnWalk
namespace Go.Proofs.Ytglfocldoaigiaa.queueExact
open Go.ChangeShapes Go.WideShapes Go.ChangeAt Go.RowKit Go.BigFrame
set_option linter.unusedVariables false
set_option linter.unusedSimpArgs false

theorem own : ownKnob Try.prog.godebug = none := by kernel_rfl
theorem laidOut : laidOutB Try.prog = true := by kernel_rfl

theorem u8_in {n : Int} (h : (Lit.int .u8 n).wf = true) : 0 ≤ n ∧ n ≤ 255 := by
  simpa [Lit.wf, IntKind.min, IntKind.max, IntKind.signed, IntKind.bits] using h
theorem lrcheck {w0 : World} {A B c d h l} (x : RW w0 A c B d h l) {v : Int} (hv : checkI h l = v) (w : World) (_ : After w0 w) :
    Calls Try.prog 28 #[.agg #[.slice A h.length c, .slice B l.length d]] w fun e w' => e = .returned (.int .i64 v) ∧ After w w' := (rcheck_val x w hv).mono fun e w' ⟨h, y, hy⟩ => ⟨h, by rw [hy]; infer_instance⟩
theorem lneed {w0 : World} {A B c d h l} (x : RW w0 A c B d h l) {fa ta init : Int} {first : Bool} {p q : Int} (hv : needV h l fa ta init first = (p, q)) (w : World) (_ : After w0 w) :
    Calls Try.prog 26 #[.agg #[.slice A h.length c, .slice B l.length d], .int .i64 fa, .int .i64 ta, .int .i64 init, .bool first] w fun e w' => e = .returned (.tuple #[.int .i64 p, .int .i64 q]) ∧ After w w' := by
  have := queueNeeds.need_any x w fa ta init first
  rw [hv] at this
  exact this.mono fun e w' ⟨h, y, hy⟩ => ⟨h, by rw [hy]; infer_instance⟩
theorem llives (w : World) : Calls Try.prog 25 #[] w fun e w' => e = .returned (.bool true) ∧ After w w' := (lives_any w).mono fun e w' ⟨h, y, hy⟩ => ⟨h, by rw [hy]; infer_instance⟩
theorem lnew {w0 : World} {A c l} (x : RI w0 A c l) {n : Nat} (hn : l.length = n) (w : World) (_ : After w0 w) {room : Int} (h0 : 0 ≤ room) (h1 : room ≤ 65536) (h2 : n ≤ room) :
    Calls Try.prog 29 #[.int .i64 room, .slice A n c] w fun e w' => ∃ g r, e = .returned (.tuple #[.pointer (some ⟨g, 0, none⟩), .int .i64 0]) ∧ QIs w' 77 g room l n r ∧ w.heap.size ≤ g ∧ (∀ k, r = some k → w.heap.size ≤ k) ∧ After w w' := by
  subst hn
  exact (new_ok x w room h0 h1 h2).mono fun e w' ⟨g, r, a, b, c, d, y, hy⟩ => ⟨g, r, a, b, c, d, by rw [hy]; infer_instance⟩
theorem play_e {w0 : World} {A B c d h l} (x : RW w0 A c B d h l) (hv : Valid h l) (w : World) (aft : After w0 w) {fa ta T n0 : Nat} {first : Bool} {room : Int} {g : Nat} {r : Option Nat} (hq : QIs w 77 g room (seqI n0 0) n0 r)
    (hg : w0.heap.size ≤ g) (hr : ∀ k, r = some k → w0.heap.size ≤ k) (hfa : fa ≤ 64) (hta : ta ≤ 64) (hT : T ≤ 1000) (hroom : room ≤ 100000) {k : Int} (hp : playN h l fa ta first room (start n0) T = .error k) {Ti : Int} (hTi : Ti = (T : Nat)) :
    Calls Try.prog 30 #[.pointer (some ⟨g, 0, none⟩), .agg #[.slice A h.length c, .slice B l.length d], .int .i64 (fa : Nat), .int .i64 (ta : Nat), .bool first, .int .i64 Ti] w fun e w' => ∃ v, e = .returned (.tuple #[.int .i64 k, v]) ∧ After w0 w' := by
  subst hTi
  refine (play_any x hv w aft fa ta T first room g hq hg hr hfa hta hT hroom).mono ?_
  intro e w' hpp
  have hp' : playN h l fa ta first room ⟨seqI n0 0, n0, 0, []⟩ T = .error k := hp
  rw [hp'] at hpp
  obtain ⟨v, h1, y, h2⟩ := hpp
  exact ⟨v, h1, by rw [h2]; infer_instance⟩
theorem play_o {w0 : World} {A B c d h l} (x : RW w0 A c B d h l) (hv : Valid h l) (w : World) (aft : After w0 w) {fa ta T n0 : Nat} {first : Bool} {room : Int} {g : Nat} {r : Option Nat} (hq : QIs w 77 g room (seqI n0 0) n0 r)
    (hg : w0.heap.size ≤ g) (hr : ∀ k, r = some k → w0.heap.size ≤ k) (hfa : fa ≤ 64) (hta : ta ≤ 64) (hT : T ≤ 1000) (hroom : room ≤ 100000) {q : List Int} {peak : Int} {k : Nat} {out : List Int} (hp : playN h l fa ta first room (start n0) T = .ok ⟨q, peak, k, out⟩) {Ti : Int} (hTi : Ti = (T : Nat)) :
    Calls Try.prog 30 #[.pointer (some ⟨g, 0, none⟩), .agg #[.slice A h.length c, .slice B l.length d], .int .i64 (fa : Nat), .int .i64 (ta : Nat), .bool first, .int .i64 Ti] w fun e w' =>
      ∃ A9 c9, e = .returned (.tuple #[.int .i64 0, .slice A9 out.length c9]) ∧ RI w' A9 c9 out ∧ (∃ r, QIs w' 77 g room q peak r) ∧ After w0 w' := by
  subst hTi
  refine (play_any x hv w aft fa ta T first room g hq hg hr hfa hta hT hroom).mono ?_
  intro e w' hpp
  have hp' : playN h l fa ta first room ⟨seqI n0 0, n0, 0, []⟩ T = .ok ⟨q, peak, k, out⟩ := hp
  rw [hp'] at hpp
  obtain ⟨A9, c9, h1, h3, h4, y, h2⟩ := hpp
  exact ⟨A9, c9, h1, h3, h4, by rw [h2]; infer_instance⟩
theorem lpeak {w : World} {g room xs peak r} (h : QIs w 77 g room xs peak r) :
    Calls Try.prog 31 #[.pointer (some ⟨g, 0, none⟩)] w fun e w' => e = .returned (.int .i64 peak) ∧ w = w' := peak_any h

/-- the list while it is filled -/
def fill (n0 k : Nat) : List Int := seqI n0 0 |>.take k |>.append (List.replicate (n0 - k) 0)
theorem fill_length {n0 k : Nat} (hk : k ≤ n0) : (fill n0 k).length = n0 := by
  have : (seqI n0 0).length = n0 := by rw [seqI_length]; omega
  simp [fill, this]; omega
theorem fill_zero (n0 : Nat) : iv (fill n0 0) = List.replicate n0 (.int .i64 0) := by simp [fill, iv]
theorem fill_all (n0 : Nat) : fill n0 n0 = seqI n0 0 := by
  have : (seqI n0 0).length = n0 := by rw [seqI_length]; omega
  simp [fill, List.take_of_length_le (Nat.le_of_eq this)]
theorem fill_succ {n0 k : Nat} (hk : k < n0) : (iv (fill n0 k)).set k (.int .i64 ((k : Int) - (n0 : Int))) = iv (fill n0 (k + 1)) := by
  have hl : (seqI n0 0).length = n0 := by rw [seqI_length]; omega
  have e1 : (seqI n0 0)[k]? = some ((k : Int) - (n0 : Int)) := by simp [seqI, hk]
  apply List.ext_getElem?
  intro i
  rw [List.getElem?_set]
  simp only [iv, fill, List.length_map, List.append_eq, List.length_append, List.length_take, List.length_replicate, hl, List.getElem?_map, List.getElem?_append, List.getElem?_take, List.getElem?_replicate]
  by_cases h1 : k = i
  · subst h1
    rw [if_pos rfl, if_pos (by omega), if_pos (show k < min (k + 1) n0 by omega), if_pos (show k < k + 1 by omega), e1]; rfl
  · rw [if_neg h1]
    by_cases h2 : i < k
    · rw [if_pos (show i < min k n0 by omega), if_pos (show i < min (k + 1) n0 by omega), if_pos h2, if_pos (show i < k + 1 by omega)]
    · rw [if_neg (show ¬ i < min k n0 by omega), if_neg (show ¬ i < min (k + 1) n0 by omega)]
      by_cases h3 : i < n0
      · rw [if_pos (show i - min k n0 < n0 - k by omega), if_pos (show i - min (k + 1) n0 < n0 - (k + 1) by omega)]
      · rw [if_neg (show ¬ i - min k n0 < n0 - k by omega), if_neg (show ¬ i - min (k + 1) n0 < n0 - (k + 1) by omega)]
theorem made_cells (n : Nat) : (madeCells (Value.int .i64 0).cells (n * 1)).toList = iv (fill n 0) := by
  rw [fill_zero]
  simp [madeCells, Value.cells, Nat.mod_one, List.map_const']

theorem exact_facts {h l : List Bool} {fa ta n0 T : Nat} (first : Bool) (hv : Valid h l) (a : fa ≤ 64) (b : ta ≤ 64) (c : n0 ≤ 20) (hT : T = 64 + h.length + 3 * l.length) :
    (needV h l fa ta n0 first = (0, 20) ∧ playN h l fa ta first 1000 (start n0) T = .error 19) ∨
    ∃ (m : Nat) (q : List Int) (k : Nat) (out : List Int), needV h l fa ta n0 first = (((m : Nat) : Int), 0) ∧ n0 ≤ m ∧ m ≤ 1000 ∧ playN h l fa ta first (m : Nat) (start n0) T = .ok ⟨q, (m : Nat), k, out⟩ ∧ (∀ i, i < out.length → out.getD i 0 = (i : Int) - (n0 : Int)) ∧
      (n0 < m → playN h l fa ta first ((m : Int) - 1) (start n0) T = .error 18) := by
  have hv2 := hv.2
  have h1 : okArgs h l fa ta n0 := ⟨hv, by omega, by omega, by omega, by omega, by omega, by omega⟩
  cases e : simS h l fa ta first n0 T with
  | none => exact .inl ⟨needV_none first h1 T (by omega) e, play_empty T e (by omega)⟩
  | some s =>
    obtain ⟨n, m⟩ := s
    have b1 := simS_bd h l _ _ first _ _ e
    simp only [] at b1
    obtain ⟨⟨q, peak, k, out⟩, h2, g⟩ := play_ok (room := (m : Nat)) T e (by omega)
    have hm : peak = (m : Nat) := g.m
    subst hm
    exact .inr ⟨m, q, k, out, needV_some first h1 T (by omega) e, by omega, by omega, h2, good_out g, fun hlt => play_full T e (by omega) (by omega)⟩

set_option maxRecDepth 100000 in
set_option maxHeartbeats 4000000 in
theorem walk {A B c d h l} (w : World) (x : RW w A c B d h l) (fa : Int) (_ : (Lit.int .i64 fa).wf = true) (ta : Int) (_ : (Lit.int .i64 ta).wf = true) (init : Int) (hi : (Lit.int .u8 init).wf = true) (first : Bool) :
    Calls Try.prog 6 #[.agg #[.slice A h.length c, .slice B l.length d], .int .i64 fa, .int .i64 ta, .int .u8 init, .bool first] w fun e w' => e = .returned (.bool true) ∧ ∃ y, w' = w.more y := by
  obtain ⟨i0, i1⟩ := u8_in hi
  clear hi
  have HK : Hid (∀ U : World, After (w.alloc (.cells #[.slice A h.length c, .slice B l.length d] 24)) U → U.cell? ⟨w.heap.size, 0, none⟩ = some (.slice A h.length c) ∧ U.cell? ⟨w.heap.size, 1, none⟩ = some (.slice B l.length d)) := fun U k => by
    have := (Blk.new w 24 #[.slice A h.length c, .slice B l.length d]).after (w' := U)
    exact ⟨by rw [this.cell]; rfl, by rw [this.cell]; rfl⟩
  have hw : w.heap.size < (w.alloc (.cells #[.slice A h.length c, .slice B l.length d] 24)).heap.size := by simp
  by_cases hv : Valid h l
  · have hc := Lib.hid (checkI_0 hv)
    by_cases b0 : fa < 0
    · skip
      go_enter Try.func6, Try.ntmps6
      go_wp2_with fail
      refine (lrcheck x hc.out _ inferInstance).mono ?_
      rintro e w1 ⟨rfl, hk1⟩
      have aB_w1 : After (w.alloc (.cells #[.slice A h.length c, .slice B l.length d] 24)) w1 := after_after inferInstance hk1
      have h_w1 := HK.out w1 aB_w1
      have l_w1 : Le (w.heap.size + 1) w1 := ⟨Nat.le_trans hw aB_w1.below.size⟩
      have aw_w1 : After w w1 := after_after inferInstance aB_w1
      go_wp2_with fail
      refine (llives _).mono ?_
      rintro e w2 ⟨rfl, hk2⟩
      have aB_w2 : After (w.alloc (.cells #[.slice A h.length c, .slice B l.length d] 24)) w2 := after_after aB_w1 hk2
      have h_w2 := HK.out w2 aB_w2
      have l_w2 : Le (w.heap.size + 1) w2 := ⟨Nat.le_trans hw aB_w2.below.size⟩
      have aw_w2 : After w w2 := after_after inferInstance aB_w2
      go_wp2_with fail
      go_ret
      exact ⟨rfl, @After.is_more w _ aw_w2⟩
    by_cases b1 : 64 < fa
    · skip
      go_enter Try.func6, Try.ntmps6
      go_wp2_with fail
      refine (lrcheck x hc.out _ inferInstance).mono ?_
      rintro e w1 ⟨rfl, hk1⟩
      have aB_w1 : After (w.alloc (.cells #[.slice A h.length c, .slice B l.length d] 24)) w1 := after_after inferInstance hk1
      have h_w1 := HK.out w1 aB_w1
      have l_w1 : Le (w.heap.size + 1) w1 := ⟨Nat.le_trans hw aB_w1.below.size⟩
      have aw_w1 : After w w1 := after_after inferInstance aB_w1
      go_wp2_with fail
      refine (llives _).mono ?_
      rintro e w2 ⟨rfl, hk2⟩
      have aB_w2 : After (w.alloc (.cells #[.slice A h.length c, .slice B l.length d] 24)) w2 := after_after aB_w1 hk2
      have h_w2 := HK.out w2 aB_w2
      have l_w2 : Le (w.heap.size + 1) w2 := ⟨Nat.le_trans hw aB_w2.below.size⟩
      have aw_w2 : After w w2 := after_after inferInstance aB_w2
      go_wp2_with fail
      go_ret
      exact ⟨rfl, @After.is_more w _ aw_w2⟩
    by_cases b2 : ta < 0
    · skip
      go_enter Try.func6, Try.ntmps6
      go_wp2_with fail
      refine (lrcheck x hc.out _ inferInstance).mono ?_
      rintro e w1 ⟨rfl, hk1⟩
      have aB_w1 : After (w.alloc (.cells #[.slice A h.length c, .slice B l.length d] 24)) w1 := after_after inferInstance hk1
      have h_w1 := HK.out w1 aB_w1
      have l_w1 : Le (w.heap.size + 1) w1 := ⟨Nat.le_trans hw aB_w1.below.size⟩
      have aw_w1 : After w w1 := after_after inferInstance aB_w1
      go_wp2_with fail
      refine (llives _).mono ?_
      rintro e w2 ⟨rfl, hk2⟩
      have aB_w2 : After (w.alloc (.cells #[.slice A h.length c, .slice B l.length d] 24)) w2 := after_after aB_w1 hk2
      have h_w2 := HK.out w2 aB_w2
      have l_w2 : Le (w.heap.size + 1) w2 := ⟨Nat.le_trans hw aB_w2.below.size⟩
      have aw_w2 : After w w2 := after_after inferInstance aB_w2
      go_wp2_with fail
      go_ret
      exact ⟨rfl, @After.is_more w _ aw_w2⟩
    by_cases b3 : 64 < ta
    · skip
      go_enter Try.func6, Try.ntmps6
      go_wp2_with fail
      refine (lrcheck x hc.out _ inferInstance).mono ?_
      rintro e w1 ⟨rfl, hk1⟩
      have aB_w1 : After (w.alloc (.cells #[.slice A h.length c, .slice B l.length d] 24)) w1 := after_after inferInstance hk1
      have h_w1 := HK.out w1 aB_w1
      have l_w1 : Le (w.heap.size + 1) w1 := ⟨Nat.le_trans hw aB_w1.below.size⟩
      have aw_w1 : After w w1 := after_after inferInstance aB_w1
      go_wp2_with fail
      refine (llives _).mono ?_
      rintro e w2 ⟨rfl, hk2⟩
      have aB_w2 : After (w.alloc (.cells #[.slice A h.length c, .slice B l.length d] 24)) w2 := after_after aB_w1 hk2
      have h_w2 := HK.out w2 aB_w2
      have l_w2 : Le (w.heap.size + 1) w2 := ⟨Nat.le_trans hw aB_w2.below.size⟩
      have aw_w2 : After w w2 := after_after inferInstance aB_w2
      go_wp2_with fail
      go_ret
      exact ⟨rfl, @After.is_more w _ aw_w2⟩
    by_cases b4 : 20 < init
    · skip
      go_enter Try.func6, Try.ntmps6
      go_wp2_with fail
      refine (lrcheck x hc.out _ inferInstance).mono ?_
      rintro e w1 ⟨rfl, hk1⟩
      have aB_w1 : After (w.alloc (.cells #[.slice A h.length c, .slice B l.length d] 24)) w1 := after_after inferInstance hk1
      have h_w1 := HK.out w1 aB_w1
      have l_w1 : Le (w.heap.size + 1) w1 := ⟨Nat.le_trans hw aB_w1.below.size⟩
      have aw_w1 : After w w1 := after_after inferInstance aB_w1
      go_wp2_with fail
      refine (llives _).mono ?_
      rintro e w2 ⟨rfl, hk2⟩
      have aB_w2 : After (w.alloc (.cells #[.slice A h.length c, .slice B l.length d] 24)) w2 := after_after aB_w1 hk2
      have h_w2 := HK.out w2 aB_w2
      have l_w2 : Le (w.heap.size + 1) w2 := ⟨Nat.le_trans hw aB_w2.below.size⟩
      have aw_w2 : After w w2 := after_after inferInstance aB_w2
      go_wp2_with fail
      go_ret
      exact ⟨rfl, @After.is_more w _ aw_w2⟩
    obtain ⟨fa, rfl⟩ := Int.eq_ofNat_of_zero_le (show 0 ≤ fa by omega)
    obtain ⟨ta, rfl⟩ := Int.eq_ofNat_of_zero_le (show 0 ≤ ta by omega)
    obtain ⟨n0, rfl⟩ := Int.eq_ofNat_of_zero_le i0
    obtain ⟨T, hT⟩ : ∃ T, T = 64 + h.length + 3 * l.length := ⟨_, rfl⟩
    have hv2 := hv.2
    have hfa : fa ≤ 64 := by omega
    have hta : ta ≤ 64 := by omega
    have hn0 : n0 ≤ 20 := by omega
    have hTle : T ≤ 1000 := by omega
    have HV := Lib.hid hv
    have HT := Lib.hid hT
    have hhl : h.length ≤ 64 := by omega
    have hll : l.length ≤ 64 := by omega
    have hsq : Hid ((seqI n0 0).length = n0) := by show _ = _; rw [seqI_length]; omega
    obtain ⟨i00, hi00, hz0, hz1, hz2⟩ := info_parts int_info
    have hms : Hid (i00.bytes * n0 ≤ 281474976710656) := by show _ ≤ _; rw [hz2]; omega
    have hz1' := Lib.hid hz1
    have hz0' := Lib.hid hz0
    have hi00' := Lib.hid hi00
    clear hz0 hz1 hz2 hi00
    have hEX := exact_facts first hv hfa hta hn0 hT
    clear hv hT hv2
    rcases hEX with ⟨hn, hp⟩ | ⟨m, q, kk, out, hn, hm0, hm1, hp, hout, hfull⟩
    · replace hn := Lib.hid hn
      replace hp := Lib.hid hp
      go_enter Try.func6, Try.ntmps6
      go_wp2_with fail
      refine (lrcheck x hc.out _ inferInstance).mono ?_
      rintro e w1 ⟨rfl, hk1⟩
      have aB_w1 : After (w.alloc (.cells #[.slice A h.length c, .slice B l.length d] 24)) w1 := after_after inferInstance hk1
      have h_w1 := HK.out w1 aB_w1
      have l_w1 : Le (w.heap.size + 1) w1 := ⟨Nat.le_trans hw aB_w1.below.size⟩
      have aw_w1 : After w w1 := after_after inferInstance aB_w1
      go_wp2_with fail
      obtain ⟨w2, hrun, hown2, hg2⟩ := run_make_full (P := Try.prog) w1 w1.heap.size 40 3 i00 (.int .i64 0) 1 Try.underlying40 hi00'.out hz0'.out hz1'.out .i64 .i64 n0 hms.out (by unfold maxLen; omega) (Nat.le_refl _)
      rw [hrun]
      clear hrun
      simp only [Result.andThen]
      rw [Oper.upon_value]
      rw [made_cells] at hown2
      have ag2 : After w1 w2 := ⟨(Below.refl _ _).grown hg2 (Nat.le_refl _) (fun k hk => by cases hk)⟩
      have aB_w2 : After (w.alloc (.cells #[.slice A h.length c, .slice B l.length d] 24)) w2 := after_after aB_w1 ag2
      have h_w2 := HK.out w2 aB_w2
      have l_w2 : Le (w.heap.size + 1) w2 := ⟨Nat.le_trans hw aB_w2.below.size⟩
      have aw_w2 : After w w2 := after_after inferInstance aB_w2
      have HO := Lib.hid hown2
      obtain ⟨gm, hgm⟩ : ∃ gm, w1.heap.size = gm := ⟨_, rfl⟩
      rw [hgm] at HO ⊢
      have nw : New (w.alloc (.cells #[.slice A h.length c, .slice B l.length d] 24)) gm := ⟨by rw [← hgm]; exact aB_w1.below.size⟩
      clear hown2 hg2 ag2 hgm
      go_wp2_with fail
      go_loopw [13] (fun i wr => ∃ k : Nat, i = .int .i64 (k : Nat) ∧ k ≤ n0 ∧ Hid (wr.ownsRow gm 3 1 (.slice (some ⟨gm, 0, none⟩) n0 n0) n0 (iv (fill n0 k))) ∧ After (w.alloc (.cells #[.slice A h.length c, .slice B l.length d] 24)) wr) (fun i _ => n0 - (intOf i).toNat)
      case atStart => exact ⟨0, rfl, by omega, HO, aB_w2⟩
      case round =>
        clear HO
        obtain ⟨k, rfl, hk, HO, ar_⟩ := hrel
        have aB_wr : After (w.alloc (.cells #[.slice A h.length c, .slice B l.length d] 24)) wr := ar_
        have h_wr := HK.out wr aB_wr
        have l_wr : Le (w.heap.size + 1) wr := ⟨Nat.le_trans hw aB_wr.below.size⟩
        have aw_wr : After w wr := after_after inferInstance aB_wr
        by_cases hlt : k < n0
        · have hltI : (k : Int) < (n0 : Int) := by omega
          have e0 : wr.cell? ⟨gm, k, none⟩ = some (.int .i64 ((fill n0 k).getD k 0)) := by
            rw [HO.out.cellAt k (by omega)]
            have hl9 : k < (fill n0 k).length := by rw [fill_length hk]; exact hlt
            simp [iv, List.getD_eq_getElem?_getD, hl9]
          have f0 := HO.out.frozenAt k
          have hst := (HO.out.stored k (.int .i64 ((k : Int) - (n0 : Int)))).1
          rw [fill_succ hlt] at hst
          have HST := Lib.hid hst
          clear hst
          generalize (fill n0 k).getD k 0 = z9 at e0
          go_wp2_with fail
          go_roundw
          case rel => exact ⟨k + 1, by go_num, by omega, HST, inferInstance⟩
          case measure => simp [intOf]; omega
        · obtain rfl : k = n0 := by omega
          have x3 : RI wr (some ⟨gm, 0, none⟩) k (seqI k 0) := by
            have ho := HO.out
            rw [fill_all] at ho
            obtain ⟨A9, c9, e9, x9⟩ := RI.of_own (l := seqI k 0) (by rw [hsq.out]; exact ho) (by rw [hsq.out]; omega)
            injection e9 with e1 e2 e3
            subst e1; subst e3
            exact x9
          have X3 := Lib.hid x3
          clear x3
          obtain ⟨wv, rfl⟩ : ∃ wv : World, wv = wr := ⟨_, rfl⟩
          go_wp2_with fail
          refine (lneed x hn.out _ aw_wr).mono ?_
          rintro e w3 ⟨rfl, hk3⟩
          have aB_w3 : After (w.alloc (.cells #[.slice A h.length c, .slice B l.length d] 24)) w3 := after_after aB_wr hk3
          have h_w3 := HK.out w3 aB_w3
          have l_w3 : Le (w.heap.size + 1) w3 := ⟨Nat.le_trans hw aB_w3.below.size⟩
          have aw_w3 : After w w3 := after_after inferInstance aB_w3
          have X4 := Lib.hid (X3.out.below hk3.below)
          go_wp2_with fail
          refine (lnew X4.out hsq.out _ inferInstance (by omega) (by omega) (by omega)).mono ?_
          rintro e w4 ⟨g, r, rfl, hq, hg, hr, hk4⟩
          have aB_w4 : After (w.alloc (.cells #[.slice A h.length c, .slice B l.length d] 24)) w4 := after_after aB_w3 hk4
          have h_w4 := HK.out w4 aB_w4
          have l_w4 : Le (w.heap.size + 1) w4 := ⟨Nat.le_trans hw aB_w4.below.size⟩
          have aw_w4 : After w w4 := after_after inferInstance aB_w4
          have HQ := Lib.hid hq
          have HR := Lib.hid hr
          clear hq hr
          go_wp2_with fail
          refine (play_e (x.here w3) HV.out w4 hk4 HQ.out hg HR.out hfa hta hTle (by decide) hp.out (by have := HT.out; omega)).mono ?_
          rintro e w5 ⟨v5, rfl, hk5⟩
          have aB_w5 : After (w.alloc (.cells #[.slice A h.length c, .slice B l.length d] 24)) w5 := after_after aB_w3 hk5
          have h_w5 := HK.out w5 aB_w5
          have l_w5 : Le (w.heap.size + 1) w5 := ⟨Nat.le_trans hw aB_w5.below.size⟩
          have aw_w5 : After w w5 := after_after inferInstance aB_w5
          go_wp2_with fail
          refine (llives _).mono ?_
          rintro e w6 ⟨rfl, hk6⟩
          have aB_w6 : After (w.alloc (.cells #[.slice A h.length c, .slice B l.length d] 24)) w6 := after_after aB_w5 hk6
          have h_w6 := HK.out w6 aB_w6
          have l_w6 : Le (w.heap.size + 1) w6 := ⟨Nat.le_trans hw aB_w6.below.size⟩
          have aw_w6 : After w w6 := after_after inferInstance aB_w6
          go_wp2_with fail
          go_ret
          exact ⟨rfl, @After.is_more w _ aw_w6⟩
    · replace hn := Lib.hid hn
      replace hp := Lib.hid hp
      replace hout := Lib.hid hout
      replace hfull := Lib.hid hfull
      by_cases hmn : m = n0
      · obtain rfl : n0 = m := hmn.symm
        go_enter Try.func6, Try.ntmps6
        go_wp2_with fail
        refine (lrcheck x hc.out _ inferInstance).mono ?_
        rintro e w1 ⟨rfl, hk1⟩
        have aB_w1 : After (w.alloc (.cells #[.slice A h.length c, .slice B l.length d] 24)) w1 := after_after inferInstance hk1
        have h_w1 := HK.out w1 aB_w1
        have l_w1 : Le (w.heap.size + 1) w1 := ⟨Nat.le_trans hw aB_w1.below.size⟩
        have aw_w1 : After w w1 := after_after inferInstance aB_w1
        go_wp2_with fail
        obtain ⟨w2, hrun, hown2, hg2⟩ := run_make_full (P := Try.prog) w1 w1.heap.size 40 3 i00 (.int .i64 0) 1 Try.underlying40 hi00'.out hz0'.out hz1'.out .i64 .i64 n0 hms.out (by unfold maxLen; omega) (Nat.le_refl _)
        rw [hrun]
        clear hrun
        simp only [Result.andThen]
        rw [Oper.upon_value]
        rw [made_cells] at hown2
        have ag2 : After w1 w2 := ⟨(Below.refl _ _).grown hg2 (Nat.le_refl _) (fun k hk => by cases hk)⟩
        have aB_w2 : After (w.alloc (.cells #[.slice A h.length c, .slice B l.length d] 24)) w2 := after_after aB_w1 ag2
        have h_w2 := HK.out w2 aB_w2
        have l_w2 : Le (w.heap.size + 1) w2 := ⟨Nat.le_trans hw aB_w2.below.size⟩
        have aw_w2 : After w w2 := after_after inferInstance aB_w2
        have HO := Lib.hid hown2
        obtain ⟨gm, hgm⟩ : ∃ gm, w1.heap.size = gm := ⟨_, rfl⟩
        rw [hgm] at HO ⊢
        have nw : New (w.alloc (.cells #[.slice A h.length c, .slice B l.length d] 24)) gm := ⟨by rw [← hgm]; exact aB_w1.below.size⟩
        clear hown2 hg2 ag2 hgm
        go_wp2_with fail
        go_loopw [13] (fun i wr => ∃ k : Nat, i = .int .i64 (k : Nat) ∧ k ≤ n0 ∧ Hid (wr.ownsRow gm 3 1 (.slice (some ⟨gm, 0, none⟩) n0 n0) n0 (iv (fill n0 k))) ∧ After (w.alloc (.cells #[.slice A h.length c, .slice B l.length d] 24)) wr) (fun i _ => n0 - (intOf i).toNat)
        case atStart => exact ⟨0, rfl, by omega, HO, aB_w2⟩
        case round =>
          clear HO
          obtain ⟨k, rfl, hk, HO, ar_⟩ := hrel
          have aB_wr : After (w.alloc (.cells #[.slice A h.length c, .slice B l.length d] 24)) wr := ar_
          have h_wr := HK.out wr aB_wr
          have l_wr : Le (w.heap.size + 1) wr := ⟨Nat.le_trans hw aB_wr.below.size⟩
          have aw_wr : After w wr := after_after inferInstance aB_wr
          by_cases hlt : k < n0
          · have hltI : (k : Int) < (n0 : Int) := by omega
            have e0 : wr.cell? ⟨gm, k, none⟩ = some (.int .i64 ((fill n0 k).getD k 0)) := by
              rw [HO.out.cellAt k (by omega)]
              have hl9 : k < (fill n0 k).length := by rw [fill_length hk]; exact hlt
              simp [iv, List.getD_eq_getElem?_getD, hl9]
            have f0 := HO.out.frozenAt k
            have hst := (HO.out.stored k (.int .i64 ((k : Int) - (n0 : Int)))).1
            rw [fill_succ hlt] at hst
            have HST := Lib.hid hst
            clear hst
            generalize (fill n0 k).getD k 0 = z9 at e0
            go_wp2_with fail
            go_roundw
            case rel => exact ⟨k + 1, by go_num, by omega, HST, inferInstance⟩
            case measure => simp [intOf]; omega
          · obtain rfl : k = n0 := by omega
            have x3 : RI wr (some ⟨gm, 0, none⟩) k (seqI k 0) := by
              have ho := HO.out
              rw [fill_all] at ho
              obtain ⟨A9, c9, e9, x9⟩ := RI.of_own (l := seqI k 0) (by rw [hsq.out]; exact ho) (by rw [hsq.out]; omega)
              injection e9 with e1 e2 e3
              subst e1; subst e3
              exact x9
            have X3 := Lib.hid x3
            clear x3
            obtain ⟨wv, rfl⟩ : ∃ wv : World, wv = wr := ⟨_, rfl⟩
            go_wp2_with fail
            refine (lneed x hn.out _ aw_wr).mono ?_
            rintro e w3 ⟨rfl, hk3⟩
            have aB_w3 : After (w.alloc (.cells #[.slice A h.length c, .slice B l.length d] 24)) w3 := after_after aB_wr hk3
            have h_w3 := HK.out w3 aB_w3
            have l_w3 : Le (w.heap.size + 1) w3 := ⟨Nat.le_trans hw aB_w3.below.size⟩
            have aw_w3 : After w w3 := after_after inferInstance aB_w3
            have X4 := Lib.hid (X3.out.below hk3.below)
            go_wp2_with fail
            refine (lnew X4.out hsq.out _ inferInstance (by omega) (by omega) (by omega)).mono ?_
            rintro e w4 ⟨g, r, rfl, hq, hg, hr, hk4⟩
            have aB_w4 : After (w.alloc (.cells #[.slice A h.length c, .slice B l.length d] 24)) w4 := after_after aB_w3 hk4
            have h_w4 := HK.out w4 aB_w4
            have l_w4 : Le (w.heap.size + 1) w4 := ⟨Nat.le_trans hw aB_w4.below.size⟩
            have aw_w4 : After w w4 := after_after inferInstance aB_w4
            have HQ := Lib.hid hq
            have HR := Lib.hid hr
            clear hq hr
            go_wp2_with fail
            refine (play_o (x.here w3) HV.out w4 hk4 HQ.out hg HR.out hfa hta hTle (by omega) hp.out (by have := HT.out; omega)).mono ?_
            rintro e w5 ⟨A9, c9, rfl, x9, ⟨r5, hq5⟩, hk5⟩
            have aB_w5 : After (w.alloc (.cells #[.slice A h.length c, .slice B l.length d] 24)) w5 := after_after aB_w3 hk5
            have h_w5 := HK.out w5 aB_w5
            have l_w5 : Le (w.heap.size + 1) w5 := ⟨Nat.le_trans hw aB_w5.below.size⟩
            have aw_w5 : After w w5 := after_after inferInstance aB_w5
            have X9 := Lib.hid x9
            have HQ5 := Lib.hid hq5
            have hol := x9.len
            clear x9 hq5
            have X5 := Lib.hid (X4.out.below hk5.below)
            go_wp2_with fail
            refine (lpeak HQ5.out).mono ?_
            rintro e w5' ⟨rfl, rfl⟩
            go_wp2_with fail
            go_loopw [24] (fun i wz => ∃ j : Nat, i = .int .i64 (j : Nat) ∧ j ≤ out.length ∧ After w5 wz) (fun i _ => out.length - (intOf i).toNat)
            case atStart => exact ⟨0, rfl, by omega, inferInstance⟩
            case round =>
              obtain ⟨j, rfl, hj, az_⟩ := hrel
              have aB_wz : After (w.alloc (.cells #[.slice A h.length c, .slice B l.length d] 24)) wr := after_after aB_w5 az_
              have h_wz := HK.out wr aB_wz
              have l_wz : Le (w.heap.size + 1) wr := ⟨Nat.le_trans hw aB_wz.below.size⟩
              have aw_wz : After w wr := after_after inferInstance aB_wz
              by_cases hjl : j < out.length
              · have hjI : (j : Int) < (out.length : Int) := by omega
                have ho9 := hout.out j hjl
                obtain ⟨ad, z, rfl, lz, hcz, HZ⟩ := (X9.out.here wr).int hjl
                have hz9 : z = (j : Int) - (k : Int) := HZ.out.symm.trans ho9
                subst hz9
                clear ho9 HZ
                have t9 : (((j : Int) - (k : Int)) != ((j : Int) - (k : Int))) = false := by simp
                go_wp2_with fail
                go_roundw
                case rel => exact ⟨j + 1, by go_num, by omega, az_⟩
                case measure => simp [intOf]; omega
              · obtain rfl : j = out.length := by omega
                go_wp2_with fail
                refine (llives _).mono ?_
                rintro e w6 ⟨rfl, hk6⟩
                have aB_w6 : After (w.alloc (.cells #[.slice A h.length c, .slice B l.length d] 24)) w6 := after_after aB_wz hk6
                have h_w6 := HK.out w6 aB_w6
                have l_w6 : Le (w.heap.size + 1) w6 := ⟨Nat.le_trans hw aB_w6.below.size⟩
                have aw_w6 : After w w6 := after_after inferInstance aB_w6
                go_wp2_with fail
                go_ret
                exact ⟨rfl, @After.is_more w _ aw_w6⟩
      · have hmI : (n0 : Int) < (m : Int) := by omega
        have hfull2 := Lib.hid (hfull.out (by omega))
        go_enter Try.func6, Try.ntmps6
        go_wp2_with fail
        refine (lrcheck x hc.out _ inferInstance).mono ?_
        rintro e w1 ⟨rfl, hk1⟩
        have aB_w1 : After (w.alloc (.cells #[.slice A h.length c, .slice B l.length d] 24)) w1 := after_after inferInstance hk1
        have h_w1 := HK.out w1 aB_w1
        have l_w1 : Le (w.heap.size + 1) w1 := ⟨Nat.le_trans hw aB_w1.below.size⟩
        have aw_w1 : After w w1 := after_after inferInstance aB_w1
        go_wp2_with fail
        obtain ⟨w2, hrun, hown2, hg2⟩ := run_make_full (P := Try.prog) w1 w1.heap.size 40 3 i00 (.int .i64 0) 1 Try.underlying40 hi00'.out hz0'.out hz1'.out .i64 .i64 n0 hms.out (by unfold maxLen; omega) (Nat.le_refl _)
        rw [hrun]
        clear hrun
        simp only [Result.andThen]
        rw [Oper.upon_value]
        rw [made_cells] at hown2
        have ag2 : After w1 w2 := ⟨(Below.refl _ _).grown hg2 (Nat.le_refl _) (fun k hk => by cases hk)⟩
        have aB_w2 : After (w.alloc (.cells #[.slice A h.length c, .slice B l.length d] 24)) w2 := after_after aB_w1 ag2
        have h_w2 := HK.out w2 aB_w2
        have l_w2 : Le (w.heap.size + 1) w2 := ⟨Nat.le_trans hw aB_w2.below.size⟩
        have aw_w2 : After w w2 := after_after inferInstance aB_w2
        have HO := Lib.hid hown2
        obtain ⟨gm, hgm⟩ : ∃ gm, w1.heap.size = gm := ⟨_, rfl⟩
        rw [hgm] at HO ⊢
        have nw : New (w.alloc (.cells #[.slice A h.length c, .slice B l.length d] 24)) gm := ⟨by rw [← hgm]; exact aB_w1.below.size⟩
        clear hown2 hg2 ag2 hgm
        go_wp2_with fail
        go_loopw [13] (fun i wr => ∃ k : Nat, i = .int .i64 (k : Nat) ∧ k ≤ n0 ∧ Hid (wr.ownsRow gm 3 1 (.slice (some ⟨gm, 0, none⟩) n0 n0) n0 (iv (fill n0 k))) ∧ After (w.alloc (.cells #[.slice A h.length c, .slice B l.length d] 24)) wr) (fun i _ => n0 - (intOf i).toNat)
        case atStart => exact ⟨0, rfl, by omega, HO, aB_w2⟩
        case round =>
          clear HO
          obtain ⟨k, rfl, hk, HO, ar_⟩ := hrel
          have aB_wr : After (w.alloc (.cells #[.slice A h.length c, .slice B l.length d] 24)) wr := ar_
          have h_wr := HK.out wr aB_wr
          have l_wr : Le (w.heap.size + 1) wr := ⟨Nat.le_trans hw aB_wr.below.size⟩
          have aw_wr : After w wr := after_after inferInstance aB_wr
          by_cases hlt : k < n0
          · have hltI : (k : Int) < (n0 : Int) := by omega
            have e0 : wr.cell? ⟨gm, k, none⟩ = some (.int .i64 ((fill n0 k).getD k 0)) := by
              rw [HO.out.cellAt k (by omega)]
              have hl9 : k < (fill n0 k).length := by rw [fill_length hk]; exact hlt
              simp [iv, List.getD_eq_getElem?_getD, hl9]
            have f0 := HO.out.frozenAt k
            have hst := (HO.out.stored k (.int .i64 ((k : Int) - (n0 : Int)))).1
            rw [fill_succ hlt] at hst
            have HST := Lib.hid hst
            clear hst
            generalize (fill n0 k).getD k 0 = z9 at e0
            go_wp2_with fail
            go_roundw
            case rel => exact ⟨k + 1, by go_num, by omega, HST, inferInstance⟩
            case measure => simp [intOf]; omega
          · obtain rfl : k = n0 := by omega
            have x3 : RI wr (some ⟨gm, 0, none⟩) k (seqI k 0) := by
              have ho := HO.out
              rw [fill_all] at ho
              obtain ⟨A9, c9, e9, x9⟩ := RI.of_own (l := seqI k 0) (by rw [hsq.out]; exact ho) (by rw [hsq.out]; omega)
              injection e9 with e1 e2 e3
              subst e1; subst e3
              exact x9
            have X3 := Lib.hid x3
            clear x3
            obtain ⟨wv, rfl⟩ : ∃ wv : World, wv = wr := ⟨_, rfl⟩
            go_wp2_with fail
            refine (lneed x hn.out _ aw_wr).mono ?_
            rintro e w3 ⟨rfl, hk3⟩
            have aB_w3 : After (w.alloc (.cells #[.slice A h.length c, .slice B l.length d] 24)) w3 := after_after aB_wr hk3
            have h_w3 := HK.out w3 aB_w3
            have l_w3 : Le (w.heap.size + 1) w3 := ⟨Nat.le_trans hw aB_w3.below.size⟩
            have aw_w3 : After w w3 := after_after inferInstance aB_w3
            have X4 := Lib.hid (X3.out.below hk3.below)
            go_wp2_with fail
            refine (lnew X4.out hsq.out _ inferInstance (by omega) (by omega) (by omega)).mono ?_
            rintro e w4 ⟨g, r, rfl, hq, hg, hr, hk4⟩
            have aB_w4 : After (w.alloc (.cells #[.slice A h.length c, .slice B l.length d] 24)) w4 := after_after aB_w3 hk4
            have h_w4 := HK.out w4 aB_w4
            have l_w4 : Le (w.heap.size + 1) w4 := ⟨Nat.le_trans hw aB_w4.below.size⟩
            have aw_w4 : After w w4 := after_after inferInstance aB_w4
            have HQ := Lib.hid hq
            have HR := Lib.hid hr
            clear hq hr
            go_wp2_with fail
            refine (play_o (x.here w3) HV.out w4 hk4 HQ.out hg HR.out hfa hta hTle (by omega) hp.out (by have := HT.out; omega)).mono ?_
            rintro e w5 ⟨A9, c9, rfl, x9, ⟨r5, hq5⟩, hk5⟩
            have aB_w5 : After (w.alloc (.cells #[.slice A h.length c, .slice B l.length d] 24)) w5 := after_after aB_w3 hk5
            have h_w5 := HK.out w5 aB_w5
            have l_w5 : Le (w.heap.size + 1) w5 := ⟨Nat.le_trans hw aB_w5.below.size⟩
            have aw_w5 : After w w5 := after_after inferInstance aB_w5
            have X9 := Lib.hid x9
            have HQ5 := Lib.hid hq5
            have hol := x9.len
            clear x9 hq5
            have X5 := Lib.hid (X4.out.below hk5.below)
            go_wp2_with fail
            refine (lpeak HQ5.out).mono ?_
            rintro e w5' ⟨rfl, rfl⟩
            go_wp2_with fail
            go_loopw [24] (fun i wz => ∃ j : Nat, i = .int .i64 (j : Nat) ∧ j ≤ out.length ∧ After w5 wz) (fun i _ => out.length - (intOf i).toNat)
            case atStart => exact ⟨0, rfl, by omega, inferInstance⟩
            case round =>
              obtain ⟨j, rfl, hj, az_⟩ := hrel
              have aB_wz : After (w.alloc (.cells #[.slice A h.length c, .slice B l.length d] 24)) wr := after_after aB_w5 az_
              have h_wz := HK.out wr aB_wz
              have l_wz : Le (w.heap.size + 1) wr := ⟨Nat.le_trans hw aB_wz.below.size⟩
              have aw_wz : After w wr := after_after inferInstance aB_wz
              by_cases hjl : j < out.length
              · have hjI : (j : Int) < (out.length : Int) := by omega
                have ho9 := hout.out j hjl
                obtain ⟨ad, z, rfl, lz, hcz, HZ⟩ := (X9.out.here wr).int hjl
                have hz9 : z = (j : Int) - (k : Int) := HZ.out.symm.trans ho9
                subst hz9
                clear ho9 HZ
                have t9 : (((j : Int) - (k : Int)) != ((j : Int) - (k : Int))) = false := by simp
                go_wp2_with fail
                go_roundw
                case rel => exact ⟨j + 1, by go_num, by omega, az_⟩
                case measure => simp [intOf]; omega
              · obtain rfl : j = out.length := by omega
                obtain ⟨wz, rfl⟩ : ∃ wz : World, wz = wr := ⟨_, rfl⟩
                have X6 := Lib.hid (X5.out.below az_.below)
                go_wp2_with fail
                refine (lnew X6.out hsq.out _ inferInstance (by omega) (by omega) (by omega)).mono ?_
                rintro e w7 ⟨g7, r7, rfl, hq, hg7, hr, hk7⟩
                have aB_w7 : After (w.alloc (.cells #[.slice A h.length c, .slice B l.length d] 24)) w7 := after_after aB_wz hk7
                have h_w7 := HK.out w7 aB_w7
                have l_w7 : Le (w.heap.size + 1) w7 := ⟨Nat.le_trans hw aB_w7.below.size⟩
                have aw_w7 : After w w7 := after_after inferInstance aB_w7
                have HQ7 := Lib.hid hq
                have HR7 := Lib.hid hr
                clear hq hr
                go_wp2_with fail
                refine (play_e (x.here wz) HV.out w7 hk7 HQ7.out hg7 HR7.out hfa hta hTle (by omega) hfull2.out (by have := HT.out; omega)).mono ?_
                rintro e w8 ⟨v8, rfl, hk8⟩
                have aB_w8 : After (w.alloc (.cells #[.slice A h.length c, .slice B l.length d] 24)) w8 := after_after aB_wz hk8
                have h_w8 := HK.out w8 aB_w8
                have l_w8 : Le (w.heap.size + 1) w8 := ⟨Nat.le_trans hw aB_w8.below.size⟩
                have aw_w8 : After w w8 := after_after inferInstance aB_w8
                go_wp2_with fail
                refine (llives _).mono ?_
                rintro e w9 ⟨rfl, hk9⟩
                have aB_w9 : After (w.alloc (.cells #[.slice A h.length c, .slice B l.length d] 24)) w9 := after_after aB_w8 hk9
                have h_w9 := HK.out w9 aB_w9
                have l_w9 : Le (w.heap.size + 1) w9 := ⟨Nat.le_trans hw aB_w9.below.size⟩
                have aw_w9 : After w w9 := after_after inferInstance aB_w9
                go_wp2_with fail
                go_ret
                exact ⟨rfl, @After.is_more w _ aw_w9⟩
  · obtain ⟨e, he, hne⟩ : ∃ e, checkI h l = e ∧ (e = 5 ∨ e = 3) := by
      rcases check_cases h l with hv' | ⟨_, h5 | h5⟩
      · exact absurd hv' hv
      · exact ⟨5, h5, .inl rfl⟩
      · exact ⟨3, h5, .inr rfl⟩
    have hc := Lib.hid he
    clear he
    rcases hne with rfl | rfl
    all_goals
      go_enter Try.func6, Try.ntmps6
      go_wp2_with fail
      refine (lrcheck x hc.out _ inferInstance).mono ?_
      rintro e w1 ⟨rfl, hk1⟩
      have aB_w1 : After (w.alloc (.cells #[.slice A h.length c, .slice B l.length d] 24)) w1 := after_after inferInstance hk1
      have h_w1 := HK.out w1 aB_w1
      have l_w1 : Le (w.heap.size + 1) w1 := ⟨Nat.le_trans hw aB_w1.below.size⟩
      have aw_w1 : After w w1 := after_after inferInstance aB_w1
      go_wp2_with fail
      refine (llives _).mono ?_
      rintro e w2 ⟨rfl, hk2⟩
      have aB_w2 : After (w.alloc (.cells #[.slice A h.length c, .slice B l.length d] 24)) w2 := after_after aB_w1 hk2
      have h_w2 := HK.out w2 aB_w2
      have l_w2 : Le (w.heap.size + 1) w2 := ⟨Nat.le_trans hw aB_w2.below.size⟩
      have aw_w2 : After w w2 := after_after inferInstance aB_w2
      go_wp2_with fail
      go_ret
      exact ⟨rfl, @After.is_more w _ aw_w2⟩

set_option maxRecDepth 100000 in
theorem lifted (os : Os) (started : os.Started) (H : Type) (enc : TypeId × Value → H) :
    ReturnsInHanded {} Try.checked os 6 .any (Rows.queueExactSpec.pre6 enc Try.prog Try.f6 Rows.queueExactRow.domain false) (Rows.queueExactSpec.post enc Try.prog Try.f6 false true false false) := by
  refine returnsInHanded_of_change_sized (C := Try.checked) own started (by kernel_rfl) Try.func6
    (ChangeSpec.witness6 (enc := enc) (C := Try.checked) false ⟨#[], #[.agg #[.slice none 0 0, .slice none 0 0], .int .i64 0, .int .i64 0, .int .u8 0, .bool false], []⟩ 8 (by kernel_rfl) (by kernel_rfl) (by kernel_rfl) (by kernel_rfl)) ?_
  intro W base args ds gs before hval0 hW hcnd hsz0 _
  have hval : ∀ (j : Nat) t v, Try.f6.params[j]? = some t → args[j]? = some v → Value.okWide Try.prog W .any base t v := hval0
  have hsz : (DataW.weightsEach Try.prog (Try.f6.params.toList ++ Rows.queueExactSpec.plain.varTypes Try.prog) (ds ++ gs)).all (· ≤ reachBytes) = true := hsz0
  have hW' := hW
  obtain ⟨p, q, hA0, hV, rfl, hfz, hnd⟩ := hW
  have hA : DataW.TrodAll enc Try.prog W 0 (fun _ => true) true Try.f6.params.toList args.toList ds p := hA0
  rw [Try.params6] at hA hval hsz
  obtain ⟨v0, vs0, d0, ds0, p0, q0, hargs, rfl, rfl, h0, r0⟩ := trodAll_cons hA
  obtain ⟨v1, vs1, d1, ds1, p1, q1, rfl, rfl, rfl, h1, r1⟩ := trodAll_cons r0
  obtain ⟨v2, vs2, d2, ds2, p2, q2, rfl, rfl, rfl, h2, r2⟩ := trodAll_cons r1
  obtain ⟨v3, vs3, d3, ds3, p3, q3, rfl, rfl, rfl, h3, r3⟩ := trodAll_cons r2
  obtain ⟨v4, vs4, d4, ds4, p4, q4, rfl, rfl, rfl, h4, r4⟩ := trodAll_cons r3
  obtain ⟨rfl, rfl, rfl⟩ := trodAll_nil r4
  obtain rfl : args = #[v0, v1, v2, v3, v4] := by cases args; simp_all
  obtain ⟨rfl, rfl⟩ := trodVars_none hV
  have k0 := h0
  have lt0 : ∀ x ∈ p0, x.block < W.heap.size := by obtain ⟨m, hm⟩ := k0; exact DataW.trod_lt m _ _ _ hm
  have z0 : ∀ n ∈ d0.weights Try.prog 24, n ≤ reachBytes := fun n hn => by
    simpa using List.all_eq_true.1 hsz n (DataW.weights_mem_each (j := 0) (t := 24) rfl rfl n hn)
  obtain ⟨A0, c0, B0, c0', hl0, ll0, rfl, x0⟩ := open_word (e := 4) Try.underlying24 (by kernel_rfl) (by kernel_rfl) Try.underlying22 Try.underlying22 Try.underlying4 (by kernel_rfl) (by kernel_rfl) (hval 0 24 v0 rfl rfl) h0 z0
  obtain ⟨a1, rfl, rfl, rfl, w1⟩ := open_int Try.underlying3 (hval 1 3 v1 rfl rfl) h1
  obtain ⟨a2, rfl, rfl, rfl, w2⟩ := open_int Try.underlying3 (hval 2 3 v2 rfl rfl) h2
  obtain ⟨a3, rfl, rfl, rfl, w3⟩ := open_int Try.underlying5 (hval 3 5 v3 rfl rfl) h3
  obtain ⟨a4, rfl, rfl, rfl⟩ := open_bool Try.underlying4 (hval 4 4 v4 rfl rfl) h4
  clear hA0 hval0 hsz0 hsz
  refine (walk W x0 a1 w1 a2 w2 a3 w3 a4).mono fun e W' ⟨he, y, hy⟩ => ?_
  subst he
  have bel : Below W.heap.size W W' := by rw [hy]; exact more_below W y
  exact ⟨_, rfl, _, _, _, [], _, [], hW', trodAll_mk1 (shut_bool Try.underlying4 _), (trodAll_cons_mk (Below.trod laidOut (by kernel_rfl) (of_decide_eq_true (by kernel_rfl)) k0 bel lt0) (trodAll_cons_mk (shut_int Try.underlying3 w1) (trodAll_cons_mk (shut_int Try.underlying3 w2) (trodAll_cons_mk (shut_int Try.underlying5 w3) (trodAll_cons_mk (shut_bool Try.underlying4 a4) trodAll_mk0))))), rfl, bel.frame _, fun h => by cases h⟩

theorem over : Rows.queueExactRow.holds Try.pinned (OpenSpec.ofChange Rows.queueExactSpec) :=
  OpenClaim.holds_of_wide 6 Try.f6 rfl rfl rfl rfl rfl rfl rfl ⟨rfl, rfl, rfl, rfl, rfl⟩ rfl rfl rfl rfl rfl (by kernel_rfl) Try.func6 (by kernel_rfl)
    (of_decide_eq_true (by kernel_rfl)) (by unfold Func.isWrapper; first | (rw [if_pos (by decide +kernel)]; kernel_rfl) | (rw [if_neg (by decide +kernel)]; exact ⟨rfl, rfl⟩))
    (fun os started H enc _ => lifted os started H enc)

theorem proved : Rows.QueueExactSaid := over
#print axioms proved
end Go.Proofs.Ytglfocldoaigiaa.queueExact
