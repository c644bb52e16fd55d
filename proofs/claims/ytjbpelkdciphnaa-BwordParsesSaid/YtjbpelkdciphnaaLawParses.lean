/-
  Every text is read, or refused, as the chapter says; the text of what was read is the text. No conditions.
-/
import Derived.Test.YtjbpelkdciphnaaAwake2
import Derived.Test.YtjbpelkdciphnaaGives
import Derived.Test.YtjbpelkdciphnaaLift
import Derived.ChangeMaps5
import Derived.Test.YtjbpelkdciphnaaParse
import Derived.Test.YtjbpelkdciphnaaRParse
namespace Go.Proofs.Ytjbpelkdciphnaa.bwordParses
open Go.ChangeShapes Go.WideShapes Go.ChangeAt Go.RowKit Go.BigFrame
set_option linter.unusedVariables false
set_option linter.unusedSimpArgs false

theorem own : ownKnob Try.prog.godebug = none := by kernel_rfl
theorem laidOut : laidOutB Try.prog = true := by kernel_rfl

section
variable {w0 : World} {A : Option Addr} {c : Nat} {B : Option Addr} {d : Nat} {h l : List Bool} {A' : Option Addr} {c' : Nat} {B' : Option Addr} {d' : Nat} {h' l' : List Bool}
theorem huge_v (x : RW w0 A c B d h l) {v : Bool} (e : hugeB h l = v) : Gives w0 12 #[.agg #[.slice A h.length c, .slice B l.length d]] (.bool v) := fun U _ => e ▸ huge_any x U
theorem awake_v (w : World) : Gives w 13 #[] (.bool true) := fun U _ => awake_any U
theorem check_v (x : RW w0 A c B d h l) {v : Int} (e : checkI h l = v) : Gives w0 19 #[.agg #[.slice A h.length c, .slice B l.length d]] (.int .i64 v) := fun U _ => e ▸ check_any x U
theorem rcheck_v (x : RW w0 A c B d h l) {v : Int} (e : checkI h l = v) : Gives w0 21 #[.agg #[.slice A h.length c, .slice B l.length d]] (.int .i64 v) := fun U _ => e ▸ rcheck_any x U
theorem at_v (x : RW w0 A c B d h l) {i : Int} (hi : i ≤ 9223372036854775807) {v : Bool} (e : atB h l i = v) : Gives w0 22 #[.agg #[.slice A h.length c, .slice B l.length d], .int .i64 i] (.bool v) := fun U _ => e ▸ at_any x U i hi
theorem rat_v (x : RW w0 A c B d h l) {i : Int} (hi : i ≤ 9223372036854775807) {v : Bool} (e : atB h l i = v) : Gives w0 23 #[.agg #[.slice A h.length c, .slice B l.length d], .int .i64 i] (.bool v) := fun U _ => e ▸ rat_any x U i hi
theorem ones_v (x : RW w0 A c B d h l) {i : Int} (hi : i ≤ 9223372036854775807) {v : Int} (e : onesI h l i = v) : Gives w0 17 #[.agg #[.slice A h.length c, .slice B l.length d], .int .i64 i] (.int .i64 v) := fun U _ => e ▸ ones_all x U i hi
theorem rones_v (x : RW w0 A c B d h l) {i : Int} (hi : i ≤ 9223372036854775807) {v : Int} (e : onesI h l i = v) : Gives w0 24 #[.agg #[.slice A h.length c, .slice B l.length d], .int .i64 i] (.int .i64 v) := fun U _ => e ▸ rones_all x U i hi
theorem equal_v (x : RW w0 A c B d h l) (x' : RW w0 A' c' B' d' h' l') {v : Bool} (e : (h == h' && l == l') = v) : Gives w0 16 #[.agg #[.slice A h.length c, .slice B l.length d], .agg #[.slice A' h'.length c', .slice B' l'.length d']] (.bool v) := fun U _ => e ▸ requal_any x x' U
theorem on_v (x : RW w0 A c B d h l) (x' : RW w0 A' c' B' d' h' l') {H L : List Bool} {v : Int} (e : onW h l h' l' = ((H, L), v)) : GivesW w0 14 #[.agg #[.slice A h.length c, .slice B l.length d], .agg #[.slice A' h'.length c', .slice B' l'.length d']] H L (fun a => .tuple #[a, .int .i64 v]) := fun U _ => by have := on_any x x' U; rwa [e] at this
theorem norm_v (x : RW w0 A c B d h l) {H L : List Bool} (e : normW h l = (H, L)) : GivesW w0 20 #[.agg #[.slice A h.length c, .slice B l.length d]] H L (fun a => a) := fun U _ => by have := norm_any x U; rwa [e] at this
theorem rnorm_v (x : RW w0 A c B d h l) {H L : List Bool} (e : normW h l = (H, L)) : GivesW w0 25 #[.agg #[.slice A h.length c, .slice B l.length d]] H L (fun a => a) := fun U _ => by have := rnorm_any x U; rwa [e] at this
theorem i64_le {k : Int} (h : (Lit.int .i64 k).wf = true) : -9223372036854775808 ≤ k ∧ k ≤ 9223372036854775807 := by
  simpa [Lit.wf, IntKind.min, IntKind.max, IntKind.signed, IntKind.bits] using h
theorem onesI_step (h l : List Bool) (k : Nat) : onesI h l ((k : Int) + 1) = onesI h l k + (if atB h l k then 1 else 0) := by
  by_cases hv : Valid h l
  · have := W.ones_succ h l k hv.1
    have e : ((k : Int) + 1) = ((k + 1 : Nat) : Int) := by push_cast; rfl
    rw [e, onesI_ok hv, onesI_ok hv, atB_ok hv (by omega), letterB_nat, this]
    cases W.letter h l k <;> simp
  · rw [onesI_bad hv, onesI_bad hv, atB_bad hv]; simp
theorem onesI_bd2 (h l : List Bool) (k : Nat) : 0 ≤ onesI h l k ∧ onesI h l k ≤ k := by
  by_cases hv : Valid h l
  · rw [onesI_ok hv]; have := W.ones_le h l k hv.1; omega
  · rw [onesI_bad hv]; omega
end
open Go.ChangeMaps
theorem text_v {w0 : World} {A c B d} {h l : List Bool} (x : RW w0 A c B d h l) {S : ByteArray} {v : Int} (e1 : (⟨(textV h l).1.toArray⟩ : ByteArray) = S) (e2 : (textV h l).2 = v) : Gives w0 35 #[.agg #[.slice A h.length c, .slice B l.length d]] (.tuple #[.string S, .int .i64 v]) := fun U _ => by subst e1 e2; exact text_any x U
theorem rtext_v {w0 : World} {A c B d} {h l : List Bool} (x : RW w0 A c B d h l) {S : ByteArray} {v : Int} (e1 : (⟨(textV h l).1.toArray⟩ : ByteArray) = S) (e2 : (textV h l).2 = v) : Gives w0 36 #[.agg #[.slice A h.length c, .slice B l.length d]] (.tuple #[.string S, .int .i64 v]) := fun U _ => by subst e1 e2; exact rtext_any x U
theorem parse_v (w : World) {S : ByteArray} (hs : S.size ≤ 1000000) {H L : List Bool} {v : Int} (e : parseV S.data.toList = ((H, L), v)) : GivesW w 37 #[.string S] H L (fun a => .tuple #[a, .int .i64 v]) := fun U _ => by have := parse_any S U hs; rwa [e] at this
theorem rparse_v (w : World) {S : ByteArray} (hs : S.size ≤ 1000000) {H L : List Bool} {v : Int} (e : parseV S.data.toList = ((H, L), v)) : GivesW w 38 #[.string S] H L (fun a => .tuple #[a, .int .i64 v]) := fun U _ => by have := rparse_any S U hs; rwa [e] at this
theorem textB_length (h l : List Bool) : (textB h l).length = h.length + l.length + 2 := by rw [textB_eq]; simp [digitsB_length]; omega
theorem parse_shape (l : List UInt8) : (∃ H L, parseV l = ((H, L), 0) ∧ IsText l H L) ∨ parseV l = (([], []), 3) ∨ parseV l = (([], []), 5) := by
  by_cases h1 : 66 < l.length
  · exact .inr (.inl (parseV_long h1))
  · by_cases h2 : ∃ H L, IsText l H L
    · obtain ⟨H, L, t⟩ := h2
      exact .inl ⟨H, L, parseV_text h1 t, t⟩
    · exact .inr (.inr (parseV_none h1 fun H L t => h2 ⟨H, L, t⟩))
set_option maxRecDepth 100000 in
set_option maxHeartbeats 3200000 in
theorem walk (w : World) (s : ByteArray) (_ : s.size ≤ 140737488355328) :
    Calls Try.prog 11 #[.string s] w fun e w' => e = .returned (.bool true) ∧ ∃ y, w' = w.more y := by
  have GA := awake_v w
  by_cases hs : 5000 < s.size
  · have hsI : (5000 : Int) < (s.size : Int) := by omega
    go_enter Try.func11, Try.ntmps11
    go_wp2_with fail
    refine (Gives.on GA _ inferInstance).mono ?_
    rintro e w1_ ⟨rfl, hy⟩
    have a0_w1_ : After w w1_ := after_of_more hy inferInstance
    have aw_w1_ : After w w1_ := after_after inferInstance a0_w1_
    clear hy
    go_wp2_with fail
    go_ret
    exact ⟨rfl, @After.is_more w _ (after_after aw_w1_ inferInstance)⟩
  · have hsI : (s.size : Int) ≤ 5000 := by omega
    rcases parse_shape s.data.toList with ⟨H, L, e, t⟩ | hbad
    · have G1 := parse_v w (S := s) (by omega) e
      have G2 := rparse_v w (S := s) (by omega) e
      have HT : Hid ((⟨(textV H L).1.toArray⟩ : ByteArray) = s ∧ (textV H L).2 = 0) := by
        rw [textV_ok t.2]
        exact ⟨(bytes_eq t.1).symm, rfl⟩
      clear e t
      go_enter Try.func11, Try.ntmps11
      go_wp2_with fail
      refine (GivesW.on G1 _ inferInstance).mono ?_
      rintro e w1_ ⟨A7, c7, B7, d7, rfl, x7, hy⟩
      have a0_w1_ : After w w1_ := after_of_more hy inferInstance
      have aw_w1_ : After w w1_ := after_after inferInstance a0_w1_
      clear hy
      have X7 := Lib.hid x7
      clear x7
      go_wp2_with fail
      obtain ⟨g7, hg_⟩ : ∃ g, w1_.heap.size = g := ⟨_, rfl⟩
      obtain ⟨w2_, hU_, b7, HK7, Lq7⟩ : ∃ U, w1_.alloc (.cells #[.slice A7 H.length c7, .slice B7 L.length d7] 24) = U ∧ After w1_ U ∧ Hid (∀ V, After U V → V.cell? ⟨g7, 0, none⟩ = some (.slice A7 H.length c7) ∧ V.cell? ⟨g7, 1, none⟩ = some (.slice B7 L.length d7)) ∧ Le (g7 + 1) U := by
        refine ⟨_, rfl, inferInstance, fun V k_ => ?_, ⟨by rw [← hg_]; simp⟩⟩
        have f_ := (Blk.new w1_ 24 #[.slice A7 H.length c7, .slice B7 L.length d7]).after (w' := V)
        rw [hg_] at f_
        exact ⟨by rw [f_.cell]; rfl, by rw [f_.cell]; rfl⟩
      rw [hU_, hg_]
      clear hU_ hg_
      have a0_w2_ : After w w2_ := after_after a0_w1_ b7
      have aw_w2_ : After w w2_ := after_after inferInstance a0_w2_
      have a7_w2_ : After w2_ w2_ := inferInstance
      have h7_w2_ := HK7.out w2_ a7_w2_
      replace X7 := Lib.hid (X7.out.here w2_)
      refine (GivesW.on G2 _ (after_after aw_w2_ inferInstance)).mono ?_
      rintro e w3_ ⟨A8, c8, B8, d8, rfl, x8, hy⟩
      have a0_w3_ : After w w3_ := after_of_more hy (after_after a0_w2_ inferInstance)
      have a7_w3_ : After w2_ w3_ := after_of_more hy (after_after a7_w2_ inferInstance)
      have l70_w3_ : Le (g7 + 1) w3_ := ⟨Nat.le_trans Lq7.le a7_w3_.below.size⟩
      have h7_w3_ := HK7.out w3_ a7_w3_
      have aw_w3_ : After w w3_ := after_after inferInstance a0_w3_
      clear hy
      have X8 := Lib.hid x8
      clear x8
      go_wp2_with fail
      obtain ⟨g8, hg_⟩ : ∃ g, w3_.heap.size = g := ⟨_, rfl⟩
      obtain ⟨w4_, hU_, b8, HK8, Lq8⟩ : ∃ U, w3_.alloc (.cells #[.slice A8 H.length c8, .slice B8 L.length d8] 24) = U ∧ After w3_ U ∧ Hid (∀ V, After U V → V.cell? ⟨g8, 0, none⟩ = some (.slice A8 H.length c8) ∧ V.cell? ⟨g8, 1, none⟩ = some (.slice B8 L.length d8)) ∧ Le (g8 + 1) U := by
        refine ⟨_, rfl, inferInstance, fun V k_ => ?_, ⟨by rw [← hg_]; simp⟩⟩
        have f_ := (Blk.new w3_ 24 #[.slice A8 H.length c8, .slice B8 L.length d8]).after (w' := V)
        rw [hg_] at f_
        exact ⟨by rw [f_.cell]; rfl, by rw [f_.cell]; rfl⟩
      rw [hU_, hg_]
      clear hU_ hg_
      have a0_w4_ : After w w4_ := after_after a0_w3_ b8
      have a7_w4_ : After w2_ w4_ := after_after a7_w3_ b8
      have l70_w4_ : Le (g7 + 1) w4_ := ⟨Nat.le_trans Lq7.le a7_w4_.below.size⟩
      have h7_w4_ := HK7.out w4_ a7_w4_
      have aw_w4_ : After w w4_ := after_after inferInstance a0_w4_
      have a8_w4_ : After w4_ w4_ := inferInstance
      have h8_w4_ := HK8.out w4_ a8_w4_
      replace X8 := Lib.hid (X8.out.here w4_)
      have G6 := equal_v (X7.out.here w4_) X8.out (v := true) (by simp)
      refine (Gives.on G6 _ (after_after a8_w4_ inferInstance)).mono ?_
      rintro e w5_ ⟨rfl, hy⟩
      have a0_w5_ : After w w5_ := after_of_more hy (after_after a0_w4_ inferInstance)
      have a7_w5_ : After w2_ w5_ := after_of_more hy (after_after a7_w4_ inferInstance)
      have l70_w5_ : Le (g7 + 1) w5_ := ⟨Nat.le_trans Lq7.le a7_w5_.below.size⟩
      have h7_w5_ := HK7.out w5_ a7_w5_
      have a8_w5_ : After w4_ w5_ := after_of_more hy (after_after a8_w4_ inferInstance)
      have l80_w5_ : Le (g8 + 1) w5_ := ⟨Nat.le_trans Lq8.le a8_w5_.below.size⟩
      have h8_w5_ := HK8.out w5_ a8_w5_
      have aw_w5_ : After w w5_ := after_after inferInstance a0_w5_
      clear hy
      have G7 := text_v (X7.out.here w5_) HT.out.1 HT.out.2
      go_wp2_with fail
      refine (Gives.on G7 _ inferInstance).mono ?_
      rintro e w6_ ⟨rfl, hy⟩
      have a0_w6_ : After w w6_ := after_of_more hy (after_after a0_w5_ inferInstance)
      have a7_w6_ : After w2_ w6_ := after_of_more hy (after_after a7_w5_ inferInstance)
      have l70_w6_ : Le (g7 + 1) w6_ := ⟨Nat.le_trans Lq7.le a7_w6_.below.size⟩
      have h7_w6_ := HK7.out w6_ a7_w6_
      have a8_w6_ : After w4_ w6_ := after_of_more hy (after_after a8_w5_ inferInstance)
      have l80_w6_ : Le (g8 + 1) w6_ := ⟨Nat.le_trans Lq8.le a8_w6_.below.size⟩
      have h8_w6_ := HK8.out w6_ a8_w6_
      have aw_w6_ : After w w6_ := after_after inferInstance a0_w6_
      clear hy
      go_wp2_with fail
      refine (Gives.on GA _ (after_after aw_w6_ inferInstance)).mono ?_
      rintro e w7_ ⟨rfl, hy⟩
      have a0_w7_ : After w w7_ := after_of_more hy (after_after a0_w6_ inferInstance)
      have a7_w7_ : After w2_ w7_ := after_of_more hy (after_after a7_w6_ inferInstance)
      have l70_w7_ : Le (g7 + 1) w7_ := ⟨Nat.le_trans Lq7.le a7_w7_.below.size⟩
      have h7_w7_ := HK7.out w7_ a7_w7_
      have a8_w7_ : After w4_ w7_ := after_of_more hy (after_after a8_w6_ inferInstance)
      have l80_w7_ : Le (g8 + 1) w7_ := ⟨Nat.le_trans Lq8.le a8_w7_.below.size⟩
      have h8_w7_ := HK8.out w7_ a8_w7_
      have aw_w7_ : After w w7_ := after_after inferInstance a0_w7_
      clear hy
      go_wp2_with fail
      go_ret
      exact ⟨rfl, @After.is_more w _ (after_after aw_w7_ inferInstance)⟩
    · obtain ⟨O, hO⟩ : ∃ O : List Bool, [] = O := ⟨_, rfl⟩
      have HT : Hid ((⟨(textV O O).1.toArray⟩ : ByteArray) = ⟨#[]⟩ ∧ (textV O O).2 = 5) := by
        subst hO
        have hn : ¬ Valid [] [] := fun h => by have := h.1; simp at this
        rw [textV_bad hn]
        exact ⟨rfl, by decide⟩
      rw [hO] at hbad
      clear hO
      rcases hbad with e | e
      all_goals
        have G1 := parse_v w (S := s) (by omega) e
        have G2 := rparse_v w (S := s) (by omega) e
        clear e
        go_enter Try.func11, Try.ntmps11
        go_wp2_with fail
        refine (GivesW.on G1 _ inferInstance).mono ?_
        rintro e w1_ ⟨A7, c7, B7, d7, rfl, x7, hy⟩
        have a0_w1_ : After w w1_ := after_of_more hy inferInstance
        have aw_w1_ : After w w1_ := after_after inferInstance a0_w1_
        clear hy
        have X7 := Lib.hid x7
        clear x7
        go_wp2_with fail
        obtain ⟨g7, hg_⟩ : ∃ g, w1_.heap.size = g := ⟨_, rfl⟩
        obtain ⟨w2_, hU_, b7, HK7, Lq7⟩ : ∃ U, w1_.alloc (.cells #[.slice A7 O.length c7, .slice B7 O.length d7] 24) = U ∧ After w1_ U ∧ Hid (∀ V, After U V → V.cell? ⟨g7, 0, none⟩ = some (.slice A7 O.length c7) ∧ V.cell? ⟨g7, 1, none⟩ = some (.slice B7 O.length d7)) ∧ Le (g7 + 1) U := by
          refine ⟨_, rfl, inferInstance, fun V k_ => ?_, ⟨by rw [← hg_]; simp⟩⟩
          have f_ := (Blk.new w1_ 24 #[.slice A7 O.length c7, .slice B7 O.length d7]).after (w' := V)
          rw [hg_] at f_
          exact ⟨by rw [f_.cell]; rfl, by rw [f_.cell]; rfl⟩
        rw [hU_, hg_]
        clear hU_ hg_
        have a0_w2_ : After w w2_ := after_after a0_w1_ b7
        have aw_w2_ : After w w2_ := after_after inferInstance a0_w2_
        have a7_w2_ : After w2_ w2_ := inferInstance
        have h7_w2_ := HK7.out w2_ a7_w2_
        replace X7 := Lib.hid (X7.out.here w2_)
        refine (GivesW.on G2 _ (after_after aw_w2_ inferInstance)).mono ?_
        rintro e w3_ ⟨A8, c8, B8, d8, rfl, x8, hy⟩
        have a0_w3_ : After w w3_ := after_of_more hy (after_after a0_w2_ inferInstance)
        have a7_w3_ : After w2_ w3_ := after_of_more hy (after_after a7_w2_ inferInstance)
        have l70_w3_ : Le (g7 + 1) w3_ := ⟨Nat.le_trans Lq7.le a7_w3_.below.size⟩
        have h7_w3_ := HK7.out w3_ a7_w3_
        have aw_w3_ : After w w3_ := after_after inferInstance a0_w3_
        clear hy
        have X8 := Lib.hid x8
        clear x8
        go_wp2_with fail
        obtain ⟨g8, hg_⟩ : ∃ g, w3_.heap.size = g := ⟨_, rfl⟩
        obtain ⟨w4_, hU_, b8, HK8, Lq8⟩ : ∃ U, w3_.alloc (.cells #[.slice A8 O.length c8, .slice B8 O.length d8] 24) = U ∧ After w3_ U ∧ Hid (∀ V, After U V → V.cell? ⟨g8, 0, none⟩ = some (.slice A8 O.length c8) ∧ V.cell? ⟨g8, 1, none⟩ = some (.slice B8 O.length d8)) ∧ Le (g8 + 1) U := by
          refine ⟨_, rfl, inferInstance, fun V k_ => ?_, ⟨by rw [← hg_]; simp⟩⟩
          have f_ := (Blk.new w3_ 24 #[.slice A8 O.length c8, .slice B8 O.length d8]).after (w' := V)
          rw [hg_] at f_
          exact ⟨by rw [f_.cell]; rfl, by rw [f_.cell]; rfl⟩
        rw [hU_, hg_]
        clear hU_ hg_
        have a0_w4_ : After w w4_ := after_after a0_w3_ b8
        have a7_w4_ : After w2_ w4_ := after_after a7_w3_ b8
        have l70_w4_ : Le (g7 + 1) w4_ := ⟨Nat.le_trans Lq7.le a7_w4_.below.size⟩
        have h7_w4_ := HK7.out w4_ a7_w4_
        have aw_w4_ : After w w4_ := after_after inferInstance a0_w4_
        have a8_w4_ : After w4_ w4_ := inferInstance
        have h8_w4_ := HK8.out w4_ a8_w4_
        replace X8 := Lib.hid (X8.out.here w4_)
        have G6 := equal_v (X7.out.here w4_) X8.out (v := true) (by simp)
        refine (Gives.on G6 _ (after_after a8_w4_ inferInstance)).mono ?_
        rintro e w5_ ⟨rfl, hy⟩
        have a0_w5_ : After w w5_ := after_of_more hy (after_after a0_w4_ inferInstance)
        have a7_w5_ : After w2_ w5_ := after_of_more hy (after_after a7_w4_ inferInstance)
        have l70_w5_ : Le (g7 + 1) w5_ := ⟨Nat.le_trans Lq7.le a7_w5_.below.size⟩
        have h7_w5_ := HK7.out w5_ a7_w5_
        have a8_w5_ : After w4_ w5_ := after_of_more hy (after_after a8_w4_ inferInstance)
        have l80_w5_ : Le (g8 + 1) w5_ := ⟨Nat.le_trans Lq8.le a8_w5_.below.size⟩
        have h8_w5_ := HK8.out w5_ a8_w5_
        have aw_w5_ : After w w5_ := after_after inferInstance a0_w5_
        clear hy
        have G7 := text_v (X7.out.here w5_) HT.out.1 HT.out.2
        go_wp2_with fail
        refine (Gives.on G7 _ inferInstance).mono ?_
        rintro e w6_ ⟨rfl, hy⟩
        have a0_w6_ : After w w6_ := after_of_more hy (after_after a0_w5_ inferInstance)
        have a7_w6_ : After w2_ w6_ := after_of_more hy (after_after a7_w5_ inferInstance)
        have l70_w6_ : Le (g7 + 1) w6_ := ⟨Nat.le_trans Lq7.le a7_w6_.below.size⟩
        have h7_w6_ := HK7.out w6_ a7_w6_
        have a8_w6_ : After w4_ w6_ := after_of_more hy (after_after a8_w5_ inferInstance)
        have l80_w6_ : Le (g8 + 1) w6_ := ⟨Nat.le_trans Lq8.le a8_w6_.below.size⟩
        have h8_w6_ := HK8.out w6_ a8_w6_
        have aw_w6_ : After w w6_ := after_after inferInstance a0_w6_
        clear hy
        go_wp2_with fail
        refine (Gives.on GA _ (after_after aw_w6_ inferInstance)).mono ?_
        rintro e w7_ ⟨rfl, hy⟩
        have a0_w7_ : After w w7_ := after_of_more hy (after_after a0_w6_ inferInstance)
        have a7_w7_ : After w2_ w7_ := after_of_more hy (after_after a7_w6_ inferInstance)
        have l70_w7_ : Le (g7 + 1) w7_ := ⟨Nat.le_trans Lq7.le a7_w7_.below.size⟩
        have h7_w7_ := HK7.out w7_ a7_w7_
        have a8_w7_ : After w4_ w7_ := after_of_more hy (after_after a8_w6_ inferInstance)
        have l80_w7_ : Le (g8 + 1) w7_ := ⟨Nat.le_trans Lq8.le a8_w7_.below.size⟩
        have h8_w7_ := HK8.out w7_ a8_w7_
        have aw_w7_ : After w w7_ := after_after inferInstance a0_w7_
        clear hy
        go_wp2_with fail
        go_ret
        exact ⟨rfl, @After.is_more w _ (after_after aw_w7_ inferInstance)⟩

set_option maxRecDepth 100000 in
theorem lifted (os : Os) (started : os.Started) (H : Type) (enc : TypeId × Value → H) :
    ReturnsInHanded {} Try.checked os 11 .any (Rows.bwordParsesSpec.pre6 enc Try.prog Try.f11 Rows.bwordParsesRow.domain false) (Rows.bwordParsesSpec.post enc Try.prog Try.f11 false true false false) := by
  refine returnsInHanded_of_change_sized (C := Try.checked) own started (by kernel_rfl) Try.func11
    (ChangeSpec.witness6 (enc := enc) (C := Try.checked) false ⟨#[], #[.string ByteArray.empty], []⟩ 8 (by kernel_rfl) (by kernel_rfl) (by kernel_rfl) (by kernel_rfl)) ?_
  intro W base args ds gs before hval0 hW hcnd hsz0 _
  have hval : ∀ (j : Nat) t v, Try.f11.params[j]? = some t → args[j]? = some v → Value.okWide Try.prog W .any base t v := hval0
  have hsz : (DataW.weightsEach Try.prog (Try.f11.params.toList ++ Rows.bwordParsesSpec.plain.varTypes Try.prog) (ds ++ gs)).all (· ≤ reachBytes) = true := hsz0
  have hW' := hW
  obtain ⟨p, q, hA0, hV, rfl, hfz, hnd⟩ := hW
  have hA : DataW.TrodAll enc Try.prog W 0 (fun _ => true) true Try.f11.params.toList args.toList ds p := hA0
  rw [Try.params11] at hA hval hsz
  obtain ⟨v0, vs0, d0, ds0, p0, q0, hargs, rfl, rfl, h0, r0⟩ := trodAll_cons hA
  obtain ⟨rfl, rfl, rfl⟩ := trodAll_nil r0
  obtain rfl : args = #[v0] := by cases args; simp_all
  obtain ⟨rfl, rfl⟩ := trodVars_none hV
  have z0 : ∀ n ∈ d0.weights Try.prog 9, n ≤ reachBytes := fun n hn => by
    simpa using List.all_eq_true.1 hsz n (DataW.weights_mem_each (j := 0) (t := 9) rfl rfl n hn)
  obtain ⟨s0, rfl, rfl, rfl, w0⟩ := open_string Try.underlying9 (hval 0 9 v0 rfl rfl) h0
  have n0 : s0.size ≤ 140737488355328 := Nat.le_trans (show s0.data.toList.length ≤ reachBytes from z0 s0.data.toList.length (by simp [DataW.weights])) (by unfold reachBytes; decide)
  clear hA0 hval0 hsz0 hsz
  refine (walk W s0 n0).mono fun e W' ⟨he, y, hy⟩ => ?_
  subst he
  have bel : Below W.heap.size W W' := by rw [hy]; exact more_below W y
  exact ⟨_, rfl, _, _, _, [], _, [], hW', trodAll_mk1 (shut_bool Try.underlying4 _), (trodAll_cons_mk (shut_string Try.underlying9 w0) trodAll_mk0), rfl, bel.frame _, fun h => by cases h⟩

theorem over : Rows.bwordParsesRow.holds Try.pinned (OpenSpec.ofChange Rows.bwordParsesSpec) :=
  OpenClaim.holds_of_wide 11 Try.f11 rfl rfl rfl rfl rfl rfl rfl ⟨rfl, rfl, rfl, rfl, rfl⟩ rfl rfl rfl rfl rfl (by kernel_rfl) Try.func11 (by kernel_rfl)
    (of_decide_eq_true (by kernel_rfl)) (by unfold Func.isWrapper; first | (rw [if_pos (by decide +kernel)]; kernel_rfl) | (rw [if_neg (by decide +kernel)]; exact ⟨rfl, rfl⟩))
    (fun os started H enc _ => lifted os started H enc)

theorem proved : Rows.BwordParsesSaid := over
#print axioms proved
end Go.Proofs.Ytjbpelkdciphnaa.bwordParses
