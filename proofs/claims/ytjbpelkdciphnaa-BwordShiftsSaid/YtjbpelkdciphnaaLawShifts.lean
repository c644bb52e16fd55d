/-
  Shifting is the chapter's, for every word and all numbers; letter by letter; shifting twice is shifting once by the sum. No conditions.
-/
import Derived.Test.YtjbpelkdciphnaaAwake2
import Derived.Test.YtjbpelkdciphnaaGives
import Derived.Test.YtjbpelkdciphnaaLift
import Derived.Test.YtjbpelkdciphnaaShiftFacts
namespace Go.Proofs.Ytjbpelkdciphnaa.bwordShifts
open Go.ChangeShapes Go.WideShapes Go.ChangeAt Go.RowKit Go.BigFrame
set_option linter.unusedVariables false
set_option linter.unusedSimpArgs false

theorem own : ownKnob Try.prog.godebug = none := by kernel_rfl
theorem laidOut : laidOutB Try.prog = true := by kernel_rfl

section
variable {w0 : World} {A : Option Addr} {c : Nat} {B : Option Addr} {d : Nat} {h l : List Bool} {A' : Option Addr} {c' : Nat} {B' : Option Addr} {d' : Nat} {h' l' : List Bool}
theorem huge_v (x : RW w0 A c B d h l) {v : Bool} (e : hugeB h l = v) : Gives w0 12 #[.agg #[.slice A h.length c, .slice B l.length d]] (.bool v) := fun U _ => e ▸ huge_any x U
theorem awake_v (w : World) : Gives w 13 #[] (.bool true) := fun U _ => awake_any U
theorem check_v (x : RW w0 A c B d h l) {v : Int} (e : checkI h l = v) : Gives w0 19 #[.agg #[.slice A h.length c, .slice B l.length d]] (.int .i64 v) := fun U _ => e ▸ check_any x U
theorem rcheck_v (x : RW w0 A c B d h l) {v : Int} (e : checkI h l = v) : Gives w0 21 #[.agg #[.slice A h.length c, .slice B l.length d]] (.int .i64 v) := fun U _ => e ▸ rcheck_any x U
theorem at_v (x : RW w0 A c B d h l) {i : Int} (hi : i ≤ 9223372036854775807) {v : Bool} (e : atB h l i = v) : Gives w0 22 #[.agg #[.slice A h.length c, .slice B l.length d], .int .i64 i] (.bool v) := fun U _ => e ▸ at_any x U i hi
theorem rat_v (x : RW w0 A c B d h l) {i : Int} (hi : i ≤ 9223372036854775807) {v : Bool} (e : atB h l i = v) : Gives w0 23 #[.agg #[.slice A h.length c, .slice B l.length d], .int .i64 i] (.bool v) := fun U _ => e ▸ rat_any x U i hi
theorem ones_v (x : RW w0 A c B d h l) {i : Int} (hi : i ≤ 9223372036854775807) {v : Int} (e : onesI h l i = v) : Gives w0 17 #[.agg #[.slice A h.length c, .slice B l.length d], .int .i64 i] (.int .i64 v) := fun U _ => e ▸ ones_all x U i hi
theorem rones_v (x : RW w0 A c B d h l) {i : Int} (hi : i ≤ 9223372036854775807) {v : Int} (e : onesI h l i = v) : Gives w0 24 #[.agg #[.slice A h.length c, .slice B l.length d], .int .i64 i] (.int .i64 v) := fun U _ => e ▸ rones_all x U i hi
theorem equal_v (x : RW w0 A c B d h l) (x' : RW w0 A' c' B' d' h' l') {v : Bool} (e : (h == h' && l == l') = v) : Gives w0 16 #[.agg #[.slice A h.length c, .slice B l.length d], .agg #[.slice A' h'.length c', .slice B' l'.length d']] (.bool v) := fun U _ => e ▸ requal_any x x' U
theorem on_v (x : RW w0 A c B d h l) (x' : RW w0 A' c' B' d' h' l') {H L : List Bool} {v : Int} (e : onW h l h' l' = ((H, L), v)) : GivesW w0 14 #[.agg #[.slice A h.length c, .slice B l.length d], .agg #[.slice A' h'.length c', .slice B' l'.length d']] H L (fun a => .tuple #[a, .int .i64 v]) := fun U _ => by have := on_any x x' U; rwa [e] at this
theorem norm_v (x : RW w0 A c B d h l) {H L : List Bool} (e : normW h l = (H, L)) : GivesW w0 20 #[.agg #[.slice A h.length c, .slice B l.length d]] H L (fun a => a) := fun U _ => by have := norm_any x U; rwa [e] at this
theorem rnorm_v (x : RW w0 A c B d h l) {H L : List Bool} (e : normW h l = (H, L)) : GivesW w0 25 #[.agg #[.slice A h.length c, .slice B l.length d]] H L (fun a => a) := fun U _ => by have := rnorm_any x U; rwa [e] at this
theorem i64_le {k : Int} (h : (Lit.int .i64 k).wf = true) : -9223372036854775808 ≤ k ∧ k ≤ 9223372036854775807 := by
  simpa [Lit.wf, IntKind.min, IntKind.max, IntKind.signed, IntKind.bits] using h
theorem onesI_step (h l : List Bool) (k : Nat) : onesI h l ((k : Int) + 1) = onesI h l k + (if atB h l k then 1 else 0) := by
  by_cases hv : Valid h l
  · have := W.ones_succ h l k hv.1
    have e : ((k : Int) + 1) = ((k + 1 : Nat) : Int) := by push_cast; rfl
    rw [e, onesI_ok hv, onesI_ok hv, atB_ok hv (by omega), letterB_nat, this]
    cases W.letter h l k <;> simp
  · rw [onesI_bad hv, onesI_bad hv, atB_bad hv]; simp
theorem onesI_bd2 (h l : List Bool) (k : Nat) : 0 ≤ onesI h l k ∧ onesI h l k ≤ k := by
  by_cases hv : Valid h l
  · rw [onesI_ok hv]; have := W.ones_le h l k hv.1; omega
  · rw [onesI_bad hv]; omega
end
theorem shift_v {w0 : World} {A c B d} {h l : List Bool} (x : RW w0 A c B d h l) {n : Int} {H L : List Bool} {v : Int} (e : shiftW h l n = ((H, L), v)) : GivesW w0 30 #[.agg #[.slice A h.length c, .slice B l.length d], .int .i64 n] H L (fun a => .tuple #[a, .int .i64 v]) := fun U _ => by have := shift_any x U n; rwa [e] at this
theorem rshift_v {w0 : World} {A c B d} {h l : List Bool} (x : RW w0 A c B d h l) {n : Int} {H L : List Bool} {v : Int} (e : shiftW h l n = ((H, L), v)) : GivesW w0 31 #[.agg #[.slice A h.length c, .slice B l.length d], .int .i64 n] H L (fun a => .tuple #[a, .int .i64 v]) := fun U _ => by have := rshift_any x U n; rwa [e] at this
set_option maxRecDepth 100000 in
set_option maxHeartbeats 3200000 in
theorem walk {A B c d h l} (w : World) (x : RW w A c B d h l) (n : Int) (wn : (Lit.int .i64 n).wf = true) (m : Int) (wm : (Lit.int .i64 m).wf = true) :
    Calls Try.prog 8 #[.agg #[.slice A h.length c, .slice B l.length d], .int .i64 n, .int .i64 m] w fun e w' => e = .returned (.bool true) ∧ ∃ y, w' = w.more y := by
  have HK : Hid (∀ U : World, After (w.alloc (.cells #[.slice A h.length c, .slice B l.length d] 24)) U → U.cell? ⟨w.heap.size, 0, none⟩ = some (.slice A h.length c) ∧ U.cell? ⟨w.heap.size, 1, none⟩ = some (.slice B l.length d)) := fun U k => by
    have := (Blk.new w 24 #[.slice A h.length c, .slice B l.length d]).after (w' := U)
    exact ⟨by rw [this.cell]; rfl, by rw [this.cell]; rfl⟩
  have GA := awake_v w
  clear wn wm
  cases h1 : hugeB h l with
  | true =>
    have G1 := huge_v x h1
    clear h1
    go_enter Try.func8, Try.ntmps8
    go_wp2_with fail
    refine (Gives.on G1 _ inferInstance).mono ?_
    rintro e w1_ ⟨rfl, hy⟩
    have a0_w1_ : After (w.alloc (.cells #[.slice A h.length c, .slice B l.length d] 24)) w1_ := after_of_more hy inferInstance
    have l00_w1_ : Le (w.heap.size + 1) w1_ := ⟨by have := a0_w1_.below.size; simp at this; omega⟩
    have h0_w1_ := HK.out w1_ a0_w1_
    have aw_w1_ : After w w1_ := after_after inferInstance a0_w1_
    clear hy
    go_wp2_with fail
    refine (Gives.on GA _ (after_after aw_w1_ inferInstance)).mono ?_
    rintro e w2_ ⟨rfl, hy⟩
    have a0_w2_ : After (w.alloc (.cells #[.slice A h.length c, .slice B l.length d] 24)) w2_ := after_of_more hy (after_after a0_w1_ inferInstance)
    have l00_w2_ : Le (w.heap.size + 1) w2_ := ⟨by have := a0_w2_.below.size; simp at this; omega⟩
    have h0_w2_ := HK.out w2_ a0_w2_
    have aw_w2_ : After w w2_ := after_after inferInstance a0_w2_
    clear hy
    go_wp2_with fail
    go_ret
    exact ⟨rfl, @After.is_more w _ (after_after aw_w2_ inferInstance)⟩
  | false =>
    have G1 := huge_v x h1
    clear h1
    rcases shift_shape h l n with ⟨H, L, eo, hv, hV, n0, he⟩ | ⟨H, L, e, eo, k1, k2⟩
    · have G3 := shift_v x eo
      have G4 := rshift_v x eo
      have HC := Lib.hid (fun j => at_shift hv hV n0 he j)
      have HS := Lib.hid (fun n1 m0 m1 => shift_shift (m := m) eo hv hV n0 n1 m0 m1 he)
      clear eo he hv hV
      by_cases n1 : 100 < n
      · go_enter Try.func8, Try.ntmps8
        go_wp2_with fail
        refine (Gives.on G1 _ inferInstance).mono ?_
        rintro e w1_ ⟨rfl, hy⟩
        have a0_w1_ : After (w.alloc (.cells #[.slice A h.length c, .slice B l.length d] 24)) w1_ := after_of_more hy inferInstance
        have l00_w1_ : Le (w.heap.size + 1) w1_ := ⟨by have := a0_w1_.below.size; simp at this; omega⟩
        have h0_w1_ := HK.out w1_ a0_w1_
        have aw_w1_ : After w w1_ := after_after inferInstance a0_w1_
        clear hy
        go_wp2_with fail
        refine (GivesW.on G3 _ (after_after aw_w1_ inferInstance)).mono ?_
        rintro e w2_ ⟨A3, c3, B3, d3, rfl, x3, hy⟩
        have a0_w2_ : After (w.alloc (.cells #[.slice A h.length c, .slice B l.length d] 24)) w2_ := after_of_more hy (after_after a0_w1_ inferInstance)
        have l00_w2_ : Le (w.heap.size + 1) w2_ := ⟨by have := a0_w2_.below.size; simp at this; omega⟩
        have h0_w2_ := HK.out w2_ a0_w2_
        have aw_w2_ : After w w2_ := after_after inferInstance a0_w2_
        clear hy
        have X3 := Lib.hid x3
        clear x3
        go_wp2_with fail
        obtain ⟨g3, hg_⟩ : ∃ g, w2_.heap.size = g := ⟨_, rfl⟩
        obtain ⟨w3_, hU_, b3, HK3, Lq3⟩ : ∃ U, w2_.alloc (.cells #[.slice A3 H.length c3, .slice B3 L.length d3] 24) = U ∧ After w2_ U ∧ Hid (∀ V, After U V → V.cell? ⟨g3, 0, none⟩ = some (.slice A3 H.length c3) ∧ V.cell? ⟨g3, 1, none⟩ = some (.slice B3 L.length d3)) ∧ Le (g3 + 1) U := by
          refine ⟨_, rfl, inferInstance, fun V k_ => ?_, ⟨by rw [← hg_]; simp⟩⟩
          have f_ := (Blk.new w2_ 24 #[.slice A3 H.length c3, .slice B3 L.length d3]).after (w' := V)
          rw [hg_] at f_
          exact ⟨by rw [f_.cell]; rfl, by rw [f_.cell]; rfl⟩
        rw [hU_, hg_]
        clear hU_ hg_
        have a0_w3_ : After (w.alloc (.cells #[.slice A h.length c, .slice B l.length d] 24)) w3_ := after_after a0_w2_ b3
        have l00_w3_ : Le (w.heap.size + 1) w3_ := ⟨by have := a0_w3_.below.size; simp at this; omega⟩
        have h0_w3_ := HK.out w3_ a0_w3_
        have aw_w3_ : After w w3_ := after_after inferInstance a0_w3_
        have a3_w3_ : After w3_ w3_ := inferInstance
        have h3_w3_ := HK3.out w3_ a3_w3_
        replace X3 := Lib.hid (X3.out.here w3_)
        refine (GivesW.on G4 _ (after_after aw_w3_ inferInstance)).mono ?_
        rintro e w4_ ⟨A4, c4, B4, d4, rfl, x4, hy⟩
        have a0_w4_ : After (w.alloc (.cells #[.slice A h.length c, .slice B l.length d] 24)) w4_ := after_of_more hy (after_after a0_w3_ inferInstance)
        have l00_w4_ : Le (w.heap.size + 1) w4_ := ⟨by have := a0_w4_.below.size; simp at this; omega⟩
        have h0_w4_ := HK.out w4_ a0_w4_
        have a3_w4_ : After w3_ w4_ := after_of_more hy (after_after a3_w3_ inferInstance)
        have l30_w4_ : Le (g3 + 1) w4_ := ⟨Nat.le_trans Lq3.le a3_w4_.below.size⟩
        have h3_w4_ := HK3.out w4_ a3_w4_
        have aw_w4_ : After w w4_ := after_after inferInstance a0_w4_
        clear hy
        have X4 := Lib.hid x4
        clear x4
        go_wp2_with fail
        obtain ⟨g4, hg_⟩ : ∃ g, w4_.heap.size = g := ⟨_, rfl⟩
        obtain ⟨w5_, hU_, b4, HK4, Lq4⟩ : ∃ U, w4_.alloc (.cells #[.slice A4 H.length c4, .slice B4 L.length d4] 24) = U ∧ After w4_ U ∧ Hid (∀ V, After U V → V.cell? ⟨g4, 0, none⟩ = some (.slice A4 H.length c4) ∧ V.cell? ⟨g4, 1, none⟩ = some (.slice B4 L.length d4)) ∧ Le (g4 + 1) U := by
          refine ⟨_, rfl, inferInstance, fun V k_ => ?_, ⟨by rw [← hg_]; simp⟩⟩
          have f_ := (Blk.new w4_ 24 #[.slice A4 H.length c4, .slice B4 L.length d4]).after (w' := V)
          rw [hg_] at f_
          exact ⟨by rw [f_.cell]; rfl, by rw [f_.cell]; rfl⟩
        rw [hU_, hg_]
        clear hU_ hg_
        have a0_w5_ : After (w.alloc (.cells #[.slice A h.length c, .slice B l.length d] 24)) w5_ := after_after a0_w4_ b4
        have l00_w5_ : Le (w.heap.size + 1) w5_ := ⟨by have := a0_w5_.below.size; simp at this; omega⟩
        have h0_w5_ := HK.out w5_ a0_w5_
        have a3_w5_ : After w3_ w5_ := after_after a3_w4_ b4
        have l30_w5_ : Le (g3 + 1) w5_ := ⟨Nat.le_trans Lq3.le a3_w5_.below.size⟩
        have h3_w5_ := HK3.out w5_ a3_w5_
        have aw_w5_ : After w w5_ := after_after inferInstance a0_w5_
        have a4_w5_ : After w5_ w5_ := inferInstance
        have h4_w5_ := HK4.out w5_ a4_w5_
        replace X4 := Lib.hid (X4.out.here w5_)
        have G5 := equal_v (X3.out.here w5_) X4.out (v := true) (by simp)
        refine (Gives.on G5 _ (after_after a4_w5_ inferInstance)).mono ?_
        rintro e w6_ ⟨rfl, hy⟩
        have a0_w6_ : After (w.alloc (.cells #[.slice A h.length c, .slice B l.length d] 24)) w6_ := after_of_more hy (after_after a0_w5_ inferInstance)
        have l00_w6_ : Le (w.heap.size + 1) w6_ := ⟨by have := a0_w6_.below.size; simp at this; omega⟩
        have h0_w6_ := HK.out w6_ a0_w6_
        have a3_w6_ : After w3_ w6_ := after_of_more hy (after_after a3_w5_ inferInstance)
        have l30_w6_ : Le (g3 + 1) w6_ := ⟨Nat.le_trans Lq3.le a3_w6_.below.size⟩
        have h3_w6_ := HK3.out w6_ a3_w6_
        have a4_w6_ : After w5_ w6_ := after_of_more hy (after_after a4_w5_ inferInstance)
        have l40_w6_ : Le (g4 + 1) w6_ := ⟨Nat.le_trans Lq4.le a4_w6_.below.size⟩
        have h4_w6_ := HK4.out w6_ a4_w6_
        have aw_w6_ : After w w6_ := after_after inferInstance a0_w6_
        clear hy
        clear G5
        go_wp2_with fail
        refine (Gives.on GA _ (after_after aw_w6_ inferInstance)).mono ?_
        rintro e w7_ ⟨rfl, hy⟩
        have a0_w7_ : After (w.alloc (.cells #[.slice A h.length c, .slice B l.length d] 24)) w7_ := after_of_more hy (after_after a0_w6_ inferInstance)
        have l00_w7_ : Le (w.heap.size + 1) w7_ := ⟨by have := a0_w7_.below.size; simp at this; omega⟩
        have h0_w7_ := HK.out w7_ a0_w7_
        have a3_w7_ : After w3_ w7_ := after_of_more hy (after_after a3_w6_ inferInstance)
        have l30_w7_ : Le (g3 + 1) w7_ := ⟨Nat.le_trans Lq3.le a3_w7_.below.size⟩
        have h3_w7_ := HK3.out w7_ a3_w7_
        have a4_w7_ : After w5_ w7_ := after_of_more hy (after_after a4_w6_ inferInstance)
        have l40_w7_ : Le (g4 + 1) w7_ := ⟨Nat.le_trans Lq4.le a4_w7_.below.size⟩
        have h4_w7_ := HK4.out w7_ a4_w7_
        have aw_w7_ : After w w7_ := after_after inferInstance a0_w7_
        clear hy
        go_wp2_with fail
        go_ret
        exact ⟨rfl, @After.is_more w _ (after_after aw_w7_ inferInstance)⟩
      · by_cases m0 : m < 0
        · go_enter Try.func8, Try.ntmps8
          go_wp2_with fail
          refine (Gives.on G1 _ inferInstance).mono ?_
          rintro e w1_ ⟨rfl, hy⟩
          have a0_w1_ : After (w.alloc (.cells #[.slice A h.length c, .slice B l.length d] 24)) w1_ := after_of_more hy inferInstance
          have l00_w1_ : Le (w.heap.size + 1) w1_ := ⟨by have := a0_w1_.below.size; simp at this; omega⟩
          have h0_w1_ := HK.out w1_ a0_w1_
          have aw_w1_ : After w w1_ := after_after inferInstance a0_w1_
          clear hy
          go_wp2_with fail
          refine (GivesW.on G3 _ (after_after aw_w1_ inferInstance)).mono ?_
          rintro e w2_ ⟨A3, c3, B3, d3, rfl, x3, hy⟩
          have a0_w2_ : After (w.alloc (.cells #[.slice A h.length c, .slice B l.length d] 24)) w2_ := after_of_more hy (after_after a0_w1_ inferInstance)
          have l00_w2_ : Le (w.heap.size + 1) w2_ := ⟨by have := a0_w2_.below.size; simp at this; omega⟩
          have h0_w2_ := HK.out w2_ a0_w2_
          have aw_w2_ : After w w2_ := after_after inferInstance a0_w2_
          clear hy
          have X3 := Lib.hid x3
          clear x3
          go_wp2_with fail
          obtain ⟨g3, hg_⟩ : ∃ g, w2_.heap.size = g := ⟨_, rfl⟩
          obtain ⟨w3_, hU_, b3, HK3, Lq3⟩ : ∃ U, w2_.alloc (.cells #[.slice A3 H.length c3, .slice B3 L.length d3] 24) = U ∧ After w2_ U ∧ Hid (∀ V, After U V → V.cell? ⟨g3, 0, none⟩ = some (.slice A3 H.length c3) ∧ V.cell? ⟨g3, 1, none⟩ = some (.slice B3 L.length d3)) ∧ Le (g3 + 1) U := by
            refine ⟨_, rfl, inferInstance, fun V k_ => ?_, ⟨by rw [← hg_]; simp⟩⟩
            have f_ := (Blk.new w2_ 24 #[.slice A3 H.length c3, .slice B3 L.length d3]).after (w' := V)
            rw [hg_] at f_
            exact ⟨by rw [f_.cell]; rfl, by rw [f_.cell]; rfl⟩
          rw [hU_, hg_]
          clear hU_ hg_
          have a0_w3_ : After (w.alloc (.cells #[.slice A h.length c, .slice B l.length d] 24)) w3_ := after_after a0_w2_ b3
          have l00_w3_ : Le (w.heap.size + 1) w3_ := ⟨by have := a0_w3_.below.size; simp at this; omega⟩
          have h0_w3_ := HK.out w3_ a0_w3_
          have aw_w3_ : After w w3_ := after_after inferInstance a0_w3_
          have a3_w3_ : After w3_ w3_ := inferInstance
          have h3_w3_ := HK3.out w3_ a3_w3_
          replace X3 := Lib.hid (X3.out.here w3_)
          refine (GivesW.on G4 _ (after_after aw_w3_ inferInstance)).mono ?_
          rintro e w4_ ⟨A4, c4, B4, d4, rfl, x4, hy⟩
          have a0_w4_ : After (w.alloc (.cells #[.slice A h.length c, .slice B l.length d] 24)) w4_ := after_of_more hy (after_after a0_w3_ inferInstance)
          have l00_w4_ : Le (w.heap.size + 1) w4_ := ⟨by have := a0_w4_.below.size; simp at this; omega⟩
          have h0_w4_ := HK.out w4_ a0_w4_
          have a3_w4_ : After w3_ w4_ := after_of_more hy (after_after a3_w3_ inferInstance)
          have l30_w4_ : Le (g3 + 1) w4_ := ⟨Nat.le_trans Lq3.le a3_w4_.below.size⟩
          have h3_w4_ := HK3.out w4_ a3_w4_
          have aw_w4_ : After w w4_ := after_after inferInstance a0_w4_
          clear hy
          have X4 := Lib.hid x4
          clear x4
          go_wp2_with fail
          obtain ⟨g4, hg_⟩ : ∃ g, w4_.heap.size = g := ⟨_, rfl⟩
          obtain ⟨w5_, hU_, b4, HK4, Lq4⟩ : ∃ U, w4_.alloc (.cells #[.slice A4 H.length c4, .slice B4 L.length d4] 24) = U ∧ After w4_ U ∧ Hid (∀ V, After U V → V.cell? ⟨g4, 0, none⟩ = some (.slice A4 H.length c4) ∧ V.cell? ⟨g4, 1, none⟩ = some (.slice B4 L.length d4)) ∧ Le (g4 + 1) U := by
            refine ⟨_, rfl, inferInstance, fun V k_ => ?_, ⟨by rw [← hg_]; simp⟩⟩
            have f_ := (Blk.new w4_ 24 #[.slice A4 H.length c4, .slice B4 L.length d4]).after (w' := V)
            rw [hg_] at f_
            exact ⟨by rw [f_.cell]; rfl, by rw [f_.cell]; rfl⟩
          rw [hU_, hg_]
          clear hU_ hg_
          have a0_w5_ : After (w.alloc (.cells #[.slice A h.length c, .slice B l.length d] 24)) w5_ := after_after a0_w4_ b4
          have l00_w5_ : Le (w.heap.size + 1) w5_ := ⟨by have := a0_w5_.below.size; simp at this; omega⟩
          have h0_w5_ := HK.out w5_ a0_w5_
          have a3_w5_ : After w3_ w5_ := after_after a3_w4_ b4
          have l30_w5_ : Le (g3 + 1) w5_ := ⟨Nat.le_trans Lq3.le a3_w5_.below.size⟩
          have h3_w5_ := HK3.out w5_ a3_w5_
          have aw_w5_ : After w w5_ := after_after inferInstance a0_w5_
          have a4_w5_ : After w5_ w5_ := inferInstance
          have h4_w5_ := HK4.out w5_ a4_w5_
          replace X4 := Lib.hid (X4.out.here w5_)
          have G5 := equal_v (X3.out.here w5_) X4.out (v := true) (by simp)
          refine (Gives.on G5 _ (after_after a4_w5_ inferInstance)).mono ?_
          rintro e w6_ ⟨rfl, hy⟩
          have a0_w6_ : After (w.alloc (.cells #[.slice A h.length c, .slice B l.length d] 24)) w6_ := after_of_more hy (after_after a0_w5_ inferInstance)
          have l00_w6_ : Le (w.heap.size + 1) w6_ := ⟨by have := a0_w6_.below.size; simp at this; omega⟩
          have h0_w6_ := HK.out w6_ a0_w6_
          have a3_w6_ : After w3_ w6_ := after_of_more hy (after_after a3_w5_ inferInstance)
          have l30_w6_ : Le (g3 + 1) w6_ := ⟨Nat.le_trans Lq3.le a3_w6_.below.size⟩
          have h3_w6_ := HK3.out w6_ a3_w6_
          have a4_w6_ : After w5_ w6_ := after_of_more hy (after_after a4_w5_ inferInstance)
          have l40_w6_ : Le (g4 + 1) w6_ := ⟨Nat.le_trans Lq4.le a4_w6_.below.size⟩
          have h4_w6_ := HK4.out w6_ a4_w6_
          have aw_w6_ : After w w6_ := after_after inferInstance a0_w6_
          clear hy
          clear G5
          go_wp2_with fail
          refine (Gives.on GA _ (after_after aw_w6_ inferInstance)).mono ?_
          rintro e w7_ ⟨rfl, hy⟩
          have a0_w7_ : After (w.alloc (.cells #[.slice A h.length c, .slice B l.length d] 24)) w7_ := after_of_more hy (after_after a0_w6_ inferInstance)
          have l00_w7_ : Le (w.heap.size + 1) w7_ := ⟨by have := a0_w7_.below.size; simp at this; omega⟩
          have h0_w7_ := HK.out w7_ a0_w7_
          have a3_w7_ : After w3_ w7_ := after_of_more hy (after_after a3_w6_ inferInstance)
          have l30_w7_ : Le (g3 + 1) w7_ := ⟨Nat.le_trans Lq3.le a3_w7_.below.size⟩
          have h3_w7_ := HK3.out w7_ a3_w7_
          have a4_w7_ : After w5_ w7_ := after_of_more hy (after_after a4_w6_ inferInstance)
          have l40_w7_ : Le (g4 + 1) w7_ := ⟨Nat.le_trans Lq4.le a4_w7_.below.size⟩
          have h4_w7_ := HK4.out w7_ a4_w7_
          have aw_w7_ : After w w7_ := after_after inferInstance a0_w7_
          clear hy
          go_wp2_with fail
          go_ret
          exact ⟨rfl, @After.is_more w _ (after_after aw_w7_ inferInstance)⟩
        · by_cases m1 : 100 < m
          · go_enter Try.func8, Try.ntmps8
            go_wp2_with fail
            refine (Gives.on G1 _ inferInstance).mono ?_
            rintro e w1_ ⟨rfl, hy⟩
            have a0_w1_ : After (w.alloc (.cells #[.slice A h.length c, .slice B l.length d] 24)) w1_ := after_of_more hy inferInstance
            have l00_w1_ : Le (w.heap.size + 1) w1_ := ⟨by have := a0_w1_.below.size; simp at this; omega⟩
            have h0_w1_ := HK.out w1_ a0_w1_
            have aw_w1_ : After w w1_ := after_after inferInstance a0_w1_
            clear hy
            go_wp2_with fail
            refine (GivesW.on G3 _ (after_after aw_w1_ inferInstance)).mono ?_
            rintro e w2_ ⟨A3, c3, B3, d3, rfl, x3, hy⟩
            have a0_w2_ : After (w.alloc (.cells #[.slice A h.length c, .slice B l.length d] 24)) w2_ := after_of_more hy (after_after a0_w1_ inferInstance)
            have l00_w2_ : Le (w.heap.size + 1) w2_ := ⟨by have := a0_w2_.below.size; simp at this; omega⟩
            have h0_w2_ := HK.out w2_ a0_w2_
            have aw_w2_ : After w w2_ := after_after inferInstance a0_w2_
            clear hy
            have X3 := Lib.hid x3
            clear x3
            go_wp2_with fail
            obtain ⟨g3, hg_⟩ : ∃ g, w2_.heap.size = g := ⟨_, rfl⟩
            obtain ⟨w3_, hU_, b3, HK3, Lq3⟩ : ∃ U, w2_.alloc (.cells #[.slice A3 H.length c3, .slice B3 L.length d3] 24) = U ∧ After w2_ U ∧ Hid (∀ V, After U V → V.cell? ⟨g3, 0, none⟩ = some (.slice A3 H.length c3) ∧ V.cell? ⟨g3, 1, none⟩ = some (.slice B3 L.length d3)) ∧ Le (g3 + 1) U := by
              refine ⟨_, rfl, inferInstance, fun V k_ => ?_, ⟨by rw [← hg_]; simp⟩⟩
              have f_ := (Blk.new w2_ 24 #[.slice A3 H.length c3, .slice B3 L.length d3]).after (w' := V)
              rw [hg_] at f_
              exact ⟨by rw [f_.cell]; rfl, by rw [f_.cell]; rfl⟩
            rw [hU_, hg_]
            clear hU_ hg_
            have a0_w3_ : After (w.alloc (.cells #[.slice A h.length c, .slice B l.length d] 24)) w3_ := after_after a0_w2_ b3
            have l00_w3_ : Le (w.heap.size + 1) w3_ := ⟨by have := a0_w3_.below.size; simp at this; omega⟩
            have h0_w3_ := HK.out w3_ a0_w3_
            have aw_w3_ : After w w3_ := after_after inferInstance a0_w3_
            have a3_w3_ : After w3_ w3_ := inferInstance
            have h3_w3_ := HK3.out w3_ a3_w3_
            replace X3 := Lib.hid (X3.out.here w3_)
            refine (GivesW.on G4 _ (after_after aw_w3_ inferInstance)).mono ?_
            rintro e w4_ ⟨A4, c4, B4, d4, rfl, x4, hy⟩
            have a0_w4_ : After (w.alloc (.cells #[.slice A h.length c, .slice B l.length d] 24)) w4_ := after_of_more hy (after_after a0_w3_ inferInstance)
            have l00_w4_ : Le (w.heap.size + 1) w4_ := ⟨by have := a0_w4_.below.size; simp at this; omega⟩
            have h0_w4_ := HK.out w4_ a0_w4_
            have a3_w4_ : After w3_ w4_ := after_of_more hy (after_after a3_w3_ inferInstance)
            have l30_w4_ : Le (g3 + 1) w4_ := ⟨Nat.le_trans Lq3.le a3_w4_.below.size⟩
            have h3_w4_ := HK3.out w4_ a3_w4_
            have aw_w4_ : After w w4_ := after_after inferInstance a0_w4_
            clear hy
            have X4 := Lib.hid x4
            clear x4
            go_wp2_with fail
            obtain ⟨g4, hg_⟩ : ∃ g, w4_.heap.size = g := ⟨_, rfl⟩
            obtain ⟨w5_, hU_, b4, HK4, Lq4⟩ : ∃ U, w4_.alloc (.cells #[.slice A4 H.length c4, .slice B4 L.length d4] 24) = U ∧ After w4_ U ∧ Hid (∀ V, After U V → V.cell? ⟨g4, 0, none⟩ = some (.slice A4 H.length c4) ∧ V.cell? ⟨g4, 1, none⟩ = some (.slice B4 L.length d4)) ∧ Le (g4 + 1) U := by
              refine ⟨_, rfl, inferInstance, fun V k_ => ?_, ⟨by rw [← hg_]; simp⟩⟩
              have f_ := (Blk.new w4_ 24 #[.slice A4 H.length c4, .slice B4 L.length d4]).after (w' := V)
              rw [hg_] at f_
              exact ⟨by rw [f_.cell]; rfl, by rw [f_.cell]; rfl⟩
            rw [hU_, hg_]
            clear hU_ hg_
            have a0_w5_ : After (w.alloc (.cells #[.slice A h.length c, .slice B l.length d] 24)) w5_ := after_after a0_w4_ b4
            have l00_w5_ : Le (w.heap.size + 1) w5_ := ⟨by have := a0_w5_.below.size; simp at this; omega⟩
            have h0_w5_ := HK.out w5_ a0_w5_
            have a3_w5_ : After w3_ w5_ := after_after a3_w4_ b4
            have l30_w5_ : Le (g3 + 1) w5_ := ⟨Nat.le_trans Lq3.le a3_w5_.below.size⟩
            have h3_w5_ := HK3.out w5_ a3_w5_
            have aw_w5_ : After w w5_ := after_after inferInstance a0_w5_
            have a4_w5_ : After w5_ w5_ := inferInstance
            have h4_w5_ := HK4.out w5_ a4_w5_
            replace X4 := Lib.hid (X4.out.here w5_)
            have G5 := equal_v (X3.out.here w5_) X4.out (v := true) (by simp)
            refine (Gives.on G5 _ (after_after a4_w5_ inferInstance)).mono ?_
            rintro e w6_ ⟨rfl, hy⟩
            have a0_w6_ : After (w.alloc (.cells #[.slice A h.length c, .slice B l.length d] 24)) w6_ := after_of_more hy (after_after a0_w5_ inferInstance)
            have l00_w6_ : Le (w.heap.size + 1) w6_ := ⟨by have := a0_w6_.below.size; simp at this; omega⟩
            have h0_w6_ := HK.out w6_ a0_w6_
            have a3_w6_ : After w3_ w6_ := after_of_more hy (after_after a3_w5_ inferInstance)
            have l30_w6_ : Le (g3 + 1) w6_ := ⟨Nat.le_trans Lq3.le a3_w6_.below.size⟩
            have h3_w6_ := HK3.out w6_ a3_w6_
            have a4_w6_ : After w5_ w6_ := after_of_more hy (after_after a4_w5_ inferInstance)
            have l40_w6_ : Le (g4 + 1) w6_ := ⟨Nat.le_trans Lq4.le a4_w6_.below.size⟩
            have h4_w6_ := HK4.out w6_ a4_w6_
            have aw_w6_ : After w w6_ := after_after inferInstance a0_w6_
            clear hy
            clear G5
            go_wp2_with fail
            refine (Gives.on GA _ (after_after aw_w6_ inferInstance)).mono ?_
            rintro e w7_ ⟨rfl, hy⟩
            have a0_w7_ : After (w.alloc (.cells #[.slice A h.length c, .slice B l.length d] 24)) w7_ := after_of_more hy (after_after a0_w6_ inferInstance)
            have l00_w7_ : Le (w.heap.size + 1) w7_ := ⟨by have := a0_w7_.below.size; simp at this; omega⟩
            have h0_w7_ := HK.out w7_ a0_w7_
            have a3_w7_ : After w3_ w7_ := after_of_more hy (after_after a3_w6_ inferInstance)
            have l30_w7_ : Le (g3 + 1) w7_ := ⟨Nat.le_trans Lq3.le a3_w7_.below.size⟩
            have h3_w7_ := HK3.out w7_ a3_w7_
            have a4_w7_ : After w5_ w7_ := after_of_more hy (after_after a4_w6_ inferInstance)
            have l40_w7_ : Le (g4 + 1) w7_ := ⟨Nat.le_trans Lq4.le a4_w7_.below.size⟩
            have h4_w7_ := HK4.out w7_ a4_w7_
            have aw_w7_ : After w w7_ := after_after inferInstance a0_w7_
            clear hy
            go_wp2_with fail
            go_ret
            exact ⟨rfl, @After.is_more w _ (after_after aw_w7_ inferInstance)⟩
          · obtain ⟨H2, L2, e2, es⟩ : ∃ H2 L2 e2, shiftW H L m = ((H2, L2), e2) := ⟨_, _, _, rfl⟩
            have es' := es
            rw [HS.out (by omega) (by omega) (by omega)] at es'
            have G9 := shift_v x es'
            replace es := Lib.hid es
            clear es' HS
            go_enter Try.func8, Try.ntmps8
            go_wp2_with fail
            refine (Gives.on G1 _ inferInstance).mono ?_
            rintro e w1_ ⟨rfl, hy⟩
            have a0_w1_ : After (w.alloc (.cells #[.slice A h.length c, .slice B l.length d] 24)) w1_ := after_of_more hy inferInstance
            have l00_w1_ : Le (w.heap.size + 1) w1_ := ⟨by have := a0_w1_.below.size; simp at this; omega⟩
            have h0_w1_ := HK.out w1_ a0_w1_
            have aw_w1_ : After w w1_ := after_after inferInstance a0_w1_
            clear hy
            go_wp2_with fail
            refine (GivesW.on G3 _ (after_after aw_w1_ inferInstance)).mono ?_
            rintro e w2_ ⟨A3, c3, B3, d3, rfl, x3, hy⟩
            have a0_w2_ : After (w.alloc (.cells #[.slice A h.length c, .slice B l.length d] 24)) w2_ := after_of_more hy (after_after a0_w1_ inferInstance)
            have l00_w2_ : Le (w.heap.size + 1) w2_ := ⟨by have := a0_w2_.below.size; simp at this; omega⟩
            have h0_w2_ := HK.out w2_ a0_w2_
            have aw_w2_ : After w w2_ := after_after inferInstance a0_w2_
            clear hy
            have X3 := Lib.hid x3
            clear x3
            go_wp2_with fail
            obtain ⟨g3, hg_⟩ : ∃ g, w2_.heap.size = g := ⟨_, rfl⟩
            obtain ⟨w3_, hU_, b3, HK3, Lq3⟩ : ∃ U, w2_.alloc (.cells #[.slice A3 H.length c3, .slice B3 L.length d3] 24) = U ∧ After w2_ U ∧ Hid (∀ V, After U V → V.cell? ⟨g3, 0, none⟩ = some (.slice A3 H.length c3) ∧ V.cell? ⟨g3, 1, none⟩ = some (.slice B3 L.length d3)) ∧ Le (g3 + 1) U := by
              refine ⟨_, rfl, inferInstance, fun V k_ => ?_, ⟨by rw [← hg_]; simp⟩⟩
              have f_ := (Blk.new w2_ 24 #[.slice A3 H.length c3, .slice B3 L.length d3]).after (w' := V)
              rw [hg_] at f_
              exact ⟨by rw [f_.cell]; rfl, by rw [f_.cell]; rfl⟩
            rw [hU_, hg_]
            clear hU_ hg_
            have a0_w3_ : After (w.alloc (.cells #[.slice A h.length c, .slice B l.length d] 24)) w3_ := after_after a0_w2_ b3
            have l00_w3_ : Le (w.heap.size + 1) w3_ := ⟨by have := a0_w3_.below.size; simp at this; omega⟩
            have h0_w3_ := HK.out w3_ a0_w3_
            have aw_w3_ : After w w3_ := after_after inferInstance a0_w3_
            have a3_w3_ : After w3_ w3_ := inferInstance
            have h3_w3_ := HK3.out w3_ a3_w3_
            replace X3 := Lib.hid (X3.out.here w3_)
            refine (GivesW.on G4 _ (after_after aw_w3_ inferInstance)).mono ?_
            rintro e w4_ ⟨A4, c4, B4, d4, rfl, x4, hy⟩
            have a0_w4_ : After (w.alloc (.cells #[.slice A h.length c, .slice B l.length d] 24)) w4_ := after_of_more hy (after_after a0_w3_ inferInstance)
            have l00_w4_ : Le (w.heap.size + 1) w4_ := ⟨by have := a0_w4_.below.size; simp at this; omega⟩
            have h0_w4_ := HK.out w4_ a0_w4_
            have a3_w4_ : After w3_ w4_ := after_of_more hy (after_after a3_w3_ inferInstance)
            have l30_w4_ : Le (g3 + 1) w4_ := ⟨Nat.le_trans Lq3.le a3_w4_.below.size⟩
            have h3_w4_ := HK3.out w4_ a3_w4_
            have aw_w4_ : After w w4_ := after_after inferInstance a0_w4_
            clear hy
            have X4 := Lib.hid x4
            clear x4
            go_wp2_with fail
            obtain ⟨g4, hg_⟩ : ∃ g, w4_.heap.size = g := ⟨_, rfl⟩
            obtain ⟨w5_, hU_, b4, HK4, Lq4⟩ : ∃ U, w4_.alloc (.cells #[.slice A4 H.length c4, .slice B4 L.length d4] 24) = U ∧ After w4_ U ∧ Hid (∀ V, After U V → V.cell? ⟨g4, 0, none⟩ = some (.slice A4 H.length c4) ∧ V.cell? ⟨g4, 1, none⟩ = some (.slice B4 L.length d4)) ∧ Le (g4 + 1) U := by
              refine ⟨_, rfl, inferInstance, fun V k_ => ?_, ⟨by rw [← hg_]; simp⟩⟩
              have f_ := (Blk.new w4_ 24 #[.slice A4 H.length c4, .slice B4 L.length d4]).after (w' := V)
              rw [hg_] at f_
              exact ⟨by rw [f_.cell]; rfl, by rw [f_.cell]; rfl⟩
            rw [hU_, hg_]
            clear hU_ hg_
            have a0_w5_ : After (w.alloc (.cells #[.slice A h.length c, .slice B l.length d] 24)) w5_ := after_after a0_w4_ b4
            have l00_w5_ : Le (w.heap.size + 1) w5_ := ⟨by have := a0_w5_.below.size; simp at this; omega⟩
            have h0_w5_ := HK.out w5_ a0_w5_
            have a3_w5_ : After w3_ w5_ := after_after a3_w4_ b4
            have l30_w5_ : Le (g3 + 1) w5_ := ⟨Nat.le_trans Lq3.le a3_w5_.below.size⟩
            have h3_w5_ := HK3.out w5_ a3_w5_
            have aw_w5_ : After w w5_ := after_after inferInstance a0_w5_
            have a4_w5_ : After w5_ w5_ := inferInstance
            have h4_w5_ := HK4.out w5_ a4_w5_
            replace X4 := Lib.hid (X4.out.here w5_)
            have G5 := equal_v (X3.out.here w5_) X4.out (v := true) (by simp)
            refine (Gives.on G5 _ (after_after a4_w5_ inferInstance)).mono ?_
            rintro e w6_ ⟨rfl, hy⟩
            have a0_w6_ : After (w.alloc (.cells #[.slice A h.length c, .slice B l.length d] 24)) w6_ := after_of_more hy (after_after a0_w5_ inferInstance)
            have l00_w6_ : Le (w.heap.size + 1) w6_ := ⟨by have := a0_w6_.below.size; simp at this; omega⟩
            have h0_w6_ := HK.out w6_ a0_w6_
            have a3_w6_ : After w3_ w6_ := after_of_more hy (after_after a3_w5_ inferInstance)
            have l30_w6_ : Le (g3 + 1) w6_ := ⟨Nat.le_trans Lq3.le a3_w6_.below.size⟩
            have h3_w6_ := HK3.out w6_ a3_w6_
            have a4_w6_ : After w5_ w6_ := after_of_more hy (after_after a4_w5_ inferInstance)
            have l40_w6_ : Le (g4 + 1) w6_ := ⟨Nat.le_trans Lq4.le a4_w6_.below.size⟩
            have h4_w6_ := HK4.out w6_ a4_w6_
            have aw_w6_ : After w w6_ := after_after inferInstance a0_w6_
            clear hy
            clear G5
            go_wp2_with fail
            go_loopw [11] (fun k wr => ∃ j : Nat, j ≤ 200 ∧ k = .int .i64 j ∧ After w6_ wr) (fun k _ => 200 - (intOf k).toNat)
            case atStart => exact ⟨0, by omega, rfl, inferInstance⟩
            case round =>
              obtain ⟨j, hj, rfl, ar_⟩ := hrel
              have a0_wr : After (w.alloc (.cells #[.slice A h.length c, .slice B l.length d] 24)) wr := after_after a0_w6_ ar_
              have l00_wr : Le (w.heap.size + 1) wr := ⟨by have := a0_wr.below.size; simp at this; omega⟩
              have h0_wr := HK.out wr a0_wr
              have a3_wr : After w3_ wr := after_after a3_w6_ ar_
              have l30_wr : Le (g3 + 1) wr := ⟨Nat.le_trans Lq3.le a3_wr.below.size⟩
              have h3_wr := HK3.out wr a3_wr
              have a4_wr : After w5_ wr := after_after a4_w6_ ar_
              have l40_wr : Le (g4 + 1) wr := ⟨Nat.le_trans Lq4.le a4_wr.below.size⟩
              have h4_wr := HK4.out wr a4_wr
              have aw_wr : After w wr := after_after inferInstance a0_wr
              by_cases hlt : j < 200
              · have hltI : (j : Int) < 200 := by omega
                have hc := HC.out j
                have Ga := at_v X3.out (i := (j : Nat)) (by omega) rfl
                have Gb := at_v x (i := (j : Nat) - n) (by omega) rfl
                rw [hc] at Ga
                generalize atB h l ((j : Nat) - n) = b1 at Ga Gb
                have t1 : (b1 != b1) = false := by simp
                clear hc
                go_wp2_with fail
                refine wp_region_more (by kernel_rfl) (by kernel_rfl) ?_
                repeat (go_big_quiet_step ((first | (go_at_call 22; with_reducible exact Calls.more_of (Gives.on Ga _ (after_after a3_wr inferInstance))) | (go_at_call 22; with_reducible exact Calls.more_of (Gives.on Gb _ (after_after aw_wr inferInstance))))))
                refine wpQuiet_nil ?_
                rintro _ ⟨yr, rfl⟩
                obtain ⟨w7_, hw_, hy⟩ : ∃ U, wr.more yr = U ∧ ∃ y, U = wr.more y := ⟨_, rfl, _, rfl⟩
                rw [hw_]
                clear hw_
                have a0_w7_ : After (w.alloc (.cells #[.slice A h.length c, .slice B l.length d] 24)) w7_ := after_of_more hy (after_after a0_wr inferInstance)
                have l00_w7_ : Le (w.heap.size + 1) w7_ := ⟨by have := a0_w7_.below.size; simp at this; omega⟩
                have h0_w7_ := HK.out w7_ a0_w7_
                have a3_w7_ : After w3_ w7_ := after_of_more hy (after_after a3_wr inferInstance)
                have l30_w7_ : Le (g3 + 1) w7_ := ⟨Nat.le_trans Lq3.le a3_w7_.below.size⟩
                have h3_w7_ := HK3.out w7_ a3_w7_
                have a4_w7_ : After w5_ w7_ := after_of_more hy (after_after a4_wr inferInstance)
                have l40_w7_ : Le (g4 + 1) w7_ := ⟨Nat.le_trans Lq4.le a4_w7_.below.size⟩
                have h4_w7_ := HK4.out w7_ a4_w7_
                have aw_w7_ : After w w7_ := after_after inferInstance a0_w7_
                have r_w7_ : After wr w7_ := after_of_more hy inferInstance
                clear hy
                go_wp2_with fail
                go_roundw
                case rel => exact ⟨j + 1, by omega, by go_num, after_after ar_ r_w7_⟩
                case measure => simp [intOf]; omega
              · obtain rfl : j = 200 := by omega
                have G8 := shift_v X3.out es.out
                go_wp2_with fail
                refine (GivesW.on G8 _ (after_after a3_wr inferInstance)).mono ?_
                rintro e w41_ ⟨A8, c8, B8, d8, rfl, x8, hy⟩
                have a0_w41_ : After (w.alloc (.cells #[.slice A h.length c, .slice B l.length d] 24)) w41_ := after_of_more hy (after_after a0_wr inferInstance)
                have l00_w41_ : Le (w.heap.size + 1) w41_ := ⟨by have := a0_w41_.below.size; simp at this; omega⟩
                have h0_w41_ := HK.out w41_ a0_w41_
                have a3_w41_ : After w3_ w41_ := after_of_more hy (after_after a3_wr inferInstance)
                have l30_w41_ : Le (g3 + 1) w41_ := ⟨Nat.le_trans Lq3.le a3_w41_.below.size⟩
                have h3_w41_ := HK3.out w41_ a3_w41_
                have a4_w41_ : After w5_ w41_ := after_of_more hy (after_after a4_wr inferInstance)
                have l40_w41_ : Le (g4 + 1) w41_ := ⟨Nat.le_trans Lq4.le a4_w41_.below.size⟩
                have h4_w41_ := HK4.out w41_ a4_w41_
                have aw_w41_ : After w w41_ := after_after inferInstance a0_w41_
                clear hy
                have X8 := Lib.hid x8
                clear x8
                go_wp2_with fail
                obtain ⟨g8, hg_⟩ : ∃ g, w41_.heap.size = g := ⟨_, rfl⟩
                obtain ⟨w42_, hU_, b8, HK8, Lq8⟩ : ∃ U, w41_.alloc (.cells #[.slice A8 H2.length c8, .slice B8 L2.length d8] 24) = U ∧ After w41_ U ∧ Hid (∀ V, After U V → V.cell? ⟨g8, 0, none⟩ = some (.slice A8 H2.length c8) ∧ V.cell? ⟨g8, 1, none⟩ = some (.slice B8 L2.length d8)) ∧ Le (g8 + 1) U := by
                  refine ⟨_, rfl, inferInstance, fun V k_ => ?_, ⟨by rw [← hg_]; simp⟩⟩
                  have f_ := (Blk.new w41_ 24 #[.slice A8 H2.length c8, .slice B8 L2.length d8]).after (w' := V)
                  rw [hg_] at f_
                  exact ⟨by rw [f_.cell]; rfl, by rw [f_.cell]; rfl⟩
                rw [hU_, hg_]
                clear hU_ hg_
                have a0_w42_ : After (w.alloc (.cells #[.slice A h.length c, .slice B l.length d] 24)) w42_ := after_after a0_w41_ b8
                have l00_w42_ : Le (w.heap.size + 1) w42_ := ⟨by have := a0_w42_.below.size; simp at this; omega⟩
                have h0_w42_ := HK.out w42_ a0_w42_
                have a3_w42_ : After w3_ w42_ := after_after a3_w41_ b8
                have l30_w42_ : Le (g3 + 1) w42_ := ⟨Nat.le_trans Lq3.le a3_w42_.below.size⟩
                have h3_w42_ := HK3.out w42_ a3_w42_
                have a4_w42_ : After w5_ w42_ := after_after a4_w41_ b8
                have l40_w42_ : Le (g4 + 1) w42_ := ⟨Nat.le_trans Lq4.le a4_w42_.below.size⟩
                have h4_w42_ := HK4.out w42_ a4_w42_
                have aw_w42_ : After w w42_ := after_after inferInstance a0_w42_
                have a8_w42_ : After w42_ w42_ := inferInstance
                have h8_w42_ := HK8.out w42_ a8_w42_
                replace X8 := Lib.hid (X8.out.here w42_)
                refine (GivesW.on G9 _ (after_after aw_w42_ inferInstance)).mono ?_
                rintro e w43_ ⟨A9, c9, B9, d9, rfl, x9, hy⟩
                have a0_w43_ : After (w.alloc (.cells #[.slice A h.length c, .slice B l.length d] 24)) w43_ := after_of_more hy (after_after a0_w42_ inferInstance)
                have l00_w43_ : Le (w.heap.size + 1) w43_ := ⟨by have := a0_w43_.below.size; simp at this; omega⟩
                have h0_w43_ := HK.out w43_ a0_w43_
                have a3_w43_ : After w3_ w43_ := after_of_more hy (after_after a3_w42_ inferInstance)
                have l30_w43_ : Le (g3 + 1) w43_ := ⟨Nat.le_trans Lq3.le a3_w43_.below.size⟩
                have h3_w43_ := HK3.out w43_ a3_w43_
                have a4_w43_ : After w5_ w43_ := after_of_more hy (after_after a4_w42_ inferInstance)
                have l40_w43_ : Le (g4 + 1) w43_ := ⟨Nat.le_trans Lq4.le a4_w43_.below.size⟩
                have h4_w43_ := HK4.out w43_ a4_w43_
                have a8_w43_ : After w42_ w43_ := after_of_more hy (after_after a8_w42_ inferInstance)
                have l80_w43_ : Le (g8 + 1) w43_ := ⟨Nat.le_trans Lq8.le a8_w43_.below.size⟩
                have h8_w43_ := HK8.out w43_ a8_w43_
                have aw_w43_ : After w w43_ := after_after inferInstance a0_w43_
                clear hy
                have X9 := Lib.hid x9
                clear x9
                go_wp2_with fail
                obtain ⟨g9, hg_⟩ : ∃ g, w43_.heap.size = g := ⟨_, rfl⟩
                obtain ⟨w44_, hU_, b9, HK9, Lq9⟩ : ∃ U, w43_.alloc (.cells #[.slice A9 H2.length c9, .slice B9 L2.length d9] 24) = U ∧ After w43_ U ∧ Hid (∀ V, After U V → V.cell? ⟨g9, 0, none⟩ = some (.slice A9 H2.length c9) ∧ V.cell? ⟨g9, 1, none⟩ = some (.slice B9 L2.length d9)) ∧ Le (g9 + 1) U := by
                  refine ⟨_, rfl, inferInstance, fun V k_ => ?_, ⟨by rw [← hg_]; simp⟩⟩
                  have f_ := (Blk.new w43_ 24 #[.slice A9 H2.length c9, .slice B9 L2.length d9]).after (w' := V)
                  rw [hg_] at f_
                  exact ⟨by rw [f_.cell]; rfl, by rw [f_.cell]; rfl⟩
                rw [hU_, hg_]
                clear hU_ hg_
                have a0_w44_ : After (w.alloc (.cells #[.slice A h.length c, .slice B l.length d] 24)) w44_ := after_after a0_w43_ b9
                have l00_w44_ : Le (w.heap.size + 1) w44_ := ⟨by have := a0_w44_.below.size; simp at this; omega⟩
                have h0_w44_ := HK.out w44_ a0_w44_
                have a3_w44_ : After w3_ w44_ := after_after a3_w43_ b9
                have l30_w44_ : Le (g3 + 1) w44_ := ⟨Nat.le_trans Lq3.le a3_w44_.below.size⟩
                have h3_w44_ := HK3.out w44_ a3_w44_
                have a4_w44_ : After w5_ w44_ := after_after a4_w43_ b9
                have l40_w44_ : Le (g4 + 1) w44_ := ⟨Nat.le_trans Lq4.le a4_w44_.below.size⟩
                have h4_w44_ := HK4.out w44_ a4_w44_
                have a8_w44_ : After w42_ w44_ := after_after a8_w43_ b9
                have l80_w44_ : Le (g8 + 1) w44_ := ⟨Nat.le_trans Lq8.le a8_w44_.below.size⟩
                have h8_w44_ := HK8.out w44_ a8_w44_
                have aw_w44_ : After w w44_ := after_after inferInstance a0_w44_
                have a9_w44_ : After w44_ w44_ := inferInstance
                have h9_w44_ := HK9.out w44_ a9_w44_
                replace X9 := Lib.hid (X9.out.here w44_)
                have G10 := equal_v (X8.out.here w44_) X9.out (v := true) (by simp)
                refine (Gives.on G10 _ (after_after a9_w44_ inferInstance)).mono ?_
                rintro e w45_ ⟨rfl, hy⟩
                have a0_w45_ : After (w.alloc (.cells #[.slice A h.length c, .slice B l.length d] 24)) w45_ := after_of_more hy (after_after a0_w44_ inferInstance)
                have l00_w45_ : Le (w.heap.size + 1) w45_ := ⟨by have := a0_w45_.below.size; simp at this; omega⟩
                have h0_w45_ := HK.out w45_ a0_w45_
                have a3_w45_ : After w3_ w45_ := after_of_more hy (after_after a3_w44_ inferInstance)
                have l30_w45_ : Le (g3 + 1) w45_ := ⟨Nat.le_trans Lq3.le a3_w45_.below.size⟩
                have h3_w45_ := HK3.out w45_ a3_w45_
                have a4_w45_ : After w5_ w45_ := after_of_more hy (after_after a4_w44_ inferInstance)
                have l40_w45_ : Le (g4 + 1) w45_ := ⟨Nat.le_trans Lq4.le a4_w45_.below.size⟩
                have h4_w45_ := HK4.out w45_ a4_w45_
                have a8_w45_ : After w42_ w45_ := after_of_more hy (after_after a8_w44_ inferInstance)
                have l80_w45_ : Le (g8 + 1) w45_ := ⟨Nat.le_trans Lq8.le a8_w45_.below.size⟩
                have h8_w45_ := HK8.out w45_ a8_w45_
                have a9_w45_ : After w44_ w45_ := after_of_more hy (after_after a9_w44_ inferInstance)
                have l90_w45_ : Le (g9 + 1) w45_ := ⟨Nat.le_trans Lq9.le a9_w45_.below.size⟩
                have h9_w45_ := HK9.out w45_ a9_w45_
                have aw_w45_ : After w w45_ := after_after inferInstance a0_w45_
                clear hy
                clear G10
                go_wp2_with fail
                refine (Gives.on GA _ (after_after aw_w45_ inferInstance)).mono ?_
                rintro e w46_ ⟨rfl, hy⟩
                have a0_w46_ : After (w.alloc (.cells #[.slice A h.length c, .slice B l.length d] 24)) w46_ := after_of_more hy (after_after a0_w45_ inferInstance)
                have l00_w46_ : Le (w.heap.size + 1) w46_ := ⟨by have := a0_w46_.below.size; simp at this; omega⟩
                have h0_w46_ := HK.out w46_ a0_w46_
                have a3_w46_ : After w3_ w46_ := after_of_more hy (after_after a3_w45_ inferInstance)
                have l30_w46_ : Le (g3 + 1) w46_ := ⟨Nat.le_trans Lq3.le a3_w46_.below.size⟩
                have h3_w46_ := HK3.out w46_ a3_w46_
                have a4_w46_ : After w5_ w46_ := after_of_more hy (after_after a4_w45_ inferInstance)
                have l40_w46_ : Le (g4 + 1) w46_ := ⟨Nat.le_trans Lq4.le a4_w46_.below.size⟩
                have h4_w46_ := HK4.out w46_ a4_w46_
                have a8_w46_ : After w42_ w46_ := after_of_more hy (after_after a8_w45_ inferInstance)
                have l80_w46_ : Le (g8 + 1) w46_ := ⟨Nat.le_trans Lq8.le a8_w46_.below.size⟩
                have h8_w46_ := HK8.out w46_ a8_w46_
                have a9_w46_ : After w44_ w46_ := after_of_more hy (after_after a9_w45_ inferInstance)
                have l90_w46_ : Le (g9 + 1) w46_ := ⟨Nat.le_trans Lq9.le a9_w46_.below.size⟩
                have h9_w46_ := HK9.out w46_ a9_w46_
                have aw_w46_ : After w w46_ := after_after inferInstance a0_w46_
                clear hy
                go_wp2_with fail
                go_ret
                exact ⟨rfl, @After.is_more w _ (after_after aw_w46_ inferInstance)⟩
    · have G3 := shift_v x eo
      have G4 := rshift_v x eo
      clear eo
      go_enter Try.func8, Try.ntmps8
      go_wp2_with fail
      refine (Gives.on G1 _ inferInstance).mono ?_
      rintro e w1_ ⟨rfl, hy⟩
      have a0_w1_ : After (w.alloc (.cells #[.slice A h.length c, .slice B l.length d] 24)) w1_ := after_of_more hy inferInstance
      have l00_w1_ : Le (w.heap.size + 1) w1_ := ⟨by have := a0_w1_.below.size; simp at this; omega⟩
      have h0_w1_ := HK.out w1_ a0_w1_
      have aw_w1_ : After w w1_ := after_after inferInstance a0_w1_
      clear hy
      go_wp2_with fail
      refine (GivesW.on G3 _ (after_after aw_w1_ inferInstance)).mono ?_
      rintro e w2_ ⟨A3, c3, B3, d3, rfl, x3, hy⟩
      have a0_w2_ : After (w.alloc (.cells #[.slice A h.length c, .slice B l.length d] 24)) w2_ := after_of_more hy (after_after a0_w1_ inferInstance)
      have l00_w2_ : Le (w.heap.size + 1) w2_ := ⟨by have := a0_w2_.below.size; simp at this; omega⟩
      have h0_w2_ := HK.out w2_ a0_w2_
      have aw_w2_ : After w w2_ := after_after inferInstance a0_w2_
      clear hy
      have X3 := Lib.hid x3
      clear x3
      go_wp2_with fail
      obtain ⟨g3, hg_⟩ : ∃ g, w2_.heap.size = g := ⟨_, rfl⟩
      obtain ⟨w3_, hU_, b3, HK3, Lq3⟩ : ∃ U, w2_.alloc (.cells #[.slice A3 H.length c3, .slice B3 L.length d3] 24) = U ∧ After w2_ U ∧ Hid (∀ V, After U V → V.cell? ⟨g3, 0, none⟩ = some (.slice A3 H.length c3) ∧ V.cell? ⟨g3, 1, none⟩ = some (.slice B3 L.length d3)) ∧ Le (g3 + 1) U := by
        refine ⟨_, rfl, inferInstance, fun V k_ => ?_, ⟨by rw [← hg_]; simp⟩⟩
        have f_ := (Blk.new w2_ 24 #[.slice A3 H.length c3, .slice B3 L.length d3]).after (w' := V)
        rw [hg_] at f_
        exact ⟨by rw [f_.cell]; rfl, by rw [f_.cell]; rfl⟩
      rw [hU_, hg_]
      clear hU_ hg_
      have a0_w3_ : After (w.alloc (.cells #[.slice A h.length c, .slice B l.length d] 24)) w3_ := after_after a0_w2_ b3
      have l00_w3_ : Le (w.heap.size + 1) w3_ := ⟨by have := a0_w3_.below.size; simp at this; omega⟩
      have h0_w3_ := HK.out w3_ a0_w3_
      have aw_w3_ : After w w3_ := after_after inferInstance a0_w3_
      have a3_w3_ : After w3_ w3_ := inferInstance
      have h3_w3_ := HK3.out w3_ a3_w3_
      replace X3 := Lib.hid (X3.out.here w3_)
      refine (GivesW.on G4 _ (after_after aw_w3_ inferInstance)).mono ?_
      rintro e w4_ ⟨A4, c4, B4, d4, rfl, x4, hy⟩
      have a0_w4_ : After (w.alloc (.cells #[.slice A h.length c, .slice B l.length d] 24)) w4_ := after_of_more hy (after_after a0_w3_ inferInstance)
      have l00_w4_ : Le (w.heap.size + 1) w4_ := ⟨by have := a0_w4_.below.size; simp at this; omega⟩
      have h0_w4_ := HK.out w4_ a0_w4_
      have a3_w4_ : After w3_ w4_ := after_of_more hy (after_after a3_w3_ inferInstance)
      have l30_w4_ : Le (g3 + 1) w4_ := ⟨Nat.le_trans Lq3.le a3_w4_.below.size⟩
      have h3_w4_ := HK3.out w4_ a3_w4_
      have aw_w4_ : After w w4_ := after_after inferInstance a0_w4_
      clear hy
      have X4 := Lib.hid x4
      clear x4
      go_wp2_with fail
      obtain ⟨g4, hg_⟩ : ∃ g, w4_.heap.size = g := ⟨_, rfl⟩
      obtain ⟨w5_, hU_, b4, HK4, Lq4⟩ : ∃ U, w4_.alloc (.cells #[.slice A4 H.length c4, .slice B4 L.length d4] 24) = U ∧ After w4_ U ∧ Hid (∀ V, After U V → V.cell? ⟨g4, 0, none⟩ = some (.slice A4 H.length c4) ∧ V.cell? ⟨g4, 1, none⟩ = some (.slice B4 L.length d4)) ∧ Le (g4 + 1) U := by
        refine ⟨_, rfl, inferInstance, fun V k_ => ?_, ⟨by rw [← hg_]; simp⟩⟩
        have f_ := (Blk.new w4_ 24 #[.slice A4 H.length c4, .slice B4 L.length d4]).after (w' := V)
        rw [hg_] at f_
        exact ⟨by rw [f_.cell]; rfl, by rw [f_.cell]; rfl⟩
      rw [hU_, hg_]
      clear hU_ hg_
      have a0_w5_ : After (w.alloc (.cells #[.slice A h.length c, .slice B l.length d] 24)) w5_ := after_after a0_w4_ b4
      have l00_w5_ : Le (w.heap.size + 1) w5_ := ⟨by have := a0_w5_.below.size; simp at this; omega⟩
      have h0_w5_ := HK.out w5_ a0_w5_
      have a3_w5_ : After w3_ w5_ := after_after a3_w4_ b4
      have l30_w5_ : Le (g3 + 1) w5_ := ⟨Nat.le_trans Lq3.le a3_w5_.below.size⟩
      have h3_w5_ := HK3.out w5_ a3_w5_
      have aw_w5_ : After w w5_ := after_after inferInstance a0_w5_
      have a4_w5_ : After w5_ w5_ := inferInstance
      have h4_w5_ := HK4.out w5_ a4_w5_
      replace X4 := Lib.hid (X4.out.here w5_)
      have G5 := equal_v (X3.out.here w5_) X4.out (v := true) (by simp)
      refine (Gives.on G5 _ (after_after a4_w5_ inferInstance)).mono ?_
      rintro e w6_ ⟨rfl, hy⟩
      have a0_w6_ : After (w.alloc (.cells #[.slice A h.length c, .slice B l.length d] 24)) w6_ := after_of_more hy (after_after a0_w5_ inferInstance)
      have l00_w6_ : Le (w.heap.size + 1) w6_ := ⟨by have := a0_w6_.below.size; simp at this; omega⟩
      have h0_w6_ := HK.out w6_ a0_w6_
      have a3_w6_ : After w3_ w6_ := after_of_more hy (after_after a3_w5_ inferInstance)
      have l30_w6_ : Le (g3 + 1) w6_ := ⟨Nat.le_trans Lq3.le a3_w6_.below.size⟩
      have h3_w6_ := HK3.out w6_ a3_w6_
      have a4_w6_ : After w5_ w6_ := after_of_more hy (after_after a4_w5_ inferInstance)
      have l40_w6_ : Le (g4 + 1) w6_ := ⟨Nat.le_trans Lq4.le a4_w6_.below.size⟩
      have h4_w6_ := HK4.out w6_ a4_w6_
      have aw_w6_ : After w w6_ := after_after inferInstance a0_w6_
      clear hy
      clear G5
      go_wp2_with fail
      refine (Gives.on GA _ (after_after aw_w6_ inferInstance)).mono ?_
      rintro e w7_ ⟨rfl, hy⟩
      have a0_w7_ : After (w.alloc (.cells #[.slice A h.length c, .slice B l.length d] 24)) w7_ := after_of_more hy (after_after a0_w6_ inferInstance)
      have l00_w7_ : Le (w.heap.size + 1) w7_ := ⟨by have := a0_w7_.below.size; simp at this; omega⟩
      have h0_w7_ := HK.out w7_ a0_w7_
      have a3_w7_ : After w3_ w7_ := after_of_more hy (after_after a3_w6_ inferInstance)
      have l30_w7_ : Le (g3 + 1) w7_ := ⟨Nat.le_trans Lq3.le a3_w7_.below.size⟩
      have h3_w7_ := HK3.out w7_ a3_w7_
      have a4_w7_ : After w5_ w7_ := after_of_more hy (after_after a4_w6_ inferInstance)
      have l40_w7_ : Le (g4 + 1) w7_ := ⟨Nat.le_trans Lq4.le a4_w7_.below.size⟩
      have h4_w7_ := HK4.out w7_ a4_w7_
      have aw_w7_ : After w w7_ := after_after inferInstance a0_w7_
      clear hy
      go_wp2_with fail
      go_ret
      exact ⟨rfl, @After.is_more w _ (after_after aw_w7_ inferInstance)⟩

set_option maxRecDepth 100000 in
theorem lifted (os : Os) (started : os.Started) (H : Type) (enc : TypeId × Value → H) :
    ReturnsInHanded {} Try.checked os 8 .any (Rows.bwordShiftsSpec.pre6 enc Try.prog Try.f8 Rows.bwordShiftsRow.domain false) (Rows.bwordShiftsSpec.post enc Try.prog Try.f8 false true false false) := by
  refine returnsInHanded_of_change_sized (C := Try.checked) own started (by kernel_rfl) Try.func8
    (ChangeSpec.witness6 (enc := enc) (C := Try.checked) false ⟨#[], #[.agg #[.slice none 0 0, .slice none 0 0], .int .i64 0, .int .i64 0], []⟩ 8 (by kernel_rfl) (by kernel_rfl) (by kernel_rfl) (by kernel_rfl)) ?_
  intro W base args ds gs before hval0 hW hcnd hsz0 _
  have hval : ∀ (j : Nat) t v, Try.f8.params[j]? = some t → args[j]? = some v → Value.okWide Try.prog W .any base t v := hval0
  have hsz : (DataW.weightsEach Try.prog (Try.f8.params.toList ++ Rows.bwordShiftsSpec.plain.varTypes Try.prog) (ds ++ gs)).all (· ≤ reachBytes) = true := hsz0
  have hW' := hW
  obtain ⟨p, q, hA0, hV, rfl, hfz, hnd⟩ := hW
  have hA : DataW.TrodAll enc Try.prog W 0 (fun _ => true) true Try.f8.params.toList args.toList ds p := hA0
  rw [Try.params8] at hA hval hsz
  obtain ⟨v0, vs0, d0, ds0, p0, q0, hargs, rfl, rfl, h0, r0⟩ := trodAll_cons hA
  obtain ⟨v1, vs1, d1, ds1, p1, q1, rfl, rfl, rfl, h1, r1⟩ := trodAll_cons r0
  obtain ⟨v2, vs2, d2, ds2, p2, q2, rfl, rfl, rfl, h2, r2⟩ := trodAll_cons r1
  obtain ⟨rfl, rfl, rfl⟩ := trodAll_nil r2
  obtain rfl : args = #[v0, v1, v2] := by cases args; simp_all
  obtain ⟨rfl, rfl⟩ := trodVars_none hV
  have k0 := h0
  have lt0 : ∀ x ∈ p0, x.block < W.heap.size := by obtain ⟨m, hm⟩ := k0; exact DataW.trod_lt m _ _ _ hm
  have z0 : ∀ n ∈ d0.weights Try.prog 24, n ≤ reachBytes := fun n hn => by
    simpa using List.all_eq_true.1 hsz n (DataW.weights_mem_each (j := 0) (t := 24) rfl rfl n hn)
  obtain ⟨A0, c0, B0, c0', hl0, ll0, rfl, x0⟩ := open_word (e := 4) Try.underlying24 (by kernel_rfl) (by kernel_rfl) Try.underlying22 Try.underlying22 Try.underlying4 (by kernel_rfl) (by kernel_rfl) (hval 0 24 v0 rfl rfl) h0 z0
  obtain ⟨a1, rfl, rfl, rfl, w1⟩ := open_int Try.underlying3 (hval 1 3 v1 rfl rfl) h1
  obtain ⟨a2, rfl, rfl, rfl, w2⟩ := open_int Try.underlying3 (hval 2 3 v2 rfl rfl) h2
  clear hA0 hval0 hsz0 hsz
  refine (walk W x0 a1 w1 a2 w2).mono fun e W' ⟨he, y, hy⟩ => ?_
  subst he
  have bel : Below W.heap.size W W' := by rw [hy]; exact more_below W y
  exact ⟨_, rfl, _, _, _, [], _, [], hW', trodAll_mk1 (shut_bool Try.underlying4 _), (trodAll_cons_mk (Below.trod laidOut (by kernel_rfl) (of_decide_eq_true (by kernel_rfl)) k0 bel lt0) (trodAll_cons_mk (shut_int Try.underlying3 w1) (trodAll_cons_mk (shut_int Try.underlying3 w2) trodAll_mk0))), rfl, bel.frame _, fun h => by cases h⟩

theorem over : Rows.bwordShiftsRow.holds Try.pinned (OpenSpec.ofChange Rows.bwordShiftsSpec) :=
  OpenClaim.holds_of_wide 8 Try.f8 rfl rfl rfl rfl rfl rfl rfl ⟨rfl, rfl, rfl, rfl, rfl⟩ rfl rfl rfl rfl rfl (by kernel_rfl) Try.func8 (by kernel_rfl)
    (of_decide_eq_true (by kernel_rfl)) (by unfold Func.isWrapper; first | (rw [if_pos (by decide +kernel)]; kernel_rfl) | (rw [if_neg (by decide +kernel)]; exact ⟨rfl, rfl⟩))
    (fun os started H enc _ => lifted os started H enc)

theorem proved : Rows.BwordShiftsSaid := over
#print axioms proved
end Go.Proofs.Ytjbpelkdciphnaa.bwordShifts
