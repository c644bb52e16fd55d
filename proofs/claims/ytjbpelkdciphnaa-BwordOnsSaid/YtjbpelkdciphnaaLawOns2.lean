/-
  Sampling is the chapter's; as many ones remain as the second word has among as many letters as the first one has ones: for any two words. No conditions.
-/
import Derived.Test.YtjbpelkdciphnaaAwake2
import Derived.Test.YtjbpelkdciphnaaGives
import Derived.Test.YtjbpelkdciphnaaLift
import Derived.Test.YtjbpelkdciphnaaROn
namespace Go.Proofs.Ytjbpelkdciphnaa.bwordOns
open Go.ChangeShapes Go.WideShapes Go.ChangeAt Go.RowKit Go.BigFrame
set_option linter.unusedVariables false

theorem own : ownKnob Try.prog.godebug = none := by kernel_rfl
theorem laidOut : laidOutB Try.prog = true := by kernel_rfl

section
variable {w0 : World} {A : Option Addr} {c : Nat} {B : Option Addr} {d : Nat} {h l : List Bool} {A' : Option Addr} {c' : Nat} {B' : Option Addr} {d' : Nat} {h' l' : List Bool}
theorem huge_v (x : RW w0 A c B d h l) {v : Bool} (e : hugeB h l = v) : Gives w0 12 #[.agg #[.slice A h.length c, .slice B l.length d]] (.bool v) := fun U _ => e ▸ huge_any x U
theorem awake_v (w : World) : Gives w 13 #[] (.bool true) := fun U _ => awake_any U
theorem check_v (x : RW w0 A c B d h l) {v : Int} (e : checkI h l = v) : Gives w0 19 #[.agg #[.slice A h.length c, .slice B l.length d]] (.int .i64 v) := fun U _ => e ▸ check_any x U
theorem rcheck_v (x : RW w0 A c B d h l) {v : Int} (e : checkI h l = v) : Gives w0 21 #[.agg #[.slice A h.length c, .slice B l.length d]] (.int .i64 v) := fun U _ => e ▸ rcheck_any x U
theorem at_v (x : RW w0 A c B d h l) {i : Int} (hi : i ≤ 9223372036854775807) {v : Bool} (e : atB h l i = v) : Gives w0 22 #[.agg #[.slice A h.length c, .slice B l.length d], .int .i64 i] (.bool v) := fun U _ => e ▸ at_any x U i hi
theorem rat_v (x : RW w0 A c B d h l) {i : Int} (hi : i ≤ 9223372036854775807) {v : Bool} (e : atB h l i = v) : Gives w0 23 #[.agg #[.slice A h.length c, .slice B l.length d], .int .i64 i] (.bool v) := fun U _ => e ▸ rat_any x U i hi
theorem ones_v (x : RW w0 A c B d h l) {i : Int} (hi : i ≤ 9223372036854775807) {v : Int} (e : onesI h l i = v) : Gives w0 17 #[.agg #[.slice A h.length c, .slice B l.length d], .int .i64 i] (.int .i64 v) := fun U _ => e ▸ ones_all x U i hi
theorem rones_v (x : RW w0 A c B d h l) {i : Int} (hi : i ≤ 9223372036854775807) {v : Int} (e : onesI h l i = v) : Gives w0 24 #[.agg #[.slice A h.length c, .slice B l.length d], .int .i64 i] (.int .i64 v) := fun U _ => e ▸ rones_all x U i hi
theorem equal_v (x : RW w0 A c B d h l) (x' : RW w0 A' c' B' d' h' l') {v : Bool} (e : (h == h' && l == l') = v) : Gives w0 16 #[.agg #[.slice A h.length c, .slice B l.length d], .agg #[.slice A' h'.length c', .slice B' l'.length d']] (.bool v) := fun U _ => e ▸ requal_any x x' U
theorem on_v (x : RW w0 A c B d h l) (x' : RW w0 A' c' B' d' h' l') {H L : List Bool} {v : Int} (e : onW h l h' l' = ((H, L), v)) : GivesW w0 14 #[.agg #[.slice A h.length c, .slice B l.length d], .agg #[.slice A' h'.length c', .slice B' l'.length d']] H L (fun a => .tuple #[a, .int .i64 v]) := fun U _ => by have := on_any x x' U; rwa [e] at this
theorem norm_v (x : RW w0 A c B d h l) {H L : List Bool} (e : normW h l = (H, L)) : GivesW w0 20 #[.agg #[.slice A h.length c, .slice B l.length d]] H L (fun a => a) := fun U _ => by have := norm_any x U; rwa [e] at this
theorem rnorm_v (x : RW w0 A c B d h l) {H L : List Bool} (e : normW h l = (H, L)) : GivesW w0 25 #[.agg #[.slice A h.length c, .slice B l.length d]] H L (fun a => a) := fun U _ => by have := rnorm_any x U; rwa [e] at this
theorem i64_le {k : Int} (h : (Lit.int .i64 k).wf = true) : -9223372036854775808 ≤ k ∧ k ≤ 9223372036854775807 := by
  simpa [Lit.wf, IntKind.min, IntKind.max, IntKind.signed, IntKind.bits] using h
theorem onesI_step (h l : List Bool) (k : Nat) : onesI h l ((k : Int) + 1) = onesI h l k + (if atB h l k then 1 else 0) := by
  by_cases hv : Valid h l
  · have := W.ones_succ h l k hv.1
    have e : ((k : Int) + 1) = ((k + 1 : Nat) : Int) := by push_cast; rfl
    rw [e, onesI_ok hv, onesI_ok hv, atB_ok hv (by omega), letterB_nat, this]
    cases W.letter h l k <;> simp
  · rw [onesI_bad hv, onesI_bad hv, atB_bad hv]; simp
theorem onesI_bd2 (h l : List Bool) (k : Nat) : 0 ≤ onesI h l k ∧ onesI h l k ≤ k := by
  by_cases hv : Valid h l
  · rw [onesI_ok hv]; have := W.ones_le h l k hv.1; omega
  · rw [onesI_bad hv]; omega
end
theorem ron_v {w0 : World} {A c B d} {h l : List Bool} {A' c' B' d'} {h' l' : List Bool} (x : RW w0 A c B d h l) (x' : RW w0 A' c' B' d' h' l') {H L : List Bool} {v : Int} (e : onW h l h' l' = ((H, L), v)) : GivesW w0 15 #[.agg #[.slice A h.length c, .slice B l.length d], .agg #[.slice A' h'.length c', .slice B' l'.length d']] H L (fun a => .tuple #[a, .int .i64 v]) := fun U _ => by have := ron_any x x' U; rwa [e] at this
theorem on_count {h l h' l' H L : List Bool} (hv : Valid h l) (hv' : Valid h' l') (hV : Valid H L) (e : ∀ i, W.letter H L i = W.onF h l h' l' i) (n : Nat) : onesI H L n = onesI h' l' (onesI h l n) := by
  rw [onesI_ok hV, onesI_ok hv, onesI_ok hv', ← W.ones_onF hv.1 hv'.1, ← W.onesF_letter hV.1]
  rw [W.onesF_congr e]
set_option maxRecDepth 100000 in
set_option maxHeartbeats 3200000 in
theorem walk {A B c d h l A' B' c' d' h' l'} (w : World) (x : RW w A c B d h l) (x' : RW w A' c' B' d' h' l') :
    Calls Try.prog 3 #[.agg #[.slice A h.length c, .slice B l.length d], .agg #[.slice A' h'.length c', .slice B' l'.length d']] w fun e w' => e = .returned (.bool true) ∧ ∃ y, w' = w.more y := by
  have HK : Hid (∀ U : World, After ((w.alloc (.cells #[.slice A h.length c, .slice B l.length d] 24)).alloc (.cells #[.slice A' h'.length c', .slice B' l'.length d'] 24)) U → U.cell? ⟨w.heap.size, 0, none⟩ = some (.slice A h.length c) ∧ U.cell? ⟨w.heap.size, 1, none⟩ = some (.slice B l.length d) ∧ U.cell? ⟨w.heap.size + 1, 0, none⟩ = some (.slice A' h'.length c') ∧ U.cell? ⟨w.heap.size + 1, 1, none⟩ = some (.slice B' l'.length d')) := fun U k => by
    have f1 := ((Blk.new w 24 #[.slice A h.length c, .slice B l.length d]).alloc (.cells #[.slice A' h'.length c', .slice B' l'.length d'] 24)).after (w' := U)
    have f2 := (Blk.new1 w (.cells #[.slice A h.length c, .slice B l.length d] 24) 24 #[.slice A' h'.length c', .slice B' l'.length d']).after (w' := U)
    exact ⟨by rw [f1.cell]; rfl, by rw [f1.cell]; rfl, by rw [f2.cell]; rfl, by rw [f2.cell]; rfl⟩
  have GA := awake_v w
  cases h1 : hugeB h l with
  | true =>
    have G1 := huge_v x h1
    clear h1
    go_enter Try.func3, Try.ntmps3
    go_wp2_with fail
    refine (Gives.on G1 _ inferInstance).mono ?_
    rintro e w1_ ⟨rfl, hy⟩
    have a0_w1_ : After ((w.alloc (.cells #[.slice A h.length c, .slice B l.length d] 24)).alloc (.cells #[.slice A' h'.length c', .slice B' l'.length d'] 24)) w1_ := after_of_more hy inferInstance
    have l00_w1_ : Le (w.heap.size + 1) w1_ := ⟨by have := a0_w1_.below.size; simp at this; omega⟩
    have l01_w1_ : Le (w.heap.size + 2) w1_ := ⟨by have := a0_w1_.below.size; simp at this; omega⟩
    have h0_w1_ := HK.out w1_ a0_w1_
    have aw_w1_ : After w w1_ := after_after inferInstance a0_w1_
    clear hy
    go_wp2_with fail
    refine (Gives.on GA _ (after_after aw_w1_ inferInstance)).mono ?_
    rintro e w2_ ⟨rfl, hy⟩
    have a0_w2_ : After ((w.alloc (.cells #[.slice A h.length c, .slice B l.length d] 24)).alloc (.cells #[.slice A' h'.length c', .slice B' l'.length d'] 24)) w2_ := after_of_more hy (after_after a0_w1_ inferInstance)
    have l00_w2_ : Le (w.heap.size + 1) w2_ := ⟨by have := a0_w2_.below.size; simp at this; omega⟩
    have l01_w2_ : Le (w.heap.size + 2) w2_ := ⟨by have := a0_w2_.below.size; simp at this; omega⟩
    have h0_w2_ := HK.out w2_ a0_w2_
    have aw_w2_ : After w w2_ := after_after inferInstance a0_w2_
    clear hy
    go_wp2_with fail
    go_ret
    exact ⟨rfl, @After.is_more w _ (after_after aw_w2_ inferInstance)⟩
  | false =>
    have G1 := huge_v x h1
    clear h1
    cases h2 : hugeB h' l' with
    | true =>
      have G2 := huge_v x' h2
      clear h2
      go_enter Try.func3, Try.ntmps3
      go_wp2_with fail
      refine (Gives.on G1 _ inferInstance).mono ?_
      rintro e w1_ ⟨rfl, hy⟩
      have a0_w1_ : After ((w.alloc (.cells #[.slice A h.length c, .slice B l.length d] 24)).alloc (.cells #[.slice A' h'.length c', .slice B' l'.length d'] 24)) w1_ := after_of_more hy inferInstance
      have l00_w1_ : Le (w.heap.size + 1) w1_ := ⟨by have := a0_w1_.below.size; simp at this; omega⟩
      have l01_w1_ : Le (w.heap.size + 2) w1_ := ⟨by have := a0_w1_.below.size; simp at this; omega⟩
      have h0_w1_ := HK.out w1_ a0_w1_
      have aw_w1_ : After w w1_ := after_after inferInstance a0_w1_
      clear hy
      go_wp2_with fail
      refine (Gives.on G2 _ (after_after aw_w1_ inferInstance)).mono ?_
      rintro e w2_ ⟨rfl, hy⟩
      have a0_w2_ : After ((w.alloc (.cells #[.slice A h.length c, .slice B l.length d] 24)).alloc (.cells #[.slice A' h'.length c', .slice B' l'.length d'] 24)) w2_ := after_of_more hy (after_after a0_w1_ inferInstance)
      have l00_w2_ : Le (w.heap.size + 1) w2_ := ⟨by have := a0_w2_.below.size; simp at this; omega⟩
      have l01_w2_ : Le (w.heap.size + 2) w2_ := ⟨by have := a0_w2_.below.size; simp at this; omega⟩
      have h0_w2_ := HK.out w2_ a0_w2_
      have aw_w2_ : After w w2_ := after_after inferInstance a0_w2_
      clear hy
      go_wp2_with fail
      refine (Gives.on GA _ (after_after aw_w2_ inferInstance)).mono ?_
      rintro e w3_ ⟨rfl, hy⟩
      have a0_w3_ : After ((w.alloc (.cells #[.slice A h.length c, .slice B l.length d] 24)).alloc (.cells #[.slice A' h'.length c', .slice B' l'.length d'] 24)) w3_ := after_of_more hy (after_after a0_w2_ inferInstance)
      have l00_w3_ : Le (w.heap.size + 1) w3_ := ⟨by have := a0_w3_.below.size; simp at this; omega⟩
      have l01_w3_ : Le (w.heap.size + 2) w3_ := ⟨by have := a0_w3_.below.size; simp at this; omega⟩
      have h0_w3_ := HK.out w3_ a0_w3_
      have aw_w3_ : After w w3_ := after_after inferInstance a0_w3_
      clear hy
      go_wp2_with fail
      go_ret
      exact ⟨rfl, @After.is_more w _ (after_after aw_w3_ inferInstance)⟩
    | false =>
      have G2 := huge_v x' h2
      clear h2
      rcases onW_cases h l h' l' with ⟨H, L, eo, hv, hv', hV, he⟩ | ⟨e, eo, h5⟩
      · have G3 := on_v x x' eo
        have G4 := ron_v x x' eo
        have HC := Lib.hid (fun n => on_count hv hv' hV he n)
        clear eo he hv hv' hV
        go_enter Try.func3, Try.ntmps3
        go_wp2_with fail
        refine (Gives.on G1 _ inferInstance).mono ?_
        rintro e w1_ ⟨rfl, hy⟩
        have a0_w1_ : After ((w.alloc (.cells #[.slice A h.length c, .slice B l.length d] 24)).alloc (.cells #[.slice A' h'.length c', .slice B' l'.length d'] 24)) w1_ := after_of_more hy inferInstance
        have l00_w1_ : Le (w.heap.size + 1) w1_ := ⟨by have := a0_w1_.below.size; simp at this; omega⟩
        have l01_w1_ : Le (w.heap.size + 2) w1_ := ⟨by have := a0_w1_.below.size; simp at this; omega⟩
        have h0_w1_ := HK.out w1_ a0_w1_
        have aw_w1_ : After w w1_ := after_after inferInstance a0_w1_
        clear hy
        go_wp2_with fail
        refine (Gives.on G2 _ (after_after aw_w1_ inferInstance)).mono ?_
        rintro e w2_ ⟨rfl, hy⟩
        have a0_w2_ : After ((w.alloc (.cells #[.slice A h.length c, .slice B l.length d] 24)).alloc (.cells #[.slice A' h'.length c', .slice B' l'.length d'] 24)) w2_ := after_of_more hy (after_after a0_w1_ inferInstance)
        have l00_w2_ : Le (w.heap.size + 1) w2_ := ⟨by have := a0_w2_.below.size; simp at this; omega⟩
        have l01_w2_ : Le (w.heap.size + 2) w2_ := ⟨by have := a0_w2_.below.size; simp at this; omega⟩
        have h0_w2_ := HK.out w2_ a0_w2_
        have aw_w2_ : After w w2_ := after_after inferInstance a0_w2_
        clear hy
        go_wp2_with fail
        refine (GivesW.on G3 _ (after_after aw_w2_ inferInstance)).mono ?_
        rintro e w3_ ⟨A3, c3, B3, d3, rfl, x3, hy⟩
        have a0_w3_ : After ((w.alloc (.cells #[.slice A h.length c, .slice B l.length d] 24)).alloc (.cells #[.slice A' h'.length c', .slice B' l'.length d'] 24)) w3_ := after_of_more hy (after_after a0_w2_ inferInstance)
        have l00_w3_ : Le (w.heap.size + 1) w3_ := ⟨by have := a0_w3_.below.size; simp at this; omega⟩
        have l01_w3_ : Le (w.heap.size + 2) w3_ := ⟨by have := a0_w3_.below.size; simp at this; omega⟩
        have h0_w3_ := HK.out w3_ a0_w3_
        have aw_w3_ : After w w3_ := after_after inferInstance a0_w3_
        clear hy
        have X3 := Lib.hid x3
        clear x3
        go_wp2_with fail
        obtain ⟨g3, hg_⟩ : ∃ g, w3_.heap.size = g := ⟨_, rfl⟩
        obtain ⟨w4_, hU_, b3, HK3, Lq3⟩ : ∃ U, w3_.alloc (.cells #[.slice A3 H.length c3, .slice B3 L.length d3] 24) = U ∧ After w3_ U ∧ Hid (∀ V, After U V → V.cell? ⟨g3, 0, none⟩ = some (.slice A3 H.length c3) ∧ V.cell? ⟨g3, 1, none⟩ = some (.slice B3 L.length d3)) ∧ Le (g3 + 1) U := by
          refine ⟨_, rfl, inferInstance, fun V k_ => ?_, ⟨by rw [← hg_]; simp⟩⟩
          have f_ := (Blk.new w3_ 24 #[.slice A3 H.length c3, .slice B3 L.length d3]).after (w' := V)
          rw [hg_] at f_
          exact ⟨by rw [f_.cell]; rfl, by rw [f_.cell]; rfl⟩
        rw [hU_, hg_]
        clear hU_ hg_
        have a0_w4_ : After ((w.alloc (.cells #[.slice A h.length c, .slice B l.length d] 24)).alloc (.cells #[.slice A' h'.length c', .slice B' l'.length d'] 24)) w4_ := after_after a0_w3_ b3
        have l00_w4_ : Le (w.heap.size + 1) w4_ := ⟨by have := a0_w4_.below.size; simp at this; omega⟩
        have l01_w4_ : Le (w.heap.size + 2) w4_ := ⟨by have := a0_w4_.below.size; simp at this; omega⟩
        have h0_w4_ := HK.out w4_ a0_w4_
        have aw_w4_ : After w w4_ := after_after inferInstance a0_w4_
        have a3_w4_ : After w4_ w4_ := inferInstance
        have h3_w4_ := HK3.out w4_ a3_w4_
        replace X3 := Lib.hid (X3.out.here w4_)
        refine (GivesW.on G4 _ (after_after aw_w4_ inferInstance)).mono ?_
        rintro e w5_ ⟨A4, c4, B4, d4, rfl, x4, hy⟩
        have a0_w5_ : After ((w.alloc (.cells #[.slice A h.length c, .slice B l.length d] 24)).alloc (.cells #[.slice A' h'.length c', .slice B' l'.length d'] 24)) w5_ := after_of_more hy (after_after a0_w4_ inferInstance)
        have l00_w5_ : Le (w.heap.size + 1) w5_ := ⟨by have := a0_w5_.below.size; simp at this; omega⟩
        have l01_w5_ : Le (w.heap.size + 2) w5_ := ⟨by have := a0_w5_.below.size; simp at this; omega⟩
        have h0_w5_ := HK.out w5_ a0_w5_
        have a3_w5_ : After w4_ w5_ := after_of_more hy (after_after a3_w4_ inferInstance)
        have l30_w5_ : Le (g3 + 1) w5_ := ⟨Nat.le_trans Lq3.le a3_w5_.below.size⟩
        have h3_w5_ := HK3.out w5_ a3_w5_
        have aw_w5_ : After w w5_ := after_after inferInstance a0_w5_
        clear hy
        have X4 := Lib.hid x4
        clear x4
        go_wp2_with fail
        obtain ⟨g4, hg_⟩ : ∃ g, w5_.heap.size = g := ⟨_, rfl⟩
        obtain ⟨w6_, hU_, b4, HK4, Lq4⟩ : ∃ U, w5_.alloc (.cells #[.slice A4 H.length c4, .slice B4 L.length d4] 24) = U ∧ After w5_ U ∧ Hid (∀ V, After U V → V.cell? ⟨g4, 0, none⟩ = some (.slice A4 H.length c4) ∧ V.cell? ⟨g4, 1, none⟩ = some (.slice B4 L.length d4)) ∧ Le (g4 + 1) U := by
          refine ⟨_, rfl, inferInstance, fun V k_ => ?_, ⟨by rw [← hg_]; simp⟩⟩
          have f_ := (Blk.new w5_ 24 #[.slice A4 H.length c4, .slice B4 L.length d4]).after (w' := V)
          rw [hg_] at f_
          exact ⟨by rw [f_.cell]; rfl, by rw [f_.cell]; rfl⟩
        rw [hU_, hg_]
        clear hU_ hg_
        have a0_w6_ : After ((w.alloc (.cells #[.slice A h.length c, .slice B l.length d] 24)).alloc (.cells #[.slice A' h'.length c', .slice B' l'.length d'] 24)) w6_ := after_after a0_w5_ b4
        have l00_w6_ : Le (w.heap.size + 1) w6_ := ⟨by have := a0_w6_.below.size; simp at this; omega⟩
        have l01_w6_ : Le (w.heap.size + 2) w6_ := ⟨by have := a0_w6_.below.size; simp at this; omega⟩
        have h0_w6_ := HK.out w6_ a0_w6_
        have a3_w6_ : After w4_ w6_ := after_after a3_w5_ b4
        have l30_w6_ : Le (g3 + 1) w6_ := ⟨Nat.le_trans Lq3.le a3_w6_.below.size⟩
        have h3_w6_ := HK3.out w6_ a3_w6_
        have aw_w6_ : After w w6_ := after_after inferInstance a0_w6_
        have a4_w6_ : After w6_ w6_ := inferInstance
        have h4_w6_ := HK4.out w6_ a4_w6_
        replace X4 := Lib.hid (X4.out.here w6_)
        have G5 := equal_v (X3.out.here w6_) X4.out (v := true) (by simp)
        refine (Gives.on G5 _ (after_after a4_w6_ inferInstance)).mono ?_
        rintro e w7_ ⟨rfl, hy⟩
        have a0_w7_ : After ((w.alloc (.cells #[.slice A h.length c, .slice B l.length d] 24)).alloc (.cells #[.slice A' h'.length c', .slice B' l'.length d'] 24)) w7_ := after_of_more hy (after_after a0_w6_ inferInstance)
        have l00_w7_ : Le (w.heap.size + 1) w7_ := ⟨by have := a0_w7_.below.size; simp at this; omega⟩
        have l01_w7_ : Le (w.heap.size + 2) w7_ := ⟨by have := a0_w7_.below.size; simp at this; omega⟩
        have h0_w7_ := HK.out w7_ a0_w7_
        have a3_w7_ : After w4_ w7_ := after_of_more hy (after_after a3_w6_ inferInstance)
        have l30_w7_ : Le (g3 + 1) w7_ := ⟨Nat.le_trans Lq3.le a3_w7_.below.size⟩
        have h3_w7_ := HK3.out w7_ a3_w7_
        have a4_w7_ : After w6_ w7_ := after_of_more hy (after_after a4_w6_ inferInstance)
        have l40_w7_ : Le (g4 + 1) w7_ := ⟨Nat.le_trans Lq4.le a4_w7_.below.size⟩
        have h4_w7_ := HK4.out w7_ a4_w7_
        have aw_w7_ : After w w7_ := after_after inferInstance a0_w7_
        clear hy
        clear G5
        go_wp2_with fail
        go_loopw [9] (fun k wr => ∃ j : Nat, j ≤ 200 ∧ k = .int .i64 j ∧ After w7_ wr) (fun k _ => 200 - (intOf k).toNat)
        case atStart => exact ⟨0, by omega, rfl, inferInstance⟩
        case round =>
          obtain ⟨j, hj, rfl, ar_⟩ := hrel
          have a0_wr : After ((w.alloc (.cells #[.slice A h.length c, .slice B l.length d] 24)).alloc (.cells #[.slice A' h'.length c', .slice B' l'.length d'] 24)) wr := after_after a0_w7_ ar_
          have l00_wr : Le (w.heap.size + 1) wr := ⟨by have := a0_wr.below.size; simp at this; omega⟩
          have l01_wr : Le (w.heap.size + 2) wr := ⟨by have := a0_wr.below.size; simp at this; omega⟩
          have h0_wr := HK.out wr a0_wr
          have a3_wr : After w4_ wr := after_after a3_w7_ ar_
          have l30_wr : Le (g3 + 1) wr := ⟨Nat.le_trans Lq3.le a3_wr.below.size⟩
          have h3_wr := HK3.out wr a3_wr
          have a4_wr : After w6_ wr := after_after a4_w7_ ar_
          have l40_wr : Le (g4 + 1) wr := ⟨Nat.le_trans Lq4.le a4_wr.below.size⟩
          have h4_wr := HK4.out wr a4_wr
          have aw_wr : After w wr := after_after inferInstance a0_wr
          by_cases hlt : j < 200
          · have hltI : (j : Int) < 200 := by omega
            have hc := HC.out j
            have b1 := onesI_bd2 h l j
            have Ga := ones_v X3.out (i := (j : Nat)) (by omega) rfl
            have Gb := ones_v x (i := (j : Nat)) (by omega) rfl
            obtain ⟨m, hm⟩ := Int.eq_ofNat_of_zero_le b1.1
            rw [hm] at hc Gb b1
            have Gc := ones_v x' (i := (m : Nat)) (by omega) rfl
            rw [hc] at Ga
            generalize onesI h' l' (m : Nat) = o at Ga Gc
            have t1 : (o != o) = false := by simp
            clear hc hm
            go_wp2_with fail
            refine wp_region_more (by kernel_rfl) (by kernel_rfl) ?_
            repeat (go_big_quiet_step ((first | (go_at_call 17; with_reducible exact Calls.more_of (Gives.on Ga _ (after_after a3_wr inferInstance))) | (go_at_call 17; with_reducible exact Calls.more_of (Gives.on Gb _ (after_after aw_wr inferInstance))) | (go_at_call 17; with_reducible exact Calls.more_of (Gives.on Gc _ (after_after aw_wr inferInstance))))))
            refine wpQuiet_nil ?_
            rintro _ ⟨yr, rfl⟩
            obtain ⟨w8_, hw_, hy⟩ : ∃ U, wr.more yr = U ∧ ∃ y, U = wr.more y := ⟨_, rfl, _, rfl⟩
            rw [hw_]
            clear hw_
            have a0_w8_ : After ((w.alloc (.cells #[.slice A h.length c, .slice B l.length d] 24)).alloc (.cells #[.slice A' h'.length c', .slice B' l'.length d'] 24)) w8_ := after_of_more hy (after_after a0_wr inferInstance)
            have l00_w8_ : Le (w.heap.size + 1) w8_ := ⟨by have := a0_w8_.below.size; simp at this; omega⟩
            have l01_w8_ : Le (w.heap.size + 2) w8_ := ⟨by have := a0_w8_.below.size; simp at this; omega⟩
            have h0_w8_ := HK.out w8_ a0_w8_
            have a3_w8_ : After w4_ w8_ := after_of_more hy (after_after a3_wr inferInstance)
            have l30_w8_ : Le (g3 + 1) w8_ := ⟨Nat.le_trans Lq3.le a3_w8_.below.size⟩
            have h3_w8_ := HK3.out w8_ a3_w8_
            have a4_w8_ : After w6_ w8_ := after_of_more hy (after_after a4_wr inferInstance)
            have l40_w8_ : Le (g4 + 1) w8_ := ⟨Nat.le_trans Lq4.le a4_w8_.below.size⟩
            have h4_w8_ := HK4.out w8_ a4_w8_
            have aw_w8_ : After w w8_ := after_after inferInstance a0_w8_
            have r_w8_ : After wr w8_ := after_of_more hy inferInstance
            clear hy
            go_wp2_with fail
            go_roundw
            case rel => exact ⟨j + 1, by omega, by go_num, after_after ar_ r_w8_⟩
            case measure => simp [intOf]; omega
          · obtain rfl : j = 200 := by omega
            go_wp2_with fail
            refine (Gives.on GA _ (after_after aw_wr inferInstance)).mono ?_
            rintro e w41_ ⟨rfl, hy⟩
            have a0_w41_ : After ((w.alloc (.cells #[.slice A h.length c, .slice B l.length d] 24)).alloc (.cells #[.slice A' h'.length c', .slice B' l'.length d'] 24)) w41_ := after_of_more hy (after_after a0_wr inferInstance)
            have l00_w41_ : Le (w.heap.size + 1) w41_ := ⟨by have := a0_w41_.below.size; simp at this; omega⟩
            have l01_w41_ : Le (w.heap.size + 2) w41_ := ⟨by have := a0_w41_.below.size; simp at this; omega⟩
            have h0_w41_ := HK.out w41_ a0_w41_
            have a3_w41_ : After w4_ w41_ := after_of_more hy (after_after a3_wr inferInstance)
            have l30_w41_ : Le (g3 + 1) w41_ := ⟨Nat.le_trans Lq3.le a3_w41_.below.size⟩
            have h3_w41_ := HK3.out w41_ a3_w41_
            have a4_w41_ : After w6_ w41_ := after_of_more hy (after_after a4_wr inferInstance)
            have l40_w41_ : Le (g4 + 1) w41_ := ⟨Nat.le_trans Lq4.le a4_w41_.below.size⟩
            have h4_w41_ := HK4.out w41_ a4_w41_
            have aw_w41_ : After w w41_ := after_after inferInstance a0_w41_
            clear hy
            go_wp2_with fail
            go_ret
            exact ⟨rfl, @After.is_more w _ (after_after aw_w41_ inferInstance)⟩
      · obtain ⟨H, L, eo⟩ : ∃ H L, onW h l h' l' = ((H, L), e) := ⟨_, _, eo⟩
        have G3 := on_v x x' eo
        have G4 := ron_v x x' eo
        clear eo
        rcases h5 with rfl | rfl
        all_goals
          go_enter Try.func3, Try.ntmps3
          go_wp2_with fail
          refine (Gives.on G1 _ inferInstance).mono ?_
          rintro e w1_ ⟨rfl, hy⟩
          have a0_w1_ : After ((w.alloc (.cells #[.slice A h.length c, .slice B l.length d] 24)).alloc (.cells #[.slice A' h'.length c', .slice B' l'.length d'] 24)) w1_ := after_of_more hy inferInstance
          have l00_w1_ : Le (w.heap.size + 1) w1_ := ⟨by have := a0_w1_.below.size; simp at this; omega⟩
          have l01_w1_ : Le (w.heap.size + 2) w1_ := ⟨by have := a0_w1_.below.size; simp at this; omega⟩
          have h0_w1_ := HK.out w1_ a0_w1_
          have aw_w1_ : After w w1_ := after_after inferInstance a0_w1_
          clear hy
          go_wp2_with fail
          refine (Gives.on G2 _ (after_after aw_w1_ inferInstance)).mono ?_
          rintro e w2_ ⟨rfl, hy⟩
          have a0_w2_ : After ((w.alloc (.cells #[.slice A h.length c, .slice B l.length d] 24)).alloc (.cells #[.slice A' h'.length c', .slice B' l'.length d'] 24)) w2_ := after_of_more hy (after_after a0_w1_ inferInstance)
          have l00_w2_ : Le (w.heap.size + 1) w2_ := ⟨by have := a0_w2_.below.size; simp at this; omega⟩
          have l01_w2_ : Le (w.heap.size + 2) w2_ := ⟨by have := a0_w2_.below.size; simp at this; omega⟩
          have h0_w2_ := HK.out w2_ a0_w2_
          have aw_w2_ : After w w2_ := after_after inferInstance a0_w2_
          clear hy
          go_wp2_with fail
          refine (GivesW.on G3 _ (after_after aw_w2_ inferInstance)).mono ?_
          rintro e w3_ ⟨A3, c3, B3, d3, rfl, x3, hy⟩
          have a0_w3_ : After ((w.alloc (.cells #[.slice A h.length c, .slice B l.length d] 24)).alloc (.cells #[.slice A' h'.length c', .slice B' l'.length d'] 24)) w3_ := after_of_more hy (after_after a0_w2_ inferInstance)
          have l00_w3_ : Le (w.heap.size + 1) w3_ := ⟨by have := a0_w3_.below.size; simp at this; omega⟩
          have l01_w3_ : Le (w.heap.size + 2) w3_ := ⟨by have := a0_w3_.below.size; simp at this; omega⟩
          have h0_w3_ := HK.out w3_ a0_w3_
          have aw_w3_ : After w w3_ := after_after inferInstance a0_w3_
          clear hy
          have X3 := Lib.hid x3
          clear x3
          go_wp2_with fail
          obtain ⟨g3, hg_⟩ : ∃ g, w3_.heap.size = g := ⟨_, rfl⟩
          obtain ⟨w4_, hU_, b3, HK3, Lq3⟩ : ∃ U, w3_.alloc (.cells #[.slice A3 H.length c3, .slice B3 L.length d3] 24) = U ∧ After w3_ U ∧ Hid (∀ V, After U V → V.cell? ⟨g3, 0, none⟩ = some (.slice A3 H.length c3) ∧ V.cell? ⟨g3, 1, none⟩ = some (.slice B3 L.length d3)) ∧ Le (g3 + 1) U := by
            refine ⟨_, rfl, inferInstance, fun V k_ => ?_, ⟨by rw [← hg_]; simp⟩⟩
            have f_ := (Blk.new w3_ 24 #[.slice A3 H.length c3, .slice B3 L.length d3]).after (w' := V)
            rw [hg_] at f_
            exact ⟨by rw [f_.cell]; rfl, by rw [f_.cell]; rfl⟩
          rw [hU_, hg_]
          clear hU_ hg_
          have a0_w4_ : After ((w.alloc (.cells #[.slice A h.length c, .slice B l.length d] 24)).alloc (.cells #[.slice A' h'.length c', .slice B' l'.length d'] 24)) w4_ := after_after a0_w3_ b3
          have l00_w4_ : Le (w.heap.size + 1) w4_ := ⟨by have := a0_w4_.below.size; simp at this; omega⟩
          have l01_w4_ : Le (w.heap.size + 2) w4_ := ⟨by have := a0_w4_.below.size; simp at this; omega⟩
          have h0_w4_ := HK.out w4_ a0_w4_
          have aw_w4_ : After w w4_ := after_after inferInstance a0_w4_
          have a3_w4_ : After w4_ w4_ := inferInstance
          have h3_w4_ := HK3.out w4_ a3_w4_
          replace X3 := Lib.hid (X3.out.here w4_)
          refine (GivesW.on G4 _ (after_after aw_w4_ inferInstance)).mono ?_
          rintro e w5_ ⟨A4, c4, B4, d4, rfl, x4, hy⟩
          have a0_w5_ : After ((w.alloc (.cells #[.slice A h.length c, .slice B l.length d] 24)).alloc (.cells #[.slice A' h'.length c', .slice B' l'.length d'] 24)) w5_ := after_of_more hy (after_after a0_w4_ inferInstance)
          have l00_w5_ : Le (w.heap.size + 1) w5_ := ⟨by have := a0_w5_.below.size; simp at this; omega⟩
          have l01_w5_ : Le (w.heap.size + 2) w5_ := ⟨by have := a0_w5_.below.size; simp at this; omega⟩
          have h0_w5_ := HK.out w5_ a0_w5_
          have a3_w5_ : After w4_ w5_ := after_of_more hy (after_after a3_w4_ inferInstance)
          have l30_w5_ : Le (g3 + 1) w5_ := ⟨Nat.le_trans Lq3.le a3_w5_.below.size⟩
          have h3_w5_ := HK3.out w5_ a3_w5_
          have aw_w5_ : After w w5_ := after_after inferInstance a0_w5_
          clear hy
          have X4 := Lib.hid x4
          clear x4
          go_wp2_with fail
          obtain ⟨g4, hg_⟩ : ∃ g, w5_.heap.size = g := ⟨_, rfl⟩
          obtain ⟨w6_, hU_, b4, HK4, Lq4⟩ : ∃ U, w5_.alloc (.cells #[.slice A4 H.length c4, .slice B4 L.length d4] 24) = U ∧ After w5_ U ∧ Hid (∀ V, After U V → V.cell? ⟨g4, 0, none⟩ = some (.slice A4 H.length c4) ∧ V.cell? ⟨g4, 1, none⟩ = some (.slice B4 L.length d4)) ∧ Le (g4 + 1) U := by
            refine ⟨_, rfl, inferInstance, fun V k_ => ?_, ⟨by rw [← hg_]; simp⟩⟩
            have f_ := (Blk.new w5_ 24 #[.slice A4 H.length c4, .slice B4 L.length d4]).after (w' := V)
            rw [hg_] at f_
            exact ⟨by rw [f_.cell]; rfl, by rw [f_.cell]; rfl⟩
          rw [hU_, hg_]
          clear hU_ hg_
          have a0_w6_ : After ((w.alloc (.cells #[.slice A h.length c, .slice B l.length d] 24)).alloc (.cells #[.slice A' h'.length c', .slice B' l'.length d'] 24)) w6_ := after_after a0_w5_ b4
          have l00_w6_ : Le (w.heap.size + 1) w6_ := ⟨by have := a0_w6_.below.size; simp at this; omega⟩
          have l01_w6_ : Le (w.heap.size + 2) w6_ := ⟨by have := a0_w6_.below.size; simp at this; omega⟩
          have h0_w6_ := HK.out w6_ a0_w6_
          have a3_w6_ : After w4_ w6_ := after_after a3_w5_ b4
          have l30_w6_ : Le (g3 + 1) w6_ := ⟨Nat.le_trans Lq3.le a3_w6_.below.size⟩
          have h3_w6_ := HK3.out w6_ a3_w6_
          have aw_w6_ : After w w6_ := after_after inferInstance a0_w6_
          have a4_w6_ : After w6_ w6_ := inferInstance
          have h4_w6_ := HK4.out w6_ a4_w6_
          replace X4 := Lib.hid (X4.out.here w6_)
          have G5 := equal_v (X3.out.here w6_) X4.out (v := true) (by simp)
          refine (Gives.on G5 _ (after_after a4_w6_ inferInstance)).mono ?_
          rintro e w7_ ⟨rfl, hy⟩
          have a0_w7_ : After ((w.alloc (.cells #[.slice A h.length c, .slice B l.length d] 24)).alloc (.cells #[.slice A' h'.length c', .slice B' l'.length d'] 24)) w7_ := after_of_more hy (after_after a0_w6_ inferInstance)
          have l00_w7_ : Le (w.heap.size + 1) w7_ := ⟨by have := a0_w7_.below.size; simp at this; omega⟩
          have l01_w7_ : Le (w.heap.size + 2) w7_ := ⟨by have := a0_w7_.below.size; simp at this; omega⟩
          have h0_w7_ := HK.out w7_ a0_w7_
          have a3_w7_ : After w4_ w7_ := after_of_more hy (after_after a3_w6_ inferInstance)
          have l30_w7_ : Le (g3 + 1) w7_ := ⟨Nat.le_trans Lq3.le a3_w7_.below.size⟩
          have h3_w7_ := HK3.out w7_ a3_w7_
          have a4_w7_ : After w6_ w7_ := after_of_more hy (after_after a4_w6_ inferInstance)
          have l40_w7_ : Le (g4 + 1) w7_ := ⟨Nat.le_trans Lq4.le a4_w7_.below.size⟩
          have h4_w7_ := HK4.out w7_ a4_w7_
          have aw_w7_ : After w w7_ := after_after inferInstance a0_w7_
          clear hy
          clear G5
          go_wp2_with fail
          go_loopw [9] (fun k wr => k = .int .i64 0 ∧ After w7_ wr) (fun k _ => 0)
          case atStart => exact ⟨rfl, inferInstance⟩
          case round =>
            obtain ⟨rfl, ar_⟩ := hrel
            have a0_wr : After ((w.alloc (.cells #[.slice A h.length c, .slice B l.length d] 24)).alloc (.cells #[.slice A' h'.length c', .slice B' l'.length d'] 24)) wr := after_after a0_w7_ ar_
            have l00_wr : Le (w.heap.size + 1) wr := ⟨by have := a0_wr.below.size; simp at this; omega⟩
            have l01_wr : Le (w.heap.size + 2) wr := ⟨by have := a0_wr.below.size; simp at this; omega⟩
            have h0_wr := HK.out wr a0_wr
            have a3_wr : After w4_ wr := after_after a3_w7_ ar_
            have l30_wr : Le (g3 + 1) wr := ⟨Nat.le_trans Lq3.le a3_wr.below.size⟩
            have h3_wr := HK3.out wr a3_wr
            have a4_wr : After w6_ wr := after_after a4_w7_ ar_
            have l40_wr : Le (g4 + 1) wr := ⟨Nat.le_trans Lq4.le a4_wr.below.size⟩
            have h4_wr := HK4.out wr a4_wr
            have aw_wr : After w wr := after_after inferInstance a0_wr
            go_wp2_with fail
            refine (Gives.on GA _ (after_after aw_wr inferInstance)).mono ?_
            rintro e w8_ ⟨rfl, hy⟩
            have a0_w8_ : After ((w.alloc (.cells #[.slice A h.length c, .slice B l.length d] 24)).alloc (.cells #[.slice A' h'.length c', .slice B' l'.length d'] 24)) w8_ := after_of_more hy (after_after a0_wr inferInstance)
            have l00_w8_ : Le (w.heap.size + 1) w8_ := ⟨by have := a0_w8_.below.size; simp at this; omega⟩
            have l01_w8_ : Le (w.heap.size + 2) w8_ := ⟨by have := a0_w8_.below.size; simp at this; omega⟩
            have h0_w8_ := HK.out w8_ a0_w8_
            have a3_w8_ : After w4_ w8_ := after_of_more hy (after_after a3_wr inferInstance)
            have l30_w8_ : Le (g3 + 1) w8_ := ⟨Nat.le_trans Lq3.le a3_w8_.below.size⟩
            have h3_w8_ := HK3.out w8_ a3_w8_
            have a4_w8_ : After w6_ w8_ := after_of_more hy (after_after a4_wr inferInstance)
            have l40_w8_ : Le (g4 + 1) w8_ := ⟨Nat.le_trans Lq4.le a4_w8_.below.size⟩
            have h4_w8_ := HK4.out w8_ a4_w8_
            have aw_w8_ : After w w8_ := after_after inferInstance a0_w8_
            clear hy
            go_wp2_with fail
            go_ret
            exact ⟨rfl, @After.is_more w _ (after_after aw_w8_ inferInstance)⟩

set_option maxRecDepth 100000 in
theorem lifted (os : Os) (started : os.Started) (H : Type) (enc : TypeId × Value → H) :
    ReturnsInHanded {} Try.checked os 3 .any (Rows.bwordOnsSpec.pre6 enc Try.prog Try.f3 Rows.bwordOnsRow.domain false) (Rows.bwordOnsSpec.post enc Try.prog Try.f3 false true false false) := by
  refine returnsInHanded_of_change_sized (C := Try.checked) own started (by kernel_rfl) Try.func3
    (ChangeSpec.witness6 (enc := enc) (C := Try.checked) false ⟨#[], #[.agg #[.slice none 0 0, .slice none 0 0], .agg #[.slice none 0 0, .slice none 0 0]], []⟩ 8 (by kernel_rfl) (by kernel_rfl) (by kernel_rfl) (by kernel_rfl)) ?_
  intro W base args ds gs before hval0 hW hcnd hsz0 _
  have hval : ∀ (j : Nat) t v, Try.f3.params[j]? = some t → args[j]? = some v → Value.okWide Try.prog W .any base t v := hval0
  have hsz : (DataW.weightsEach Try.prog (Try.f3.params.toList ++ Rows.bwordOnsSpec.plain.varTypes Try.prog) (ds ++ gs)).all (· ≤ reachBytes) = true := hsz0
  have hW' := hW
  obtain ⟨p, q, hA0, hV, rfl, hfz, hnd⟩ := hW
  have hA : DataW.TrodAll enc Try.prog W 0 (fun _ => true) true Try.f3.params.toList args.toList ds p := hA0
  rw [Try.params3] at hA hval hsz
  obtain ⟨v0, vs0, d0, ds0, p0, q0, hargs, rfl, rfl, h0, r0⟩ := trodAll_cons hA
  obtain ⟨v1, vs1, d1, ds1, p1, q1, rfl, rfl, rfl, h1, r1⟩ := trodAll_cons r0
  obtain ⟨rfl, rfl, rfl⟩ := trodAll_nil r1
  obtain rfl : args = #[v0, v1] := by cases args; simp_all
  obtain ⟨rfl, rfl⟩ := trodVars_none hV
  have k0 := h0
  have lt0 : ∀ x ∈ p0, x.block < W.heap.size := by obtain ⟨m, hm⟩ := k0; exact DataW.trod_lt m _ _ _ hm
  have z0 : ∀ n ∈ d0.weights Try.prog 24, n ≤ reachBytes := fun n hn => by
    simpa using List.all_eq_true.1 hsz n (DataW.weights_mem_each (j := 0) (t := 24) rfl rfl n hn)
  obtain ⟨A0, c0, B0, c0', hl0, ll0, rfl, x0⟩ := open_word (e := 4) Try.underlying24 (by kernel_rfl) (by kernel_rfl) Try.underlying22 Try.underlying22 Try.underlying4 (by kernel_rfl) (by kernel_rfl) (hval 0 24 v0 rfl rfl) h0 z0
  have k1 := h1
  have lt1 : ∀ x ∈ p1, x.block < W.heap.size := by obtain ⟨m, hm⟩ := k1; exact DataW.trod_lt m _ _ _ hm
  have z1 : ∀ n ∈ d1.weights Try.prog 24, n ≤ reachBytes := fun n hn => by
    simpa using List.all_eq_true.1 hsz n (DataW.weights_mem_each (j := 1) (t := 24) rfl rfl n hn)
  obtain ⟨A1, c1, B1, c1', hl1, ll1, rfl, x1⟩ := open_word (e := 4) Try.underlying24 (by kernel_rfl) (by kernel_rfl) Try.underlying22 Try.underlying22 Try.underlying4 (by kernel_rfl) (by kernel_rfl) (hval 1 24 v1 rfl rfl) h1 z1
  clear hA0 hval0 hsz0 hsz
  refine (walk W x0 x1).mono fun e W' ⟨he, y, hy⟩ => ?_
  subst he
  have bel : Below W.heap.size W W' := by rw [hy]; exact more_below W y
  exact ⟨_, rfl, _, _, _, [], _, [], hW', trodAll_mk1 (shut_bool Try.underlying4 _), (trodAll_cons_mk (Below.trod laidOut (by kernel_rfl) (of_decide_eq_true (by kernel_rfl)) k0 bel lt0) (trodAll_cons_mk (Below.trod laidOut (by kernel_rfl) (of_decide_eq_true (by kernel_rfl)) k1 bel lt1) trodAll_mk0)), rfl, bel.frame _, fun h => by cases h⟩

theorem over : Rows.bwordOnsRow.holds Try.pinned (OpenSpec.ofChange Rows.bwordOnsSpec) :=
  OpenClaim.holds_of_wide 3 Try.f3 rfl rfl rfl rfl rfl rfl rfl ⟨rfl, rfl, rfl, rfl, rfl⟩ rfl rfl rfl rfl rfl (by kernel_rfl) Try.func3 (by kernel_rfl)
    (of_decide_eq_true (by kernel_rfl)) (by unfold Func.isWrapper; first | (rw [if_pos (by decide +kernel)]; kernel_rfl) | (rw [if_neg (by decide +kernel)]; exact ⟨rfl, rfl⟩))
    (fun os started H enc _ => lifted os started H enc)

theorem proved : Rows.BwordOnsSaid := over
#print axioms proved
end Go.Proofs.Ytjbpelkdciphnaa.bwordOns
