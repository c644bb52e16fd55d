/-
  The text of a word is the chapter's, and is read back as the word: for any word. No conditions.
-/
import Derived.Test.YtjbpelkdciphnaaAwake2
import Derived.Test.YtjbpelkdciphnaaGives
import Derived.Test.YtjbpelkdciphnaaLift
import Derived.Test.YtjbpelkdciphnaaParse
import Derived.Test.YtjbpelkdciphnaaRParse
namespace Go.Proofs.Ytjbpelkdciphnaa.bwordTexts
open Go.ChangeShapes Go.WideShapes Go.ChangeAt Go.RowKit Go.BigFrame
set_option linter.unusedVariables false
set_option linter.unusedSimpArgs false

theorem own : ownKnob Try.prog.godebug = none := by kernel_rfl
theorem laidOut : laidOutB Try.prog = true := by kernel_rfl

section
variable {w0 : World} {A : Option Addr} {c : Nat} {B : Option Addr} {d : Nat} {h l : List Bool} {A' : Option Addr} {c' : Nat} {B' : Option Addr} {d' : Nat} {h' l' : List Bool}
theorem huge_v (x : RW w0 A c B d h l) {v : Bool} (e : hugeB h l = v) : Gives w0 12 #[.agg #[.slice A h.length c, .slice B l.length d]] (.bool v) := fun U _ => e ▸ huge_any x U
theorem awake_v (w : World) : Gives w 13 #[] (.bool true) := fun U _ => awake_any U
theorem check_v (x : RW w0 A c B d h l) {v : Int} (e : checkI h l = v) : Gives w0 19 #[.agg #[.slice A h.length c, .slice B l.length d]] (.int .i64 v) := fun U _ => e ▸ check_any x U
theorem rcheck_v (x : RW w0 A c B d h l) {v : Int} (e : checkI h l = v) : Gives w0 21 #[.agg #[.slice A h.length c, .slice B l.length d]] (.int .i64 v) := fun U _ => e ▸ rcheck_any x U
theorem at_v (x : RW w0 A c B d h l) {i : Int} (hi : i ≤ 9223372036854775807) {v : Bool} (e : atB h l i = v) : Gives w0 22 #[.agg #[.slice A h.length c, .slice B l.length d], .int .i64 i] (.bool v) := fun U _ => e ▸ at_any x U i hi
theorem rat_v (x : RW w0 A c B d h l) {i : Int} (hi : i ≤ 9223372036854775807) {v : Bool} (e : atB h l i = v) : Gives w0 23 #[.agg #[.slice A h.length c, .slice B l.length d], .int .i64 i] (.bool v) := fun U _ => e ▸ rat_any x U i hi
theorem ones_v (x : RW w0 A c B d h l) {i : Int} (hi : i ≤ 9223372036854775807) {v : Int} (e : onesI h l i = v) : Gives w0 17 #[.agg #[.slice A h.length c, .slice B l.length d], .int .i64 i] (.int .i64 v) := fun U _ => e ▸ ones_all x U i hi
theorem rones_v (x : RW w0 A c B d h l) {i : Int} (hi : i ≤ 9223372036854775807) {v : Int} (e : onesI h l i = v) : Gives w0 24 #[.agg #[.slice A h.length c, .slice B l.length d], .int .i64 i] (.int .i64 v) := fun U _ => e ▸ rones_all x U i hi
theorem equal_v (x : RW w0 A c B d h l) (x' : RW w0 A' c' B' d' h' l') {v : Bool} (e : (h == h' && l == l') = v) : Gives w0 16 #[.agg #[.slice A h.length c, .slice B l.length d], .agg #[.slice A' h'.length c', .slice B' l'.length d']] (.bool v) := fun U _ => e ▸ requal_any x x' U
theorem on_v (x : RW w0 A c B d h l) (x' : RW w0 A' c' B' d' h' l') {H L : List Bool} {v : Int} (e : onW h l h' l' = ((H, L), v)) : GivesW w0 14 #[.agg #[.slice A h.length c, .slice B l.length d], .agg #[.slice A' h'.length c', .slice B' l'.length d']] H L (fun a => .tuple #[a, .int .i64 v]) := fun U _ => by have := on_any x x' U; rwa [e] at this
theorem norm_v (x : RW w0 A c B d h l) {H L : List Bool} (e : normW h l = (H, L)) : GivesW w0 20 #[.agg #[.slice A h.length c, .slice B l.length d]] H L (fun a => a) := fun U _ => by have := norm_any x U; rwa [e] at this
theorem rnorm_v (x : RW w0 A c B d h l) {H L : List Bool} (e : normW h l = (H, L)) : GivesW w0 25 #[.agg #[.slice A h.length c, .slice B l.length d]] H L (fun a => a) := fun U _ => by have := rnorm_any x U; rwa [e] at this
theorem i64_le {k : Int} (h : (Lit.int .i64 k).wf = true) : -9223372036854775808 ≤ k ∧ k ≤ 9223372036854775807 := by
  simpa [Lit.wf, IntKind.min, IntKind.max, IntKind.signed, IntKind.bits] using h
theorem onesI_step (h l : List Bool) (k : Nat) : onesI h l ((k : Int) + 1) = onesI h l k + (if atB h l k then 1 else 0) := by
  by_cases hv : Valid h l
  · have := W.ones_succ h l k hv.1
    have e : ((k : Int) + 1) = ((k + 1 : Nat) : Int) := by push_cast; rfl
    rw [e, onesI_ok hv, onesI_ok hv, atB_ok hv (by omega), letterB_nat, this]
    cases W.letter h l k <;> simp
  · rw [onesI_bad hv, onesI_bad hv, atB_bad hv]; simp
theorem onesI_bd2 (h l : List Bool) (k : Nat) : 0 ≤ onesI h l k ∧ onesI h l k ≤ k := by
  by_cases hv : Valid h l
  · rw [onesI_ok hv]; have := W.ones_le h l k hv.1; omega
  · rw [onesI_bad hv]; omega
end
theorem text_v {w0 : World} {A c B d} {h l : List Bool} (x : RW w0 A c B d h l) {S : ByteArray} {v : Int} (e1 : (⟨(textV h l).1.toArray⟩ : ByteArray) = S) (e2 : (textV h l).2 = v) : Gives w0 35 #[.agg #[.slice A h.length c, .slice B l.length d]] (.tuple #[.string S, .int .i64 v]) := fun U _ => by subst e1 e2; exact text_any x U
theorem rtext_v {w0 : World} {A c B d} {h l : List Bool} (x : RW w0 A c B d h l) {S : ByteArray} {v : Int} (e1 : (⟨(textV h l).1.toArray⟩ : ByteArray) = S) (e2 : (textV h l).2 = v) : Gives w0 36 #[.agg #[.slice A h.length c, .slice B l.length d]] (.tuple #[.string S, .int .i64 v]) := fun U _ => by subst e1 e2; exact rtext_any x U
theorem parse_v (w : World) {S : ByteArray} (hs : S.size ≤ 1000000) {H L : List Bool} {v : Int} (e : parseV S.data.toList = ((H, L), v)) : GivesW w 37 #[.string S] H L (fun a => .tuple #[a, .int .i64 v]) := fun U _ => by have := parse_any S U hs; rwa [e] at this
theorem rparse_v (w : World) {S : ByteArray} (hs : S.size ≤ 1000000) {H L : List Bool} {v : Int} (e : parseV S.data.toList = ((H, L), v)) : GivesW w 38 #[.string S] H L (fun a => .tuple #[a, .int .i64 v]) := fun U _ => by have := rparse_any S U hs; rwa [e] at this
theorem textB_length (h l : List Bool) : (textB h l).length = h.length + l.length + 2 := by rw [textB_eq]; simp [digitsB_length]; omega
set_option maxRecDepth 100000 in
set_option maxHeartbeats 3200000 in
theorem walk {A B c d h l} (w : World) (x : RW w A c B d h l) :
    Calls Try.prog 10 #[.agg #[.slice A h.length c, .slice B l.length d]] w fun e w' => e = .returned (.bool true) ∧ ∃ y, w' = w.more y := by
  have HK : Hid (∀ U : World, After (w.alloc (.cells #[.slice A h.length c, .slice B l.length d] 24)) U → U.cell? ⟨w.heap.size, 0, none⟩ = some (.slice A h.length c) ∧ U.cell? ⟨w.heap.size, 1, none⟩ = some (.slice B l.length d)) := fun U k => by
    have := (Blk.new w 24 #[.slice A h.length c, .slice B l.length d]).after (w' := U)
    exact ⟨by rw [this.cell]; rfl, by rw [this.cell]; rfl⟩
  have GA := awake_v w
  cases h1 : hugeB h l with
  | true =>
    have G1 := huge_v x h1
    clear h1
    go_enter Try.func10, Try.ntmps10
    go_wp2_with fail
    refine (Gives.on G1 _ inferInstance).mono ?_
    rintro e w1_ ⟨rfl, hy⟩
    have a0_w1_ : After (w.alloc (.cells #[.slice A h.length c, .slice B l.length d] 24)) w1_ := after_of_more hy inferInstance
    have l00_w1_ : Le (w.heap.size + 1) w1_ := ⟨by have := a0_w1_.below.size; simp at this; omega⟩
    have h0_w1_ := HK.out w1_ a0_w1_
    have aw_w1_ : After w w1_ := after_after inferInstance a0_w1_
    clear hy
    go_wp2_with fail
    refine (Gives.on GA _ (after_after aw_w1_ inferInstance)).mono ?_
    rintro e w2_ ⟨rfl, hy⟩
    have a0_w2_ : After (w.alloc (.cells #[.slice A h.length c, .slice B l.length d] 24)) w2_ := after_of_more hy (after_after a0_w1_ inferInstance)
    have l00_w2_ : Le (w.heap.size + 1) w2_ := ⟨by have := a0_w2_.below.size; simp at this; omega⟩
    have h0_w2_ := HK.out w2_ a0_w2_
    have aw_w2_ : After w w2_ := after_after inferInstance a0_w2_
    clear hy
    go_wp2_with fail
    go_ret
    exact ⟨rfl, @After.is_more w _ (after_after aw_w2_ inferInstance)⟩
  | false =>
    have G1 := huge_v x h1
    clear h1
    rcases check_cases h l with hv | ⟨hv, h5⟩
    · obtain ⟨S, hS⟩ : ∃ S : ByteArray, (⟨(textB h l).toArray⟩ : ByteArray) = S := ⟨_, rfl⟩
      have hSl : S.data.toList = textB h l := by rw [← hS]
      have hSs : S.size = h.length + l.length + 2 := by rw [bytes_size hSl, textB_length]
      have G3 := text_v x (S := S) (v := 0) (by rw [textV_ok hv]; exact hS) (by rw [textV_ok hv])
      have G4 := rtext_v x (S := S) (v := 0) (by rw [textV_ok hv]; exact hS) (by rw [textV_ok hv])
      have hv2 := hv.2
      have G5 := parse_v w (S := S) (by omega) (H := h) (L := l) (v := 0) (parseV_text (by rw [hSl, textB_length]; omega) ⟨hSl, hv⟩)
      clear hS hSl hSs hv hv2
      go_enter Try.func10, Try.ntmps10
      go_wp2_with fail
      refine (Gives.on G1 _ inferInstance).mono ?_
      rintro e w1_ ⟨rfl, hy⟩
      have a0_w1_ : After (w.alloc (.cells #[.slice A h.length c, .slice B l.length d] 24)) w1_ := after_of_more hy inferInstance
      have l00_w1_ : Le (w.heap.size + 1) w1_ := ⟨by have := a0_w1_.below.size; simp at this; omega⟩
      have h0_w1_ := HK.out w1_ a0_w1_
      have aw_w1_ : After w w1_ := after_after inferInstance a0_w1_
      clear hy
      go_wp2_with fail
      refine (Gives.on G3 _ (after_after aw_w1_ inferInstance)).mono ?_
      rintro e w2_ ⟨rfl, hy⟩
      have a0_w2_ : After (w.alloc (.cells #[.slice A h.length c, .slice B l.length d] 24)) w2_ := after_of_more hy (after_after a0_w1_ inferInstance)
      have l00_w2_ : Le (w.heap.size + 1) w2_ := ⟨by have := a0_w2_.below.size; simp at this; omega⟩
      have h0_w2_ := HK.out w2_ a0_w2_
      have aw_w2_ : After w w2_ := after_after inferInstance a0_w2_
      clear hy
      go_wp2_with fail
      refine (Gives.on G4 _ (after_after aw_w2_ inferInstance)).mono ?_
      rintro e w3_ ⟨rfl, hy⟩
      have a0_w3_ : After (w.alloc (.cells #[.slice A h.length c, .slice B l.length d] 24)) w3_ := after_of_more hy (after_after a0_w2_ inferInstance)
      have l00_w3_ : Le (w.heap.size + 1) w3_ := ⟨by have := a0_w3_.below.size; simp at this; omega⟩
      have h0_w3_ := HK.out w3_ a0_w3_
      have aw_w3_ : After w w3_ := after_after inferInstance a0_w3_
      clear hy
      go_wp2_with fail
      refine (GivesW.on G5 _ (after_after aw_w3_ inferInstance)).mono ?_
      rintro e w4_ ⟨A7, c7, B7, d7, rfl, x7, hy⟩
      have a0_w4_ : After (w.alloc (.cells #[.slice A h.length c, .slice B l.length d] 24)) w4_ := after_of_more hy (after_after a0_w3_ inferInstance)
      have l00_w4_ : Le (w.heap.size + 1) w4_ := ⟨by have := a0_w4_.below.size; simp at this; omega⟩
      have h0_w4_ := HK.out w4_ a0_w4_
      have aw_w4_ : After w w4_ := after_after inferInstance a0_w4_
      clear hy
      have X7 := Lib.hid x7
      clear x7
      go_wp2_with fail
      obtain ⟨g7, hg_⟩ : ∃ g, w4_.heap.size = g := ⟨_, rfl⟩
      obtain ⟨w5_, hU_, b7, HK7, Lq7⟩ : ∃ U, w4_.alloc (.cells #[.slice A7 h.length c7, .slice B7 l.length d7] 24) = U ∧ After w4_ U ∧ Hid (∀ V, After U V → V.cell? ⟨g7, 0, none⟩ = some (.slice A7 h.length c7) ∧ V.cell? ⟨g7, 1, none⟩ = some (.slice B7 l.length d7)) ∧ Le (g7 + 1) U := by
        refine ⟨_, rfl, inferInstance, fun V k_ => ?_, ⟨by rw [← hg_]; simp⟩⟩
        have f_ := (Blk.new w4_ 24 #[.slice A7 h.length c7, .slice B7 l.length d7]).after (w' := V)
        rw [hg_] at f_
        exact ⟨by rw [f_.cell]; rfl, by rw [f_.cell]; rfl⟩
      rw [hU_, hg_]
      clear hU_ hg_
      have a0_w5_ : After (w.alloc (.cells #[.slice A h.length c, .slice B l.length d] 24)) w5_ := after_after a0_w4_ b7
      have l00_w5_ : Le (w.heap.size + 1) w5_ := ⟨by have := a0_w5_.below.size; simp at this; omega⟩
      have h0_w5_ := HK.out w5_ a0_w5_
      have aw_w5_ : After w w5_ := after_after inferInstance a0_w5_
      have a7_w5_ : After w5_ w5_ := inferInstance
      have h7_w5_ := HK7.out w5_ a7_w5_
      replace X7 := Lib.hid (X7.out.here w5_)
      have G6 := equal_v X7.out (x.here w5_) (v := true) (by simp)
      refine (Gives.on G6 _ (after_after a7_w5_ inferInstance)).mono ?_
      rintro e w6_ ⟨rfl, hy⟩
      have a0_w6_ : After (w.alloc (.cells #[.slice A h.length c, .slice B l.length d] 24)) w6_ := after_of_more hy (after_after a0_w5_ inferInstance)
      have l00_w6_ : Le (w.heap.size + 1) w6_ := ⟨by have := a0_w6_.below.size; simp at this; omega⟩
      have h0_w6_ := HK.out w6_ a0_w6_
      have a7_w6_ : After w5_ w6_ := after_of_more hy (after_after a7_w5_ inferInstance)
      have l70_w6_ : Le (g7 + 1) w6_ := ⟨Nat.le_trans Lq7.le a7_w6_.below.size⟩
      have h7_w6_ := HK7.out w6_ a7_w6_
      have aw_w6_ : After w w6_ := after_after inferInstance a0_w6_
      clear hy
      go_wp2_with fail
      refine (Gives.on GA _ (after_after aw_w6_ inferInstance)).mono ?_
      rintro e w7_ ⟨rfl, hy⟩
      have a0_w7_ : After (w.alloc (.cells #[.slice A h.length c, .slice B l.length d] 24)) w7_ := after_of_more hy (after_after a0_w6_ inferInstance)
      have l00_w7_ : Le (w.heap.size + 1) w7_ := ⟨by have := a0_w7_.below.size; simp at this; omega⟩
      have h0_w7_ := HK.out w7_ a0_w7_
      have a7_w7_ : After w5_ w7_ := after_of_more hy (after_after a7_w6_ inferInstance)
      have l70_w7_ : Le (g7 + 1) w7_ := ⟨Nat.le_trans Lq7.le a7_w7_.below.size⟩
      have h7_w7_ := HK7.out w7_ a7_w7_
      have aw_w7_ : After w w7_ := after_after inferInstance a0_w7_
      clear hy
      go_wp2_with fail
      go_ret
      exact ⟨rfl, @After.is_more w _ (after_after aw_w7_ inferInstance)⟩
    · have hp : parseV (⟨#[]⟩ : ByteArray).data.toList = (([], []), 5) := parseV_none (by decide) fun a b t => by
        have := t.1; rw [textB_eq] at this; simp at this
      have G5 := parse_v w (S := ⟨#[]⟩) (by decide) hp
      obtain ⟨O, hO⟩ : ∃ O : List Bool, [] = O := ⟨_, rfl⟩
      rw [hO] at G5
      clear hO hp
      obtain ⟨v, hv5, t1, t2, t3⟩ : ∃ v : Int, checkI h l = v ∧ (v == 0) = false ∧ (v != 0) = true ∧ (v != v) = false := by
        rcases h5 with h5 | h5
        · exact ⟨5, h5, rfl, rfl, rfl⟩
        · exact ⟨3, h5, rfl, rfl, rfl⟩
      have G3 := text_v x (S := ⟨#[]⟩) (v := v) (by rw [textV_bad hv]) (by rw [textV_bad hv]; exact hv5)
      have G4 := rtext_v x (S := ⟨#[]⟩) (v := v) (by rw [textV_bad hv]) (by rw [textV_bad hv]; exact hv5)
      clear h5 hv5
      go_enter Try.func10, Try.ntmps10
      go_wp2_with fail
      refine (Gives.on G1 _ inferInstance).mono ?_
      rintro e w1_ ⟨rfl, hy⟩
      have a0_w1_ : After (w.alloc (.cells #[.slice A h.length c, .slice B l.length d] 24)) w1_ := after_of_more hy inferInstance
      have l00_w1_ : Le (w.heap.size + 1) w1_ := ⟨by have := a0_w1_.below.size; simp at this; omega⟩
      have h0_w1_ := HK.out w1_ a0_w1_
      have aw_w1_ : After w w1_ := after_after inferInstance a0_w1_
      clear hy
      go_wp2_with fail
      refine (Gives.on G3 _ (after_after aw_w1_ inferInstance)).mono ?_
      rintro e w2_ ⟨rfl, hy⟩
      have a0_w2_ : After (w.alloc (.cells #[.slice A h.length c, .slice B l.length d] 24)) w2_ := after_of_more hy (after_after a0_w1_ inferInstance)
      have l00_w2_ : Le (w.heap.size + 1) w2_ := ⟨by have := a0_w2_.below.size; simp at this; omega⟩
      have h0_w2_ := HK.out w2_ a0_w2_
      have aw_w2_ : After w w2_ := after_after inferInstance a0_w2_
      clear hy
      go_wp2_with fail
      refine (Gives.on G4 _ (after_after aw_w2_ inferInstance)).mono ?_
      rintro e w3_ ⟨rfl, hy⟩
      have a0_w3_ : After (w.alloc (.cells #[.slice A h.length c, .slice B l.length d] 24)) w3_ := after_of_more hy (after_after a0_w2_ inferInstance)
      have l00_w3_ : Le (w.heap.size + 1) w3_ := ⟨by have := a0_w3_.below.size; simp at this; omega⟩
      have h0_w3_ := HK.out w3_ a0_w3_
      have aw_w3_ : After w w3_ := after_after inferInstance a0_w3_
      clear hy
      go_wp2_with fail
      refine (GivesW.on G5 _ (after_after aw_w3_ inferInstance)).mono ?_
      rintro e w4_ ⟨A7, c7, B7, d7, rfl, x7, hy⟩
      have a0_w4_ : After (w.alloc (.cells #[.slice A h.length c, .slice B l.length d] 24)) w4_ := after_of_more hy (after_after a0_w3_ inferInstance)
      have l00_w4_ : Le (w.heap.size + 1) w4_ := ⟨by have := a0_w4_.below.size; simp at this; omega⟩
      have h0_w4_ := HK.out w4_ a0_w4_
      have aw_w4_ : After w w4_ := after_after inferInstance a0_w4_
      clear hy
      have X7 := Lib.hid x7
      clear x7
      go_wp2_with fail
      obtain ⟨g7, hg_⟩ : ∃ g, w4_.heap.size = g := ⟨_, rfl⟩
      obtain ⟨w5_, hU_, b7, HK7, Lq7⟩ : ∃ U, w4_.alloc (.cells #[.slice A7 O.length c7, .slice B7 O.length d7] 24) = U ∧ After w4_ U ∧ Hid (∀ V, After U V → V.cell? ⟨g7, 0, none⟩ = some (.slice A7 O.length c7) ∧ V.cell? ⟨g7, 1, none⟩ = some (.slice B7 O.length d7)) ∧ Le (g7 + 1) U := by
        refine ⟨_, rfl, inferInstance, fun V k_ => ?_, ⟨by rw [← hg_]; simp⟩⟩
        have f_ := (Blk.new w4_ 24 #[.slice A7 O.length c7, .slice B7 O.length d7]).after (w' := V)
        rw [hg_] at f_
        exact ⟨by rw [f_.cell]; rfl, by rw [f_.cell]; rfl⟩
      rw [hU_, hg_]
      clear hU_ hg_
      have a0_w5_ : After (w.alloc (.cells #[.slice A h.length c, .slice B l.length d] 24)) w5_ := after_after a0_w4_ b7
      have l00_w5_ : Le (w.heap.size + 1) w5_ := ⟨by have := a0_w5_.below.size; simp at this; omega⟩
      have h0_w5_ := HK.out w5_ a0_w5_
      have aw_w5_ : After w w5_ := after_after inferInstance a0_w5_
      have a7_w5_ : After w5_ w5_ := inferInstance
      have h7_w5_ := HK7.out w5_ a7_w5_
      replace X7 := Lib.hid (X7.out.here w5_)
      refine (Gives.on GA _ (after_after aw_w5_ inferInstance)).mono ?_
      rintro e w6_ ⟨rfl, hy⟩
      have a0_w6_ : After (w.alloc (.cells #[.slice A h.length c, .slice B l.length d] 24)) w6_ := after_of_more hy (after_after a0_w5_ inferInstance)
      have l00_w6_ : Le (w.heap.size + 1) w6_ := ⟨by have := a0_w6_.below.size; simp at this; omega⟩
      have h0_w6_ := HK.out w6_ a0_w6_
      have a7_w6_ : After w5_ w6_ := after_of_more hy (after_after a7_w5_ inferInstance)
      have l70_w6_ : Le (g7 + 1) w6_ := ⟨Nat.le_trans Lq7.le a7_w6_.below.size⟩
      have h7_w6_ := HK7.out w6_ a7_w6_
      have aw_w6_ : After w w6_ := after_after inferInstance a0_w6_
      clear hy
      go_wp2_with fail
      go_ret
      exact ⟨rfl, @After.is_more w _ (after_after aw_w6_ inferInstance)⟩

set_option maxRecDepth 100000 in
theorem lifted (os : Os) (started : os.Started) (H : Type) (enc : TypeId × Value → H) :
    ReturnsInHanded {} Try.checked os 10 .any (Rows.bwordTextsSpec.pre6 enc Try.prog Try.f10 Rows.bwordTextsRow.domain false) (Rows.bwordTextsSpec.post enc Try.prog Try.f10 false true false false) := by
  refine returnsInHanded_of_change_sized (C := Try.checked) own started (by kernel_rfl) Try.func10
    (ChangeSpec.witness6 (enc := enc) (C := Try.checked) false ⟨#[], #[.agg #[.slice none 0 0, .slice none 0 0]], []⟩ 8 (by kernel_rfl) (by kernel_rfl) (by kernel_rfl) (by kernel_rfl)) ?_
  intro W base args ds gs before hval0 hW hcnd hsz0 _
  have hval : ∀ (j : Nat) t v, Try.f10.params[j]? = some t → args[j]? = some v → Value.okWide Try.prog W .any base t v := hval0
  have hsz : (DataW.weightsEach Try.prog (Try.f10.params.toList ++ Rows.bwordTextsSpec.plain.varTypes Try.prog) (ds ++ gs)).all (· ≤ reachBytes) = true := hsz0
  have hW' := hW
  obtain ⟨p, q, hA0, hV, rfl, hfz, hnd⟩ := hW
  have hA : DataW.TrodAll enc Try.prog W 0 (fun _ => true) true Try.f10.params.toList args.toList ds p := hA0
  rw [Try.params10] at hA hval hsz
  obtain ⟨v0, vs0, d0, ds0, p0, q0, hargs, rfl, rfl, h0, r0⟩ := trodAll_cons hA
  obtain ⟨rfl, rfl, rfl⟩ := trodAll_nil r0
  obtain rfl : args = #[v0] := by cases args; simp_all
  obtain ⟨rfl, rfl⟩ := trodVars_none hV
  have k0 := h0
  have lt0 : ∀ x ∈ p0, x.block < W.heap.size := by obtain ⟨m, hm⟩ := k0; exact DataW.trod_lt m _ _ _ hm
  have z0 : ∀ n ∈ d0.weights Try.prog 24, n ≤ reachBytes := fun n hn => by
    simpa using List.all_eq_true.1 hsz n (DataW.weights_mem_each (j := 0) (t := 24) rfl rfl n hn)
  obtain ⟨A0, c0, B0, c0', hl0, ll0, rfl, x0⟩ := open_word (e := 4) Try.underlying24 (by kernel_rfl) (by kernel_rfl) Try.underlying22 Try.underlying22 Try.underlying4 (by kernel_rfl) (by kernel_rfl) (hval 0 24 v0 rfl rfl) h0 z0
  clear hA0 hval0 hsz0 hsz
  refine (walk W x0).mono fun e W' ⟨he, y, hy⟩ => ?_
  subst he
  have bel : Below W.heap.size W W' := by rw [hy]; exact more_below W y
  exact ⟨_, rfl, _, _, _, [], _, [], hW', trodAll_mk1 (shut_bool Try.underlying4 _), (trodAll_cons_mk (Below.trod laidOut (by kernel_rfl) (of_decide_eq_true (by kernel_rfl)) k0 bel lt0) trodAll_mk0), rfl, bel.frame _, fun h => by cases h⟩

theorem over : Rows.bwordTextsRow.holds Try.pinned (OpenSpec.ofChange Rows.bwordTextsSpec) :=
  OpenClaim.holds_of_wide 10 Try.f10 rfl rfl rfl rfl rfl rfl rfl ⟨rfl, rfl, rfl, rfl, rfl⟩ rfl rfl rfl rfl rfl (by kernel_rfl) Try.func10 (by kernel_rfl)
    (of_decide_eq_true (by kernel_rfl)) (by unfold Func.isWrapper; first | (rw [if_pos (by decide +kernel)]; kernel_rfl) | (rw [if_neg (by decide +kernel)]; exact ⟨rfl, rfl⟩))
    (fun os started H enc _ => lifted os started H enc)

theorem proved : Rows.BwordTextsSaid := over
#print axioms proved
end Go.Proofs.Ytjbpelkdciphnaa.bwordTexts
