/-
  Sampling is associative where all results fit, and the word (1) is neutral: for any three words. No conditions.
-/
import Derived.Test.YtjbpelkdciphnaaAwake2
import Derived.Test.YtjbpelkdciphnaaGives
import Derived.Test.YtjbpelkdciphnaaLift
namespace Go.Proofs.Ytjbpelkdciphnaa.bwordOnJoins
open Go.ChangeShapes Go.WideShapes Go.ChangeAt Go.RowKit Go.BigFrame
set_option linter.unusedVariables false

theorem own : ownKnob Try.prog.godebug = none := by kernel_rfl
theorem laidOut : laidOutB Try.prog = true := by kernel_rfl

section
variable {w0 : World} {A : Option Addr} {c : Nat} {B : Option Addr} {d : Nat} {h l : List Bool} {A' : Option Addr} {c' : Nat} {B' : Option Addr} {d' : Nat} {h' l' : List Bool}
theorem huge_v (x : RW w0 A c B d h l) {v : Bool} (e : hugeB h l = v) : Gives w0 12 #[.agg #[.slice A h.length c, .slice B l.length d]] (.bool v) := fun U _ => e ▸ huge_any x U
theorem awake_v (w : World) : Gives w 13 #[] (.bool true) := fun U _ => awake_any U
theorem check_v (x : RW w0 A c B d h l) {v : Int} (e : checkI h l = v) : Gives w0 19 #[.agg #[.slice A h.length c, .slice B l.length d]] (.int .i64 v) := fun U _ => e ▸ check_any x U
theorem rcheck_v (x : RW w0 A c B d h l) {v : Int} (e : checkI h l = v) : Gives w0 21 #[.agg #[.slice A h.length c, .slice B l.length d]] (.int .i64 v) := fun U _ => e ▸ rcheck_any x U
theorem at_v (x : RW w0 A c B d h l) {i : Int} (hi : i ≤ 9223372036854775807) {v : Bool} (e : atB h l i = v) : Gives w0 22 #[.agg #[.slice A h.length c, .slice B l.length d], .int .i64 i] (.bool v) := fun U _ => e ▸ at_any x U i hi
theorem rat_v (x : RW w0 A c B d h l) {i : Int} (hi : i ≤ 9223372036854775807) {v : Bool} (e : atB h l i = v) : Gives w0 23 #[.agg #[.slice A h.length c, .slice B l.length d], .int .i64 i] (.bool v) := fun U _ => e ▸ rat_any x U i hi
theorem ones_v (x : RW w0 A c B d h l) {i : Int} (hi : i ≤ 9223372036854775807) {v : Int} (e : onesI h l i = v) : Gives w0 17 #[.agg #[.slice A h.length c, .slice B l.length d], .int .i64 i] (.int .i64 v) := fun U _ => e ▸ ones_all x U i hi
theorem rones_v (x : RW w0 A c B d h l) {i : Int} (hi : i ≤ 9223372036854775807) {v : Int} (e : onesI h l i = v) : Gives w0 24 #[.agg #[.slice A h.length c, .slice B l.length d], .int .i64 i] (.int .i64 v) := fun U _ => e ▸ rones_all x U i hi
theorem equal_v (x : RW w0 A c B d h l) (x' : RW w0 A' c' B' d' h' l') {v : Bool} (e : (h == h' && l == l') = v) : Gives w0 16 #[.agg #[.slice A h.length c, .slice B l.length d], .agg #[.slice A' h'.length c', .slice B' l'.length d']] (.bool v) := fun U _ => e ▸ requal_any x x' U
theorem on_v (x : RW w0 A c B d h l) (x' : RW w0 A' c' B' d' h' l') {H L : List Bool} {v : Int} (e : onW h l h' l' = ((H, L), v)) : GivesW w0 14 #[.agg #[.slice A h.length c, .slice B l.length d], .agg #[.slice A' h'.length c', .slice B' l'.length d']] H L (fun a => .tuple #[a, .int .i64 v]) := fun U _ => by have := on_any x x' U; rwa [e] at this
theorem norm_v (x : RW w0 A c B d h l) {H L : List Bool} (e : normW h l = (H, L)) : GivesW w0 20 #[.agg #[.slice A h.length c, .slice B l.length d]] H L (fun a => a) := fun U _ => by have := norm_any x U; rwa [e] at this
theorem rnorm_v (x : RW w0 A c B d h l) {H L : List Bool} (e : normW h l = (H, L)) : GivesW w0 25 #[.agg #[.slice A h.length c, .slice B l.length d]] H L (fun a => a) := fun U _ => by have := rnorm_any x U; rwa [e] at this
theorem i64_le {k : Int} (h : (Lit.int .i64 k).wf = true) : -9223372036854775808 ≤ k ∧ k ≤ 9223372036854775807 := by
  simpa [Lit.wf, IntKind.min, IntKind.max, IntKind.signed, IntKind.bits] using h
theorem onesI_step (h l : List Bool) (k : Nat) : onesI h l ((k : Int) + 1) = onesI h l k + (if atB h l k then 1 else 0) := by
  by_cases hv : Valid h l
  · have := W.ones_succ h l k hv.1
    have e : ((k : Int) + 1) = ((k + 1 : Nat) : Int) := by push_cast; rfl
    rw [e, onesI_ok hv, onesI_ok hv, atB_ok hv (by omega), letterB_nat, this]
    cases W.letter h l k <;> simp
  · rw [onesI_bad hv, onesI_bad hv, atB_bad hv]; simp
theorem onesI_bd2 (h l : List Bool) (k : Nat) : 0 ≤ onesI h l k ∧ onesI h l k ≤ k := by
  by_cases hv : Valid h l
  · rw [onesI_ok hv]; have := W.ones_le h l k hv.1; omega
  · rw [onesI_bad hv]; omega
end
theorem onF_one {h l : List Bool} (i : Nat) : W.onF h l [] [true] i = W.letter h l i := by
  unfold W.onF
  have : ∀ j, W.letter [] [true] j = true := fun j => by unfold W.letter; simp [Nat.mod_one]
  rw [this]; simp
theorem ones_one (i : Nat) : W.ones [] [true] i = i := by
  induction i with
  | zero => rfl
  | succ i ih => rw [W.ones_succ _ _ _ (by decide), ih]; unfold W.letter; simp [Nat.mod_one]
theorem onF_one' {h l : List Bool} (i : Nat) : W.onF [] [true] h l i = W.letter h l i := by
  unfold W.onF
  rw [ones_one]
  have : W.letter [] [true] i = true := by unfold W.letter; simp [Nat.mod_one]
  rw [this]; simp
theorem norm_fits {h l : List Bool} (hv : Valid h l) : Fits (W.letter h l) := by
  have a := W.nf_le hv.1 (W.letter_per h l)
  have := hv.2
  unfold Fits; omega
theorem one_valid : Valid [] [true] := ⟨by decide, by decide⟩
theorem on_one {h l : List Bool} (hv : Valid h l) : onW h l [] [true] = (normW h l, 0) := by
  rw [onW_ok hv one_valid, show W.onF h l [] [true] = W.letter h l from funext onF_one, fitW_yes (norm_fits hv), normW_ok hv]
theorem on_one' {h l : List Bool} (hv : Valid h l) : onW [] [true] h l = (normW h l, 0) := by
  rw [onW_ok one_valid hv, show W.onF [] [true] h l = W.letter h l from funext onF_one', fitW_yes (norm_fits hv), normW_ok hv]
theorem on_shape (h l h' l' : List Bool) : (∃ H L, onW h l h' l' = ((H, L), 0) ∧ Valid h l ∧ Valid h' l' ∧ Valid H L ∧ W.nf (W.onF h l h' l') = (H, L) ∧ ∀ i, W.letter H L i = W.onF h l h' l' i) ∨ ∃ H L e, onW h l h' l' = ((H, L), e) ∧ (e == 0) = false ∧ (e != 0) = true := by
  rcases onW_cases h l h' l' with ⟨H, L, eo, hv, hv', hV, he⟩ | ⟨e, eo, h5⟩
  · refine .inl ⟨H, L, eo, hv, hv', hV, ?_, he⟩
    have h9 := eo
    rw [onW_ok hv hv'] at h9
    by_cases hf : Fits (W.onF h l h' l')
    · rw [fitW_yes hf] at h9; exact congrArg Prod.fst h9
    · rw [fitW_no hf] at h9; have := congrArg Prod.snd h9; simp at this
  · exact .inr ⟨[], [], e, eo, by rcases h5 with rfl | rfl <;> decide, by rcases h5 with rfl | rfl <;> decide⟩
theorem on_assoc {h l h' l' h2 l2 H1 L1 H2 L2 H3 L3 H4 L4 : List Bool} (hv : Valid h l) (hv' : Valid h' l') (hv2 : Valid h2 l2) (v1 : Valid H1 L1) (v2 : Valid H2 L2) (e1 : ∀ i, W.letter H1 L1 i = W.onF h l h' l' i) (e2 : ∀ i, W.letter H2 L2 i = W.onF h' l' h2 l2 i)
    (n3 : W.nf (W.onF H1 L1 h2 l2) = (H3, L3)) (n4 : W.nf (W.onF h l H2 L2) = (H4, L4)) : (H3 == H4 && L3 == L4) = true := by
  have key : W.onF H1 L1 h2 l2 = W.onF h l H2 L2 := by
    funext i
    have o1 : W.ones H1 L1 i = W.ones h' l' (W.ones h l i) := by rw [← W.ones_onF hv.1 hv'.1, ← W.onesF_letter v1.1]; exact W.onesF_congr e1 i
    show (W.letter H1 L1 i && W.letter h2 l2 (W.ones H1 L1 i)) = (W.letter h l i && W.letter H2 L2 (W.ones h l i))
    rw [e1, e2, o1]
    unfold W.onF
    rw [Bool.and_assoc]
  rw [key, n4] at n3
  have a := congrArg Prod.fst n3
  have b := congrArg Prod.snd n3
  simp only at a b
  rw [a, b]; simp
theorem word_v (s1 s2 : ByteArray) {H L : List Bool} (e1 : bits s1 = H) (e2 : bits s2 = L) (h1 : s1.size ≤ 1000000) (h2 : s2.size ≤ 1000000) (w : World) : GivesW w 18 #[.string s1, .string s2] H L (fun a => a) := fun U _ => by subst e1 e2; exact word_any s1 s2 h1 h2 U
set_option maxRecDepth 100000 in
set_option maxHeartbeats 3200000 in
theorem walk {A B c d h l A' B' c' d' h' l' A2 B2 c2 d2 h2 l2} (w : World) (x : RW w A c B d h l) (x' : RW w A' c' B' d' h' l') (x2 : RW w A2 c2 B2 d2 h2 l2) :
    Calls Try.prog 4 #[.agg #[.slice A h.length c, .slice B l.length d], .agg #[.slice A' h'.length c', .slice B' l'.length d'], .agg #[.slice A2 h2.length c2, .slice B2 l2.length d2]] w fun e w' => e = .returned (.bool true) ∧ ∃ y, w' = w.more y := by
  have HK : Hid (∀ U : World, After (((w.alloc (.cells #[.slice A h.length c, .slice B l.length d] 24)).alloc (.cells #[.slice A' h'.length c', .slice B' l'.length d'] 24)).alloc (.cells #[.slice A2 h2.length c2, .slice B2 l2.length d2] 24)) U → U.cell? ⟨w.heap.size, 0, none⟩ = some (.slice A h.length c) ∧ U.cell? ⟨w.heap.size, 1, none⟩ = some (.slice B l.length d) ∧ U.cell? ⟨w.heap.size + 1, 0, none⟩ = some (.slice A' h'.length c') ∧ U.cell? ⟨w.heap.size + 1, 1, none⟩ = some (.slice B' l'.length d') ∧ U.cell? ⟨w.heap.size + 1 + 1, 0, none⟩ = some (.slice A2 h2.length c2) ∧ U.cell? ⟨w.heap.size + 1 + 1, 1, none⟩ = some (.slice B2 l2.length d2)) := fun U k => by
    have f1 := (((Blk.new w 24 #[.slice A h.length c, .slice B l.length d]).alloc (.cells #[.slice A' h'.length c', .slice B' l'.length d'] 24)).alloc (.cells #[.slice A2 h2.length c2, .slice B2 l2.length d2] 24)).after (w' := U)
    have f2 := ((Blk.new1 w (.cells #[.slice A h.length c, .slice B l.length d] 24) 24 #[.slice A' h'.length c', .slice B' l'.length d']).alloc (.cells #[.slice A2 h2.length c2, .slice B2 l2.length d2] 24)).after (w' := U)
    have f3 := (Blk.new1 (w.alloc (.cells #[.slice A h.length c, .slice B l.length d] 24)) (.cells #[.slice A' h'.length c', .slice B' l'.length d'] 24) 24 #[.slice A2 h2.length c2, .slice B2 l2.length d2]).after (w' := U)
    rw [size_alloc_] at f3
    exact ⟨by rw [f1.cell]; rfl, by rw [f1.cell]; rfl, by rw [f2.cell]; rfl, by rw [f2.cell]; rfl, by rw [f3.cell]; rfl, by rw [f3.cell]; rfl⟩
  have GA := awake_v w
  cases h1 : hugeB h l with
  | true =>
    have G1 := huge_v x h1
    clear h1
    go_enter Try.func4, Try.ntmps4
    go_wp2_with fail
    refine (Gives.on G1 _ inferInstance).mono ?_
    rintro e w1_ ⟨rfl, hy⟩
    have a0_w1_ : After (((w.alloc (.cells #[.slice A h.length c, .slice B l.length d] 24)).alloc (.cells #[.slice A' h'.length c', .slice B' l'.length d'] 24)).alloc (.cells #[.slice A2 h2.length c2, .slice B2 l2.length d2] 24)) w1_ := after_of_more hy inferInstance
    have l00_w1_ : Le (w.heap.size + 1) w1_ := ⟨by have := a0_w1_.below.size; simp at this; omega⟩
    have l01_w1_ : Le (w.heap.size + 1 + 1) w1_ := ⟨by have := a0_w1_.below.size; simp at this; omega⟩
    have l02_w1_ : Le (w.heap.size + 1 + 1 + 1) w1_ := ⟨by have := a0_w1_.below.size; simp at this; omega⟩
    have h0_w1_ := HK.out w1_ a0_w1_
    have aw_w1_ : After w w1_ := after_after inferInstance a0_w1_
    clear hy
    go_wp2_with fail
    refine (Gives.on GA _ (after_after aw_w1_ inferInstance)).mono ?_
    rintro e w2_ ⟨rfl, hy⟩
    have a0_w2_ : After (((w.alloc (.cells #[.slice A h.length c, .slice B l.length d] 24)).alloc (.cells #[.slice A' h'.length c', .slice B' l'.length d'] 24)).alloc (.cells #[.slice A2 h2.length c2, .slice B2 l2.length d2] 24)) w2_ := after_of_more hy (after_after a0_w1_ inferInstance)
    have l00_w2_ : Le (w.heap.size + 1) w2_ := ⟨by have := a0_w2_.below.size; simp at this; omega⟩
    have l01_w2_ : Le (w.heap.size + 1 + 1) w2_ := ⟨by have := a0_w2_.below.size; simp at this; omega⟩
    have l02_w2_ : Le (w.heap.size + 1 + 1 + 1) w2_ := ⟨by have := a0_w2_.below.size; simp at this; omega⟩
    have h0_w2_ := HK.out w2_ a0_w2_
    have aw_w2_ : After w w2_ := after_after inferInstance a0_w2_
    clear hy
    go_wp2_with fail
    go_ret
    exact ⟨rfl, @After.is_more w _ (after_after aw_w2_ inferInstance)⟩
  | false =>
    have G1 := huge_v x h1
    clear h1
    cases h2_ : hugeB h' l' with
    | true =>
      have G2 := huge_v x' h2_
      clear h2_
      go_enter Try.func4, Try.ntmps4
      go_wp2_with fail
      refine (Gives.on G1 _ inferInstance).mono ?_
      rintro e w1_ ⟨rfl, hy⟩
      have a0_w1_ : After (((w.alloc (.cells #[.slice A h.length c, .slice B l.length d] 24)).alloc (.cells #[.slice A' h'.length c', .slice B' l'.length d'] 24)).alloc (.cells #[.slice A2 h2.length c2, .slice B2 l2.length d2] 24)) w1_ := after_of_more hy inferInstance
      have l00_w1_ : Le (w.heap.size + 1) w1_ := ⟨by have := a0_w1_.below.size; simp at this; omega⟩
      have l01_w1_ : Le (w.heap.size + 1 + 1) w1_ := ⟨by have := a0_w1_.below.size; simp at this; omega⟩
      have l02_w1_ : Le (w.heap.size + 1 + 1 + 1) w1_ := ⟨by have := a0_w1_.below.size; simp at this; omega⟩
      have h0_w1_ := HK.out w1_ a0_w1_
      have aw_w1_ : After w w1_ := after_after inferInstance a0_w1_
      clear hy
      go_wp2_with fail
      refine (Gives.on G2 _ (after_after aw_w1_ inferInstance)).mono ?_
      rintro e w2_ ⟨rfl, hy⟩
      have a0_w2_ : After (((w.alloc (.cells #[.slice A h.length c, .slice B l.length d] 24)).alloc (.cells #[.slice A' h'.length c', .slice B' l'.length d'] 24)).alloc (.cells #[.slice A2 h2.length c2, .slice B2 l2.length d2] 24)) w2_ := after_of_more hy (after_after a0_w1_ inferInstance)
      have l00_w2_ : Le (w.heap.size + 1) w2_ := ⟨by have := a0_w2_.below.size; simp at this; omega⟩
      have l01_w2_ : Le (w.heap.size + 1 + 1) w2_ := ⟨by have := a0_w2_.below.size; simp at this; omega⟩
      have l02_w2_ : Le (w.heap.size + 1 + 1 + 1) w2_ := ⟨by have := a0_w2_.below.size; simp at this; omega⟩
      have h0_w2_ := HK.out w2_ a0_w2_
      have aw_w2_ : After w w2_ := after_after inferInstance a0_w2_
      clear hy
      go_wp2_with fail
      refine (Gives.on GA _ (after_after aw_w2_ inferInstance)).mono ?_
      rintro e w3_ ⟨rfl, hy⟩
      have a0_w3_ : After (((w.alloc (.cells #[.slice A h.length c, .slice B l.length d] 24)).alloc (.cells #[.slice A' h'.length c', .slice B' l'.length d'] 24)).alloc (.cells #[.slice A2 h2.length c2, .slice B2 l2.length d2] 24)) w3_ := after_of_more hy (after_after a0_w2_ inferInstance)
      have l00_w3_ : Le (w.heap.size + 1) w3_ := ⟨by have := a0_w3_.below.size; simp at this; omega⟩
      have l01_w3_ : Le (w.heap.size + 1 + 1) w3_ := ⟨by have := a0_w3_.below.size; simp at this; omega⟩
      have l02_w3_ : Le (w.heap.size + 1 + 1 + 1) w3_ := ⟨by have := a0_w3_.below.size; simp at this; omega⟩
      have h0_w3_ := HK.out w3_ a0_w3_
      have aw_w3_ : After w w3_ := after_after inferInstance a0_w3_
      clear hy
      go_wp2_with fail
      go_ret
      exact ⟨rfl, @After.is_more w _ (after_after aw_w3_ inferInstance)⟩
    | false =>
      have G2 := huge_v x' h2_
      clear h2_
      cases h3_ : hugeB h2 l2 with
      | true =>
        have G6 := huge_v x2 h3_
        clear h3_
        go_enter Try.func4, Try.ntmps4
        go_wp2_with fail
        refine (Gives.on G1 _ inferInstance).mono ?_
        rintro e w1_ ⟨rfl, hy⟩
        have a0_w1_ : After (((w.alloc (.cells #[.slice A h.length c, .slice B l.length d] 24)).alloc (.cells #[.slice A' h'.length c', .slice B' l'.length d'] 24)).alloc (.cells #[.slice A2 h2.length c2, .slice B2 l2.length d2] 24)) w1_ := after_of_more hy inferInstance
        have l00_w1_ : Le (w.heap.size + 1) w1_ := ⟨by have := a0_w1_.below.size; simp at this; omega⟩
        have l01_w1_ : Le (w.heap.size + 1 + 1) w1_ := ⟨by have := a0_w1_.below.size; simp at this; omega⟩
        have l02_w1_ : Le (w.heap.size + 1 + 1 + 1) w1_ := ⟨by have := a0_w1_.below.size; simp at this; omega⟩
        have h0_w1_ := HK.out w1_ a0_w1_
        have aw_w1_ : After w w1_ := after_after inferInstance a0_w1_
        clear hy
        go_wp2_with fail
        refine (Gives.on G2 _ (after_after aw_w1_ inferInstance)).mono ?_
        rintro e w2_ ⟨rfl, hy⟩
        have a0_w2_ : After (((w.alloc (.cells #[.slice A h.length c, .slice B l.length d] 24)).alloc (.cells #[.slice A' h'.length c', .slice B' l'.length d'] 24)).alloc (.cells #[.slice A2 h2.length c2, .slice B2 l2.length d2] 24)) w2_ := after_of_more hy (after_after a0_w1_ inferInstance)
        have l00_w2_ : Le (w.heap.size + 1) w2_ := ⟨by have := a0_w2_.below.size; simp at this; omega⟩
        have l01_w2_ : Le (w.heap.size + 1 + 1) w2_ := ⟨by have := a0_w2_.below.size; simp at this; omega⟩
        have l02_w2_ : Le (w.heap.size + 1 + 1 + 1) w2_ := ⟨by have := a0_w2_.below.size; simp at this; omega⟩
        have h0_w2_ := HK.out w2_ a0_w2_
        have aw_w2_ : After w w2_ := after_after inferInstance a0_w2_
        clear hy
        go_wp2_with fail
        refine (Gives.on G6 _ (after_after aw_w2_ inferInstance)).mono ?_
        rintro e w3_ ⟨rfl, hy⟩
        have a0_w3_ : After (((w.alloc (.cells #[.slice A h.length c, .slice B l.length d] 24)).alloc (.cells #[.slice A' h'.length c', .slice B' l'.length d'] 24)).alloc (.cells #[.slice A2 h2.length c2, .slice B2 l2.length d2] 24)) w3_ := after_of_more hy (after_after a0_w2_ inferInstance)
        have l00_w3_ : Le (w.heap.size + 1) w3_ := ⟨by have := a0_w3_.below.size; simp at this; omega⟩
        have l01_w3_ : Le (w.heap.size + 1 + 1) w3_ := ⟨by have := a0_w3_.below.size; simp at this; omega⟩
        have l02_w3_ : Le (w.heap.size + 1 + 1 + 1) w3_ := ⟨by have := a0_w3_.below.size; simp at this; omega⟩
        have h0_w3_ := HK.out w3_ a0_w3_
        have aw_w3_ : After w w3_ := after_after inferInstance a0_w3_
        clear hy
        go_wp2_with fail
        refine (Gives.on GA _ (after_after aw_w3_ inferInstance)).mono ?_
        rintro e w4_ ⟨rfl, hy⟩
        have a0_w4_ : After (((w.alloc (.cells #[.slice A h.length c, .slice B l.length d] 24)).alloc (.cells #[.slice A' h'.length c', .slice B' l'.length d'] 24)).alloc (.cells #[.slice A2 h2.length c2, .slice B2 l2.length d2] 24)) w4_ := after_of_more hy (after_after a0_w3_ inferInstance)
        have l00_w4_ : Le (w.heap.size + 1) w4_ := ⟨by have := a0_w4_.below.size; simp at this; omega⟩
        have l01_w4_ : Le (w.heap.size + 1 + 1) w4_ := ⟨by have := a0_w4_.below.size; simp at this; omega⟩
        have l02_w4_ : Le (w.heap.size + 1 + 1 + 1) w4_ := ⟨by have := a0_w4_.below.size; simp at this; omega⟩
        have h0_w4_ := HK.out w4_ a0_w4_
        have aw_w4_ : After w w4_ := after_after inferInstance a0_w4_
        clear hy
        go_wp2_with fail
        go_ret
        exact ⟨rfl, @After.is_more w _ (after_after aw_w4_ inferInstance)⟩
      | false =>
        have G6 := huge_v x2 h3_
        clear h3_
        obtain ⟨O, hO⟩ : ∃ O : List Bool, [] = O := ⟨_, rfl⟩
        obtain ⟨I, hI⟩ : ∃ I : List Bool, [true] = I := ⟨_, rfl⟩
        have GW := word_v ⟨#[]⟩ ⟨#[49]⟩ (H := O) (L := I) (by rw [← hO]; decide) (by rw [← hI]; decide) (by decide) (by decide) w
        by_cases hv : Valid h l
        · have GC := check_v x (checkI_0 hv)
          obtain ⟨H8, L8, eN⟩ : ∃ H L, normW h l = (H, L) := ⟨_, _, rfl⟩
          have GN := norm_v x eN
          obtain ⟨H10, L10, hHL⟩ : ∃ H L : List Bool, (H8, L8) = (H, L) := ⟨_, _, rfl⟩
          have hH10 : H8 = H10 := congrArg Prod.fst hHL
          have hL10 : L8 = L10 := congrArg Prod.snd hHL
          subst hH10 hL10
          have e8 : onW h l O I = ((H8, L8), 0) := by rw [← hO, ← hI, on_one hv, eN]
          have e10 : onW O I h l = ((H8, L8), 0) := by rw [← hO, ← hI, on_one' hv, eN]
          replace e8 := Lib.hid e8
          replace e10 := Lib.hid e10
          clear eN hHL hO hI
          rcases on_shape h l h' l' with ⟨H12, L12, e12, _, hv', v12, n12, t12⟩ | ⟨H12, L12, e1, e12, k1, k1'⟩
          · have G12 := on_v x x' e12
            rcases on_shape h' l' h2 l2 with ⟨H14, L14, e14, _, hv2, v14, n14, t14⟩ | ⟨H14, L14, e2, e14, k2, k2'⟩
            · have G14 := on_v x' x2 e14
              rcases on_shape H12 L12 h2 l2 with ⟨H16, L16, e16, _, _, v16, n16, t16⟩ | ⟨H16, L16, e3, e16, k3, k3'⟩
              · rcases on_shape h l H14 L14 with ⟨H18, L18, e18, _, _, v18, n18, t18⟩ | ⟨H18, L18, e4, e18, k4, k4'⟩
                · have he9 := Lib.hid (on_assoc hv hv' hv2 v12 v14 t12 t14 n16 n18)
                  replace e16 := Lib.hid e16
                  replace e18 := Lib.hid e18
                  clear e12 e14 n12 t12 n14 t14 n16 t16 n18 t18 v16 v18 v12 v14 hv hv' hv2
                  go_enter Try.func4, Try.ntmps4
                  go_wp2_with fail
                  refine (Gives.on G1 _ inferInstance).mono ?_
                  rintro e w1_ ⟨rfl, hy⟩
                  have a0_w1_ : After (((w.alloc (.cells #[.slice A h.length c, .slice B l.length d] 24)).alloc (.cells #[.slice A' h'.length c', .slice B' l'.length d'] 24)).alloc (.cells #[.slice A2 h2.length c2, .slice B2 l2.length d2] 24)) w1_ := after_of_more hy inferInstance
                  have l00_w1_ : Le (w.heap.size + 1) w1_ := ⟨by have := a0_w1_.below.size; simp at this; omega⟩
                  have l01_w1_ : Le (w.heap.size + 1 + 1) w1_ := ⟨by have := a0_w1_.below.size; simp at this; omega⟩
                  have l02_w1_ : Le (w.heap.size + 1 + 1 + 1) w1_ := ⟨by have := a0_w1_.below.size; simp at this; omega⟩
                  have h0_w1_ := HK.out w1_ a0_w1_
                  have aw_w1_ : After w w1_ := after_after inferInstance a0_w1_
                  clear hy
                  go_wp2_with fail
                  refine (Gives.on G2 _ (after_after aw_w1_ inferInstance)).mono ?_
                  rintro e w2_ ⟨rfl, hy⟩
                  have a0_w2_ : After (((w.alloc (.cells #[.slice A h.length c, .slice B l.length d] 24)).alloc (.cells #[.slice A' h'.length c', .slice B' l'.length d'] 24)).alloc (.cells #[.slice A2 h2.length c2, .slice B2 l2.length d2] 24)) w2_ := after_of_more hy (after_after a0_w1_ inferInstance)
                  have l00_w2_ : Le (w.heap.size + 1) w2_ := ⟨by have := a0_w2_.below.size; simp at this; omega⟩
                  have l01_w2_ : Le (w.heap.size + 1 + 1) w2_ := ⟨by have := a0_w2_.below.size; simp at this; omega⟩
                  have l02_w2_ : Le (w.heap.size + 1 + 1 + 1) w2_ := ⟨by have := a0_w2_.below.size; simp at this; omega⟩
                  have h0_w2_ := HK.out w2_ a0_w2_
                  have aw_w2_ : After w w2_ := after_after inferInstance a0_w2_
                  clear hy
                  go_wp2_with fail
                  refine (Gives.on G6 _ (after_after aw_w2_ inferInstance)).mono ?_
                  rintro e w3_ ⟨rfl, hy⟩
                  have a0_w3_ : After (((w.alloc (.cells #[.slice A h.length c, .slice B l.length d] 24)).alloc (.cells #[.slice A' h'.length c', .slice B' l'.length d'] 24)).alloc (.cells #[.slice A2 h2.length c2, .slice B2 l2.length d2] 24)) w3_ := after_of_more hy (after_after a0_w2_ inferInstance)
                  have l00_w3_ : Le (w.heap.size + 1) w3_ := ⟨by have := a0_w3_.below.size; simp at this; omega⟩
                  have l01_w3_ : Le (w.heap.size + 1 + 1) w3_ := ⟨by have := a0_w3_.below.size; simp at this; omega⟩
                  have l02_w3_ : Le (w.heap.size + 1 + 1 + 1) w3_ := ⟨by have := a0_w3_.below.size; simp at this; omega⟩
                  have h0_w3_ := HK.out w3_ a0_w3_
                  have aw_w3_ : After w w3_ := after_after inferInstance a0_w3_
                  clear hy
                  go_wp2_with fail
                  refine (GivesW.on GW _ (after_after aw_w3_ inferInstance)).mono ?_
                  rintro e w4_ ⟨A7, c7, B7, d7, rfl, x7, hy⟩
                  have a0_w4_ : After (((w.alloc (.cells #[.slice A h.length c, .slice B l.length d] 24)).alloc (.cells #[.slice A' h'.length c', .slice B' l'.length d'] 24)).alloc (.cells #[.slice A2 h2.length c2, .slice B2 l2.length d2] 24)) w4_ := after_of_more hy (after_after a0_w3_ inferInstance)
                  have l00_w4_ : Le (w.heap.size + 1) w4_ := ⟨by have := a0_w4_.below.size; simp at this; omega⟩
                  have l01_w4_ : Le (w.heap.size + 1 + 1) w4_ := ⟨by have := a0_w4_.below.size; simp at this; omega⟩
                  have l02_w4_ : Le (w.heap.size + 1 + 1 + 1) w4_ := ⟨by have := a0_w4_.below.size; simp at this; omega⟩
                  have h0_w4_ := HK.out w4_ a0_w4_
                  have aw_w4_ : After w w4_ := after_after inferInstance a0_w4_
                  clear hy
                  have X7 := Lib.hid x7
                  clear x7
                  go_wp2_with fail
                  obtain ⟨g7, hg_⟩ : ∃ g, w4_.heap.size = g := ⟨_, rfl⟩
                  obtain ⟨w5_, hU_, b7, HK7, Lq7⟩ : ∃ U, w4_.alloc (.cells #[.slice A7 O.length c7, .slice B7 I.length d7] 24) = U ∧ After w4_ U ∧ Hid (∀ V, After U V → V.cell? ⟨g7, 0, none⟩ = some (.slice A7 O.length c7) ∧ V.cell? ⟨g7, 1, none⟩ = some (.slice B7 I.length d7)) ∧ Le (g7 + 1) U := by
                    refine ⟨_, rfl, inferInstance, fun V k_ => ?_, ⟨by rw [← hg_]; simp⟩⟩
                    have f_ := (Blk.new w4_ 24 #[.slice A7 O.length c7, .slice B7 I.length d7]).after (w' := V)
                    rw [hg_] at f_
                    exact ⟨by rw [f_.cell]; rfl, by rw [f_.cell]; rfl⟩
                  rw [hU_, hg_]
                  clear hU_ hg_
                  have a0_w5_ : After (((w.alloc (.cells #[.slice A h.length c, .slice B l.length d] 24)).alloc (.cells #[.slice A' h'.length c', .slice B' l'.length d'] 24)).alloc (.cells #[.slice A2 h2.length c2, .slice B2 l2.length d2] 24)) w5_ := after_after a0_w4_ b7
                  have l00_w5_ : Le (w.heap.size + 1) w5_ := ⟨by have := a0_w5_.below.size; simp at this; omega⟩
                  have l01_w5_ : Le (w.heap.size + 1 + 1) w5_ := ⟨by have := a0_w5_.below.size; simp at this; omega⟩
                  have l02_w5_ : Le (w.heap.size + 1 + 1 + 1) w5_ := ⟨by have := a0_w5_.below.size; simp at this; omega⟩
                  have h0_w5_ := HK.out w5_ a0_w5_
                  have aw_w5_ : After w w5_ := after_after inferInstance a0_w5_
                  have a7_w5_ : After w5_ w5_ := inferInstance
                  have h7_w5_ := HK7.out w5_ a7_w5_
                  replace X7 := Lib.hid (X7.out.here w5_)
                  have G8 := on_v (x.here w5_) X7.out e8.out
                  refine (GivesW.on G8 _ (after_after a7_w5_ inferInstance)).mono ?_
                  rintro e w6_ ⟨A8, c8, B8, d8, rfl, x8, hy⟩
                  have a0_w6_ : After (((w.alloc (.cells #[.slice A h.length c, .slice B l.length d] 24)).alloc (.cells #[.slice A' h'.length c', .slice B' l'.length d'] 24)).alloc (.cells #[.slice A2 h2.length c2, .slice B2 l2.length d2] 24)) w6_ := after_of_more hy (after_after a0_w5_ inferInstance)
                  have l00_w6_ : Le (w.heap.size + 1) w6_ := ⟨by have := a0_w6_.below.size; simp at this; omega⟩
                  have l01_w6_ : Le (w.heap.size + 1 + 1) w6_ := ⟨by have := a0_w6_.below.size; simp at this; omega⟩
                  have l02_w6_ : Le (w.heap.size + 1 + 1 + 1) w6_ := ⟨by have := a0_w6_.below.size; simp at this; omega⟩
                  have h0_w6_ := HK.out w6_ a0_w6_
                  have a7_w6_ : After w5_ w6_ := after_of_more hy (after_after a7_w5_ inferInstance)
                  have l70_w6_ : Le (g7 + 1) w6_ := ⟨Nat.le_trans Lq7.le a7_w6_.below.size⟩
                  have h7_w6_ := HK7.out w6_ a7_w6_
                  have aw_w6_ : After w w6_ := after_after inferInstance a0_w6_
                  clear hy
                  have X8 := Lib.hid x8
                  clear x8
                  go_wp2_with fail
                  obtain ⟨g8, hg_⟩ : ∃ g, w6_.heap.size = g := ⟨_, rfl⟩
                  obtain ⟨w7_, hU_, b8, HK8, Lq8⟩ : ∃ U, w6_.alloc (.cells #[.slice A8 H8.length c8, .slice B8 L8.length d8] 24) = U ∧ After w6_ U ∧ Hid (∀ V, After U V → V.cell? ⟨g8, 0, none⟩ = some (.slice A8 H8.length c8) ∧ V.cell? ⟨g8, 1, none⟩ = some (.slice B8 L8.length d8)) ∧ Le (g8 + 1) U := by
                    refine ⟨_, rfl, inferInstance, fun V k_ => ?_, ⟨by rw [← hg_]; simp⟩⟩
                    have f_ := (Blk.new w6_ 24 #[.slice A8 H8.length c8, .slice B8 L8.length d8]).after (w' := V)
                    rw [hg_] at f_
                    exact ⟨by rw [f_.cell]; rfl, by rw [f_.cell]; rfl⟩
                  rw [hU_, hg_]
                  clear hU_ hg_
                  have a0_w7_ : After (((w.alloc (.cells #[.slice A h.length c, .slice B l.length d] 24)).alloc (.cells #[.slice A' h'.length c', .slice B' l'.length d'] 24)).alloc (.cells #[.slice A2 h2.length c2, .slice B2 l2.length d2] 24)) w7_ := after_after a0_w6_ b8
                  have l00_w7_ : Le (w.heap.size + 1) w7_ := ⟨by have := a0_w7_.below.size; simp at this; omega⟩
                  have l01_w7_ : Le (w.heap.size + 1 + 1) w7_ := ⟨by have := a0_w7_.below.size; simp at this; omega⟩
                  have l02_w7_ : Le (w.heap.size + 1 + 1 + 1) w7_ := ⟨by have := a0_w7_.below.size; simp at this; omega⟩
                  have h0_w7_ := HK.out w7_ a0_w7_
                  have a7_w7_ : After w5_ w7_ := after_after a7_w6_ b8
                  have l70_w7_ : Le (g7 + 1) w7_ := ⟨Nat.le_trans Lq7.le a7_w7_.below.size⟩
                  have h7_w7_ := HK7.out w7_ a7_w7_
                  have aw_w7_ : After w w7_ := after_after inferInstance a0_w7_
                  have a8_w7_ : After w7_ w7_ := inferInstance
                  have h8_w7_ := HK8.out w7_ a8_w7_
                  replace X8 := Lib.hid (X8.out.here w7_)
                  have G10 := on_v (X7.out.here w7_) (x.here w7_) e10.out
                  refine (GivesW.on G10 _ (after_after a8_w7_ inferInstance)).mono ?_
                  rintro e w8_ ⟨A10, c10, B10, d10, rfl, x10, hy⟩
                  have a0_w8_ : After (((w.alloc (.cells #[.slice A h.length c, .slice B l.length d] 24)).alloc (.cells #[.slice A' h'.length c', .slice B' l'.length d'] 24)).alloc (.cells #[.slice A2 h2.length c2, .slice B2 l2.length d2] 24)) w8_ := after_of_more hy (after_after a0_w7_ inferInstance)
                  have l00_w8_ : Le (w.heap.size + 1) w8_ := ⟨by have := a0_w8_.below.size; simp at this; omega⟩
                  have l01_w8_ : Le (w.heap.size + 1 + 1) w8_ := ⟨by have := a0_w8_.below.size; simp at this; omega⟩
                  have l02_w8_ : Le (w.heap.size + 1 + 1 + 1) w8_ := ⟨by have := a0_w8_.below.size; simp at this; omega⟩
                  have h0_w8_ := HK.out w8_ a0_w8_
                  have a7_w8_ : After w5_ w8_ := after_of_more hy (after_after a7_w7_ inferInstance)
                  have l70_w8_ : Le (g7 + 1) w8_ := ⟨Nat.le_trans Lq7.le a7_w8_.below.size⟩
                  have h7_w8_ := HK7.out w8_ a7_w8_
                  have a8_w8_ : After w7_ w8_ := after_of_more hy (after_after a8_w7_ inferInstance)
                  have l80_w8_ : Le (g8 + 1) w8_ := ⟨Nat.le_trans Lq8.le a8_w8_.below.size⟩
                  have h8_w8_ := HK8.out w8_ a8_w8_
                  have aw_w8_ : After w w8_ := after_after inferInstance a0_w8_
                  clear hy
                  have X10 := Lib.hid x10
                  clear x10
                  go_wp2_with fail
                  obtain ⟨g10, hg_⟩ : ∃ g, w8_.heap.size = g := ⟨_, rfl⟩
                  obtain ⟨w9_, hU_, b10, HK10, Lq10⟩ : ∃ U, w8_.alloc (.cells #[.slice A10 H8.length c10, .slice B10 L8.length d10] 24) = U ∧ After w8_ U ∧ Hid (∀ V, After U V → V.cell? ⟨g10, 0, none⟩ = some (.slice A10 H8.length c10) ∧ V.cell? ⟨g10, 1, none⟩ = some (.slice B10 L8.length d10)) ∧ Le (g10 + 1) U := by
                    refine ⟨_, rfl, inferInstance, fun V k_ => ?_, ⟨by rw [← hg_]; simp⟩⟩
                    have f_ := (Blk.new w8_ 24 #[.slice A10 H8.length c10, .slice B10 L8.length d10]).after (w' := V)
                    rw [hg_] at f_
                    exact ⟨by rw [f_.cell]; rfl, by rw [f_.cell]; rfl⟩
                  rw [hU_, hg_]
                  clear hU_ hg_
                  have a0_w9_ : After (((w.alloc (.cells #[.slice A h.length c, .slice B l.length d] 24)).alloc (.cells #[.slice A' h'.length c', .slice B' l'.length d'] 24)).alloc (.cells #[.slice A2 h2.length c2, .slice B2 l2.length d2] 24)) w9_ := after_after a0_w8_ b10
                  have l00_w9_ : Le (w.heap.size + 1) w9_ := ⟨by have := a0_w9_.below.size; simp at this; omega⟩
                  have l01_w9_ : Le (w.heap.size + 1 + 1) w9_ := ⟨by have := a0_w9_.below.size; simp at this; omega⟩
                  have l02_w9_ : Le (w.heap.size + 1 + 1 + 1) w9_ := ⟨by have := a0_w9_.below.size; simp at this; omega⟩
                  have h0_w9_ := HK.out w9_ a0_w9_
                  have a7_w9_ : After w5_ w9_ := after_after a7_w8_ b10
                  have l70_w9_ : Le (g7 + 1) w9_ := ⟨Nat.le_trans Lq7.le a7_w9_.below.size⟩
                  have h7_w9_ := HK7.out w9_ a7_w9_
                  have a8_w9_ : After w7_ w9_ := after_after a8_w8_ b10
                  have l80_w9_ : Le (g8 + 1) w9_ := ⟨Nat.le_trans Lq8.le a8_w9_.below.size⟩
                  have h8_w9_ := HK8.out w9_ a8_w9_
                  have aw_w9_ : After w w9_ := after_after inferInstance a0_w9_
                  have a10_w9_ : After w9_ w9_ := inferInstance
                  have h10_w9_ := HK10.out w9_ a10_w9_
                  replace X10 := Lib.hid (X10.out.here w9_)
                  have q0_s := a0_w9_
                  have q10_s : After w9_ w9_ := inferInstance
                  have qw : ∀ V, After w9_ V → After w V := fun V k => after_after aw_w9_ k
                  have q8 : ∀ V, After w9_ V → After w7_ V := fun V k => after_after a8_w9_ k
                  have tk1 : True := trivial
                  have tk2 : True := trivial
                  have tk3 : True := trivial
                  have tk4 : True := trivial
                  go_region_held3 (fun V => (V.cell? ⟨w.heap.size, 0, none⟩ = some (.slice A h.length c) ∧ V.cell? ⟨w.heap.size, 1, none⟩ = some (.slice B l.length d)) ∧ (V.cell? ⟨g8, 0, none⟩ = some (.slice A8 H8.length c8) ∧ V.cell? ⟨g8, 1, none⟩ = some (.slice B8 L8.length d8)) ∧ V.cell? ⟨g10, 0, none⟩ = some (.slice A10 H8.length c10) ∧ V.cell? ⟨g10, 1, none⟩ = some (.slice B10 L8.length d10)) (exact ⟨⟨(HK.out _ inferInstance).1, (HK.out _ inferInstance).2.1⟩, HK8.out _ (q8 _ inferInstance), HK10.out _ inferInstance⟩)
                    (first
                    | (have _t := tk1; go_at_call 19; (with_reducible refine (Gives.on GC _ (qw _ inferInstance)).mono ?_); rintro e v1 ⟨rfl, hy⟩; have q0_v1 : After (((w.alloc (.cells #[.slice A h.length c, .slice B l.length d] 24)).alloc (.cells #[.slice A' h'.length c', .slice B' l'.length d'] 24)).alloc (.cells #[.slice A2 h2.length c2, .slice B2 l2.length d2] 24)) v1 := after_of_more hy (after_after q0_s inferInstance); have q10_v1 : After w9_ v1 := after_of_more hy (after_after q10_s inferInstance); clear hy _t tk1)
                    | (have _t := tk2; go_at_call 20; (with_reducible refine (GivesW.on GN _ (qw _ (after_after q10_v1 inferInstance))).mono ?_); rintro e v2 ⟨A5, c5, B5, d5, rfl, x5, hy⟩; have q0_v2 : After (((w.alloc (.cells #[.slice A h.length c, .slice B l.length d] 24)).alloc (.cells #[.slice A' h'.length c', .slice B' l'.length d'] 24)).alloc (.cells #[.slice A2 h2.length c2, .slice B2 l2.length d2] 24)) v2 := after_of_more hy (after_after q0_v1 inferInstance); have q10_v2 : After w9_ v2 := after_of_more hy (after_after q10_v1 inferInstance); have E1 := equal_v ((X8.out.here w9_).here v2) x5 (v := true) (by simp); clear hy _t tk2)
                    | (have _t := tk3; go_at_call 16; (with_reducible refine (Gives.on E1 _ inferInstance).mono ?_); rintro e v3 ⟨rfl, hy⟩; have q0_v3 : After (((w.alloc (.cells #[.slice A h.length c, .slice B l.length d] 24)).alloc (.cells #[.slice A' h'.length c', .slice B' l'.length d'] 24)).alloc (.cells #[.slice A2 h2.length c2, .slice B2 l2.length d2] 24)) v3 := after_of_more hy (after_after q0_v2 inferInstance); have q10_v3 : After w9_ v3 := after_of_more hy (after_after q10_v2 inferInstance); have E2 := equal_v ((X8.out.here w9_).here v3) (X10.out.here v3) (v := true) (by simp); clear hy _t tk3)
                    | (have _t := tk4; go_at_call 16; (with_reducible refine (Gives.on E2 _ inferInstance).mono ?_); rintro e v4 ⟨rfl, hy⟩; have q0_v4 : After (((w.alloc (.cells #[.slice A h.length c, .slice B l.length d] 24)).alloc (.cells #[.slice A' h'.length c', .slice B' l'.length d'] 24)).alloc (.cells #[.slice A2 h2.length c2, .slice B2 l2.length d2] 24)) v4 := after_of_more hy (after_after q0_v3 inferInstance); have q10_v4 : After w9_ v4 := after_of_more hy (after_after q10_v3 inferInstance); clear hy _t tk4))
                  have hy : ∃ y, v4 = v4.more y := more_self v4
                  clear hy
                  have a0_v4 : After (((w.alloc (.cells #[.slice A h.length c, .slice B l.length d] 24)).alloc (.cells #[.slice A' h'.length c', .slice B' l'.length d'] 24)).alloc (.cells #[.slice A2 h2.length c2, .slice B2 l2.length d2] 24)) v4 := after_after a0_w9_ q10_v4
                  have l00_v4 : Le (w.heap.size + 1) v4 := ⟨by have := a0_v4.below.size; simp at this; omega⟩
                  have l01_v4 : Le (w.heap.size + 1 + 1) v4 := ⟨by have := a0_v4.below.size; simp at this; omega⟩
                  have l02_v4 : Le (w.heap.size + 1 + 1 + 1) v4 := ⟨by have := a0_v4.below.size; simp at this; omega⟩
                  have h0_v4 := HK.out v4 a0_v4
                  have a7_v4 : After w5_ v4 := after_after a7_w9_ q10_v4
                  have l70_v4 : Le (g7 + 1) v4 := ⟨Nat.le_trans Lq7.le a7_v4.below.size⟩
                  have h7_v4 := HK7.out v4 a7_v4
                  have a8_v4 : After w7_ v4 := after_after a8_w9_ q10_v4
                  have l80_v4 : Le (g8 + 1) v4 := ⟨Nat.le_trans Lq8.le a8_v4.below.size⟩
                  have h8_v4 := HK8.out v4 a8_v4
                  have a10_v4 : After w9_ v4 := after_after a10_w9_ q10_v4
                  have l100_v4 : Le (g10 + 1) v4 := ⟨Nat.le_trans Lq10.le a10_v4.below.size⟩
                  have h10_v4 := HK10.out v4 a10_v4
                  have aw_v4 : After w v4 := after_after inferInstance a0_v4
                  go_wp2_with fail
                  refine (GivesW.on G12 _ (after_after aw_v4 inferInstance)).mono ?_
                  rintro e w10_ ⟨A12, c12, B12, d12, rfl, x12, hy⟩
                  have a0_w10_ : After (((w.alloc (.cells #[.slice A h.length c, .slice B l.length d] 24)).alloc (.cells #[.slice A' h'.length c', .slice B' l'.length d'] 24)).alloc (.cells #[.slice A2 h2.length c2, .slice B2 l2.length d2] 24)) w10_ := after_of_more hy (after_after a0_v4 inferInstance)
                  have l00_w10_ : Le (w.heap.size + 1) w10_ := ⟨by have := a0_w10_.below.size; simp at this; omega⟩
                  have l01_w10_ : Le (w.heap.size + 1 + 1) w10_ := ⟨by have := a0_w10_.below.size; simp at this; omega⟩
                  have l02_w10_ : Le (w.heap.size + 1 + 1 + 1) w10_ := ⟨by have := a0_w10_.below.size; simp at this; omega⟩
                  have h0_w10_ := HK.out w10_ a0_w10_
                  have a7_w10_ : After w5_ w10_ := after_of_more hy (after_after a7_v4 inferInstance)
                  have l70_w10_ : Le (g7 + 1) w10_ := ⟨Nat.le_trans Lq7.le a7_w10_.below.size⟩
                  have h7_w10_ := HK7.out w10_ a7_w10_
                  have a8_w10_ : After w7_ w10_ := after_of_more hy (after_after a8_v4 inferInstance)
                  have l80_w10_ : Le (g8 + 1) w10_ := ⟨Nat.le_trans Lq8.le a8_w10_.below.size⟩
                  have h8_w10_ := HK8.out w10_ a8_w10_
                  have a10_w10_ : After w9_ w10_ := after_of_more hy (after_after a10_v4 inferInstance)
                  have l100_w10_ : Le (g10 + 1) w10_ := ⟨Nat.le_trans Lq10.le a10_w10_.below.size⟩
                  have h10_w10_ := HK10.out w10_ a10_w10_
                  have aw_w10_ : After w w10_ := after_after inferInstance a0_w10_
                  clear hy
                  have X12 := Lib.hid x12
                  clear x12
                  go_wp2_with fail
                  obtain ⟨g12, hg_⟩ : ∃ g, w10_.heap.size = g := ⟨_, rfl⟩
                  obtain ⟨w11_, hU_, b12, HK12, Lq12⟩ : ∃ U, w10_.alloc (.cells #[.slice A12 H12.length c12, .slice B12 L12.length d12] 24) = U ∧ After w10_ U ∧ Hid (∀ V, After U V → V.cell? ⟨g12, 0, none⟩ = some (.slice A12 H12.length c12) ∧ V.cell? ⟨g12, 1, none⟩ = some (.slice B12 L12.length d12)) ∧ Le (g12 + 1) U := by
                    refine ⟨_, rfl, inferInstance, fun V k_ => ?_, ⟨by rw [← hg_]; simp⟩⟩
                    have f_ := (Blk.new w10_ 24 #[.slice A12 H12.length c12, .slice B12 L12.length d12]).after (w' := V)
                    rw [hg_] at f_
                    exact ⟨by rw [f_.cell]; rfl, by rw [f_.cell]; rfl⟩
                  rw [hU_, hg_]
                  clear hU_ hg_
                  have a0_w11_ : After (((w.alloc (.cells #[.slice A h.length c, .slice B l.length d] 24)).alloc (.cells #[.slice A' h'.length c', .slice B' l'.length d'] 24)).alloc (.cells #[.slice A2 h2.length c2, .slice B2 l2.length d2] 24)) w11_ := after_after a0_w10_ b12
                  have l00_w11_ : Le (w.heap.size + 1) w11_ := ⟨by have := a0_w11_.below.size; simp at this; omega⟩
                  have l01_w11_ : Le (w.heap.size + 1 + 1) w11_ := ⟨by have := a0_w11_.below.size; simp at this; omega⟩
                  have l02_w11_ : Le (w.heap.size + 1 + 1 + 1) w11_ := ⟨by have := a0_w11_.below.size; simp at this; omega⟩
                  have h0_w11_ := HK.out w11_ a0_w11_
                  have a7_w11_ : After w5_ w11_ := after_after a7_w10_ b12
                  have l70_w11_ : Le (g7 + 1) w11_ := ⟨Nat.le_trans Lq7.le a7_w11_.below.size⟩
                  have h7_w11_ := HK7.out w11_ a7_w11_
                  have a8_w11_ : After w7_ w11_ := after_after a8_w10_ b12
                  have l80_w11_ : Le (g8 + 1) w11_ := ⟨Nat.le_trans Lq8.le a8_w11_.below.size⟩
                  have h8_w11_ := HK8.out w11_ a8_w11_
                  have a10_w11_ : After w9_ w11_ := after_after a10_w10_ b12
                  have l100_w11_ : Le (g10 + 1) w11_ := ⟨Nat.le_trans Lq10.le a10_w11_.below.size⟩
                  have h10_w11_ := HK10.out w11_ a10_w11_
                  have aw_w11_ : After w w11_ := after_after inferInstance a0_w11_
                  have a12_w11_ : After w11_ w11_ := inferInstance
                  have h12_w11_ := HK12.out w11_ a12_w11_
                  replace X12 := Lib.hid (X12.out.here w11_)
                  refine (GivesW.on G14 _ (after_after aw_w11_ inferInstance)).mono ?_
                  rintro e w12_ ⟨A14, c14, B14, d14, rfl, x14, hy⟩
                  have a0_w12_ : After (((w.alloc (.cells #[.slice A h.length c, .slice B l.length d] 24)).alloc (.cells #[.slice A' h'.length c', .slice B' l'.length d'] 24)).alloc (.cells #[.slice A2 h2.length c2, .slice B2 l2.length d2] 24)) w12_ := after_of_more hy (after_after a0_w11_ inferInstance)
                  have l00_w12_ : Le (w.heap.size + 1) w12_ := ⟨by have := a0_w12_.below.size; simp at this; omega⟩
                  have l01_w12_ : Le (w.heap.size + 1 + 1) w12_ := ⟨by have := a0_w12_.below.size; simp at this; omega⟩
                  have l02_w12_ : Le (w.heap.size + 1 + 1 + 1) w12_ := ⟨by have := a0_w12_.below.size; simp at this; omega⟩
                  have h0_w12_ := HK.out w12_ a0_w12_
                  have a7_w12_ : After w5_ w12_ := after_of_more hy (after_after a7_w11_ inferInstance)
                  have l70_w12_ : Le (g7 + 1) w12_ := ⟨Nat.le_trans Lq7.le a7_w12_.below.size⟩
                  have h7_w12_ := HK7.out w12_ a7_w12_
                  have a8_w12_ : After w7_ w12_ := after_of_more hy (after_after a8_w11_ inferInstance)
                  have l80_w12_ : Le (g8 + 1) w12_ := ⟨Nat.le_trans Lq8.le a8_w12_.below.size⟩
                  have h8_w12_ := HK8.out w12_ a8_w12_
                  have a10_w12_ : After w9_ w12_ := after_of_more hy (after_after a10_w11_ inferInstance)
                  have l100_w12_ : Le (g10 + 1) w12_ := ⟨Nat.le_trans Lq10.le a10_w12_.below.size⟩
                  have h10_w12_ := HK10.out w12_ a10_w12_
                  have a12_w12_ : After w11_ w12_ := after_of_more hy (after_after a12_w11_ inferInstance)
                  have l120_w12_ : Le (g12 + 1) w12_ := ⟨Nat.le_trans Lq12.le a12_w12_.below.size⟩
                  have h12_w12_ := HK12.out w12_ a12_w12_
                  have aw_w12_ : After w w12_ := after_after inferInstance a0_w12_
                  clear hy
                  have X14 := Lib.hid x14
                  clear x14
                  go_wp2_with fail
                  obtain ⟨g14, hg_⟩ : ∃ g, w12_.heap.size = g := ⟨_, rfl⟩
                  obtain ⟨w13_, hU_, b14, HK14, Lq14⟩ : ∃ U, w12_.alloc (.cells #[.slice A14 H14.length c14, .slice B14 L14.length d14] 24) = U ∧ After w12_ U ∧ Hid (∀ V, After U V → V.cell? ⟨g14, 0, none⟩ = some (.slice A14 H14.length c14) ∧ V.cell? ⟨g14, 1, none⟩ = some (.slice B14 L14.length d14)) ∧ Le (g14 + 1) U := by
                    refine ⟨_, rfl, inferInstance, fun V k_ => ?_, ⟨by rw [← hg_]; simp⟩⟩
                    have f_ := (Blk.new w12_ 24 #[.slice A14 H14.length c14, .slice B14 L14.length d14]).after (w' := V)
                    rw [hg_] at f_
                    exact ⟨by rw [f_.cell]; rfl, by rw [f_.cell]; rfl⟩
                  rw [hU_, hg_]
                  clear hU_ hg_
                  have a0_w13_ : After (((w.alloc (.cells #[.slice A h.length c, .slice B l.length d] 24)).alloc (.cells #[.slice A' h'.length c', .slice B' l'.length d'] 24)).alloc (.cells #[.slice A2 h2.length c2, .slice B2 l2.length d2] 24)) w13_ := after_after a0_w12_ b14
                  have l00_w13_ : Le (w.heap.size + 1) w13_ := ⟨by have := a0_w13_.below.size; simp at this; omega⟩
                  have l01_w13_ : Le (w.heap.size + 1 + 1) w13_ := ⟨by have := a0_w13_.below.size; simp at this; omega⟩
                  have l02_w13_ : Le (w.heap.size + 1 + 1 + 1) w13_ := ⟨by have := a0_w13_.below.size; simp at this; omega⟩
                  have h0_w13_ := HK.out w13_ a0_w13_
                  have a7_w13_ : After w5_ w13_ := after_after a7_w12_ b14
                  have l70_w13_ : Le (g7 + 1) w13_ := ⟨Nat.le_trans Lq7.le a7_w13_.below.size⟩
                  have h7_w13_ := HK7.out w13_ a7_w13_
                  have a8_w13_ : After w7_ w13_ := after_after a8_w12_ b14
                  have l80_w13_ : Le (g8 + 1) w13_ := ⟨Nat.le_trans Lq8.le a8_w13_.below.size⟩
                  have h8_w13_ := HK8.out w13_ a8_w13_
                  have a10_w13_ : After w9_ w13_ := after_after a10_w12_ b14
                  have l100_w13_ : Le (g10 + 1) w13_ := ⟨Nat.le_trans Lq10.le a10_w13_.below.size⟩
                  have h10_w13_ := HK10.out w13_ a10_w13_
                  have a12_w13_ : After w11_ w13_ := after_after a12_w12_ b14
                  have l120_w13_ : Le (g12 + 1) w13_ := ⟨Nat.le_trans Lq12.le a12_w13_.below.size⟩
                  have h12_w13_ := HK12.out w13_ a12_w13_
                  have aw_w13_ : After w w13_ := after_after inferInstance a0_w13_
                  have a14_w13_ : After w13_ w13_ := inferInstance
                  have h14_w13_ := HK14.out w13_ a14_w13_
                  replace X14 := Lib.hid (X14.out.here w13_)
                  have G16 := on_v (X12.out.here w13_) (x2.here w13_) e16.out
                  refine (GivesW.on G16 _ (after_after a14_w13_ inferInstance)).mono ?_
                  rintro e w14_ ⟨A16, c16, B16, d16, rfl, x16, hy⟩
                  have a0_w14_ : After (((w.alloc (.cells #[.slice A h.length c, .slice B l.length d] 24)).alloc (.cells #[.slice A' h'.length c', .slice B' l'.length d'] 24)).alloc (.cells #[.slice A2 h2.length c2, .slice B2 l2.length d2] 24)) w14_ := after_of_more hy (after_after a0_w13_ inferInstance)
                  have l00_w14_ : Le (w.heap.size + 1) w14_ := ⟨by have := a0_w14_.below.size; simp at this; omega⟩
                  have l01_w14_ : Le (w.heap.size + 1 + 1) w14_ := ⟨by have := a0_w14_.below.size; simp at this; omega⟩
                  have l02_w14_ : Le (w.heap.size + 1 + 1 + 1) w14_ := ⟨by have := a0_w14_.below.size; simp at this; omega⟩
                  have h0_w14_ := HK.out w14_ a0_w14_
                  have a7_w14_ : After w5_ w14_ := after_of_more hy (after_after a7_w13_ inferInstance)
                  have l70_w14_ : Le (g7 + 1) w14_ := ⟨Nat.le_trans Lq7.le a7_w14_.below.size⟩
                  have h7_w14_ := HK7.out w14_ a7_w14_
                  have a8_w14_ : After w7_ w14_ := after_of_more hy (after_after a8_w13_ inferInstance)
                  have l80_w14_ : Le (g8 + 1) w14_ := ⟨Nat.le_trans Lq8.le a8_w14_.below.size⟩
                  have h8_w14_ := HK8.out w14_ a8_w14_
                  have a10_w14_ : After w9_ w14_ := after_of_more hy (after_after a10_w13_ inferInstance)
                  have l100_w14_ : Le (g10 + 1) w14_ := ⟨Nat.le_trans Lq10.le a10_w14_.below.size⟩
                  have h10_w14_ := HK10.out w14_ a10_w14_
                  have a12_w14_ : After w11_ w14_ := after_of_more hy (after_after a12_w13_ inferInstance)
                  have l120_w14_ : Le (g12 + 1) w14_ := ⟨Nat.le_trans Lq12.le a12_w14_.below.size⟩
                  have h12_w14_ := HK12.out w14_ a12_w14_
                  have a14_w14_ : After w13_ w14_ := after_of_more hy (after_after a14_w13_ inferInstance)
                  have l140_w14_ : Le (g14 + 1) w14_ := ⟨Nat.le_trans Lq14.le a14_w14_.below.size⟩
                  have h14_w14_ := HK14.out w14_ a14_w14_
                  have aw_w14_ : After w w14_ := after_after inferInstance a0_w14_
                  clear hy
                  have X16 := Lib.hid x16
                  clear x16
                  go_wp2_with fail
                  obtain ⟨g16, hg_⟩ : ∃ g, w14_.heap.size = g := ⟨_, rfl⟩
                  obtain ⟨w15_, hU_, b16, HK16, Lq16⟩ : ∃ U, w14_.alloc (.cells #[.slice A16 H16.length c16, .slice B16 L16.length d16] 24) = U ∧ After w14_ U ∧ Hid (∀ V, After U V → V.cell? ⟨g16, 0, none⟩ = some (.slice A16 H16.length c16) ∧ V.cell? ⟨g16, 1, none⟩ = some (.slice B16 L16.length d16)) ∧ Le (g16 + 1) U := by
                    refine ⟨_, rfl, inferInstance, fun V k_ => ?_, ⟨by rw [← hg_]; simp⟩⟩
                    have f_ := (Blk.new w14_ 24 #[.slice A16 H16.length c16, .slice B16 L16.length d16]).after (w' := V)
                    rw [hg_] at f_
                    exact ⟨by rw [f_.cell]; rfl, by rw [f_.cell]; rfl⟩
                  rw [hU_, hg_]
                  clear hU_ hg_
                  have a0_w15_ : After (((w.alloc (.cells #[.slice A h.length c, .slice B l.length d] 24)).alloc (.cells #[.slice A' h'.length c', .slice B' l'.length d'] 24)).alloc (.cells #[.slice A2 h2.length c2, .slice B2 l2.length d2] 24)) w15_ := after_after a0_w14_ b16
                  have l00_w15_ : Le (w.heap.size + 1) w15_ := ⟨by have := a0_w15_.below.size; simp at this; omega⟩
                  have l01_w15_ : Le (w.heap.size + 1 + 1) w15_ := ⟨by have := a0_w15_.below.size; simp at this; omega⟩
                  have l02_w15_ : Le (w.heap.size + 1 + 1 + 1) w15_ := ⟨by have := a0_w15_.below.size; simp at this; omega⟩
                  have h0_w15_ := HK.out w15_ a0_w15_
                  have a7_w15_ : After w5_ w15_ := after_after a7_w14_ b16
                  have l70_w15_ : Le (g7 + 1) w15_ := ⟨Nat.le_trans Lq7.le a7_w15_.below.size⟩
                  have h7_w15_ := HK7.out w15_ a7_w15_
                  have a8_w15_ : After w7_ w15_ := after_after a8_w14_ b16
                  have l80_w15_ : Le (g8 + 1) w15_ := ⟨Nat.le_trans Lq8.le a8_w15_.below.size⟩
                  have h8_w15_ := HK8.out w15_ a8_w15_
                  have a10_w15_ : After w9_ w15_ := after_after a10_w14_ b16
                  have l100_w15_ : Le (g10 + 1) w15_ := ⟨Nat.le_trans Lq10.le a10_w15_.below.size⟩
                  have h10_w15_ := HK10.out w15_ a10_w15_
                  have a12_w15_ : After w11_ w15_ := after_after a12_w14_ b16
                  have l120_w15_ : Le (g12 + 1) w15_ := ⟨Nat.le_trans Lq12.le a12_w15_.below.size⟩
                  have h12_w15_ := HK12.out w15_ a12_w15_
                  have a14_w15_ : After w13_ w15_ := after_after a14_w14_ b16
                  have l140_w15_ : Le (g14 + 1) w15_ := ⟨Nat.le_trans Lq14.le a14_w15_.below.size⟩
                  have h14_w15_ := HK14.out w15_ a14_w15_
                  have aw_w15_ : After w w15_ := after_after inferInstance a0_w15_
                  have a16_w15_ : After w15_ w15_ := inferInstance
                  have h16_w15_ := HK16.out w15_ a16_w15_
                  replace X16 := Lib.hid (X16.out.here w15_)
                  have G18 := on_v (x.here w15_) (X14.out.here w15_) e18.out
                  refine (GivesW.on G18 _ (after_after a16_w15_ inferInstance)).mono ?_
                  rintro e w16_ ⟨A18, c18, B18, d18, rfl, x18, hy⟩
                  have a0_w16_ : After (((w.alloc (.cells #[.slice A h.length c, .slice B l.length d] 24)).alloc (.cells #[.slice A' h'.length c', .slice B' l'.length d'] 24)).alloc (.cells #[.slice A2 h2.length c2, .slice B2 l2.length d2] 24)) w16_ := after_of_more hy (after_after a0_w15_ inferInstance)
                  have l00_w16_ : Le (w.heap.size + 1) w16_ := ⟨by have := a0_w16_.below.size; simp at this; omega⟩
                  have l01_w16_ : Le (w.heap.size + 1 + 1) w16_ := ⟨by have := a0_w16_.below.size; simp at this; omega⟩
                  have l02_w16_ : Le (w.heap.size + 1 + 1 + 1) w16_ := ⟨by have := a0_w16_.below.size; simp at this; omega⟩
                  have h0_w16_ := HK.out w16_ a0_w16_
                  have a7_w16_ : After w5_ w16_ := after_of_more hy (after_after a7_w15_ inferInstance)
                  have l70_w16_ : Le (g7 + 1) w16_ := ⟨Nat.le_trans Lq7.le a7_w16_.below.size⟩
                  have h7_w16_ := HK7.out w16_ a7_w16_
                  have a8_w16_ : After w7_ w16_ := after_of_more hy (after_after a8_w15_ inferInstance)
                  have l80_w16_ : Le (g8 + 1) w16_ := ⟨Nat.le_trans Lq8.le a8_w16_.below.size⟩
                  have h8_w16_ := HK8.out w16_ a8_w16_
                  have a10_w16_ : After w9_ w16_ := after_of_more hy (after_after a10_w15_ inferInstance)
                  have l100_w16_ : Le (g10 + 1) w16_ := ⟨Nat.le_trans Lq10.le a10_w16_.below.size⟩
                  have h10_w16_ := HK10.out w16_ a10_w16_
                  have a12_w16_ : After w11_ w16_ := after_of_more hy (after_after a12_w15_ inferInstance)
                  have l120_w16_ : Le (g12 + 1) w16_ := ⟨Nat.le_trans Lq12.le a12_w16_.below.size⟩
                  have h12_w16_ := HK12.out w16_ a12_w16_
                  have a14_w16_ : After w13_ w16_ := after_of_more hy (after_after a14_w15_ inferInstance)
                  have l140_w16_ : Le (g14 + 1) w16_ := ⟨Nat.le_trans Lq14.le a14_w16_.below.size⟩
                  have h14_w16_ := HK14.out w16_ a14_w16_
                  have a16_w16_ : After w15_ w16_ := after_of_more hy (after_after a16_w15_ inferInstance)
                  have l160_w16_ : Le (g16 + 1) w16_ := ⟨Nat.le_trans Lq16.le a16_w16_.below.size⟩
                  have h16_w16_ := HK16.out w16_ a16_w16_
                  have aw_w16_ : After w w16_ := after_after inferInstance a0_w16_
                  clear hy
                  have X18 := Lib.hid x18
                  clear x18
                  go_wp2_with fail
                  obtain ⟨g18, hg_⟩ : ∃ g, w16_.heap.size = g := ⟨_, rfl⟩
                  obtain ⟨w17_, hU_, b18, HK18, Lq18⟩ : ∃ U, w16_.alloc (.cells #[.slice A18 H18.length c18, .slice B18 L18.length d18] 24) = U ∧ After w16_ U ∧ Hid (∀ V, After U V → V.cell? ⟨g18, 0, none⟩ = some (.slice A18 H18.length c18) ∧ V.cell? ⟨g18, 1, none⟩ = some (.slice B18 L18.length d18)) ∧ Le (g18 + 1) U := by
                    refine ⟨_, rfl, inferInstance, fun V k_ => ?_, ⟨by rw [← hg_]; simp⟩⟩
                    have f_ := (Blk.new w16_ 24 #[.slice A18 H18.length c18, .slice B18 L18.length d18]).after (w' := V)
                    rw [hg_] at f_
                    exact ⟨by rw [f_.cell]; rfl, by rw [f_.cell]; rfl⟩
                  rw [hU_, hg_]
                  clear hU_ hg_
                  have a0_w17_ : After (((w.alloc (.cells #[.slice A h.length c, .slice B l.length d] 24)).alloc (.cells #[.slice A' h'.length c', .slice B' l'.length d'] 24)).alloc (.cells #[.slice A2 h2.length c2, .slice B2 l2.length d2] 24)) w17_ := after_after a0_w16_ b18
                  have l00_w17_ : Le (w.heap.size + 1) w17_ := ⟨by have := a0_w17_.below.size; simp at this; omega⟩
                  have l01_w17_ : Le (w.heap.size + 1 + 1) w17_ := ⟨by have := a0_w17_.below.size; simp at this; omega⟩
                  have l02_w17_ : Le (w.heap.size + 1 + 1 + 1) w17_ := ⟨by have := a0_w17_.below.size; simp at this; omega⟩
                  have h0_w17_ := HK.out w17_ a0_w17_
                  have a7_w17_ : After w5_ w17_ := after_after a7_w16_ b18
                  have l70_w17_ : Le (g7 + 1) w17_ := ⟨Nat.le_trans Lq7.le a7_w17_.below.size⟩
                  have h7_w17_ := HK7.out w17_ a7_w17_
                  have a8_w17_ : After w7_ w17_ := after_after a8_w16_ b18
                  have l80_w17_ : Le (g8 + 1) w17_ := ⟨Nat.le_trans Lq8.le a8_w17_.below.size⟩
                  have h8_w17_ := HK8.out w17_ a8_w17_
                  have a10_w17_ : After w9_ w17_ := after_after a10_w16_ b18
                  have l100_w17_ : Le (g10 + 1) w17_ := ⟨Nat.le_trans Lq10.le a10_w17_.below.size⟩
                  have h10_w17_ := HK10.out w17_ a10_w17_
                  have a12_w17_ : After w11_ w17_ := after_after a12_w16_ b18
                  have l120_w17_ : Le (g12 + 1) w17_ := ⟨Nat.le_trans Lq12.le a12_w17_.below.size⟩
                  have h12_w17_ := HK12.out w17_ a12_w17_
                  have a14_w17_ : After w13_ w17_ := after_after a14_w16_ b18
                  have l140_w17_ : Le (g14 + 1) w17_ := ⟨Nat.le_trans Lq14.le a14_w17_.below.size⟩
                  have h14_w17_ := HK14.out w17_ a14_w17_
                  have a16_w17_ : After w15_ w17_ := after_after a16_w16_ b18
                  have l160_w17_ : Le (g16 + 1) w17_ := ⟨Nat.le_trans Lq16.le a16_w17_.below.size⟩
                  have h16_w17_ := HK16.out w17_ a16_w17_
                  have aw_w17_ : After w w17_ := after_after inferInstance a0_w17_
                  have a18_w17_ : After w17_ w17_ := inferInstance
                  have h18_w17_ := HK18.out w17_ a18_w17_
                  replace X18 := Lib.hid (X18.out.here w17_)
                  have G20 := equal_v (X16.out.here w17_) X18.out (v := true) he9.out
                  refine (Gives.on G20 _ (after_after a18_w17_ inferInstance)).mono ?_
                  rintro e w18_ ⟨rfl, hy⟩
                  have a0_w18_ : After (((w.alloc (.cells #[.slice A h.length c, .slice B l.length d] 24)).alloc (.cells #[.slice A' h'.length c', .slice B' l'.length d'] 24)).alloc (.cells #[.slice A2 h2.length c2, .slice B2 l2.length d2] 24)) w18_ := after_of_more hy (after_after a0_w17_ inferInstance)
                  have l00_w18_ : Le (w.heap.size + 1) w18_ := ⟨by have := a0_w18_.below.size; simp at this; omega⟩
                  have l01_w18_ : Le (w.heap.size + 1 + 1) w18_ := ⟨by have := a0_w18_.below.size; simp at this; omega⟩
                  have l02_w18_ : Le (w.heap.size + 1 + 1 + 1) w18_ := ⟨by have := a0_w18_.below.size; simp at this; omega⟩
                  have h0_w18_ := HK.out w18_ a0_w18_
                  have a7_w18_ : After w5_ w18_ := after_of_more hy (after_after a7_w17_ inferInstance)
                  have l70_w18_ : Le (g7 + 1) w18_ := ⟨Nat.le_trans Lq7.le a7_w18_.below.size⟩
                  have h7_w18_ := HK7.out w18_ a7_w18_
                  have a8_w18_ : After w7_ w18_ := after_of_more hy (after_after a8_w17_ inferInstance)
                  have l80_w18_ : Le (g8 + 1) w18_ := ⟨Nat.le_trans Lq8.le a8_w18_.below.size⟩
                  have h8_w18_ := HK8.out w18_ a8_w18_
                  have a10_w18_ : After w9_ w18_ := after_of_more hy (after_after a10_w17_ inferInstance)
                  have l100_w18_ : Le (g10 + 1) w18_ := ⟨Nat.le_trans Lq10.le a10_w18_.below.size⟩
                  have h10_w18_ := HK10.out w18_ a10_w18_
                  have a12_w18_ : After w11_ w18_ := after_of_more hy (after_after a12_w17_ inferInstance)
                  have l120_w18_ : Le (g12 + 1) w18_ := ⟨Nat.le_trans Lq12.le a12_w18_.below.size⟩
                  have h12_w18_ := HK12.out w18_ a12_w18_
                  have a14_w18_ : After w13_ w18_ := after_of_more hy (after_after a14_w17_ inferInstance)
                  have l140_w18_ : Le (g14 + 1) w18_ := ⟨Nat.le_trans Lq14.le a14_w18_.below.size⟩
                  have h14_w18_ := HK14.out w18_ a14_w18_
                  have a16_w18_ : After w15_ w18_ := after_of_more hy (after_after a16_w17_ inferInstance)
                  have l160_w18_ : Le (g16 + 1) w18_ := ⟨Nat.le_trans Lq16.le a16_w18_.below.size⟩
                  have h16_w18_ := HK16.out w18_ a16_w18_
                  have a18_w18_ : After w17_ w18_ := after_of_more hy (after_after a18_w17_ inferInstance)
                  have l180_w18_ : Le (g18 + 1) w18_ := ⟨Nat.le_trans Lq18.le a18_w18_.below.size⟩
                  have h18_w18_ := HK18.out w18_ a18_w18_
                  have aw_w18_ : After w w18_ := after_after inferInstance a0_w18_
                  clear hy
                  go_wp2_with fail
                  refine (Gives.on GA _ (after_after aw_w18_ inferInstance)).mono ?_
                  rintro e w19_ ⟨rfl, hy⟩
                  have a0_w19_ : After (((w.alloc (.cells #[.slice A h.length c, .slice B l.length d] 24)).alloc (.cells #[.slice A' h'.length c', .slice B' l'.length d'] 24)).alloc (.cells #[.slice A2 h2.length c2, .slice B2 l2.length d2] 24)) w19_ := after_of_more hy (after_after a0_w18_ inferInstance)
                  have l00_w19_ : Le (w.heap.size + 1) w19_ := ⟨by have := a0_w19_.below.size; simp at this; omega⟩
                  have l01_w19_ : Le (w.heap.size + 1 + 1) w19_ := ⟨by have := a0_w19_.below.size; simp at this; omega⟩
                  have l02_w19_ : Le (w.heap.size + 1 + 1 + 1) w19_ := ⟨by have := a0_w19_.below.size; simp at this; omega⟩
                  have h0_w19_ := HK.out w19_ a0_w19_
                  have a7_w19_ : After w5_ w19_ := after_of_more hy (after_after a7_w18_ inferInstance)
                  have l70_w19_ : Le (g7 + 1) w19_ := ⟨Nat.le_trans Lq7.le a7_w19_.below.size⟩
                  have h7_w19_ := HK7.out w19_ a7_w19_
                  have a8_w19_ : After w7_ w19_ := after_of_more hy (after_after a8_w18_ inferInstance)
                  have l80_w19_ : Le (g8 + 1) w19_ := ⟨Nat.le_trans Lq8.le a8_w19_.below.size⟩
                  have h8_w19_ := HK8.out w19_ a8_w19_
                  have a10_w19_ : After w9_ w19_ := after_of_more hy (after_after a10_w18_ inferInstance)
                  have l100_w19_ : Le (g10 + 1) w19_ := ⟨Nat.le_trans Lq10.le a10_w19_.below.size⟩
                  have h10_w19_ := HK10.out w19_ a10_w19_
                  have a12_w19_ : After w11_ w19_ := after_of_more hy (after_after a12_w18_ inferInstance)
                  have l120_w19_ : Le (g12 + 1) w19_ := ⟨Nat.le_trans Lq12.le a12_w19_.below.size⟩
                  have h12_w19_ := HK12.out w19_ a12_w19_
                  have a14_w19_ : After w13_ w19_ := after_of_more hy (after_after a14_w18_ inferInstance)
                  have l140_w19_ : Le (g14 + 1) w19_ := ⟨Nat.le_trans Lq14.le a14_w19_.below.size⟩
                  have h14_w19_ := HK14.out w19_ a14_w19_
                  have a16_w19_ : After w15_ w19_ := after_of_more hy (after_after a16_w18_ inferInstance)
                  have l160_w19_ : Le (g16 + 1) w19_ := ⟨Nat.le_trans Lq16.le a16_w19_.below.size⟩
                  have h16_w19_ := HK16.out w19_ a16_w19_
                  have a18_w19_ : After w17_ w19_ := after_of_more hy (after_after a18_w18_ inferInstance)
                  have l180_w19_ : Le (g18 + 1) w19_ := ⟨Nat.le_trans Lq18.le a18_w19_.below.size⟩
                  have h18_w19_ := HK18.out w19_ a18_w19_
                  have aw_w19_ : After w w19_ := after_after inferInstance a0_w19_
                  clear hy
                  go_wp2_with fail
                  go_ret
                  exact ⟨rfl, @After.is_more w _ (after_after aw_w19_ inferInstance)⟩
                · replace e16 := Lib.hid e16
                  replace e18 := Lib.hid e18
                  clear e12 e14 n12 t12 n14 t14 n16 t16 v16 v12 v14 hv hv' hv2
                  go_enter Try.func4, Try.ntmps4
                  go_wp2_with fail
                  refine (Gives.on G1 _ inferInstance).mono ?_
                  rintro e w1_ ⟨rfl, hy⟩
                  have a0_w1_ : After (((w.alloc (.cells #[.slice A h.length c, .slice B l.length d] 24)).alloc (.cells #[.slice A' h'.length c', .slice B' l'.length d'] 24)).alloc (.cells #[.slice A2 h2.length c2, .slice B2 l2.length d2] 24)) w1_ := after_of_more hy inferInstance
                  have l00_w1_ : Le (w.heap.size + 1) w1_ := ⟨by have := a0_w1_.below.size; simp at this; omega⟩
                  have l01_w1_ : Le (w.heap.size + 1 + 1) w1_ := ⟨by have := a0_w1_.below.size; simp at this; omega⟩
                  have l02_w1_ : Le (w.heap.size + 1 + 1 + 1) w1_ := ⟨by have := a0_w1_.below.size; simp at this; omega⟩
                  have h0_w1_ := HK.out w1_ a0_w1_
                  have aw_w1_ : After w w1_ := after_after inferInstance a0_w1_
                  clear hy
                  go_wp2_with fail
                  refine (Gives.on G2 _ (after_after aw_w1_ inferInstance)).mono ?_
                  rintro e w2_ ⟨rfl, hy⟩
                  have a0_w2_ : After (((w.alloc (.cells #[.slice A h.length c, .slice B l.length d] 24)).alloc (.cells #[.slice A' h'.length c', .slice B' l'.length d'] 24)).alloc (.cells #[.slice A2 h2.length c2, .slice B2 l2.length d2] 24)) w2_ := after_of_more hy (after_after a0_w1_ inferInstance)
                  have l00_w2_ : Le (w.heap.size + 1) w2_ := ⟨by have := a0_w2_.below.size; simp at this; omega⟩
                  have l01_w2_ : Le (w.heap.size + 1 + 1) w2_ := ⟨by have := a0_w2_.below.size; simp at this; omega⟩
                  have l02_w2_ : Le (w.heap.size + 1 + 1 + 1) w2_ := ⟨by have := a0_w2_.below.size; simp at this; omega⟩
                  have h0_w2_ := HK.out w2_ a0_w2_
                  have aw_w2_ : After w w2_ := after_after inferInstance a0_w2_
                  clear hy
                  go_wp2_with fail
                  refine (Gives.on G6 _ (after_after aw_w2_ inferInstance)).mono ?_
                  rintro e w3_ ⟨rfl, hy⟩
                  have a0_w3_ : After (((w.alloc (.cells #[.slice A h.length c, .slice B l.length d] 24)).alloc (.cells #[.slice A' h'.length c', .slice B' l'.length d'] 24)).alloc (.cells #[.slice A2 h2.length c2, .slice B2 l2.length d2] 24)) w3_ := after_of_more hy (after_after a0_w2_ inferInstance)
                  have l00_w3_ : Le (w.heap.size + 1) w3_ := ⟨by have := a0_w3_.below.size; simp at this; omega⟩
                  have l01_w3_ : Le (w.heap.size + 1 + 1) w3_ := ⟨by have := a0_w3_.below.size; simp at this; omega⟩
                  have l02_w3_ : Le (w.heap.size + 1 + 1 + 1) w3_ := ⟨by have := a0_w3_.below.size; simp at this; omega⟩
                  have h0_w3_ := HK.out w3_ a0_w3_
                  have aw_w3_ : After w w3_ := after_after inferInstance a0_w3_
                  clear hy
                  go_wp2_with fail
                  refine (GivesW.on GW _ (after_after aw_w3_ inferInstance)).mono ?_
                  rintro e w4_ ⟨A7, c7, B7, d7, rfl, x7, hy⟩
                  have a0_w4_ : After (((w.alloc (.cells #[.slice A h.length c, .slice B l.length d] 24)).alloc (.cells #[.slice A' h'.length c', .slice B' l'.length d'] 24)).alloc (.cells #[.slice A2 h2.length c2, .slice B2 l2.length d2] 24)) w4_ := after_of_more hy (after_after a0_w3_ inferInstance)
                  have l00_w4_ : Le (w.heap.size + 1) w4_ := ⟨by have := a0_w4_.below.size; simp at this; omega⟩
                  have l01_w4_ : Le (w.heap.size + 1 + 1) w4_ := ⟨by have := a0_w4_.below.size; simp at this; omega⟩
                  have l02_w4_ : Le (w.heap.size + 1 + 1 + 1) w4_ := ⟨by have := a0_w4_.below.size; simp at this; omega⟩
                  have h0_w4_ := HK.out w4_ a0_w4_
                  have aw_w4_ : After w w4_ := after_after inferInstance a0_w4_
                  clear hy
                  have X7 := Lib.hid x7
                  clear x7
                  go_wp2_with fail
                  obtain ⟨g7, hg_⟩ : ∃ g, w4_.heap.size = g := ⟨_, rfl⟩
                  obtain ⟨w5_, hU_, b7, HK7, Lq7⟩ : ∃ U, w4_.alloc (.cells #[.slice A7 O.length c7, .slice B7 I.length d7] 24) = U ∧ After w4_ U ∧ Hid (∀ V, After U V → V.cell? ⟨g7, 0, none⟩ = some (.slice A7 O.length c7) ∧ V.cell? ⟨g7, 1, none⟩ = some (.slice B7 I.length d7)) ∧ Le (g7 + 1) U := by
                    refine ⟨_, rfl, inferInstance, fun V k_ => ?_, ⟨by rw [← hg_]; simp⟩⟩
                    have f_ := (Blk.new w4_ 24 #[.slice A7 O.length c7, .slice B7 I.length d7]).after (w' := V)
                    rw [hg_] at f_
                    exact ⟨by rw [f_.cell]; rfl, by rw [f_.cell]; rfl⟩
                  rw [hU_, hg_]
                  clear hU_ hg_
                  have a0_w5_ : After (((w.alloc (.cells #[.slice A h.length c, .slice B l.length d] 24)).alloc (.cells #[.slice A' h'.length c', .slice B' l'.length d'] 24)).alloc (.cells #[.slice A2 h2.length c2, .slice B2 l2.length d2] 24)) w5_ := after_after a0_w4_ b7
                  have l00_w5_ : Le (w.heap.size + 1) w5_ := ⟨by have := a0_w5_.below.size; simp at this; omega⟩
                  have l01_w5_ : Le (w.heap.size + 1 + 1) w5_ := ⟨by have := a0_w5_.below.size; simp at this; omega⟩
                  have l02_w5_ : Le (w.heap.size + 1 + 1 + 1) w5_ := ⟨by have := a0_w5_.below.size; simp at this; omega⟩
                  have h0_w5_ := HK.out w5_ a0_w5_
                  have aw_w5_ : After w w5_ := after_after inferInstance a0_w5_
                  have a7_w5_ : After w5_ w5_ := inferInstance
                  have h7_w5_ := HK7.out w5_ a7_w5_
                  replace X7 := Lib.hid (X7.out.here w5_)
                  have G8 := on_v (x.here w5_) X7.out e8.out
                  refine (GivesW.on G8 _ (after_after a7_w5_ inferInstance)).mono ?_
                  rintro e w6_ ⟨A8, c8, B8, d8, rfl, x8, hy⟩
                  have a0_w6_ : After (((w.alloc (.cells #[.slice A h.length c, .slice B l.length d] 24)).alloc (.cells #[.slice A' h'.length c', .slice B' l'.length d'] 24)).alloc (.cells #[.slice A2 h2.length c2, .slice B2 l2.length d2] 24)) w6_ := after_of_more hy (after_after a0_w5_ inferInstance)
                  have l00_w6_ : Le (w.heap.size + 1) w6_ := ⟨by have := a0_w6_.below.size; simp at this; omega⟩
                  have l01_w6_ : Le (w.heap.size + 1 + 1) w6_ := ⟨by have := a0_w6_.below.size; simp at this; omega⟩
                  have l02_w6_ : Le (w.heap.size + 1 + 1 + 1) w6_ := ⟨by have := a0_w6_.below.size; simp at this; omega⟩
                  have h0_w6_ := HK.out w6_ a0_w6_
                  have a7_w6_ : After w5_ w6_ := after_of_more hy (after_after a7_w5_ inferInstance)
                  have l70_w6_ : Le (g7 + 1) w6_ := ⟨Nat.le_trans Lq7.le a7_w6_.below.size⟩
                  have h7_w6_ := HK7.out w6_ a7_w6_
                  have aw_w6_ : After w w6_ := after_after inferInstance a0_w6_
                  clear hy
                  have X8 := Lib.hid x8
                  clear x8
                  go_wp2_with fail
                  obtain ⟨g8, hg_⟩ : ∃ g, w6_.heap.size = g := ⟨_, rfl⟩
                  obtain ⟨w7_, hU_, b8, HK8, Lq8⟩ : ∃ U, w6_.alloc (.cells #[.slice A8 H8.length c8, .slice B8 L8.length d8] 24) = U ∧ After w6_ U ∧ Hid (∀ V, After U V → V.cell? ⟨g8, 0, none⟩ = some (.slice A8 H8.length c8) ∧ V.cell? ⟨g8, 1, none⟩ = some (.slice B8 L8.length d8)) ∧ Le (g8 + 1) U := by
                    refine ⟨_, rfl, inferInstance, fun V k_ => ?_, ⟨by rw [← hg_]; simp⟩⟩
                    have f_ := (Blk.new w6_ 24 #[.slice A8 H8.length c8, .slice B8 L8.length d8]).after (w' := V)
                    rw [hg_] at f_
                    exact ⟨by rw [f_.cell]; rfl, by rw [f_.cell]; rfl⟩
                  rw [hU_, hg_]
                  clear hU_ hg_
                  have a0_w7_ : After (((w.alloc (.cells #[.slice A h.length c, .slice B l.length d] 24)).alloc (.cells #[.slice A' h'.length c', .slice B' l'.length d'] 24)).alloc (.cells #[.slice A2 h2.length c2, .slice B2 l2.length d2] 24)) w7_ := after_after a0_w6_ b8
                  have l00_w7_ : Le (w.heap.size + 1) w7_ := ⟨by have := a0_w7_.below.size; simp at this; omega⟩
                  have l01_w7_ : Le (w.heap.size + 1 + 1) w7_ := ⟨by have := a0_w7_.below.size; simp at this; omega⟩
                  have l02_w7_ : Le (w.heap.size + 1 + 1 + 1) w7_ := ⟨by have := a0_w7_.below.size; simp at this; omega⟩
                  have h0_w7_ := HK.out w7_ a0_w7_
                  have a7_w7_ : After w5_ w7_ := after_after a7_w6_ b8
                  have l70_w7_ : Le (g7 + 1) w7_ := ⟨Nat.le_trans Lq7.le a7_w7_.below.size⟩
                  have h7_w7_ := HK7.out w7_ a7_w7_
                  have aw_w7_ : After w w7_ := after_after inferInstance a0_w7_
                  have a8_w7_ : After w7_ w7_ := inferInstance
                  have h8_w7_ := HK8.out w7_ a8_w7_
                  replace X8 := Lib.hid (X8.out.here w7_)
                  have G10 := on_v (X7.out.here w7_) (x.here w7_) e10.out
                  refine (GivesW.on G10 _ (after_after a8_w7_ inferInstance)).mono ?_
                  rintro e w8_ ⟨A10, c10, B10, d10, rfl, x10, hy⟩
                  have a0_w8_ : After (((w.alloc (.cells #[.slice A h.length c, .slice B l.length d] 24)).alloc (.cells #[.slice A' h'.length c', .slice B' l'.length d'] 24)).alloc (.cells #[.slice A2 h2.length c2, .slice B2 l2.length d2] 24)) w8_ := after_of_more hy (after_after a0_w7_ inferInstance)
                  have l00_w8_ : Le (w.heap.size + 1) w8_ := ⟨by have := a0_w8_.below.size; simp at this; omega⟩
                  have l01_w8_ : Le (w.heap.size + 1 + 1) w8_ := ⟨by have := a0_w8_.below.size; simp at this; omega⟩
                  have l02_w8_ : Le (w.heap.size + 1 + 1 + 1) w8_ := ⟨by have := a0_w8_.below.size; simp at this; omega⟩
                  have h0_w8_ := HK.out w8_ a0_w8_
                  have a7_w8_ : After w5_ w8_ := after_of_more hy (after_after a7_w7_ inferInstance)
                  have l70_w8_ : Le (g7 + 1) w8_ := ⟨Nat.le_trans Lq7.le a7_w8_.below.size⟩
                  have h7_w8_ := HK7.out w8_ a7_w8_
                  have a8_w8_ : After w7_ w8_ := after_of_more hy (after_after a8_w7_ inferInstance)
                  have l80_w8_ : Le (g8 + 1) w8_ := ⟨Nat.le_trans Lq8.le a8_w8_.below.size⟩
                  have h8_w8_ := HK8.out w8_ a8_w8_
                  have aw_w8_ : After w w8_ := after_after inferInstance a0_w8_
                  clear hy
                  have X10 := Lib.hid x10
                  clear x10
                  go_wp2_with fail
                  obtain ⟨g10, hg_⟩ : ∃ g, w8_.heap.size = g := ⟨_, rfl⟩
                  obtain ⟨w9_, hU_, b10, HK10, Lq10⟩ : ∃ U, w8_.alloc (.cells #[.slice A10 H8.length c10, .slice B10 L8.length d10] 24) = U ∧ After w8_ U ∧ Hid (∀ V, After U V → V.cell? ⟨g10, 0, none⟩ = some (.slice A10 H8.length c10) ∧ V.cell? ⟨g10, 1, none⟩ = some (.slice B10 L8.length d10)) ∧ Le (g10 + 1) U := by
                    refine ⟨_, rfl, inferInstance, fun V k_ => ?_, ⟨by rw [← hg_]; simp⟩⟩
                    have f_ := (Blk.new w8_ 24 #[.slice A10 H8.length c10, .slice B10 L8.length d10]).after (w' := V)
                    rw [hg_] at f_
                    exact ⟨by rw [f_.cell]; rfl, by rw [f_.cell]; rfl⟩
                  rw [hU_, hg_]
                  clear hU_ hg_
                  have a0_w9_ : After (((w.alloc (.cells #[.slice A h.length c, .slice B l.length d] 24)).alloc (.cells #[.slice A' h'.length c', .slice B' l'.length d'] 24)).alloc (.cells #[.slice A2 h2.length c2, .slice B2 l2.length d2] 24)) w9_ := after_after a0_w8_ b10
                  have l00_w9_ : Le (w.heap.size + 1) w9_ := ⟨by have := a0_w9_.below.size; simp at this; omega⟩
                  have l01_w9_ : Le (w.heap.size + 1 + 1) w9_ := ⟨by have := a0_w9_.below.size; simp at this; omega⟩
                  have l02_w9_ : Le (w.heap.size + 1 + 1 + 1) w9_ := ⟨by have := a0_w9_.below.size; simp at this; omega⟩
                  have h0_w9_ := HK.out w9_ a0_w9_
                  have a7_w9_ : After w5_ w9_ := after_after a7_w8_ b10
                  have l70_w9_ : Le (g7 + 1) w9_ := ⟨Nat.le_trans Lq7.le a7_w9_.below.size⟩
                  have h7_w9_ := HK7.out w9_ a7_w9_
                  have a8_w9_ : After w7_ w9_ := after_after a8_w8_ b10
                  have l80_w9_ : Le (g8 + 1) w9_ := ⟨Nat.le_trans Lq8.le a8_w9_.below.size⟩
                  have h8_w9_ := HK8.out w9_ a8_w9_
                  have aw_w9_ : After w w9_ := after_after inferInstance a0_w9_
                  have a10_w9_ : After w9_ w9_ := inferInstance
                  have h10_w9_ := HK10.out w9_ a10_w9_
                  replace X10 := Lib.hid (X10.out.here w9_)
                  have q0_s := a0_w9_
                  have q10_s : After w9_ w9_ := inferInstance
                  have qw : ∀ V, After w9_ V → After w V := fun V k => after_after aw_w9_ k
                  have q8 : ∀ V, After w9_ V → After w7_ V := fun V k => after_after a8_w9_ k
                  have tk1 : True := trivial
                  have tk2 : True := trivial
                  have tk3 : True := trivial
                  have tk4 : True := trivial
                  go_region_held3 (fun V => (V.cell? ⟨w.heap.size, 0, none⟩ = some (.slice A h.length c) ∧ V.cell? ⟨w.heap.size, 1, none⟩ = some (.slice B l.length d)) ∧ (V.cell? ⟨g8, 0, none⟩ = some (.slice A8 H8.length c8) ∧ V.cell? ⟨g8, 1, none⟩ = some (.slice B8 L8.length d8)) ∧ V.cell? ⟨g10, 0, none⟩ = some (.slice A10 H8.length c10) ∧ V.cell? ⟨g10, 1, none⟩ = some (.slice B10 L8.length d10)) (exact ⟨⟨(HK.out _ inferInstance).1, (HK.out _ inferInstance).2.1⟩, HK8.out _ (q8 _ inferInstance), HK10.out _ inferInstance⟩)
                    (first
                    | (have _t := tk1; go_at_call 19; (with_reducible refine (Gives.on GC _ (qw _ inferInstance)).mono ?_); rintro e v1 ⟨rfl, hy⟩; have q0_v1 : After (((w.alloc (.cells #[.slice A h.length c, .slice B l.length d] 24)).alloc (.cells #[.slice A' h'.length c', .slice B' l'.length d'] 24)).alloc (.cells #[.slice A2 h2.length c2, .slice B2 l2.length d2] 24)) v1 := after_of_more hy (after_after q0_s inferInstance); have q10_v1 : After w9_ v1 := after_of_more hy (after_after q10_s inferInstance); clear hy _t tk1)
                    | (have _t := tk2; go_at_call 20; (with_reducible refine (GivesW.on GN _ (qw _ (after_after q10_v1 inferInstance))).mono ?_); rintro e v2 ⟨A5, c5, B5, d5, rfl, x5, hy⟩; have q0_v2 : After (((w.alloc (.cells #[.slice A h.length c, .slice B l.length d] 24)).alloc (.cells #[.slice A' h'.length c', .slice B' l'.length d'] 24)).alloc (.cells #[.slice A2 h2.length c2, .slice B2 l2.length d2] 24)) v2 := after_of_more hy (after_after q0_v1 inferInstance); have q10_v2 : After w9_ v2 := after_of_more hy (after_after q10_v1 inferInstance); have E1 := equal_v ((X8.out.here w9_).here v2) x5 (v := true) (by simp); clear hy _t tk2)
                    | (have _t := tk3; go_at_call 16; (with_reducible refine (Gives.on E1 _ inferInstance).mono ?_); rintro e v3 ⟨rfl, hy⟩; have q0_v3 : After (((w.alloc (.cells #[.slice A h.length c, .slice B l.length d] 24)).alloc (.cells #[.slice A' h'.length c', .slice B' l'.length d'] 24)).alloc (.cells #[.slice A2 h2.length c2, .slice B2 l2.length d2] 24)) v3 := after_of_more hy (after_after q0_v2 inferInstance); have q10_v3 : After w9_ v3 := after_of_more hy (after_after q10_v2 inferInstance); have E2 := equal_v ((X8.out.here w9_).here v3) (X10.out.here v3) (v := true) (by simp); clear hy _t tk3)
                    | (have _t := tk4; go_at_call 16; (with_reducible refine (Gives.on E2 _ inferInstance).mono ?_); rintro e v4 ⟨rfl, hy⟩; have q0_v4 : After (((w.alloc (.cells #[.slice A h.length c, .slice B l.length d] 24)).alloc (.cells #[.slice A' h'.length c', .slice B' l'.length d'] 24)).alloc (.cells #[.slice A2 h2.length c2, .slice B2 l2.length d2] 24)) v4 := after_of_more hy (after_after q0_v3 inferInstance); have q10_v4 : After w9_ v4 := after_of_more hy (after_after q10_v3 inferInstance); clear hy _t tk4))
                  have hy : ∃ y, v4 = v4.more y := more_self v4
                  clear hy
                  have a0_v4 : After (((w.alloc (.cells #[.slice A h.length c, .slice B l.length d] 24)).alloc (.cells #[.slice A' h'.length c', .slice B' l'.length d'] 24)).alloc (.cells #[.slice A2 h2.length c2, .slice B2 l2.length d2] 24)) v4 := after_after a0_w9_ q10_v4
                  have l00_v4 : Le (w.heap.size + 1) v4 := ⟨by have := a0_v4.below.size; simp at this; omega⟩
                  have l01_v4 : Le (w.heap.size + 1 + 1) v4 := ⟨by have := a0_v4.below.size; simp at this; omega⟩
                  have l02_v4 : Le (w.heap.size + 1 + 1 + 1) v4 := ⟨by have := a0_v4.below.size; simp at this; omega⟩
                  have h0_v4 := HK.out v4 a0_v4
                  have a7_v4 : After w5_ v4 := after_after a7_w9_ q10_v4
                  have l70_v4 : Le (g7 + 1) v4 := ⟨Nat.le_trans Lq7.le a7_v4.below.size⟩
                  have h7_v4 := HK7.out v4 a7_v4
                  have a8_v4 : After w7_ v4 := after_after a8_w9_ q10_v4
                  have l80_v4 : Le (g8 + 1) v4 := ⟨Nat.le_trans Lq8.le a8_v4.below.size⟩
                  have h8_v4 := HK8.out v4 a8_v4
                  have a10_v4 : After w9_ v4 := after_after a10_w9_ q10_v4
                  have l100_v4 : Le (g10 + 1) v4 := ⟨Nat.le_trans Lq10.le a10_v4.below.size⟩
                  have h10_v4 := HK10.out v4 a10_v4
                  have aw_v4 : After w v4 := after_after inferInstance a0_v4
                  go_wp2_with fail
                  refine (GivesW.on G12 _ (after_after aw_v4 inferInstance)).mono ?_
                  rintro e w10_ ⟨A12, c12, B12, d12, rfl, x12, hy⟩
                  have a0_w10_ : After (((w.alloc (.cells #[.slice A h.length c, .slice B l.length d] 24)).alloc (.cells #[.slice A' h'.length c', .slice B' l'.length d'] 24)).alloc (.cells #[.slice A2 h2.length c2, .slice B2 l2.length d2] 24)) w10_ := after_of_more hy (after_after a0_v4 inferInstance)
                  have l00_w10_ : Le (w.heap.size + 1) w10_ := ⟨by have := a0_w10_.below.size; simp at this; omega⟩
                  have l01_w10_ : Le (w.heap.size + 1 + 1) w10_ := ⟨by have := a0_w10_.below.size; simp at this; omega⟩
                  have l02_w10_ : Le (w.heap.size + 1 + 1 + 1) w10_ := ⟨by have := a0_w10_.below.size; simp at this; omega⟩
                  have h0_w10_ := HK.out w10_ a0_w10_
                  have a7_w10_ : After w5_ w10_ := after_of_more hy (after_after a7_v4 inferInstance)
                  have l70_w10_ : Le (g7 + 1) w10_ := ⟨Nat.le_trans Lq7.le a7_w10_.below.size⟩
                  have h7_w10_ := HK7.out w10_ a7_w10_
                  have a8_w10_ : After w7_ w10_ := after_of_more hy (after_after a8_v4 inferInstance)
                  have l80_w10_ : Le (g8 + 1) w10_ := ⟨Nat.le_trans Lq8.le a8_w10_.below.size⟩
                  have h8_w10_ := HK8.out w10_ a8_w10_
                  have a10_w10_ : After w9_ w10_ := after_of_more hy (after_after a10_v4 inferInstance)
                  have l100_w10_ : Le (g10 + 1) w10_ := ⟨Nat.le_trans Lq10.le a10_w10_.below.size⟩
                  have h10_w10_ := HK10.out w10_ a10_w10_
                  have aw_w10_ : After w w10_ := after_after inferInstance a0_w10_
                  clear hy
                  have X12 := Lib.hid x12
                  clear x12
                  go_wp2_with fail
                  obtain ⟨g12, hg_⟩ : ∃ g, w10_.heap.size = g := ⟨_, rfl⟩
                  obtain ⟨w11_, hU_, b12, HK12, Lq12⟩ : ∃ U, w10_.alloc (.cells #[.slice A12 H12.length c12, .slice B12 L12.length d12] 24) = U ∧ After w10_ U ∧ Hid (∀ V, After U V → V.cell? ⟨g12, 0, none⟩ = some (.slice A12 H12.length c12) ∧ V.cell? ⟨g12, 1, none⟩ = some (.slice B12 L12.length d12)) ∧ Le (g12 + 1) U := by
                    refine ⟨_, rfl, inferInstance, fun V k_ => ?_, ⟨by rw [← hg_]; simp⟩⟩
                    have f_ := (Blk.new w10_ 24 #[.slice A12 H12.length c12, .slice B12 L12.length d12]).after (w' := V)
                    rw [hg_] at f_
                    exact ⟨by rw [f_.cell]; rfl, by rw [f_.cell]; rfl⟩
                  rw [hU_, hg_]
                  clear hU_ hg_
                  have a0_w11_ : After (((w.alloc (.cells #[.slice A h.length c, .slice B l.length d] 24)).alloc (.cells #[.slice A' h'.length c', .slice B' l'.length d'] 24)).alloc (.cells #[.slice A2 h2.length c2, .slice B2 l2.length d2] 24)) w11_ := after_after a0_w10_ b12
                  have l00_w11_ : Le (w.heap.size + 1) w11_ := ⟨by have := a0_w11_.below.size; simp at this; omega⟩
                  have l01_w11_ : Le (w.heap.size + 1 + 1) w11_ := ⟨by have := a0_w11_.below.size; simp at this; omega⟩
                  have l02_w11_ : Le (w.heap.size + 1 + 1 + 1) w11_ := ⟨by have := a0_w11_.below.size; simp at this; omega⟩
                  have h0_w11_ := HK.out w11_ a0_w11_
                  have a7_w11_ : After w5_ w11_ := after_after a7_w10_ b12
                  have l70_w11_ : Le (g7 + 1) w11_ := ⟨Nat.le_trans Lq7.le a7_w11_.below.size⟩
                  have h7_w11_ := HK7.out w11_ a7_w11_
                  have a8_w11_ : After w7_ w11_ := after_after a8_w10_ b12
                  have l80_w11_ : Le (g8 + 1) w11_ := ⟨Nat.le_trans Lq8.le a8_w11_.below.size⟩
                  have h8_w11_ := HK8.out w11_ a8_w11_
                  have a10_w11_ : After w9_ w11_ := after_after a10_w10_ b12
                  have l100_w11_ : Le (g10 + 1) w11_ := ⟨Nat.le_trans Lq10.le a10_w11_.below.size⟩
                  have h10_w11_ := HK10.out w11_ a10_w11_
                  have aw_w11_ : After w w11_ := after_after inferInstance a0_w11_
                  have a12_w11_ : After w11_ w11_ := inferInstance
                  have h12_w11_ := HK12.out w11_ a12_w11_
                  replace X12 := Lib.hid (X12.out.here w11_)
                  refine (GivesW.on G14 _ (after_after aw_w11_ inferInstance)).mono ?_
                  rintro e w12_ ⟨A14, c14, B14, d14, rfl, x14, hy⟩
                  have a0_w12_ : After (((w.alloc (.cells #[.slice A h.length c, .slice B l.length d] 24)).alloc (.cells #[.slice A' h'.length c', .slice B' l'.length d'] 24)).alloc (.cells #[.slice A2 h2.length c2, .slice B2 l2.length d2] 24)) w12_ := after_of_more hy (after_after a0_w11_ inferInstance)
                  have l00_w12_ : Le (w.heap.size + 1) w12_ := ⟨by have := a0_w12_.below.size; simp at this; omega⟩
                  have l01_w12_ : Le (w.heap.size + 1 + 1) w12_ := ⟨by have := a0_w12_.below.size; simp at this; omega⟩
                  have l02_w12_ : Le (w.heap.size + 1 + 1 + 1) w12_ := ⟨by have := a0_w12_.below.size; simp at this; omega⟩
                  have h0_w12_ := HK.out w12_ a0_w12_
                  have a7_w12_ : After w5_ w12_ := after_of_more hy (after_after a7_w11_ inferInstance)
                  have l70_w12_ : Le (g7 + 1) w12_ := ⟨Nat.le_trans Lq7.le a7_w12_.below.size⟩
                  have h7_w12_ := HK7.out w12_ a7_w12_
                  have a8_w12_ : After w7_ w12_ := after_of_more hy (after_after a8_w11_ inferInstance)
                  have l80_w12_ : Le (g8 + 1) w12_ := ⟨Nat.le_trans Lq8.le a8_w12_.below.size⟩
                  have h8_w12_ := HK8.out w12_ a8_w12_
                  have a10_w12_ : After w9_ w12_ := after_of_more hy (after_after a10_w11_ inferInstance)
                  have l100_w12_ : Le (g10 + 1) w12_ := ⟨Nat.le_trans Lq10.le a10_w12_.below.size⟩
                  have h10_w12_ := HK10.out w12_ a10_w12_
                  have a12_w12_ : After w11_ w12_ := after_of_more hy (after_after a12_w11_ inferInstance)
                  have l120_w12_ : Le (g12 + 1) w12_ := ⟨Nat.le_trans Lq12.le a12_w12_.below.size⟩
                  have h12_w12_ := HK12.out w12_ a12_w12_
                  have aw_w12_ : After w w12_ := after_after inferInstance a0_w12_
                  clear hy
                  have X14 := Lib.hid x14
                  clear x14
                  go_wp2_with fail
                  obtain ⟨g14, hg_⟩ : ∃ g, w12_.heap.size = g := ⟨_, rfl⟩
                  obtain ⟨w13_, hU_, b14, HK14, Lq14⟩ : ∃ U, w12_.alloc (.cells #[.slice A14 H14.length c14, .slice B14 L14.length d14] 24) = U ∧ After w12_ U ∧ Hid (∀ V, After U V → V.cell? ⟨g14, 0, none⟩ = some (.slice A14 H14.length c14) ∧ V.cell? ⟨g14, 1, none⟩ = some (.slice B14 L14.length d14)) ∧ Le (g14 + 1) U := by
                    refine ⟨_, rfl, inferInstance, fun V k_ => ?_, ⟨by rw [← hg_]; simp⟩⟩
                    have f_ := (Blk.new w12_ 24 #[.slice A14 H14.length c14, .slice B14 L14.length d14]).after (w' := V)
                    rw [hg_] at f_
                    exact ⟨by rw [f_.cell]; rfl, by rw [f_.cell]; rfl⟩
                  rw [hU_, hg_]
                  clear hU_ hg_
                  have a0_w13_ : After (((w.alloc (.cells #[.slice A h.length c, .slice B l.length d] 24)).alloc (.cells #[.slice A' h'.length c', .slice B' l'.length d'] 24)).alloc (.cells #[.slice A2 h2.length c2, .slice B2 l2.length d2] 24)) w13_ := after_after a0_w12_ b14
                  have l00_w13_ : Le (w.heap.size + 1) w13_ := ⟨by have := a0_w13_.below.size; simp at this; omega⟩
                  have l01_w13_ : Le (w.heap.size + 1 + 1) w13_ := ⟨by have := a0_w13_.below.size; simp at this; omega⟩
                  have l02_w13_ : Le (w.heap.size + 1 + 1 + 1) w13_ := ⟨by have := a0_w13_.below.size; simp at this; omega⟩
                  have h0_w13_ := HK.out w13_ a0_w13_
                  have a7_w13_ : After w5_ w13_ := after_after a7_w12_ b14
                  have l70_w13_ : Le (g7 + 1) w13_ := ⟨Nat.le_trans Lq7.le a7_w13_.below.size⟩
                  have h7_w13_ := HK7.out w13_ a7_w13_
                  have a8_w13_ : After w7_ w13_ := after_after a8_w12_ b14
                  have l80_w13_ : Le (g8 + 1) w13_ := ⟨Nat.le_trans Lq8.le a8_w13_.below.size⟩
                  have h8_w13_ := HK8.out w13_ a8_w13_
                  have a10_w13_ : After w9_ w13_ := after_after a10_w12_ b14
                  have l100_w13_ : Le (g10 + 1) w13_ := ⟨Nat.le_trans Lq10.le a10_w13_.below.size⟩
                  have h10_w13_ := HK10.out w13_ a10_w13_
                  have a12_w13_ : After w11_ w13_ := after_after a12_w12_ b14
                  have l120_w13_ : Le (g12 + 1) w13_ := ⟨Nat.le_trans Lq12.le a12_w13_.below.size⟩
                  have h12_w13_ := HK12.out w13_ a12_w13_
                  have aw_w13_ : After w w13_ := after_after inferInstance a0_w13_
                  have a14_w13_ : After w13_ w13_ := inferInstance
                  have h14_w13_ := HK14.out w13_ a14_w13_
                  replace X14 := Lib.hid (X14.out.here w13_)
                  have G16 := on_v (X12.out.here w13_) (x2.here w13_) e16.out
                  refine (GivesW.on G16 _ (after_after a14_w13_ inferInstance)).mono ?_
                  rintro e w14_ ⟨A16, c16, B16, d16, rfl, x16, hy⟩
                  have a0_w14_ : After (((w.alloc (.cells #[.slice A h.length c, .slice B l.length d] 24)).alloc (.cells #[.slice A' h'.length c', .slice B' l'.length d'] 24)).alloc (.cells #[.slice A2 h2.length c2, .slice B2 l2.length d2] 24)) w14_ := after_of_more hy (after_after a0_w13_ inferInstance)
                  have l00_w14_ : Le (w.heap.size + 1) w14_ := ⟨by have := a0_w14_.below.size; simp at this; omega⟩
                  have l01_w14_ : Le (w.heap.size + 1 + 1) w14_ := ⟨by have := a0_w14_.below.size; simp at this; omega⟩
                  have l02_w14_ : Le (w.heap.size + 1 + 1 + 1) w14_ := ⟨by have := a0_w14_.below.size; simp at this; omega⟩
                  have h0_w14_ := HK.out w14_ a0_w14_
                  have a7_w14_ : After w5_ w14_ := after_of_more hy (after_after a7_w13_ inferInstance)
                  have l70_w14_ : Le (g7 + 1) w14_ := ⟨Nat.le_trans Lq7.le a7_w14_.below.size⟩
                  have h7_w14_ := HK7.out w14_ a7_w14_
                  have a8_w14_ : After w7_ w14_ := after_of_more hy (after_after a8_w13_ inferInstance)
                  have l80_w14_ : Le (g8 + 1) w14_ := ⟨Nat.le_trans Lq8.le a8_w14_.below.size⟩
                  have h8_w14_ := HK8.out w14_ a8_w14_
                  have a10_w14_ : After w9_ w14_ := after_of_more hy (after_after a10_w13_ inferInstance)
                  have l100_w14_ : Le (g10 + 1) w14_ := ⟨Nat.le_trans Lq10.le a10_w14_.below.size⟩
                  have h10_w14_ := HK10.out w14_ a10_w14_
                  have a12_w14_ : After w11_ w14_ := after_of_more hy (after_after a12_w13_ inferInstance)
                  have l120_w14_ : Le (g12 + 1) w14_ := ⟨Nat.le_trans Lq12.le a12_w14_.below.size⟩
                  have h12_w14_ := HK12.out w14_ a12_w14_
                  have a14_w14_ : After w13_ w14_ := after_of_more hy (after_after a14_w13_ inferInstance)
                  have l140_w14_ : Le (g14 + 1) w14_ := ⟨Nat.le_trans Lq14.le a14_w14_.below.size⟩
                  have h14_w14_ := HK14.out w14_ a14_w14_
                  have aw_w14_ : After w w14_ := after_after inferInstance a0_w14_
                  clear hy
                  have X16 := Lib.hid x16
                  clear x16
                  go_wp2_with fail
                  obtain ⟨g16, hg_⟩ : ∃ g, w14_.heap.size = g := ⟨_, rfl⟩
                  obtain ⟨w15_, hU_, b16, HK16, Lq16⟩ : ∃ U, w14_.alloc (.cells #[.slice A16 H16.length c16, .slice B16 L16.length d16] 24) = U ∧ After w14_ U ∧ Hid (∀ V, After U V → V.cell? ⟨g16, 0, none⟩ = some (.slice A16 H16.length c16) ∧ V.cell? ⟨g16, 1, none⟩ = some (.slice B16 L16.length d16)) ∧ Le (g16 + 1) U := by
                    refine ⟨_, rfl, inferInstance, fun V k_ => ?_, ⟨by rw [← hg_]; simp⟩⟩
                    have f_ := (Blk.new w14_ 24 #[.slice A16 H16.length c16, .slice B16 L16.length d16]).after (w' := V)
                    rw [hg_] at f_
                    exact ⟨by rw [f_.cell]; rfl, by rw [f_.cell]; rfl⟩
                  rw [hU_, hg_]
                  clear hU_ hg_
                  have a0_w15_ : After (((w.alloc (.cells #[.slice A h.length c, .slice B l.length d] 24)).alloc (.cells #[.slice A' h'.length c', .slice B' l'.length d'] 24)).alloc (.cells #[.slice A2 h2.length c2, .slice B2 l2.length d2] 24)) w15_ := after_after a0_w14_ b16
                  have l00_w15_ : Le (w.heap.size + 1) w15_ := ⟨by have := a0_w15_.below.size; simp at this; omega⟩
                  have l01_w15_ : Le (w.heap.size + 1 + 1) w15_ := ⟨by have := a0_w15_.below.size; simp at this; omega⟩
                  have l02_w15_ : Le (w.heap.size + 1 + 1 + 1) w15_ := ⟨by have := a0_w15_.below.size; simp at this; omega⟩
                  have h0_w15_ := HK.out w15_ a0_w15_
                  have a7_w15_ : After w5_ w15_ := after_after a7_w14_ b16
                  have l70_w15_ : Le (g7 + 1) w15_ := ⟨Nat.le_trans Lq7.le a7_w15_.below.size⟩
                  have h7_w15_ := HK7.out w15_ a7_w15_
                  have a8_w15_ : After w7_ w15_ := after_after a8_w14_ b16
                  have l80_w15_ : Le (g8 + 1) w15_ := ⟨Nat.le_trans Lq8.le a8_w15_.below.size⟩
                  have h8_w15_ := HK8.out w15_ a8_w15_
                  have a10_w15_ : After w9_ w15_ := after_after a10_w14_ b16
                  have l100_w15_ : Le (g10 + 1) w15_ := ⟨Nat.le_trans Lq10.le a10_w15_.below.size⟩
                  have h10_w15_ := HK10.out w15_ a10_w15_
                  have a12_w15_ : After w11_ w15_ := after_after a12_w14_ b16
                  have l120_w15_ : Le (g12 + 1) w15_ := ⟨Nat.le_trans Lq12.le a12_w15_.below.size⟩
                  have h12_w15_ := HK12.out w15_ a12_w15_
                  have a14_w15_ : After w13_ w15_ := after_after a14_w14_ b16
                  have l140_w15_ : Le (g14 + 1) w15_ := ⟨Nat.le_trans Lq14.le a14_w15_.below.size⟩
                  have h14_w15_ := HK14.out w15_ a14_w15_
                  have aw_w15_ : After w w15_ := after_after inferInstance a0_w15_
                  have a16_w15_ : After w15_ w15_ := inferInstance
                  have h16_w15_ := HK16.out w15_ a16_w15_
                  replace X16 := Lib.hid (X16.out.here w15_)
                  have G18 := on_v (x.here w15_) (X14.out.here w15_) e18.out
                  refine (GivesW.on G18 _ (after_after a16_w15_ inferInstance)).mono ?_
                  rintro e w16_ ⟨A18, c18, B18, d18, rfl, x18, hy⟩
                  have a0_w16_ : After (((w.alloc (.cells #[.slice A h.length c, .slice B l.length d] 24)).alloc (.cells #[.slice A' h'.length c', .slice B' l'.length d'] 24)).alloc (.cells #[.slice A2 h2.length c2, .slice B2 l2.length d2] 24)) w16_ := after_of_more hy (after_after a0_w15_ inferInstance)
                  have l00_w16_ : Le (w.heap.size + 1) w16_ := ⟨by have := a0_w16_.below.size; simp at this; omega⟩
                  have l01_w16_ : Le (w.heap.size + 1 + 1) w16_ := ⟨by have := a0_w16_.below.size; simp at this; omega⟩
                  have l02_w16_ : Le (w.heap.size + 1 + 1 + 1) w16_ := ⟨by have := a0_w16_.below.size; simp at this; omega⟩
                  have h0_w16_ := HK.out w16_ a0_w16_
                  have a7_w16_ : After w5_ w16_ := after_of_more hy (after_after a7_w15_ inferInstance)
                  have l70_w16_ : Le (g7 + 1) w16_ := ⟨Nat.le_trans Lq7.le a7_w16_.below.size⟩
                  have h7_w16_ := HK7.out w16_ a7_w16_
                  have a8_w16_ : After w7_ w16_ := after_of_more hy (after_after a8_w15_ inferInstance)
                  have l80_w16_ : Le (g8 + 1) w16_ := ⟨Nat.le_trans Lq8.le a8_w16_.below.size⟩
                  have h8_w16_ := HK8.out w16_ a8_w16_
                  have a10_w16_ : After w9_ w16_ := after_of_more hy (after_after a10_w15_ inferInstance)
                  have l100_w16_ : Le (g10 + 1) w16_ := ⟨Nat.le_trans Lq10.le a10_w16_.below.size⟩
                  have h10_w16_ := HK10.out w16_ a10_w16_
                  have a12_w16_ : After w11_ w16_ := after_of_more hy (after_after a12_w15_ inferInstance)
                  have l120_w16_ : Le (g12 + 1) w16_ := ⟨Nat.le_trans Lq12.le a12_w16_.below.size⟩
                  have h12_w16_ := HK12.out w16_ a12_w16_
                  have a14_w16_ : After w13_ w16_ := after_of_more hy (after_after a14_w15_ inferInstance)
                  have l140_w16_ : Le (g14 + 1) w16_ := ⟨Nat.le_trans Lq14.le a14_w16_.below.size⟩
                  have h14_w16_ := HK14.out w16_ a14_w16_
                  have a16_w16_ : After w15_ w16_ := after_of_more hy (after_after a16_w15_ inferInstance)
                  have l160_w16_ : Le (g16 + 1) w16_ := ⟨Nat.le_trans Lq16.le a16_w16_.below.size⟩
                  have h16_w16_ := HK16.out w16_ a16_w16_
                  have aw_w16_ : After w w16_ := after_after inferInstance a0_w16_
                  clear hy
                  have X18 := Lib.hid x18
                  clear x18
                  go_wp2_with fail
                  obtain ⟨g18, hg_⟩ : ∃ g, w16_.heap.size = g := ⟨_, rfl⟩
                  obtain ⟨w17_, hU_, b18, HK18, Lq18⟩ : ∃ U, w16_.alloc (.cells #[.slice A18 H18.length c18, .slice B18 L18.length d18] 24) = U ∧ After w16_ U ∧ Hid (∀ V, After U V → V.cell? ⟨g18, 0, none⟩ = some (.slice A18 H18.length c18) ∧ V.cell? ⟨g18, 1, none⟩ = some (.slice B18 L18.length d18)) ∧ Le (g18 + 1) U := by
                    refine ⟨_, rfl, inferInstance, fun V k_ => ?_, ⟨by rw [← hg_]; simp⟩⟩
                    have f_ := (Blk.new w16_ 24 #[.slice A18 H18.length c18, .slice B18 L18.length d18]).after (w' := V)
                    rw [hg_] at f_
                    exact ⟨by rw [f_.cell]; rfl, by rw [f_.cell]; rfl⟩
                  rw [hU_, hg_]
                  clear hU_ hg_
                  have a0_w17_ : After (((w.alloc (.cells #[.slice A h.length c, .slice B l.length d] 24)).alloc (.cells #[.slice A' h'.length c', .slice B' l'.length d'] 24)).alloc (.cells #[.slice A2 h2.length c2, .slice B2 l2.length d2] 24)) w17_ := after_after a0_w16_ b18
                  have l00_w17_ : Le (w.heap.size + 1) w17_ := ⟨by have := a0_w17_.below.size; simp at this; omega⟩
                  have l01_w17_ : Le (w.heap.size + 1 + 1) w17_ := ⟨by have := a0_w17_.below.size; simp at this; omega⟩
                  have l02_w17_ : Le (w.heap.size + 1 + 1 + 1) w17_ := ⟨by have := a0_w17_.below.size; simp at this; omega⟩
                  have h0_w17_ := HK.out w17_ a0_w17_
                  have a7_w17_ : After w5_ w17_ := after_after a7_w16_ b18
                  have l70_w17_ : Le (g7 + 1) w17_ := ⟨Nat.le_trans Lq7.le a7_w17_.below.size⟩
                  have h7_w17_ := HK7.out w17_ a7_w17_
                  have a8_w17_ : After w7_ w17_ := after_after a8_w16_ b18
                  have l80_w17_ : Le (g8 + 1) w17_ := ⟨Nat.le_trans Lq8.le a8_w17_.below.size⟩
                  have h8_w17_ := HK8.out w17_ a8_w17_
                  have a10_w17_ : After w9_ w17_ := after_after a10_w16_ b18
                  have l100_w17_ : Le (g10 + 1) w17_ := ⟨Nat.le_trans Lq10.le a10_w17_.below.size⟩
                  have h10_w17_ := HK10.out w17_ a10_w17_
                  have a12_w17_ : After w11_ w17_ := after_after a12_w16_ b18
                  have l120_w17_ : Le (g12 + 1) w17_ := ⟨Nat.le_trans Lq12.le a12_w17_.below.size⟩
                  have h12_w17_ := HK12.out w17_ a12_w17_
                  have a14_w17_ : After w13_ w17_ := after_after a14_w16_ b18
                  have l140_w17_ : Le (g14 + 1) w17_ := ⟨Nat.le_trans Lq14.le a14_w17_.below.size⟩
                  have h14_w17_ := HK14.out w17_ a14_w17_
                  have a16_w17_ : After w15_ w17_ := after_after a16_w16_ b18
                  have l160_w17_ : Le (g16 + 1) w17_ := ⟨Nat.le_trans Lq16.le a16_w17_.below.size⟩
                  have h16_w17_ := HK16.out w17_ a16_w17_
                  have aw_w17_ : After w w17_ := after_after inferInstance a0_w17_
                  have a18_w17_ : After w17_ w17_ := inferInstance
                  have h18_w17_ := HK18.out w17_ a18_w17_
                  replace X18 := Lib.hid (X18.out.here w17_)
                  refine (Gives.on GA _ (after_after aw_w17_ inferInstance)).mono ?_
                  rintro e w18_ ⟨rfl, hy⟩
                  have a0_w18_ : After (((w.alloc (.cells #[.slice A h.length c, .slice B l.length d] 24)).alloc (.cells #[.slice A' h'.length c', .slice B' l'.length d'] 24)).alloc (.cells #[.slice A2 h2.length c2, .slice B2 l2.length d2] 24)) w18_ := after_of_more hy (after_after a0_w17_ inferInstance)
                  have l00_w18_ : Le (w.heap.size + 1) w18_ := ⟨by have := a0_w18_.below.size; simp at this; omega⟩
                  have l01_w18_ : Le (w.heap.size + 1 + 1) w18_ := ⟨by have := a0_w18_.below.size; simp at this; omega⟩
                  have l02_w18_ : Le (w.heap.size + 1 + 1 + 1) w18_ := ⟨by have := a0_w18_.below.size; simp at this; omega⟩
                  have h0_w18_ := HK.out w18_ a0_w18_
                  have a7_w18_ : After w5_ w18_ := after_of_more hy (after_after a7_w17_ inferInstance)
                  have l70_w18_ : Le (g7 + 1) w18_ := ⟨Nat.le_trans Lq7.le a7_w18_.below.size⟩
                  have h7_w18_ := HK7.out w18_ a7_w18_
                  have a8_w18_ : After w7_ w18_ := after_of_more hy (after_after a8_w17_ inferInstance)
                  have l80_w18_ : Le (g8 + 1) w18_ := ⟨Nat.le_trans Lq8.le a8_w18_.below.size⟩
                  have h8_w18_ := HK8.out w18_ a8_w18_
                  have a10_w18_ : After w9_ w18_ := after_of_more hy (after_after a10_w17_ inferInstance)
                  have l100_w18_ : Le (g10 + 1) w18_ := ⟨Nat.le_trans Lq10.le a10_w18_.below.size⟩
                  have h10_w18_ := HK10.out w18_ a10_w18_
                  have a12_w18_ : After w11_ w18_ := after_of_more hy (after_after a12_w17_ inferInstance)
                  have l120_w18_ : Le (g12 + 1) w18_ := ⟨Nat.le_trans Lq12.le a12_w18_.below.size⟩
                  have h12_w18_ := HK12.out w18_ a12_w18_
                  have a14_w18_ : After w13_ w18_ := after_of_more hy (after_after a14_w17_ inferInstance)
                  have l140_w18_ : Le (g14 + 1) w18_ := ⟨Nat.le_trans Lq14.le a14_w18_.below.size⟩
                  have h14_w18_ := HK14.out w18_ a14_w18_
                  have a16_w18_ : After w15_ w18_ := after_of_more hy (after_after a16_w17_ inferInstance)
                  have l160_w18_ : Le (g16 + 1) w18_ := ⟨Nat.le_trans Lq16.le a16_w18_.below.size⟩
                  have h16_w18_ := HK16.out w18_ a16_w18_
                  have a18_w18_ : After w17_ w18_ := after_of_more hy (after_after a18_w17_ inferInstance)
                  have l180_w18_ : Le (g18 + 1) w18_ := ⟨Nat.le_trans Lq18.le a18_w18_.below.size⟩
                  have h18_w18_ := HK18.out w18_ a18_w18_
                  have aw_w18_ : After w w18_ := after_after inferInstance a0_w18_
                  clear hy
                  go_wp2_with fail
                  go_ret
                  exact ⟨rfl, @After.is_more w _ (after_after aw_w18_ inferInstance)⟩
              · obtain ⟨H18, L18, e4, e18⟩ : ∃ H L e, onW h l H14 L14 = ((H, L), e) := ⟨_, _, _, rfl⟩
                replace e16 := Lib.hid e16
                replace e18 := Lib.hid e18
                clear e12 e14 n12 t12 n14 t14 v12 v14 hv hv' hv2
                go_enter Try.func4, Try.ntmps4
                go_wp2_with fail
                refine (Gives.on G1 _ inferInstance).mono ?_
                rintro e w1_ ⟨rfl, hy⟩
                have a0_w1_ : After (((w.alloc (.cells #[.slice A h.length c, .slice B l.length d] 24)).alloc (.cells #[.slice A' h'.length c', .slice B' l'.length d'] 24)).alloc (.cells #[.slice A2 h2.length c2, .slice B2 l2.length d2] 24)) w1_ := after_of_more hy inferInstance
                have l00_w1_ : Le (w.heap.size + 1) w1_ := ⟨by have := a0_w1_.below.size; simp at this; omega⟩
                have l01_w1_ : Le (w.heap.size + 1 + 1) w1_ := ⟨by have := a0_w1_.below.size; simp at this; omega⟩
                have l02_w1_ : Le (w.heap.size + 1 + 1 + 1) w1_ := ⟨by have := a0_w1_.below.size; simp at this; omega⟩
                have h0_w1_ := HK.out w1_ a0_w1_
                have aw_w1_ : After w w1_ := after_after inferInstance a0_w1_
                clear hy
                go_wp2_with fail
                refine (Gives.on G2 _ (after_after aw_w1_ inferInstance)).mono ?_
                rintro e w2_ ⟨rfl, hy⟩
                have a0_w2_ : After (((w.alloc (.cells #[.slice A h.length c, .slice B l.length d] 24)).alloc (.cells #[.slice A' h'.length c', .slice B' l'.length d'] 24)).alloc (.cells #[.slice A2 h2.length c2, .slice B2 l2.length d2] 24)) w2_ := after_of_more hy (after_after a0_w1_ inferInstance)
                have l00_w2_ : Le (w.heap.size + 1) w2_ := ⟨by have := a0_w2_.below.size; simp at this; omega⟩
                have l01_w2_ : Le (w.heap.size + 1 + 1) w2_ := ⟨by have := a0_w2_.below.size; simp at this; omega⟩
                have l02_w2_ : Le (w.heap.size + 1 + 1 + 1) w2_ := ⟨by have := a0_w2_.below.size; simp at this; omega⟩
                have h0_w2_ := HK.out w2_ a0_w2_
                have aw_w2_ : After w w2_ := after_after inferInstance a0_w2_
                clear hy
                go_wp2_with fail
                refine (Gives.on G6 _ (after_after aw_w2_ inferInstance)).mono ?_
                rintro e w3_ ⟨rfl, hy⟩
                have a0_w3_ : After (((w.alloc (.cells #[.slice A h.length c, .slice B l.length d] 24)).alloc (.cells #[.slice A' h'.length c', .slice B' l'.length d'] 24)).alloc (.cells #[.slice A2 h2.length c2, .slice B2 l2.length d2] 24)) w3_ := after_of_more hy (after_after a0_w2_ inferInstance)
                have l00_w3_ : Le (w.heap.size + 1) w3_ := ⟨by have := a0_w3_.below.size; simp at this; omega⟩
                have l01_w3_ : Le (w.heap.size + 1 + 1) w3_ := ⟨by have := a0_w3_.below.size; simp at this; omega⟩
                have l02_w3_ : Le (w.heap.size + 1 + 1 + 1) w3_ := ⟨by have := a0_w3_.below.size; simp at this; omega⟩
                have h0_w3_ := HK.out w3_ a0_w3_
                have aw_w3_ : After w w3_ := after_after inferInstance a0_w3_
                clear hy
                go_wp2_with fail
                refine (GivesW.on GW _ (after_after aw_w3_ inferInstance)).mono ?_
                rintro e w4_ ⟨A7, c7, B7, d7, rfl, x7, hy⟩
                have a0_w4_ : After (((w.alloc (.cells #[.slice A h.length c, .slice B l.length d] 24)).alloc (.cells #[.slice A' h'.length c', .slice B' l'.length d'] 24)).alloc (.cells #[.slice A2 h2.length c2, .slice B2 l2.length d2] 24)) w4_ := after_of_more hy (after_after a0_w3_ inferInstance)
                have l00_w4_ : Le (w.heap.size + 1) w4_ := ⟨by have := a0_w4_.below.size; simp at this; omega⟩
                have l01_w4_ : Le (w.heap.size + 1 + 1) w4_ := ⟨by have := a0_w4_.below.size; simp at this; omega⟩
                have l02_w4_ : Le (w.heap.size + 1 + 1 + 1) w4_ := ⟨by have := a0_w4_.below.size; simp at this; omega⟩
                have h0_w4_ := HK.out w4_ a0_w4_
                have aw_w4_ : After w w4_ := after_after inferInstance a0_w4_
                clear hy
                have X7 := Lib.hid x7
                clear x7
                go_wp2_with fail
                obtain ⟨g7, hg_⟩ : ∃ g, w4_.heap.size = g := ⟨_, rfl⟩
                obtain ⟨w5_, hU_, b7, HK7, Lq7⟩ : ∃ U, w4_.alloc (.cells #[.slice A7 O.length c7, .slice B7 I.length d7] 24) = U ∧ After w4_ U ∧ Hid (∀ V, After U V → V.cell? ⟨g7, 0, none⟩ = some (.slice A7 O.length c7) ∧ V.cell? ⟨g7, 1, none⟩ = some (.slice B7 I.length d7)) ∧ Le (g7 + 1) U := by
                  refine ⟨_, rfl, inferInstance, fun V k_ => ?_, ⟨by rw [← hg_]; simp⟩⟩
                  have f_ := (Blk.new w4_ 24 #[.slice A7 O.length c7, .slice B7 I.length d7]).after (w' := V)
                  rw [hg_] at f_
                  exact ⟨by rw [f_.cell]; rfl, by rw [f_.cell]; rfl⟩
                rw [hU_, hg_]
                clear hU_ hg_
                have a0_w5_ : After (((w.alloc (.cells #[.slice A h.length c, .slice B l.length d] 24)).alloc (.cells #[.slice A' h'.length c', .slice B' l'.length d'] 24)).alloc (.cells #[.slice A2 h2.length c2, .slice B2 l2.length d2] 24)) w5_ := after_after a0_w4_ b7
                have l00_w5_ : Le (w.heap.size + 1) w5_ := ⟨by have := a0_w5_.below.size; simp at this; omega⟩
                have l01_w5_ : Le (w.heap.size + 1 + 1) w5_ := ⟨by have := a0_w5_.below.size; simp at this; omega⟩
                have l02_w5_ : Le (w.heap.size + 1 + 1 + 1) w5_ := ⟨by have := a0_w5_.below.size; simp at this; omega⟩
                have h0_w5_ := HK.out w5_ a0_w5_
                have aw_w5_ : After w w5_ := after_after inferInstance a0_w5_
                have a7_w5_ : After w5_ w5_ := inferInstance
                have h7_w5_ := HK7.out w5_ a7_w5_
                replace X7 := Lib.hid (X7.out.here w5_)
                have G8 := on_v (x.here w5_) X7.out e8.out
                refine (GivesW.on G8 _ (after_after a7_w5_ inferInstance)).mono ?_
                rintro e w6_ ⟨A8, c8, B8, d8, rfl, x8, hy⟩
                have a0_w6_ : After (((w.alloc (.cells #[.slice A h.length c, .slice B l.length d] 24)).alloc (.cells #[.slice A' h'.length c', .slice B' l'.length d'] 24)).alloc (.cells #[.slice A2 h2.length c2, .slice B2 l2.length d2] 24)) w6_ := after_of_more hy (after_after a0_w5_ inferInstance)
                have l00_w6_ : Le (w.heap.size + 1) w6_ := ⟨by have := a0_w6_.below.size; simp at this; omega⟩
                have l01_w6_ : Le (w.heap.size + 1 + 1) w6_ := ⟨by have := a0_w6_.below.size; simp at this; omega⟩
                have l02_w6_ : Le (w.heap.size + 1 + 1 + 1) w6_ := ⟨by have := a0_w6_.below.size; simp at this; omega⟩
                have h0_w6_ := HK.out w6_ a0_w6_
                have a7_w6_ : After w5_ w6_ := after_of_more hy (after_after a7_w5_ inferInstance)
                have l70_w6_ : Le (g7 + 1) w6_ := ⟨Nat.le_trans Lq7.le a7_w6_.below.size⟩
                have h7_w6_ := HK7.out w6_ a7_w6_
                have aw_w6_ : After w w6_ := after_after inferInstance a0_w6_
                clear hy
                have X8 := Lib.hid x8
                clear x8
                go_wp2_with fail
                obtain ⟨g8, hg_⟩ : ∃ g, w6_.heap.size = g := ⟨_, rfl⟩
                obtain ⟨w7_, hU_, b8, HK8, Lq8⟩ : ∃ U, w6_.alloc (.cells #[.slice A8 H8.length c8, .slice B8 L8.length d8] 24) = U ∧ After w6_ U ∧ Hid (∀ V, After U V → V.cell? ⟨g8, 0, none⟩ = some (.slice A8 H8.length c8) ∧ V.cell? ⟨g8, 1, none⟩ = some (.slice B8 L8.length d8)) ∧ Le (g8 + 1) U := by
                  refine ⟨_, rfl, inferInstance, fun V k_ => ?_, ⟨by rw [← hg_]; simp⟩⟩
                  have f_ := (Blk.new w6_ 24 #[.slice A8 H8.length c8, .slice B8 L8.length d8]).after (w' := V)
                  rw [hg_] at f_
                  exact ⟨by rw [f_.cell]; rfl, by rw [f_.cell]; rfl⟩
                rw [hU_, hg_]
                clear hU_ hg_
                have a0_w7_ : After (((w.alloc (.cells #[.slice A h.length c, .slice B l.length d] 24)).alloc (.cells #[.slice A' h'.length c', .slice B' l'.length d'] 24)).alloc (.cells #[.slice A2 h2.length c2, .slice B2 l2.length d2] 24)) w7_ := after_after a0_w6_ b8
                have l00_w7_ : Le (w.heap.size + 1) w7_ := ⟨by have := a0_w7_.below.size; simp at this; omega⟩
                have l01_w7_ : Le (w.heap.size + 1 + 1) w7_ := ⟨by have := a0_w7_.below.size; simp at this; omega⟩
                have l02_w7_ : Le (w.heap.size + 1 + 1 + 1) w7_ := ⟨by have := a0_w7_.below.size; simp at this; omega⟩
                have h0_w7_ := HK.out w7_ a0_w7_
                have a7_w7_ : After w5_ w7_ := after_after a7_w6_ b8
                have l70_w7_ : Le (g7 + 1) w7_ := ⟨Nat.le_trans Lq7.le a7_w7_.below.size⟩
                have h7_w7_ := HK7.out w7_ a7_w7_
                have aw_w7_ : After w w7_ := after_after inferInstance a0_w7_
                have a8_w7_ : After w7_ w7_ := inferInstance
                have h8_w7_ := HK8.out w7_ a8_w7_
                replace X8 := Lib.hid (X8.out.here w7_)
                have G10 := on_v (X7.out.here w7_) (x.here w7_) e10.out
                refine (GivesW.on G10 _ (after_after a8_w7_ inferInstance)).mono ?_
                rintro e w8_ ⟨A10, c10, B10, d10, rfl, x10, hy⟩
                have a0_w8_ : After (((w.alloc (.cells #[.slice A h.length c, .slice B l.length d] 24)).alloc (.cells #[.slice A' h'.length c', .slice B' l'.length d'] 24)).alloc (.cells #[.slice A2 h2.length c2, .slice B2 l2.length d2] 24)) w8_ := after_of_more hy (after_after a0_w7_ inferInstance)
                have l00_w8_ : Le (w.heap.size + 1) w8_ := ⟨by have := a0_w8_.below.size; simp at this; omega⟩
                have l01_w8_ : Le (w.heap.size + 1 + 1) w8_ := ⟨by have := a0_w8_.below.size; simp at this; omega⟩
                have l02_w8_ : Le (w.heap.size + 1 + 1 + 1) w8_ := ⟨by have := a0_w8_.below.size; simp at this; omega⟩
                have h0_w8_ := HK.out w8_ a0_w8_
                have a7_w8_ : After w5_ w8_ := after_of_more hy (after_after a7_w7_ inferInstance)
                have l70_w8_ : Le (g7 + 1) w8_ := ⟨Nat.le_trans Lq7.le a7_w8_.below.size⟩
                have h7_w8_ := HK7.out w8_ a7_w8_
                have a8_w8_ : After w7_ w8_ := after_of_more hy (after_after a8_w7_ inferInstance)
                have l80_w8_ : Le (g8 + 1) w8_ := ⟨Nat.le_trans Lq8.le a8_w8_.below.size⟩
                have h8_w8_ := HK8.out w8_ a8_w8_
                have aw_w8_ : After w w8_ := after_after inferInstance a0_w8_
                clear hy
                have X10 := Lib.hid x10
                clear x10
                go_wp2_with fail
                obtain ⟨g10, hg_⟩ : ∃ g, w8_.heap.size = g := ⟨_, rfl⟩
                obtain ⟨w9_, hU_, b10, HK10, Lq10⟩ : ∃ U, w8_.alloc (.cells #[.slice A10 H8.length c10, .slice B10 L8.length d10] 24) = U ∧ After w8_ U ∧ Hid (∀ V, After U V → V.cell? ⟨g10, 0, none⟩ = some (.slice A10 H8.length c10) ∧ V.cell? ⟨g10, 1, none⟩ = some (.slice B10 L8.length d10)) ∧ Le (g10 + 1) U := by
                  refine ⟨_, rfl, inferInstance, fun V k_ => ?_, ⟨by rw [← hg_]; simp⟩⟩
                  have f_ := (Blk.new w8_ 24 #[.slice A10 H8.length c10, .slice B10 L8.length d10]).after (w' := V)
                  rw [hg_] at f_
                  exact ⟨by rw [f_.cell]; rfl, by rw [f_.cell]; rfl⟩
                rw [hU_, hg_]
                clear hU_ hg_
                have a0_w9_ : After (((w.alloc (.cells #[.slice A h.length c, .slice B l.length d] 24)).alloc (.cells #[.slice A' h'.length c', .slice B' l'.length d'] 24)).alloc (.cells #[.slice A2 h2.length c2, .slice B2 l2.length d2] 24)) w9_ := after_after a0_w8_ b10
                have l00_w9_ : Le (w.heap.size + 1) w9_ := ⟨by have := a0_w9_.below.size; simp at this; omega⟩
                have l01_w9_ : Le (w.heap.size + 1 + 1) w9_ := ⟨by have := a0_w9_.below.size; simp at this; omega⟩
                have l02_w9_ : Le (w.heap.size + 1 + 1 + 1) w9_ := ⟨by have := a0_w9_.below.size; simp at this; omega⟩
                have h0_w9_ := HK.out w9_ a0_w9_
                have a7_w9_ : After w5_ w9_ := after_after a7_w8_ b10
                have l70_w9_ : Le (g7 + 1) w9_ := ⟨Nat.le_trans Lq7.le a7_w9_.below.size⟩
                have h7_w9_ := HK7.out w9_ a7_w9_
                have a8_w9_ : After w7_ w9_ := after_after a8_w8_ b10
                have l80_w9_ : Le (g8 + 1) w9_ := ⟨Nat.le_trans Lq8.le a8_w9_.below.size⟩
                have h8_w9_ := HK8.out w9_ a8_w9_
                have aw_w9_ : After w w9_ := after_after inferInstance a0_w9_
                have a10_w9_ : After w9_ w9_ := inferInstance
                have h10_w9_ := HK10.out w9_ a10_w9_
                replace X10 := Lib.hid (X10.out.here w9_)
                have q0_s := a0_w9_
                have q10_s : After w9_ w9_ := inferInstance
                have qw : ∀ V, After w9_ V → After w V := fun V k => after_after aw_w9_ k
                have q8 : ∀ V, After w9_ V → After w7_ V := fun V k => after_after a8_w9_ k
                have tk1 : True := trivial
                have tk2 : True := trivial
                have tk3 : True := trivial
                have tk4 : True := trivial
                go_region_held3 (fun V => (V.cell? ⟨w.heap.size, 0, none⟩ = some (.slice A h.length c) ∧ V.cell? ⟨w.heap.size, 1, none⟩ = some (.slice B l.length d)) ∧ (V.cell? ⟨g8, 0, none⟩ = some (.slice A8 H8.length c8) ∧ V.cell? ⟨g8, 1, none⟩ = some (.slice B8 L8.length d8)) ∧ V.cell? ⟨g10, 0, none⟩ = some (.slice A10 H8.length c10) ∧ V.cell? ⟨g10, 1, none⟩ = some (.slice B10 L8.length d10)) (exact ⟨⟨(HK.out _ inferInstance).1, (HK.out _ inferInstance).2.1⟩, HK8.out _ (q8 _ inferInstance), HK10.out _ inferInstance⟩)
                  (first
                  | (have _t := tk1; go_at_call 19; (with_reducible refine (Gives.on GC _ (qw _ inferInstance)).mono ?_); rintro e v1 ⟨rfl, hy⟩; have q0_v1 : After (((w.alloc (.cells #[.slice A h.length c, .slice B l.length d] 24)).alloc (.cells #[.slice A' h'.length c', .slice B' l'.length d'] 24)).alloc (.cells #[.slice A2 h2.length c2, .slice B2 l2.length d2] 24)) v1 := after_of_more hy (after_after q0_s inferInstance); have q10_v1 : After w9_ v1 := after_of_more hy (after_after q10_s inferInstance); clear hy _t tk1)
                  | (have _t := tk2; go_at_call 20; (with_reducible refine (GivesW.on GN _ (qw _ (after_after q10_v1 inferInstance))).mono ?_); rintro e v2 ⟨A5, c5, B5, d5, rfl, x5, hy⟩; have q0_v2 : After (((w.alloc (.cells #[.slice A h.length c, .slice B l.length d] 24)).alloc (.cells #[.slice A' h'.length c', .slice B' l'.length d'] 24)).alloc (.cells #[.slice A2 h2.length c2, .slice B2 l2.length d2] 24)) v2 := after_of_more hy (after_after q0_v1 inferInstance); have q10_v2 : After w9_ v2 := after_of_more hy (after_after q10_v1 inferInstance); have E1 := equal_v ((X8.out.here w9_).here v2) x5 (v := true) (by simp); clear hy _t tk2)
                  | (have _t := tk3; go_at_call 16; (with_reducible refine (Gives.on E1 _ inferInstance).mono ?_); rintro e v3 ⟨rfl, hy⟩; have q0_v3 : After (((w.alloc (.cells #[.slice A h.length c, .slice B l.length d] 24)).alloc (.cells #[.slice A' h'.length c', .slice B' l'.length d'] 24)).alloc (.cells #[.slice A2 h2.length c2, .slice B2 l2.length d2] 24)) v3 := after_of_more hy (after_after q0_v2 inferInstance); have q10_v3 : After w9_ v3 := after_of_more hy (after_after q10_v2 inferInstance); have E2 := equal_v ((X8.out.here w9_).here v3) (X10.out.here v3) (v := true) (by simp); clear hy _t tk3)
                  | (have _t := tk4; go_at_call 16; (with_reducible refine (Gives.on E2 _ inferInstance).mono ?_); rintro e v4 ⟨rfl, hy⟩; have q0_v4 : After (((w.alloc (.cells #[.slice A h.length c, .slice B l.length d] 24)).alloc (.cells #[.slice A' h'.length c', .slice B' l'.length d'] 24)).alloc (.cells #[.slice A2 h2.length c2, .slice B2 l2.length d2] 24)) v4 := after_of_more hy (after_after q0_v3 inferInstance); have q10_v4 : After w9_ v4 := after_of_more hy (after_after q10_v3 inferInstance); clear hy _t tk4))
                have hy : ∃ y, v4 = v4.more y := more_self v4
                clear hy
                have a0_v4 : After (((w.alloc (.cells #[.slice A h.length c, .slice B l.length d] 24)).alloc (.cells #[.slice A' h'.length c', .slice B' l'.length d'] 24)).alloc (.cells #[.slice A2 h2.length c2, .slice B2 l2.length d2] 24)) v4 := after_after a0_w9_ q10_v4
                have l00_v4 : Le (w.heap.size + 1) v4 := ⟨by have := a0_v4.below.size; simp at this; omega⟩
                have l01_v4 : Le (w.heap.size + 1 + 1) v4 := ⟨by have := a0_v4.below.size; simp at this; omega⟩
                have l02_v4 : Le (w.heap.size + 1 + 1 + 1) v4 := ⟨by have := a0_v4.below.size; simp at this; omega⟩
                have h0_v4 := HK.out v4 a0_v4
                have a7_v4 : After w5_ v4 := after_after a7_w9_ q10_v4
                have l70_v4 : Le (g7 + 1) v4 := ⟨Nat.le_trans Lq7.le a7_v4.below.size⟩
                have h7_v4 := HK7.out v4 a7_v4
                have a8_v4 : After w7_ v4 := after_after a8_w9_ q10_v4
                have l80_v4 : Le (g8 + 1) v4 := ⟨Nat.le_trans Lq8.le a8_v4.below.size⟩
                have h8_v4 := HK8.out v4 a8_v4
                have a10_v4 : After w9_ v4 := after_after a10_w9_ q10_v4
                have l100_v4 : Le (g10 + 1) v4 := ⟨Nat.le_trans Lq10.le a10_v4.below.size⟩
                have h10_v4 := HK10.out v4 a10_v4
                have aw_v4 : After w v4 := after_after inferInstance a0_v4
                go_wp2_with fail
                refine (GivesW.on G12 _ (after_after aw_v4 inferInstance)).mono ?_
                rintro e w10_ ⟨A12, c12, B12, d12, rfl, x12, hy⟩
                have a0_w10_ : After (((w.alloc (.cells #[.slice A h.length c, .slice B l.length d] 24)).alloc (.cells #[.slice A' h'.length c', .slice B' l'.length d'] 24)).alloc (.cells #[.slice A2 h2.length c2, .slice B2 l2.length d2] 24)) w10_ := after_of_more hy (after_after a0_v4 inferInstance)
                have l00_w10_ : Le (w.heap.size + 1) w10_ := ⟨by have := a0_w10_.below.size; simp at this; omega⟩
                have l01_w10_ : Le (w.heap.size + 1 + 1) w10_ := ⟨by have := a0_w10_.below.size; simp at this; omega⟩
                have l02_w10_ : Le (w.heap.size + 1 + 1 + 1) w10_ := ⟨by have := a0_w10_.below.size; simp at this; omega⟩
                have h0_w10_ := HK.out w10_ a0_w10_
                have a7_w10_ : After w5_ w10_ := after_of_more hy (after_after a7_v4 inferInstance)
                have l70_w10_ : Le (g7 + 1) w10_ := ⟨Nat.le_trans Lq7.le a7_w10_.below.size⟩
                have h7_w10_ := HK7.out w10_ a7_w10_
                have a8_w10_ : After w7_ w10_ := after_of_more hy (after_after a8_v4 inferInstance)
                have l80_w10_ : Le (g8 + 1) w10_ := ⟨Nat.le_trans Lq8.le a8_w10_.below.size⟩
                have h8_w10_ := HK8.out w10_ a8_w10_
                have a10_w10_ : After w9_ w10_ := after_of_more hy (after_after a10_v4 inferInstance)
                have l100_w10_ : Le (g10 + 1) w10_ := ⟨Nat.le_trans Lq10.le a10_w10_.below.size⟩
                have h10_w10_ := HK10.out w10_ a10_w10_
                have aw_w10_ : After w w10_ := after_after inferInstance a0_w10_
                clear hy
                have X12 := Lib.hid x12
                clear x12
                go_wp2_with fail
                obtain ⟨g12, hg_⟩ : ∃ g, w10_.heap.size = g := ⟨_, rfl⟩
                obtain ⟨w11_, hU_, b12, HK12, Lq12⟩ : ∃ U, w10_.alloc (.cells #[.slice A12 H12.length c12, .slice B12 L12.length d12] 24) = U ∧ After w10_ U ∧ Hid (∀ V, After U V → V.cell? ⟨g12, 0, none⟩ = some (.slice A12 H12.length c12) ∧ V.cell? ⟨g12, 1, none⟩ = some (.slice B12 L12.length d12)) ∧ Le (g12 + 1) U := by
                  refine ⟨_, rfl, inferInstance, fun V k_ => ?_, ⟨by rw [← hg_]; simp⟩⟩
                  have f_ := (Blk.new w10_ 24 #[.slice A12 H12.length c12, .slice B12 L12.length d12]).after (w' := V)
                  rw [hg_] at f_
                  exact ⟨by rw [f_.cell]; rfl, by rw [f_.cell]; rfl⟩
                rw [hU_, hg_]
                clear hU_ hg_
                have a0_w11_ : After (((w.alloc (.cells #[.slice A h.length c, .slice B l.length d] 24)).alloc (.cells #[.slice A' h'.length c', .slice B' l'.length d'] 24)).alloc (.cells #[.slice A2 h2.length c2, .slice B2 l2.length d2] 24)) w11_ := after_after a0_w10_ b12
                have l00_w11_ : Le (w.heap.size + 1) w11_ := ⟨by have := a0_w11_.below.size; simp at this; omega⟩
                have l01_w11_ : Le (w.heap.size + 1 + 1) w11_ := ⟨by have := a0_w11_.below.size; simp at this; omega⟩
                have l02_w11_ : Le (w.heap.size + 1 + 1 + 1) w11_ := ⟨by have := a0_w11_.below.size; simp at this; omega⟩
                have h0_w11_ := HK.out w11_ a0_w11_
                have a7_w11_ : After w5_ w11_ := after_after a7_w10_ b12
                have l70_w11_ : Le (g7 + 1) w11_ := ⟨Nat.le_trans Lq7.le a7_w11_.below.size⟩
                have h7_w11_ := HK7.out w11_ a7_w11_
                have a8_w11_ : After w7_ w11_ := after_after a8_w10_ b12
                have l80_w11_ : Le (g8 + 1) w11_ := ⟨Nat.le_trans Lq8.le a8_w11_.below.size⟩
                have h8_w11_ := HK8.out w11_ a8_w11_
                have a10_w11_ : After w9_ w11_ := after_after a10_w10_ b12
                have l100_w11_ : Le (g10 + 1) w11_ := ⟨Nat.le_trans Lq10.le a10_w11_.below.size⟩
                have h10_w11_ := HK10.out w11_ a10_w11_
                have aw_w11_ : After w w11_ := after_after inferInstance a0_w11_
                have a12_w11_ : After w11_ w11_ := inferInstance
                have h12_w11_ := HK12.out w11_ a12_w11_
                replace X12 := Lib.hid (X12.out.here w11_)
                refine (GivesW.on G14 _ (after_after aw_w11_ inferInstance)).mono ?_
                rintro e w12_ ⟨A14, c14, B14, d14, rfl, x14, hy⟩
                have a0_w12_ : After (((w.alloc (.cells #[.slice A h.length c, .slice B l.length d] 24)).alloc (.cells #[.slice A' h'.length c', .slice B' l'.length d'] 24)).alloc (.cells #[.slice A2 h2.length c2, .slice B2 l2.length d2] 24)) w12_ := after_of_more hy (after_after a0_w11_ inferInstance)
                have l00_w12_ : Le (w.heap.size + 1) w12_ := ⟨by have := a0_w12_.below.size; simp at this; omega⟩
                have l01_w12_ : Le (w.heap.size + 1 + 1) w12_ := ⟨by have := a0_w12_.below.size; simp at this; omega⟩
                have l02_w12_ : Le (w.heap.size + 1 + 1 + 1) w12_ := ⟨by have := a0_w12_.below.size; simp at this; omega⟩
                have h0_w12_ := HK.out w12_ a0_w12_
                have a7_w12_ : After w5_ w12_ := after_of_more hy (after_after a7_w11_ inferInstance)
                have l70_w12_ : Le (g7 + 1) w12_ := ⟨Nat.le_trans Lq7.le a7_w12_.below.size⟩
                have h7_w12_ := HK7.out w12_ a7_w12_
                have a8_w12_ : After w7_ w12_ := after_of_more hy (after_after a8_w11_ inferInstance)
                have l80_w12_ : Le (g8 + 1) w12_ := ⟨Nat.le_trans Lq8.le a8_w12_.below.size⟩
                have h8_w12_ := HK8.out w12_ a8_w12_
                have a10_w12_ : After w9_ w12_ := after_of_more hy (after_after a10_w11_ inferInstance)
                have l100_w12_ : Le (g10 + 1) w12_ := ⟨Nat.le_trans Lq10.le a10_w12_.below.size⟩
                have h10_w12_ := HK10.out w12_ a10_w12_
                have a12_w12_ : After w11_ w12_ := after_of_more hy (after_after a12_w11_ inferInstance)
                have l120_w12_ : Le (g12 + 1) w12_ := ⟨Nat.le_trans Lq12.le a12_w12_.below.size⟩
                have h12_w12_ := HK12.out w12_ a12_w12_
                have aw_w12_ : After w w12_ := after_after inferInstance a0_w12_
                clear hy
                have X14 := Lib.hid x14
                clear x14
                go_wp2_with fail
                obtain ⟨g14, hg_⟩ : ∃ g, w12_.heap.size = g := ⟨_, rfl⟩
                obtain ⟨w13_, hU_, b14, HK14, Lq14⟩ : ∃ U, w12_.alloc (.cells #[.slice A14 H14.length c14, .slice B14 L14.length d14] 24) = U ∧ After w12_ U ∧ Hid (∀ V, After U V → V.cell? ⟨g14, 0, none⟩ = some (.slice A14 H14.length c14) ∧ V.cell? ⟨g14, 1, none⟩ = some (.slice B14 L14.length d14)) ∧ Le (g14 + 1) U := by
                  refine ⟨_, rfl, inferInstance, fun V k_ => ?_, ⟨by rw [← hg_]; simp⟩⟩
                  have f_ := (Blk.new w12_ 24 #[.slice A14 H14.length c14, .slice B14 L14.length d14]).after (w' := V)
                  rw [hg_] at f_
                  exact ⟨by rw [f_.cell]; rfl, by rw [f_.cell]; rfl⟩
                rw [hU_, hg_]
                clear hU_ hg_
                have a0_w13_ : After (((w.alloc (.cells #[.slice A h.length c, .slice B l.length d] 24)).alloc (.cells #[.slice A' h'.length c', .slice B' l'.length d'] 24)).alloc (.cells #[.slice A2 h2.length c2, .slice B2 l2.length d2] 24)) w13_ := after_after a0_w12_ b14
                have l00_w13_ : Le (w.heap.size + 1) w13_ := ⟨by have := a0_w13_.below.size; simp at this; omega⟩
                have l01_w13_ : Le (w.heap.size + 1 + 1) w13_ := ⟨by have := a0_w13_.below.size; simp at this; omega⟩
                have l02_w13_ : Le (w.heap.size + 1 + 1 + 1) w13_ := ⟨by have := a0_w13_.below.size; simp at this; omega⟩
                have h0_w13_ := HK.out w13_ a0_w13_
                have a7_w13_ : After w5_ w13_ := after_after a7_w12_ b14
                have l70_w13_ : Le (g7 + 1) w13_ := ⟨Nat.le_trans Lq7.le a7_w13_.below.size⟩
                have h7_w13_ := HK7.out w13_ a7_w13_
                have a8_w13_ : After w7_ w13_ := after_after a8_w12_ b14
                have l80_w13_ : Le (g8 + 1) w13_ := ⟨Nat.le_trans Lq8.le a8_w13_.below.size⟩
                have h8_w13_ := HK8.out w13_ a8_w13_
                have a10_w13_ : After w9_ w13_ := after_after a10_w12_ b14
                have l100_w13_ : Le (g10 + 1) w13_ := ⟨Nat.le_trans Lq10.le a10_w13_.below.size⟩
                have h10_w13_ := HK10.out w13_ a10_w13_
                have a12_w13_ : After w11_ w13_ := after_after a12_w12_ b14
                have l120_w13_ : Le (g12 + 1) w13_ := ⟨Nat.le_trans Lq12.le a12_w13_.below.size⟩
                have h12_w13_ := HK12.out w13_ a12_w13_
                have aw_w13_ : After w w13_ := after_after inferInstance a0_w13_
                have a14_w13_ : After w13_ w13_ := inferInstance
                have h14_w13_ := HK14.out w13_ a14_w13_
                replace X14 := Lib.hid (X14.out.here w13_)
                have G16 := on_v (X12.out.here w13_) (x2.here w13_) e16.out
                refine (GivesW.on G16 _ (after_after a14_w13_ inferInstance)).mono ?_
                rintro e w14_ ⟨A16, c16, B16, d16, rfl, x16, hy⟩
                have a0_w14_ : After (((w.alloc (.cells #[.slice A h.length c, .slice B l.length d] 24)).alloc (.cells #[.slice A' h'.length c', .slice B' l'.length d'] 24)).alloc (.cells #[.slice A2 h2.length c2, .slice B2 l2.length d2] 24)) w14_ := after_of_more hy (after_after a0_w13_ inferInstance)
                have l00_w14_ : Le (w.heap.size + 1) w14_ := ⟨by have := a0_w14_.below.size; simp at this; omega⟩
                have l01_w14_ : Le (w.heap.size + 1 + 1) w14_ := ⟨by have := a0_w14_.below.size; simp at this; omega⟩
                have l02_w14_ : Le (w.heap.size + 1 + 1 + 1) w14_ := ⟨by have := a0_w14_.below.size; simp at this; omega⟩
                have h0_w14_ := HK.out w14_ a0_w14_
                have a7_w14_ : After w5_ w14_ := after_of_more hy (after_after a7_w13_ inferInstance)
                have l70_w14_ : Le (g7 + 1) w14_ := ⟨Nat.le_trans Lq7.le a7_w14_.below.size⟩
                have h7_w14_ := HK7.out w14_ a7_w14_
                have a8_w14_ : After w7_ w14_ := after_of_more hy (after_after a8_w13_ inferInstance)
                have l80_w14_ : Le (g8 + 1) w14_ := ⟨Nat.le_trans Lq8.le a8_w14_.below.size⟩
                have h8_w14_ := HK8.out w14_ a8_w14_
                have a10_w14_ : After w9_ w14_ := after_of_more hy (after_after a10_w13_ inferInstance)
                have l100_w14_ : Le (g10 + 1) w14_ := ⟨Nat.le_trans Lq10.le a10_w14_.below.size⟩
                have h10_w14_ := HK10.out w14_ a10_w14_
                have a12_w14_ : After w11_ w14_ := after_of_more hy (after_after a12_w13_ inferInstance)
                have l120_w14_ : Le (g12 + 1) w14_ := ⟨Nat.le_trans Lq12.le a12_w14_.below.size⟩
                have h12_w14_ := HK12.out w14_ a12_w14_
                have a14_w14_ : After w13_ w14_ := after_of_more hy (after_after a14_w13_ inferInstance)
                have l140_w14_ : Le (g14 + 1) w14_ := ⟨Nat.le_trans Lq14.le a14_w14_.below.size⟩
                have h14_w14_ := HK14.out w14_ a14_w14_
                have aw_w14_ : After w w14_ := after_after inferInstance a0_w14_
                clear hy
                have X16 := Lib.hid x16
                clear x16
                go_wp2_with fail
                obtain ⟨g16, hg_⟩ : ∃ g, w14_.heap.size = g := ⟨_, rfl⟩
                obtain ⟨w15_, hU_, b16, HK16, Lq16⟩ : ∃ U, w14_.alloc (.cells #[.slice A16 H16.length c16, .slice B16 L16.length d16] 24) = U ∧ After w14_ U ∧ Hid (∀ V, After U V → V.cell? ⟨g16, 0, none⟩ = some (.slice A16 H16.length c16) ∧ V.cell? ⟨g16, 1, none⟩ = some (.slice B16 L16.length d16)) ∧ Le (g16 + 1) U := by
                  refine ⟨_, rfl, inferInstance, fun V k_ => ?_, ⟨by rw [← hg_]; simp⟩⟩
                  have f_ := (Blk.new w14_ 24 #[.slice A16 H16.length c16, .slice B16 L16.length d16]).after (w' := V)
                  rw [hg_] at f_
                  exact ⟨by rw [f_.cell]; rfl, by rw [f_.cell]; rfl⟩
                rw [hU_, hg_]
                clear hU_ hg_
                have a0_w15_ : After (((w.alloc (.cells #[.slice A h.length c, .slice B l.length d] 24)).alloc (.cells #[.slice A' h'.length c', .slice B' l'.length d'] 24)).alloc (.cells #[.slice A2 h2.length c2, .slice B2 l2.length d2] 24)) w15_ := after_after a0_w14_ b16
                have l00_w15_ : Le (w.heap.size + 1) w15_ := ⟨by have := a0_w15_.below.size; simp at this; omega⟩
                have l01_w15_ : Le (w.heap.size + 1 + 1) w15_ := ⟨by have := a0_w15_.below.size; simp at this; omega⟩
                have l02_w15_ : Le (w.heap.size + 1 + 1 + 1) w15_ := ⟨by have := a0_w15_.below.size; simp at this; omega⟩
                have h0_w15_ := HK.out w15_ a0_w15_
                have a7_w15_ : After w5_ w15_ := after_after a7_w14_ b16
                have l70_w15_ : Le (g7 + 1) w15_ := ⟨Nat.le_trans Lq7.le a7_w15_.below.size⟩
                have h7_w15_ := HK7.out w15_ a7_w15_
                have a8_w15_ : After w7_ w15_ := after_after a8_w14_ b16
                have l80_w15_ : Le (g8 + 1) w15_ := ⟨Nat.le_trans Lq8.le a8_w15_.below.size⟩
                have h8_w15_ := HK8.out w15_ a8_w15_
                have a10_w15_ : After w9_ w15_ := after_after a10_w14_ b16
                have l100_w15_ : Le (g10 + 1) w15_ := ⟨Nat.le_trans Lq10.le a10_w15_.below.size⟩
                have h10_w15_ := HK10.out w15_ a10_w15_
                have a12_w15_ : After w11_ w15_ := after_after a12_w14_ b16
                have l120_w15_ : Le (g12 + 1) w15_ := ⟨Nat.le_trans Lq12.le a12_w15_.below.size⟩
                have h12_w15_ := HK12.out w15_ a12_w15_
                have a14_w15_ : After w13_ w15_ := after_after a14_w14_ b16
                have l140_w15_ : Le (g14 + 1) w15_ := ⟨Nat.le_trans Lq14.le a14_w15_.below.size⟩
                have h14_w15_ := HK14.out w15_ a14_w15_
                have aw_w15_ : After w w15_ := after_after inferInstance a0_w15_
                have a16_w15_ : After w15_ w15_ := inferInstance
                have h16_w15_ := HK16.out w15_ a16_w15_
                replace X16 := Lib.hid (X16.out.here w15_)
                have G18 := on_v (x.here w15_) (X14.out.here w15_) e18.out
                refine (GivesW.on G18 _ (after_after a16_w15_ inferInstance)).mono ?_
                rintro e w16_ ⟨A18, c18, B18, d18, rfl, x18, hy⟩
                have a0_w16_ : After (((w.alloc (.cells #[.slice A h.length c, .slice B l.length d] 24)).alloc (.cells #[.slice A' h'.length c', .slice B' l'.length d'] 24)).alloc (.cells #[.slice A2 h2.length c2, .slice B2 l2.length d2] 24)) w16_ := after_of_more hy (after_after a0_w15_ inferInstance)
                have l00_w16_ : Le (w.heap.size + 1) w16_ := ⟨by have := a0_w16_.below.size; simp at this; omega⟩
                have l01_w16_ : Le (w.heap.size + 1 + 1) w16_ := ⟨by have := a0_w16_.below.size; simp at this; omega⟩
                have l02_w16_ : Le (w.heap.size + 1 + 1 + 1) w16_ := ⟨by have := a0_w16_.below.size; simp at this; omega⟩
                have h0_w16_ := HK.out w16_ a0_w16_
                have a7_w16_ : After w5_ w16_ := after_of_more hy (after_after a7_w15_ inferInstance)
                have l70_w16_ : Le (g7 + 1) w16_ := ⟨Nat.le_trans Lq7.le a7_w16_.below.size⟩
                have h7_w16_ := HK7.out w16_ a7_w16_
                have a8_w16_ : After w7_ w16_ := after_of_more hy (after_after a8_w15_ inferInstance)
                have l80_w16_ : Le (g8 + 1) w16_ := ⟨Nat.le_trans Lq8.le a8_w16_.below.size⟩
                have h8_w16_ := HK8.out w16_ a8_w16_
                have a10_w16_ : After w9_ w16_ := after_of_more hy (after_after a10_w15_ inferInstance)
                have l100_w16_ : Le (g10 + 1) w16_ := ⟨Nat.le_trans Lq10.le a10_w16_.below.size⟩
                have h10_w16_ := HK10.out w16_ a10_w16_
                have a12_w16_ : After w11_ w16_ := after_of_more hy (after_after a12_w15_ inferInstance)
                have l120_w16_ : Le (g12 + 1) w16_ := ⟨Nat.le_trans Lq12.le a12_w16_.below.size⟩
                have h12_w16_ := HK12.out w16_ a12_w16_
                have a14_w16_ : After w13_ w16_ := after_of_more hy (after_after a14_w15_ inferInstance)
                have l140_w16_ : Le (g14 + 1) w16_ := ⟨Nat.le_trans Lq14.le a14_w16_.below.size⟩
                have h14_w16_ := HK14.out w16_ a14_w16_
                have a16_w16_ : After w15_ w16_ := after_of_more hy (after_after a16_w15_ inferInstance)
                have l160_w16_ : Le (g16 + 1) w16_ := ⟨Nat.le_trans Lq16.le a16_w16_.below.size⟩
                have h16_w16_ := HK16.out w16_ a16_w16_
                have aw_w16_ : After w w16_ := after_after inferInstance a0_w16_
                clear hy
                have X18 := Lib.hid x18
                clear x18
                go_wp2_with fail
                obtain ⟨g18, hg_⟩ : ∃ g, w16_.heap.size = g := ⟨_, rfl⟩
                obtain ⟨w17_, hU_, b18, HK18, Lq18⟩ : ∃ U, w16_.alloc (.cells #[.slice A18 H18.length c18, .slice B18 L18.length d18] 24) = U ∧ After w16_ U ∧ Hid (∀ V, After U V → V.cell? ⟨g18, 0, none⟩ = some (.slice A18 H18.length c18) ∧ V.cell? ⟨g18, 1, none⟩ = some (.slice B18 L18.length d18)) ∧ Le (g18 + 1) U := by
                  refine ⟨_, rfl, inferInstance, fun V k_ => ?_, ⟨by rw [← hg_]; simp⟩⟩
                  have f_ := (Blk.new w16_ 24 #[.slice A18 H18.length c18, .slice B18 L18.length d18]).after (w' := V)
                  rw [hg_] at f_
                  exact ⟨by rw [f_.cell]; rfl, by rw [f_.cell]; rfl⟩
                rw [hU_, hg_]
                clear hU_ hg_
                have a0_w17_ : After (((w.alloc (.cells #[.slice A h.length c, .slice B l.length d] 24)).alloc (.cells #[.slice A' h'.length c', .slice B' l'.length d'] 24)).alloc (.cells #[.slice A2 h2.length c2, .slice B2 l2.length d2] 24)) w17_ := after_after a0_w16_ b18
                have l00_w17_ : Le (w.heap.size + 1) w17_ := ⟨by have := a0_w17_.below.size; simp at this; omega⟩
                have l01_w17_ : Le (w.heap.size + 1 + 1) w17_ := ⟨by have := a0_w17_.below.size; simp at this; omega⟩
                have l02_w17_ : Le (w.heap.size + 1 + 1 + 1) w17_ := ⟨by have := a0_w17_.below.size; simp at this; omega⟩
                have h0_w17_ := HK.out w17_ a0_w17_
                have a7_w17_ : After w5_ w17_ := after_after a7_w16_ b18
                have l70_w17_ : Le (g7 + 1) w17_ := ⟨Nat.le_trans Lq7.le a7_w17_.below.size⟩
                have h7_w17_ := HK7.out w17_ a7_w17_
                have a8_w17_ : After w7_ w17_ := after_after a8_w16_ b18
                have l80_w17_ : Le (g8 + 1) w17_ := ⟨Nat.le_trans Lq8.le a8_w17_.below.size⟩
                have h8_w17_ := HK8.out w17_ a8_w17_
                have a10_w17_ : After w9_ w17_ := after_after a10_w16_ b18
                have l100_w17_ : Le (g10 + 1) w17_ := ⟨Nat.le_trans Lq10.le a10_w17_.below.size⟩
                have h10_w17_ := HK10.out w17_ a10_w17_
                have a12_w17_ : After w11_ w17_ := after_after a12_w16_ b18
                have l120_w17_ : Le (g12 + 1) w17_ := ⟨Nat.le_trans Lq12.le a12_w17_.below.size⟩
                have h12_w17_ := HK12.out w17_ a12_w17_
                have a14_w17_ : After w13_ w17_ := after_after a14_w16_ b18
                have l140_w17_ : Le (g14 + 1) w17_ := ⟨Nat.le_trans Lq14.le a14_w17_.below.size⟩
                have h14_w17_ := HK14.out w17_ a14_w17_
                have a16_w17_ : After w15_ w17_ := after_after a16_w16_ b18
                have l160_w17_ : Le (g16 + 1) w17_ := ⟨Nat.le_trans Lq16.le a16_w17_.below.size⟩
                have h16_w17_ := HK16.out w17_ a16_w17_
                have aw_w17_ : After w w17_ := after_after inferInstance a0_w17_
                have a18_w17_ : After w17_ w17_ := inferInstance
                have h18_w17_ := HK18.out w17_ a18_w17_
                replace X18 := Lib.hid (X18.out.here w17_)
                refine (Gives.on GA _ (after_after aw_w17_ inferInstance)).mono ?_
                rintro e w18_ ⟨rfl, hy⟩
                have a0_w18_ : After (((w.alloc (.cells #[.slice A h.length c, .slice B l.length d] 24)).alloc (.cells #[.slice A' h'.length c', .slice B' l'.length d'] 24)).alloc (.cells #[.slice A2 h2.length c2, .slice B2 l2.length d2] 24)) w18_ := after_of_more hy (after_after a0_w17_ inferInstance)
                have l00_w18_ : Le (w.heap.size + 1) w18_ := ⟨by have := a0_w18_.below.size; simp at this; omega⟩
                have l01_w18_ : Le (w.heap.size + 1 + 1) w18_ := ⟨by have := a0_w18_.below.size; simp at this; omega⟩
                have l02_w18_ : Le (w.heap.size + 1 + 1 + 1) w18_ := ⟨by have := a0_w18_.below.size; simp at this; omega⟩
                have h0_w18_ := HK.out w18_ a0_w18_
                have a7_w18_ : After w5_ w18_ := after_of_more hy (after_after a7_w17_ inferInstance)
                have l70_w18_ : Le (g7 + 1) w18_ := ⟨Nat.le_trans Lq7.le a7_w18_.below.size⟩
                have h7_w18_ := HK7.out w18_ a7_w18_
                have a8_w18_ : After w7_ w18_ := after_of_more hy (after_after a8_w17_ inferInstance)
                have l80_w18_ : Le (g8 + 1) w18_ := ⟨Nat.le_trans Lq8.le a8_w18_.below.size⟩
                have h8_w18_ := HK8.out w18_ a8_w18_
                have a10_w18_ : After w9_ w18_ := after_of_more hy (after_after a10_w17_ inferInstance)
                have l100_w18_ : Le (g10 + 1) w18_ := ⟨Nat.le_trans Lq10.le a10_w18_.below.size⟩
                have h10_w18_ := HK10.out w18_ a10_w18_
                have a12_w18_ : After w11_ w18_ := after_of_more hy (after_after a12_w17_ inferInstance)
                have l120_w18_ : Le (g12 + 1) w18_ := ⟨Nat.le_trans Lq12.le a12_w18_.below.size⟩
                have h12_w18_ := HK12.out w18_ a12_w18_
                have a14_w18_ : After w13_ w18_ := after_of_more hy (after_after a14_w17_ inferInstance)
                have l140_w18_ : Le (g14 + 1) w18_ := ⟨Nat.le_trans Lq14.le a14_w18_.below.size⟩
                have h14_w18_ := HK14.out w18_ a14_w18_
                have a16_w18_ : After w15_ w18_ := after_of_more hy (after_after a16_w17_ inferInstance)
                have l160_w18_ : Le (g16 + 1) w18_ := ⟨Nat.le_trans Lq16.le a16_w18_.below.size⟩
                have h16_w18_ := HK16.out w18_ a16_w18_
                have a18_w18_ : After w17_ w18_ := after_of_more hy (after_after a18_w17_ inferInstance)
                have l180_w18_ : Le (g18 + 1) w18_ := ⟨Nat.le_trans Lq18.le a18_w18_.below.size⟩
                have h18_w18_ := HK18.out w18_ a18_w18_
                have aw_w18_ : After w w18_ := after_after inferInstance a0_w18_
                clear hy
                go_wp2_with fail
                go_ret
                exact ⟨rfl, @After.is_more w _ (after_after aw_w18_ inferInstance)⟩
            · have G14 := on_v x' x2 e14
              clear e12 e14 n12 t12 v12 hv hv'
              go_enter Try.func4, Try.ntmps4
              go_wp2_with fail
              refine (Gives.on G1 _ inferInstance).mono ?_
              rintro e w1_ ⟨rfl, hy⟩
              have a0_w1_ : After (((w.alloc (.cells #[.slice A h.length c, .slice B l.length d] 24)).alloc (.cells #[.slice A' h'.length c', .slice B' l'.length d'] 24)).alloc (.cells #[.slice A2 h2.length c2, .slice B2 l2.length d2] 24)) w1_ := after_of_more hy inferInstance
              have l00_w1_ : Le (w.heap.size + 1) w1_ := ⟨by have := a0_w1_.below.size; simp at this; omega⟩
              have l01_w1_ : Le (w.heap.size + 1 + 1) w1_ := ⟨by have := a0_w1_.below.size; simp at this; omega⟩
              have l02_w1_ : Le (w.heap.size + 1 + 1 + 1) w1_ := ⟨by have := a0_w1_.below.size; simp at this; omega⟩
              have h0_w1_ := HK.out w1_ a0_w1_
              have aw_w1_ : After w w1_ := after_after inferInstance a0_w1_
              clear hy
              go_wp2_with fail
              refine (Gives.on G2 _ (after_after aw_w1_ inferInstance)).mono ?_
              rintro e w2_ ⟨rfl, hy⟩
              have a0_w2_ : After (((w.alloc (.cells #[.slice A h.length c, .slice B l.length d] 24)).alloc (.cells #[.slice A' h'.length c', .slice B' l'.length d'] 24)).alloc (.cells #[.slice A2 h2.length c2, .slice B2 l2.length d2] 24)) w2_ := after_of_more hy (after_after a0_w1_ inferInstance)
              have l00_w2_ : Le (w.heap.size + 1) w2_ := ⟨by have := a0_w2_.below.size; simp at this; omega⟩
              have l01_w2_ : Le (w.heap.size + 1 + 1) w2_ := ⟨by have := a0_w2_.below.size; simp at this; omega⟩
              have l02_w2_ : Le (w.heap.size + 1 + 1 + 1) w2_ := ⟨by have := a0_w2_.below.size; simp at this; omega⟩
              have h0_w2_ := HK.out w2_ a0_w2_
              have aw_w2_ : After w w2_ := after_after inferInstance a0_w2_
              clear hy
              go_wp2_with fail
              refine (Gives.on G6 _ (after_after aw_w2_ inferInstance)).mono ?_
              rintro e w3_ ⟨rfl, hy⟩
              have a0_w3_ : After (((w.alloc (.cells #[.slice A h.length c, .slice B l.length d] 24)).alloc (.cells #[.slice A' h'.length c', .slice B' l'.length d'] 24)).alloc (.cells #[.slice A2 h2.length c2, .slice B2 l2.length d2] 24)) w3_ := after_of_more hy (after_after a0_w2_ inferInstance)
              have l00_w3_ : Le (w.heap.size + 1) w3_ := ⟨by have := a0_w3_.below.size; simp at this; omega⟩
              have l01_w3_ : Le (w.heap.size + 1 + 1) w3_ := ⟨by have := a0_w3_.below.size; simp at this; omega⟩
              have l02_w3_ : Le (w.heap.size + 1 + 1 + 1) w3_ := ⟨by have := a0_w3_.below.size; simp at this; omega⟩
              have h0_w3_ := HK.out w3_ a0_w3_
              have aw_w3_ : After w w3_ := after_after inferInstance a0_w3_
              clear hy
              go_wp2_with fail
              refine (GivesW.on GW _ (after_after aw_w3_ inferInstance)).mono ?_
              rintro e w4_ ⟨A7, c7, B7, d7, rfl, x7, hy⟩
              have a0_w4_ : After (((w.alloc (.cells #[.slice A h.length c, .slice B l.length d] 24)).alloc (.cells #[.slice A' h'.length c', .slice B' l'.length d'] 24)).alloc (.cells #[.slice A2 h2.length c2, .slice B2 l2.length d2] 24)) w4_ := after_of_more hy (after_after a0_w3_ inferInstance)
              have l00_w4_ : Le (w.heap.size + 1) w4_ := ⟨by have := a0_w4_.below.size; simp at this; omega⟩
              have l01_w4_ : Le (w.heap.size + 1 + 1) w4_ := ⟨by have := a0_w4_.below.size; simp at this; omega⟩
              have l02_w4_ : Le (w.heap.size + 1 + 1 + 1) w4_ := ⟨by have := a0_w4_.below.size; simp at this; omega⟩
              have h0_w4_ := HK.out w4_ a0_w4_
              have aw_w4_ : After w w4_ := after_after inferInstance a0_w4_
              clear hy
              have X7 := Lib.hid x7
              clear x7
              go_wp2_with fail
              obtain ⟨g7, hg_⟩ : ∃ g, w4_.heap.size = g := ⟨_, rfl⟩
              obtain ⟨w5_, hU_, b7, HK7, Lq7⟩ : ∃ U, w4_.alloc (.cells #[.slice A7 O.length c7, .slice B7 I.length d7] 24) = U ∧ After w4_ U ∧ Hid (∀ V, After U V → V.cell? ⟨g7, 0, none⟩ = some (.slice A7 O.length c7) ∧ V.cell? ⟨g7, 1, none⟩ = some (.slice B7 I.length d7)) ∧ Le (g7 + 1) U := by
                refine ⟨_, rfl, inferInstance, fun V k_ => ?_, ⟨by rw [← hg_]; simp⟩⟩
                have f_ := (Blk.new w4_ 24 #[.slice A7 O.length c7, .slice B7 I.length d7]).after (w' := V)
                rw [hg_] at f_
                exact ⟨by rw [f_.cell]; rfl, by rw [f_.cell]; rfl⟩
              rw [hU_, hg_]
              clear hU_ hg_
              have a0_w5_ : After (((w.alloc (.cells #[.slice A h.length c, .slice B l.length d] 24)).alloc (.cells #[.slice A' h'.length c', .slice B' l'.length d'] 24)).alloc (.cells #[.slice A2 h2.length c2, .slice B2 l2.length d2] 24)) w5_ := after_after a0_w4_ b7
              have l00_w5_ : Le (w.heap.size + 1) w5_ := ⟨by have := a0_w5_.below.size; simp at this; omega⟩
              have l01_w5_ : Le (w.heap.size + 1 + 1) w5_ := ⟨by have := a0_w5_.below.size; simp at this; omega⟩
              have l02_w5_ : Le (w.heap.size + 1 + 1 + 1) w5_ := ⟨by have := a0_w5_.below.size; simp at this; omega⟩
              have h0_w5_ := HK.out w5_ a0_w5_
              have aw_w5_ : After w w5_ := after_after inferInstance a0_w5_
              have a7_w5_ : After w5_ w5_ := inferInstance
              have h7_w5_ := HK7.out w5_ a7_w5_
              replace X7 := Lib.hid (X7.out.here w5_)
              have G8 := on_v (x.here w5_) X7.out e8.out
              refine (GivesW.on G8 _ (after_after a7_w5_ inferInstance)).mono ?_
              rintro e w6_ ⟨A8, c8, B8, d8, rfl, x8, hy⟩
              have a0_w6_ : After (((w.alloc (.cells #[.slice A h.length c, .slice B l.length d] 24)).alloc (.cells #[.slice A' h'.length c', .slice B' l'.length d'] 24)).alloc (.cells #[.slice A2 h2.length c2, .slice B2 l2.length d2] 24)) w6_ := after_of_more hy (after_after a0_w5_ inferInstance)
              have l00_w6_ : Le (w.heap.size + 1) w6_ := ⟨by have := a0_w6_.below.size; simp at this; omega⟩
              have l01_w6_ : Le (w.heap.size + 1 + 1) w6_ := ⟨by have := a0_w6_.below.size; simp at this; omega⟩
              have l02_w6_ : Le (w.heap.size + 1 + 1 + 1) w6_ := ⟨by have := a0_w6_.below.size; simp at this; omega⟩
              have h0_w6_ := HK.out w6_ a0_w6_
              have a7_w6_ : After w5_ w6_ := after_of_more hy (after_after a7_w5_ inferInstance)
              have l70_w6_ : Le (g7 + 1) w6_ := ⟨Nat.le_trans Lq7.le a7_w6_.below.size⟩
              have h7_w6_ := HK7.out w6_ a7_w6_
              have aw_w6_ : After w w6_ := after_after inferInstance a0_w6_
              clear hy
              have X8 := Lib.hid x8
              clear x8
              go_wp2_with fail
              obtain ⟨g8, hg_⟩ : ∃ g, w6_.heap.size = g := ⟨_, rfl⟩
              obtain ⟨w7_, hU_, b8, HK8, Lq8⟩ : ∃ U, w6_.alloc (.cells #[.slice A8 H8.length c8, .slice B8 L8.length d8] 24) = U ∧ After w6_ U ∧ Hid (∀ V, After U V → V.cell? ⟨g8, 0, none⟩ = some (.slice A8 H8.length c8) ∧ V.cell? ⟨g8, 1, none⟩ = some (.slice B8 L8.length d8)) ∧ Le (g8 + 1) U := by
                refine ⟨_, rfl, inferInstance, fun V k_ => ?_, ⟨by rw [← hg_]; simp⟩⟩
                have f_ := (Blk.new w6_ 24 #[.slice A8 H8.length c8, .slice B8 L8.length d8]).after (w' := V)
                rw [hg_] at f_
                exact ⟨by rw [f_.cell]; rfl, by rw [f_.cell]; rfl⟩
              rw [hU_, hg_]
              clear hU_ hg_
              have a0_w7_ : After (((w.alloc (.cells #[.slice A h.length c, .slice B l.length d] 24)).alloc (.cells #[.slice A' h'.length c', .slice B' l'.length d'] 24)).alloc (.cells #[.slice A2 h2.length c2, .slice B2 l2.length d2] 24)) w7_ := after_after a0_w6_ b8
              have l00_w7_ : Le (w.heap.size + 1) w7_ := ⟨by have := a0_w7_.below.size; simp at this; omega⟩
              have l01_w7_ : Le (w.heap.size + 1 + 1) w7_ := ⟨by have := a0_w7_.below.size; simp at this; omega⟩
              have l02_w7_ : Le (w.heap.size + 1 + 1 + 1) w7_ := ⟨by have := a0_w7_.below.size; simp at this; omega⟩
              have h0_w7_ := HK.out w7_ a0_w7_
              have a7_w7_ : After w5_ w7_ := after_after a7_w6_ b8
              have l70_w7_ : Le (g7 + 1) w7_ := ⟨Nat.le_trans Lq7.le a7_w7_.below.size⟩
              have h7_w7_ := HK7.out w7_ a7_w7_
              have aw_w7_ : After w w7_ := after_after inferInstance a0_w7_
              have a8_w7_ : After w7_ w7_ := inferInstance
              have h8_w7_ := HK8.out w7_ a8_w7_
              replace X8 := Lib.hid (X8.out.here w7_)
              have G10 := on_v (X7.out.here w7_) (x.here w7_) e10.out
              refine (GivesW.on G10 _ (after_after a8_w7_ inferInstance)).mono ?_
              rintro e w8_ ⟨A10, c10, B10, d10, rfl, x10, hy⟩
              have a0_w8_ : After (((w.alloc (.cells #[.slice A h.length c, .slice B l.length d] 24)).alloc (.cells #[.slice A' h'.length c', .slice B' l'.length d'] 24)).alloc (.cells #[.slice A2 h2.length c2, .slice B2 l2.length d2] 24)) w8_ := after_of_more hy (after_after a0_w7_ inferInstance)
              have l00_w8_ : Le (w.heap.size + 1) w8_ := ⟨by have := a0_w8_.below.size; simp at this; omega⟩
              have l01_w8_ : Le (w.heap.size + 1 + 1) w8_ := ⟨by have := a0_w8_.below.size; simp at this; omega⟩
              have l02_w8_ : Le (w.heap.size + 1 + 1 + 1) w8_ := ⟨by have := a0_w8_.below.size; simp at this; omega⟩
              have h0_w8_ := HK.out w8_ a0_w8_
              have a7_w8_ : After w5_ w8_ := after_of_more hy (after_after a7_w7_ inferInstance)
              have l70_w8_ : Le (g7 + 1) w8_ := ⟨Nat.le_trans Lq7.le a7_w8_.below.size⟩
              have h7_w8_ := HK7.out w8_ a7_w8_
              have a8_w8_ : After w7_ w8_ := after_of_more hy (after_after a8_w7_ inferInstance)
              have l80_w8_ : Le (g8 + 1) w8_ := ⟨Nat.le_trans Lq8.le a8_w8_.below.size⟩
              have h8_w8_ := HK8.out w8_ a8_w8_
              have aw_w8_ : After w w8_ := after_after inferInstance a0_w8_
              clear hy
              have X10 := Lib.hid x10
              clear x10
              go_wp2_with fail
              obtain ⟨g10, hg_⟩ : ∃ g, w8_.heap.size = g := ⟨_, rfl⟩
              obtain ⟨w9_, hU_, b10, HK10, Lq10⟩ : ∃ U, w8_.alloc (.cells #[.slice A10 H8.length c10, .slice B10 L8.length d10] 24) = U ∧ After w8_ U ∧ Hid (∀ V, After U V → V.cell? ⟨g10, 0, none⟩ = some (.slice A10 H8.length c10) ∧ V.cell? ⟨g10, 1, none⟩ = some (.slice B10 L8.length d10)) ∧ Le (g10 + 1) U := by
                refine ⟨_, rfl, inferInstance, fun V k_ => ?_, ⟨by rw [← hg_]; simp⟩⟩
                have f_ := (Blk.new w8_ 24 #[.slice A10 H8.length c10, .slice B10 L8.length d10]).after (w' := V)
                rw [hg_] at f_
                exact ⟨by rw [f_.cell]; rfl, by rw [f_.cell]; rfl⟩
              rw [hU_, hg_]
              clear hU_ hg_
              have a0_w9_ : After (((w.alloc (.cells #[.slice A h.length c, .slice B l.length d] 24)).alloc (.cells #[.slice A' h'.length c', .slice B' l'.length d'] 24)).alloc (.cells #[.slice A2 h2.length c2, .slice B2 l2.length d2] 24)) w9_ := after_after a0_w8_ b10
              have l00_w9_ : Le (w.heap.size + 1) w9_ := ⟨by have := a0_w9_.below.size; simp at this; omega⟩
              have l01_w9_ : Le (w.heap.size + 1 + 1) w9_ := ⟨by have := a0_w9_.below.size; simp at this; omega⟩
              have l02_w9_ : Le (w.heap.size + 1 + 1 + 1) w9_ := ⟨by have := a0_w9_.below.size; simp at this; omega⟩
              have h0_w9_ := HK.out w9_ a0_w9_
              have a7_w9_ : After w5_ w9_ := after_after a7_w8_ b10
              have l70_w9_ : Le (g7 + 1) w9_ := ⟨Nat.le_trans Lq7.le a7_w9_.below.size⟩
              have h7_w9_ := HK7.out w9_ a7_w9_
              have a8_w9_ : After w7_ w9_ := after_after a8_w8_ b10
              have l80_w9_ : Le (g8 + 1) w9_ := ⟨Nat.le_trans Lq8.le a8_w9_.below.size⟩
              have h8_w9_ := HK8.out w9_ a8_w9_
              have aw_w9_ : After w w9_ := after_after inferInstance a0_w9_
              have a10_w9_ : After w9_ w9_ := inferInstance
              have h10_w9_ := HK10.out w9_ a10_w9_
              replace X10 := Lib.hid (X10.out.here w9_)
              have q0_s := a0_w9_
              have q10_s : After w9_ w9_ := inferInstance
              have qw : ∀ V, After w9_ V → After w V := fun V k => after_after aw_w9_ k
              have q8 : ∀ V, After w9_ V → After w7_ V := fun V k => after_after a8_w9_ k
              have tk1 : True := trivial
              have tk2 : True := trivial
              have tk3 : True := trivial
              have tk4 : True := trivial
              go_region_held3 (fun V => (V.cell? ⟨w.heap.size, 0, none⟩ = some (.slice A h.length c) ∧ V.cell? ⟨w.heap.size, 1, none⟩ = some (.slice B l.length d)) ∧ (V.cell? ⟨g8, 0, none⟩ = some (.slice A8 H8.length c8) ∧ V.cell? ⟨g8, 1, none⟩ = some (.slice B8 L8.length d8)) ∧ V.cell? ⟨g10, 0, none⟩ = some (.slice A10 H8.length c10) ∧ V.cell? ⟨g10, 1, none⟩ = some (.slice B10 L8.length d10)) (exact ⟨⟨(HK.out _ inferInstance).1, (HK.out _ inferInstance).2.1⟩, HK8.out _ (q8 _ inferInstance), HK10.out _ inferInstance⟩)
                (first
                | (have _t := tk1; go_at_call 19; (with_reducible refine (Gives.on GC _ (qw _ inferInstance)).mono ?_); rintro e v1 ⟨rfl, hy⟩; have q0_v1 : After (((w.alloc (.cells #[.slice A h.length c, .slice B l.length d] 24)).alloc (.cells #[.slice A' h'.length c', .slice B' l'.length d'] 24)).alloc (.cells #[.slice A2 h2.length c2, .slice B2 l2.length d2] 24)) v1 := after_of_more hy (after_after q0_s inferInstance); have q10_v1 : After w9_ v1 := after_of_more hy (after_after q10_s inferInstance); clear hy _t tk1)
                | (have _t := tk2; go_at_call 20; (with_reducible refine (GivesW.on GN _ (qw _ (after_after q10_v1 inferInstance))).mono ?_); rintro e v2 ⟨A5, c5, B5, d5, rfl, x5, hy⟩; have q0_v2 : After (((w.alloc (.cells #[.slice A h.length c, .slice B l.length d] 24)).alloc (.cells #[.slice A' h'.length c', .slice B' l'.length d'] 24)).alloc (.cells #[.slice A2 h2.length c2, .slice B2 l2.length d2] 24)) v2 := after_of_more hy (after_after q0_v1 inferInstance); have q10_v2 : After w9_ v2 := after_of_more hy (after_after q10_v1 inferInstance); have E1 := equal_v ((X8.out.here w9_).here v2) x5 (v := true) (by simp); clear hy _t tk2)
                | (have _t := tk3; go_at_call 16; (with_reducible refine (Gives.on E1 _ inferInstance).mono ?_); rintro e v3 ⟨rfl, hy⟩; have q0_v3 : After (((w.alloc (.cells #[.slice A h.length c, .slice B l.length d] 24)).alloc (.cells #[.slice A' h'.length c', .slice B' l'.length d'] 24)).alloc (.cells #[.slice A2 h2.length c2, .slice B2 l2.length d2] 24)) v3 := after_of_more hy (after_after q0_v2 inferInstance); have q10_v3 : After w9_ v3 := after_of_more hy (after_after q10_v2 inferInstance); have E2 := equal_v ((X8.out.here w9_).here v3) (X10.out.here v3) (v := true) (by simp); clear hy _t tk3)
                | (have _t := tk4; go_at_call 16; (with_reducible refine (Gives.on E2 _ inferInstance).mono ?_); rintro e v4 ⟨rfl, hy⟩; have q0_v4 : After (((w.alloc (.cells #[.slice A h.length c, .slice B l.length d] 24)).alloc (.cells #[.slice A' h'.length c', .slice B' l'.length d'] 24)).alloc (.cells #[.slice A2 h2.length c2, .slice B2 l2.length d2] 24)) v4 := after_of_more hy (after_after q0_v3 inferInstance); have q10_v4 : After w9_ v4 := after_of_more hy (after_after q10_v3 inferInstance); clear hy _t tk4))
              have hy : ∃ y, v4 = v4.more y := more_self v4
              clear hy
              have a0_v4 : After (((w.alloc (.cells #[.slice A h.length c, .slice B l.length d] 24)).alloc (.cells #[.slice A' h'.length c', .slice B' l'.length d'] 24)).alloc (.cells #[.slice A2 h2.length c2, .slice B2 l2.length d2] 24)) v4 := after_after a0_w9_ q10_v4
              have l00_v4 : Le (w.heap.size + 1) v4 := ⟨by have := a0_v4.below.size; simp at this; omega⟩
              have l01_v4 : Le (w.heap.size + 1 + 1) v4 := ⟨by have := a0_v4.below.size; simp at this; omega⟩
              have l02_v4 : Le (w.heap.size + 1 + 1 + 1) v4 := ⟨by have := a0_v4.below.size; simp at this; omega⟩
              have h0_v4 := HK.out v4 a0_v4
              have a7_v4 : After w5_ v4 := after_after a7_w9_ q10_v4
              have l70_v4 : Le (g7 + 1) v4 := ⟨Nat.le_trans Lq7.le a7_v4.below.size⟩
              have h7_v4 := HK7.out v4 a7_v4
              have a8_v4 : After w7_ v4 := after_after a8_w9_ q10_v4
              have l80_v4 : Le (g8 + 1) v4 := ⟨Nat.le_trans Lq8.le a8_v4.below.size⟩
              have h8_v4 := HK8.out v4 a8_v4
              have a10_v4 : After w9_ v4 := after_after a10_w9_ q10_v4
              have l100_v4 : Le (g10 + 1) v4 := ⟨Nat.le_trans Lq10.le a10_v4.below.size⟩
              have h10_v4 := HK10.out v4 a10_v4
              have aw_v4 : After w v4 := after_after inferInstance a0_v4
              go_wp2_with fail
              refine (GivesW.on G12 _ (after_after aw_v4 inferInstance)).mono ?_
              rintro e w10_ ⟨A12, c12, B12, d12, rfl, x12, hy⟩
              have a0_w10_ : After (((w.alloc (.cells #[.slice A h.length c, .slice B l.length d] 24)).alloc (.cells #[.slice A' h'.length c', .slice B' l'.length d'] 24)).alloc (.cells #[.slice A2 h2.length c2, .slice B2 l2.length d2] 24)) w10_ := after_of_more hy (after_after a0_v4 inferInstance)
              have l00_w10_ : Le (w.heap.size + 1) w10_ := ⟨by have := a0_w10_.below.size; simp at this; omega⟩
              have l01_w10_ : Le (w.heap.size + 1 + 1) w10_ := ⟨by have := a0_w10_.below.size; simp at this; omega⟩
              have l02_w10_ : Le (w.heap.size + 1 + 1 + 1) w10_ := ⟨by have := a0_w10_.below.size; simp at this; omega⟩
              have h0_w10_ := HK.out w10_ a0_w10_
              have a7_w10_ : After w5_ w10_ := after_of_more hy (after_after a7_v4 inferInstance)
              have l70_w10_ : Le (g7 + 1) w10_ := ⟨Nat.le_trans Lq7.le a7_w10_.below.size⟩
              have h7_w10_ := HK7.out w10_ a7_w10_
              have a8_w10_ : After w7_ w10_ := after_of_more hy (after_after a8_v4 inferInstance)
              have l80_w10_ : Le (g8 + 1) w10_ := ⟨Nat.le_trans Lq8.le a8_w10_.below.size⟩
              have h8_w10_ := HK8.out w10_ a8_w10_
              have a10_w10_ : After w9_ w10_ := after_of_more hy (after_after a10_v4 inferInstance)
              have l100_w10_ : Le (g10 + 1) w10_ := ⟨Nat.le_trans Lq10.le a10_w10_.below.size⟩
              have h10_w10_ := HK10.out w10_ a10_w10_
              have aw_w10_ : After w w10_ := after_after inferInstance a0_w10_
              clear hy
              have X12 := Lib.hid x12
              clear x12
              go_wp2_with fail
              obtain ⟨g12, hg_⟩ : ∃ g, w10_.heap.size = g := ⟨_, rfl⟩
              obtain ⟨w11_, hU_, b12, HK12, Lq12⟩ : ∃ U, w10_.alloc (.cells #[.slice A12 H12.length c12, .slice B12 L12.length d12] 24) = U ∧ After w10_ U ∧ Hid (∀ V, After U V → V.cell? ⟨g12, 0, none⟩ = some (.slice A12 H12.length c12) ∧ V.cell? ⟨g12, 1, none⟩ = some (.slice B12 L12.length d12)) ∧ Le (g12 + 1) U := by
                refine ⟨_, rfl, inferInstance, fun V k_ => ?_, ⟨by rw [← hg_]; simp⟩⟩
                have f_ := (Blk.new w10_ 24 #[.slice A12 H12.length c12, .slice B12 L12.length d12]).after (w' := V)
                rw [hg_] at f_
                exact ⟨by rw [f_.cell]; rfl, by rw [f_.cell]; rfl⟩
              rw [hU_, hg_]
              clear hU_ hg_
              have a0_w11_ : After (((w.alloc (.cells #[.slice A h.length c, .slice B l.length d] 24)).alloc (.cells #[.slice A' h'.length c', .slice B' l'.length d'] 24)).alloc (.cells #[.slice A2 h2.length c2, .slice B2 l2.length d2] 24)) w11_ := after_after a0_w10_ b12
              have l00_w11_ : Le (w.heap.size + 1) w11_ := ⟨by have := a0_w11_.below.size; simp at this; omega⟩
              have l01_w11_ : Le (w.heap.size + 1 + 1) w11_ := ⟨by have := a0_w11_.below.size; simp at this; omega⟩
              have l02_w11_ : Le (w.heap.size + 1 + 1 + 1) w11_ := ⟨by have := a0_w11_.below.size; simp at this; omega⟩
              have h0_w11_ := HK.out w11_ a0_w11_
              have a7_w11_ : After w5_ w11_ := after_after a7_w10_ b12
              have l70_w11_ : Le (g7 + 1) w11_ := ⟨Nat.le_trans Lq7.le a7_w11_.below.size⟩
              have h7_w11_ := HK7.out w11_ a7_w11_
              have a8_w11_ : After w7_ w11_ := after_after a8_w10_ b12
              have l80_w11_ : Le (g8 + 1) w11_ := ⟨Nat.le_trans Lq8.le a8_w11_.below.size⟩
              have h8_w11_ := HK8.out w11_ a8_w11_
              have a10_w11_ : After w9_ w11_ := after_after a10_w10_ b12
              have l100_w11_ : Le (g10 + 1) w11_ := ⟨Nat.le_trans Lq10.le a10_w11_.below.size⟩
              have h10_w11_ := HK10.out w11_ a10_w11_
              have aw_w11_ : After w w11_ := after_after inferInstance a0_w11_
              have a12_w11_ : After w11_ w11_ := inferInstance
              have h12_w11_ := HK12.out w11_ a12_w11_
              replace X12 := Lib.hid (X12.out.here w11_)
              refine (GivesW.on G14 _ (after_after aw_w11_ inferInstance)).mono ?_
              rintro e w12_ ⟨A14, c14, B14, d14, rfl, x14, hy⟩
              have a0_w12_ : After (((w.alloc (.cells #[.slice A h.length c, .slice B l.length d] 24)).alloc (.cells #[.slice A' h'.length c', .slice B' l'.length d'] 24)).alloc (.cells #[.slice A2 h2.length c2, .slice B2 l2.length d2] 24)) w12_ := after_of_more hy (after_after a0_w11_ inferInstance)
              have l00_w12_ : Le (w.heap.size + 1) w12_ := ⟨by have := a0_w12_.below.size; simp at this; omega⟩
              have l01_w12_ : Le (w.heap.size + 1 + 1) w12_ := ⟨by have := a0_w12_.below.size; simp at this; omega⟩
              have l02_w12_ : Le (w.heap.size + 1 + 1 + 1) w12_ := ⟨by have := a0_w12_.below.size; simp at this; omega⟩
              have h0_w12_ := HK.out w12_ a0_w12_
              have a7_w12_ : After w5_ w12_ := after_of_more hy (after_after a7_w11_ inferInstance)
              have l70_w12_ : Le (g7 + 1) w12_ := ⟨Nat.le_trans Lq7.le a7_w12_.below.size⟩
              have h7_w12_ := HK7.out w12_ a7_w12_
              have a8_w12_ : After w7_ w12_ := after_of_more hy (after_after a8_w11_ inferInstance)
              have l80_w12_ : Le (g8 + 1) w12_ := ⟨Nat.le_trans Lq8.le a8_w12_.below.size⟩
              have h8_w12_ := HK8.out w12_ a8_w12_
              have a10_w12_ : After w9_ w12_ := after_of_more hy (after_after a10_w11_ inferInstance)
              have l100_w12_ : Le (g10 + 1) w12_ := ⟨Nat.le_trans Lq10.le a10_w12_.below.size⟩
              have h10_w12_ := HK10.out w12_ a10_w12_
              have a12_w12_ : After w11_ w12_ := after_of_more hy (after_after a12_w11_ inferInstance)
              have l120_w12_ : Le (g12 + 1) w12_ := ⟨Nat.le_trans Lq12.le a12_w12_.below.size⟩
              have h12_w12_ := HK12.out w12_ a12_w12_
              have aw_w12_ : After w w12_ := after_after inferInstance a0_w12_
              clear hy
              have X14 := Lib.hid x14
              clear x14
              go_wp2_with fail
              obtain ⟨g14, hg_⟩ : ∃ g, w12_.heap.size = g := ⟨_, rfl⟩
              obtain ⟨w13_, hU_, b14, HK14, Lq14⟩ : ∃ U, w12_.alloc (.cells #[.slice A14 H14.length c14, .slice B14 L14.length d14] 24) = U ∧ After w12_ U ∧ Hid (∀ V, After U V → V.cell? ⟨g14, 0, none⟩ = some (.slice A14 H14.length c14) ∧ V.cell? ⟨g14, 1, none⟩ = some (.slice B14 L14.length d14)) ∧ Le (g14 + 1) U := by
                refine ⟨_, rfl, inferInstance, fun V k_ => ?_, ⟨by rw [← hg_]; simp⟩⟩
                have f_ := (Blk.new w12_ 24 #[.slice A14 H14.length c14, .slice B14 L14.length d14]).after (w' := V)
                rw [hg_] at f_
                exact ⟨by rw [f_.cell]; rfl, by rw [f_.cell]; rfl⟩
              rw [hU_, hg_]
              clear hU_ hg_
              have a0_w13_ : After (((w.alloc (.cells #[.slice A h.length c, .slice B l.length d] 24)).alloc (.cells #[.slice A' h'.length c', .slice B' l'.length d'] 24)).alloc (.cells #[.slice A2 h2.length c2, .slice B2 l2.length d2] 24)) w13_ := after_after a0_w12_ b14
              have l00_w13_ : Le (w.heap.size + 1) w13_ := ⟨by have := a0_w13_.below.size; simp at this; omega⟩
              have l01_w13_ : Le (w.heap.size + 1 + 1) w13_ := ⟨by have := a0_w13_.below.size; simp at this; omega⟩
              have l02_w13_ : Le (w.heap.size + 1 + 1 + 1) w13_ := ⟨by have := a0_w13_.below.size; simp at this; omega⟩
              have h0_w13_ := HK.out w13_ a0_w13_
              have a7_w13_ : After w5_ w13_ := after_after a7_w12_ b14
              have l70_w13_ : Le (g7 + 1) w13_ := ⟨Nat.le_trans Lq7.le a7_w13_.below.size⟩
              have h7_w13_ := HK7.out w13_ a7_w13_
              have a8_w13_ : After w7_ w13_ := after_after a8_w12_ b14
              have l80_w13_ : Le (g8 + 1) w13_ := ⟨Nat.le_trans Lq8.le a8_w13_.below.size⟩
              have h8_w13_ := HK8.out w13_ a8_w13_
              have a10_w13_ : After w9_ w13_ := after_after a10_w12_ b14
              have l100_w13_ : Le (g10 + 1) w13_ := ⟨Nat.le_trans Lq10.le a10_w13_.below.size⟩
              have h10_w13_ := HK10.out w13_ a10_w13_
              have a12_w13_ : After w11_ w13_ := after_after a12_w12_ b14
              have l120_w13_ : Le (g12 + 1) w13_ := ⟨Nat.le_trans Lq12.le a12_w13_.below.size⟩
              have h12_w13_ := HK12.out w13_ a12_w13_
              have aw_w13_ : After w w13_ := after_after inferInstance a0_w13_
              have a14_w13_ : After w13_ w13_ := inferInstance
              have h14_w13_ := HK14.out w13_ a14_w13_
              replace X14 := Lib.hid (X14.out.here w13_)
              refine (Gives.on GA _ (after_after aw_w13_ inferInstance)).mono ?_
              rintro e w14_ ⟨rfl, hy⟩
              have a0_w14_ : After (((w.alloc (.cells #[.slice A h.length c, .slice B l.length d] 24)).alloc (.cells #[.slice A' h'.length c', .slice B' l'.length d'] 24)).alloc (.cells #[.slice A2 h2.length c2, .slice B2 l2.length d2] 24)) w14_ := after_of_more hy (after_after a0_w13_ inferInstance)
              have l00_w14_ : Le (w.heap.size + 1) w14_ := ⟨by have := a0_w14_.below.size; simp at this; omega⟩
              have l01_w14_ : Le (w.heap.size + 1 + 1) w14_ := ⟨by have := a0_w14_.below.size; simp at this; omega⟩
              have l02_w14_ : Le (w.heap.size + 1 + 1 + 1) w14_ := ⟨by have := a0_w14_.below.size; simp at this; omega⟩
              have h0_w14_ := HK.out w14_ a0_w14_
              have a7_w14_ : After w5_ w14_ := after_of_more hy (after_after a7_w13_ inferInstance)
              have l70_w14_ : Le (g7 + 1) w14_ := ⟨Nat.le_trans Lq7.le a7_w14_.below.size⟩
              have h7_w14_ := HK7.out w14_ a7_w14_
              have a8_w14_ : After w7_ w14_ := after_of_more hy (after_after a8_w13_ inferInstance)
              have l80_w14_ : Le (g8 + 1) w14_ := ⟨Nat.le_trans Lq8.le a8_w14_.below.size⟩
              have h8_w14_ := HK8.out w14_ a8_w14_
              have a10_w14_ : After w9_ w14_ := after_of_more hy (after_after a10_w13_ inferInstance)
              have l100_w14_ : Le (g10 + 1) w14_ := ⟨Nat.le_trans Lq10.le a10_w14_.below.size⟩
              have h10_w14_ := HK10.out w14_ a10_w14_
              have a12_w14_ : After w11_ w14_ := after_of_more hy (after_after a12_w13_ inferInstance)
              have l120_w14_ : Le (g12 + 1) w14_ := ⟨Nat.le_trans Lq12.le a12_w14_.below.size⟩
              have h12_w14_ := HK12.out w14_ a12_w14_
              have a14_w14_ : After w13_ w14_ := after_of_more hy (after_after a14_w13_ inferInstance)
              have l140_w14_ : Le (g14 + 1) w14_ := ⟨Nat.le_trans Lq14.le a14_w14_.below.size⟩
              have h14_w14_ := HK14.out w14_ a14_w14_
              have aw_w14_ : After w w14_ := after_after inferInstance a0_w14_
              clear hy
              go_wp2_with fail
              go_ret
              exact ⟨rfl, @After.is_more w _ (after_after aw_w14_ inferInstance)⟩
          · have G12 := on_v x x' e12
            obtain ⟨H14, L14, e2, e14⟩ : ∃ H L e, onW h' l' h2 l2 = ((H, L), e) := ⟨_, _, _, rfl⟩
            have G14 := on_v x' x2 e14
            clear e12 e14 hv
            go_enter Try.func4, Try.ntmps4
            go_wp2_with fail
            refine (Gives.on G1 _ inferInstance).mono ?_
            rintro e w1_ ⟨rfl, hy⟩
            have a0_w1_ : After (((w.alloc (.cells #[.slice A h.length c, .slice B l.length d] 24)).alloc (.cells #[.slice A' h'.length c', .slice B' l'.length d'] 24)).alloc (.cells #[.slice A2 h2.length c2, .slice B2 l2.length d2] 24)) w1_ := after_of_more hy inferInstance
            have l00_w1_ : Le (w.heap.size + 1) w1_ := ⟨by have := a0_w1_.below.size; simp at this; omega⟩
            have l01_w1_ : Le (w.heap.size + 1 + 1) w1_ := ⟨by have := a0_w1_.below.size; simp at this; omega⟩
            have l02_w1_ : Le (w.heap.size + 1 + 1 + 1) w1_ := ⟨by have := a0_w1_.below.size; simp at this; omega⟩
            have h0_w1_ := HK.out w1_ a0_w1_
            have aw_w1_ : After w w1_ := after_after inferInstance a0_w1_
            clear hy
            go_wp2_with fail
            refine (Gives.on G2 _ (after_after aw_w1_ inferInstance)).mono ?_
            rintro e w2_ ⟨rfl, hy⟩
            have a0_w2_ : After (((w.alloc (.cells #[.slice A h.length c, .slice B l.length d] 24)).alloc (.cells #[.slice A' h'.length c', .slice B' l'.length d'] 24)).alloc (.cells #[.slice A2 h2.length c2, .slice B2 l2.length d2] 24)) w2_ := after_of_more hy (after_after a0_w1_ inferInstance)
            have l00_w2_ : Le (w.heap.size + 1) w2_ := ⟨by have := a0_w2_.below.size; simp at this; omega⟩
            have l01_w2_ : Le (w.heap.size + 1 + 1) w2_ := ⟨by have := a0_w2_.below.size; simp at this; omega⟩
            have l02_w2_ : Le (w.heap.size + 1 + 1 + 1) w2_ := ⟨by have := a0_w2_.below.size; simp at this; omega⟩
            have h0_w2_ := HK.out w2_ a0_w2_
            have aw_w2_ : After w w2_ := after_after inferInstance a0_w2_
            clear hy
            go_wp2_with fail
            refine (Gives.on G6 _ (after_after aw_w2_ inferInstance)).mono ?_
            rintro e w3_ ⟨rfl, hy⟩
            have a0_w3_ : After (((w.alloc (.cells #[.slice A h.length c, .slice B l.length d] 24)).alloc (.cells #[.slice A' h'.length c', .slice B' l'.length d'] 24)).alloc (.cells #[.slice A2 h2.length c2, .slice B2 l2.length d2] 24)) w3_ := after_of_more hy (after_after a0_w2_ inferInstance)
            have l00_w3_ : Le (w.heap.size + 1) w3_ := ⟨by have := a0_w3_.below.size; simp at this; omega⟩
            have l01_w3_ : Le (w.heap.size + 1 + 1) w3_ := ⟨by have := a0_w3_.below.size; simp at this; omega⟩
            have l02_w3_ : Le (w.heap.size + 1 + 1 + 1) w3_ := ⟨by have := a0_w3_.below.size; simp at this; omega⟩
            have h0_w3_ := HK.out w3_ a0_w3_
            have aw_w3_ : After w w3_ := after_after inferInstance a0_w3_
            clear hy
            go_wp2_with fail
            refine (GivesW.on GW _ (after_after aw_w3_ inferInstance)).mono ?_
            rintro e w4_ ⟨A7, c7, B7, d7, rfl, x7, hy⟩
            have a0_w4_ : After (((w.alloc (.cells #[.slice A h.length c, .slice B l.length d] 24)).alloc (.cells #[.slice A' h'.length c', .slice B' l'.length d'] 24)).alloc (.cells #[.slice A2 h2.length c2, .slice B2 l2.length d2] 24)) w4_ := after_of_more hy (after_after a0_w3_ inferInstance)
            have l00_w4_ : Le (w.heap.size + 1) w4_ := ⟨by have := a0_w4_.below.size; simp at this; omega⟩
            have l01_w4_ : Le (w.heap.size + 1 + 1) w4_ := ⟨by have := a0_w4_.below.size; simp at this; omega⟩
            have l02_w4_ : Le (w.heap.size + 1 + 1 + 1) w4_ := ⟨by have := a0_w4_.below.size; simp at this; omega⟩
            have h0_w4_ := HK.out w4_ a0_w4_
            have aw_w4_ : After w w4_ := after_after inferInstance a0_w4_
            clear hy
            have X7 := Lib.hid x7
            clear x7
            go_wp2_with fail
            obtain ⟨g7, hg_⟩ : ∃ g, w4_.heap.size = g := ⟨_, rfl⟩
            obtain ⟨w5_, hU_, b7, HK7, Lq7⟩ : ∃ U, w4_.alloc (.cells #[.slice A7 O.length c7, .slice B7 I.length d7] 24) = U ∧ After w4_ U ∧ Hid (∀ V, After U V → V.cell? ⟨g7, 0, none⟩ = some (.slice A7 O.length c7) ∧ V.cell? ⟨g7, 1, none⟩ = some (.slice B7 I.length d7)) ∧ Le (g7 + 1) U := by
              refine ⟨_, rfl, inferInstance, fun V k_ => ?_, ⟨by rw [← hg_]; simp⟩⟩
              have f_ := (Blk.new w4_ 24 #[.slice A7 O.length c7, .slice B7 I.length d7]).after (w' := V)
              rw [hg_] at f_
              exact ⟨by rw [f_.cell]; rfl, by rw [f_.cell]; rfl⟩
            rw [hU_, hg_]
            clear hU_ hg_
            have a0_w5_ : After (((w.alloc (.cells #[.slice A h.length c, .slice B l.length d] 24)).alloc (.cells #[.slice A' h'.length c', .slice B' l'.length d'] 24)).alloc (.cells #[.slice A2 h2.length c2, .slice B2 l2.length d2] 24)) w5_ := after_after a0_w4_ b7
            have l00_w5_ : Le (w.heap.size + 1) w5_ := ⟨by have := a0_w5_.below.size; simp at this; omega⟩
            have l01_w5_ : Le (w.heap.size + 1 + 1) w5_ := ⟨by have := a0_w5_.below.size; simp at this; omega⟩
            have l02_w5_ : Le (w.heap.size + 1 + 1 + 1) w5_ := ⟨by have := a0_w5_.below.size; simp at this; omega⟩
            have h0_w5_ := HK.out w5_ a0_w5_
            have aw_w5_ : After w w5_ := after_after inferInstance a0_w5_
            have a7_w5_ : After w5_ w5_ := inferInstance
            have h7_w5_ := HK7.out w5_ a7_w5_
            replace X7 := Lib.hid (X7.out.here w5_)
            have G8 := on_v (x.here w5_) X7.out e8.out
            refine (GivesW.on G8 _ (after_after a7_w5_ inferInstance)).mono ?_
            rintro e w6_ ⟨A8, c8, B8, d8, rfl, x8, hy⟩
            have a0_w6_ : After (((w.alloc (.cells #[.slice A h.length c, .slice B l.length d] 24)).alloc (.cells #[.slice A' h'.length c', .slice B' l'.length d'] 24)).alloc (.cells #[.slice A2 h2.length c2, .slice B2 l2.length d2] 24)) w6_ := after_of_more hy (after_after a0_w5_ inferInstance)
            have l00_w6_ : Le (w.heap.size + 1) w6_ := ⟨by have := a0_w6_.below.size; simp at this; omega⟩
            have l01_w6_ : Le (w.heap.size + 1 + 1) w6_ := ⟨by have := a0_w6_.below.size; simp at this; omega⟩
            have l02_w6_ : Le (w.heap.size + 1 + 1 + 1) w6_ := ⟨by have := a0_w6_.below.size; simp at this; omega⟩
            have h0_w6_ := HK.out w6_ a0_w6_
            have a7_w6_ : After w5_ w6_ := after_of_more hy (after_after a7_w5_ inferInstance)
            have l70_w6_ : Le (g7 + 1) w6_ := ⟨Nat.le_trans Lq7.le a7_w6_.below.size⟩
            have h7_w6_ := HK7.out w6_ a7_w6_
            have aw_w6_ : After w w6_ := after_after inferInstance a0_w6_
            clear hy
            have X8 := Lib.hid x8
            clear x8
            go_wp2_with fail
            obtain ⟨g8, hg_⟩ : ∃ g, w6_.heap.size = g := ⟨_, rfl⟩
            obtain ⟨w7_, hU_, b8, HK8, Lq8⟩ : ∃ U, w6_.alloc (.cells #[.slice A8 H8.length c8, .slice B8 L8.length d8] 24) = U ∧ After w6_ U ∧ Hid (∀ V, After U V → V.cell? ⟨g8, 0, none⟩ = some (.slice A8 H8.length c8) ∧ V.cell? ⟨g8, 1, none⟩ = some (.slice B8 L8.length d8)) ∧ Le (g8 + 1) U := by
              refine ⟨_, rfl, inferInstance, fun V k_ => ?_, ⟨by rw [← hg_]; simp⟩⟩
              have f_ := (Blk.new w6_ 24 #[.slice A8 H8.length c8, .slice B8 L8.length d8]).after (w' := V)
              rw [hg_] at f_
              exact ⟨by rw [f_.cell]; rfl, by rw [f_.cell]; rfl⟩
            rw [hU_, hg_]
            clear hU_ hg_
            have a0_w7_ : After (((w.alloc (.cells #[.slice A h.length c, .slice B l.length d] 24)).alloc (.cells #[.slice A' h'.length c', .slice B' l'.length d'] 24)).alloc (.cells #[.slice A2 h2.length c2, .slice B2 l2.length d2] 24)) w7_ := after_after a0_w6_ b8
            have l00_w7_ : Le (w.heap.size + 1) w7_ := ⟨by have := a0_w7_.below.size; simp at this; omega⟩
            have l01_w7_ : Le (w.heap.size + 1 + 1) w7_ := ⟨by have := a0_w7_.below.size; simp at this; omega⟩
            have l02_w7_ : Le (w.heap.size + 1 + 1 + 1) w7_ := ⟨by have := a0_w7_.below.size; simp at this; omega⟩
            have h0_w7_ := HK.out w7_ a0_w7_
            have a7_w7_ : After w5_ w7_ := after_after a7_w6_ b8
            have l70_w7_ : Le (g7 + 1) w7_ := ⟨Nat.le_trans Lq7.le a7_w7_.below.size⟩
            have h7_w7_ := HK7.out w7_ a7_w7_
            have aw_w7_ : After w w7_ := after_after inferInstance a0_w7_
            have a8_w7_ : After w7_ w7_ := inferInstance
            have h8_w7_ := HK8.out w7_ a8_w7_
            replace X8 := Lib.hid (X8.out.here w7_)
            have G10 := on_v (X7.out.here w7_) (x.here w7_) e10.out
            refine (GivesW.on G10 _ (after_after a8_w7_ inferInstance)).mono ?_
            rintro e w8_ ⟨A10, c10, B10, d10, rfl, x10, hy⟩
            have a0_w8_ : After (((w.alloc (.cells #[.slice A h.length c, .slice B l.length d] 24)).alloc (.cells #[.slice A' h'.length c', .slice B' l'.length d'] 24)).alloc (.cells #[.slice A2 h2.length c2, .slice B2 l2.length d2] 24)) w8_ := after_of_more hy (after_after a0_w7_ inferInstance)
            have l00_w8_ : Le (w.heap.size + 1) w8_ := ⟨by have := a0_w8_.below.size; simp at this; omega⟩
            have l01_w8_ : Le (w.heap.size + 1 + 1) w8_ := ⟨by have := a0_w8_.below.size; simp at this; omega⟩
            have l02_w8_ : Le (w.heap.size + 1 + 1 + 1) w8_ := ⟨by have := a0_w8_.below.size; simp at this; omega⟩
            have h0_w8_ := HK.out w8_ a0_w8_
            have a7_w8_ : After w5_ w8_ := after_of_more hy (after_after a7_w7_ inferInstance)
            have l70_w8_ : Le (g7 + 1) w8_ := ⟨Nat.le_trans Lq7.le a7_w8_.below.size⟩
            have h7_w8_ := HK7.out w8_ a7_w8_
            have a8_w8_ : After w7_ w8_ := after_of_more hy (after_after a8_w7_ inferInstance)
            have l80_w8_ : Le (g8 + 1) w8_ := ⟨Nat.le_trans Lq8.le a8_w8_.below.size⟩
            have h8_w8_ := HK8.out w8_ a8_w8_
            have aw_w8_ : After w w8_ := after_after inferInstance a0_w8_
            clear hy
            have X10 := Lib.hid x10
            clear x10
            go_wp2_with fail
            obtain ⟨g10, hg_⟩ : ∃ g, w8_.heap.size = g := ⟨_, rfl⟩
            obtain ⟨w9_, hU_, b10, HK10, Lq10⟩ : ∃ U, w8_.alloc (.cells #[.slice A10 H8.length c10, .slice B10 L8.length d10] 24) = U ∧ After w8_ U ∧ Hid (∀ V, After U V → V.cell? ⟨g10, 0, none⟩ = some (.slice A10 H8.length c10) ∧ V.cell? ⟨g10, 1, none⟩ = some (.slice B10 L8.length d10)) ∧ Le (g10 + 1) U := by
              refine ⟨_, rfl, inferInstance, fun V k_ => ?_, ⟨by rw [← hg_]; simp⟩⟩
              have f_ := (Blk.new w8_ 24 #[.slice A10 H8.length c10, .slice B10 L8.length d10]).after (w' := V)
              rw [hg_] at f_
              exact ⟨by rw [f_.cell]; rfl, by rw [f_.cell]; rfl⟩
            rw [hU_, hg_]
            clear hU_ hg_
            have a0_w9_ : After (((w.alloc (.cells #[.slice A h.length c, .slice B l.length d] 24)).alloc (.cells #[.slice A' h'.length c', .slice B' l'.length d'] 24)).alloc (.cells #[.slice A2 h2.length c2, .slice B2 l2.length d2] 24)) w9_ := after_after a0_w8_ b10
            have l00_w9_ : Le (w.heap.size + 1) w9_ := ⟨by have := a0_w9_.below.size; simp at this; omega⟩
            have l01_w9_ : Le (w.heap.size + 1 + 1) w9_ := ⟨by have := a0_w9_.below.size; simp at this; omega⟩
            have l02_w9_ : Le (w.heap.size + 1 + 1 + 1) w9_ := ⟨by have := a0_w9_.below.size; simp at this; omega⟩
            have h0_w9_ := HK.out w9_ a0_w9_
            have a7_w9_ : After w5_ w9_ := after_after a7_w8_ b10
            have l70_w9_ : Le (g7 + 1) w9_ := ⟨Nat.le_trans Lq7.le a7_w9_.below.size⟩
            have h7_w9_ := HK7.out w9_ a7_w9_
            have a8_w9_ : After w7_ w9_ := after_after a8_w8_ b10
            have l80_w9_ : Le (g8 + 1) w9_ := ⟨Nat.le_trans Lq8.le a8_w9_.below.size⟩
            have h8_w9_ := HK8.out w9_ a8_w9_
            have aw_w9_ : After w w9_ := after_after inferInstance a0_w9_
            have a10_w9_ : After w9_ w9_ := inferInstance
            have h10_w9_ := HK10.out w9_ a10_w9_
            replace X10 := Lib.hid (X10.out.here w9_)
            have q0_s := a0_w9_
            have q10_s : After w9_ w9_ := inferInstance
            have qw : ∀ V, After w9_ V → After w V := fun V k => after_after aw_w9_ k
            have q8 : ∀ V, After w9_ V → After w7_ V := fun V k => after_after a8_w9_ k
            have tk1 : True := trivial
            have tk2 : True := trivial
            have tk3 : True := trivial
            have tk4 : True := trivial
            go_region_held3 (fun V => (V.cell? ⟨w.heap.size, 0, none⟩ = some (.slice A h.length c) ∧ V.cell? ⟨w.heap.size, 1, none⟩ = some (.slice B l.length d)) ∧ (V.cell? ⟨g8, 0, none⟩ = some (.slice A8 H8.length c8) ∧ V.cell? ⟨g8, 1, none⟩ = some (.slice B8 L8.length d8)) ∧ V.cell? ⟨g10, 0, none⟩ = some (.slice A10 H8.length c10) ∧ V.cell? ⟨g10, 1, none⟩ = some (.slice B10 L8.length d10)) (exact ⟨⟨(HK.out _ inferInstance).1, (HK.out _ inferInstance).2.1⟩, HK8.out _ (q8 _ inferInstance), HK10.out _ inferInstance⟩)
              (first
              | (have _t := tk1; go_at_call 19; (with_reducible refine (Gives.on GC _ (qw _ inferInstance)).mono ?_); rintro e v1 ⟨rfl, hy⟩; have q0_v1 : After (((w.alloc (.cells #[.slice A h.length c, .slice B l.length d] 24)).alloc (.cells #[.slice A' h'.length c', .slice B' l'.length d'] 24)).alloc (.cells #[.slice A2 h2.length c2, .slice B2 l2.length d2] 24)) v1 := after_of_more hy (after_after q0_s inferInstance); have q10_v1 : After w9_ v1 := after_of_more hy (after_after q10_s inferInstance); clear hy _t tk1)
              | (have _t := tk2; go_at_call 20; (with_reducible refine (GivesW.on GN _ (qw _ (after_after q10_v1 inferInstance))).mono ?_); rintro e v2 ⟨A5, c5, B5, d5, rfl, x5, hy⟩; have q0_v2 : After (((w.alloc (.cells #[.slice A h.length c, .slice B l.length d] 24)).alloc (.cells #[.slice A' h'.length c', .slice B' l'.length d'] 24)).alloc (.cells #[.slice A2 h2.length c2, .slice B2 l2.length d2] 24)) v2 := after_of_more hy (after_after q0_v1 inferInstance); have q10_v2 : After w9_ v2 := after_of_more hy (after_after q10_v1 inferInstance); have E1 := equal_v ((X8.out.here w9_).here v2) x5 (v := true) (by simp); clear hy _t tk2)
              | (have _t := tk3; go_at_call 16; (with_reducible refine (Gives.on E1 _ inferInstance).mono ?_); rintro e v3 ⟨rfl, hy⟩; have q0_v3 : After (((w.alloc (.cells #[.slice A h.length c, .slice B l.length d] 24)).alloc (.cells #[.slice A' h'.length c', .slice B' l'.length d'] 24)).alloc (.cells #[.slice A2 h2.length c2, .slice B2 l2.length d2] 24)) v3 := after_of_more hy (after_after q0_v2 inferInstance); have q10_v3 : After w9_ v3 := after_of_more hy (after_after q10_v2 inferInstance); have E2 := equal_v ((X8.out.here w9_).here v3) (X10.out.here v3) (v := true) (by simp); clear hy _t tk3)
              | (have _t := tk4; go_at_call 16; (with_reducible refine (Gives.on E2 _ inferInstance).mono ?_); rintro e v4 ⟨rfl, hy⟩; have q0_v4 : After (((w.alloc (.cells #[.slice A h.length c, .slice B l.length d] 24)).alloc (.cells #[.slice A' h'.length c', .slice B' l'.length d'] 24)).alloc (.cells #[.slice A2 h2.length c2, .slice B2 l2.length d2] 24)) v4 := after_of_more hy (after_after q0_v3 inferInstance); have q10_v4 : After w9_ v4 := after_of_more hy (after_after q10_v3 inferInstance); clear hy _t tk4))
            have hy : ∃ y, v4 = v4.more y := more_self v4
            clear hy
            have a0_v4 : After (((w.alloc (.cells #[.slice A h.length c, .slice B l.length d] 24)).alloc (.cells #[.slice A' h'.length c', .slice B' l'.length d'] 24)).alloc (.cells #[.slice A2 h2.length c2, .slice B2 l2.length d2] 24)) v4 := after_after a0_w9_ q10_v4
            have l00_v4 : Le (w.heap.size + 1) v4 := ⟨by have := a0_v4.below.size; simp at this; omega⟩
            have l01_v4 : Le (w.heap.size + 1 + 1) v4 := ⟨by have := a0_v4.below.size; simp at this; omega⟩
            have l02_v4 : Le (w.heap.size + 1 + 1 + 1) v4 := ⟨by have := a0_v4.below.size; simp at this; omega⟩
            have h0_v4 := HK.out v4 a0_v4
            have a7_v4 : After w5_ v4 := after_after a7_w9_ q10_v4
            have l70_v4 : Le (g7 + 1) v4 := ⟨Nat.le_trans Lq7.le a7_v4.below.size⟩
            have h7_v4 := HK7.out v4 a7_v4
            have a8_v4 : After w7_ v4 := after_after a8_w9_ q10_v4
            have l80_v4 : Le (g8 + 1) v4 := ⟨Nat.le_trans Lq8.le a8_v4.below.size⟩
            have h8_v4 := HK8.out v4 a8_v4
            have a10_v4 : After w9_ v4 := after_after a10_w9_ q10_v4
            have l100_v4 : Le (g10 + 1) v4 := ⟨Nat.le_trans Lq10.le a10_v4.below.size⟩
            have h10_v4 := HK10.out v4 a10_v4
            have aw_v4 : After w v4 := after_after inferInstance a0_v4
            go_wp2_with fail
            refine (GivesW.on G12 _ (after_after aw_v4 inferInstance)).mono ?_
            rintro e w10_ ⟨A12, c12, B12, d12, rfl, x12, hy⟩
            have a0_w10_ : After (((w.alloc (.cells #[.slice A h.length c, .slice B l.length d] 24)).alloc (.cells #[.slice A' h'.length c', .slice B' l'.length d'] 24)).alloc (.cells #[.slice A2 h2.length c2, .slice B2 l2.length d2] 24)) w10_ := after_of_more hy (after_after a0_v4 inferInstance)
            have l00_w10_ : Le (w.heap.size + 1) w10_ := ⟨by have := a0_w10_.below.size; simp at this; omega⟩
            have l01_w10_ : Le (w.heap.size + 1 + 1) w10_ := ⟨by have := a0_w10_.below.size; simp at this; omega⟩
            have l02_w10_ : Le (w.heap.size + 1 + 1 + 1) w10_ := ⟨by have := a0_w10_.below.size; simp at this; omega⟩
            have h0_w10_ := HK.out w10_ a0_w10_
            have a7_w10_ : After w5_ w10_ := after_of_more hy (after_after a7_v4 inferInstance)
            have l70_w10_ : Le (g7 + 1) w10_ := ⟨Nat.le_trans Lq7.le a7_w10_.below.size⟩
            have h7_w10_ := HK7.out w10_ a7_w10_
            have a8_w10_ : After w7_ w10_ := after_of_more hy (after_after a8_v4 inferInstance)
            have l80_w10_ : Le (g8 + 1) w10_ := ⟨Nat.le_trans Lq8.le a8_w10_.below.size⟩
            have h8_w10_ := HK8.out w10_ a8_w10_
            have a10_w10_ : After w9_ w10_ := after_of_more hy (after_after a10_v4 inferInstance)
            have l100_w10_ : Le (g10 + 1) w10_ := ⟨Nat.le_trans Lq10.le a10_w10_.below.size⟩
            have h10_w10_ := HK10.out w10_ a10_w10_
            have aw_w10_ : After w w10_ := after_after inferInstance a0_w10_
            clear hy
            have X12 := Lib.hid x12
            clear x12
            go_wp2_with fail
            obtain ⟨g12, hg_⟩ : ∃ g, w10_.heap.size = g := ⟨_, rfl⟩
            obtain ⟨w11_, hU_, b12, HK12, Lq12⟩ : ∃ U, w10_.alloc (.cells #[.slice A12 H12.length c12, .slice B12 L12.length d12] 24) = U ∧ After w10_ U ∧ Hid (∀ V, After U V → V.cell? ⟨g12, 0, none⟩ = some (.slice A12 H12.length c12) ∧ V.cell? ⟨g12, 1, none⟩ = some (.slice B12 L12.length d12)) ∧ Le (g12 + 1) U := by
              refine ⟨_, rfl, inferInstance, fun V k_ => ?_, ⟨by rw [← hg_]; simp⟩⟩
              have f_ := (Blk.new w10_ 24 #[.slice A12 H12.length c12, .slice B12 L12.length d12]).after (w' := V)
              rw [hg_] at f_
              exact ⟨by rw [f_.cell]; rfl, by rw [f_.cell]; rfl⟩
            rw [hU_, hg_]
            clear hU_ hg_
            have a0_w11_ : After (((w.alloc (.cells #[.slice A h.length c, .slice B l.length d] 24)).alloc (.cells #[.slice A' h'.length c', .slice B' l'.length d'] 24)).alloc (.cells #[.slice A2 h2.length c2, .slice B2 l2.length d2] 24)) w11_ := after_after a0_w10_ b12
            have l00_w11_ : Le (w.heap.size + 1) w11_ := ⟨by have := a0_w11_.below.size; simp at this; omega⟩
            have l01_w11_ : Le (w.heap.size + 1 + 1) w11_ := ⟨by have := a0_w11_.below.size; simp at this; omega⟩
            have l02_w11_ : Le (w.heap.size + 1 + 1 + 1) w11_ := ⟨by have := a0_w11_.below.size; simp at this; omega⟩
            have h0_w11_ := HK.out w11_ a0_w11_
            have a7_w11_ : After w5_ w11_ := after_after a7_w10_ b12
            have l70_w11_ : Le (g7 + 1) w11_ := ⟨Nat.le_trans Lq7.le a7_w11_.below.size⟩
            have h7_w11_ := HK7.out w11_ a7_w11_
            have a8_w11_ : After w7_ w11_ := after_after a8_w10_ b12
            have l80_w11_ : Le (g8 + 1) w11_ := ⟨Nat.le_trans Lq8.le a8_w11_.below.size⟩
            have h8_w11_ := HK8.out w11_ a8_w11_
            have a10_w11_ : After w9_ w11_ := after_after a10_w10_ b12
            have l100_w11_ : Le (g10 + 1) w11_ := ⟨Nat.le_trans Lq10.le a10_w11_.below.size⟩
            have h10_w11_ := HK10.out w11_ a10_w11_
            have aw_w11_ : After w w11_ := after_after inferInstance a0_w11_
            have a12_w11_ : After w11_ w11_ := inferInstance
            have h12_w11_ := HK12.out w11_ a12_w11_
            replace X12 := Lib.hid (X12.out.here w11_)
            refine (GivesW.on G14 _ (after_after aw_w11_ inferInstance)).mono ?_
            rintro e w12_ ⟨A14, c14, B14, d14, rfl, x14, hy⟩
            have a0_w12_ : After (((w.alloc (.cells #[.slice A h.length c, .slice B l.length d] 24)).alloc (.cells #[.slice A' h'.length c', .slice B' l'.length d'] 24)).alloc (.cells #[.slice A2 h2.length c2, .slice B2 l2.length d2] 24)) w12_ := after_of_more hy (after_after a0_w11_ inferInstance)
            have l00_w12_ : Le (w.heap.size + 1) w12_ := ⟨by have := a0_w12_.below.size; simp at this; omega⟩
            have l01_w12_ : Le (w.heap.size + 1 + 1) w12_ := ⟨by have := a0_w12_.below.size; simp at this; omega⟩
            have l02_w12_ : Le (w.heap.size + 1 + 1 + 1) w12_ := ⟨by have := a0_w12_.below.size; simp at this; omega⟩
            have h0_w12_ := HK.out w12_ a0_w12_
            have a7_w12_ : After w5_ w12_ := after_of_more hy (after_after a7_w11_ inferInstance)
            have l70_w12_ : Le (g7 + 1) w12_ := ⟨Nat.le_trans Lq7.le a7_w12_.below.size⟩
            have h7_w12_ := HK7.out w12_ a7_w12_
            have a8_w12_ : After w7_ w12_ := after_of_more hy (after_after a8_w11_ inferInstance)
            have l80_w12_ : Le (g8 + 1) w12_ := ⟨Nat.le_trans Lq8.le a8_w12_.below.size⟩
            have h8_w12_ := HK8.out w12_ a8_w12_
            have a10_w12_ : After w9_ w12_ := after_of_more hy (after_after a10_w11_ inferInstance)
            have l100_w12_ : Le (g10 + 1) w12_ := ⟨Nat.le_trans Lq10.le a10_w12_.below.size⟩
            have h10_w12_ := HK10.out w12_ a10_w12_
            have a12_w12_ : After w11_ w12_ := after_of_more hy (after_after a12_w11_ inferInstance)
            have l120_w12_ : Le (g12 + 1) w12_ := ⟨Nat.le_trans Lq12.le a12_w12_.below.size⟩
            have h12_w12_ := HK12.out w12_ a12_w12_
            have aw_w12_ : After w w12_ := after_after inferInstance a0_w12_
            clear hy
            have X14 := Lib.hid x14
            clear x14
            go_wp2_with fail
            obtain ⟨g14, hg_⟩ : ∃ g, w12_.heap.size = g := ⟨_, rfl⟩
            obtain ⟨w13_, hU_, b14, HK14, Lq14⟩ : ∃ U, w12_.alloc (.cells #[.slice A14 H14.length c14, .slice B14 L14.length d14] 24) = U ∧ After w12_ U ∧ Hid (∀ V, After U V → V.cell? ⟨g14, 0, none⟩ = some (.slice A14 H14.length c14) ∧ V.cell? ⟨g14, 1, none⟩ = some (.slice B14 L14.length d14)) ∧ Le (g14 + 1) U := by
              refine ⟨_, rfl, inferInstance, fun V k_ => ?_, ⟨by rw [← hg_]; simp⟩⟩
              have f_ := (Blk.new w12_ 24 #[.slice A14 H14.length c14, .slice B14 L14.length d14]).after (w' := V)
              rw [hg_] at f_
              exact ⟨by rw [f_.cell]; rfl, by rw [f_.cell]; rfl⟩
            rw [hU_, hg_]
            clear hU_ hg_
            have a0_w13_ : After (((w.alloc (.cells #[.slice A h.length c, .slice B l.length d] 24)).alloc (.cells #[.slice A' h'.length c', .slice B' l'.length d'] 24)).alloc (.cells #[.slice A2 h2.length c2, .slice B2 l2.length d2] 24)) w13_ := after_after a0_w12_ b14
            have l00_w13_ : Le (w.heap.size + 1) w13_ := ⟨by have := a0_w13_.below.size; simp at this; omega⟩
            have l01_w13_ : Le (w.heap.size + 1 + 1) w13_ := ⟨by have := a0_w13_.below.size; simp at this; omega⟩
            have l02_w13_ : Le (w.heap.size + 1 + 1 + 1) w13_ := ⟨by have := a0_w13_.below.size; simp at this; omega⟩
            have h0_w13_ := HK.out w13_ a0_w13_
            have a7_w13_ : After w5_ w13_ := after_after a7_w12_ b14
            have l70_w13_ : Le (g7 + 1) w13_ := ⟨Nat.le_trans Lq7.le a7_w13_.below.size⟩
            have h7_w13_ := HK7.out w13_ a7_w13_
            have a8_w13_ : After w7_ w13_ := after_after a8_w12_ b14
            have l80_w13_ : Le (g8 + 1) w13_ := ⟨Nat.le_trans Lq8.le a8_w13_.below.size⟩
            have h8_w13_ := HK8.out w13_ a8_w13_
            have a10_w13_ : After w9_ w13_ := after_after a10_w12_ b14
            have l100_w13_ : Le (g10 + 1) w13_ := ⟨Nat.le_trans Lq10.le a10_w13_.below.size⟩
            have h10_w13_ := HK10.out w13_ a10_w13_
            have a12_w13_ : After w11_ w13_ := after_after a12_w12_ b14
            have l120_w13_ : Le (g12 + 1) w13_ := ⟨Nat.le_trans Lq12.le a12_w13_.below.size⟩
            have h12_w13_ := HK12.out w13_ a12_w13_
            have aw_w13_ : After w w13_ := after_after inferInstance a0_w13_
            have a14_w13_ : After w13_ w13_ := inferInstance
            have h14_w13_ := HK14.out w13_ a14_w13_
            replace X14 := Lib.hid (X14.out.here w13_)
            refine (Gives.on GA _ (after_after aw_w13_ inferInstance)).mono ?_
            rintro e w14_ ⟨rfl, hy⟩
            have a0_w14_ : After (((w.alloc (.cells #[.slice A h.length c, .slice B l.length d] 24)).alloc (.cells #[.slice A' h'.length c', .slice B' l'.length d'] 24)).alloc (.cells #[.slice A2 h2.length c2, .slice B2 l2.length d2] 24)) w14_ := after_of_more hy (after_after a0_w13_ inferInstance)
            have l00_w14_ : Le (w.heap.size + 1) w14_ := ⟨by have := a0_w14_.below.size; simp at this; omega⟩
            have l01_w14_ : Le (w.heap.size + 1 + 1) w14_ := ⟨by have := a0_w14_.below.size; simp at this; omega⟩
            have l02_w14_ : Le (w.heap.size + 1 + 1 + 1) w14_ := ⟨by have := a0_w14_.below.size; simp at this; omega⟩
            have h0_w14_ := HK.out w14_ a0_w14_
            have a7_w14_ : After w5_ w14_ := after_of_more hy (after_after a7_w13_ inferInstance)
            have l70_w14_ : Le (g7 + 1) w14_ := ⟨Nat.le_trans Lq7.le a7_w14_.below.size⟩
            have h7_w14_ := HK7.out w14_ a7_w14_
            have a8_w14_ : After w7_ w14_ := after_of_more hy (after_after a8_w13_ inferInstance)
            have l80_w14_ : Le (g8 + 1) w14_ := ⟨Nat.le_trans Lq8.le a8_w14_.below.size⟩
            have h8_w14_ := HK8.out w14_ a8_w14_
            have a10_w14_ : After w9_ w14_ := after_of_more hy (after_after a10_w13_ inferInstance)
            have l100_w14_ : Le (g10 + 1) w14_ := ⟨Nat.le_trans Lq10.le a10_w14_.below.size⟩
            have h10_w14_ := HK10.out w14_ a10_w14_
            have a12_w14_ : After w11_ w14_ := after_of_more hy (after_after a12_w13_ inferInstance)
            have l120_w14_ : Le (g12 + 1) w14_ := ⟨Nat.le_trans Lq12.le a12_w14_.below.size⟩
            have h12_w14_ := HK12.out w14_ a12_w14_
            have a14_w14_ : After w13_ w14_ := after_of_more hy (after_after a14_w13_ inferInstance)
            have l140_w14_ : Le (g14 + 1) w14_ := ⟨Nat.le_trans Lq14.le a14_w14_.below.size⟩
            have h14_w14_ := HK14.out w14_ a14_w14_
            have aw_w14_ : After w w14_ := after_after inferInstance a0_w14_
            clear hy
            go_wp2_with fail
            go_ret
            exact ⟨rfl, @After.is_more w _ (after_after aw_w14_ inferInstance)⟩
        · obtain ⟨v1, ev, hv1⟩ : ∃ v, checkI h l = v ∧ (v == 0) = false := by
            rcases check_cases h l with hv' | ⟨_, h5 | h5⟩
            · exact absurd hv' hv
            · exact ⟨5, h5, rfl⟩
            · exact ⟨3, h5, rfl⟩
          have GC := check_v x ev
          obtain ⟨H8, L8, e9, e8⟩ : ∃ H L e, onW h l O I = ((H, L), e) := ⟨_, _, _, rfl⟩
          obtain ⟨H10, L10, e11, e10⟩ : ∃ H L e, onW O I h l = ((H, L), e) := ⟨_, _, _, rfl⟩
          replace e8 := Lib.hid e8
          replace e10 := Lib.hid e10
          rcases on_shape h l h' l' with ⟨H12, L12, e12, hv', _⟩ | ⟨H12, L12, e1, e12, k1, k1'⟩
          · exact absurd hv' hv
          · have G12 := on_v x x' e12
            obtain ⟨H14, L14, e2, e14⟩ : ∃ H L e, onW h' l' h2 l2 = ((H, L), e) := ⟨_, _, _, rfl⟩
            have G14 := on_v x' x2 e14
            clear e12 e14 hv hO hI ev
            go_enter Try.func4, Try.ntmps4
            go_wp2_with fail
            refine (Gives.on G1 _ inferInstance).mono ?_
            rintro e w1_ ⟨rfl, hy⟩
            have a0_w1_ : After (((w.alloc (.cells #[.slice A h.length c, .slice B l.length d] 24)).alloc (.cells #[.slice A' h'.length c', .slice B' l'.length d'] 24)).alloc (.cells #[.slice A2 h2.length c2, .slice B2 l2.length d2] 24)) w1_ := after_of_more hy inferInstance
            have l00_w1_ : Le (w.heap.size + 1) w1_ := ⟨by have := a0_w1_.below.size; simp at this; omega⟩
            have l01_w1_ : Le (w.heap.size + 1 + 1) w1_ := ⟨by have := a0_w1_.below.size; simp at this; omega⟩
            have l02_w1_ : Le (w.heap.size + 1 + 1 + 1) w1_ := ⟨by have := a0_w1_.below.size; simp at this; omega⟩
            have h0_w1_ := HK.out w1_ a0_w1_
            have aw_w1_ : After w w1_ := after_after inferInstance a0_w1_
            clear hy
            go_wp2_with fail
            refine (Gives.on G2 _ (after_after aw_w1_ inferInstance)).mono ?_
            rintro e w2_ ⟨rfl, hy⟩
            have a0_w2_ : After (((w.alloc (.cells #[.slice A h.length c, .slice B l.length d] 24)).alloc (.cells #[.slice A' h'.length c', .slice B' l'.length d'] 24)).alloc (.cells #[.slice A2 h2.length c2, .slice B2 l2.length d2] 24)) w2_ := after_of_more hy (after_after a0_w1_ inferInstance)
            have l00_w2_ : Le (w.heap.size + 1) w2_ := ⟨by have := a0_w2_.below.size; simp at this; omega⟩
            have l01_w2_ : Le (w.heap.size + 1 + 1) w2_ := ⟨by have := a0_w2_.below.size; simp at this; omega⟩
            have l02_w2_ : Le (w.heap.size + 1 + 1 + 1) w2_ := ⟨by have := a0_w2_.below.size; simp at this; omega⟩
            have h0_w2_ := HK.out w2_ a0_w2_
            have aw_w2_ : After w w2_ := after_after inferInstance a0_w2_
            clear hy
            go_wp2_with fail
            refine (Gives.on G6 _ (after_after aw_w2_ inferInstance)).mono ?_
            rintro e w3_ ⟨rfl, hy⟩
            have a0_w3_ : After (((w.alloc (.cells #[.slice A h.length c, .slice B l.length d] 24)).alloc (.cells #[.slice A' h'.length c', .slice B' l'.length d'] 24)).alloc (.cells #[.slice A2 h2.length c2, .slice B2 l2.length d2] 24)) w3_ := after_of_more hy (after_after a0_w2_ inferInstance)
            have l00_w3_ : Le (w.heap.size + 1) w3_ := ⟨by have := a0_w3_.below.size; simp at this; omega⟩
            have l01_w3_ : Le (w.heap.size + 1 + 1) w3_ := ⟨by have := a0_w3_.below.size; simp at this; omega⟩
            have l02_w3_ : Le (w.heap.size + 1 + 1 + 1) w3_ := ⟨by have := a0_w3_.below.size; simp at this; omega⟩
            have h0_w3_ := HK.out w3_ a0_w3_
            have aw_w3_ : After w w3_ := after_after inferInstance a0_w3_
            clear hy
            go_wp2_with fail
            refine (GivesW.on GW _ (after_after aw_w3_ inferInstance)).mono ?_
            rintro e w4_ ⟨A7, c7, B7, d7, rfl, x7, hy⟩
            have a0_w4_ : After (((w.alloc (.cells #[.slice A h.length c, .slice B l.length d] 24)).alloc (.cells #[.slice A' h'.length c', .slice B' l'.length d'] 24)).alloc (.cells #[.slice A2 h2.length c2, .slice B2 l2.length d2] 24)) w4_ := after_of_more hy (after_after a0_w3_ inferInstance)
            have l00_w4_ : Le (w.heap.size + 1) w4_ := ⟨by have := a0_w4_.below.size; simp at this; omega⟩
            have l01_w4_ : Le (w.heap.size + 1 + 1) w4_ := ⟨by have := a0_w4_.below.size; simp at this; omega⟩
            have l02_w4_ : Le (w.heap.size + 1 + 1 + 1) w4_ := ⟨by have := a0_w4_.below.size; simp at this; omega⟩
            have h0_w4_ := HK.out w4_ a0_w4_
            have aw_w4_ : After w w4_ := after_after inferInstance a0_w4_
            clear hy
            have X7 := Lib.hid x7
            clear x7
            go_wp2_with fail
            obtain ⟨g7, hg_⟩ : ∃ g, w4_.heap.size = g := ⟨_, rfl⟩
            obtain ⟨w5_, hU_, b7, HK7, Lq7⟩ : ∃ U, w4_.alloc (.cells #[.slice A7 O.length c7, .slice B7 I.length d7] 24) = U ∧ After w4_ U ∧ Hid (∀ V, After U V → V.cell? ⟨g7, 0, none⟩ = some (.slice A7 O.length c7) ∧ V.cell? ⟨g7, 1, none⟩ = some (.slice B7 I.length d7)) ∧ Le (g7 + 1) U := by
              refine ⟨_, rfl, inferInstance, fun V k_ => ?_, ⟨by rw [← hg_]; simp⟩⟩
              have f_ := (Blk.new w4_ 24 #[.slice A7 O.length c7, .slice B7 I.length d7]).after (w' := V)
              rw [hg_] at f_
              exact ⟨by rw [f_.cell]; rfl, by rw [f_.cell]; rfl⟩
            rw [hU_, hg_]
            clear hU_ hg_
            have a0_w5_ : After (((w.alloc (.cells #[.slice A h.length c, .slice B l.length d] 24)).alloc (.cells #[.slice A' h'.length c', .slice B' l'.length d'] 24)).alloc (.cells #[.slice A2 h2.length c2, .slice B2 l2.length d2] 24)) w5_ := after_after a0_w4_ b7
            have l00_w5_ : Le (w.heap.size + 1) w5_ := ⟨by have := a0_w5_.below.size; simp at this; omega⟩
            have l01_w5_ : Le (w.heap.size + 1 + 1) w5_ := ⟨by have := a0_w5_.below.size; simp at this; omega⟩
            have l02_w5_ : Le (w.heap.size + 1 + 1 + 1) w5_ := ⟨by have := a0_w5_.below.size; simp at this; omega⟩
            have h0_w5_ := HK.out w5_ a0_w5_
            have aw_w5_ : After w w5_ := after_after inferInstance a0_w5_
            have a7_w5_ : After w5_ w5_ := inferInstance
            have h7_w5_ := HK7.out w5_ a7_w5_
            replace X7 := Lib.hid (X7.out.here w5_)
            have G8 := on_v (x.here w5_) X7.out e8.out
            refine (GivesW.on G8 _ (after_after a7_w5_ inferInstance)).mono ?_
            rintro e w6_ ⟨A8, c8, B8, d8, rfl, x8, hy⟩
            have a0_w6_ : After (((w.alloc (.cells #[.slice A h.length c, .slice B l.length d] 24)).alloc (.cells #[.slice A' h'.length c', .slice B' l'.length d'] 24)).alloc (.cells #[.slice A2 h2.length c2, .slice B2 l2.length d2] 24)) w6_ := after_of_more hy (after_after a0_w5_ inferInstance)
            have l00_w6_ : Le (w.heap.size + 1) w6_ := ⟨by have := a0_w6_.below.size; simp at this; omega⟩
            have l01_w6_ : Le (w.heap.size + 1 + 1) w6_ := ⟨by have := a0_w6_.below.size; simp at this; omega⟩
            have l02_w6_ : Le (w.heap.size + 1 + 1 + 1) w6_ := ⟨by have := a0_w6_.below.size; simp at this; omega⟩
            have h0_w6_ := HK.out w6_ a0_w6_
            have a7_w6_ : After w5_ w6_ := after_of_more hy (after_after a7_w5_ inferInstance)
            have l70_w6_ : Le (g7 + 1) w6_ := ⟨Nat.le_trans Lq7.le a7_w6_.below.size⟩
            have h7_w6_ := HK7.out w6_ a7_w6_
            have aw_w6_ : After w w6_ := after_after inferInstance a0_w6_
            clear hy
            have X8 := Lib.hid x8
            clear x8
            go_wp2_with fail
            obtain ⟨g8, hg_⟩ : ∃ g, w6_.heap.size = g := ⟨_, rfl⟩
            obtain ⟨w7_, hU_, b8, HK8, Lq8⟩ : ∃ U, w6_.alloc (.cells #[.slice A8 H8.length c8, .slice B8 L8.length d8] 24) = U ∧ After w6_ U ∧ Hid (∀ V, After U V → V.cell? ⟨g8, 0, none⟩ = some (.slice A8 H8.length c8) ∧ V.cell? ⟨g8, 1, none⟩ = some (.slice B8 L8.length d8)) ∧ Le (g8 + 1) U := by
              refine ⟨_, rfl, inferInstance, fun V k_ => ?_, ⟨by rw [← hg_]; simp⟩⟩
              have f_ := (Blk.new w6_ 24 #[.slice A8 H8.length c8, .slice B8 L8.length d8]).after (w' := V)
              rw [hg_] at f_
              exact ⟨by rw [f_.cell]; rfl, by rw [f_.cell]; rfl⟩
            rw [hU_, hg_]
            clear hU_ hg_
            have a0_w7_ : After (((w.alloc (.cells #[.slice A h.length c, .slice B l.length d] 24)).alloc (.cells #[.slice A' h'.length c', .slice B' l'.length d'] 24)).alloc (.cells #[.slice A2 h2.length c2, .slice B2 l2.length d2] 24)) w7_ := after_after a0_w6_ b8
            have l00_w7_ : Le (w.heap.size + 1) w7_ := ⟨by have := a0_w7_.below.size; simp at this; omega⟩
            have l01_w7_ : Le (w.heap.size + 1 + 1) w7_ := ⟨by have := a0_w7_.below.size; simp at this; omega⟩
            have l02_w7_ : Le (w.heap.size + 1 + 1 + 1) w7_ := ⟨by have := a0_w7_.below.size; simp at this; omega⟩
            have h0_w7_ := HK.out w7_ a0_w7_
            have a7_w7_ : After w5_ w7_ := after_after a7_w6_ b8
            have l70_w7_ : Le (g7 + 1) w7_ := ⟨Nat.le_trans Lq7.le a7_w7_.below.size⟩
            have h7_w7_ := HK7.out w7_ a7_w7_
            have aw_w7_ : After w w7_ := after_after inferInstance a0_w7_
            have a8_w7_ : After w7_ w7_ := inferInstance
            have h8_w7_ := HK8.out w7_ a8_w7_
            replace X8 := Lib.hid (X8.out.here w7_)
            have G10 := on_v (X7.out.here w7_) (x.here w7_) e10.out
            refine (GivesW.on G10 _ (after_after a8_w7_ inferInstance)).mono ?_
            rintro e w8_ ⟨A10, c10, B10, d10, rfl, x10, hy⟩
            have a0_w8_ : After (((w.alloc (.cells #[.slice A h.length c, .slice B l.length d] 24)).alloc (.cells #[.slice A' h'.length c', .slice B' l'.length d'] 24)).alloc (.cells #[.slice A2 h2.length c2, .slice B2 l2.length d2] 24)) w8_ := after_of_more hy (after_after a0_w7_ inferInstance)
            have l00_w8_ : Le (w.heap.size + 1) w8_ := ⟨by have := a0_w8_.below.size; simp at this; omega⟩
            have l01_w8_ : Le (w.heap.size + 1 + 1) w8_ := ⟨by have := a0_w8_.below.size; simp at this; omega⟩
            have l02_w8_ : Le (w.heap.size + 1 + 1 + 1) w8_ := ⟨by have := a0_w8_.below.size; simp at this; omega⟩
            have h0_w8_ := HK.out w8_ a0_w8_
            have a7_w8_ : After w5_ w8_ := after_of_more hy (after_after a7_w7_ inferInstance)
            have l70_w8_ : Le (g7 + 1) w8_ := ⟨Nat.le_trans Lq7.le a7_w8_.below.size⟩
            have h7_w8_ := HK7.out w8_ a7_w8_
            have a8_w8_ : After w7_ w8_ := after_of_more hy (after_after a8_w7_ inferInstance)
            have l80_w8_ : Le (g8 + 1) w8_ := ⟨Nat.le_trans Lq8.le a8_w8_.below.size⟩
            have h8_w8_ := HK8.out w8_ a8_w8_
            have aw_w8_ : After w w8_ := after_after inferInstance a0_w8_
            clear hy
            have X10 := Lib.hid x10
            clear x10
            go_wp2_with fail
            obtain ⟨g10, hg_⟩ : ∃ g, w8_.heap.size = g := ⟨_, rfl⟩
            obtain ⟨w9_, hU_, b10, HK10, Lq10⟩ : ∃ U, w8_.alloc (.cells #[.slice A10 H10.length c10, .slice B10 L10.length d10] 24) = U ∧ After w8_ U ∧ Hid (∀ V, After U V → V.cell? ⟨g10, 0, none⟩ = some (.slice A10 H10.length c10) ∧ V.cell? ⟨g10, 1, none⟩ = some (.slice B10 L10.length d10)) ∧ Le (g10 + 1) U := by
              refine ⟨_, rfl, inferInstance, fun V k_ => ?_, ⟨by rw [← hg_]; simp⟩⟩
              have f_ := (Blk.new w8_ 24 #[.slice A10 H10.length c10, .slice B10 L10.length d10]).after (w' := V)
              rw [hg_] at f_
              exact ⟨by rw [f_.cell]; rfl, by rw [f_.cell]; rfl⟩
            rw [hU_, hg_]
            clear hU_ hg_
            have a0_w9_ : After (((w.alloc (.cells #[.slice A h.length c, .slice B l.length d] 24)).alloc (.cells #[.slice A' h'.length c', .slice B' l'.length d'] 24)).alloc (.cells #[.slice A2 h2.length c2, .slice B2 l2.length d2] 24)) w9_ := after_after a0_w8_ b10
            have l00_w9_ : Le (w.heap.size + 1) w9_ := ⟨by have := a0_w9_.below.size; simp at this; omega⟩
            have l01_w9_ : Le (w.heap.size + 1 + 1) w9_ := ⟨by have := a0_w9_.below.size; simp at this; omega⟩
            have l02_w9_ : Le (w.heap.size + 1 + 1 + 1) w9_ := ⟨by have := a0_w9_.below.size; simp at this; omega⟩
            have h0_w9_ := HK.out w9_ a0_w9_
            have a7_w9_ : After w5_ w9_ := after_after a7_w8_ b10
            have l70_w9_ : Le (g7 + 1) w9_ := ⟨Nat.le_trans Lq7.le a7_w9_.below.size⟩
            have h7_w9_ := HK7.out w9_ a7_w9_
            have a8_w9_ : After w7_ w9_ := after_after a8_w8_ b10
            have l80_w9_ : Le (g8 + 1) w9_ := ⟨Nat.le_trans Lq8.le a8_w9_.below.size⟩
            have h8_w9_ := HK8.out w9_ a8_w9_
            have aw_w9_ : After w w9_ := after_after inferInstance a0_w9_
            have a10_w9_ : After w9_ w9_ := inferInstance
            have h10_w9_ := HK10.out w9_ a10_w9_
            replace X10 := Lib.hid (X10.out.here w9_)
            go_wp2_with fail
            refine wp_region_more (by kernel_rfl) (by kernel_rfl) ?_
            repeat (go_big_quiet_step ((first | (go_at_call 19; with_reducible exact Calls.more_of (Gives.on GC _ (after_after aw_w9_ inferInstance))))))
            refine wpQuiet_nil ?_
            rintro _ ⟨yr, rfl⟩
            obtain ⟨w10_, hw_, hy⟩ : ∃ U, w9_.more yr = U ∧ ∃ y, U = w9_.more y := ⟨_, rfl, _, rfl⟩
            rw [hw_]
            clear hw_
            have a0_w10_ : After (((w.alloc (.cells #[.slice A h.length c, .slice B l.length d] 24)).alloc (.cells #[.slice A' h'.length c', .slice B' l'.length d'] 24)).alloc (.cells #[.slice A2 h2.length c2, .slice B2 l2.length d2] 24)) w10_ := after_of_more hy (after_after a0_w9_ inferInstance)
            have l00_w10_ : Le (w.heap.size + 1) w10_ := ⟨by have := a0_w10_.below.size; simp at this; omega⟩
            have l01_w10_ : Le (w.heap.size + 1 + 1) w10_ := ⟨by have := a0_w10_.below.size; simp at this; omega⟩
            have l02_w10_ : Le (w.heap.size + 1 + 1 + 1) w10_ := ⟨by have := a0_w10_.below.size; simp at this; omega⟩
            have h0_w10_ := HK.out w10_ a0_w10_
            have a7_w10_ : After w5_ w10_ := after_of_more hy (after_after a7_w9_ inferInstance)
            have l70_w10_ : Le (g7 + 1) w10_ := ⟨Nat.le_trans Lq7.le a7_w10_.below.size⟩
            have h7_w10_ := HK7.out w10_ a7_w10_
            have a8_w10_ : After w7_ w10_ := after_of_more hy (after_after a8_w9_ inferInstance)
            have l80_w10_ : Le (g8 + 1) w10_ := ⟨Nat.le_trans Lq8.le a8_w10_.below.size⟩
            have h8_w10_ := HK8.out w10_ a8_w10_
            have a10_w10_ : After w9_ w10_ := after_of_more hy (after_after a10_w9_ inferInstance)
            have l100_w10_ : Le (g10 + 1) w10_ := ⟨Nat.le_trans Lq10.le a10_w10_.below.size⟩
            have h10_w10_ := HK10.out w10_ a10_w10_
            have aw_w10_ : After w w10_ := after_after inferInstance a0_w10_
            clear hy
            go_wp2_with fail
            refine (GivesW.on G12 _ (after_after aw_w10_ inferInstance)).mono ?_
            rintro e w11_ ⟨A12, c12, B12, d12, rfl, x12, hy⟩
            have a0_w11_ : After (((w.alloc (.cells #[.slice A h.length c, .slice B l.length d] 24)).alloc (.cells #[.slice A' h'.length c', .slice B' l'.length d'] 24)).alloc (.cells #[.slice A2 h2.length c2, .slice B2 l2.length d2] 24)) w11_ := after_of_more hy (after_after a0_w10_ inferInstance)
            have l00_w11_ : Le (w.heap.size + 1) w11_ := ⟨by have := a0_w11_.below.size; simp at this; omega⟩
            have l01_w11_ : Le (w.heap.size + 1 + 1) w11_ := ⟨by have := a0_w11_.below.size; simp at this; omega⟩
            have l02_w11_ : Le (w.heap.size + 1 + 1 + 1) w11_ := ⟨by have := a0_w11_.below.size; simp at this; omega⟩
            have h0_w11_ := HK.out w11_ a0_w11_
            have a7_w11_ : After w5_ w11_ := after_of_more hy (after_after a7_w10_ inferInstance)
            have l70_w11_ : Le (g7 + 1) w11_ := ⟨Nat.le_trans Lq7.le a7_w11_.below.size⟩
            have h7_w11_ := HK7.out w11_ a7_w11_
            have a8_w11_ : After w7_ w11_ := after_of_more hy (after_after a8_w10_ inferInstance)
            have l80_w11_ : Le (g8 + 1) w11_ := ⟨Nat.le_trans Lq8.le a8_w11_.below.size⟩
            have h8_w11_ := HK8.out w11_ a8_w11_
            have a10_w11_ : After w9_ w11_ := after_of_more hy (after_after a10_w10_ inferInstance)
            have l100_w11_ : Le (g10 + 1) w11_ := ⟨Nat.le_trans Lq10.le a10_w11_.below.size⟩
            have h10_w11_ := HK10.out w11_ a10_w11_
            have aw_w11_ : After w w11_ := after_after inferInstance a0_w11_
            clear hy
            have X12 := Lib.hid x12
            clear x12
            go_wp2_with fail
            obtain ⟨g12, hg_⟩ : ∃ g, w11_.heap.size = g := ⟨_, rfl⟩
            obtain ⟨w12_, hU_, b12, HK12, Lq12⟩ : ∃ U, w11_.alloc (.cells #[.slice A12 H12.length c12, .slice B12 L12.length d12] 24) = U ∧ After w11_ U ∧ Hid (∀ V, After U V → V.cell? ⟨g12, 0, none⟩ = some (.slice A12 H12.length c12) ∧ V.cell? ⟨g12, 1, none⟩ = some (.slice B12 L12.length d12)) ∧ Le (g12 + 1) U := by
              refine ⟨_, rfl, inferInstance, fun V k_ => ?_, ⟨by rw [← hg_]; simp⟩⟩
              have f_ := (Blk.new w11_ 24 #[.slice A12 H12.length c12, .slice B12 L12.length d12]).after (w' := V)
              rw [hg_] at f_
              exact ⟨by rw [f_.cell]; rfl, by rw [f_.cell]; rfl⟩
            rw [hU_, hg_]
            clear hU_ hg_
            have a0_w12_ : After (((w.alloc (.cells #[.slice A h.length c, .slice B l.length d] 24)).alloc (.cells #[.slice A' h'.length c', .slice B' l'.length d'] 24)).alloc (.cells #[.slice A2 h2.length c2, .slice B2 l2.length d2] 24)) w12_ := after_after a0_w11_ b12
            have l00_w12_ : Le (w.heap.size + 1) w12_ := ⟨by have := a0_w12_.below.size; simp at this; omega⟩
            have l01_w12_ : Le (w.heap.size + 1 + 1) w12_ := ⟨by have := a0_w12_.below.size; simp at this; omega⟩
            have l02_w12_ : Le (w.heap.size + 1 + 1 + 1) w12_ := ⟨by have := a0_w12_.below.size; simp at this; omega⟩
            have h0_w12_ := HK.out w12_ a0_w12_
            have a7_w12_ : After w5_ w12_ := after_after a7_w11_ b12
            have l70_w12_ : Le (g7 + 1) w12_ := ⟨Nat.le_trans Lq7.le a7_w12_.below.size⟩
            have h7_w12_ := HK7.out w12_ a7_w12_
            have a8_w12_ : After w7_ w12_ := after_after a8_w11_ b12
            have l80_w12_ : Le (g8 + 1) w12_ := ⟨Nat.le_trans Lq8.le a8_w12_.below.size⟩
            have h8_w12_ := HK8.out w12_ a8_w12_
            have a10_w12_ : After w9_ w12_ := after_after a10_w11_ b12
            have l100_w12_ : Le (g10 + 1) w12_ := ⟨Nat.le_trans Lq10.le a10_w12_.below.size⟩
            have h10_w12_ := HK10.out w12_ a10_w12_
            have aw_w12_ : After w w12_ := after_after inferInstance a0_w12_
            have a12_w12_ : After w12_ w12_ := inferInstance
            have h12_w12_ := HK12.out w12_ a12_w12_
            replace X12 := Lib.hid (X12.out.here w12_)
            refine (GivesW.on G14 _ (after_after aw_w12_ inferInstance)).mono ?_
            rintro e w13_ ⟨A14, c14, B14, d14, rfl, x14, hy⟩
            have a0_w13_ : After (((w.alloc (.cells #[.slice A h.length c, .slice B l.length d] 24)).alloc (.cells #[.slice A' h'.length c', .slice B' l'.length d'] 24)).alloc (.cells #[.slice A2 h2.length c2, .slice B2 l2.length d2] 24)) w13_ := after_of_more hy (after_after a0_w12_ inferInstance)
            have l00_w13_ : Le (w.heap.size + 1) w13_ := ⟨by have := a0_w13_.below.size; simp at this; omega⟩
            have l01_w13_ : Le (w.heap.size + 1 + 1) w13_ := ⟨by have := a0_w13_.below.size; simp at this; omega⟩
            have l02_w13_ : Le (w.heap.size + 1 + 1 + 1) w13_ := ⟨by have := a0_w13_.below.size; simp at this; omega⟩
            have h0_w13_ := HK.out w13_ a0_w13_
            have a7_w13_ : After w5_ w13_ := after_of_more hy (after_after a7_w12_ inferInstance)
            have l70_w13_ : Le (g7 + 1) w13_ := ⟨Nat.le_trans Lq7.le a7_w13_.below.size⟩
            have h7_w13_ := HK7.out w13_ a7_w13_
            have a8_w13_ : After w7_ w13_ := after_of_more hy (after_after a8_w12_ inferInstance)
            have l80_w13_ : Le (g8 + 1) w13_ := ⟨Nat.le_trans Lq8.le a8_w13_.below.size⟩
            have h8_w13_ := HK8.out w13_ a8_w13_
            have a10_w13_ : After w9_ w13_ := after_of_more hy (after_after a10_w12_ inferInstance)
            have l100_w13_ : Le (g10 + 1) w13_ := ⟨Nat.le_trans Lq10.le a10_w13_.below.size⟩
            have h10_w13_ := HK10.out w13_ a10_w13_
            have a12_w13_ : After w12_ w13_ := after_of_more hy (after_after a12_w12_ inferInstance)
            have l120_w13_ : Le (g12 + 1) w13_ := ⟨Nat.le_trans Lq12.le a12_w13_.below.size⟩
            have h12_w13_ := HK12.out w13_ a12_w13_
            have aw_w13_ : After w w13_ := after_after inferInstance a0_w13_
            clear hy
            have X14 := Lib.hid x14
            clear x14
            go_wp2_with fail
            obtain ⟨g14, hg_⟩ : ∃ g, w13_.heap.size = g := ⟨_, rfl⟩
            obtain ⟨w14_, hU_, b14, HK14, Lq14⟩ : ∃ U, w13_.alloc (.cells #[.slice A14 H14.length c14, .slice B14 L14.length d14] 24) = U ∧ After w13_ U ∧ Hid (∀ V, After U V → V.cell? ⟨g14, 0, none⟩ = some (.slice A14 H14.length c14) ∧ V.cell? ⟨g14, 1, none⟩ = some (.slice B14 L14.length d14)) ∧ Le (g14 + 1) U := by
              refine ⟨_, rfl, inferInstance, fun V k_ => ?_, ⟨by rw [← hg_]; simp⟩⟩
              have f_ := (Blk.new w13_ 24 #[.slice A14 H14.length c14, .slice B14 L14.length d14]).after (w' := V)
              rw [hg_] at f_
              exact ⟨by rw [f_.cell]; rfl, by rw [f_.cell]; rfl⟩
            rw [hU_, hg_]
            clear hU_ hg_
            have a0_w14_ : After (((w.alloc (.cells #[.slice A h.length c, .slice B l.length d] 24)).alloc (.cells #[.slice A' h'.length c', .slice B' l'.length d'] 24)).alloc (.cells #[.slice A2 h2.length c2, .slice B2 l2.length d2] 24)) w14_ := after_after a0_w13_ b14
            have l00_w14_ : Le (w.heap.size + 1) w14_ := ⟨by have := a0_w14_.below.size; simp at this; omega⟩
            have l01_w14_ : Le (w.heap.size + 1 + 1) w14_ := ⟨by have := a0_w14_.below.size; simp at this; omega⟩
            have l02_w14_ : Le (w.heap.size + 1 + 1 + 1) w14_ := ⟨by have := a0_w14_.below.size; simp at this; omega⟩
            have h0_w14_ := HK.out w14_ a0_w14_
            have a7_w14_ : After w5_ w14_ := after_after a7_w13_ b14
            have l70_w14_ : Le (g7 + 1) w14_ := ⟨Nat.le_trans Lq7.le a7_w14_.below.size⟩
            have h7_w14_ := HK7.out w14_ a7_w14_
            have a8_w14_ : After w7_ w14_ := after_after a8_w13_ b14
            have l80_w14_ : Le (g8 + 1) w14_ := ⟨Nat.le_trans Lq8.le a8_w14_.below.size⟩
            have h8_w14_ := HK8.out w14_ a8_w14_
            have a10_w14_ : After w9_ w14_ := after_after a10_w13_ b14
            have l100_w14_ : Le (g10 + 1) w14_ := ⟨Nat.le_trans Lq10.le a10_w14_.below.size⟩
            have h10_w14_ := HK10.out w14_ a10_w14_
            have a12_w14_ : After w12_ w14_ := after_after a12_w13_ b14
            have l120_w14_ : Le (g12 + 1) w14_ := ⟨Nat.le_trans Lq12.le a12_w14_.below.size⟩
            have h12_w14_ := HK12.out w14_ a12_w14_
            have aw_w14_ : After w w14_ := after_after inferInstance a0_w14_
            have a14_w14_ : After w14_ w14_ := inferInstance
            have h14_w14_ := HK14.out w14_ a14_w14_
            replace X14 := Lib.hid (X14.out.here w14_)
            refine (Gives.on GA _ (after_after aw_w14_ inferInstance)).mono ?_
            rintro e w15_ ⟨rfl, hy⟩
            have a0_w15_ : After (((w.alloc (.cells #[.slice A h.length c, .slice B l.length d] 24)).alloc (.cells #[.slice A' h'.length c', .slice B' l'.length d'] 24)).alloc (.cells #[.slice A2 h2.length c2, .slice B2 l2.length d2] 24)) w15_ := after_of_more hy (after_after a0_w14_ inferInstance)
            have l00_w15_ : Le (w.heap.size + 1) w15_ := ⟨by have := a0_w15_.below.size; simp at this; omega⟩
            have l01_w15_ : Le (w.heap.size + 1 + 1) w15_ := ⟨by have := a0_w15_.below.size; simp at this; omega⟩
            have l02_w15_ : Le (w.heap.size + 1 + 1 + 1) w15_ := ⟨by have := a0_w15_.below.size; simp at this; omega⟩
            have h0_w15_ := HK.out w15_ a0_w15_
            have a7_w15_ : After w5_ w15_ := after_of_more hy (after_after a7_w14_ inferInstance)
            have l70_w15_ : Le (g7 + 1) w15_ := ⟨Nat.le_trans Lq7.le a7_w15_.below.size⟩
            have h7_w15_ := HK7.out w15_ a7_w15_
            have a8_w15_ : After w7_ w15_ := after_of_more hy (after_after a8_w14_ inferInstance)
            have l80_w15_ : Le (g8 + 1) w15_ := ⟨Nat.le_trans Lq8.le a8_w15_.below.size⟩
            have h8_w15_ := HK8.out w15_ a8_w15_
            have a10_w15_ : After w9_ w15_ := after_of_more hy (after_after a10_w14_ inferInstance)
            have l100_w15_ : Le (g10 + 1) w15_ := ⟨Nat.le_trans Lq10.le a10_w15_.below.size⟩
            have h10_w15_ := HK10.out w15_ a10_w15_
            have a12_w15_ : After w12_ w15_ := after_of_more hy (after_after a12_w14_ inferInstance)
            have l120_w15_ : Le (g12 + 1) w15_ := ⟨Nat.le_trans Lq12.le a12_w15_.below.size⟩
            have h12_w15_ := HK12.out w15_ a12_w15_
            have a14_w15_ : After w14_ w15_ := after_of_more hy (after_after a14_w14_ inferInstance)
            have l140_w15_ : Le (g14 + 1) w15_ := ⟨Nat.le_trans Lq14.le a14_w15_.below.size⟩
            have h14_w15_ := HK14.out w15_ a14_w15_
            have aw_w15_ : After w w15_ := after_after inferInstance a0_w15_
            clear hy
            go_wp2_with fail
            go_ret
            exact ⟨rfl, @After.is_more w _ (after_after aw_w15_ inferInstance)⟩

set_option maxRecDepth 100000 in
theorem lifted (os : Os) (started : os.Started) (H : Type) (enc : TypeId × Value → H) :
    ReturnsInHanded {} Try.checked os 4 .any (Rows.bwordOnJoinsSpec.pre6 enc Try.prog Try.f4 Rows.bwordOnJoinsRow.domain false) (Rows.bwordOnJoinsSpec.post enc Try.prog Try.f4 false true false false) := by
  refine returnsInHanded_of_change_sized (C := Try.checked) own started (by kernel_rfl) Try.func4
    (ChangeSpec.witness6 (enc := enc) (C := Try.checked) false ⟨#[], #[.agg #[.slice none 0 0, .slice none 0 0], .agg #[.slice none 0 0, .slice none 0 0], .agg #[.slice none 0 0, .slice none 0 0]], []⟩ 8 (by kernel_rfl) (by kernel_rfl) (by kernel_rfl) (by kernel_rfl)) ?_
  intro W base args ds gs before hval0 hW hcnd hsz0 _
  have hval : ∀ (j : Nat) t v, Try.f4.params[j]? = some t → args[j]? = some v → Value.okWide Try.prog W .any base t v := hval0
  have hsz : (DataW.weightsEach Try.prog (Try.f4.params.toList ++ Rows.bwordOnJoinsSpec.plain.varTypes Try.prog) (ds ++ gs)).all (· ≤ reachBytes) = true := hsz0
  have hW' := hW
  obtain ⟨p, q, hA0, hV, rfl, hfz, hnd⟩ := hW
  have hA : DataW.TrodAll enc Try.prog W 0 (fun _ => true) true Try.f4.params.toList args.toList ds p := hA0
  rw [Try.params4] at hA hval hsz
  obtain ⟨v0, vs0, d0, ds0, p0, q0, hargs, rfl, rfl, h0, r0⟩ := trodAll_cons hA
  obtain ⟨v1, vs1, d1, ds1, p1, q1, rfl, rfl, rfl, h1, r1⟩ := trodAll_cons r0
  obtain ⟨v2, vs2, d2, ds2, p2, q2, rfl, rfl, rfl, h2, r2⟩ := trodAll_cons r1
  obtain ⟨rfl, rfl, rfl⟩ := trodAll_nil r2
  obtain rfl : args = #[v0, v1, v2] := by cases args; simp_all
  obtain ⟨rfl, rfl⟩ := trodVars_none hV
  have k0 := h0
  have lt0 : ∀ x ∈ p0, x.block < W.heap.size := by obtain ⟨m, hm⟩ := k0; exact DataW.trod_lt m _ _ _ hm
  have z0 : ∀ n ∈ d0.weights Try.prog 24, n ≤ reachBytes := fun n hn => by
    simpa using List.all_eq_true.1 hsz n (DataW.weights_mem_each (j := 0) (t := 24) rfl rfl n hn)
  obtain ⟨A0, c0, B0, c0', hl0, ll0, rfl, x0⟩ := open_word (e := 4) Try.underlying24 (by kernel_rfl) (by kernel_rfl) Try.underlying22 Try.underlying22 Try.underlying4 (by kernel_rfl) (by kernel_rfl) (hval 0 24 v0 rfl rfl) h0 z0
  have k1 := h1
  have lt1 : ∀ x ∈ p1, x.block < W.heap.size := by obtain ⟨m, hm⟩ := k1; exact DataW.trod_lt m _ _ _ hm
  have z1 : ∀ n ∈ d1.weights Try.prog 24, n ≤ reachBytes := fun n hn => by
    simpa using List.all_eq_true.1 hsz n (DataW.weights_mem_each (j := 1) (t := 24) rfl rfl n hn)
  obtain ⟨A1, c1, B1, c1', hl1, ll1, rfl, x1⟩ := open_word (e := 4) Try.underlying24 (by kernel_rfl) (by kernel_rfl) Try.underlying22 Try.underlying22 Try.underlying4 (by kernel_rfl) (by kernel_rfl) (hval 1 24 v1 rfl rfl) h1 z1
  have k2 := h2
  have lt2 : ∀ x ∈ p2, x.block < W.heap.size := by obtain ⟨m, hm⟩ := k2; exact DataW.trod_lt m _ _ _ hm
  have z2 : ∀ n ∈ d2.weights Try.prog 24, n ≤ reachBytes := fun n hn => by
    simpa using List.all_eq_true.1 hsz n (DataW.weights_mem_each (j := 2) (t := 24) rfl rfl n hn)
  obtain ⟨A2, c2, B2, c2', hl2, ll2, rfl, x2⟩ := open_word (e := 4) Try.underlying24 (by kernel_rfl) (by kernel_rfl) Try.underlying22 Try.underlying22 Try.underlying4 (by kernel_rfl) (by kernel_rfl) (hval 2 24 v2 rfl rfl) h2 z2
  clear hA0 hval0 hsz0 hsz
  refine (walk W x0 x1 x2).mono fun e W' ⟨he, y, hy⟩ => ?_
  subst he
  have bel : Below W.heap.size W W' := by rw [hy]; exact more_below W y
  exact ⟨_, rfl, _, _, _, [], _, [], hW', trodAll_mk1 (shut_bool Try.underlying4 _), (trodAll_cons_mk (Below.trod laidOut (by kernel_rfl) (of_decide_eq_true (by kernel_rfl)) k0 bel lt0) (trodAll_cons_mk (Below.trod laidOut (by kernel_rfl) (of_decide_eq_true (by kernel_rfl)) k1 bel lt1) (trodAll_cons_mk (Below.trod laidOut (by kernel_rfl) (of_decide_eq_true (by kernel_rfl)) k2 bel lt2) trodAll_mk0))), rfl, bel.frame _, fun h => by cases h⟩

theorem over : Rows.bwordOnJoinsRow.holds Try.pinned (OpenSpec.ofChange Rows.bwordOnJoinsSpec) :=
  OpenClaim.holds_of_wide 4 Try.f4 rfl rfl rfl rfl rfl rfl rfl ⟨rfl, rfl, rfl, rfl, rfl⟩ rfl rfl rfl rfl rfl (by kernel_rfl) Try.func4 (by kernel_rfl)
    (of_decide_eq_true (by kernel_rfl)) (by unfold Func.isWrapper; first | (rw [if_pos (by decide +kernel)]; kernel_rfl) | (rw [if_neg (by decide +kernel)]; exact ⟨rfl, rfl⟩))
    (fun os started H enc _ => lifted os started H enc)

theorem proved : Rows.BwordOnJoinsSaid := over
#print axioms proved
end Go.Proofs.Ytjbpelkdciphnaa.bwordOnJoins
