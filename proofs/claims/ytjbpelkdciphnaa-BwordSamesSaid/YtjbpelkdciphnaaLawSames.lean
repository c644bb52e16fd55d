/-
  Same is the chapter's, either way round; it is so iff 8300 letters are alike, iff the normal forms are equal; Not is the chapter's, and turns every letter: for any two words. No conditions.
-/
import Derived.Test.YtjbpelkdciphnaaAwake2
import Derived.Test.YtjbpelkdciphnaaGives
import Derived.Test.YtjbpelkdciphnaaLift
import Derived.Test.YtjbpelkdciphnaaRSame
import Derived.Test.YtjbpelkdciphnaaSameFacts
import Derived.Test.YtjbpelkdciphnaaNot
import Derived.Test.YtjbpelkdciphnaaAlike
namespace Go.Proofs.Ytjbpelkdciphnaa.bwordSames
open Go.ChangeShapes Go.WideShapes Go.ChangeAt Go.RowKit Go.BigFrame
set_option linter.unusedVariables false
set_option linter.unusedSimpArgs false

theorem own : ownKnob Try.prog.godebug = none := by kernel_rfl
theorem laidOut : laidOutB Try.prog = true := by kernel_rfl

section
variable {w0 : World} {A : Option Addr} {c : Nat} {B : Option Addr} {d : Nat} {h l : List Bool} {A' : Option Addr} {c' : Nat} {B' : Option Addr} {d' : Nat} {h' l' : List Bool}
theorem huge_v (x : RW w0 A c B d h l) {v : Bool} (e : hugeB h l = v) : Gives w0 12 #[.agg #[.slice A h.length c, .slice B l.length d]] (.bool v) := fun U _ => e ▸ huge_any x U
theorem awake_v (w : World) : Gives w 13 #[] (.bool true) := fun U _ => awake_any U
theorem check_v (x : RW w0 A c B d h l) {v : Int} (e : checkI h l = v) : Gives w0 19 #[.agg #[.slice A h.length c, .slice B l.length d]] (.int .i64 v) := fun U _ => e ▸ check_any x U
theorem rcheck_v (x : RW w0 A c B d h l) {v : Int} (e : checkI h l = v) : Gives w0 21 #[.agg #[.slice A h.length c, .slice B l.length d]] (.int .i64 v) := fun U _ => e ▸ rcheck_any x U
theorem at_v (x : RW w0 A c B d h l) {i : Int} (hi : i ≤ 9223372036854775807) {v : Bool} (e : atB h l i = v) : Gives w0 22 #[.agg #[.slice A h.length c, .slice B l.length d], .int .i64 i] (.bool v) := fun U _ => e ▸ at_any x U i hi
theorem rat_v (x : RW w0 A c B d h l) {i : Int} (hi : i ≤ 9223372036854775807) {v : Bool} (e : atB h l i = v) : Gives w0 23 #[.agg #[.slice A h.length c, .slice B l.length d], .int .i64 i] (.bool v) := fun U _ => e ▸ rat_any x U i hi
theorem ones_v (x : RW w0 A c B d h l) {i : Int} (hi : i ≤ 9223372036854775807) {v : Int} (e : onesI h l i = v) : Gives w0 17 #[.agg #[.slice A h.length c, .slice B l.length d], .int .i64 i] (.int .i64 v) := fun U _ => e ▸ ones_all x U i hi
theorem rones_v (x : RW w0 A c B d h l) {i : Int} (hi : i ≤ 9223372036854775807) {v : Int} (e : onesI h l i = v) : Gives w0 24 #[.agg #[.slice A h.length c, .slice B l.length d], .int .i64 i] (.int .i64 v) := fun U _ => e ▸ rones_all x U i hi
theorem equal_v (x : RW w0 A c B d h l) (x' : RW w0 A' c' B' d' h' l') {v : Bool} (e : (h == h' && l == l') = v) : Gives w0 16 #[.agg #[.slice A h.length c, .slice B l.length d], .agg #[.slice A' h'.length c', .slice B' l'.length d']] (.bool v) := fun U _ => e ▸ requal_any x x' U
theorem on_v (x : RW w0 A c B d h l) (x' : RW w0 A' c' B' d' h' l') {H L : List Bool} {v : Int} (e : onW h l h' l' = ((H, L), v)) : GivesW w0 14 #[.agg #[.slice A h.length c, .slice B l.length d], .agg #[.slice A' h'.length c', .slice B' l'.length d']] H L (fun a => .tuple #[a, .int .i64 v]) := fun U _ => by have := on_any x x' U; rwa [e] at this
theorem norm_v (x : RW w0 A c B d h l) {H L : List Bool} (e : normW h l = (H, L)) : GivesW w0 20 #[.agg #[.slice A h.length c, .slice B l.length d]] H L (fun a => a) := fun U _ => by have := norm_any x U; rwa [e] at this
theorem rnorm_v (x : RW w0 A c B d h l) {H L : List Bool} (e : normW h l = (H, L)) : GivesW w0 25 #[.agg #[.slice A h.length c, .slice B l.length d]] H L (fun a => a) := fun U _ => by have := rnorm_any x U; rwa [e] at this
theorem i64_le {k : Int} (h : (Lit.int .i64 k).wf = true) : -9223372036854775808 ≤ k ∧ k ≤ 9223372036854775807 := by
  simpa [Lit.wf, IntKind.min, IntKind.max, IntKind.signed, IntKind.bits] using h
theorem onesI_step (h l : List Bool) (k : Nat) : onesI h l ((k : Int) + 1) = onesI h l k + (if atB h l k then 1 else 0) := by
  by_cases hv : Valid h l
  · have := W.ones_succ h l k hv.1
    have e : ((k : Int) + 1) = ((k + 1 : Nat) : Int) := by push_cast; rfl
    rw [e, onesI_ok hv, onesI_ok hv, atB_ok hv (by omega), letterB_nat, this]
    cases W.letter h l k <;> simp
  · rw [onesI_bad hv, onesI_bad hv, atB_bad hv]; simp
theorem onesI_bd2 (h l : List Bool) (k : Nat) : 0 ≤ onesI h l k ∧ onesI h l k ≤ k := by
  by_cases hv : Valid h l
  · rw [onesI_ok hv]; have := W.ones_le h l k hv.1; omega
  · rw [onesI_bad hv]; omega
end
theorem same_v {w0 : World} {A c B d} {h l : List Bool} {A' c' B' d'} {h' l' : List Bool} (x : RW w0 A c B d h l) (x' : RW w0 A' c' B' d' h' l') {v : Bool} (e : sameB h l h' l' = v) : Gives w0 32 #[.agg #[.slice A h.length c, .slice B l.length d], .agg #[.slice A' h'.length c', .slice B' l'.length d']] (.bool v) := fun U _ => e ▸ same_any x x' U
theorem rsame_v {w0 : World} {A c B d} {h l : List Bool} {A' c' B' d'} {h' l' : List Bool} (x : RW w0 A c B d h l) (x' : RW w0 A' c' B' d' h' l') {v : Bool} (e : sameB h l h' l' = v) : Gives w0 33 #[.agg #[.slice A h.length c, .slice B l.length d], .agg #[.slice A' h'.length c', .slice B' l'.length d']] (.bool v) := fun U _ => e ▸ rsame_any x x' U
theorem alike_v {w0 : World} {A c B d} {h l : List Bool} {A' c' B' d'} {h' l' : List Bool} (x : RW w0 A c B d h l) (x' : RW w0 A' c' B' d' h' l') {n : Nat} (hn : n ≤ 100000) {m : Int} (hm : m = n) {v : Bool} (e : alikeB h l h' l' n = v) : Gives w0 26 #[.agg #[.slice A h.length c, .slice B l.length d], .agg #[.slice A' h'.length c', .slice B' l'.length d'], .int .i64 m] (.bool v) := fun U _ => by subst hm e; exact alike_any x x' U n hn
theorem not_v {w0 : World} {A c B d} {h l : List Bool} (x : RW w0 A c B d h l) {H L : List Bool} (e : notW h l = (H, L)) : GivesW w0 29 #[.agg #[.slice A h.length c, .slice B l.length d]] H L (fun a => a) := fun U _ => by have := not_any x U; rwa [e] at this
theorem rnot_v {w0 : World} {A c B d} {h l : List Bool} (x : RW w0 A c B d h l) {H L : List Bool} (e : notW h l = (H, L)) : GivesW w0 34 #[.agg #[.slice A h.length c, .slice B l.length d]] H L (fun a => a) := fun U _ => by have := rnot_any x U; rwa [e] at this
theorem letter_inv {h l : List Bool} (hl : 0 < l.length) (i : Nat) : W.letter (inv h) (inv l) i = !W.letter h l i := by
  unfold W.letter
  rw [inv_length, inv_length]
  have hm : (i - h.length) % l.length < l.length := Nat.mod_lt _ hl
  split
  · rename_i hi
    simp [inv, List.getD_eq_getElem?_getD, hi]
  · simp [inv, List.getD_eq_getElem?_getD, hm]
theorem at_not {h l : List Bool} (hv : Valid h l) (i : Nat) : atB (notW h l).1 (notW h l).2 (i : Nat) = !atB h l (i : Nat) := by
  rw [notW_ok hv]
  have hv' : Valid (inv h) (inv l) := ⟨by rw [inv_length]; exact hv.1, by rw [inv_length, inv_length]; exact hv.2⟩
  rw [atB_ok hv (by omega), atB_ok hv' (by omega), letterB_nat, letterB_nat, letter_inv hv.1]
theorem same_norm {h l h' l' : List Bool} (hv : Valid h l) (hv' : Valid h' l') : ((normW h l).1 == (normW h' l').1 && (normW h l).2 == (normW h' l').2) = sameB h l h' l' := by
  rw [normW_ok hv, normW_ok hv']
  unfold sameB
  by_cases e : W.nf (W.letter h l) = W.nf (W.letter h' l')
  · rw [if_pos ⟨hv, hv', e⟩, e]; simp
  · rw [if_neg fun q => e q.2.2]
    rw [Bool.eq_false_iff]
    intro q
    simp only [Bool.and_eq_true, beq_iff_eq] at q
    exact e (Prod.ext q.1 q.2)
set_option maxRecDepth 100000 in
set_option maxHeartbeats 3200000 in
theorem walk {A B c d h l A' B' c' d' h' l'} (w : World) (x : RW w A c B d h l) (x' : RW w A' c' B' d' h' l') :
    Calls Try.prog 9 #[.agg #[.slice A h.length c, .slice B l.length d], .agg #[.slice A' h'.length c', .slice B' l'.length d']] w fun e w' => e = .returned (.bool true) ∧ ∃ y, w' = w.more y := by
  have HK : Hid (∀ U : World, After ((w.alloc (.cells #[.slice A h.length c, .slice B l.length d] 24)).alloc (.cells #[.slice A' h'.length c', .slice B' l'.length d'] 24)) U → U.cell? ⟨w.heap.size, 0, none⟩ = some (.slice A h.length c) ∧ U.cell? ⟨w.heap.size, 1, none⟩ = some (.slice B l.length d) ∧ U.cell? ⟨w.heap.size + 1, 0, none⟩ = some (.slice A' h'.length c') ∧ U.cell? ⟨w.heap.size + 1, 1, none⟩ = some (.slice B' l'.length d')) := fun U k => by
    have f1 := ((Blk.new w 24 #[.slice A h.length c, .slice B l.length d]).alloc (.cells #[.slice A' h'.length c', .slice B' l'.length d'] 24)).after (w' := U)
    have f2 := (Blk.new1 w (.cells #[.slice A h.length c, .slice B l.length d] 24) 24 #[.slice A' h'.length c', .slice B' l'.length d']).after (w' := U)
    exact ⟨by rw [f1.cell]; rfl, by rw [f1.cell]; rfl, by rw [f2.cell]; rfl, by rw [f2.cell]; rfl⟩
  have GA := awake_v w
  cases h1 : hugeB h l with
  | true =>
    have G1 := huge_v x h1
    clear h1
    go_enter Try.func9, Try.ntmps9
    go_wp2_with fail
    refine (Gives.on G1 _ inferInstance).mono ?_
    rintro e w1_ ⟨rfl, hy⟩
    have a0_w1_ : After ((w.alloc (.cells #[.slice A h.length c, .slice B l.length d] 24)).alloc (.cells #[.slice A' h'.length c', .slice B' l'.length d'] 24)) w1_ := after_of_more hy inferInstance
    have l00_w1_ : Le (w.heap.size + 1) w1_ := ⟨by have := a0_w1_.below.size; simp at this; omega⟩
    have l01_w1_ : Le (w.heap.size + 2) w1_ := ⟨by have := a0_w1_.below.size; simp at this; omega⟩
    have h0_w1_ := HK.out w1_ a0_w1_
    have aw_w1_ : After w w1_ := after_after inferInstance a0_w1_
    clear hy
    go_wp2_with fail
    refine (Gives.on GA _ (after_after aw_w1_ inferInstance)).mono ?_
    rintro e w2_ ⟨rfl, hy⟩
    have a0_w2_ : After ((w.alloc (.cells #[.slice A h.length c, .slice B l.length d] 24)).alloc (.cells #[.slice A' h'.length c', .slice B' l'.length d'] 24)) w2_ := after_of_more hy (after_after a0_w1_ inferInstance)
    have l00_w2_ : Le (w.heap.size + 1) w2_ := ⟨by have := a0_w2_.below.size; simp at this; omega⟩
    have l01_w2_ : Le (w.heap.size + 2) w2_ := ⟨by have := a0_w2_.below.size; simp at this; omega⟩
    have h0_w2_ := HK.out w2_ a0_w2_
    have aw_w2_ : After w w2_ := after_after inferInstance a0_w2_
    clear hy
    go_wp2_with fail
    go_ret
    exact ⟨rfl, @After.is_more w _ (after_after aw_w2_ inferInstance)⟩
  | false =>
    have G1 := huge_v x h1
    clear h1
    cases h2 : hugeB h' l' with
    | true =>
      have G2 := huge_v x' h2
      clear h2
      go_enter Try.func9, Try.ntmps9
      go_wp2_with fail
      refine (Gives.on G1 _ inferInstance).mono ?_
      rintro e w1_ ⟨rfl, hy⟩
      have a0_w1_ : After ((w.alloc (.cells #[.slice A h.length c, .slice B l.length d] 24)).alloc (.cells #[.slice A' h'.length c', .slice B' l'.length d'] 24)) w1_ := after_of_more hy inferInstance
      have l00_w1_ : Le (w.heap.size + 1) w1_ := ⟨by have := a0_w1_.below.size; simp at this; omega⟩
      have l01_w1_ : Le (w.heap.size + 2) w1_ := ⟨by have := a0_w1_.below.size; simp at this; omega⟩
      have h0_w1_ := HK.out w1_ a0_w1_
      have aw_w1_ : After w w1_ := after_after inferInstance a0_w1_
      clear hy
      go_wp2_with fail
      refine (Gives.on G2 _ (after_after aw_w1_ inferInstance)).mono ?_
      rintro e w2_ ⟨rfl, hy⟩
      have a0_w2_ : After ((w.alloc (.cells #[.slice A h.length c, .slice B l.length d] 24)).alloc (.cells #[.slice A' h'.length c', .slice B' l'.length d'] 24)) w2_ := after_of_more hy (after_after a0_w1_ inferInstance)
      have l00_w2_ : Le (w.heap.size + 1) w2_ := ⟨by have := a0_w2_.below.size; simp at this; omega⟩
      have l01_w2_ : Le (w.heap.size + 2) w2_ := ⟨by have := a0_w2_.below.size; simp at this; omega⟩
      have h0_w2_ := HK.out w2_ a0_w2_
      have aw_w2_ : After w w2_ := after_after inferInstance a0_w2_
      clear hy
      go_wp2_with fail
      refine (Gives.on GA _ (after_after aw_w2_ inferInstance)).mono ?_
      rintro e w3_ ⟨rfl, hy⟩
      have a0_w3_ : After ((w.alloc (.cells #[.slice A h.length c, .slice B l.length d] 24)).alloc (.cells #[.slice A' h'.length c', .slice B' l'.length d'] 24)) w3_ := after_of_more hy (after_after a0_w2_ inferInstance)
      have l00_w3_ : Le (w.heap.size + 1) w3_ := ⟨by have := a0_w3_.below.size; simp at this; omega⟩
      have l01_w3_ : Le (w.heap.size + 2) w3_ := ⟨by have := a0_w3_.below.size; simp at this; omega⟩
      have h0_w3_ := HK.out w3_ a0_w3_
      have aw_w3_ : After w w3_ := after_after inferInstance a0_w3_
      clear hy
      go_wp2_with fail
      go_ret
      exact ⟨rfl, @After.is_more w _ (after_after aw_w3_ inferInstance)⟩
    | false =>
      have G2 := huge_v x' h2
      clear h2
      obtain ⟨s, hs⟩ : ∃ s, sameB h l h' l' = s := ⟨_, rfl⟩
      have G3 := same_v x x' hs
      have G4 := rsame_v x x' hs
      have G5 := same_v x' x (sameB_comm h l h' l' ▸ hs)
      obtain ⟨N1, N2, eN⟩ : ∃ H L, notW h l = (H, L) := ⟨_, _, rfl⟩
      have G8 := not_v x eN
      have G9 := rnot_v x eN
      have t1 : (s != s) = false := by simp
      rcases check_cases h l with hv | ⟨hv, h5⟩
      · have G6 := same_v x x ((sameB_self h l).trans (by rw [checkI_0 hv]))
        have GC := check_v x (checkI_0 hv)
        have HN : Hid (∀ j : Nat, atB N1 N2 (j : Nat) = !atB h l (j : Nat)) := fun j => by have := at_not hv j; rwa [eN] at this
        clear eN
        rcases check_cases h' l' with hv' | ⟨hv', h5⟩
        · have GC2 := check_v x' (checkI_0 hv')
          obtain ⟨H4, L4, e4⟩ : ∃ H L, normW h l = (H, L) := ⟨_, _, rfl⟩
          obtain ⟨H5, L5, e5⟩ : ∃ H L, normW h' l' = (H, L) := ⟨_, _, rfl⟩
          have HEQ : Hid ((H4 == H5 && L4 == L5) = s) := by have := same_norm hv hv'; rwa [e4, e5, hs] at this
          have GL := alike_v x x' (n := 8300) (by decide) (m := 8300) (by decide) ((same_alike hv hv').symm.trans hs)
          have G10 := norm_v x e4
          have G11 := norm_v x' e5
          clear hv hv' e4 e5 hs
          go_enter Try.func9, Try.ntmps9
          go_wp2_with fail
          refine (Gives.on G1 _ inferInstance).mono ?_
          rintro e w1_ ⟨rfl, hy⟩
          have a0_w1_ : After ((w.alloc (.cells #[.slice A h.length c, .slice B l.length d] 24)).alloc (.cells #[.slice A' h'.length c', .slice B' l'.length d'] 24)) w1_ := after_of_more hy inferInstance
          have l00_w1_ : Le (w.heap.size + 1) w1_ := ⟨by have := a0_w1_.below.size; simp at this; omega⟩
          have l01_w1_ : Le (w.heap.size + 2) w1_ := ⟨by have := a0_w1_.below.size; simp at this; omega⟩
          have h0_w1_ := HK.out w1_ a0_w1_
          have aw_w1_ : After w w1_ := after_after inferInstance a0_w1_
          clear hy
          go_wp2_with fail
          refine (Gives.on G2 _ (after_after aw_w1_ inferInstance)).mono ?_
          rintro e w2_ ⟨rfl, hy⟩
          have a0_w2_ : After ((w.alloc (.cells #[.slice A h.length c, .slice B l.length d] 24)).alloc (.cells #[.slice A' h'.length c', .slice B' l'.length d'] 24)) w2_ := after_of_more hy (after_after a0_w1_ inferInstance)
          have l00_w2_ : Le (w.heap.size + 1) w2_ := ⟨by have := a0_w2_.below.size; simp at this; omega⟩
          have l01_w2_ : Le (w.heap.size + 2) w2_ := ⟨by have := a0_w2_.below.size; simp at this; omega⟩
          have h0_w2_ := HK.out w2_ a0_w2_
          have aw_w2_ : After w w2_ := after_after inferInstance a0_w2_
          clear hy
          go_wp2_with fail
          refine (Gives.on G3 _ (after_after aw_w2_ inferInstance)).mono ?_
          rintro e w3_ ⟨rfl, hy⟩
          have a0_w3_ : After ((w.alloc (.cells #[.slice A h.length c, .slice B l.length d] 24)).alloc (.cells #[.slice A' h'.length c', .slice B' l'.length d'] 24)) w3_ := after_of_more hy (after_after a0_w2_ inferInstance)
          have l00_w3_ : Le (w.heap.size + 1) w3_ := ⟨by have := a0_w3_.below.size; simp at this; omega⟩
          have l01_w3_ : Le (w.heap.size + 2) w3_ := ⟨by have := a0_w3_.below.size; simp at this; omega⟩
          have h0_w3_ := HK.out w3_ a0_w3_
          have aw_w3_ : After w w3_ := after_after inferInstance a0_w3_
          clear hy
          go_wp2_with fail
          refine wp_region_more (by kernel_rfl) (by kernel_rfl) ?_
          repeat (go_big_quiet_step ((first | (go_at_call 33; with_reducible exact Calls.more_of (Gives.on G4 _ (after_after aw_w3_ inferInstance))) | (go_at_call 32; with_reducible exact Calls.more_of (Gives.on G5 _ (after_after aw_w3_ inferInstance))) | (go_at_call 32; with_reducible exact Calls.more_of (Gives.on G6 _ (after_after aw_w3_ inferInstance))) | (go_at_call 19; with_reducible exact Calls.more_of (Gives.on GC _ (after_after aw_w3_ inferInstance))))))
          refine wpQuiet_nil ?_
          rintro _ ⟨yr, rfl⟩
          obtain ⟨w4_, hw_, hy⟩ : ∃ U, w3_.more yr = U ∧ ∃ y, U = w3_.more y := ⟨_, rfl, _, rfl⟩
          rw [hw_]
          clear hw_
          have a0_w4_ : After ((w.alloc (.cells #[.slice A h.length c, .slice B l.length d] 24)).alloc (.cells #[.slice A' h'.length c', .slice B' l'.length d'] 24)) w4_ := after_of_more hy (after_after a0_w3_ inferInstance)
          have l00_w4_ : Le (w.heap.size + 1) w4_ := ⟨by have := a0_w4_.below.size; simp at this; omega⟩
          have l01_w4_ : Le (w.heap.size + 2) w4_ := ⟨by have := a0_w4_.below.size; simp at this; omega⟩
          have h0_w4_ := HK.out w4_ a0_w4_
          have aw_w4_ : After w w4_ := after_after inferInstance a0_w4_
          clear hy
          go_wp2_with fail
          have tk1 : True := trivial
          have tk2 : True := trivial
          have tk3 : True := trivial
          have tk4 : True := trivial
          have tk5 : True := trivial
          have tk6 : True := trivial
          have q_w0 : After w4_ w4_ := inferInstance
          go_region_held3 (fun V => (V.cell? ⟨w.heap.size, 0, none⟩ = some (.slice A h.length c) ∧ V.cell? ⟨w.heap.size, 1, none⟩ = some (.slice B l.length d) ∧ V.cell? ⟨w.heap.size + 1, 0, none⟩ = some (.slice A' h'.length c') ∧ V.cell? ⟨w.heap.size + 1, 1, none⟩ = some (.slice B' l'.length d'))) (exact HK.out _ (after_after a0_w4_ inferInstance))
            (first
            | (have _t := tk1; go_at_call 19; (with_reducible refine (Gives.on GC _ (after_after aw_w4_ (after_after q_w0 inferInstance))).mono ?_); rintro e w5_ ⟨rfl, hy⟩; have q_w5_ : After w4_ w5_ := after_of_more hy (after_after q_w0 inferInstance); clear hy _t tk1)
            | (have _t := tk2; go_at_call 19; (with_reducible refine (Gives.on GC2 _ (after_after aw_w4_ (after_after q_w5_ inferInstance))).mono ?_); rintro e w6_ ⟨rfl, hy⟩; have q_w6_ : After w4_ w6_ := after_of_more hy (after_after q_w5_ inferInstance); have r_w6_ : After w5_ w6_ := after_of_more hy inferInstance; clear hy _t tk2)
            | (have _t := tk3; go_at_call 26; (with_reducible refine (Gives.on GL _ (after_after aw_w4_ (after_after q_w6_ inferInstance))).mono ?_); rintro e w7_ ⟨rfl, hy⟩; have q_w7_ : After w4_ w7_ := after_of_more hy (after_after q_w6_ inferInstance); have r_w7_ : After w6_ w7_ := after_of_more hy inferInstance; clear hy _t tk3)
            | (have _t := tk4; go_at_call 20; (with_reducible refine (GivesW.on G10 _ (after_after aw_w4_ (after_after q_w7_ inferInstance))).mono ?_); rintro e w8_ ⟨A4, c4, B4, d4, rfl, x4, hy⟩; have q_w8_ : After w4_ w8_ := after_of_more hy (after_after q_w7_ inferInstance); have r_w8_ : After w7_ w8_ := after_of_more hy inferInstance; clear hy _t tk4)
            | (have _t := tk5; go_at_call 20; (with_reducible refine (GivesW.on G11 _ (after_after aw_w4_ (after_after q_w8_ inferInstance))).mono ?_); rintro e w9_ ⟨A5, c5, B5, d5, rfl, x5, hy⟩; have q_w9_ : After w4_ w9_ := after_of_more hy (after_after q_w8_ inferInstance); have r_w9_ : After w8_ w9_ := after_of_more hy inferInstance; have E1 := equal_v (x4.here w9_) x5 HEQ.out; clear hy _t tk5)
            | (have _t := tk6; go_at_call 16; (with_reducible refine (Gives.on E1 _ inferInstance).mono ?_); rintro e w10_ ⟨rfl, hy⟩; have q_w10_ : After w4_ w10_ := after_of_more hy (after_after q_w9_ inferInstance); have r_w10_ : After w9_ w10_ := after_of_more hy inferInstance; clear hy _t tk6))
          have a0_w10_ : After ((w.alloc (.cells #[.slice A h.length c, .slice B l.length d] 24)).alloc (.cells #[.slice A' h'.length c', .slice B' l'.length d'] 24)) w10_ := after_after a0_w4_ q_w10_
          have l00_w10_ : Le (w.heap.size + 1) w10_ := ⟨by have := a0_w10_.below.size; simp at this; omega⟩
          have l01_w10_ : Le (w.heap.size + 2) w10_ := ⟨by have := a0_w10_.below.size; simp at this; omega⟩
          have h0_w10_ := HK.out w10_ a0_w10_
          have aw_w10_ : After w w10_ := after_after inferInstance a0_w10_
          go_wp2_with fail
          refine (GivesW.on G8 _ (after_after aw_w10_ inferInstance)).mono ?_
          rintro e w11_ ⟨A8, c8, B8, d8, rfl, x8, hy⟩
          have a0_w11_ : After ((w.alloc (.cells #[.slice A h.length c, .slice B l.length d] 24)).alloc (.cells #[.slice A' h'.length c', .slice B' l'.length d'] 24)) w11_ := after_of_more hy (after_after a0_w10_ inferInstance)
          have l00_w11_ : Le (w.heap.size + 1) w11_ := ⟨by have := a0_w11_.below.size; simp at this; omega⟩
          have l01_w11_ : Le (w.heap.size + 2) w11_ := ⟨by have := a0_w11_.below.size; simp at this; omega⟩
          have h0_w11_ := HK.out w11_ a0_w11_
          have aw_w11_ : After w w11_ := after_after inferInstance a0_w11_
          clear hy
          have X8 := Lib.hid x8
          clear x8
          go_wp2_with fail
          obtain ⟨g8, hg_⟩ : ∃ g, w11_.heap.size = g := ⟨_, rfl⟩
          obtain ⟨w12_, hU_, b8, HK8, Lq8⟩ : ∃ U, w11_.alloc (.cells #[.slice A8 N1.length c8, .slice B8 N2.length d8] 24) = U ∧ After w11_ U ∧ Hid (∀ V, After U V → V.cell? ⟨g8, 0, none⟩ = some (.slice A8 N1.length c8) ∧ V.cell? ⟨g8, 1, none⟩ = some (.slice B8 N2.length d8)) ∧ Le (g8 + 1) U := by
            refine ⟨_, rfl, inferInstance, fun V k_ => ?_, ⟨by rw [← hg_]; simp⟩⟩
            have f_ := (Blk.new w11_ 24 #[.slice A8 N1.length c8, .slice B8 N2.length d8]).after (w' := V)
            rw [hg_] at f_
            exact ⟨by rw [f_.cell]; rfl, by rw [f_.cell]; rfl⟩
          rw [hU_, hg_]
          clear hU_ hg_
          have a0_w12_ : After ((w.alloc (.cells #[.slice A h.length c, .slice B l.length d] 24)).alloc (.cells #[.slice A' h'.length c', .slice B' l'.length d'] 24)) w12_ := after_after a0_w11_ b8
          have l00_w12_ : Le (w.heap.size + 1) w12_ := ⟨by have := a0_w12_.below.size; simp at this; omega⟩
          have l01_w12_ : Le (w.heap.size + 2) w12_ := ⟨by have := a0_w12_.below.size; simp at this; omega⟩
          have h0_w12_ := HK.out w12_ a0_w12_
          have aw_w12_ : After w w12_ := after_after inferInstance a0_w12_
          have a8_w12_ : After w12_ w12_ := inferInstance
          have h8_w12_ := HK8.out w12_ a8_w12_
          replace X8 := Lib.hid (X8.out.here w12_)
          go_wp2_with fail
          have tk1 : True := trivial
          have tk2 : True := trivial
          have q_w0 : After w12_ w12_ := inferInstance
          go_region_held3 (fun V => (V.cell? ⟨w.heap.size, 0, none⟩ = some (.slice A h.length c) ∧ V.cell? ⟨w.heap.size, 1, none⟩ = some (.slice B l.length d) ∧ V.cell? ⟨w.heap.size + 1, 0, none⟩ = some (.slice A' h'.length c') ∧ V.cell? ⟨w.heap.size + 1, 1, none⟩ = some (.slice B' l'.length d')) ∧ V.cell? ⟨g8, 0, none⟩ = some (.slice A8 N1.length c8) ∧ V.cell? ⟨g8, 1, none⟩ = some (.slice B8 N2.length d8)) (exact ⟨HK.out _ (after_after a0_w12_ inferInstance), HK8.out _ inferInstance⟩)
            (first
            | (have _t := tk1; go_at_call 34; (with_reducible refine (GivesW.on G9 _ (after_after aw_w12_ (after_after q_w0 inferInstance))).mono ?_); rintro e w13_ ⟨A9, c9, B9, d9, rfl, x9, hy⟩; have q_w13_ : After w12_ w13_ := after_of_more hy (after_after q_w0 inferInstance); have E1 := equal_v ((X8.out.here w12_).here w13_) x9 (v := true) (by simp); clear hy _t tk1)
            | (have _t := tk2; go_at_call 16; (with_reducible refine (Gives.on E1 _ inferInstance).mono ?_); rintro e w14_ ⟨rfl, hy⟩; have q_w14_ : After w12_ w14_ := after_of_more hy (after_after q_w13_ inferInstance); have r_w14_ : After w13_ w14_ := after_of_more hy inferInstance; clear hy _t tk2))
          have a0_w14_ : After ((w.alloc (.cells #[.slice A h.length c, .slice B l.length d] 24)).alloc (.cells #[.slice A' h'.length c', .slice B' l'.length d'] 24)) w14_ := after_after a0_w12_ q_w14_
          have l00_w14_ : Le (w.heap.size + 1) w14_ := ⟨by have := a0_w14_.below.size; simp at this; omega⟩
          have l01_w14_ : Le (w.heap.size + 2) w14_ := ⟨by have := a0_w14_.below.size; simp at this; omega⟩
          have h0_w14_ := HK.out w14_ a0_w14_
          have a8_w14_ : After w12_ w14_ := after_after a8_w12_ q_w14_
          have l80_w14_ : Le (g8 + 1) w14_ := ⟨Nat.le_trans Lq8.le a8_w14_.below.size⟩
          have h8_w14_ := HK8.out w14_ a8_w14_
          have aw_w14_ : After w w14_ := after_after inferInstance a0_w14_
          go_wp2_with fail
          go_loopw [7] (fun k wr => ∃ j : Nat, j ≤ 100 ∧ k = .int .i64 j ∧ After w14_ wr) (fun k _ => 100 - (intOf k).toNat)
          case atStart => exact ⟨0, by omega, rfl, inferInstance⟩
          case round =>
            obtain ⟨j, hj, rfl, ar_⟩ := hrel
            have a0_wr : After ((w.alloc (.cells #[.slice A h.length c, .slice B l.length d] 24)).alloc (.cells #[.slice A' h'.length c', .slice B' l'.length d'] 24)) wr := after_after a0_w14_ ar_
            have l00_wr : Le (w.heap.size + 1) wr := ⟨by have := a0_wr.below.size; simp at this; omega⟩
            have l01_wr : Le (w.heap.size + 2) wr := ⟨by have := a0_wr.below.size; simp at this; omega⟩
            have h0_wr := HK.out wr a0_wr
            have a8_wr : After w12_ wr := after_after a8_w14_ ar_
            have l80_wr : Le (g8 + 1) wr := ⟨Nat.le_trans Lq8.le a8_wr.below.size⟩
            have h8_wr := HK8.out wr a8_wr
            have aw_wr : After w wr := after_after inferInstance a0_wr
            by_cases hlt : j < 100
            · have hltI : (j : Int) < 100 := by omega
              have hc := HN.out j
              have Ga := at_v X8.out (i := (j : Nat)) (by omega) rfl
              have Gb := at_v x (i := (j : Nat)) (by omega) rfl
              rw [hc] at Ga
              generalize atB h l (j : Nat) = b1 at Ga Gb
              have t3 : ((!b1) == b1) = false := by cases b1 <;> rfl
              clear hc
              go_wp2_with fail
              refine (Gives.on GC _ (after_after aw_wr inferInstance)).mono ?_
              rintro e w41_ ⟨rfl, hy⟩
              have a0_w41_ : After ((w.alloc (.cells #[.slice A h.length c, .slice B l.length d] 24)).alloc (.cells #[.slice A' h'.length c', .slice B' l'.length d'] 24)) w41_ := after_of_more hy (after_after a0_wr inferInstance)
              have l00_w41_ : Le (w.heap.size + 1) w41_ := ⟨by have := a0_w41_.below.size; simp at this; omega⟩
              have l01_w41_ : Le (w.heap.size + 2) w41_ := ⟨by have := a0_w41_.below.size; simp at this; omega⟩
              have h0_w41_ := HK.out w41_ a0_w41_
              have a8_w41_ : After w12_ w41_ := after_of_more hy (after_after a8_wr inferInstance)
              have l80_w41_ : Le (g8 + 1) w41_ := ⟨Nat.le_trans Lq8.le a8_w41_.below.size⟩
              have h8_w41_ := HK8.out w41_ a8_w41_
              have aw_w41_ : After w w41_ := after_after inferInstance a0_w41_
              have r1_ : After wr w41_ := after_of_more hy inferInstance
              clear hy
              go_wp2_with fail
              refine wp_region_more (by kernel_rfl) (by kernel_rfl) ?_
              repeat (go_big_quiet_step ((first | (go_at_call 22; with_reducible exact Calls.more_of (Gives.on Ga _ (after_after a8_w41_ inferInstance))) | (go_at_call 22; with_reducible exact Calls.more_of (Gives.on Gb _ (after_after aw_w41_ inferInstance))))))
              refine wpQuiet_nil ?_
              rintro _ ⟨yr, rfl⟩
              obtain ⟨w42_, hw_, hy⟩ : ∃ U, w41_.more yr = U ∧ ∃ y, U = w41_.more y := ⟨_, rfl, _, rfl⟩
              rw [hw_]
              clear hw_
              have a0_w42_ : After ((w.alloc (.cells #[.slice A h.length c, .slice B l.length d] 24)).alloc (.cells #[.slice A' h'.length c', .slice B' l'.length d'] 24)) w42_ := after_of_more hy (after_after a0_w41_ inferInstance)
              have l00_w42_ : Le (w.heap.size + 1) w42_ := ⟨by have := a0_w42_.below.size; simp at this; omega⟩
              have l01_w42_ : Le (w.heap.size + 2) w42_ := ⟨by have := a0_w42_.below.size; simp at this; omega⟩
              have h0_w42_ := HK.out w42_ a0_w42_
              have a8_w42_ : After w12_ w42_ := after_of_more hy (after_after a8_w41_ inferInstance)
              have l80_w42_ : Le (g8 + 1) w42_ := ⟨Nat.le_trans Lq8.le a8_w42_.below.size⟩
              have h8_w42_ := HK8.out w42_ a8_w42_
              have aw_w42_ : After w w42_ := after_after inferInstance a0_w42_
              have r2_ : After w41_ w42_ := after_of_more hy inferInstance
              clear hy
              go_wp2_with fail
              go_roundw
              case rel => exact ⟨j + 1, by omega, by go_num, after_after ar_ (after_after r1_ r2_)⟩
              case measure => simp [intOf]; omega
            · obtain rfl : j = 100 := by omega
              go_wp2_with fail
              refine (Gives.on GA _ (after_after aw_wr inferInstance)).mono ?_
              rintro e w61_ ⟨rfl, hy⟩
              have a0_w61_ : After ((w.alloc (.cells #[.slice A h.length c, .slice B l.length d] 24)).alloc (.cells #[.slice A' h'.length c', .slice B' l'.length d'] 24)) w61_ := after_of_more hy (after_after a0_wr inferInstance)
              have l00_w61_ : Le (w.heap.size + 1) w61_ := ⟨by have := a0_w61_.below.size; simp at this; omega⟩
              have l01_w61_ : Le (w.heap.size + 2) w61_ := ⟨by have := a0_w61_.below.size; simp at this; omega⟩
              have h0_w61_ := HK.out w61_ a0_w61_
              have a8_w61_ : After w12_ w61_ := after_of_more hy (after_after a8_wr inferInstance)
              have l80_w61_ : Le (g8 + 1) w61_ := ⟨Nat.le_trans Lq8.le a8_w61_.below.size⟩
              have h8_w61_ := HK8.out w61_ a8_w61_
              have aw_w61_ : After w w61_ := after_after inferInstance a0_w61_
              clear hy
              go_wp2_with fail
              go_ret
              exact ⟨rfl, @After.is_more w _ (after_after aw_w61_ inferInstance)⟩
        · obtain ⟨v2, ev2, hv2⟩ : ∃ v, checkI h' l' = v ∧ (v == 0) = false := by
            rcases h5 with h5 | h5
            · exact ⟨5, h5, rfl⟩
            · exact ⟨3, h5, rfl⟩
          have GC2 := check_v x' ev2
          clear hv hv' h5 ev2 hs
          go_enter Try.func9, Try.ntmps9
          go_wp2_with fail
          refine (Gives.on G1 _ inferInstance).mono ?_
          rintro e w1_ ⟨rfl, hy⟩
          have a0_w1_ : After ((w.alloc (.cells #[.slice A h.length c, .slice B l.length d] 24)).alloc (.cells #[.slice A' h'.length c', .slice B' l'.length d'] 24)) w1_ := after_of_more hy inferInstance
          have l00_w1_ : Le (w.heap.size + 1) w1_ := ⟨by have := a0_w1_.below.size; simp at this; omega⟩
          have l01_w1_ : Le (w.heap.size + 2) w1_ := ⟨by have := a0_w1_.below.size; simp at this; omega⟩
          have h0_w1_ := HK.out w1_ a0_w1_
          have aw_w1_ : After w w1_ := after_after inferInstance a0_w1_
          clear hy
          go_wp2_with fail
          refine (Gives.on G2 _ (after_after aw_w1_ inferInstance)).mono ?_
          rintro e w2_ ⟨rfl, hy⟩
          have a0_w2_ : After ((w.alloc (.cells #[.slice A h.length c, .slice B l.length d] 24)).alloc (.cells #[.slice A' h'.length c', .slice B' l'.length d'] 24)) w2_ := after_of_more hy (after_after a0_w1_ inferInstance)
          have l00_w2_ : Le (w.heap.size + 1) w2_ := ⟨by have := a0_w2_.below.size; simp at this; omega⟩
          have l01_w2_ : Le (w.heap.size + 2) w2_ := ⟨by have := a0_w2_.below.size; simp at this; omega⟩
          have h0_w2_ := HK.out w2_ a0_w2_
          have aw_w2_ : After w w2_ := after_after inferInstance a0_w2_
          clear hy
          go_wp2_with fail
          refine (Gives.on G3 _ (after_after aw_w2_ inferInstance)).mono ?_
          rintro e w3_ ⟨rfl, hy⟩
          have a0_w3_ : After ((w.alloc (.cells #[.slice A h.length c, .slice B l.length d] 24)).alloc (.cells #[.slice A' h'.length c', .slice B' l'.length d'] 24)) w3_ := after_of_more hy (after_after a0_w2_ inferInstance)
          have l00_w3_ : Le (w.heap.size + 1) w3_ := ⟨by have := a0_w3_.below.size; simp at this; omega⟩
          have l01_w3_ : Le (w.heap.size + 2) w3_ := ⟨by have := a0_w3_.below.size; simp at this; omega⟩
          have h0_w3_ := HK.out w3_ a0_w3_
          have aw_w3_ : After w w3_ := after_after inferInstance a0_w3_
          clear hy
          go_wp2_with fail
          refine wp_region_more (by kernel_rfl) (by kernel_rfl) ?_
          repeat (go_big_quiet_step ((first | (go_at_call 33; with_reducible exact Calls.more_of (Gives.on G4 _ (after_after aw_w3_ inferInstance))) | (go_at_call 32; with_reducible exact Calls.more_of (Gives.on G5 _ (after_after aw_w3_ inferInstance))) | (go_at_call 32; with_reducible exact Calls.more_of (Gives.on G6 _ (after_after aw_w3_ inferInstance))) | (go_at_call 19; with_reducible exact Calls.more_of (Gives.on GC _ (after_after aw_w3_ inferInstance))))))
          refine wpQuiet_nil ?_
          rintro _ ⟨yr, rfl⟩
          obtain ⟨w4_, hw_, hy⟩ : ∃ U, w3_.more yr = U ∧ ∃ y, U = w3_.more y := ⟨_, rfl, _, rfl⟩
          rw [hw_]
          clear hw_
          have a0_w4_ : After ((w.alloc (.cells #[.slice A h.length c, .slice B l.length d] 24)).alloc (.cells #[.slice A' h'.length c', .slice B' l'.length d'] 24)) w4_ := after_of_more hy (after_after a0_w3_ inferInstance)
          have l00_w4_ : Le (w.heap.size + 1) w4_ := ⟨by have := a0_w4_.below.size; simp at this; omega⟩
          have l01_w4_ : Le (w.heap.size + 2) w4_ := ⟨by have := a0_w4_.below.size; simp at this; omega⟩
          have h0_w4_ := HK.out w4_ a0_w4_
          have aw_w4_ : After w w4_ := after_after inferInstance a0_w4_
          clear hy
          go_wp2_with fail
          refine wp_region_more (by kernel_rfl) (by kernel_rfl) ?_
          repeat (go_big_quiet_step ((first | (go_at_call 19; with_reducible exact Calls.more_of (Gives.on GC _ (after_after aw_w4_ inferInstance))) | (go_at_call 19; with_reducible exact Calls.more_of (Gives.on GC2 _ (after_after aw_w4_ inferInstance))))))
          refine wpQuiet_nil ?_
          rintro _ ⟨yr, rfl⟩
          obtain ⟨w5_, hw_, hy⟩ : ∃ U, w4_.more yr = U ∧ ∃ y, U = w4_.more y := ⟨_, rfl, _, rfl⟩
          rw [hw_]
          clear hw_
          have a0_w5_ : After ((w.alloc (.cells #[.slice A h.length c, .slice B l.length d] 24)).alloc (.cells #[.slice A' h'.length c', .slice B' l'.length d'] 24)) w5_ := after_of_more hy (after_after a0_w4_ inferInstance)
          have l00_w5_ : Le (w.heap.size + 1) w5_ := ⟨by have := a0_w5_.below.size; simp at this; omega⟩
          have l01_w5_ : Le (w.heap.size + 2) w5_ := ⟨by have := a0_w5_.below.size; simp at this; omega⟩
          have h0_w5_ := HK.out w5_ a0_w5_
          have aw_w5_ : After w w5_ := after_after inferInstance a0_w5_
          clear hy
          go_wp2_with fail
          refine (GivesW.on G8 _ (after_after aw_w5_ inferInstance)).mono ?_
          rintro e w6_ ⟨A8, c8, B8, d8, rfl, x8, hy⟩
          have a0_w6_ : After ((w.alloc (.cells #[.slice A h.length c, .slice B l.length d] 24)).alloc (.cells #[.slice A' h'.length c', .slice B' l'.length d'] 24)) w6_ := after_of_more hy (after_after a0_w5_ inferInstance)
          have l00_w6_ : Le (w.heap.size + 1) w6_ := ⟨by have := a0_w6_.below.size; simp at this; omega⟩
          have l01_w6_ : Le (w.heap.size + 2) w6_ := ⟨by have := a0_w6_.below.size; simp at this; omega⟩
          have h0_w6_ := HK.out w6_ a0_w6_
          have aw_w6_ : After w w6_ := after_after inferInstance a0_w6_
          clear hy
          have X8 := Lib.hid x8
          clear x8
          go_wp2_with fail
          obtain ⟨g8, hg_⟩ : ∃ g, w6_.heap.size = g := ⟨_, rfl⟩
          obtain ⟨w7_, hU_, b8, HK8, Lq8⟩ : ∃ U, w6_.alloc (.cells #[.slice A8 N1.length c8, .slice B8 N2.length d8] 24) = U ∧ After w6_ U ∧ Hid (∀ V, After U V → V.cell? ⟨g8, 0, none⟩ = some (.slice A8 N1.length c8) ∧ V.cell? ⟨g8, 1, none⟩ = some (.slice B8 N2.length d8)) ∧ Le (g8 + 1) U := by
            refine ⟨_, rfl, inferInstance, fun V k_ => ?_, ⟨by rw [← hg_]; simp⟩⟩
            have f_ := (Blk.new w6_ 24 #[.slice A8 N1.length c8, .slice B8 N2.length d8]).after (w' := V)
            rw [hg_] at f_
            exact ⟨by rw [f_.cell]; rfl, by rw [f_.cell]; rfl⟩
          rw [hU_, hg_]
          clear hU_ hg_
          have a0_w7_ : After ((w.alloc (.cells #[.slice A h.length c, .slice B l.length d] 24)).alloc (.cells #[.slice A' h'.length c', .slice B' l'.length d'] 24)) w7_ := after_after a0_w6_ b8
          have l00_w7_ : Le (w.heap.size + 1) w7_ := ⟨by have := a0_w7_.below.size; simp at this; omega⟩
          have l01_w7_ : Le (w.heap.size + 2) w7_ := ⟨by have := a0_w7_.below.size; simp at this; omega⟩
          have h0_w7_ := HK.out w7_ a0_w7_
          have aw_w7_ : After w w7_ := after_after inferInstance a0_w7_
          have a8_w7_ : After w7_ w7_ := inferInstance
          have h8_w7_ := HK8.out w7_ a8_w7_
          replace X8 := Lib.hid (X8.out.here w7_)
          go_wp2_with fail
          have tk1 : True := trivial
          have tk2 : True := trivial
          have q_w0 : After w7_ w7_ := inferInstance
          go_region_held3 (fun V => (V.cell? ⟨w.heap.size, 0, none⟩ = some (.slice A h.length c) ∧ V.cell? ⟨w.heap.size, 1, none⟩ = some (.slice B l.length d) ∧ V.cell? ⟨w.heap.size + 1, 0, none⟩ = some (.slice A' h'.length c') ∧ V.cell? ⟨w.heap.size + 1, 1, none⟩ = some (.slice B' l'.length d')) ∧ V.cell? ⟨g8, 0, none⟩ = some (.slice A8 N1.length c8) ∧ V.cell? ⟨g8, 1, none⟩ = some (.slice B8 N2.length d8)) (exact ⟨HK.out _ (after_after a0_w7_ inferInstance), HK8.out _ inferInstance⟩)
            (first
            | (have _t := tk1; go_at_call 34; (with_reducible refine (GivesW.on G9 _ (after_after aw_w7_ (after_after q_w0 inferInstance))).mono ?_); rintro e w8_ ⟨A9, c9, B9, d9, rfl, x9, hy⟩; have q_w8_ : After w7_ w8_ := after_of_more hy (after_after q_w0 inferInstance); have E1 := equal_v ((X8.out.here w7_).here w8_) x9 (v := true) (by simp); clear hy _t tk1)
            | (have _t := tk2; go_at_call 16; (with_reducible refine (Gives.on E1 _ inferInstance).mono ?_); rintro e w9_ ⟨rfl, hy⟩; have q_w9_ : After w7_ w9_ := after_of_more hy (after_after q_w8_ inferInstance); have r_w9_ : After w8_ w9_ := after_of_more hy inferInstance; clear hy _t tk2))
          have a0_w9_ : After ((w.alloc (.cells #[.slice A h.length c, .slice B l.length d] 24)).alloc (.cells #[.slice A' h'.length c', .slice B' l'.length d'] 24)) w9_ := after_after a0_w7_ q_w9_
          have l00_w9_ : Le (w.heap.size + 1) w9_ := ⟨by have := a0_w9_.below.size; simp at this; omega⟩
          have l01_w9_ : Le (w.heap.size + 2) w9_ := ⟨by have := a0_w9_.below.size; simp at this; omega⟩
          have h0_w9_ := HK.out w9_ a0_w9_
          have a8_w9_ : After w7_ w9_ := after_after a8_w7_ q_w9_
          have l80_w9_ : Le (g8 + 1) w9_ := ⟨Nat.le_trans Lq8.le a8_w9_.below.size⟩
          have h8_w9_ := HK8.out w9_ a8_w9_
          have aw_w9_ : After w w9_ := after_after inferInstance a0_w9_
          go_wp2_with fail
          go_loopw [7] (fun k wr => ∃ j : Nat, j ≤ 100 ∧ k = .int .i64 j ∧ After w9_ wr) (fun k _ => 100 - (intOf k).toNat)
          case atStart => exact ⟨0, by omega, rfl, inferInstance⟩
          case round =>
            obtain ⟨j, hj, rfl, ar_⟩ := hrel
            have a0_wr : After ((w.alloc (.cells #[.slice A h.length c, .slice B l.length d] 24)).alloc (.cells #[.slice A' h'.length c', .slice B' l'.length d'] 24)) wr := after_after a0_w9_ ar_
            have l00_wr : Le (w.heap.size + 1) wr := ⟨by have := a0_wr.below.size; simp at this; omega⟩
            have l01_wr : Le (w.heap.size + 2) wr := ⟨by have := a0_wr.below.size; simp at this; omega⟩
            have h0_wr := HK.out wr a0_wr
            have a8_wr : After w7_ wr := after_after a8_w9_ ar_
            have l80_wr : Le (g8 + 1) wr := ⟨Nat.le_trans Lq8.le a8_wr.below.size⟩
            have h8_wr := HK8.out wr a8_wr
            have aw_wr : After w wr := after_after inferInstance a0_wr
            by_cases hlt : j < 100
            · have hltI : (j : Int) < 100 := by omega
              have hc := HN.out j
              have Ga := at_v X8.out (i := (j : Nat)) (by omega) rfl
              have Gb := at_v x (i := (j : Nat)) (by omega) rfl
              rw [hc] at Ga
              generalize atB h l (j : Nat) = b1 at Ga Gb
              have t3 : ((!b1) == b1) = false := by cases b1 <;> rfl
              clear hc
              go_wp2_with fail
              refine (Gives.on GC _ (after_after aw_wr inferInstance)).mono ?_
              rintro e w41_ ⟨rfl, hy⟩
              have a0_w41_ : After ((w.alloc (.cells #[.slice A h.length c, .slice B l.length d] 24)).alloc (.cells #[.slice A' h'.length c', .slice B' l'.length d'] 24)) w41_ := after_of_more hy (after_after a0_wr inferInstance)
              have l00_w41_ : Le (w.heap.size + 1) w41_ := ⟨by have := a0_w41_.below.size; simp at this; omega⟩
              have l01_w41_ : Le (w.heap.size + 2) w41_ := ⟨by have := a0_w41_.below.size; simp at this; omega⟩
              have h0_w41_ := HK.out w41_ a0_w41_
              have a8_w41_ : After w7_ w41_ := after_of_more hy (after_after a8_wr inferInstance)
              have l80_w41_ : Le (g8 + 1) w41_ := ⟨Nat.le_trans Lq8.le a8_w41_.below.size⟩
              have h8_w41_ := HK8.out w41_ a8_w41_
              have aw_w41_ : After w w41_ := after_after inferInstance a0_w41_
              have r1_ : After wr w41_ := after_of_more hy inferInstance
              clear hy
              go_wp2_with fail
              refine wp_region_more (by kernel_rfl) (by kernel_rfl) ?_
              repeat (go_big_quiet_step ((first | (go_at_call 22; with_reducible exact Calls.more_of (Gives.on Ga _ (after_after a8_w41_ inferInstance))) | (go_at_call 22; with_reducible exact Calls.more_of (Gives.on Gb _ (after_after aw_w41_ inferInstance))))))
              refine wpQuiet_nil ?_
              rintro _ ⟨yr, rfl⟩
              obtain ⟨w42_, hw_, hy⟩ : ∃ U, w41_.more yr = U ∧ ∃ y, U = w41_.more y := ⟨_, rfl, _, rfl⟩
              rw [hw_]
              clear hw_
              have a0_w42_ : After ((w.alloc (.cells #[.slice A h.length c, .slice B l.length d] 24)).alloc (.cells #[.slice A' h'.length c', .slice B' l'.length d'] 24)) w42_ := after_of_more hy (after_after a0_w41_ inferInstance)
              have l00_w42_ : Le (w.heap.size + 1) w42_ := ⟨by have := a0_w42_.below.size; simp at this; omega⟩
              have l01_w42_ : Le (w.heap.size + 2) w42_ := ⟨by have := a0_w42_.below.size; simp at this; omega⟩
              have h0_w42_ := HK.out w42_ a0_w42_
              have a8_w42_ : After w7_ w42_ := after_of_more hy (after_after a8_w41_ inferInstance)
              have l80_w42_ : Le (g8 + 1) w42_ := ⟨Nat.le_trans Lq8.le a8_w42_.below.size⟩
              have h8_w42_ := HK8.out w42_ a8_w42_
              have aw_w42_ : After w w42_ := after_after inferInstance a0_w42_
              have r2_ : After w41_ w42_ := after_of_more hy inferInstance
              clear hy
              go_wp2_with fail
              go_roundw
              case rel => exact ⟨j + 1, by omega, by go_num, after_after ar_ (after_after r1_ r2_)⟩
              case measure => simp [intOf]; omega
            · obtain rfl : j = 100 := by omega
              go_wp2_with fail
              refine (Gives.on GA _ (after_after aw_wr inferInstance)).mono ?_
              rintro e w61_ ⟨rfl, hy⟩
              have a0_w61_ : After ((w.alloc (.cells #[.slice A h.length c, .slice B l.length d] 24)).alloc (.cells #[.slice A' h'.length c', .slice B' l'.length d'] 24)) w61_ := after_of_more hy (after_after a0_wr inferInstance)
              have l00_w61_ : Le (w.heap.size + 1) w61_ := ⟨by have := a0_w61_.below.size; simp at this; omega⟩
              have l01_w61_ : Le (w.heap.size + 2) w61_ := ⟨by have := a0_w61_.below.size; simp at this; omega⟩
              have h0_w61_ := HK.out w61_ a0_w61_
              have a8_w61_ : After w7_ w61_ := after_of_more hy (after_after a8_wr inferInstance)
              have l80_w61_ : Le (g8 + 1) w61_ := ⟨Nat.le_trans Lq8.le a8_w61_.below.size⟩
              have h8_w61_ := HK8.out w61_ a8_w61_
              have aw_w61_ : After w w61_ := after_after inferInstance a0_w61_
              clear hy
              go_wp2_with fail
              go_ret
              exact ⟨rfl, @After.is_more w _ (after_after aw_w61_ inferInstance)⟩
      · obtain ⟨v1, ev, hv1⟩ : ∃ v, checkI h l = v ∧ (v == 0) = false := by
          rcases h5 with h5 | h5
          · exact ⟨5, h5, rfl⟩
          · exact ⟨3, h5, rfl⟩
        have G6 := same_v x x ((sameB_self h l).trans (by rw [ev]))
        have GC := check_v x ev
        have t2 : ((v1 == 0) != (v1 == 0)) = false := by simp
        clear hv h5 ev hs eN
        go_enter Try.func9, Try.ntmps9
        go_wp2_with fail
        refine (Gives.on G1 _ inferInstance).mono ?_
        rintro e w1_ ⟨rfl, hy⟩
        have a0_w1_ : After ((w.alloc (.cells #[.slice A h.length c, .slice B l.length d] 24)).alloc (.cells #[.slice A' h'.length c', .slice B' l'.length d'] 24)) w1_ := after_of_more hy inferInstance
        have l00_w1_ : Le (w.heap.size + 1) w1_ := ⟨by have := a0_w1_.below.size; simp at this; omega⟩
        have l01_w1_ : Le (w.heap.size + 2) w1_ := ⟨by have := a0_w1_.below.size; simp at this; omega⟩
        have h0_w1_ := HK.out w1_ a0_w1_
        have aw_w1_ : After w w1_ := after_after inferInstance a0_w1_
        clear hy
        go_wp2_with fail
        refine (Gives.on G2 _ (after_after aw_w1_ inferInstance)).mono ?_
        rintro e w2_ ⟨rfl, hy⟩
        have a0_w2_ : After ((w.alloc (.cells #[.slice A h.length c, .slice B l.length d] 24)).alloc (.cells #[.slice A' h'.length c', .slice B' l'.length d'] 24)) w2_ := after_of_more hy (after_after a0_w1_ inferInstance)
        have l00_w2_ : Le (w.heap.size + 1) w2_ := ⟨by have := a0_w2_.below.size; simp at this; omega⟩
        have l01_w2_ : Le (w.heap.size + 2) w2_ := ⟨by have := a0_w2_.below.size; simp at this; omega⟩
        have h0_w2_ := HK.out w2_ a0_w2_
        have aw_w2_ : After w w2_ := after_after inferInstance a0_w2_
        clear hy
        go_wp2_with fail
        refine (Gives.on G3 _ (after_after aw_w2_ inferInstance)).mono ?_
        rintro e w3_ ⟨rfl, hy⟩
        have a0_w3_ : After ((w.alloc (.cells #[.slice A h.length c, .slice B l.length d] 24)).alloc (.cells #[.slice A' h'.length c', .slice B' l'.length d'] 24)) w3_ := after_of_more hy (after_after a0_w2_ inferInstance)
        have l00_w3_ : Le (w.heap.size + 1) w3_ := ⟨by have := a0_w3_.below.size; simp at this; omega⟩
        have l01_w3_ : Le (w.heap.size + 2) w3_ := ⟨by have := a0_w3_.below.size; simp at this; omega⟩
        have h0_w3_ := HK.out w3_ a0_w3_
        have aw_w3_ : After w w3_ := after_after inferInstance a0_w3_
        clear hy
        go_wp2_with fail
        refine wp_region_more (by kernel_rfl) (by kernel_rfl) ?_
        repeat (go_big_quiet_step ((first | (go_at_call 33; with_reducible exact Calls.more_of (Gives.on G4 _ (after_after aw_w3_ inferInstance))) | (go_at_call 32; with_reducible exact Calls.more_of (Gives.on G5 _ (after_after aw_w3_ inferInstance))) | (go_at_call 32; with_reducible exact Calls.more_of (Gives.on G6 _ (after_after aw_w3_ inferInstance))) | (go_at_call 19; with_reducible exact Calls.more_of (Gives.on GC _ (after_after aw_w3_ inferInstance))))))
        refine wpQuiet_nil ?_
        rintro _ ⟨yr, rfl⟩
        obtain ⟨w4_, hw_, hy⟩ : ∃ U, w3_.more yr = U ∧ ∃ y, U = w3_.more y := ⟨_, rfl, _, rfl⟩
        rw [hw_]
        clear hw_
        have a0_w4_ : After ((w.alloc (.cells #[.slice A h.length c, .slice B l.length d] 24)).alloc (.cells #[.slice A' h'.length c', .slice B' l'.length d'] 24)) w4_ := after_of_more hy (after_after a0_w3_ inferInstance)
        have l00_w4_ : Le (w.heap.size + 1) w4_ := ⟨by have := a0_w4_.below.size; simp at this; omega⟩
        have l01_w4_ : Le (w.heap.size + 2) w4_ := ⟨by have := a0_w4_.below.size; simp at this; omega⟩
        have h0_w4_ := HK.out w4_ a0_w4_
        have aw_w4_ : After w w4_ := after_after inferInstance a0_w4_
        clear hy
        go_wp2_with fail
        refine wp_region_more (by kernel_rfl) (by kernel_rfl) ?_
        repeat (go_big_quiet_step ((first | (go_at_call 19; with_reducible exact Calls.more_of (Gives.on GC _ (after_after aw_w4_ inferInstance))))))
        refine wpQuiet_nil ?_
        rintro _ ⟨yr, rfl⟩
        obtain ⟨w5_, hw_, hy⟩ : ∃ U, w4_.more yr = U ∧ ∃ y, U = w4_.more y := ⟨_, rfl, _, rfl⟩
        rw [hw_]
        clear hw_
        have a0_w5_ : After ((w.alloc (.cells #[.slice A h.length c, .slice B l.length d] 24)).alloc (.cells #[.slice A' h'.length c', .slice B' l'.length d'] 24)) w5_ := after_of_more hy (after_after a0_w4_ inferInstance)
        have l00_w5_ : Le (w.heap.size + 1) w5_ := ⟨by have := a0_w5_.below.size; simp at this; omega⟩
        have l01_w5_ : Le (w.heap.size + 2) w5_ := ⟨by have := a0_w5_.below.size; simp at this; omega⟩
        have h0_w5_ := HK.out w5_ a0_w5_
        have aw_w5_ : After w w5_ := after_after inferInstance a0_w5_
        clear hy
        go_wp2_with fail
        refine (GivesW.on G8 _ (after_after aw_w5_ inferInstance)).mono ?_
        rintro e w6_ ⟨A8, c8, B8, d8, rfl, x8, hy⟩
        have a0_w6_ : After ((w.alloc (.cells #[.slice A h.length c, .slice B l.length d] 24)).alloc (.cells #[.slice A' h'.length c', .slice B' l'.length d'] 24)) w6_ := after_of_more hy (after_after a0_w5_ inferInstance)
        have l00_w6_ : Le (w.heap.size + 1) w6_ := ⟨by have := a0_w6_.below.size; simp at this; omega⟩
        have l01_w6_ : Le (w.heap.size + 2) w6_ := ⟨by have := a0_w6_.below.size; simp at this; omega⟩
        have h0_w6_ := HK.out w6_ a0_w6_
        have aw_w6_ : After w w6_ := after_after inferInstance a0_w6_
        clear hy
        have X8 := Lib.hid x8
        clear x8
        go_wp2_with fail
        obtain ⟨g8, hg_⟩ : ∃ g, w6_.heap.size = g := ⟨_, rfl⟩
        obtain ⟨w7_, hU_, b8, HK8, Lq8⟩ : ∃ U, w6_.alloc (.cells #[.slice A8 N1.length c8, .slice B8 N2.length d8] 24) = U ∧ After w6_ U ∧ Hid (∀ V, After U V → V.cell? ⟨g8, 0, none⟩ = some (.slice A8 N1.length c8) ∧ V.cell? ⟨g8, 1, none⟩ = some (.slice B8 N2.length d8)) ∧ Le (g8 + 1) U := by
          refine ⟨_, rfl, inferInstance, fun V k_ => ?_, ⟨by rw [← hg_]; simp⟩⟩
          have f_ := (Blk.new w6_ 24 #[.slice A8 N1.length c8, .slice B8 N2.length d8]).after (w' := V)
          rw [hg_] at f_
          exact ⟨by rw [f_.cell]; rfl, by rw [f_.cell]; rfl⟩
        rw [hU_, hg_]
        clear hU_ hg_
        have a0_w7_ : After ((w.alloc (.cells #[.slice A h.length c, .slice B l.length d] 24)).alloc (.cells #[.slice A' h'.length c', .slice B' l'.length d'] 24)) w7_ := after_after a0_w6_ b8
        have l00_w7_ : Le (w.heap.size + 1) w7_ := ⟨by have := a0_w7_.below.size; simp at this; omega⟩
        have l01_w7_ : Le (w.heap.size + 2) w7_ := ⟨by have := a0_w7_.below.size; simp at this; omega⟩
        have h0_w7_ := HK.out w7_ a0_w7_
        have aw_w7_ : After w w7_ := after_after inferInstance a0_w7_
        have a8_w7_ : After w7_ w7_ := inferInstance
        have h8_w7_ := HK8.out w7_ a8_w7_
        replace X8 := Lib.hid (X8.out.here w7_)
        go_wp2_with fail
        have tk1 : True := trivial
        have tk2 : True := trivial
        have q_w0 : After w7_ w7_ := inferInstance
        go_region_held3 (fun V => (V.cell? ⟨w.heap.size, 0, none⟩ = some (.slice A h.length c) ∧ V.cell? ⟨w.heap.size, 1, none⟩ = some (.slice B l.length d) ∧ V.cell? ⟨w.heap.size + 1, 0, none⟩ = some (.slice A' h'.length c') ∧ V.cell? ⟨w.heap.size + 1, 1, none⟩ = some (.slice B' l'.length d')) ∧ V.cell? ⟨g8, 0, none⟩ = some (.slice A8 N1.length c8) ∧ V.cell? ⟨g8, 1, none⟩ = some (.slice B8 N2.length d8)) (exact ⟨HK.out _ (after_after a0_w7_ inferInstance), HK8.out _ inferInstance⟩)
          (first
          | (have _t := tk1; go_at_call 34; (with_reducible refine (GivesW.on G9 _ (after_after aw_w7_ (after_after q_w0 inferInstance))).mono ?_); rintro e w8_ ⟨A9, c9, B9, d9, rfl, x9, hy⟩; have q_w8_ : After w7_ w8_ := after_of_more hy (after_after q_w0 inferInstance); have E1 := equal_v ((X8.out.here w7_).here w8_) x9 (v := true) (by simp); clear hy _t tk1)
          | (have _t := tk2; go_at_call 16; (with_reducible refine (Gives.on E1 _ inferInstance).mono ?_); rintro e w9_ ⟨rfl, hy⟩; have q_w9_ : After w7_ w9_ := after_of_more hy (after_after q_w8_ inferInstance); have r_w9_ : After w8_ w9_ := after_of_more hy inferInstance; clear hy _t tk2))
        have a0_w9_ : After ((w.alloc (.cells #[.slice A h.length c, .slice B l.length d] 24)).alloc (.cells #[.slice A' h'.length c', .slice B' l'.length d'] 24)) w9_ := after_after a0_w7_ q_w9_
        have l00_w9_ : Le (w.heap.size + 1) w9_ := ⟨by have := a0_w9_.below.size; simp at this; omega⟩
        have l01_w9_ : Le (w.heap.size + 2) w9_ := ⟨by have := a0_w9_.below.size; simp at this; omega⟩
        have h0_w9_ := HK.out w9_ a0_w9_
        have a8_w9_ : After w7_ w9_ := after_after a8_w7_ q_w9_
        have l80_w9_ : Le (g8 + 1) w9_ := ⟨Nat.le_trans Lq8.le a8_w9_.below.size⟩
        have h8_w9_ := HK8.out w9_ a8_w9_
        have aw_w9_ : After w w9_ := after_after inferInstance a0_w9_
        go_wp2_with fail
        go_loopw [7] (fun k wr => k = .int .i64 0 ∧ After w9_ wr) (fun k _ => 0)
        case atStart => exact ⟨rfl, inferInstance⟩
        case round =>
          obtain ⟨rfl, ar_⟩ := hrel
          have a0_wr : After ((w.alloc (.cells #[.slice A h.length c, .slice B l.length d] 24)).alloc (.cells #[.slice A' h'.length c', .slice B' l'.length d'] 24)) wr := after_after a0_w9_ ar_
          have l00_wr : Le (w.heap.size + 1) wr := ⟨by have := a0_wr.below.size; simp at this; omega⟩
          have l01_wr : Le (w.heap.size + 2) wr := ⟨by have := a0_wr.below.size; simp at this; omega⟩
          have h0_wr := HK.out wr a0_wr
          have a8_wr : After w7_ wr := after_after a8_w9_ ar_
          have l80_wr : Le (g8 + 1) wr := ⟨Nat.le_trans Lq8.le a8_wr.below.size⟩
          have h8_wr := HK8.out wr a8_wr
          have aw_wr : After w wr := after_after inferInstance a0_wr
          go_wp2_with fail
          refine (Gives.on GC _ (after_after aw_wr inferInstance)).mono ?_
          rintro e w10_ ⟨rfl, hy⟩
          have a0_w10_ : After ((w.alloc (.cells #[.slice A h.length c, .slice B l.length d] 24)).alloc (.cells #[.slice A' h'.length c', .slice B' l'.length d'] 24)) w10_ := after_of_more hy (after_after a0_wr inferInstance)
          have l00_w10_ : Le (w.heap.size + 1) w10_ := ⟨by have := a0_w10_.below.size; simp at this; omega⟩
          have l01_w10_ : Le (w.heap.size + 2) w10_ := ⟨by have := a0_w10_.below.size; simp at this; omega⟩
          have h0_w10_ := HK.out w10_ a0_w10_
          have a8_w10_ : After w7_ w10_ := after_of_more hy (after_after a8_wr inferInstance)
          have l80_w10_ : Le (g8 + 1) w10_ := ⟨Nat.le_trans Lq8.le a8_w10_.below.size⟩
          have h8_w10_ := HK8.out w10_ a8_w10_
          have aw_w10_ : After w w10_ := after_after inferInstance a0_w10_
          clear hy
          go_wp2_with fail
          refine (Gives.on GA _ (after_after aw_w10_ inferInstance)).mono ?_
          rintro e w11_ ⟨rfl, hy⟩
          have a0_w11_ : After ((w.alloc (.cells #[.slice A h.length c, .slice B l.length d] 24)).alloc (.cells #[.slice A' h'.length c', .slice B' l'.length d'] 24)) w11_ := after_of_more hy (after_after a0_w10_ inferInstance)
          have l00_w11_ : Le (w.heap.size + 1) w11_ := ⟨by have := a0_w11_.below.size; simp at this; omega⟩
          have l01_w11_ : Le (w.heap.size + 2) w11_ := ⟨by have := a0_w11_.below.size; simp at this; omega⟩
          have h0_w11_ := HK.out w11_ a0_w11_
          have a8_w11_ : After w7_ w11_ := after_of_more hy (after_after a8_w10_ inferInstance)
          have l80_w11_ : Le (g8 + 1) w11_ := ⟨Nat.le_trans Lq8.le a8_w11_.below.size⟩
          have h8_w11_ := HK8.out w11_ a8_w11_
          have aw_w11_ : After w w11_ := after_after inferInstance a0_w11_
          clear hy
          go_wp2_with fail
          go_ret
          exact ⟨rfl, @After.is_more w _ (after_after aw_w11_ inferInstance)⟩

set_option maxRecDepth 100000 in
theorem lifted (os : Os) (started : os.Started) (H : Type) (enc : TypeId × Value → H) :
    ReturnsInHanded {} Try.checked os 9 .any (Rows.bwordSamesSpec.pre6 enc Try.prog Try.f9 Rows.bwordSamesRow.domain false) (Rows.bwordSamesSpec.post enc Try.prog Try.f9 false true false false) := by
  refine returnsInHanded_of_change_sized (C := Try.checked) own started (by kernel_rfl) Try.func9
    (ChangeSpec.witness6 (enc := enc) (C := Try.checked) false ⟨#[], #[.agg #[.slice none 0 0, .slice none 0 0], .agg #[.slice none 0 0, .slice none 0 0]], []⟩ 8 (by kernel_rfl) (by kernel_rfl) (by kernel_rfl) (by kernel_rfl)) ?_
  intro W base args ds gs before hval0 hW hcnd hsz0 _
  have hval : ∀ (j : Nat) t v, Try.f9.params[j]? = some t → args[j]? = some v → Value.okWide Try.prog W .any base t v := hval0
  have hsz : (DataW.weightsEach Try.prog (Try.f9.params.toList ++ Rows.bwordSamesSpec.plain.varTypes Try.prog) (ds ++ gs)).all (· ≤ reachBytes) = true := hsz0
  have hW' := hW
  obtain ⟨p, q, hA0, hV, rfl, hfz, hnd⟩ := hW
  have hA : DataW.TrodAll enc Try.prog W 0 (fun _ => true) true Try.f9.params.toList args.toList ds p := hA0
  rw [Try.params9] at hA hval hsz
  obtain ⟨v0, vs0, d0, ds0, p0, q0, hargs, rfl, rfl, h0, r0⟩ := trodAll_cons hA
  obtain ⟨v1, vs1, d1, ds1, p1, q1, rfl, rfl, rfl, h1, r1⟩ := trodAll_cons r0
  obtain ⟨rfl, rfl, rfl⟩ := trodAll_nil r1
  obtain rfl : args = #[v0, v1] := by cases args; simp_all
  obtain ⟨rfl, rfl⟩ := trodVars_none hV
  have k0 := h0
  have lt0 : ∀ x ∈ p0, x.block < W.heap.size := by obtain ⟨m, hm⟩ := k0; exact DataW.trod_lt m _ _ _ hm
  have z0 : ∀ n ∈ d0.weights Try.prog 24, n ≤ reachBytes := fun n hn => by
    simpa using List.all_eq_true.1 hsz n (DataW.weights_mem_each (j := 0) (t := 24) rfl rfl n hn)
  obtain ⟨A0, c0, B0, c0', hl0, ll0, rfl, x0⟩ := open_word (e := 4) Try.underlying24 (by kernel_rfl) (by kernel_rfl) Try.underlying22 Try.underlying22 Try.underlying4 (by kernel_rfl) (by kernel_rfl) (hval 0 24 v0 rfl rfl) h0 z0
  have k1 := h1
  have lt1 : ∀ x ∈ p1, x.block < W.heap.size := by obtain ⟨m, hm⟩ := k1; exact DataW.trod_lt m _ _ _ hm
  have z1 : ∀ n ∈ d1.weights Try.prog 24, n ≤ reachBytes := fun n hn => by
    simpa using List.all_eq_true.1 hsz n (DataW.weights_mem_each (j := 1) (t := 24) rfl rfl n hn)
  obtain ⟨A1, c1, B1, c1', hl1, ll1, rfl, x1⟩ := open_word (e := 4) Try.underlying24 (by kernel_rfl) (by kernel_rfl) Try.underlying22 Try.underlying22 Try.underlying4 (by kernel_rfl) (by kernel_rfl) (hval 1 24 v1 rfl rfl) h1 z1
  clear hA0 hval0 hsz0 hsz
  refine (walk W x0 x1).mono fun e W' ⟨he, y, hy⟩ => ?_
  subst he
  have bel : Below W.heap.size W W' := by rw [hy]; exact more_below W y
  exact ⟨_, rfl, _, _, _, [], _, [], hW', trodAll_mk1 (shut_bool Try.underlying4 _), (trodAll_cons_mk (Below.trod laidOut (by kernel_rfl) (of_decide_eq_true (by kernel_rfl)) k0 bel lt0) (trodAll_cons_mk (Below.trod laidOut (by kernel_rfl) (of_decide_eq_true (by kernel_rfl)) k1 bel lt1) trodAll_mk0)), rfl, bel.frame _, fun h => by cases h⟩

theorem over : Rows.bwordSamesRow.holds Try.pinned (OpenSpec.ofChange Rows.bwordSamesSpec) :=
  OpenClaim.holds_of_wide 9 Try.f9 rfl rfl rfl rfl rfl rfl rfl ⟨rfl, rfl, rfl, rfl, rfl⟩ rfl rfl rfl rfl rfl (by kernel_rfl) Try.func9 (by kernel_rfl)
    (of_decide_eq_true (by kernel_rfl)) (by unfold Func.isWrapper; first | (rw [if_pos (by decide +kernel)]; kernel_rfl) | (rw [if_neg (by decide +kernel)]; exact ⟨rfl, rfl⟩))
    (fun os started H enc _ => lifted os started H enc)

theorem proved : Rows.BwordSamesSaid := over
#print axioms proved
end Go.Proofs.Ytjbpelkdciphnaa.bwordSames
