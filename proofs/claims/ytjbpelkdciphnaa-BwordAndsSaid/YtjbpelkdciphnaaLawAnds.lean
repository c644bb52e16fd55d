/-
  The conjunction is the chapter's, letter by letter, in either order; that of a word and its Not has no ones: for any two words. No conditions.
-/
import Derived.Test.YtjbpelkdciphnaaAwake2
import Derived.Test.YtjbpelkdciphnaaGives
import Derived.Test.YtjbpelkdciphnaaLift
import Derived.Test.YtjbpelkdciphnaaRAnd
import Derived.Test.YtjbpelkdciphnaaNot
namespace Go.Proofs.Ytjbpelkdciphnaa.bwordAnds
open Go.ChangeShapes Go.WideShapes Go.ChangeAt Go.RowKit Go.BigFrame
set_option linter.unusedVariables false
set_option linter.unusedSimpArgs false

theorem own : ownKnob Try.prog.godebug = none := by kernel_rfl
theorem laidOut : laidOutB Try.prog = true := by kernel_rfl

section
variable {w0 : World} {A : Option Addr} {c : Nat} {B : Option Addr} {d : Nat} {h l : List Bool} {A' : Option Addr} {c' : Nat} {B' : Option Addr} {d' : Nat} {h' l' : List Bool}
theorem huge_v (x : RW w0 A c B d h l) {v : Bool} (e : hugeB h l = v) : Gives w0 12 #[.agg #[.slice A h.length c, .slice B l.length d]] (.bool v) := fun U _ => e ▸ huge_any x U
theorem awake_v (w : World) : Gives w 13 #[] (.bool true) := fun U _ => awake_any U
theorem check_v (x : RW w0 A c B d h l) {v : Int} (e : checkI h l = v) : Gives w0 19 #[.agg #[.slice A h.length c, .slice B l.length d]] (.int .i64 v) := fun U _ => e ▸ check_any x U
theorem rcheck_v (x : RW w0 A c B d h l) {v : Int} (e : checkI h l = v) : Gives w0 21 #[.agg #[.slice A h.length c, .slice B l.length d]] (.int .i64 v) := fun U _ => e ▸ rcheck_any x U
theorem at_v (x : RW w0 A c B d h l) {i : Int} (hi : i ≤ 9223372036854775807) {v : Bool} (e : atB h l i = v) : Gives w0 22 #[.agg #[.slice A h.length c, .slice B l.length d], .int .i64 i] (.bool v) := fun U _ => e ▸ at_any x U i hi
theorem rat_v (x : RW w0 A c B d h l) {i : Int} (hi : i ≤ 9223372036854775807) {v : Bool} (e : atB h l i = v) : Gives w0 23 #[.agg #[.slice A h.length c, .slice B l.length d], .int .i64 i] (.bool v) := fun U _ => e ▸ rat_any x U i hi
theorem ones_v (x : RW w0 A c B d h l) {i : Int} (hi : i ≤ 9223372036854775807) {v : Int} (e : onesI h l i = v) : Gives w0 17 #[.agg #[.slice A h.length c, .slice B l.length d], .int .i64 i] (.int .i64 v) := fun U _ => e ▸ ones_all x U i hi
theorem rones_v (x : RW w0 A c B d h l) {i : Int} (hi : i ≤ 9223372036854775807) {v : Int} (e : onesI h l i = v) : Gives w0 24 #[.agg #[.slice A h.length c, .slice B l.length d], .int .i64 i] (.int .i64 v) := fun U _ => e ▸ rones_all x U i hi
theorem equal_v (x : RW w0 A c B d h l) (x' : RW w0 A' c' B' d' h' l') {v : Bool} (e : (h == h' && l == l') = v) : Gives w0 16 #[.agg #[.slice A h.length c, .slice B l.length d], .agg #[.slice A' h'.length c', .slice B' l'.length d']] (.bool v) := fun U _ => e ▸ requal_any x x' U
theorem on_v (x : RW w0 A c B d h l) (x' : RW w0 A' c' B' d' h' l') {H L : List Bool} {v : Int} (e : onW h l h' l' = ((H, L), v)) : GivesW w0 14 #[.agg #[.slice A h.length c, .slice B l.length d], .agg #[.slice A' h'.length c', .slice B' l'.length d']] H L (fun a => .tuple #[a, .int .i64 v]) := fun U _ => by have := on_any x x' U; rwa [e] at this
theorem norm_v (x : RW w0 A c B d h l) {H L : List Bool} (e : normW h l = (H, L)) : GivesW w0 20 #[.agg #[.slice A h.length c, .slice B l.length d]] H L (fun a => a) := fun U _ => by have := norm_any x U; rwa [e] at this
theorem rnorm_v (x : RW w0 A c B d h l) {H L : List Bool} (e : normW h l = (H, L)) : GivesW w0 25 #[.agg #[.slice A h.length c, .slice B l.length d]] H L (fun a => a) := fun U _ => by have := rnorm_any x U; rwa [e] at this
theorem i64_le {k : Int} (h : (Lit.int .i64 k).wf = true) : -9223372036854775808 ≤ k ∧ k ≤ 9223372036854775807 := by
  simpa [Lit.wf, IntKind.min, IntKind.max, IntKind.signed, IntKind.bits] using h
theorem onesI_step (h l : List Bool) (k : Nat) : onesI h l ((k : Int) + 1) = onesI h l k + (if atB h l k then 1 else 0) := by
  by_cases hv : Valid h l
  · have := W.ones_succ h l k hv.1
    have e : ((k : Int) + 1) = ((k + 1 : Nat) : Int) := by push_cast; rfl
    rw [e, onesI_ok hv, onesI_ok hv, atB_ok hv (by omega), letterB_nat, this]
    cases W.letter h l k <;> simp
  · rw [onesI_bad hv, onesI_bad hv, atB_bad hv]; simp
theorem onesI_bd2 (h l : List Bool) (k : Nat) : 0 ≤ onesI h l k ∧ onesI h l k ≤ k := by
  by_cases hv : Valid h l
  · rw [onesI_ok hv]; have := W.ones_le h l k hv.1; omega
  · rw [onesI_bad hv]; omega
end
theorem and_v {w0 : World} {A c B d} {h l : List Bool} {A' c' B' d'} {h' l' : List Bool} (x : RW w0 A c B d h l) (x' : RW w0 A' c' B' d' h' l') {H L : List Bool} {v : Int} (e : andW h l h' l' = ((H, L), v)) : GivesW w0 27 #[.agg #[.slice A h.length c, .slice B l.length d], .agg #[.slice A' h'.length c', .slice B' l'.length d']] H L (fun a => .tuple #[a, .int .i64 v]) := fun U _ => by have := and_any x x' U; rwa [e] at this
theorem rand_v {w0 : World} {A c B d} {h l : List Bool} {A' c' B' d'} {h' l' : List Bool} (x : RW w0 A c B d h l) (x' : RW w0 A' c' B' d' h' l') {H L : List Bool} {v : Int} (e : andW h l h' l' = ((H, L), v)) : GivesW w0 28 #[.agg #[.slice A h.length c, .slice B l.length d], .agg #[.slice A' h'.length c', .slice B' l'.length d']] H L (fun a => .tuple #[a, .int .i64 v]) := fun U _ => by have := rand_any x x' U; rwa [e] at this
theorem not_v {w0 : World} {A c B d} {h l : List Bool} (x : RW w0 A c B d h l) {H L : List Bool} (e : notW h l = (H, L)) : GivesW w0 29 #[.agg #[.slice A h.length c, .slice B l.length d]] H L (fun a => a) := fun U _ => by have := not_any x U; rwa [e] at this
theorem and_fr {w0 : World} {A c B d} {h l : List Bool} {A' c' B' d'} {h' l' : List Bool} (x : RW w0 A c B d h l) (x' : RW w0 A' c' B' d' h' l') {H L : List Bool} {v : Int} (e : andW h l h' l' = ((H, L), v)) : ∀ V, After w0 V → Calls Try.prog 27 #[.agg #[.slice A h.length c, .slice B l.length d], .agg #[.slice A' h'.length c', .slice B' l'.length d']] V fun e w' => ∃ A9 c9 B9 d9, e = .returned (.tuple #[.agg #[.slice A9 H.length c9, .slice B9 L.length d9], .int .i64 v]) ∧ RW w' A9 c9 B9 d9 H L ∧ From V.heap.size A9 ∧ From V.heap.size B9 ∧ V.heap.size ≤ w'.heap.size ∧ ∃ y, w' = V.more y := fun V _ => by
  have h_ := and_all x x' V
  rw [e] at h_
  exact h_.mono fun _ _ ⟨a, b, c, d, e, f, g, i, y, hy⟩ => ⟨a, b, c, d, e, f, g, i, by rw [hy]; exact more_size V y, y, hy⟩
theorem andF_comm {h l h' l' : List Bool} : W.andF h l h' l' = W.andF h' l' h l := by funext i; unfold W.andF; rw [Bool.and_comm]
theorem and_shape (h l h' l' : List Bool) : (∃ H L, andW h l h' l' = ((H, L), 0) ∧ andW h' l' h l = ((H, L), 0) ∧ Valid h l ∧ Valid h' l' ∧ Valid H L ∧ ∀ i, W.letter H L i = W.andF h l h' l' i) ∨ ∃ H L e, andW h l h' l' = ((H, L), e) ∧ (e == 0) = false ∧ (e != 0) = true := by
  rcases both_cases h l h' l' with ⟨hv, hv'⟩ | ⟨hbad, h5⟩
  · have hp : W.Per (W.andF h l h' l') (max h.length h'.length) (l.length * l'.length) := W.andF_per (Nat.le_max_left _ _) (Nat.le_max_right _ _) ⟨l'.length, Nat.mul_comm _ _⟩ ⟨l.length, rfl⟩
    have hn : 0 < l.length * l'.length := Nat.mul_pos hv.1 hv'.1
    rw [andW_ok hv hv', andW_ok hv' hv, andF_comm (h := h')]
    by_cases hf : Fits (W.andF h l h' l')
    · exact .inl ⟨_, _, fitW_yes hf, fitW_yes hf, hv, hv', ⟨(W.nf_nf hn hp).pos, hf⟩, fun i => W.nf_letter hn hp i⟩
    · exact .inr ⟨[], [], 3, fitW_no hf, by decide, by decide⟩
  · rw [andW_bad hbad]
    exact .inr ⟨[], [], _, rfl, by rcases h5 with h5 | h5 <;> rw [h5] <;> decide, by rcases h5 with h5 | h5 <;> rw [h5] <;> decide⟩
theorem letter_inv {h l : List Bool} (hl : 0 < l.length) (i : Nat) : W.letter (inv h) (inv l) i = !W.letter h l i := by
  unfold W.letter
  rw [inv_length, inv_length]
  have hm : (i - h.length) % l.length < l.length := Nat.mod_lt _ hl
  split
  · rename_i hi
    simp [inv, List.getD_eq_getElem?_getD, hi]
  · simp [inv, List.getD_eq_getElem?_getD, hm]
/-- a word and its Not have no one in common -/
theorem and_not {h l : List Bool} (hv : Valid h l) : andW h l (inv h) (inv l) = (([], [false]), 0) := by
  have hv' : Valid (inv h) (inv l) := ⟨by rw [inv_length]; exact hv.1, by rw [inv_length, inv_length]; exact hv.2⟩
  have e : ∀ i, W.letter [] [false] i = W.andF h l (inv h) (inv l) i := fun i => by
    unfold W.andF
    rw [letter_inv hv.1]
    have : W.letter [] [false] i = false := by unfold W.letter; simp [Nat.mod_one]
    rw [this]; cases W.letter h l i <;> rfl
  have n : W.nf (W.andF h l (inv h) (inv l)) = ([], [false]) := W.nf_spec ⟨by decide, e, fun p N hp _ => hp, .inl rfl⟩
  rw [andW_ok hv hv', fitW_yes (by unfold Fits; rw [n]; decide), n]
theorem none_ones : onesI [] [false] 1000 = 0 := by decide +kernel
theorem at_and {h l h' l' H L : List Bool} (hv : Valid h l) (hv' : Valid h' l') (hV : Valid H L) (e : ∀ i, W.letter H L i = W.andF h l h' l' i) (j : Nat) : atB H L (j : Nat) = (atB h l (j : Nat) && atB h' l' (j : Nat)) := by
  rw [atB_ok hV (by omega), atB_ok hv (by omega), atB_ok hv' (by omega), letterB_nat, letterB_nat, letterB_nat, e]; rfl
set_option maxRecDepth 100000 in
set_option maxHeartbeats 3200000 in
theorem walk {A B c d h l A' B' c' d' h' l'} (w : World) (x : RW w A c B d h l) (x' : RW w A' c' B' d' h' l') :
    Calls Try.prog 7 #[.agg #[.slice A h.length c, .slice B l.length d], .agg #[.slice A' h'.length c', .slice B' l'.length d']] w fun e w' => e = .returned (.bool true) ∧ ∃ y, w' = w.more y := by
  have HK : Hid (∀ U : World, After ((w.alloc (.cells #[.slice A h.length c, .slice B l.length d] 24)).alloc (.cells #[.slice A' h'.length c', .slice B' l'.length d'] 24)) U → U.cell? ⟨w.heap.size, 0, none⟩ = some (.slice A h.length c) ∧ U.cell? ⟨w.heap.size, 1, none⟩ = some (.slice B l.length d) ∧ U.cell? ⟨w.heap.size + 1, 0, none⟩ = some (.slice A' h'.length c') ∧ U.cell? ⟨w.heap.size + 1, 1, none⟩ = some (.slice B' l'.length d')) := fun U k => by
    have f1 := ((Blk.new w 24 #[.slice A h.length c, .slice B l.length d]).alloc (.cells #[.slice A' h'.length c', .slice B' l'.length d'] 24)).after (w' := U)
    have f2 := (Blk.new1 w (.cells #[.slice A h.length c, .slice B l.length d] 24) 24 #[.slice A' h'.length c', .slice B' l'.length d']).after (w' := U)
    exact ⟨by rw [f1.cell]; rfl, by rw [f1.cell]; rfl, by rw [f2.cell]; rfl, by rw [f2.cell]; rfl⟩
  have GA := awake_v w
  cases h1 : hugeB h l with
  | true =>
    have G1 := huge_v x h1
    clear h1
    go_enter Try.func7, Try.ntmps7
    go_wp2_with fail
    refine (Gives.on G1 _ inferInstance).mono ?_
    rintro e w1_ ⟨rfl, hy⟩
    have a0_w1_ : After ((w.alloc (.cells #[.slice A h.length c, .slice B l.length d] 24)).alloc (.cells #[.slice A' h'.length c', .slice B' l'.length d'] 24)) w1_ := after_of_more hy inferInstance
    have l00_w1_ : Le (w.heap.size + 1) w1_ := ⟨by have := a0_w1_.below.size; simp at this; omega⟩
    have l01_w1_ : Le (w.heap.size + 2) w1_ := ⟨by have := a0_w1_.below.size; simp at this; omega⟩
    have h0_w1_ := HK.out w1_ a0_w1_
    have aw_w1_ : After w w1_ := after_after inferInstance a0_w1_
    clear hy
    go_wp2_with fail
    refine (Gives.on GA _ (after_after aw_w1_ inferInstance)).mono ?_
    rintro e w2_ ⟨rfl, hy⟩
    have a0_w2_ : After ((w.alloc (.cells #[.slice A h.length c, .slice B l.length d] 24)).alloc (.cells #[.slice A' h'.length c', .slice B' l'.length d'] 24)) w2_ := after_of_more hy (after_after a0_w1_ inferInstance)
    have l00_w2_ : Le (w.heap.size + 1) w2_ := ⟨by have := a0_w2_.below.size; simp at this; omega⟩
    have l01_w2_ : Le (w.heap.size + 2) w2_ := ⟨by have := a0_w2_.below.size; simp at this; omega⟩
    have h0_w2_ := HK.out w2_ a0_w2_
    have aw_w2_ : After w w2_ := after_after inferInstance a0_w2_
    clear hy
    go_wp2_with fail
    go_ret
    exact ⟨rfl, @After.is_more w _ (after_after aw_w2_ inferInstance)⟩
  | false =>
    have G1 := huge_v x h1
    clear h1
    cases h2 : hugeB h' l' with
    | true =>
      have G2 := huge_v x' h2
      clear h2
      go_enter Try.func7, Try.ntmps7
      go_wp2_with fail
      refine (Gives.on G1 _ inferInstance).mono ?_
      rintro e w1_ ⟨rfl, hy⟩
      have a0_w1_ : After ((w.alloc (.cells #[.slice A h.length c, .slice B l.length d] 24)).alloc (.cells #[.slice A' h'.length c', .slice B' l'.length d'] 24)) w1_ := after_of_more hy inferInstance
      have l00_w1_ : Le (w.heap.size + 1) w1_ := ⟨by have := a0_w1_.below.size; simp at this; omega⟩
      have l01_w1_ : Le (w.heap.size + 2) w1_ := ⟨by have := a0_w1_.below.size; simp at this; omega⟩
      have h0_w1_ := HK.out w1_ a0_w1_
      have aw_w1_ : After w w1_ := after_after inferInstance a0_w1_
      clear hy
      go_wp2_with fail
      refine (Gives.on G2 _ (after_after aw_w1_ inferInstance)).mono ?_
      rintro e w2_ ⟨rfl, hy⟩
      have a0_w2_ : After ((w.alloc (.cells #[.slice A h.length c, .slice B l.length d] 24)).alloc (.cells #[.slice A' h'.length c', .slice B' l'.length d'] 24)) w2_ := after_of_more hy (after_after a0_w1_ inferInstance)
      have l00_w2_ : Le (w.heap.size + 1) w2_ := ⟨by have := a0_w2_.below.size; simp at this; omega⟩
      have l01_w2_ : Le (w.heap.size + 2) w2_ := ⟨by have := a0_w2_.below.size; simp at this; omega⟩
      have h0_w2_ := HK.out w2_ a0_w2_
      have aw_w2_ : After w w2_ := after_after inferInstance a0_w2_
      clear hy
      go_wp2_with fail
      refine (Gives.on GA _ (after_after aw_w2_ inferInstance)).mono ?_
      rintro e w3_ ⟨rfl, hy⟩
      have a0_w3_ : After ((w.alloc (.cells #[.slice A h.length c, .slice B l.length d] 24)).alloc (.cells #[.slice A' h'.length c', .slice B' l'.length d'] 24)) w3_ := after_of_more hy (after_after a0_w2_ inferInstance)
      have l00_w3_ : Le (w.heap.size + 1) w3_ := ⟨by have := a0_w3_.below.size; simp at this; omega⟩
      have l01_w3_ : Le (w.heap.size + 2) w3_ := ⟨by have := a0_w3_.below.size; simp at this; omega⟩
      have h0_w3_ := HK.out w3_ a0_w3_
      have aw_w3_ : After w w3_ := after_after inferInstance a0_w3_
      clear hy
      go_wp2_with fail
      go_ret
      exact ⟨rfl, @After.is_more w _ (after_after aw_w3_ inferInstance)⟩
    | false =>
      have G2 := huge_v x' h2
      clear h2
      -- the last two calls: a and its Not
      obtain ⟨N1, N2, eN⟩ : ∃ H L, notW h l = (H, L) := ⟨_, _, rfl⟩
      have GNs : Hid (∀ V, After w V → Calls Try.prog 29 #[.agg #[.slice A h.length c, .slice B l.length d]] V fun e w' => ∃ A' c' B' d', e = .returned (.agg #[.slice A' N1.length c', .slice B' N2.length d']) ∧ RW w' A' c' B' d' N1 N2 ∧ V.heap.size ≤ w'.heap.size ∧ ∃ y, w' = V.more y) := fun V _ => by
        have h_ := not_any x V
        rw [eN] at h_
        exact h_.mono fun _ _ ⟨a, b, c, d, e, f, y, hy⟩ => ⟨a, b, c, d, e, f, by rw [hy]; exact more_size V y, y, hy⟩
      obtain ⟨H5, L5, e5, e12⟩ : ∃ H L e, andW h l N1 N2 = ((H, L), e) := ⟨_, _, _, rfl⟩
      have hz : Valid h l → e5 = 0 ∧ onesI H5 L5 1000 = 0 := fun hv => by
        rw [notW_ok hv] at eN
        obtain ⟨rfl, rfl⟩ := Prod.mk.inj eN
        rw [and_not hv] at e12
        simp only [Prod.mk.injEq] at e12
        obtain ⟨⟨rfl, rfl⟩, rfl⟩ := e12
        exact ⟨rfl, none_ones⟩
      replace e12 := Lib.hid e12
      clear eN
      rcases and_shape h l h' l' with ⟨H, L, eo, eo2, hv, hv', hV, he⟩ | ⟨H, L, e, eo, k1, k2⟩
      · have G3 := and_v x x' eo
        have G4 := rand_v x x' eo
        have G8 := and_v x' x eo2
        have HC := Lib.hid (fun n => at_and hv hv' hV he n)
        have GC := check_v x (checkI_0 hv)
        obtain ⟨rfl, hz2⟩ := hz hv
        replace hz2 := Lib.hid hz2
        clear eo eo2 he hv hv' hV
        go_enter Try.func7, Try.ntmps7
        go_wp2_with fail
        refine (Gives.on G1 _ inferInstance).mono ?_
        rintro e w1_ ⟨rfl, hy⟩
        have a0_w1_ : After ((w.alloc (.cells #[.slice A h.length c, .slice B l.length d] 24)).alloc (.cells #[.slice A' h'.length c', .slice B' l'.length d'] 24)) w1_ := after_of_more hy inferInstance
        have l00_w1_ : Le (w.heap.size + 1) w1_ := ⟨by have := a0_w1_.below.size; simp at this; omega⟩
        have l01_w1_ : Le (w.heap.size + 2) w1_ := ⟨by have := a0_w1_.below.size; simp at this; omega⟩
        have h0_w1_ := HK.out w1_ a0_w1_
        have aw_w1_ : After w w1_ := after_after inferInstance a0_w1_
        clear hy
        go_wp2_with fail
        refine (Gives.on G2 _ (after_after aw_w1_ inferInstance)).mono ?_
        rintro e w2_ ⟨rfl, hy⟩
        have a0_w2_ : After ((w.alloc (.cells #[.slice A h.length c, .slice B l.length d] 24)).alloc (.cells #[.slice A' h'.length c', .slice B' l'.length d'] 24)) w2_ := after_of_more hy (after_after a0_w1_ inferInstance)
        have l00_w2_ : Le (w.heap.size + 1) w2_ := ⟨by have := a0_w2_.below.size; simp at this; omega⟩
        have l01_w2_ : Le (w.heap.size + 2) w2_ := ⟨by have := a0_w2_.below.size; simp at this; omega⟩
        have h0_w2_ := HK.out w2_ a0_w2_
        have aw_w2_ : After w w2_ := after_after inferInstance a0_w2_
        clear hy
        go_wp2_with fail
        refine (GivesW.on G3 _ (after_after aw_w2_ inferInstance)).mono ?_
        rintro e w3_ ⟨A3, c3, B3, d3, rfl, x3, hy⟩
        have a0_w3_ : After ((w.alloc (.cells #[.slice A h.length c, .slice B l.length d] 24)).alloc (.cells #[.slice A' h'.length c', .slice B' l'.length d'] 24)) w3_ := after_of_more hy (after_after a0_w2_ inferInstance)
        have l00_w3_ : Le (w.heap.size + 1) w3_ := ⟨by have := a0_w3_.below.size; simp at this; omega⟩
        have l01_w3_ : Le (w.heap.size + 2) w3_ := ⟨by have := a0_w3_.below.size; simp at this; omega⟩
        have h0_w3_ := HK.out w3_ a0_w3_
        have aw_w3_ : After w w3_ := after_after inferInstance a0_w3_
        clear hy
        have X3 := Lib.hid x3
        clear x3
        go_wp2_with fail
        obtain ⟨g3, hg_⟩ : ∃ g, w3_.heap.size = g := ⟨_, rfl⟩
        obtain ⟨w4_, hU_, b3, HK3, Lq3⟩ : ∃ U, w3_.alloc (.cells #[.slice A3 H.length c3, .slice B3 L.length d3] 24) = U ∧ After w3_ U ∧ Hid (∀ V, After U V → V.cell? ⟨g3, 0, none⟩ = some (.slice A3 H.length c3) ∧ V.cell? ⟨g3, 1, none⟩ = some (.slice B3 L.length d3)) ∧ Le (g3 + 1) U := by
          refine ⟨_, rfl, inferInstance, fun V k_ => ?_, ⟨by rw [← hg_]; simp⟩⟩
          have f_ := (Blk.new w3_ 24 #[.slice A3 H.length c3, .slice B3 L.length d3]).after (w' := V)
          rw [hg_] at f_
          exact ⟨by rw [f_.cell]; rfl, by rw [f_.cell]; rfl⟩
        rw [hU_, hg_]
        clear hU_ hg_
        have a0_w4_ : After ((w.alloc (.cells #[.slice A h.length c, .slice B l.length d] 24)).alloc (.cells #[.slice A' h'.length c', .slice B' l'.length d'] 24)) w4_ := after_after a0_w3_ b3
        have l00_w4_ : Le (w.heap.size + 1) w4_ := ⟨by have := a0_w4_.below.size; simp at this; omega⟩
        have l01_w4_ : Le (w.heap.size + 2) w4_ := ⟨by have := a0_w4_.below.size; simp at this; omega⟩
        have h0_w4_ := HK.out w4_ a0_w4_
        have aw_w4_ : After w w4_ := after_after inferInstance a0_w4_
        have a3_w4_ : After w4_ w4_ := inferInstance
        have h3_w4_ := HK3.out w4_ a3_w4_
        replace X3 := Lib.hid (X3.out.here w4_)
        refine (GivesW.on G4 _ (after_after aw_w4_ inferInstance)).mono ?_
        rintro e w5_ ⟨A4, c4, B4, d4, rfl, x4, hy⟩
        have a0_w5_ : After ((w.alloc (.cells #[.slice A h.length c, .slice B l.length d] 24)).alloc (.cells #[.slice A' h'.length c', .slice B' l'.length d'] 24)) w5_ := after_of_more hy (after_after a0_w4_ inferInstance)
        have l00_w5_ : Le (w.heap.size + 1) w5_ := ⟨by have := a0_w5_.below.size; simp at this; omega⟩
        have l01_w5_ : Le (w.heap.size + 2) w5_ := ⟨by have := a0_w5_.below.size; simp at this; omega⟩
        have h0_w5_ := HK.out w5_ a0_w5_
        have a3_w5_ : After w4_ w5_ := after_of_more hy (after_after a3_w4_ inferInstance)
        have l30_w5_ : Le (g3 + 1) w5_ := ⟨Nat.le_trans Lq3.le a3_w5_.below.size⟩
        have h3_w5_ := HK3.out w5_ a3_w5_
        have aw_w5_ : After w w5_ := after_after inferInstance a0_w5_
        clear hy
        have X4 := Lib.hid x4
        clear x4
        go_wp2_with fail
        obtain ⟨g4, hg_⟩ : ∃ g, w5_.heap.size = g := ⟨_, rfl⟩
        obtain ⟨w6_, hU_, b4, HK4, Lq4⟩ : ∃ U, w5_.alloc (.cells #[.slice A4 H.length c4, .slice B4 L.length d4] 24) = U ∧ After w5_ U ∧ Hid (∀ V, After U V → V.cell? ⟨g4, 0, none⟩ = some (.slice A4 H.length c4) ∧ V.cell? ⟨g4, 1, none⟩ = some (.slice B4 L.length d4)) ∧ Le (g4 + 1) U := by
          refine ⟨_, rfl, inferInstance, fun V k_ => ?_, ⟨by rw [← hg_]; simp⟩⟩
          have f_ := (Blk.new w5_ 24 #[.slice A4 H.length c4, .slice B4 L.length d4]).after (w' := V)
          rw [hg_] at f_
          exact ⟨by rw [f_.cell]; rfl, by rw [f_.cell]; rfl⟩
        rw [hU_, hg_]
        clear hU_ hg_
        have a0_w6_ : After ((w.alloc (.cells #[.slice A h.length c, .slice B l.length d] 24)).alloc (.cells #[.slice A' h'.length c', .slice B' l'.length d'] 24)) w6_ := after_after a0_w5_ b4
        have l00_w6_ : Le (w.heap.size + 1) w6_ := ⟨by have := a0_w6_.below.size; simp at this; omega⟩
        have l01_w6_ : Le (w.heap.size + 2) w6_ := ⟨by have := a0_w6_.below.size; simp at this; omega⟩
        have h0_w6_ := HK.out w6_ a0_w6_
        have a3_w6_ : After w4_ w6_ := after_after a3_w5_ b4
        have l30_w6_ : Le (g3 + 1) w6_ := ⟨Nat.le_trans Lq3.le a3_w6_.below.size⟩
        have h3_w6_ := HK3.out w6_ a3_w6_
        have aw_w6_ : After w w6_ := after_after inferInstance a0_w6_
        have a4_w6_ : After w6_ w6_ := inferInstance
        have h4_w6_ := HK4.out w6_ a4_w6_
        replace X4 := Lib.hid (X4.out.here w6_)
        have G5 := equal_v (X3.out.here w6_) X4.out (v := true) (by simp)
        refine (Gives.on G5 _ (after_after a4_w6_ inferInstance)).mono ?_
        rintro e w7_ ⟨rfl, hy⟩
        have a0_w7_ : After ((w.alloc (.cells #[.slice A h.length c, .slice B l.length d] 24)).alloc (.cells #[.slice A' h'.length c', .slice B' l'.length d'] 24)) w7_ := after_of_more hy (after_after a0_w6_ inferInstance)
        have l00_w7_ : Le (w.heap.size + 1) w7_ := ⟨by have := a0_w7_.below.size; simp at this; omega⟩
        have l01_w7_ : Le (w.heap.size + 2) w7_ := ⟨by have := a0_w7_.below.size; simp at this; omega⟩
        have h0_w7_ := HK.out w7_ a0_w7_
        have a3_w7_ : After w4_ w7_ := after_of_more hy (after_after a3_w6_ inferInstance)
        have l30_w7_ : Le (g3 + 1) w7_ := ⟨Nat.le_trans Lq3.le a3_w7_.below.size⟩
        have h3_w7_ := HK3.out w7_ a3_w7_
        have a4_w7_ : After w6_ w7_ := after_of_more hy (after_after a4_w6_ inferInstance)
        have l40_w7_ : Le (g4 + 1) w7_ := ⟨Nat.le_trans Lq4.le a4_w7_.below.size⟩
        have h4_w7_ := HK4.out w7_ a4_w7_
        have aw_w7_ : After w w7_ := after_after inferInstance a0_w7_
        clear hy
        clear G5
        go_wp2_with fail
        go_loopw [9] (fun k wr => ∃ j : Nat, j ≤ 200 ∧ k = .int .i64 j ∧ After w7_ wr) (fun k _ => 200 - (intOf k).toNat)
        case atStart => exact ⟨0, by omega, rfl, inferInstance⟩
        case round =>
          obtain ⟨j, hj, rfl, ar_⟩ := hrel
          have a0_wr : After ((w.alloc (.cells #[.slice A h.length c, .slice B l.length d] 24)).alloc (.cells #[.slice A' h'.length c', .slice B' l'.length d'] 24)) wr := after_after a0_w7_ ar_
          have l00_wr : Le (w.heap.size + 1) wr := ⟨by have := a0_wr.below.size; simp at this; omega⟩
          have l01_wr : Le (w.heap.size + 2) wr := ⟨by have := a0_wr.below.size; simp at this; omega⟩
          have h0_wr := HK.out wr a0_wr
          have a3_wr : After w4_ wr := after_after a3_w7_ ar_
          have l30_wr : Le (g3 + 1) wr := ⟨Nat.le_trans Lq3.le a3_wr.below.size⟩
          have h3_wr := HK3.out wr a3_wr
          have a4_wr : After w6_ wr := after_after a4_w7_ ar_
          have l40_wr : Le (g4 + 1) wr := ⟨Nat.le_trans Lq4.le a4_wr.below.size⟩
          have h4_wr := HK4.out wr a4_wr
          have aw_wr : After w wr := after_after inferInstance a0_wr
          by_cases hlt : j < 200
          · have hltI : (j : Int) < 200 := by omega
            have hc := HC.out j
            have Ga := at_v X3.out (i := (j : Nat)) (by omega) rfl
            have Gb := at_v x (i := (j : Nat)) (by omega) rfl
            have Gc := at_v x' (i := (j : Nat)) (by omega) rfl
            rw [hc] at Ga
            generalize atB h l (j : Nat) = b1 at Ga Gb
            generalize atB h' l' (j : Nat) = b2 at Ga Gc
            clear hc
            cases b1
            · rw [Bool.false_and] at Ga
              go_wp2_with fail
              refine wp_region_more (by kernel_rfl) (by kernel_rfl) ?_
              repeat (go_big_quiet_step ((first | (go_at_call 22; with_reducible exact Calls.more_of (Gives.on Ga _ (after_after a3_wr inferInstance))) | (go_at_call 22; with_reducible exact Calls.more_of (Gives.on Gb _ (after_after aw_wr inferInstance))) | (go_at_call 22; with_reducible exact Calls.more_of (Gives.on Gc _ (after_after aw_wr inferInstance))))))
              refine wpQuiet_nil ?_
              rintro _ ⟨yr, rfl⟩
              obtain ⟨w8_, hw_, hy⟩ : ∃ U, wr.more yr = U ∧ ∃ y, U = wr.more y := ⟨_, rfl, _, rfl⟩
              rw [hw_]
              clear hw_
              have a0_w8_ : After ((w.alloc (.cells #[.slice A h.length c, .slice B l.length d] 24)).alloc (.cells #[.slice A' h'.length c', .slice B' l'.length d'] 24)) w8_ := after_of_more hy (after_after a0_wr inferInstance)
              have l00_w8_ : Le (w.heap.size + 1) w8_ := ⟨by have := a0_w8_.below.size; simp at this; omega⟩
              have l01_w8_ : Le (w.heap.size + 2) w8_ := ⟨by have := a0_w8_.below.size; simp at this; omega⟩
              have h0_w8_ := HK.out w8_ a0_w8_
              have a3_w8_ : After w4_ w8_ := after_of_more hy (after_after a3_wr inferInstance)
              have l30_w8_ : Le (g3 + 1) w8_ := ⟨Nat.le_trans Lq3.le a3_w8_.below.size⟩
              have h3_w8_ := HK3.out w8_ a3_w8_
              have a4_w8_ : After w6_ w8_ := after_of_more hy (after_after a4_wr inferInstance)
              have l40_w8_ : Le (g4 + 1) w8_ := ⟨Nat.le_trans Lq4.le a4_w8_.below.size⟩
              have h4_w8_ := HK4.out w8_ a4_w8_
              have aw_w8_ : After w w8_ := after_after inferInstance a0_w8_
              have r_w8_ : After wr w8_ := after_of_more hy inferInstance
              clear hy
              go_wp2_with fail
              go_roundw
              case rel => exact ⟨j + 1, by omega, by go_num, after_after ar_ r_w8_⟩
              case measure => simp [intOf]; omega
            · have t1 : (b2 != b2) = false := by simp
              have t2 : (true && b2) = b2 := by simp
              rw [Bool.true_and] at Ga
              go_wp2_with fail
              refine wp_region_more (by kernel_rfl) (by kernel_rfl) ?_
              repeat (go_big_quiet_step ((first | (go_at_call 22; with_reducible exact Calls.more_of (Gives.on Ga _ (after_after a3_wr inferInstance))) | (go_at_call 22; with_reducible exact Calls.more_of (Gives.on Gb _ (after_after aw_wr inferInstance))) | (go_at_call 22; with_reducible exact Calls.more_of (Gives.on Gc _ (after_after aw_wr inferInstance))))))
              refine wpQuiet_nil ?_
              rintro _ ⟨yr, rfl⟩
              obtain ⟨w8_, hw_, hy⟩ : ∃ U, wr.more yr = U ∧ ∃ y, U = wr.more y := ⟨_, rfl, _, rfl⟩
              rw [hw_]
              clear hw_
              have a0_w8_ : After ((w.alloc (.cells #[.slice A h.length c, .slice B l.length d] 24)).alloc (.cells #[.slice A' h'.length c', .slice B' l'.length d'] 24)) w8_ := after_of_more hy (after_after a0_wr inferInstance)
              have l00_w8_ : Le (w.heap.size + 1) w8_ := ⟨by have := a0_w8_.below.size; simp at this; omega⟩
              have l01_w8_ : Le (w.heap.size + 2) w8_ := ⟨by have := a0_w8_.below.size; simp at this; omega⟩
              have h0_w8_ := HK.out w8_ a0_w8_
              have a3_w8_ : After w4_ w8_ := after_of_more hy (after_after a3_wr inferInstance)
              have l30_w8_ : Le (g3 + 1) w8_ := ⟨Nat.le_trans Lq3.le a3_w8_.below.size⟩
              have h3_w8_ := HK3.out w8_ a3_w8_
              have a4_w8_ : After w6_ w8_ := after_of_more hy (after_after a4_wr inferInstance)
              have l40_w8_ : Le (g4 + 1) w8_ := ⟨Nat.le_trans Lq4.le a4_w8_.below.size⟩
              have h4_w8_ := HK4.out w8_ a4_w8_
              have aw_w8_ : After w w8_ := after_after inferInstance a0_w8_
              have r_w8_ : After wr w8_ := after_of_more hy inferInstance
              clear hy
              go_wp2_with fail
              go_roundw
              case rel => exact ⟨j + 1, by omega, by go_num, after_after ar_ r_w8_⟩
              case measure => simp [intOf]; omega
          · obtain rfl : j = 200 := by omega
            go_wp2_with fail
            refine (GivesW.on G8 _ (after_after aw_wr inferInstance)).mono ?_
            rintro e w41_ ⟨A10, c10, B10, d10, rfl, x10, hy⟩
            have a0_w41_ : After ((w.alloc (.cells #[.slice A h.length c, .slice B l.length d] 24)).alloc (.cells #[.slice A' h'.length c', .slice B' l'.length d'] 24)) w41_ := after_of_more hy (after_after a0_wr inferInstance)
            have l00_w41_ : Le (w.heap.size + 1) w41_ := ⟨by have := a0_w41_.below.size; simp at this; omega⟩
            have l01_w41_ : Le (w.heap.size + 2) w41_ := ⟨by have := a0_w41_.below.size; simp at this; omega⟩
            have h0_w41_ := HK.out w41_ a0_w41_
            have a3_w41_ : After w4_ w41_ := after_of_more hy (after_after a3_wr inferInstance)
            have l30_w41_ : Le (g3 + 1) w41_ := ⟨Nat.le_trans Lq3.le a3_w41_.below.size⟩
            have h3_w41_ := HK3.out w41_ a3_w41_
            have a4_w41_ : After w6_ w41_ := after_of_more hy (after_after a4_wr inferInstance)
            have l40_w41_ : Le (g4 + 1) w41_ := ⟨Nat.le_trans Lq4.le a4_w41_.below.size⟩
            have h4_w41_ := HK4.out w41_ a4_w41_
            have aw_w41_ : After w w41_ := after_after inferInstance a0_w41_
            clear hy
            have X10 := Lib.hid x10
            clear x10
            go_wp2_with fail
            obtain ⟨g10, hg_⟩ : ∃ g, w41_.heap.size = g := ⟨_, rfl⟩
            obtain ⟨w42_, hU_, b10, HK10, Lq10⟩ : ∃ U, w41_.alloc (.cells #[.slice A10 H.length c10, .slice B10 L.length d10] 24) = U ∧ After w41_ U ∧ Hid (∀ V, After U V → V.cell? ⟨g10, 0, none⟩ = some (.slice A10 H.length c10) ∧ V.cell? ⟨g10, 1, none⟩ = some (.slice B10 L.length d10)) ∧ Le (g10 + 1) U := by
              refine ⟨_, rfl, inferInstance, fun V k_ => ?_, ⟨by rw [← hg_]; simp⟩⟩
              have f_ := (Blk.new w41_ 24 #[.slice A10 H.length c10, .slice B10 L.length d10]).after (w' := V)
              rw [hg_] at f_
              exact ⟨by rw [f_.cell]; rfl, by rw [f_.cell]; rfl⟩
            rw [hU_, hg_]
            clear hU_ hg_
            have a0_w42_ : After ((w.alloc (.cells #[.slice A h.length c, .slice B l.length d] 24)).alloc (.cells #[.slice A' h'.length c', .slice B' l'.length d'] 24)) w42_ := after_after a0_w41_ b10
            have l00_w42_ : Le (w.heap.size + 1) w42_ := ⟨by have := a0_w42_.below.size; simp at this; omega⟩
            have l01_w42_ : Le (w.heap.size + 2) w42_ := ⟨by have := a0_w42_.below.size; simp at this; omega⟩
            have h0_w42_ := HK.out w42_ a0_w42_
            have a3_w42_ : After w4_ w42_ := after_after a3_w41_ b10
            have l30_w42_ : Le (g3 + 1) w42_ := ⟨Nat.le_trans Lq3.le a3_w42_.below.size⟩
            have h3_w42_ := HK3.out w42_ a3_w42_
            have a4_w42_ : After w6_ w42_ := after_after a4_w41_ b10
            have l40_w42_ : Le (g4 + 1) w42_ := ⟨Nat.le_trans Lq4.le a4_w42_.below.size⟩
            have h4_w42_ := HK4.out w42_ a4_w42_
            have aw_w42_ : After w w42_ := after_after inferInstance a0_w42_
            have a10_w42_ : After w42_ w42_ := inferInstance
            have h10_w42_ := HK10.out w42_ a10_w42_
            replace X10 := Lib.hid (X10.out.here w42_)
            have G9 := equal_v (X3.out.here w42_) X10.out (v := true) (by simp)
            refine (Gives.on G9 _ (after_after a10_w42_ inferInstance)).mono ?_
            rintro e w43_ ⟨rfl, hy⟩
            have a0_w43_ : After ((w.alloc (.cells #[.slice A h.length c, .slice B l.length d] 24)).alloc (.cells #[.slice A' h'.length c', .slice B' l'.length d'] 24)) w43_ := after_of_more hy (after_after a0_w42_ inferInstance)
            have l00_w43_ : Le (w.heap.size + 1) w43_ := ⟨by have := a0_w43_.below.size; simp at this; omega⟩
            have l01_w43_ : Le (w.heap.size + 2) w43_ := ⟨by have := a0_w43_.below.size; simp at this; omega⟩
            have h0_w43_ := HK.out w43_ a0_w43_
            have a3_w43_ : After w4_ w43_ := after_of_more hy (after_after a3_w42_ inferInstance)
            have l30_w43_ : Le (g3 + 1) w43_ := ⟨Nat.le_trans Lq3.le a3_w43_.below.size⟩
            have h3_w43_ := HK3.out w43_ a3_w43_
            have a4_w43_ : After w6_ w43_ := after_of_more hy (after_after a4_w42_ inferInstance)
            have l40_w43_ : Le (g4 + 1) w43_ := ⟨Nat.le_trans Lq4.le a4_w43_.below.size⟩
            have h4_w43_ := HK4.out w43_ a4_w43_
            have a10_w43_ : After w42_ w43_ := after_of_more hy (after_after a10_w42_ inferInstance)
            have l100_w43_ : Le (g10 + 1) w43_ := ⟨Nat.le_trans Lq10.le a10_w43_.below.size⟩
            have h10_w43_ := HK10.out w43_ a10_w43_
            have aw_w43_ : After w w43_ := after_after inferInstance a0_w43_
            clear hy
            clear G9
            go_wp2_with fail
            go_cut [12, 13] (fun p q wx => ∃ (g : Nat) (A9 : Option Addr) (c9 : Nat) (B9 : Option Addr) (d9 : Nat), p = .pointer (some ⟨g, 0, none⟩) ∧ q = .int .i64 0 ∧ Hid (Blk wx g 24 #[.slice A9 H5.length c9, .slice B9 L5.length d9]) ∧ Hid (RW wx A9 c9 B9 d9 H5 L5) ∧ After w43_ wx)
            case first =>
              have q_ : ∀ V, After w43_ V → After ((w.alloc (.cells #[.slice A h.length c, .slice B l.length d] 24)).alloc (.cells #[.slice A' h'.length c', .slice B' l'.length d'] 24)) V := fun V k => after_after a0_w43_ k
              go_region_held3 (fun V => V.cell? ⟨w.heap.size, 0, none⟩ = some (.slice A h.length c) ∧ V.cell? ⟨w.heap.size, 1, none⟩ = some (.slice B l.length d)) (exact ⟨(HK.out _ (q_ _ inferInstance)).1, (HK.out _ (q_ _ inferInstance)).2.1⟩)
                (first
                  | (go_at_call 29; (with_reducible refine (GNs.out _ (after_after aw_w43_ inferInstance)).mono ?_); rintro e v1 ⟨A7, c7, B7, d7, rfl, x7, z1, y1, rfl⟩; have GX := Lib.hid (and_fr (x.here _) x7 e12.out); clear x7)
                  | (go_at_call 27; (with_reducible refine (GX.out _ inferInstance).mono ?_); rintro e v2 ⟨A9, c9, B9, d9, rfl, x9, n9, m9, z2, y2, rfl⟩))
              all_goals
                go_wp2_with fail
                go_meet
                refine ⟨_, A9, c9, B9, d9, rfl, rfl, ?_, ?_, ?_⟩
                · show Blk _ _ _ _
                  (repeat (first | with_reducible exact Blk.new _ _ _ | with_reducible exact Blk.new1 _ _ _ _ | with_reducible apply Blk.set0 | with_reducible apply Blk.set1 | (with_reducible refine Blk.far2 ?_ (by (try simp only [size_alloc_, size_set_, drew_heap] at *); omega)) | with_reducible refine Blk.drew ?_ | with_reducible refine Blk.more ?_ _ | with_reducible refine Blk.alloc ?_ _))
                · refine x9.frame n9 m9 (by (try simp only [size_alloc_, size_set_, drew_heap] at *); omega) (fun k h1 h2 => ?_)
                  (repeat (first | with_reducible rfl | (refine (frame_set ?_).trans ?_; (first | ((try simp only [size_alloc_, size_set_, drew_heap] at *); omega))) | (refine (frame_alloc ?_).trans ?_; (first | ((try simp only [size_alloc_, size_set_, drew_heap] at *); omega))) | (refine (frame_more ?_).trans ?_; (first | ((try simp only [size_alloc_, size_set_, drew_heap] at *); omega)))))
                · exact inferInstance
            case rest =>
              obtain ⟨g9, A9, c9, B9, d9, rfl, rfl, b9, x9, ar9⟩ := hcut
              have a0_wc : After ((w.alloc (.cells #[.slice A h.length c, .slice B l.length d] 24)).alloc (.cells #[.slice A' h'.length c', .slice B' l'.length d'] 24)) wc := after_after a0_w43_ ar9
              have l00_wc : Le (w.heap.size + 1) wc := ⟨by have := a0_wc.below.size; simp at this; omega⟩
              have l01_wc : Le (w.heap.size + 2) wc := ⟨by have := a0_wc.below.size; simp at this; omega⟩
              have h0_wc := HK.out wc a0_wc
              have a3_wc : After w4_ wc := after_after a3_w43_ ar9
              have l30_wc : Le (g3 + 1) wc := ⟨Nat.le_trans Lq3.le a3_wc.below.size⟩
              have h3_wc := HK3.out wc a3_wc
              have a4_wc : After w6_ wc := after_after a4_w43_ ar9
              have l40_wc : Le (g4 + 1) wc := ⟨Nat.le_trans Lq4.le a4_wc.below.size⟩
              have h4_wc := HK4.out wc a4_wc
              have a10_wc : After w42_ wc := after_after a10_w43_ ar9
              have l100_wc : Le (g10 + 1) wc := ⟨Nat.le_trans Lq10.le a10_wc.below.size⟩
              have h10_wc := HK10.out wc a10_wc
              have aw_wc : After w wc := after_after inferInstance a0_wc
              have HK9 : Hid (∀ V, After wc V → V.cell? ⟨g9, 0, none⟩ = some (.slice A9 H5.length c9) ∧ V.cell? ⟨g9, 1, none⟩ = some (.slice B9 L5.length d9)) := fun V k => by
                have f_ := b9.out.after (w' := V)
                exact ⟨by rw [f_.cell]; rfl, by rw [f_.cell]; rfl⟩
              have Lq9 : Le (g9 + 1) wc := b9.out.is_le
              have a9_wc : After wc wc := inferInstance
              have h9_wc := HK9.out wc a9_wc
              have G11 := ones_v x9.out (i := 1000) (by decide) hz2.out
              go_wp2_with fail
              refine (Gives.on GC _ (after_after aw_wc inferInstance)).mono ?_
              rintro e w44_ ⟨rfl, hy⟩
              have a0_w44_ : After ((w.alloc (.cells #[.slice A h.length c, .slice B l.length d] 24)).alloc (.cells #[.slice A' h'.length c', .slice B' l'.length d'] 24)) w44_ := after_of_more hy (after_after a0_wc inferInstance)
              have l00_w44_ : Le (w.heap.size + 1) w44_ := ⟨by have := a0_w44_.below.size; simp at this; omega⟩
              have l01_w44_ : Le (w.heap.size + 2) w44_ := ⟨by have := a0_w44_.below.size; simp at this; omega⟩
              have h0_w44_ := HK.out w44_ a0_w44_
              have a3_w44_ : After w4_ w44_ := after_of_more hy (after_after a3_wc inferInstance)
              have l30_w44_ : Le (g3 + 1) w44_ := ⟨Nat.le_trans Lq3.le a3_w44_.below.size⟩
              have h3_w44_ := HK3.out w44_ a3_w44_
              have a4_w44_ : After w6_ w44_ := after_of_more hy (after_after a4_wc inferInstance)
              have l40_w44_ : Le (g4 + 1) w44_ := ⟨Nat.le_trans Lq4.le a4_w44_.below.size⟩
              have h4_w44_ := HK4.out w44_ a4_w44_
              have a10_w44_ : After w42_ w44_ := after_of_more hy (after_after a10_wc inferInstance)
              have l100_w44_ : Le (g10 + 1) w44_ := ⟨Nat.le_trans Lq10.le a10_w44_.below.size⟩
              have h10_w44_ := HK10.out w44_ a10_w44_
              have a9_w44_ : After wc w44_ := after_of_more hy (after_after a9_wc inferInstance)
              have l90_w44_ : Le (g9 + 1) w44_ := ⟨Nat.le_trans Lq9.le a9_w44_.below.size⟩
              have h9_w44_ := HK9.out w44_ a9_w44_
              have aw_w44_ : After w w44_ := after_after inferInstance a0_w44_
              clear hy
              go_wp2_with fail
              refine (Gives.on G11 _ (after_after a9_w44_ inferInstance)).mono ?_
              rintro e w45_ ⟨rfl, hy⟩
              have a0_w45_ : After ((w.alloc (.cells #[.slice A h.length c, .slice B l.length d] 24)).alloc (.cells #[.slice A' h'.length c', .slice B' l'.length d'] 24)) w45_ := after_of_more hy (after_after a0_w44_ inferInstance)
              have l00_w45_ : Le (w.heap.size + 1) w45_ := ⟨by have := a0_w45_.below.size; simp at this; omega⟩
              have l01_w45_ : Le (w.heap.size + 2) w45_ := ⟨by have := a0_w45_.below.size; simp at this; omega⟩
              have h0_w45_ := HK.out w45_ a0_w45_
              have a3_w45_ : After w4_ w45_ := after_of_more hy (after_after a3_w44_ inferInstance)
              have l30_w45_ : Le (g3 + 1) w45_ := ⟨Nat.le_trans Lq3.le a3_w45_.below.size⟩
              have h3_w45_ := HK3.out w45_ a3_w45_
              have a4_w45_ : After w6_ w45_ := after_of_more hy (after_after a4_w44_ inferInstance)
              have l40_w45_ : Le (g4 + 1) w45_ := ⟨Nat.le_trans Lq4.le a4_w45_.below.size⟩
              have h4_w45_ := HK4.out w45_ a4_w45_
              have a10_w45_ : After w42_ w45_ := after_of_more hy (after_after a10_w44_ inferInstance)
              have l100_w45_ : Le (g10 + 1) w45_ := ⟨Nat.le_trans Lq10.le a10_w45_.below.size⟩
              have h10_w45_ := HK10.out w45_ a10_w45_
              have a9_w45_ : After wc w45_ := after_of_more hy (after_after a9_w44_ inferInstance)
              have l90_w45_ : Le (g9 + 1) w45_ := ⟨Nat.le_trans Lq9.le a9_w45_.below.size⟩
              have h9_w45_ := HK9.out w45_ a9_w45_
              have aw_w45_ : After w w45_ := after_after inferInstance a0_w45_
              clear hy
              go_wp2_with fail
              refine (Gives.on GA _ (after_after aw_w45_ inferInstance)).mono ?_
              rintro e w46_ ⟨rfl, hy⟩
              have a0_w46_ : After ((w.alloc (.cells #[.slice A h.length c, .slice B l.length d] 24)).alloc (.cells #[.slice A' h'.length c', .slice B' l'.length d'] 24)) w46_ := after_of_more hy (after_after a0_w45_ inferInstance)
              have l00_w46_ : Le (w.heap.size + 1) w46_ := ⟨by have := a0_w46_.below.size; simp at this; omega⟩
              have l01_w46_ : Le (w.heap.size + 2) w46_ := ⟨by have := a0_w46_.below.size; simp at this; omega⟩
              have h0_w46_ := HK.out w46_ a0_w46_
              have a3_w46_ : After w4_ w46_ := after_of_more hy (after_after a3_w45_ inferInstance)
              have l30_w46_ : Le (g3 + 1) w46_ := ⟨Nat.le_trans Lq3.le a3_w46_.below.size⟩
              have h3_w46_ := HK3.out w46_ a3_w46_
              have a4_w46_ : After w6_ w46_ := after_of_more hy (after_after a4_w45_ inferInstance)
              have l40_w46_ : Le (g4 + 1) w46_ := ⟨Nat.le_trans Lq4.le a4_w46_.below.size⟩
              have h4_w46_ := HK4.out w46_ a4_w46_
              have a10_w46_ : After w42_ w46_ := after_of_more hy (after_after a10_w45_ inferInstance)
              have l100_w46_ : Le (g10 + 1) w46_ := ⟨Nat.le_trans Lq10.le a10_w46_.below.size⟩
              have h10_w46_ := HK10.out w46_ a10_w46_
              have a9_w46_ : After wc w46_ := after_of_more hy (after_after a9_w45_ inferInstance)
              have l90_w46_ : Le (g9 + 1) w46_ := ⟨Nat.le_trans Lq9.le a9_w46_.below.size⟩
              have h9_w46_ := HK9.out w46_ a9_w46_
              have aw_w46_ : After w w46_ := after_after inferInstance a0_w46_
              clear hy
              go_wp2_with fail
              go_ret
              exact ⟨rfl, @After.is_more w _ (after_after aw_w46_ inferInstance)⟩
      · have G3 := and_v x x' eo
        have G4 := rand_v x x' eo
        obtain ⟨H8, L8, e8, eo8⟩ : ∃ H L e, andW h' l' h l = ((H, L), e) := ⟨_, _, _, rfl⟩
        have G8 := and_v x' x eo8
        clear eo eo8
        by_cases hv : Valid h l
        · have GC := check_v x (checkI_0 hv)
          obtain ⟨rfl, hz2⟩ := hz hv
          replace hz2 := Lib.hid hz2
          clear hz hv
          go_enter Try.func7, Try.ntmps7
          go_wp2_with fail
          refine (Gives.on G1 _ inferInstance).mono ?_
          rintro e w1_ ⟨rfl, hy⟩
          have a0_w1_ : After ((w.alloc (.cells #[.slice A h.length c, .slice B l.length d] 24)).alloc (.cells #[.slice A' h'.length c', .slice B' l'.length d'] 24)) w1_ := after_of_more hy inferInstance
          have l00_w1_ : Le (w.heap.size + 1) w1_ := ⟨by have := a0_w1_.below.size; simp at this; omega⟩
          have l01_w1_ : Le (w.heap.size + 2) w1_ := ⟨by have := a0_w1_.below.size; simp at this; omega⟩
          have h0_w1_ := HK.out w1_ a0_w1_
          have aw_w1_ : After w w1_ := after_after inferInstance a0_w1_
          clear hy
          go_wp2_with fail
          refine (Gives.on G2 _ (after_after aw_w1_ inferInstance)).mono ?_
          rintro e w2_ ⟨rfl, hy⟩
          have a0_w2_ : After ((w.alloc (.cells #[.slice A h.length c, .slice B l.length d] 24)).alloc (.cells #[.slice A' h'.length c', .slice B' l'.length d'] 24)) w2_ := after_of_more hy (after_after a0_w1_ inferInstance)
          have l00_w2_ : Le (w.heap.size + 1) w2_ := ⟨by have := a0_w2_.below.size; simp at this; omega⟩
          have l01_w2_ : Le (w.heap.size + 2) w2_ := ⟨by have := a0_w2_.below.size; simp at this; omega⟩
          have h0_w2_ := HK.out w2_ a0_w2_
          have aw_w2_ : After w w2_ := after_after inferInstance a0_w2_
          clear hy
          go_wp2_with fail
          refine (GivesW.on G3 _ (after_after aw_w2_ inferInstance)).mono ?_
          rintro e w3_ ⟨A3, c3, B3, d3, rfl, x3, hy⟩
          have a0_w3_ : After ((w.alloc (.cells #[.slice A h.length c, .slice B l.length d] 24)).alloc (.cells #[.slice A' h'.length c', .slice B' l'.length d'] 24)) w3_ := after_of_more hy (after_after a0_w2_ inferInstance)
          have l00_w3_ : Le (w.heap.size + 1) w3_ := ⟨by have := a0_w3_.below.size; simp at this; omega⟩
          have l01_w3_ : Le (w.heap.size + 2) w3_ := ⟨by have := a0_w3_.below.size; simp at this; omega⟩
          have h0_w3_ := HK.out w3_ a0_w3_
          have aw_w3_ : After w w3_ := after_after inferInstance a0_w3_
          clear hy
          have X3 := Lib.hid x3
          clear x3
          go_wp2_with fail
          obtain ⟨g3, hg_⟩ : ∃ g, w3_.heap.size = g := ⟨_, rfl⟩
          obtain ⟨w4_, hU_, b3, HK3, Lq3⟩ : ∃ U, w3_.alloc (.cells #[.slice A3 H.length c3, .slice B3 L.length d3] 24) = U ∧ After w3_ U ∧ Hid (∀ V, After U V → V.cell? ⟨g3, 0, none⟩ = some (.slice A3 H.length c3) ∧ V.cell? ⟨g3, 1, none⟩ = some (.slice B3 L.length d3)) ∧ Le (g3 + 1) U := by
            refine ⟨_, rfl, inferInstance, fun V k_ => ?_, ⟨by rw [← hg_]; simp⟩⟩
            have f_ := (Blk.new w3_ 24 #[.slice A3 H.length c3, .slice B3 L.length d3]).after (w' := V)
            rw [hg_] at f_
            exact ⟨by rw [f_.cell]; rfl, by rw [f_.cell]; rfl⟩
          rw [hU_, hg_]
          clear hU_ hg_
          have a0_w4_ : After ((w.alloc (.cells #[.slice A h.length c, .slice B l.length d] 24)).alloc (.cells #[.slice A' h'.length c', .slice B' l'.length d'] 24)) w4_ := after_after a0_w3_ b3
          have l00_w4_ : Le (w.heap.size + 1) w4_ := ⟨by have := a0_w4_.below.size; simp at this; omega⟩
          have l01_w4_ : Le (w.heap.size + 2) w4_ := ⟨by have := a0_w4_.below.size; simp at this; omega⟩
          have h0_w4_ := HK.out w4_ a0_w4_
          have aw_w4_ : After w w4_ := after_after inferInstance a0_w4_
          have a3_w4_ : After w4_ w4_ := inferInstance
          have h3_w4_ := HK3.out w4_ a3_w4_
          replace X3 := Lib.hid (X3.out.here w4_)
          refine (GivesW.on G4 _ (after_after aw_w4_ inferInstance)).mono ?_
          rintro e w5_ ⟨A4, c4, B4, d4, rfl, x4, hy⟩
          have a0_w5_ : After ((w.alloc (.cells #[.slice A h.length c, .slice B l.length d] 24)).alloc (.cells #[.slice A' h'.length c', .slice B' l'.length d'] 24)) w5_ := after_of_more hy (after_after a0_w4_ inferInstance)
          have l00_w5_ : Le (w.heap.size + 1) w5_ := ⟨by have := a0_w5_.below.size; simp at this; omega⟩
          have l01_w5_ : Le (w.heap.size + 2) w5_ := ⟨by have := a0_w5_.below.size; simp at this; omega⟩
          have h0_w5_ := HK.out w5_ a0_w5_
          have a3_w5_ : After w4_ w5_ := after_of_more hy (after_after a3_w4_ inferInstance)
          have l30_w5_ : Le (g3 + 1) w5_ := ⟨Nat.le_trans Lq3.le a3_w5_.below.size⟩
          have h3_w5_ := HK3.out w5_ a3_w5_
          have aw_w5_ : After w w5_ := after_after inferInstance a0_w5_
          clear hy
          have X4 := Lib.hid x4
          clear x4
          go_wp2_with fail
          obtain ⟨g4, hg_⟩ : ∃ g, w5_.heap.size = g := ⟨_, rfl⟩
          obtain ⟨w6_, hU_, b4, HK4, Lq4⟩ : ∃ U, w5_.alloc (.cells #[.slice A4 H.length c4, .slice B4 L.length d4] 24) = U ∧ After w5_ U ∧ Hid (∀ V, After U V → V.cell? ⟨g4, 0, none⟩ = some (.slice A4 H.length c4) ∧ V.cell? ⟨g4, 1, none⟩ = some (.slice B4 L.length d4)) ∧ Le (g4 + 1) U := by
            refine ⟨_, rfl, inferInstance, fun V k_ => ?_, ⟨by rw [← hg_]; simp⟩⟩
            have f_ := (Blk.new w5_ 24 #[.slice A4 H.length c4, .slice B4 L.length d4]).after (w' := V)
            rw [hg_] at f_
            exact ⟨by rw [f_.cell]; rfl, by rw [f_.cell]; rfl⟩
          rw [hU_, hg_]
          clear hU_ hg_
          have a0_w6_ : After ((w.alloc (.cells #[.slice A h.length c, .slice B l.length d] 24)).alloc (.cells #[.slice A' h'.length c', .slice B' l'.length d'] 24)) w6_ := after_after a0_w5_ b4
          have l00_w6_ : Le (w.heap.size + 1) w6_ := ⟨by have := a0_w6_.below.size; simp at this; omega⟩
          have l01_w6_ : Le (w.heap.size + 2) w6_ := ⟨by have := a0_w6_.below.size; simp at this; omega⟩
          have h0_w6_ := HK.out w6_ a0_w6_
          have a3_w6_ : After w4_ w6_ := after_after a3_w5_ b4
          have l30_w6_ : Le (g3 + 1) w6_ := ⟨Nat.le_trans Lq3.le a3_w6_.below.size⟩
          have h3_w6_ := HK3.out w6_ a3_w6_
          have aw_w6_ : After w w6_ := after_after inferInstance a0_w6_
          have a4_w6_ : After w6_ w6_ := inferInstance
          have h4_w6_ := HK4.out w6_ a4_w6_
          replace X4 := Lib.hid (X4.out.here w6_)
          have G5 := equal_v (X3.out.here w6_) X4.out (v := true) (by simp)
          refine (Gives.on G5 _ (after_after a4_w6_ inferInstance)).mono ?_
          rintro e w7_ ⟨rfl, hy⟩
          have a0_w7_ : After ((w.alloc (.cells #[.slice A h.length c, .slice B l.length d] 24)).alloc (.cells #[.slice A' h'.length c', .slice B' l'.length d'] 24)) w7_ := after_of_more hy (after_after a0_w6_ inferInstance)
          have l00_w7_ : Le (w.heap.size + 1) w7_ := ⟨by have := a0_w7_.below.size; simp at this; omega⟩
          have l01_w7_ : Le (w.heap.size + 2) w7_ := ⟨by have := a0_w7_.below.size; simp at this; omega⟩
          have h0_w7_ := HK.out w7_ a0_w7_
          have a3_w7_ : After w4_ w7_ := after_of_more hy (after_after a3_w6_ inferInstance)
          have l30_w7_ : Le (g3 + 1) w7_ := ⟨Nat.le_trans Lq3.le a3_w7_.below.size⟩
          have h3_w7_ := HK3.out w7_ a3_w7_
          have a4_w7_ : After w6_ w7_ := after_of_more hy (after_after a4_w6_ inferInstance)
          have l40_w7_ : Le (g4 + 1) w7_ := ⟨Nat.le_trans Lq4.le a4_w7_.below.size⟩
          have h4_w7_ := HK4.out w7_ a4_w7_
          have aw_w7_ : After w w7_ := after_after inferInstance a0_w7_
          clear hy
          clear G5
          go_wp2_with fail
          go_loopw [9] (fun k wr => k = .int .i64 0 ∧ After w7_ wr) (fun k _ => 0)
          case atStart => exact ⟨rfl, inferInstance⟩
          case round =>
            obtain ⟨rfl, ar_⟩ := hrel
            have a0_wr : After ((w.alloc (.cells #[.slice A h.length c, .slice B l.length d] 24)).alloc (.cells #[.slice A' h'.length c', .slice B' l'.length d'] 24)) wr := after_after a0_w7_ ar_
            have l00_wr : Le (w.heap.size + 1) wr := ⟨by have := a0_wr.below.size; simp at this; omega⟩
            have l01_wr : Le (w.heap.size + 2) wr := ⟨by have := a0_wr.below.size; simp at this; omega⟩
            have h0_wr := HK.out wr a0_wr
            have a3_wr : After w4_ wr := after_after a3_w7_ ar_
            have l30_wr : Le (g3 + 1) wr := ⟨Nat.le_trans Lq3.le a3_wr.below.size⟩
            have h3_wr := HK3.out wr a3_wr
            have a4_wr : After w6_ wr := after_after a4_w7_ ar_
            have l40_wr : Le (g4 + 1) wr := ⟨Nat.le_trans Lq4.le a4_wr.below.size⟩
            have h4_wr := HK4.out wr a4_wr
            have aw_wr : After w wr := after_after inferInstance a0_wr
            go_wp2_with fail
            refine (GivesW.on G8 _ (after_after aw_wr inferInstance)).mono ?_
            rintro e w41_ ⟨A10, c10, B10, d10, rfl, x10, hy⟩
            have a0_w41_ : After ((w.alloc (.cells #[.slice A h.length c, .slice B l.length d] 24)).alloc (.cells #[.slice A' h'.length c', .slice B' l'.length d'] 24)) w41_ := after_of_more hy (after_after a0_wr inferInstance)
            have l00_w41_ : Le (w.heap.size + 1) w41_ := ⟨by have := a0_w41_.below.size; simp at this; omega⟩
            have l01_w41_ : Le (w.heap.size + 2) w41_ := ⟨by have := a0_w41_.below.size; simp at this; omega⟩
            have h0_w41_ := HK.out w41_ a0_w41_
            have a3_w41_ : After w4_ w41_ := after_of_more hy (after_after a3_wr inferInstance)
            have l30_w41_ : Le (g3 + 1) w41_ := ⟨Nat.le_trans Lq3.le a3_w41_.below.size⟩
            have h3_w41_ := HK3.out w41_ a3_w41_
            have a4_w41_ : After w6_ w41_ := after_of_more hy (after_after a4_wr inferInstance)
            have l40_w41_ : Le (g4 + 1) w41_ := ⟨Nat.le_trans Lq4.le a4_w41_.below.size⟩
            have h4_w41_ := HK4.out w41_ a4_w41_
            have aw_w41_ : After w w41_ := after_after inferInstance a0_w41_
            clear hy
            have X10 := Lib.hid x10
            clear x10
            go_wp2_with fail
            obtain ⟨g10, hg_⟩ : ∃ g, w41_.heap.size = g := ⟨_, rfl⟩
            obtain ⟨w42_, hU_, b10, HK10, Lq10⟩ : ∃ U, w41_.alloc (.cells #[.slice A10 H8.length c10, .slice B10 L8.length d10] 24) = U ∧ After w41_ U ∧ Hid (∀ V, After U V → V.cell? ⟨g10, 0, none⟩ = some (.slice A10 H8.length c10) ∧ V.cell? ⟨g10, 1, none⟩ = some (.slice B10 L8.length d10)) ∧ Le (g10 + 1) U := by
              refine ⟨_, rfl, inferInstance, fun V k_ => ?_, ⟨by rw [← hg_]; simp⟩⟩
              have f_ := (Blk.new w41_ 24 #[.slice A10 H8.length c10, .slice B10 L8.length d10]).after (w' := V)
              rw [hg_] at f_
              exact ⟨by rw [f_.cell]; rfl, by rw [f_.cell]; rfl⟩
            rw [hU_, hg_]
            clear hU_ hg_
            have a0_w42_ : After ((w.alloc (.cells #[.slice A h.length c, .slice B l.length d] 24)).alloc (.cells #[.slice A' h'.length c', .slice B' l'.length d'] 24)) w42_ := after_after a0_w41_ b10
            have l00_w42_ : Le (w.heap.size + 1) w42_ := ⟨by have := a0_w42_.below.size; simp at this; omega⟩
            have l01_w42_ : Le (w.heap.size + 2) w42_ := ⟨by have := a0_w42_.below.size; simp at this; omega⟩
            have h0_w42_ := HK.out w42_ a0_w42_
            have a3_w42_ : After w4_ w42_ := after_after a3_w41_ b10
            have l30_w42_ : Le (g3 + 1) w42_ := ⟨Nat.le_trans Lq3.le a3_w42_.below.size⟩
            have h3_w42_ := HK3.out w42_ a3_w42_
            have a4_w42_ : After w6_ w42_ := after_after a4_w41_ b10
            have l40_w42_ : Le (g4 + 1) w42_ := ⟨Nat.le_trans Lq4.le a4_w42_.below.size⟩
            have h4_w42_ := HK4.out w42_ a4_w42_
            have aw_w42_ : After w w42_ := after_after inferInstance a0_w42_
            have a10_w42_ : After w42_ w42_ := inferInstance
            have h10_w42_ := HK10.out w42_ a10_w42_
            replace X10 := Lib.hid (X10.out.here w42_)
            go_cut [12, 13] (fun p q wx => ∃ (g : Nat) (A9 : Option Addr) (c9 : Nat) (B9 : Option Addr) (d9 : Nat), p = .pointer (some ⟨g, 0, none⟩) ∧ q = .int .i64 0 ∧ Hid (Blk wx g 24 #[.slice A9 H5.length c9, .slice B9 L5.length d9]) ∧ Hid (RW wx A9 c9 B9 d9 H5 L5) ∧ After w42_ wx)
            case first =>
              have q_ : ∀ V, After w42_ V → After ((w.alloc (.cells #[.slice A h.length c, .slice B l.length d] 24)).alloc (.cells #[.slice A' h'.length c', .slice B' l'.length d'] 24)) V := fun V k => after_after a0_w42_ k
              go_region_held3 (fun V => V.cell? ⟨w.heap.size, 0, none⟩ = some (.slice A h.length c) ∧ V.cell? ⟨w.heap.size, 1, none⟩ = some (.slice B l.length d)) (exact ⟨(HK.out _ (q_ _ inferInstance)).1, (HK.out _ (q_ _ inferInstance)).2.1⟩)
                (first
                  | (go_at_call 29; (with_reducible refine (GNs.out _ (after_after aw_w42_ inferInstance)).mono ?_); rintro e v1 ⟨A7, c7, B7, d7, rfl, x7, z1, y1, rfl⟩; have GX := Lib.hid (and_fr (x.here _) x7 e12.out); clear x7)
                  | (go_at_call 27; (with_reducible refine (GX.out _ inferInstance).mono ?_); rintro e v2 ⟨A9, c9, B9, d9, rfl, x9, n9, m9, z2, y2, rfl⟩))
              all_goals
                go_wp2_with fail
                go_meet
                refine ⟨_, A9, c9, B9, d9, rfl, rfl, ?_, ?_, ?_⟩
                · show Blk _ _ _ _
                  (repeat (first | with_reducible exact Blk.new _ _ _ | with_reducible exact Blk.new1 _ _ _ _ | with_reducible apply Blk.set0 | with_reducible apply Blk.set1 | (with_reducible refine Blk.far2 ?_ (by (try simp only [size_alloc_, size_set_, drew_heap] at *); omega)) | with_reducible refine Blk.drew ?_ | with_reducible refine Blk.more ?_ _ | with_reducible refine Blk.alloc ?_ _))
                · refine x9.frame n9 m9 (by (try simp only [size_alloc_, size_set_, drew_heap] at *); omega) (fun k h1 h2 => ?_)
                  (repeat (first | with_reducible rfl | (refine (frame_set ?_).trans ?_; (first | ((try simp only [size_alloc_, size_set_, drew_heap] at *); omega))) | (refine (frame_alloc ?_).trans ?_; (first | ((try simp only [size_alloc_, size_set_, drew_heap] at *); omega))) | (refine (frame_more ?_).trans ?_; (first | ((try simp only [size_alloc_, size_set_, drew_heap] at *); omega)))))
                · exact inferInstance
            case rest =>
              obtain ⟨g9, A9, c9, B9, d9, rfl, rfl, b9, x9, ar9⟩ := hcut
              have a0_wc : After ((w.alloc (.cells #[.slice A h.length c, .slice B l.length d] 24)).alloc (.cells #[.slice A' h'.length c', .slice B' l'.length d'] 24)) wc := after_after a0_w42_ ar9
              have l00_wc : Le (w.heap.size + 1) wc := ⟨by have := a0_wc.below.size; simp at this; omega⟩
              have l01_wc : Le (w.heap.size + 2) wc := ⟨by have := a0_wc.below.size; simp at this; omega⟩
              have h0_wc := HK.out wc a0_wc
              have a3_wc : After w4_ wc := after_after a3_w42_ ar9
              have l30_wc : Le (g3 + 1) wc := ⟨Nat.le_trans Lq3.le a3_wc.below.size⟩
              have h3_wc := HK3.out wc a3_wc
              have a4_wc : After w6_ wc := after_after a4_w42_ ar9
              have l40_wc : Le (g4 + 1) wc := ⟨Nat.le_trans Lq4.le a4_wc.below.size⟩
              have h4_wc := HK4.out wc a4_wc
              have a10_wc : After w42_ wc := after_after a10_w42_ ar9
              have l100_wc : Le (g10 + 1) wc := ⟨Nat.le_trans Lq10.le a10_wc.below.size⟩
              have h10_wc := HK10.out wc a10_wc
              have aw_wc : After w wc := after_after inferInstance a0_wc
              have HK9 : Hid (∀ V, After wc V → V.cell? ⟨g9, 0, none⟩ = some (.slice A9 H5.length c9) ∧ V.cell? ⟨g9, 1, none⟩ = some (.slice B9 L5.length d9)) := fun V k => by
                have f_ := b9.out.after (w' := V)
                exact ⟨by rw [f_.cell]; rfl, by rw [f_.cell]; rfl⟩
              have Lq9 : Le (g9 + 1) wc := b9.out.is_le
              have a9_wc : After wc wc := inferInstance
              have h9_wc := HK9.out wc a9_wc
              have G11 := ones_v x9.out (i := 1000) (by decide) hz2.out
              go_wp2_with fail
              refine (Gives.on GC _ (after_after aw_wc inferInstance)).mono ?_
              rintro e w43_ ⟨rfl, hy⟩
              have a0_w43_ : After ((w.alloc (.cells #[.slice A h.length c, .slice B l.length d] 24)).alloc (.cells #[.slice A' h'.length c', .slice B' l'.length d'] 24)) w43_ := after_of_more hy (after_after a0_wc inferInstance)
              have l00_w43_ : Le (w.heap.size + 1) w43_ := ⟨by have := a0_w43_.below.size; simp at this; omega⟩
              have l01_w43_ : Le (w.heap.size + 2) w43_ := ⟨by have := a0_w43_.below.size; simp at this; omega⟩
              have h0_w43_ := HK.out w43_ a0_w43_
              have a3_w43_ : After w4_ w43_ := after_of_more hy (after_after a3_wc inferInstance)
              have l30_w43_ : Le (g3 + 1) w43_ := ⟨Nat.le_trans Lq3.le a3_w43_.below.size⟩
              have h3_w43_ := HK3.out w43_ a3_w43_
              have a4_w43_ : After w6_ w43_ := after_of_more hy (after_after a4_wc inferInstance)
              have l40_w43_ : Le (g4 + 1) w43_ := ⟨Nat.le_trans Lq4.le a4_w43_.below.size⟩
              have h4_w43_ := HK4.out w43_ a4_w43_
              have a10_w43_ : After w42_ w43_ := after_of_more hy (after_after a10_wc inferInstance)
              have l100_w43_ : Le (g10 + 1) w43_ := ⟨Nat.le_trans Lq10.le a10_w43_.below.size⟩
              have h10_w43_ := HK10.out w43_ a10_w43_
              have a9_w43_ : After wc w43_ := after_of_more hy (after_after a9_wc inferInstance)
              have l90_w43_ : Le (g9 + 1) w43_ := ⟨Nat.le_trans Lq9.le a9_w43_.below.size⟩
              have h9_w43_ := HK9.out w43_ a9_w43_
              have aw_w43_ : After w w43_ := after_after inferInstance a0_w43_
              clear hy
              go_wp2_with fail
              refine (Gives.on G11 _ (after_after a9_w43_ inferInstance)).mono ?_
              rintro e w44_ ⟨rfl, hy⟩
              have a0_w44_ : After ((w.alloc (.cells #[.slice A h.length c, .slice B l.length d] 24)).alloc (.cells #[.slice A' h'.length c', .slice B' l'.length d'] 24)) w44_ := after_of_more hy (after_after a0_w43_ inferInstance)
              have l00_w44_ : Le (w.heap.size + 1) w44_ := ⟨by have := a0_w44_.below.size; simp at this; omega⟩
              have l01_w44_ : Le (w.heap.size + 2) w44_ := ⟨by have := a0_w44_.below.size; simp at this; omega⟩
              have h0_w44_ := HK.out w44_ a0_w44_
              have a3_w44_ : After w4_ w44_ := after_of_more hy (after_after a3_w43_ inferInstance)
              have l30_w44_ : Le (g3 + 1) w44_ := ⟨Nat.le_trans Lq3.le a3_w44_.below.size⟩
              have h3_w44_ := HK3.out w44_ a3_w44_
              have a4_w44_ : After w6_ w44_ := after_of_more hy (after_after a4_w43_ inferInstance)
              have l40_w44_ : Le (g4 + 1) w44_ := ⟨Nat.le_trans Lq4.le a4_w44_.below.size⟩
              have h4_w44_ := HK4.out w44_ a4_w44_
              have a10_w44_ : After w42_ w44_ := after_of_more hy (after_after a10_w43_ inferInstance)
              have l100_w44_ : Le (g10 + 1) w44_ := ⟨Nat.le_trans Lq10.le a10_w44_.below.size⟩
              have h10_w44_ := HK10.out w44_ a10_w44_
              have a9_w44_ : After wc w44_ := after_of_more hy (after_after a9_w43_ inferInstance)
              have l90_w44_ : Le (g9 + 1) w44_ := ⟨Nat.le_trans Lq9.le a9_w44_.below.size⟩
              have h9_w44_ := HK9.out w44_ a9_w44_
              have aw_w44_ : After w w44_ := after_after inferInstance a0_w44_
              clear hy
              go_wp2_with fail
              refine (Gives.on GA _ (after_after aw_w44_ inferInstance)).mono ?_
              rintro e w45_ ⟨rfl, hy⟩
              have a0_w45_ : After ((w.alloc (.cells #[.slice A h.length c, .slice B l.length d] 24)).alloc (.cells #[.slice A' h'.length c', .slice B' l'.length d'] 24)) w45_ := after_of_more hy (after_after a0_w44_ inferInstance)
              have l00_w45_ : Le (w.heap.size + 1) w45_ := ⟨by have := a0_w45_.below.size; simp at this; omega⟩
              have l01_w45_ : Le (w.heap.size + 2) w45_ := ⟨by have := a0_w45_.below.size; simp at this; omega⟩
              have h0_w45_ := HK.out w45_ a0_w45_
              have a3_w45_ : After w4_ w45_ := after_of_more hy (after_after a3_w44_ inferInstance)
              have l30_w45_ : Le (g3 + 1) w45_ := ⟨Nat.le_trans Lq3.le a3_w45_.below.size⟩
              have h3_w45_ := HK3.out w45_ a3_w45_
              have a4_w45_ : After w6_ w45_ := after_of_more hy (after_after a4_w44_ inferInstance)
              have l40_w45_ : Le (g4 + 1) w45_ := ⟨Nat.le_trans Lq4.le a4_w45_.below.size⟩
              have h4_w45_ := HK4.out w45_ a4_w45_
              have a10_w45_ : After w42_ w45_ := after_of_more hy (after_after a10_w44_ inferInstance)
              have l100_w45_ : Le (g10 + 1) w45_ := ⟨Nat.le_trans Lq10.le a10_w45_.below.size⟩
              have h10_w45_ := HK10.out w45_ a10_w45_
              have a9_w45_ : After wc w45_ := after_of_more hy (after_after a9_w44_ inferInstance)
              have l90_w45_ : Le (g9 + 1) w45_ := ⟨Nat.le_trans Lq9.le a9_w45_.below.size⟩
              have h9_w45_ := HK9.out w45_ a9_w45_
              have aw_w45_ : After w w45_ := after_after inferInstance a0_w45_
              clear hy
              go_wp2_with fail
              go_ret
              exact ⟨rfl, @After.is_more w _ (after_after aw_w45_ inferInstance)⟩
        · obtain ⟨v1, ev, hv1, hv2⟩ : ∃ v, checkI h l = v ∧ (v == 0) = false ∧ (v != 0) = true := by
            rcases check_cases h l with hv' | ⟨_, h5 | h5⟩
            · exact absurd hv' hv
            · exact ⟨5, h5, rfl, rfl⟩
            · exact ⟨3, h5, rfl, rfl⟩
          have GC := check_v x ev
          clear hz hv ev
          go_enter Try.func7, Try.ntmps7
          go_wp2_with fail
          refine (Gives.on G1 _ inferInstance).mono ?_
          rintro e w1_ ⟨rfl, hy⟩
          have a0_w1_ : After ((w.alloc (.cells #[.slice A h.length c, .slice B l.length d] 24)).alloc (.cells #[.slice A' h'.length c', .slice B' l'.length d'] 24)) w1_ := after_of_more hy inferInstance
          have l00_w1_ : Le (w.heap.size + 1) w1_ := ⟨by have := a0_w1_.below.size; simp at this; omega⟩
          have l01_w1_ : Le (w.heap.size + 2) w1_ := ⟨by have := a0_w1_.below.size; simp at this; omega⟩
          have h0_w1_ := HK.out w1_ a0_w1_
          have aw_w1_ : After w w1_ := after_after inferInstance a0_w1_
          clear hy
          go_wp2_with fail
          refine (Gives.on G2 _ (after_after aw_w1_ inferInstance)).mono ?_
          rintro e w2_ ⟨rfl, hy⟩
          have a0_w2_ : After ((w.alloc (.cells #[.slice A h.length c, .slice B l.length d] 24)).alloc (.cells #[.slice A' h'.length c', .slice B' l'.length d'] 24)) w2_ := after_of_more hy (after_after a0_w1_ inferInstance)
          have l00_w2_ : Le (w.heap.size + 1) w2_ := ⟨by have := a0_w2_.below.size; simp at this; omega⟩
          have l01_w2_ : Le (w.heap.size + 2) w2_ := ⟨by have := a0_w2_.below.size; simp at this; omega⟩
          have h0_w2_ := HK.out w2_ a0_w2_
          have aw_w2_ : After w w2_ := after_after inferInstance a0_w2_
          clear hy
          go_wp2_with fail
          refine (GivesW.on G3 _ (after_after aw_w2_ inferInstance)).mono ?_
          rintro e w3_ ⟨A3, c3, B3, d3, rfl, x3, hy⟩
          have a0_w3_ : After ((w.alloc (.cells #[.slice A h.length c, .slice B l.length d] 24)).alloc (.cells #[.slice A' h'.length c', .slice B' l'.length d'] 24)) w3_ := after_of_more hy (after_after a0_w2_ inferInstance)
          have l00_w3_ : Le (w.heap.size + 1) w3_ := ⟨by have := a0_w3_.below.size; simp at this; omega⟩
          have l01_w3_ : Le (w.heap.size + 2) w3_ := ⟨by have := a0_w3_.below.size; simp at this; omega⟩
          have h0_w3_ := HK.out w3_ a0_w3_
          have aw_w3_ : After w w3_ := after_after inferInstance a0_w3_
          clear hy
          have X3 := Lib.hid x3
          clear x3
          go_wp2_with fail
          obtain ⟨g3, hg_⟩ : ∃ g, w3_.heap.size = g := ⟨_, rfl⟩
          obtain ⟨w4_, hU_, b3, HK3, Lq3⟩ : ∃ U, w3_.alloc (.cells #[.slice A3 H.length c3, .slice B3 L.length d3] 24) = U ∧ After w3_ U ∧ Hid (∀ V, After U V → V.cell? ⟨g3, 0, none⟩ = some (.slice A3 H.length c3) ∧ V.cell? ⟨g3, 1, none⟩ = some (.slice B3 L.length d3)) ∧ Le (g3 + 1) U := by
            refine ⟨_, rfl, inferInstance, fun V k_ => ?_, ⟨by rw [← hg_]; simp⟩⟩
            have f_ := (Blk.new w3_ 24 #[.slice A3 H.length c3, .slice B3 L.length d3]).after (w' := V)
            rw [hg_] at f_
            exact ⟨by rw [f_.cell]; rfl, by rw [f_.cell]; rfl⟩
          rw [hU_, hg_]
          clear hU_ hg_
          have a0_w4_ : After ((w.alloc (.cells #[.slice A h.length c, .slice B l.length d] 24)).alloc (.cells #[.slice A' h'.length c', .slice B' l'.length d'] 24)) w4_ := after_after a0_w3_ b3
          have l00_w4_ : Le (w.heap.size + 1) w4_ := ⟨by have := a0_w4_.below.size; simp at this; omega⟩
          have l01_w4_ : Le (w.heap.size + 2) w4_ := ⟨by have := a0_w4_.below.size; simp at this; omega⟩
          have h0_w4_ := HK.out w4_ a0_w4_
          have aw_w4_ : After w w4_ := after_after inferInstance a0_w4_
          have a3_w4_ : After w4_ w4_ := inferInstance
          have h3_w4_ := HK3.out w4_ a3_w4_
          replace X3 := Lib.hid (X3.out.here w4_)
          refine (GivesW.on G4 _ (after_after aw_w4_ inferInstance)).mono ?_
          rintro e w5_ ⟨A4, c4, B4, d4, rfl, x4, hy⟩
          have a0_w5_ : After ((w.alloc (.cells #[.slice A h.length c, .slice B l.length d] 24)).alloc (.cells #[.slice A' h'.length c', .slice B' l'.length d'] 24)) w5_ := after_of_more hy (after_after a0_w4_ inferInstance)
          have l00_w5_ : Le (w.heap.size + 1) w5_ := ⟨by have := a0_w5_.below.size; simp at this; omega⟩
          have l01_w5_ : Le (w.heap.size + 2) w5_ := ⟨by have := a0_w5_.below.size; simp at this; omega⟩
          have h0_w5_ := HK.out w5_ a0_w5_
          have a3_w5_ : After w4_ w5_ := after_of_more hy (after_after a3_w4_ inferInstance)
          have l30_w5_ : Le (g3 + 1) w5_ := ⟨Nat.le_trans Lq3.le a3_w5_.below.size⟩
          have h3_w5_ := HK3.out w5_ a3_w5_
          have aw_w5_ : After w w5_ := after_after inferInstance a0_w5_
          clear hy
          have X4 := Lib.hid x4
          clear x4
          go_wp2_with fail
          obtain ⟨g4, hg_⟩ : ∃ g, w5_.heap.size = g := ⟨_, rfl⟩
          obtain ⟨w6_, hU_, b4, HK4, Lq4⟩ : ∃ U, w5_.alloc (.cells #[.slice A4 H.length c4, .slice B4 L.length d4] 24) = U ∧ After w5_ U ∧ Hid (∀ V, After U V → V.cell? ⟨g4, 0, none⟩ = some (.slice A4 H.length c4) ∧ V.cell? ⟨g4, 1, none⟩ = some (.slice B4 L.length d4)) ∧ Le (g4 + 1) U := by
            refine ⟨_, rfl, inferInstance, fun V k_ => ?_, ⟨by rw [← hg_]; simp⟩⟩
            have f_ := (Blk.new w5_ 24 #[.slice A4 H.length c4, .slice B4 L.length d4]).after (w' := V)
            rw [hg_] at f_
            exact ⟨by rw [f_.cell]; rfl, by rw [f_.cell]; rfl⟩
          rw [hU_, hg_]
          clear hU_ hg_
          have a0_w6_ : After ((w.alloc (.cells #[.slice A h.length c, .slice B l.length d] 24)).alloc (.cells #[.slice A' h'.length c', .slice B' l'.length d'] 24)) w6_ := after_after a0_w5_ b4
          have l00_w6_ : Le (w.heap.size + 1) w6_ := ⟨by have := a0_w6_.below.size; simp at this; omega⟩
          have l01_w6_ : Le (w.heap.size + 2) w6_ := ⟨by have := a0_w6_.below.size; simp at this; omega⟩
          have h0_w6_ := HK.out w6_ a0_w6_
          have a3_w6_ : After w4_ w6_ := after_after a3_w5_ b4
          have l30_w6_ : Le (g3 + 1) w6_ := ⟨Nat.le_trans Lq3.le a3_w6_.below.size⟩
          have h3_w6_ := HK3.out w6_ a3_w6_
          have aw_w6_ : After w w6_ := after_after inferInstance a0_w6_
          have a4_w6_ : After w6_ w6_ := inferInstance
          have h4_w6_ := HK4.out w6_ a4_w6_
          replace X4 := Lib.hid (X4.out.here w6_)
          have G5 := equal_v (X3.out.here w6_) X4.out (v := true) (by simp)
          refine (Gives.on G5 _ (after_after a4_w6_ inferInstance)).mono ?_
          rintro e w7_ ⟨rfl, hy⟩
          have a0_w7_ : After ((w.alloc (.cells #[.slice A h.length c, .slice B l.length d] 24)).alloc (.cells #[.slice A' h'.length c', .slice B' l'.length d'] 24)) w7_ := after_of_more hy (after_after a0_w6_ inferInstance)
          have l00_w7_ : Le (w.heap.size + 1) w7_ := ⟨by have := a0_w7_.below.size; simp at this; omega⟩
          have l01_w7_ : Le (w.heap.size + 2) w7_ := ⟨by have := a0_w7_.below.size; simp at this; omega⟩
          have h0_w7_ := HK.out w7_ a0_w7_
          have a3_w7_ : After w4_ w7_ := after_of_more hy (after_after a3_w6_ inferInstance)
          have l30_w7_ : Le (g3 + 1) w7_ := ⟨Nat.le_trans Lq3.le a3_w7_.below.size⟩
          have h3_w7_ := HK3.out w7_ a3_w7_
          have a4_w7_ : After w6_ w7_ := after_of_more hy (after_after a4_w6_ inferInstance)
          have l40_w7_ : Le (g4 + 1) w7_ := ⟨Nat.le_trans Lq4.le a4_w7_.below.size⟩
          have h4_w7_ := HK4.out w7_ a4_w7_
          have aw_w7_ : After w w7_ := after_after inferInstance a0_w7_
          clear hy
          clear G5
          go_wp2_with fail
          go_loopw [9] (fun k wr => k = .int .i64 0 ∧ After w7_ wr) (fun k _ => 0)
          case atStart => exact ⟨rfl, inferInstance⟩
          case round =>
            obtain ⟨rfl, ar_⟩ := hrel
            have a0_wr : After ((w.alloc (.cells #[.slice A h.length c, .slice B l.length d] 24)).alloc (.cells #[.slice A' h'.length c', .slice B' l'.length d'] 24)) wr := after_after a0_w7_ ar_
            have l00_wr : Le (w.heap.size + 1) wr := ⟨by have := a0_wr.below.size; simp at this; omega⟩
            have l01_wr : Le (w.heap.size + 2) wr := ⟨by have := a0_wr.below.size; simp at this; omega⟩
            have h0_wr := HK.out wr a0_wr
            have a3_wr : After w4_ wr := after_after a3_w7_ ar_
            have l30_wr : Le (g3 + 1) wr := ⟨Nat.le_trans Lq3.le a3_wr.below.size⟩
            have h3_wr := HK3.out wr a3_wr
            have a4_wr : After w6_ wr := after_after a4_w7_ ar_
            have l40_wr : Le (g4 + 1) wr := ⟨Nat.le_trans Lq4.le a4_wr.below.size⟩
            have h4_wr := HK4.out wr a4_wr
            have aw_wr : After w wr := after_after inferInstance a0_wr
            go_wp2_with fail
            refine (GivesW.on G8 _ (after_after aw_wr inferInstance)).mono ?_
            rintro e w41_ ⟨A10, c10, B10, d10, rfl, x10, hy⟩
            have a0_w41_ : After ((w.alloc (.cells #[.slice A h.length c, .slice B l.length d] 24)).alloc (.cells #[.slice A' h'.length c', .slice B' l'.length d'] 24)) w41_ := after_of_more hy (after_after a0_wr inferInstance)
            have l00_w41_ : Le (w.heap.size + 1) w41_ := ⟨by have := a0_w41_.below.size; simp at this; omega⟩
            have l01_w41_ : Le (w.heap.size + 2) w41_ := ⟨by have := a0_w41_.below.size; simp at this; omega⟩
            have h0_w41_ := HK.out w41_ a0_w41_
            have a3_w41_ : After w4_ w41_ := after_of_more hy (after_after a3_wr inferInstance)
            have l30_w41_ : Le (g3 + 1) w41_ := ⟨Nat.le_trans Lq3.le a3_w41_.below.size⟩
            have h3_w41_ := HK3.out w41_ a3_w41_
            have a4_w41_ : After w6_ w41_ := after_of_more hy (after_after a4_wr inferInstance)
            have l40_w41_ : Le (g4 + 1) w41_ := ⟨Nat.le_trans Lq4.le a4_w41_.below.size⟩
            have h4_w41_ := HK4.out w41_ a4_w41_
            have aw_w41_ : After w w41_ := after_after inferInstance a0_w41_
            clear hy
            have X10 := Lib.hid x10
            clear x10
            go_wp2_with fail
            obtain ⟨g10, hg_⟩ : ∃ g, w41_.heap.size = g := ⟨_, rfl⟩
            obtain ⟨w42_, hU_, b10, HK10, Lq10⟩ : ∃ U, w41_.alloc (.cells #[.slice A10 H8.length c10, .slice B10 L8.length d10] 24) = U ∧ After w41_ U ∧ Hid (∀ V, After U V → V.cell? ⟨g10, 0, none⟩ = some (.slice A10 H8.length c10) ∧ V.cell? ⟨g10, 1, none⟩ = some (.slice B10 L8.length d10)) ∧ Le (g10 + 1) U := by
              refine ⟨_, rfl, inferInstance, fun V k_ => ?_, ⟨by rw [← hg_]; simp⟩⟩
              have f_ := (Blk.new w41_ 24 #[.slice A10 H8.length c10, .slice B10 L8.length d10]).after (w' := V)
              rw [hg_] at f_
              exact ⟨by rw [f_.cell]; rfl, by rw [f_.cell]; rfl⟩
            rw [hU_, hg_]
            clear hU_ hg_
            have a0_w42_ : After ((w.alloc (.cells #[.slice A h.length c, .slice B l.length d] 24)).alloc (.cells #[.slice A' h'.length c', .slice B' l'.length d'] 24)) w42_ := after_after a0_w41_ b10
            have l00_w42_ : Le (w.heap.size + 1) w42_ := ⟨by have := a0_w42_.below.size; simp at this; omega⟩
            have l01_w42_ : Le (w.heap.size + 2) w42_ := ⟨by have := a0_w42_.below.size; simp at this; omega⟩
            have h0_w42_ := HK.out w42_ a0_w42_
            have a3_w42_ : After w4_ w42_ := after_after a3_w41_ b10
            have l30_w42_ : Le (g3 + 1) w42_ := ⟨Nat.le_trans Lq3.le a3_w42_.below.size⟩
            have h3_w42_ := HK3.out w42_ a3_w42_
            have a4_w42_ : After w6_ w42_ := after_after a4_w41_ b10
            have l40_w42_ : Le (g4 + 1) w42_ := ⟨Nat.le_trans Lq4.le a4_w42_.below.size⟩
            have h4_w42_ := HK4.out w42_ a4_w42_
            have aw_w42_ : After w w42_ := after_after inferInstance a0_w42_
            have a10_w42_ : After w42_ w42_ := inferInstance
            have h10_w42_ := HK10.out w42_ a10_w42_
            replace X10 := Lib.hid (X10.out.here w42_)
            go_cut [12, 13] (fun p q wx => ∃ (g : Nat) (A9 : Option Addr) (c9 : Nat) (B9 : Option Addr) (d9 : Nat), p = .pointer (some ⟨g, 0, none⟩) ∧ q = .int .i64 e5 ∧ Hid (Blk wx g 24 #[.slice A9 H5.length c9, .slice B9 L5.length d9]) ∧ Hid (RW wx A9 c9 B9 d9 H5 L5) ∧ After w42_ wx)
            case first =>
              have q_ : ∀ V, After w42_ V → After ((w.alloc (.cells #[.slice A h.length c, .slice B l.length d] 24)).alloc (.cells #[.slice A' h'.length c', .slice B' l'.length d'] 24)) V := fun V k => after_after a0_w42_ k
              go_region_held3 (fun V => V.cell? ⟨w.heap.size, 0, none⟩ = some (.slice A h.length c) ∧ V.cell? ⟨w.heap.size, 1, none⟩ = some (.slice B l.length d)) (exact ⟨(HK.out _ (q_ _ inferInstance)).1, (HK.out _ (q_ _ inferInstance)).2.1⟩)
                (first
                  | (go_at_call 29; (with_reducible refine (GNs.out _ (after_after aw_w42_ inferInstance)).mono ?_); rintro e v1 ⟨A7, c7, B7, d7, rfl, x7, z1, y1, rfl⟩; have GX := Lib.hid (and_fr (x.here _) x7 e12.out); clear x7)
                  | (go_at_call 27; (with_reducible refine (GX.out _ inferInstance).mono ?_); rintro e v2 ⟨A9, c9, B9, d9, rfl, x9, n9, m9, z2, y2, rfl⟩))
              all_goals
                go_wp2_with fail
                go_meet
                refine ⟨_, A9, c9, B9, d9, rfl, rfl, ?_, ?_, ?_⟩
                · show Blk _ _ _ _
                  (repeat (first | with_reducible exact Blk.new _ _ _ | with_reducible exact Blk.new1 _ _ _ _ | with_reducible apply Blk.set0 | with_reducible apply Blk.set1 | (with_reducible refine Blk.far2 ?_ (by (try simp only [size_alloc_, size_set_, drew_heap] at *); omega)) | with_reducible refine Blk.drew ?_ | with_reducible refine Blk.more ?_ _ | with_reducible refine Blk.alloc ?_ _))
                · refine x9.frame n9 m9 (by (try simp only [size_alloc_, size_set_, drew_heap] at *); omega) (fun k h1 h2 => ?_)
                  (repeat (first | with_reducible rfl | (refine (frame_set ?_).trans ?_; (first | ((try simp only [size_alloc_, size_set_, drew_heap] at *); omega))) | (refine (frame_alloc ?_).trans ?_; (first | ((try simp only [size_alloc_, size_set_, drew_heap] at *); omega))) | (refine (frame_more ?_).trans ?_; (first | ((try simp only [size_alloc_, size_set_, drew_heap] at *); omega)))))
                · exact inferInstance
            case rest =>
              obtain ⟨g9, A9, c9, B9, d9, rfl, rfl, b9, x9, ar9⟩ := hcut
              have a0_wc : After ((w.alloc (.cells #[.slice A h.length c, .slice B l.length d] 24)).alloc (.cells #[.slice A' h'.length c', .slice B' l'.length d'] 24)) wc := after_after a0_w42_ ar9
              have l00_wc : Le (w.heap.size + 1) wc := ⟨by have := a0_wc.below.size; simp at this; omega⟩
              have l01_wc : Le (w.heap.size + 2) wc := ⟨by have := a0_wc.below.size; simp at this; omega⟩
              have h0_wc := HK.out wc a0_wc
              have a3_wc : After w4_ wc := after_after a3_w42_ ar9
              have l30_wc : Le (g3 + 1) wc := ⟨Nat.le_trans Lq3.le a3_wc.below.size⟩
              have h3_wc := HK3.out wc a3_wc
              have a4_wc : After w6_ wc := after_after a4_w42_ ar9
              have l40_wc : Le (g4 + 1) wc := ⟨Nat.le_trans Lq4.le a4_wc.below.size⟩
              have h4_wc := HK4.out wc a4_wc
              have a10_wc : After w42_ wc := after_after a10_w42_ ar9
              have l100_wc : Le (g10 + 1) wc := ⟨Nat.le_trans Lq10.le a10_wc.below.size⟩
              have h10_wc := HK10.out wc a10_wc
              have aw_wc : After w wc := after_after inferInstance a0_wc
              have HK9 : Hid (∀ V, After wc V → V.cell? ⟨g9, 0, none⟩ = some (.slice A9 H5.length c9) ∧ V.cell? ⟨g9, 1, none⟩ = some (.slice B9 L5.length d9)) := fun V k => by
                have f_ := b9.out.after (w' := V)
                exact ⟨by rw [f_.cell]; rfl, by rw [f_.cell]; rfl⟩
              have Lq9 : Le (g9 + 1) wc := b9.out.is_le
              have a9_wc : After wc wc := inferInstance
              have h9_wc := HK9.out wc a9_wc
              go_wp2_with fail
              refine (Gives.on GC _ (after_after aw_wc inferInstance)).mono ?_
              rintro e w43_ ⟨rfl, hy⟩
              have a0_w43_ : After ((w.alloc (.cells #[.slice A h.length c, .slice B l.length d] 24)).alloc (.cells #[.slice A' h'.length c', .slice B' l'.length d'] 24)) w43_ := after_of_more hy (after_after a0_wc inferInstance)
              have l00_w43_ : Le (w.heap.size + 1) w43_ := ⟨by have := a0_w43_.below.size; simp at this; omega⟩
              have l01_w43_ : Le (w.heap.size + 2) w43_ := ⟨by have := a0_w43_.below.size; simp at this; omega⟩
              have h0_w43_ := HK.out w43_ a0_w43_
              have a3_w43_ : After w4_ w43_ := after_of_more hy (after_after a3_wc inferInstance)
              have l30_w43_ : Le (g3 + 1) w43_ := ⟨Nat.le_trans Lq3.le a3_w43_.below.size⟩
              have h3_w43_ := HK3.out w43_ a3_w43_
              have a4_w43_ : After w6_ w43_ := after_of_more hy (after_after a4_wc inferInstance)
              have l40_w43_ : Le (g4 + 1) w43_ := ⟨Nat.le_trans Lq4.le a4_w43_.below.size⟩
              have h4_w43_ := HK4.out w43_ a4_w43_
              have a10_w43_ : After w42_ w43_ := after_of_more hy (after_after a10_wc inferInstance)
              have l100_w43_ : Le (g10 + 1) w43_ := ⟨Nat.le_trans Lq10.le a10_w43_.below.size⟩
              have h10_w43_ := HK10.out w43_ a10_w43_
              have a9_w43_ : After wc w43_ := after_of_more hy (after_after a9_wc inferInstance)
              have l90_w43_ : Le (g9 + 1) w43_ := ⟨Nat.le_trans Lq9.le a9_w43_.below.size⟩
              have h9_w43_ := HK9.out w43_ a9_w43_
              have aw_w43_ : After w w43_ := after_after inferInstance a0_w43_
              clear hy
              go_wp2_with fail
              refine (Gives.on GA _ (after_after aw_w43_ inferInstance)).mono ?_
              rintro e w44_ ⟨rfl, hy⟩
              have a0_w44_ : After ((w.alloc (.cells #[.slice A h.length c, .slice B l.length d] 24)).alloc (.cells #[.slice A' h'.length c', .slice B' l'.length d'] 24)) w44_ := after_of_more hy (after_after a0_w43_ inferInstance)
              have l00_w44_ : Le (w.heap.size + 1) w44_ := ⟨by have := a0_w44_.below.size; simp at this; omega⟩
              have l01_w44_ : Le (w.heap.size + 2) w44_ := ⟨by have := a0_w44_.below.size; simp at this; omega⟩
              have h0_w44_ := HK.out w44_ a0_w44_
              have a3_w44_ : After w4_ w44_ := after_of_more hy (after_after a3_w43_ inferInstance)
              have l30_w44_ : Le (g3 + 1) w44_ := ⟨Nat.le_trans Lq3.le a3_w44_.below.size⟩
              have h3_w44_ := HK3.out w44_ a3_w44_
              have a4_w44_ : After w6_ w44_ := after_of_more hy (after_after a4_w43_ inferInstance)
              have l40_w44_ : Le (g4 + 1) w44_ := ⟨Nat.le_trans Lq4.le a4_w44_.below.size⟩
              have h4_w44_ := HK4.out w44_ a4_w44_
              have a10_w44_ : After w42_ w44_ := after_of_more hy (after_after a10_w43_ inferInstance)
              have l100_w44_ : Le (g10 + 1) w44_ := ⟨Nat.le_trans Lq10.le a10_w44_.below.size⟩
              have h10_w44_ := HK10.out w44_ a10_w44_
              have a9_w44_ : After wc w44_ := after_of_more hy (after_after a9_w43_ inferInstance)
              have l90_w44_ : Le (g9 + 1) w44_ := ⟨Nat.le_trans Lq9.le a9_w44_.below.size⟩
              have h9_w44_ := HK9.out w44_ a9_w44_
              have aw_w44_ : After w w44_ := after_after inferInstance a0_w44_
              clear hy
              go_wp2_with fail
              go_ret
              exact ⟨rfl, @After.is_more w _ (after_after aw_w44_ inferInstance)⟩

set_option maxRecDepth 100000 in
theorem lifted (os : Os) (started : os.Started) (H : Type) (enc : TypeId × Value → H) :
    ReturnsInHanded {} Try.checked os 7 .any (Rows.bwordAndsSpec.pre6 enc Try.prog Try.f7 Rows.bwordAndsRow.domain false) (Rows.bwordAndsSpec.post enc Try.prog Try.f7 false true false false) := by
  refine returnsInHanded_of_change_sized (C := Try.checked) own started (by kernel_rfl) Try.func7
    (ChangeSpec.witness6 (enc := enc) (C := Try.checked) false ⟨#[], #[.agg #[.slice none 0 0, .slice none 0 0], .agg #[.slice none 0 0, .slice none 0 0]], []⟩ 8 (by kernel_rfl) (by kernel_rfl) (by kernel_rfl) (by kernel_rfl)) ?_
  intro W base args ds gs before hval0 hW hcnd hsz0 _
  have hval : ∀ (j : Nat) t v, Try.f7.params[j]? = some t → args[j]? = some v → Value.okWide Try.prog W .any base t v := hval0
  have hsz : (DataW.weightsEach Try.prog (Try.f7.params.toList ++ Rows.bwordAndsSpec.plain.varTypes Try.prog) (ds ++ gs)).all (· ≤ reachBytes) = true := hsz0
  have hW' := hW
  obtain ⟨p, q, hA0, hV, rfl, hfz, hnd⟩ := hW
  have hA : DataW.TrodAll enc Try.prog W 0 (fun _ => true) true Try.f7.params.toList args.toList ds p := hA0
  rw [Try.params7] at hA hval hsz
  obtain ⟨v0, vs0, d0, ds0, p0, q0, hargs, rfl, rfl, h0, r0⟩ := trodAll_cons hA
  obtain ⟨v1, vs1, d1, ds1, p1, q1, rfl, rfl, rfl, h1, r1⟩ := trodAll_cons r0
  obtain ⟨rfl, rfl, rfl⟩ := trodAll_nil r1
  obtain rfl : args = #[v0, v1] := by cases args; simp_all
  obtain ⟨rfl, rfl⟩ := trodVars_none hV
  have k0 := h0
  have lt0 : ∀ x ∈ p0, x.block < W.heap.size := by obtain ⟨m, hm⟩ := k0; exact DataW.trod_lt m _ _ _ hm
  have z0 : ∀ n ∈ d0.weights Try.prog 24, n ≤ reachBytes := fun n hn => by
    simpa using List.all_eq_true.1 hsz n (DataW.weights_mem_each (j := 0) (t := 24) rfl rfl n hn)
  obtain ⟨A0, c0, B0, c0', hl0, ll0, rfl, x0⟩ := open_word (e := 4) Try.underlying24 (by kernel_rfl) (by kernel_rfl) Try.underlying22 Try.underlying22 Try.underlying4 (by kernel_rfl) (by kernel_rfl) (hval 0 24 v0 rfl rfl) h0 z0
  have k1 := h1
  have lt1 : ∀ x ∈ p1, x.block < W.heap.size := by obtain ⟨m, hm⟩ := k1; exact DataW.trod_lt m _ _ _ hm
  have z1 : ∀ n ∈ d1.weights Try.prog 24, n ≤ reachBytes := fun n hn => by
    simpa using List.all_eq_true.1 hsz n (DataW.weights_mem_each (j := 1) (t := 24) rfl rfl n hn)
  obtain ⟨A1, c1, B1, c1', hl1, ll1, rfl, x1⟩ := open_word (e := 4) Try.underlying24 (by kernel_rfl) (by kernel_rfl) Try.underlying22 Try.underlying22 Try.underlying4 (by kernel_rfl) (by kernel_rfl) (hval 1 24 v1 rfl rfl) h1 z1
  clear hA0 hval0 hsz0 hsz
  refine (walk W x0 x1).mono fun e W' ⟨he, y, hy⟩ => ?_
  subst he
  have bel : Below W.heap.size W W' := by rw [hy]; exact more_below W y
  exact ⟨_, rfl, _, _, _, [], _, [], hW', trodAll_mk1 (shut_bool Try.underlying4 _), (trodAll_cons_mk (Below.trod laidOut (by kernel_rfl) (of_decide_eq_true (by kernel_rfl)) k0 bel lt0) (trodAll_cons_mk (Below.trod laidOut (by kernel_rfl) (of_decide_eq_true (by kernel_rfl)) k1 bel lt1) trodAll_mk0)), rfl, bel.frame _, fun h => by cases h⟩

theorem over : Rows.bwordAndsRow.holds Try.pinned (OpenSpec.ofChange Rows.bwordAndsSpec) :=
  OpenClaim.holds_of_wide 7 Try.f7 rfl rfl rfl rfl rfl rfl rfl ⟨rfl, rfl, rfl, rfl, rfl⟩ rfl rfl rfl rfl rfl (by kernel_rfl) Try.func7 (by kernel_rfl)
    (of_decide_eq_true (by kernel_rfl)) (by unfold Func.isWrapper; first | (rw [if_pos (by decide +kernel)]; kernel_rfl) | (rw [if_neg (by decide +kernel)]; exact ⟨rfl, rfl⟩))
    (fun os started H enc _ => lifted os started H enc)

theorem proved : Rows.BwordAndsSaid := over
#print axioms proved
end Go.Proofs.Ytjbpelkdciphnaa.bwordAnds
