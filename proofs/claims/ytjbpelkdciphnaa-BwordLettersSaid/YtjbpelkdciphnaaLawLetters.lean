/-
  The error of a word, its letters and its counted ones are the chapter's, for every word and all numbers; Ones counts the letters. No conditions.
-/
import Derived.Test.YtjbpelkdciphnaaAwake2
import Derived.Test.YtjbpelkdciphnaaGives
import Derived.Test.YtjbpelkdciphnaaLift
namespace Go.Proofs.Ytjbpelkdciphnaa.bwordLetters
open Go.ChangeShapes Go.WideShapes Go.ChangeAt Go.RowKit Go.BigFrame
set_option linter.unusedVariables false

theorem own : ownKnob Try.prog.godebug = none := by kernel_rfl
theorem laidOut : laidOutB Try.prog = true := by kernel_rfl

section
variable {w0 : World} {A : Option Addr} {c : Nat} {B : Option Addr} {d : Nat} {h l : List Bool} {A' : Option Addr} {c' : Nat} {B' : Option Addr} {d' : Nat} {h' l' : List Bool}
theorem huge_v (x : RW w0 A c B d h l) {v : Bool} (e : hugeB h l = v) : Gives w0 12 #[.agg #[.slice A h.length c, .slice B l.length d]] (.bool v) := fun U _ => e ▸ huge_any x U
theorem awake_v (w : World) : Gives w 13 #[] (.bool true) := fun U _ => awake_any U
theorem check_v (x : RW w0 A c B d h l) {v : Int} (e : checkI h l = v) : Gives w0 19 #[.agg #[.slice A h.length c, .slice B l.length d]] (.int .i64 v) := fun U _ => e ▸ check_any x U
theorem rcheck_v (x : RW w0 A c B d h l) {v : Int} (e : checkI h l = v) : Gives w0 21 #[.agg #[.slice A h.length c, .slice B l.length d]] (.int .i64 v) := fun U _ => e ▸ rcheck_any x U
theorem at_v (x : RW w0 A c B d h l) {i : Int} (hi : i ≤ 9223372036854775807) {v : Bool} (e : atB h l i = v) : Gives w0 22 #[.agg #[.slice A h.length c, .slice B l.length d], .int .i64 i] (.bool v) := fun U _ => e ▸ at_any x U i hi
theorem rat_v (x : RW w0 A c B d h l) {i : Int} (hi : i ≤ 9223372036854775807) {v : Bool} (e : atB h l i = v) : Gives w0 23 #[.agg #[.slice A h.length c, .slice B l.length d], .int .i64 i] (.bool v) := fun U _ => e ▸ rat_any x U i hi
theorem ones_v (x : RW w0 A c B d h l) {i : Int} (hi : i ≤ 9223372036854775807) {v : Int} (e : onesI h l i = v) : Gives w0 17 #[.agg #[.slice A h.length c, .slice B l.length d], .int .i64 i] (.int .i64 v) := fun U _ => e ▸ ones_all x U i hi
theorem rones_v (x : RW w0 A c B d h l) {i : Int} (hi : i ≤ 9223372036854775807) {v : Int} (e : onesI h l i = v) : Gives w0 24 #[.agg #[.slice A h.length c, .slice B l.length d], .int .i64 i] (.int .i64 v) := fun U _ => e ▸ rones_all x U i hi
theorem equal_v (x : RW w0 A c B d h l) (x' : RW w0 A' c' B' d' h' l') {v : Bool} (e : (h == h' && l == l') = v) : Gives w0 16 #[.agg #[.slice A h.length c, .slice B l.length d], .agg #[.slice A' h'.length c', .slice B' l'.length d']] (.bool v) := fun U _ => e ▸ requal_any x x' U
theorem on_v (x : RW w0 A c B d h l) (x' : RW w0 A' c' B' d' h' l') {H L : List Bool} {v : Int} (e : onW h l h' l' = ((H, L), v)) : GivesW w0 14 #[.agg #[.slice A h.length c, .slice B l.length d], .agg #[.slice A' h'.length c', .slice B' l'.length d']] H L (fun a => .tuple #[a, .int .i64 v]) := fun U _ => by have := on_any x x' U; rwa [e] at this
theorem norm_v (x : RW w0 A c B d h l) {H L : List Bool} (e : normW h l = (H, L)) : GivesW w0 20 #[.agg #[.slice A h.length c, .slice B l.length d]] H L (fun a => a) := fun U _ => by have := norm_any x U; rwa [e] at this
theorem rnorm_v (x : RW w0 A c B d h l) {H L : List Bool} (e : normW h l = (H, L)) : GivesW w0 25 #[.agg #[.slice A h.length c, .slice B l.length d]] H L (fun a => a) := fun U _ => by have := rnorm_any x U; rwa [e] at this
theorem i64_le {k : Int} (h : (Lit.int .i64 k).wf = true) : -9223372036854775808 ≤ k ∧ k ≤ 9223372036854775807 := by
  simpa [Lit.wf, IntKind.min, IntKind.max, IntKind.signed, IntKind.bits] using h
theorem onesI_step (h l : List Bool) (k : Nat) : onesI h l ((k : Int) + 1) = onesI h l k + (if atB h l k then 1 else 0) := by
  by_cases hv : Valid h l
  · have := W.ones_succ h l k hv.1
    have e : ((k : Int) + 1) = ((k + 1 : Nat) : Int) := by push_cast; rfl
    rw [e, onesI_ok hv, onesI_ok hv, atB_ok hv (by omega), letterB_nat, this]
    cases W.letter h l k <;> simp
  · rw [onesI_bad hv, onesI_bad hv, atB_bad hv]; simp
theorem onesI_bd2 (h l : List Bool) (k : Nat) : 0 ≤ onesI h l k ∧ onesI h l k ≤ k := by
  by_cases hv : Valid h l
  · rw [onesI_ok hv]; have := W.ones_le h l k hv.1; omega
  · rw [onesI_bad hv]; omega
end
set_option maxRecDepth 100000 in
set_option maxHeartbeats 3200000 in
theorem walk {A B c d h l} (w : World) (x : RW w A c B d h l) (i : Int) (wi : (Lit.int .i64 i).wf = true) (n : Int) (wn : (Lit.int .i64 n).wf = true) :
    Calls Try.prog 5 #[.agg #[.slice A h.length c, .slice B l.length d], .int .i64 i, .int .i64 n] w fun e w' => e = .returned (.bool true) ∧ ∃ y, w' = w.more y := by
  have HK : Hid (∀ U : World, After (w.alloc (.cells #[.slice A h.length c, .slice B l.length d] 24)) U → U.cell? ⟨w.heap.size, 0, none⟩ = some (.slice A h.length c) ∧ U.cell? ⟨w.heap.size, 1, none⟩ = some (.slice B l.length d)) := fun U k => by
    have := (Blk.new w 24 #[.slice A h.length c, .slice B l.length d]).after (w' := U)
    exact ⟨by rw [this.cell]; rfl, by rw [this.cell]; rfl⟩
  have GA := awake_v w
  obtain ⟨_, hi⟩ := i64_le wi
  obtain ⟨_, hn⟩ := i64_le wn
  clear wi wn
  cases h1 : hugeB h l with
  | true =>
    have G1 := huge_v x h1
    clear h1
    go_enter Try.func5, Try.ntmps5
    go_wp2_with fail
    refine (Gives.on G1 _ inferInstance).mono ?_
    rintro e w1_ ⟨rfl, hy⟩
    have a0_w1_ : After (w.alloc (.cells #[.slice A h.length c, .slice B l.length d] 24)) w1_ := after_of_more hy inferInstance
    have l00_w1_ : Le (w.heap.size + 1) w1_ := ⟨by have := a0_w1_.below.size; simp at this; omega⟩
    have h0_w1_ := HK.out w1_ a0_w1_
    have aw_w1_ : After w w1_ := after_after inferInstance a0_w1_
    clear hy
    go_wp2_with fail
    refine (Gives.on GA _ (after_after aw_w1_ inferInstance)).mono ?_
    rintro e w2_ ⟨rfl, hy⟩
    have a0_w2_ : After (w.alloc (.cells #[.slice A h.length c, .slice B l.length d] 24)) w2_ := after_of_more hy (after_after a0_w1_ inferInstance)
    have l00_w2_ : Le (w.heap.size + 1) w2_ := ⟨by have := a0_w2_.below.size; simp at this; omega⟩
    have h0_w2_ := HK.out w2_ a0_w2_
    have aw_w2_ : After w w2_ := after_after inferInstance a0_w2_
    clear hy
    go_wp2_with fail
    go_ret
    exact ⟨rfl, @After.is_more w _ (after_after aw_w2_ inferInstance)⟩
  | false =>
    have G1 := huge_v x h1
    clear h1
    obtain ⟨v1, e1⟩ : ∃ v, checkI h l = v := ⟨_, rfl⟩
    obtain ⟨v2, e2⟩ : ∃ v, atB h l i = v := ⟨_, rfl⟩
    obtain ⟨v3, e3⟩ : ∃ v, onesI h l n = v := ⟨_, rfl⟩
    have G2 := check_v x e1
    have G3 := rcheck_v x e1
    have G4 := at_v x hi e2
    have G5 := rat_v x hi e2
    have G6 := ones_v x hn e3
    have G7 := rones_v x hn e3
    have t1 : (v1 != v1) = false := by simp
    have t2 : (v2 != v2) = false := by simp
    have t3 : (v3 != v3) = false := by simp
    clear e1 e2 e3
    go_enter Try.func5, Try.ntmps5
    go_wp2_with fail
    refine (Gives.on G1 _ inferInstance).mono ?_
    rintro e w1_ ⟨rfl, hy⟩
    have a0_w1_ : After (w.alloc (.cells #[.slice A h.length c, .slice B l.length d] 24)) w1_ := after_of_more hy inferInstance
    have l00_w1_ : Le (w.heap.size + 1) w1_ := ⟨by have := a0_w1_.below.size; simp at this; omega⟩
    have h0_w1_ := HK.out w1_ a0_w1_
    have aw_w1_ : After w w1_ := after_after inferInstance a0_w1_
    clear hy
    go_wp2_with fail
    refine wp_region_more (by kernel_rfl) (by kernel_rfl) ?_
    repeat (go_big_quiet_step ((first | (go_at_call 19; with_reducible exact Calls.more_of (Gives.on G2 _ (after_after aw_w1_ inferInstance))) | (go_at_call 21; with_reducible exact Calls.more_of (Gives.on G3 _ (after_after aw_w1_ inferInstance))) | (go_at_call 22; with_reducible exact Calls.more_of (Gives.on G4 _ (after_after aw_w1_ inferInstance))) | (go_at_call 23; with_reducible exact Calls.more_of (Gives.on G5 _ (after_after aw_w1_ inferInstance))) | (go_at_call 17; with_reducible exact Calls.more_of (Gives.on G6 _ (after_after aw_w1_ inferInstance))) | (go_at_call 24; with_reducible exact Calls.more_of (Gives.on G7 _ (after_after aw_w1_ inferInstance))))))
    refine wpQuiet_nil ?_
    rintro _ ⟨yr, rfl⟩
    obtain ⟨w2_, hw_, hy⟩ : ∃ U, w1_.more yr = U ∧ ∃ y, U = w1_.more y := ⟨_, rfl, _, rfl⟩
    rw [hw_]
    clear hw_
    have a0_w2_ : After (w.alloc (.cells #[.slice A h.length c, .slice B l.length d] 24)) w2_ := after_of_more hy (after_after a0_w1_ inferInstance)
    have l00_w2_ : Le (w.heap.size + 1) w2_ := ⟨by have := a0_w2_.below.size; simp at this; omega⟩
    have h0_w2_ := HK.out w2_ a0_w2_
    have aw_w2_ : After w w2_ := after_after inferInstance a0_w2_
    clear hy
    clear t1 t2 t3 G2 G3 G4 G5 G6 G7
    go_wp2_with fail
    go_loopw [7, 8] (fun cc k wr => ∃ j : Nat, j ≤ 150 ∧ k = .int .i64 j ∧ cc = .int .i64 (onesI h l j) ∧ After (w.alloc (.cells #[.slice A h.length c, .slice B l.length d] 24)) wr) (fun _ k _ => 150 - (intOf k).toNat)
    case atStart => exact ⟨0, by omega, rfl, by rw [show ((0 : Nat) : Int) = 0 from rfl, onesI_low (by decide)], a0_w2_⟩
    case round =>
      obtain ⟨j, hj, rfl, rfl, ar_⟩ := hrel
      have a0_wr : After (w.alloc (.cells #[.slice A h.length c, .slice B l.length d] 24)) wr := ar_
      have l00_wr : Le (w.heap.size + 1) wr := ⟨by have := a0_wr.below.size; simp at this; omega⟩
      have h0_wr := HK.out wr a0_wr
      have aw_wr : After w wr := after_after inferInstance a0_wr
      by_cases hlt : j < 150
      · have hltI : (j : Int) < 150 := by omega
        have hst := Lib.hid (onesI_step h l j)
        have hbd := onesI_bd2 h l j
        have Ga := ones_v x (i := (j : Nat)) (by omega) rfl
        have Gb := at_v x (i := (j : Nat)) (by omega) rfl
        generalize atB h l j = b at Gb hst
        generalize onesI h l j = o at Ga hst hbd
        have t1 : (o != o) = false := by simp
        go_wp2_with fail
        refine (Gives.on Ga _ (after_after aw_wr inferInstance)).mono ?_
        rintro e w11_ ⟨rfl, hy⟩
        have a0_w11_ : After (w.alloc (.cells #[.slice A h.length c, .slice B l.length d] 24)) w11_ := after_of_more hy (after_after a0_wr inferInstance)
        have l00_w11_ : Le (w.heap.size + 1) w11_ := ⟨by have := a0_w11_.below.size; simp at this; omega⟩
        have h0_w11_ := HK.out w11_ a0_w11_
        have aw_w11_ : After w w11_ := after_after inferInstance a0_w11_
        clear hy
        cases b
        · go_wp2_with fail
          refine (Gives.on Gb _ (after_after aw_w11_ inferInstance)).mono ?_
          rintro e w12_ ⟨rfl, hy⟩
          have a0_w12_ : After (w.alloc (.cells #[.slice A h.length c, .slice B l.length d] 24)) w12_ := after_of_more hy (after_after a0_w11_ inferInstance)
          have l00_w12_ : Le (w.heap.size + 1) w12_ := ⟨by have := a0_w12_.below.size; simp at this; omega⟩
          have h0_w12_ := HK.out w12_ a0_w12_
          have aw_w12_ : After w w12_ := after_after inferInstance a0_w12_
          clear hy
          go_wp2_with fail
          go_roundw
          case rel => exact ⟨j + 1, by omega, by go_num, by rw [show ((j + 1 : Nat) : Int) = (j : Int) + 1 by push_cast; rfl, hst.out]; simp, a0_w12_⟩
          case measure => simp [intOf]; omega
        · go_wp2_with fail
          refine (Gives.on Gb _ (after_after aw_w11_ inferInstance)).mono ?_
          rintro e w12_ ⟨rfl, hy⟩
          have a0_w12_ : After (w.alloc (.cells #[.slice A h.length c, .slice B l.length d] 24)) w12_ := after_of_more hy (after_after a0_w11_ inferInstance)
          have l00_w12_ : Le (w.heap.size + 1) w12_ := ⟨by have := a0_w12_.below.size; simp at this; omega⟩
          have h0_w12_ := HK.out w12_ a0_w12_
          have aw_w12_ : After w w12_ := after_after inferInstance a0_w12_
          clear hy
          go_wp2_with fail
          go_roundw
          case rel => exact ⟨j + 1, by omega, by go_num, by rw [show ((j + 1 : Nat) : Int) = (j : Int) + 1 by push_cast; rfl, hst.out]; simp, a0_w12_⟩
          case measure => simp [intOf]; omega
      · obtain rfl : j = 150 := by omega
        go_wp2_with fail
        refine (Gives.on GA _ (after_after aw_wr inferInstance)).mono ?_
        rintro e w21_ ⟨rfl, hy⟩
        have a0_w21_ : After (w.alloc (.cells #[.slice A h.length c, .slice B l.length d] 24)) w21_ := after_of_more hy (after_after a0_wr inferInstance)
        have l00_w21_ : Le (w.heap.size + 1) w21_ := ⟨by have := a0_w21_.below.size; simp at this; omega⟩
        have h0_w21_ := HK.out w21_ a0_w21_
        have aw_w21_ : After w w21_ := after_after inferInstance a0_w21_
        clear hy
        go_wp2_with fail
        go_ret
        exact ⟨rfl, @After.is_more w _ (after_after aw_w21_ inferInstance)⟩

set_option maxRecDepth 100000 in
theorem lifted (os : Os) (started : os.Started) (H : Type) (enc : TypeId × Value → H) :
    ReturnsInHanded {} Try.checked os 5 .any (Rows.bwordLettersSpec.pre6 enc Try.prog Try.f5 Rows.bwordLettersRow.domain false) (Rows.bwordLettersSpec.post enc Try.prog Try.f5 false true false false) := by
  refine returnsInHanded_of_change_sized (C := Try.checked) own started (by kernel_rfl) Try.func5
    (ChangeSpec.witness6 (enc := enc) (C := Try.checked) false ⟨#[], #[.agg #[.slice none 0 0, .slice none 0 0], .int .i64 0, .int .i64 0], []⟩ 8 (by kernel_rfl) (by kernel_rfl) (by kernel_rfl) (by kernel_rfl)) ?_
  intro W base args ds gs before hval0 hW hcnd hsz0 _
  have hval : ∀ (j : Nat) t v, Try.f5.params[j]? = some t → args[j]? = some v → Value.okWide Try.prog W .any base t v := hval0
  have hsz : (DataW.weightsEach Try.prog (Try.f5.params.toList ++ Rows.bwordLettersSpec.plain.varTypes Try.prog) (ds ++ gs)).all (· ≤ reachBytes) = true := hsz0
  have hW' := hW
  obtain ⟨p, q, hA0, hV, rfl, hfz, hnd⟩ := hW
  have hA : DataW.TrodAll enc Try.prog W 0 (fun _ => true) true Try.f5.params.toList args.toList ds p := hA0
  rw [Try.params5] at hA hval hsz
  obtain ⟨v0, vs0, d0, ds0, p0, q0, hargs, rfl, rfl, h0, r0⟩ := trodAll_cons hA
  obtain ⟨v1, vs1, d1, ds1, p1, q1, rfl, rfl, rfl, h1, r1⟩ := trodAll_cons r0
  obtain ⟨v2, vs2, d2, ds2, p2, q2, rfl, rfl, rfl, h2, r2⟩ := trodAll_cons r1
  obtain ⟨rfl, rfl, rfl⟩ := trodAll_nil r2
  obtain rfl : args = #[v0, v1, v2] := by cases args; simp_all
  obtain ⟨rfl, rfl⟩ := trodVars_none hV
  have k0 := h0
  have lt0 : ∀ x ∈ p0, x.block < W.heap.size := by obtain ⟨m, hm⟩ := k0; exact DataW.trod_lt m _ _ _ hm
  have z0 : ∀ n ∈ d0.weights Try.prog 24, n ≤ reachBytes := fun n hn => by
    simpa using List.all_eq_true.1 hsz n (DataW.weights_mem_each (j := 0) (t := 24) rfl rfl n hn)
  obtain ⟨A0, c0, B0, c0', hl0, ll0, rfl, x0⟩ := open_word (e := 4) Try.underlying24 (by kernel_rfl) (by kernel_rfl) Try.underlying22 Try.underlying22 Try.underlying4 (by kernel_rfl) (by kernel_rfl) (hval 0 24 v0 rfl rfl) h0 z0
  obtain ⟨a1, rfl, rfl, rfl, w1⟩ := open_int Try.underlying3 (hval 1 3 v1 rfl rfl) h1
  obtain ⟨a2, rfl, rfl, rfl, w2⟩ := open_int Try.underlying3 (hval 2 3 v2 rfl rfl) h2
  clear hA0 hval0 hsz0 hsz
  refine (walk W x0 a1 w1 a2 w2).mono fun e W' ⟨he, y, hy⟩ => ?_
  subst he
  have bel : Below W.heap.size W W' := by rw [hy]; exact more_below W y
  exact ⟨_, rfl, _, _, _, [], _, [], hW', trodAll_mk1 (shut_bool Try.underlying4 _), (trodAll_cons_mk (Below.trod laidOut (by kernel_rfl) (of_decide_eq_true (by kernel_rfl)) k0 bel lt0) (trodAll_cons_mk (shut_int Try.underlying3 w1) (trodAll_cons_mk (shut_int Try.underlying3 w2) trodAll_mk0))), rfl, bel.frame _, fun h => by cases h⟩

theorem over : Rows.bwordLettersRow.holds Try.pinned (OpenSpec.ofChange Rows.bwordLettersSpec) :=
  OpenClaim.holds_of_wide 5 Try.f5 rfl rfl rfl rfl rfl rfl rfl ⟨rfl, rfl, rfl, rfl, rfl⟩ rfl rfl rfl rfl rfl (by kernel_rfl) Try.func5 (by kernel_rfl)
    (of_decide_eq_true (by kernel_rfl)) (by unfold Func.isWrapper; first | (rw [if_pos (by decide +kernel)]; kernel_rfl) | (rw [if_neg (by decide +kernel)]; exact ⟨rfl, rfl⟩))
    (fun os started H enc _ => lifted os started H enc)

theorem proved : Rows.BwordLettersSaid := over
#print axioms proved
end Go.Proofs.Ytjbpelkdciphnaa.bwordLetters
