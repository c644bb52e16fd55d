/-
  The normal form is the chapter's, keeps the letters, is not longer, and is its own normal form: for any word. No conditions.
-/
import Derived.Test.YtjbpelkdciphnaaAwake2
import Derived.Test.YtjbpelkdciphnaaGives
import Derived.Test.YtjbpelkdciphnaaLift
import Derived.Test.YtjbpelkdciphnaaAlike
namespace Go.Proofs.Ytjbpelkdciphnaa.bwordNorms
open Go.ChangeShapes Go.WideShapes Go.ChangeAt Go.RowKit Go.BigFrame
set_option linter.unusedVariables false

theorem own : ownKnob Try.prog.godebug = none := by kernel_rfl
theorem laidOut : laidOutB Try.prog = true := by kernel_rfl

section
variable {w0 : World} {A : Option Addr} {c : Nat} {B : Option Addr} {d : Nat} {h l : List Bool} {A' : Option Addr} {c' : Nat} {B' : Option Addr} {d' : Nat} {h' l' : List Bool}
theorem huge_v (x : RW w0 A c B d h l) {v : Bool} (e : hugeB h l = v) : Gives w0 12 #[.agg #[.slice A h.length c, .slice B l.length d]] (.bool v) := fun U _ => e ▸ huge_any x U
theorem awake_v (w : World) : Gives w 13 #[] (.bool true) := fun U _ => awake_any U
theorem check_v (x : RW w0 A c B d h l) {v : Int} (e : checkI h l = v) : Gives w0 19 #[.agg #[.slice A h.length c, .slice B l.length d]] (.int .i64 v) := fun U _ => e ▸ check_any x U
theorem rcheck_v (x : RW w0 A c B d h l) {v : Int} (e : checkI h l = v) : Gives w0 21 #[.agg #[.slice A h.length c, .slice B l.length d]] (.int .i64 v) := fun U _ => e ▸ rcheck_any x U
theorem at_v (x : RW w0 A c B d h l) {i : Int} (hi : i ≤ 9223372036854775807) {v : Bool} (e : atB h l i = v) : Gives w0 22 #[.agg #[.slice A h.length c, .slice B l.length d], .int .i64 i] (.bool v) := fun U _ => e ▸ at_any x U i hi
theorem rat_v (x : RW w0 A c B d h l) {i : Int} (hi : i ≤ 9223372036854775807) {v : Bool} (e : atB h l i = v) : Gives w0 23 #[.agg #[.slice A h.length c, .slice B l.length d], .int .i64 i] (.bool v) := fun U _ => e ▸ rat_any x U i hi
theorem ones_v (x : RW w0 A c B d h l) {i : Int} (hi : i ≤ 9223372036854775807) {v : Int} (e : onesI h l i = v) : Gives w0 17 #[.agg #[.slice A h.length c, .slice B l.length d], .int .i64 i] (.int .i64 v) := fun U _ => e ▸ ones_all x U i hi
theorem rones_v (x : RW w0 A c B d h l) {i : Int} (hi : i ≤ 9223372036854775807) {v : Int} (e : onesI h l i = v) : Gives w0 24 #[.agg #[.slice A h.length c, .slice B l.length d], .int .i64 i] (.int .i64 v) := fun U _ => e ▸ rones_all x U i hi
theorem equal_v (x : RW w0 A c B d h l) (x' : RW w0 A' c' B' d' h' l') {v : Bool} (e : (h == h' && l == l') = v) : Gives w0 16 #[.agg #[.slice A h.length c, .slice B l.length d], .agg #[.slice A' h'.length c', .slice B' l'.length d']] (.bool v) := fun U _ => e ▸ requal_any x x' U
theorem on_v (x : RW w0 A c B d h l) (x' : RW w0 A' c' B' d' h' l') {H L : List Bool} {v : Int} (e : onW h l h' l' = ((H, L), v)) : GivesW w0 14 #[.agg #[.slice A h.length c, .slice B l.length d], .agg #[.slice A' h'.length c', .slice B' l'.length d']] H L (fun a => .tuple #[a, .int .i64 v]) := fun U _ => by have := on_any x x' U; rwa [e] at this
theorem norm_v (x : RW w0 A c B d h l) {H L : List Bool} (e : normW h l = (H, L)) : GivesW w0 20 #[.agg #[.slice A h.length c, .slice B l.length d]] H L (fun a => a) := fun U _ => by have := norm_any x U; rwa [e] at this
theorem rnorm_v (x : RW w0 A c B d h l) {H L : List Bool} (e : normW h l = (H, L)) : GivesW w0 25 #[.agg #[.slice A h.length c, .slice B l.length d]] H L (fun a => a) := fun U _ => by have := rnorm_any x U; rwa [e] at this
theorem i64_le {k : Int} (h : (Lit.int .i64 k).wf = true) : -9223372036854775808 ≤ k ∧ k ≤ 9223372036854775807 := by
  simpa [Lit.wf, IntKind.min, IntKind.max, IntKind.signed, IntKind.bits] using h
theorem onesI_step (h l : List Bool) (k : Nat) : onesI h l ((k : Int) + 1) = onesI h l k + (if atB h l k then 1 else 0) := by
  by_cases hv : Valid h l
  · have := W.ones_succ h l k hv.1
    have e : ((k : Int) + 1) = ((k + 1 : Nat) : Int) := by push_cast; rfl
    rw [e, onesI_ok hv, onesI_ok hv, atB_ok hv (by omega), letterB_nat, this]
    cases W.letter h l k <;> simp
  · rw [onesI_bad hv, onesI_bad hv, atB_bad hv]; simp
theorem onesI_bd2 (h l : List Bool) (k : Nat) : 0 ≤ onesI h l k ∧ onesI h l k ≤ k := by
  by_cases hv : Valid h l
  · rw [onesI_ok hv]; have := W.ones_le h l k hv.1; omega
  · rw [onesI_bad hv]; omega
end
theorem alike_v {w0 : World} {A c B d} {h l : List Bool} {A' c' B' d'} {h' l' : List Bool} (x : RW w0 A c B d h l) (x' : RW w0 A' c' B' d' h' l') {n : Nat} (hn : n ≤ 100000) {m : Int} (hm : m = n) {v : Bool} (e : alikeB h l h' l' n = v) : Gives w0 26 #[.agg #[.slice A h.length c, .slice B l.length d], .agg #[.slice A' h'.length c', .slice B' l'.length d'], .int .i64 m] (.bool v) := fun U _ => by subst hm e; exact alike_any x x' U n hn
theorem norm_facts (h l : List Bool) : normW (normW h l).1 (normW h l).2 = normW h l ∧ (normW h l).2.length ≤ l.length ∧ ∀ i : Int, atB (normW h l).1 (normW h l).2 i = atB h l i := by
  by_cases hv : Valid h l
  · rw [normW_ok hv]
    have a := W.nf_le hv.1 (W.letter_per h l)
    have hV : Valid (W.nf (W.letter h l)).1 (W.nf (W.letter h l)).2 := ⟨a.2.2, by have := hv.2; omega⟩
    refine ⟨by rw [normW_ok hV, W.nf_idem hv.1 (W.letter_per h l)], a.1, fun i => ?_⟩
    by_cases hi : i < 0
    · rw [atB_neg hi, atB_neg hi]
    · rw [atB_ok hV (by omega), atB_ok hv (by omega)]; exact W.nf_letter hv.1 (W.letter_per h l) _
  · have hn : ¬ Valid [] [] := fun h => by have := h.1; simp at this
    rw [normW_bad hv]
    exact ⟨normW_bad hn, by simp, fun i => by rw [atB_bad hv, atB_bad hn]⟩
set_option maxRecDepth 100000 in
set_option maxHeartbeats 3200000 in
theorem walk {A B c d h l} (w : World) (x : RW w A c B d h l) :
    Calls Try.prog 6 #[.agg #[.slice A h.length c, .slice B l.length d]] w fun e w' => e = .returned (.bool true) ∧ ∃ y, w' = w.more y := by
  have HK : Hid (∀ U : World, After (w.alloc (.cells #[.slice A h.length c, .slice B l.length d] 24)) U → U.cell? ⟨w.heap.size, 0, none⟩ = some (.slice A h.length c) ∧ U.cell? ⟨w.heap.size, 1, none⟩ = some (.slice B l.length d)) := fun U k => by
    have := (Blk.new w 24 #[.slice A h.length c, .slice B l.length d]).after (w' := U)
    exact ⟨by rw [this.cell]; rfl, by rw [this.cell]; rfl⟩
  have GA := awake_v w
  cases h1 : hugeB h l with
  | true =>
    have G1 := huge_v x h1
    clear h1
    go_enter Try.func6, Try.ntmps6
    go_wp2_with fail
    refine (Gives.on G1 _ inferInstance).mono ?_
    rintro e w1_ ⟨rfl, hy⟩
    have a0_w1_ : After (w.alloc (.cells #[.slice A h.length c, .slice B l.length d] 24)) w1_ := after_of_more hy inferInstance
    have l00_w1_ : Le (w.heap.size + 1) w1_ := ⟨by have := a0_w1_.below.size; simp at this; omega⟩
    have h0_w1_ := HK.out w1_ a0_w1_
    have aw_w1_ : After w w1_ := after_after inferInstance a0_w1_
    clear hy
    go_wp2_with fail
    refine (Gives.on GA _ (after_after aw_w1_ inferInstance)).mono ?_
    rintro e w2_ ⟨rfl, hy⟩
    have a0_w2_ : After (w.alloc (.cells #[.slice A h.length c, .slice B l.length d] 24)) w2_ := after_of_more hy (after_after a0_w1_ inferInstance)
    have l00_w2_ : Le (w.heap.size + 1) w2_ := ⟨by have := a0_w2_.below.size; simp at this; omega⟩
    have h0_w2_ := HK.out w2_ a0_w2_
    have aw_w2_ : After w w2_ := after_after inferInstance a0_w2_
    clear hy
    go_wp2_with fail
    go_ret
    exact ⟨rfl, @After.is_more w _ (after_after aw_w2_ inferInstance)⟩
  | false =>
    have G1 := huge_v x h1
    clear h1
    obtain ⟨f1, f2, f3⟩ := norm_facts h l
    obtain ⟨H, L, eN⟩ : ∃ H L, normW h l = (H, L) := ⟨_, _, rfl⟩
    rw [eN] at f1 f2 f3
    have G3 := norm_v x eN
    have G4 := rnorm_v x eN
    have HA : Hid (alikeB H L h l 200 = true) := alikeB_yes fun k hk => f3 k
    replace f1 := Lib.hid f1
    have f2' : (L.length : Int) ≤ (l.length : Int) := by have h9 : L.length ≤ l.length := f2; omega
    clear f2 f3 eN
    go_enter Try.func6, Try.ntmps6
    go_wp2_with fail
    refine (Gives.on G1 _ inferInstance).mono ?_
    rintro e w1_ ⟨rfl, hy⟩
    have a0_w1_ : After (w.alloc (.cells #[.slice A h.length c, .slice B l.length d] 24)) w1_ := after_of_more hy inferInstance
    have l00_w1_ : Le (w.heap.size + 1) w1_ := ⟨by have := a0_w1_.below.size; simp at this; omega⟩
    have h0_w1_ := HK.out w1_ a0_w1_
    have aw_w1_ : After w w1_ := after_after inferInstance a0_w1_
    clear hy
    go_wp2_with fail
    refine (GivesW.on G3 _ (after_after aw_w1_ inferInstance)).mono ?_
    rintro e w2_ ⟨A3, c3, B3, d3, rfl, x3, hy⟩
    have a0_w2_ : After (w.alloc (.cells #[.slice A h.length c, .slice B l.length d] 24)) w2_ := after_of_more hy (after_after a0_w1_ inferInstance)
    have l00_w2_ : Le (w.heap.size + 1) w2_ := ⟨by have := a0_w2_.below.size; simp at this; omega⟩
    have h0_w2_ := HK.out w2_ a0_w2_
    have aw_w2_ : After w w2_ := after_after inferInstance a0_w2_
    clear hy
    have X3 := Lib.hid x3
    clear x3
    go_wp2_with fail
    obtain ⟨g3, hg_⟩ : ∃ g, w2_.heap.size = g := ⟨_, rfl⟩
    obtain ⟨w3_, hU_, b3, HK3, Lq3⟩ : ∃ U, w2_.alloc (.cells #[.slice A3 H.length c3, .slice B3 L.length d3] 24) = U ∧ After w2_ U ∧ Hid (∀ V, After U V → V.cell? ⟨g3, 0, none⟩ = some (.slice A3 H.length c3) ∧ V.cell? ⟨g3, 1, none⟩ = some (.slice B3 L.length d3)) ∧ Le (g3 + 1) U := by
      refine ⟨_, rfl, inferInstance, fun V k_ => ?_, ⟨by rw [← hg_]; simp⟩⟩
      have f_ := (Blk.new w2_ 24 #[.slice A3 H.length c3, .slice B3 L.length d3]).after (w' := V)
      rw [hg_] at f_
      exact ⟨by rw [f_.cell]; rfl, by rw [f_.cell]; rfl⟩
    rw [hU_, hg_]
    clear hU_ hg_
    have a0_w3_ : After (w.alloc (.cells #[.slice A h.length c, .slice B l.length d] 24)) w3_ := after_after a0_w2_ b3
    have l00_w3_ : Le (w.heap.size + 1) w3_ := ⟨by have := a0_w3_.below.size; simp at this; omega⟩
    have h0_w3_ := HK.out w3_ a0_w3_
    have aw_w3_ : After w w3_ := after_after inferInstance a0_w3_
    have a3_w3_ : After w3_ w3_ := inferInstance
    have h3_w3_ := HK3.out w3_ a3_w3_
    replace X3 := Lib.hid (X3.out.here w3_)
    have S_ := h3_w3_
    have GN2 := norm_v X3.out f1.out
    go_region_held3 (fun V => (V.cell? ⟨w.heap.size, 0, none⟩ = some (.slice A h.length c) ∧ V.cell? ⟨w.heap.size, 1, none⟩ = some (.slice B l.length d)) ∧ V.cell? ⟨g3, 0, none⟩ = some (.slice A3 H.length c3) ∧ V.cell? ⟨g3, 1, none⟩ = some (.slice B3 L.length d3)) (exact ⟨HK.out _ inferInstance, HK3.out _ inferInstance⟩)
      (first
        | (go_at_call 25; (with_reducible refine (GivesW.on G4 _ (after_after aw_w3_ inferInstance)).mono ?_); rintro e v1 ⟨A7, c7, B7, d7, rfl, x7, hy⟩; have u0_1 : After (w.alloc (.cells #[.slice A h.length c, .slice B l.length d] 24)) v1 := after_of_more hy (after_after a0_w3_ inferInstance); have u3_1 : After w3_ v1 := after_of_more hy inferInstance; have E1 := equal_v (X3.out.here v1) x7 (v := true) (by simp); clear hy)
        | (go_at_call 16; (with_reducible refine (Gives.on E1 _ inferInstance).mono ?_); rintro e v2 ⟨rfl, hy⟩; have u0_2 : After (w.alloc (.cells #[.slice A h.length c, .slice B l.length d] 24)) v2 := after_of_more hy (after_after u0_1 inferInstance); have u3_2 : After w3_ v2 := after_of_more hy (after_after u3_1 inferInstance); clear hy)
        | (go_at_call 20; (with_reducible refine (GivesW.on GN2 _ inferInstance).mono ?_); rintro e v3 ⟨A8, c8, B8, d8, rfl, x8, hy⟩; have u0_3 : After (w.alloc (.cells #[.slice A h.length c, .slice B l.length d] 24)) v3 := after_of_more hy (after_after u0_2 inferInstance); have u3_3 : After w3_ v3 := after_of_more hy (after_after u3_2 inferInstance); have E2 := equal_v x8 (X3.out.here v3) (v := true) (by simp); clear hy)
        | (go_at_call 16; (with_reducible refine (Gives.on E2 _ inferInstance).mono ?_); rintro e v4 ⟨rfl, hy⟩; have u0_4 : After (w.alloc (.cells #[.slice A h.length c, .slice B l.length d] 24)) v4 := after_of_more hy (after_after u0_3 inferInstance); have u3_4 : After w3_ v4 := after_of_more hy (after_after u3_3 inferInstance); clear hy))
    have a0_v4 := u0_4
    have a3_v4 := u3_4
    have aw_v4 : After w v4 := after_after inferInstance u0_4
    have l0_v4 : Le (w.heap.size + 1) v4 := ⟨by have := u0_4.below.size; simp at this; omega⟩
    have l3_v4 : Le (g3 + 1) v4 := ⟨Nat.le_trans Lq3.le u3_4.below.size⟩
    have h0_v4 := HK.out v4 u0_4
    have h3_v4 := HK3.out v4 u3_4
    have G9 := alike_v X3.out (x.here w3_) (n := 200) (by decide) (m := 200) (by decide) HA.out
    go_wp2_with fail
    refine (Gives.on G9 _ (after_after a3_v4 inferInstance)).mono ?_
    rintro e w4_ ⟨rfl, hy⟩
    have a0_w4_ : After (w.alloc (.cells #[.slice A h.length c, .slice B l.length d] 24)) w4_ := after_of_more hy (after_after a0_v4 inferInstance)
    have l00_w4_ : Le (w.heap.size + 1) w4_ := ⟨by have := a0_w4_.below.size; simp at this; omega⟩
    have h0_w4_ := HK.out w4_ a0_w4_
    have a3_w4_ : After w3_ w4_ := after_of_more hy (after_after a3_v4 inferInstance)
    have l30_w4_ : Le (g3 + 1) w4_ := ⟨Nat.le_trans Lq3.le a3_w4_.below.size⟩
    have h3_w4_ := HK3.out w4_ a3_w4_
    have aw_w4_ : After w w4_ := after_after inferInstance a0_w4_
    clear hy
    go_wp2_with fail
    refine (Gives.on GA _ (after_after aw_w4_ inferInstance)).mono ?_
    rintro e w5_ ⟨rfl, hy⟩
    have a0_w5_ : After (w.alloc (.cells #[.slice A h.length c, .slice B l.length d] 24)) w5_ := after_of_more hy (after_after a0_w4_ inferInstance)
    have l00_w5_ : Le (w.heap.size + 1) w5_ := ⟨by have := a0_w5_.below.size; simp at this; omega⟩
    have h0_w5_ := HK.out w5_ a0_w5_
    have a3_w5_ : After w3_ w5_ := after_of_more hy (after_after a3_w4_ inferInstance)
    have l30_w5_ : Le (g3 + 1) w5_ := ⟨Nat.le_trans Lq3.le a3_w5_.below.size⟩
    have h3_w5_ := HK3.out w5_ a3_w5_
    have aw_w5_ : After w w5_ := after_after inferInstance a0_w5_
    clear hy
    go_wp2_with fail
    go_ret
    exact ⟨rfl, @After.is_more w _ (after_after aw_w5_ inferInstance)⟩

set_option maxRecDepth 100000 in
theorem lifted (os : Os) (started : os.Started) (H : Type) (enc : TypeId × Value → H) :
    ReturnsInHanded {} Try.checked os 6 .any (Rows.bwordNormsSpec.pre6 enc Try.prog Try.f6 Rows.bwordNormsRow.domain false) (Rows.bwordNormsSpec.post enc Try.prog Try.f6 false true false false) := by
  refine returnsInHanded_of_change_sized (C := Try.checked) own started (by kernel_rfl) Try.func6
    (ChangeSpec.witness6 (enc := enc) (C := Try.checked) false ⟨#[], #[.agg #[.slice none 0 0, .slice none 0 0]], []⟩ 8 (by kernel_rfl) (by kernel_rfl) (by kernel_rfl) (by kernel_rfl)) ?_
  intro W base args ds gs before hval0 hW hcnd hsz0 _
  have hval : ∀ (j : Nat) t v, Try.f6.params[j]? = some t → args[j]? = some v → Value.okWide Try.prog W .any base t v := hval0
  have hsz : (DataW.weightsEach Try.prog (Try.f6.params.toList ++ Rows.bwordNormsSpec.plain.varTypes Try.prog) (ds ++ gs)).all (· ≤ reachBytes) = true := hsz0
  have hW' := hW
  obtain ⟨p, q, hA0, hV, rfl, hfz, hnd⟩ := hW
  have hA : DataW.TrodAll enc Try.prog W 0 (fun _ => true) true Try.f6.params.toList args.toList ds p := hA0
  rw [Try.params6] at hA hval hsz
  obtain ⟨v0, vs0, d0, ds0, p0, q0, hargs, rfl, rfl, h0, r0⟩ := trodAll_cons hA
  obtain ⟨rfl, rfl, rfl⟩ := trodAll_nil r0
  obtain rfl : args = #[v0] := by cases args; simp_all
  obtain ⟨rfl, rfl⟩ := trodVars_none hV
  have k0 := h0
  have lt0 : ∀ x ∈ p0, x.block < W.heap.size := by obtain ⟨m, hm⟩ := k0; exact DataW.trod_lt m _ _ _ hm
  have z0 : ∀ n ∈ d0.weights Try.prog 24, n ≤ reachBytes := fun n hn => by
    simpa using List.all_eq_true.1 hsz n (DataW.weights_mem_each (j := 0) (t := 24) rfl rfl n hn)
  obtain ⟨A0, c0, B0, c0', hl0, ll0, rfl, x0⟩ := open_word (e := 4) Try.underlying24 (by kernel_rfl) (by kernel_rfl) Try.underlying22 Try.underlying22 Try.underlying4 (by kernel_rfl) (by kernel_rfl) (hval 0 24 v0 rfl rfl) h0 z0
  clear hA0 hval0 hsz0 hsz
  refine (walk W x0).mono fun e W' ⟨he, y, hy⟩ => ?_
  subst he
  have bel : Below W.heap.size W W' := by rw [hy]; exact more_below W y
  exact ⟨_, rfl, _, _, _, [], _, [], hW', trodAll_mk1 (shut_bool Try.underlying4 _), (trodAll_cons_mk (Below.trod laidOut (by kernel_rfl) (of_decide_eq_true (by kernel_rfl)) k0 bel lt0) trodAll_mk0), rfl, bel.frame _, fun h => by cases h⟩

theorem over : Rows.bwordNormsRow.holds Try.pinned (OpenSpec.ofChange Rows.bwordNormsSpec) :=
  OpenClaim.holds_of_wide 6 Try.f6 rfl rfl rfl rfl rfl rfl rfl ⟨rfl, rfl, rfl, rfl, rfl⟩ rfl rfl rfl rfl rfl (by kernel_rfl) Try.func6 (by kernel_rfl)
    (of_decide_eq_true (by kernel_rfl)) (by unfold Func.isWrapper; first | (rw [if_pos (by decide +kernel)]; kernel_rfl) | (rw [if_neg (by decide +kernel)]; exact ⟨rfl, rfl⟩))
    (fun os started H enc _ => lifted os started H enc)

theorem proved : Rows.BwordNormsSaid := over
#print axioms proved
end Go.Proofs.Ytjbpelkdciphnaa.bwordNorms
