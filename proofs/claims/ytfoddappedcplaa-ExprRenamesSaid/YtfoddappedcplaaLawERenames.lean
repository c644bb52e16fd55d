/-
  Rename replaces the names of variables as the chapter says, keeps size and depth, and renaming to a new name and back changes nothing; for every expression and any two names (of at most 500 expressions and 50 bytes, as the law says). No conditions.
-/
import Derived.Test.YtfoddappedcplaaELives
import Derived.Test.YtfoddappedcplaaELift
import Derived.Test.YtfoddappedcplaaERenF
import Derived.ChangeMaps5
namespace Go.Proofs.Ytfoddappedcplaa.exprRenames
open Go.ChangeShapes Go.WideShapes Go.ChangeAt Go.RowKit Go.BigFrame
set_option linter.unusedVariables false
set_option linter.unusedSimpArgs false

theorem own : ownKnob Try.prog.godebug = none := by kernel_rfl
theorem laidOut : laidOutB Try.prog = true := by kernel_rfl

open Go.ChangeMaps
set_option maxRecDepth 100000 in
set_option maxHeartbeats 6400000 in
theorem walk {k o t v : Int} {s : ByteArray} {A : Option Addr} {c : Nat} {xs : List Tx} (w : World) (x : RX w (.mk k o t v s A c xs)) (fr : ByteArray) (hfr : fr.size ≤ 140737488355328) (tw : ByteArray) (htw : tw.size ≤ 140737488355328) :
    Calls Try.prog 8 #[.agg #[.int .i64 k, .int .i64 o, .int .i64 t, .int .i64 v, .string s, .slice A xs.length c], .string fr, .string tw] w fun e w' => e = .returned (.bool true) ∧ ∃ y, w' = w.more y := by
  replace x := Lib.hid x
  have GL : Gives w 11 #[] (.bool true) := fun U hU => (lives_any U).mono fun e w' h => ⟨h.1, @After.is_more _ _ h.2⟩
  have HK : Hid (∀ U : World, After (w.alloc (.cells #[.int .i64 k, .int .i64 o, .int .i64 t, .int .i64 v, .string s, .slice A xs.length c] 24)) U → After w U ∧ Le (w.heap.size + 1) U ∧ U.cell? ⟨w.heap.size, 0, none⟩ = some (.int .i64 k) ∧ U.cell? ⟨w.heap.size, 1, none⟩ = some (.int .i64 o) ∧ U.cell? ⟨w.heap.size, 2, none⟩ = some (.int .i64 t) ∧ U.cell? ⟨w.heap.size, 3, none⟩ = some (.int .i64 v) ∧ U.cell? ⟨w.heap.size, 4, none⟩ = some (.string s) ∧ U.cell? ⟨w.heap.size, 5, none⟩ = some (.slice A xs.length c)) := Lib.hid fun U hU => by
    have f_ := (Blk.new w 24 #[.int .i64 k, .int .i64 o, .int .i64 t, .int .i64 v, .string s, .slice A xs.length c]).after (w' := U)
    exact ⟨after_after inferInstance hU, f_.is_le, (f_.cell 0).trans rfl, (f_.cell 1).trans rfl, (f_.cell 2).trans rfl, (f_.cell 3).trans rfl, (f_.cell 4).trans rfl, (f_.cell 5).trans rfl⟩
  cases hv : heavyB (Tx.mk k o t v s A c xs) with
  | true =>
    have GH : Gives w 10 #[.agg #[.int .i64 k, .int .i64 o, .int .i64 t, .int .i64 v, .string s, .slice A xs.length c]] (.bool true) := fun U hU => (hv ▸ heavy_any x.out U hU).mono fun e w' h => ⟨h.1, @After.is_more _ _ h.2⟩
    go_enter Try.func8, Try.ntmps8
    go_wp2_with fail
    refine (Gives.on GH _ inferInstance).mono ?_
    rintro e w1 ⟨rfl, hy⟩
    have a1 : After (w.alloc (.cells #[.int .i64 k, .int .i64 o, .int .i64 t, .int .i64 v, .string s, .slice A xs.length c] 24)) w1 := after_of_more hy inferInstance
    obtain ⟨aw_w1, le_w1, h0_w1, h1_w1, h2_w1, h3_w1, h4_w1, h5_w1⟩ := HK.out w1 a1
    clear hy
    go_wp2_with fail
    refine (Gives.on GL _ inferInstance).mono ?_
    rintro e w2 ⟨rfl, hy2⟩
    have a2 : After w w2 := after_of_more hy2 inferInstance
    go_wp2_with fail
    go_ret
    exact ⟨rfl, After.is_more _ _⟩
  | false =>
    have hs : (Tx.mk k o t v s A c xs).size ≤ 500 := by unfold heavyB at hv; simpa using hv
    have GH : Gives w 10 #[.agg #[.int .i64 k, .int .i64 o, .int .i64 t, .int .i64 v, .string s, .slice A xs.length c]] (.bool false) := fun U hU => (hv ▸ heavy_any x.out U hU).mono fun e w' h => ⟨h.1, @After.is_more _ _ h.2⟩
    clear hv
    by_cases hf50 : 50 < fr.size
    · have hfI : (50 : Int) < (fr.size : Int) := by omega
      go_enter Try.func8, Try.ntmps8
      go_wp2_with fail
      refine (Gives.on GH _ inferInstance).mono ?_
      rintro e w1 ⟨rfl, hy⟩
      have a1 : After (w.alloc (.cells #[.int .i64 k, .int .i64 o, .int .i64 t, .int .i64 v, .string s, .slice A xs.length c] 24)) w1 := after_of_more hy inferInstance
      obtain ⟨aw_w1, le_w1, h0_w1, h1_w1, h2_w1, h3_w1, h4_w1, h5_w1⟩ := HK.out w1 a1
      clear hy
      go_wp2_with fail
      refine (Gives.on GL _ inferInstance).mono ?_
      rintro e w2 ⟨rfl, hy2⟩
      have a2 : After w w2 := after_of_more hy2 inferInstance
      go_wp2_with fail
      go_ret
      exact ⟨rfl, After.is_more _ _⟩
    have hfI : ¬ (50 : Int) < (fr.size : Int) := by omega
    by_cases ht50 : 50 < tw.size
    · have htI : (50 : Int) < (tw.size : Int) := by omega
      go_enter Try.func8, Try.ntmps8
      go_wp2_with fail
      refine (Gives.on GH _ inferInstance).mono ?_
      rintro e w1 ⟨rfl, hy⟩
      have a1 : After (w.alloc (.cells #[.int .i64 k, .int .i64 o, .int .i64 t, .int .i64 v, .string s, .slice A xs.length c] 24)) w1 := after_of_more hy inferInstance
      obtain ⟨aw_w1, le_w1, h0_w1, h1_w1, h2_w1, h3_w1, h4_w1, h5_w1⟩ := HK.out w1 a1
      clear hy
      go_wp2_with fail
      refine (Gives.on GL _ inferInstance).mono ?_
      rintro e w2 ⟨rfl, hy2⟩
      have a2 : After w w2 := after_of_more hy2 inferInstance
      go_wp2_with fail
      go_ret
      exact ⟨rfl, After.is_more _ _⟩
    have htI : ¬ (50 : Int) < (tw.size : Int) := by omega
    have HR1 : Hid (∀ U : World, After w U → Calls Try.prog 34 #[.agg #[.int .i64 k, .int .i64 o, .int .i64 t, .int .i64 v, .string s, .slice A xs.length c], .string fr, .string tw] U fun e w' => RenP fr tw k o t v s xs U e w') := Lib.hid fun U hU => ren_any fr tw htw (by omega) x.out U hU
    have HR2 : Hid (∀ U : World, After w U → Calls Try.prog 35 #[.agg #[.int .i64 k, .int .i64 o, .int .i64 t, .int .i64 v, .string s, .slice A xs.length c], .string fr, .string tw] U fun e w' => RenP fr tw k o t v s xs U e w') := Lib.hid fun U hU => rren_any fr tw htw (by omega) x.out U hU
    have HNm : Hid (∀ U : World, After w U → Calls Try.prog 26 #[.agg #[.int .i64 k, .int .i64 o, .int .i64 t, .int .i64 v, .string s, .slice A xs.length c]] U fun e w' => ∃ A' c', e = .returned (.slice A' (Tx.nms false (Tx.mk k o t v s A c xs) []).length c') ∧ RSt w' A' c' (Tx.nms false (Tx.mk k o t v s A c xs) []) ∧ After U w') := Lib.hid fun U hU => rNames_any (by omega) x.out U hU
    have HBK : Hid (hasB (Tx.nms false (Tx.mk k o t v s A c xs) []) tw = false → Ex.ren tw fr (Ex.ren fr tw (Tx.mk k o t v s A c xs).er) = (Tx.mk k o t v s A c xs).er) := Lib.hid fun h => back_of_has h
    obtain ⟨ln, hln⟩ : ∃ l, Tx.nms false (Tx.mk k o t v s A c xs) [] = l := ⟨_, rfl⟩
    rw [hln] at HNm HBK
    clear hln
    obtain ⟨z1, hz1⟩ : ∃ z, (Tx.mk k o t v s A c xs).size = z := ⟨_, rfl⟩
    obtain ⟨z2, hz2⟩ : ∃ z, (Tx.mk k o t v s A c xs).depth = z := ⟨_, rfl⟩
    have G1 : Gives w 14 #[.agg #[.int .i64 k, .int .i64 o, .int .i64 t, .int .i64 v, .string s, .slice A xs.length c]] (.int .i64 (z1 : Nat)) := fun U hU => (hz1 ▸ size_any (by omega) x.out U hU).mono fun e w' h => ⟨h.1, @After.is_more _ _ h.2⟩
    have G2 : Gives w 16 #[.agg #[.int .i64 k, .int .i64 o, .int .i64 t, .int .i64 v, .string s, .slice A xs.length c]] (.int .i64 (z2 : Nat)) := fun U hU => (hz2 ▸ depth_any (by omega) x.out U hU).mono fun e w' h => ⟨h.1, @After.is_more _ _ h.2⟩
    replace hz1 := Lib.hid hz1
    replace hz2 := Lib.hid hz2
    go_enter Try.func8, Try.ntmps8
    go_wp2_with fail
    refine (Gives.on GH _ inferInstance).mono ?_
    rintro e w1 ⟨rfl, hy⟩
    have a1 : After (w.alloc (.cells #[.int .i64 k, .int .i64 o, .int .i64 t, .int .i64 v, .string s, .slice A xs.length c] 24)) w1 := after_of_more hy inferInstance
    obtain ⟨aw_w1, le_w1, h0_w1, h1_w1, h2_w1, h3_w1, h4_w1, h5_w1⟩ := HK.out w1 a1
    clear hy
    go_wp2_with fail
    refine (HR1.out _ (after_after aw_w1 inferInstance)).mono ?_
    rintro e w2 ⟨A1, c1, xs1, rfl, HE1, HX1, HF1, k2⟩
    clear HF1
    obtain ⟨s1, hs1⟩ : ∃ s1, renN fr tw k s = s1 := ⟨_, rfl⟩
    rw [hs1] at HX1 ⊢
    have HER : Hid ((Tx.mk k o t v s1 A1 c1 xs1).er = Ex.ren fr tw (Tx.mk k o t v s A c xs).er) := Lib.hid (by rw [Tx.er, Tx.er, Ex.ren, hs1, HE1])
    clear hs1 HE1
    replace HX1 := Lib.hid HX1
    have a2 : After (w.alloc (.cells #[.int .i64 k, .int .i64 o, .int .i64 t, .int .i64 v, .string s, .slice A xs.length c] 24)) w2 := after_after a1 k2
    obtain ⟨aw_w2, le_w2, h0_w2, h1_w2, h2_w2, h3_w2, h4_w2, h5_w2⟩ := HK.out w2 a2
    clear k2
    go_wp2_with fail
    obtain ⟨g, hg⟩ : ∃ g, w2.heap.size = g := ⟨_, rfl⟩
    obtain ⟨V, hV, aV, BV⟩ : ∃ V, w2.alloc (.cells #[.int .i64 k, .int .i64 o, .int .i64 t, .int .i64 v, .string s1, .slice A1 xs1.length c1] 24) = V ∧ After w2 V ∧ Hid (Blk V g 24 #[.int .i64 k, .int .i64 o, .int .i64 t, .int .i64 v, .string s1, .slice A1 xs1.length c1]) := ⟨_, rfl, inferInstance, Lib.hid (by rw [← hg]; exact Blk.new _ _ _)⟩
    rw [hV, hg]
    clear hV hg
    have a2V := after_after a2 aV
    have awV : After w V := after_after aw_w2 aV
    have HK2 : Hid (∀ U : World, After V U → After w U ∧ Le (w.heap.size + 1) U ∧ Le (g + 1) U ∧ U.cell? ⟨w.heap.size, 0, none⟩ = some (.int .i64 k) ∧ U.cell? ⟨w.heap.size, 1, none⟩ = some (.int .i64 o) ∧ U.cell? ⟨w.heap.size, 2, none⟩ = some (.int .i64 t) ∧ U.cell? ⟨w.heap.size, 3, none⟩ = some (.int .i64 v) ∧ U.cell? ⟨w.heap.size, 4, none⟩ = some (.string s) ∧ U.cell? ⟨w.heap.size, 5, none⟩ = some (.slice A xs.length c) ∧ U.cell? ⟨g, 0, none⟩ = some (.int .i64 k) ∧ U.cell? ⟨g, 1, none⟩ = some (.int .i64 o) ∧ U.cell? ⟨g, 2, none⟩ = some (.int .i64 t) ∧ U.cell? ⟨g, 3, none⟩ = some (.int .i64 v) ∧ U.cell? ⟨g, 4, none⟩ = some (.string s1) ∧ U.cell? ⟨g, 5, none⟩ = some (.slice A1 xs1.length c1)) := Lib.hid fun U hU => by
      obtain ⟨q1, q2, q3⟩ := HK.out U (after_after a2V hU)
      have f_ := BV.out.after (k := hU)
      exact ⟨q1, q2, f_.is_le, q3.1, q3.2.1, q3.2.2.1, q3.2.2.2.1, q3.2.2.2.2.1, q3.2.2.2.2.2, (f_.cell 0).trans rfl, (f_.cell 1).trans rfl, (f_.cell 2).trans rfl, (f_.cell 3).trans rfl, (f_.cell 4).trans rfl, (f_.cell 5).trans rfl⟩
    have HXV := Lib.hid (HX1.out.here V)
    have hsz : (Tx.mk k o t v s1 A1 c1 xs1).size ≤ 500 := by rw [ren_size fr tw _ _ HER.out]; exact hs
    have G3 : Gives V 14 #[.agg #[.int .i64 k, .int .i64 o, .int .i64 t, .int .i64 v, .string s1, .slice A1 xs1.length c1]] (.int .i64 (z1 : Nat)) := fun U hU => by
      have h := size_any (by omega) HXV.out U hU
      rw [ren_size fr tw _ _ HER.out, hz1.out] at h
      exact h.mono fun e w' h => ⟨h.1, @After.is_more _ _ h.2⟩
    have G4 : Gives V 16 #[.agg #[.int .i64 k, .int .i64 o, .int .i64 t, .int .i64 v, .string s1, .slice A1 xs1.length c1]] (.int .i64 (z2 : Nat)) := fun U hU => by
      have h := depth_any (by omega) HXV.out U hU
      rw [ren_depth fr tw _ _ HER.out, hz2.out] at h
      exact h.mono fun e w' h => ⟨h.1, @After.is_more _ _ h.2⟩
    have HSM : Hid (∀ (U : World) (s2 : ByteArray) (A2 : Option Addr) (c2 : Nat) (xs2 : List Tx), After V U → RX U (.mk k o t v s2 A2 c2 xs2) → (Tx.mk k o t v s2 A2 c2 xs2).er = Ex.ren fr tw (Tx.mk k o t v s A c xs).er → Gives U 30 #[.agg #[.int .i64 k, .int .i64 o, .int .i64 t, .int .i64 v, .string s1, .slice A1 xs1.length c1], .agg #[.int .i64 k, .int .i64 o, .int .i64 t, .int .i64 v, .string s2, .slice A2 xs2.length c2]] (.bool true)) := Lib.hid fun U s2 A2 c2 xs2 hU hx2 he2 U' hU' => by
      have h := rsame_any (HXV.out.below (after_after hU hU').below) (hx2.below hU'.below) U' inferInstance
      rw [(same_iff _ _).2 (HER.out.trans he2.symm)] at h
      exact h.mono fun e w' h => ⟨h.1, @After.is_more _ _ h.2⟩
    have HBR : Hid (∀ U : World, After V U → Calls Try.prog 34 #[.agg #[.int .i64 k, .int .i64 o, .int .i64 t, .int .i64 v, .string s1, .slice A1 xs1.length c1], .string tw, .string fr] U fun e w' => RenP tw fr k o t v s1 xs1 U e w') := Lib.hid fun U hU => ren_any tw fr hfr (by omega) HXV.out U hU
    have HSB : Hid (∀ (U : World) (s2 : ByteArray) (A2 : Option Addr) (c2 : Nat) (xs2 : List Tx), After w U → RX U (.mk k o t v s2 A2 c2 xs2) → (Tx.mk k o t v s2 A2 c2 xs2).er = (Tx.mk k o t v s A c xs).er → Gives U 30 #[.agg #[.int .i64 k, .int .i64 o, .int .i64 t, .int .i64 v, .string s2, .slice A2 xs2.length c2], .agg #[.int .i64 k, .int .i64 o, .int .i64 t, .int .i64 v, .string s, .slice A xs.length c]] (.bool true)) := Lib.hid fun U s2 A2 c2 xs2 hU hx2 he2 U' hU' => by
      have h := rsame_any (hx2.below hU'.below) (x.out.below (after_after hU hU').below) U' inferInstance
      rw [(same_iff _ _).2 he2] at h
      exact h.mono fun e w' h => ⟨h.1, @After.is_more _ _ h.2⟩
    obtain ⟨_, lB_V, lG_V, b0_, b1_, b2_, b3_, b4_, b5_, g0_, g1_, g2_, g3_, g4_, g5_⟩ := HK2.out V inferInstance
    have q0 : After V V := inferInstance
    have tk1 : True := trivial
    have tk2 : True := trivial
    have tk3 : True := trivial
    have tk4 : True := trivial
    have tk5 : True := trivial
    have tk6 : True := trivial
    go_region_held3 (fun V_ => V_.cell? ⟨w.heap.size, 0, none⟩ = some (.int .i64 k) ∧ V_.cell? ⟨w.heap.size, 1, none⟩ = some (.int .i64 o) ∧ V_.cell? ⟨w.heap.size, 2, none⟩ = some (.int .i64 t) ∧ V_.cell? ⟨w.heap.size, 3, none⟩ = some (.int .i64 v) ∧ V_.cell? ⟨w.heap.size, 4, none⟩ = some (.string s) ∧ V_.cell? ⟨w.heap.size, 5, none⟩ = some (.slice A xs.length c) ∧ V_.cell? ⟨g, 0, none⟩ = some (.int .i64 k) ∧ V_.cell? ⟨g, 1, none⟩ = some (.int .i64 o) ∧ V_.cell? ⟨g, 2, none⟩ = some (.int .i64 t) ∧ V_.cell? ⟨g, 3, none⟩ = some (.int .i64 v) ∧ V_.cell? ⟨g, 4, none⟩ = some (.string s1) ∧ V_.cell? ⟨g, 5, none⟩ = some (.slice A1 xs1.length c1)) (exact (HK2.out _ inferInstance).2.2.2)
      (first
        | (have _t := tk1; go_at_call 35; (with_reducible refine (HR2.out _ (after_after awV inferInstance)).mono ?_); rintro e v1 ⟨A2, c2, xs2, rfl, HE2, HX2, HF2, k1_⟩; have q1 : After V v1 := after_after (after_after q0 inferInstance) k1_; have GS := HSM.out v1 _ _ _ _ q1 HX2 (by rw [Tx.er, Tx.er, Ex.ren, HE2]); clear HE2 HX2 HF2 k1_; clear _t tk1)
        | (have _t := tk2; go_at_call 30; (with_reducible refine (Gives.on GS _ inferInstance).mono ?_); rintro e v2 ⟨rfl, hy2⟩; have q2 : After V v2 := after_of_more hy2 (after_after q1 inferInstance); clear hy2; clear _t tk2)
        | (have _t := tk3; go_at_call 14; (with_reducible refine (Gives.on G3 _ (after_after q2 inferInstance)).mono ?_); rintro e v3 ⟨rfl, hy3⟩; have q3 : After V v3 := after_of_more hy3 (after_after q2 inferInstance); clear hy3; clear _t tk3)
        | (have _t := tk4; go_at_call 14; (with_reducible refine (Gives.on G1 _ (after_after awV (after_after q3 inferInstance))).mono ?_); rintro e v4 ⟨rfl, hy4⟩; have q4 : After V v4 := after_of_more hy4 (after_after q3 inferInstance); clear hy4; clear _t tk4)
        | (have _t := tk5; go_at_call 16; (with_reducible refine (Gives.on G4 _ (after_after q4 inferInstance)).mono ?_); rintro e v5 ⟨rfl, hy5⟩; have q5 : After V v5 := after_of_more hy5 (after_after q4 inferInstance); clear hy5; clear _t tk5)
        | (have _t := tk6; go_at_call 16; (with_reducible refine (Gives.on G2 _ (after_after awV (after_after q5 inferInstance))).mono ?_); rintro e v6 ⟨rfl, hy6⟩; have q6 : After V v6 := after_of_more hy6 (after_after q5 inferInstance); clear hy6; clear _t tk6))
    obtain ⟨aw6, lB_6, lG_6, m0_, m1_, m2_, m3_, m4_, m5_, n0_, n1_, n2_, n3_, n4_, n5_⟩ := HK2.out v6 q6
    clear b0_ g0_ b1_ g1_ b2_ g2_ b3_ g3_ b4_ g4_ b5_ g5_
    go_wp2_with fail
    clear HR1 HR2 HSM G1 G2 G3 G4 q0 q1 q2 q3 q4 q5 GS
    have aw6_ : After w v6 := aw6
    obtain ⟨nn, hnn⟩ : ∃ n, ln.length = n := ⟨_, rfl⟩
    rw [hnn] at HNm
    replace hnn := Lib.hid hnn
    cases hhb : hasB ln tw with
    | true =>
      have q0 : After v6 v6 := inferInstance
      have tk1 : True := trivial
      have tk2 : True := trivial
      have tk3 : True := trivial
      have tk4 : True := trivial
      have tk5 : True := trivial
      (first | (go_region_law
        (first
          | (have _t := tk1; go_simp; go_at_call 26; (with_reducible refine (HNm.out _ (after_after aw6_ inferInstance)).mono ?_); rintro e v1 ⟨A5, c5, rfl, hs5, k1_⟩; have p1 : After v6 v1 := after_after (after_after q0 inferInstance) k1_; have GHs : Gives v1 24 #[.slice A5 nn c5, .string tw] (.bool true) := (fun U hU => (by have h := has_any hs5 tw U hU; rw [hhb, hnn.out] at h; exact h.mono fun e w' h => ⟨h.1, by rw [← h.2]; exact more_self _⟩)); clear k1_ hs5; clear _t tk1)
          | (have _t := tk2; go_simp; go_at_call 24; (with_reducible refine (Gives.on GHs _ inferInstance).mono ?_); rintro e v2 ⟨rfl, hy2⟩; have p2 : After v6 v2 := after_of_more hy2 (after_after p1 inferInstance); clear hy2; clear _t tk2)
          | (have _t := tk3; go_simp; go_at_call 11; (with_reducible refine (Gives.on GL _ (after_after aw6_ (after_after p2 inferInstance))).mono ?_); rintro e v3 ⟨rfl, hy3⟩; have p5 : After v6 v3 := after_of_more hy3 (after_after p2 inferInstance); clear hy3; clear _t tk3))) | fail)
      all_goals
        have pl := after_after aw6_ p5
        go_wp2_with fail
        go_ret
        exact ⟨rfl, @After.is_more _ _ (after_after pl inferInstance)⟩
    | false =>
      have q0 : After v6 v6 := inferInstance
      have tk1 : True := trivial
      have tk2 : True := trivial
      have tk3 : True := trivial
      have tk4 : True := trivial
      have tk5 : True := trivial
      go_region_held3 (fun V_ => V_.cell? ⟨w.heap.size, 0, none⟩ = some (.int .i64 k) ∧ V_.cell? ⟨w.heap.size, 1, none⟩ = some (.int .i64 o) ∧ V_.cell? ⟨w.heap.size, 2, none⟩ = some (.int .i64 t) ∧ V_.cell? ⟨w.heap.size, 3, none⟩ = some (.int .i64 v) ∧ V_.cell? ⟨w.heap.size, 4, none⟩ = some (.string s) ∧ V_.cell? ⟨w.heap.size, 5, none⟩ = some (.slice A xs.length c) ∧ V_.cell? ⟨g, 0, none⟩ = some (.int .i64 k) ∧ V_.cell? ⟨g, 1, none⟩ = some (.int .i64 o) ∧ V_.cell? ⟨g, 2, none⟩ = some (.int .i64 t) ∧ V_.cell? ⟨g, 3, none⟩ = some (.int .i64 v) ∧ V_.cell? ⟨g, 4, none⟩ = some (.string s1) ∧ V_.cell? ⟨g, 5, none⟩ = some (.slice A1 xs1.length c1)) (exact (HK2.out _ (after_after q6 inferInstance)).2.2.2)
        (first
          | (have _t := tk1; go_at_call 26; (with_reducible refine (HNm.out _ (after_after aw6_ inferInstance)).mono ?_); rintro e v1 ⟨A5, c5, rfl, hs5, k1_⟩; have p1 : After v6 v1 := after_after (after_after q0 inferInstance) k1_; have GHs : Gives v1 24 #[.slice A5 nn c5, .string tw] (.bool false) := (fun U hU => (by have h := has_any hs5 tw U hU; rw [hhb, hnn.out] at h; exact h.mono fun e w' h => ⟨h.1, by rw [← h.2]; exact more_self _⟩)); clear k1_ hs5; clear _t tk1)
          | (have _t := tk2; go_at_call 24; (with_reducible refine (Gives.on GHs _ inferInstance).mono ?_); rintro e v2 ⟨rfl, hy2⟩; have p2 : After v6 v2 := after_of_more hy2 (after_after p1 inferInstance); clear hy2; clear _t tk2)
          | (have _t := tk3; go_at_call 34; (with_reducible refine (HBR.out _ (after_after q6 (after_after p2 inferInstance))).mono ?_); rintro e v3 ⟨A6, c6, xs6, rfl, HE6, HX6, HF6, k3_⟩; have p3 : After v6 v3 := after_after (after_after p2 inferInstance) k3_; have GB := HSB.out v3 _ _ _ _ (after_after aw6_ p3) HX6 (by have h_ := HER.out; have hb_ := HBK.out hhb; rw [← h_, Tx.er, Ex.ren] at hb_; rw [Tx.er, HE6]; exact hb_); clear HE6 HX6 HF6 k3_; clear _t tk3)
          | (have _t := tk4; go_at_call 30; (with_reducible refine (Gives.on GB _ inferInstance).mono ?_); rintro e v4 ⟨rfl, hy4⟩; have p4 : After v6 v4 := after_of_more hy4 (after_after p3 inferInstance); clear hy4; clear _t tk4)
          | (have _t := tk5; go_at_call 11; (with_reducible refine (Gives.on GL _ (after_after aw6_ (after_after p4 inferInstance))).mono ?_); rintro e v5 ⟨rfl, hy5⟩; have p5 : After v6 v5 := after_of_more hy5 (after_after p4 inferInstance); clear hy5; clear _t tk5))
      have pl := after_after aw6_ p5
      go_wp2_with fail
      go_ret
      exact ⟨rfl, @After.is_more _ _ (after_after pl inferInstance)⟩

set_option maxRecDepth 100000 in
theorem lifted (os : Os) (started : os.Started) (H : Type) (enc : TypeId × Value → H) :
    ReturnsInHanded {} Try.checked os 8 .any (Rows.exprRenamesSpec.pre6 enc Try.prog Try.f8 Rows.exprRenamesRow.domain false) (Rows.exprRenamesSpec.post enc Try.prog Try.f8 false true false false) := by
  refine returnsInHanded_of_change_sized (C := Try.checked) own started (by kernel_rfl) Try.func8
    (ChangeSpec.witness6 (enc := enc) (C := Try.checked) false ⟨#[], #[.agg #[.int .i64 0, .int .i64 0, .int .i64 0, .int .i64 0, .string ByteArray.empty, .slice none 0 0], .string ByteArray.empty, .string ByteArray.empty], []⟩ 8 (by kernel_rfl) (by kernel_rfl) (by kernel_rfl) (by kernel_rfl)) ?_
  intro W base args ds gs before hval0 hW hcnd hsz0 _
  have hval : ∀ (j : Nat) t v, Try.f8.params[j]? = some t → args[j]? = some v → Value.okWide Try.prog W .any base t v := hval0
  have hsz : (DataW.weightsEach Try.prog (Try.f8.params.toList ++ Rows.exprRenamesSpec.plain.varTypes Try.prog) (ds ++ gs)).all (· ≤ reachBytes) = true := hsz0
  have hW' := hW
  obtain ⟨p, q, hA0, hV, rfl, hfz, hnd⟩ := hW
  have hA : DataW.TrodAll enc Try.prog W 0 (fun _ => true) true Try.f8.params.toList args.toList ds p := hA0
  rw [Try.params8] at hA hval hsz
  obtain ⟨v0, vs0, d0, ds0, p0, q0, hargs, rfl, rfl, h0, r0⟩ := trodAll_cons hA
  obtain ⟨v1, vs1, d1, ds1, p1, q1, rfl, rfl, rfl, h1, r1⟩ := trodAll_cons r0
  obtain ⟨v2, vs2, d2, ds2, p2, q2, rfl, rfl, rfl, h2, r2⟩ := trodAll_cons r1
  obtain ⟨rfl, rfl, rfl⟩ := trodAll_nil r2
  obtain rfl : args = #[v0, v1, v2] := by cases args; simp_all
  obtain ⟨rfl, rfl⟩ := trodVars_none hV
  have k0 := h0
  have lt0 : ∀ x ∈ p0, x.block < W.heap.size := by obtain ⟨m, hm⟩ := k0; exact DataW.trod_lt m _ _ _ hm
  have z0 : ∀ n ∈ d0.weights Try.prog 24, n ≤ reachBytes := fun n hn => by
    simpa using List.all_eq_true.1 hsz n (DataW.weights_mem_each (j := 0) (t := 24) rfl rfl n hn)
  obtain ⟨k0_, o0_, t0_, u0_, s0_, A0, c0, xs0, rfl, x0⟩ := open_expr (hval 0 24 v0 rfl rfl) h0 z0
  have z1 : ∀ n ∈ d1.weights Try.prog 9, n ≤ reachBytes := fun n hn => by
    simpa using List.all_eq_true.1 hsz n (DataW.weights_mem_each (j := 1) (t := 9) rfl rfl n hn)
  obtain ⟨s1, rfl, rfl, rfl, w1⟩ := open_string Try.underlying9 (hval 1 9 v1 rfl rfl) h1
  have n1 : s1.size ≤ 140737488355328 := Nat.le_trans (show s1.data.toList.length ≤ reachBytes from z1 s1.data.toList.length (by simp [DataW.weights])) (by unfold reachBytes; decide)
  have z2 : ∀ n ∈ d2.weights Try.prog 9, n ≤ reachBytes := fun n hn => by
    simpa using List.all_eq_true.1 hsz n (DataW.weights_mem_each (j := 2) (t := 9) rfl rfl n hn)
  obtain ⟨s2, rfl, rfl, rfl, w2⟩ := open_string Try.underlying9 (hval 2 9 v2 rfl rfl) h2
  have n2 : s2.size ≤ 140737488355328 := Nat.le_trans (show s2.data.toList.length ≤ reachBytes from z2 s2.data.toList.length (by simp [DataW.weights])) (by unfold reachBytes; decide)
  clear hA0 hval0 hsz0 hsz
  refine (walk W x0 s1 n1 s2 n2).mono fun e W' ⟨he, y, hy⟩ => ?_
  subst he
  have bel : Below W.heap.size W W' := by rw [hy]; exact more_below W y
  exact ⟨_, rfl, _, _, _, [], _, [], hW', trodAll_mk1 (shut_bool Try.underlying4 _), (trodAll_cons_mk (Below.trod laidOut (by kernel_rfl) (of_decide_eq_true (by kernel_rfl)) k0 bel lt0) (trodAll_cons_mk (shut_string Try.underlying9 w1) (trodAll_cons_mk (shut_string Try.underlying9 w2) trodAll_mk0))), rfl, bel.frame _, fun h => by cases h⟩

theorem over : Rows.exprRenamesRow.holds Try.pinned (OpenSpec.ofChange Rows.exprRenamesSpec) :=
  OpenClaim.holds_of_wide 8 Try.f8 rfl rfl rfl rfl rfl rfl rfl ⟨rfl, rfl, rfl, rfl, rfl⟩ rfl rfl rfl rfl rfl (by kernel_rfl) Try.func8 (by kernel_rfl)
    (of_decide_eq_true (by kernel_rfl)) (by unfold Func.isWrapper; first | (rw [if_pos (by decide +kernel)]; kernel_rfl) | (rw [if_neg (by decide +kernel)]; exact ⟨rfl, rfl⟩))
    (fun os started H enc _ => lifted os started H enc)

theorem proved : Rows.ExprRenamesSaid := over
#print axioms proved
end Go.Proofs.Ytfoddappedcplaa.exprRenames
