/-
  A word and its normal form have the same rate, the same ones and the same gaps: for any words and numbers. No conditions.
-/
import Derived.Test.YtglfocldoaigiaaLaw31a
import Derived.Test.YtglfocldoaigiaaInv
import Derived.Test.YtglfocldoaigiaaGives
import Derived.Test.YtglfocldoaigiaaLift
namespace Go.Proofs.Ytglfocldoaigiaa.paceNorms
open Go.ChangeShapes Go.WideShapes Go.ChangeAt Go.RowKit Go.BigFrame
set_option linter.unusedVariables false

theorem own : ownKnob Try.prog.godebug = none := by kernel_rfl
theorem laidOut : laidOutB Try.prog = true := by kernel_rfl

theorem huge_v {w0 : World} {A B c d h l} (x : RW w0 A c B d h l) {v : Bool} (e : hugeB h l = v) : Gives w0 15 #[.agg #[.slice A h.length c, .slice B l.length d]] (.bool v) := fun U _ => e ▸ huge_any x U
theorem check_v {w0 : World} {A B c d h l} (x : RW w0 A c B d h l) {v : Int} (e : checkI h l = v) : Gives w0 19 #[.agg #[.slice A h.length c, .slice B l.length d]] (.int .i64 v) := fun U _ => e ▸ check_any x U
theorem rate_v {w0 : World} {A B c d h l} (x : RW w0 A c B d h l) {p q : Int} (e : rateV h l = (p, q)) : Gives w0 17 #[.agg #[.slice A h.length c, .slice B l.length d]] (.tuple #[.int .i64 p, .int .i64 q]) := fun U _ => by have := rate_any x U; rwa [e] at this
theorem nth_v {w0 : World} {A B c d h l} (x : RW w0 A c B d h l) {k p : Int} {q : Bool} (e : nthV h l k = (p, q)) : Gives w0 32 #[.agg #[.slice A h.length c, .slice B l.length d], .int .i64 k] (.tuple #[.int .i64 p, .bool q]) := fun U _ => by have := nth_any x U k; rwa [e] at this
theorem gap_v {w0 : World} {A B c d h l A' B' c' d' h' l'} (x : RW w0 A c B d h l) (x' : RW w0 A' c' B' d' h' l') {p : Int} {q : Bool} (e : gapV h l h' l' = (p, q)) : Gives w0 21 #[.agg #[.slice A h.length c, .slice B l.length d], .agg #[.slice A' h'.length c', .slice B' l'.length d']] (.tuple #[.int .i64 p, .bool q]) := fun U _ => by have := gap_any x x' U; rwa [e] at this
set_option maxRecDepth 100000 in
set_option maxHeartbeats 1600000 in
theorem walk {A B c d h l A' B' c' d' h' l'} (w : World) (x : RW w A c B d h l) (x' : RW w A' c' B' d' h' l') (k : Int) (_ : (Lit.int .i64 k).wf = true) :
    Calls Try.prog 12 #[.agg #[.slice A h.length c, .slice B l.length d], .agg #[.slice A' h'.length c', .slice B' l'.length d'], .int .i64 k] w fun e w' => e = .returned (.bool true) ∧ ∃ y, w' = w.more y := by
  cases h1 : hugeB h l with
  | true =>
    have G1 := huge_v x h1
    clear h1
    go_enter Try.func12, Try.ntmps12
    go_wp2_with fail
    refine (Gives.on G1 _ inferInstance).mono ?_
    rintro e w' ⟨rfl, y1, rfl⟩
    go_wp2_with fail
    refine (awake_any _).mono ?_
    rintro e w' ⟨rfl, yw, rfl⟩
    go_wp2_with fail
    go_ret
    exact ⟨rfl, After.is_more _ _⟩
  | false =>
    have G1 := huge_v x h1
    clear h1
    cases h2 : hugeB h' l' with
    | true =>
      have G2 := huge_v x' h2
      clear h2
      go_enter Try.func12, Try.ntmps12
      go_wp2_with fail
      refine (Gives.on G1 _ inferInstance).mono ?_
      rintro e w' ⟨rfl, y2, rfl⟩
      go_wp2_with fail
      refine (Gives.on G2 _ inferInstance).mono ?_
      rintro e w' ⟨rfl, y3, rfl⟩
      go_wp2_with fail
      refine (awake_any _).mono ?_
      rintro e w' ⟨rfl, yw, rfl⟩
      go_wp2_with fail
      go_ret
      exact ⟨rfl, After.is_more _ _⟩
    | false =>
      have G2 := huge_v x' h2
      clear h2
      rcases check_cases h l with hv | ⟨hv, h5⟩
      · have G3 := check_v x (checkI_0 hv)
        obtain ⟨v2, le⟩ := norm_valid hv
        obtain ⟨H, hH⟩ : ∃ H, (normW h l).1 = H := ⟨_, rfl⟩
        obtain ⟨L, hL⟩ : ∃ L, (normW h l).2 = L := ⟨_, rfl⟩
        have GN : GivesW w 47 #[.agg #[.slice A h.length c, .slice B l.length d]] H L (fun v => v) := fun U _ => by have := norm_any x U; rwa [hH, hL] at this
        rw [hH, hL] at v2 le
        obtain ⟨p1, q1, e1⟩ : ∃ p q, rateV h l = (p, q) := ⟨_, _, rfl⟩
        have e1' : rateV H L = (p1, q1) := by rw [← rate_inv hv v2 le]; exact e1
        obtain ⟨p2, q2, e2⟩ : ∃ p q, nthV h l k = (p, q) := ⟨_, _, rfl⟩
        have e2' : nthV H L k = (p2, q2) := by rw [← nth_inv hv v2 le]; exact e2
        obtain ⟨p3, q3, e3⟩ : ∃ p q, gapV h l h' l' = (p, q) := ⟨_, _, rfl⟩
        have e3' : gapV H L h' l' = (p3, q3) := by rw [← gap_inv hv v2 le]; exact e3
        have G4 := rate_v x e1
        have G5 := nth_v x e2
        have G6 := gap_v x x' e3
        replace e1' := Lib.hid e1'
        replace e2' := Lib.hid e2'
        replace e3' := Lib.hid e3'
        have t1 : (p1 == p1) = true := by simp
        have t2 : (q1 == q1) = true := by simp
        have t3 : (p2 == p2) = true := by simp
        have t4 : (p3 == p3) = true := by simp
        have t5 : (q2 == q2) = true := by simp
        have t6 : (q3 == q3) = true := by simp
        clear hH hL le v2 hv e1 e2 e3
        go_enter Try.func12, Try.ntmps12
        go_wp2_with fail
        refine (Gives.on G1 _ inferInstance).mono ?_
        rintro e w' ⟨rfl, y4, rfl⟩
        go_wp2_with fail
        refine (Gives.on G2 _ inferInstance).mono ?_
        rintro e w' ⟨rfl, y5, rfl⟩
        go_wp2_with fail
        refine (Gives.on G3 _ inferInstance).mono ?_
        rintro e w' ⟨rfl, y6, rfl⟩
        go_wp2_with fail
        refine (GivesW.on GN _ inferInstance).mono ?_
        rintro e w' ⟨A5, c5, B5, d5, rfl, x5, y5, rfl⟩
        go_wp2_with fail
        refine (Gives.on G4 _ inferInstance).mono ?_
        rintro e w' ⟨rfl, y7, rfl⟩
        go_wp2_with fail
        refine (Gives.on (rate_v x5 e1'.out) _ inferInstance).mono ?_
        rintro e w' ⟨rfl, y8, rfl⟩
        go_wp2_with fail
        refine (Gives.on G5 _ inferInstance).mono ?_
        rintro e w' ⟨rfl, y9, rfl⟩
        go_wp2_with fail
        refine (Gives.on (nth_v x5 e2'.out) _ inferInstance).mono ?_
        rintro e w' ⟨rfl, y10, rfl⟩
        go_wp2_with fail
        refine (Gives.on G6 _ inferInstance).mono ?_
        rintro e w' ⟨rfl, y11, rfl⟩
        go_wp2_with fail
        refine (Gives.on (gap_v x5 (x'.here _) e3'.out) _ inferInstance).mono ?_
        rintro e w' ⟨rfl, y12, rfl⟩
        go_wp2_with fail
        refine (awake_any _).mono ?_
        rintro e w' ⟨rfl, yw, rfl⟩
        go_wp2_with fail
        go_ret
        exact ⟨rfl, After.is_more _ _⟩
      · clear hv
        rcases h5 with h5 | h5
        all_goals
          have G3 := check_v x h5
          clear h5
          go_enter Try.func12, Try.ntmps12
          go_wp2_with fail
          refine (Gives.on G1 _ inferInstance).mono ?_
          rintro e w' ⟨rfl, y13, rfl⟩
          go_wp2_with fail
          refine (Gives.on G2 _ inferInstance).mono ?_
          rintro e w' ⟨rfl, y14, rfl⟩
          go_wp2_with fail
          refine (Gives.on G3 _ inferInstance).mono ?_
          rintro e w' ⟨rfl, y15, rfl⟩
          go_wp2_with fail
          refine (awake_any _).mono ?_
          rintro e w' ⟨rfl, yw, rfl⟩
          go_wp2_with fail
          go_ret
          exact ⟨rfl, After.is_more _ _⟩

set_option maxRecDepth 100000 in
theorem lifted (os : Os) (started : os.Started) (H : Type) (enc : TypeId × Value → H) :
    ReturnsInHanded {} Try.checked os 12 .any (Rows.paceNormsSpec.pre6 enc Try.prog Try.f12 Rows.paceNormsRow.domain false) (Rows.paceNormsSpec.post enc Try.prog Try.f12 false true false false) := by
  refine returnsInHanded_of_change_sized (C := Try.checked) own started (by kernel_rfl) Try.func12
    (ChangeSpec.witness6 (enc := enc) (C := Try.checked) false ⟨#[], #[.agg #[.slice none 0 0, .slice none 0 0], .agg #[.slice none 0 0, .slice none 0 0], .int .i64 0], []⟩ 8 (by kernel_rfl) (by kernel_rfl) (by kernel_rfl) (by kernel_rfl)) ?_
  intro W base args ds gs before hval0 hW hcnd hsz0 _
  have hval : ∀ (j : Nat) t v, Try.f12.params[j]? = some t → args[j]? = some v → Value.okWide Try.prog W .any base t v := hval0
  have hsz : (DataW.weightsEach Try.prog (Try.f12.params.toList ++ Rows.paceNormsSpec.plain.varTypes Try.prog) (ds ++ gs)).all (· ≤ reachBytes) = true := hsz0
  have hW' := hW
  obtain ⟨p, q, hA0, hV, rfl, hfz, hnd⟩ := hW
  have hA : DataW.TrodAll enc Try.prog W 0 (fun _ => true) true Try.f12.params.toList args.toList ds p := hA0
  rw [Try.params12] at hA hval hsz
  obtain ⟨v0, vs0, d0, ds0, p0, q0, hargs, rfl, rfl, h0, r0⟩ := trodAll_cons hA
  obtain ⟨v1, vs1, d1, ds1, p1, q1, rfl, rfl, rfl, h1, r1⟩ := trodAll_cons r0
  obtain ⟨v2, vs2, d2, ds2, p2, q2, rfl, rfl, rfl, h2, r2⟩ := trodAll_cons r1
  obtain ⟨rfl, rfl, rfl⟩ := trodAll_nil r2
  obtain rfl : args = #[v0, v1, v2] := by cases args; simp_all
  obtain ⟨rfl, rfl⟩ := trodVars_none hV
  have k0 := h0
  have lt0 : ∀ x ∈ p0, x.block < W.heap.size := by obtain ⟨m, hm⟩ := k0; exact DataW.trod_lt m _ _ _ hm
  have z0 : ∀ n ∈ d0.weights Try.prog 24, n ≤ reachBytes := fun n hn => by
    simpa using List.all_eq_true.1 hsz n (DataW.weights_mem_each (j := 0) (t := 24) rfl rfl n hn)
  obtain ⟨A0, c0, B0, c0', hl0, ll0, rfl, x0⟩ := open_word (e := 4) Try.underlying24 (by kernel_rfl) (by kernel_rfl) Try.underlying22 Try.underlying22 Try.underlying4 (by kernel_rfl) (by kernel_rfl) (hval 0 24 v0 rfl rfl) h0 z0
  have k1 := h1
  have lt1 : ∀ x ∈ p1, x.block < W.heap.size := by obtain ⟨m, hm⟩ := k1; exact DataW.trod_lt m _ _ _ hm
  have z1 : ∀ n ∈ d1.weights Try.prog 24, n ≤ reachBytes := fun n hn => by
    simpa using List.all_eq_true.1 hsz n (DataW.weights_mem_each (j := 1) (t := 24) rfl rfl n hn)
  obtain ⟨A1, c1, B1, c1', hl1, ll1, rfl, x1⟩ := open_word (e := 4) Try.underlying24 (by kernel_rfl) (by kernel_rfl) Try.underlying22 Try.underlying22 Try.underlying4 (by kernel_rfl) (by kernel_rfl) (hval 1 24 v1 rfl rfl) h1 z1
  obtain ⟨a2, rfl, rfl, rfl, w2⟩ := open_int Try.underlying3 (hval 2 3 v2 rfl rfl) h2
  clear hA0 hval0 hsz0 hsz
  refine (walk W x0 x1 a2 w2).mono fun e W' ⟨he, y, hy⟩ => ?_
  subst he
  have bel : Below W.heap.size W W' := by rw [hy]; exact more_below W y
  exact ⟨_, rfl, _, _, _, [], _, [], hW', trodAll_mk1 (shut_bool Try.underlying4 _), (trodAll_cons_mk (Below.trod laidOut (by kernel_rfl) (of_decide_eq_true (by kernel_rfl)) k0 bel lt0) (trodAll_cons_mk (Below.trod laidOut (by kernel_rfl) (of_decide_eq_true (by kernel_rfl)) k1 bel lt1) (trodAll_cons_mk (shut_int Try.underlying3 w2) trodAll_mk0))), rfl, bel.frame _, fun h => by cases h⟩

theorem over : Rows.paceNormsRow.holds Try.pinned (OpenSpec.ofChange Rows.paceNormsSpec) :=
  OpenClaim.holds_of_wide 12 Try.f12 rfl rfl rfl rfl rfl rfl rfl ⟨rfl, rfl, rfl, rfl, rfl⟩ rfl rfl rfl rfl rfl (by kernel_rfl) Try.func12 (by kernel_rfl)
    (of_decide_eq_true (by kernel_rfl)) (by unfold Func.isWrapper; first | (rw [if_pos (by decide +kernel)]; kernel_rfl) | (rw [if_neg (by decide +kernel)]; exact ⟨rfl, rfl⟩))
    (fun os started H enc _ => lifted os started H enc)

theorem proved : Rows.PaceNormsSaid := over
#print axioms proved
end Go.Proofs.Ytglfocldoaigiaa.paceNorms
