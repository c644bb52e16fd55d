/-
  The order of words is the chapter's, reflexive and transitive; it is the gap 0; both ways it is equality: for any three words. No conditions.
-/
import Derived.Test.YtglfocldoaigiaaLaw31a
import Derived.Test.YtglfocldoaigiaaInv
import Derived.Test.YtglfocldoaigiaaSame
import Derived.Test.YtglfocldoaigiaaGives
import Derived.Test.YtglfocldoaigiaaLift
namespace Go.Proofs.Ytglfocldoaigiaa.paceOrders
open Go.ChangeShapes Go.WideShapes Go.ChangeAt Go.RowKit Go.BigFrame
set_option linter.unusedVariables false

theorem own : ownKnob Try.prog.godebug = none := by kernel_rfl
theorem laidOut : laidOutB Try.prog = true := by kernel_rfl

theorem huge_v {w0 : World} {A B c d h l} (x : RW w0 A c B d h l) {v : Bool} (e : hugeB h l = v) : Gives w0 15 #[.agg #[.slice A h.length c, .slice B l.length d]] (.bool v) := fun U _ => e ▸ huge_any x U
theorem check_v {w0 : World} {A B c d h l} (x : RW w0 A c B d h l) {v : Int} (e : checkI h l = v) : Gives w0 19 #[.agg #[.slice A h.length c, .slice B l.length d]] (.int .i64 v) := fun U _ => e ▸ check_any x U
theorem rate_v {w0 : World} {A B c d h l} (x : RW w0 A c B d h l) {p q : Int} (e : rateV h l = (p, q)) : Gives w0 17 #[.agg #[.slice A h.length c, .slice B l.length d]] (.tuple #[.int .i64 p, .int .i64 q]) := fun U _ => by have := rate_any x U; rwa [e] at this
theorem nth_v {w0 : World} {A B c d h l} (x : RW w0 A c B d h l) {k p : Int} {q : Bool} (e : nthV h l k = (p, q)) : Gives w0 32 #[.agg #[.slice A h.length c, .slice B l.length d], .int .i64 k] (.tuple #[.int .i64 p, .bool q]) := fun U _ => by have := nth_any x U k; rwa [e] at this
theorem gap_v {w0 : World} {A B c d h l A' B' c' d' h' l'} (x : RW w0 A c B d h l) (x' : RW w0 A' c' B' d' h' l') {p : Int} {q : Bool} (e : gapV h l h' l' = (p, q)) : Gives w0 21 #[.agg #[.slice A h.length c, .slice B l.length d], .agg #[.slice A' h'.length c', .slice B' l'.length d']] (.tuple #[.int .i64 p, .bool q]) := fun U _ => by have := gap_any x x' U; rwa [e] at this
theorem before_v {w0 : World} {A B c d h l A' B' c' d' h' l'} (x : RW w0 A c B d h l) (x' : RW w0 A' c' B' d' h' l') {v : Bool} (e : beforeV h l h' l' = v) : Gives w0 48 #[.agg #[.slice A h.length c, .slice B l.length d], .agg #[.slice A' h'.length c', .slice B' l'.length d']] (.bool v) := fun U _ => e ▸ before_any x x' U
theorem rbefore_v {w0 : World} {A B c d h l A' B' c' d' h' l'} (x : RW w0 A c B d h l) (x' : RW w0 A' c' B' d' h' l') {v : Bool} (e : beforeV h l h' l' = v) : Gives w0 49 #[.agg #[.slice A h.length c, .slice B l.length d], .agg #[.slice A' h'.length c', .slice B' l'.length d']] (.bool v) := fun U _ => e ▸ rbefore_any x x' U
theorem same_v {w0 : World} {A B c d h l A' B' c' d' h' l'} (x : RW w0 A c B d h l) (x' : RW w0 A' c' B' d' h' l') {v : Bool} (e : sameB h l h' l' = v) : Gives w0 50 #[.agg #[.slice A h.length c, .slice B l.length d], .agg #[.slice A' h'.length c', .slice B' l'.length d']] (.bool v) := fun U _ => e ▸ same_any x x' U
theorem same_both {h l h' l' : List Bool} : sameB h l h' l' = (beforeV h l h' l' && beforeV h' l' h l) := by
  rw [Bool.eq_iff_iff, before_both]
  unfold sameB
  split
  · simp_all
  · simp_all
theorem before_refl {h l : List Bool} : beforeV h l h l = true ↔ Valid h l := by
  rw [before_iff]; exact ⟨fun h => h.1, fun h => ⟨h, h, fun n => Nat.le_refl _⟩⟩
theorem before_trans {h l h' l' h2 l2 : List Bool} (a : beforeV h l h' l' = true) (b : beforeV h' l' h2 l2 = true) : beforeV h l h2 l2 = true := by
  rw [before_iff] at a b ⊢
  exact ⟨a.1, b.2.1, fun n => Nat.le_trans (b.2.2 n) (a.2.2 n)⟩
set_option maxRecDepth 100000 in
set_option maxHeartbeats 1600000 in
theorem walk {A B c d h l A' B' c' d' h' l' A2 B2 c2 d2 h2 l2} (w : World) (x : RW w A c B d h l) (x' : RW w A' c' B' d' h' l') (x2 : RW w A2 c2 B2 d2 h2 l2) :
    Calls Try.prog 13 #[.agg #[.slice A h.length c, .slice B l.length d], .agg #[.slice A' h'.length c', .slice B' l'.length d'], .agg #[.slice A2 h2.length c2, .slice B2 l2.length d2]] w fun e w' => e = .returned (.bool true) ∧ ∃ y, w' = w.more y := by
  cases e1 : hugeB h l with
  | true =>
    have G1 := huge_v x e1
    clear e1
    go_enter Try.func13, Try.ntmps13
    go_wp2_with fail
    refine (Gives.on G1 _ inferInstance).mono ?_
    rintro e w' ⟨rfl, y16, rfl⟩
    go_wp2_with fail
    refine (awake_any _).mono ?_
    rintro e w' ⟨rfl, yw, rfl⟩
    go_wp2_with fail
    go_ret
    exact ⟨rfl, After.is_more _ _⟩
  | false =>
    have G1 := huge_v x e1
    clear e1
    cases e2 : hugeB h' l' with
    | true =>
      have G2 := huge_v x' e2
      clear e2
      go_enter Try.func13, Try.ntmps13
      go_wp2_with fail
      refine (Gives.on G1 _ inferInstance).mono ?_
      rintro e w' ⟨rfl, y17, rfl⟩
      go_wp2_with fail
      refine (Gives.on G2 _ inferInstance).mono ?_
      rintro e w' ⟨rfl, y18, rfl⟩
      go_wp2_with fail
      refine (awake_any _).mono ?_
      rintro e w' ⟨rfl, yw, rfl⟩
      go_wp2_with fail
      go_ret
      exact ⟨rfl, After.is_more _ _⟩
    | false =>
      have G2 := huge_v x' e2
      clear e2
      cases e3 : hugeB h2 l2 with
      | true =>
        have G3 := huge_v x2 e3
        clear e3
        go_enter Try.func13, Try.ntmps13
        go_wp2_with fail
        refine (Gives.on G1 _ inferInstance).mono ?_
        rintro e w' ⟨rfl, y19, rfl⟩
        go_wp2_with fail
        refine (Gives.on G2 _ inferInstance).mono ?_
        rintro e w' ⟨rfl, y20, rfl⟩
        go_wp2_with fail
        refine (Gives.on G3 _ inferInstance).mono ?_
        rintro e w' ⟨rfl, y21, rfl⟩
        go_wp2_with fail
        refine (awake_any _).mono ?_
        rintro e w' ⟨rfl, yw, rfl⟩
        go_wp2_with fail
        go_ret
        exact ⟨rfl, After.is_more _ _⟩
      | false =>
        have G3 := huge_v x2 e3
        clear e3
        have hdef : beforeV h l h' l' = ((gapV h' l' h l).2 && (gapV h' l' h l).1 == 0) := rfl
        obtain ⟨g0, ok, eg⟩ : ∃ p q, gapV h' l' h l = (p, q) := ⟨_, _, rfl⟩
        have GG := gap_v x' x eg
        rw [eg] at hdef
        have hs := same_both (h := h) (l := l) (h' := h') (l' := l')
        rcases check_cases h l with hv | ⟨hv, h5⟩
        · have G4 := check_v x (checkI_0 hv)
          have GB2 := before_v x x (before_refl.2 hv)
          cases eb : beforeV h l h' l' with
          | true =>
            have GB1 := before_v x x' eb
            have GR := rbefore_v x x' eb
            rw [eb] at hdef hs
            have h9 := hdef.symm
            rw [Bool.and_eq_true] at h9
            obtain ⟨hok, hg9⟩ := h9
            have hg0 : g0 = 0 := by simpa using hg9
            clear hg9
            subst hok hg0
            cases ec : beforeV h' l' h2 l2 with
            | true =>
              have GB3 := before_v x' x2 ec
              have GB4 := before_v x x2 (before_trans eb ec)
              cases ed : beforeV h' l' h l with
              | true =>
                have GB5 := before_v x' x ed
                rw [ed] at hs
                have GS := same_v x x' hs
                clear hdef eg hs eb ec ed hv
                go_enter Try.func13, Try.ntmps13
                go_wp2_with fail
                refine (Gives.on G1 _ inferInstance).mono ?_
                rintro e w' ⟨rfl, y22, rfl⟩
                go_wp2_with fail
                refine (Gives.on G2 _ inferInstance).mono ?_
                rintro e w' ⟨rfl, y23, rfl⟩
                go_wp2_with fail
                refine (Gives.on G3 _ inferInstance).mono ?_
                rintro e w' ⟨rfl, y24, rfl⟩
                go_wp2_with fail
                refine wp_region_more (by kernel_rfl) (by kernel_rfl) ?_
                repeat (go_big_quiet_step ((first | (go_at_call 48; with_reducible exact Calls.more_of (Gives.on GB1 _ inferInstance)) | (go_at_call 49; with_reducible exact Calls.more_of (Gives.on GR _ inferInstance)) | (go_at_call 48; with_reducible exact Calls.more_of (Gives.on GB2 _ inferInstance)) | (go_at_call 19; with_reducible exact Calls.more_of (Gives.on G4 _ inferInstance)))))
                refine wpQuiet_nil ?_
                rintro _ ⟨yr, rfl⟩
                go_wp2_with fail
                refine (Gives.on GB1 _ inferInstance).mono ?_
                rintro e w' ⟨rfl, y25, rfl⟩
                go_wp2_with fail
                refine (Gives.on GB3 _ inferInstance).mono ?_
                rintro e w' ⟨rfl, y26, rfl⟩
                go_wp2_with fail
                refine (Gives.on GB4 _ inferInstance).mono ?_
                rintro e w' ⟨rfl, y27, rfl⟩
                go_wp2_with fail
                refine (Gives.on GG _ inferInstance).mono ?_
                rintro e w' ⟨rfl, y28, rfl⟩
                go_wp2_with fail
                refine (Gives.on GB1 _ inferInstance).mono ?_
                rintro e w' ⟨rfl, y29, rfl⟩
                go_wp2_with fail
                refine (Gives.on GB1 _ inferInstance).mono ?_
                rintro e w' ⟨rfl, y30, rfl⟩
                go_wp2_with fail
                refine (Gives.on GB5 _ inferInstance).mono ?_
                rintro e w' ⟨rfl, y31, rfl⟩
                go_wp2_with fail
                refine (Gives.on GS _ inferInstance).mono ?_
                rintro e w' ⟨rfl, y32, rfl⟩
                go_wp2_with fail
                refine (awake_any _).mono ?_
                rintro e w' ⟨rfl, yw, rfl⟩
                go_wp2_with fail
                go_ret
                exact ⟨rfl, After.is_more _ _⟩
              | false =>
                have GB5 := before_v x' x ed
                rw [ed] at hs
                have GS := same_v x x' hs
                clear hdef eg hs eb ec ed hv
                go_enter Try.func13, Try.ntmps13
                go_wp2_with fail
                refine (Gives.on G1 _ inferInstance).mono ?_
                rintro e w' ⟨rfl, y33, rfl⟩
                go_wp2_with fail
                refine (Gives.on G2 _ inferInstance).mono ?_
                rintro e w' ⟨rfl, y34, rfl⟩
                go_wp2_with fail
                refine (Gives.on G3 _ inferInstance).mono ?_
                rintro e w' ⟨rfl, y35, rfl⟩
                go_wp2_with fail
                refine wp_region_more (by kernel_rfl) (by kernel_rfl) ?_
                repeat (go_big_quiet_step ((first | (go_at_call 48; with_reducible exact Calls.more_of (Gives.on GB1 _ inferInstance)) | (go_at_call 49; with_reducible exact Calls.more_of (Gives.on GR _ inferInstance)) | (go_at_call 48; with_reducible exact Calls.more_of (Gives.on GB2 _ inferInstance)) | (go_at_call 19; with_reducible exact Calls.more_of (Gives.on G4 _ inferInstance)))))
                refine wpQuiet_nil ?_
                rintro _ ⟨yr, rfl⟩
                go_wp2_with fail
                refine (Gives.on GB1 _ inferInstance).mono ?_
                rintro e w' ⟨rfl, y36, rfl⟩
                go_wp2_with fail
                refine (Gives.on GB3 _ inferInstance).mono ?_
                rintro e w' ⟨rfl, y37, rfl⟩
                go_wp2_with fail
                refine (Gives.on GB4 _ inferInstance).mono ?_
                rintro e w' ⟨rfl, y38, rfl⟩
                go_wp2_with fail
                refine (Gives.on GG _ inferInstance).mono ?_
                rintro e w' ⟨rfl, y39, rfl⟩
                go_wp2_with fail
                refine (Gives.on GB1 _ inferInstance).mono ?_
                rintro e w' ⟨rfl, y40, rfl⟩
                go_wp2_with fail
                refine (Gives.on GB1 _ inferInstance).mono ?_
                rintro e w' ⟨rfl, y41, rfl⟩
                go_wp2_with fail
                refine (Gives.on GB5 _ inferInstance).mono ?_
                rintro e w' ⟨rfl, y42, rfl⟩
                go_wp2_with fail
                refine (Gives.on GS _ inferInstance).mono ?_
                rintro e w' ⟨rfl, y43, rfl⟩
                go_wp2_with fail
                refine (awake_any _).mono ?_
                rintro e w' ⟨rfl, yw, rfl⟩
                go_wp2_with fail
                go_ret
                exact ⟨rfl, After.is_more _ _⟩
            | false =>
              have GB3 := before_v x' x2 ec
              cases ed : beforeV h' l' h l with
              | true =>
                have GB5 := before_v x' x ed
                rw [ed] at hs
                have GS := same_v x x' hs
                clear hdef eg hs eb ec ed hv
                go_enter Try.func13, Try.ntmps13
                go_wp2_with fail
                refine (Gives.on G1 _ inferInstance).mono ?_
                rintro e w' ⟨rfl, y44, rfl⟩
                go_wp2_with fail
                refine (Gives.on G2 _ inferInstance).mono ?_
                rintro e w' ⟨rfl, y45, rfl⟩
                go_wp2_with fail
                refine (Gives.on G3 _ inferInstance).mono ?_
                rintro e w' ⟨rfl, y46, rfl⟩
                go_wp2_with fail
                refine wp_region_more (by kernel_rfl) (by kernel_rfl) ?_
                repeat (go_big_quiet_step ((first | (go_at_call 48; with_reducible exact Calls.more_of (Gives.on GB1 _ inferInstance)) | (go_at_call 49; with_reducible exact Calls.more_of (Gives.on GR _ inferInstance)) | (go_at_call 48; with_reducible exact Calls.more_of (Gives.on GB2 _ inferInstance)) | (go_at_call 19; with_reducible exact Calls.more_of (Gives.on G4 _ inferInstance)))))
                refine wpQuiet_nil ?_
                rintro _ ⟨yr, rfl⟩
                go_wp2_with fail
                refine (Gives.on GB1 _ inferInstance).mono ?_
                rintro e w' ⟨rfl, y47, rfl⟩
                go_wp2_with fail
                refine (Gives.on GB3 _ inferInstance).mono ?_
                rintro e w' ⟨rfl, y48, rfl⟩
                go_wp2_with fail
                refine (Gives.on GG _ inferInstance).mono ?_
                rintro e w' ⟨rfl, y49, rfl⟩
                go_wp2_with fail
                refine (Gives.on GB1 _ inferInstance).mono ?_
                rintro e w' ⟨rfl, y50, rfl⟩
                go_wp2_with fail
                refine (Gives.on GB1 _ inferInstance).mono ?_
                rintro e w' ⟨rfl, y51, rfl⟩
                go_wp2_with fail
                refine (Gives.on GB5 _ inferInstance).mono ?_
                rintro e w' ⟨rfl, y52, rfl⟩
                go_wp2_with fail
                refine (Gives.on GS _ inferInstance).mono ?_
                rintro e w' ⟨rfl, y53, rfl⟩
                go_wp2_with fail
                refine (awake_any _).mono ?_
                rintro e w' ⟨rfl, yw, rfl⟩
                go_wp2_with fail
                go_ret
                exact ⟨rfl, After.is_more _ _⟩
              | false =>
                have GB5 := before_v x' x ed
                rw [ed] at hs
                have GS := same_v x x' hs
                clear hdef eg hs eb ec ed hv
                go_enter Try.func13, Try.ntmps13
                go_wp2_with fail
                refine (Gives.on G1 _ inferInstance).mono ?_
                rintro e w' ⟨rfl, y54, rfl⟩
                go_wp2_with fail
                refine (Gives.on G2 _ inferInstance).mono ?_
                rintro e w' ⟨rfl, y55, rfl⟩
                go_wp2_with fail
                refine (Gives.on G3 _ inferInstance).mono ?_
                rintro e w' ⟨rfl, y56, rfl⟩
                go_wp2_with fail
                refine wp_region_more (by kernel_rfl) (by kernel_rfl) ?_
                repeat (go_big_quiet_step ((first | (go_at_call 48; with_reducible exact Calls.more_of (Gives.on GB1 _ inferInstance)) | (go_at_call 49; with_reducible exact Calls.more_of (Gives.on GR _ inferInstance)) | (go_at_call 48; with_reducible exact Calls.more_of (Gives.on GB2 _ inferInstance)) | (go_at_call 19; with_reducible exact Calls.more_of (Gives.on G4 _ inferInstance)))))
                refine wpQuiet_nil ?_
                rintro _ ⟨yr, rfl⟩
                go_wp2_with fail
                refine (Gives.on GB1 _ inferInstance).mono ?_
                rintro e w' ⟨rfl, y57, rfl⟩
                go_wp2_with fail
                refine (Gives.on GB3 _ inferInstance).mono ?_
                rintro e w' ⟨rfl, y58, rfl⟩
                go_wp2_with fail
                refine (Gives.on GG _ inferInstance).mono ?_
                rintro e w' ⟨rfl, y59, rfl⟩
                go_wp2_with fail
                refine (Gives.on GB1 _ inferInstance).mono ?_
                rintro e w' ⟨rfl, y60, rfl⟩
                go_wp2_with fail
                refine (Gives.on GB1 _ inferInstance).mono ?_
                rintro e w' ⟨rfl, y61, rfl⟩
                go_wp2_with fail
                refine (Gives.on GB5 _ inferInstance).mono ?_
                rintro e w' ⟨rfl, y62, rfl⟩
                go_wp2_with fail
                refine (Gives.on GS _ inferInstance).mono ?_
                rintro e w' ⟨rfl, y63, rfl⟩
                go_wp2_with fail
                refine (awake_any _).mono ?_
                rintro e w' ⟨rfl, yw, rfl⟩
                go_wp2_with fail
                go_ret
                exact ⟨rfl, After.is_more _ _⟩
          | false =>
            have GB1 := before_v x x' eb
            have GR := rbefore_v x x' eb
            rw [eb] at hdef hs
            rw [Bool.false_and] at hs
            have GS := same_v x x' hs
            cases ok with
            | true =>
              have t0 : (g0 == 0) = false := by simpa using hdef.symm
              clear hdef eg hs eb hv
              go_enter Try.func13, Try.ntmps13
              go_wp2_with fail
              refine (Gives.on G1 _ inferInstance).mono ?_
              rintro e w' ⟨rfl, y69, rfl⟩
              go_wp2_with fail
              refine (Gives.on G2 _ inferInstance).mono ?_
              rintro e w' ⟨rfl, y70, rfl⟩
              go_wp2_with fail
              refine (Gives.on G3 _ inferInstance).mono ?_
              rintro e w' ⟨rfl, y71, rfl⟩
              go_wp2_with fail
              refine wp_region_more (by kernel_rfl) (by kernel_rfl) ?_
              repeat (go_big_quiet_step ((first | (go_at_call 48; with_reducible exact Calls.more_of (Gives.on GB1 _ inferInstance)) | (go_at_call 49; with_reducible exact Calls.more_of (Gives.on GR _ inferInstance)) | (go_at_call 48; with_reducible exact Calls.more_of (Gives.on GB2 _ inferInstance)) | (go_at_call 19; with_reducible exact Calls.more_of (Gives.on G4 _ inferInstance)))))
              refine wpQuiet_nil ?_
              rintro _ ⟨yr, rfl⟩
              go_wp2_with fail
              refine (Gives.on GB1 _ inferInstance).mono ?_
              rintro e w' ⟨rfl, y64, rfl⟩
              go_wp2_with fail
              refine (Gives.on GG _ inferInstance).mono ?_
              rintro e w' ⟨rfl, y65, rfl⟩
              go_wp2_with fail
              refine (Gives.on GB1 _ inferInstance).mono ?_
              rintro e w' ⟨rfl, y66, rfl⟩
              go_wp2_with fail
              refine (Gives.on GB1 _ inferInstance).mono ?_
              rintro e w' ⟨rfl, y67, rfl⟩
              go_wp2_with fail
              refine (Gives.on GS _ inferInstance).mono ?_
              rintro e w' ⟨rfl, y68, rfl⟩
              go_wp2_with fail
              refine (awake_any _).mono ?_
              rintro e w' ⟨rfl, yw, rfl⟩
              go_wp2_with fail
              go_ret
              exact ⟨rfl, After.is_more _ _⟩
            | false =>
              clear hdef eg hs eb hv
              go_enter Try.func13, Try.ntmps13
              go_wp2_with fail
              refine (Gives.on G1 _ inferInstance).mono ?_
              rintro e w' ⟨rfl, y72, rfl⟩
              go_wp2_with fail
              refine (Gives.on G2 _ inferInstance).mono ?_
              rintro e w' ⟨rfl, y73, rfl⟩
              go_wp2_with fail
              refine (Gives.on G3 _ inferInstance).mono ?_
              rintro e w' ⟨rfl, y74, rfl⟩
              go_wp2_with fail
              refine wp_region_more (by kernel_rfl) (by kernel_rfl) ?_
              repeat (go_big_quiet_step ((first | (go_at_call 48; with_reducible exact Calls.more_of (Gives.on GB1 _ inferInstance)) | (go_at_call 49; with_reducible exact Calls.more_of (Gives.on GR _ inferInstance)) | (go_at_call 48; with_reducible exact Calls.more_of (Gives.on GB2 _ inferInstance)) | (go_at_call 19; with_reducible exact Calls.more_of (Gives.on G4 _ inferInstance)))))
              refine wpQuiet_nil ?_
              rintro _ ⟨yr, rfl⟩
              go_wp2_with fail
              refine (Gives.on GB1 _ inferInstance).mono ?_
              rintro e w' ⟨rfl, y64, rfl⟩
              go_wp2_with fail
              refine (Gives.on GG _ inferInstance).mono ?_
              rintro e w' ⟨rfl, y65, rfl⟩
              go_wp2_with fail
              refine (Gives.on GB1 _ inferInstance).mono ?_
              rintro e w' ⟨rfl, y66, rfl⟩
              go_wp2_with fail
              refine (Gives.on GB1 _ inferInstance).mono ?_
              rintro e w' ⟨rfl, y67, rfl⟩
              go_wp2_with fail
              refine (Gives.on GS _ inferInstance).mono ?_
              rintro e w' ⟨rfl, y68, rfl⟩
              go_wp2_with fail
              refine (awake_any _).mono ?_
              rintro e w' ⟨rfl, yw, rfl⟩
              go_wp2_with fail
              go_ret
              exact ⟨rfl, After.is_more _ _⟩
        · have eb : beforeV h l h' l' = false := by
            cases e : beforeV h l h' l' with
            | false => rfl
            | true => exact absurd (before_iff.1 e).1 hv
          have er : beforeV h l h l = false := by
            cases e : beforeV h l h l with
            | false => rfl
            | true => exact absurd (before_refl.1 e) hv
          have GB1 := before_v x x' eb
          have GR := rbefore_v x x' eb
          have GB2 := before_v x x er
          rw [eb] at hdef hs
          rw [Bool.false_and] at hs
          have GS := same_v x x' hs
          have hok : ok = false := by
            rw [gapV_bad2 hv] at eg
            exact (congrArg Prod.snd eg).symm
          subst hok
          rcases h5 with h5 | h5
          all_goals
            have G4 := check_v x h5
            clear hdef eg hs eb er hv h5
            go_enter Try.func13, Try.ntmps13
            go_wp2_with fail
            refine (Gives.on G1 _ inferInstance).mono ?_
            rintro e w' ⟨rfl, y75, rfl⟩
            go_wp2_with fail
            refine (Gives.on G2 _ inferInstance).mono ?_
            rintro e w' ⟨rfl, y76, rfl⟩
            go_wp2_with fail
            refine (Gives.on G3 _ inferInstance).mono ?_
            rintro e w' ⟨rfl, y77, rfl⟩
            go_wp2_with fail
            refine wp_region_more (by kernel_rfl) (by kernel_rfl) ?_
            repeat (go_big_quiet_step ((first | (go_at_call 48; with_reducible exact Calls.more_of (Gives.on GB1 _ inferInstance)) | (go_at_call 49; with_reducible exact Calls.more_of (Gives.on GR _ inferInstance)) | (go_at_call 48; with_reducible exact Calls.more_of (Gives.on GB2 _ inferInstance)) | (go_at_call 19; with_reducible exact Calls.more_of (Gives.on G4 _ inferInstance)))))
            refine wpQuiet_nil ?_
            rintro _ ⟨yr, rfl⟩
            go_wp2_with fail
            refine (Gives.on GB1 _ inferInstance).mono ?_
            rintro e w' ⟨rfl, y64, rfl⟩
            go_wp2_with fail
            refine (Gives.on GG _ inferInstance).mono ?_
            rintro e w' ⟨rfl, y65, rfl⟩
            go_wp2_with fail
            refine (Gives.on GB1 _ inferInstance).mono ?_
            rintro e w' ⟨rfl, y66, rfl⟩
            go_wp2_with fail
            refine (Gives.on GB1 _ inferInstance).mono ?_
            rintro e w' ⟨rfl, y67, rfl⟩
            go_wp2_with fail
            refine (Gives.on GS _ inferInstance).mono ?_
            rintro e w' ⟨rfl, y68, rfl⟩
            go_wp2_with fail
            refine (awake_any _).mono ?_
            rintro e w' ⟨rfl, yw, rfl⟩
            go_wp2_with fail
            go_ret
            exact ⟨rfl, After.is_more _ _⟩

set_option maxRecDepth 100000 in
theorem lifted (os : Os) (started : os.Started) (H : Type) (enc : TypeId × Value → H) :
    ReturnsInHanded {} Try.checked os 13 .any (Rows.paceOrdersSpec.pre6 enc Try.prog Try.f13 Rows.paceOrdersRow.domain false) (Rows.paceOrdersSpec.post enc Try.prog Try.f13 false true false false) := by
  refine returnsInHanded_of_change_sized (C := Try.checked) own started (by kernel_rfl) Try.func13
    (ChangeSpec.witness6 (enc := enc) (C := Try.checked) false ⟨#[], #[.agg #[.slice none 0 0, .slice none 0 0], .agg #[.slice none 0 0, .slice none 0 0], .agg #[.slice none 0 0, .slice none 0 0]], []⟩ 8 (by kernel_rfl) (by kernel_rfl) (by kernel_rfl) (by kernel_rfl)) ?_
  intro W base args ds gs before hval0 hW hcnd hsz0 _
  have hval : ∀ (j : Nat) t v, Try.f13.params[j]? = some t → args[j]? = some v → Value.okWide Try.prog W .any base t v := hval0
  have hsz : (DataW.weightsEach Try.prog (Try.f13.params.toList ++ Rows.paceOrdersSpec.plain.varTypes Try.prog) (ds ++ gs)).all (· ≤ reachBytes) = true := hsz0
  have hW' := hW
  obtain ⟨p, q, hA0, hV, rfl, hfz, hnd⟩ := hW
  have hA : DataW.TrodAll enc Try.prog W 0 (fun _ => true) true Try.f13.params.toList args.toList ds p := hA0
  rw [Try.params13] at hA hval hsz
  obtain ⟨v0, vs0, d0, ds0, p0, q0, hargs, rfl, rfl, h0, r0⟩ := trodAll_cons hA
  obtain ⟨v1, vs1, d1, ds1, p1, q1, rfl, rfl, rfl, h1, r1⟩ := trodAll_cons r0
  obtain ⟨v2, vs2, d2, ds2, p2, q2, rfl, rfl, rfl, h2, r2⟩ := trodAll_cons r1
  obtain ⟨rfl, rfl, rfl⟩ := trodAll_nil r2
  obtain rfl : args = #[v0, v1, v2] := by cases args; simp_all
  obtain ⟨rfl, rfl⟩ := trodVars_none hV
  have k0 := h0
  have lt0 : ∀ x ∈ p0, x.block < W.heap.size := by obtain ⟨m, hm⟩ := k0; exact DataW.trod_lt m _ _ _ hm
  have z0 : ∀ n ∈ d0.weights Try.prog 24, n ≤ reachBytes := fun n hn => by
    simpa using List.all_eq_true.1 hsz n (DataW.weights_mem_each (j := 0) (t := 24) rfl rfl n hn)
  obtain ⟨A0, c0, B0, c0', hl0, ll0, rfl, x0⟩ := open_word (e := 4) Try.underlying24 (by kernel_rfl) (by kernel_rfl) Try.underlying22 Try.underlying22 Try.underlying4 (by kernel_rfl) (by kernel_rfl) (hval 0 24 v0 rfl rfl) h0 z0
  have k1 := h1
  have lt1 : ∀ x ∈ p1, x.block < W.heap.size := by obtain ⟨m, hm⟩ := k1; exact DataW.trod_lt m _ _ _ hm
  have z1 : ∀ n ∈ d1.weights Try.prog 24, n ≤ reachBytes := fun n hn => by
    simpa using List.all_eq_true.1 hsz n (DataW.weights_mem_each (j := 1) (t := 24) rfl rfl n hn)
  obtain ⟨A1, c1, B1, c1', hl1, ll1, rfl, x1⟩ := open_word (e := 4) Try.underlying24 (by kernel_rfl) (by kernel_rfl) Try.underlying22 Try.underlying22 Try.underlying4 (by kernel_rfl) (by kernel_rfl) (hval 1 24 v1 rfl rfl) h1 z1
  have k2 := h2
  have lt2 : ∀ x ∈ p2, x.block < W.heap.size := by obtain ⟨m, hm⟩ := k2; exact DataW.trod_lt m _ _ _ hm
  have z2 : ∀ n ∈ d2.weights Try.prog 24, n ≤ reachBytes := fun n hn => by
    simpa using List.all_eq_true.1 hsz n (DataW.weights_mem_each (j := 2) (t := 24) rfl rfl n hn)
  obtain ⟨A2, c2, B2, c2', hl2, ll2, rfl, x2⟩ := open_word (e := 4) Try.underlying24 (by kernel_rfl) (by kernel_rfl) Try.underlying22 Try.underlying22 Try.underlying4 (by kernel_rfl) (by kernel_rfl) (hval 2 24 v2 rfl rfl) h2 z2
  clear hA0 hval0 hsz0 hsz
  refine (walk W x0 x1 x2).mono fun e W' ⟨he, y, hy⟩ => ?_
  subst he
  have bel : Below W.heap.size W W' := by rw [hy]; exact more_below W y
  exact ⟨_, rfl, _, _, _, [], _, [], hW', trodAll_mk1 (shut_bool Try.underlying4 _), (trodAll_cons_mk (Below.trod laidOut (by kernel_rfl) (of_decide_eq_true (by kernel_rfl)) k0 bel lt0) (trodAll_cons_mk (Below.trod laidOut (by kernel_rfl) (of_decide_eq_true (by kernel_rfl)) k1 bel lt1) (trodAll_cons_mk (Below.trod laidOut (by kernel_rfl) (of_decide_eq_true (by kernel_rfl)) k2 bel lt2) trodAll_mk0))), rfl, bel.frame _, fun h => by cases h⟩

theorem over : Rows.paceOrdersRow.holds Try.pinned (OpenSpec.ofChange Rows.paceOrdersSpec) :=
  OpenClaim.holds_of_wide 13 Try.f13 rfl rfl rfl rfl rfl rfl rfl ⟨rfl, rfl, rfl, rfl, rfl⟩ rfl rfl rfl rfl rfl (by kernel_rfl) Try.func13 (by kernel_rfl)
    (of_decide_eq_true (by kernel_rfl)) (by unfold Func.isWrapper; first | (rw [if_pos (by decide +kernel)]; kernel_rfl) | (rw [if_neg (by decide +kernel)]; exact ⟨rfl, rfl⟩))
    (fun os started H enc _ => lifted os started H enc)

theorem proved : Rows.PaceOrdersSaid := over
#print axioms proved
end Go.Proofs.Ytglfocldoaigiaa.paceOrders
