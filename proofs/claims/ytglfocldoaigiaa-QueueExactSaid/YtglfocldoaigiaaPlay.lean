/-
  Contract: the law's play.
-/
import Derived.Test.YtglfocldoaigiaaLink
import Derived.Test.YtglfocldoaigiaaBools
set_option linter.unusedVariables false
set_option linter.unusedSimpArgs false
namespace Go.Proofs.Ytglfocldoaigiaa
open Go.RowKit Go.BigFrame

def PlayPost (w0 : World) (g : Nat) (room : Int) (res : Except Int PS) (e : Ending) (w' : World) : Prop :=
  match res with
  | .ok s => ∃ A c, e = .returned (.tuple #[.int .i64 0, .slice A s.out.length c]) ∧ RI w' A c s.out ∧ (∃ r, QIs w' 77 g room s.q s.peak r) ∧ ∃ y, w' = w0.more y
  | .error k => ∃ v, e = .returned (.tuple #[.int .i64 k, v]) ∧ ∃ y, w' = w0.more y
theorem PlayPost.err {w0 : World} {g : Nat} {room : Int} {res : Except Int PS} {k : Int} {v : Value} {w' : World} (h : res = .error k) (a : After w0 w') : PlayPost w0 g room res (.returned (.tuple #[.int .i64 k, v])) w' := by
  subst h; exact ⟨v, rfl, After.is_more _ _⟩
theorem PlayPost.ok {w0 : World} {g : Nat} {room : Int} {res : Except Int PS} {q : List Int} {peak : Int} {k : Nat} {out : List Int} {bx : Nat} {cs : Array Value} {A : Option Addr} {c : Nat} {w' : World} (h : res = .ok ⟨q, peak, k, out⟩)
    (hl : Link w0 w' bx cs g room q peak (.slice A out.length c) out) (ho : out.length ≤ 1000000) : PlayPost w0 g room res (.returned (.tuple #[.int .i64 0, .slice A out.length c])) w' := by
  subst h
  obtain ⟨A', c', e, x⟩ := hl.reads ho
  injection e with e1 e2 e3
  subst e1; subst e3
  have := hl.aft
  exact ⟨_, _, rfl, x, hl.queue, After.is_more _ _⟩
theorem ract_l {w0 : World} {A B c d h l} (x : RW w0 A c B d h l) (w : World) (_ : After w0 w) (hv : Valid h l) (t lag : Nat) (ht : t ≤ 1000000) (hlag : lag ≤ 1000000) {v : Bool} (he : act h l lag t = v) :
    Calls Try.prog 63 #[.agg #[.slice A h.length c, .slice B l.length d], .int .i64 (lag : Nat), .int .i64 (t : Nat)] w fun e w' => e = .returned (.bool v) ∧ After w w' := by
  refine (ract_val x w hv t lag ht hlag he).mono ?_
  rintro e w' ⟨rfl, y, rfl⟩
  exact ⟨rfl, inferInstance⟩

set_option maxRecDepth 100000 in
set_option maxHeartbeats 4000000 in
theorem play_any {w0 : World} {A B c d h l} (x : RW w0 A c B d h l) (hv : Valid h l) (w : World) (aft : After w0 w) (fa ta T : Nat) (first : Bool) (room : Int) (g : Nat) {r : Option Nat} {q0 : List Int} {peak0 : Int} (hq : QIs w 77 g room q0 peak0 r)
    (hg : w0.heap.size ≤ g) (hr : ∀ k, r = some k → w0.heap.size ≤ k) (hfa : fa ≤ 64) (hta : ta ≤ 64) (hT : T ≤ 1000) (hroom : room ≤ 100000) :
    Calls Try.prog 30 #[.pointer (some ⟨g, 0, none⟩), .agg #[.slice A h.length c, .slice B l.length d], .int .i64 (fa : Nat), .int .i64 (ta : Nat), .bool first, .int .i64 (T : Nat)] w
      (PlayPost w0 g room (playN h l fa ta first room ⟨q0, peak0, 0, []⟩ T)) := by
  have hh := x.lens
  have HL0 : Hid (Link w0 (w.alloc (.cells #[.slice A h.length c, .slice B l.length d] 24)) w.heap.size #[.slice A h.length c, .slice B l.length d] g room q0 peak0 (.slice none 0 0) []) := by
    obtain ⟨v, hb, hq2⟩ := hq.row
    have lg := hb.lt
    have lr := fun k hk => hq2.lt (g := k) hk
    exact ⟨inferInstance, r, none, hq.after, .inl ⟨rfl, rfl, rfl⟩, Blk.new _ _ _, by simp, by simp, by omega, fun e => by have := lr _ e; omega, by simp, hg, hr, by simp⟩
  have HS : Hid (playN h l fa ta first room ⟨q0, peak0, 0, []⟩ 0 = .ok ⟨q0, peak0, 0, []⟩) := rfl
  generalize hcs : (#[.slice A h.length c, .slice B l.length d] : Array Value) = cs at HL0
  replace hcs := Lib.hid hcs
  obtain ⟨bx, hbx⟩ : ∃ bx, w.heap.size = bx := ⟨_, rfl⟩
  rw [hbx] at HL0
  clear hq hg hr aft
  go_enter Try.func30, Try.ntmps30
  go_wp2_with fail
  go_loopw [14, 15, 16] (fun ov kv tv wr => ∃ (t : Nat) (q : List Int) (peak : Int) (k : Nat) (out : List Int) (A9 : Option Addr) (c9 : Nat), tv = .int .i64 (t : Nat) ∧ kv = .int .i64 (k : Nat) ∧ ov = .slice A9 out.length c9 ∧ t ≤ T ∧ k ≤ 2 * t ∧ out.length ≤ 2 * t ∧
    Hid (playN h l fa ta first room ⟨q0, peak0, 0, []⟩ t = .ok ⟨q, peak, k, out⟩) ∧ Hid (Link w0 wr bx cs g room q peak (.slice A9 out.length c9) out)) (fun _ _ tv _ => T - (intOf tv).toNat)
  case atStart => exact ⟨0, q0, peak0, 0, [], none, 0, rfl, rfl, rfl, by omega, by omega, by simp, HS, by first | exact HL0 | (rw [hcs.out]; exact HL0)⟩
  case round =>
    clear HL0 HS
    obtain ⟨t, q1, peak1, k1, out1, A8, c8, rfl, rfl, rfl, ht, hk1, ho1, HP, HL1⟩ := hrel
    obtain ⟨wo, rfl⟩ : ∃ wo : World, wo = wr := ⟨_, rfl⟩
    by_cases hlt : t < T
    · have hltI : (t : Int) < (T : Int) := by omega
      obtain ⟨pu, hpu⟩ : ∃ b, act h l fa t = b := ⟨_, rfl⟩
      obtain ⟨po, hpo⟩ : ∃ b, act h l ta t = b := ⟨_, rfl⟩
      have HPU := Lib.hid hpu
      have HPO := Lib.hid hpo
      have HST : Hid (∀ (hf : Nat) (s' : PS) (k : Int), hf < 2 → halvesP room pu po first hf ⟨q1, peak1, k1, out1⟩ = .ok s' → halfP room pu po first hf s' = .error k → playN h l fa ta first room ⟨q0, peak0, 0, []⟩ T = .error k) := by
        subst hpu hpo
        exact fun hf s' k h2 e1 e2 => play_stop hlt h2 HP.out e1 e2
      have HNX : Hid (∀ (s' : PS), halvesP room pu po first 2 ⟨q1, peak1, k1, out1⟩ = .ok s' → playN h l fa ta first room ⟨q0, peak0, 0, []⟩ (t + 1) = .ok s') := by
        subst hpu hpo
        exact fun s' e => play_step HP.out e
      clear hpu hpo HP
      go_wp2_with fail
      go_loopw [14, 15, 17] (fun ov kv hv wr => ∃ (hf : Nat) (q : List Int) (peak : Int) (k : Nat) (out : List Int) (A9 : Option Addr) (c9 : Nat), hv = .int .i64 (hf : Nat) ∧ kv = .int .i64 (k : Nat) ∧ ov = .slice A9 out.length c9 ∧ hf ≤ 2 ∧ k ≤ 2 * t + hf ∧ out.length ≤ 2 * t + hf ∧
        Hid (halvesP room pu po first hf ⟨q1, peak1, k1, out1⟩ = .ok ⟨q, peak, k, out⟩) ∧ Hid (Link w0 wr bx cs g room q peak (.slice A9 out.length c9) out)) (fun _ _ hv _ => 2 - (intOf hv).toNat)
      case atStart => exact ⟨0, q1, peak1, k1, out1, A8, c8, rfl, rfl, rfl, by omega, by omega, by omega, rfl, HL1⟩
      case round =>
        clear HL1
        obtain ⟨hf, q, peak, k, out, A9, c9, rfl, rfl, rfl, hhf, hk, ho, HH, HL⟩ := hrel
        have aw := HL.out.aft
        have hbk := HL.out.box
        rw [← hcs.out] at hbk
        have d0 : wr.cell? ⟨bx, 0, none⟩ = some (.slice A h.length c) := by rw [hbk.cell]; rfl
        have d1 : wr.cell? ⟨bx, 1, none⟩ = some (.slice B l.length d) := by rw [hbk.cell]; rfl
        have lb := hbk.is_le
        clear hbk
        by_cases h2 : hf < 2
        · have h01 : hf = 0 ∨ hf = 1 := by omega
          rcases h01 with rfl | rfl
          · cases first
            · skip
              cases po
              · skip
                go_wp2_with fail
                refine (ract_l x _ aw hv t ta (by omega) (by omega) HPO.out).mono ?_
                rintro e w1 ⟨rfl, k1_⟩
                have HL1 := Lib.hid (HL.out.after k1_)
                clear k1_
                have aw1 := HL1.out.aft
                go_wp2_with fail
                go_roundw
                case rel => exact ⟨1, q, peak, k, out, A9, c9, rfl, by go_num, by first | rfl | simp, by omega, by omega, by first | omega | (simp; omega), halves_step HH.out (half_nopop rfl rfl), HL1⟩
                case measure => simp [intOf]
              · cases q with
                | nil =>
                  go_wp2_with fail
                  refine (ract_l x _ aw hv t ta (by omega) (by omega) HPO.out).mono ?_
                  rintro e w1 ⟨rfl, k1_⟩
                  have HL1 := Lib.hid (HL.out.after k1_)
                  clear k1_
                  have aw1 := HL1.out.aft
                  go_wp2_with fail
                  refine (link_pop_empty HL1.out).mono ?_
                  rintro e w2 ⟨rfl, k2_⟩
                  have aw2 : After w0 w2 := after_after aw1 k2_
                  clear k2_
                  go_wp2_with fail
                  go_ret2
                  exact PlayPost.err (HST.out 0 _ _ (by omega) HH.out (half_empty rfl rfl rfl)) aw2
                | cons x2 q =>
                  go_wp2_with fail
                  refine (ract_l x _ aw hv t ta (by omega) (by omega) HPO.out).mono ?_
                  rintro e w1 ⟨rfl, k1_⟩
                  have HL1 := Lib.hid (HL.out.after k1_)
                  clear k1_
                  have aw1 := HL1.out.aft
                  go_wp2_with fail
                  refine (link_pop HL1.out).mono ?_
                  rintro e w2 ⟨rfl, hl2⟩
                  have HL2 := Lib.hid hl2
                  clear hl2
                  go_wp2_with (at_builtin; go_loud (refine link_append HL2.out rfl (.tmp 60) (.tmp 62) 40 rfl Try.underlying40 int_info rfl x2 rfl (by omega) ?_; intro A7 c7 w3 hl3; have HL3 := Lib.hid hl3; clear hl3))
                  go_wp2_with fail
                  go_roundw
                  case rel => exact ⟨1, q, peak, k, out ++ [x2], A7, c7, rfl, by go_num, by first | rfl | simp, by omega, by omega, by first | omega | (simp; omega), halves_step HH.out (half_pop rfl rfl rfl), by rw [List.length_append]; exact HL3⟩
                  case measure => simp [intOf]
            · skip
              cases pu
              · skip
                go_wp2_with fail
                refine (ract_l x _ aw hv t fa (by omega) (by omega) HPU.out).mono ?_
                rintro e w1 ⟨rfl, k1_⟩
                have HL1 := Lib.hid (HL.out.after k1_)
                clear k1_
                have aw1 := HL1.out.aft
                go_wp2_with fail
                go_roundw
                case rel => exact ⟨1, q, peak, k, out, A9, c9, rfl, by go_num, by first | rfl | simp, by omega, by omega, by first | omega | (simp; omega), halves_step HH.out (half_nopush rfl rfl), HL1⟩
                case measure => simp [intOf]
              · by_cases hfull : room ≤ q.length
                · skip
                  go_wp2_with fail
                  refine (ract_l x _ aw hv t fa (by omega) (by omega) HPU.out).mono ?_
                  rintro e w1 ⟨rfl, k1_⟩
                  have HL1 := Lib.hid (HL.out.after k1_)
                  clear k1_
                  have aw1 := HL1.out.aft
                  go_wp2_with fail
                  refine (link_push_full HL1.out (k : Nat) hfull).mono ?_
                  rintro e w2 ⟨rfl, k2_⟩
                  have aw2 : After w0 w2 := after_after aw1 k2_
                  clear k2_
                  go_wp2_with fail
                  go_ret2
                  exact PlayPost.err (HST.out 0 _ _ (by omega) HH.out (half_full rfl rfl hfull)) aw2
                · skip
                  have hroom2 : (q.length : Int) < room := by omega
                  go_wp2_with fail
                  refine (ract_l x _ aw hv t fa (by omega) (by omega) HPU.out).mono ?_
                  rintro e w1 ⟨rfl, k1_⟩
                  have HL1 := Lib.hid (HL.out.after k1_)
                  clear k1_
                  have aw1 := HL1.out.aft
                  go_wp2_with fail
                  refine (link_push HL1.out (k : Nat) hroom2 hroom).mono ?_
                  rintro e w2 ⟨rfl, hl2⟩
                  have HL2 := Lib.hid hl2
                  clear hl2
                  go_wp2_with fail
                  go_roundw
                  case rel => exact ⟨1, q ++ [(k : Int)], max peak ((q.length : Int) + 1), k + 1, out, A9, c9, rfl, by go_num, by first | rfl | simp, by omega, by omega, by first | omega | (simp; omega), halves_step HH.out (half_push rfl rfl (by show ¬ room ≤ ((q.length : Nat) : Int); omega)), HL2⟩
                  case measure => simp [intOf]
          · cases first
            · skip
              cases pu
              · skip
                go_wp2_with fail
                refine (ract_l x _ aw hv t fa (by omega) (by omega) HPU.out).mono ?_
                rintro e w1 ⟨rfl, k1_⟩
                have HL1 := Lib.hid (HL.out.after k1_)
                clear k1_
                have aw1 := HL1.out.aft
                go_wp2_with fail
                go_roundw
                case rel => exact ⟨2, q, peak, k, out, A9, c9, rfl, by go_num, by first | rfl | simp, by omega, by omega, by first | omega | (simp; omega), halves_step HH.out (half_nopush rfl rfl), HL1⟩
                case measure => simp [intOf]
              · by_cases hfull : room ≤ q.length
                · skip
                  go_wp2_with fail
                  refine (ract_l x _ aw hv t fa (by omega) (by omega) HPU.out).mono ?_
                  rintro e w1 ⟨rfl, k1_⟩
                  have HL1 := Lib.hid (HL.out.after k1_)
                  clear k1_
                  have aw1 := HL1.out.aft
                  go_wp2_with fail
                  refine (link_push_full HL1.out (k : Nat) hfull).mono ?_
                  rintro e w2 ⟨rfl, k2_⟩
                  have aw2 : After w0 w2 := after_after aw1 k2_
                  clear k2_
                  go_wp2_with fail
                  go_ret2
                  exact PlayPost.err (HST.out 1 _ _ (by omega) HH.out (half_full rfl rfl hfull)) aw2
                · skip
                  have hroom2 : (q.length : Int) < room := by omega
                  go_wp2_with fail
                  refine (ract_l x _ aw hv t fa (by omega) (by omega) HPU.out).mono ?_
                  rintro e w1 ⟨rfl, k1_⟩
                  have HL1 := Lib.hid (HL.out.after k1_)
                  clear k1_
                  have aw1 := HL1.out.aft
                  go_wp2_with fail
                  refine (link_push HL1.out (k : Nat) hroom2 hroom).mono ?_
                  rintro e w2 ⟨rfl, hl2⟩
                  have HL2 := Lib.hid hl2
                  clear hl2
                  go_wp2_with fail
                  go_roundw
                  case rel => exact ⟨2, q ++ [(k : Int)], max peak ((q.length : Int) + 1), k + 1, out, A9, c9, rfl, by go_num, by first | rfl | simp, by omega, by omega, by first | omega | (simp; omega), halves_step HH.out (half_push rfl rfl (by show ¬ room ≤ ((q.length : Nat) : Int); omega)), HL2⟩
                  case measure => simp [intOf]
            · skip
              cases po
              · skip
                go_wp2_with fail
                refine (ract_l x _ aw hv t ta (by omega) (by omega) HPO.out).mono ?_
                rintro e w1 ⟨rfl, k1_⟩
                have HL1 := Lib.hid (HL.out.after k1_)
                clear k1_
                have aw1 := HL1.out.aft
                go_wp2_with fail
                go_roundw
                case rel => exact ⟨2, q, peak, k, out, A9, c9, rfl, by go_num, by first | rfl | simp, by omega, by omega, by first | omega | (simp; omega), halves_step HH.out (half_nopop rfl rfl), HL1⟩
                case measure => simp [intOf]
              · cases q with
                | nil =>
                  go_wp2_with fail
                  refine (ract_l x _ aw hv t ta (by omega) (by omega) HPO.out).mono ?_
                  rintro e w1 ⟨rfl, k1_⟩
                  have HL1 := Lib.hid (HL.out.after k1_)
                  clear k1_
                  have aw1 := HL1.out.aft
                  go_wp2_with fail
                  refine (link_pop_empty HL1.out).mono ?_
                  rintro e w2 ⟨rfl, k2_⟩
                  have aw2 : After w0 w2 := after_after aw1 k2_
                  clear k2_
                  go_wp2_with fail
                  go_ret2
                  exact PlayPost.err (HST.out 1 _ _ (by omega) HH.out (half_empty rfl rfl rfl)) aw2
                | cons x2 q =>
                  go_wp2_with fail
                  refine (ract_l x _ aw hv t ta (by omega) (by omega) HPO.out).mono ?_
                  rintro e w1 ⟨rfl, k1_⟩
                  have HL1 := Lib.hid (HL.out.after k1_)
                  clear k1_
                  have aw1 := HL1.out.aft
                  go_wp2_with fail
                  refine (link_pop HL1.out).mono ?_
                  rintro e w2 ⟨rfl, hl2⟩
                  have HL2 := Lib.hid hl2
                  clear hl2
                  go_wp2_with (at_builtin; go_loud (refine link_append HL2.out rfl (.tmp 60) (.tmp 62) 40 rfl Try.underlying40 int_info rfl x2 rfl (by omega) ?_; intro A7 c7 w3 hl3; have HL3 := Lib.hid hl3; clear hl3))
                  go_wp2_with fail
                  go_roundw
                  case rel => exact ⟨2, q, peak, k, out ++ [x2], A7, c7, rfl, by go_num, by first | rfl | simp, by omega, by omega, by first | omega | (simp; omega), halves_step HH.out (half_pop rfl rfl rfl), by rw [List.length_append]; exact HL3⟩
                  case measure => simp [intOf]
        · obtain rfl : hf = 2 := by omega
          have HN := Lib.hid (HNX.out _ HH.out)
          go_wp2_with fail
          go_roundw
          case rel => exact ⟨t + 1, q, peak, k, out, A9, c9, by go_num, rfl, rfl, by omega, by omega, by omega, HN, HL⟩
          case measure => simp [intOf]; omega
    · obtain rfl : t = T := by omega
      go_wp2_with fail
      go_ret2
      exact PlayPost.ok HP.out HL1.out (by omega)
end Go.Proofs.Ytglfocldoaigiaa
