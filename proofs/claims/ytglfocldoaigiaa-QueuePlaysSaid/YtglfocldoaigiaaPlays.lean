/-
  The walk of the law QueuePlays.
-/
import Derived.Test.YtglfocldoaigiaaTwo
import Derived.Test.YtglfocldoaigiaaLift2
namespace Go.Proofs.Ytglfocldoaigiaa
open Go.RowKit Go.BigFrame

theorem RA.pair {w : World} {A c l} (h : RA w A c l) {k : Nat} (hk : k < l.length) :
    ∃ ad b v, A = some ad ∧ Le (ad.block + 1) w ∧ (∀ (U : World) [After w U], U.cell? (ad.add (k * 2)) = some (.bool b)) ∧ (∀ (U : World) [After w U], U.cell? ⟨(ad.add (k * 2)).block, (ad.add (k * 2)).off + 1, none⟩ = some (.int .i64 v)) := by
  obtain ⟨ad, e, hb, h0, h1⟩ := h.cells k l[k] (List.getElem?_eq_getElem hk)
  refine ⟨ad, l[k].1, l[k].2, e, ⟨hb⟩, fun U _ => ?_, fun U _ => ?_⟩
  · obtain ⟨ad', e', _, h0, _⟩ := (h.here U).cells k l[k] (List.getElem?_eq_getElem hk)
    rw [e] at e'; cases e'; exact h0
  · obtain ⟨ad', e', _, _, h1⟩ := (h.here U).cells k l[k] (List.getElem?_eq_getElem hk)
    rw [e] at e'; cases e'; rw [← add_of_add] at h1; exact h1

set_option maxRecDepth 100000 in
set_option maxHeartbeats 4000000 in
theorem plays_any {A c A2 c2} {init : List Int} {l : List (Bool × Int)} (w : World) (room : Int) (x : RI w A c init) (y : RA w A2 c2 l) :
    Calls Try.prog 10 #[.int .i64 room, .slice A init.length c, .slice A2 l.length c2] w fun e w' => e = .returned (.bool true) ∧ ∃ y, w' = w.more y := by
  have hl1 := x.len
  have hl2 := y.len
  by_cases b1 : (60 : Int) < (init.length : Nat)
  · go_enter Try.func10, Try.ntmps10
    go_wp2_with fail
    refine (lives_any _).mono ?_
    rintro e w' ⟨rfl, y, rfl⟩
    go_wp2_with fail
    go_ret
    exact ⟨rfl, After.is_more _ _⟩
  by_cases b2 : (60 : Int) < (l.length : Nat)
  · go_enter Try.func10, Try.ntmps10
    go_wp2_with fail
    refine (lives_any _).mono ?_
    rintro e w' ⟨rfl, y, rfl⟩
    go_wp2_with fail
    go_ret
    exact ⟨rfl, After.is_more _ _⟩
  by_cases hb : room < 0 ∨ 65536 < room ∨ room < init.length
  · have HB := Lib.hid hb
    clear hb
    go_enter Try.func10, Try.ntmps10
    go_wp2_with fail
    refine (new_bad x _ room HB.out).mono ?_
    rintro e w' ⟨rfl, y, rfl⟩
    go_wp2_with fail
    refine (rnew_bad x _ room HB.out).mono ?_
    rintro e w' ⟨rfl, y, rfl⟩
    go_wp2_with fail
    refine (lives_any _).mono ?_
    rintro e w' ⟨rfl, y, rfl⟩
    go_wp2_with fail
    go_ret
    exact ⟨rfl, After.is_more _ _⟩
  have h0 : 0 ≤ room := by omega
  have h1 : room ≤ 65536 := by omega
  have h2 : init.length ≤ room := by omega
  clear hb
  go_enter Try.func10, Try.ntmps10
  go_wp2_with fail
  refine (new_ok x _ room h0 h1 h2).mono ?_
  rintro e w' ⟨g, r, rfl, hq, hg, hr, y1, rfl⟩
  have HQ := Lib.hid hq
  have HR := Lib.hid hr
  clear hq hr
  go_wp2_with fail
  refine (rnew_ok x _ room h0 h1 h2).mono ?_
  rintro e w' ⟨g2, r2, rfl, hq2, hg2, hr2, y2, rfl⟩
  have HT : Hid (Two w ((w.more y1).more y2) g g2 room init init.length init init.length) := by
    have l1 := HQ.out.lt
    have lr := HQ.out.rlt
    have s1 := more_size w y1
    exact ⟨r, r2, HQ.out.more y2, hq2, by omega, fun e => by have := lr g2 e; omega, fun e => by have := hr2 g e; omega, fun k hk e => by have := lr k hk; have := hr2 k e; omega, hg, by omega, HR.out, fun k hk => by have := hr2 k hk; omega⟩
  clear hq2 hr2 HQ HR hg hg2
  go_wp2_with fail
  go_loopw [11] (fun i wr => ∃ (k : Nat) (xs : List Int) (peak : Int), i = .int .i64 (k : Nat) ∧ k ≤ l.length ∧ xs.length ≤ 60 + k ∧ Hid (Two w wr g g2 room xs peak xs peak) ∧ After w wr) (fun i _ => l.length - (intOf i).toNat)
  case atStart => exact ⟨0, init, init.length, rfl, by omega, by omega, HT, inferInstance⟩
  case round =>
    clear HT
    obtain ⟨k, xs, peak, rfl, hk, hxs, HT, haft⟩ := hrel
    obtain ⟨z, rfl⟩ := After.is_more w wr
    by_cases hlt : k < l.length
    · obtain ⟨ad, b, v, rfl, i1, hc0, hc1⟩ := y.pair hlt
      have hltI : (k : Int) < (l.length : Nat) := by omega
      have hle100 : room ≤ 100000 := by omega
      cases b
      · by_cases hfull : room ≤ xs.length
        · skip
          go_wp2_with fail
          have tk1 : True := trivial
          have tk2 : True := trivial
          go_region_held3 (fun V => V.cell? ⟨(ad.add (k * 2)).block, (ad.add (k * 2)).off + 1, none⟩ = some (.int .i64 v)) (exact hc1 _)
            (first
              | (have _t := tk1; go_at_call 39; (with_reducible refine (two_push_full (HT.out.after inferInstance) inferInstance v hfull).mono ?_); rintro e v1 ⟨rfl, y6, hv1, ht1⟩; have a1 : After w v1 := (by rw [hv1]; infer_instance); rw [← hv1] at ht1; have HT1 := Lib.hid ht1; clear hv1 ht1 _t tk1)
              | (have _t := tk2; go_at_call 40; (with_reducible refine (two_rpush_full (HT1.out.after inferInstance) inferInstance v hfull).mono ?_); rintro e v2 ⟨rfl, y7, hv2, ht2⟩; have a2 : After w v2 := (by rw [hv2]; infer_instance); rw [← hv2] at ht2; have HT2 := Lib.hid ht2; clear hv2 ht2 _t tk2))
          replace HT := HT2
          clear HT1 HT2 a1
          obtain ⟨z2, rfl⟩ := After.is_more w v2
          go_wp2_with fail
          refine (two_len HT.out inferInstance).mono ?_
          rintro e w' ⟨rfl, y, rfl, ht⟩
          replace HT := Lib.hid ht
          clear ht
          go_wp2_with fail
          refine (two_rlen HT.out inferInstance).mono ?_
          rintro e w' ⟨rfl, y, rfl, ht⟩
          replace HT := Lib.hid ht
          clear ht
          go_wp2_with fail
          refine (two_peak HT.out inferInstance).mono ?_
          rintro e w' ⟨rfl, y, rfl, ht⟩
          replace HT := Lib.hid ht
          clear ht
          go_wp2_with fail
          refine (two_rpeak HT.out inferInstance).mono ?_
          rintro e w' ⟨rfl, y, rfl, ht⟩
          replace HT := Lib.hid ht
          clear ht
          go_wp2_with fail
          refine (two_list HT.out inferInstance (by first | (simp only [List.length_nil]; omega) | (simp only [List.length_cons] at hxs; omega) | omega | (simp at hxs ⊢; omega))).mono ?_
          rintro e w' ⟨A3, c3, rfl, y3, rfl, x3, ht⟩
          replace HT := Lib.hid ht
          have X3 := Lib.hid x3
          clear ht x3
          go_wp2_with fail
          refine (two_rlist HT.out (by first | (simp only [List.length_nil]; omega) | (simp only [List.length_cons] at hxs; omega) | omega | (simp at hxs ⊢; omega))).mono ?_
          rintro e w' ⟨A4, c4, rfl, x4, y4, rfl⟩
          replace HT := Lib.hid (HT.out.after (w' := (w.more y3).more y4) inferInstance)
          have X4 := Lib.hid x4
          clear x4
          go_wp2_with fail
          refine (ints_same (X3.out.here _) X4.out _).mono ?_
          rintro e w' ⟨rfl, y5, rfl⟩
          replace HT := Lib.hid (HT.out.after (w' := ((w.more y3).more y4).more y5) inferInstance)
          go_wp2_with fail
          go_roundw
          case rel => first | exact ⟨k + 1, _, _, by go_num, by omega, by first | omega | (simp at hxs ⊢ <;> omega), HT, inferInstance⟩ | ((repeat apply Exists.intro); exact ⟨⟨k + 1, _, _, by go_num, by omega, by first | omega | (simp at hxs ⊢ <;> omega), HT, inferInstance⟩, rfl⟩)
          case measure => simp [intOf]; omega
        · skip
          have hroom : (xs.length : Int) < room := by omega
          go_wp2_with fail
          have tk1 : True := trivial
          have tk2 : True := trivial
          go_region_held3 (fun V => V.cell? ⟨(ad.add (k * 2)).block, (ad.add (k * 2)).off + 1, none⟩ = some (.int .i64 v)) (exact hc1 _)
            (first
              | (have _t := tk1; go_at_call 39; (with_reducible refine (two_push (HT.out.after inferInstance) inferInstance v hroom hle100).mono ?_); rintro e v1 ⟨rfl, y6, hv1, ht1⟩; have a1 : After w v1 := (by rw [hv1]; infer_instance); rw [← hv1] at ht1; have HT1 := Lib.hid ht1; clear hv1 ht1 _t tk1)
              | (have _t := tk2; go_at_call 40; (with_reducible refine (two_rpush (HT1.out.after inferInstance) inferInstance v hroom hle100).mono ?_); rintro e v2 ⟨rfl, y7, hv2, ht2⟩; have a2 : After w v2 := (by rw [hv2]; infer_instance); rw [← hv2] at ht2; have HT2 := Lib.hid ht2; clear hv2 ht2 _t tk2))
          replace HT := HT2
          clear HT1 HT2 a1
          obtain ⟨ys, hys⟩ : ∃ ys : List Int, xs ++ [v] = ys := ⟨_, rfl⟩
          have hyl : ys.length ≤ 60 + (k + 1) := by rw [← hys]; simp; omega
          obtain ⟨pk, hpk⟩ : ∃ p : Int, max peak ((xs.length : Int) + 1) = p := ⟨_, rfl⟩
          rw [hys, hpk] at HT
          clear hys hpk
          obtain ⟨z2, rfl⟩ := After.is_more w v2
          go_wp2_with fail
          refine (two_len HT.out inferInstance).mono ?_
          rintro e w' ⟨rfl, y, rfl, ht⟩
          replace HT := Lib.hid ht
          clear ht
          go_wp2_with fail
          refine (two_rlen HT.out inferInstance).mono ?_
          rintro e w' ⟨rfl, y, rfl, ht⟩
          replace HT := Lib.hid ht
          clear ht
          go_wp2_with fail
          refine (two_peak HT.out inferInstance).mono ?_
          rintro e w' ⟨rfl, y, rfl, ht⟩
          replace HT := Lib.hid ht
          clear ht
          go_wp2_with fail
          refine (two_rpeak HT.out inferInstance).mono ?_
          rintro e w' ⟨rfl, y, rfl, ht⟩
          replace HT := Lib.hid ht
          clear ht
          go_wp2_with fail
          refine (two_list HT.out inferInstance (by first | (simp only [List.length_nil]; omega) | (simp only [List.length_cons] at hxs; omega) | omega | (simp at hxs ⊢; omega))).mono ?_
          rintro e w' ⟨A3, c3, rfl, y3, rfl, x3, ht⟩
          replace HT := Lib.hid ht
          have X3 := Lib.hid x3
          clear ht x3
          go_wp2_with fail
          refine (two_rlist HT.out (by first | (simp only [List.length_nil]; omega) | (simp only [List.length_cons] at hxs; omega) | omega | (simp at hxs ⊢; omega))).mono ?_
          rintro e w' ⟨A4, c4, rfl, x4, y4, rfl⟩
          replace HT := Lib.hid (HT.out.after (w' := (w.more y3).more y4) inferInstance)
          have X4 := Lib.hid x4
          clear x4
          go_wp2_with fail
          refine (ints_same (X3.out.here _) X4.out _).mono ?_
          rintro e w' ⟨rfl, y5, rfl⟩
          replace HT := Lib.hid (HT.out.after (w' := ((w.more y3).more y4).more y5) inferInstance)
          go_wp2_with fail
          go_roundw
          case rel => first | exact ⟨k + 1, _, _, by go_num, by omega, by first | omega | (simp at hxs ⊢ <;> omega), HT, inferInstance⟩ | ((repeat apply Exists.intro); exact ⟨⟨k + 1, _, _, by go_num, by omega, by first | omega | (simp at hxs ⊢ <;> omega), HT, inferInstance⟩, rfl⟩)
          case measure => simp [intOf]; omega
      · cases xs with
        | nil =>
          go_wp2_with fail
          refine (two_pop_empty HT.out inferInstance).mono ?_
          rintro e w' ⟨rfl, y, rfl, ht⟩
          replace HT := Lib.hid ht
          clear ht
          go_wp2_with fail
          refine (two_rpop_empty HT.out inferInstance).mono ?_
          rintro e w' ⟨rfl, y, rfl, ht⟩
          replace HT := Lib.hid ht
          clear ht
          obtain ⟨ys, hys⟩ : ∃ ys : List Int, [] = ys := ⟨_, rfl⟩
          have hyl : ys.length ≤ 60 + (k + 1) := by rw [← hys]; simp
          rw [hys] at HT
          clear hys
          go_wp2_with fail
          refine (two_len HT.out inferInstance).mono ?_
          rintro e w' ⟨rfl, y, rfl, ht⟩
          replace HT := Lib.hid ht
          clear ht
          go_wp2_with fail
          refine (two_rlen HT.out inferInstance).mono ?_
          rintro e w' ⟨rfl, y, rfl, ht⟩
          replace HT := Lib.hid ht
          clear ht
          go_wp2_with fail
          refine (two_peak HT.out inferInstance).mono ?_
          rintro e w' ⟨rfl, y, rfl, ht⟩
          replace HT := Lib.hid ht
          clear ht
          go_wp2_with fail
          refine (two_rpeak HT.out inferInstance).mono ?_
          rintro e w' ⟨rfl, y, rfl, ht⟩
          replace HT := Lib.hid ht
          clear ht
          go_wp2_with fail
          refine (two_list HT.out inferInstance (by first | (simp only [List.length_nil]; omega) | (simp only [List.length_cons] at hxs; omega) | omega | (simp at hxs ⊢; omega))).mono ?_
          rintro e w' ⟨A3, c3, rfl, y3, rfl, x3, ht⟩
          replace HT := Lib.hid ht
          have X3 := Lib.hid x3
          clear ht x3
          go_wp2_with fail
          refine (two_rlist HT.out (by first | (simp only [List.length_nil]; omega) | (simp only [List.length_cons] at hxs; omega) | omega | (simp at hxs ⊢; omega))).mono ?_
          rintro e w' ⟨A4, c4, rfl, x4, y4, rfl⟩
          replace HT := Lib.hid (HT.out.after (w' := (w.more y3).more y4) inferInstance)
          have X4 := Lib.hid x4
          clear x4
          go_wp2_with fail
          refine (ints_same (X3.out.here _) X4.out _).mono ?_
          rintro e w' ⟨rfl, y5, rfl⟩
          replace HT := Lib.hid (HT.out.after (w' := ((w.more y3).more y4).more y5) inferInstance)
          go_wp2_with fail
          go_roundw
          case rel => first | exact ⟨k + 1, _, _, by go_num, by omega, by first | omega | (simp at hxs ⊢ <;> omega), HT, inferInstance⟩ | ((repeat apply Exists.intro); exact ⟨⟨k + 1, _, _, by go_num, by omega, by first | omega | (simp at hxs ⊢ <;> omega), HT, inferInstance⟩, rfl⟩)
          case measure => simp [intOf]; omega
        | cons a xs =>
          go_wp2_with fail
          refine (two_pop HT.out inferInstance).mono ?_
          rintro e w' ⟨rfl, y, rfl, ht⟩
          replace HT := Lib.hid ht
          clear ht
          go_wp2_with fail
          refine (two_rpop HT.out inferInstance).mono ?_
          rintro e w' ⟨rfl, y, rfl, ht⟩
          replace HT := Lib.hid ht
          clear ht
          go_wp2_with fail
          refine (two_len HT.out inferInstance).mono ?_
          rintro e w' ⟨rfl, y, rfl, ht⟩
          replace HT := Lib.hid ht
          clear ht
          go_wp2_with fail
          refine (two_rlen HT.out inferInstance).mono ?_
          rintro e w' ⟨rfl, y, rfl, ht⟩
          replace HT := Lib.hid ht
          clear ht
          go_wp2_with fail
          refine (two_peak HT.out inferInstance).mono ?_
          rintro e w' ⟨rfl, y, rfl, ht⟩
          replace HT := Lib.hid ht
          clear ht
          go_wp2_with fail
          refine (two_rpeak HT.out inferInstance).mono ?_
          rintro e w' ⟨rfl, y, rfl, ht⟩
          replace HT := Lib.hid ht
          clear ht
          go_wp2_with fail
          refine (two_list HT.out inferInstance (by first | (simp only [List.length_nil]; omega) | (simp only [List.length_cons] at hxs; omega) | omega | (simp at hxs ⊢; omega))).mono ?_
          rintro e w' ⟨A3, c3, rfl, y3, rfl, x3, ht⟩
          replace HT := Lib.hid ht
          have X3 := Lib.hid x3
          clear ht x3
          go_wp2_with fail
          refine (two_rlist HT.out (by first | (simp only [List.length_nil]; omega) | (simp only [List.length_cons] at hxs; omega) | omega | (simp at hxs ⊢; omega))).mono ?_
          rintro e w' ⟨A4, c4, rfl, x4, y4, rfl⟩
          replace HT := Lib.hid (HT.out.after (w' := (w.more y3).more y4) inferInstance)
          have X4 := Lib.hid x4
          clear x4
          go_wp2_with fail
          refine (ints_same (X3.out.here _) X4.out _).mono ?_
          rintro e w' ⟨rfl, y5, rfl⟩
          replace HT := Lib.hid (HT.out.after (w' := ((w.more y3).more y4).more y5) inferInstance)
          go_wp2_with fail
          go_roundw
          case rel => first | exact ⟨k + 1, _, _, by go_num, by omega, by first | omega | (simp at hxs ⊢ <;> omega), HT, inferInstance⟩ | ((repeat apply Exists.intro); exact ⟨⟨k + 1, _, _, by go_num, by omega, by first | omega | (simp at hxs ⊢ <;> omega), HT, inferInstance⟩, rfl⟩)
          case measure => simp [intOf]; omega
    · obtain rfl : k = l.length := by omega
      go_wp2_with fail
      refine (lives_any _).mono ?_
      rintro e w' ⟨rfl, y, rfl⟩
      go_wp2_with fail
      go_ret
      exact ⟨rfl, After.is_more _ _⟩
end Go.Proofs.Ytglfocldoaigiaa
