/-
  Contracts: inverted, not, Not of the program and of the reference; the reference's Same.
-/
import Derived.Test.YtjbpelkdciphnaaRNorm
import Derived.Test.YtjbpelkdciphnaaSame
set_option linter.unusedVariables false
set_option linter.unusedSimpArgs false
namespace Go.Proofs.Ytjbpelkdciphnaa
open Go.RowKit Go.BigFrame
attribute [local go_sem ↓] Go.wp_at_zero Go.wp_at_succ

def inv (l : List Bool) : List Bool := l.map (!·)
theorem inv_length (l : List Bool) : (inv l).length = l.length := by simp [inv]
theorem bv_inv_succ (l : List Bool) (k : Nat) (h : k < l.length) : bv (inv (l.take (k + 1))) = bv (inv (l.take k)) ++ [.bool (!l.getD k false)] := by
  have e : l.getD k false = l[k] := by simp [List.getD_eq_getElem?_getD, h]
  rw [List.take_succ_eq_append_getElem h, e]
  simp only [inv, bv, List.map_append, List.map_cons, List.map_nil]

set_option maxHeartbeats 800000 in
theorem inverted_any {w0 : World} {A c l} (x : RB w0 A c l) (w : World) [After w0 w] (hl : l.length ≤ 1000000) :
    Calls Try.prog 54 #[.slice A l.length c] w fun e w' => ∃ A' c', e = .returned (.slice A' l.length c') ∧ RB w' A' c' (inv l) ∧ From w.heap.size A' ∧ ∃ y, w' = w.more y := by
  replace x := x.here w
  have hcap := x.le
  go_enter Try.func54, Try.ntmps54
  go_wp2_with fail
  go_loopw [3, 8] (fun v i wr => ∃ k : Nat, k ≤ l.length ∧ i = .int .i64 k ∧ Hid (wr.ownsRow w.heap.size 4 1 v k (bv (inv (l.take k)))) ∧ After w wr) (fun _ i _ => l.length - (intOf i).toNat)
  case atStart => exact ⟨0, by omega, rfl, World.ownsRow_nil _ _ _ _, inferInstance⟩
  case round =>
    obtain ⟨k, hk, rfl, HO, haft⟩ := hrel
    obtain ⟨A0, c0, rfl, _, _⟩ := own_slice HO.out
    by_cases hlt : k < l.length
    · obtain ⟨ad, b, rfl, hbk, hc, HB⟩ := (x.here wr).bit hlt
      have HT := Lib.hid (bv_inv_succ l k hlt)
      rw [HB.out] at HT
      have i1 : (0 : Int) ≤ (k : Int) := by omega
      have i2 : (k : Int) < (l.length : Int) := by omega
      have ho := HO
      go_wp2_with (at_builtin; refine wpList_append_one (w0 := w) wr rfl (.tmp 12) (.tmp 15) 22 rfl 4 _ 1 Try.underlying22 boolInfo rfl (.slice A0 k c0) k _ (.bool (!b)) rfl ho.out rfl rfl (by omega) (by omega) ?_; intro v1 w4 hown1 haft1; replace hown1 := Lib.hid hown1)
      go_roundw
      case rel => exact ⟨k + 1, by omega, by go_num, by rw [HT.out]; exact hown1.out, haft1⟩
      case measure => simp [intOf]; omega
    · obtain rfl : k = l.length := by omega
      rw [List.take_length] at HO
      have HO2 : Hid (wr.ownsRow w.heap.size 4 1 (.slice A0 l.length c0) (inv l).length (bv (inv l))) := by rw [inv_length]; exact HO.out
      obtain ⟨A1, c1, e1, x1⟩ := RB.of_own HO2.out (by rw [inv_length]; omega)
      rw [inv_length] at e1
      cases e1
      have X1 := Lib.hid x1
      have n1 := From.of_own HO2.out
      clear x1
      go_wp2_with fail
      go_ret
      exact ⟨A0, c0, rfl, X1.out, n1, After.is_more _ _⟩

set_option maxHeartbeats 800000 in
theorem rinv_any {w0 : World} {A c l} (x : RB w0 A c l) (w : World) [After w0 w] (hl : l.length ≤ 1000000) :
    Calls Try.prog 57 #[.slice A l.length c] w fun e w' => ∃ A' c', e = .returned (.slice A' l.length c') ∧ RB w' A' c' (inv l) ∧ From w.heap.size A' ∧ ∃ y, w' = w.more y := by
  replace x := x.here w
  have hcap := x.le
  go_enter Try.func57, Try.ntmps57
  go_wp2_with fail
  go_loopw [3, 4] (fun v i wr => ∃ k : Nat, k ≤ l.length ∧ i = .int .i64 k ∧ Hid (wr.ownsRow w.heap.size 4 1 v k (bv (inv (l.take k)))) ∧ After w wr) (fun _ i _ => l.length - (intOf i).toNat)
  case atStart => exact ⟨0, by omega, rfl, World.ownsRow_nil _ _ _ _, inferInstance⟩
  case round =>
    obtain ⟨k, hk, rfl, HO, haft⟩ := hrel
    obtain ⟨A0, c0, rfl, _, _⟩ := own_slice HO.out
    by_cases hlt : k < l.length
    · obtain ⟨ad, b, rfl, hbk, hc, HB⟩ := (x.here wr).bit hlt
      have HT := Lib.hid (bv_inv_succ l k hlt)
      rw [HB.out] at HT
      have i1 : (0 : Int) ≤ (k : Int) := by omega
      have i2 : (k : Int) < (l.length : Int) := by omega
      have ho := HO
      go_wp2_with (at_builtin; refine wpList_append_one (w0 := w) wr rfl (.tmp 11) (.tmp 17) 22 rfl 4 _ 1 Try.underlying22 boolInfo rfl (.slice A0 k c0) k _ (.bool (!b)) rfl ho.out rfl rfl (by omega) (by omega) ?_; intro v1 w4 hown1 haft1; replace hown1 := Lib.hid hown1)
      go_roundw
      case rel => exact ⟨k + 1, by omega, by go_num, by rw [HT.out]; exact hown1.out, haft1⟩
      case measure => simp [intOf]; omega
    · obtain rfl : k = l.length := by omega
      rw [List.take_length] at HO
      have HO2 : Hid (wr.ownsRow w.heap.size 4 1 (.slice A0 l.length c0) (inv l).length (bv (inv l))) := by rw [inv_length]; exact HO.out
      obtain ⟨A1, c1, e1, x1⟩ := RB.of_own HO2.out (by rw [inv_length]; omega)
      rw [inv_length] at e1
      cases e1
      have X1 := Lib.hid x1
      have n1 := From.of_own HO2.out
      clear x1
      go_wp2_with fail
      go_ret
      exact ⟨A0, c0, rfl, X1.out, n1, After.is_more _ _⟩

open Classical in
noncomputable def notW (h l : List Bool) : List Bool × List Bool := if Valid h l then (inv h, inv l) else ([], [])
theorem notW_ok {h l : List Bool} (hv : Valid h l) : notW h l = (inv h, inv l) := by unfold notW; rw [if_pos hv]
theorem notW_bad {h l : List Bool} (hv : ¬ Valid h l) : notW h l = ([], []) := by unfold notW; rw [if_neg hv]

set_option maxHeartbeats 800000 in
theorem not_any {w0 : World} {A B c d h l} (x : RW w0 A c B d h l) (w : World) [After w0 w] :
    Calls Try.prog 29 #[.agg #[.slice A h.length c, .slice B l.length d]] w fun e w' => ∃ A' c' B' d', e = .returned (.agg #[.slice A' (notW h l).1.length c', .slice B' (notW h l).2.length d']) ∧
      RW w' A' c' B' d' (notW h l).1 (notW h l).2 ∧ ∃ y, w' = w.more y := by
  replace x := x.here w
  have HZ : Hid (∀ U : World, After ((w.alloc (.cells #[.slice A h.length c, .slice B l.length d] 24)).alloc (.cells #[.slice none 0 0, .slice none 0 0] 24)) U → Blk U (w.heap.size + 1) 24 #[.slice none 0 0, .slice none 0 0]) := by
    intro U k
    have := (Blk.new (w.alloc (.cells #[.slice A h.length c, .slice B l.length d] 24)) 24 #[.slice none 0 0, .slice none 0 0]).after (w' := U)
    rwa [size_alloc_] at this
  have iN : New w (w.heap.size + 1) := ⟨by omega⟩
  rcases check_cases h l with hv | ⟨hv, h5⟩
  · have hc0 := Lib.hid (checkI_0 hv)
    have HF := Lib.hid (notW_ok hv)
    obtain ⟨hl, h64⟩ := hv
    have iB : New (w.alloc (.cells #[.slice A h.length c, .slice B l.length d] 24)) (w.heap.size + 1) := ⟨by simp⟩
    have HK : Hid (∀ U : World, After (w.alloc (.cells #[.slice A h.length c, .slice B l.length d] 24)) U → U.cell? ⟨w.heap.size, 0, none⟩ = some (.slice A h.length c) ∧ U.cell? ⟨w.heap.size, 1, none⟩ = some (.slice B l.length d)) := by
      intro U k
      have := ((Blk.new w 24 #[.slice A h.length c, .slice B l.length d]).after (w' := U))
      exact ⟨by rw [this.cell]; rfl, by rw [this.cell]; rfl⟩
    have GH : Hid (∀ U, After w U → Calls Try.prog 54 #[.slice A h.length c] U fun e w' => ∃ A' c', e = .returned (.slice A' h.length c') ∧ RB w' A' c' (inv h) ∧ From U.heap.size A' ∧ ∃ y, w' = U.more y) := fun U _ => inverted_any x.head U (by omega)
    have GL : Hid (∀ U, After w U → Calls Try.prog 54 #[.slice B l.length d] U fun e w' => ∃ A' c', e = .returned (.slice A' l.length c') ∧ RB w' A' c' (inv l) ∧ From U.heap.size A' ∧ ∃ y, w' = U.more y) := fun U _ => inverted_any x.loop U (by omega)
    go_enter Try.func29, Try.ntmps29
    go_wp2_with (go_at_call 19; refine (check_val x _ hc0.out).mono ?_; rintro e w' ⟨rfl, y, rfl⟩)
    obtain ⟨U1, hU1, aU1⟩ : ∃ U1, ((w.alloc (.cells #[.slice A h.length c, .slice B l.length d] 24)).alloc (.cells #[.slice none 0 0, .slice none 0 0] 24)).more y = U1 ∧ After ((w.alloc (.cells #[.slice A h.length c, .slice B l.length d] 24)).alloc (.cells #[.slice none 0 0, .slice none 0 0] 24)) U1 := ⟨_, rfl, inferInstance⟩
    rw [hU1]
    clear hU1
    have bU1 : After (w.alloc (.cells #[.slice A h.length c, .slice B l.length d] 24)) U1 := after_after inferInstance aU1
    have aw1 : After w U1 := after_after inferInstance bU1
    have q0 := (HK.out U1 bU1).1
    have q1 := (HK.out U1 bU1).2
    have tk1 : True := trivial
    have tk2 : True := trivial
    go_region_held3 (fun U => U.cell? ⟨w.heap.size, 0, none⟩ = some (.slice A h.length c) ∧ U.cell? ⟨w.heap.size, 1, none⟩ = some (.slice B l.length d)) (exact HK.out _ inferInstance)
      (first
        | (have _t := tk1; go_at_call 54; (with_reducible refine (GH.out _ (after_after aw1 inferInstance)).mono ?_); rintro e w1 ⟨A1, c1, rfl, x1, n1, hy⟩; have a1 : After U1 w1 := after_of_more hy inferInstance; have b1 : After (w.alloc (.cells #[.slice A h.length c, .slice B l.length d] 24)) w1 := after_after bU1 a1; clear hy _t tk1)
        | (have _t := tk2; go_at_call 54; (with_reducible refine (GL.out _ (after_after aw1 (after_after a1 inferInstance))).mono ?_); rintro e w3 ⟨A5, c5, rfl, x5, n5, hy⟩; have d3 : After w1 w3 := after_of_more hy inferInstance; have a3 : After U1 w3 := after_after a1 d3; have b3 : After (w.alloc (.cells #[.slice A h.length c, .slice B l.length d] 24)) w3 := after_after bU1 a3; clear hy _t tk2; have z6 := Lib.hid (HZ.out w3 (after_after aU1 a3)); have d0 : w3.cell? ⟨w.heap.size + 1, 0, none⟩ = some (.slice none 0 0) := (by rw [z6.out.cell]; rfl); have d1 : w3.cell? ⟨w.heap.size + 1, 1, none⟩ = some (.slice none 0 0) := (by rw [z6.out.cell]; rfl); have f0 := z6.out.frozen 0; have f1 := z6.out.frozen 1; have l6 := z6.out.is_le))
    have X1 := Lib.hid (x1.here w3)
    have X5 := Lib.hid x5
    have aw : After w w3 := after_after aw1 a3
    have hz : w.heap.size + 2 ≤ U1.heap.size := by have := aU1.below.size; simp at this; omega
    have hz1 := a1.below.size
    replace n1 : From (w.heap.size + 2) A1 := n1.mono (by (try simp only [drew_heap]); omega)
    replace n5 : From (w.heap.size + 2) A5 := n5.mono (by (try simp only [drew_heap]); omega)
    clear x5 x1
    go_wp2_with fail
    have r2 := (z6.out.set_ 0 (.slice A1 h.length c1)).set_ 1 (.slice A5 l.length c5)
    have k0 : ((w3.setCell ⟨w.heap.size + 1, 0, none⟩ (.slice A1 h.length c1)).setCell ⟨w.heap.size + 1, 1, none⟩ (.slice A5 l.length c5)).cell? ⟨w.heap.size + 1, 0, none⟩ = some (.slice A1 h.length c1) := by rw [r2.cell]; rfl
    have k1 : ((w3.setCell ⟨w.heap.size + 1, 0, none⟩ (.slice A1 h.length c1)).setCell ⟨w.heap.size + 1, 1, none⟩ (.slice A5 l.length c5)).cell? ⟨w.heap.size + 1, 1, none⟩ = some (.slice A5 l.length c5) := by rw [r2.cell]; rfl
    refine bodyPost_ret (v := .agg #[.slice A1 h.length c1, .slice A5 l.length c5]) (by simp [results, Try.results29, go_sem, k0, k1]) rfl ⟨A1, c1, A5, c5, by rw [HF.out, inv_length, inv_length], ?_, After.is_more _ _⟩
    rw [HF.out]
    exact ⟨(X1.out.set_ n1 (by omega) 0 _).set_ n1 (by omega) 1 _, (X5.out.set_ n5 (by omega) 0 _).set_ n5 (by omega) 1 _⟩
  · have HF := Lib.hid (notW_bad hv)
    rcases h5 with h5 | h5
    all_goals
      have hc0 := Lib.hid h5
      clear h5
      go_enter Try.func29, Try.ntmps29
      go_wp2_with fail
      refine (check_val x _ hc0.out).mono ?_
      rintro e w' ⟨rfl, y, rfl⟩
      obtain ⟨W6, hW6, a5⟩ : ∃ W6, ((w.alloc (.cells #[.slice A h.length c, .slice B l.length d] 24)).alloc (.cells #[.slice none 0 0, .slice none 0 0] 24)).more y = W6 ∧ After ((w.alloc (.cells #[.slice A h.length c, .slice B l.length d] 24)).alloc (.cells #[.slice none 0 0, .slice none 0 0] 24)) W6 := ⟨_, rfl, inferInstance⟩
      rw [hW6]
      clear hW6
      have aw : After w W6 := after_after inferInstance a5
      have z6 := Lib.hid (HZ.out W6 a5)
      have d0 : W6.cell? ⟨w.heap.size + 1, 0, none⟩ = some (.slice none 0 0) := by rw [z6.out.cell]; rfl
      have d1 : W6.cell? ⟨w.heap.size + 1, 1, none⟩ = some (.slice none 0 0) := by rw [z6.out.cell]; rfl
      have f0 := z6.out.frozen 0
      have f1 := z6.out.frozen 1
      have l6 := z6.out.is_le
      go_wp2_with fail
      have r2 := (z6.out.set_ 0 (.slice none 0 0)).set_ 1 (.slice none 0 0)
      have k0 : ((W6.setCell ⟨w.heap.size + 1, 0, none⟩ (.slice none 0 0)).setCell ⟨w.heap.size + 1, 1, none⟩ (.slice none 0 0)).cell? ⟨w.heap.size + 1, 0, none⟩ = some (.slice none 0 0) := by rw [r2.cell]; rfl
      have k1 : ((W6.setCell ⟨w.heap.size + 1, 0, none⟩ (.slice none 0 0)).setCell ⟨w.heap.size + 1, 1, none⟩ (.slice none 0 0)).cell? ⟨w.heap.size + 1, 1, none⟩ = some (.slice none 0 0) := by rw [r2.cell]; rfl
      refine bodyPost_ret (v := .agg #[.slice none 0 0, .slice none 0 0]) (by simp [results, Try.results29, go_sem, k0, k1]) rfl ⟨none, 0, none, 0, by rw [HF.out]; rfl, ?_, After.is_more _ _⟩
      rw [HF.out]
      exact ⟨RB.nil_ _, RB.nil_ _⟩

set_option maxHeartbeats 800000 in
theorem rnot_any {w0 : World} {A B c d h l} (x : RW w0 A c B d h l) (w : World) [After w0 w] :
    Calls Try.prog 34 #[.agg #[.slice A h.length c, .slice B l.length d]] w fun e w' => ∃ A' c' B' d', e = .returned (.agg #[.slice A' (notW h l).1.length c', .slice B' (notW h l).2.length d']) ∧
      RW w' A' c' B' d' (notW h l).1 (notW h l).2 ∧ ∃ y, w' = w.more y := by
  replace x := x.here w
  have HZ : Hid (∀ U : World, After ((w.alloc (.cells #[.slice A h.length c, .slice B l.length d] 24)).alloc (.cells #[.slice none 0 0, .slice none 0 0] 24)) U → Blk U (w.heap.size + 1) 24 #[.slice none 0 0, .slice none 0 0]) := by
    intro U k
    have := (Blk.new (w.alloc (.cells #[.slice A h.length c, .slice B l.length d] 24)) 24 #[.slice none 0 0, .slice none 0 0]).after (w' := U)
    rwa [size_alloc_] at this
  have iN : New w (w.heap.size + 1) := ⟨by omega⟩
  rcases check_cases h l with hv | ⟨hv, h5⟩
  · have hc0 := Lib.hid (checkI_0 hv)
    have HF := Lib.hid (notW_ok hv)
    obtain ⟨hl, h64⟩ := hv
    have iB : New (w.alloc (.cells #[.slice A h.length c, .slice B l.length d] 24)) (w.heap.size + 1) := ⟨by simp⟩
    have HK : Hid (∀ U : World, After (w.alloc (.cells #[.slice A h.length c, .slice B l.length d] 24)) U → U.cell? ⟨w.heap.size, 0, none⟩ = some (.slice A h.length c) ∧ U.cell? ⟨w.heap.size, 1, none⟩ = some (.slice B l.length d)) := by
      intro U k
      have := ((Blk.new w 24 #[.slice A h.length c, .slice B l.length d]).after (w' := U))
      exact ⟨by rw [this.cell]; rfl, by rw [this.cell]; rfl⟩
    have GH : Hid (∀ U, After w U → Calls Try.prog 57 #[.slice A h.length c] U fun e w' => ∃ A' c', e = .returned (.slice A' h.length c') ∧ RB w' A' c' (inv h) ∧ From U.heap.size A' ∧ ∃ y, w' = U.more y) := fun U _ => rinv_any x.head U (by omega)
    have GL : Hid (∀ U, After w U → Calls Try.prog 57 #[.slice B l.length d] U fun e w' => ∃ A' c', e = .returned (.slice A' l.length c') ∧ RB w' A' c' (inv l) ∧ From U.heap.size A' ∧ ∃ y, w' = U.more y) := fun U _ => rinv_any x.loop U (by omega)
    go_enter Try.func34, Try.ntmps34
    go_wp2_with (go_at_call 21; refine (rcheck_val x _ hc0.out).mono ?_; rintro e w' ⟨rfl, y, rfl⟩)
    obtain ⟨U1, hU1, aU1⟩ : ∃ U1, ((w.alloc (.cells #[.slice A h.length c, .slice B l.length d] 24)).alloc (.cells #[.slice none 0 0, .slice none 0 0] 24)).more y = U1 ∧ After ((w.alloc (.cells #[.slice A h.length c, .slice B l.length d] 24)).alloc (.cells #[.slice none 0 0, .slice none 0 0] 24)) U1 := ⟨_, rfl, inferInstance⟩
    rw [hU1]
    clear hU1
    have bU1 : After (w.alloc (.cells #[.slice A h.length c, .slice B l.length d] 24)) U1 := after_after inferInstance aU1
    have aw1 : After w U1 := after_after inferInstance bU1
    have q0 := (HK.out U1 bU1).1
    have q1 := (HK.out U1 bU1).2
    have tk1 : True := trivial
    have tk2 : True := trivial
    go_region_held3 (fun U => U.cell? ⟨w.heap.size, 0, none⟩ = some (.slice A h.length c) ∧ U.cell? ⟨w.heap.size, 1, none⟩ = some (.slice B l.length d)) (exact HK.out _ inferInstance)
      (first
        | (have _t := tk1; go_at_call 57; (with_reducible refine (GH.out _ (after_after aw1 inferInstance)).mono ?_); rintro e w1 ⟨A1, c1, rfl, x1, n1, hy⟩; have a1 : After U1 w1 := after_of_more hy inferInstance; have b1 : After (w.alloc (.cells #[.slice A h.length c, .slice B l.length d] 24)) w1 := after_after bU1 a1; clear hy _t tk1)
        | (have _t := tk2; go_at_call 57; (with_reducible refine (GL.out _ (after_after aw1 (after_after a1 inferInstance))).mono ?_); rintro e w3 ⟨A5, c5, rfl, x5, n5, hy⟩; have d3 : After w1 w3 := after_of_more hy inferInstance; have a3 : After U1 w3 := after_after a1 d3; have b3 : After (w.alloc (.cells #[.slice A h.length c, .slice B l.length d] 24)) w3 := after_after bU1 a3; clear hy _t tk2; have z6 := Lib.hid (HZ.out w3 (after_after aU1 a3)); have d0 : w3.cell? ⟨w.heap.size + 1, 0, none⟩ = some (.slice none 0 0) := (by rw [z6.out.cell]; rfl); have d1 : w3.cell? ⟨w.heap.size + 1, 1, none⟩ = some (.slice none 0 0) := (by rw [z6.out.cell]; rfl); have f0 := z6.out.frozen 0; have f1 := z6.out.frozen 1; have l6 := z6.out.is_le))
    have X1 := Lib.hid (x1.here w3)
    have X5 := Lib.hid x5
    have aw : After w w3 := after_after aw1 a3
    have hz : w.heap.size + 2 ≤ U1.heap.size := by have := aU1.below.size; simp at this; omega
    have hz1 := a1.below.size
    replace n1 : From (w.heap.size + 2) A1 := n1.mono (by (try simp only [drew_heap]); omega)
    replace n5 : From (w.heap.size + 2) A5 := n5.mono (by (try simp only [drew_heap]); omega)
    clear x5 x1
    go_wp2_with fail
    have r2 := (z6.out.set_ 0 (.slice A1 h.length c1)).set_ 1 (.slice A5 l.length c5)
    have k0 : ((w3.setCell ⟨w.heap.size + 1, 0, none⟩ (.slice A1 h.length c1)).setCell ⟨w.heap.size + 1, 1, none⟩ (.slice A5 l.length c5)).cell? ⟨w.heap.size + 1, 0, none⟩ = some (.slice A1 h.length c1) := by rw [r2.cell]; rfl
    have k1 : ((w3.setCell ⟨w.heap.size + 1, 0, none⟩ (.slice A1 h.length c1)).setCell ⟨w.heap.size + 1, 1, none⟩ (.slice A5 l.length c5)).cell? ⟨w.heap.size + 1, 1, none⟩ = some (.slice A5 l.length c5) := by rw [r2.cell]; rfl
    refine bodyPost_ret (v := .agg #[.slice A1 h.length c1, .slice A5 l.length c5]) (by simp [results, Try.results34, go_sem, k0, k1]) rfl ⟨A1, c1, A5, c5, by rw [HF.out, inv_length, inv_length], ?_, After.is_more _ _⟩
    rw [HF.out]
    exact ⟨(X1.out.set_ n1 (by omega) 0 _).set_ n1 (by omega) 1 _, (X5.out.set_ n5 (by omega) 0 _).set_ n5 (by omega) 1 _⟩
  · have HF := Lib.hid (notW_bad hv)
    rcases h5 with h5 | h5
    all_goals
      have hc0 := Lib.hid h5
      clear h5
      go_enter Try.func34, Try.ntmps34
      go_wp2_with fail
      refine (rcheck_val x _ hc0.out).mono ?_
      rintro e w' ⟨rfl, y, rfl⟩
      obtain ⟨W6, hW6, a5⟩ : ∃ W6, ((w.alloc (.cells #[.slice A h.length c, .slice B l.length d] 24)).alloc (.cells #[.slice none 0 0, .slice none 0 0] 24)).more y = W6 ∧ After ((w.alloc (.cells #[.slice A h.length c, .slice B l.length d] 24)).alloc (.cells #[.slice none 0 0, .slice none 0 0] 24)) W6 := ⟨_, rfl, inferInstance⟩
      rw [hW6]
      clear hW6
      have aw : After w W6 := after_after inferInstance a5
      have z6 := Lib.hid (HZ.out W6 a5)
      have d0 : W6.cell? ⟨w.heap.size + 1, 0, none⟩ = some (.slice none 0 0) := by rw [z6.out.cell]; rfl
      have d1 : W6.cell? ⟨w.heap.size + 1, 1, none⟩ = some (.slice none 0 0) := by rw [z6.out.cell]; rfl
      have f0 := z6.out.frozen 0
      have f1 := z6.out.frozen 1
      have l6 := z6.out.is_le
      go_wp2_with fail
      have r2 := (z6.out.set_ 0 (.slice none 0 0)).set_ 1 (.slice none 0 0)
      have k0 : ((W6.setCell ⟨w.heap.size + 1, 0, none⟩ (.slice none 0 0)).setCell ⟨w.heap.size + 1, 1, none⟩ (.slice none 0 0)).cell? ⟨w.heap.size + 1, 0, none⟩ = some (.slice none 0 0) := by rw [r2.cell]; rfl
      have k1 : ((W6.setCell ⟨w.heap.size + 1, 0, none⟩ (.slice none 0 0)).setCell ⟨w.heap.size + 1, 1, none⟩ (.slice none 0 0)).cell? ⟨w.heap.size + 1, 1, none⟩ = some (.slice none 0 0) := by rw [r2.cell]; rfl
      refine bodyPost_ret (v := .agg #[.slice none 0 0, .slice none 0 0]) (by simp [results, Try.results34, go_sem, k0, k1]) rfl ⟨none, 0, none, 0, by rw [HF.out]; rfl, ?_, After.is_more _ _⟩
      rw [HF.out]
      exact ⟨RB.nil_ _, RB.nil_ _⟩
end Go.Proofs.Ytjbpelkdciphnaa
