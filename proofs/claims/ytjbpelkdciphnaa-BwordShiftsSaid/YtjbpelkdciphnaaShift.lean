/-
  Contract: bword.Shift.
-/
import Derived.Test.YtjbpelkdciphnaaClos
set_option linter.unusedVariables false
namespace Go.Proofs.Ytjbpelkdciphnaa
open Go.RowKit Go.BigFrame

open Classical in
noncomputable def shiftW (h l : List Bool) (n : Int) : (List Bool × List Bool) × Int :=
  if Valid h l then if n < 0 then (([], []), 2) else if W.cnt h + W.cnt l = 0 then (W.nf (W.letter h l), 0) else if 128 < n then (([], []), 3) else fitW (W.shiftF h l n.toNat)
  else (([], []), checkI h l)
section
variable {h l : List Bool} {n : Int}
theorem shiftW_bad (hv : ¬ Valid h l) : shiftW h l n = (([], []), checkI h l) := by unfold shiftW; rw [if_neg hv]
theorem shiftW_neg (hv : Valid h l) (hn : n < 0) : shiftW h l n = (([], []), 2) := by unfold shiftW; rw [if_pos hv, if_pos hn]
theorem shiftW_zero (hv : Valid h l) (hn : ¬ n < 0) (hc : W.cnt h + W.cnt l = 0) : shiftW h l n = (W.nf (W.letter h l), 0) := by unfold shiftW; rw [if_pos hv, if_neg hn, if_pos hc]
theorem shiftW_far (hv : Valid h l) (hn : ¬ n < 0) (hc : ¬ W.cnt h + W.cnt l = 0) (hf : 128 < n) : shiftW h l n = (([], []), 3) := by unfold shiftW; rw [if_pos hv, if_neg hn, if_neg hc, if_pos hf]
theorem shiftW_ok (hv : Valid h l) (hn : ¬ n < 0) (hc : ¬ W.cnt h + W.cnt l = 0) (hf : ¬ 128 < n) : shiftW h l n = fitW (W.shiftF h l n.toNat) := by unfold shiftW; rw [if_pos hv, if_neg hn, if_neg hc, if_neg hf]
end

structure ShSt (w : World) (A : Option Addr) (c : Nat) (B : Option Addr) (d : Nat) (h l : List Bool) (n : Int) (gw gn : Nat) (U : World) : Prop where
  bw : Blk U gw 24 #[.slice A h.length c, .slice B l.length d]
  bn : Blk U gn 3 #[.int .i64 n]
  aft : After w U
theorem ShSt.later {w : World} {A B c d h l n} {gw gn : Nat} {U V : World} (s : ShSt w A c B d h l n gw gn U) {m : Nat} (h1 : gw < m) (h2 : gn < m) (hw : w.heap.size ≤ m) (b : Below m U V) : ShSt w A c B d h l n gw gn V :=
  ⟨(b.block _ h1).trans s.bw, (b.block _ h2).trans s.bn, ⟨s.aft.below.trans (b.mono hw)⟩⟩

set_option maxHeartbeats 800000 in
theorem shift_clos {w : World} {A B c d h l} (x : RW w A c B d h l) (hl : 0 < l.length) {gw gn : Nat} (n : Nat) (hn : n ≤ 128)
    (i : Nat) (hi : i ≤ 100000) (U : World) (s : ShSt w A c B d h l n gw gn U) :
    Calls Try.prog 55 #[.int .i64 (i : Nat), .pointer (some ⟨gn, 0, none⟩), .pointer (some ⟨gw, 0, none⟩)] U fun e w' => e = .returned (.bool (W.shiftF h l n i)) ∧ ShSt w A c B d h l n gw gn w' ∧ U.grownBy w' none := by
  have aft := s.aft
  have c0 : U.cell? ⟨gw, 0, none⟩ = some (.slice A h.length c) := by rw [s.bw.cell]; rfl
  have c1 : U.cell? ⟨gw, 1, none⟩ = some (.slice B l.length d) := by rw [s.bw.cell]; rfl
  have e0 : U.cell? ⟨gn, 0, none⟩ = some (.int .i64 n) := by rw [s.bn.cell]; rfl
  have la := s.bw.is_le
  have lb := s.bn.is_le
  have HS := Lib.hid s
  clear s
  by_cases hni : n ≤ i
  · have HL : Gives w 43 #[.agg #[.slice A h.length c, .slice B l.length d], .int .i64 ((i : Int) - (n : Int))] (.bool (W.letter h l (i - n))) := fun V _ => by
      have := letter_any x V ((i : Int) - (n : Int)) (by omega) (by omega) hl
      rwa [show letterB h l ((i : Int) - (n : Int)) = W.letter h l (i - n) by unfold letterB; rw [show ((i : Int) - (n : Int)).toNat = i - n by omega]] at this
    have HO : Hid (W.shiftF h l n i = W.letter h l (i - n)) := by show _ = _; unfold W.shiftF; simp [hni]
    have hle : (n : Int) ≤ (i : Int) := by omega
    go_enter Try.func55, Try.ntmps55
    go_wp2_with fail
    refine (HL _ inferInstance).mono ?_
    rintro e w' ⟨rfl, y1, rfl⟩
    go_wp2_with fail
    go_ret
    exact ⟨ret_bool HO.out.symm, ⟨HS.out.bw.more y1, HS.out.bn.more y1, inferInstance⟩, grow_after inferInstance⟩
  · have HO : Hid (W.shiftF h l n i = false) := by show _ = _; unfold W.shiftF; simp [hni]
    have hlt : (i : Int) < (n : Int) := by omega
    go_enter Try.func55, Try.ntmps55
    go_wp2_with fail
    go_ret
    exact ⟨ret_bool HO.out.symm, HS.out, grow_after inferInstance⟩

theorem shift_made {w : World} {A B c d h l} (x : RW w A c B d h l) (hl : 0 < l.length) {gw gn : Nat} (n : Nat) (hn : n ≤ 128)
    (head loop : Nat) (hlp : 0 < loop) (hb : head + loop ≤ 100000) (hper : W.Per (W.shiftF h l n) head loop) (U : World) (s : ShSt w A c B d h l n gw gn U) {hI lI : Int} (e1 : hI = head) (e2 : lI = loop) :
    Calls Try.prog 41 #[.int .i64 hI, .int .i64 lI, .func (.func 55) #[] #[.pointer (some ⟨gn, 0, none⟩), .pointer (some ⟨gw, 0, none⟩)]] U fun e w' =>
      ∃ A c B d, e = .returned (.tuple #[.agg #[.slice A (fitW (W.shiftF h l n)).1.1.length c, .slice B (fitW (W.shiftF h l n)).1.2.length d], .int .i64 (fitW (W.shiftF h l n)).2]) ∧
      RW w' A c B d (fitW (W.shiftF h l n)).1.1 (fitW (W.shiftF h l n)).1.2 ∧ From U.heap.size A ∧ From U.heap.size B ∧ U.grownBy w' none := by
  subst e1 e2
  have la := s.bw.lt
  have lb := s.bn.lt
  refine made_any _ _ (enters_of Try.func55 (by kernel_rfl) rfl) (W.shiftF h l n) (fun _ => ShSt w A c B d h l n gw gn) none U head loop hlp hb hper (fun k hk => by cases hk) s (fun i U' V s' b => ?_) (fun i V hi s' hg => ?_)
  · exact s'.later (m := U.heap.size) la lb s.aft.below.size b
  · exact shift_clos x hl n hn i (by omega) V s'

set_option maxHeartbeats 1600000 in
theorem shift_any {w0 : World} {A B c d h l} (x : RW w0 A c B d h l) (w : World) [After w0 w] (n : Int) :
    Calls Try.prog 30 #[.agg #[.slice A h.length c, .slice B l.length d], .int .i64 n] w fun e w' =>
      ∃ A5 c5 B5 d5, e = .returned (.tuple #[.agg #[.slice A5 (shiftW h l n).1.1.length c5, .slice B5 (shiftW h l n).1.2.length d5], .int .i64 (shiftW h l n).2]) ∧ RW w' A5 c5 B5 d5 (shiftW h l n).1.1 (shiftW h l n).1.2 ∧ ∃ y, w' = w.more y := by
  replace x := x.here w
  have iN : New w (w.heap.size + 2) := ⟨by omega⟩
  have HZ : Hid (∀ U : World, After (((w.alloc (.cells #[.slice A h.length c, .slice B l.length d] 24)).alloc (.cells #[.int .i64 n] 3)).alloc (.cells #[.slice none 0 0, .slice none 0 0] 24)) U → Blk U (w.heap.size + 2) 24 #[.slice none 0 0, .slice none 0 0]) := by
    intro U k
    have := (Blk.new ((w.alloc (.cells #[.slice A h.length c, .slice B l.length d] 24)).alloc (.cells #[.int .i64 n] 3)) 24 #[.slice none 0 0, .slice none 0 0]).after (w' := U)
    rwa [size_alloc_, size_alloc_] at this
  have HS : Hid (∀ U : World, After (((w.alloc (.cells #[.slice A h.length c, .slice B l.length d] 24)).alloc (.cells #[.int .i64 n] 3)).alloc (.cells #[.slice none 0 0, .slice none 0 0] 24)) U → ShSt w A c B d h l n w.heap.size (w.heap.size + 1) U) := by
    intro U k
    have e1 : Blk (((w.alloc (.cells #[.slice A h.length c, .slice B l.length d] 24)).alloc (.cells #[.int .i64 n] 3)).alloc (.cells #[.slice none 0 0, .slice none 0 0] 24)) w.heap.size 24 #[.slice A h.length c, .slice B l.length d] := ((Blk.new w _ _).alloc _).alloc _
    have e2 : Blk (((w.alloc (.cells #[.slice A h.length c, .slice B l.length d] 24)).alloc (.cells #[.int .i64 n] 3)).alloc (.cells #[.slice none 0 0, .slice none 0 0] 24)) (w.heap.size + 1) 3 #[.int .i64 n] := (Blk.new1 w _ _ _).alloc _
    exact ⟨e1.after (w' := U), e2.after (w' := U), after_after inferInstance k⟩
  rcases check_cases h l with hv | ⟨hv, h5⟩
  · have hc0 := Lib.hid (checkI_0 hv)
    have hl := hv.1
    have h64 := hv.2
    by_cases hn : n < 0
    · have HF := Lib.hid (shiftW_neg hv hn)
      clear hv
      go_enter Try.func30, Try.ntmps30
      go_wp2_with fail
      refine (check_val x _ hc0.out).mono ?_
      rintro e w' ⟨rfl, y1, rfl⟩
      obtain ⟨w5, hU0, aU0⟩ : ∃ U0, (((w.alloc (.cells #[.slice A h.length c, .slice B l.length d] 24)).alloc (.cells #[.int .i64 n] 3)).alloc (.cells #[.slice none 0 0, .slice none 0 0] 24)).more y1 = U0 ∧ After (((w.alloc (.cells #[.slice A h.length c, .slice B l.length d] 24)).alloc (.cells #[.int .i64 n] 3)).alloc (.cells #[.slice none 0 0, .slice none 0 0] 24)) U0 := ⟨_, rfl, inferInstance⟩
      rw [hU0]
      clear hU0
      have aw : After w w5 := after_after inferInstance aU0
      have st_ := HS.out w5 aU0
      have c0 : w5.cell? ⟨w.heap.size, 0, none⟩ = some (.slice A h.length c) := by rw [st_.bw.cell]; rfl
      have c1 : w5.cell? ⟨w.heap.size, 1, none⟩ = some (.slice B l.length d) := by rw [st_.bw.cell]; rfl
      have c2 : w5.cell? ⟨w.heap.size + 1, 0, none⟩ = some (.int .i64 n) := by rw [st_.bn.cell]; rfl
      have lz : Le (w.heap.size + 1) w5 := st_.bw.is_le
      have ly : Le (w.heap.size + 1 + 1) w5 := st_.bn.is_le
      clear st_
      have z6 := Lib.hid (HZ.out w5 aU0)
      clear HZ HS
      have d0 : w5.cell? ⟨w.heap.size + 2, 0, none⟩ = some (.slice none 0 0) := by rw [z6.out.cell]; rfl
      have d1 : w5.cell? ⟨w.heap.size + 2, 1, none⟩ = some (.slice none 0 0) := by rw [z6.out.cell]; rfl
      have f0 := z6.out.frozen 0
      have f1 := z6.out.frozen 1
      have l6 := z6.out.is_le
      go_wp2_with fail
      have r2 := (z6.out.set_ 0 (.slice none 0 0)).set_ 1 (.slice none 0 0)
      have k0 : ((w5.setCell ⟨w.heap.size + 2, 0, none⟩ (.slice none 0 0)).setCell ⟨w.heap.size + 2, 1, none⟩ (.slice none 0 0)).cell? ⟨w.heap.size + 2, 0, none⟩ = some (.slice none 0 0) := by rw [r2.cell]; rfl
      have k1 : ((w5.setCell ⟨w.heap.size + 2, 0, none⟩ (.slice none 0 0)).setCell ⟨w.heap.size + 2, 1, none⟩ (.slice none 0 0)).cell? ⟨w.heap.size + 2, 1, none⟩ = some (.slice none 0 0) := by rw [r2.cell]; rfl
      refine bodyPost_ret (v := .tuple #[.agg #[.slice none 0 0, .slice none 0 0], .int .i64 2]) (by simp [results, Try.results30, go_sem, k0, k1]) rfl ⟨none, 0, none, 0, by rw [HF.out]; rfl, ?_, After.is_more _ _⟩
      rw [HF.out]
      exact ⟨RB.nil _, RB.nil _⟩
    · have hcl := W.cnt_le l
      have hch := W.cnt_le h
      have CH : Hid (∀ U, After w U → Calls Try.prog 40 #[.slice A h.length c] U fun e w' => e = .returned (.int .i64 (W.cnt h : Nat)) ∧ U = w') := fun U _ => count_any x.head U
      have CL : Hid (∀ U, After w U → Calls Try.prog 40 #[.slice B l.length d] U fun e w' => e = .returned (.int .i64 (W.cnt l : Nat)) ∧ U = w') := fun U _ => count_any x.loop U
      have e0 : IntKind.i64.wrap ((W.cnt h : Int) + (W.cnt l : Int)) = (W.cnt h : Int) + (W.cnt l : Int) := IntWalk.i64_in _ (by omega)
      have hn' : ¬ (n < 0) := hn
      by_cases hc : W.cnt h + W.cnt l = 0
      · have HF := Lib.hid (shiftW_zero hv hn hc)
        have t0 : ((W.cnt h : Int) + (W.cnt l : Int) == 0) = true := by rw [beq_iff_eq]; omega
        replace hc := Lib.hid hc
        clear hv
        go_enter Try.func30, Try.ntmps30
        go_wp2_with fail
        refine (check_val x _ hc0.out).mono ?_
        rintro e w' ⟨rfl, y1, rfl⟩
        obtain ⟨w5, hU0, aU0⟩ : ∃ U0, (((w.alloc (.cells #[.slice A h.length c, .slice B l.length d] 24)).alloc (.cells #[.int .i64 n] 3)).alloc (.cells #[.slice none 0 0, .slice none 0 0] 24)).more y1 = U0 ∧ After (((w.alloc (.cells #[.slice A h.length c, .slice B l.length d] 24)).alloc (.cells #[.int .i64 n] 3)).alloc (.cells #[.slice none 0 0, .slice none 0 0] 24)) U0 := ⟨_, rfl, inferInstance⟩
        rw [hU0]
        clear hU0
        have aw : After w w5 := after_after inferInstance aU0
        have st_ := HS.out w5 aU0
        have c0 : w5.cell? ⟨w.heap.size, 0, none⟩ = some (.slice A h.length c) := by rw [st_.bw.cell]; rfl
        have c1 : w5.cell? ⟨w.heap.size, 1, none⟩ = some (.slice B l.length d) := by rw [st_.bw.cell]; rfl
        have c2 : w5.cell? ⟨w.heap.size + 1, 0, none⟩ = some (.int .i64 n) := by rw [st_.bn.cell]; rfl
        have lz : Le (w.heap.size + 1) w5 := st_.bw.is_le
        have ly : Le (w.heap.size + 1 + 1) w5 := st_.bn.is_le
        clear st_
        go_wp2_with fail
        refine wp_region_more (by kernel_rfl) (by kernel_rfl) ?_
        repeat (go_big_quiet_step ((first | (go_at_call 40; with_reducible exact Calls.more_same (CH.out _ (after_after aw inferInstance))) | (go_at_call 40; with_reducible exact Calls.more_same (CL.out _ (after_after aw inferInstance))))))
        refine wpQuiet_nil ?_
        rintro _ ⟨y3, rfl⟩
        obtain ⟨w6, hw6, a6⟩ : ∃ U, w5.more y3 = U ∧ After w5 U := ⟨_, rfl, inferInstance⟩
        rw [hw6]
        clear hw6
        replace aU0 : After (((w.alloc (.cells #[.slice A h.length c, .slice B l.length d] 24)).alloc (.cells #[.int .i64 n] 3)).alloc (.cells #[.slice none 0 0, .slice none 0 0] 24)) w6 := after_after aU0 a6
        replace aw : After w w6 := after_after aw a6
        have st_ := HS.out w6 aU0
        have c0 : w6.cell? ⟨w.heap.size, 0, none⟩ = some (.slice A h.length c) := by rw [st_.bw.cell]; rfl
        have c1 : w6.cell? ⟨w.heap.size, 1, none⟩ = some (.slice B l.length d) := by rw [st_.bw.cell]; rfl
        have c2 : w6.cell? ⟨w.heap.size + 1, 0, none⟩ = some (.int .i64 n) := by rw [st_.bn.cell]; rfl
        have lz6 : Le (w.heap.size + 1) w6 := st_.bw.is_le
        have ly6 : Le (w.heap.size + 1 + 1) w6 := st_.bn.is_le
        clear st_
        clear e0 t0
        go_wp2_with fail
        refine (normal_any x _ hl (by omega) (by omega)).mono ?_
        rintro e w7 ⟨A5, c5, B5, d5, rfl, x5, n5, m5, hy⟩
        have X5 := Lib.hid x5
        have a7 : After w6 w7 := by obtain ⟨y_, rfl⟩ := hy; infer_instance
        clear hy x5
        have z6 := Lib.hid (HZ.out w7 (after_after aU0 a7))
        have aw7 : After w w7 := after_after aw a7
        have hsz : w.heap.size + 3 ≤ w6.heap.size := by have := aU0.below.size; simp at this; omega
        clear HZ HS
        have d0 : w7.cell? ⟨w.heap.size + 2, 0, none⟩ = some (.slice none 0 0) := by rw [z6.out.cell]; rfl
        have d1 : w7.cell? ⟨w.heap.size + 2, 1, none⟩ = some (.slice none 0 0) := by rw [z6.out.cell]; rfl
        have f0 := z6.out.frozen 0
        have f1 := z6.out.frozen 1
        have l6 := z6.out.is_le
        go_wp2_with fail
        have r2 := (z6.out.set_ 0 (.slice A5 (W.nf (W.letter h l)).1.length c5)).set_ 1 (.slice B5 (W.nf (W.letter h l)).2.length d5)
        have k0 : ((w7.setCell ⟨w.heap.size + 2, 0, none⟩ (.slice A5 (W.nf (W.letter h l)).1.length c5)).setCell ⟨w.heap.size + 2, 1, none⟩ (.slice B5 (W.nf (W.letter h l)).2.length d5)).cell? ⟨w.heap.size + 2, 0, none⟩ = some (.slice A5 (W.nf (W.letter h l)).1.length c5) := by rw [r2.cell]; rfl
        have k1 : ((w7.setCell ⟨w.heap.size + 2, 0, none⟩ (.slice A5 (W.nf (W.letter h l)).1.length c5)).setCell ⟨w.heap.size + 2, 1, none⟩ (.slice B5 (W.nf (W.letter h l)).2.length d5)).cell? ⟨w.heap.size + 2, 1, none⟩ = some (.slice B5 (W.nf (W.letter h l)).2.length d5) := by rw [r2.cell]; rfl
        refine bodyPost_ret (v := .tuple #[.agg #[.slice A5 (W.nf (W.letter h l)).1.length c5, .slice B5 (W.nf (W.letter h l)).2.length d5], .int .i64 0]) (by simp [results, Try.results30, go_sem, k0, k1]) rfl ⟨A5, c5, B5, d5, by rw [HF.out], ?_, After.is_more _ _⟩
        rw [HF.out]
        exact ⟨(X5.out.head.set_ n5 (by omega) 0 _).set_ n5 (by omega) 1 _, (X5.out.loop.set_ m5 (by omega) 0 _).set_ m5 (by omega) 1 _⟩
      · have t0 : ((W.cnt h : Int) + (W.cnt l : Int) == 0) = false := by rw [beq_eq_false_iff_ne]; omega
        by_cases hf : 128 < n
        · have HF := Lib.hid (shiftW_far hv hn hc hf)
          replace hc := Lib.hid hc
          clear hv
          go_enter Try.func30, Try.ntmps30
          go_wp2_with fail
          refine (check_val x _ hc0.out).mono ?_
          rintro e w' ⟨rfl, y1, rfl⟩
          obtain ⟨w5, hU0, aU0⟩ : ∃ U0, (((w.alloc (.cells #[.slice A h.length c, .slice B l.length d] 24)).alloc (.cells #[.int .i64 n] 3)).alloc (.cells #[.slice none 0 0, .slice none 0 0] 24)).more y1 = U0 ∧ After (((w.alloc (.cells #[.slice A h.length c, .slice B l.length d] 24)).alloc (.cells #[.int .i64 n] 3)).alloc (.cells #[.slice none 0 0, .slice none 0 0] 24)) U0 := ⟨_, rfl, inferInstance⟩
          rw [hU0]
          clear hU0
          have aw : After w w5 := after_after inferInstance aU0
          have st_ := HS.out w5 aU0
          have c0 : w5.cell? ⟨w.heap.size, 0, none⟩ = some (.slice A h.length c) := by rw [st_.bw.cell]; rfl
          have c1 : w5.cell? ⟨w.heap.size, 1, none⟩ = some (.slice B l.length d) := by rw [st_.bw.cell]; rfl
          have c2 : w5.cell? ⟨w.heap.size + 1, 0, none⟩ = some (.int .i64 n) := by rw [st_.bn.cell]; rfl
          have lz : Le (w.heap.size + 1) w5 := st_.bw.is_le
          have ly : Le (w.heap.size + 1 + 1) w5 := st_.bn.is_le
          clear st_
          go_wp2_with fail
          refine wp_region_more (by kernel_rfl) (by kernel_rfl) ?_
          repeat (go_big_quiet_step ((first | (go_at_call 40; with_reducible exact Calls.more_same (CH.out _ (after_after aw inferInstance))) | (go_at_call 40; with_reducible exact Calls.more_same (CL.out _ (after_after aw inferInstance))))))
          refine wpQuiet_nil ?_
          rintro _ ⟨y3, rfl⟩
          obtain ⟨w6, hw6, a6⟩ : ∃ U, w5.more y3 = U ∧ After w5 U := ⟨_, rfl, inferInstance⟩
          rw [hw6]
          clear hw6
          replace aU0 : After (((w.alloc (.cells #[.slice A h.length c, .slice B l.length d] 24)).alloc (.cells #[.int .i64 n] 3)).alloc (.cells #[.slice none 0 0, .slice none 0 0] 24)) w6 := after_after aU0 a6
          replace aw : After w w6 := after_after aw a6
          have st_ := HS.out w6 aU0
          have c0 : w6.cell? ⟨w.heap.size, 0, none⟩ = some (.slice A h.length c) := by rw [st_.bw.cell]; rfl
          have c1 : w6.cell? ⟨w.heap.size, 1, none⟩ = some (.slice B l.length d) := by rw [st_.bw.cell]; rfl
          have c2 : w6.cell? ⟨w.heap.size + 1, 0, none⟩ = some (.int .i64 n) := by rw [st_.bn.cell]; rfl
          have lz6 : Le (w.heap.size + 1) w6 := st_.bw.is_le
          have ly6 : Le (w.heap.size + 1 + 1) w6 := st_.bn.is_le
          clear st_
          clear e0 t0
          have z6 := Lib.hid (HZ.out w6 aU0)
          clear HZ HS
          have d0 : w6.cell? ⟨w.heap.size + 2, 0, none⟩ = some (.slice none 0 0) := by rw [z6.out.cell]; rfl
          have d1 : w6.cell? ⟨w.heap.size + 2, 1, none⟩ = some (.slice none 0 0) := by rw [z6.out.cell]; rfl
          have f0 := z6.out.frozen 0
          have f1 := z6.out.frozen 1
          have l6 := z6.out.is_le
          go_wp2_with fail
          have r2 := (z6.out.set_ 0 (.slice none 0 0)).set_ 1 (.slice none 0 0)
          have k0 : ((w6.setCell ⟨w.heap.size + 2, 0, none⟩ (.slice none 0 0)).setCell ⟨w.heap.size + 2, 1, none⟩ (.slice none 0 0)).cell? ⟨w.heap.size + 2, 0, none⟩ = some (.slice none 0 0) := by rw [r2.cell]; rfl
          have k1 : ((w6.setCell ⟨w.heap.size + 2, 0, none⟩ (.slice none 0 0)).setCell ⟨w.heap.size + 2, 1, none⟩ (.slice none 0 0)).cell? ⟨w.heap.size + 2, 1, none⟩ = some (.slice none 0 0) := by rw [r2.cell]; rfl
          refine bodyPost_ret (v := .tuple #[.agg #[.slice none 0 0, .slice none 0 0], .int .i64 3]) (by simp [results, Try.results30, go_sem, k0, k1]) rfl ⟨none, 0, none, 0, by rw [HF.out]; rfl, ?_, After.is_more _ _⟩
          rw [HF.out]
          exact ⟨RB.nil _, RB.nil _⟩
        · obtain ⟨k, rfl⟩ := Int.eq_ofNat_of_zero_le (show 0 ≤ n by omega)
          have HF : Hid (shiftW h l (k : Nat) = fitW (W.shiftF h l k)) := by have := shiftW_ok hv hn hc hf; rwa [Int.toNat_natCast] at this
          have HP := Lib.hid (W.shiftF_per (h := h) (l := l) k)
          replace hc := Lib.hid hc
          clear hv
          go_enter Try.func30, Try.ntmps30
          go_wp2_with fail
          refine (check_val x _ hc0.out).mono ?_
          rintro e w' ⟨rfl, y1, rfl⟩
          obtain ⟨w5, hU0, aU0⟩ : ∃ U0, (((w.alloc (.cells #[.slice A h.length c, .slice B l.length d] 24)).alloc (.cells #[.int .i64 ((k : Nat) : Int)] 3)).alloc (.cells #[.slice none 0 0, .slice none 0 0] 24)).more y1 = U0 ∧ After (((w.alloc (.cells #[.slice A h.length c, .slice B l.length d] 24)).alloc (.cells #[.int .i64 ((k : Nat) : Int)] 3)).alloc (.cells #[.slice none 0 0, .slice none 0 0] 24)) U0 := ⟨_, rfl, inferInstance⟩
          rw [hU0]
          clear hU0
          have aw : After w w5 := after_after inferInstance aU0
          have st_ := HS.out w5 aU0
          have c0 : w5.cell? ⟨w.heap.size, 0, none⟩ = some (.slice A h.length c) := by rw [st_.bw.cell]; rfl
          have c1 : w5.cell? ⟨w.heap.size, 1, none⟩ = some (.slice B l.length d) := by rw [st_.bw.cell]; rfl
          have c2 : w5.cell? ⟨w.heap.size + 1, 0, none⟩ = some (.int .i64 ((k : Nat) : Int)) := by rw [st_.bn.cell]; rfl
          have lz : Le (w.heap.size + 1) w5 := st_.bw.is_le
          have ly : Le (w.heap.size + 1 + 1) w5 := st_.bn.is_le
          clear st_
          go_wp2_with fail
          refine wp_region_more (by kernel_rfl) (by kernel_rfl) ?_
          repeat (go_big_quiet_step ((first | (go_at_call 40; with_reducible exact Calls.more_same (CH.out _ (after_after aw inferInstance))) | (go_at_call 40; with_reducible exact Calls.more_same (CL.out _ (after_after aw inferInstance))))))
          refine wpQuiet_nil ?_
          rintro _ ⟨y3, rfl⟩
          obtain ⟨w6, hw6, a6⟩ : ∃ U, w5.more y3 = U ∧ After w5 U := ⟨_, rfl, inferInstance⟩
          rw [hw6]
          clear hw6
          replace aU0 : After (((w.alloc (.cells #[.slice A h.length c, .slice B l.length d] 24)).alloc (.cells #[.int .i64 ((k : Nat) : Int)] 3)).alloc (.cells #[.slice none 0 0, .slice none 0 0] 24)) w6 := after_after aU0 a6
          replace aw : After w w6 := after_after aw a6
          have st_ := HS.out w6 aU0
          have c0 : w6.cell? ⟨w.heap.size, 0, none⟩ = some (.slice A h.length c) := by rw [st_.bw.cell]; rfl
          have c1 : w6.cell? ⟨w.heap.size, 1, none⟩ = some (.slice B l.length d) := by rw [st_.bw.cell]; rfl
          have c2 : w6.cell? ⟨w.heap.size + 1, 0, none⟩ = some (.int .i64 ((k : Nat) : Int)) := by rw [st_.bn.cell]; rfl
          have lz6 : Le (w.heap.size + 1) w6 := st_.bw.is_le
          have ly6 : Le (w.heap.size + 1 + 1) w6 := st_.bn.is_le
          clear st_
          clear e0 t0
          go_wp2_with fail
          refine (shift_made x hl k (by omega) (k + h.length) l.length hl (by omega) HP.out _ (HS.out w6 aU0) (by omega) rfl).mono ?_
          rintro e w7 ⟨A5, c5, B5, d5, rfl, x5, n5, m5, g5⟩
          have X5 := Lib.hid x5
          have a7 : After w6 w7 := after_grow g5
          clear g5 x5
          have z6 := Lib.hid (HZ.out w7 (after_after aU0 a7))
          have aw7 : After w w7 := after_after aw a7
          have hsz : w.heap.size + 3 ≤ w6.heap.size := by have := aU0.below.size; simp at this; omega
          clear HZ HS
          have d0 : w7.cell? ⟨w.heap.size + 2, 0, none⟩ = some (.slice none 0 0) := by rw [z6.out.cell]; rfl
          have d1 : w7.cell? ⟨w.heap.size + 2, 1, none⟩ = some (.slice none 0 0) := by rw [z6.out.cell]; rfl
          have f0 := z6.out.frozen 0
          have f1 := z6.out.frozen 1
          have l6 := z6.out.is_le
          go_wp2_with fail
          have r2 := (z6.out.set_ 0 (.slice A5 (fitW (W.shiftF h l k)).1.1.length c5)).set_ 1 (.slice B5 (fitW (W.shiftF h l k)).1.2.length d5)
          have k0 : ((w7.setCell ⟨w.heap.size + 2, 0, none⟩ (.slice A5 (fitW (W.shiftF h l k)).1.1.length c5)).setCell ⟨w.heap.size + 2, 1, none⟩ (.slice B5 (fitW (W.shiftF h l k)).1.2.length d5)).cell? ⟨w.heap.size + 2, 0, none⟩ = some (.slice A5 (fitW (W.shiftF h l k)).1.1.length c5) := by rw [r2.cell]; rfl
          have k1 : ((w7.setCell ⟨w.heap.size + 2, 0, none⟩ (.slice A5 (fitW (W.shiftF h l k)).1.1.length c5)).setCell ⟨w.heap.size + 2, 1, none⟩ (.slice B5 (fitW (W.shiftF h l k)).1.2.length d5)).cell? ⟨w.heap.size + 2, 1, none⟩ = some (.slice B5 (fitW (W.shiftF h l k)).1.2.length d5) := by rw [r2.cell]; rfl
          refine bodyPost_ret (v := .tuple #[.agg #[.slice A5 (fitW (W.shiftF h l k)).1.1.length c5, .slice B5 (fitW (W.shiftF h l k)).1.2.length d5], .int .i64 (fitW (W.shiftF h l k)).2]) (by simp [results, Try.results30, go_sem, k0, k1]) rfl ⟨A5, c5, B5, d5, by rw [HF.out], ?_, After.is_more _ _⟩
          rw [HF.out]
          exact ⟨(X5.out.head.set_ n5 (by omega) 0 _).set_ n5 (by omega) 1 _, (X5.out.loop.set_ m5 (by omega) 0 _).set_ m5 (by omega) 1 _⟩
  · have HF := Lib.hid (shiftW_bad (n := n) hv)
    clear hv
    rcases h5 with h5 | h5
    · have hc0 := Lib.hid h5
      clear h5
      go_enter Try.func30, Try.ntmps30
      go_wp2_with fail
      refine (check_val x _ hc0.out).mono ?_
      rintro e w' ⟨rfl, y1, rfl⟩
      obtain ⟨w5, hU0, aU0⟩ : ∃ U0, (((w.alloc (.cells #[.slice A h.length c, .slice B l.length d] 24)).alloc (.cells #[.int .i64 n] 3)).alloc (.cells #[.slice none 0 0, .slice none 0 0] 24)).more y1 = U0 ∧ After (((w.alloc (.cells #[.slice A h.length c, .slice B l.length d] 24)).alloc (.cells #[.int .i64 n] 3)).alloc (.cells #[.slice none 0 0, .slice none 0 0] 24)) U0 := ⟨_, rfl, inferInstance⟩
      rw [hU0]
      clear hU0
      have aw : After w w5 := after_after inferInstance aU0
      have st_ := HS.out w5 aU0
      have c0 : w5.cell? ⟨w.heap.size, 0, none⟩ = some (.slice A h.length c) := by rw [st_.bw.cell]; rfl
      have c1 : w5.cell? ⟨w.heap.size, 1, none⟩ = some (.slice B l.length d) := by rw [st_.bw.cell]; rfl
      have c2 : w5.cell? ⟨w.heap.size + 1, 0, none⟩ = some (.int .i64 n) := by rw [st_.bn.cell]; rfl
      have lz : Le (w.heap.size + 1) w5 := st_.bw.is_le
      have ly : Le (w.heap.size + 1 + 1) w5 := st_.bn.is_le
      clear st_
      have z6 := Lib.hid (HZ.out w5 aU0)
      clear HZ HS
      have d0 : w5.cell? ⟨w.heap.size + 2, 0, none⟩ = some (.slice none 0 0) := by rw [z6.out.cell]; rfl
      have d1 : w5.cell? ⟨w.heap.size + 2, 1, none⟩ = some (.slice none 0 0) := by rw [z6.out.cell]; rfl
      have f0 := z6.out.frozen 0
      have f1 := z6.out.frozen 1
      have l6 := z6.out.is_le
      go_wp2_with fail
      have r2 := (z6.out.set_ 0 (.slice none 0 0)).set_ 1 (.slice none 0 0)
      have k0 : ((w5.setCell ⟨w.heap.size + 2, 0, none⟩ (.slice none 0 0)).setCell ⟨w.heap.size + 2, 1, none⟩ (.slice none 0 0)).cell? ⟨w.heap.size + 2, 0, none⟩ = some (.slice none 0 0) := by rw [r2.cell]; rfl
      have k1 : ((w5.setCell ⟨w.heap.size + 2, 0, none⟩ (.slice none 0 0)).setCell ⟨w.heap.size + 2, 1, none⟩ (.slice none 0 0)).cell? ⟨w.heap.size + 2, 1, none⟩ = some (.slice none 0 0) := by rw [r2.cell]; rfl
      refine bodyPost_ret (v := .tuple #[.agg #[.slice none 0 0, .slice none 0 0], .int .i64 5]) (by simp [results, Try.results30, go_sem, k0, k1]) rfl ⟨none, 0, none, 0, by rw [HF.out, hc0.out]; rfl, ?_, After.is_more _ _⟩
      rw [HF.out]
      exact ⟨RB.nil _, RB.nil _⟩
    · have hc0 := Lib.hid h5
      clear h5
      go_enter Try.func30, Try.ntmps30
      go_wp2_with fail
      refine (check_val x _ hc0.out).mono ?_
      rintro e w' ⟨rfl, y1, rfl⟩
      obtain ⟨w5, hU0, aU0⟩ : ∃ U0, (((w.alloc (.cells #[.slice A h.length c, .slice B l.length d] 24)).alloc (.cells #[.int .i64 n] 3)).alloc (.cells #[.slice none 0 0, .slice none 0 0] 24)).more y1 = U0 ∧ After (((w.alloc (.cells #[.slice A h.length c, .slice B l.length d] 24)).alloc (.cells #[.int .i64 n] 3)).alloc (.cells #[.slice none 0 0, .slice none 0 0] 24)) U0 := ⟨_, rfl, inferInstance⟩
      rw [hU0]
      clear hU0
      have aw : After w w5 := after_after inferInstance aU0
      have st_ := HS.out w5 aU0
      have c0 : w5.cell? ⟨w.heap.size, 0, none⟩ = some (.slice A h.length c) := by rw [st_.bw.cell]; rfl
      have c1 : w5.cell? ⟨w.heap.size, 1, none⟩ = some (.slice B l.length d) := by rw [st_.bw.cell]; rfl
      have c2 : w5.cell? ⟨w.heap.size + 1, 0, none⟩ = some (.int .i64 n) := by rw [st_.bn.cell]; rfl
      have lz : Le (w.heap.size + 1) w5 := st_.bw.is_le
      have ly : Le (w.heap.size + 1 + 1) w5 := st_.bn.is_le
      clear st_
      have z6 := Lib.hid (HZ.out w5 aU0)
      clear HZ HS
      have d0 : w5.cell? ⟨w.heap.size + 2, 0, none⟩ = some (.slice none 0 0) := by rw [z6.out.cell]; rfl
      have d1 : w5.cell? ⟨w.heap.size + 2, 1, none⟩ = some (.slice none 0 0) := by rw [z6.out.cell]; rfl
      have f0 := z6.out.frozen 0
      have f1 := z6.out.frozen 1
      have l6 := z6.out.is_le
      go_wp2_with fail
      have r2 := (z6.out.set_ 0 (.slice none 0 0)).set_ 1 (.slice none 0 0)
      have k0 : ((w5.setCell ⟨w.heap.size + 2, 0, none⟩ (.slice none 0 0)).setCell ⟨w.heap.size + 2, 1, none⟩ (.slice none 0 0)).cell? ⟨w.heap.size + 2, 0, none⟩ = some (.slice none 0 0) := by rw [r2.cell]; rfl
      have k1 : ((w5.setCell ⟨w.heap.size + 2, 0, none⟩ (.slice none 0 0)).setCell ⟨w.heap.size + 2, 1, none⟩ (.slice none 0 0)).cell? ⟨w.heap.size + 2, 1, none⟩ = some (.slice none 0 0) := by rw [r2.cell]; rfl
      refine bodyPost_ret (v := .tuple #[.agg #[.slice none 0 0, .slice none 0 0], .int .i64 3]) (by simp [results, Try.results30, go_sem, k0, k1]) rfl ⟨none, 0, none, 0, by rw [HF.out, hc0.out]; rfl, ?_, After.is_more _ _⟩
      rw [HF.out]
      exact ⟨RB.nil _, RB.nil _⟩
end Go.Proofs.Ytjbpelkdciphnaa
