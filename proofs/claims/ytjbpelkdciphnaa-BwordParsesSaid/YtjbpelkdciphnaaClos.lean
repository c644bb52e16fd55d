/-
  Contracts: bword.both; the closure of On.
-/
import Derived.Test.YtjbpelkdciphnaaMade
import Derived.Test.YtjbpelkdciphnaaOnFacts
import Derived.Test.YtjbpelkdciphnaaGives
set_option linter.unusedVariables false
namespace Go.Proofs.Ytjbpelkdciphnaa
open Go.RowKit Go.BigFrame

theorem grow_row {w x : World} {b : Nat} (a : w.grownBy x (some b)) (i : Nat) (v : Value) : w.grownBy (x.setCell ⟨b, i, none⟩ v) (some b) :=
  ⟨a.os, a.tape, a.output, by rw [size_set_]; exact a.size, fun k hk hne => (Below.heap_setCell x ⟨b, i, none⟩ v k (fun e => hne (by rw [e]))).trans (a.block k hk hne)⟩
def bothI (h l h' l' : List Bool) : Int := if checkI h l = 0 then checkI h' l' else checkI h l
theorem both_any {w0 : World} {A B c d h l A' B' c' d' h' l'} (x : RW w0 A c B d h l) (x' : RW w0 A' c' B' d' h' l') (w : World) [After w0 w] :
    Calls Try.prog 39 #[.agg #[.slice A h.length c, .slice B l.length d], .agg #[.slice A' h'.length c', .slice B' l'.length d']] w fun e w' => e = .returned (.int .i64 (bothI h l h' l')) ∧ ∃ y, w' = w.more y := by
  rcases check_cases h l with hv | ⟨hv, h5⟩
  · have hc0 := Lib.hid (checkI_0 hv)
    have HB : Hid (bothI h l h' l' = checkI h' l') := by unfold bothI; show (if _ then _ else _) = _; rw [if_pos hc0.out]
    go_enter Try.func39, Try.ntmps39
    go_wp2_with fail
    refine (check_val x _ hc0.out).mono ?_
    rintro e w' ⟨rfl, y1, rfl⟩
    go_wp2_with fail
    refine (check_any x' _).mono ?_
    rintro e w' ⟨rfl, y2, rfl⟩
    go_wp2_with fail
    go_ret
    exact ⟨ret_int HB.out.symm, After.is_more _ _⟩
  · rcases h5 with h5 | h5
    all_goals
      have hc0 := Lib.hid h5
      have HB : Hid (bothI h l h' l' = checkI h l) := by unfold bothI; show (if _ then _ else _) = _; rw [if_neg (by omega)]
      clear h5
      go_enter Try.func39, Try.ntmps39
      go_wp2_with fail
      refine (check_val x _ hc0.out).mono ?_
      rintro e w' ⟨rfl, y1, rfl⟩
      go_wp2_with fail
      go_ret
      exact ⟨ret_int (by rw [HB.out, hc0.out]), After.is_more _ _⟩
theorem bothI_ok {h l h' l' : List Bool} (hv : Valid h l) (hv' : Valid h' l') : bothI h l h' l' = 0 := by unfold bothI; rw [if_pos (checkI_0 hv), checkI_0 hv']
theorem both_cases (h l h' l' : List Bool) : (Valid h l ∧ Valid h' l') ∨ (¬ (Valid h l ∧ Valid h' l') ∧ (bothI h l h' l' = 5 ∨ bothI h l h' l' = 3)) := by
  rcases check_cases h l with hv | ⟨hv, h5⟩
  · rcases check_cases h' l' with hv' | ⟨hv', h5⟩
    · exact .inl ⟨hv, hv'⟩
    · exact .inr ⟨fun h => hv' h.2, by unfold bothI; rw [if_pos (checkI_0 hv)]; exact h5⟩
  · refine .inr ⟨fun h => hv h.1, ?_⟩
    unfold bothI
    rcases h5 with h5 | h5
    · rw [h5]; simp
    · rw [h5]; simp

/-- what On's closure leans on: the boxes of its words, the count so far -/
structure OnSt (w : World) (A : Option Addr) (c : Nat) (B : Option Addr) (d : Nat) (A' : Option Addr) (c' : Nat) (B' : Option Addr) (d' : Nat) (h l h' l' : List Bool) (ga gb gk : Nat) (i : Nat) (U : World) : Prop where
  ba : Blk U ga 24 #[.slice A h.length c, .slice B l.length d]
  bb : Blk U gb 24 #[.slice A' h'.length c', .slice B' l'.length d']
  bk : Blk U gk 3 #[.int .i64 (W.ones h l i : Nat)]
  aft : After w U
theorem letterB_nat (h l : List Bool) (i : Nat) : letterB h l (i : Nat) = W.letter h l i := by unfold letterB; rw [Int.toNat_natCast]

set_option maxHeartbeats 800000 in
theorem on_clos {w : World} {A B c d h l A' B' c' d' h' l'} (x : RW w A c B d h l) (x' : RW w A' c' B' d' h' l') (hl : 0 < l.length) (hl' : 0 < l'.length) {ga gb gk : Nat} (hga : w.heap.size ≤ ga) (hgb : w.heap.size ≤ gb) (hgk : w.heap.size ≤ gk) (n1 : ga ≠ gk) (n2 : gb ≠ gk)
    (i : Nat) (hi : i ≤ 100000) (U : World) (s : OnSt w A c B d A' c' B' d' h l h' l' ga gb gk i U) :
    Calls Try.prog 42 #[.int .i64 (i : Nat), .pointer (some ⟨ga, 0, none⟩), .pointer (some ⟨gk, 0, none⟩), .pointer (some ⟨gb, 0, none⟩)] U fun e w' => e = .returned (.bool (W.onF h l h' l' i)) ∧ OnSt w A c B d A' c' B' d' h l h' l' ga gb gk (i + 1) w' ∧ U.grownBy w' (some gk) := by
  have aft := s.aft
  have c0 : U.cell? ⟨ga, 0, none⟩ = some (.slice A h.length c) := by rw [s.ba.cell]; rfl
  have c1 : U.cell? ⟨ga, 1, none⟩ = some (.slice B l.length d) := by rw [s.ba.cell]; rfl
  have e0 : U.cell? ⟨gb, 0, none⟩ = some (.slice A' h'.length c') := by rw [s.bb.cell]; rfl
  have e1 : U.cell? ⟨gb, 1, none⟩ = some (.slice B' l'.length d') := by rw [s.bb.cell]; rfl
  have la := s.ba.is_le
  have lb := s.bb.is_le
  have HL : Gives w 43 #[.agg #[.slice A h.length c, .slice B l.length d], .int .i64 (i : Nat)] (.bool (W.letter h l i)) := fun V _ => by
    have := letter_any x V (i : Nat) (by omega) (by omega) hl; rwa [letterB_nat] at this
  have hon := W.ones_succ h l i hl
  have hob := W.ones_le h l i hl
  cases hb : W.letter h l i
  · rw [hb] at HL hon
    have HO : Hid (W.onF h l h' l' i = false) := by unfold W.onF; rw [hb]; rfl
    have HON : Hid (W.ones h l (i + 1) = W.ones h l i) := by show _ = _; simpa using hon
    have HS := Lib.hid s
    clear hb hon
    go_enter Try.func42, Try.ntmps42
    go_wp2_with fail
    refine (HL _ inferInstance).mono ?_
    rintro e w' ⟨rfl, y1, rfl⟩
    go_wp2_with fail
    go_ret
    exact ⟨ret_bool HO.out.symm, ⟨HS.out.ba.more y1, HS.out.bb.more y1, by rw [HON.out]; exact HS.out.bk.more y1, inferInstance⟩, grow_after inferInstance⟩
  · rw [hb] at HL hon
    have HO : Hid (W.onF h l h' l' i = W.letter h' l' (W.ones h l i)) := by unfold W.onF; rw [hb]; rfl
    have HON : Hid (W.ones h l (i + 1) = W.ones h l i + 1) := by show _ = _; simpa using hon
    have HS := Lib.hid s
    obtain ⟨n, hn⟩ : ∃ n, W.ones h l i = n := ⟨_, rfl⟩
    have bk := s.bk
    rw [hn] at hob HO HON bk
    have HB := Lib.hid bk
    have k0 : U.cell? ⟨gk, 0, none⟩ = some (.int .i64 (n : Nat)) := by rw [bk.cell]; rfl
    have fk := bk.frozen 0
    have lk := bk.is_le
    have i1 : Ne' ga gk := ⟨n1⟩
    have i2 : Ne' gb gk := ⟨n2⟩
    have i3 : New w gk := ⟨hgk⟩
    have HL' : Gives w 43 #[.agg #[.slice A' h'.length c', .slice B' l'.length d'], .int .i64 (n : Nat)] (.bool (W.letter h' l' n)) := fun V _ => by
      have := letter_any x' V (n : Nat) (by omega) (by omega) hl'; rwa [letterB_nat] at this
    clear hb hon hn bk s
    go_enter Try.func42, Try.ntmps42
    go_wp2_with fail
    refine (HL _ inferInstance).mono ?_
    rintro e w' ⟨rfl, y1, rfl⟩
    go_wp2_with fail
    refine (HL' _ inferInstance).mono ?_
    rintro e w' ⟨rfl, y2, rfl⟩
    go_wp2_with fail
    go_ret
    refine ⟨ret_bool HO.out.symm, ⟨((HS.out.ba.more y1).far2 n1).more y2, ((HS.out.bb.more y1).far2 n2).more y2, ?_, inferInstance⟩, ?_⟩
    · rw [HON.out]
      have := ((HB.out.more y1).set_ 0 (.int .i64 ((n : Int) + 1))).more y2
      rw [Int.natCast_add]
      exact this
    · exact grow_trans (grow_row (grow_after (w := U) (x := U.more y1) inferInstance) 0 _) (grow_after (row := none) (w := (U.more y1).setCell ⟨gk, 0, none⟩ (.int .i64 ((n : Int) + 1))) inferInstance) (fun _ h => by cases h)
end Go.Proofs.Ytjbpelkdciphnaa
