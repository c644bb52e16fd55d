/-
  Contracts: the reference's bools, Equal; repeats, shortest (bools printed by gen_rsh.py out of slices.Equal's).
-/
import Derived.Test.YtjbpelkdciphnaaBools
import Derived.Test.YtjbpelkdciphnaaNf
import Derived.Deep.DrawnRows
set_option linter.unusedVariables false
namespace Go.Proofs.Ytjbpelkdciphnaa
open Go.RowKit Go.BigFrame

set_option maxHeartbeats 800000 in
theorem rbools {w0 : World} {A c l A' c' l'} (x : RB w0 A c l) (x' : RB w0 A' c' l') (w : World) [After w0 w] :
    Calls Try.prog 50 #[.slice A l.length c, .slice A' l'.length c'] w fun e w' => e = .returned (.bool (l == l')) ∧ ∃ y, w' = w.more y := by
  replace x := x.here w
  replace x' := x'.here w
  have b1 := x.len; have b2 := x'.len
  by_cases hl : l.length = l'.length
  · have hle := hl
    have t1 : (((l.length : Nat) : Int) != ((l'.length : Nat) : Int)) = false := by rw [bne_eq_false_iff_eq]; omega
    replace hl := Lib.hid hl
    clear hle
    go_enter Try.func50, Try.ntmps50
    go_wp2
    go_loopw [5] (fun i wr => ∃ k : Nat, k ≤ l.length ∧ i = .int .i64 k ∧ Hid (l.take k = l'.take k) ∧ After w wr) (fun i _ => l.length - (intOf i).toNat)
    case atStart => exact ⟨0, by omega, rfl, rfl, inferInstance⟩
    case round =>
      obtain ⟨k, hk, rfl, HT, haft⟩ := hrel
      obtain ⟨z, rfl⟩ := After.is_more w wr
      by_cases hlt : k < l.length
      · have hlt' : k < l'.length := by have := hl.out; omega
        obtain ⟨ad, b, rfl, hbk, hc, HB⟩ := x.bit hlt
        obtain ⟨ad', b', rfl, hbk', hc', HB'⟩ := x'.bit hlt'
        have i1 : (0 : Int) ≤ (k : Int) := by omega
        have i2 : (k : Int) < (l.length : Int) := by omega
        have i3 : (k : Int) < (l'.length : Int) := by omega
        by_cases hbb : b = b'
        · subst hbb
          have t2 : (b != b) = false := by simp
          go_wp2
          go_quiet (fail)
          go_wp2
          go_roundw
          case rel => exact ⟨k + 1, by omega, by go_num, take_eq_succ hlt hlt' HT.out (HB.out.trans HB'.out.symm), inferInstance⟩
          case measure => simp [intOf]; omega
        · have t2 : (b == b') = false := by simpa using hbb
          replace hbb := Lib.hid hbb
          go_wp2
          go_quiet (fail)
          go_wp2
          go_ret
          refine ⟨ret_bool ?_, After.is_more _ _⟩
          symm
          rw [beq_eq_false_iff_ne]
          intro e
          rw [e] at HB
          exact hbb.out (HB.out.symm.trans HB'.out)
      · have : k = l.length := by omega
        subst this
        go_wp2
        go_ret
        refine ⟨ret_bool ?_, After.is_more _ _⟩
        have := HT.out
        rw [List.take_length, hl.out, List.take_length] at this
        rw [this]; simp
  · have t1 : (((l.length : Nat) : Int) != ((l'.length : Nat) : Int)) = true := by rw [bne_iff_ne]; omega
    replace hl := Lib.hid hl
    go_enter Try.func50, Try.ntmps50
    go_wp2
    go_ret
    refine ⟨ret_bool ?_, After.is_more _ _⟩
    symm
    rw [beq_eq_false_iff_ne]
    intro e
    exact hl.out (by rw [e])

set_option maxHeartbeats 800000 in
theorem requal_any {w0 : World} {A B c d h l A' B' c' d' h' l'} (x : RW w0 A c B d h l) (x' : RW w0 A' c' B' d' h' l') (w : World) [After w0 w] :
    Calls Try.prog 16 #[.agg #[.slice A h.length c, .slice B l.length d], .agg #[.slice A' h'.length c', .slice B' l'.length d']] w fun e w' => e = .returned (.bool (h == h' && l == l')) ∧ ∃ y, w' = w.more y := by
  replace x := x.here w
  replace x' := x'.here w
  have E1 : Hid (∀ U, After w U → Calls Try.prog 50 #[.slice A h.length c, .slice A' h'.length c'] U fun e w' => e = .returned (.bool (h == h')) ∧ ∃ y, w' = U.more y) := fun U _ => rbools x.head x'.head U
  have E2 : Hid (∀ U, After w U → Calls Try.prog 50 #[.slice B l.length d, .slice B' l'.length d'] U fun e w' => e = .returned (.bool (l == l')) ∧ ∃ y, w' = U.more y) := fun U _ => rbools x.loop x'.loop U
  have HV : Hid ((h == h' && l == l') = (h == h' && l == l')) := rfl
  generalize (h == h') = b1 at E1 HV ⊢
  generalize (l == l') = b2 at E2 HV ⊢
  cases b1
  · go_enter Try.func16, Try.ntmps16
    go_wp2_with fail
    refine (E1.out _ inferInstance).mono ?_
    rintro e w' ⟨rfl, y1, rfl⟩
    go_wp2_with fail
    go_ret
    exact ⟨rfl, After.is_more _ _⟩
  · go_enter Try.func16, Try.ntmps16
    go_wp2_with fail
    refine (E1.out _ inferInstance).mono ?_
    rintro e w' ⟨rfl, y1, rfl⟩
    go_wp2_with fail
    refine (E2.out _ inferInstance).mono ?_
    rintro e w' ⟨rfl, y2, rfl⟩
    go_wp2_with fail
    go_ret
    exact ⟨rfl, After.is_more _ _⟩

def repB (F : Nat → Bool) (frm n p : Nat) : Bool := (List.range n).all fun i => F (frm + i) == F (frm + i + p)
theorem repB_no {F : Nat → Bool} {frm n p k : Nat} (hk : k < n) (e : F (frm + k) ≠ F (frm + k + p)) : repB F frm n p = false := by
  unfold repB
  rw [List.all_eq_false]
  exact ⟨k, List.mem_range.2 hk, by simpa using e⟩
theorem repB_yes {F : Nat → Bool} {frm n p : Nat} (e : ∀ k, k < n → F (frm + k) = F (frm + k + p)) : repB F frm n p = true := by
  unfold repB
  rw [List.all_eq_true]
  intro k hk
  simpa using e k (List.mem_range.1 hk)
theorem repB_iff {F : Nat → Bool} {N n p : Nat} (hn : 0 < n) (k : W.Per F N n) : repB F N n p = true ↔ W.Per F N p := by
  constructor
  · intro h i hi
    unfold repB at h
    rw [List.all_eq_true] at h
    have key : ∀ j, j < n → F (N + j + p) = F (N + j) := fun j hj => by have := h j (List.mem_range.2 hj); simpa using (by simpa using this : F (N + j) = F (N + j + p)).symm
    obtain ⟨j, rfl⟩ := Nat.exists_eq_add_of_le hi
    have a := k.mul (j / n) (N + j % n) (by omega)
    have b := k.mul (j / n) (N + j % n + p) (by omega)
    have c := Nat.div_add_mod j n
    rw [Nat.mul_comm] at c
    rw [show N + j % n + j / n * n = N + j by omega] at a
    rw [show N + j % n + p + j / n * n = N + j + p by omega] at b
    rw [a, b]
    exact key _ (Nat.mod_lt _ hn)
  · intro h
    exact repB_yes fun j _ => (h (N + j) (by omega)).symm

theorem RB.tab_bit {w : World} {A c N} {F : Nat → Bool} (x : RB w A c (W.tab F 0 N)) {k : Nat} (hk : k < N) :
    ∃ ad, A = some ad ∧ Le (ad.block + 1) w ∧ w.cell? (ad.add k) = some (.bool (F k)) := by
  obtain ⟨ad, e, h1, h2⟩ := x.at_ (k := k) (by rw [W.tab_length]; exact hk)
  rw [W.tab_getD _ _ _ _ hk, Nat.zero_add] at h2
  exact ⟨ad, e, h1, h2⟩

set_option maxHeartbeats 800000 in
theorem repeats_any {w0 : World} {A c N} {F : Nat → Bool} (x : RB w0 A c (W.tab F 0 N)) (w : World) [After w0 w] (frm n p : Nat) (hN : frm + n + p ≤ N) (hN2 : N ≤ 1000000) :
    Calls Try.prog 66 #[.slice A N c, .int .i64 (frm : Nat), .int .i64 ((frm : Int) + (n : Nat)), .int .i64 (p : Nat)] w fun e w' => e = .returned (.bool (repB F frm n p)) ∧ ∃ y, w' = w.more y := by
  replace x := x.here w
  go_enter Try.func66, Try.ntmps66
  go_wp2
  go_loopw [9] (fun i wr => ∃ k : Nat, k ≤ n ∧ i = .int .i64 ((frm : Int) + (k : Nat)) ∧ Hid (∀ j, j < k → F (frm + j) = F (frm + j + p)) ∧ After w wr) (fun i _ => frm + n - (intOf i).toNat)
  case atStart => exact ⟨0, by omega, by simp, fun j hj => by omega, inferInstance⟩
  case round =>
    obtain ⟨k, hk, rfl, HT, haft⟩ := hrel
    obtain ⟨z, rfl⟩ := After.is_more w wr
    by_cases hlt : k < n
    · obtain ⟨ad, rfl, hbk, hc⟩ := x.tab_bit (k := frm + k) (by omega)
      obtain ⟨ad', e', hbk', hc'⟩ := x.tab_bit (k := frm + k + p) (by omega)
      cases e'
      have i1 : (0 : Int) ≤ (frm : Int) + (k : Int) := by omega
      have i2 : (frm : Int) + (k : Int) < (N : Int) := by omega
      have i3 : (0 : Int) ≤ (frm : Int) + (k : Int) + (p : Int) := by omega
      have i4 : (frm : Int) + (k : Int) + (p : Int) < (N : Int) := by omega
      have i5 : IntKind.i64.wrap ((frm : Int) + (k : Int) + (p : Int)) = (frm : Int) + (k : Int) + (p : Int) := IntWalk.i64_in _ (by omega)
      have i6 : ((frm : Int) + (k : Int)).toNat = frm + k := by omega
      have i7 : ((frm : Int) + (k : Int) + (p : Int)).toNat = frm + k + p := by omega
      have HY : Hid (∀ j, F (frm + k) = F (frm + k + p) → j < k + 1 → F (frm + j) = F (frm + j + p)) := fun j e hj => by
        rcases Nat.lt_or_ge j k with h | h
        · exact HT.out j h
        · rw [show j = k by omega]; exact e
      have HX : Hid (F (frm + k) ≠ F (frm + k + p) → repB F frm n p = false) := fun e => repB_no hlt e
      generalize F (frm + k) = b at *
      generalize F (frm + k + p) = b' at *
      by_cases hbb : b = b'
      · subst hbb
        have t2 : (b != b) = false := by simp
        go_wp2
        go_quiet (fail)
        clear i5 i6 i7
        go_wp2
        go_roundw
        case rel => exact ⟨k + 1, by omega, by go_num, fun j hj => HY.out j (by first | trivial | rfl) hj, inferInstance⟩
        case measure => simp [intOf]; omega
      · have t2 : (b == b') = false := by simpa using hbb
        replace hbb := Lib.hid hbb
        go_wp2
        go_quiet (fail)
        clear i5 i6 i7
        go_wp2
        go_ret
        exact ⟨ret_bool (HX.out hbb.out).symm, After.is_more _ _⟩
    · have : k = n := by omega
      subst this
      go_wp2
      go_ret
      exact ⟨ret_bool (repB_yes HT.out).symm, After.is_more _ _⟩
end Go.Proofs.Ytjbpelkdciphnaa
