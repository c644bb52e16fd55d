/-
  Contract: bword.period. What it computes: the least divisor that is a period of the list.
-/
import Derived.Test.YtjbpelkdciphnaaBools
import Derived.Test.YtjbpelkdciphnaaNf
set_option linter.unusedVariables false
namespace Go.Proofs.Ytjbpelkdciphnaa
open Go.RowKit Go.BigFrame

/-- is the list a repetition of its first d letters (d divides its length)? -/
def perB (l : List Bool) (d : Nat) : Bool := l.length % d == 0 && (l.drop d == l.take (l.length - d))
theorem perB_ne {l : List Bool} {d : Nat} (h : ¬ l.length % d = 0) : perB l d = false := by unfold perB; simp [h]
theorem perB_at {l : List Bool} {d : Nat} (h : l.length % d = 0) : perB l d = (l.drop d == l.take (l.length - d)) := by unfold perB; simp [h]
theorem perB_iff {l : List Bool} {d : Nat} (hd : 0 < d) (hle : d ≤ l.length) : perB l d = true ↔ l.length % d = 0 ∧ W.Per (W.letter [] l) 0 d := by
  unfold perB
  rw [Bool.and_eq_true, beq_iff_eq, beq_iff_eq]
  refine and_congr_right fun hm => ?_
  obtain ⟨q, hq⟩ := Nat.dvd_of_mod_eq_zero hm
  have hlet : ∀ i, i < l.length → W.letter [] l i = l.getD i false := fun i hi => by unfold W.letter; simp [Nat.mod_eq_of_lt hi]
  have hper := W.letter_per [] l
  constructor
  · intro e i _
    have key : ∀ j, j + d < l.length → l.getD (j + d) false = l.getD j false := by
      intro j hj
      have := congrArg (fun x : List Bool => x.getD j false) e
      simp only [List.getD_eq_getElem?_getD, List.getElem?_drop, List.getElem?_take] at this ⊢
      rw [if_pos (by omega)] at this
      rw [Nat.add_comm j d]; exact this
    have step : ∀ m j, j + m * d < l.length → l.getD (j + m * d) false = l.getD j false := by
      intro m
      induction m with
      | zero => intro j _; simp
      | succ m ih =>
        intro j hj
        rw [Nat.succ_mul] at hj ⊢
        rw [← Nat.add_assoc, key _ (by omega), ih _ (by omega)]
    have hlp : 0 < l.length := by omega
    have main : ∀ i, W.letter [] l i = l.getD (i % d) false := by
      intro i
      have h1 : W.letter [] l i = l.getD (i % l.length) false := by unfold W.letter; simp
      rw [h1]
      have h2 : i % l.length < l.length := Nat.mod_lt _ hlp
      have h3 := step (i % l.length / d) (i % l.length % d) (by have := Nat.div_add_mod (i % l.length) d; rw [Nat.mul_comm] at this; omega)
      have h4 : i % l.length % d + i % l.length / d * d = i % l.length := by have := Nat.div_add_mod (i % l.length) d; rw [Nat.mul_comm] at this; omega
      rw [h4] at h3
      rw [h3, hq, Nat.mod_mul_right_mod]
    rw [main, main, Nat.add_mod_right]
  · intro h
    refine List.ext_getElem (by simp) fun i h1 h2 => ?_
    simp at h1 h2
    have := h i (by omega)
    rw [hlet _ (by omega), hlet _ (by omega)] at this
    simp [List.getD_eq_getElem?_getD, show i + d < l.length by omega, show i < l.length by omega] at this
    simp only [List.getElem_drop, List.getElem_take]
    rw [← this]
    congr 1; omega

structure IsPer (l : List Bool) (p : Nat) : Prop where
  pos : 0 < p
  le : p ≤ l.length
  per : perB l p = true
  least : ∀ d, 0 < d → d < p → perB l d = false
theorem IsPer.unique {l p q} (a : IsPer l p) (b : IsPer l q) : p = q := by
  rcases Nat.lt_trichotomy p q with h | h | h
  · have := b.least p a.pos h; rw [a.per] at this; cases this
  · exact h
  · have := a.least q b.pos h; rw [b.per] at this; cases this
theorem perB_len (l : List Bool) : perB l l.length = true := by unfold perB; simp
open Classical in
noncomputable def perN (l : List Bool) : Nat := if h : ∃ p, IsPer l p then Classical.choose h else 0
theorem perN_of {l p} (h : IsPer l p) : perN l = p := by
  have he : ∃ p, IsPer l p := ⟨p, h⟩
  unfold perN; rw [dif_pos he]; exact (Classical.choose_spec he).unique h
theorem perN_is {l : List Bool} (hl : 0 < l.length) : IsPer l (perN l) := by
  obtain ⟨p, h1, ⟨h2, h3⟩, h4⟩ := W.least_of (P := fun d => 0 < d ∧ perB l d = true) l.length ⟨hl, perB_len l⟩
  have h : IsPer l p := ⟨h2, h1, h3, fun d hd hlt => by
    cases e : perB l d with
    | false => rfl
    | true => exact absurd ⟨hd, e⟩ (h4 d hlt)⟩
  rw [perN_of h]; exact h

theorem RB.drop {w : World} {ad c l} (x : RB w (some ad) c l) (k : Nat) (hk : k ≤ l.length) : RB w (some (ad.add k)) (c - k) (l.drop k) := by
  refine ⟨⟨by simp [bv], fun hn => ?_⟩, by have := x.le; simp; omega, by have := x.cap; omega, by have := x.len; simp; omega⟩
  simp at hn
  obtain ⟨ad', e2, hb, hc⟩ := x.reads.2 (by omega)
  cases e2
  refine ⟨_, rfl, by rw [block_of_add]; exact hb, fun j u hu => ?_⟩
  rw [add_of_add]
  refine hc _ u ?_
  rw [← hu]; simp [bv, List.getElem?_map, List.getElem?_drop]

set_option maxHeartbeats 800000 in
theorem period_any {w0 : World} {A c l} (x : RB w0 A c l) (w : World) [After w0 w] (hl : 0 < l.length) :
    Calls Try.prog 68 #[.slice A l.length c] w fun e w' => e = .returned (.int .i64 (perN l : Nat)) ∧ ∃ y, w' = w.more y := by
  replace x := x.here w
  have b1 := x.len
  have b2 := x.le
  obtain ⟨ad, rfl, hbk0, _⟩ := x.at_ hl
  go_enter Try.func68, Try.ntmps68
  go_wp2
  go_loopw [3] (fun i wr => ∃ d : Nat, 0 < d ∧ d ≤ l.length ∧ i = .int .i64 d ∧ Hid (∀ j, 0 < j → j < d → perB l j = false) ∧ After w wr) (fun i _ => l.length - (intOf i).toNat)
  case atStart => exact ⟨1, by omega, by omega, rfl, fun j h1 h2 => by omega, inferInstance⟩
  case round =>
    obtain ⟨d, hd, hdl, rfl, HP, haft⟩ := hrel
    obtain ⟨z, rfl⟩ := After.is_more w wr
    by_cases hlt : d < l.length
    · have e2 : ((l.length : Int).tmod (d : Int)) = ((l.length % d : Nat) : Int) := by rw [Int.tmod_eq_emod_of_nonneg (by omega)]; simp
      have e3 : ¬ ((d : Int) = 0) := by omega
      by_cases hm : l.length % d = 0
      · have hp := perB_at hm
        rw [hm] at e2
        replace hm := Lib.hid hm
        have xd := x.drop d hdl
        have xt := x.cut (l.length - d) (by omega)
        have e4 : (l.drop d).length = l.length - d := by simp
        have e5 : (l.take (l.length - d)).length = l.length - d := by simp
        cases hb : perB l d
        · have HE : Hid (∀ U : World, After w U → Calls Try.prog 56 #[.slice (some (ad.add d)) (l.length - d) (c - d), .slice (some ad) (l.length - d) c] U fun e w' => e = .returned (.bool false) ∧ ∃ y, w' = U.more y) := by
            intro U _; have := equal_bools xd xt U; rwa [e4, e5, ← hp, hb] at this
          replace hb := Lib.hid hb
          clear hp e4 e5 xd xt
          go_wp2
          refine wp_region_more (by kernel_rfl) (by kernel_rfl) ?_
          repeat (go_big_quiet_step ((go_at_call 56; with_reducible exact Calls.more_of (HE.out _ inferInstance))))
          refine wpQuiet_nil ?_
          rintro _ ⟨y3, rfl⟩
          go_wp2
          go_roundw
          case rel => exact ⟨d + 1, by omega, by omega, by go_num, (fun j h1 h2 => by
            rcases Nat.lt_or_ge j d with h | h
            · exact HP.out j h1 h
            · rw [show j = d by omega]; exact hb.out), inferInstance⟩
          case measure => simp [intOf]; omega
        · have HE : Hid (∀ U : World, After w U → Calls Try.prog 56 #[.slice (some (ad.add d)) (l.length - d) (c - d), .slice (some ad) (l.length - d) c] U fun e w' => e = .returned (.bool true) ∧ ∃ y, w' = U.more y) := by
            intro U _; have := equal_bools xd xt U; rwa [e4, e5, ← hp, hb] at this
          have HN := Lib.hid (perN_of ⟨hd, hdl, hb, HP.out⟩)
          clear hp e4 e5 xd xt hb
          go_wp2
          refine wp_region_more (by kernel_rfl) (by kernel_rfl) ?_
          repeat (go_big_quiet_step ((go_at_call 56; with_reducible exact Calls.more_of (HE.out _ inferInstance))))
          refine wpQuiet_nil ?_
          rintro _ ⟨y3, rfl⟩
          go_wp2
          go_ret
          exact ⟨ret_int (by rw [HN.out]), After.is_more _ _⟩
      · have hb := Lib.hid (perB_ne hm)
        have t1 : (((l.length : Nat) : Int) % ((d : Nat) : Int) == 0) = false := by rw [beq_eq_false_iff_ne]; omega
        replace hm := Lib.hid hm
        go_wp2
        refine wp_region_more (by kernel_rfl) (by kernel_rfl) ?_
        repeat (go_big_quiet_step (fail))
        refine wpQuiet_nil ?_
        rintro _ ⟨y3, rfl⟩
        go_wp2
        go_roundw
        case rel => exact ⟨d + 1, by omega, by omega, by go_num, (fun j h1 h2 => by
          rcases Nat.lt_or_ge j d with h | h
          · exact HP.out j h1 h
          · rw [show j = d by omega]; exact hb.out), inferInstance⟩
        case measure => simp [intOf]; omega
    · have : d = l.length := by omega
      have HN := Lib.hid (perN_of ⟨hd, hdl, by rw [this]; exact perB_len l, HP.out⟩)
      subst this
      go_wp2
      go_ret
      exact ⟨ret_int (by rw [HN.out]), After.is_more _ _⟩
end Go.Proofs.Ytjbpelkdciphnaa
