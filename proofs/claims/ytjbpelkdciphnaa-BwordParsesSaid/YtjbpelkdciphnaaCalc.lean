/-
  Plain: the normal form, reckoned.
-/
import Derived.Test.YtjbpelkdciphnaaNormal
set_option linter.unusedVariables false
namespace Go.Proofs.Ytjbpelkdciphnaa

def perF (l : List Bool) : Nat → Nat → Nat
  | 0, d => d
  | f + 1, d => if perB l d then d else perF l f (d + 1)
theorem perF_is (l : List Bool) (f d : Nat) (hd : 0 < d) (hf : d + f = l.length) (hm : ∀ j, 0 < j → j < d → perB l j = false) : IsPer l (perF l f d) := by
  induction f generalizing d with
  | zero =>
    have : d = l.length := by omega
    subst this
    exact ⟨hd, Nat.le_refl _, perB_len l, hm⟩
  | succ f ih =>
    unfold perF
    cases hb : perB l d with
    | true => rw [if_pos rfl]; exact ⟨hd, by omega, hb, hm⟩
    | false =>
      rw [if_neg (by simp)]
      refine ih (d + 1) (by omega) (by omega) fun j h1 h2 => ?_
      rcases Nat.lt_or_ge j d with h | h
      · exact hm j h1 h
      · rw [show j = d by omega]; exact hb
def shr : List Bool → List Bool → List Bool × List Bool
  | [], lp => ([], lp)
  | b :: rh, lp => if b == lp.getD (lp.length - 1) false then shr rh (lp.getD (lp.length - 1) false :: lp.take (lp.length - 1)) else ((b :: rh).reverse, lp)
theorem shr_is {h l : List Bool} (hl : 0 < l.length) : ∀ (rh lp : List Bool), NState (W.letter h l) (perN l) rh.length rh.reverse lp → W.nf (W.letter h l) = shr rh lp := by
  intro rh
  induction rh with
  | nil => intro lp s; exact s.done hl (.inl rfl)
  | cons b rh ih =>
    intro lp s
    have hp := (perN_is hl).pos
    have hlen := s.lens.2
    have hb : (b :: rh).reverse.getD rh.length false = b := by simp [List.getD_eq_getElem?_getD]
    unfold shr
    rw [hlen]
    by_cases e : b = lp.getD (perN l - 1) false
    · rw [if_pos (by simpa using e)]
      have s2 := NState.step hp s (by rw [hb]; exact e)
      have : (b :: rh).reverse.take rh.length = rh.reverse := by simp
      rw [this] at s2
      exact ih _ s2
    · rw [if_neg (by simpa using e)]
      exact s.done hl (.inr (by simp only [List.length_cons, Nat.add_sub_cancel]; rw [hb]; exact e))
/-- the normal form of a word, as a program would reckon it -/
def nfC (h l : List Bool) : List Bool × List Bool := shr h.reverse (l.take (perF l (l.length - 1) 1))
theorem nf_calc {h l : List Bool} (hl : 0 < l.length) : W.nf (W.letter h l) = nfC h l := by
  have e : perN l = perF l (l.length - 1) 1 := perN_of (perF_is l _ 1 (by omega) (by omega) fun j h1 h2 => by omega)
  have s := normal_start (h := h) hl
  have := shr_is (h := h) hl h.reverse (l.take (perN l)) (by rw [List.reverse_reverse, List.length_reverse]; exact s)
  rw [this, e]; rfl
theorem nf_calcF {F : Nat → Bool} {head loop : Nat} (hl : 0 < loop) (k : W.Per F head loop) : W.nf F = nfC (W.tab F 0 head) (W.tab F head loop) := by
  rw [← nf_calc (by rw [W.tab_length]; exact hl), show W.letter (W.tab F 0 head) (W.tab F head loop) = F from funext (W.letter_tab hl k)]
end Go.Proofs.Ytjbpelkdciphnaa
