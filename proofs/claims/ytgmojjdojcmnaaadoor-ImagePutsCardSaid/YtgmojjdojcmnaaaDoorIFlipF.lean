/-
  Plain: the bytes of an image with one changed byte are refused.
-/
import Derived.Test.YtgmojjdojcmnaaaDoorISumF
import Derived.Test.YtgmojjdojcmnaaaDoorIGetF
namespace Go.Proofs.YtgmojjdojcmnaaaDoor

theorem enc_inj {a b : Nat} (ha : a < 4294967296) (hb : b < 4294967296) (h : enc (a : Int) = enc (b : Int)) : a = b := by
  have e1 := num4_enc (a : Int)
  have e2 := num4_enc (b : Int)
  unfold enc at h
  simp only [List.cons.injEq, and_true] at h
  obtain ⟨h0, h1, h2, h3⟩ := h
  rw [h0, h1, h2, h3, e2] at e1
  unfold u32 at e1
  omega
theorem putB_len (m : Img) : (putB m).length = (bodyB m).length + 4 := by unfold putB; rw [List.length_append, enc_length]
theorem bodyB_len (m : Img) : 12 ≤ (bodyB m).length := by
  unfold bodyB encL
  simp only [List.length_append, enc_length, List.length_cons, List.length_nil]
  omega
theorem flip_bad (m : Img) (k : Nat) (hk : k < (putB m).length) (y : UInt8) (hy : y ≠ (putB m)[k]) : getV ((putB m).set k y) = (⟨[], []⟩, 15) := by
  have hl := putB_len m
  have hb := bodyB_len m
  have hs := sumB_lt (bodyB m)
  unfold getV
  rw [if_neg (by rw [List.length_set]; omega)]
  simp only [List.length_set]
  rw [if_pos]
  rw [hl, Nat.add_sub_cancel]
  by_cases h : k < (bodyB m).length
  · have e1 : (putB m).set k y = (bodyB m).set k y ++ enc (sumB (bodyB m)) := by unfold putB; rw [List.set_append_left _ _ h]
    have e0 : (putB m)[k] = (bodyB m)[k] := by simp only [putB]; exact List.getElem_append_left h
    rw [e1, List.take_left' (by rw [List.length_set]), List.drop_left' (by rw [List.length_set])]
    rw [e0] at hy
    intro e
    exact sumB_set (bodyB m) k h y hy (enc_inj (sumB_lt _) hs e)
  · have e1 : (putB m).set k y = bodyB m ++ (enc (sumB (bodyB m))).set (k - (bodyB m).length) y := by unfold putB; rw [List.set_append_right _ _ (by omega)]
    rw [e1, List.take_left' rfl, List.drop_left' rfl]
    intro e
    have hi : k - (bodyB m).length < (enc (sumB (bodyB m))).length := by rw [enc_length]; omega
    have e2 : (enc (sumB (bodyB m)))[k - (bodyB m).length] = y := by
      have h3 := congrArg (fun l => l[k - (bodyB m).length]?) e
      simp only [List.getElem?_set_self hi, List.getElem?_eq_getElem hi] at h3
      exact Option.some.inj h3
    apply hy
    rw [← e2]
    simp only [putB]
    rw [List.getElem_append_right (by omega)]
end Go.Proofs.YtgmojjdojcmnaaaDoor
