/-
  Plain facts on Check: what a well-formed program's parts satisfy; rows' beginnings.
-/
import Derived.Test.YtdghfhnkacfahaaSCk
set_option linter.unusedVariables false
set_option linter.unusedSimpArgs false
namespace Go.Proofs.Ytdghfhnkacfahaa
open Go.RowKit

theorem u8_bd {z : Int} (h : (Lit.int .u8 z).wf = true) : 0 ≤ z ∧ z ≤ 255 := by
  simp [Lit.wf, IntKind.min, IntKind.max, IntKind.signed, IntKind.bits] at h
  omega
theorem ore_zero_iff {a b : Int} : ore a b = 0 ↔ a = 0 ∧ b = 0 := by
  unfold ore
  split
  · rename_i h; simp [h]
  · rename_i h; simp [h]
theorem firstE_zero {α : Type} (f : α → Int) : ∀ {l : List α}, firstE f l = 0 ↔ ∀ x ∈ l, f x = 0
  | [] => by simp [firstE]
  | a :: l => by rw [firstE, ore_zero_iff, firstE_zero f (l := l)]; simp
theorem limE_zero {b : Bool} {e : Int} (he : e ≠ 0) : limE b e = 0 ↔ b = true := by
  unfold limE
  cases b <;> simp [he]
theorem nodesV_zero (en : List EnD) : ∀ (l : List NdD) (k : Nat), (nodesV en l k).2.2 = 0 ↔ firstE (nodeE en) l = 0
  | [], _ => by simp [nodesV, firstE]
  | a :: l, k => by
    rw [nodesV, firstE]
    by_cases h : nodeE en a = 0
    · rw [if_pos h, ore_yes h]; exact nodesV_zero en l (k + 1)
    · rw [if_neg h, ore_no h]
theorem checkV_zero (en : List EnD) (ns : List NdD) : (checkV en ns).2.2 = 0 ↔ preE en ns = 0 ∧ ∀ n ∈ ns, nodeE en n = 0 := by
  unfold checkV
  by_cases h : preE en ns = 0
  · rw [if_pos h, nodesV_zero, firstE_zero]; simp [h]
  · rw [if_neg h]; simp [h]
theorem check_take {en : List EnD} {ns : List NdD} (h : (checkV en ns).2.2 = 0) (m : Nat) : (checkV en (ns.take m)).2.2 = 0 := by
  rw [checkV_zero] at h ⊢
  refine ⟨?_, fun n hn => h.2 n (List.mem_of_mem_take hn)⟩
  have h1 := h.1
  unfold preE at h1 ⊢
  rw [ore_zero_iff, limE_zero (by decide), Bool.and_eq_true, decide_eq_true_eq, decide_eq_true_eq] at h1 ⊢
  have : (ns.take m).length ≤ ns.length := by simp; omega
  exact ⟨⟨h1.1.1, by omega⟩, h1.2⟩
theorem check_right {en : List EnD} {ns : List NdD} (h : (checkV en ns).2.2 = 0) {n : NdD} (hn : n ∈ ns) {q : EqD} (hq : q ∈ n.eqs.l) : exE en q.right = 0 := by
  have h1 := ((checkV_zero en ns).1 h).2 n hn
  unfold nodeE at h1
  rw [ore_zero_iff, ore_zero_iff, firstE_zero] at h1
  have h2 := h1.2.1 q hq
  unfold eqE at h2
  rw [ore_zero_iff, ore_zero_iff, ore_zero_iff, ore_zero_iff] at h2
  exact h2.2.2.2.1
theorem RowOf.take {α : Type} {sz : Nat} {P : World → Nat → Nat → α → Prop} {w : World} {A : Option Addr} {c : Nat} {l : List α} (h : RowOf sz P w ⟨A, c, l⟩) (m : Nat) : RowOf sz P w ⟨A, c, l.take m⟩ := by
  have hl : (l.take m).length ≤ l.length := by simp; omega
  refine ⟨?_, Nat.le_trans hl h.le, h.cap, Nat.le_trans hl h.len⟩
  rcases h.cells with e | ⟨b, p, e, hlt, hc⟩
  · exact .inl (by show l.take m = []; rw [show l = [] from e]; simp)
  · refine .inr ⟨b, p, e, hlt, fun i y hy => hc i y ?_⟩
    have h2 : (l.take m)[i]? = some y := hy
    rw [List.getElem?_take] at h2
    split at h2
    · exact h2
    · cases h2
end Go.Proofs.Ytdghfhnkacfahaa
