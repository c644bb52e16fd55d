/-
  Plain facts on the page's examples: what Check, Find, Plain, Same answer at them.
-/
import Derived.Test.YtdghfhnkacfahaaSLi
import Derived.Test.YtdghfhnkacfahaaSCk
import Derived.Test.YtdghfhnkacfahaaSFi
import Derived.Test.YtdghfhnkacfahaaSQc
set_option linter.unusedVariables false
set_option linter.unusedSimpArgs false
namespace Go.Proofs.Ytdghfhnkacfahaa
open Go.RowKit Go.BigFrame

def gNode : NdD := ⟨⟨#[103]⟩, ⟨none, 0, []⟩, ⟨none, 0, []⟩, ⟨none, 0, []⟩, ⟨none, 0, []⟩, ⟨none, 0, []⟩, ⟨none, 0, []⟩, ⟨none, 0, []⟩⟩
def constT (t v : Int) : Tx := .mk 1 0 t v ⟨#[]⟩ none 0 []
theorem chk_const (t v : Int) (h : fT 1 t v = true) : chkI (constT t v) = 0 := by
  have e1 : errOf (constT t v) = 0 := by
    show oneI 1 0 t v ⟨#[]⟩ 0 = 0
    unfold oneI oneB
    rw [h, show fA 1 0 t v ((0 : Nat) : Int) = true from rfl, if_neg (by decide), if_neg (by decide), if_neg (by decide), if_neg (by decide), if_pos (by kernel_rfl)]
  have e2 : (constT t v).list = [constT t v] := rfl
  unfold chkI
  rw [if_neg (by show ¬ ((400 : Int) < szN 1 ∨ (32 : Int) < wrap64 (0 + 1)); unfold szN wrap64; omega), e2, firstI, if_pos e1, firstI]
theorem ex_const {l : List EnD} (t v : Int) (h : fT 1 t v = true) : exE l (constT t v) = insE l 1 t v 0 := by
  unfold exE
  rw [if_pos (chk_const t v h)]
  show firstX l [constT t v] = _
  rw [firstX, firstX]
  show (if insE l 1 t v 0 = 0 then 0 else insE l 1 t v 0) = _
  split
  · rename_i h; exact h.symm
  · rfl
theorem id_x : identB ⟨#[120]⟩ = true := by kernel_rfl
theorem id_f : identB ⟨#[102]⟩ = true := by kernel_rfl
theorem id_g : identB ⟨#[103]⟩ = true := by kernel_rfl
theorem id_a : identB ⟨#[97]⟩ = true := by kernel_rfl
theorem id_A : identB ⟨#[65]⟩ = true := by kernel_rfl
theorem id_light : identB ⟨#[76, 105, 103, 104, 116]⟩ = true := by kernel_rfl
theorem id_red : identB ⟨#[82, 101, 100]⟩ = true := by kernel_rfl
theorem id_green : identB ⟨#[71, 114, 101, 101, 110]⟩ = true := by kernel_rfl
theorem red_is : redT = constT 3 0 := rfl
/-- an enumeration stands first, with two tags or more -/
def Two (l : List EnD) : Prop := ∃ u m, l = u :: m ∧ 2 ≤ u.tags.l.length
theorem Two.size {l : List EnD} (h : Two l) : 2 ≤ sizeV l 3 := by
  obtain ⟨u, m, rfl, h2⟩ := h
  exact h2
theorem ex_red {l : List EnD} (h : Two l) : exE l redT = 0 := by
  have h2 := h.size
  rw [red_is, ex_const 3 0 (by decide)]
  unfold insE
  rw [if_pos (.inl rfl), if_neg (by omega), if_pos]
  unfold hasV
  rw [if_neg (by decide)]
  simp; omega
theorem ex_yes (l : List EnD) : exE l (constT 1 1) = 0 := by
  rw [ex_const 1 1 (by decide)]
  rfl
theorem eq_light {l : List EnD} (h : Two l) (lA : Option Addr) (lc : Nat) : eqE l ⟨⟨lA, lc, [⟨#[120]⟩]⟩, redT⟩ = 0 := by
  simp only [eqE, firstE, identE, id_x, ex_red h, ore, limE]; kernel_rfl
theorem enum_light (G : Nat) : enumE (lightU G) = 0 := by
  simp only [enumE, lightU, firstE, identE, id_light, id_red, id_green, ore, limE]; kernel_rfl
theorem decl_x {l : List EnD} (h : Two l) (b : Bool) : declE l b ⟨⟨#[120]⟩, 3, ⟨none, 0, []⟩⟩ = 0 := by
  have h2 := h.size
  have h3 : decide ((0 : Int) < (sizeV l 3 : Int)) = true := by rw [decide_eq_true_eq]; omega
  unfold declE
  simp only [firstE, identE, id_x, limE, h3]
  cases b <;> rfl
theorem head_light {l : List EnD} (h : Two l) (G : Nat) : headE l (lightN G) = 0 := by
  simp only [headE, lightN, declsE, firstE, identE, id_f, ore, limE, decl_x h]; kernel_rfl
theorem node_light {l : List EnD} (h : Two l) (G : Nat) : nodeE l (lightN G) = 0 := by
  unfold nodeE
  rw [head_light h, ore_yes rfl]
  simp only [lightN, firstE, eq_light h, tailE, ore]
  kernel_rfl
theorem head_g {l : List EnD} : headE l gNode = 8 := by
  simp only [headE, gNode, declsE, firstE, identE, id_g, ore, limE]; kernel_rfl
theorem two_light (G : Nat) : Two [lightU G] := ⟨_, [], rfl, Nat.le_refl 2⟩
theorem pre_light (G G' : Nat) (n : List NdD) (hn : (n.length : Int) ≤ 96) : preE [lightU G] n = 0 := by
  unfold preE
  rw [firstE, enum_light, firstE, decide_eq_true hn]
  rfl
theorem light_check (G : Nat) : checkV [lightU G] [lightN G] = (0, 0, 0) := by
  unfold checkV
  rw [if_pos (pre_light G G _ (by simp)), nodesV, if_pos (node_light (two_light G) G), nodesV]
theorem light_check2 (G : Nat) : checkV [lightU G] [lightN G, gNode] = (1, -1, 8) := by
  have hg : nodeE [lightU G] gNode = 8 := by unfold nodeE; rw [head_g]; rfl
  unfold checkV
  rw [if_pos (pre_light G G _ (by simp)), nodesV, if_pos (node_light (two_light G) G), nodesV, if_neg (by rw [hg]; decide), hg]
  unfold nodeQ
  rw [if_neg (by rw [head_g]; decide)]
  rfl
theorem light_find (G : Nat) : ixV (isNamed ⟨#[103]⟩) [lightN G, gNode] 0 = 1 := by
  have h1 : isNamed ⟨#[103]⟩ (lightN G) = false := by show (ByteArray.toList ⟨#[102]⟩ == ByteArray.toList ⟨#[103]⟩) = false; kernel_rfl
  have h2 : isNamed ⟨#[103]⟩ gNode = true := by show (ByteArray.toList ⟨#[103]⟩ == ByteArray.toList ⟨#[103]⟩) = true; kernel_rfl
  rw [ixV, h1, if_neg (by decide), ixV, h2, if_pos rfl]; rfl
theorem light_plain (G : Nat) : [lightN G].any hasAutos = false := rfl
theorem light_same (G G' : Nat) (a b c d : Option Addr) (e f g h : Nat) : pgSame ⟨⟨a, e, [lightU G]⟩, ⟨b, f, [lightN G]⟩⟩ ⟨⟨c, g, [lightU G']⟩, ⟨d, h, [lightN G']⟩⟩ = true := by
  have hs : redT.same redT = true := same_refl _
  simp [pgSame, lsame, all2, enSame, lightU, ndSame, lightN, declSame, eqSame, strSame_refl, hs]
theorem light_other (G G' : Nat) (a b c d : Option Addr) (e f g h : Nat) : pgSame ⟨⟨a, e, [lightU G]⟩, ⟨b, f, [lightN G]⟩⟩ ⟨⟨c, g, [lightU G']⟩, ⟨d, h, [lightN G', gNode]⟩⟩ = false := by
  simp [pgSame, lsame]
theorem ex_three (G : Nat) : exE [lightU G] (constT 3 2) = 14 := by
  rw [ex_const 3 2 (by decide)]
  rfl
end Go.Proofs.Ytdghfhnkacfahaa
