/-
  Words, for layer 6: Check of the program and of the reference; letters as bytes.
-/
import Derived.Test.YtdghfhnkacfahaaESize
import Derived.Test.YtdghfhnkacfahaaWord
set_option linter.unusedVariables false
set_option linter.unusedSimpArgs false
namespace Go.Proofs.Ytdghfhnkacfahaa
open Go.RowKit Go.BigFrame

def checkI (h l : List Bool) : Int := (W.check h l : Nat)
def Valid (h l : List Bool) : Prop := 0 < l.length ∧ h.length + l.length ≤ 64
theorem checkI_5 {h l : List Bool} (hl : l.length = 0) : checkI h l = 5 := by simp [checkI, W.check, hl]
theorem checkI_3 {h l : List Bool} (hl : 0 < l.length) (h3 : 64 < h.length + l.length) : checkI h l = 3 := by
  unfold checkI W.check; rw [if_neg (by omega), if_pos h3]; rfl
theorem checkI_0 {h l : List Bool} (hv : Valid h l) : checkI h l = 0 := by
  unfold checkI W.check; rw [if_neg (by have := hv.1; omega), if_neg (by have := hv.2; omega)]; rfl
theorem check_cases (h l : List Bool) : Valid h l ∨ (¬ Valid h l ∧ (checkI h l = 5 ∨ checkI h l = 3)) := by
  by_cases h1 : l.length = 0
  · exact .inr ⟨fun hv => by have := hv.1; omega, .inl (checkI_5 h1)⟩
  · by_cases h2 : 64 < h.length + l.length
    · exact .inr ⟨fun hv => by have := hv.2; omega, .inr (checkI_3 (by omega) h2)⟩
    · exact .inl ⟨by omega, by omega⟩
theorem Valid.of_checkI {h l : List Bool} (e : checkI h l = 0) : Valid h l := by
  rcases check_cases h l with hv | ⟨_, h5 | h3⟩
  · exact hv
  · omega
  · omega
theorem check_any {w0 : World} {A B c d h l} (x : RW w0 A c B d h l) (w : World) [After w0 w] :
    Calls Try.prog 98 #[.agg #[.slice A h.length c, .slice B l.length d]] w fun e w' => e = .returned (.int .i64 (checkI h l)) ∧ ∃ y, w' = w.more y := by
  replace x := x.here w
  obtain ⟨b1, b2⟩ := x.lens
  go_enter Try.func98, Try.ntmps98
  go_wp2
  all_goals
    go_ret
    refine ⟨ret_int ?_, After.is_more _ _⟩
  · exact (checkI_5 (by simpa using ‹((l.length : Int) == 0) = true›)).symm
  · have h1 : ¬ ((l.length : Int) = 0) := by simpa using ‹((l.length : Int) == 0) = false›
    exact (checkI_3 (by omega) (by omega)).symm
  · have h1 : ¬ ((l.length : Int) = 0) := by simpa using ‹((l.length : Int) == 0) = false›
    exact (checkI_0 ⟨by omega, by omega⟩).symm
theorem check_val {w0 : World} {A B c d h l} (x : RW w0 A c B d h l) (w : World) [After w0 w] {v : Int} (hv : checkI h l = v) :
    Calls Try.prog 98 #[.agg #[.slice A h.length c, .slice B l.length d]] w fun e w' => e = .returned (.int .i64 v) ∧ ∃ y, w' = w.more y := by
  rw [← hv]; exact check_any x w
theorem rcheck_any {w0 : World} {A B c d h l} (x : RW w0 A c B d h l) (w : World) [After w0 w] :
    Calls Try.prog 100 #[.agg #[.slice A h.length c, .slice B l.length d]] w fun e w' => e = .returned (.int .i64 (checkI h l)) ∧ ∃ y, w' = w.more y := by
  replace x := x.here w
  obtain ⟨b1, b2⟩ := x.lens
  go_enter Try.func100, Try.ntmps100
  go_wp2
  all_goals
    go_ret
    refine ⟨ret_int ?_, After.is_more _ _⟩
  · exact (checkI_5 (by simpa using ‹((l.length : Int) == 0) = true›)).symm
  · have h1 : ¬ ((l.length : Int) = 0) := by simpa using ‹((l.length : Int) == 0) = false›
    exact (checkI_3 (by omega) (by omega)).symm
  · have h1 : ¬ ((l.length : Int) = 0) := by simpa using ‹((l.length : Int) == 0) = false›
    exact (checkI_0 ⟨by omega, by omega⟩).symm
theorem rcheck_val {w0 : World} {A B c d h l} (x : RW w0 A c B d h l) (w : World) [After w0 w] {v : Int} (hv : checkI h l = v) :
    Calls Try.prog 100 #[.agg #[.slice A h.length c, .slice B l.length d]] w fun e w' => e = .returned (.int .i64 v) ∧ ∃ y, w' = w.more y := by
  rw [← hv]; exact rcheck_any x w
def From (B : Nat) (A : Option Addr) : Prop := ∀ ad, A = some ad → B ≤ ad.block
theorem From.of_own {w : World} {B : Nat} {e : TypeId} {size n m c : Nat} {A : Option Addr} {xs : List Value} (h : w.ownsRow B e size (.slice A m c) n xs) : From B A := by
  rintro ad rfl
  exact (h.lt ad.block rfl).1
theorem From.mono {B C : Nat} {A : Option Addr} (h : From B A) (hc : C ≤ B) : From C A := fun ad e => Nat.le_trans hc (h ad e)
theorem RB.set_ {w : World} {A c l} (x : RB w A c l) {B b : Nat} (h : From B A) (hb : b < B) (i : Nat) (v : Value) : RB (w.setCell ⟨b, i, none⟩ v) A c l := by
  refine ⟨⟨x.reads.1, fun hn => ?_⟩, x.le, x.cap, x.len⟩
  obtain ⟨ad, e, hlt, hc⟩ := x.reads.2 hn
  refine ⟨ad, e, by rw [size_set_]; exact hlt, fun j u hu => (World.cell?_setCell_other w _ _ v fun e2 => ?_).trans (hc j u hu)⟩
  have h1 := congrArg Addr.block e2
  rw [block_of_add] at h1
  have h2 := h ad e
  have h3 : b = ad.block := by first | exact h1 | exact h1.symm
  omega
theorem boolInfo : (Try.prog.info? 4).map (fun i => (i.zero, i.size, i.bytes)) = some (some (.bool false), 1, 1) := by kernel_rfl
theorem RB.nil_ (w : World) : RB w none 0 [] := ⟨Reads.none_, Nat.le_refl _, by omega, by simp⟩
def digitsB (l : List Bool) : List UInt8 := l.map fun b => if b then 49 else 48
theorem digitsB_length (l : List Bool) : (digitsB l).length = l.length := by simp [digitsB]
theorem digitsB_take_succ (l : List Bool) (k : Nat) (h : k < l.length) : digitsB (l.take (k + 1)) = digitsB (l.take k) ++ [if l.getD k false then 49 else 48] := by
  have e : l.getD k false = l[k] := by simp [List.getD_eq_getElem?_getD, h]
  rw [List.take_succ_eq_append_getElem h, e]
  simp only [digitsB, List.map_append, List.map_cons, List.map_nil]
def textB (h l : List Bool) : List UInt8 := digitsB h ++ [40] ++ digitsB l ++ [41]
end Go.Proofs.Ytdghfhnkacfahaa
