/-
  For the reference's Get: what stays while a struct is filled from a reader; Get of short bytes.
-/
import Derived.Test.YtgmojjdojcmnaaaDoorIRrl
import Derived.Test.YtgmojjdojcmnaaaDoorIRe
import Derived.Test.YtgmojjdojcmnaaaDoorIOl
import Derived.BigRegion
set_option linter.unusedVariables false
set_option linter.unusedSimpArgs false
namespace Go.Proofs.YtgmojjdojcmnaaaDoor
open Go.RowKit Go.BigFrame

/-- since wr only the reader gr and new blocks changed; the struct at gx -/
structure Rst (t : TypeId) (w0 wr V : World) (gr gx : Nat) (s : St) (cs : Array Value) : Prop where
  fw : Fr wr V gr none
  rd : RrIs w0 V gr s
  px : Blk V gx t cs
  ge : wr.heap.size ≤ gx
  lt : gr < wr.heap.size
section
variable {t : TypeId} {w0 wr V V' : World} {gr gx lo hi : Nat} {s s' : St} {cs : Array Value} {A : Option Addr} {c : Nat} {l : List Int}
theorem Rst.call (h : Rst t w0 wr V gr gx s cs) (rd : RrIs w0 V' gr s') (fq : Fr V V' gr none) : Rst t w0 wr V' gr gx s' cs :=
  ⟨h.fw.tr fq, rd, fq.blk h.px (by have := h.ge; have := h.lt; omega), h.ge, h.lt⟩
theorem Rst.set (h : Rst t w0 wr V gr gx s cs) (i : Nat) (v : Value) : Rst t w0 wr (V.setCell ⟨gx, i, none⟩ v) gr gx s (cs.setIfInBounds i v) :=
  ⟨h.fw.set h.ge i v, h.rd.far (by have := h.ge; have := h.lt; omega) i v, h.px.set_ i v, h.ge, h.lt⟩
theorem Rst.new {v1 : World} (f1 : Fr wr v1 gr none) (rd : RrIs w0 v1 gr s) (lt : gr < wr.heap.size) : Rst t w0 wr (v1.alloc (.cells cs t)) gr v1.heap.size s cs :=
  ⟨f1.alloc _, rd.alloc _, Blk.new _ _ _, f1.size, lt⟩
/-- a row of numbers between lo and hi, beside gr and gx -/
structure Rw (V : World) (lo hi gr gx : Nat) (A : Option Addr) (c : Nat) (l : List Int) : Prop where
  ri : RI V A c l
  ad : ∀ ad, A = some ad → lo ≤ ad.block ∧ ad.block < hi ∧ ad.block ≠ gr ∧ ad.block ≠ gx
  hv : hi ≤ V.heap.size
theorem Rw.call (x : Rw V lo hi gr gx A c l) (fq : Fr V V' gr none) : Rw V' lo hi gr gx A c l :=
  ⟨x.ri.st fq fun ad e => (x.ad ad e).2.2.1, x.ad, Nat.le_trans x.hv fq.size⟩
theorem Rw.set (x : Rw V lo hi gr gx A c l) (i : Nat) (v : Value) : Rw (V.setCell ⟨gx, i, none⟩ v) lo hi gr gx A c l :=
  ⟨x.ri.st (fr_set V gx i v) fun ad e => (x.ad ad e).2.2.2, x.ad, by rw [size_set_]; exact x.hv⟩
theorem Rw.up (x : Rw V lo hi gr gx A c l) {hi' : Nat} (h : hi ≤ hi') (h2 : hi' ≤ V.heap.size) : Rw V lo hi' gr gx A c l :=
  ⟨x.ri, fun ad e => by have := x.ad ad e; omega, h2⟩
theorem Rw.new {U : World} (x : RI V A c l) (b : ∀ ad, A = some ad → U.heap.size ≤ ad.block ∧ ad.block < V.heap.size) (h1 : gr < U.heap.size) (h2 : gx < U.heap.size) (h3 : lo ≤ U.heap.size) : Rw V lo V.heap.size gr gx A c l :=
  ⟨x, fun ad e => by have := b ad e; omega, Nat.le_refl _⟩
theorem Rw.grown (x : Rw V lo hi gr gx A c l) {o : Obj} {ob : Option Nat} (hg : (V.alloc o).grownBy V' ob) (ho : ∀ k, ob = some k → hi ≤ k) : Rw V' lo hi gr gx A c l := by
  have hs := hg.size
  rw [size_alloc_] at hs
  have hv := x.hv
  refine ⟨x.ri.stay (by omega) fun ad e => ?_, x.ad, by omega⟩
  have ha := x.ad ad e
  exact (hg.block ad.block (by rw [size_alloc_]; omega) (fun e2 => by have := ho _ e2.symm; omega)).trans (Below.heap_alloc V o _ (by omega))
/-- the struct behind an append onto a row that lies from lo2 on -/
theorem Rst.grown (h : Rst t w0 wr V gr gx s cs) {o : Obj} {ob : Option Nat} (hg : (V.alloc o).grownBy V' ob) (ho : ∀ k, ob = some k → gx < k) : Rst t w0 wr V' gr gx s cs := by
  have hge := h.ge
  have hlt := h.lt
  exact ⟨fr_grown (B := 0) hg h.fw (fun k hk => by have := ho k hk; omega), (h.rd.alloc o).grown hg (fun e => by have := ho _ e.symm; omega), (h.px.alloc o).grown hg (fun e => by have := ho _ e.symm; omega), h.ge, h.lt⟩
end

set_option maxRecDepth 100000 in
set_option maxHeartbeats 3200000 in
theorem rget_short {w0 : World} (w : World) {A c bs} (x : RY w0 A c bs) (hw : After w0 w) (h : bs.length < 8) :
    Calls Tryd.prog 11 #[.slice A bs.length c] w fun e w' => e = .returned (.tuple #[.agg #[.slice none 0 0, .slice none 0 0], .int .i64 4]) ∧ After w w' := by
  have hI : (bs.length : Int) < 8 := by omega
  have hn0 : New w w.heap.size := inferInstance
  have z2 := Lib.hid (Blk.new w 29 #[.slice none 0 0, .slice none 0 0])
  clear h
  go_enter Tryd.func11, Tryd.ntmps11
  go_wp2_with fail
  have r2 := (z2.out.set_ 0 (.slice none 0 0)).set_ 1 (.slice none 0 0)
  have k0 : (((w.alloc (.cells #[.slice none 0 0, .slice none 0 0] 29)).setCell ⟨w.heap.size, 0, none⟩ (.slice none 0 0)).setCell ⟨w.heap.size, 1, none⟩ (.slice none 0 0)).cell? ⟨w.heap.size, 0, none⟩ = some (.slice none 0 0) := by rw [r2.cell]; rfl
  have k1 : (((w.alloc (.cells #[.slice none 0 0, .slice none 0 0] 29)).setCell ⟨w.heap.size, 0, none⟩ (.slice none 0 0)).setCell ⟨w.heap.size, 1, none⟩ (.slice none 0 0)).cell? ⟨w.heap.size, 1, none⟩ = some (.slice none 0 0) := by rw [r2.cell]; rfl
  refine bodyPost_ret (v := .tuple #[.agg #[.slice none 0 0, .slice none 0 0], .int .i64 4]) (by simp [results, Tryd.results11, go_sem, k0, k1]) rfl ⟨rfl, inferInstance⟩
end Go.Proofs.YtgmojjdojcmnaaaDoor
