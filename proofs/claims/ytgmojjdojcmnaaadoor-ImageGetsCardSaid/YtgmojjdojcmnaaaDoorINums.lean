/-
  Contracts: nums and list of a place (numbers appended to bytes behind a pointer).
-/
import Derived.Test.YtgmojjdojcmnaaaDoorISum
import Derived.Test.YtgmojjdojcmnaaaDoorAny
set_option linter.unusedVariables false
set_option linter.unusedSimpArgs false
namespace Go.Proofs.YtgmojjdojcmnaaaDoor
open Go.RowKit Go.BigFrame

/-- only block g and the row r of old memory may have changed -/
structure Fr (w w' : World) (g : Nat) (r : Option Nat) : Prop where
  os : w'.os = w.os
  tape : w'.tape = w.tape
  output : w'.output = w.output
  size : w.heap.size ≤ w'.heap.size
  block : ∀ k, k < w.heap.size → k ≠ g → some k ≠ r → w'.heap[k]? = w.heap[k]?
/-- the row is the old one or a new block -/
def RowNew (w : World) (r r' : Option Nat) : Prop := r' = r ∨ ∃ k, r' = some k ∧ w.heap.size ≤ k
theorem Fr.refl (w : World) (g : Nat) (r : Option Nat) : Fr w w g r := ⟨rfl, rfl, rfl, Nat.le_refl _, fun _ _ _ _ => rfl⟩
theorem Fr.trans {w w1 w2 : World} {g : Nat} {r r1 : Option Nat} (h : Fr w w1 g r) (hr : RowNew w r r1) (h2 : Fr w1 w2 g r1) : Fr w w2 g r :=
  ⟨h2.os.trans h.os, h2.tape.trans h.tape, h2.output.trans h.output, Nat.le_trans h.size h2.size, fun k hk h1 h3 => by
    refine (h2.block k (Nat.lt_of_lt_of_le hk h.size) h1 fun e => ?_).trans (h.block k hk h1 h3)
    rcases hr with hr | ⟨j, hr, hj⟩
    · rw [hr] at e; exact h3 e
    · rw [hr] at e; injection e with e; omega⟩
theorem RowNew.trans {w w1 : World} {r r1 r2 : Option Nat} (hs : w.heap.size ≤ w1.heap.size) (h : RowNew w r r1) (h2 : RowNew w1 r1 r2) : RowNew w r r2 := by
  rcases h2 with h2 | ⟨k, h2, hk⟩
  · rw [h2]; exact h
  · exact .inr ⟨k, h2, by omega⟩
/-- what lies below both is kept -/
theorem Fr.after {w0 w w' : World} {g : Nat} {r : Option Nat} (h : Fr w w' g r) (k : After w0 w) (hg : w0.heap.size ≤ g) (hr : ∀ j, r = some j → w0.heap.size ≤ j) : After w0 w' :=
  ⟨h.os.trans k.below.os, h.tape.trans k.below.tape, h.output.trans k.below.output, Nat.le_trans k.below.size h.size, fun j hj => (h.block j (Nat.lt_of_lt_of_le hj k.below.size) (by omega) (fun e => by have := hr j e.symm; omega)).trans (k.below.block j hj)⟩
theorem RI.fr {w w' : World} {g : Nat} {r : Option Nat} {A c l} (x : RI w A c l) (h : Fr w w' g r) (hA : ∀ ad, A = some ad → ad.block ≠ g ∧ some ad.block ≠ r) : RI w' A c l :=
  ⟨⟨x.reads.1, fun hn => by
    obtain ⟨ad, e, hb, hc⟩ := x.reads.2 hn
    obtain ⟨h1, h2⟩ := hA ad e
    exact ⟨ad, e, Nat.lt_of_lt_of_le hb h.size, fun j u hu => by
      rw [← hc j u hu]
      exact World.cell?_of_block (w := w) (by rw [block_of_add]; exact h.block _ hb h1 h2)⟩⟩, x.le, x.cap, x.len⟩

theorem own_far {w : World} {base : Nat} {e : TypeId} {size n : Nat} {v : Value} {xs : List Value} (h : w.ownsRow base e size v n xs) {g i : Nat} {u : Value} (hg : v.ownBlock ≠ some g) : (w.setCell ⟨g, i, none⟩ u).ownsRow base e size v n xs :=
  h.kept (row := some g) ⟨rfl, rfl, rfl, by rw [size_set_]; exact Nat.le_refl _, fun k hk hne => Below.heap_setCell w ⟨g, i, none⟩ u k (fun e => hne (by rw [e]))⟩ (.inr hg)
theorem encs_length (l : List Int) : (l.flatMap enc).length = 4 * l.length := by
  induction l with
  | nil => rfl
  | cons a l ih => rw [List.flatMap_cons, List.length_append, ih, enc_length, List.length_cons]; omega
theorem encs_take_succ {l : List Int} {k : Nat} {n : Int} (hk : k < l.length) (h : l.getD k 0 = n) : (l.take (k + 1)).flatMap enc = (l.take k).flatMap enc ++ enc n := by
  have e : l[k] = n := by rw [← h]; simp [List.getD_eq_getElem?_getD, hk]
  rw [List.take_succ_eq_append_getElem hk, e, List.flatMap_append]; simp

/-- a place behind a pointer: its bytes (a row of the call's own, r: the row's block), its number -/
structure PIs (w : World) (B g : Nat) (bs : List UInt8) (r : Option Nat) : Prop where
  base : B ≤ g
  row : ∃ v, Blk w g 45 #[v, .int .i64 0] ∧ w.ownsRow B 5 1 v bs.length (yv bs) ∧ v.ownBlock = r
  apart : r ≠ some g
theorem byteInfo : (Tryd.prog.info? 5).map (fun i => (i.zero, i.size, i.bytes)) = some (some (.int .u8 0), 1, 1) := by kernel_rfl

set_option maxHeartbeats 1600000 in
theorem nums_any {B g : Nat} {bs : List UInt8} {r : Option Nat} (w : World) (h : PIs w B g bs r) {A c l} (x : RI w A c l) (hA : ∀ ad, A = some ad → ad.block ≠ g ∧ some ad.block ≠ r) (hn : bs.length + 4 * l.length ≤ 140737488355328) :
    Calls Tryd.prog 32 #[.pointer (some ⟨g, 0, none⟩), .slice A l.length c] w fun e w' => e = .returned (.tuple #[]) ∧ ∃ r', PIs w' B g (bs ++ l.flatMap enc) r' ∧ Fr w w' g r ∧ RowNew w r r' := by
  obtain ⟨i0, hi, hz0, hz1, hz2⟩ := info_parts byteInfo
  have b1 := x.le; have b2 := x.cap
  have hB0 := h.base
  go_enter Tryd.func32, Tryd.ntmps32
  go_wp2_with fail
  go_loopw [9] (fun i wr => ∃ (k : Nat) (r' : Option Nat), k ≤ l.length ∧ i = .int .i64 k ∧ Hid (PIs wr B g (bs ++ (l.take k).flatMap enc) r') ∧ Hid (Fr w wr g r) ∧ Hid (RowNew w r r')) (fun i _ => l.length - (intOf i).toNat)
  case atStart => exact ⟨0, r, by omega, rfl, (show PIs w B g (bs ++ (l.take 0).flatMap enc) r by simpa using h), Fr.refl _ _ _, .inl rfl⟩
  case round =>
    obtain ⟨k, r1, hk, rfl, h1, hf, hr⟩ := hrel
    by_cases hlt : k < l.length
    · obtain ⟨hB1, ⟨v, hb, hown, hv⟩, hap⟩ := h1.out
      obtain ⟨ad, n, rfl, hle, hc, HN⟩ := (x.fr hf.out hA).int hlt
      have c0 : wr.cell? ⟨g, 0, none⟩ = some v := by rw [hb.cell]; rfl
      have hl := hb.is_le
      have HE := Lib.hid (enc_spell1 n)
      have hlen : (bs ++ (l.take k).flatMap enc).length + 4 ≤ 140737488355328 := by
        have e : ((l.take k).flatMap enc).length = 4 * k := by rw [encs_length, List.length_take]; omega
        rw [List.length_append, e]; omega
      have HT := Lib.hid (encs_take_succ hlt HN.out)
      have HR : Hid (Reads (wr.alloc (.cells #[.int .u8 (n % 256), .int .u8 (n % 4294967296 / 256 % 256), .int .u8 (n % 4294967296 / 65536 % 256), .int .u8 (n % 4294967296 / 16777216)] 5)) (wr.heap.size + 1) 1 (some ⟨wr.heap.size, 0, none⟩) 4 (yv (enc n))) :=
        (RY.lit (l := enc n) (Blk.new wr 5 _) HE.out.symm (by rw [enc_length]; omega)).reads.more (by rw [size_alloc_]; omega)
      have HB := Lib.hid hb
      have HO := Lib.hid hown
      have hBw : B ≤ wr.heap.size + 1 := by have := hl.le; omega
      obtain ⟨cur, hcur⟩ : ∃ cur, (bs ++ (l.take k).flatMap enc) = cur := ⟨_, rfl⟩
      rw [hcur] at hlen HO
      have HC := Lib.hid hcur
      obtain ⟨Av, cv, rfl, hcap1, hcap2⟩ := own_slice HO.out
      have HV := Lib.hid hv
      clear hb hown hcur hv
      go_wp2_with (at_builtin; go_loud (refine wpList_append_any _ rfl (.tmp 19) (.tmp 31) 22 rfl B 5 i0 (.int .u8 0) 1 1 Tryd.underlying22 hi hz0 hz1 hz2 rfl (by omega) (.slice Av cur.length cv) cur.length (yv cur) rfl (HO.out.alloc _) (wr.heap.size + 1) (some ⟨wr.heap.size, 0, none⟩) 4 4 (yv (enc n)) rfl HR.out ?c2 ?c3 ?c4 ?c5 ?_))
      case c2 => intro u hu; exact yv_one hu
      case c3 => unfold maxLen; omega
      case c4 => omega
      case c5 => rw [size_alloc_]; exact hBw
      intro v' w2 hown' hgrow hnb
      have hb2 := Lib.hid ((HB.out.alloc _).grown hgrow (by rw [HV.out]; exact hap.symm))
      have d0 : w2.cell? ⟨g, 0, none⟩ = some (.slice Av cur.length cv) := by rw [hb2.out.cell]; rfl
      have f0 := hb2.out.frozen 0
      have l2 := hb2.out.is_le
      replace hown' := Lib.hid hown'
      replace hgrow := Lib.hid hgrow
      replace hnb := Lib.hid hnb
      obtain ⟨A2, c2, rfl, _, _⟩ := own_slice hown'.out
      go_wp2_with fail
      go_round
      case rel =>
        have hr2 : RowNew wr r1 (Value.slice A2 (cur.length + 4) c2).ownBlock := by
          rcases hnb.out with e | e
          · exact .inl (e.trans HV.out)
          · exact .inr ⟨_, e, by first | (rw [size_alloc_]; omega) | omega⟩
        have hg2 : (Value.slice A2 (cur.length + 4) c2).ownBlock ≠ some g := by
          intro e
          rcases hr2 with h1 | ⟨j, h1, hj⟩
          · exact hap (h1.symm.trans e)
          · rw [h1] at e; injection e with e; have := hl.le; omega
        have hf2 : Fr wr (w2.setCell ⟨g, 0, none⟩ (.slice A2 (cur.length + 4) c2)) g r1 := by
          have hG := hgrow.out
          refine ⟨hG.os, hG.tape, hG.output, ?_, fun j hj h1 h2 => ?_⟩
          · rw [size_set_]; have := hG.size; rw [size_alloc_] at this; omega
          · refine (Below.heap_setCell w2 ⟨g, 0, none⟩ _ j h1).trans ((hG.block j (by rw [size_alloc_]; omega) (by rw [HV.out]; exact h2)).trans (Below.heap_alloc wr _ j hj))
        refine ⟨k + 1, _, by omega, by go_num, ?_, hf.out.trans hr.out hf2, hr.out.trans hf.out.size hr2⟩
        refine ⟨hB0, ⟨_, hb2.out.set_ 0 _, ?_, rfl⟩, hg2⟩
        rw [HT.out, ← List.append_assoc, HC.out, yv_append]
        have e4 : (cur ++ enc n).length = cur.length + 4 := by rw [List.length_append, enc_length]
        rw [e4]
        exact own_far hown'.out hg2
      case measure => simp [intOf]; omega
    · go_wp2_with fail
      go_end0
      refine ⟨rfl, r1, ?_, hf.out, hr.out⟩
      have h2 := h1.out
      rw [List.take_of_length_le (by omega)] at h2
      exact h2
end Go.Proofs.YtgmojjdojcmnaaaDoor
