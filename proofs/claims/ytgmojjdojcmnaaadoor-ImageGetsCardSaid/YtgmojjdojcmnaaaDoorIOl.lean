/-
  Bytes of the call's own beside other blocks; the reference's Number and list as such rows.
-/
import Derived.Test.YtgmojjdojcmnaaaDoorIPutA
import Derived.Test.YtgmojjdojcmnaaaDoorIApp
import Derived.Laws.IdiomStrings
set_option linter.unusedVariables false
set_option linter.unusedSimpArgs false
namespace Go.Proofs.YtgmojjdojcmnaaaDoor
open Go.RowKit Go.BigFrame

theorem encL_length (l : List Int) : (encL l).length = 4 + 4 * l.length := by unfold encL; rw [List.length_append, encs_length, enc_length]
/-- bytes l in a row of the call's own: the slice (A, n, c), made at or above B -/
structure OL (w : World) (B : Nat) (A : Option Addr) (n c : Nat) (l : List UInt8) : Prop where
  own : w.ownsRow B 5 1 (.slice A n c) n (yv l)
  len : l.length = n
  bd : n ≤ 200000000
theorem OL.here {w0 : World} {B : Nat} {A n c l} (h : OL w0 B A n c l) (w : World) [k : After w0 w] : OL w B A n c l := ⟨own_after h.own k, h.len, h.bd⟩
theorem OL.bytes {w : World} {B : Nat} {A n c l} (h : OL w B A n c l) : RY w A c l := by
  have h1 := h.own
  have hb := h.bd
  have hl := h.len
  subst hl
  obtain ⟨A', c', e, h2⟩ := RY.of_own h1 (by omega)
  cases e
  exact h2
theorem OL.lit (w : World) (cs : Array Value) (l : List UInt8) (e : cs.toList = yv l) (hl : l.length ≤ 200000000) : OL (w.alloc (.cells cs 5)) w.heap.size (some ⟨w.heap.size, 0, none⟩) l.length l.length l := by
  have hs : cs.size = l.length * 1 := by rw [← Array.length_toList, e, yv_length, Nat.mul_one]
  refine ⟨?_, rfl, hl⟩
  rw [← e]
  exact World.ownsRow_lit (e := 5) (size := 1) w cs l.length (Nat.le_refl _) (by unfold maxLen; omega) hs
theorem OL.base {w : World} {B B' : Nat} {A n c l} (h : OL w B A n c l) (hb : B' ≤ B) : OL w B' A n c l := ⟨own_base h.own hb, h.len, h.bd⟩
theorem cell_same {w w' : World} {p : Addr} (h : w'.heap[p.block]? = w.heap[p.block]?) : w'.cell? p = w.cell? p := by unfold World.cell?; rw [h]
/-- what an append onto an own row (in block ob) keeps -/
structure Kept (B : Nat) (ob : Option Nat) (w w' : World) : Prop where
  aft : ∀ w0 : World, After w0 w → w0.heap.size ≤ B → After w0 w'
  blk : ∀ (g : Nat) (t : TypeId) (cs : Array Value), Blk w g t cs → t ≠ 5 → Blk w' g t cs
  row : w.grownBy w' ob
theorem Kept.ry {B ob w w'} (h : Kept B ob w w') {A c l} (x : RY w A c l) (hne : ∀ ad, A = some ad → ob ≠ some ad.block) : RY w' A c l := by
  refine ⟨⟨x.reads.1, fun hn => ?_⟩, x.le, x.cap, x.len⟩
  obtain ⟨ad, e, hlt, hc⟩ := x.reads.2 hn
  have hb := h.row.block ad.block hlt (hne ad e).symm
  refine ⟨ad, e, ?_, fun j u hu => ?_⟩
  · rcases Nat.lt_or_ge ad.block w'.heap.size with h1 | h1
    · exact h1
    · rw [Array.getElem?_eq_none h1, Array.getElem?_eq_getElem hlt] at hb
      cases hb
  · exact (cell_same (p := ad.add j) (by have e1 : (ad.add j).block = ad.block := (by unfold Addr.add; split <;> rfl); rw [e1]; exact hb)).trans (hc j u hu)
theorem OL.ob_lt {w : World} {B : Nat} {A n c l} (h : OL w B A n c l) (j : Nat) (hj : (Value.slice A n c).ownBlock = some j) : j < w.heap.size := (h.own.lt j hj).2
/-- '[]byte(s)' of a string -/
theorem conv_ry (w u : World) (s : ByteArray) (hs : s.size ≤ 140737488355328) (mk : Nat × Nat) : RY (w.alloc (.cells (Go.bytesRow s (grownCap u s.size 0 5)) 5 mk)) (some ⟨w.heap.size, 0, none⟩) (grownCap u s.size 0 5) s.data.toList := by
  have hl : s.data.toList.length = s.size := rfl
  have h1 := grownCap_ge u s.size 0 5
  have h2 := grownCap_le_maxLen u s.size 0 5 (by unfold maxLen; omega)
  refine ⟨⟨by rw [yv_length]; omega, fun _ => ⟨_, rfl, by rw [size_alloc_]; exact Nat.lt_succ_self _, fun j x hu => ?_⟩⟩, by omega, by unfold maxLen at h2; exact h2, by omega⟩
  rw [Addr.add_lit, Nat.zero_add]
  refine (World.cell?_alloc_mark w _ _ _ j).trans ?_
  unfold yv at hu
  rw [List.getElem?_map] at hu
  cases hj : s.data.toList[j]? with
  | none => rw [hj] at hu; cases hu
  | some b =>
    rw [hj] at hu
    obtain ⟨h3, h4⟩ := List.getElem?_eq_some_iff.1 hj
    have h5 : j < s.data.size := h3
    rw [bytesRow_at s _ j h5, ← hu]
    have : s.data[j] = b := by rw [← h4]; simp
    rw [this]; rfl
theorem conv_ry1 (w u : World) (s : ByteArray) (hs : s.size ≤ 140737488355328) (mk : Nat × Nat) : RY (w.alloc (.cells (Go.bytesRow s (grownCap u s.size 0 5)) 5 mk)).drew (some ⟨w.heap.size, 0, none⟩) (grownCap u s.size 0 5) s.data.toList := (conv_ry w u s hs mk).here _
theorem conv_ry2 (w u : World) (s : ByteArray) (hs : s.size ≤ 140737488355328) (mk : Nat × Nat) : RY (w.alloc (.cells (Go.bytesRow s (grownCap u s.size 0 5)) 5 mk)).drew.drew (some ⟨w.heap.size, 0, none⟩) (grownCap u s.size 0 5) s.data.toList := (conv_ry1 w u s hs mk).here _
theorem step_ol {ops : Array Oper} {o : Oper} {a : Act} {K : Act → World → Prop} {Q : Exit → Act → World → Prop} {E : Prop} {w : World} (hgd : o.guard = none) (s x : Operand)
    (ho : o.op = .call { callee := .builtin .append, args := #[s, x], argTypes := #[22, 22] })
    (B : Nat) (A : Option Addr) (n c : Nat) (l : List UInt8) (hs : a.eval s = .slice A n c) (hown : OL w B A n c l) (A2 : Option Addr) (m c2 : Nat) (l2 : List UInt8) (hx : a.eval x = .slice A2 m c2) (hm : l2.length = m) (x2 : RY w A2 c2 l2)
    (hsum : l.length + l2.length ≤ 200000000) (hbase : B ≤ w.heap.size)
    (h : ∀ (A' : Option Addr) (n' c' : Nat) (w' : World), OL w' B A' n' c' (l ++ l2) → Kept B (Value.slice A n c).ownBlock w w' → K (a.put o.dst (.slice A' n' c')) w') :
    if Region.wanted o (yielded ops a.tmps) = true then Oper.wp Tryd.prog o a w K Q else E := by
  obtain ⟨i0, hi, hz0, hz1, hz2⟩ := info_parts byteInfo
  subst hm
  have hl := hown.len
  refine step_append_any w hgd s x 22 ho B 5 i0 (.int .u8 0) 1 1 Tryd.underlying22 hi hz0 hz1 hz2 rfl (by omega) (.slice A n c) n (yv l) hs hown.own w.heap.size A2 l2.length c2 (yv l2) hx x2.reads (fun u hu => yv_one hu) (by unfold maxLen; omega) (by omega) hbase ?_
  intro v' w' h1 h2 _
  obtain ⟨A', c', rfl, _, _⟩ := own_slice h1
  refine h A' (n + l2.length) c' w' ⟨by rw [yv_append]; exact h1, by rw [List.length_append, hl], by omega⟩ ⟨fun w0 h0 hB => ?_, fun g t cs hb ht => hb.grown h2 (own_type_ne hown.own hb ht).symm, h2⟩
  have := h0
  exact after_grown_ hown.own hB h2
theorem wpList_ol {ops : Array Oper} {rest : List Oper} {o : Oper} {a : Act} {Q : Exit → Act → World → Prop} {w : World} (hgd : o.guard = none) (s x : Operand)
    (ho : o.op = .call { callee := .builtin .append, args := #[s, x], argTypes := #[22, 22] })
    (B : Nat) (A : Option Addr) (n c : Nat) (l : List UInt8) (hs : a.eval s = .slice A n c) (hown : OL w B A n c l) (A2 : Option Addr) (m c2 : Nat) (l2 : List UInt8) (hx : a.eval x = .slice A2 m c2) (hm : l2.length = m) (x2 : RY w A2 c2 l2)
    (hsum : l.length + l2.length ≤ 200000000) (hbase : B ≤ w.heap.size)
    (h : ∀ (A' : Option Addr) (n' c' : Nat) (w' : World), OL w' B A' n' c' (l ++ l2) → Kept B (Value.slice A n c).ownBlock w w' → wpList Tryd.prog ops Q rest (a.put o.dst (.slice A' n' c')) w') : wpList Tryd.prog ops Q (o :: rest) a w := by
  obtain ⟨i0, hi, hz0, hz1, hz2⟩ := info_parts byteInfo
  subst hm
  have hl := hown.len
  refine wpList_append_any w hgd s x 22 ho B 5 i0 (.int .u8 0) 1 1 Tryd.underlying22 hi hz0 hz1 hz2 rfl (by omega) (.slice A n c) n (yv l) hs hown.own w.heap.size A2 l2.length c2 (yv l2) hx x2.reads (fun u hu => yv_one hu) (by unfold maxLen; omega) (by omega) hbase ?_
  intro v' w' h1 h2 _
  obtain ⟨A', c', rfl, _, _⟩ := own_slice h1
  refine h A' (n + l2.length) c' w' ⟨by rw [yv_append]; exact h1, by rw [List.length_append, hl], by omega⟩ ⟨fun w0 h0 hB => ?_, fun g t cs hb ht => hb.grown h2 (own_type_ne hown.own hb ht).symm, h2⟩
  have := h0
  exact after_grown_ hown.own hB h2

set_option maxHeartbeats 400000 in
theorem rnum_own (n : Int) (w : World) :
    Calls Tryd.prog 8 #[.int .i64 n] w fun e w' => ∃ (A : Option Addr), e = .returned (.slice A 4 4) ∧ OL w' w.heap.size A 4 4 (enc n) ∧ After w w' := by
  go_enter Tryd.func8, Tryd.ntmps8
  go_wp2
  go_ret
  refine ⟨_, rfl, ?_, inferInstance⟩
  exact OL.lit _ _ (enc n) (enc_spell1 n).symm (by rw [enc_length]; omega)

theorem encs_take {l : List Int} {k : Nat} {z : Int} (hk : k < l.length) (hz : l.getD k 0 = z) : (l.take (k + 1)).flatMap enc = (l.take k).flatMap enc ++ enc z := by
  have e : l[k] = z := by rw [← hz]; simp [List.getD_eq_getElem?_getD, hk]
  rw [List.take_succ_eq_append_getElem hk, e, List.flatMap_append]; simp
set_option maxRecDepth 100000 in
set_option maxHeartbeats 1600000 in
theorem rlist_any {w0 : World} {A c l} (x : RI w0 A c l) (hn : l.length ≤ 20000000) (w : World) (hw : After w0 w) :
    Calls Tryd.prog 34 #[.slice A l.length c] w fun e w' => ∃ (A' : Option Addr) (n' c' : Nat), e = .returned (.slice A' n' c') ∧ OL w' w.heap.size A' n' c' (encL l) ∧ After w w' := by
  have hlen := x.len
  have X := Lib.hid x
  clear x
  have HN := Lib.hid (fun (z : Int) (U : World) => rnum_own z U)
  obtain ⟨B, hB⟩ : ∃ B, w.heap.size = B := ⟨_, rfl⟩
  rw [hB]
  go_enter Tryd.func34, Tryd.ntmps34
  go_wp2_with fail
  refine (HN.out (l.length : Nat) w).mono ?_
  rintro e w2 ⟨A1, rfl, o1, a1⟩
  have O1 := Lib.hid o1
  clear o1
  rw [hB] at O1
  go_wp2_with fail
  go_loopw [3, 4] (fun v i wr => ∃ (k : Nat) (A3 : Option Addr) (n3 c3 : Nat), k ≤ l.length ∧ i = .int .i64 (k : Nat) ∧ v = .slice A3 n3 c3 ∧ Hid (OL wr B A3 n3 c3 (enc (l.length : Nat) ++ (l.take k).flatMap enc)) ∧ After w wr) (fun _ i _ => l.length - (intOf i).toNat)
  case atStart => exact ⟨0, _, _, _, by omega, rfl, rfl, by simpa using O1, inferInstance⟩
  case round =>
    obtain ⟨k, A3, n3, c3, hk, rfl, rfl, HO, ar⟩ := hrel
    by_cases hlt : k < l.length
    · have hltI : (k : Int) < (l.length : Int) := by omega
      obtain ⟨ad, z, rfl, hbk, hc, HZ⟩ := (X.out.here wr (k := after_after hw ar)).int hlt
      have HT := Lib.hid (encs_take hlt HZ.out)
      have hsz := ar.below.size
      go_wp2_with fail
      refine (HN.out z wr).mono ?_
      rintro e w4 ⟨A4, rfl, o4, a4⟩
      have O4 := Lib.hid o4
      clear o4
      have O3 := Lib.hid (HO.out.here w4)
      have a04 : After w w4 := after_after ar a4
      have hsz4 := a4.below.size
      have hsum : Hid ((enc (l.length : Nat) ++ (l.take k).flatMap enc).length + (enc z).length ≤ 200000000) := by
        show _ ≤ _
        rw [List.length_append, encs_length, enc_length, enc_length, List.length_take]; omega
      go_wp2_with (at_builtin; refine wpList_ol rfl (.tmp 14) (.tmp 19) rfl B A3 n3 c3 (enc (l.length : Nat) ++ (l.take k).flatMap enc) rfl O3.out A4 4 4 (enc z) rfl (enc_length _) O4.out.bytes hsum.out (by omega) ?_)
      intro A5 n5 c5 w5 o5 k5
      have a5 : After w w5 := k5.aft w a04 (by omega)
      have O5 : Hid (OL w5 B A5 n5 c5 (enc (l.length : Nat) ++ (l.take (k + 1)).flatMap enc)) := by
        show OL _ _ _ _ _ _
        rw [HT.out]
        simpa only [List.append_assoc] using o5
      clear o5 k5
      go_wp2_with fail
      go_roundw
      case rel => exact ⟨k + 1, A5, n5, c5, by omega, by go_num, rfl, O5, a5⟩
      case measure => simp only [intOf]; omega
    · have HE : Hid (OL wr B A3 n3 c3 (encL l)) := by
        have h1 := HO.out
        rw [List.take_of_length_le (by omega)] at h1
        exact h1
      go_wp2_with fail
      go_ret
      exact ⟨A3, n3, c3, rfl, HE.out, ar⟩
end Go.Proofs.YtgmojjdojcmnaaaDoor
