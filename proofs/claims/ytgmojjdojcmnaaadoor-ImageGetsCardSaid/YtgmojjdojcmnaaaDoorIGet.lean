/-
  Contract: image.Get (given a contract of asm.Check).
-/
import Derived.Test.YtgmojjdojcmnaaaDoorIGetF
set_option linter.unusedVariables false
set_option linter.unusedSimpArgs false
namespace Go.Proofs.YtgmojjdojcmnaaaDoor
open Go.RowKit Go.BigFrame

/-- the listed variable's cells, from world w0 on -/
def opsCells : List Value := [
  .string ⟨#[]⟩, .int .i64 0, .int .i64 0, .int .i64 0, .int .i64 0, .int .i64 0,
  .string ⟨#[108, 111, 97, 100]⟩, .int .i64 1, .int .i64 3, .int .i64 0, .int .i64 0, .int .i64 0,
  .string ⟨#[109, 111, 118, 101]⟩, .int .i64 1, .int .i64 1, .int .i64 0, .int .i64 0, .int .i64 0,
  .string ⟨#[114, 101, 97, 100]⟩, .int .i64 1, .int .i64 2, .int .i64 0, .int .i64 0, .int .i64 0,
  .string ⟨#[119, 114, 105, 116, 101]⟩, .int .i64 2, .int .i64 1, .int .i64 0, .int .i64 0, .int .i64 0,
  .string ⟨#[117, 110, 97, 114, 121]⟩, .int .i64 1, .int .i64 1, .int .i64 5, .int .i64 0, .int .i64 1,
  .string ⟨#[97, 112, 112, 108, 121]⟩, .int .i64 1, .int .i64 1, .int .i64 1, .int .i64 5, .int .i64 2,
  .string ⟨#[106, 117, 109, 112]⟩, .int .i64 0, .int .i64 4, .int .i64 0, .int .i64 0, .int .i64 0,
  .string ⟨#[122, 101, 114, 111]⟩, .int .i64 1, .int .i64 4, .int .i64 0, .int .i64 0, .int .i64 0,
  .string ⟨#[99, 97, 108, 108]⟩, .int .i64 6, .int .i64 7, .int .i64 8, .int .i64 9, .int .i64 0,
  .string ⟨#[114, 101, 115, 101, 116]⟩, .int .i64 6, .int .i64 7, .int .i64 0, .int .i64 0, .int .i64 0]
structure Ops (w : World) : Prop where
  lt : 0 < w.heap.size
  cell : ∀ j v, opsCells[j]? = some v → w.cell? ⟨0, j, none⟩ = some v
theorem Ops.here {w0 : World} (h : Ops w0) (w : World) [k : After w0 w] : Ops w :=
  ⟨Nat.lt_of_lt_of_le h.lt k.below.size, fun j v hv => (k.below.cell (p := ⟨0, j, none⟩) h.lt).trans (h.cell j v hv)⟩
/-- the types' numbers are numbers of the machine -/
def ImB (m : Img) : Prop := ∀ r ∈ m.rts, ∀ t, t ∈ r.ins ∨ t ∈ r.outs → t ≤ 9223372036854775807
theorem numS_le (s : St) : (numS s).1 ≤ 9223372036854775807 := by
  unfold numS
  split
  · split
    · exact Int.le_of_lt (by decide : (0 : Int) < 9223372036854775807)
    · generalize s.rest.getD 0 0 = a; generalize s.rest.getD 1 0 = b; generalize s.rest.getD 2 0 = c; generalize s.rest.getD 3 0 = d
      have h := dec_eq a b c d _ rfl
      have h2 := num4_lt a b c d
      unfold num4 at h2
      show dec a b c d ≤ _
      rw [h]
      split <;> omega
  · exact Int.le_of_lt (by decide : (0 : Int) < 9223372036854775807)
theorem allF_le : ∀ (n : Nat) (acc : List Int) (s : St), (∀ t ∈ acc, t ≤ 9223372036854775807) → ∀ t ∈ (allF n acc s).1, t ≤ 9223372036854775807
  | 0, acc, s, h => h
  | n + 1, acc, s, h => by
    rw [allF]
    split
    · refine allF_le n _ _ fun t ht => ?_
      rcases List.mem_append.1 ht with ht | ht
      · exact h t ht
      · rw [List.mem_singleton] at ht; subst ht; exact numS_le s
    · exact h
theorem allS_le (s : St) : ∀ t ∈ (allS s).1, t ≤ 9223372036854775807 := allF_le _ _ _ (fun t ht => by simp at ht)
theorem rtnS_le (s : St) : ∀ t, t ∈ (rtnS s).1.ins ∨ t ∈ (rtnS s).1.outs → t ≤ 9223372036854775807 := by
  intro t ht
  rcases ht with ht | ht
  · exact allS_le (textS s).2 t ht
  · exact allS_le (allS (textS s).2).2 t ht
theorem rtsF_le : ∀ (n : Nat) (acc : List Rtn) (s : St), (∀ r ∈ acc, ∀ t, t ∈ r.ins ∨ t ∈ r.outs → t ≤ 9223372036854775807) → ∀ r ∈ (rtsF n acc s).1, ∀ t, t ∈ r.ins ∨ t ∈ r.outs → t ≤ 9223372036854775807
  | 0, acc, s, h => h
  | n + 1, acc, s, h => by
    rw [rtsF]
    split
    · refine rtsF_le n _ _ fun r hr => ?_
      rcases List.mem_append.1 hr with hr | hr
      · exact h r hr
      · rw [List.mem_singleton] at hr; subst hr; exact rtnS_le s
    · exact h
theorem imgS_bd (s : St) : ImB (imgS s).1 := rtsF_le _ _ _ (fun r hr => by simp at hr)
/-- what is asked of asm.Check -/
def CheckC : Prop := ∀ (w0 w : World) (A : Option Addr) (c : Nat) (A' : Option Addr) (c' : Nat) (m : Img), Ops w0 → RIm w0 A c A' c' m → ImB m → After w0 w →
  Calls Tryd.prog 24 #[.agg #[.slice A m.enums.length c, .slice A' m.rts.length c']] w fun e w' => e = .returned (.int .i64 (chk m)) ∧ After w w'

/-- an empty image as Get's result -/
theorem getV_short {b : List UInt8} (h : b.length < 8) : getV b = (⟨[], []⟩, 4) := by unfold getV; rw [if_pos h]

set_option maxRecDepth 100000 in
set_option maxHeartbeats 3200000 in
theorem get_short {w0 : World} (w : World) {A c bs} (x : RY w0 A c bs) (hw : After w0 w) (h : bs.length < 8) :
    Calls Tryd.prog 10 #[.slice A bs.length c] w fun e w' => e = .returned (.tuple #[.agg #[.slice none 0 0, .slice none 0 0], .int .i64 4]) ∧ After w w' := by
  have hI : (bs.length : Int) < 8 := by omega
  have hn0 : New w w.heap.size := inferInstance
  have z2 := Lib.hid (Blk.new w 29 #[.slice none 0 0, .slice none 0 0])
  clear h
  go_enter Tryd.func10, Tryd.ntmps10
  go_wp2_with fail
  have r2 := (z2.out.set_ 0 (.slice none 0 0)).set_ 1 (.slice none 0 0)
  have k0 : (((w.alloc (.cells #[.slice none 0 0, .slice none 0 0] 29)).setCell ⟨w.heap.size, 0, none⟩ (.slice none 0 0)).setCell ⟨w.heap.size, 1, none⟩ (.slice none 0 0)).cell? ⟨w.heap.size, 0, none⟩ = some (.slice none 0 0) := by rw [r2.cell]; rfl
  have k1 : (((w.alloc (.cells #[.slice none 0 0, .slice none 0 0] 29)).setCell ⟨w.heap.size, 0, none⟩ (.slice none 0 0)).setCell ⟨w.heap.size, 1, none⟩ (.slice none 0 0)).cell? ⟨w.heap.size, 1, none⟩ = some (.slice none 0 0) := by rw [r2.cell]; rfl
  refine bodyPost_ret (v := .tuple #[.agg #[.slice none 0 0, .slice none 0 0], .int .i64 4]) (by simp [results, Tryd.results10, go_sem, k0, k1]) rfl ⟨rfl, inferInstance⟩

set_option maxRecDepth 100000 in
set_option maxHeartbeats 3200000 in
theorem get_sum {w0 : World} (w : World) {A c bs} (x : RY w0 A c bs) (hw : After w0 w) (h : ¬ bs.length < 8) (hne : enc (sumB (bs.take (bs.length - 4))) ≠ bs.drop (bs.length - 4)) :
    Calls Tryd.prog 10 #[.slice A bs.length c] w fun e w' => e = .returned (.tuple #[.agg #[.slice none 0 0, .slice none 0 0], .int .i64 15]) ∧ After w w' := by
  have hn8 : 8 ≤ bs.length := by omega
  obtain ⟨n, hn⟩ : ∃ n, bs.length = n + 4 := ⟨bs.length - 4, by omega⟩
  have hI : ¬ ((bs.length : Int) < 8) := by omega
  have hcast : (bs.length : Int) - 4 = ((n : Nat) : Int) := by omega
  have hlen := x.len
  have hle_ := x.le
  have hcap_ := x.cap
  have hn4 : n + 4 ≤ c := by omega
  have hnc : n ≤ c := by omega
  have hncI : (n : Int) ≤ (c : Int) := by omega
  have hn0 : New w w.heap.size := inferInstance
  obtain ⟨b, p, x0, x1, x2, x3, rfl, hle, e0, e1, e2, e3, HD⟩ := (x.here w).four (k := n) (by omega)
  have hbw0 : b < w0.heap.size := by
    obtain ⟨b', p', e', hb', _⟩ := x.plain (by omega)
    cases e'; exact hb'
  have hdrop : bs.drop n = [x0, x1, x2, x3] := by
    have h_ := HD.out
    rw [h_, List.drop_eq_nil_of_le (by omega)]
  have hN : numS ⟨bs.drop n, 0⟩ = (dec x0 x1 x2 x3, ⟨[], 0⟩) := numS_ok rfl hdrop
  have x' := Lib.hid x
  have hsum := Lib.hid (sum_iff (sumB (bs.take n)) (sumB_lt _) x0 x1 x2 x3)
  have HS := Lib.hid (fun (V : World) (hV : After w0 V) => by
    have h_ := sum_any (x.cut n (by omega)) V hV
    rw [show (bs.take n).length = n by rw [List.length_take]; omega] at h_
    exact h_)
  obtain ⟨sm, hsm⟩ : ∃ sm, sumB (bs.take n) = sm := ⟨_, rfl⟩
  obtain ⟨dd, hdd⟩ : ∃ dd, dec x0 x1 x2 x3 = dd := ⟨_, rfl⟩
  rw [hsm] at hsum HS
  rw [hdd] at hN hsum
  have HN := Lib.hid hN
  have HDr := Lib.hid hdrop
  have HSm := Lib.hid hsm
  have hq : (IntKind.u32.wrap dd != (sm : Int)) = true := by
    rw [bne_iff_ne, IntKind.wrap_u32]
    intro e
    refine hne ?_
    rw [show bs.length - 4 = n by omega, hdrop, hsm]
    exact hsum.out.1 e
  clear x hN hdrop hdd hsm h hne
  obtain ⟨W1, hW1, z1, a1, hs1⟩ : ∃ W1, (w.alloc (.cells #[.slice none 0 0, .slice none 0 0] 29)) = W1 ∧ Hid (Blk W1 w.heap.size 29 #[.slice none 0 0, .slice none 0 0]) ∧ After w W1 ∧ W1.heap.size = w.heap.size + 1 := ⟨_, rfl, Blk.new _ _ _, inferInstance, size_alloc_ _ _⟩
  go_enter Tryd.func10, Tryd.ntmps10
  go_wp2_with fail
  have ag : w0.heap.size ≤ w.heap.size + 1 := by have := hw.below.size; omega
  obtain ⟨W2, hW2, HR2, a2, z2⟩ : ∃ W2, W1.alloc (.cells #[.slice (some ⟨b, p, none⟩) (n + 4) c, .int .i64 (n : Nat), .int .i64 0] 47) = W2 ∧ Hid (RdIs W2 (w.heap.size + 1) (some ⟨b, p, none⟩) c bs ⟨bs.drop n, 0⟩) ∧ After W1 W2 ∧ Hid (Blk W2 w.heap.size 29 #[.slice none 0 0, .slice none 0 0]) := by
    refine ⟨_, rfl, ?_, inferInstance, z1.out.alloc _⟩
    refine ⟨n, ?_, by omega, rfl⟩
    rw [hn, ← hs1]
    exact Blk.new _ _ _
  rw [hW2]
  clear hW2
  have q2 : After w0 W2 := after_after hw (after_after a1 a2)
  have tk1 : True := trivial
  have tk2 : True := trivial
  go_region_law (first
    | (have _t := tk1; go_simp; go_at_call 19; refine (num_any _ x'.out (after_after q2 inferInstance) ag HR2.out.drew).mono ?_; rintro e v1 ⟨rfl, hq1, fq1⟩; rw [HN.out]; have aq1 : After w0 v1 := Fr.aft fq1 (after_after q2 inferInstance) ag; have zq1 := Lib.hid (fq1.blk z2.out.drew (by omega)); have mq1 : After w v1 := Fr.aft fq1 (after_after a1 (after_after a2 inferInstance)) (by omega); clear hq1 fq1; clear _t tk1)
    | (have _t := tk2; go_simp; go_at_call 15; refine (HS.out _ inferInstance).mono ?_; rintro e v2 ⟨rfl, rfl⟩; clear _t tk2))
  all_goals
    have y0 : v2.cell? ⟨w.heap.size, 0, none⟩ = some (.slice none 0 0) := by rw [zq1.out.cell]; rfl
    have y1 : v2.cell? ⟨w.heap.size, 1, none⟩ = some (.slice none 0 0) := by rw [zq1.out.cell]; rfl
    have yf0 := zq1.out.frozen 0
    have yf1 := zq1.out.frozen 1
    have yl := zq1.out.is_le
    go_wp2_with fail
    have r2 := (zq1.out.set_ 0 (.slice none 0 0)).set_ 1 (.slice none 0 0)
    have k0 : ((v2.setCell ⟨w.heap.size, 0, none⟩ (.slice none 0 0)).setCell ⟨w.heap.size, 1, none⟩ (.slice none 0 0)).cell? ⟨w.heap.size, 0, none⟩ = some (.slice none 0 0) := by rw [r2.cell]; rfl
    have k1 : ((v2.setCell ⟨w.heap.size, 0, none⟩ (.slice none 0 0)).setCell ⟨w.heap.size, 1, none⟩ (.slice none 0 0)).cell? ⟨w.heap.size, 1, none⟩ = some (.slice none 0 0) := by rw [r2.cell]; rfl
    refine bodyPost_ret (v := .tuple #[.agg #[.slice none 0 0, .slice none 0 0], .int .i64 15]) (by simp [results, Tryd.results10, go_sem, k0, k1]) rfl ⟨rfl, inferInstance⟩
end Go.Proofs.YtgmojjdojcmnaaaDoor
