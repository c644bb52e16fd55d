/-
  Contracts: the law's example and lives.
-/
import Derived.Test.YtfoddappedcplaaENames
import Derived.Test.YtfoddappedcplaaERChk
set_option linter.unusedVariables false
set_option linter.unusedSimpArgs false
namespace Go.Proofs.Ytfoddappedcplaa
open Go.RowKit Go.BigFrame

def xT : Tx := .mk 2 0 0 0 ⟨#[120]⟩ none 0 []
def zT : Tx := .mk 1 0 2 0 ⟨#[]⟩ none 0 []
def cT : Tx := .mk 2 0 0 0 ⟨#[99]⟩ none 0 []
def fT_ (b : Nat) : Tx := .mk 7 0 0 0 ⟨#[]⟩ (some ⟨b, 0, none⟩) 2 [zT, xT]
def eT (b b' : Nat) : Tx := .mk 4 0 0 0 ⟨#[]⟩ (some ⟨b', 0, none⟩) 3 [cT, xT, fT_ b]
def iT : Tx := .mk 2 0 0 0 ⟨#[105, 102]⟩ none 0 []
def pT (b' : Nat) : Tx := .mk 4 0 0 0 ⟨#[]⟩ (some ⟨b', 0, none⟩) 3 [cT, xT]
theorem eT_val (b b' : Nat) : (eT b b').val = .agg #[.int .i64 4, .int .i64 0, .int .i64 0, .int .i64 0, .string ⟨#[]⟩, .slice (some ⟨b', 0, none⟩) 3 3] := rfl

theorem Blk.at_ {w : World} {g : Nat} (hg : w.heap.size = g) (t : TypeId) (cs : Array Value) : Blk (w.alloc (.cells cs t)) g t cs := by subst hg; exact Blk.new w t cs
theorem RXs.of_blk {w : World} {g : Nat} {t : TypeId} {cs : Array Value} {l : List Tx} (h : Blk w g t cs) (hc : cs.toList = flat l) (hx : ∀ e ∈ l, RX w e) : RXs w g 0 l :=
  flat_reads l 0 (fun j u hu => by rw [Nat.zero_add, h.cell, ← Array.getElem?_toList, hc]; exact hu) hx
theorem RX.leaf (w : World) (k o t v : Int) (s : ByteArray) (hs : s.size ≤ 140737488355328) : RX w (.mk k o t v s none 0 []) := by
  rw [RX]; exact ⟨hs, by simp, by decide, by simp, .inl rfl⟩
theorem eT_rx {w : World} {b b' : Nat} {t t' : TypeId} (h3 : Blk w b t #[.int .i64 1, .int .i64 0, .int .i64 2, .int .i64 0, .string ⟨#[]⟩, .slice none 0 0, .int .i64 2, .int .i64 0, .int .i64 0, .int .i64 0, .string ⟨#[120]⟩, .slice none 0 0])
    (h4 : Blk w b' t' #[.int .i64 2, .int .i64 0, .int .i64 0, .int .i64 0, .string ⟨#[99]⟩, .slice none 0 0, .int .i64 2, .int .i64 0, .int .i64 0, .int .i64 0, .string ⟨#[120]⟩, .slice none 0 0, .int .i64 7, .int .i64 0, .int .i64 0, .int .i64 0, .string ⟨#[]⟩, .slice (some ⟨b, 0, none⟩) 2 2]) : RX w (eT b b') := by
  have hc : RX w cT := RX.leaf w _ _ _ _ _ (by decide)
  have hx : RX w xT := RX.leaf w _ _ _ _ _ (by decide)
  have hz : RX w zT := RX.leaf w _ _ _ _ _ (by decide)
  have hf : RX w (fT_ b) := by
    unfold fT_; rw [RX]
    exact ⟨by decide, by decide, by decide, by decide, .inr ⟨b, 0, rfl, h3.lt, RXs.of_blk h3 rfl (by intro e he; simp at he; rcases he with rfl | rfl <;> assumption)⟩⟩
  unfold eT; rw [RX]
  exact ⟨by decide, by show 3 ≤ 3; decide, by decide, by show 3 ≤ 140737488355328; decide, .inr ⟨b', 0, rfl, h4.lt, RXs.of_blk h4 rfl (by intro e he; simp at he; rcases he with rfl | rfl | rfl <;> assumption)⟩⟩
theorem eT_parts {w : World} {b b' : Nat} (h : RX w (eT b b')) : Hid (RX w (eT b b')) ∧ Hid (RX w (fT_ b)) ∧ Hid (RX w (pT b')) ∧ Hid (RX w iT) ∧
    (w.cell? ⟨b', 12, none⟩ = some (.int .i64 7) ∧ w.cell? ⟨b', 13, none⟩ = some (.int .i64 0) ∧ w.cell? ⟨b', 14, none⟩ = some (.int .i64 0) ∧ w.cell? ⟨b', 15, none⟩ = some (.int .i64 0) ∧ w.cell? ⟨b', 16, none⟩ = some (.string ⟨#[]⟩) ∧ w.cell? ⟨b', 17, none⟩ = some (.slice (some ⟨b, 0, none⟩) 2 2) ∧ Le (b' + 1) w) := by
  have h' := h
  unfold eT at h'
  rw [RX] at h'
  obtain ⟨_, _, _, _, h5⟩ := h'
  rcases h5 with h5 | ⟨g, o, h5, hlt, hr⟩
  · cases h5
  injection h5 with h5
  injection h5 with e1 e2
  subst e1; subst e2
  obtain ⟨s6, hf⟩ := hr.get (i := 2) (e := fT_ b) rfl
  refine ⟨Lib.hid h, Lib.hid hf, Lib.hid ?_, Lib.hid (RX.leaf w _ _ _ _ _ (by decide)), s6.c0, s6.c1, s6.c2, s6.c3, s6.c4, s6.c5, ⟨hlt⟩⟩
  unfold pT
  rw [RX]
  refine ⟨by decide, by decide, by decide, by decide, .inr ⟨b', 0, rfl, hlt, ?_⟩⟩
  rw [RXs, RXs, RXs, RXs] at hr
  rw [RXs, RXs, RXs]
  exact ⟨hr.1, hr.2.1, hr.2.2.1, hr.2.2.2.1, trivial⟩
theorem identB_data (s : ByteArray) : identB s = (decide (0 < s.size) && decide (s.size ≤ 40) && letterI (s.data.toList.headD 0).toNat && s.data.toList.all (fun c => innerI c.toNat) && !(kws.any fun k => s.data.toList == k)) := by
  unfold identB kwB; rw [toList_data]
theorem id_x : identB ⟨#[120]⟩ = true := by rw [identB_data]; decide +kernel
theorem id_c : identB ⟨#[99]⟩ = true := by rw [identB_data]; decide +kernel
theorem id_if : identB ⟨#[105, 102]⟩ = false := by rw [identB_data]; decide +kernel
theorem err_x : errOf xT = 0 := by
  show oneI 2 0 0 0 ⟨#[120]⟩ 0 = 0
  simp [oneI, oneB, fA, fO, fT, fN, fW, plainB, id_x]
theorem err_c : errOf cT = 0 := by
  show oneI 2 0 0 0 ⟨#[99]⟩ 0 = 0
  simp [oneI, oneB, fA, fO, fT, fN, fW, plainB, id_c]
theorem err_i : errOf iT = 6 := by
  show oneI 2 0 0 0 ⟨#[105, 102]⟩ 0 = 6
  simp [oneI, oneB, fA, fO, fT, fN, fW, plainB, id_if]
theorem emp_list : (⟨#[]⟩ : ByteArray).toList = [] := (toList_data _).trans rfl
theorem err_z : errOf zT = 0 := by
  show oneI 1 0 2 0 ⟨#[]⟩ 0 = 0
  simp [oneI, oneB, fA, fO, fT, fN, fW, plainB, emp_list]
theorem err_f (b : Nat) : errOf (fT_ b) = 0 := by
  show oneI 7 0 0 0 ⟨#[]⟩ 2 = 0
  simp [oneI, oneB, fA, fO, fT, fN, fW, plainB, emp_list]
theorem err_e (b b' : Nat) : errOf (eT b b') = 0 := by
  show oneI 4 0 0 0 ⟨#[]⟩ 3 = 0
  simp [oneI, oneB, fA, fO, fT, fN, fW, plainB, emp_list]
theorem err_p (b' : Nat) : errOf (pT b') = 5 := by
  show oneI 4 0 0 0 ⟨#[]⟩ 2 = 5
  simp [oneI, oneB, fA, fO, fT, fN, fW, plainB, emp_list]
theorem eT_list (b b' : Nat) : (eT b b').list = [eT b b', cT, xT, fT_ b, zT, xT] := rfl
theorem val_chk (b b' : Nat) : chkI (eT b b') = 0 := by
  unfold chkI
  rw [if_neg (by show ¬(400 < 6 ∨ 32 < 3); decide), eT_list]
  simp only [firstI, err_x, err_c, err_z, err_f, err_e, if_true]
theorem val_chk2 : chkI iT = 6 := by
  unfold chkI
  rw [if_neg (by decide)]
  show firstI [iT] = 6
  simp only [firstI, err_i, if_false]
  rfl
theorem val_chk3 (b' : Nat) : chkI (pT b') = 5 := by
  unfold chkI
  rw [if_neg (by show ¬(400 < 3 ∨ 32 < 2); decide)]
  show firstI [pT b', cT, xT] = 5
  simp only [firstI, err_p]
  rfl
theorem val_size (b b' : Nat) : (eT b b').size = 6 := rfl
theorem val_depth (b b' : Nat) : (eT b b').depth = 3 := rfl
theorem val_kinds (b b' : Nat) : kindsN (eT b b').list 2 = 3 := rfl
theorem hasB_data (l : List ByteArray) (s : ByteArray) : hasB l s = l.any fun t => t.data.toList == s.data.toList := by
  unfold hasB; congr 1; funext t; rw [toList_data, toList_data]
theorem val_names (b b' : Nat) : Tx.nms false (eT b b') [] = [⟨#[99]⟩, ⟨#[120]⟩] := by
  simp only [eT, fT_, cT, xT, zT, Tx.nms, Tx.nmss, hasB_data, skipB, varB]
  rfl
theorem val_inst0 (b : Nat) : Tx.nms true (fT_ b) [] = [] := by
  simp only [fT_, cT, xT, zT, Tx.nms, Tx.nmss, hasB_data, skipB, varB]
  rfl
theorem val_stl (b b' : Nat) : stateless (eT b b').list = false := rfl

set_option maxRecDepth 100000 in
set_option maxHeartbeats 1600000 in
theorem example_any (w : World) : Calls Try.prog 38 #[] w fun e w' => ∃ b b', e = .returned (.agg #[.int .i64 4, .int .i64 0, .int .i64 0, .int .i64 0, .string ⟨#[]⟩, .slice (some ⟨b', 0, none⟩) 3 3]) ∧ RX w' (eT b b') ∧ After w w' := by
  go_enter Try.func38, Try.ntmps38
  go_wp2_with fail
  have HB3 := fun (W : World) (hW : W.heap.size = w.heap.size + 1 + 1 + 1) => Blk.at_ hW 24 #[.int .i64 1, .int .i64 0, .int .i64 2, .int .i64 0, .string ⟨#[]⟩, .slice none 0 0, .int .i64 2, .int .i64 0, .int .i64 0, .int .i64 0, .string ⟨#[120]⟩, .slice none 0 0]
  have HB4 := fun (W : World) (hW : W.heap.size = w.heap.size + 1 + 1 + 1 + 1) => Blk.at_ hW 24 #[.int .i64 2, .int .i64 0, .int .i64 0, .int .i64 0, .string ⟨#[99]⟩, .slice none 0 0, .int .i64 2, .int .i64 0, .int .i64 0, .int .i64 0, .string ⟨#[120]⟩, .slice none 0 0, .int .i64 7, .int .i64 0, .int .i64 0, .int .i64 0, .string ⟨#[]⟩, .slice (some ⟨w.heap.size + 1 + 1 + 1, 0, none⟩) 2 2]
  refine bodyPost_ret (v := .agg #[.int .i64 4, .int .i64 0, .int .i64 0, .int .i64 0, .string ⟨#[]⟩, .slice (some ⟨w.heap.size + 1 + 1 + 1 + 1, 0, none⟩) 3 3]) ?_ rfl ⟨_, _, rfl, eT_rx ((HB3 _ (by simp)).alloc _) (HB4 _ (by simp)), inferInstance⟩
  simp [results, Try.results38, go_sem]

set_option maxRecDepth 100000 in
set_option maxHeartbeats 3200000 in
theorem lives_any (w : World) : Calls Try.prog 11 #[] w fun e w' => e = .returned (.bool true) ∧ After w w' := by
  go_enter Try.func11, Try.ntmps11
  go_wp2_with fail
  refine (example_any _).mono ?_
  rintro e w1 ⟨b, b', rfl, hx, aw1⟩
  obtain ⟨HX, HXf, HXp, HXi, hd0⟩ := eT_parts hx
  clear hx
  have C1 : Hid (∀ U, After w1 U → Calls Try.prog 12 #[.agg #[.int .i64 4, .int .i64 0, .int .i64 0, .int .i64 0, .string ⟨#[]⟩, .slice (some ⟨b', 0, none⟩) 3 3]] U fun e w' => e = .returned (.int .i64 0) ∧ After U w') := Lib.hid fun U hU => by
    have h := chk_any (k := 4) (o := 0) (t := 0) (v := 0) (s := ⟨#[]⟩) (A := some ⟨b', 0, none⟩) (c := 3) (xs := [cT, xT, fT_ b]) (by show 6 ≤ 1000000; decide) (w0 := w1) HX.out U hU
    rw [show chkI (Tx.mk 4 0 0 0 ⟨#[]⟩ (some ⟨b', 0, none⟩) 3 [cT, xT, fT_ b]) = 0 from val_chk b b'] at h
    exact h
  have C2 : Hid (∀ U, After w1 U → Calls Try.prog 14 #[.agg #[.int .i64 4, .int .i64 0, .int .i64 0, .int .i64 0, .string ⟨#[]⟩, .slice (some ⟨b', 0, none⟩) 3 3]] U fun e w' => e = .returned (.int .i64 6) ∧ After U w') := Lib.hid fun U hU => by
    have h := size_any (k := 4) (o := 0) (t := 0) (v := 0) (s := ⟨#[]⟩) (A := some ⟨b', 0, none⟩) (c := 3) (xs := [cT, xT, fT_ b]) (by show 6 ≤ 1000000; decide) (w0 := w1) HX.out U hU
    rw [show (Tx.mk 4 0 0 0 ⟨#[]⟩ (some ⟨b', 0, none⟩) 3 [cT, xT, fT_ b]).size = 6 from rfl] at h
    exact h
  have C3 : Hid (∀ U, After w1 U → Calls Try.prog 16 #[.agg #[.int .i64 4, .int .i64 0, .int .i64 0, .int .i64 0, .string ⟨#[]⟩, .slice (some ⟨b', 0, none⟩) 3 3]] U fun e w' => e = .returned (.int .i64 3) ∧ After U w') := Lib.hid fun U hU => by
    have h := depth_any (k := 4) (o := 0) (t := 0) (v := 0) (s := ⟨#[]⟩) (A := some ⟨b', 0, none⟩) (c := 3) (xs := [cT, xT, fT_ b]) (by show 6 ≤ 1000000; decide) (w0 := w1) HX.out U hU
    rw [show (Tx.mk 4 0 0 0 ⟨#[]⟩ (some ⟨b', 0, none⟩) 3 [cT, xT, fT_ b]).depth = 3 from rfl] at h
    exact h
  have C4 : Hid (∀ U, After w1 U → Calls Try.prog 18 #[.agg #[.int .i64 4, .int .i64 0, .int .i64 0, .int .i64 0, .string ⟨#[]⟩, .slice (some ⟨b', 0, none⟩) 3 3], .int .i64 2] U fun e w' => e = .returned (.int .i64 3) ∧ After U w') := Lib.hid fun U hU => by
    have h := count_any (k := 4) (o := 0) (t := 0) (v := 0) (s := ⟨#[]⟩) (A := some ⟨b', 0, none⟩) (c := 3) (xs := [cT, xT, fT_ b]) (by show 6 ≤ 1000000; decide) (w0 := w1) HX.out 2 U hU
    rw [show kindsN (Tx.mk 4 0 0 0 ⟨#[]⟩ (some ⟨b', 0, none⟩) 3 [cT, xT, fT_ b]).list 2 = 3 from rfl] at h
    exact h
  have C5 : Hid (∀ U, After w1 U → Calls Try.prog 22 #[.agg #[.int .i64 4, .int .i64 0, .int .i64 0, .int .i64 0, .string ⟨#[]⟩, .slice (some ⟨b', 0, none⟩) 3 3]] U fun e w' => ∃ A' c', e = .returned (.slice A' 2 c') ∧ RSt w' A' c' [⟨#[99]⟩, ⟨#[120]⟩] ∧ After U w') := Lib.hid fun U hU => by
    have h := Names_any (k := 4) (o := 0) (t := 0) (v := 0) (s := ⟨#[]⟩) (A := some ⟨b', 0, none⟩) (c := 3) (xs := [cT, xT, fT_ b]) (by show 6 ≤ 1000000; decide) (w0 := w1) HX.out U hU
    rw [show Tx.nms false (Tx.mk 4 0 0 0 ⟨#[]⟩ (some ⟨b', 0, none⟩) 3 [cT, xT, fT_ b]) [] = [⟨#[99]⟩, ⟨#[120]⟩] from val_names b b'] at h
    exact h
  have C7 : Hid (∀ U, After w1 U → Calls Try.prog 23 #[.agg #[.int .i64 7, .int .i64 0, .int .i64 0, .int .i64 0, .string ⟨#[]⟩, .slice (some ⟨b, 0, none⟩) 2 2]] U fun e w' => ∃ A' c', e = .returned (.slice A' 0 c') ∧ RSt w' A' c' [] ∧ After U w') := Lib.hid fun U hU => by
    have h := Instant_any (k := 7) (o := 0) (t := 0) (v := 0) (s := ⟨#[]⟩) (A := some ⟨b, 0, none⟩) (c := 2) (xs := [zT, xT]) (by show 3 ≤ 1000000; decide) (w0 := w1) HXf.out U hU
    rw [show Tx.nms true (Tx.mk 7 0 0 0 ⟨#[]⟩ (some ⟨b, 0, none⟩) 2 [zT, xT]) [] = [] from val_inst0 b] at h
    exact h
  have C9 : Hid (∀ U, After w1 U → Calls Try.prog 20 #[.agg #[.int .i64 4, .int .i64 0, .int .i64 0, .int .i64 0, .string ⟨#[]⟩, .slice (some ⟨b', 0, none⟩) 3 3]] U fun e w' => e = .returned (.bool false) ∧ After U w') := Lib.hid fun U hU => by
    have h := stateless_any (k := 4) (o := 0) (t := 0) (v := 0) (s := ⟨#[]⟩) (A := some ⟨b', 0, none⟩) (c := 3) (xs := [cT, xT, fT_ b]) (w0 := w1) HX.out U hU
    rw [show stateless (Tx.mk 4 0 0 0 ⟨#[]⟩ (some ⟨b', 0, none⟩) 3 [cT, xT, fT_ b]).list = false from rfl] at h
    exact h
  have C10 : Hid (∀ U, After w1 U → Calls Try.prog 12 #[.agg #[.int .i64 2, .int .i64 0, .int .i64 0, .int .i64 0, .string ⟨#[105, 102]⟩, .slice none 0 0]] U fun e w' => e = .returned (.int .i64 6) ∧ After U w') := Lib.hid fun U hU => by
    have h := chk_any (k := 2) (o := 0) (t := 0) (v := 0) (s := ⟨#[105, 102]⟩) (A := none) (c := 0) (xs := []) (by show 1 ≤ 1000000; decide) (w0 := w1) HXi.out U hU
    rw [show chkI (Tx.mk 2 0 0 0 ⟨#[105, 102]⟩ none 0 []) = 6 from val_chk2] at h
    exact h
  have C11 : Hid (∀ U, After w1 U → Calls Try.prog 12 #[.agg #[.int .i64 4, .int .i64 0, .int .i64 0, .int .i64 0, .string ⟨#[]⟩, .slice (some ⟨b', 0, none⟩) 2 3]] U fun e w' => e = .returned (.int .i64 5) ∧ After U w') := Lib.hid fun U hU => by
    have h := chk_any (k := 4) (o := 0) (t := 0) (v := 0) (s := ⟨#[]⟩) (A := some ⟨b', 0, none⟩) (c := 3) (xs := [cT, xT]) (by show 3 ≤ 1000000; decide) (w0 := w1) HXp.out U hU
    rw [show chkI (Tx.mk 4 0 0 0 ⟨#[]⟩ (some ⟨b', 0, none⟩) 3 [cT, xT]) = 5 from val_chk3 b'] at h
    exact h
  obtain ⟨d0, d1, d2, d3, d4, d5, lb'⟩ := hd0
  go_wp2_with fail
  obtain ⟨V, hV, aV, HBV⟩ : ∃ V, w1.alloc (.cells #[.int .i64 4, .int .i64 0, .int .i64 0, .int .i64 0, .string ⟨#[]⟩, .slice (some ⟨b', 0, none⟩) 3 3] 24) = V ∧ After w1 V ∧ Blk V w1.heap.size 24 #[.int .i64 4, .int .i64 0, .int .i64 0, .int .i64 0, .string ⟨#[]⟩, .slice (some ⟨b', 0, none⟩) 3 3] := ⟨_, rfl, inferInstance, Blk.new _ _ _⟩
  rw [hV]
  clear hV
  have HK : Hid (∀ U : World, After V U → After w1 U ∧ Le (w1.heap.size + 1) U ∧ Le (b' + 1) U ∧ U.cell? ⟨w1.heap.size, 0, none⟩ = some (.int .i64 4) ∧ U.cell? ⟨w1.heap.size, 1, none⟩ = some (.int .i64 0) ∧ U.cell? ⟨w1.heap.size, 2, none⟩ = some (.int .i64 0) ∧ U.cell? ⟨w1.heap.size, 3, none⟩ = some (.int .i64 0) ∧ U.cell? ⟨w1.heap.size, 4, none⟩ = some (.string ⟨#[]⟩) ∧ U.cell? ⟨w1.heap.size, 5, none⟩ = some (.slice (some ⟨b', 0, none⟩) 3 3) ∧ U.cell? ⟨b', 12, none⟩ = some (.int .i64 7) ∧ U.cell? ⟨b', 13, none⟩ = some (.int .i64 0) ∧ U.cell? ⟨b', 14, none⟩ = some (.int .i64 0) ∧ U.cell? ⟨b', 15, none⟩ = some (.int .i64 0) ∧ U.cell? ⟨b', 16, none⟩ = some (.string ⟨#[]⟩) ∧ U.cell? ⟨b', 17, none⟩ = some (.slice (some ⟨b, 0, none⟩) 2 2)) := Lib.hid fun U hU => by
    have f_ := HBV.after (w' := U)
    have k_ := after_after aV hU
    exact ⟨k_, f_.is_le, le_keep k_, (f_.cell 0).trans rfl, (f_.cell 1).trans rfl, (f_.cell 2).trans rfl, (f_.cell 3).trans rfl, (f_.cell 4).trans rfl, (f_.cell 5).trans rfl, cell_keep k_ d0, cell_keep k_ d1, cell_keep k_ d2, cell_keep k_ d3, cell_keep k_ d4, cell_keep k_ d5⟩
  clear d0 d1 d2 d3 d4 d5 lb' HBV
  obtain ⟨q_V, l1_V, l2_V, c0_V, c1_V, c2_V, c3_V, c4_V, c5_V, g0_V, g1_V, g2_V, g3_V, g4_V, g5_V⟩ := HK.out V inferInstance
  have z_V : After V V := inferInstance
  refine (C1.out _ q_V).mono ?_
  rintro _ u2 ⟨rfl, k2⟩
  have z2 : After V u2 := after_after z_V k2
  have z_u2 := z2
  clear c0_V g0_V c1_V g1_V c2_V g2_V c3_V g3_V c4_V g4_V c5_V g5_V
  obtain ⟨q_u2, l1_u2, l2_u2, c0_u2, c1_u2, c2_u2, c3_u2, c4_u2, c5_u2, g0_u2, g1_u2, g2_u2, g3_u2, g4_u2, g5_u2⟩ := HK.out u2 z2
  go_wp2_with fail
  refine (C2.out _ q_u2).mono ?_
  rintro _ u3 ⟨rfl, k3⟩
  have z3 : After V u3 := after_after z_u2 k3
  have z_u3 := z3
  clear c0_u2 g0_u2 c1_u2 g1_u2 c2_u2 g2_u2 c3_u2 g3_u2 c4_u2 g4_u2 c5_u2 g5_u2
  obtain ⟨q_u3, l1_u3, l2_u3, c0_u3, c1_u3, c2_u3, c3_u3, c4_u3, c5_u3, g0_u3, g1_u3, g2_u3, g3_u3, g4_u3, g5_u3⟩ := HK.out u3 z3
  go_wp2_with fail
  refine (C3.out _ q_u3).mono ?_
  rintro _ u4 ⟨rfl, k4⟩
  have z4 : After V u4 := after_after z_u3 k4
  have z_u4 := z4
  clear c0_u3 g0_u3 c1_u3 g1_u3 c2_u3 g2_u3 c3_u3 g3_u3 c4_u3 g4_u3 c5_u3 g5_u3
  obtain ⟨q_u4, l1_u4, l2_u4, c0_u4, c1_u4, c2_u4, c3_u4, c4_u4, c5_u4, g0_u4, g1_u4, g2_u4, g3_u4, g4_u4, g5_u4⟩ := HK.out u4 z4
  go_wp2_with fail
  refine (C4.out _ q_u4).mono ?_
  rintro _ u5 ⟨rfl, k5⟩
  have z5 : After V u5 := after_after z_u4 k5
  have z_u5 := z5
  clear c0_u4 g0_u4 c1_u4 g1_u4 c2_u4 g2_u4 c3_u4 g3_u4 c4_u4 g4_u4 c5_u4 g5_u4
  obtain ⟨q_u5, l1_u5, l2_u5, c0_u5, c1_u5, c2_u5, c3_u5, c4_u5, c5_u5, g0_u5, g1_u5, g2_u5, g3_u5, g4_u5, g5_u5⟩ := HK.out u5 z5
  go_wp2_with fail
  refine (C5.out _ q_u5).mono ?_
  rintro _ u6 ⟨A5, c5, rfl, hs5, k6⟩
  replace hs5 := Lib.hid hs5
  have z6 : After V u6 := after_after z_u5 k6
  have z_u6 := z6
  clear c0_u5 g0_u5 c1_u5 g1_u5 c2_u5 g2_u5 c3_u5 g3_u5 c4_u5 g4_u5 c5_u5 g5_u5
  obtain ⟨q_u6, l1_u6, l2_u6, c0_u6, c1_u6, c2_u6, c3_u6, c4_u6, c5_u6, g0_u6, g1_u6, g2_u6, g3_u6, g4_u6, g5_u6⟩ := HK.out u6 z6
  go_wp2_with fail
  refine (samenames_any (w0 := u6.alloc (.cells #[.string ⟨#[99]⟩, .string ⟨#[120]⟩] 9)) (l := [⟨#[99]⟩, ⟨#[120]⟩]) (m := [⟨#[99]⟩, ⟨#[120]⟩]) (hs5.out.here _) (RSt.of_blk (l := [⟨#[99]⟩, ⟨#[120]⟩]) (Blk.new u6 9 _) (by decide)) _ inferInstance).mono ?_
  rintro _ u7 ⟨rfl, k7⟩
  have z7 : After V u7 := after_after (after_after z_u6 inferInstance) k7
  have z_u7 := z7
  rw [show samesB [⟨#[99]⟩, ⟨#[120]⟩] [⟨#[99]⟩, ⟨#[120]⟩] = true by unfold samesB; simp]
  clear c0_u6 g0_u6 c1_u6 g1_u6 c2_u6 g2_u6 c3_u6 g3_u6 c4_u6 g4_u6 c5_u6 g5_u6
  obtain ⟨q_u7, l1_u7, l2_u7, c0_u7, c1_u7, c2_u7, c3_u7, c4_u7, c5_u7, g0_u7, g1_u7, g2_u7, g3_u7, g4_u7, g5_u7⟩ := HK.out u7 z7
  go_wp2_with fail
  refine (C7.out _ q_u7).mono ?_
  rintro _ u8 ⟨A7, c7, rfl, hs7, k8⟩
  replace hs7 := Lib.hid hs7
  have z8 : After V u8 := after_after z_u7 k8
  have z_u8 := z8
  clear c0_u7 g0_u7 c1_u7 g1_u7 c2_u7 g2_u7 c3_u7 g3_u7 c4_u7 g4_u7 c5_u7 g5_u7
  obtain ⟨q_u8, l1_u8, l2_u8, c0_u8, c1_u8, c2_u8, c3_u8, c4_u8, c5_u8, g0_u8, g1_u8, g2_u8, g3_u8, g4_u8, g5_u8⟩ := HK.out u8 z8
  go_wp2_with fail
  refine (samenames_any (w0 := u8) (l := []) (m := []) hs7.out (RSt.nil _) _ inferInstance).mono ?_
  rintro _ u9 ⟨rfl, k9⟩
  have z9 : After V u9 := after_after z_u8 k9
  have z_u9 := z9
  rw [show samesB [] [] = true by unfold samesB; simp]
  clear c0_u8 g0_u8 c1_u8 g1_u8 c2_u8 g2_u8 c3_u8 g3_u8 c4_u8 g4_u8 c5_u8 g5_u8
  obtain ⟨q_u9, l1_u9, l2_u9, c0_u9, c1_u9, c2_u9, c3_u9, c4_u9, c5_u9, g0_u9, g1_u9, g2_u9, g3_u9, g4_u9, g5_u9⟩ := HK.out u9 z9
  go_wp2_with fail
  refine (C9.out _ q_u9).mono ?_
  rintro _ u10 ⟨rfl, k10⟩
  have z10 : After V u10 := after_after z_u9 k10
  have z_u10 := z10
  clear c0_u9 g0_u9 c1_u9 g1_u9 c2_u9 g2_u9 c3_u9 g3_u9 c4_u9 g4_u9 c5_u9 g5_u9
  obtain ⟨q_u10, l1_u10, l2_u10, c0_u10, c1_u10, c2_u10, c3_u10, c4_u10, c5_u10, g0_u10, g1_u10, g2_u10, g3_u10, g4_u10, g5_u10⟩ := HK.out u10 z10
  go_wp2_with fail
  refine (C10.out _ q_u10).mono ?_
  rintro _ u11 ⟨rfl, k11⟩
  have z11 : After V u11 := after_after z_u10 k11
  have z_u11 := z11
  clear c0_u10 g0_u10 c1_u10 g1_u10 c2_u10 g2_u10 c3_u10 g3_u10 c4_u10 g4_u10 c5_u10 g5_u10
  obtain ⟨q_u11, l1_u11, l2_u11, c0_u11, c1_u11, c2_u11, c3_u11, c4_u11, c5_u11, g0_u11, g1_u11, g2_u11, g3_u11, g4_u11, g5_u11⟩ := HK.out u11 z11
  go_wp2_with fail
  refine (C11.out _ q_u11).mono ?_
  rintro _ u12 ⟨rfl, k12⟩
  have z12 : After V u12 := after_after z_u11 k12
  have z_u12 := z12
  clear c0_u11 g0_u11 c1_u11 g1_u11 c2_u11 g2_u11 c3_u11 g3_u11 c4_u11 g4_u11 c5_u11 g5_u11
  obtain ⟨q_u12, l1_u12, l2_u12, c0_u12, c1_u12, c2_u12, c3_u12, c4_u12, c5_u12, g0_u12, g1_u12, g2_u12, g3_u12, g4_u12, g5_u12⟩ := HK.out u12 z12
  go_wp2_with fail
  go_ret
  exact ⟨rfl, after_after aw1 q_u12⟩
end Go.Proofs.Ytfoddappedcplaa
