/-
  Contracts: many, text of a reader.
-/
import Derived.Test.YtgmojjdojcmnaaaDoorINum
import Derived.Laws.IdiomStrings
set_option linter.unusedVariables false
set_option linter.unusedSimpArgs false
namespace Go.Proofs.YtgmojjdojcmnaaaDoor
open Go.RowKit Go.BigFrame

set_option maxHeartbeats 1600000 in
theorem many_any {w0 : World} (w : World) {g : Nat} {A c bs s} (x : RY w0 A c bs) (hw : After w0 w) (hg : w0.heap.size ≤ g) (h : RdIs w g A c bs s) :
    Calls Tryd.prog 21 #[.pointer (some ⟨g, 0, none⟩)] w fun e w' => e = .returned (.int .i64 (manyS s).1) ∧ RdIs w' g A c bs (manyS s).2 ∧ Fr w w' g none := by
  have HN := Lib.hid (num_any w x hw hg h)
  have HE : Hid (∀ q, numS s = q → manyS s = if q.2.e = 0 then (if q.1 < 0 ∨ 65536 < q.1 then (0, ⟨q.2.rest, 5⟩) else q) else (0, q.2)) := by
    intro q hq
    unfold manyS
    rw [hq]
  obtain ⟨q, hq⟩ : ∃ q, numS s = q := ⟨_, rfl⟩
  have HM := Lib.hid (HE.out q hq)
  rw [hq] at HN
  clear hq HE
  obtain ⟨n, s1⟩ := q
  simp only [] at HN HM
  by_cases hn : n < 0 ∨ 65536 < n
  · have hm : manyS s = (0, failS s1 5) := by
      unfold failS
      by_cases he : s1.e = 0
      · rw [HM.out, if_pos he, if_pos hn, if_pos he]
      · rw [HM.out, if_neg he, if_neg he]
    have hne : ¬ ((failS s1 5).e = 0) := by unfold failS; split <;> simp_all
    rw [hm]
    clear hm HM
    rcases Int.lt_or_le n 0 with hn0 | hn0
    all_goals
      try have hn1 : 65536 < n := by omega
      clear hn
      go_enter Tryd.func21, Tryd.ntmps21
      go_wp2_with fail
      refine HN.out.mono ?_
      rintro e w1 ⟨rfl, h1, hf⟩
      have d2 := h1.cell2
      have l1 := h1.le
      have H1 := Lib.hid h1
      have HF := Lib.hid hf
      clear h1 hf HN
      go_wp2_with fail
      refine (fail_any _ H1.out 5).mono ?_
      rintro e w2 ⟨rfl, h2, hf2⟩
      have d3 := h2.cell2
      have l2 := h2.le
      have H2 := Lib.hid h2
      have HF2 := Lib.hid hf2
      clear h2 hf2
      go_wp2_with fail
      go_ret
      exact ⟨rfl, H2.out, HF.out.tr HF2.out⟩
  · have h1_ : 0 ≤ n := by omega
    have h2_ : n ≤ 65536 := by omega
    by_cases he : s1.e = 0
    · have hm : manyS s = (n, s1) := by rw [HM.out, if_pos he, if_neg hn]
      rw [hm]
      clear hm HM hn
      go_enter Tryd.func21, Tryd.ntmps21
      go_wp2_with fail
      refine HN.out.mono ?_
      rintro e w1 ⟨rfl, h1, hf⟩
      have d2 := h1.cell2
      have l1 := h1.le
      have H1 := Lib.hid h1
      have HF := Lib.hid hf
      clear h1 hf HN
      go_wp2_with fail
      go_ret
      exact ⟨rfl, H1.out, HF.out⟩
    · have hm : manyS s = (0, s1) := by rw [HM.out, if_neg he]
      rw [hm]
      clear hm HM hn
      go_enter Tryd.func21, Tryd.ntmps21
      go_wp2_with fail
      refine HN.out.mono ?_
      rintro e w1 ⟨rfl, h1, hf⟩
      have d2 := h1.cell2
      have l1 := h1.le
      have H1 := Lib.hid h1
      have HF := Lib.hid hf
      clear h1 hf HN
      go_wp2_with fail
      go_ret
      exact ⟨rfl, H1.out, HF.out⟩

theorem manyS_range (s : St) : 0 ≤ (manyS s).1 ∧ (manyS s).1 ≤ 65536 := by
  unfold manyS
  dsimp only
  split
  · split
    · exact ⟨Int.le_refl 0, (by decide : (0 : Int) ≤ 65536)⟩
    · omega
  · exact ⟨Int.le_refl 0, (by decide : (0 : Int) ≤ 65536)⟩
theorem conv_nil (W : World) (a : Option Addr) (cap : Nat) : (convert 22 9 (.slice a 0 cap)).run Tryd.prog W = .ok (.string ⟨#[]⟩) W := by
  cases a with
  | none => exact run_convert_bytes_nil W 22 5 Tryd.underlying22 Tryd.underlying5 0 cap 9 Tryd.underlying9
  | some a => exact run_convert_bytes_back W 22 9 5 a cap [] Tryd.underlying22 Tryd.underlying5 Tryd.underlying9 (fun j hj => by simp at hj)

set_option maxHeartbeats 1600000 in
theorem text_any {w0 : World} (w : World) {g : Nat} {A c bs s} (x : RY w0 A c bs) (hw : After w0 w) (hg : w0.heap.size ≤ g) (h : RdIs w g A c bs s) :
    Calls Tryd.prog 38 #[.pointer (some ⟨g, 0, none⟩)] w fun e w' => ∃ t : ByteArray, e = .returned (.string t) ∧ t.data.toList = (textS s).1 ∧ t.size ≤ 65536 ∧ RdIs w' g A c bs (textS s).2 ∧ Fr w w' g none := by
  have HN := Lib.hid (many_any w x hw hg h)
  have HE : Hid (∀ q, manyS s = q → textS s = if (q.2.rest.length : Int) < q.1 then ([], failS q.2 4) else (q.2.rest.take q.1.toNat, ⟨q.2.rest.drop q.1.toNat, q.2.e⟩)) := by
    intro q hq
    unfold textS
    rw [hq]
  have HR := manyS_range s
  obtain ⟨q, hq⟩ : ∃ q, manyS s = q := ⟨_, rfl⟩
  have HM := Lib.hid (HE.out q hq)
  rw [hq] at HN HR
  clear hq HE
  obtain ⟨n, s1⟩ := q
  simp only [] at HN HM HR
  obtain ⟨m, rfl⟩ : ∃ m : Nat, n = m := ⟨n.toNat, by omega⟩
  have hm6 : m ≤ 65536 := by omega
  have hlen := x.len
  have hle_ := x.le
  have hcap_ := x.cap
  by_cases hn : s1.rest.length < m
  · have hm : textS s = ([], failS s1 4) := by rw [HM.out, if_pos (by omega)]
    rw [hm]
    have HH := Lib.hid hn
    clear hm HM hn HR
    go_enter Tryd.func38, Tryd.ntmps38
    go_wp2_with fail
    refine HN.out.mono ?_
    rintro e w1 ⟨rfl, h1, hf⟩
    obtain ⟨k, hb, hk, hr⟩ := h1.blk
    have c0 : w1.cell? ⟨g, 0, none⟩ = some (.slice A bs.length c) := by rw [hb.cell]; rfl
    have c1 : w1.cell? ⟨g, 1, none⟩ = some (.int .i64 k) := by rw [hb.cell]; rfl
    have l1 := h1.le
    have hI : (bs.length : Int) - (k : Int) < (m : Int) := by have := HH.out; rw [hr, List.length_drop] at this; omega
    have H1 := Lib.hid h1
    have HF := Lib.hid hf
    clear h1 hf HN hb hr
    go_wp2_with fail
    go_quiet (fail)
    go_wp2_with fail
    refine (fail_any _ (H1.out.drewN _) 4).mono ?_
    rintro e w2 ⟨rfl, h2, hf2⟩
    have H2 := Lib.hid h2
    have HF2 := Lib.hid hf2
    clear h2 hf2
    go_wp2_with fail
    go_ret
    exact ⟨_, rfl, rfl, by decide, H2.out, HF.out.tr ((fr_drew _ _ _).tr HF2.out)⟩
  · have hm : textS s = (s1.rest.take m, ⟨s1.rest.drop m, s1.e⟩) := by rw [HM.out, if_neg (by omega)]; simp
    rw [hm]
    clear hm HM HR
    by_cases h0 : m = 0
    · subst h0
      have KC := conv_nil
      clear hn
      go_enter Tryd.func38, Tryd.ntmps38
      go_wp2_with fail
      refine HN.out.mono ?_
      rintro e w1 ⟨rfl, h1, hf⟩
      obtain ⟨k, hb, hk, hr⟩ := h1.blk
      have c0 : w1.cell? ⟨g, 0, none⟩ = some (.slice A bs.length c) := by rw [hb.cell]; rfl
      have c1 : w1.cell? ⟨g, 1, none⟩ = some (.int .i64 k) := by rw [hb.cell]; rfl
      have f1 := hb.frozen 1
      have l1 := h1.le
      have hI : (k : Int) ≤ (bs.length : Int) := by omega
      have hI2 : ¬ ((bs.length : Int) - (k : Int) < 0) := by omega
      have hI3 : (k : Int) ≤ (c : Int) := by omega
      have hkc : k ≤ c := by omega
      have HB := Lib.hid hb
      have HR := Lib.hid hr
      have HF := Lib.hid hf
      clear h1 hf HN hb hr
      rcases Nat.eq_or_lt_of_le hkc with hck | hck
      · subst hck
        go_wp2_with fail
        go_quiet (fail)
        go_wp2_with fail
        go_quiet (fail)
        go_wp2_with fail
        all_goals
          go_ret
          exact ⟨_, rfl, by simp, by decide, ⟨k, (HB.out.drewN _).set_ 1 _, hk, by simpa using HR.out⟩, HF.out.tr ((fr_drew _ _ _).tr (fr_set _ _ _ _))⟩
      · have hck2 : ¬ (c = k) := by omega
        go_wp2_with fail
        go_quiet (fail)
        go_wp2_with fail
        go_quiet (fail)
        go_wp2_with fail
        all_goals
          go_ret
          exact ⟨_, rfl, by simp, by decide, ⟨k, (HB.out.drewN _).set_ 1 _, hk, by simpa using HR.out⟩, HF.out.tr ((fr_drew _ _ _).tr (fr_set _ _ _ _))⟩
    · have hp : 0 < m := by omega
      have hnb : m ≤ s1.rest.length := by omega
      have HNB := Lib.hid hnb
      clear hn hnb h0
      go_enter Tryd.func38, Tryd.ntmps38
      go_wp2_with fail
      refine HN.out.mono ?_
      rintro e w1 ⟨rfl, h1, hf⟩
      obtain ⟨k, hb, hk, hr⟩ := h1.blk
      have aw1 : After w0 w1 := hf.aft hw hg
      have c0 : w1.cell? ⟨g, 0, none⟩ = some (.slice A bs.length c) := by rw [hb.cell]; rfl
      have c1 : w1.cell? ⟨g, 1, none⟩ = some (.int .i64 k) := by rw [hb.cell]; rfl
      have f1 := hb.frozen 1
      have l1 := h1.le
      have hkm : k + m ≤ bs.length := by have := HNB.out; rw [hr, List.length_drop] at this; omega
      obtain ⟨b, p, rfl, hbl, hcb⟩ := x.plain (by omega)
      have KC : ∀ (n : Nat) (cap : Nat), (convert 22 9 (.slice (some ⟨b, p + k, none⟩) m cap)).run Tryd.prog (w1.drewN n) = .ok (.string ⟨((bs.drop k).take m).toArray⟩) (w1.drewN n) := by
        intro n cap
        have e := run_convert_bytes_back (P := Tryd.prog) (w1.drewN n) 22 9 5 ⟨b, p + k, none⟩ cap ((bs.drop k).take m) Tryd.underlying22 Tryd.underlying5 Tryd.underlying9 (fun j hj => by
          have hj' : j < m := by have := hj; rw [List.length_take, List.length_drop] at this; omega
          rw [Addr.add_lit]
          refine (aw1.below.cell (p := ⟨b, p + k + j, none⟩) hbl).trans ?_
          rw [show p + k + j = p + (k + j) by omega]
          refine hcb (k + j) _ ?_
          rw [List.getElem_take, List.getElem_drop]
          exact List.getElem?_eq_getElem (by omega))
        have el : ((bs.drop k).take m).length = m := by rw [List.length_take, List.length_drop]; omega
        rw [el] at e
        exact e
      have hI2 : ¬ ((bs.length : Int) - (k : Int) < (m : Int)) := by omega
      have hI3 : (k : Int) ≤ (c : Int) := by omega
      have hw1 : IntKind.i64.wrap ((k : Int) + (m : Int)) = ((k + m : Nat) : Int) := IntWalk.i64_in _ (by omega)
      have hw2 : ((k : Int) + (m : Int)).toNat = k + m := by omega
      have hkc : k + m ≤ c := by omega
      have hkc2 : ¬ (c = k) := by omega
      have HB := Lib.hid hb
      have HR := Lib.hid hr
      have HF := Lib.hid hf
      clear h1 hf HN hb hr
      go_wp2_with fail
      go_quiet (fail)
      go_wp2_with fail
      go_quiet (fail)
      go_wp2_with fail
      go_ret
      refine ⟨_, rfl, by rw [HR.out], ?_, ⟨k + m, (HB.out.drewN _).set_ 1 _, by omega, ?_⟩, HF.out.tr ((fr_drew _ _ _).tr (fr_set _ _ _ _))⟩
      · show ((bs.drop k).take m).length ≤ 65536
        rw [List.length_take]; omega
      · show s1.rest.drop m = _
        rw [HR.out, List.drop_drop]
end Go.Proofs.YtgmojjdojcmnaaaDoor
