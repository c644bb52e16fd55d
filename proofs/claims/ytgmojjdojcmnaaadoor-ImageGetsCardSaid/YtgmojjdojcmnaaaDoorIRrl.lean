/-
  Contracts of the reference's readers: List, Text.
-/
import Derived.Test.YtgmojjdojcmnaaaDoorIRrd
set_option linter.unusedVariables false
set_option linter.unusedSimpArgs false
namespace Go.Proofs.YtgmojjdojcmnaaaDoor
open Go.RowKit Go.BigFrame

theorem allF_zero (acc : List Int) (s : St) : allF 0 acc s = (acc, s) := rfl
set_option maxRecDepth 100000 in
set_option maxHeartbeats 1600000 in
theorem rrlist_any {w0 : World} (w : World) {g : Nat} {s : St} (hw : After w0 w) (hg : w0.heap.size ≤ g) (h : RrIs w0 w g s) :
    Calls Tryd.prog 25 #[.pointer (some ⟨g, 0, none⟩)] w fun e w' => ∃ A' c', e = .returned (.slice A' (allS s).1.length c') ∧ RI w' A' c' (allS s).1 ∧ (∀ ad, A' = some ad → w.heap.size ≤ ad.block ∧ ad.block < w'.heap.size) ∧ RrIs w0 w' g (allS s).2 ∧ Fr w w' g none := by
  obtain ⟨i0, hi, hz0, hz1, hz2⟩ := info_parts intInfo
  have hgl := h.le.le
  have HN := Lib.hid (rrcount_any w hw hg h)
  have HR := manyS_range s
  have HT : Hid (allS s = allF (manyS s).1.toNat [] (manyS s).2) := rfl
  obtain ⟨T, hT⟩ : ∃ T, allS s = T := ⟨_, rfl⟩
  rw [hT] at HT ⊢
  clear hT
  generalize manyS s = q at *
  obtain ⟨n, s1⟩ := q
  simp only [] at HN HT HR
  obtain ⟨m, rfl⟩ : ∃ m : Nat, n = m := ⟨n.toNat, by omega⟩
  replace HT : Hid (allF m [] s1 = T) := by have := HT.out; simp only [Int.toNat_natCast] at this; exact this.symm
  have hm6 : m ≤ 65536 := by omega
  clear HR h
  go_enter Tryd.func25, Tryd.ntmps25
  go_wp2_with fail
  refine HN.out.mono ?_
  rintro e w1 ⟨rfl, h1, hf⟩
  have H1 := Lib.hid h1
  have HF := Lib.hid hf
  clear h1 hf HN
  go_wp2_with fail
  go_loopw [3, 5] (fun v i wr => ∃ (k j : Nat) (acc : List Int) (s' : St) (v' : Value), v' = v ∧ i = .int .i64 (k : Nat) ∧ acc.length = k ∧ k + j = m ∧ Hid (allF j acc s' = T) ∧ Hid (wr.ownsRow w.heap.size 3 1 v' acc.length (iv acc)) ∧ Hid (RrIs w0 wr g s') ∧ Hid (Fr w wr g none)) (fun _ i _ => m - (intOf i).toNat)
  case atStart => exact ⟨0, m, [], s1, _, rfl, rfl, rfl, by omega, HT, World.ownsRow_nil _ _ _ _, H1, HF⟩
  case round =>
    obtain ⟨k, j, acc, s2, v', rfl, rfl, hacc_, hj, ht, hown, h2, hf2⟩ := hrel
    have hacc := Lib.hid hacc_
    have hal6 : acc.length ≤ 65536 := by omega
    clear hacc_
    have d2 := h2.out.cell1
    have l2 := h2.out.le
    obtain ⟨A1, c1, rfl, hc1, hc2⟩ := own_slice hown.out
    rcases Nat.eq_zero_or_pos j with rfl | hpos
    · have hkm : ¬ ((k : Int) < (m : Int)) := by omega
      have HE : Hid ((acc, s2) = T) := ht.out
      go_wp2_with fail
      go_ret
      have hE := HE.out
      subst hE
      exact ⟨A1, c1, rfl, ⟨Reads.of_own hown.out, hc1, hc2, by show acc.length ≤ _; omega⟩, fun ad e => ⟨own_from hown.out ad e, own_lt hown.out ad e⟩, h2.out, hf2.out⟩
    · have hkm : (k : Int) < (m : Int) := by omega
      by_cases he : s2.e = 0
      · obtain ⟨j, rfl⟩ : ∃ i, j = i + 1 := ⟨j - 1, by omega⟩
        have HT2 : Hid (allF j (acc ++ [(numS s2).1]) (numS s2).2 = T) := by have := ht.out; rw [allF, if_pos he] at this; exact this
        have z1 : (s2.e == 0) = true := by rw [beq_iff_eq]; exact he
        have aw : After w0 wr := hf2.out.aft hw hg
        have HN := Lib.hid (rrnum_any wr aw hg h2.out)
        have hal : Hid (acc.length = k ∧ k + (j + 1) = m) := ⟨hacc.out, hj⟩
        generalize numS s2 = q at *
        obtain ⟨n1, s3⟩ := q
        simp only [] at HN HT2
        have hks : k ≤ 65536 := by omega
        clear hacc hj
        go_wp2_with fail
        refine HN.out.mono ?_
        rintro e w2 ⟨rfl, h3, hf3⟩
        have hown2 := Lib.hid (own_fr hown.out hf3 (own_old hown.out hgl))
        have l3 := h3.le
        have HF3 := Lib.hid (hf2.out.tr hf3)
        have H3 := Lib.hid h3
        have hsz := HF3.out.size
        have HRd := Lib.hid (Reads.one w2 3 (.int .i64 n1))
        clear h3 hf3 HN
        go_wp2_with (at_builtin; go_loud (refine wpList_append_any _ rfl (.tmp 20) (.tmp 23) 26 rfl w.heap.size 3 i0 (.int .i64 0) 1 8 Tryd.underlying26 hi hz0 hz1 hz2 rfl (by omega) (.slice A1 acc.length c1) acc.length (iv acc) rfl (hown2.out.alloc _) (w2.heap.size + 1) (some ⟨w2.heap.size, 0, none⟩) 1 1 [.int .i64 n1] rfl HRd.out ?c2 ?c3 ?c4 ?c5 ?_))
        case c2 => intro u hu; simp at hu; subst hu; rfl
        case c3 => have := hal.out.1; unfold maxLen; omega
        case c4 => have := hal.out.1; omega
        case c5 => rw [size_alloc_]; omega
        intro v' w3 hown' hgrow hnb
        have hown'' := Lib.hid hown'
        have hgr := Lib.hid hgrow
        have hob := own_old hown2.out hgl
        have H4 := Lib.hid ((H3.out.alloc (.cells #[.int .i64 n1] 3)).grown hgrow (Ne.symm hob))
        have HF4 : Hid (Fr w w3 g none) := fr_grown (B := 0) hgrow HF3.out (fun k hk => (hown2.out.lt k hk).1)
        clear hown' hgrow hnb hob
        go_wp2_with fail
        go_round
        case rel => exact ⟨k + 1, j, acc ++ [n1], s3, _, rfl, by go_num, by have := hal.out.1; rw [List.length_append]; simp only [List.length_cons, List.length_nil]; omega, by have := hal.out.2; omega, HT2, by
            have h_ := hown''.out
            have e1 : (acc ++ [n1]).length = acc.length + 1 := List.length_append
            have e2 : iv (acc ++ [n1]) = iv acc ++ [.int .i64 n1] := by simp [iv]
            rw [e1, e2]; exact h_, H4, HF4⟩
        case measure => have := hal.out.2; simp only [intOf]; omega
      · have HE : Hid ((acc, s2) = T) := (allF_stop he).symm.trans ht.out
        have z1 : (s2.e == 0) = false := by rw [beq_eq_false_iff_ne]; exact he
        go_wp2_with fail
        go_ret
        have hE := HE.out
        subst hE
        exact ⟨A1, c1, rfl, ⟨Reads.of_own hown.out, hc1, hc2, by show acc.length ≤ _; omega⟩, fun ad e => ⟨own_from hown.out ad e, own_lt hown.out ad e⟩, h2.out, hf2.out⟩

theorem manyS_stop (s : St) (h : (manyS s).2.e ≠ 0) : (manyS s).1 = 0 := by
  unfold manyS at h ⊢
  dsimp only at h ⊢
  split
  · rename_i he
    rw [if_pos he] at h
    split
    · rfl
    · rename_i hn
      rw [if_neg hn] at h
      exact absurd he h
  · rfl
set_option maxRecDepth 100000 in
set_option maxHeartbeats 1600000 in
theorem rrtext_any {w0 : World} (w : World) {g : Nat} {s : St} (hw : After w0 w) (hg : w0.heap.size ≤ g) (h : RrIs w0 w g s) :
    Calls Tryd.prog 27 #[.pointer (some ⟨g, 0, none⟩)] w fun e w' => ∃ t : ByteArray, e = .returned (.string t) ∧ t.data.toList = (textS s).1 ∧ t.size ≤ 65536 ∧ RrIs w0 w' g (textS s).2 ∧ Fr w w' g none := by
  have HN := Lib.hid (rrcount_any w hw hg h)
  have HE : Hid (∀ q, manyS s = q → textS s = if (q.2.rest.length : Int) < q.1 then ([], failS q.2 4) else (q.2.rest.take q.1.toNat, ⟨q.2.rest.drop q.1.toNat, q.2.e⟩)) := by
    intro q hq
    unfold textS
    rw [hq]
  have HR := manyS_range s
  have HZ := manyS_stop s
  obtain ⟨q, hq⟩ : ∃ q, manyS s = q := ⟨_, rfl⟩
  have HM := Lib.hid (HE.out q hq)
  rw [hq] at HN HR HZ
  clear hq HE
  obtain ⟨n, s1⟩ := q
  simp only [] at HN HM HR HZ
  obtain ⟨m, rfl⟩ : ∃ m : Nat, n = m := ⟨n.toNat, by omega⟩
  have hm6 : m ≤ 65536 := by omega
  by_cases he : s1.e = 0
  · have z1 : (s1.e == 0) = true := by rw [beq_iff_eq]; exact he
    have z2 : (s1.e != 0) = false := by rw [bne, z1]; rfl
    by_cases hn : s1.rest.length < m
    · have hm : textS s = ([], ⟨s1.rest, 4⟩) := by rw [HM.out, if_pos (by omega)]; unfold failS; rw [if_pos he]
      rw [hm]
      have HH := Lib.hid hn
      clear hm HM hn HR HZ
      go_enter Tryd.func27, Tryd.ntmps27
      go_wp2_with fail
      refine HN.out.mono ?_
      rintro e w1 ⟨rfl, h1, hf⟩
      obtain ⟨A, c, hb, x⟩ := h1.row
      obtain ⟨k, hk⟩ : ∃ k, s1.rest.length = k := ⟨_, rfl⟩
      have c0 : w1.cell? ⟨g, 0, none⟩ = some (.slice A k c) := by rw [hb.cell, ← hk]; rfl
      have c1 := h1.cell1
      have f1 := h1.frozen 1
      have l1 := h1.le
      have hI : (k : Int) < (m : Int) := by have := HH.out; omega
      have H1 := Lib.hid h1
      have HF := Lib.hid hf
      clear h1 hf HN hb hk x
      go_wp2_with fail
      go_ret
      exact ⟨_, rfl, rfl, by decide, H1.out.err 4, HF.out.tr (fr_set _ _ _ _)⟩
    · have hm : textS s = (s1.rest.take m, ⟨s1.rest.drop m, s1.e⟩) := by rw [HM.out, if_neg (by omega)]; simp
      rw [hm]
      have HNb : Hid (m ≤ s1.rest.length) := by show _ ≤ _; omega
      clear hm HM HR hn HZ
      go_enter Tryd.func27, Tryd.ntmps27
      go_wp2_with fail
      refine HN.out.mono ?_
      rintro e w1 ⟨rfl, h1, hf⟩
      obtain ⟨A, c, hb, x⟩ := h1.row
      obtain ⟨k, hk⟩ : ∃ k, s1.rest.length = k := ⟨_, rfl⟩
      have aw1 : After w0 w1 := hf.aft hw hg
      have c0 : w1.cell? ⟨g, 0, none⟩ = some (.slice A k c) := by rw [hb.cell, ← hk]; rfl
      have c1 := h1.cell1
      have f0 := h1.frozen 0
      have l1 := h1.le
      have hxl := x.len
      have hxle := x.le
      have hxc := x.cap
      rw [hk] at hxl hxle
      have hmk : m ≤ k := by have := HNb.out; omega
      have hI : ¬ ((k : Int) < (m : Int)) := by omega
      have hI2 : (m : Int) ≤ (k : Int) := by omega
      have hI3 : (m : Int) ≤ (c : Int) := by omega
      have H1 := Lib.hid h1
      have HF := Lib.hid hf
      have HK := Lib.hid hk
      by_cases h0 : m = 0
      · subst h0
        have KC := fun (a : Option Addr) (cap : Nat) => conv_nil w1 a cap
        have HB : Hid (RrIs w0 (w1.setCell ⟨g, 0, none⟩ (.slice A k c)) g ⟨s1.rest.drop 0, s1.e⟩) := by
          refine ⟨A, c, ?_, x⟩
          have := hb.set_ 0 (.slice A k c)
          show Blk _ g _ #[.slice A (s1.rest.drop 0).length c, .int .i64 s1.e]
          rw [List.drop_zero, hk]
          exact this
        have HB0 : Hid (k = 0 → ∀ A', RrIs w0 (w1.setCell ⟨g, 0, none⟩ (.slice A' 0 0)) g ⟨s1.rest.drop 0, s1.e⟩) := fun h A' => RrIs.cutAll hb (by rw [hk]; exact h)
        clear h1 hf HN hb hk x
        rcases Nat.eq_zero_or_pos c with hc0 | hc0
        · subst hc0
          obtain rfl : k = 0 := by omega
          go_wp2_with fail
          go_ret
          exact ⟨_, rfl, rfl, by decide, HB0.out (by trivial) _, HF.out.tr (fr_set _ _ _ _)⟩
        · have hck : ¬ (c = 0) := by omega
          go_wp2_with fail
          go_ret
          exact ⟨_, rfl, rfl, by decide, HB.out, HF.out.tr (fr_set _ _ _ _)⟩
      · have hp : 0 < m := by omega
        obtain ⟨b, p, rfl, hbl, hcb⟩ := x.plain (by omega)
        have KC : ∀ (cap : Nat), (convert 22 9 (.slice (some ⟨b, p, none⟩) m cap)).run Tryd.prog w1 = .ok (.string ⟨(s1.rest.take m).toArray⟩) w1 := by
          intro cap
          have e := run_convert_bytes_back (P := Tryd.prog) w1 22 9 5 ⟨b, p, none⟩ cap (s1.rest.take m) Tryd.underlying22 Tryd.underlying5 Tryd.underlying9 (fun j hj => by
            have hj' : j < m := by have := hj; rw [List.length_take] at this; omega
            rw [Addr.add_lit]
            refine (aw1.below.cell (p := ⟨b, p + j, none⟩) hbl).trans ?_
            refine hcb j _ ?_
            rw [List.getElem_take]
            exact List.getElem?_eq_getElem (by omega))
          have el : (s1.rest.take m).length = m := by rw [List.length_take]; omega
          rw [el] at e
          exact e
        have HB : Hid (RrIs w0 (w1.setCell ⟨g, 0, none⟩ (.slice (some ⟨b, p + m, none⟩) (k - m) (c - m))) g ⟨s1.rest.drop m, s1.e⟩) := by
          have := RrIs.cut (w0 := w0) hb x m (by omega)
          rw [hk] at this
          exact this
        have HB0 : Hid (k = m → ∀ A', RrIs w0 (w1.setCell ⟨g, 0, none⟩ (.slice A' 0 0)) g ⟨s1.rest.drop m, s1.e⟩) := fun h A' => RrIs.cutAll hb (by rw [hk]; exact h)
        clear h1 hf HN hb hk x hcb
        rcases Nat.eq_or_lt_of_le (show m ≤ c by omega) with hck | hck
        · subst hck
          obtain rfl : k = m := by omega
          go_wp2_with fail
          go_ret
          exact ⟨_, rfl, rfl, by show (s1.rest.take _).length ≤ _; rw [List.length_take]; omega, HB0.out (by trivial) _, HF.out.tr (fr_set _ _ _ _)⟩
        · have hck2 : ¬ (c = m) := by omega
          go_wp2_with fail
          go_ret
          exact ⟨_, rfl, rfl, by show (s1.rest.take _).length ≤ _; rw [List.length_take]; omega, HB.out, HF.out.tr (fr_set _ _ _ _)⟩
  · have z1 : (s1.e == 0) = false := by rw [beq_eq_false_iff_ne]; exact he
    have z2 : (s1.e != 0) = true := by rw [bne, z1]; rfl
    have hm0 : m = 0 := by have := HZ he; omega
    subst hm0
    have hm : textS s = ([], s1) := by rw [HM.out, if_neg (by omega)]; simp
    rw [hm]
    clear hm HM HR HZ
    go_enter Tryd.func27, Tryd.ntmps27
    go_wp2_with fail
    refine HN.out.mono ?_
    rintro e w1 ⟨rfl, h1, hf⟩
    have c1 := h1.cell1
    have l1 := h1.le
    have H1 := Lib.hid h1
    have HF := Lib.hid hf
    clear h1 hf HN
    go_wp2_with fail
    go_ret
    exact ⟨_, rfl, rfl, by decide, H1.out, HF.out⟩
end Go.Proofs.YtgmojjdojcmnaaaDoor
