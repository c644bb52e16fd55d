/-
  Contract: all of a reader (a list of numbers).
-/
import Derived.Test.YtgmojjdojcmnaaaDoorIMany
set_option linter.unusedVariables false
set_option linter.unusedSimpArgs false
namespace Go.Proofs.YtgmojjdojcmnaaaDoor
open Go.RowKit Go.BigFrame

theorem own_fr {w w' : World} {base : Nat} {e : TypeId} {size n : Nat} {v : Value} {xs : List Value} (h : w.ownsRow base e size v n xs) {g : Nat} (hf : Fr w w' g none) (hg : v.ownBlock ≠ some g) : w'.ownsRow base e size v n xs :=
  h.kept (row := some g) ⟨hf.os, hf.tape, hf.output, hf.size, fun k hk hne => hf.block k hk (fun e => hne (by rw [e])) (by simp)⟩ (.inr hg)
theorem own_old {w : World} {base : Nat} {e : TypeId} {size n : Nat} {v : Value} {xs : List Value} (h : w.ownsRow base e size v n xs) {g : Nat} (hg : g < base) : v.ownBlock ≠ some g := fun e => by have := (h.lt g e).1; omega
theorem intInfo : (Tryd.prog.info? 3).map (fun i => (i.zero, i.size, i.bytes)) = some (some (.int .i64 0), 1, 8) := by kernel_rfl
theorem Reads.one (w : World) (t : TypeId) (u : Value) : Reads (w.alloc (.cells #[u] t)) (w.heap.size + 1) 1 (some ⟨w.heap.size, 0, none⟩) 1 [u] := by
  refine ⟨rfl, fun _ => ⟨_, rfl, Nat.lt_succ_self _, fun j x hx => ?_⟩⟩
  rw [Addr.add_lit, (Blk.new w t #[u]).cell, ← hx]; simp
theorem fr_grown {w w' : World} {g : Nat} {o : Obj} {row : Option Nat} {B : Nat} (h : (w.alloc o).grownBy w' row) {w0 : World} (hf : Fr w0 w g none) (hr : ∀ k, row = some k → w0.heap.size ≤ k) : Fr w0 w' g none :=
  ⟨h.os.trans hf.os, h.tape.trans hf.tape, h.output.trans hf.output, Nat.le_trans hf.size (Nat.le_trans (by rw [size_alloc_]; omega) h.size), fun k hk h1 h2 => by
    have hs := hf.size
    refine (h.block k (by rw [size_alloc_]; omega) (fun e => ?_)).trans ((Below.heap_alloc w o k (by omega)).trans (hf.block k hk h1 h2))
    have := hr k e.symm
    omega⟩
theorem RdIs.alloc {w : World} {g A c bs s} (h : RdIs w g A c bs s) (o : Obj) : RdIs (w.alloc o) g A c bs s := by
  obtain ⟨k, hb, hk, hr⟩ := h.blk
  exact ⟨k, hb.alloc o, hk, hr⟩
theorem RdIs.grown {w w' : World} {g A c bs s} (h : RdIs w g A c bs s) {row : Option Nat} (hb : w.grownBy w' row) (hg : some g ≠ row) : RdIs w' g A c bs s := by
  obtain ⟨k, hb', hk, hr⟩ := h.blk
  exact ⟨k, hb'.grown hb hg, hk, hr⟩
theorem own_from {w : World} {base : Nat} {e : TypeId} {size n c : Nat} {A : Option Addr} {xs : List Value} (h : w.ownsRow base e size (.slice A n c) n xs) : ∀ ad, A = some ad → base ≤ ad.block := by
  intro ad e
  rcases h.2 with ⟨h1, _⟩ | ⟨g, cap, cur, hv, hb, _⟩
  · injection h1 with h1; rw [h1] at e; cases e
  · injection hv with hv; rw [hv] at e; injection e with e; subst e; exact hb
theorem own_lt {w : World} {base : Nat} {e : TypeId} {size n c : Nat} {A : Option Addr} {xs : List Value} (h : w.ownsRow base e size (.slice A n c) n xs) : ∀ ad, A = some ad → ad.block < w.heap.size := by
  intro ad e
  rcases h.2 with ⟨h1, _⟩ | ⟨g, cap, cur, hv, hb, hh, _⟩
  · injection h1 with h1; rw [h1] at e; cases e
  · injection hv with hv; rw [hv] at e; injection e with e; subst e
    rcases Nat.lt_or_ge g w.heap.size with h' | h'
    · exact h'
    · rw [Array.getElem?_eq_none h'] at hh; cases hh
theorem allF_stop {n : Nat} {acc : List Int} {s : St} (h : s.e ≠ 0) : allF n acc s = (acc, s) := by
  cases n with
  | zero => rfl
  | succ n => rw [allF, if_neg h]

set_option maxRecDepth 100000 in
set_option maxHeartbeats 1600000 in
theorem all_any {w0 : World} (w : World) {g : Nat} {A c bs s} (x : RY w0 A c bs) (hw : After w0 w) (hg : w0.heap.size ≤ g) (h : RdIs w g A c bs s) :
    Calls Tryd.prog 20 #[.pointer (some ⟨g, 0, none⟩)] w fun e w' => ∃ A' c', e = .returned (.slice A' (allS s).1.length c') ∧ RI w' A' c' (allS s).1 ∧ (∀ ad, A' = some ad → w.heap.size ≤ ad.block ∧ ad.block < w'.heap.size) ∧ RdIs w' g A c bs (allS s).2 ∧ Fr w w' g none := by
  obtain ⟨i0, hi, hz0, hz1, hz2⟩ := info_parts intInfo
  have hgl := h.le.le
  have HN := Lib.hid (many_any w x hw hg h)
  have HR := manyS_range s
  have HT : Hid (allS s = allF (manyS s).1.toNat [] (manyS s).2) := rfl
  obtain ⟨T, hT⟩ : ∃ T, allS s = T := ⟨_, rfl⟩
  rw [hT] at HT ⊢
  clear hT
  generalize manyS s = q at *
  obtain ⟨n, s1⟩ := q
  simp only [] at HN HT HR
  obtain ⟨m, rfl⟩ : ∃ m : Nat, n = m := ⟨n.toNat, by omega⟩
  replace HT : Hid (allF m [] s1 = T) := by have := HT.out; simp only [Int.toNat_natCast] at this; exact this.symm
  have hm6 : m ≤ 65536 := by omega
  clear HR h
  go_enter Tryd.func20, Tryd.ntmps20
  go_wp2_with fail
  refine HN.out.mono ?_
  rintro e w1 ⟨rfl, h1, hf⟩
  have H1 := Lib.hid h1
  have HF := Lib.hid hf
  clear h1 hf HN
  go_wp2_with fail
  go_loopw [3, 4] (fun v i wr => ∃ (j : Nat) (acc : List Int) (s' : St) (v' : Value), v' = v ∧ i = .int .i64 (j : Nat) ∧ acc.length + j ≤ 65536 ∧ Hid (allF j acc s' = T) ∧ Hid (wr.ownsRow w.heap.size 3 1 v' acc.length (iv acc)) ∧ Hid (RdIs wr g A c bs s') ∧ Hid (Fr w wr g none)) (fun _ i _ => (intOf i).toNat)
  case atStart => exact ⟨m, [], s1, _, rfl, rfl, by simpa using hm6, HT, World.ownsRow_nil _ _ _ _, H1, HF⟩
  case round =>
    obtain ⟨j, acc, s2, v', rfl, rfl, hj, ht, hown, h2, hf2⟩ := hrel
    have d2 := h2.out.cell2
    have l2 := h2.out.le
    obtain ⟨A1, c1, rfl, hc1, hc2⟩ := own_slice hown.out
    rcases Nat.eq_zero_or_pos j with rfl | hpos
    · have HE : Hid ((acc, s2) = T) := ht.out
      go_wp2_with fail
      go_ret
      have hE := HE.out
      subst hE
      exact ⟨A1, c1, rfl, ⟨Reads.of_own hown.out, hc1, hc2, by show acc.length ≤ _; omega⟩, fun ad e => ⟨own_from hown.out ad e, own_lt hown.out ad e⟩, h2.out, hf2.out⟩
    · have hjI : (0 : Int) < (j : Int) := by omega
      by_cases he : s2.e = 0
      · obtain ⟨j, rfl⟩ : ∃ i, j = i + 1 := ⟨j - 1, by omega⟩
        have HT2 : Hid (allF j (acc ++ [(numS s2).1]) (numS s2).2 = T) := by have := ht.out; rw [allF, if_pos he] at this; exact this
        have aw : After w0 wr := hf2.out.aft hw hg
        have HN := Lib.hid (num_any wr x aw hg h2.out)
        generalize numS s2 = q at *
        obtain ⟨n1, s3⟩ := q
        simp only [] at HN HT2
        have hcast : ((j + 1 : Nat) : Int) - 1 = (j : Int) := by omega
        go_wp2_with fail
        refine HN.out.mono ?_
        rintro e w2 ⟨rfl, h3, hf3⟩
        have hown2 := Lib.hid (own_fr hown.out hf3 (own_old hown.out hgl))
        have l3 := h3.le
        have HF3 := Lib.hid (hf2.out.tr hf3)
        have H3 := Lib.hid h3
        have hsz := HF3.out.size
        have HRd := Lib.hid (Reads.one w2 3 (.int .i64 n1))
        clear h3 hf3 HN
        go_wp2_with (at_builtin; go_loud (refine wpList_append_any _ rfl (.tmp 18) (.tmp 21) 26 rfl w.heap.size 3 i0 (.int .i64 0) 1 8 Tryd.underlying26 hi hz0 hz1 hz2 rfl (by omega) (.slice A1 acc.length c1) acc.length (iv acc) rfl (hown2.out.alloc _) (w2.heap.size + 1) (some ⟨w2.heap.size, 0, none⟩) 1 1 [.int .i64 n1] rfl HRd.out ?c2 ?c3 ?c4 ?c5 ?_))
        case c2 => intro u hu; simp at hu; subst hu; rfl
        case c3 => unfold maxLen; omega
        case c4 => omega
        case c5 => rw [size_alloc_]; omega
        intro v' w3 hown' hgrow hnb
        have hown'' := Lib.hid hown'
        have hgr := Lib.hid hgrow
        have hob := own_old hown2.out hgl
        have H4 := Lib.hid ((H3.out.alloc (.cells #[.int .i64 n1] 3)).grown hgrow (Ne.symm hob))
        have HF4 : Hid (Fr w w3 g none) := fr_grown (B := 0) hgrow HF3.out (fun k hk => (hown2.out.lt k hk).1)
        clear hown' hgrow hnb hob
        go_wp2_with fail
        go_round
        case rel => exact ⟨j, acc ++ [n1], s3, _, rfl, by go_num, by rw [List.length_append]; simp only [List.length_cons, List.length_nil]; omega, HT2, by
            have h_ := hown''.out
            have e1 : (acc ++ [n1]).length = acc.length + 1 := List.length_append
            have e2 : iv (acc ++ [n1]) = iv acc ++ [.int .i64 n1] := by simp [iv]
            rw [e1, e2]; exact h_, H4, HF4⟩
        case measure =>

          show ((j : Nat) : Int).toNat < ((j + 1 : Nat) : Int).toNat
          rw [Int.toNat_natCast, Int.toNat_natCast]; exact Nat.lt_succ_self j
      · have HE : Hid ((acc, s2) = T) := (allF_stop he).symm.trans ht.out
        go_wp2_with fail
        go_ret
        have hE := HE.out
        subst hE
        exact ⟨A1, c1, rfl, ⟨Reads.of_own hown.out, hc1, hc2, by show acc.length ≤ _; omega⟩, fun ad e => ⟨own_from hown.out ad e, own_lt hown.out ad e⟩, h2.out, hf2.out⟩
end Go.Proofs.YtgmojjdojcmnaaaDoor
