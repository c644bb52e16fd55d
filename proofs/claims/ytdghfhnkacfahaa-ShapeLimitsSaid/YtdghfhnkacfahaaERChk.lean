/-
  Contracts: the reference's List, Count, Stateless, Check.
-/
import Derived.Test.YtdghfhnkacfahaaERList
import Derived.Test.YtdghfhnkacfahaaEPl
set_option linter.unusedVariables false
set_option linter.unusedSimpArgs false
namespace Go.Proofs.Ytdghfhnkacfahaa
open Go.RowKit Go.BigFrame

theorem rList_any {k o t v : Int} {s : ByteArray} {A : Option Addr} {c : Nat} {xs : List Tx} {w0 : World} (hs : (Tx.mk k o t v s A c xs).size ≤ 2000000) (x : RX w0 (.mk k o t v s A c xs)) (w : World) (aft : After w0 w) :
    Calls Try.prog 45 #[.agg #[.int .i64 k, .int .i64 o, .int .i64 t, .int .i64 v, .string s, .slice A xs.length c]] w fun e w' => ∃ A' c', e = .returned (.slice A' (Tx.mk k o t v s A c xs).list.length c') ∧ RX w' (rowX A' c' (Tx.mk k o t v s A c xs).list) ∧ After w w' := by
  have HC : Hid (∀ U, After w U → Calls Try.prog 78 #[.agg #[.int .i64 k, .int .i64 o, .int .i64 t, .int .i64 v, .string s, .slice A xs.length c], .slice none 0 0] U fun e w' => ∃ A' c', e = .returned (.slice A' (Tx.mk k o t v s A c xs).list.length c') ∧ RX w' (rowX A' c' (Tx.mk k o t v s A c xs).list) ∧ After w w') := Lib.hid fun U hU => by
    have own0 := World.ownsRow_nil U w.heap.size 25 6
    have aU := after_after aft hU
    refine (rlist_n _ (by omega) _ _ _ _ _ _ _ _ w0 w.heap.size 0 _ [] (Nat.le_refl _) x aft.below.size U aU hU.below.size own0 (by omega)).mono ?_
    rintro e w' ⟨r', rfl, own, rt⟩
    rw [List.nil_append, Nat.zero_add, ← Tx.list_length] at own
    have a1 : After w w' := rt.aft hU own0 (Nat.le_refl _)
    have a0 : After w0 w' := after_after aft a1
    obtain ⟨A', c', rfl, h⟩ := rowX_of_own own (by rw [Tx.list_length]; omega) (fun y hy => (x.list y hy).here w')
    exact ⟨A', c', rfl, h, a1⟩
  obtain ⟨l, hl⟩ : ∃ l, (Tx.mk k o t v s A c xs).list = l := ⟨_, rfl⟩
  rw [hl] at HC ⊢
  clear hl
  go_enter Try.func45, Try.ntmps45
  go_wp2_with fail
  refine (HC.out _ inferInstance).mono ?_
  rintro e w1 ⟨A1, c1, rfl, h1, a1⟩
  replace h1 := Lib.hid h1
  go_wp2_with fail
  go_ret
  exact ⟨A1, c1, rfl, h1.out, a1⟩

set_option maxHeartbeats 4000000 in
theorem rchk_any {k o t v : Int} {s : ByteArray} {A : Option Addr} {c : Nat} {xs : List Tx} {w0 : World} (hs : (Tx.mk k o t v s A c xs).size ≤ 2000000) (x : RX w0 (.mk k o t v s A c xs)) (w : World) (aft : After w0 w) :
    Calls Try.prog 18 #[.agg #[.int .i64 k, .int .i64 o, .int .i64 t, .int .i64 v, .string s, .slice A xs.length c]] w fun e w' => e = .returned (.int .i64 (chkI (Tx.mk k o t v s A c xs))) ∧ After w w' := by
  have HZ : Hid (∀ U, After w0 U → Calls Try.prog 43 #[.agg #[.int .i64 k, .int .i64 o, .int .i64 t, .int .i64 v, .string s, .slice A xs.length c]] U fun e w' => e = .returned (.int .i64 ((Tx.mk k o t v s A c xs).size : Nat)) ∧ After U w') := Lib.hid fun U hU => rsize_any hs x U hU
  have HD : Hid (∀ U, After w0 U → Calls Try.prog 44 #[.agg #[.int .i64 k, .int .i64 o, .int .i64 t, .int .i64 v, .string s, .slice A xs.length c]] U fun e w' => e = .returned (.int .i64 ((Tx.mk k o t v s A c xs).depth : Nat)) ∧ After U w') := Lib.hid fun U hU => rdepth_any hs x U hU
  have HL : Hid (∀ U, After w0 U → Calls Try.prog 45 #[.agg #[.int .i64 k, .int .i64 o, .int .i64 t, .int .i64 v, .string s, .slice A xs.length c]] U fun e w' => ∃ A' c', e = .returned (.slice A' (Tx.mk k o t v s A c xs).list.length c') ∧ RX w' (rowX A' c' (Tx.mk k o t v s A c xs).list) ∧ After U w') := Lib.hid fun U hU => rList_any hs x U hU
  have hll : (Tx.mk k o t v s A c xs).list.length ≤ 2000000 := by rw [Tx.list_length]; exact hs
  unfold chkI
  obtain ⟨l, hl⟩ : ∃ l, (Tx.mk k o t v s A c xs).list = l := ⟨_, rfl⟩
  rw [hl] at HL hll ⊢
  clear hl
  obtain ⟨n, hn⟩ : ∃ n, l.length = n := ⟨_, rfl⟩
  rw [hn] at HL hll
  obtain ⟨nz, hnz⟩ : ∃ nz, (Tx.mk k o t v s A c xs).size = nz := ⟨_, rfl⟩
  obtain ⟨nd, hnd⟩ : ∃ nd, (Tx.mk k o t v s A c xs).depth = nd := ⟨_, rfl⟩
  rw [hnz] at HZ ⊢
  rw [hnd] at HD ⊢
  clear hnz hnd hs
  by_cases h4 : 400 < nz
  · have h4I : (400 : Int) < (nz : Int) := by omega
    rw [if_pos (.inl h4)]
    go_enter Try.func18, Try.ntmps18
    go_wp2_with fail
    refine (HZ.out _ (after_after aft inferInstance)).mono ?_
    rintro _ w1 ⟨rfl, ha⟩
    have aw1 : After w w1 := after_after inferInstance ha
    clear ha HZ
    go_wp2_with fail
    go_ret
    exact ⟨rfl, aw1⟩
  have h4I : ¬ (400 : Int) < (nz : Int) := by omega
  have E0 : Hid (∀ U : World, After (w.alloc (.cells #[.int .i64 k, .int .i64 o, .int .i64 t, .int .i64 v, .string s, .slice A xs.length c] 25)) U → U.cell? ⟨w.heap.size, 0, none⟩ = some (.int .i64 k) ∧ U.cell? ⟨w.heap.size, 1, none⟩ = some (.int .i64 o) ∧ U.cell? ⟨w.heap.size, 2, none⟩ = some (.int .i64 t) ∧ U.cell? ⟨w.heap.size, 3, none⟩ = some (.int .i64 v) ∧ U.cell? ⟨w.heap.size, 4, none⟩ = some (.string s) ∧ U.cell? ⟨w.heap.size, 5, none⟩ = some (.slice A xs.length c)) := by
    refine Lib.hid fun U k_ => ?_
    have f_ := (Blk.new w 25 #[.int .i64 k, .int .i64 o, .int .i64 t, .int .i64 v, .string s, .slice A xs.length c]).after (w' := U)
    exact ⟨by rw [f_.cell]; rfl, by rw [f_.cell]; rfl, by rw [f_.cell]; rfl, by rw [f_.cell]; rfl, by rw [f_.cell]; rfl, by rw [f_.cell]; rfl⟩
  by_cases h3 : 32 < nd
  · have h3I : (32 : Int) < (nd : Int) := by omega
    rw [if_pos (.inr h3)]
    go_enter Try.func18, Try.ntmps18
    go_wp2_with fail
    refine (HZ.out _ (after_after aft inferInstance)).mono ?_
    rintro _ w1 ⟨rfl, ha⟩
    obtain ⟨c0_, c1_, c2_, c3_, c4_, c5_⟩ := E0.out w1 ha
    have aw1 : After w w1 := after_after inferInstance ha
    clear ha HZ
    go_wp2_with fail
    refine (HD.out _ (after_after aft (after_after aw1 inferInstance))).mono ?_
    rintro _ w2 ⟨rfl, ha⟩
    have aw2 : After w w2 := after_after (after_after aw1 inferInstance) ha
    clear ha HD
    go_wp2_with fail
    go_ret
    exact ⟨rfl, aw2⟩
  have h3I : ¬ (32 : Int) < (nd : Int) := by omega
  rw [if_neg (by omega)]
  go_enter Try.func18, Try.ntmps18
  go_wp2_with fail
  refine (HZ.out _ (after_after aft inferInstance)).mono ?_
  rintro _ w1 ⟨rfl, ha⟩
  obtain ⟨c0_, c1_, c2_, c3_, c4_, c5_⟩ := E0.out w1 ha
  have ab1 : After (w.alloc (.cells #[.int .i64 k, .int .i64 o, .int .i64 t, .int .i64 v, .string s, .slice A xs.length c] 25)) w1 := ha
  have aw1 : After w w1 := after_after inferInstance ha
  clear ha HZ
  go_wp2_with fail
  refine (HD.out _ (after_after aft (after_after aw1 inferInstance))).mono ?_
  rintro _ w2 ⟨rfl, ha⟩
  have aw2 : After w w2 := after_after (after_after aw1 inferInstance) ha
  obtain ⟨d0_, d1_, d2_, d3_, d4_, d5_⟩ := E0.out w2 (after_after (after_after ab1 inferInstance) ha)
  clear ha HD c0_ c1_ c2_ c3_ c4_ c5_
  go_wp2_with fail
  refine (HL.out _ (after_after aft (after_after aw2 inferInstance))).mono ?_
  rintro _ w3 ⟨A1, c1, rfl, h1, ha⟩
  have aw3 : After w w3 := after_after (after_after aw2 inferInstance) ha
  clear ha HL d0_ d1_ d2_ d3_ d4_ d5_ E0
  replace h1 := Lib.hid h1
  go_wp2_with fail
  go_loopw [4] (fun i wr => ∃ j : Nat, j ≤ n ∧ i = .int .i64 (j : Nat) ∧ Hid (firstI (l.take j) = 0) ∧ After w3 wr) (fun i _ => n - (intOf i).toNat)
  case atStart => exact ⟨0, by omega, rfl, Lib.hid rfl, inferInstance⟩
  case round =>
    obtain ⟨j, hj, rfl, HF0, ar⟩ := hrel
    have awr : After w wr := after_after aw3 ar
    by_cases hlt : j < n
    · have hltI : (j : Int) < (n : Int) := by omega
      have hlt2 : j < l.length := by omega
      obtain ⟨b, p, k1, o1, t1, v1, s1, A2, c2, xs1, rfl, hb1, HX1, HR1, e0, e1, e2, e3, e4, e5⟩ := (h1.out.here wr).part (i := j) hlt2
      have hbd := HR1.out.bounds
      simp only [Tx.args, Tx.cap, Tx.name] at hbd
      obtain ⟨hb1_, hb2_, hb3_, hb4_⟩ := hbd
      have HS1 : Hid (firstI (l.take (j + 1)) = errOf (.mk k1 o1 t1 v1 s1 A2 c2 xs1)) := Lib.hid (by rw [Tx.take_succ HX1.out, firstI_snoc, if_pos HF0.out])
      have HS2 : Hid (errOf (.mk k1 o1 t1 v1 s1 A2 c2 xs1) ≠ 0 → firstI l = errOf (.mk k1 o1 t1 v1 s1 A2 c2 xs1)) := Lib.hid fun h => by
        rw [← HS1.out] at h ⊢
        exact firstI_pre (List.take_prefix _ _) h
      have HEV : Hid (errOf (.mk k1 o1 t1 v1 s1 A2 c2 xs1) = errR k1 o1 t1 v1 s1 xs1.length) := Lib.hid (one_is_ref _ _ _ _ _ _)
      unfold errR at HEV
      have HFm : Hid (∀ U : World, Calls Try.prog 46 #[.agg #[.int .i64 k1, .int .i64 o1, .int .i64 t1, .int .i64 v1, .string s1, .slice A2 xs1.length c2]] U fun e w' => e = .returned (.bool (formR k1 o1 t1 v1 s1 xs1.length)) ∧ After U w') := Lib.hid fun U => form_any hb4_ hb1_ U
      have HNm : Hid (∀ U : World, Calls Try.prog 47 #[.int .i64 k1] U fun e w' => e = .returned (.bool (fN k1)) ∧ U = w') := Lib.hid fun U => named_any k1 U
      have HId : Hid (∀ U : World, Calls Try.prog 48 #[.string s1] U fun e w' => e = .returned (.bool (identB s1)) ∧ After U w') := Lib.hid fun U => rident_any s1 hb1_ U
      obtain ⟨er, her⟩ : ∃ er, errOf (.mk k1 o1 t1 v1 s1 A2 c2 xs1) = er := ⟨_, rfl⟩
      rw [her] at HS1 HS2 HEV
      clear her
      obtain ⟨fb, hfb⟩ : ∃ fb, formR k1 o1 t1 v1 s1 xs1.length = fb := ⟨_, rfl⟩
      rw [hfb] at HFm HEV
      clear hfb
      obtain ⟨nb, hnb⟩ : ∃ nb, fN k1 = nb := ⟨_, rfl⟩
      rw [hnb] at HNm HEV
      clear hnb
      obtain ⟨ib, hib⟩ : ∃ ib, identB s1 = ib := ⟨_, rfl⟩
      rw [hib] at HId HEV
      clear hib
      by_cases h64 : 64 < xs1.length
      · have h64I : (64 : Int) < (xs1.length : Int) := by omega
        have HE : Hid (firstI l = 3) := Lib.hid (by have h_ := HEV.out; rw [if_pos h64] at h_; rw [HS2.out (by omega), h_])
        go_wp2_with fail
        go_ret
        exact ⟨by rw [HE.out]; rfl, awr⟩
      have h64I : ¬ (64 : Int) < (xs1.length : Int) := by omega
      have HEW := HEV.out
      rw [if_neg h64] at HEW
      replace HEW := Lib.hid HEW
      clear HEV
      cases fb with
      | false =>
        have HE : Hid (firstI l = 5) := Lib.hid (by have h_ := HEW.out; simp at h_; rw [HS2.out (by omega), h_])
        go_wp2_with fail
        refine (HFm.out _).mono ?_
        rintro _ w4 ⟨rfl, a4⟩
        have aw4 : After w w4 := after_after (after_after awr inferInstance) a4
        go_wp2_with fail
        go_ret
        exact ⟨by rw [HE.out]; rfl, aw4⟩
      | true =>
        go_wp2_with fail
        refine (HFm.out _).mono ?_
        rintro _ w4 ⟨rfl, a4⟩
        have ar4 : After w3 w4 := after_after (after_after ar inferInstance) a4
        have aw4 : After w w4 := after_after aw3 ar4
        have f0 := cell_keep a4 e0
        have f1 := cell_keep a4 e1
        have f2 := cell_keep a4 e2
        have f3 := cell_keep a4 e3
        have f4 := cell_keep a4 e4
        have f5 := cell_keep a4 e5
        have hb4 : Le (b + 1) w4 := le_keep a4
        clear a4 e0 e1 e2 e3 e4 e5 hb1
        go_wp2_with fail
        refine (HNm.out _).mono ?_
        rintro _ w5 ⟨rfl, rfl⟩
        have HEY := HEW.out
        rw [if_neg (by simp)] at HEY
        replace HEY := Lib.hid HEY
        clear HEW
        cases nb with
        | false =>
          have HN0 : Hid (firstI (l.take (j + 1)) = 0) := Lib.hid (by have h_ := HEY.out; simp at h_; rw [HS1.out, h_])
          go_wp2_with fail
          go_roundw
          case rel => exact ⟨j + 1, by omega, by go_num, HN0, ar4⟩
          case measure => simp [intOf]; omega
        | true =>
          go_wp2_with fail
          refine (HId.out _).mono ?_
          rintro _ w6 ⟨rfl, a6⟩
          have ar6 : After w3 w6 := after_after (after_after ar4 inferInstance) a6
          have aw6 : After w w6 := after_after aw3 ar6
          cases ib with
          | false =>
            have HE : Hid (firstI l = 6) := Lib.hid (by have h_ := HEY.out; simp at h_; rw [HS2.out (by omega), h_])
            go_wp2_with fail
            go_ret
            exact ⟨by rw [HE.out]; rfl, aw6⟩
          | true =>
            have HN0 : Hid (firstI (l.take (j + 1)) = 0) := Lib.hid (by have h_ := HEY.out; simp at h_; rw [HS1.out, h_])
            go_wp2_with fail
            go_roundw
            case rel => exact ⟨j + 1, by omega, by go_num, HN0, ar6⟩
            case measure => simp [intOf]; omega
    · obtain rfl : j = n := by omega
      have HE : Hid (firstI l = 0) := Lib.hid (by have h_ := HF0.out; rwa [← hn, List.take_length] at h_)
      go_wp2_with fail
      go_ret
      exact ⟨by rw [HE.out]; rfl, awr⟩
end Go.Proofs.Ytdghfhnkacfahaa
