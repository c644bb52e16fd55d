/-
  Contracts: Same of the program (with slices.EqualFunc) and of the reference; expressions without their places.
-/
import Derived.Test.YtdghfhnkacfahaaERList
import Derived.Test.YtdghfhnkacfahaaEId
set_option linter.unusedVariables false
set_option linter.unusedSimpArgs false
namespace Go.Proofs.Ytdghfhnkacfahaa
open Go.RowKit Go.BigFrame

theorem toList_inj {a b : ByteArray} (h : a.toList = b.toList) : a = b := by
  rw [toList_data, toList_data] at h
  cases a; cases b
  simp at h
  rw [h]
/-- an expression without its place -/
inductive Ex where
  | mk (k o t v : Int) (s : ByteArray) (xs : List Ex)
mutual
def Tx.er : Tx → Ex
  | .mk k o t v s _ _ xs => .mk k o t v s (Tx.ers xs)
def Tx.ers : List Tx → List Ex
  | [] => []
  | a :: xs => Tx.er a :: Tx.ers xs
end
theorem ers_length : ∀ l : List Tx, (Tx.ers l).length = l.length
  | [] => rfl
  | a :: l => by rw [Tx.ers, List.length_cons, List.length_cons, ers_length l]
theorem ers_get : ∀ (l : List Tx) (i : Nat), (Tx.ers l)[i]? = (l[i]?).map Tx.er
  | [], i => by simp [Tx.ers]
  | a :: l, 0 => by simp [Tx.ers]
  | a :: l, i + 1 => by simp [Tx.ers, ers_get l i]
mutual
def Tx.same : Tx → Tx → Bool
  | .mk k o t v s _ _ xs, .mk k' o' t' v' s' _ _ xs' => (k == k') && ((o == o') && ((t == t') && ((v == v') && ((s.toList == s'.toList) && (decide (xs.length = xs'.length) && Tx.sames xs xs')))))
def Tx.sames : List Tx → List Tx → Bool
  | [], _ => true
  | a :: xs, [] => true
  | a :: xs, b :: ys => Tx.same a b && Tx.sames xs ys
end
mutual
theorem same_iff : ∀ a b : Tx, a.same b = true ↔ a.er = b.er
  | .mk k o t v s A c xs, .mk k' o' t' v' s' A' c' xs' => by
    rw [Tx.same, Tx.er, Tx.er]
    simp only [Bool.and_eq_true, beq_iff_eq, decide_eq_true_eq, Ex.mk.injEq]
    constructor
    · rintro ⟨h1, h2, h3, h4, h5, h6, h7⟩
      exact ⟨h1, h2, h3, h4, toList_inj h5, (sames_iff xs xs' h6).1 h7⟩
    · rintro ⟨h1, h2, h3, h4, h5, h6⟩
      have hl : xs.length = xs'.length := by rw [← ers_length xs, h6, ers_length]
      exact ⟨h1, h2, h3, h4, by rw [h5], hl, (sames_iff xs xs' hl).2 h6⟩
theorem sames_iff : ∀ a b : List Tx, a.length = b.length → (Tx.sames a b = true ↔ Tx.ers a = Tx.ers b)
  | [], [], _ => by simp [Tx.sames]
  | [], b :: bs_, h => by simp at h
  | a :: as_, [], h => by simp at h
  | a :: as_, b :: bs_, h => by
    rw [Tx.sames, Tx.ers, Tx.ers, Bool.and_eq_true, same_iff a b, sames_iff as_ bs_ (by simpa using h)]
    simp
end
theorem same_refl (a : Tx) : a.same a = true := (same_iff a a).2 rfl
theorem same_comm (a b : Tx) : a.same b = b.same a := Bool.eq_iff_iff.2 (by rw [same_iff, same_iff]; exact eq_comm)
theorem sames_take : ∀ {a b : List Tx} {j : Nat} {x y : Tx}, a[j]? = some x → b[j]? = some y → Tx.sames (a.take (j + 1)) (b.take (j + 1)) = (Tx.sames (a.take j) (b.take j) && x.same y)
  | [], b, j, x, y, h, _ => by simp at h
  | a :: as_, [], j, x, y, _, h => by simp at h
  | a :: as_, b :: bs_, 0, x, y, h, h' => by simp at h h'; subst h; subst h'; simp [Tx.sames]
  | a :: as_, b :: bs_, j + 1, x, y, h, h' => by
    have := sames_take (a := as_) (b := bs_) (j := j) (x := x) (y := y) (by simpa using h) (by simpa using h')
    simp only [List.take_succ_cons, Tx.sames]
    rw [this, Bool.and_assoc]
theorem sames_false : ∀ {a b : List Tx} {j : Nat} {x y : Tx}, a[j]? = some x → b[j]? = some y → x.same y = false → Tx.sames a b = false
  | [], b, j, x, y, h, _, _ => by simp at h
  | a :: as_, [], j, x, y, _, h, _ => by simp at h
  | a :: as_, b :: bs_, 0, x, y, h, h', e => by simp at h h'; subst h; subst h'; simp [Tx.sames, e]
  | a :: as_, b :: bs_, j + 1, x, y, h, h', e => by
    rw [Tx.sames, sames_false (a := as_) (b := bs_) (j := j) (x := x) (y := y) (by simpa using h) (by simpa using h') e, Bool.and_false]
def samesR (a b : List Tx) : Bool := decide (a.length = b.length) && Tx.sames a b

set_option maxRecDepth 100000 in
set_option maxHeartbeats 1600000 in
theorem eqf_any {A B : Option Addr} {c d : Nat} {xs ys : List Tx} {w0 : World} (x : RX w0 (rowX A c xs)) (y : RX w0 (rowX B d ys)) (w : World) (aft : After w0 w)
    (hS : ∀ (i : Nat) (k1 o1 t1 v1 : Int) (s1 : ByteArray) (A1 : Option Addr) (c1 : Nat) (xs1 : List Tx) (k2 o2 t2 v2 : Int) (s2 : ByteArray) (A2 : Option Addr) (c2 : Nat) (xs2 : List Tx), xs[i]? = some (.mk k1 o1 t1 v1 s1 A1 c1 xs1) → ys[i]? = some (.mk k2 o2 t2 v2 s2 A2 c2 xs2) → ∀ U : World, After w0 U →
      Calls Try.prog 64 #[.agg #[.int .i64 k1, .int .i64 o1, .int .i64 t1, .int .i64 v1, .string s1, .slice A1 xs1.length c1], .agg #[.int .i64 k2, .int .i64 o2, .int .i64 t2, .int .i64 v2, .string s2, .slice A2 xs2.length c2]] U fun e w' => e = .returned (.bool ((Tx.mk k1 o1 t1 v1 s1 A1 c1 xs1).same (.mk k2 o2 t2 v2 s2 A2 c2 xs2))) ∧ After U w') :
    Calls Try.prog 63 #[.slice A xs.length c, .slice B ys.length d, .func (.func 64) #[] #[]] w fun e w' => e = .returned (.bool (samesR xs ys)) ∧ After w w' := by
  replace x := Lib.hid x
  replace y := Lib.hid y
  replace hS := Lib.hid hS
  have hbx := x.out.bounds
  simp only [rowX, Tx.args, Tx.cap, Tx.name] at hbx
  obtain ⟨_, hb2_, hb3_, hb4_⟩ := hbx
  have hby := y.out.bounds
  simp only [rowX, Tx.args, Tx.cap, Tx.name] at hby
  obtain ⟨_, hd2_, hd3_, hd4_⟩ := hby
  obtain ⟨n, hn⟩ : ∃ n, xs.length = n := ⟨_, rfl⟩
  obtain ⟨m, hm⟩ : ∃ m, ys.length = m := ⟨_, rfl⟩
  have HV : Hid (samesR xs ys = (decide (n = m) && Tx.sames xs ys)) := Lib.hid (by unfold samesR; rw [hn, hm])
  rw [hn] at hb2_ hb4_ ⊢
  rw [hm] at hd2_ hd4_ ⊢
  by_cases hnm : n = m
  · subst hnm
    go_enter Try.func63, Try.ntmps63
    go_wp2_with fail
    go_loopw [17] (fun i wr => ∃ j : Nat, j ≤ n ∧ i = .int .i64 (j : Nat) ∧ Hid (Tx.sames (xs.take j) (ys.take j) = true) ∧ After w wr) (fun i _ => n - (intOf i).toNat)
    case atStart => exact ⟨0, by omega, rfl, Lib.hid (by simp [Tx.sames]), inferInstance⟩
    case round =>
      obtain ⟨j, hj, rfl, HJ, ar⟩ := hrel
      have a0r : After w0 wr := after_after aft ar
      by_cases hlt_ : j < n
      · have hltI : (j : Int) < (n : Int) := by omega
        have hlt : j < xs.length := by omega
        have hlt2 : j < ys.length := by omega
        obtain ⟨b, p, k1, o1, t1, v1, s1, A1, c1, xs1, rfl, hb1, HX1, HR1, e0, e1, e2, e3, e4, e5⟩ := (x.out.here wr).part (i := j) hlt
        obtain ⟨b2, p2, k2, o2, t2, v2, s2, A2, c2, xs2, rfl, hb2, HX2, HR2, g0, g1, g2, g3, g4, g5⟩ := (y.out.here wr).part (i := j) hlt2
        have HC : Hid (∀ U : World, After wr U → Calls Try.prog 64 #[.agg #[.int .i64 k1, .int .i64 o1, .int .i64 t1, .int .i64 v1, .string s1, .slice A1 xs1.length c1], .agg #[.int .i64 k2, .int .i64 o2, .int .i64 t2, .int .i64 v2, .string s2, .slice A2 xs2.length c2]] U fun e w' => e = .returned (.bool ((Tx.mk k1 o1 t1 v1 s1 A1 c1 xs1).same (.mk k2 o2 t2 v2 s2 A2 c2 xs2))) ∧ After U w') := Lib.hid fun U hU => hS.out j _ _ _ _ _ _ _ _ _ _ _ _ _ _ _ _ HX1.out HX2.out U (after_after a0r hU)
        have HT : Hid (Tx.sames (xs.take (j + 1)) (ys.take (j + 1)) = (Tx.mk k1 o1 t1 v1 s1 A1 c1 xs1).same (.mk k2 o2 t2 v2 s2 A2 c2 xs2)) := Lib.hid (by rw [sames_take HX1.out HX2.out, HJ.out, Bool.true_and])
        have HF : Hid ((Tx.mk k1 o1 t1 v1 s1 A1 c1 xs1).same (.mk k2 o2 t2 v2 s2 A2 c2 xs2) = false → Tx.sames xs ys = false) := Lib.hid fun h => sames_false HX1.out HX2.out h
        obtain ⟨bb, hbb⟩ : ∃ bb, (Tx.mk k1 o1 t1 v1 s1 A1 c1 xs1).same (.mk k2 o2 t2 v2 s2 A2 c2 xs2) = bb := ⟨_, rfl⟩
        rw [hbb] at HC HT HF
        clear hbb HX1 HX2 HR1 HR2
        go_wp2_with fail
        refine (HC.out _ inferInstance).mono ?_
        rintro e w2 ⟨rfl, a2⟩
        have a2w : After w w2 := after_after ar (after_after inferInstance a2)
        clear a2
        cases bb with
        | true =>
          go_wp2_with fail
          go_roundw
          case rel => exact ⟨j + 1, by omega, by go_num, HT, a2w⟩
          case measure => simp [intOf]; omega
        | false =>
          have HV2 : Hid (samesR xs ys = false) := Lib.hid (by rw [HV.out, HF.out rfl, Bool.and_false])
          go_wp2_with fail
          go_ret
          exact ⟨ret_bool (by rw [HV2.out]), a2w⟩
      · obtain rfl : j = n := by omega
        have HV2 : Hid (samesR xs ys = true) := Lib.hid (by
          have h_ := HJ.out
          rw [HV.out]
          rw [← hn, List.take_length, hn, ← hm, List.take_length] at h_
          rw [h_]; simp)
        go_wp2_with fail
        go_ret
        exact ⟨ret_bool (by rw [HV2.out]), ar⟩
  · have hnmI : ¬ ((n : Int) = (m : Int)) := by omega
    have HV2 : Hid (samesR xs ys = false) := Lib.hid (by rw [HV.out, decide_eq_false hnm, Bool.false_and])
    go_enter Try.func63, Try.ntmps63
    go_wp2_with fail
    go_ret
    exact ⟨ret_bool (by rw [HV2.out]), inferInstance⟩

theorem Blk.at_' {w : World} {g : Nat} (hg : w.heap.size = g) (t : TypeId) (cs : Array Value) : Blk (w.alloc (.cells cs t)) g t cs := by subst hg; exact Blk.new w t cs

set_option maxRecDepth 100000 in
set_option maxHeartbeats 3200000 in
theorem same_n (N : Nat) : ∀ (k o t v : Int) (s : ByteArray) (A : Option Addr) (c : Nat) (xs : List Tx) (k' o' t' v' : Int) (s' : ByteArray) (A' : Option Addr) (c' : Nat) (xs' : List Tx) (w0 : World), (Tx.mk k o t v s A c xs).size ≤ N → RX w0 (.mk k o t v s A c xs) → RX w0 (.mk k' o' t' v' s' A' c' xs') → ∀ w : World, After w0 w →
    Calls Try.prog 64 #[.agg #[.int .i64 k, .int .i64 o, .int .i64 t, .int .i64 v, .string s, .slice A xs.length c], .agg #[.int .i64 k', .int .i64 o', .int .i64 t', .int .i64 v', .string s', .slice A' xs'.length c']] w fun e w' => e = .returned (.bool ((Tx.mk k o t v s A c xs).same (.mk k' o' t' v' s' A' c' xs'))) ∧ After w w' := by
  induction N with
  | zero =>
    intro k o t v s A c xs k' o' t' v' s' A' c' xs' w0 hs
    simp [Tx.size] at hs
  | succ N ih =>
    intro k o t v s A c xs k' o' t' v' s' A' c' xs' w0 hs x y w aft
    replace x := Lib.hid x
    replace y := Lib.hid y
    replace ih := Lib.hid ih
    rw [Tx.size] at hs
    have hbd := x.out.bounds
    simp only [Tx.args, Tx.cap, Tx.name] at hbd
    obtain ⟨hb1_, hb2_, hb3_, hb4_⟩ := hbd
    have hbe := y.out.bounds
    simp only [Tx.args, Tx.cap, Tx.name] at hbe
    obtain ⟨hd1_, hd2_, hd3_, hd4_⟩ := hbe
    rw [Tx.same]
    have HEQ : Hid (∀ U : World, After w0 U → Calls Try.prog 63 #[.slice A xs.length c, .slice A' xs'.length c', .func (.func 64) #[] #[]] U fun e w' => e = .returned (.bool (samesR xs xs')) ∧ After U w') := Lib.hid fun U hU => by
      refine eqf_any ?_ ?_ U hU ?_
      · have h_ := x.out; unfold rowX; rw [RX] at h_ ⊢; exact ⟨by decide, h_.2⟩
      · have h_ := y.out; unfold rowX; rw [RX] at h_ ⊢; exact ⟨by decide, h_.2⟩
      · intro i k1 o1 t1 v1 s1 A1 c1 xs1 k2 o2 t2 v2 s2 A2 c2 xs2 h1 h2 U' hU'
        have hm := Tx.sizes_mem h1
        exact ih.out _ _ _ _ _ _ _ _ _ _ _ _ _ _ _ _ w0 (by omega) (x.out.all _ (List.mem_of_getElem? h1)) (y.out.all _ (List.mem_of_getElem? h2)) U' hU'
    unfold samesR at HEQ
    obtain ⟨q1, hq1⟩ : ∃ q, (k == k') = q := ⟨_, rfl⟩
    obtain ⟨q2, hq2⟩ : ∃ q, (o == o') = q := ⟨_, rfl⟩
    obtain ⟨q3, hq3⟩ : ∃ q, (t == t') = q := ⟨_, rfl⟩
    obtain ⟨q4, hq4⟩ : ∃ q, (v == v') = q := ⟨_, rfl⟩
    obtain ⟨q5, hq5⟩ : ∃ q, (s.toList == s'.toList) = q := ⟨_, rfl⟩
    rw [hq1, hq2, hq3, hq4, hq5]
    cases q1 with
    | false =>
      go_enter Try.func64, Try.ntmps64
      go_wp2_with fail
      go_ret
      exact ⟨by simp, inferInstance⟩
    | true =>
      cases q2 with
      | false =>
        go_enter Try.func64, Try.ntmps64
        go_wp2_with fail
        go_ret
        exact ⟨by simp, inferInstance⟩
      | true =>
        cases q3 with
        | false =>
          go_enter Try.func64, Try.ntmps64
          go_wp2_with fail
          go_ret
          exact ⟨by simp, inferInstance⟩
        | true =>
          cases q4 with
          | false =>
            go_enter Try.func64, Try.ntmps64
            go_wp2_with fail
            go_ret
            exact ⟨by simp, inferInstance⟩
          | true =>
            cases q5 with
            | false =>
              go_enter Try.func64, Try.ntmps64
              go_wp2_with fail
              go_ret
              exact ⟨by simp, inferInstance⟩
            | true =>
              go_enter Try.func64, Try.ntmps64
              go_wp2_with fail
              refine (HEQ.out _ (after_after aft inferInstance)).mono ?_
              rintro e w2 ⟨rfl, a2⟩
              have a2w : After w w2 := after_after inferInstance a2
              go_wp2_with fail
              go_ret
              exact ⟨by simp, a2w⟩
theorem same_any {k o t v : Int} {s : ByteArray} {A : Option Addr} {c : Nat} {xs : List Tx} {k' o' t' v' : Int} {s' : ByteArray} {A' : Option Addr} {c' : Nat} {xs' : List Tx} {w0 : World} (x : RX w0 (.mk k o t v s A c xs)) (y : RX w0 (.mk k' o' t' v' s' A' c' xs')) (w : World) (aft : After w0 w) :
    Calls Try.prog 64 #[.agg #[.int .i64 k, .int .i64 o, .int .i64 t, .int .i64 v, .string s, .slice A xs.length c], .agg #[.int .i64 k', .int .i64 o', .int .i64 t', .int .i64 v', .string s', .slice A' xs'.length c']] w fun e w' => e = .returned (.bool ((Tx.mk k o t v s A c xs).same (.mk k' o' t' v' s' A' c' xs'))) ∧ After w w' := same_n _ _ _ _ _ _ _ _ _ _ _ _ _ _ _ _ _ _ (Nat.le_refl _) x y w aft

set_option maxRecDepth 100000 in
set_option maxHeartbeats 3200000 in
theorem rsame_n (N : Nat) : ∀ (k o t v : Int) (s : ByteArray) (A : Option Addr) (c : Nat) (xs : List Tx) (k' o' t' v' : Int) (s' : ByteArray) (A' : Option Addr) (c' : Nat) (xs' : List Tx) (w0 : World), (Tx.mk k o t v s A c xs).size ≤ N → RX w0 (.mk k o t v s A c xs) → RX w0 (.mk k' o' t' v' s' A' c' xs') → ∀ w : World, After w0 w →
    Calls Try.prog 66 #[.agg #[.int .i64 k, .int .i64 o, .int .i64 t, .int .i64 v, .string s, .slice A xs.length c], .agg #[.int .i64 k', .int .i64 o', .int .i64 t', .int .i64 v', .string s', .slice A' xs'.length c']] w fun e w' => e = .returned (.bool ((Tx.mk k o t v s A c xs).same (.mk k' o' t' v' s' A' c' xs'))) ∧ After w w' := by
  induction N with
  | zero =>
    intro k o t v s A c xs k' o' t' v' s' A' c' xs' w0 hs
    simp [Tx.size] at hs
  | succ N ih =>
    intro k o t v s A c xs k' o' t' v' s' A' c' xs' w0 hs x y w aft
    replace x := Lib.hid x
    replace y := Lib.hid y
    replace ih := Lib.hid ih
    rw [Tx.size] at hs
    have hbd := x.out.bounds
    simp only [Tx.args, Tx.cap, Tx.name] at hbd
    obtain ⟨hb1_, hb2_, hb3_, hb4_⟩ := hbd
    have hbe := y.out.bounds
    simp only [Tx.args, Tx.cap, Tx.name] at hbe
    obtain ⟨hd1_, hd2_, hd3_, hd4_⟩ := hbe
    rw [Tx.same]
    obtain ⟨q1, hq1⟩ : ∃ q, (k == k') = q := ⟨_, rfl⟩
    obtain ⟨q2, hq2⟩ : ∃ q, (o == o') = q := ⟨_, rfl⟩
    obtain ⟨q3, hq3⟩ : ∃ q, (t == t') = q := ⟨_, rfl⟩
    obtain ⟨q4, hq4⟩ : ∃ q, (v == v') = q := ⟨_, rfl⟩
    obtain ⟨q5, hq5⟩ : ∃ q, (s.toList == s'.toList) = q := ⟨_, rfl⟩
    rw [hq1, hq2, hq3, hq4, hq5]
    cases q1 with
    | false =>
      have m1 : (k != k') = true := by unfold bne; rw [hq1]; rfl
      go_enter Try.func66, Try.ntmps66
      go_wp2_with fail
      go_ret
      exact ⟨by simp, inferInstance⟩
    | true =>
      have m1 : (k != k') = false := by unfold bne; rw [hq1]; rfl
      cases q2 with
      | false =>
        have m2 : (o != o') = true := by unfold bne; rw [hq2]; rfl
        go_enter Try.func66, Try.ntmps66
        go_wp2_with fail
        go_ret
        exact ⟨by simp, inferInstance⟩
      | true =>
        have m2 : (o != o') = false := by unfold bne; rw [hq2]; rfl
        cases q3 with
        | false =>
          have m3 : (t != t') = true := by unfold bne; rw [hq3]; rfl
          go_enter Try.func66, Try.ntmps66
          go_wp2_with fail
          go_ret
          exact ⟨by simp, inferInstance⟩
        | true =>
          have m3 : (t != t') = false := by unfold bne; rw [hq3]; rfl
          cases q4 with
          | false =>
            have m4 : (v != v') = true := by unfold bne; rw [hq4]; rfl
            go_enter Try.func66, Try.ntmps66
            go_wp2_with fail
            go_ret
            exact ⟨by simp, inferInstance⟩
          | true =>
            have m4 : (v != v') = false := by unfold bne; rw [hq4]; rfl
            cases q5 with
            | false =>
              have m5 : (s.toList != s'.toList) = true := by unfold bne; rw [hq5]; rfl
              go_enter Try.func66, Try.ntmps66
              go_wp2_with fail
              go_ret
              exact ⟨by simp, inferInstance⟩
            | true =>
              have m5 : (s.toList != s'.toList) = false := by unfold bne; rw [hq5]; rfl
              obtain ⟨n, hn⟩ : ∃ n, xs.length = n := ⟨_, rfl⟩
              obtain ⟨m, hm⟩ : ∃ m, xs'.length = m := ⟨_, rfl⟩
              have HK : Hid (∀ U : World, After ((w.alloc (.cells #[.int .i64 k, .int .i64 o, .int .i64 t, .int .i64 v, .string s, .slice A xs.length c] 25)).alloc (.cells #[.int .i64 k', .int .i64 o', .int .i64 t', .int .i64 v', .string s', .slice A' xs'.length c'] 25)) U → After w U ∧ Le (w.heap.size + 1) U ∧ Le (w.heap.size + 1 + 1) U ∧ U.cell? ⟨w.heap.size, 5, none⟩ = some (.slice A xs.length c) ∧ U.cell? ⟨w.heap.size + 1, 5, none⟩ = some (.slice A' xs'.length c')) := Lib.hid fun U hU => by
                have f1 := ((Blk.new w 25 #[.int .i64 k, .int .i64 o, .int .i64 t, .int .i64 v, .string s, .slice A xs.length c]).alloc (.cells #[.int .i64 k', .int .i64 o', .int .i64 t', .int .i64 v', .string s', .slice A' xs'.length c'] 25)).after (w' := U)
                have f2 := (Blk.at_' (w := w.alloc (.cells #[.int .i64 k, .int .i64 o, .int .i64 t, .int .i64 v, .string s, .slice A xs.length c] 25)) (size_alloc_ _ _) 25 #[.int .i64 k', .int .i64 o', .int .i64 t', .int .i64 v', .string s', .slice A' xs'.length c']).after (w' := U)
                exact ⟨after_after inferInstance hU, f1.is_le, f2.is_le, (f1.cell 5).trans rfl, (f2.cell 5).trans rfl⟩
              rw [hn, hm] at HK
              rw [hn] at hb2_ hb4_ ⊢
              rw [hm] at hd2_ hd4_ ⊢
              by_cases hnm : n = m
              · subst hnm
                go_enter Try.func66, Try.ntmps66
                go_wp2_with fail
                go_loopw [5] (fun i wr => ∃ j : Nat, j ≤ n ∧ i = .int .i64 (j : Nat) ∧ Hid (Tx.sames (xs.take j) (xs'.take j) = true) ∧ After ((w.alloc (.cells #[.int .i64 k, .int .i64 o, .int .i64 t, .int .i64 v, .string s, .slice A n c] 25)).alloc (.cells #[.int .i64 k', .int .i64 o', .int .i64 t', .int .i64 v', .string s', .slice A' n c'] 25)) wr) (fun i _ => n - (intOf i).toNat)
                case atStart => exact ⟨0, by omega, rfl, Lib.hid (by simp [Tx.sames]), inferInstance⟩
                case round =>
                  obtain ⟨j, hj, rfl, HJ, ar⟩ := hrel
                  obtain ⟨awr, lr1, lr2, c5_, d5_⟩ := HK.out wr ar
                  have a0r : After w0 wr := after_after aft awr
                  by_cases hlt_ : j < n
                  · have hltI : (j : Int) < (n : Int) := by omega
                    have hlt : j < xs.length := by omega
                    have hlt2 : j < xs'.length := by omega
                    obtain ⟨b, p, k1, o1, t1, v1, s1, A1, c1, xs1, rfl, hb1, HX1, HR1, e0, e1, e2, e3, e4, e5⟩ := (x.out.here wr).part (i := j) hlt
                    obtain ⟨b2, p2, k2, o2, t2, v2, s2, A2, c2, xs2, rfl, hb2, HX2, HR2, g0, g1, g2, g3, g4, g5⟩ := (y.out.here wr).part (i := j) hlt2
                    have hme := Tx.sizes_mem HX1.out
                    have HC : Gives wr 66 #[.agg #[.int .i64 k1, .int .i64 o1, .int .i64 t1, .int .i64 v1, .string s1, .slice A1 xs1.length c1], .agg #[.int .i64 k2, .int .i64 o2, .int .i64 t2, .int .i64 v2, .string s2, .slice A2 xs2.length c2]] (.bool ((Tx.mk k1 o1 t1 v1 s1 A1 c1 xs1).same (.mk k2 o2 t2 v2 s2 A2 c2 xs2))) := fun U hU => (ih.out _ _ _ _ _ _ _ _ _ _ _ _ _ _ _ _ w0 (by omega) (x.out.all _ (List.mem_of_getElem? HX1.out)) (y.out.all _ (List.mem_of_getElem? HX2.out)) U (after_after a0r hU)).mono fun e w' h => ⟨h.1, @After.is_more _ _ h.2⟩
                    have HT : Hid (Tx.sames (xs.take (j + 1)) (xs'.take (j + 1)) = (Tx.mk k1 o1 t1 v1 s1 A1 c1 xs1).same (.mk k2 o2 t2 v2 s2 A2 c2 xs2)) := Lib.hid (by rw [sames_take HX1.out HX2.out, HJ.out, Bool.true_and])
                    have HF : Hid ((Tx.mk k1 o1 t1 v1 s1 A1 c1 xs1).same (.mk k2 o2 t2 v2 s2 A2 c2 xs2) = false → Tx.sames xs xs' = false) := Lib.hid fun h => sames_false HX1.out HX2.out h
                    obtain ⟨bb, hbb⟩ : ∃ bb, (Tx.mk k1 o1 t1 v1 s1 A1 c1 xs1).same (.mk k2 o2 t2 v2 s2 A2 c2 xs2) = bb := ⟨_, rfl⟩
                    rw [hbb] at HC HT HF
                    clear hbb HX1 HX2 HR1 HR2 hme
                    cases bb with
                    | true =>
                      go_wp2_with fail
                      refine wp_region_more (by kernel_rfl) (by kernel_rfl) ?_
                      repeat (go_big_quiet_step ((go_at_call 66; with_reducible exact Calls.more_of (Gives.on HC _ inferInstance))))
                      refine wpQuiet_nil ?_
                      rintro _ ⟨y_, rfl⟩
                      go_wp2_with fail
                      go_roundw
                      case rel => exact ⟨j + 1, by omega, by go_num, HT, after_after ar inferInstance⟩
                      case measure => simp [intOf]; omega
                    | false =>
                      have HV2 : Hid (Tx.sames xs xs' = false) := Lib.hid (HF.out rfl)
                      go_wp2_with fail
                      refine wp_region_more (by kernel_rfl) (by kernel_rfl) ?_
                      repeat (go_big_quiet_step ((go_at_call 66; with_reducible exact Calls.more_of (Gives.on HC _ inferInstance))))
                      refine wpQuiet_nil ?_
                      rintro _ ⟨y_, rfl⟩
                      go_wp2_with fail
                      go_ret
                      exact ⟨by rw [HV2.out]; simp, after_after awr inferInstance⟩
                  · obtain rfl : j = n := by omega
                    have HV2 : Hid (Tx.sames xs xs' = true) := Lib.hid (by have h_ := HJ.out; rwa [← hn, List.take_length, hn, ← hm, List.take_length] at h_)
                    go_wp2_with fail
                    go_ret
                    exact ⟨by rw [HV2.out]; simp, awr⟩
              · have hnmI : ¬ ((n : Int) = (m : Int)) := by omega
                go_enter Try.func66, Try.ntmps66
                go_wp2_with fail
                go_ret
                exact ⟨by simp [hnm], inferInstance⟩
theorem rsame_any {k o t v : Int} {s : ByteArray} {A : Option Addr} {c : Nat} {xs : List Tx} {k' o' t' v' : Int} {s' : ByteArray} {A' : Option Addr} {c' : Nat} {xs' : List Tx} {w0 : World} (x : RX w0 (.mk k o t v s A c xs)) (y : RX w0 (.mk k' o' t' v' s' A' c' xs')) (w : World) (aft : After w0 w) :
    Calls Try.prog 66 #[.agg #[.int .i64 k, .int .i64 o, .int .i64 t, .int .i64 v, .string s, .slice A xs.length c], .agg #[.int .i64 k', .int .i64 o', .int .i64 t', .int .i64 v', .string s', .slice A' xs'.length c']] w fun e w' => e = .returned (.bool ((Tx.mk k o t v s A c xs).same (.mk k' o' t' v' s' A' c' xs'))) ∧ After w w' := rsame_n _ _ _ _ _ _ _ _ _ _ _ _ _ _ _ _ _ _ (Nat.le_refl _) x y w aft
end Go.Proofs.Ytdghfhnkacfahaa
