/-
  Plain words: the names in an expression; rows of strings.
-/
import Derived.Test.YtfoddappedcplaaERList
import Derived.Test.YtfoddappedcplaaEId
import Derived.Test.YtfoddappedcplaaShelf
set_option linter.unusedVariables false
set_option linter.unusedSimpArgs false
namespace Go.Proofs.Ytfoddappedcplaa
open Go.RowKit Go.BigFrame

def hasB (l : List ByteArray) (s : ByteArray) : Bool := l.any fun t => t.toList == s.toList
theorem toList_inj {a b : ByteArray} (h : a.toList = b.toList) : a = b := by
  rw [toList_data, toList_data] at h
  cases a; cases b
  simp at h
  rw [h]
theorem hasB_iff (l : List ByteArray) (s : ByteArray) : hasB l s = true ↔ s ∈ l := by
  unfold hasB
  rw [List.any_eq_true]
  constructor
  · rintro ⟨t, ht, h⟩
    have := toList_inj (by simpa using h)
    rwa [← this]
  · intro h
    exact ⟨s, h, by simp⟩
theorem hasB_is (l : List ByteArray) (s : ByteArray) : Lib.containsS l s = hasB l s := Bool.eq_iff_iff.2 (by rw [Lib.containsS_iff, hasB_iff])

def skipB (inst : Bool) (k : Int) (i : Nat) : Bool := inst && (k == 5 || k == 7 && decide (0 < i))
mutual
def Tx.nms (inst : Bool) : Tx → List ByteArray → List ByteArray
  | .mk k o t v s A c xs, l => Tx.nmss inst k 0 xs (if varB k && !hasB l s then l ++ [s] else l)
def Tx.nmss (inst : Bool) (k : Int) : Nat → List Tx → List ByteArray → List ByteArray
  | _, [], l => l
  | i, x :: xs, l => Tx.nmss inst k (i + 1) xs (if skipB inst k i then l else Tx.nms inst x l)
end
namespace Tx
theorem nmss_snoc (inst : Bool) (k : Int) (x : Tx) : ∀ (xs : List Tx) (i : Nat) (l : List ByteArray), nmss inst k i (xs ++ [x]) l = if skipB inst k (i + xs.length) then nmss inst k i xs l else nms inst x (nmss inst k i xs l)
  | [], i, l => by simp only [List.nil_append, nmss, List.length_nil, Nat.add_zero]
  | y :: xs, i, l => by rw [List.cons_append, nmss, nmss_snoc inst k x xs, nmss, List.length_cons, show i + 1 + xs.length = i + (xs.length + 1) by omega]
theorem nmss_take {inst : Bool} {k : Int} {xs : List Tx} {j : Nat} {x : Tx} (h : xs[j]? = some x) (l : List ByteArray) : nmss inst k 0 (xs.take (j + 1)) l = if skipB inst k j then nmss inst k 0 (xs.take j) l else nms inst x (nmss inst k 0 (xs.take j) l) := by
  have hj : (xs.take j).length = j := by rw [List.length_take]; have := (List.getElem?_eq_some_iff.1 h).1; omega
  rw [take_succ h, nmss_snoc, Nat.zero_add, hj]
theorem nmss_skip {inst : Bool} {k : Int} : ∀ (xs : List Tx) {i : Nat}, skipB inst k i = true → ∀ l, nmss inst k i xs l = l
  | [], i, h, l => by rw [nmss]
  | x :: xs, i, h, l => by
    rw [nmss, if_pos h]
    refine nmss_skip xs ?_ l
    unfold skipB at h ⊢
    simp at h ⊢
    exact ⟨h.1, h.2.imp id fun h => h.1⟩
theorem nmss_append (inst : Bool) (k : Int) : ∀ (xs ys : List Tx) (i : Nat) (l : List ByteArray), nmss inst k i (xs ++ ys) l = nmss inst k (i + xs.length) ys (nmss inst k i xs l)
  | [], ys, i, l => by simp [nmss]
  | x :: xs, ys, i, l => by rw [List.cons_append, nmss, nmss_append, nmss, List.length_cons, show i + 1 + xs.length = i + (xs.length + 1) by omega]
theorem nmss_rest {inst : Bool} {k : Int} {xs : List Tx} {j : Nat} (hj : j ≤ xs.length) (h : skipB inst k j = true) (l : List ByteArray) : nmss inst k 0 xs l = nmss inst k 0 (xs.take j) l := by
  conv => lhs; rw [← List.take_append_drop j xs]
  rw [nmss_append, List.length_take, Nat.min_eq_left hj, Nat.zero_add]
  exact nmss_skip _ h _
mutual
theorem nms_length (inst : Bool) : ∀ (x : Tx) (l : List ByteArray), (nms inst x l).length ≤ l.length + size x
  | .mk k o t v s A c xs, l => by
    rw [nms, size]
    have := nmss_length inst k xs 0 (if varB k && !hasB l s then l ++ [s] else l)
    split at this
    · rw [List.length_append, List.length_singleton] at this; rename_i h; rw [if_pos h]; omega
    · rename_i h; rw [if_neg h]; omega
theorem nmss_length (inst : Bool) (k : Int) : ∀ (xs : List Tx) (i : Nat) (l : List ByteArray), (nmss inst k i xs l).length ≤ l.length + sizes xs
  | [], i, l => by simp [nmss]
  | x :: xs, i, l => by
    rw [nmss, sizes]
    have h1 := nmss_length inst k xs (i + 1) (if skipB inst k i then l else nms inst x l)
    have h2 := nms_length inst x l
    split at h1
    · rename_i h; rw [if_pos h]; omega
    · rename_i h; rw [if_neg h]; omega
end
end Tx
def sv (l : List ByteArray) : List Value := l.map Value.string
theorem RSt.of_own {w : World} {r : Value} {l : List ByteArray} {B : Nat} {t : TypeId} (own : w.ownsRow B t 1 r l.length (sv l)) (hl : l.length ≤ 140737488355328) : ∃ A c, r = .slice A l.length c ∧ RSt w A c l := by
  obtain ⟨A, c, rfl, h1, h2⟩ := own_slice own
  refine ⟨A, c, rfl, fun k s hk => ?_, h1, h2, hl⟩
  rcases own.2 with ⟨hv, h0⟩ | ⟨g, cap, cur, hv, hbg, hh, hnc, hcap, hsz, htk⟩
  · rw [List.eq_nil_of_length_eq_zero h0] at hk; simp at hk
  · injection hv with hA
    subst hA
    have hlt : g < w.heap.size := by
      rcases Nat.lt_or_ge g w.heap.size with h' | h'
      · exact h'
      · rw [Array.getElem?_eq_none h'] at hh; cases hh
    have := own.cells (g := g) rfl k (.string s) (by simp [sv, hk])
    rw [Addr.add_lit] at this
    exact ⟨g, 0, rfl, hlt, this⟩
theorem RSt.of_row {w : World} {r : Value} {l : List ByteArray} {B : Nat} {t : TypeId} (own : w.ownsRow B t 1 r l.length (sv l)) (hl : l.length ≤ 140737488355328) : ∃ A c, r = .slice A l.length c ∧ ∀ U, After w U → RSt U A c l := by
  obtain ⟨A, c, h, x⟩ := RSt.of_own own hl
  exact ⟨A, c, h, fun U k => x.below k.below⟩

theorem has_any {w0 : World} {A : Option Addr} {c : Nat} {l : List ByteArray} (x : RSt w0 A c l) (s : ByteArray) (w : World) (aft : After w0 w) : Calls Try.prog 24 #[.slice A l.length c, .string s] w fun e w' => e = .returned (.bool (hasB l s)) ∧ w = w' := by
  have X := Lib.hid x
  have hlen := x.len
  clear x
  obtain ⟨n, hn⟩ : ∃ n, l.length = n := ⟨_, rfl⟩
  rw [hn] at hlen ⊢
  go_enter Try.func24, Try.ntmps24
  go_wp2_with fail
  go_loopw [5] (fun i wr => ∃ k : Nat, k ≤ n ∧ i = .int .i64 (k : Nat) ∧ Hid (hasB (l.take k) s = false) ∧ w = wr) (fun i _ => n - (intOf i).toNat)
  case atStart => exact ⟨0, by omega, rfl, Lib.hid rfl, rfl⟩
  case round =>
    obtain ⟨k, hk, rfl, HA, rfl⟩ := hrel
    by_cases hlt : k < n
    · have hltI : (k : Int) < n := by omega
      obtain ⟨b, o, t, rfl, hb, hc, HT⟩ := (X.out.here w).at_ (k := k) (by omega)
      have HTK : Hid (hasB (l.take (k + 1)) s = (t.toList == s.toList)) := Lib.hid (by
        have hk2 : k < l.length := by omega
        have e : l.take (k + 1) = l.take k ++ [t] := by
          have h_ := HT.out
          rw [List.getElem?_eq_getElem hk2] at h_
          injection h_ with h_
          rw [← h_]; exact List.take_succ_eq_append_getElem hk2
        have h_ := HA.out
        unfold hasB at *
        rw [e, List.any_append, h_]; simp)
      cases h : (t.toList == s.toList)
      · rw [h] at HTK
        go_wp2_with fail
        go_roundw
        case rel => exact ⟨k + 1, by omega, by go_num, HTK, trivial⟩
        case measure => simp [intOf]; omega
      · have HF : Hid (hasB l s = true) := Lib.hid (by
          rw [hasB_iff]
          have := toList_inj (by simpa using h)
          rw [← this]
          exact List.mem_of_getElem? HT.out)
        go_wp2_with fail
        go_ret
        exact ⟨ret_bool (by rw [HF.out]), rfl⟩
    · obtain rfl : k = n := by omega
      have HF : Hid (hasB l s = false) := Lib.hid (by have h_ := HA.out; rwa [← hn, List.take_length] at h_)
      go_wp2_with fail
      go_ret
      exact ⟨ret_bool (by rw [HF.out]), rfl⟩

theorem contains_any {w0 : World} {A : Option Addr} {c : Nat} {l : List ByteArray} (x : RSt w0 A c l) (s : ByteArray) (w : World) (aft : After w0 w) : Calls Try.prog 64 #[.slice A l.length c, .string s] w fun e w' => e = .returned (.bool (hasB l s)) ∧ w = w' := by
  have hlen := x.len
  by_cases h0 : l.length = 0
  · have hl : l = [] := List.eq_nil_of_length_eq_zero h0
    subst hl
    exact (Try.slices_Contains_string_empty A c s w).mono fun e w' h => ⟨h.1, h.2.symm⟩
  · obtain ⟨b, o, e, hb, hc⟩ := x.cells 0 _ (List.getElem?_eq_getElem (by omega))
    subst e
    refine (Try.slices_Contains_string b o l.length c l s w (Nat.le_refl _) (by omega) fun j hj => ?_).mono fun e w' h => ⟨by rw [h.1, List.take_length, hasB_is], h.2.symm⟩
    obtain ⟨b', o', e, hb', hc'⟩ := x.cells j _ (List.getElem?_eq_getElem hj)
    injection e with e
    injection e with e1 e2
    subst e1; subst e2
    rw [(aft.below.cell (p := ⟨b, o + j, none⟩) hb').trans hc']
    simp [List.getD_eq_getElem?_getD, hj]

def samesB (l m : List ByteArray) : Bool := decide (l = m)
set_option maxHeartbeats 1600000 in
theorem samenames_any {w0 : World} {A B : Option Addr} {c d : Nat} {l m : List ByteArray} (x : RSt w0 A c l) (y : RSt w0 B d m) (w : World) (aft : After w0 w) : Calls Try.prog 25 #[.slice A l.length c, .slice B m.length d] w fun e w' => e = .returned (.bool (samesB l m)) ∧ After w w' := by
  have X := Lib.hid x
  have Y := Lib.hid y
  have hlen := x.len
  have hlem := y.len
  clear x y
  obtain ⟨n, hn⟩ : ∃ n, l.length = n := ⟨_, rfl⟩
  obtain ⟨n2, hn2⟩ : ∃ n, m.length = n := ⟨_, rfl⟩
  rw [hn] at hlen ⊢
  rw [hn2] at hlem ⊢
  by_cases hne : n = n2
  · subst hne
    go_enter Try.func25, Try.ntmps25
    go_wp2_with fail
    go_loopw [5] (fun i wr => ∃ k : Nat, k ≤ n ∧ i = .int .i64 (k : Nat) ∧ Hid (l.take k = m.take k) ∧ After w wr) (fun i _ => n - (intOf i).toNat)
    case atStart => exact ⟨0, by omega, rfl, Lib.hid rfl, inferInstance⟩
    case round =>
      obtain ⟨k, hk, rfl, HA, kr⟩ := hrel
      have a0r : After w0 wr := after_after aft kr
      by_cases hlt : k < n
      · have hltI : (k : Int) < n := by omega
        obtain ⟨b, o, t, rfl, hb, hc, HT⟩ := (X.out.here wr).at_ (k := k) (by omega)
        obtain ⟨b2, o2, t2, rfl, hb2, hc2, HT2⟩ := (Y.out.here wr).at_ (k := k) (by omega)
        have hc_ := fun (U : World) (a : After wr U) => cell_keep a hc
        cases h : (t.toList == t2.toList)
        · have HF : Hid (samesB l m = false) := Lib.hid (by
            unfold samesB
            rw [decide_eq_false_iff_not]
            intro e
            subst e
            have h1 := HT.out
            rw [HT2.out] at h1
            injection h1 with h1
            rw [h1] at h
            simp at h)
          go_wp2_with go_quiet (fail)
          go_ret
          exact ⟨ret_bool (by rw [HF.out]), after_after kr inferInstance⟩
        · have HA2 : Hid (l.take (k + 1) = m.take (k + 1)) := Lib.hid (by
            have e := toList_inj (by simpa using h)
            have hk1 : k < l.length := by omega
            have hk2 : k < m.length := by omega
            rw [List.take_succ_eq_append_getElem hk1, List.take_succ_eq_append_getElem hk2, HA.out]
            have h1 := HT.out
            have h2 := HT2.out
            rw [List.getElem?_eq_getElem hk1] at h1
            rw [List.getElem?_eq_getElem hk2] at h2
            injection h1 with h1
            injection h2 with h2
            rw [h1, h2, e])
          go_wp2_with go_quiet (fail)
          go_roundw
          case rel => exact ⟨k + 1, by omega, by go_num, HA2, after_after kr inferInstance⟩
          case measure => simp [intOf]; omega
      · obtain rfl : k = n := by omega
        have HF : Hid (samesB l m = true) := Lib.hid (by
          have h_ := HA.out
          rw [← hn] at h_
          rw [List.take_length, hn, ← hn2, List.take_length] at h_
          unfold samesB; rw [h_]; simp)
        go_wp2_with fail
        go_ret
        exact ⟨ret_bool (by rw [HF.out]), kr⟩
  · have hneI : ¬ ((n : Int) = (n2 : Int)) := by omega
    have HF : Hid (samesB l m = false) := Lib.hid (by
      unfold samesB
      rw [decide_eq_false_iff_not]
      intro e
      rw [e] at hn; omega)
    go_enter Try.func25, Try.ntmps25
    go_wp2_with fail
    go_ret
    exact ⟨ret_bool (by rw [HF.out]), inferInstance⟩
end Go.Proofs.Ytfoddappedcplaa
