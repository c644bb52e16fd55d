/-
  Contracts: bword.letters, the reference's run.
-/
import Derived.Test.YtdghfhnkacfahaaEWd
set_option linter.unusedVariables false
set_option linter.unusedSimpArgs false
namespace Go.Proofs.Ytdghfhnkacfahaa
open Go.RowKit Go.BigFrame

def isDig (c : UInt8) : Bool := c == 48 || c == 49
def allDig (l : List UInt8) : Bool := l.all isDig
def bitsL (l : List UInt8) : List Bool := l.map (· == 49)
theorem bitsL_length (l : List UInt8) : (bitsL l).length = l.length := by simp [bitsL]
theorem byte_tests (c : UInt8) : (c = 48 ∧ ((c.toNat : Int) == 48) = true ∧ ((c.toNat : Int) != 48) = false ∧ ((c.toNat : Int) == 49) = false ∧ ((c.toNat : Int) != 49) = true) ∨
    (c = 49 ∧ ((c.toNat : Int) == 48) = false ∧ ((c.toNat : Int) != 48) = true ∧ ((c.toNat : Int) == 49) = true ∧ ((c.toNat : Int) != 49) = false) ∨
    (isDig c = false ∧ ((c.toNat : Int) == 48) = false ∧ ((c.toNat : Int) != 48) = true ∧ ((c.toNat : Int) == 49) = false ∧ ((c.toNat : Int) != 49) = true) := by
  by_cases h1 : c = 48
  · subst h1; exact .inl ⟨rfl, by decide, by decide, by decide, by decide⟩
  · by_cases h2 : c = 49
    · subst h2; exact .inr (.inl ⟨rfl, by decide, by decide, by decide, by decide⟩)
    · have a : c.toNat ≠ 48 := fun e => h1 (UInt8.toNat_inj.1 e)
      have b : c.toNat ≠ 49 := fun e => h2 (UInt8.toNat_inj.1 e)
      refine .inr (.inr ⟨by simp [isDig, h1, h2], ?_, ?_, ?_, ?_⟩) <;> simp <;> omega
theorem bytes_append (a b : ByteArray) : (a ++ b).data.toList = a.data.toList ++ b.data.toList := by
  obtain ⟨⟨x⟩⟩ := a
  obtain ⟨⟨y⟩⟩ := b
  simp [ByteArray.data_append]
theorem bytes_eq {s : ByteArray} {l : List UInt8} (h : s.data.toList = l) : s = ⟨l.toArray⟩ := by
  obtain ⟨⟨x⟩⟩ := s; subst h; rfl
theorem bytes_size {s : ByteArray} {l : List UInt8} (h : s.data.toList = l) : s.size = l.length := by
  obtain ⟨⟨x⟩⟩ := s; subst h; rfl
theorem byte_at {s : ByteArray} {k : Nat} (h : k < s.size) : s.data.toList[k]? = some s[k] := by
  obtain ⟨⟨x⟩⟩ := s
  simp [ByteArray.size] at h
  rw [List.getElem?_eq_getElem (by simpa using h)]; rfl
theorem bitsL_take_succ {l : List UInt8} {k : Nat} {c : UInt8} (h : l[k]? = some c) : bv (bitsL (l.take (k + 1))) = bv (bitsL (l.take k)) ++ [.bool (c == 49)] := by
  obtain ⟨hk, e⟩ := List.getElem?_eq_some_iff.1 h
  rw [List.take_succ_eq_append_getElem hk, e]
  simp [bitsL, bv]
def LetP (w : World) (l : List UInt8) (n : Nat) (e : Ending) (w' : World) : Prop :=
  (allDig l = true ∧ ∃ A c, e = .returned (.tuple #[.slice A n c, .bool true]) ∧ RB w' A c (bitsL l) ∧ From w.heap.size A ∧ ∃ y, w' = w.more y) ∨
  (allDig l = false ∧ e = .returned (.tuple #[.slice none 0 0, .bool false]) ∧ ∃ y, w' = w.more y)
theorem allDig_take_all {l : List UInt8} (h : ∀ j, j < l.length → ∃ c, l[j]? = some c ∧ isDig c = true) : allDig l = true := by
  unfold allDig
  rw [List.all_eq_true]
  intro c hc
  obtain ⟨j, hj, rfl⟩ := List.getElem_of_mem hc
  obtain ⟨c, e, h1⟩ := h j hj
  rw [List.getElem?_eq_getElem hj] at e
  cases e; exact h1
theorem allDig_no {l : List UInt8} {j : Nat} {c : UInt8} (h : l[j]? = some c) (hc : isDig c = false) : allDig l = false := by
  unfold allDig
  rw [List.all_eq_false]
  obtain ⟨hj, e⟩ := List.getElem?_eq_some_iff.1 h
  exact ⟨c, by rw [← e]; exact List.getElem_mem hj, by simp [hc]⟩
theorem letters_all (s : ByteArray) (w : World) (hs : s.size ≤ 2000000) :
    Calls Try.prog 97 #[.string s] w (LetP w s.data.toList s.size) := by
  go_enter Try.func97, Try.ntmps97
  go_wp2_with fail
  go_loopw [4, 8] (fun v i wr => ∃ (k : Nat) (A : Option Addr) (c : Nat), k ≤ s.size ∧ i = .int .i64 k ∧ v = .slice A k c ∧ Hid (wr.ownsRow w.heap.size 4 1 (.slice A k c) k (bv (bitsL (s.data.toList.take k)))) ∧ Hid (∀ j, j < k → ∃ c, s.data.toList[j]? = some c ∧ isDig c = true) ∧ After w wr) (fun _ i _ => s.size - (intOf i).toNat)
  case atStart => exact ⟨0, none, 0, by omega, rfl, rfl, World.ownsRow_nil _ _ _ _, fun j h => by omega, inferInstance⟩
  case round =>
    obtain ⟨k, A, c, hk, rfl, rfl, HO, HD, haft⟩ := hrel
    by_cases hlt : k < s.size
    · have hltI : (k : Int) < (s.size : Int) := by omega
      have hb := byte_at hlt
      have HT := Lib.hid (bitsL_take_succ hb)
      have HB := Lib.hid hb
      clear hb
      rcases byte_tests s[k] with ⟨e, t1, t2, t3, t4⟩ | ⟨e, t1, t2, t3, t4⟩ | ⟨e, t1, t2, t3, t4⟩
      · replace e := Lib.hid e
        go_wp2_with (at_builtin; refine wpList_append_one (w0 := w) wr rfl (.tmp 21) (.tmp 26) 119 rfl 4 _ 1 Try.underlying119 boolInfo rfl (.slice A k c) k _ (.bool false) rfl HO.out rfl rfl (by omega) (by omega) ?_; intro v1 w4 hown1 haft1; replace hown1 := Lib.hid hown1)
        obtain ⟨A1, c1, rfl, _, _⟩ := own_slice hown1.out
        go_roundw
        case rel => exact ⟨k + 1, A1, c1, by omega, by go_num, rfl, by show World.ownsRow _ _ _ _ _ _ _; rw [HT.out, e.out]; exact hown1.out, fun j hj => by
              rcases Nat.lt_or_ge j k with h | h
              · exact HD.out j h
              · obtain rfl : j = k := by omega
                exact ⟨_, HB.out, by rw [e.out]; rfl⟩, haft1⟩
        case measure => simp [intOf]; omega
      · replace e := Lib.hid e
        go_wp2_with (at_builtin; refine wpList_append_one (w0 := w) wr rfl (.tmp 21) (.tmp 26) 119 rfl 4 _ 1 Try.underlying119 boolInfo rfl (.slice A k c) k _ (.bool true) rfl HO.out rfl rfl (by omega) (by omega) ?_; intro v1 w4 hown1 haft1; replace hown1 := Lib.hid hown1)
        obtain ⟨A1, c1, rfl, _, _⟩ := own_slice hown1.out
        go_roundw
        case rel => exact ⟨k + 1, A1, c1, by omega, by go_num, rfl, by show World.ownsRow _ _ _ _ _ _ _; rw [HT.out, e.out]; exact hown1.out, fun j hj => by
              rcases Nat.lt_or_ge j k with h | h
              · exact HD.out j h
              · obtain rfl : j = k := by omega
                exact ⟨_, HB.out, by rw [e.out]; rfl⟩, haft1⟩
        case measure => simp [intOf]; omega
      · replace e := Lib.hid e
        go_wp2_with fail
        go_ret2
        exact .inr ⟨allDig_no HB.out e.out, rfl, After.is_more _ _⟩
    · obtain rfl : k = s.size := by omega
      have hl : s.data.toList.length = s.size := (bytes_size rfl).symm
      have ho := HO.out
      rw [List.take_of_length_le (by omega)] at ho
      have hbl : (bitsL s.data.toList).length = s.size := by rw [bitsL_length, hl]
      have HO2 : Hid (wr.ownsRow w.heap.size 4 1 (.slice A s.size c) (bitsL s.data.toList).length (bv (bitsL s.data.toList))) := by rw [hbl]; exact ho
      obtain ⟨A1, c1, e1, x1⟩ := RB.of_own HO2.out (by rw [hbl]; omega)
      injection e1 with e1 e2 e3
      subst e1; subst e3
      have X1 := Lib.hid x1
      have n1 := From.of_own HO2.out
      have HAD := Lib.hid (allDig_take_all (l := s.data.toList) (fun j hj => HD.out j (by omega)))
      clear x1 ho hbl e2 hl
      go_wp2_with fail
      go_ret2
      exact .inl ⟨HAD.out, _, _, rfl, X1.out, n1, After.is_more _ _⟩
def pre (l : List UInt8) : List UInt8 := l.takeWhile isDig
theorem pre_le (l : List UInt8) : (pre l).length ≤ l.length := by unfold pre; exact (List.takeWhile_sublist _).length_le
theorem pre_is {l : List UInt8} {k : Nat} (hk : k ≤ l.length) (h : ∀ j, j < k → ∃ c, l[j]? = some c ∧ isDig c = true) (he : ∀ c, l[k]? = some c → isDig c = false) : pre l = l.take k := by
  unfold pre
  induction k generalizing l with
  | zero =>
    cases l with
    | nil => rfl
    | cons a l => have := he a rfl; simp [List.takeWhile_cons, this]
  | succ k ih =>
    cases l with
    | nil => simp at hk
    | cons a l =>
      obtain ⟨c, h1, h2⟩ := h 0 (by omega)
      simp at h1; subst h1
      rw [List.takeWhile_cons, if_pos h2, List.take_succ_cons, ih (by simpa using hk) (fun j hj => by have := h (j + 1) (by omega); simpa using this) (fun c hc => he c (by simpa using hc))]
theorem drop_at {s : ByteArray} {a k : Nat} (h : a + k < s.size) : (s.data.toList.drop a)[k]? = some s[a + k] := by
  rw [List.getElem?_drop]; exact byte_at h
theorem run_any (s : ByteArray) (w : World) (hs : s.size ≤ 2000000) (a : Nat) (ha : a ≤ s.size) :
    Calls Try.prog 99 #[.string s, .int .i64 (a : Nat)] w fun e w' => ∃ A c, e = .returned (.slice A (pre (s.data.toList.drop a)).length c) ∧ RB w' A c (bitsL (pre (s.data.toList.drop a))) ∧ From w.heap.size A ∧ ∃ y, w' = w.more y := by
  have hl : s.data.toList.length = s.size := (bytes_size rfl).symm
  have Hl := Lib.hid hl
  clear hl
  go_enter Try.func99, Try.ntmps99
  go_wp2_with fail
  go_loopw [5, 1] (fun v i wr => ∃ (k : Nat) (A : Option Addr) (c : Nat), a + k ≤ s.size ∧ i = .int .i64 ((a + k : Nat) : Int) ∧ v = .slice A k c ∧ Hid (wr.ownsRow w.heap.size 4 1 (.slice A k c) k (bv (bitsL ((s.data.toList.drop a).take k)))) ∧ Hid (∀ j, j < k → ∃ c, (s.data.toList.drop a)[j]? = some c ∧ isDig c = true) ∧ After w wr) (fun _ i _ => s.size - (intOf i).toNat)
  case atStart => exact ⟨0, none, 0, by omega, rfl, rfl, World.ownsRow_nil _ _ _ _, fun j h => by omega, inferInstance⟩
  case round =>
    obtain ⟨k, A, c, hk, rfl, rfl, HO, HD, haft⟩ := hrel
    have HEND : Hid ((∀ c, (s.data.toList.drop a)[k]? = some c → isDig c = false) → ∃ A' c', (.slice A k c : Value) = .slice A' (pre (s.data.toList.drop a)).length c' ∧ RB wr A' c' (bitsL (pre (s.data.toList.drop a))) ∧ From w.heap.size A') := fun he => by
      have hp : pre (s.data.toList.drop a) = (s.data.toList.drop a).take k := pre_is (by rw [List.length_drop, Hl.out]; omega) HD.out he
      have hpl : (pre (s.data.toList.drop a)).length = k := by rw [hp, List.length_take, List.length_drop, Hl.out]; omega
      have ho := HO.out
      rw [← hp] at ho
      have hbl : (bitsL (pre (s.data.toList.drop a))).length = k := by rw [bitsL_length, hpl]
      have ho2 : wr.ownsRow w.heap.size 4 1 (.slice A k c) (bitsL (pre (s.data.toList.drop a))).length (bv (bitsL (pre (s.data.toList.drop a)))) := by rw [hbl]; exact ho
      obtain ⟨A1, c1, e1, x1⟩ := RB.of_own ho2 (by rw [hbl]; omega)
      have hA : A = A1 := by injection e1
      exact ⟨A1, c1, by rw [e1, hbl, hpl], x1, hA ▸ From.of_own ho2⟩
    by_cases hlt : a + k < s.size
    · have hltI : ((a + k : Nat) : Int) < (s.size : Int) := by omega
      have hltI2 : (a : Int) + (k : Int) < (s.size : Int) := by omega
      have hb := drop_at hlt
      have HT := Lib.hid (bitsL_take_succ hb)
      have HB := Lib.hid hb
      clear hb
      rcases byte_tests s[a + k] with ⟨e, t1, t2, t3, t4⟩ | ⟨e, t1, t2, t3, t4⟩ | ⟨e, t1, t2, t3, t4⟩
      · replace e := Lib.hid e
        go_wp2_with (at_builtin; refine wpList_append_one (w0 := w) wr rfl (.tmp 22) (.tmp 27) 119 rfl 4 _ 1 Try.underlying119 boolInfo rfl (.slice A k c) k _ (.bool false) rfl HO.out rfl rfl (by omega) (by omega) ?_; intro v1 w4 hown1 haft1; replace hown1 := Lib.hid hown1)
        obtain ⟨A1, c1, rfl, _, _⟩ := own_slice hown1.out
        go_roundw
        case rel => exact ⟨k + 1, A1, c1, by omega, by go_num, rfl, by show World.ownsRow _ _ _ _ _ _ _; rw [HT.out, e.out]; exact hown1.out, fun j hj => by
              rcases Nat.lt_or_ge j k with h | h
              · exact HD.out j h
              · obtain rfl : j = k := by omega
                exact ⟨_, HB.out, by rw [e.out]; rfl⟩, haft1⟩
        case measure => simp [intOf]; omega
      · replace e := Lib.hid e
        go_wp2_with (at_builtin; refine wpList_append_one (w0 := w) wr rfl (.tmp 22) (.tmp 27) 119 rfl 4 _ 1 Try.underlying119 boolInfo rfl (.slice A k c) k _ (.bool true) rfl HO.out rfl rfl (by omega) (by omega) ?_; intro v1 w4 hown1 haft1; replace hown1 := Lib.hid hown1)
        obtain ⟨A1, c1, rfl, _, _⟩ := own_slice hown1.out
        go_roundw
        case rel => exact ⟨k + 1, A1, c1, by omega, by go_num, rfl, by show World.ownsRow _ _ _ _ _ _ _; rw [HT.out, e.out]; exact hown1.out, fun j hj => by
              rcases Nat.lt_or_ge j k with h | h
              · exact HD.out j h
              · obtain rfl : j = k := by omega
                exact ⟨_, HB.out, by rw [e.out]; rfl⟩, haft1⟩
        case measure => simp [intOf]; omega
      · replace e := Lib.hid e
        obtain ⟨A1, c1, e1, x1, n1⟩ := HEND.out (fun c hc => by rw [HB.out] at hc; cases hc; exact e.out)
        have X1 := Lib.hid x1
        have E1 := Lib.hid e1
        clear x1 e1
        go_wp2_with fail
        go_ret
        exact ⟨A1, c1, by rw [← E1.out]; rfl, X1.out, n1, After.is_more _ _⟩
    · have hge : ¬ ((a + k : Nat) : Int) < (s.size : Int) := by omega
      obtain ⟨A1, c1, e1, x1, n1⟩ := HEND.out (fun c hc => by
        have := (List.getElem?_eq_some_iff.1 hc).1
        rw [List.length_drop, Hl.out] at this; omega)
      have X1 := Lib.hid x1
      have E1 := Lib.hid e1
      clear x1 e1
      go_wp2_with fail
      go_ret
      exact ⟨A1, c1, by rw [← E1.out]; rfl, X1.out, n1, After.is_more _ _⟩
end Go.Proofs.Ytdghfhnkacfahaa
