/-
  Contracts of the reference: has, fields, field, typed.
-/
import Derived.Test.YtgmojjdojcmnaaaDoorIRa
set_option linter.unusedVariables false
set_option linter.unusedSimpArgs false
namespace Go.Proofs.YtgmojjdojcmnaaaDoor
open Go.RowKit Go.BigFrame

theorem has_yes {s : ByteArray} {c : UInt8} {k : Nat} (h : k < s.size) (hc : s[k].toNat = c.toNat) : s.data.toList.any (fun x => x == c) = true := by
  rw [List.any_eq_true]
  have hl : s.data.toList.length = s.size := rfl
  exact ⟨s[k], by have := List.getElem_mem (l := s.data.toList) (n := k) (by omega); exact this, by rw [beq_iff_eq]; exact UInt8.toNat.inj hc⟩
theorem has_no {s : ByteArray} {c : UInt8} (h : ∀ k (hk : k < s.size), s[k].toNat ≠ c.toNat) : s.data.toList.any (fun x => x == c) = false := by
  rw [List.any_eq_false]
  intro x hx
  obtain ⟨j, hj, rfl⟩ := List.getElem_of_mem hx
  have hl : s.data.toList.length = s.size := rfl
  have := h j (by omega)
  rw [beq_iff_eq]
  exact fun e => this (by show s.data.toList[j].toNat = _; rw [e])
set_option maxHeartbeats 1600000 in
theorem rhas_any (s : ByteArray) (c : UInt8) (hs : s.size ≤ 140737488355328) (w : World) : Calls Tryd.prog 64 #[.string s, .int .u8 c.toNat] w fun e w' => e = .returned (.bool (s.data.toList.any (fun x => x == c))) ∧ w' = w := by
  obtain ⟨R, hR⟩ : ∃ R, s.data.toList.any (fun x => x == c) = R := ⟨_, rfl⟩
  have HR := Lib.hid hR
  rw [hR]
  obtain ⟨cn, hcn⟩ : ∃ cn, c.toNat = cn := ⟨_, rfl⟩
  have HC := Lib.hid hcn
  rw [hcn]
  clear hR hcn
  go_enter Tryd.func64, Tryd.ntmps64
  go_wp2_with fail
  go_loop [5] (fun i => ∃ k : Nat, k ≤ s.size ∧ i = .int .i64 (k : Nat) ∧ Hid (∀ j (hj : j < s.size), j < k → s[j].toNat ≠ c.toNat)) (fun i => s.size - (intOf i).toNat)
  case atStart => exact ⟨0, by omega, rfl, fun j _ h => by omega⟩
  case round =>
    obtain ⟨k, hk, rfl, HA⟩ := hrel
    by_cases hlt : k < s.size
    · have hltI : (k : Int) < (s.size : Int) := by omega
      obtain ⟨r, hr⟩ : ∃ r : Nat, s[k].toNat = r := ⟨_, rfl⟩
      have HB := Lib.hid hr
      by_cases he : r = cn
      · have z1 : ((r : Int) == (cn : Int)) = true := by rw [beq_iff_eq]; omega
        have HF : Hid (R = true) := by show _ = _; rw [← HR.out]; exact has_yes hlt (by rw [HB.out, HC.out, he])
        clear he
        go_wp2_with fail
        go_ret
        exact ⟨by rw [HF.out]; rfl, rfl⟩
      · have z1 : ((r : Int) == (cn : Int)) = false := by rw [beq_eq_false_iff_ne]; omega
        have HE : Hid (s[k].toNat ≠ c.toNat) := by show s[k].toNat ≠ c.toNat; rw [HB.out, HC.out]; exact he
        clear he
        go_wp2_with fail
        go_round
        case rel =>
          exact ⟨k + 1, by omega, by go_num, fun j hj h => by
            rcases Nat.lt_or_ge j k with h_ | h_
            · exact HA.out j hj h_
            · obtain rfl : j = k := by omega
              exact HE.out⟩
        case measure => simp only [intOf]; omega
    · obtain rfl : k = s.size := by omega
      have HF : Hid (R = false) := by show _ = _; rw [← HR.out]; exact has_no (s := s) (fun j hj => HA.out j hj hj)
      go_wp2_with fail
      go_ret
      exact ⟨by rw [HF.out]; rfl, rfl⟩

/-- the letters of the fields of an operation -/
def fS (op : Int) : ByteArray := if op = 5 then ⟨#[65, 66, 67]⟩ else if op = 6 ∨ op = 9 then ⟨#[65, 66, 67, 68]⟩ else if op = 7 then ⟨#[66]⟩ else ⟨#[65, 66]⟩
set_option maxRecDepth 100000 in
set_option maxHeartbeats 3200000 in
theorem rfields_any (w : World) (op : Int) (h : 1 ≤ op ∧ op ≤ 10) : Calls Tryd.prog 65 #[.int .i64 op] w fun e w' => e = .returned (.string (fS op)) ∧ After w w' := by
  have hc : op = 1 ∨ op = 2 ∨ op = 3 ∨ op = 4 ∨ op = 5 ∨ op = 6 ∨ op = 7 ∨ op = 8 ∨ op = 9 ∨ op = 10 := by omega
  clear h
  have zb := Blk.new w 99 #[.string ⟨#[]⟩, .string ⟨#[65, 66]⟩, .string ⟨#[65, 66]⟩, .string ⟨#[65, 66]⟩, .string ⟨#[65, 66]⟩, .string ⟨#[65, 66, 67]⟩, .string ⟨#[65, 66, 67, 68]⟩, .string ⟨#[66]⟩, .string ⟨#[65, 66]⟩, .string ⟨#[65, 66, 67, 68]⟩, .string ⟨#[65, 66]⟩]
  rcases hc with rfl | rfl | rfl | rfl | rfl | rfl | rfl | rfl | rfl | rfl
  all_goals
    go_enter Tryd.func65, Tryd.ntmps65
    go_wp2_with fail
    go_ret
    exact ⟨rfl, inferInstance⟩

theorem rfield_any (w : World) (op a b c d : Int) (n : Nat) (hn : n < 4) : Calls Tryd.prog 66 #[.agg #[.int .i64 op, .int .i64 a, .int .i64 b, .int .i64 c, .int .i64 d], .int .u8 (65 + n : Nat)] w fun e w' => e = .returned (.int .i64 ([a, b, c, d].getD n 0)) ∧ After w w' := by
  have hc : n = 0 ∨ n = 1 ∨ n = 2 ∨ n = 3 := by omega
  clear hn
  rcases hc with rfl | rfl | rfl | rfl
  all_goals
    go_enter Tryd.func66, Tryd.ntmps66
    go_wp2_with fail
    go_ret
    exact ⟨rfl, inferInstance⟩

theorem all_hit {l : List Int} {p : Int → Bool} {k : Nat} {x : Int} (hk : k < l.length) (hx : l.getD k 0 = x) (hp : p x = false) : l.all p = false := by
  have e : l[k] = x := by rw [← hx]; simp [List.getD_eq_getElem?_getD, hk]
  rw [List.all_eq_false]
  exact ⟨x, by rw [← e]; exact List.getElem_mem hk, by simp [hp]⟩
theorem all_take {l : List Int} {p : Int → Bool} {k : Nat} {x : Int} (hk : k < l.length) (hx : l.getD k 0 = x) : (l.take (k + 1)).all p = ((l.take k).all p && p x) := by
  have e : l[k] = x := by rw [← hx]; simp [List.getD_eq_getElem?_getD, hk]
  rw [List.take_succ_eq_append_getElem hk, e, List.all_append]; simp
set_option maxHeartbeats 1600000 in
theorem rtyped_any {w0 : World} {A c l} (x : RI w0 A c l) (A9 : Option Addr) (c9 n : Nat) (hn : n ≤ 140737488355328) (w : World) (hw : After w0 w) :
    Calls Tryd.prog 53 #[.slice A9 n c9, .slice A l.length c] w fun e w' => e = .returned (.bool (l.all (validB n))) ∧ After w w' := by
  have hlen := x.len
  have x' := Lib.hid x
  have hwr : IntKind.i64.wrap (3 + (n : Int)) = 3 + (n : Int) := IntWalk.i64_in _ (by omega)
  obtain ⟨R, hR⟩ : ∃ R, l.all (validB n) = R := ⟨_, rfl⟩
  have HR := Lib.hid hR
  rw [hR]
  clear hR x
  go_enter Tryd.func53, Tryd.ntmps53
  go_wp2_with fail
  go_loop [5] (fun i => ∃ k : Nat, k ≤ l.length ∧ i = .int .i64 (k : Nat) ∧ Hid ((l.take k).all (validB n) = true)) (fun i => l.length - (intOf i).toNat)
  case atStart => exact ⟨0, by omega, rfl, Lib.hid (by simp)⟩
  case round =>
    obtain ⟨k, hk, rfl, HJ⟩ := hrel
    by_cases hlt : k < l.length
    · have hltI : (k : Int) < (l.length : Int) := by omega
      obtain ⟨ad, z, rfl, hbk, hc, HZ⟩ := (x'.out.here w).int hlt
      have HT := Lib.hid (all_take (p := validB n) hlt HZ.out)
      have HH := Lib.hid (all_hit (p := validB n) hlt HZ.out)
      have hcs : z < 1 ∨ (1 ≤ z ∧ 3 + (n : Int) ≤ z) ∨ (1 ≤ z ∧ z < 3 + (n : Int)) := by omega
      have hv : ∀ q : Bool, (decide (1 ≤ z) && decide (z < 3 + (n : Int))) = q → validB n z = q := fun q h => by unfold validB; exact h
      rcases hcs with h | h | h
      · have HF : Hid (R = false) := by show _ = _; rw [← HR.out]; exact HH.out (hv _ (by simp; omega))
        clear hv
        go_wp2_with fail
        go_ret
        exact ⟨by rw [HF.out]; rfl, inferInstance⟩
      · obtain ⟨h1, h2⟩ := h
        have h1' : ¬ (z < 1) := by omega
        have HF : Hid (R = false) := by show _ = _; rw [← HR.out]; exact HH.out (hv _ (by simp; omega))
        clear hv
        go_wp2_with fail
        go_ret
        exact ⟨by rw [HF.out]; rfl, inferInstance⟩
      · obtain ⟨h1, h2⟩ := h
        have h1' : ¬ (z < 1) := by omega
        have h2' : ¬ (3 + (n : Int) ≤ z) := by omega
        have HA : Hid ((l.take (k + 1)).all (validB n) = true) := by show _ = _; rw [HT.out, HJ.out, hv true (by simp; omega)]; rfl
        clear hv
        go_wp2_with fail
        go_round
        case rel => exact ⟨k + 1, by omega, by go_num, HA⟩
        case measure => simp only [intOf]; omega
    · have HF : Hid (R = true) := by
        show _ = _
        have h_ := HJ.out
        rw [List.take_of_length_le (by omega), HR.out] at h_
        exact h_
      go_wp2_with fail
      go_ret
      exact ⟨by rw [HF.out]; rfl, inferInstance⟩
end Go.Proofs.YtgmojjdojcmnaaaDoor
