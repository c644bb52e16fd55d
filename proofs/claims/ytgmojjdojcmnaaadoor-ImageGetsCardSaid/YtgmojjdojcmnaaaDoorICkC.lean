/-
  Contracts: slices.IndexFunc, ContainsFunc at ints; the validation's literals; title.
-/
import Derived.Test.YtgmojjdojcmnaaaDoorICkB
import Derived.Test.YtgmojjdojcmnaaaDoorShelf
import Derived.Shelf.Abstract
set_option linter.unusedVariables false
set_option linter.unusedSimpArgs false
namespace Go.Proofs.YtgmojjdojcmnaaaDoor
open Go.RowKit Go.BigFrame Go.Lib

theorem any_take {l : List Int} {p : Int → Bool} {k : Nat} {x : Int} (hk : k < l.length) (hx : l.getD k 0 = x) : (l.take (k + 1)).any p = ((l.take k).any p || p x) := by
  have e : l[k] = x := by rw [← hx]; simp [List.getD_eq_getElem?_getD, hk]
  rw [List.take_succ_eq_append_getElem hk, e, List.any_append]; simp
theorem any_hit {l : List Int} {p : Int → Bool} {k : Nat} {x : Int} (hk : k < l.length) (hx : l.getD k 0 = x) (hp : p x = true) : l.any p = true := by
  have e : l[k] = x := by rw [← hx]; simp [List.getD_eq_getElem?_getD, hk]
  rw [List.any_eq_true]
  exact ⟨x, by rw [← e]; exact List.getElem_mem hk, hp⟩

set_option maxHeartbeats 1600000 in
theorem indexf_any {w0 : World} {A c l} (x : RI w0 A c l) (w : World) (hw : After w0 w) (g : Nat) (lb : Array Value) (eg : ∀ args w, (callFunc g args).run Tryd.prog w = .ok (.enter g args) w) (p : Int → Bool)
    (hp : ∀ (U : World) (z : Int), After w U → z ∈ l → Calls Tryd.prog g (#[.int .i64 z] ++ lb) U (fun e w' => e = .returned (.bool (p z)) ∧ After U w')) :
    Calls Tryd.prog 44 #[.slice A l.length c, .func (.func g) #[] lb] w fun e w' => ∃ r : Int, e = .returned (.int .i64 r) ∧ decide (0 ≤ r) = l.any p ∧ After w w' := by
  have hlen := x.len
  have hle_ := x.le
  have hcap_ := x.cap
  have HP := Lib.hid hp
  have x' := Lib.hid x
  clear hp x
  go_enter Tryd.func44, Tryd.ntmps44
  go_wp2_with fail
  go_loopw [8] (fun i wr => ∃ k : Nat, k ≤ l.length ∧ i = .int .i64 (k : Nat) ∧ Hid ((l.take k).any p = false) ∧ After w wr) (fun i _ => l.length - (intOf i).toNat)
  case atStart => exact ⟨0, by omega, rfl, Lib.hid (by simp), inferInstance⟩
  case round =>
    obtain ⟨k, hk, rfl, HJ, ar⟩ := hrel
    have a0r : After w0 wr := after_after hw ar
    by_cases hlt : k < l.length
    · have hltI : (k : Int) < (l.length : Int) := by omega
      obtain ⟨ad, z, rfl, hbk, hc, HZ⟩ := (x'.out.here wr).int hlt
      have hmem : z ∈ l := by
        have e : l[k] = z := by rw [← HZ.out]; simp [List.getD_eq_getElem?_getD, hlt]
        rw [← e]; exact List.getElem_mem hlt
      have HC := Lib.hid (HP.out wr z ar hmem)
      have HT := Lib.hid (any_take (p := p) hlt HZ.out)
      have HH := Lib.hid (any_hit (p := p) hlt HZ.out)
      obtain ⟨bb, hbb⟩ : ∃ bb, p z = bb := ⟨_, rfl⟩
      rw [hbb] at HC HT HH
      clear hbb hmem
      cases bb with
      | true =>
        have HA : Hid (l.any p = true) := HH.out rfl
        go_wp2_with (go_at_fn g; refine HC.out.mono ?_; rintro e w2 ⟨rfl, a2⟩; have a3 : After w w2 := after_after ar a2; clear a2)
        go_ret
        exact ⟨_, rfl, by rw [HA.out]; simp, a3⟩
      | false =>
        have HA : Hid ((l.take (k + 1)).any p = false) := by show _ = _; rw [HT.out, HJ.out]; rfl
        go_wp2_with (go_at_fn g; refine HC.out.mono ?_; rintro e w2 ⟨rfl, a2⟩; have a3 : After w w2 := after_after ar a2; clear a2)
        go_roundw
        case rel => exact ⟨k + 1, by omega, by go_num, HA, a3⟩
        case measure => simp [intOf]; omega
    · have HA : Hid (l.any p = false) := by
        have h_ := HJ.out
        rw [List.take_of_length_le (by omega)] at h_
        exact h_
      go_wp2_with fail
      go_ret
      exact ⟨_, rfl, by rw [HA.out]; rfl, ar⟩

set_option maxHeartbeats 1600000 in
theorem containsf_any {w0 : World} {A c l} (x : RI w0 A c l) (w : World) (hw : After w0 w) (g : Nat) (lb : Array Value) (eg : ∀ args w, (callFunc g args).run Tryd.prog w = .ok (.enter g args) w) (p : Int → Bool)
    (hp : ∀ (U : World) (z : Int), After w U → z ∈ l → Calls Tryd.prog g (#[.int .i64 z] ++ lb) U (fun e w' => e = .returned (.bool (p z)) ∧ After U w')) :
    Calls Tryd.prog 39 #[.slice A l.length c, .func (.func g) #[] lb] w fun e w' => e = .returned (.bool (l.any p)) ∧ After w w' := by
  have HC := Lib.hid (indexf_any x w hw g lb eg p hp)
  clear x hp
  obtain ⟨q, hq⟩ : ∃ q, l.any p = q := ⟨_, rfl⟩
  rw [hq] at HC ⊢
  clear hq
  go_enter Tryd.func39, Tryd.ntmps39
  go_wp2_with fail
  refine HC.out.mono ?_
  rintro e w2 ⟨r, rfl, hr, a2⟩
  have HR := Lib.hid hr
  clear hr HC
  go_wp2_with fail
  go_ret
  exact ⟨ret_bool HR.out, a2⟩

theorem lit_tags (U : World) (z : Int) : Calls Tryd.prog 40 #[.int .i64 z] U (fun e w' => e = .returned (.bool (!tagB z)) ∧ After U w') := by
  by_cases h1 : z < 1
  · go_enter Tryd.func40, Tryd.ntmps40
    go_wp2_with fail
    go_ret
    exact ⟨ret_bool (by unfold tagB; simp; omega), inferInstance⟩
  · by_cases h2 : 16 < z
    all_goals
      go_enter Tryd.func40, Tryd.ntmps40
      go_wp2_with fail
      go_ret
      exact ⟨ret_bool (by unfold tagB; simp; omega), inferInstance⟩
theorem lit_vals (U : World) (z : Int) : Calls Tryd.prog 49 #[.int .i64 z] U (fun e w' => e = .returned (.bool (!inB z)) ∧ After U w') := by
  by_cases h1 : z < -32768
  · go_enter Tryd.func49, Tryd.ntmps49
    go_wp2_with fail
    go_ret
    exact ⟨ret_bool (by unfold inB; simp; omega), inferInstance⟩
  · by_cases h2 : 32767 < z
    all_goals
      go_enter Tryd.func49, Tryd.ntmps49
      go_wp2_with fail
      go_ret
      exact ⟨ret_bool (by unfold inB; simp; omega), inferInstance⟩
theorem lit_types {w0 : World} {A c A' c' m} (x : RIm w0 A c A' c' m) (U : World) (hU : After w0 U) (gi : Nat) (h0 : U.cell? ⟨gi, 0, none⟩ = some (.slice A m.enums.length c)) (h1 : U.cell? ⟨gi, 1, none⟩ = some (.slice A' m.rts.length c')) (z : Int) (hz : z ≤ 9223372036854775807) :
    Calls Tryd.prog 47 #[.int .i64 z, .pointer (some ⟨gi, 0, none⟩)] U (fun e w' => e = .returned (.bool (!validB m.enums.length z)) ∧ After U w') := by
  have HV := Lib.hid (valid_any x U hU z hz)
  obtain ⟨q, hq⟩ : ∃ q, validB m.enums.length z = q := ⟨_, rfl⟩
  rw [hq] at HV ⊢
  clear x hq
  go_enter Tryd.func47, Tryd.ntmps47
  go_wp2_with fail
  refine HV.out.mono ?_
  rintro e w2 ⟨rfl, a2⟩
  go_wp2_with fail
  go_ret
  exact ⟨rfl, a2⟩
end Go.Proofs.YtgmojjdojcmnaaaDoor
