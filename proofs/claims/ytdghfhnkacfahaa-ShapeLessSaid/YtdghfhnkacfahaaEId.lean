/-
  Contracts: lex.Ident of the program and of the reference.
-/
import Derived.Test.YtdghfhnkacfahaaELex
import Derived.Lib.RabinKarpLaws
set_option linter.unusedVariables false
set_option linter.unusedSimpArgs false
namespace Go.Proofs.Ytdghfhnkacfahaa
open Go.RowKit Go.BigFrame

/-- is a text an identifier -/
def identB (s : ByteArray) : Bool := decide (0 < s.size) && decide (s.size ≤ 40) && letterI (s.data.toList.headD 0).toNat && s.data.toList.all (fun c => innerI c.toNat) && !kwB s
theorem head_at {s : ByteArray} (h : 0 < s.size) : s.data.toList.headD 0 = s[0] := by
  have := byte_at (k := 0) h
  rw [List.headD_eq_head?_getD, List.head?_eq_getElem?, this]; rfl
theorem toList_data (s : ByteArray) : s.toList = s.data.toList := ByteArray.toList_eq s
theorem toList_ne {s : ByteArray} (h : 0 < s.size) : s.toList.isEmpty = false := by
  rw [toList_data]
  have h1 : s.data.toList.length = s.size := (bytes_size rfl).symm
  cases e : s.data.toList with
  | nil => rw [e] at h1; simp at h1; omega
  | cons a l => rfl
theorem empty_of {s : ByteArray} (h : s.size = 0) : s = ⟨#[]⟩ := by
  have h1 : s.data.toList.length = s.size := (bytes_size rfl).symm
  rw [h] at h1
  exact bytes_eq (List.eq_nil_of_length_eq_zero h1)
theorem all_no {s : ByteArray} {k : Nat} (h : k < s.size) (hc : innerI s[k].toNat = false) : s.data.toList.all (fun c => innerI c.toNat) = false := by
  rw [List.all_eq_false]
  obtain ⟨hj, e⟩ := List.getElem?_eq_some_iff.1 (byte_at h)
  exact ⟨s[k], by rw [← e]; exact List.getElem_mem hj, by simp [hc]⟩
theorem all_yes {s : ByteArray} (h : ∀ k (hk : k < s.size), innerI s[k].toNat = true) : s.data.toList.all (fun c => innerI c.toNat) = true := by
  rw [List.all_eq_true]
  intro c hc
  obtain ⟨j, hj, rfl⟩ := List.getElem_of_mem hc
  have h1 : s.data.toList.length = s.size := (bytes_size rfl).symm
  have hk : j < s.size := by omega
  have e := byte_at hk
  rw [List.getElem?_eq_getElem hj] at e
  injection e with e
  rw [e]; exact h j hk

set_option maxHeartbeats 1600000 in
theorem ident_any (s : ByteArray) (hs : s.size ≤ 140737488355328) (w : World) : Calls Try.prog 74 #[.string s] w fun e w' => e = .returned (.bool (identB s)) ∧ After w w' := by
  by_cases h0 : s.size = 0
  · have := empty_of h0
    subst this
    go_enter Try.func74, Try.ntmps74
    go_wp2_with fail
    go_ret
    exact ⟨rfl, inferInstance⟩
  · have hp : 0 < s.size := by omega
    have hne := toList_ne hp
    have hI : (0 : Int) < (s.size : Int) := by omega
    have HP := Lib.hid hp
    by_cases h40 : 40 < s.size
    · have h4I : (40 : Int) < (s.size : Int) := by omega
      have HF : Hid (identB s = false) := by show _ = _; unfold identB; rw [show decide (s.size ≤ 40) = false by simpa using h40]; simp
      go_enter Try.func74, Try.ntmps74
      go_wp2_with fail
      go_ret
      exact ⟨ret_bool (by rw [HF.out]), inferInstance⟩
    · have h4I : (s.size : Int) ≤ 40 := by omega
      obtain ⟨a, ha⟩ : ∃ a, letterI (s[0].toNat : Int) = a := ⟨_, rfl⟩
      obtain ⟨q, hq⟩ : ∃ q, kwB s = q := ⟨_, rfl⟩
      have HD : Hid (identB s = (a && s.data.toList.all (fun c => innerI c.toNat) && !q)) := by
        have e9 : letterI ((s.data.toList.headD 0).toNat : Int) = a := by rw [head_at hp]; exact ha
        show _ = _; unfold identB; rw [e9, hq, show decide (s.size ≤ 40) = true by simp; omega, show decide (0 < s.size) = true by simpa using hp]; simp
      have G1 : Hid (∀ U, Calls Try.prog 92 #[.int .u8 (s[0].toNat : Nat)] U fun e w' => e = .returned (.bool a) ∧ After U w') := fun U => ha ▸ letter_any _ U
      have G2 : Hid (∀ U, Calls Try.prog 93 #[.string s] U fun e w' => e = .returned (.bool q) ∧ After U w') := fun U => hq ▸ keyword_any s U
      clear ha hq
      cases a
      · go_enter Try.func74, Try.ntmps74
        go_wp2_with fail
        refine (G1.out _).mono ?_
        rintro e w1 ⟨rfl, hw1⟩
        have kw1 : After w w1 := hw1
        clear hw1
        go_wp2_with fail
        go_ret
        exact ⟨ret_bool (by rw [HD.out]; rfl), kw1⟩
      · cases q
        · go_enter Try.func74, Try.ntmps74
          go_wp2_with fail
          refine (G1.out _).mono ?_
          rintro e w1 ⟨rfl, hw1⟩
          have kw1 : After w w1 := hw1
          clear hw1
          go_wp2_with fail
          refine (G2.out _).mono ?_
          rintro e w2 ⟨rfl, hw2⟩
          have kw2 : After w w2 := after_after kw1 hw2
          clear hw2
          go_wp2_with fail
          go_loopw [23] (fun i wr => ∃ k : Nat, k ≤ s.size ∧ i = .int .i64 (k : Nat) ∧ Hid (∀ j (hj : j < s.size), j < k → innerI s[j].toNat = true) ∧ After w wr) (fun i _ => s.size - (intOf i).toNat)
          case atStart => exact ⟨0, by omega, rfl, fun j _ h => by omega, kw2⟩
          case round =>
            obtain ⟨k, hk, rfl, HA, kr⟩ := hrel
            by_cases hlt : k < s.size
            · have hltI : (k : Int) < (s.size : Int) := by omega
              obtain ⟨b, hb⟩ : ∃ b, innerI (s[k].toNat : Int) = b := ⟨_, rfl⟩
              have G3 : Hid (∀ U, Calls Try.prog 94 #[.int .u8 (s[k].toNat : Nat)] U fun e w' => e = .returned (.bool b) ∧ After U w') := fun U => hb ▸ inner_any _ U
              have HB := Lib.hid hb
              clear hb
              cases b
              · go_wp2_with fail
                refine (G3.out _).mono ?_
                rintro e w5 ⟨rfl, hw5⟩
                have kw5 : After w w5 := after_after kr hw5
                clear hw5
                have HF : Hid (identB s = false) := by show _ = _; rw [HD.out, all_no hlt HB.out]; simp
                go_wp2_with fail
                go_ret
                exact ⟨ret_bool (by rw [HF.out]), kw5⟩
              · go_wp2_with fail
                refine (G3.out _).mono ?_
                rintro e w5 ⟨rfl, hw5⟩
                have kw5 : After w w5 := after_after kr hw5
                clear hw5
                go_wp2_with fail
                go_roundw
                case rel => exact ⟨k + 1, by omega, by go_num, fun j hj h => by
                    rcases Nat.lt_or_ge j k with h_ | h_
                    · exact HA.out j hj h_
                    · obtain rfl : j = k := by omega
                      exact HB.out, kw5⟩
                case measure => simp [intOf]; omega
            · obtain rfl : k = s.size := by omega
              have hall := all_yes (s := s) (fun j hj => HA.out j hj hj)
              have HF : Hid (identB s = true) := by show _ = _; rw [HD.out, hall]; rfl
              go_wp2_with fail
              go_ret
              exact ⟨ret_bool (by rw [HF.out]), kr⟩
        · go_enter Try.func74, Try.ntmps74
          go_wp2_with fail
          refine (G1.out _).mono ?_
          rintro e w1 ⟨rfl, hw1⟩
          have kw1 : After w w1 := hw1
          clear hw1
          go_wp2_with fail
          refine (G2.out _).mono ?_
          rintro e w2 ⟨rfl, hw2⟩
          have kw2 : After w w2 := after_after kw1 hw2
          clear hw2
          go_wp2_with fail
          go_ret
          exact ⟨ret_bool (by rw [HD.out]; simp), kw2⟩

/-- a list of texts that a call makes -/
structure RSt (w : World) (A : Option Addr) (c : Nat) (l : List ByteArray) : Prop where
  cells : ∀ k s, l[k]? = some s → ∃ b o, A = some ⟨b, o, none⟩ ∧ b < w.heap.size ∧ w.cell? ⟨b, o + k, none⟩ = some (.string s)
  le : l.length ≤ c
  cap : c ≤ 9223372036854775807
  len : l.length ≤ 140737488355328
theorem RSt.below {w w' : World} {A c l} (h : RSt w A c l) (hb : Below w.heap.size w w') : RSt w' A c l := by
  refine ⟨fun k s hk => ?_, h.le, h.cap, h.len⟩
  obtain ⟨b, o, e, hlt, hc⟩ := h.cells k s hk
  exact ⟨b, o, e, Nat.lt_of_lt_of_le hlt hb.size, (hb.cell (p := ⟨b, o + k, none⟩) hlt).trans hc⟩
theorem RSt.here {w0 : World} {A c l} (h : RSt w0 A c l) (w : World) [k : After w0 w] : RSt w A c l := h.below k.below
theorem RSt.nil (w : World) : RSt w none 0 [] := ⟨fun k s h => by simp at h, by simp, by decide, by simp⟩
theorem RSt.at_ {w : World} {A c l} (h : RSt w A c l) {k : Nat} (hk : k < l.length) : ∃ b o s, A = some ⟨b, o, none⟩ ∧ Le (b + 1) w ∧ w.cell? ⟨b, o + k, none⟩ = some (.string s) ∧ Hid (l[k]? = some s) := by
  obtain ⟨b, o, e, hlt, hc⟩ := h.cells k _ (List.getElem?_eq_getElem hk)
  exact ⟨b, o, _, e, ⟨hlt⟩, hc, List.getElem?_eq_getElem hk⟩
theorem RSt.of_blk {w : World} {g : Nat} {t : TypeId} {l : List ByteArray} (h : Blk w g t (l.map Value.string).toArray) (hl : l.length ≤ 2000000) : RSt w (some ⟨g, 0, none⟩) l.length l := by
  refine ⟨fun k s hk => ⟨g, 0, rfl, h.lt, ?_⟩, Nat.le_refl _, by omega, by omega⟩
  rw [Nat.zero_add, h.cell]
  simp [hk]
def kwsS : List ByteArray := [⟨#[97, 115, 115, 117, 109, 101]⟩, ⟨#[97, 110, 100]⟩, ⟨#[97, 117, 116, 111, 109, 97, 116, 111, 110]⟩, ⟨#[98, 111, 111, 108]⟩, ⟨#[99, 111, 110, 116, 105, 110, 117, 101]⟩, ⟨#[100, 111]⟩, ⟨#[100, 111, 110, 101]⟩, ⟨#[101, 108, 115, 101]⟩, ⟨#[101, 110, 100]⟩, ⟨#[101, 110, 115, 117, 114, 101]⟩, ⟨#[101, 118, 101, 114, 121]⟩, ⟨#[102, 97, 108, 115, 101]⟩, ⟨#[102, 98, 121]⟩, ⟨#[105, 102]⟩, ⟨#[105, 110, 116]⟩, ⟨#[108, 101, 116]⟩, ⟨#[109, 101, 114, 103, 101]⟩, ⟨#[109, 111, 100]⟩, ⟨#[110, 111, 100, 101]⟩, ⟨#[110, 111, 116]⟩, ⟨#[111, 114]⟩, ⟨#[112, 114, 101]⟩, ⟨#[114, 101, 116, 117, 114, 110, 115]⟩, ⟨#[115, 116, 97, 116, 101]⟩, ⟨#[116, 101, 108]⟩, ⟨#[116, 104, 101, 110]⟩, ⟨#[116, 114, 117, 101]⟩, ⟨#[116, 121, 112, 101]⟩, ⟨#[117, 110, 108, 101, 115, 115]⟩, ⟨#[117, 110, 116, 105, 108]⟩, ⟨#[118, 97, 114]⟩, ⟨#[119, 104, 101, 110]⟩, ⟨#[120, 111, 114]⟩]
theorem kwsS_is : kwsS.map (fun s => s.data.toList) = kws := rfl
theorem kwB_is (s : ByteArray) : kwB s = kwsS.any fun k => k.toList == s.toList := by
  unfold kwB
  rw [← kwsS_is, List.any_map]
  congr 1
  funext k
  simp only [Function.comp, toList_data k]
  exact Bool.eq_iff_iff.2 (by simp only [beq_iff_eq]; exact eq_comm)
theorem keywords_any (w : World) : Calls Try.prog 102 #[] w fun e w' => ∃ A, e = .returned (.slice A 33 33) ∧ RSt w' A 33 kwsS ∧ After w w' := by
  go_enter Try.func102, Try.ntmps102
  go_wp2
  go_ret
  exact ⟨_, rfl, RSt.of_blk (l := kwsS) (Blk.new _ _ _) (by decide), inferInstance⟩
set_option maxHeartbeats 800000 in
theorem rkeyword_any (s : ByteArray) (w : World) : Calls Try.prog 84 #[.string s] w fun e w' => e = .returned (.bool (kwB s)) ∧ After w w' := by
  have HK := Lib.hid (kwB_is s)
  have hlen : kwsS.length = 33 := rfl
  have HL := Lib.hid hlen
  clear hlen
  go_enter Try.func84, Try.ntmps84
  go_wp2_with fail
  refine (keywords_any _).mono ?_
  rintro e w1 ⟨A, rfl, x, k1⟩
  have X := Lib.hid x
  have K1 : After w w1 := k1
  clear x k1
  go_wp2_with fail
  go_loopw [4] (fun i wr => ∃ k : Nat, k ≤ 33 ∧ i = .int .i64 (k : Nat) ∧ Hid (∀ j t, j < k → kwsS[j]? = some t → (t.toList == s.toList) = false) ∧ After w1 wr) (fun i _ => 33 - (intOf i).toNat)
  case atStart => exact ⟨0, by omega, rfl, fun j t h => by omega, inferInstance⟩
  case round =>
    obtain ⟨k, hk, rfl, HA, kr⟩ := hrel
    have Kr : After w wr := after_after K1 kr
    by_cases hlt : k < 33
    · have hltI : (k : Int) < 33 := by omega
      obtain ⟨b, o, t, rfl, hb, hc, HT⟩ := (X.out.here wr).at_ (k := k) (by rw [HL.out]; exact hlt)
      cases h : (t.toList == s.toList)
      · have HB := Lib.hid h
        go_wp2_with fail
        go_roundw
        case rel => exact ⟨k + 1, by omega, by go_num, fun j u h1 h2 => by
            rcases Nat.lt_or_ge j k with h_ | h_
            · exact HA.out j u h_ h2
            · obtain rfl : j = k := by omega
              rw [HT.out] at h2; cases h2; exact HB.out, kr⟩
        case measure => simp [intOf]; omega
      · have HF : Hid (kwB s = true) := by
          show _ = _
          rw [HK.out, List.any_eq_true]
          exact ⟨t, List.mem_of_getElem? HT.out, h⟩
        go_wp2_with fail
        go_ret
        exact ⟨ret_bool (by rw [HF.out]), Kr⟩
    · obtain rfl : k = 33 := by omega
      have HF : Hid (kwB s = false) := by
        show _ = _
        rw [HK.out, List.any_eq_false]
        intro t ht
        obtain ⟨j, hj, e⟩ := List.getElem_of_mem ht
        have := HA.out j t (by rw [← HL.out]; exact hj) (by rw [List.getElem?_eq_getElem hj, e])
        rw [this]; simp
      go_wp2_with fail
      go_ret
      exact ⟨ret_bool (by rw [HF.out]), Kr⟩

set_option maxHeartbeats 1600000 in
theorem rident_any (s : ByteArray) (hs : s.size ≤ 140737488355328) (w : World) : Calls Try.prog 48 #[.string s] w fun e w' => e = .returned (.bool (identB s)) ∧ After w w' := by
  by_cases h0 : s.size = 0
  · have := empty_of h0
    subst this
    go_enter Try.func48, Try.ntmps48
    go_wp2_with fail
    go_ret
    exact ⟨rfl, inferInstance⟩
  · have hp : 0 < s.size := by omega
    have hne := toList_ne hp
    have hI : (0 : Int) < (s.size : Int) := by omega
    have HP := Lib.hid hp
    by_cases h40 : 40 < s.size
    · have h4I : (40 : Int) < (s.size : Int) := by omega
      have HF : Hid (identB s = false) := by show _ = _; unfold identB; rw [show decide (s.size ≤ 40) = false by simpa using h40]; simp
      go_enter Try.func48, Try.ntmps48
      go_wp2_with fail
      go_ret
      exact ⟨ret_bool (by rw [HF.out]), inferInstance⟩
    · have h4I : (s.size : Int) ≤ 40 := by omega
      obtain ⟨a, ha⟩ : ∃ a, letterI (s[0].toNat : Int) = a := ⟨_, rfl⟩
      obtain ⟨q, hq⟩ : ∃ q, kwB s = q := ⟨_, rfl⟩
      have HD : Hid (identB s = (a && s.data.toList.all (fun c => innerI c.toNat) && !q)) := by
        have e9 : letterI ((s.data.toList.headD 0).toNat : Int) = a := by rw [head_at hp]; exact ha
        show _ = _; unfold identB; rw [e9, hq, show decide (s.size ≤ 40) = true by simp; omega, show decide (0 < s.size) = true by simpa using hp]; simp
      have G1 : Hid (∀ U, Calls Try.prog 82 #[.int .u8 (s[0].toNat : Nat)] U fun e w' => e = .returned (.bool a) ∧ After U w') := fun U => ha ▸ rletter_any _ U
      have G2 : Hid (∀ U, Calls Try.prog 84 #[.string s] U fun e w' => e = .returned (.bool q) ∧ After U w') := fun U => hq ▸ rkeyword_any s U
      clear ha hq
      cases a
      · go_enter Try.func48, Try.ntmps48
        go_wp2_with fail
        refine (G1.out _).mono ?_
        rintro e w1 ⟨rfl, hw1⟩
        have kw1 : After w w1 := hw1
        clear hw1
        go_wp2_with fail
        go_ret
        exact ⟨ret_bool (by rw [HD.out]; rfl), kw1⟩
      · go_enter Try.func48, Try.ntmps48
        go_wp2_with fail
        refine (G1.out _).mono ?_
        rintro e w1 ⟨rfl, hw1⟩
        have kw1 : After w w1 := hw1
        clear hw1
        go_wp2_with fail
        go_loopw [3] (fun i wr => ∃ k : Nat, k ≤ s.size ∧ i = .int .i64 (k : Nat) ∧ Hid (∀ j (hj : j < s.size), j < k → innerI s[j].toNat = true) ∧ After w wr) (fun i _ => s.size - (intOf i).toNat)
        case atStart => exact ⟨0, by omega, rfl, fun j _ h => by omega, kw1⟩
        case round =>
          obtain ⟨k, hk, rfl, HA, kr⟩ := hrel
          by_cases hlt : k < s.size
          · have hltI : (k : Int) < (s.size : Int) := by omega
            obtain ⟨b, hb⟩ : ∃ b, innerI (s[k].toNat : Int) = b := ⟨_, rfl⟩
            have G3 : Hid (∀ U, Calls Try.prog 83 #[.int .u8 (s[k].toNat : Nat)] U fun e w' => e = .returned (.bool b) ∧ After U w') := fun U => hb ▸ rinner_any _ U
            have HB := Lib.hid hb
            clear hb
            cases b
            · go_wp2_with fail
              refine (G3.out _).mono ?_
              rintro e w5 ⟨rfl, hw5⟩
              have kw5 : After w w5 := after_after kr hw5
              clear hw5
              have HF : Hid (identB s = false) := by show _ = _; rw [HD.out, all_no hlt HB.out]; simp
              go_wp2_with fail
              go_ret
              exact ⟨ret_bool (by rw [HF.out]), kw5⟩
            · go_wp2_with fail
              refine (G3.out _).mono ?_
              rintro e w5 ⟨rfl, hw5⟩
              have kw5 : After w w5 := after_after kr hw5
              clear hw5
              go_wp2_with fail
              go_roundw
              case rel => exact ⟨k + 1, by omega, by go_num, fun j hj h => by
                  rcases Nat.lt_or_ge j k with h_ | h_
                  · exact HA.out j hj h_
                  · obtain rfl : j = k := by omega
                    exact HB.out, kw5⟩
              case measure => simp [intOf]; omega
          · obtain rfl : k = s.size := by omega
            have hall := all_yes (s := s) (fun j hj => HA.out j hj hj)
            have HF : Hid (identB s = !q) := by show _ = _; rw [HD.out, hall]; simp
            go_wp2_with fail
            refine (G2.out _).mono ?_
            rintro e w2 ⟨rfl, hw2⟩
            have kw2 : After w w2 := after_after kr hw2
            clear hw2
            go_wp2_with fail
            go_ret
            exact ⟨ret_bool (by rw [HF.out]), kw2⟩
end Go.Proofs.Ytdghfhnkacfahaa
