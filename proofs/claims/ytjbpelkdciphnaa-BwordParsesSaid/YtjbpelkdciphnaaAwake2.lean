/-
  Contracts of the law's own helpers (synchronylaw02): huge, awake.
-/
import Derived.Test.YtjbpelkdciphnaaLawWord2
import Derived.Test.YtjbpelkdciphnaaCalc
import Derived.Test.YtjbpelkdciphnaaRNorm
import Derived.Test.YtjbpelkdciphnaaOn
import Derived.Test.YtjbpelkdciphnaaAnd
import Derived.Test.YtjbpelkdciphnaaText
set_option linter.unusedVariables false
set_option linter.unusedSimpArgs false
namespace Go.Proofs.Ytjbpelkdciphnaa
open Go.RowKit Go.BigFrame
attribute [local go_sem ↓] Go.wp_at_zero Go.wp_at_succ

def hugeB (h l : List Bool) : Bool := decide (300 < (h.length : Int) + (l.length : Int))
theorem huge_any {w0 : World} {A B c d h l} (x : RW w0 A c B d h l) (w : World) [After w0 w] :
    Calls Try.prog 12 #[.agg #[.slice A h.length c, .slice B l.length d]] w fun e w' => e = .returned (.bool (hugeB h l)) ∧ ∃ y, w' = w.more y := by
  obtain ⟨b1, b2⟩ := x.lens
  go_enter Try.func12, Try.ntmps12
  go_wp2
  go_ret
  exact ⟨rfl, After.is_more _ _⟩

theorem word_lit {s1 s2 : ByteArray} {l1 l2 : List Bool} (e1 : bits s1 = l1) (e2 : bits s2 = l2) (h1 : s1.size ≤ 1000000) (h2 : s2.size ≤ 1000000) (n1 n2 : Nat) (k1 : l1.length = n1) (k2 : l2.length = n2) (w : World) :
    Calls Try.prog 18 #[.string s1, .string s2] w fun e w' => ∃ A c B d, e = .returned (.agg #[.slice A n1 c, .slice B n2 d]) ∧ RW w' A c B d l1 l2 ∧ ∃ y, w' = w.more y := by
  subst e1 e2 k1 k2; exact word_any s1 s2 h1 h2 w
section
variable {w0 : World} {A : Option Addr} {c : Nat} {B : Option Addr} {d : Nat} {h l : List Bool} {A' : Option Addr} {c' : Nat} {B' : Option Addr} {d' : Nat} {h' l' : List Bool}
theorem on_lit (x : RW w0 A c B d h l) (x' : RW w0 A' c' B' d' h' l') (w : World) [After w0 w] {n m n' m' : Nat} (hn : h.length = n) (hm : l.length = m) (hn' : h'.length = n') (hm' : l'.length = m') {H L : List Bool} {e : Int} (he : onW h l h' l' = ((H, L), e)) {p q : Nat} (hp : H.length = p) (hq : L.length = q) :
    Calls Try.prog 14 #[.agg #[.slice A n c, .slice B m d], .agg #[.slice A' n' c', .slice B' m' d']] w fun r w' => ∃ A5 c5 B5 d5, r = .returned (.tuple #[.agg #[.slice A5 p c5, .slice B5 q d5], .int .i64 e]) ∧ RW w' A5 c5 B5 d5 H L ∧ ∃ y, w' = w.more y := by
  subst hn hm hn' hm' hp hq; have := on_any x x' w; rwa [he] at this
theorem and_lit (x : RW w0 A c B d h l) (x' : RW w0 A' c' B' d' h' l') (w : World) [After w0 w] {n m n' m' : Nat} (hn : h.length = n) (hm : l.length = m) (hn' : h'.length = n') (hm' : l'.length = m') {H L : List Bool} {e : Int} (he : andW h l h' l' = ((H, L), e)) {p q : Nat} (hp : H.length = p) (hq : L.length = q) :
    Calls Try.prog 27 #[.agg #[.slice A n c, .slice B m d], .agg #[.slice A' n' c', .slice B' m' d']] w fun r w' => ∃ A5 c5 B5 d5, r = .returned (.tuple #[.agg #[.slice A5 p c5, .slice B5 q d5], .int .i64 e]) ∧ RW w' A5 c5 B5 d5 H L ∧ ∃ y, w' = w.more y := by
  subst hn hm hn' hm' hp hq; have := and_any x x' w; rwa [he] at this
theorem norm_lit (x : RW w0 A c B d h l) (w : World) [After w0 w] {n m : Nat} (hn : h.length = n) (hm : l.length = m) {H L : List Bool} (he : normW h l = (H, L)) {p q : Nat} (hp : H.length = p) (hq : L.length = q) :
    Calls Try.prog 20 #[.agg #[.slice A n c, .slice B m d]] w fun r w' => ∃ A5 c5 B5 d5, r = .returned (.agg #[.slice A5 p c5, .slice B5 q d5]) ∧ RW w' A5 c5 B5 d5 H L ∧ ∃ y, w' = w.more y := by
  subst hn hm hp hq; have := norm_any x w; rwa [he] at this
theorem text_lit (x : RW w0 A c B d h l) (w : World) [After w0 w] {n m : Nat} (hn : h.length = n) (hm : l.length = m) {t : List UInt8} {e : Int} (he : textV h l = (t, e)) :
    Calls Try.prog 35 #[.agg #[.slice A n c, .slice B m d]] w fun r w' => r = .returned (.tuple #[.string ⟨t.toArray⟩, .int .i64 e]) ∧ ∃ y, w' = w.more y := by
  subst hn hm; have := text_any x w; rwa [he] at this
theorem ones_lit (x : RW w0 A c B d h l) (w : World) [After w0 w] {n m : Nat} (hn : h.length = n) (hm : l.length = m) (k : Int) (hk : k ≤ 1099511627776) {v : Int} (he : onesI h l k = v) :
    Calls Try.prog 17 #[.agg #[.slice A n c, .slice B m d], .int .i64 k] w fun r w' => r = .returned (.int .i64 v) ∧ ∃ y, w' = w.more y := by
  subst hn hm; have := ones_any x w k hk; rwa [he] at this
theorem equal_lit (x : RW w0 A c B d h l) (x' : RW w0 A' c' B' d' h' l') (w : World) [After w0 w] {n m n' m' : Nat} (hn : h.length = n) (hm : l.length = m) (hn' : h'.length = n') (hm' : l'.length = m') {v : Bool} (he : (h == h' && l == l') = v) :
    Calls Try.prog 16 #[.agg #[.slice A n c, .slice B m d], .agg #[.slice A' n' c', .slice B' m' d']] w fun r w' => r = .returned (.bool v) ∧ ∃ y, w' = w.more y := by
  subst hn hm hn' hm'; have := requal_any x x' w; rwa [he] at this
end
theorem ex_on : onW [] [true, false] [false] [true] = (([false], [false, true]), 0) := by
  have hp : W.Per (W.onF [] [true, false] [false] [true]) 2 (1 * 2) := W.onF_per (h := []) (l := [true, false]) (h' := [false]) (l' := [true]) (by decide) (by decide) (by decide) ⟨1, by decide⟩
  have e : W.nf (W.onF [] [true, false] [false] [true]) = ([false], [false, true]) := by rw [nf_calcF (by decide) hp]; decide +kernel
  rw [onW_ok ⟨by decide, by decide⟩ ⟨by decide, by decide⟩, fitW_yes (by unfold Fits; rw [e]; decide), e]
theorem ex_and : andW [] [true, false] [] [true, true, false] = (([], [true, false, false, false, true, false]), 0) := by
  have hp : W.Per (W.andF [] [true, false] [] [true, true, false]) 0 6 := W.andF_per (h := []) (l := [true, false]) (h' := []) (l' := [true, true, false]) (by decide) (by decide) ⟨3, rfl⟩ ⟨2, rfl⟩
  have e : W.nf (W.andF [] [true, false] [] [true, true, false]) = ([], [true, false, false, false, true, false]) := by rw [nf_calcF (by decide) hp]; decide +kernel
  rw [andW_ok ⟨by decide, by decide⟩ ⟨by decide, by decide⟩, fitW_yes (by unfold Fits; rw [e]; decide), e]
theorem ex_norm : normW [true, false] [true, false, true, false] = ([], [true, false]) := by
  rw [normW_ok ⟨by decide, by decide⟩, nf_calc (by decide)]; decide +kernel
theorem ex_text : textV [true] [false, true] = ([49, 40, 48, 49, 41], 0) := by
  rw [textV_ok ⟨by decide, by decide⟩]; rfl

set_option maxHeartbeats 3200000 in
set_option maxRecDepth 100000 in
theorem awake_any (w : World) : Calls Try.prog 13 #[] w fun e w' => e = .returned (.bool true) ∧ ∃ y, w' = w.more y := by
  go_enter Try.func13, Try.ntmps13
  go_wp2_with fail
  refine (word_lit (l1 := []) (l2 := [true, false]) (by decide) (by decide) (by decide) (by decide) 0 2 rfl rfl _).mono ?_
  rintro e w1 ⟨A1, c1, B1, d1, rfl, x1, hy⟩
  have a1 : After w w1 := after_of_more hy inferInstance
  clear hy
  go_wp2_with fail
  refine (word_lit (l1 := [false]) (l2 := [true]) (by decide) (by decide) (by decide) (by decide) 1 1 rfl rfl _).mono ?_
  rintro e w2 ⟨A2, c2, B2, d2, rfl, x2, hy⟩
  have b2 : After w1 w2 := after_of_more hy inferInstance
  have a2 : After w w2 := after_after a1 b2
  clear hy
  go_wp2_with fail
  refine (on_lit (x1.here w2) x2 _ rfl rfl rfl rfl ex_on (p := 1) (q := 2) rfl rfl).mono ?_
  rintro e w3 ⟨A3, c3, B3, d3, rfl, x3, hy⟩
  have a3 : After w w3 := after_after a2 (after_of_more hy inferInstance)
  clear hy x1 x2 b2
  go_wp2_with fail
  obtain ⟨g1, hg1⟩ : ∃ g, w3.heap.size = g := ⟨_, rfl⟩
  obtain ⟨U3, hU3, aU3, K1⟩ : ∃ U, w3.alloc (.cells #[.slice A3 1 c3, .slice B3 2 d3] 24) = U ∧ After w3 U ∧ Hid (∀ V, After U V → V.cell? ⟨g1, 0, none⟩ = some (.slice A3 1 c3) ∧ V.cell? ⟨g1, 1, none⟩ = some (.slice B3 2 d3)) := by
    refine ⟨_, rfl, inferInstance, fun V k => ?_⟩
    have := (Blk.new w3 24 #[.slice A3 1 c3, .slice B3 2 d3]).after (w' := V)
    rw [hg1] at this
    exact ⟨by rw [this.cell]; rfl, by rw [this.cell]; rfl⟩
  rw [hU3, hg1]
  clear hU3 hg1
  have aU3w : After w U3 := after_after a3 aU3
  refine (word_lit (l1 := []) (l2 := [true, false]) (by decide) (by decide) (by decide) (by decide) 0 2 rfl rfl _).mono ?_
  rintro e w4 ⟨A4, c4, B4, d4, rfl, x4, hy⟩
  have b4 : After U3 w4 := after_of_more hy inferInstance
  have a4 : After w w4 := after_after aU3w b4
  clear hy
  go_wp2_with fail
  refine (word_lit (l1 := []) (l2 := [true, true, false]) (by decide) (by decide) (by decide) (by decide) 0 3 rfl rfl _).mono ?_
  rintro e w5 ⟨A5, c5, B5, d5, rfl, x5, hy⟩
  have b5 : After w4 w5 := after_of_more hy inferInstance
  have a5 : After w w5 := after_after a4 b5
  clear hy
  go_wp2_with fail
  refine (and_lit (x4.here w5) x5 _ rfl rfl rfl rfl ex_and (p := 0) (q := 6) rfl rfl).mono ?_
  rintro e w6 ⟨A6, c6, B6, d6, rfl, x6, hy⟩
  have b6 : After U3 w6 := after_after b4 (after_after b5 (after_of_more hy inferInstance))
  clear hy x4 x5
  go_wp2_with fail
  obtain ⟨g2, hg2⟩ : ∃ g, w6.heap.size = g := ⟨_, rfl⟩
  obtain ⟨U6, hU6, aU6, KK⟩ : ∃ U, w6.alloc (.cells #[.slice A6 0 c6, .slice B6 6 d6] 24) = U ∧ After w6 U ∧ Hid (∀ V, After U V → V.cell? ⟨g1, 0, none⟩ = some (.slice A3 1 c3) ∧ V.cell? ⟨g1, 1, none⟩ = some (.slice B3 2 d3) ∧ V.cell? ⟨g2, 0, none⟩ = some (.slice A6 0 c6) ∧ V.cell? ⟨g2, 1, none⟩ = some (.slice B6 6 d6)) := by
    refine ⟨_, rfl, inferInstance, fun V k => ?_⟩
    have := (Blk.new w6 24 #[.slice A6 0 c6, .slice B6 6 d6]).after (w' := V)
    rw [hg2] at this
    have k1 := K1.out V (after_after b6 (after_after inferInstance k))
    exact ⟨k1.1, k1.2, by rw [this.cell]; rfl, by rw [this.cell]; rfl⟩
  rw [hU6, hg2]
  clear hU6 hg2
  have aU6w : After w U6 := after_after aU3w (after_after b6 aU6)
  have X3 : Hid (∀ V, After U6 V → RW V A3 c3 B3 d3 [false] [false, true]) := fun V k => by
    have k2 : After w3 V := after_after aU3 (after_after b6 (after_after aU6 k))
    exact x3.here V
  have X6 : Hid (∀ V, After U6 V → RW V A6 c6 B6 d6 [] [true, false, false, false, true, false]) := fun V k => by
    have k2 : After w6 V := after_after aU6 k
    exact x6.here V
  clear x3 x6 K1 a4 a5 b4 b5 b6 aU3
  refine (word_lit (l1 := [true]) (l2 := [false, true]) (by decide) (by decide) (by decide) (by decide) 1 2 rfl rfl _).mono ?_
  rintro e w7 ⟨A7, c7, B7, d7, rfl, x7, hy⟩
  have b7 : After U6 w7 := after_of_more hy inferInstance
  have a7 : After w w7 := after_after aU6w b7
  clear hy
  go_wp2_with fail
  refine (text_lit x7 _ rfl rfl ex_text).mono ?_
  rintro e w8 ⟨rfl, hy⟩
  have b8 : After U6 w8 := after_after b7 (after_of_more hy inferInstance)
  clear hy x7 a7 b7
  go_wp2_with fail
  obtain ⟨q0, q1, q2, q3⟩ := KK.out w8 b8
  have t5 : ((⟨#[49, 40, 48, 49, 41]⟩ : ByteArray) == ⟨#[49, 40, 48, 49, 41]⟩) = true := by decide
  have tk1 : True := trivial
  have tk2 : True := trivial
  have tk3 : True := trivial
  have tk4 : True := trivial
  have tk5 : True := trivial
  have tk6 : True := trivial
  have tk7 : True := trivial
  have tk8 : True := trivial
  have tk9 : True := trivial
  have tk10 : True := trivial
  go_region_held3 (fun V => V.cell? ⟨g1, 0, none⟩ = some (.slice A3 1 c3) ∧ V.cell? ⟨g1, 1, none⟩ = some (.slice B3 2 d3) ∧ V.cell? ⟨g2, 0, none⟩ = some (.slice A6 0 c6) ∧ V.cell? ⟨g2, 1, none⟩ = some (.slice B6 6 d6)) (exact KK.out _ inferInstance)
    (first
      | (have _t := tk1; go_at_call 18; refine (word_lit (l1 := [false]) (l2 := [false, true]) (by decide) (by decide) (by decide) (by decide) 1 2 rfl rfl _).mono ?_; rintro e v1 ⟨Ap1, cp1, Bp1, dp1, rfl, xp1, hy⟩; have bp1 : After w8 v1 := after_of_more hy inferInstance; have up1 : After U6 v1 := after_of_more hy (after_after b8 inferInstance); have u_v1 : After U6 v1 := up1; clear hy _t tk1)
      | (have _t := tk2; go_at_call 16; refine (equal_lit (X3.out _ inferInstance) xp1 _ rfl rfl rfl rfl (v := true) (by decide)).mono ?_; rintro e v2 ⟨rfl, hy⟩; have u_v2 : After U6 v2 := after_of_more hy (after_after u_v1 inferInstance); clear hy _t tk2)
      | (have _t := tk3; go_at_call 18; refine (word_lit (l1 := []) (l2 := [true, false, false, false, true, false]) (by decide) (by decide) (by decide) (by decide) 0 6 rfl rfl _).mono ?_; rintro e v3 ⟨Ap3, cp3, Bp3, dp3, rfl, xp3, hy⟩; have bp3 : After v2 v3 := after_of_more hy inferInstance; have up3 : After U6 v3 := after_of_more hy (after_after u_v2 inferInstance); have u_v3 : After U6 v3 := up3; clear hy _t tk3)
      | (have _t := tk4; go_at_call 16; refine (equal_lit (X6.out _ inferInstance) xp3 _ rfl rfl rfl rfl (v := true) (by decide)).mono ?_; rintro e v4 ⟨rfl, hy⟩; have u_v4 : After U6 v4 := after_of_more hy (after_after u_v3 inferInstance); clear hy _t tk4)
      | (have _t := tk5; go_at_call 18; refine (word_lit (l1 := [true, false]) (l2 := [true, false, true, false]) (by decide) (by decide) (by decide) (by decide) 2 4 rfl rfl _).mono ?_; rintro e v5 ⟨Ap5, cp5, Bp5, dp5, rfl, xp5, hy⟩; have bp5 : After v4 v5 := after_of_more hy inferInstance; have up5 : After U6 v5 := after_of_more hy (after_after u_v4 inferInstance); have u_v5 : After U6 v5 := up5; clear hy _t tk5)
      | (have _t := tk6; go_at_call 20; refine (norm_lit xp5 _ rfl rfl ex_norm (p := 0) (q := 2) rfl rfl).mono ?_; rintro e v6 ⟨An, cn, Bn, dn, rfl, xn, hy⟩; have u_v6 : After U6 v6 := after_of_more hy (after_after u_v5 inferInstance); clear hy _t tk6)
      | (have _t := tk7; go_at_call 18; refine (word_lit (l1 := []) (l2 := [true, false]) (by decide) (by decide) (by decide) (by decide) 0 2 rfl rfl _).mono ?_; rintro e v7 ⟨Ap7, cp7, Bp7, dp7, rfl, xp7, hy⟩; have bp7 : After v6 v7 := after_of_more hy inferInstance; have up7 : After U6 v7 := after_of_more hy (after_after u_v6 inferInstance); have u_v7 : After U6 v7 := up7; clear hy _t tk7)
      | (have _t := tk8; go_at_call 16; refine (equal_lit (xn.here _) xp7 _ rfl rfl rfl rfl (v := true) (by decide)).mono ?_; rintro e v8 ⟨rfl, hy⟩; have u_v8 : After U6 v8 := after_of_more hy (after_after u_v7 inferInstance); clear hy _t tk8)
      | (have _t := tk9; go_at_call 18; refine (word_lit (l1 := [true]) (l2 := [false, true]) (by decide) (by decide) (by decide) (by decide) 1 2 rfl rfl _).mono ?_; rintro e v9 ⟨Ap9, cp9, Bp9, dp9, rfl, xp9, hy⟩; have bp9 : After v8 v9 := after_of_more hy inferInstance; have up9 : After U6 v9 := after_of_more hy (after_after u_v8 inferInstance); have u_v9 : After U6 v9 := up9; clear hy _t tk9)
      | (have _t := tk10; go_at_call 17; refine (ones_lit xp9 _ rfl rfl 5 (by decide) (v := 3) (by decide +kernel)).mono ?_; rintro e v10 ⟨rfl, hy⟩; have u_v10 : After U6 v10 := after_of_more hy (after_after u_v9 inferInstance); clear hy _t tk10))
  go_wp2_with fail
  go_ret
  exact ⟨rfl, @After.is_more w v10 (after_after aU6w u_v10)⟩
end Go.Proofs.Ytjbpelkdciphnaa
