/-
  Contracts of the law's own helpers: huge, awake.
-/
import Derived.Test.YtglfocldoaigiaaLawWord
import Derived.Test.YtglfocldoaigiaaRf4
namespace Go.Proofs.Ytglfocldoaigiaa
open Go.RowKit Go.BigFrame

def hugeB (h l : List Bool) : Bool := decide (300 < (h.length : Int) + (l.length : Int))
theorem huge_any {w0 : World} {A B c d h l} (x : RW w0 A c B d h l) (w : World) [After w0 w] :
    Calls Try.prog 15 #[.agg #[.slice A h.length c, .slice B l.length d]] w fun e w' => e = .returned (.bool (hugeB h l)) ∧ ∃ y, w' = w.more y := by
  obtain ⟨b1, b2⟩ := x.lens
  go_enter Try.func15, Try.ntmps15
  go_wp2
  go_ret
  exact ⟨rfl, After.is_more _ _⟩

theorem word_lit {s1 s2 : ByteArray} {l1 l2 : List Bool} (e1 : bits s1 = l1) (e2 : bits s2 = l2) (h1 : s1.size ≤ 1000000) (h2 : s2.size ≤ 1000000) (n1 n2 : Nat) (k1 : l1.length = n1) (k2 : l2.length = n2) (w : World) :
    Calls Try.prog 52 #[.string s1, .string s2] w fun e w' => ∃ A c B d, e = .returned (.agg #[.slice A n1 c, .slice B n2 d]) ∧ RW w' A c B d l1 l2 ∧ ∃ y, w' = w.more y := by
  subst e1 e2 k1 k2; exact word_any s1 s2 h1 h2 w
theorem rate_lit {w0 : World} {A B c d h l} (x : RW w0 A c B d h l) (w : World) [After w0 w] {n m : Nat} (hn : h.length = n) (hm : l.length = m) {p q : Int} (e : rateV h l = (p, q)) :
    Calls Try.prog 17 #[.agg #[.slice A n c, .slice B m d]] w fun e w' => e = .returned (.tuple #[.int .i64 p, .int .i64 q]) ∧ ∃ y, w' = w.more y := by
  subst hn hm; have := rate_any x w; rwa [e] at this
theorem nth_lit {w0 : World} {A B c d h l} (x : RW w0 A c B d h l) (w : World) [After w0 w] {n m : Nat} (hn : h.length = n) (hm : l.length = m) (k : Int) {p : Int} {q : Bool} (e : nthV h l k = (p, q)) :
    Calls Try.prog 32 #[.agg #[.slice A n c, .slice B m d], .int .i64 k] w fun e w' => e = .returned (.tuple #[.int .i64 p, .bool q]) ∧ ∃ y, w' = w.more y := by
  subst hn hm; have := nth_any x w k; rwa [e] at this
theorem gap_lit {w0 : World} {A B c d h l A' B' c' d' h' l'} (x : RW w0 A c B d h l) (x' : RW w0 A' c' B' d' h' l') (w : World) [After w0 w] {n m n' m' : Nat} (hn : h.length = n) (hm : l.length = m) (hn' : h'.length = n') (hm' : l'.length = m') {p : Int} {q : Bool} (e : gapV h l h' l' = (p, q)) :
    Calls Try.prog 21 #[.agg #[.slice A n c, .slice B m d], .agg #[.slice A' n' c', .slice B' m' d']] w fun e w' => e = .returned (.tuple #[.int .i64 p, .bool q]) ∧ ∃ y, w' = w.more y := by
  subst hn hm hn' hm'; have := gap_any x x' w; rwa [e] at this
theorem span_lit {w0 : World} {A B c d h l A' B' c' d' h' l'} (x : RW w0 A c B d h l) (x' : RW w0 A' c' B' d' h' l') (w : World) [After w0 w] {n m n' m' : Nat} (hn : h.length = n) (hm : l.length = m) (hn' : h'.length = n') (hm' : l'.length = m') {p q : Int} (e : spanV h l h' l' = (p, q)) :
    Calls Try.prog 23 #[.agg #[.slice A n c, .slice B m d], .agg #[.slice A' n' c', .slice B' m' d']] w fun e w' => e = .returned (.tuple #[.int .i64 p, .int .i64 q]) ∧ ∃ y, w' = w.more y := by
  subst hn hm hn' hm'; have := span_any x x' w; rwa [e] at this
theorem before_lit {w0 : World} {A B c d h l A' B' c' d' h' l'} (x : RW w0 A c B d h l) (x' : RW w0 A' c' B' d' h' l') (w : World) [After w0 w] {n m n' m' : Nat} (hn : h.length = n) (hm : l.length = m) (hn' : h'.length = n') (hm' : l'.length = m') {q : Bool} (e : beforeV h l h' l' = q) :
    Calls Try.prog 48 #[.agg #[.slice A n c, .slice B m d], .agg #[.slice A' n' c', .slice B' m' d']] w fun e w' => e = .returned (.bool q) ∧ ∃ y, w' = w.more y := by
  subst hn hm hn' hm'; have := before_any x x' w; rwa [e] at this

set_option maxHeartbeats 1600000 in
set_option maxRecDepth 100000 in
theorem awake_any (w : World) : Calls Try.prog 16 #[] w fun e w' => e = .returned (.bool true) ∧ ∃ y, w' = w.more y := by
  go_enter Try.func16, Try.ntmps16
  go_wp2_with fail
  refine (word_lit (l1 := [true]) (l2 := [false, true, true, false]) (by decide) (by decide) (by decide) (by decide) 1 4 rfl rfl _).mono ?_
  rintro e w' ⟨A1, c1, B1, d1, rfl, x1, y1, rfl⟩
  go_wp2_with fail
  refine (rate_lit x1 _ rfl rfl (p := 1) (q := 2) (by decide +kernel)).mono ?_
  rintro e w' ⟨rfl, z1, rfl⟩
  go_wp2_with fail
  refine (word_lit (l1 := [false]) (l2 := [true, false]) (by decide) (by decide) (by decide) (by decide) 1 2 rfl rfl _).mono ?_
  rintro e w' ⟨A2, c2, B2, d2, rfl, x2, y2, rfl⟩
  go_wp2_with fail
  refine (nth_lit x2 _ rfl rfl 2 (p := 5) (q := true) (by decide +kernel)).mono ?_
  rintro e w' ⟨rfl, z2, rfl⟩
  go_wp2_with fail
  refine (word_lit (l1 := []) (l2 := [true, true, false, false]) (by decide) (by decide) (by decide) (by decide) 0 4 rfl rfl _).mono ?_
  rintro e w' ⟨A3, c3, B3, d3, rfl, x3, y3, rfl⟩
  go_wp2_with fail
  refine (word_lit (l1 := []) (l2 := [true, false]) (by decide) (by decide) (by decide) (by decide) 0 2 rfl rfl _).mono ?_
  rintro e w' ⟨A4, c4, B4, d4, rfl, x4, y4, rfl⟩
  go_wp2_with fail
  refine (gap_lit (x3.here _) x4 _ rfl rfl rfl rfl (p := 1) (q := true) (by decide +kernel)).mono ?_
  rintro e w' ⟨rfl, z3, rfl⟩
  go_wp2_with fail
  refine (word_lit (l1 := []) (l2 := [true]) (by decide) (by decide) (by decide) (by decide) 0 1 rfl rfl _).mono ?_
  rintro e w' ⟨A5, c5, B5, d5, rfl, x5, y5, rfl⟩
  go_wp2_with fail
  refine (word_lit (l1 := []) (l2 := [true, false]) (by decide) (by decide) (by decide) (by decide) 0 2 rfl rfl _).mono ?_
  rintro e w' ⟨A6, c6, B6, d6, rfl, x6, y6, rfl⟩
  go_wp2_with fail
  refine (gap_lit (x5.here _) x6 _ rfl rfl rfl rfl (p := 0) (q := false) (by decide +kernel)).mono ?_
  rintro e w' ⟨rfl, z4, rfl⟩
  go_wp2_with fail
  refine (word_lit (l1 := [true]) (l2 := [false, true]) (by decide) (by decide) (by decide) (by decide) 1 2 rfl rfl _).mono ?_
  rintro e w' ⟨A7, c7, B7, d7, rfl, x7, y7, rfl⟩
  go_wp2_with fail
  refine (word_lit (l1 := []) (l2 := [true, true, false]) (by decide) (by decide) (by decide) (by decide) 0 3 rfl rfl _).mono ?_
  rintro e w' ⟨A8, c8, B8, d8, rfl, x8, y8, rfl⟩
  go_wp2_with fail
  refine (span_lit (x7.here _) x8 _ rfl rfl rfl rfl (p := 1) (q := 6) (by decide +kernel)).mono ?_
  rintro e w' ⟨rfl, z5, rfl⟩
  go_wp2_with fail
  refine (word_lit (l1 := []) (l2 := [true, false]) (by decide) (by decide) (by decide) (by decide) 0 2 rfl rfl _).mono ?_
  rintro e w' ⟨A9, c9, B9, d9, rfl, x9, y9, rfl⟩
  go_wp2_with fail
  refine (word_lit (l1 := []) (l2 := [false, true]) (by decide) (by decide) (by decide) (by decide) 0 2 rfl rfl _).mono ?_
  rintro e w' ⟨A10, c10, B10, d10, rfl, x10, y10, rfl⟩
  go_wp2_with fail
  refine (before_lit (x9.here _) x10 _ rfl rfl rfl rfl (q := true) (by decide +kernel)).mono ?_
  rintro e w' ⟨rfl, z6, rfl⟩
  go_wp2_with fail
  refine (word_lit (l1 := []) (l2 := [false, true]) (by decide) (by decide) (by decide) (by decide) 0 2 rfl rfl _).mono ?_
  rintro e w' ⟨A11, c11, B11, d11, rfl, x11, y11, rfl⟩
  go_wp2_with fail
  refine (word_lit (l1 := []) (l2 := [true, false]) (by decide) (by decide) (by decide) (by decide) 0 2 rfl rfl _).mono ?_
  rintro e w' ⟨A12, c12, B12, d12, rfl, x12, y12, rfl⟩
  go_wp2_with fail
  refine (before_lit (x11.here _) x12 _ rfl rfl rfl rfl (q := false) (by decide +kernel)).mono ?_
  rintro e w' ⟨rfl, z7, rfl⟩
  go_wp2_with fail
  go_ret
  exact ⟨rfl, After.is_more _ _⟩
end Go.Proofs.Ytglfocldoaigiaa
