/-
  Plain: a link played tick by tick with a queue, against the followed link.
-/
import Derived.Test.YtglfocldoaigiaaNeed2
set_option linter.unusedVariables false
namespace Go.Proofs.Ytglfocldoaigiaa

structure PS where
  q : List Int
  peak : Int
  k : Nat
  out : List Int

/-- half a tick: a push or a pop, as far as the task is active -/
def halfP (room : Int) (pu po first : Bool) (hf : Nat) (s : PS) : Except Int PS :=
  if (hf == 0) == first then
    if pu then if room ≤ s.q.length then .error 18 else .ok ⟨s.q ++ [(s.k : Int)], max s.peak ((s.q.length : Int) + 1), s.k + 1, s.out⟩
    else .ok s
  else if po then
    match s.q with
    | [] => .error 19
    | x :: q => .ok ⟨q, s.peak, s.k, s.out ++ [x]⟩
  else .ok s
/-- the state behind some half ticks of a tick -/
def halvesP (room : Int) (pu po first : Bool) : Nat → PS → Except Int PS
  | 0, s => .ok s
  | n + 1, s => (halvesP room pu po first n s).bind (halfP room pu po first n)
def playN (h l : List Bool) (fa ta : Nat) (first : Bool) (room : Int) (s0 : PS) : Nat → Except Int PS
  | 0 => .ok s0
  | t + 1 => (playN h l fa ta first room s0 t).bind (halvesP room (act h l fa t) (act h l ta t) first 2)

theorem play_err_le {h l fa ta first room s0 c} {a b : Nat} (hab : a ≤ b) (e : playN h l fa ta first room s0 a = .error c) : playN h l fa ta first room s0 b = .error c := by
  induction b with
  | zero => have : a = 0 := by omega
            subst this; exact e
  | succ b ih =>
    by_cases h1 : a = b + 1
    · subst h1; exact e
    · rw [playN, ih (by omega)]; rfl
theorem halves_err {room pu po first s c} {n : Nat} (hn : n ≤ 2) (e : halvesP room pu po first n s = .error c) : halvesP room pu po first 2 s = .error c := by
  have : n = 0 ∨ n = 1 ∨ n = 2 := by omega
  rcases this with rfl | rfl | rfl
  · cases e
  · rw [halvesP, e]; rfl
  · exact e
theorem halves_step {room pu po first s s' n r} (e : halvesP room pu po first n s = .ok s') (e2 : halfP room pu po first n s' = r) : halvesP room pu po first (n + 1) s = r := by rw [halvesP, e]; exact e2
theorem play_step {h l fa ta first room s0 t s r} (e : playN h l fa ta first room s0 t = .ok s) (e2 : halvesP room (act h l fa t) (act h l ta t) first 2 s = r) : playN h l fa ta first room s0 (t + 1) = r := by rw [playN, e]; exact e2
theorem play_stop {h l fa ta first room s0 s s' c} {t T hf : Nat} (hT : t < T) (hh : hf < 2) (e : playN h l fa ta first room s0 t = .ok s) (e1 : halvesP room (act h l fa t) (act h l ta t) first hf s = .ok s')
    (e2 : halfP room (act h l fa t) (act h l ta t) first hf s' = .error c) : playN h l fa ta first room s0 T = .error c :=
  play_err_le (show t + 1 ≤ T by omega) (play_step e (halves_err (show hf + 1 ≤ 2 by omega) (halves_step e1 e2)))

/-- the values in the order in which they were and are in the queue -/
def seqI (n0 k : Nat) : List Int := (List.range (n0 + k)).map fun i : Nat => (i : Int) - (n0 : Int)
theorem seqI_succ (n0 k : Nat) : seqI n0 (k + 1) = seqI n0 k ++ [(k : Int)] := by
  unfold seqI
  rw [← Nat.add_assoc, List.range_succ, List.map_append]
  simp
  omega
structure Good (n0 : Nat) (s : PS) (n m : Nat) : Prop where
  n : s.q.length = n
  m : s.peak = m
  seq : s.out ++ s.q = seqI n0 s.k
theorem Good.push {n0 s n m} (g : Good n0 s n m) : Good n0 ⟨s.q ++ [(s.k : Int)], max s.peak ((s.q.length : Int) + 1), s.k + 1, s.out⟩ (n + 1) (max m (n + 1)) := by
  refine ⟨by simp [g.n], by simp only [g.n, g.m]; omega, ?_⟩
  rw [seqI_succ, ← g.seq]; simp
theorem Good.pop {n0 s n m x q} (g : Good n0 s n m) (e : s.q = x :: q) : Good n0 ⟨q, s.peak, s.k, s.out ++ [x]⟩ (n - 1) m := by
  refine ⟨by have := g.n; rw [e] at this; simp at this ⊢; omega, g.m, ?_⟩
  have := g.seq
  rw [e] at this
  simpa using this

theorem half_push {room pu po first hf s} (h : ((hf == 0) == first) = true) (hp : pu = true) (hr : ¬ room ≤ s.q.length) : halfP room pu po first hf s = .ok ⟨s.q ++ [(s.k : Int)], max s.peak ((s.q.length : Int) + 1), s.k + 1, s.out⟩ := by
  unfold halfP; rw [if_pos h, if_pos hp, if_neg hr]
theorem half_full {room pu po first hf s} (h : ((hf == 0) == first) = true) (hp : pu = true) (hr : room ≤ s.q.length) : halfP room pu po first hf s = .error 18 := by
  unfold halfP; rw [if_pos h, if_pos hp, if_pos hr]
theorem half_nopush {room pu po first hf s} (h : ((hf == 0) == first) = true) (hp : pu = false) : halfP room pu po first hf s = .ok s := by
  unfold halfP; rw [if_pos h, if_neg (by simp [hp])]
theorem half_pop {room pu po first hf s x q} (h : ((hf == 0) == first) = false) (hp : po = true) (e : s.q = x :: q) : halfP room pu po first hf s = .ok ⟨q, s.peak, s.k, s.out ++ [x]⟩ := by
  unfold halfP; rw [if_neg (by simp [h]), if_pos hp, e]
theorem half_empty {room pu po first hf s} (h : ((hf == 0) == first) = false) (hp : po = true) (e : s.q = []) : halfP room pu po first hf s = .error 19 := by
  unfold halfP; rw [if_neg (by simp [h]), if_pos hp, e]
theorem half_nopop {room pu po first hf s} (h : ((hf == 0) == first) = false) (hp : po = false) : halfP room pu po first hf s = .ok s := by
  unfold halfP; rw [if_neg (by simp [h]), if_neg (by simp [hp])]
theorem two_halves {room pu po first s s1 r} (a : halfP room pu po first 0 s = .ok s1) (b : halfP room pu po first 1 s1 = r) : halvesP room pu po first 2 s = r := by
  rw [halvesP, halvesP, halvesP]; show ((Except.ok s).bind _ |>.bind _) = _
  rw [show (Except.ok s : Except Int PS).bind (halfP room pu po first 0) = halfP room pu po first 0 s from rfl, a]; exact b
theorem first_err {room pu po first s c} (a : halfP room pu po first 0 s = .error c) : halvesP room pu po first 2 s = .error c :=
  halves_err (n := 1) (by omega) (by rw [halvesP, halvesP]; exact a)

/-- one tick with enough room -/
theorem tick_ok {n0 n m n' m' : Nat} {room : Int} {pu po first : Bool} {s : PS} (g : Good n0 s n m) (h : stepS pu po first (n, m) = some (n', m')) (hr : (m' : Int) ≤ room) :
    ∃ s', halvesP room pu po first 2 s = .ok s' ∧ Good n0 s' n' m' := by
  have gn := g.n
  cases first
  · -- pop first
    cases po
    · cases pu
      · simp [stepS] at h
        obtain ⟨rfl, rfl⟩ := h
        exact ⟨s, two_halves (half_nopop rfl rfl) (half_nopush rfl rfl), g⟩
      · simp [stepS] at h
        obtain ⟨rfl, rfl⟩ := h
        exact ⟨_, two_halves (half_nopop rfl rfl) (half_push rfl rfl (by omega)), g.push⟩
    · cases hq : s.q with
      | nil => rw [hq] at gn; simp at gn; subst gn; simp [stepS] at h
      | cons x q =>
        have g1 := g.pop hq
        have g1n := g1.n
        have hn : n = q.length + 1 := by rw [hq] at gn; simpa using gn.symm
        cases pu
        · simp [stepS, hn] at h
          obtain ⟨rfl, rfl⟩ := h
          exact ⟨_, two_halves (half_pop rfl rfl hq) (half_nopush rfl rfl), by simpa [hn] using g1⟩
        · simp [stepS, hn] at h
          obtain ⟨rfl, rfl⟩ := h
          refine ⟨_, two_halves (half_pop rfl rfl hq) (half_push rfl rfl (by simp at g1n ⊢; omega)), ?_⟩
          have := g1.push
          simpa [hn] using this
  · cases pu
    · cases po
      · simp [stepS] at h
        obtain ⟨rfl, rfl⟩ := h
        exact ⟨s, two_halves (half_nopush rfl rfl) (half_nopop rfl rfl), g⟩
      · cases hq : s.q with
        | nil => rw [hq] at gn; simp at gn; subst gn; simp [stepS] at h
        | cons x q =>
          have g1 := g.pop hq
          have hn : n = q.length + 1 := by rw [hq] at gn; simpa using gn.symm
          simp [stepS, hn] at h
          obtain ⟨rfl, rfl⟩ := h
          exact ⟨_, two_halves (half_nopush rfl rfl) (half_pop rfl rfl hq), by simpa [hn] using g1⟩
    · have g1 := g.push
      cases po
      · simp [stepS] at h
        obtain ⟨rfl, rfl⟩ := h
        exact ⟨_, two_halves (half_push rfl rfl (by omega)) (half_nopop rfl rfl), g1⟩
      · simp [stepS] at h
        obtain ⟨rfl, rfl⟩ := h
        cases hq : s.q ++ [(s.k : Int)] with
        | nil => simp at hq
        | cons x q =>
          have g2 := g1.pop (x := x) (q := q) hq
          exact ⟨_, two_halves (half_push rfl rfl (by omega)) (half_pop rfl rfl hq), by simpa using g2⟩
/-- one tick in which the peak passes the room -/
theorem tick_full {n0 n m n' m' : Nat} {room : Int} {pu po first : Bool} {s : PS} (g : Good n0 s n m) (h : stepS pu po first (n, m) = some (n', m')) (h1 : (m : Int) ≤ room) (h2 : room < m') :
    halvesP room pu po first 2 s = .error 18 := by
  have gn := g.n
  cases first
  · cases pu
    · cases po <;> simp [stepS] at h <;> omega
    · cases po
      · simp [stepS] at h
        exact two_halves (half_nopop rfl rfl) (half_full rfl rfl (by omega))
      · cases hq : s.q with
        | nil => rw [hq] at gn; simp at gn; subst gn; simp [stepS] at h
        | cons x q =>
          have hn : n = q.length + 1 := by rw [hq] at gn; simpa using gn.symm
          simp [stepS, hn] at h
          refine two_halves (half_pop rfl rfl hq) (half_full rfl rfl ?_)
          simp
          omega
  · cases pu
    · cases po <;> simp [stepS] at h <;> omega
    · refine first_err (half_full rfl rfl ?_)
      cases po <;> simp [stepS] at h <;> omega
/-- one tick in which a pop finds nothing -/
theorem tick_empty {n0 n m : Nat} {room : Int} {pu po first : Bool} {s : PS} (g : Good n0 s n m) (h : stepS pu po first (n, m) = none) (h1 : (n : Int) + 1 ≤ room) :
    halvesP room pu po first 2 s = .error 19 := by
  have gn := g.n
  cases first
  · cases po
    · simp [stepS] at h
    · simp [stepS] at h
      have h0 : n = 0 := by first | exact h | (cases pu <;> simp at h <;> omega)
      have hq : s.q = [] := List.eq_nil_of_length_eq_zero (by omega)
      exact first_err (half_empty rfl rfl hq)
  · cases po
    · simp [stepS] at h
    · cases pu
      · simp [stepS] at h
        have hq : s.q = [] := List.eq_nil_of_length_eq_zero (by omega)
        exact two_halves (half_nopush rfl rfl) (half_empty rfl rfl hq)
      · simp [stepS] at h

def start (n0 : Nat) : PS := ⟨seqI n0 0, n0, 0, []⟩
theorem seqI_length (n0 k : Nat) : (seqI n0 k).length = n0 + k := by simp [seqI]
theorem start_good (n0 : Nat) : Good n0 (start n0) n0 n0 := ⟨by simp [start, seqI], rfl, rfl⟩

section
variable {h l : List Bool} {fa ta : Nat} {first : Bool} {n0 : Nat} {room : Int}
theorem play_ok (t : Nat) {n m : Nat} (e : simS h l fa ta first n0 t = some (n, m)) (hr : (m : Int) ≤ room) : ∃ s, playN h l fa ta first room (start n0) t = .ok s ∧ Good n0 s n m := by
  induction t generalizing n m with
  | zero => simp [simS] at e; obtain ⟨rfl, rfl⟩ := e; exact ⟨_, rfl, start_good _⟩
  | succ t ih =>
    rw [simS, Option.bind_eq_some_iff] at e
    obtain ⟨⟨n1, m1⟩, e1, e2⟩ := e
    have := stepS_most e2
    obtain ⟨s, h1, g⟩ := ih e1 (by simp at this; omega)
    obtain ⟨s', h2, g'⟩ := tick_ok (s := s) (n := n1) g e2 hr
    exact ⟨s', play_step h1 h2, g'⟩
theorem play_full (t : Nat) {n m : Nat} (e : simS h l fa ta first n0 t = some (n, m)) (h0 : (n0 : Int) ≤ room) (hr : room < m) : playN h l fa ta first room (start n0) t = .error 18 := by
  induction t generalizing n m with
  | zero => simp [simS] at e; omega
  | succ t ih =>
    rw [simS, Option.bind_eq_some_iff] at e
    obtain ⟨⟨n1, m1⟩, e1, e2⟩ := e
    by_cases hm : (m1 : Int) ≤ room
    · obtain ⟨s, h1, g⟩ := play_ok t e1 hm
      exact play_step h1 (tick_full g e2 hm hr)
    · exact play_err_le (Nat.le_succ t) (ih e1 (by omega))
theorem play_empty (t : Nat) (e : simS h l fa ta first n0 t = none) (hr : (n0 : Int) + t ≤ room) : playN h l fa ta first room (start n0) t = .error 19 := by
  induction t with
  | zero => simp [simS] at e
  | succ t ih =>
    rw [simS] at e
    cases e1 : simS h l fa ta first n0 t with
    | none => exact play_err_le (Nat.le_succ t) (ih e1 (by omega))
    | some s1 =>
      obtain ⟨n1, m1⟩ := s1
      rw [e1] at e
      have hb := simS_bd h l fa ta first n0 t e1
      simp only [] at hb
      obtain ⟨s, h1, g⟩ := play_ok (room := room) t e1 (by omega)
      exact play_step h1 (tick_empty g (by simpa using e) (by omega))
theorem good_out {s : PS} {n m : Nat} (g : Good n0 s n m) (i : Nat) (hi : i < s.out.length) : s.out.getD i 0 = (i : Int) - (n0 : Int) := by
  have h1 : (s.out ++ s.q)[i]? = (seqI n0 s.k)[i]? := by rw [g.seq]
  have h2 : i < (seqI n0 s.k).length := by rw [← g.seq]; simp; omega
  rw [List.getElem?_append_left hi] at h1
  rw [List.getD_eq_getElem?_getD, h1]
  rw [seqI_length] at h2
  simp [seqI, h2]
end
end Go.Proofs.Ytglfocldoaigiaa
