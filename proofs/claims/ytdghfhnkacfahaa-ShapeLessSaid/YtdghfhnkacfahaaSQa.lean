/-
  Equality of programs' parts in plain words; contracts: slices.Equal (printed by gen_seqf.py).
-/
import Derived.Test.YtdghfhnkacfahaaSPg
import Derived.Test.YtdghfhnkacfahaaSMust
import Derived.Test.YtdghfhnkacfahaaESame
set_option linter.unusedVariables false
set_option linter.unusedSimpArgs false
namespace Go.Proofs.Ytdghfhnkacfahaa
open Go.RowKit Go.BigFrame

/-- element by element, as far as both go -/
def all2 {α : Type} (f : α → α → Bool) : List α → List α → Bool
  | [], _ => true
  | _ :: _, [] => true
  | a :: xs, b :: ys => f a b && all2 f xs ys
theorem all2_take {α : Type} (f : α → α → Bool) : ∀ {a b : List α} {j : Nat} {x y : α}, a[j]? = some x → b[j]? = some y → all2 f (a.take (j + 1)) (b.take (j + 1)) = (all2 f (a.take j) (b.take j) && f x y)
  | [], b, j, x, y, h, _ => by simp at h
  | a :: as_, [], j, x, y, _, h => by simp at h
  | a :: as_, b :: bs_, 0, x, y, h, h' => by simp at h h'; subst h; subst h'; simp [all2]
  | a :: as_, b :: bs_, j + 1, x, y, h, h' => by
    have := all2_take f (a := as_) (b := bs_) (j := j) (x := x) (y := y) (by simpa using h) (by simpa using h')
    simp only [List.take_succ_cons, all2]
    rw [this, Bool.and_assoc]
theorem all2_false {α : Type} (f : α → α → Bool) : ∀ {a b : List α} {j : Nat} {x y : α}, a[j]? = some x → b[j]? = some y → f x y = false → all2 f a b = false
  | [], b, j, x, y, h, _, _ => by simp at h
  | a :: as_, [], j, x, y, _, h, _ => by simp at h
  | a :: as_, b :: bs_, 0, x, y, h, h', e => by simp at h h'; subst h; subst h'; simp [all2, e]
  | a :: as_, b :: bs_, j + 1, x, y, h, h', e => by
    rw [all2, all2_false f (a := as_) (b := bs_) (j := j) (x := x) (y := y) (by simpa using h) (by simpa using h') e, Bool.and_false]
theorem all2_refl {α : Type} (f : α → α → Bool) : ∀ (a : List α), (∀ x ∈ a, f x x = true) → all2 f a a = true
  | [], _ => rfl
  | a :: l, h => by rw [all2, h a (by simp), all2_refl f l (fun x hx => h x (by simp [hx]))]; rfl
theorem all2_comm {α : Type} (f : α → α → Bool) : ∀ (a b : List α), (∀ x ∈ a, ∀ y, f x y = f y x) → all2 f a b = all2 f b a
  | [], [], _ => rfl
  | [], _ :: _, _ => rfl
  | _ :: _, [], _ => rfl
  | a :: l, b :: m, h => by rw [all2, all2, h a (by simp), all2_comm f l m (fun x hx => h x (by simp [hx]))]
/-- two lists of one length, equal element by element -/
def lsame {α : Type} (f : α → α → Bool) (a b : List α) : Bool := decide (a.length = b.length) && all2 f a b
theorem lsame_refl {α : Type} (f : α → α → Bool) (a : List α) (h : ∀ x ∈ a, f x x = true) : lsame f a a = true := by unfold lsame; rw [all2_refl f a h]; simp
theorem lsame_comm {α : Type} (f : α → α → Bool) (a b : List α) (h : ∀ x ∈ a, ∀ y, f x y = f y x) : lsame f a b = lsame f b a := by unfold lsame; rw [all2_comm f a b h, decide_eq_decide.2 eq_comm]
def strSame (a b : ByteArray) : Bool := a.toList == b.toList
def onSame (a b : OnD) : Bool := strSame a.name b.name && ((a.t == b.t) && (a.tag == b.tag))
def declSame (a b : DeclD) : Bool := strSame a.name b.name && ((a.ty == b.ty) && lsame onSame a.clock.l b.clock.l)
def enSame (a b : EnD) : Bool := strSame a.name b.name && lsame strSame a.tags.l b.tags.l
def eqSame (a b : EqD) : Bool := lsame strSame a.left.l b.left.l && a.right.same b.right
def trSame (a b : TrD) : Bool := (a.dst == b.dst) && ((a.res == b.res) && a.cond.same b.cond)
mutual
def stSame : StT → StT → Bool
  | .mk n l e _ _ a u v, .mk n' l' e' _ _ a' u' v' => strSame n n' && (lsame declSame l.l l'.l && (lsame eqSame e.l e'.l && ((decide (a.length = a'.length) && ausSame a a') && (lsame trSame u.l u'.l && lsame trSame v.l v'.l))))
def stsSame : List StT → List StT → Bool
  | [], _ => true
  | _ :: _, [] => true
  | a :: xs, b :: ys => stSame a b && stsSame xs ys
def auSame : AuT → AuT → Bool
  | .mk _ _ l, .mk _ _ l' => decide (l.length = l'.length) && stsSame l l'
def ausSame : List AuT → List AuT → Bool
  | [], _ => true
  | _ :: _, [] => true
  | a :: xs, b :: ys => auSame a b && ausSame xs ys
end
theorem stsSame_is : ∀ a b : List StT, stsSame a b = all2 stSame a b
  | [], _ => by rw [stsSame, all2]
  | _ :: _, [] => by rw [stsSame, all2]
  | a :: xs, b :: ys => by rw [stsSame, all2, stsSame_is xs ys]
theorem ausSame_is : ∀ a b : List AuT, ausSame a b = all2 auSame a b
  | [], _ => by rw [ausSame, all2]
  | _ :: _, [] => by rw [ausSame, all2]
  | a :: xs, b :: ys => by rw [ausSame, all2, ausSame_is xs ys]
theorem auSame_is (A : Option Addr) (c : Nat) (l : List StT) (A' : Option Addr) (c' : Nat) (l' : List StT) : auSame (.mk A c l) (.mk A' c' l') = lsame stSame l l' := by rw [auSame, stsSame_is]; rfl
theorem stSame_is (n : ByteArray) (l : Lst DeclD) (e : Lst EqD) (A : Option Addr) (c : Nat) (a : List AuT) (u v : Lst TrD) (n' : ByteArray) (l' : Lst DeclD) (e' : Lst EqD) (A' : Option Addr) (c' : Nat) (a' : List AuT) (u' v' : Lst TrD) : stSame (.mk n l e A c a u v) (.mk n' l' e' A' c' a' u' v') = (strSame n n' && (lsame declSame l.l l'.l && (lsame eqSame e.l e'.l && (lsame auSame a a' && (lsame trSame u.l u'.l && lsame trSame v.l v'.l))))) := by rw [stSame, ausSame_is]; rfl
def ndSame (a b : NdD) : Bool := strSame a.name b.name && (lsame declSame a.ins.l b.ins.l && (lsame declSame a.outs.l b.outs.l && (lsame declSame a.locals.l b.locals.l && (lsame eqSame a.eqs.l b.eqs.l && (lsame auSame a.autos.l b.autos.l && (lsame Tx.same a.assume.l b.assume.l && lsame Tx.same a.ensure.l b.ensure.l))))))
def pgSame (a b : PgD) : Bool := lsame enSame a.enums.l b.enums.l && lsame ndSame a.nodes.l b.nodes.l
theorem strSame_comm (a b : ByteArray) : strSame a b = strSame b a := Bool.eq_iff_iff.2 (by unfold strSame; rw [beq_iff_eq, beq_iff_eq]; exact eq_comm)
theorem strSame_refl (a : ByteArray) : strSame a a = true := by unfold strSame; rw [beq_iff_eq]
theorem beqI_comm (a b : Int) : (a == b) = (b == a) := Bool.eq_iff_iff.2 (by rw [beq_iff_eq, beq_iff_eq]; exact eq_comm)
theorem beqB_comm (a b : Bool) : (a == b) = (b == a) := by cases a <;> cases b <;> rfl
theorem onSame_comm (a b : OnD) : onSame a b = onSame b a := by unfold onSame; rw [strSame_comm, beqI_comm a.t, beqI_comm a.tag]
theorem onSame_refl (a : OnD) : onSame a a = true := by unfold onSame; rw [strSame_refl]; simp
theorem declSame_comm (a b : DeclD) : declSame a b = declSame b a := by unfold declSame; rw [strSame_comm, beqI_comm a.ty, lsame_comm onSame _ _ (fun x _ y => onSame_comm x y)]
theorem declSame_refl (a : DeclD) : declSame a a = true := by unfold declSame; rw [strSame_refl, lsame_refl onSame _ (fun x _ => onSame_refl x)]; simp
theorem enSame_comm (a b : EnD) : enSame a b = enSame b a := by unfold enSame; rw [strSame_comm, lsame_comm strSame _ _ (fun x _ y => strSame_comm x y)]
theorem enSame_refl (a : EnD) : enSame a a = true := by unfold enSame; rw [strSame_refl, lsame_refl strSame _ (fun x _ => strSame_refl x)]; simp
theorem eqSame_comm (a b : EqD) : eqSame a b = eqSame b a := by unfold eqSame; rw [lsame_comm strSame _ _ (fun x _ y => strSame_comm x y), same_comm]
theorem eqSame_refl (a : EqD) : eqSame a a = true := by unfold eqSame; rw [lsame_refl strSame _ (fun x _ => strSame_refl x), same_refl]; rfl
theorem trSame_comm (a b : TrD) : trSame a b = trSame b a := by unfold trSame; rw [beqI_comm, beqB_comm, same_comm]
theorem trSame_refl (a : TrD) : trSame a a = true := by unfold trSame; rw [same_refl]; simp
mutual
theorem stSame_comm : ∀ a b : StT, stSame a b = stSame b a
  | .mk n l e A c a u v, .mk n' l' e' A' c' a' u' v' => by
    rw [stSame, stSame, strSame_comm, lsame_comm declSame _ _ (fun x _ y => declSame_comm x y), lsame_comm eqSame _ _ (fun x _ y => eqSame_comm x y), lsame_comm trSame u.l _ (fun x _ y => trSame_comm x y), lsame_comm trSame v.l _ (fun x _ y => trSame_comm x y), ausSame_comm a a', decide_eq_decide.2 (eq_comm (a := a.length) (b := a'.length))]
theorem stsSame_comm : ∀ a b : List StT, stsSame a b = stsSame b a
  | [], [] => rfl
  | [], _ :: _ => by rw [stsSame, stsSame]
  | _ :: _, [] => by rw [stsSame, stsSame]
  | a :: l, b :: m => by rw [stsSame, stsSame, stSame_comm a b, stsSame_comm l m]
theorem auSame_comm : ∀ a b : AuT, auSame a b = auSame b a
  | .mk A c l, .mk A' c' l' => by rw [auSame, auSame, stsSame_comm l l', decide_eq_decide.2 (eq_comm (a := l.length) (b := l'.length))]
theorem ausSame_comm : ∀ a b : List AuT, ausSame a b = ausSame b a
  | [], [] => rfl
  | [], _ :: _ => by rw [ausSame, ausSame]
  | _ :: _, [] => by rw [ausSame, ausSame]
  | a :: l, b :: m => by rw [ausSame, ausSame, auSame_comm a b, ausSame_comm l m]
end
mutual
theorem stSame_refl : ∀ a : StT, stSame a a = true
  | .mk n l e A c a u v => by
    rw [stSame, strSame_refl, lsame_refl declSame _ (fun x _ => declSame_refl x), lsame_refl eqSame _ (fun x _ => eqSame_refl x), lsame_refl trSame u.l (fun x _ => trSame_refl x), lsame_refl trSame v.l (fun x _ => trSame_refl x), ausSame_refl a]
    simp
theorem stsSame_refl : ∀ a : List StT, stsSame a a = true
  | [] => by rw [stsSame]
  | a :: l => by rw [stsSame, stSame_refl a, stsSame_refl l]; rfl
theorem auSame_refl : ∀ a : AuT, auSame a a = true
  | .mk A c l => by rw [auSame, stsSame_refl l]; simp
theorem ausSame_refl : ∀ a : List AuT, ausSame a a = true
  | [] => by rw [ausSame]
  | a :: l => by rw [ausSame, auSame_refl a, ausSame_refl l]; rfl
end
theorem ndSame_comm (a b : NdD) : ndSame a b = ndSame b a := by
  unfold ndSame
  rw [strSame_comm, lsame_comm declSame a.ins.l _ (fun x _ y => declSame_comm x y), lsame_comm declSame a.outs.l _ (fun x _ y => declSame_comm x y), lsame_comm declSame a.locals.l _ (fun x _ y => declSame_comm x y), lsame_comm eqSame _ _ (fun x _ y => eqSame_comm x y), lsame_comm auSame _ _ (fun x _ y => auSame_comm x y), lsame_comm Tx.same a.assume.l _ (fun x _ y => same_comm x y), lsame_comm Tx.same a.ensure.l _ (fun x _ y => same_comm x y)]
theorem ndSame_refl (a : NdD) : ndSame a a = true := by
  unfold ndSame
  rw [strSame_refl, lsame_refl declSame a.ins.l (fun x _ => declSame_refl x), lsame_refl declSame a.outs.l (fun x _ => declSame_refl x), lsame_refl declSame a.locals.l (fun x _ => declSame_refl x), lsame_refl eqSame _ (fun x _ => eqSame_refl x), lsame_refl auSame _ (fun x _ => auSame_refl x), lsame_refl Tx.same a.assume.l (fun x _ => same_refl x), lsame_refl Tx.same a.ensure.l (fun x _ => same_refl x)]
  rfl
theorem pgSame_comm (a b : PgD) : pgSame a b = pgSame b a := by unfold pgSame; rw [lsame_comm enSame _ _ (fun x _ y => enSame_comm x y), lsame_comm ndSame _ _ (fun x _ y => ndSame_comm x y)]
theorem pgSame_refl (a : PgD) : pgSame a a = true := by unfold pgSame; rw [lsame_refl enSame _ (fun x _ => enSame_refl x), lsame_refl ndSame _ (fun x _ => ndSame_refl x)]; rfl
variable {S : Prop}
set_option maxRecDepth 100000 in
theorem on_neq (s1 s2 : ByteArray) (t1 v1 t2 v2 : Int) (w : World) : (binOp BinOp.neq 130 (.agg #[.string s1, .int .i64 t1, .int .i64 v1]) (.agg #[.string s2, .int .i64 t2, .int .i64 v2])).run Try.prog w = .ok (.bool (!((s1.toList == s2.toList) && ((t1 == t2) && (v1 == v2))))) w := by
  by_cases h1 : s1.toList = s2.toList <;> by_cases h2 : t1 = t2 <;> by_cases h3 : v1 = v2 <;> simp [go_sem, h1, h2, h3]
set_option maxRecDepth 100000 in
set_option maxHeartbeats 1600000 in
theorem eqstr_any {w0 : World} {A1 B1 : Option Addr} {c1 d1 : Nat} {xl yl : List ByteArray} (x : RowOf 1 PStr w0 ⟨A1, c1, xl⟩) (y : RowOf 1 PStr w0 ⟨B1, d1, yl⟩) (w : World) (aft : After w0 w) :
    Calls Try.prog 56 #[.slice A1 xl.length c1, .slice B1 yl.length d1] w fun e w' => e = .returned (.bool (lsame strSame xl yl)) ∧ After w w' := by
  have XX := Lib.hid x
  have YY := Lib.hid y
  have hx1 := x.len
  have hy1 := y.len
  simp only [] at hx1 hy1
  clear x y
  obtain ⟨n, hn⟩ : ∃ n, xl.length = n := ⟨_, rfl⟩
  obtain ⟨m, hm⟩ : ∃ m, yl.length = m := ⟨_, rfl⟩
  have HV : Hid (lsame strSame xl yl = (decide (n = m) && all2 strSame xl yl)) := Lib.hid (by unfold lsame; rw [hn, hm])
  rw [hn] at hx1 ⊢
  rw [hm] at hy1 ⊢
  by_cases hnm : n = m
  · subst hnm
    go_enter Try.func56, Try.ntmps56
    go_wp2_with fail
    go_loopw [13] (fun i wr => ∃ j : Nat, j ≤ n ∧ i = .int .i64 (j : Nat) ∧ Hid (all2 strSame (xl.take j) (yl.take j) = true) ∧ After w wr) (fun i _ => n - (intOf i).toNat)
    case atStart => exact ⟨0, by omega, rfl, Lib.hid (by simp [all2]), inferInstance⟩
    case round =>
      obtain ⟨j, hj, rfl, HJ, ar⟩ := hrel
      have a0r : After w0 wr := after_after aft ar
      by_cases hlt_ : j < n
      · have hltI : (j : Int) < (n : Int) := by omega
        obtain ⟨b, p, u1, rfl, hb1, HX1, hP⟩ := (XX.out.strs wr (k := a0r)).part (i := j) (by show j < xl.length; omega)
        obtain ⟨b2, p2, u2, rfl, hb2, HX2, hQ⟩ := (YY.out.strs wr (k := a0r)).part (i := j) (by show j < yl.length; omega)
        simp only [] at HX1 HX2
        have HT : Hid (all2 strSame (xl.take (j + 1)) (yl.take (j + 1)) = strSame u1 u2) := Lib.hid (by rw [all2_take strSame HX1.out HX2.out, HJ.out, Bool.true_and])
        have HF : Hid (strSame u1 u2 = false → all2 strSame xl yl = false) := Lib.hid fun h => all2_false strSame HX1.out HX2.out h
        obtain ⟨s1, hs1⟩ : ∃ s, u1 = s := ⟨_, rfl⟩
        obtain ⟨s1', hs2⟩ : ∃ s, u2 = s := ⟨_, rfl⟩
        rw [hs1] at HT HF hP
        rw [hs2] at HT HF hQ
        clear hs1 hs2
        have e0 : wr.cell? ⟨b, p + j, none⟩ = some (.string s1) := by have := hP.1; rwa [Nat.mul_one] at this
        have g0 : wr.cell? ⟨b2, p2 + j, none⟩ = some (.string s1') := by have := hQ.1; rwa [Nat.mul_one] at this
        clear hP hQ HX1 HX2
        obtain ⟨q, hq⟩ : ∃ q, (s1.toList == s1'.toList) = q := ⟨_, rfl⟩
        have m5 : (s1.toList != s1'.toList) = !q := by unfold bne; rw [hq]
        unfold strSame at HT HF
        rw [hq] at HT HF
        cases q with
        | true =>
          go_wp2_with fail
          go_region
          go_wp2_with fail
          go_roundw
          case rel => exact ⟨j + 1, by omega, by go_num, HT, after_after ar inferInstance⟩
          case measure => simp only [intOf]; omega
        | false =>
          have HV2 : Hid (lsame strSame xl yl = false) := Lib.hid (by rw [HV.out, show all2 strSame xl yl = false from HF.out rfl, Bool.and_false])
          go_wp2_with fail
          go_region
          go_wp2_with fail
          go_ret
          exact ⟨ret_bool (by rw [HV2.out]), after_after ar inferInstance⟩
      · obtain rfl : j = n := by omega
        have HV2 : Hid (lsame strSame xl yl = true) := Lib.hid (by
          have h_ := HJ.out
          rw [HV.out]
          rw [← hn, List.take_length, hn, ← hm, List.take_length] at h_
          rw [h_]; simp)
        go_wp2_with fail
        go_ret
        exact ⟨ret_bool (by rw [HV2.out]), ar⟩
  · have hnmI : ¬ ((n : Int) = (m : Int)) := by omega
    have HV2 : Hid (lsame strSame xl yl = false) := Lib.hid (by rw [HV.out, decide_eq_false hnm, Bool.false_and])
    go_enter Try.func56, Try.ntmps56
    go_wp2_with fail
    go_ret
    exact ⟨ret_bool (by rw [HV2.out]), inferInstance⟩
set_option maxRecDepth 100000 in
set_option maxHeartbeats 1600000 in
theorem eqon_any {w0 : World} {A1 B1 : Option Addr} {c1 d1 : Nat} {xl yl : List OnD} (x : RowOf 3 POn w0 ⟨A1, c1, xl⟩) (y : RowOf 3 POn w0 ⟨B1, d1, yl⟩) (w : World) (aft : After w0 w) :
    Calls Try.prog 85 #[.slice A1 xl.length c1, .slice B1 yl.length d1] w fun e w' => e = .returned (.bool (lsame onSame xl yl)) ∧ After w w' := by
  have XX := Lib.hid x
  have YY := Lib.hid y
  have hx1 := x.len
  have hy1 := y.len
  simp only [] at hx1 hy1
  clear x y
  obtain ⟨n, hn⟩ : ∃ n, xl.length = n := ⟨_, rfl⟩
  obtain ⟨m, hm⟩ : ∃ m, yl.length = m := ⟨_, rfl⟩
  have HV : Hid (lsame onSame xl yl = (decide (n = m) && all2 onSame xl yl)) := Lib.hid (by unfold lsame; rw [hn, hm])
  rw [hn] at hx1 ⊢
  rw [hm] at hy1 ⊢
  by_cases hnm : n = m
  · subst hnm
    go_enter Try.func85, Try.ntmps85
    go_wp2_with fail
    go_loopw [13] (fun i wr => ∃ j : Nat, j ≤ n ∧ i = .int .i64 (j : Nat) ∧ Hid (all2 onSame (xl.take j) (yl.take j) = true) ∧ After w wr) (fun i _ => n - (intOf i).toNat)
    case atStart => exact ⟨0, by omega, rfl, Lib.hid (by simp [all2]), inferInstance⟩
    case round =>
      obtain ⟨j, hj, rfl, HJ, ar⟩ := hrel
      have a0r : After w0 wr := after_after aft ar
      by_cases hlt_ : j < n
      · have hltI : (j : Int) < (n : Int) := by omega
        obtain ⟨b, p, u1, rfl, hb1, HX1, hP⟩ := (XX.out.ons wr (k := a0r)).part (i := j) (by show j < xl.length; omega)
        obtain ⟨b2, p2, u2, rfl, hb2, HX2, hQ⟩ := (YY.out.ons wr (k := a0r)).part (i := j) (by show j < yl.length; omega)
        simp only [] at HX1 HX2
        have HT : Hid (all2 onSame (xl.take (j + 1)) (yl.take (j + 1)) = onSame u1 u2) := Lib.hid (by rw [all2_take onSame HX1.out HX2.out, HJ.out, Bool.true_and])
        have HF : Hid (onSame u1 u2 = false → all2 onSame xl yl = false) := Lib.hid fun h => all2_false onSame HX1.out HX2.out h
        obtain ⟨s1, t1, v1⟩ := u1
        obtain ⟨s1', t1', v1'⟩ := u2
        obtain ⟨_, e0, e1, e2, _⟩ := hP
        obtain ⟨_, g0, g1, g2, _⟩ := hQ
        simp only [] at e0 e1 e2 g0 g1 g2
        clear HX1 HX2
        obtain ⟨q, hq⟩ : ∃ q, onSame ⟨s1, t1, v1⟩ ⟨s1', t1', v1'⟩ = q := ⟨_, rfl⟩
        have hb := fun W => on_neq s1 s1' t1 v1 t1' v1' W
        have hq2 : ((s1.toList == s1'.toList) && ((t1 == t1') && (v1 == v1'))) = q := hq
        simp only [hq2] at hb
        rw [hq] at HT HF
        clear hq hq2
        cases q with
        | true =>
          go_wp2_with fail
          go_region
          go_wp2_with fail
          go_roundw
          case rel => exact ⟨j + 1, by omega, by go_num, HT, after_after ar inferInstance⟩
          case measure => simp only [intOf]; omega
        | false =>
          have HV2 : Hid (lsame onSame xl yl = false) := Lib.hid (by rw [HV.out, HF.out rfl, Bool.and_false])
          go_wp2_with fail
          go_region
          go_wp2_with fail
          go_ret
          exact ⟨ret_bool (by rw [HV2.out]), after_after ar inferInstance⟩
      · obtain rfl : j = n := by omega
        have HV2 : Hid (lsame onSame xl yl = true) := Lib.hid (by
          have h_ := HJ.out
          rw [HV.out]
          rw [← hn, List.take_length, hn, ← hm, List.take_length] at h_
          rw [h_]; simp)
        go_wp2_with fail
        go_ret
        exact ⟨ret_bool (by rw [HV2.out]), ar⟩
  · have hnmI : ¬ ((n : Int) = (m : Int)) := by omega
    have HV2 : Hid (lsame onSame xl yl = false) := Lib.hid (by rw [HV.out, decide_eq_false hnm, Bool.false_and])
    go_enter Try.func85, Try.ntmps85
    go_wp2_with fail
    go_ret
    exact ⟨ret_bool (by rw [HV2.out]), inferInstance⟩
end Go.Proofs.Ytdghfhnkacfahaa
