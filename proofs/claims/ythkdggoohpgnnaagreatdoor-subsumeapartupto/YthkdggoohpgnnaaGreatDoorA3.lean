/- a part of the proof: lemmas on walks, on plain data, contracts of functions. -/
import Derived.Lib.Bytealg
set_option linter.all false
/- The data and what is computed of them, in plain Lean: no program, no memory. -/
namespace Go.Wk
open Go
set_option linter.unusedVariables false

abbrev ES : ByteArray := ⟨#[]⟩
structure Tm where
  k : Int
  n : Int
  s : ByteArray
  deriving DecidableEq
structure At0 where
  by_ : Tm
  name : ByteArray
  args : List Tm
  deriving DecidableEq
structure Ts where
  op : Int
  l : Tm
  r : Tm
  deriving DecidableEq
structure Cl where
  head : At0
  body : List At0
  tests : List Ts
  deriving DecidableEq
structure Bd where
  var : Int
  to : Tm
  deriving DecidableEq
@[reducible] def Tn : Tm := ⟨0, 0, ES⟩

/-! from XF1 -/
def Tm.isVar (t : Tm) : Bool := t.k == 3 && (decide (0 ≤ t.n) && decide (t.s = ES))
def Tm.isConst (t : Tm) : Bool := (t.k == 1 && decide (t.s = ES)) || (t.k == 2 && (t.n == 0 && decide ((t.s.size : Int) ≤ 64)))
def Tm.isPrinc (t : Tm) : Bool := t.isConst && (t.k == 2 && !decide (t.s = ES))
def cmpI (a b : Int) : Int := if a < b then -1 else if b < a then 1 else 0
def cmpS (a b : ByteArray) : Int := Lib.compareBytes a.data.toList b.data.toList
def orI : List Int → Int
  | [] => 0
  | x :: xs => if x = 0 then orI xs else x
def cmpTm (a b : Tm) : Int := orI [cmpI a.k b.k, cmpI a.n b.n, cmpS a.s b.s]

/-! from XF2 -/
theorem drop_get {α : Type} {xs : List α} {k : Nat} {u : α} (h : xs[k]? = some u) : xs.drop k = u :: xs.drop (k + 1) := by
  obtain ⟨hk, rfl⟩ := List.getElem?_eq_some_iff.1 h
  exact List.drop_eq_getElem_cons hk
theorem drop_end {α : Type} {xs : List α} {k : Nat} (h : ¬ (k : Int) < (xs.length : Int)) : xs.drop k = [] := List.drop_eq_nil_of_le (by omega)
theorem At0.eq (a b : At0) : a = b ↔ a.by_ = b.by_ ∧ a.name = b.name ∧ a.args = b.args := by
  cases a; cases b; simp
theorem Cl.eq (a b : Cl) : a = b ↔ a.head = b.head ∧ a.body = b.body ∧ a.tests = b.tests := by
  cases a; cases b; simp

/-! from XF3 -/
def At0.terms (a : At0) : List Tm := a.by_ :: a.args
def Cl.bodyTerms (x : Cl) : List Tm := x.body.flatMap At0.terms
def Cl.testTerms (x : Cl) : List Tm := x.tests.flatMap fun t => [t.l, t.r]
def Cl.terms (x : Cl) : List Tm := x.head.terms ++ x.bodyTerms ++ x.testTerms
def varsOn (out : List Tm) (t : Tm) : List Tm := if t.isVar && !decide (t ∈ out) then out ++ [t] else out
def varsOf (ts : List Tm) : List Tm := ts.foldl varsOn []
theorem foldl_varsOn_len (ts : List Tm) : ∀ out, (ts.foldl varsOn out).length ≤ out.length + ts.length := by
  induction ts with
  | nil => intro out; simp
  | cons t ts ih =>
    intro out
    have h1 : (varsOn out t).length ≤ out.length + 1 := by
      unfold varsOn
      split <;> simp
    have := ih (varsOn out t)
    simp only [List.foldl_cons, List.length_cons]
    omega
theorem varsOf_len (ts : List Tm) : (varsOf ts).length ≤ ts.length := by
  have := foldl_varsOn_len ts []
  simpa [varsOf] using this

/-! from XF4 -/
@[reducible] def says : ByteArray := ⟨#[115, 97, 121, 115]⟩
def letterB (n : Int) : Bool := (decide (97 ≤ n) && decide (n ≤ 122)) || (decide (65 ≤ n) && decide (n ≤ 90)) || (decide (48 ≤ n) && decide (n ≤ 57)) || decide (n = 95)
def nameB (s : ByteArray) : Bool := !decide (s = ES) && (decide (s.size ≤ 32) && (!decide (s = says) && ((match s.data.toList with | [] => false | u :: _ => decide (97 ≤ u.toNat) && decide (u.toNat ≤ 122)) && s.data.toList.all fun u => letterB u.toNat)))
def At0.check (a : At0) : Int :=
  if nameB a.name = false then 21 else if 8 < a.args.length then 22 else if a.by_ ≠ Tn ∧ a.by_.isPrinc = false ∧ a.by_.isVar = false then 23
  else if a.args.any (fun t => !t.isConst && !t.isVar) then 24 else 0
def Ts.check (t : Ts) : Int := if t.op < 1 ∨ 4 < t.op ∨ (t.l.isConst || t.l.isVar) = false ∨ (t.r.isConst || t.r.isVar) = false then 32 else 0
def cmpTms : List Tm → List Tm → Int
  | x :: xs, y :: ys => if cmpTm x y = 0 then cmpTms xs ys else cmpTm x y
  | _, _ => 0
def cmpAt (a b : At0) : Int := orI [cmpS a.name b.name, cmpI a.args.length b.args.length, cmpTm a.by_ b.by_, cmpTms a.args b.args]
def Ts.decide (t : Ts) : Bool × Bool :=
  if t.check ≠ 0 ∨ t.l.isConst = false ∨ t.r.isConst = false then (false, false)
  else (if t.op = 1 then Decidable.decide (cmpTm t.l t.r = 0) else if t.op = 2 then !Decidable.decide (cmpTm t.l t.r = 0) else if t.op = 3 then Decidable.decide (cmpTm t.l t.r < 0) else Decidable.decide (cmpTm t.l t.r ≤ 0), true)
theorem cmpI_nat (a b : Nat) : cmpI (a : Int) (b : Int) = if a < b then -1 else if b < a then 1 else 0 := by simp [cmpI]
theorem cb_step {k : Nat} {xs ys : List UInt8} {u u' : UInt8} (h : xs[k]? = some u) (h' : ys[k]? = some u') : Lib.compareBytes (xs.drop k) (ys.drop k) = if u = u' then Lib.compareBytes (xs.drop (k + 1)) (ys.drop (k + 1)) else cmpI u.toNat u'.toNat := by
  rw [drop_get h, drop_get h', cmpI_nat]
  simp only [Lib.compareBytes, UInt8.lt_iff_toNat_lt]
  by_cases e : u = u'
  · subst e; simp
  · have : u.toNat ≠ u'.toNat := fun h => e (UInt8.toNat_inj.1 h)
    simp only [e, if_false]
    repeat' split <;> try omega
theorem cb_end {k : Nat} {xs ys : List UInt8} (h : xs.length ≤ k ∨ ys.length ≤ k) : Lib.compareBytes (xs.drop k) (ys.drop k) = cmpI (xs.length - k : Nat) (ys.length - k : Nat) := by
  rw [cmpI_nat]
  cases hx : xs.drop k with
  | nil =>
    have h1 : xs.length ≤ k := by simpa using hx
    cases hy : ys.drop k with
    | nil =>
      have h2 : ys.length ≤ k := by simpa using hy
      simp only [Lib.compareBytes]
      repeat' split <;> try omega
    | cons y t =>
      have h2 : ¬ ys.length ≤ k := by intro h3; rw [List.drop_eq_nil_of_le h3] at hy; cases hy
      simp only [Lib.compareBytes]
      repeat' split <;> try omega
  | cons x t =>
    have h1 : ¬ xs.length ≤ k := by intro h3; rw [List.drop_eq_nil_of_le h3] at hx; cases hx
    have h2 : ys.length ≤ k := by omega
    rw [List.drop_eq_nil_of_le h2]
    simp only [Lib.compareBytes]
    repeat' split <;> try omega

/-! from XF5 -/
def Tm.sm (t : Tm) : Prop := t.s.size < 4611686018427387904
def At0.sm (a : At0) : Prop := a.name.size < 4611686018427387904 ∧ a.by_.sm ∧ ∀ t ∈ a.args, t.sm
def Cl.sm (x : Cl) : Prop := x.head.sm ∧ (∀ a ∈ x.body, a.sm) ∧ ∀ t ∈ x.tests, t.l.sm ∧ t.r.sm

/-! from XF6 -/
def lookB : List Bd → Int → Option Tm
  | [], _ => none
  | b :: s, x => if b.var = x then some b.to else lookB s x
def becomeT (s : List Bd) (t : Tm) : Tm := if t.isVar then (lookB s t.n).getD t else t
def applyA (s : List Bd) (a : At0) : At0 := ⟨becomeT s a.by_, a.name, a.args.map (becomeT s)⟩

/-! from XF7 -/
def placeOf : List Tm → Tm → Nat → Int
  | [], _, _ => -1
  | x :: xs, t, k => if x = t then k else placeOf xs t (k + 1)

/-! from XF8 -/
def At0.map (f : Tm → Tm) (a : At0) : At0 := ⟨f a.by_, a.name, a.args.map f⟩
def Cl.map (f : Tm → Tm) (x : Cl) : Cl := ⟨x.head.map f, x.body.map (At0.map f), x.tests.map fun t => ⟨t.op, f t.l, f t.r⟩⟩

/-! from XF9 -/
def Seg (ls : List Tm) (φ : Tm → Tm) (p : Nat) (a : At0) : Prop := ls[p]? = some (φ a.by_) ∧ ∀ (k : Nat) (t : Tm), a.args[k]? = some t → ls[p + 1 + k]? = some (φ t)
theorem Seg.of {φ : Tm → Tm} {A B : List Tm} {a : At0} : Seg ((A ++ a.terms ++ B).map φ) φ A.length a := by
  refine ⟨?_, fun k t hk => ?_⟩
  · simp [At0.terms]
  · have hl : k < a.args.length := (List.getElem?_eq_some_iff.1 hk).1
    rw [List.getElem?_map, List.append_assoc, List.getElem?_append_right (by omega)]
    have e : A.length + 1 + k - A.length = k + 1 := by omega
    rw [e, At0.terms, List.cons_append, List.getElem?_cons_succ, List.getElem?_append_left hl, hk]
    rfl
def Cl.posB (x : Cl) (k : Nat) : Nat := x.head.args.length + 1 + ((x.body.take k).flatMap At0.terms).length
def Cl.posT (x : Cl) (k : Nat) : Nat := x.head.args.length + 1 + x.bodyTerms.length + 2 * k
theorem Cl.seg_head (x : Cl) (φ : Tm → Tm) : Seg (x.terms.map φ) φ 0 x.head := by
  have := Seg.of (φ := φ) (A := []) (B := x.bodyTerms ++ x.testTerms) (a := x.head)
  simpa [Cl.terms, List.append_assoc] using this
theorem Cl.seg_body (x : Cl) (φ : Tm → Tm) {k : Nat} {a : At0} (h : x.body[k]? = some a) : Seg (x.terms.map φ) φ (x.posB k) a := by
  have hb : x.body = x.body.take k ++ a :: x.body.drop (k + 1) := by
    rw [← drop_get h, List.take_append_drop]
  have := Seg.of (φ := φ) (A := x.head.terms ++ (x.body.take k).flatMap At0.terms) (B := (x.body.drop (k + 1)).flatMap At0.terms ++ x.testTerms) (a := a)
  have e : x.head.terms ++ (x.body.take k).flatMap At0.terms ++ a.terms ++ ((x.body.drop (k + 1)).flatMap At0.terms ++ x.testTerms) = x.terms := by
    have : x.bodyTerms = (x.body.take k).flatMap At0.terms ++ (a.terms ++ (x.body.drop (k + 1)).flatMap At0.terms) := by
      conv => lhs; rw [Cl.bodyTerms, hb]
      simp
    rw [Cl.terms, this]
    simp [List.append_assoc]
  rw [e] at this
  have e2 : (x.head.terms ++ (x.body.take k).flatMap At0.terms).length = x.posB k := by simp [Cl.posB, At0.terms]; omega
  rwa [e2] at this
theorem Cl.posB_succ (x : Cl) {k : Nat} {a : At0} (h : x.body[k]? = some a) : x.posB (k + 1) = x.posB k + 1 + a.args.length := by
  unfold Cl.posB
  rw [List.take_add_one, h]
  simp [At0.terms]
  omega
theorem Cl.posB_end (x : Cl) : x.posB x.body.length = x.posT 0 := by
  unfold Cl.posB Cl.posT
  rw [List.take_length]
  rfl
theorem pairs_get : ∀ (ts : List Ts) (k : Nat) (t : Ts), ts[k]? = some t → (ts.flatMap fun t => [t.l, t.r])[2 * k]? = some t.l ∧ (ts.flatMap fun t => [t.l, t.r])[2 * k + 1]? = some t.r := by
  intro ts
  induction ts with
  | nil => intro k t h; simp at h
  | cons x ts ih =>
    intro k t h
    cases k with
    | zero => simp at h; subst h; simp
    | succ k =>
      have := ih k t (by simpa using h)
      rw [show 2 * (k + 1) = 2 * k + 1 + 1 by omega]
      simpa using this
theorem Cl.seg_test (x : Cl) (φ : Tm → Tm) {k : Nat} {t : Ts} (h : x.tests[k]? = some t) : (x.terms.map φ)[x.posT k]? = some (φ t.l) ∧ (x.terms.map φ)[x.posT k + 1]? = some (φ t.r) := by
  have hp := pairs_get x.tests k t h
  have hl : (x.head.terms ++ x.bodyTerms).length = x.head.args.length + 1 + x.bodyTerms.length := by simp [At0.terms]; omega
  have e : ∀ j, x.terms[x.head.args.length + 1 + x.bodyTerms.length + j]? = x.testTerms[j]? := fun j => by
    rw [Cl.terms, List.getElem?_append_right (by omega), hl]
    congr 1
    omega
  unfold Cl.posT
  rw [List.getElem?_map, List.getElem?_map, Nat.add_assoc _ (2 * k) 1, e, e]
  unfold Cl.testTerms
  rw [hp.1, hp.2]
  exact ⟨rfl, rfl⟩
end Go.Wk
/- Orders: comparisons that are total, row by row; lists that rise. Plain Lean. -/
namespace Go.Wk
open Go
set_option linter.unusedVariables false

/-- A comparison as -1, 0, 1 that is total and goes on. -/
structure P3 {α : Type} (cmp : α → α → Int) : Prop where
  neg : ∀ a b, cmp b a = - cmp a b
  tr : ∀ a b c, cmp a b ≤ 0 → cmp b c ≤ 0 → cmp a c ≤ 0
/-- .. and 0 at equals alone. -/
structure T3 {α : Type} (cmp : α → α → Int) : Prop extends P3 cmp where
  eq : ∀ a b, cmp a b = 0 → a = b
section
variable {α β : Type} {f g : α → α → Int}
theorem P3.refl (h : P3 f) (a : α) : f a a = 0 := by have := h.neg a a; omega
theorem T3.eq0 (h : T3 f) {a b : α} : f a b = 0 ↔ a = b := ⟨h.eq a b, fun e => by subst e; exact h.refl a⟩
theorem P3.le_lt (h : P3 f) {a b c : α} (h1 : f a b ≤ 0) (h2 : f b c < 0) : f a c < 0 := by
  have h3 := h.tr a b c h1 (by omega)
  rcases Int.lt_or_eq_of_le h3 with h4 | h4
  · exact h4
  · have h5 := h.neg a c
    have h6 := h.tr c a b (by omega) h1
    have := h.neg b c
    omega
theorem P3.lt_le (h : P3 f) {a b c : α} (h1 : f a b < 0) (h2 : f b c ≤ 0) : f a c < 0 := by
  have h3 := h.tr a b c (by omega) h2
  rcases Int.lt_or_eq_of_le h3 with h4 | h4
  · exact h4
  · have h5 := h.neg a c
    have h6 := h.tr b c a h2 (by omega)
    have := h.neg a b
    omega
theorem P3.lt_tr (h : P3 f) {a b c : α} (h1 : f a b < 0) (h2 : f b c < 0) : f a c < 0 := h.lt_le h1 (by omega)
theorem P3.pull (h : P3 f) (k : β → α) : P3 (fun a b => f (k a) (k b)) := ⟨fun a b => h.neg _ _, fun a b c => h.tr _ _ _⟩
theorem P3.lex (h : P3 f) (k : P3 g) : P3 (fun a b => if f a b = 0 then g a b else f a b) := by
  refine ⟨fun a b => ?_, fun a b c h1 h2 => ?_⟩
  · have h1 := h.neg a b
    have h2 := k.neg a b
    by_cases e : f a b = 0
    · have : f b a = 0 := by omega
      simp [e, this, h2]
    · have : f b a ≠ 0 := by omega
      simp [e, h1]
  · have n1 := h.neg a b
    have n2 := h.neg b c
    have n3 := h.neg a c
    by_cases e1 : f a b = 0
    · rw [if_pos e1] at h1
      by_cases e2 : f b c = 0
      · rw [if_pos e2] at h2
        have e3 : f a c = 0 := by
          have a1 := h.tr a b c (by omega) (by omega)
          have a2 := h.tr c b a (by omega) (by omega)
          omega
        rw [if_pos e3]
        exact k.tr a b c h1 h2
      · rw [if_neg e2] at h2
        have e3 := h.le_lt (a := a) (b := b) (c := c) (by omega) (by omega)
        rw [if_neg (by omega)]
        omega
    · rw [if_neg e1] at h1
      have e3 : f a c < 0 := by
        by_cases e2 : f b c = 0
        · exact h.lt_le (b := b) (by omega) (by omega)
        · rw [if_neg e2] at h2
          exact h.lt_tr (b := b) (by omega) (by omega)
      rw [if_neg (by omega)]
      omega
theorem cmpI_p3 : P3 cmpI := by
  refine ⟨fun a b => ?_, fun a b c => ?_⟩
  · unfold cmpI; repeat' split <;> try omega
  · unfold cmpI; repeat' split <;> try omega
theorem cmpI_t3 : T3 cmpI := ⟨cmpI_p3, fun a b h => by
  unfold cmpI at h; repeat' split at h
  all_goals omega⟩
theorem cb_neg : ∀ a b : List UInt8, Lib.compareBytes b a = - Lib.compareBytes a b
  | [], [] => rfl
  | [], _ :: _ => rfl
  | _ :: _, [] => rfl
  | a :: as, b :: bs => by
    have ih := cb_neg as bs
    simp only [Lib.compareBytes, UInt8.lt_iff_toNat_lt]
    repeat' split <;> try omega
theorem cb_tr : ∀ a b c : List UInt8, Lib.compareBytes a b ≤ 0 → Lib.compareBytes b c ≤ 0 → Lib.compareBytes a c ≤ 0
  | [], _, [] => fun _ _ => by simp [Lib.compareBytes]
  | [], _, _ :: _ => fun _ _ => by simp [Lib.compareBytes]
  | _ :: _, [], _ => fun h _ => by simp [Lib.compareBytes] at h
  | _ :: _, _ :: _, [] => fun _ h => by simp [Lib.compareBytes] at h
  | a :: as, b :: bs, c :: cs => by
    have ih := cb_tr as bs cs
    simp only [Lib.compareBytes, UInt8.lt_iff_toNat_lt]
    repeat' split <;> try omega
theorem cb_eq : ∀ a b : List UInt8, Lib.compareBytes a b = 0 → a = b
  | [], [] => fun _ => rfl
  | [], _ :: _ => fun h => by simp [Lib.compareBytes] at h
  | _ :: _, [] => fun h => by simp [Lib.compareBytes] at h
  | a :: as, b :: bs => fun h => by
    simp only [Lib.compareBytes, UInt8.lt_iff_toNat_lt] at h
    split at h
    · cases h
    · split at h
      · cases h
      · rw [cb_eq as bs h, UInt8.toNat_inj.1 (show a.toNat = b.toNat by omega)]
theorem cmpS_t3 : T3 cmpS := ⟨⟨fun a b => cb_neg _ _, fun a b c => cb_tr _ _ _⟩, fun a b h => by
  have h1 := cb_eq _ _ h
  have h2 : a.data = b.data := Array.toList_inj.1 h1
  cases a; cases b; cases h2; rfl⟩
theorem cmpTm_eq (a b : Tm) : cmpTm a b = if cmpI a.k b.k = 0 then (if cmpI a.n b.n = 0 then cmpS a.s b.s else cmpI a.n b.n) else cmpI a.k b.k := by
  unfold cmpTm orI orI orI orI
  by_cases h : cmpS a.s b.s = 0 <;> simp [h]
theorem cmpTm_t3 : T3 cmpTm := by
  have h := (cmpI_p3.pull Tm.k).lex ((cmpI_p3.pull Tm.n).lex (cmpS_t3.toP3.pull Tm.s))
  have e : cmpTm = fun a b => if cmpI a.k b.k = 0 then (if cmpI a.n b.n = 0 then cmpS a.s b.s else cmpI a.n b.n) else cmpI a.k b.k := by funext a b; exact cmpTm_eq a b
  refine ⟨e ▸ h, fun a b h => ?_⟩
  rw [cmpTm_eq] at h
  split at h
  · rename_i h1
    split at h
    · rename_i h2
      have := cmpI_t3.eq _ _ h1
      have := cmpI_t3.eq _ _ h2
      have := cmpS_t3.eq _ _ h
      cases a; cases b; simp_all
    · contradiction
  · contradiction

/-- Lists, row by row; the shorter one stands ahead. -/
def lexL (f : α → α → Int) : List α → List α → Int
  | [], [] => 0
  | [], _ :: _ => -1
  | _ :: _, [] => 1
  | a :: as, b :: bs => if f a b = 0 then lexL f as bs else f a b
theorem lexL_neg (h : P3 f) : ∀ a b : List α, lexL f b a = - lexL f a b
  | [], [] => rfl
  | [], _ :: _ => rfl
  | _ :: _, [] => rfl
  | a :: as, b :: bs => by
    have ih := lexL_neg h as bs
    have n := h.neg a b
    simp only [lexL]
    repeat' split <;> try omega
theorem lexL_tr (h : P3 f) : ∀ a b c : List α, lexL f a b ≤ 0 → lexL f b c ≤ 0 → lexL f a c ≤ 0
  | [], _, [] => fun _ _ => by simp [lexL]
  | [], _, _ :: _ => fun _ _ => by simp [lexL]
  | _ :: _, [], _ => fun h _ => by simp [lexL] at h
  | _ :: _, _ :: _, [] => fun _ h => by simp [lexL] at h
  | a :: as, b :: bs, c :: cs => by
    have ih := lexL_tr h as bs cs
    have n1 := h.neg a b
    have n2 := h.neg b c
    have n3 := h.neg a c
    have t1 := h.tr a b c
    have t2 := h.tr c b a
    have t3 := fun h1 => h.le_lt (a := a) (b := b) (c := c) h1
    have t4 := fun h1 => h.lt_le (a := a) (b := b) (c := c) h1
    simp only [lexL]
    intro h1 h2
    split at h1 <;> split at h2 <;> split <;> omega
theorem lexL_p3 (h : P3 f) : P3 (lexL f) := ⟨lexL_neg h, lexL_tr h⟩
theorem lexL_t3 (h : T3 f) : T3 (lexL f) := ⟨lexL_p3 h.toP3, by
  intro a
  induction a with
  | nil => intro b h; cases b with
    | nil => rfl
    | cons b bs => simp [lexL] at h
  | cons a as ih => intro b hb; cases b with
    | nil => simp [lexL] at hb
    | cons b bs =>
      simp only [lexL] at hb
      split at hb
      · rename_i e
        rw [h.eq a b e, ih bs hb]
      · contradiction⟩

theorem cmpTms_lexL : ∀ a b : List Tm, a.length = b.length → cmpTms a b = lexL cmpTm a b
  | [], [] => fun _ => rfl
  | [], _ :: _ => fun h => by simp at h
  | _ :: _, [] => fun h => by simp at h
  | a :: as, b :: bs => fun h => by
    simp only [cmpTms, lexL, cmpTms_lexL as bs (by simpa using h)]
theorem cmpI_nat0 {a b : Nat} : cmpI (a : Int) (b : Int) = 0 ↔ a = b := by rw [cmpI_t3.eq0]; omega
theorem cmpAt_eq (a b : At0) : cmpAt a b = if cmpS a.name b.name = 0 then (if cmpI a.args.length b.args.length = 0 then (if cmpTm a.by_ b.by_ = 0 then lexL cmpTm a.args b.args else cmpTm a.by_ b.by_) else cmpI a.args.length b.args.length) else cmpS a.name b.name := by
  simp only [cmpAt, orI]
  by_cases h1 : cmpS a.name b.name = 0
  · by_cases h2 : cmpI a.args.length b.args.length = 0
    · have e := cmpTms_lexL a.args b.args (cmpI_nat0.1 h2)
      rw [e]
      simp only [h1, h2, if_true]
      by_cases h4 : lexL cmpTm a.args b.args = 0 <;> simp [h4]
    · simp [h1, h2]
  · simp [h1]
theorem cmpAt_t3 : T3 cmpAt := by
  have h := (cmpS_t3.toP3.pull At0.name).lex ((cmpI_p3.pull (fun a : At0 => (a.args.length : Int))).lex ((cmpTm_t3.toP3.pull At0.by_).lex ((lexL_p3 cmpTm_t3.toP3).pull At0.args)))
  have e : cmpAt = fun a b => if cmpS a.name b.name = 0 then (if cmpI a.args.length b.args.length = 0 then (if cmpTm a.by_ b.by_ = 0 then lexL cmpTm a.args b.args else cmpTm a.by_ b.by_) else cmpI a.args.length b.args.length) else cmpS a.name b.name := by funext a b; exact cmpAt_eq a b
  refine ⟨e ▸ h, fun a b h => ?_⟩
  rw [cmpAt_eq] at h
  split at h
  · split at h
    · split at h
      · rename_i h1 h2 h3
        exact (At0.eq a b).2 ⟨cmpTm_t3.eq _ _ h3, cmpS_t3.eq _ _ h1, (lexL_t3 cmpTm_t3).eq _ _ h⟩
      · contradiction
    · contradiction
  · contradiction
def cmpTs (a b : Ts) : Int := if cmpI a.op b.op = 0 then (if cmpTm a.l b.l = 0 then cmpTm a.r b.r else cmpTm a.l b.l) else cmpI a.op b.op
theorem cmpTs_t3 : T3 cmpTs := by
  have h := (cmpI_p3.pull Ts.op).lex ((cmpTm_t3.toP3.pull Ts.l).lex (cmpTm_t3.toP3.pull Ts.r))
  refine ⟨h, fun a b h => ?_⟩
  unfold cmpTs at h
  split at h
  · split at h
    · rename_i h1 h2
      have := cmpI_t3.eq _ _ h1
      have := cmpTm_t3.eq _ _ h2
      have := cmpTm_t3.eq _ _ h
      cases a; cases b; simp_all
    · contradiction
  · contradiction
/-- Clauses in order. -/
def cmpCl (a b : Cl) : Int := if cmpAt a.head b.head = 0 then (if cmpI a.body.length b.body.length = 0 then (if lexL cmpAt a.body b.body = 0 then (if cmpI a.tests.length b.tests.length = 0 then lexL cmpTs a.tests b.tests else cmpI a.tests.length b.tests.length) else lexL cmpAt a.body b.body) else cmpI a.body.length b.body.length) else cmpAt a.head b.head
theorem cmpCl_t3 : T3 cmpCl := by
  have h := (cmpAt_t3.toP3.pull Cl.head).lex ((cmpI_p3.pull (fun a : Cl => (a.body.length : Int))).lex (((lexL_p3 cmpAt_t3.toP3).pull Cl.body).lex ((cmpI_p3.pull (fun a : Cl => (a.tests.length : Int))).lex ((lexL_p3 cmpTs_t3.toP3).pull Cl.tests))))
  refine ⟨h, fun a b h => ?_⟩
  unfold cmpCl at h
  split at h
  · split at h
    · split at h
      · split at h
        · rename_i h1 h2 h3 h4
          exact (Cl.eq a b).2 ⟨cmpAt_t3.eq _ _ h1, (lexL_t3 cmpAt_t3).eq _ _ h3, (lexL_t3 cmpTs_t3).eq _ _ h⟩
        · contradiction
      · contradiction
    · contradiction
  · contradiction

/-- Each ahead of all that come behind it. -/
def Rise (f : α → α → Int) (l : List α) : Prop := l.Pairwise fun a b => f a b < 0
theorem Rise.uniq (h : P3 f) : ∀ {l l' : List α}, Rise f l → Rise f l' → (∀ x, x ∈ l ↔ x ∈ l') → l = l' := by
  intro l
  induction l with
  | nil =>
    intro l' _ _ hm
    cases l' with
    | nil => rfl
    | cons y l' => exact absurd ((hm y).2 (List.mem_cons_self ..)) (by simp)
  | cons x l ih =>
    intro l' h1 h2 hm
    cases l' with
    | nil => exact absurd ((hm x).1 (List.mem_cons_self ..)) (by simp)
    | cons y l' =>
      have p1 := List.pairwise_cons.1 h1
      have p2 := List.pairwise_cons.1 h2
      have hxy : x = y := by
        rcases List.mem_cons.1 ((hm x).1 (List.mem_cons_self ..)) with e | hx
        · exact e
        · rcases List.mem_cons.1 ((hm y).2 (List.mem_cons_self ..)) with e | hy
          · exact e.symm
          · have a1 := p1.1 y hy
            have a2 := p2.1 x hx
            have := h.neg x y
            omega
      subst hxy
      congr 1
      refine ih p1.2 p2.2 fun z => ⟨fun hz => ?_, fun hz => ?_⟩
      · rcases List.mem_cons.1 ((hm z).1 (List.mem_cons_of_mem _ hz)) with e | h4
        · subst e
          have := p1.1 z hz
          have := h.refl z
          omega
        · exact h4
      · rcases List.mem_cons.1 ((hm z).2 (List.mem_cons_of_mem _ hz)) with e | h4
        · subst e
          have := p2.1 z hz
          have := h.refl z
          omega
        · exact h4
/-- Into a list that rises, unless it is there. -/
def insU (f : α → α → Int) (x : α) : List α → List α
  | [] => [x]
  | y :: l => if f x y < 0 then x :: y :: l else if f x y = 0 then y :: l else y :: insU f x l
/-- The set of a list: rising, none twice; of equals the first one stays. -/
def setU (f : α → α → Int) (l : List α) : List α := l.foldl (fun acc x => insU f x acc) []
theorem mem_insU {x z : α} : ∀ {l : List α}, z ∈ insU f x l → z = x ∨ z ∈ l := by
  intro l
  induction l with
  | nil => intro h; simpa [insU] using h
  | cons y l ih =>
    intro h
    unfold insU at h
    split at h
    · simpa using h
    · split at h
      · exact .inr h
      · rcases List.mem_cons.1 h with e | h
        · exact .inr (e ▸ List.mem_cons_self ..)
        · exact (ih h).imp id (List.mem_cons_of_mem _)
theorem insU_rise (hf : P3 f) {x : α} : ∀ {l : List α}, Rise f l → Rise f (insU f x l) := by
  intro l
  induction l with
  | nil => intro _; simp [insU, Rise]
  | cons y l ih =>
    intro h
    have p := List.pairwise_cons.1 h
    unfold insU
    split
    · rename_i hlt
      refine List.pairwise_cons.2 ⟨fun z hz => ?_, h⟩
      rcases List.mem_cons.1 hz with e | hz
      · subst e; exact hlt
      · exact hf.lt_tr hlt (p.1 z hz)
    · split
      · exact h
      · rename_i h1 h2
        refine List.pairwise_cons.2 ⟨fun z hz => ?_, ih p.2⟩
        rcases mem_insU hz with e | hz
        · subst e
          have := hf.neg z y
          omega
        · exact p.1 z hz
theorem setU_rise (hf : P3 f) (l : List α) : Rise f (setU f l) := by
  unfold setU
  have : ∀ acc, Rise f acc → Rise f (l.foldl (fun acc x => insU f x acc) acc) := by
    induction l with
    | nil => intro acc h; exact h
    | cons x l ih => intro acc h; exact ih _ (insU_rise hf h)
  exact this [] List.Pairwise.nil
theorem mem_insU_iff (hf : T3 f) {x z : α} {l : List α} : z ∈ insU f x l ↔ z = x ∨ z ∈ l := by
  refine ⟨mem_insU, ?_⟩
  induction l with
  | nil => simp [insU]
  | cons y l ih =>
    intro h
    unfold insU
    split
    · simpa using h
    · split
      · rename_i _ e
        have := hf.eq x y e
        subst this
        rcases h with e | h
        · subst e; exact List.mem_cons_self ..
        · exact h
      · rcases h with e | h
        · exact List.mem_cons_of_mem _ (ih (.inl e))
        · rcases List.mem_cons.1 h with e | h
          · subst e; exact List.mem_cons_self ..
          · exact List.mem_cons_of_mem _ (ih (.inr h))
theorem mem_setU (hf : T3 f) {z : α} {l : List α} : z ∈ setU f l ↔ z ∈ l := by
  unfold setU
  have : ∀ (l acc : List α), z ∈ l.foldl (fun acc x => insU f x acc) acc ↔ z ∈ acc ∨ z ∈ l := by
    intro l
    induction l with
    | nil => intro acc; simp
    | cons x l ih => intro acc; rw [List.foldl_cons, ih, mem_insU_iff hf]; simp only [List.mem_cons]; grind
  rw [this]
  simp
theorem setU_eq (hf : T3 f) {l l' : List α} (hr : Rise f l') (hm : ∀ x, x ∈ l' ↔ x ∈ l) : setU f l = l' :=
  (setU_rise hf.toP3 l).uniq hf.toP3 hr fun x => (mem_setU hf).trans (hm x).symm
theorem insU_length {x : α} {l : List α} : (insU f x l).length ≤ l.length + 1 := by
  induction l with
  | nil => simp [insU]
  | cons y l ih =>
    unfold insU
    by_cases h1 : f x y < 0
    · simp [h1]
    · by_cases h2 : f x y = 0 <;> simp [h1, h2, ih]
theorem setU_length (l : List α) : (setU f l).length ≤ l.length := by
  unfold setU
  have : ∀ (l acc : List α), (l.foldl (fun acc x => insU f x acc) acc).length ≤ acc.length + l.length := by
    intro l
    induction l with
    | nil => intro acc; simp
    | cons x l ih => intro acc; have := ih (insU f x acc); have := insU_length (f := f) (x := x) (l := acc); simp only [List.foldl_cons, List.length_cons]; omega
  simpa using this l []
end
end Go.Wk
