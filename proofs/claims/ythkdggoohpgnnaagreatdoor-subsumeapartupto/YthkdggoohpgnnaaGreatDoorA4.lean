/- a part of the proof: lemmas on walks, on plain data, contracts of functions. -/
import Derived.Test.YthkdggoohpgnnaaGreatDoorA3
set_option linter.all false
/- Bindings: what they say, settled; matching of atoms. Plain Lean. -/
namespace Go.Wk
open Go
set_option linter.unusedVariables false

def cmpB (a b : Bd) : Int := cmpI a.var b.var
theorem cmpB_p3 : P3 cmpB := cmpI_p3.pull Bd.var
/-- What a binding says, each number once, rising. -/
def settledB (s : List Bd) : List Bd := setU cmpB s
theorem cmpB_lt {a b : Bd} : cmpB a b < 0 ↔ a.var < b.var := by
  unfold cmpB cmpI; repeat' split <;> try omega
theorem cmpB_eq {a b : Bd} : cmpB a b = 0 ↔ a.var = b.var := cmpI_t3.eq0
theorem lookB_insU (b : Bd) (v : Int) : ∀ l : List Bd, Rise cmpB l → lookB (insU cmpB b l) v = (lookB l v).or (if b.var = v then some b.to else none) := by
  intro l
  induction l with
  | nil => intro _; simp [insU, lookB]
  | cons y l ih =>
    intro h
    have p := List.pairwise_cons.1 h
    unfold insU
    by_cases h1 : cmpB b y < 0
    · rw [if_pos h1]
      have h1' := cmpB_lt.1 h1
      have hn : ∀ z ∈ y :: l, b.var < z.var := by
        intro z hz
        rcases List.mem_cons.1 hz with e | hz
        · subst e; exact h1'
        · have := cmpB_lt.1 (p.1 z hz); omega
      by_cases e : b.var = v
      · have : ∀ l' : List Bd, (∀ z ∈ l', b.var < z.var) → lookB l' v = none := by
          intro l'
          induction l' with
          | nil => intro _; rfl
          | cons z l' ih' =>
            intro hz
            have := hz z (List.mem_cons_self ..)
            rw [lookB, if_neg (by omega)]
            exact ih' fun z' hz' => hz z' (List.mem_cons_of_mem _ hz')
        rw [this _ hn, lookB, if_pos e, if_pos e]
        rfl
      · rw [lookB, if_neg e, if_neg e]
        simp
    · rw [if_neg h1]
      by_cases h2 : cmpB b y = 0
      · rw [if_pos h2]
        have h2' := cmpB_eq.1 h2
        by_cases e : b.var = v
        · rw [lookB, if_pos (by omega)]
          rfl
        · rw [if_neg e]
          simp
      · rw [if_neg h2]
        by_cases e : y.var = v
        · simp [lookB, e]
        · simp only [lookB, if_neg e]
          exact ih p.2
theorem lookB_append (s t : List Bd) (v : Int) : lookB (s ++ t) v = (lookB s v).or (lookB t v) := by
  induction s with
  | nil => simp [lookB]
  | cons b s ih =>
    simp only [List.cons_append, lookB]
    split <;> simp [ih]
theorem lookB_settled (s : List Bd) (v : Int) : lookB (settledB s) v = lookB s v := by
  have : ∀ (s acc : List Bd), Rise cmpB acc → lookB (s.foldl (fun acc x => insU cmpB x acc) acc) v = (lookB acc v).or (lookB s v) := by
    intro s
    induction s with
    | nil => intro acc _; simp [lookB]
    | cons b s ih =>
      intro acc h
      rw [List.foldl_cons, ih _ (insU_rise cmpB_p3 h), lookB_insU b v acc h]
      simp only [lookB]
      cases lookB acc v <;> simp
      split <;> simp
  simpa [settledB, setU, lookB] using this s [] List.Pairwise.nil
theorem settled_rise (s : List Bd) : Rise cmpB (settledB s) := setU_rise cmpB_p3 s
theorem look_mem {s : List Bd} {v : Int} {t : Tm} (h : lookB s v = some t) : ∃ b ∈ s, b.var = v ∧ b.to = t := by
  induction s with
  | nil => cases h
  | cons b s ih =>
    rw [lookB] at h
    split at h
    · exact ⟨b, List.mem_cons_self .., by assumption, by simpa using h⟩
    · obtain ⟨b', h1, h2⟩ := ih h
      exact ⟨b', List.mem_cons_of_mem _ h1, h2⟩
theorem look_of_rise {s : List Bd} (h : Rise cmpB s) {b : Bd} (hb : b ∈ s) : lookB s b.var = some b.to := by
  induction s with
  | nil => cases hb
  | cons x s ih =>
    have p := List.pairwise_cons.1 h
    rcases List.mem_cons.1 hb with e | hb
    · subst e; simp [lookB]
    · have := cmpB_lt.1 (p.1 b hb)
      rw [lookB, if_neg (by omega)]
      exact ih p.2 hb
theorem look_isSome {s : List Bd} {v : Int} : (lookB s v).isSome = true ↔ ∃ b ∈ s, b.var = v := by
  induction s with
  | nil => simp [lookB]
  | cons b s ih =>
    rw [lookB]
    split
    · simp_all
    · rw [ih]
      constructor
      · rintro ⟨b', h1, h2⟩; exact ⟨b', List.mem_cons_of_mem _ h1, h2⟩
      · rintro ⟨b', h1, h2⟩
        rcases List.mem_cons.1 h1 with e | h1
        · subst e; contradiction
        · exact ⟨b', h1, h2⟩
/-- A binding that rises is told by what it says. -/
theorem rise_ext {s s' : List Bd} (h : Rise cmpB s) (h' : Rise cmpB s') (he : ∀ v, lookB s v = lookB s' v) : s = s' := by
  refine h.uniq cmpB_p3 h' fun b => ?_
  have key : ∀ {s s' : List Bd}, Rise cmpB s → (∀ v, lookB s v = lookB s' v) → b ∈ s → b ∈ s' := by
    intro s s' h he hb
    have h1 := look_of_rise h hb
    rw [he] at h1
    obtain ⟨b', hm, e1, e2⟩ := look_mem h1
    have : b' = b := by cases b; cases b'; simp_all
    exact this ▸ hm
  exact ⟨key h he, key h' fun v => (he v).symm⟩
theorem settled_of {s out : List Bd} (h : Rise cmpB out) (he : ∀ v, lookB out v = lookB s v) : out = settledB s :=
  rise_ext h (settled_rise s) fun v => by rw [he, lookB_settled]
/-! ### matching -/
def extB (all : List Bd) (x y : Tm) : List Bd := if x.isVar && (lookB all x.n).isNone then all ++ [⟨x.n, y⟩] else all
def extAll : List Bd → List Tm → List Tm → List Bd
  | all, x :: xs, y :: ys => extAll (extB all x y) xs ys
  | all, _, _ => all
def matchOk (p a : At0) : Bool := decide (p.name = a.name) && (decide (p.args.length = a.args.length) && !(p.by_.isVar && decide (a.by_.k = 0)))
def matchA (p a : At0) (s : List Bd) : Option (List Bd) :=
  if matchOk p a = false then none
  else if applyA (extAll s p.terms a.terms) p = a then some (settledB (extAll s p.terms a.terms)) else none
theorem extB_look {all : List Bd} {x y : Tm} {v : Int} {t : Tm} (h : lookB all v = some t) : lookB (extB all x y) v = some t := by
  unfold extB
  split
  · rw [lookB_append, h]; rfl
  · exact h
theorem extAll_look : ∀ (xs ys : List Tm) (all : List Bd) {v : Int} {t : Tm}, lookB all v = some t → lookB (extAll all xs ys) v = some t := by
  intro xs
  induction xs with
  | nil => intro ys all v t h; exact h
  | cons x xs ih =>
    intro ys all v t h
    cases ys with
    | nil => exact h
    | cons y ys => exact ih ys _ (extB_look h)
theorem extB_var {all : List Bd} {x y : Tm} (h : x.isVar = true) : lookB (extB all x y) x.n = some ((lookB all x.n).getD y) := by
  unfold extB
  cases hl : lookB all x.n with
  | none => simp [h, lookB_append, hl, lookB]
  | some t => simp [hl]
/-- Each place as the binding makes it, one after the other. -/
def scan : List Bd → List Tm → List Tm → Option (List Bd)
  | all, x :: xs, y :: ys =>
    if x.isVar then
      match lookB all x.n with
      | some t => if t = y then scan all xs ys else none
      | none => scan (all ++ [⟨x.n, y⟩]) xs ys
    else if x = y then scan all xs ys else none
  | all, _, _ => some all
theorem become_ext {all : List Bd} {x y : Tm} (xs ys : List Tm) : becomeT (extAll (extB all x y) xs ys) x = y ↔ (if x.isVar then (lookB all x.n).getD y = y else x = y) := by
  unfold becomeT
  by_cases h : x.isVar = true
  · have h1 := extAll_look xs ys _ (extB_var (all := all) (y := y) h)
    simp [h, h1]
  · simp [h]
theorem scan_eq : ∀ (xs ys : List Tm) (all : List Bd), xs.length = ys.length → scan all xs ys = if xs.map (becomeT (extAll all xs ys)) = ys then some (extAll all xs ys) else none := by
  intro xs
  induction xs with
  | nil => intro ys all h; cases ys <;> simp_all [scan, extAll]
  | cons x xs ih =>
    intro ys all h
    cases ys with
    | nil => simp at h
    | cons y ys =>
      have hl : xs.length = ys.length := by simpa using h
      have hb := become_ext (all := all) (x := x) (y := y) xs ys
      simp only [extAll, List.map_cons, List.cons.injEq, hb]
      unfold scan
      by_cases hv : x.isVar = true
      · simp only [hv, if_true]
        cases hk : lookB all x.n with
        | none =>
          have : extB all x y = all ++ [⟨x.n, y⟩] := by simp [extB, hv, hk]
          simp [this, ih ys _ hl]
        | some t =>
          have : extB all x y = all := by simp [extB, hv, hk]
          simp only [this, ih ys _ hl, Option.getD_some]
          by_cases e : t = y <;> simp [e]
      · have : extB all x y = all := by simp [extB, hv]
        simp only [hv, this, ih ys _ hl]
        by_cases e : x = y <;> simp [e]
theorem applyA_eq {s : List Bd} {p a : At0} (hn : p.name = a.name) : applyA s p = a ↔ p.terms.map (becomeT s) = a.terms := by
  rw [At0.eq]
  simp [applyA, At0.terms, hn]
theorem matchA_scan (p a : At0) (s : List Bd) : matchA p a s = if matchOk p a = false then none else (scan s p.terms a.terms).map settledB := by
  unfold matchA
  by_cases h : matchOk p a = false
  · simp [h]
  · rw [if_neg h, if_neg h]
    simp [matchOk] at h
    rw [scan_eq _ _ _ (by simp [At0.terms, h.2.1])]
    simp only [applyA_eq h.1]
    split <;> rfl
/-- A term by an assignment. -/
def subT (g : Int → Tm) (t : Tm) : Tm := if t.isVar then g t.n else t
/-- What an assignment does to one of two atoms: it makes it the other one. -/
def Makes (g : Int → Tm) (p a : At0) : Prop := p.map (subT g) = a ∧ ¬ (p.by_.isVar = true ∧ a.by_.k = 0)
theorem makes_terms {g : Int → Tm} {p a : At0} : Makes g p a ↔ matchOk p a = true ∧ p.terms.map (subT g) = a.terms := by
  unfold Makes
  rw [At0.eq]
  simp only [At0.map, At0.terms, matchOk, List.map_cons, List.cons.injEq]
  constructor
  · rintro ⟨⟨h1, h2, h3⟩, h4⟩
    have : p.args.length = a.args.length := by rw [← h3]; simp
    refine ⟨?_, h1, h3⟩
    simp only [Bool.and_eq_true, decide_eq_true_eq, Bool.not_eq_true', Bool.and_eq_false_iff]
    refine ⟨h2, this, ?_⟩
    by_cases e : p.by_.isVar = true
    · exact .inr (by simpa using fun e' => h4 ⟨e, e'⟩)
    · exact .inl (by simpa using e)
  · rintro ⟨h, h1, h3⟩
    simp at h
    refine ⟨⟨h1, h.1, h3⟩, fun h4 => ?_⟩
    rcases h.2.2 with h5 | h5
    · rw [h4.1] at h5; cases h5
    · exact h5 h4.2
theorem scan_none {g : Int → Tm} : ∀ (xs ys : List Tm) (all : List Bd), (∀ v t, lookB all v = some t → g v = t) → xs.map (subT g) = ys → ∃ all', scan all xs ys = some all' ∧ (∀ v t, lookB all' v = some t → g v = t) := by
  intro xs
  induction xs with
  | nil => intro ys all h e; cases ys <;> simp_all [scan]
  | cons x xs ih =>
    intro ys all h e
    cases ys with
    | nil => simp at e
    | cons y ys =>
      simp only [List.map_cons, List.cons.injEq] at e
      obtain ⟨e1, e2⟩ := e
      unfold scan
      by_cases hv : x.isVar = true
      · simp only [subT, hv, if_true] at e1 ⊢
        cases hk : lookB all x.n with
        | none =>
          refine ih ys _ (fun v t hl => ?_) e2
          rw [lookB_append] at hl
          cases ha : lookB all v with
          | some t' => rw [ha] at hl; simp at hl; exact hl ▸ h v t' ha
          | none =>
            rw [ha] at hl
            simp only [Option.none_or, lookB] at hl
            split at hl
            · rename_i e3; simp at hl; subst hl; rw [← e3]; exact e1
            · cases hl
        | some t =>
          have : t = y := by rw [← h _ _ hk, e1]
          simp only [this, if_true]
          exact ih ys _ h e2
      · simp only [subT, hv] at e1
        simp at e1
        subst e1
        rw [if_neg hv, if_pos rfl]
        exact ih ys _ h e2
theorem extAll_vars : ∀ (xs ys : List Tm) (all : List Bd), xs.length = ys.length → ∀ x ∈ xs, x.isVar = true → (lookB (extAll all xs ys) x.n).isSome = true := by
  intro xs
  induction xs with
  | nil => intro ys all _ x hx; cases hx
  | cons x xs ih =>
    intro ys all hl z hz hv
    cases ys with
    | nil => simp at hl
    | cons y ys =>
      rcases List.mem_cons.1 hz with e | hz
      · subst e
        rw [extAll, extAll_look xs ys _ (extB_var hv)]
        rfl
      · exact ih ys _ (by simpa using hl) z hz hv
/-- Where the numbers that a binding says come from. -/
theorem extAll_dom : ∀ (xs ys : List Tm) (all : List Bd) (v : Int), (lookB (extAll all xs ys) v).isSome = true → (lookB all v).isSome = true ∨ ∃ x ∈ xs, x.isVar = true ∧ x.n = v := by
  intro xs
  induction xs with
  | nil => intro ys all v h; exact .inl h
  | cons x xs ih =>
    intro ys all v h
    cases ys with
    | nil => exact .inl h
    | cons y ys =>
      rcases ih ys _ v h with h1 | ⟨z, hz, h1⟩
      · unfold extB at h1
        split at h1
        · rename_i hc
          rw [lookB_append] at h1
          cases ha : lookB all v with
          | some t => exact .inl rfl
          | none =>
            rw [ha] at h1
            simp only [Option.none_or, lookB] at h1
            split at h1
            · simp at hc
              exact .inr ⟨x, List.mem_cons_self .., hc.1, by assumption⟩
            · cases h1
        · exact .inl h1
      · exact .inr ⟨z, List.mem_cons_of_mem _ hz, h1⟩
/-- Matching: the answer says what s says and what makes the one atom the other. -/
theorem matchA_some {p a : At0} {s t : List Bd} (h : matchA p a s = some t) :
    (∀ v x, lookB s v = some x → lookB t v = some x) ∧ (∀ g : Int → Tm, (∀ v x, lookB t v = some x → g v = x) → Makes g p a) ∧ (∀ x ∈ p.terms, x.isVar = true → (lookB t x.n).isSome = true)
      ∧ ∀ v, (lookB t v).isSome = true → (lookB s v).isSome = true ∨ ∃ x ∈ p.terms, x.isVar = true ∧ x.n = v := by
  unfold matchA at h
  split at h
  · cases h
  · rename_i hok
    simp only [Bool.not_eq_false] at hok
    have hok' := hok
    simp [matchOk] at hok'
    have hlen : p.terms.length = a.terms.length := by simp [At0.terms, hok'.2.1]
    split at h
    · rename_i ha
      simp only [Option.some.injEq] at h
      subst h
      simp only [lookB_settled]
      refine ⟨fun v x hx => extAll_look _ _ _ hx, fun g hg => ?_, extAll_vars _ _ _ hlen, extAll_dom _ _ _⟩
      rw [makes_terms]
      refine ⟨hok, ?_⟩
      rw [applyA_eq hok'.1] at ha
      conv => rhs; rw [← ha]
      refine List.map_congr_left fun x hx => ?_
      unfold subT becomeT
      by_cases hv : x.isVar = true
      · have := extAll_vars _ _ s hlen x hx hv
        cases hk : lookB (extAll s p.terms a.terms) x.n with
        | none => rw [hk] at this; cases this
        | some y => simp [hv, hg _ _ hk]
      · simp [hv]
    · cases h
theorem matchA_of {p a : At0} {s : List Bd} {g : Int → Tm} (hs : ∀ v x, lookB s v = some x → g v = x) (h : Makes g p a) : ∃ t, matchA p a s = some t ∧ ∀ v x, lookB t v = some x → g v = x := by
  obtain ⟨h1, h2⟩ := makes_terms.1 h
  obtain ⟨all', h3, h4⟩ := scan_none _ _ s hs h2
  rw [matchA_scan, if_neg (by simp [h1]), h3]
  exact ⟨_, rfl, fun v x hx => h4 v x (by rwa [lookB_settled] at hx)⟩
/-- An assignment that says what a binding says. -/
def assign (s : List Bd) (v : Int) : Tm := (lookB s v).getD Tn
theorem assign_of {s : List Bd} {v : Int} {x : Tm} (h : lookB s v = some x) : assign s v = x := by simp [assign, h]
theorem matchA_isSome {p a : At0} {s : List Bd} : (matchA p a s).isSome = true ↔ ∃ g : Int → Tm, (∀ v x, lookB s v = some x → g v = x) ∧ Makes g p a := by
  constructor
  · intro h
    obtain ⟨t, ht⟩ := Option.isSome_iff_exists.1 h
    have h1 := matchA_some ht
    exact ⟨assign t, fun v x hx => assign_of (h1.1 v x hx), h1.2.1 _ fun v x hx => assign_of hx⟩
  · rintro ⟨g, h1, h2⟩
    obtain ⟨t, ht, _⟩ := matchA_of h1 h2
    simp [ht]
end Go.Wk
/- Valid clauses; when one clause becomes part of another; the search for the least values. Plain Lean. -/
namespace Go.Wk
open Go
set_option linter.unusedVariables false

def misnum : List Tm → Nat → Bool
  | [], _ => false
  | t :: ts, i => !decide (t.n = i) || misnum ts (i + 1)
/-- What a clause is refused for. -/
def Cl.check (x : Cl) : Int :=
  if 8 < x.body.length ∨ 8 < x.tests.length then 31 else
  orI [orI ((x.head :: x.body).map At0.check), orI (x.tests.map Ts.check), if x.head.by_.k = 3 then 33 else 0,
    if (varsOf (x.head.terms ++ x.testTerms)).any (fun t => !decide (t ∈ x.bodyTerms)) then 34 else 0, if misnum (varsOf x.terms) 0 then 35 else 0]
def Cl.nv (x : Cl) : Nat := (varsOf x.terms).length
theorem orI_zero {l : List Int} : orI l = 0 ↔ ∀ x ∈ l, x = 0 := by
  induction l with
  | nil => simp [orI]
  | cons a l ih =>
    unfold orI
    split
    · rename_i h; simp [ih, h]
    · rename_i h; simp [h]
theorem mem_foldl_varsOn {t : Tm} : ∀ (ts out : List Tm), t ∈ ts.foldl varsOn out ↔ t ∈ out ∨ (t ∈ ts ∧ t.isVar = true) := by
  intro ts
  induction ts with
  | nil => intro out; simp
  | cons x ts ih =>
    intro out
    rw [List.foldl_cons, ih]
    unfold varsOn
    by_cases h1 : x.isVar = true
    · by_cases h2 : x ∈ out
      · simp only [h1, h2, decide_true, Bool.not_true, Bool.and_false, List.mem_cons]
        constructor
        · rintro (h | ⟨h, h3⟩)
          · exact .inl h
          · exact .inr ⟨.inr h, h3⟩
        · rintro (h | ⟨h | h, h3⟩)
          · exact .inl h
          · subst h; exact .inl h2
          · exact .inr ⟨h, h3⟩
      · simp only [h1, h2, decide_false, Bool.not_false, Bool.and_true, if_true, List.mem_append, List.mem_cons, List.not_mem_nil, or_false]
        constructor
        · rintro ((h | h) | ⟨h, h3⟩)
          · exact .inl h
          · subst h; exact .inr ⟨.inl rfl, h1⟩
          · exact .inr ⟨.inr h, h3⟩
        · rintro (h | ⟨h | h, h3⟩)
          · exact .inl (.inl h)
          · exact .inl (.inr h)
          · exact .inr ⟨h, h3⟩
    · simp only [h1, Bool.false_and, List.mem_cons]
      constructor
      · rintro (h | ⟨h, h3⟩)
        · exact .inl h
        · exact .inr ⟨.inr h, h3⟩
      · rintro (h | ⟨h | h, h3⟩)
        · exact .inl h
        · subst h; exact absurd h3 h1
        · exact .inr ⟨h, h3⟩
theorem mem_varsOf {t : Tm} {ts : List Tm} : t ∈ varsOf ts ↔ t ∈ ts ∧ t.isVar = true := by
  unfold varsOf
  rw [mem_foldl_varsOn]
  simp
theorem misnum_false : ∀ (ts : List Tm) (i : Nat), misnum ts i = false ↔ ∀ (j : Nat) (t : Tm), ts[j]? = some t → t.n = ((i + j : Nat) : Int) := by
  intro ts
  induction ts with
  | nil => intro i; simp [misnum]
  | cons x ts ih =>
    intro i
    unfold misnum
    rw [Bool.or_eq_false_iff, ih]
    constructor
    · rintro ⟨h1, h2⟩ j t hj
      cases j with
      | zero => simp at hj h1; subst hj; simpa using h1
      | succ j => have := h2 j t (by simpa using hj); rw [this]; omega
    · intro h
      refine ⟨by simpa using h 0 x rfl, fun j t hj => ?_⟩
      have := h (j + 1) t (by simpa using hj)
      rw [this]; omega
/-- What a clause that isn't refused is. -/
structure Cl.Ok (x : Cl) : Prop where
  b8 : x.body.length ≤ 8
  t8 : x.tests.length ≤ 8
  at_ : ∀ a ∈ x.head :: x.body, a.check = 0
  ts : ∀ t ∈ x.tests, t.check = 0
  hd : x.head.by_.k ≠ 3
  safe : ∀ t ∈ x.head.terms ++ x.testTerms, t.isVar = true → t ∈ x.bodyTerms
  num : ∀ (j : Nat) (t : Tm), (varsOf x.terms)[j]? = some t → t.n = (j : Int)
theorem Cl.check_ok {x : Cl} : x.check = 0 ↔ x.Ok := by
  unfold Cl.check
  constructor
  · intro h
    split at h
    · cases h
    · rename_i hb
      rw [orI_zero] at h
      simp only [List.mem_cons, List.not_mem_nil, or_false, forall_eq_or_imp, forall_eq] at h
      obtain ⟨h1, h2, h3, h4, h5⟩ := h
      rw [orI_zero] at h1 h2
      refine ⟨by omega, by omega, fun a ha => h1 _ (List.mem_map_of_mem ha), fun t ht => h2 _ (List.mem_map_of_mem ht), fun e => by simp [e] at h3, fun t ht hv => ?_, fun j t hj => ?_⟩
      · by_cases hc : t ∈ x.bodyTerms
        · exact hc
        · rw [if_pos] at h4
          · cases h4
          · exact List.any_eq_true.2 ⟨t, mem_varsOf.2 ⟨ht, hv⟩, by simpa using hc⟩
      · by_cases hm : misnum (varsOf x.terms) 0 = true
        · simp [hm] at h5
        · have := (misnum_false _ 0).1 (by simpa using hm) j t hj
          simpa using this
  · intro h
    rw [if_neg (by have := h.b8; have := h.t8; omega), orI_zero]
    simp only [List.mem_cons, List.not_mem_nil, or_false, forall_eq_or_imp, forall_eq]
    refine ⟨orI_zero.2 fun e he => ?_, orI_zero.2 fun e he => ?_, by simp [h.hd], ?_, ?_⟩
    · obtain ⟨a, ha, rfl⟩ := List.mem_map.1 he
      exact h.at_ a ha
    · obtain ⟨t, ht, rfl⟩ := List.mem_map.1 he
      exact h.ts t ht
    · rw [if_neg]
      intro hc
      obtain ⟨t, ht, hc⟩ := List.any_eq_true.1 hc
      obtain ⟨h1, h2⟩ := mem_varsOf.1 ht
      simp [h.safe t h1 h2] at hc
    · rw [if_neg]
      rw [(misnum_false _ 0).2 fun j t hj => by simpa using h.num j t hj]
      simp
theorem isVar_eq {t u : Tm} (h : t.isVar = true) (h' : u.isVar = true) (e : t.n = u.n) : t = u := by
  simp [Tm.isVar] at h h'
  cases t; cases u; simp_all
theorem isVar_nn {t : Tm} (h : t.isVar = true) : 0 ≤ t.n := by simp [Tm.isVar] at h; omega
theorem Cl.Ok.lt {x : Cl} (h : x.Ok) {t : Tm} (ht : t ∈ x.terms) (hv : t.isVar = true) : ∃ j : Nat, j < x.nv ∧ t.n = (j : Int) := by
  obtain ⟨j, hj, e⟩ := List.mem_iff_getElem.1 (mem_varsOf.2 ⟨ht, hv⟩)
  exact ⟨j, hj, h.num j t (e ▸ List.getElem?_eq_getElem hj)⟩
theorem Cl.Ok.var {x : Cl} (h : x.Ok) {j : Nat} (hj : j < x.nv) : ∃ t ∈ x.bodyTerms, t.isVar = true ∧ t.n = (j : Int) := by
  have h1 := h.num j _ (List.getElem?_eq_getElem hj)
  have h2 := mem_varsOf.1 (List.getElem_mem hj)
  refine ⟨_, ?_, h2.2, h1⟩
  have h3 := h2.1
  simp only [Cl.terms, List.mem_append] at h3
  rcases h3 with (h3 | h3) | h3
  · exact h.safe _ (List.mem_append_left _ h3) h2.2
  · exact h3
  · exact h.safe _ (List.mem_append_right _ h3) h2.2
theorem Cl.mem_body {x : Cl} {a : At0} (ha : a ∈ x.body) {t : Tm} (ht : t ∈ a.terms) : t ∈ x.bodyTerms := List.mem_flatMap.2 ⟨a, ha, ht⟩
theorem Cl.mem_terms_body {x : Cl} {t : Tm} (ht : t ∈ x.bodyTerms) : t ∈ x.terms := by simp [Cl.terms, ht]
theorem Cl.mem_terms_head {x : Cl} {t : Tm} (ht : t ∈ x.head.terms) : t ∈ x.terms := by simp [Cl.terms, ht]
theorem Cl.mem_terms_test {x : Cl} {t : Tm} (ht : t ∈ x.testTerms) : t ∈ x.terms := by simp [Cl.terms, ht]

/-! ### values for variables -/
def instT (vals : List Tm) (t : Tm) : Tm := if t.isVar && decide (t.n < vals.length) then (vals[t.n.toNat]?).getD Tn else t
def bindsOf : Nat → List Tm → List Bd
  | _, [] => []
  | i, v :: vs => ⟨i, v⟩ :: bindsOf (i + 1) vs
theorem lookB_binds : ∀ (vs : List Tm) (i : Nat) (v : Int), lookB (bindsOf i vs) v = if (i : Int) ≤ v then vs[(v - i).toNat]? else none := by
  intro vs
  induction vs with
  | nil => intro i v; simp [bindsOf, lookB]
  | cons x vs ih =>
    intro i v
    rw [bindsOf, lookB]
    by_cases h : (i : Int) = v
    · subst h; simp
    · rw [if_neg h, ih]
      by_cases h2 : (i : Int) ≤ v
      · rw [if_pos (by omega), if_pos h2]
        have : (v - (i : Int)).toNat = (v - ((i + 1 : Nat) : Int)).toNat + 1 := by omega
        rw [this, List.getElem?_cons_succ]
      · rw [if_neg (by omega), if_neg h2]
theorem bindsOf_snoc : ∀ (vs : List Tm) (i : Nat) (t : Tm), bindsOf i (vs ++ [t]) = bindsOf i vs ++ [⟨((i + vs.length : Nat) : Int), t⟩] := by
  intro vs
  induction vs with
  | nil => intro i t; simp [bindsOf]
  | cons x vs ih =>
    intro i t
    simp only [List.cons_append, bindsOf, ih, List.length_cons]
    have : i + 1 + vs.length = i + (vs.length + 1) := by omega
    rw [this]
theorem look_binds (vs : List Tm) {v : Int} (hv : 0 ≤ v) : lookB (bindsOf 0 vs) v = vs[v.toNat]? := by
  rw [lookB_binds]
  simp [hv]
theorem become_binds (vs : List Tm) (t : Tm) : becomeT (bindsOf 0 vs) t = instT vs t := by
  unfold becomeT instT
  by_cases h : t.isVar = true
  · have h0 := isVar_nn h
    rw [look_binds vs h0]
    by_cases h2 : t.n < vs.length
    · have h3 : t.n.toNat < vs.length := by omega
      simp [h, h2, List.getElem?_eq_getElem h3]
    · have h3 : vs.length ≤ t.n.toNat := by omega
      simp [h, h2, List.getElem?_eq_none h3]
  · simp [h]
/-- The assignment that values make. -/
def asg (vs : List Tm) (v : Int) : Tm := (vs[v.toNat]?).getD Tn
def testI (vs : List Tm) (t : Ts) : Ts := ⟨t.op, instT vs t.l, instT vs t.r⟩
def tsOk (d : Cl) (t : Ts) : Bool := (t.decide.1 && t.decide.2) || decide (t ∈ d.tests)
/-- Does c become part of d by these values? -/
def partB (c d : Cl) (vs : List Tm) : Bool := decide ((c.map (instT vs)).head = d.head) && ((c.map (instT vs)).body.all (fun a => decide (a ∈ d.body)) && (c.map (instT vs)).tests.all (tsOk d))
structure Full (c d : Cl) (vs : List Tm) : Prop where
  len : vs.length = c.nv
  head : Makes (asg vs) c.head d.head
  body : ∀ a ∈ c.body, ∃ b ∈ d.body, Makes (asg vs) a b
  tests : ∀ t ∈ c.tests, tsOk d (testI vs t) = true
/-- The least values, or none. -/
def SubAns (c d : Cl) : Option (List Tm) → Prop
  | none => ∀ v, ¬ Full c d v
  | some v => Full c d v ∧ ∀ w, Full c d w → lexL cmpTm v w ≤ 0
theorem SubAns.uniq {c d : Cl} {r r' : Option (List Tm)} (h : SubAns c d r) (h' : SubAns c d r') : r = r' := by
  cases r with
  | none => cases r' with
    | none => rfl
    | some v => exact absurd h'.1 (h v)
  | some v => cases r' with
    | none => exact absurd h.1 (h' v)
    | some w =>
      have h1 := h.2 w h'.1
      have h2 := h'.2 v h.1
      have h3 := (lexL_t3 cmpTm_t3).neg v w
      exact congrArg some ((lexL_t3 cmpTm_t3).eq v w (by omega))
theorem instT_asg {x : Cl} (h : x.Ok) {vs : List Tm} (hl : vs.length = x.nv) {t : Tm} (ht : t ∈ x.terms) : instT vs t = subT (asg vs) t := by
  unfold instT subT asg
  by_cases hv : t.isVar = true
  · obtain ⟨j, hj, e⟩ := h.lt ht hv
    simp [hv, show t.n < vs.length by omega]
  · simp [hv]
theorem map_congrA {f g : Tm → Tm} {a : At0} (h : ∀ t ∈ a.terms, f t = g t) : a.map f = a.map g := by
  rw [At0.eq]
  refine ⟨h _ (by simp [At0.terms]), rfl, List.map_congr_left fun t ht => h t (by simp [At0.terms, ht])⟩
theorem Full.part {c d : Cl} (hc : c.Ok) {vs : List Tm} (h : Full c d vs) : partB c d vs = true := by
  simp only [partB, Bool.and_eq_true, decide_eq_true_eq, List.all_eq_true]
  show _ = _ ∧ _
  refine ⟨?_, fun a ha => ?_, fun t ht => ?_⟩
  · show c.head.map (instT vs) = d.head
    rw [map_congrA (g := subT (asg vs)) fun t ht => instT_asg hc h.len (Cl.mem_terms_head ht)]
    exact h.head.1
  · obtain ⟨a', ha', rfl⟩ := List.mem_map.1 ha
    obtain ⟨b, hb, hm⟩ := h.body a' ha'
    rw [map_congrA (g := subT (asg vs)) fun t ht => instT_asg hc h.len (Cl.mem_terms_body (Cl.mem_body ha' ht)), hm.1]
    exact hb
  · obtain ⟨t', ht', rfl⟩ := List.mem_map.1 ht
    exact h.tests t' ht'

/-! ### all ways -/
def waysW : List At0 → List At0 → List Bd → List (List Bd)
  | [], _, s => [s]
  | a :: as, body, s => body.flatMap fun b => match matchA a b s with | none => [] | some t => waysW as body t
def valsOf (n : Nat) (s : List Bd) : List Tm := (List.range n).map fun (v : Nat) => (lookB s v).getD Tn
theorem ways_mem : ∀ (atoms body : List At0) (s b : List Bd), b ∈ waysW atoms body s →
    (∀ v x, lookB s v = some x → lookB b v = some x) ∧ (∀ a ∈ atoms, ∃ y ∈ body, ∀ g : Int → Tm, (∀ v x, lookB b v = some x → g v = x) → Makes g a y) ∧ (∀ a ∈ atoms, ∀ x ∈ a.terms, x.isVar = true → (lookB b x.n).isSome = true) := by
  intro atoms
  induction atoms with
  | nil =>
    intro body s b h
    simp [waysW] at h
    subst h
    exact ⟨fun _ _ h => h, (fun a h => by cases h), fun a h => by cases h⟩
  | cons a as ih =>
    intro body s b h
    simp only [waysW, List.mem_flatMap] at h
    obtain ⟨y, hy, h⟩ := h
    cases hm : matchA a y s with
    | none => rw [hm] at h; simp at h
    | some t =>
      rw [hm] at h
      obtain ⟨i1, i2, i3⟩ := ih body t b h
      obtain ⟨m1, m2, m3, _⟩ := matchA_some hm
      refine ⟨fun v x hx => i1 v x (m1 v x hx), fun a' ha' => ?_, fun a' ha' x hx hv => ?_⟩
      · rcases List.mem_cons.1 ha' with e | ha'
        · subst e
          exact ⟨y, hy, fun g hg => m2 g fun v x hx => hg v x (i1 v x hx)⟩
        · exact i2 a' ha'
      · rcases List.mem_cons.1 ha' with e | ha'
        · subst e
          obtain ⟨z, hz⟩ := Option.isSome_iff_exists.1 (m3 x hx hv)
          rw [i1 _ _ hz]
          rfl
        · exact i3 a' ha' x hx hv
theorem ways_of {g : Int → Tm} : ∀ (atoms body : List At0) (s : List Bd), (∀ v x, lookB s v = some x → g v = x) → (∀ a ∈ atoms, ∃ y ∈ body, Makes g a y) → ∃ b ∈ waysW atoms body s, ∀ v x, lookB b v = some x → g v = x := by
  intro atoms
  induction atoms with
  | nil => intro body s h _; exact ⟨s, by simp [waysW], h⟩
  | cons a as ih =>
    intro body s h h2
    obtain ⟨y, hy, hm⟩ := h2 a (List.mem_cons_self ..)
    obtain ⟨t, ht, hg⟩ := matchA_of h hm
    obtain ⟨b, hb, hg2⟩ := ih body t hg fun a' ha' => h2 a' (List.mem_cons_of_mem _ ha')
    exact ⟨b, by simp only [waysW, List.mem_flatMap]; exact ⟨y, hy, by rw [ht]; exact hb⟩, hg2⟩
theorem valsOf_get {n : Nat} {s : List Bd} {i : Nat} (hi : i < n) : (valsOf n s)[i]? = some ((lookB s i).getD Tn) := by
  simp [valsOf, hi]
theorem valsOf_length (n : Nat) (s : List Bd) : (valsOf n s).length = n := by simp [valsOf]
/-- The values that do are those of the ways that do. -/
theorem full_iff {c d : Cl} (hc : c.Ok) {v : List Tm} : Full c d v ↔ ∃ first, matchA c.head d.head [] = some first ∧ ∃ b ∈ waysW c.body d.body first, v = valsOf c.nv b ∧ partB c d v = true := by
  constructor
  · intro h
    obtain ⟨first, hf, hg⟩ := matchA_of (s := []) (g := asg v) (fun _ _ h => by cases h) h.head
    obtain ⟨b, hb, hg2⟩ := ways_of c.body d.body first hg h.body
    refine ⟨first, hf, b, hb, ?_, h.part hc⟩
    refine List.ext_getElem? fun i => ?_
    rcases Nat.lt_or_ge i c.nv with hi | hi
    · rw [valsOf_get hi]
      obtain ⟨t, ht, hv, hn⟩ := hc.var hi
      obtain ⟨a, ha, ht⟩ := List.mem_flatMap.1 ht
      have h3 := (ways_mem _ _ _ _ hb).2.2 a ha t ht hv
      obtain ⟨z, hz⟩ := Option.isSome_iff_exists.1 h3
      rw [hn] at hz
      have h4 := hg2 _ _ hz
      have hil : i < v.length := by rw [h.len]; exact hi
      rw [hz, ← h4]
      simp [asg, List.getElem?_eq_getElem hil]
    · rw [List.getElem?_eq_none (by rw [h.len]; exact hi), List.getElem?_eq_none (by rw [valsOf_length]; exact hi)]
  · rintro ⟨first, hf, b, hb, rfl, hp⟩
    obtain ⟨w1, w2, w3⟩ := ways_mem _ _ _ _ hb
    have hg : ∀ t ∈ c.terms, t.isVar = true → asg (valsOf c.nv b) t.n = (lookB b t.n).getD Tn := by
      intro t ht hv
      obtain ⟨j, hj, e⟩ := hc.lt ht hv
      rw [asg, e]
      simp [valsOf_get hj]
    have hmk : ∀ {a y : At0}, (∀ t ∈ a.terms, t ∈ c.terms) → Makes (assign b) a y → Makes (asg (valsOf c.nv b)) a y := by
      intro a y hin hm
      refine ⟨?_, hm.2⟩
      rw [map_congrA (g := subT (assign b)) fun t ht => ?_]
      · exact hm.1
      · unfold subT
        by_cases hv : t.isVar = true
        · simp only [hv, if_true, hg t (hin t ht) hv]
          rfl
        · simp [hv]
    obtain ⟨m1, m2, _⟩ := matchA_some hf
    simp only [partB, Bool.and_eq_true, decide_eq_true_eq, List.all_eq_true] at hp
    refine ⟨valsOf_length _ _, hmk (fun t ht => Cl.mem_terms_head ht) (m2 _ fun v x hx => assign_of (w1 v x hx)), fun a ha => ?_, fun t ht => hp.2.2 _ (List.mem_map_of_mem ht)⟩
    obtain ⟨y, hy, hm⟩ := w2 a ha
    exact ⟨y, hy, hmk (fun t ht => Cl.mem_terms_body (Cl.mem_body ha ht)) (hm _ fun v x hx => assign_of hx)⟩
/-! ### the least of them -/
def aheadB : List Tm → List Tm → Bool
  | x :: xs, y :: ys => if cmpTm x y = 0 then aheadB xs ys else decide (cmpTm x y < 0)
  | _, _ => false
theorem aheadB_lex : ∀ (a b : List Tm), a.length = b.length → (aheadB a b = true ↔ lexL cmpTm a b < 0)
  | [], [] => fun _ => by simp [aheadB, lexL]
  | [], _ :: _ => fun h => by simp at h
  | _ :: _, [] => fun h => by simp at h
  | x :: xs, y :: ys => fun h => by
    have ih := aheadB_lex xs ys (by simpa using h)
    simp only [aheadB, lexL]
    split
    · exact ih
    · simp
def leastOn (c d : Cl) (acc : Option (List Tm)) (b : List Bd) : Option (List Tm) :=
  if partB c d (valsOf c.nv b) then
    match acc with
    | none => some (valsOf c.nv b)
    | some l => if aheadB (valsOf c.nv b) l then some (valsOf c.nv b) else some l
  else acc
/-- The document's answer. -/
def subsR (c d : Cl) : Option (List Tm) :=
  if c.check ≠ 0 ∨ d.check ≠ 0 then none else
  match matchA c.head d.head [] with
  | none => none
  | some first => (waysW c.body d.body first).foldl (leastOn c d) none
theorem leastOn_fold {c d : Cl} : ∀ (l : List (List Bd)) (acc : Option (List Tm)) (S : List Tm → Prop), (∀ v, acc = some v → v.length = c.nv) →
    (match acc with | none => ∀ v, ¬ S v | some v => S v ∧ ∀ w, S w → lexL cmpTm v w ≤ 0) → (∀ v, S v → v.length = c.nv) →
    match l.foldl (leastOn c d) acc with
    | none => ∀ v, ¬ (S v ∨ ∃ b ∈ l, v = valsOf c.nv b ∧ partB c d v = true)
    | some v => (S v ∨ ∃ b ∈ l, v = valsOf c.nv b ∧ partB c d v = true) ∧ ∀ w, (S w ∨ ∃ b ∈ l, w = valsOf c.nv b ∧ partB c d w = true) → lexL cmpTm v w ≤ 0 := by
  intro l
  induction l with
  | nil =>
    intro acc S _ h _
    simp only [List.foldl_nil, List.not_mem_nil, false_and, exists_false, or_false]
    cases acc <;> exact h
  | cons b l ih =>
    intro acc S hl h hS
    rw [List.foldl_cons]
    have hlv := valsOf_length c.nv b
    have key := ih (leastOn c d acc b) (fun v => S v ∨ (v = valsOf c.nv b ∧ partB c d v = true)) (fun v hv => ?_) ?_ (fun v hv => ?_)
    · have e : ∀ v, ((S v ∨ (v = valsOf c.nv b ∧ partB c d v = true)) ∨ ∃ b ∈ l, v = valsOf c.nv b ∧ partB c d v = true) ↔ (S v ∨ ∃ b' ∈ b :: l, v = valsOf c.nv b' ∧ partB c d v = true) := by
        intro v
        simp only [List.mem_cons, exists_eq_or_imp, or_assoc]
      simp only [e] at key
      exact key
    · unfold leastOn at hv
      split at hv
      · split at hv
        · simp at hv; subst hv; exact hlv
        · split at hv
          · simp at hv; subst hv; exact hlv
          · exact hl v hv
      · exact hl v hv
    · unfold leastOn
      by_cases hp : partB c d (valsOf c.nv b) = true
      · rw [if_pos hp]
        cases acc with
        | none =>
          refine ⟨.inr ⟨rfl, hp⟩, fun w hw => ?_⟩
          rcases hw with hw | ⟨rfl, _⟩
          · exact absurd hw (h w)
          · have := (lexL_t3 cmpTm_t3).refl (valsOf c.nv b)
            omega
        | some u =>
          have hul := hl u rfl
          dsimp only
          have ha := aheadB_lex (valsOf c.nv b) u (by omega)
          by_cases hah : aheadB (valsOf c.nv b) u = true
          · rw [if_pos hah]
            have hlt := ha.1 hah
            refine ⟨.inr ⟨rfl, hp⟩, fun w hw => ?_⟩
            rcases hw with hw | ⟨rfl, _⟩
            · have := (lexL_t3 cmpTm_t3).lt_le hlt (h.2 w hw)
              omega
            · have := (lexL_t3 cmpTm_t3).refl (valsOf c.nv b)
              omega
          · rw [if_neg hah]
            have hge : ¬ lexL cmpTm (valsOf c.nv b) u < 0 := fun h => hah (ha.2 h)
            refine ⟨.inl h.1, fun w hw => ?_⟩
            rcases hw with hw | ⟨rfl, _⟩
            · exact h.2 w hw
            · have := (lexL_t3 cmpTm_t3).neg (valsOf c.nv b) u
              omega
      · rw [if_neg hp]
        have e : ∀ v, (S v ∨ (v = valsOf c.nv b ∧ partB c d v = true)) ↔ S v := fun v => ⟨fun h => h.elim id fun ⟨e, h2⟩ => by subst e; exact absurd h2 hp, .inl⟩
        simp only [e]
        exact h
    · rcases hv with hv | ⟨rfl, _⟩
      · exact hS v hv
      · exact hlv
theorem subsR_ans {c d : Cl} (hc : c.Ok) (hd : d.Ok) : SubAns c d (subsR c d) := by
  have hc0 := Cl.check_ok.2 hc
  have hd0 := Cl.check_ok.2 hd
  unfold subsR
  rw [if_neg (by simp [hc0, hd0])]
  cases hm : matchA c.head d.head [] with
  | none =>
    intro v hv
    obtain ⟨first, hf, _⟩ := (full_iff hc).1 hv
    rw [hm] at hf
    cases hf
  | some first =>
    have key := leastOn_fold (c := c) (d := d) (waysW c.body d.body first) none (fun _ => False) (fun _ h => by cases h) (fun _ h => h) (fun _ h => h.elim)
    have e : ∀ v, (False ∨ ∃ b ∈ waysW c.body d.body first, v = valsOf c.nv b ∧ partB c d v = true) ↔ Full c d v := by
      intro v
      rw [false_or, full_iff hc]
      constructor
      · rintro h; exact ⟨first, hm, h⟩
      · rintro ⟨f', hf', h⟩; rw [hm] at hf'; cases hf'; exact h
    simp only [e] at key
    dsimp only
    generalize (waysW c.body d.body first).foldl (leastOn c d) none = r at key
    cases r <;> exact key
end Go.Wk
/- The search that tries values one after the other. Plain Lean. -/
namespace Go.Wk
open Go
set_option linter.unusedVariables false

def hadT (t : Tm) (k : Nat) : Bool := !t.isVar || decide (t.n < k)
/-- May c, with these values for its first variables, still become part of d? -/
def fitsB (c d : Cl) (vs : List Tm) : Bool :=
  (matchA c.head d.head (bindsOf 0 vs)).isSome && (c.body.all (fun a => d.body.any fun b => (matchA a b (bindsOf 0 vs)).isSome) &&
    c.tests.all fun t => !(hadT t.l vs.length && hadT t.r vs.length) || tsOk d (testI vs t))
theorem binds_ext {w : List Tm} {k : Nat} : ∀ v x, lookB (bindsOf 0 (w.take k)) v = some x → asg w v = x := by
  intro v x h
  rw [lookB_binds] at h
  split at h
  · rw [List.getElem?_take] at h
    split at h
    · simp at h
      simp [asg, h]
    · cases h
  · cases h
theorem instT_take {w : List Tm} {k : Nat} {t : Tm} (h : hadT t (w.take k).length = true) : instT (w.take k) t = instT w t := by
  unfold instT
  simp only [hadT, Bool.or_eq_true, Bool.not_eq_true', decide_eq_true_eq] at h
  by_cases hv : t.isVar = true
  · have h2 : t.n < (w.take k).length := by
      rcases h with h | h
      · rw [hv] at h; cases h
      · exact h
    have hnn := isVar_nn hv
    have h3 : t.n.toNat < (w.take k).length := by omega
    have hk : (w.take k).length ≤ w.length := by simp; omega
    simp only [hv, h2, show t.n < (w.length : Int) by omega, decide_true, Bool.and_true, if_true]
    rw [List.getElem?_take_of_lt (by simp at h3; omega)]
  · simp [hv]
theorem Full.fits {c d : Cl} {w : List Tm} (h : Full c d w) (k : Nat) : fitsB c d (w.take k) = true := by
  simp only [fitsB, Bool.and_eq_true, List.all_eq_true, List.any_eq_true]
  refine ⟨matchA_isSome.2 ⟨asg w, binds_ext, h.head⟩, fun a ha => ?_, fun t ht => ?_⟩
  · obtain ⟨b, hb, hm⟩ := h.body a ha
    exact ⟨b, hb, matchA_isSome.2 ⟨asg w, binds_ext, hm⟩⟩
  · rw [Bool.or_eq_true]
    by_cases hh : (hadT t.l (w.take k).length && hadT t.r (w.take k).length) = true
    · right
      simp only [Bool.and_eq_true] at hh
      have := h.tests t ht
      unfold testI at this ⊢
      rw [instT_take hh.1, instT_take hh.2]
      exact this
    · left
      rw [Bool.not_eq_true] at hh
      rw [hh]; rfl
theorem makes_congr {x : Cl} (hx : x.Ok) {vs : List Tm} (hl : vs.length = x.nv) {g : Int → Tm} (hg : ∀ v t, lookB (bindsOf 0 vs) v = some t → g v = t) {a y : At0} (hin : ∀ t ∈ a.terms, t ∈ x.terms) (hm : Makes g a y) : Makes (asg vs) a y := by
  refine ⟨?_, hm.2⟩
  rw [map_congrA (g := subT g) fun t ht => ?_]
  · exact hm.1
  · unfold subT
    by_cases hv : t.isVar = true
    · obtain ⟨j, hj, e⟩ := hx.lt (hin t ht) hv
      have hjl : j < vs.length := by omega
      have h1 : lookB (bindsOf 0 vs) t.n = some vs[j] := by
        rw [look_binds vs (isVar_nn hv), e]
        simp [List.getElem?_eq_getElem hjl]
      rw [if_pos hv, if_pos hv, hg _ _ h1, asg, e]
      simp [List.getElem?_eq_getElem hjl]
    · simp [hv]
theorem fits_full {c d : Cl} (hc : c.Ok) {vs : List Tm} (hl : vs.length = c.nv) (h : fitsB c d vs = true) : Full c d vs := by
  simp only [fitsB, Bool.and_eq_true, List.all_eq_true, List.any_eq_true] at h
  obtain ⟨h1, h2, h3⟩ := h
  refine ⟨hl, ?_, fun a ha => ?_, fun t ht => ?_⟩
  · obtain ⟨g, hg, hm⟩ := matchA_isSome.1 h1
    exact makes_congr hc hl hg (fun t ht => Cl.mem_terms_head ht) hm
  · obtain ⟨b, hb, hs⟩ := h2 a ha
    obtain ⟨g, hg, hm⟩ := matchA_isSome.1 hs
    exact ⟨b, hb, makes_congr hc hl hg (fun t ht => Cl.mem_terms_body (Cl.mem_body ha ht)) hm⟩
  · have h4 := h3 t ht
    have hin : ∀ u, u = t.l ∨ u = t.r → u ∈ c.terms := by
      intro u hu
      refine Cl.mem_terms_test (List.mem_flatMap.2 ⟨t, ht, ?_⟩)
      rcases hu with rfl | rfl <;> simp
    have hh : ∀ u, u = t.l ∨ u = t.r → hadT u vs.length = true := by
      intro u hu
      unfold hadT
      by_cases hv : u.isVar = true
      · obtain ⟨j, hj, e⟩ := hc.lt (hin u hu) hv
        simp only [hv, Bool.not_true, Bool.false_or, decide_eq_true_eq]
        omega
      · simp [hv]
    simpa [hh _ (.inl rfl), hh _ (.inr rfl)] using h4
/-- The values that can stand for variables: the terms of d's body. -/
def bodyVals (d : Cl) : List Tm := setU cmpTm d.bodyTerms
theorem Full.mem {c d : Cl} (hc : c.Ok) {w : List Tm} (h : Full c d w) {i : Nat} {t : Tm} (hi : w[i]? = some t) : t ∈ bodyVals d := by
  rw [bodyVals, mem_setU cmpTm_t3]
  have hlt : i < c.nv := by rw [← h.len]; exact (List.getElem?_eq_some_iff.1 hi).1
  obtain ⟨x, hx, hv, hn⟩ := hc.var hlt
  obtain ⟨a, ha, hx⟩ := List.mem_flatMap.1 hx
  obtain ⟨b, hb, hm⟩ := h.body a ha
  refine List.mem_flatMap.2 ⟨b, hb, ?_⟩
  have h1 := (makes_terms.1 hm).2
  rw [← h1]
  refine List.mem_map.2 ⟨x, hx, ?_⟩
  simp [subT, hv, asg, hn, hi]

/-! ### where the search stands -/
structure Dfs (c d : Cl) (v : Nat) (nx : List Nat) (vals : List Tm) : Prop where
  le : v ≤ c.nv
  lv : vals.length = c.nv
  ln : nx.length = c.nv + 1
  bd : ∀ q < v, 1 ≤ nx.getD q 0 ∧ (bodyVals d)[nx.getD q 0 - 1]? = vals[q]?
  top : nx.getD v 0 ≤ (bodyVals d).length
  fit : fitsB c d (vals.take v) = true
  inv : ∀ w, Full c d w → lexL cmpTm (vals.take v) (w.take v) ≤ 0 ∧ (w.take v = vals.take v → ∀ t, w[v]? = some t → t ∉ (bodyVals d).take (nx.getD v 0))
theorem take_snoc_get {α : Type} {l : List α} {v : Nat} {t : α} (h : l[v]? = some t) : l.take (v + 1) = l.take v ++ [t] := by rw [List.take_add_one, h]; rfl
theorem lexL_snoc {f : Tm → Tm → Int} (hf : T3 f) : ∀ (a b : List Tm) (x y : Tm), a.length = b.length → lexL f (a ++ [x]) (b ++ [y]) = if lexL f a b = 0 then f x y else lexL f a b
  | [], [], x, y => fun _ => by simp [lexL]; exact fun h => h.symm
  | [], _ :: _, _, _ => fun h => by simp at h
  | _ :: _, [], _, _ => fun h => by simp at h
  | a :: as, b :: bs, x, y => fun h => by
    have ih := lexL_snoc hf as bs x y (by simpa using h)
    simp only [List.cons_append, lexL, ih]
    by_cases e : f a b = 0 <;> simp [e]
theorem rise_take {l : List Tm} (h : Rise cmpTm l) {j i : Nat} {x y : Tm} (hx : l[j]? = some x) (hy : l[i]? = some y) : cmpTm x y < 0 ↔ j < i := by
  have hj := (List.getElem?_eq_some_iff.1 hx)
  have hi := (List.getElem?_eq_some_iff.1 hy)
  obtain ⟨hj, rfl⟩ := hj
  obtain ⟨hi, rfl⟩ := hi
  have hp := List.pairwise_iff_getElem.1 h
  constructor
  · intro hlt
    rcases Nat.lt_trichotomy j i with h1 | h1 | h1
    · exact h1
    · subst h1
      have := cmpTm_t3.refl l[j]
      omega
    · have := hp i j hi hj h1
      have := cmpTm_t3.neg l[i] l[j]
      omega
  · intro h1
    exact hp j i hj hi h1
theorem not_mem_take {l : List Tm} (h : Rise cmpTm l) {x y : Tm} {j : Nat} (hx : l[j]? = some x) (hy : y ∈ l) (hn : y ∉ l.take j) : cmpTm x y ≤ 0 := by
  obtain ⟨i, hi, e⟩ := List.mem_iff_getElem.1 hy
  have hi' : l[i]? = some y := e ▸ List.getElem?_eq_getElem hi
  rcases Nat.lt_or_ge i j with h1 | h1
  · refine absurd (List.mem_iff_getElem?.2 ⟨i, ?_⟩) hn
    rw [List.getElem?_take_of_lt h1, hi']
  · rcases Nat.lt_or_eq_of_le h1 with h2 | h2
    · have := (rise_take h hx hi').2 h2
      omega
    · subst h2
      rw [hx] at hi'
      cases hi'
      have := cmpTm_t3.refl x
      omega
theorem not_mem_take_succ {l : List Tm} (h : Rise cmpTm l) {x y : Tm} {j : Nat} (hx : l[j]? = some x) (hlt : cmpTm x y < 0) : y ∉ l.take (j + 1) := by
  intro hm
  obtain ⟨i, hi⟩ := List.mem_iff_getElem?.1 hm
  rw [List.getElem?_take] at hi
  split at hi
  · rename_i hij
    have := (rise_take h hx hi).1 hlt
    omega
  · cases hi
section
variable {c d : Cl}
theorem bodyVals_rise (d : Cl) : Rise cmpTm (bodyVals d) := setU_rise cmpTm_t3.toP3 _
theorem Dfs.start (hf : fitsB c d [] = true) : Dfs c d 0 (List.replicate (c.nv + 1) 0) (List.replicate c.nv Tn) := by
  refine ⟨Nat.zero_le _, by simp, by simp, fun q hq => by omega, ?_, by simpa using hf, fun w hw => ⟨?_, fun _ t _ => ?_⟩⟩
  · simp [List.getD_eq_getElem?_getD]
  · simp [lexL]
  · simp [List.getD_eq_getElem?_getD]
theorem getD_set_self {l : List Nat} {i a : Nat} (h : i < l.length) : (l.set i a).getD i 0 = a := by simp [List.getD_eq_getElem?_getD, h]
theorem getD_set_ne {l : List Nat} {i j a : Nat} (h : i ≠ j) : (l.set i a).getD j 0 = l.getD j 0 := by simp [List.getD_eq_getElem?_getD, List.getElem?_set_ne h]
theorem take_set_le {α : Type} {l : List α} {v i : Nat} {a : α} (h : i ≤ v) : (l.set v a).take i = l.take i := by
  rw [List.take_set_of_le h]
/-- A value that fits: one variable more. -/
theorem Dfs.goOn (hc : c.Ok) {v : Nat} {nx : List Nat} {vals : List Tm} (h : Dfs c d v nx vals) (hv : v < c.nv) {t : Tm} (ht : (bodyVals d)[nx.getD v 0]? = some t) (hf : fitsB c d ((vals.set v t).take (v + 1)) = true) :
    Dfs c d (v + 1) ((nx.set v (nx.getD v 0 + 1)).set (v + 1) 0) (vals.set v t) := by
  have hlv := h.lv
  have hln := h.ln
  have hvt : (vals.set v t)[v]? = some t := by rw [List.getElem?_set_self (by omega)]
  have e1 : ∀ q, q < v + 1 → ((nx.set v (nx.getD v 0 + 1)).set (v + 1) 0).getD q 0 = if q = v then nx.getD v 0 + 1 else nx.getD q 0 := by
    intro q hq
    rw [getD_set_ne (by omega)]
    by_cases e : q = v
    · subst e; rw [getD_set_self (by omega), if_pos rfl]
    · rw [getD_set_ne (fun e' => e e'.symm), if_neg e]
  refine ⟨hv, by simpa using hlv, by simpa using hln, fun q hq => ?_, ?_, hf, fun w hw => ⟨?_, fun _ x hx => ?_⟩⟩
  · rw [e1 q hq]
    by_cases e : q = v
    · subst e
      rw [if_pos rfl, hvt, Nat.add_sub_cancel]
      exact ⟨by omega, ht⟩
    · rw [if_neg e, List.getElem?_set_ne (fun e' => e e'.symm)]
      exact h.bd q (by omega)
  · rw [getD_set_self (by simp; omega)]
    exact Nat.zero_le _
  · rw [take_snoc_get hvt, take_set_le (Nat.le_refl v)]
    have hwl : v < w.length := by rw [hw.len]; exact hv
    have hwv : w[v]? = some w[v] := List.getElem?_eq_getElem hwl
    rw [take_snoc_get hwv, lexL_snoc cmpTm_t3 _ _ _ _ (by simp; omega)]
    have hi := h.inv w hw
    split
    · rename_i e0
      have e2 := (lexL_t3 cmpTm_t3).eq _ _ e0
      exact not_mem_take (bodyVals_rise d) ht (hw.mem hc hwv) (hi.2 e2.symm _ hwv)
    · exact hi.1
  · rw [getD_set_self (by simp; omega)]
    simp
/-- A value that doesn't: the next one. -/
theorem Dfs.skip (hc : c.Ok) {v : Nat} {nx : List Nat} {vals : List Tm} (h : Dfs c d v nx vals) (hv : v < c.nv) {t : Tm} (ht : (bodyVals d)[nx.getD v 0]? = some t) (hf : fitsB c d ((vals.set v t).take (v + 1)) = false) :
    Dfs c d v (nx.set v (nx.getD v 0 + 1)) (vals.set v t) := by
  have hlv := h.lv
  have hln := h.ln
  have hvt : (vals.set v t)[v]? = some t := by rw [List.getElem?_set_self (by omega)]
  refine ⟨h.le, by simpa using hlv, by simpa using hln, fun q hq => ?_, ?_, by rw [take_set_le (Nat.le_refl v)]; exact h.fit, fun w hw => ⟨?_, fun he x hx => ?_⟩⟩
  · rw [getD_set_ne (by omega), List.getElem?_set_ne (by omega)]
    exact h.bd q hq
  · rw [getD_set_self (by omega)]
    exact (List.getElem?_eq_some_iff.1 ht).1
  · rw [take_set_le (Nat.le_refl v)]
    exact (h.inv w hw).1
  · rw [getD_set_self (by omega)]
    rw [take_set_le (Nat.le_refl v)] at he
    rw [take_snoc_get ht]
    intro hm
    rcases List.mem_append.1 hm with hm | hm
    · exact (h.inv w hw).2 he x hx hm
    · simp at hm
      subst hm
      have h2 := hw.fits (v + 1)
      rw [take_snoc_get hx, he] at h2
      rw [take_snoc_get hvt, take_set_le (Nat.le_refl v), h2] at hf
      cases hf
/-- No value is left: one variable back. -/
theorem Dfs.back (hc : c.Ok) {v : Nat} {nx : List Nat} {vals : List Tm} (h : Dfs c d (v + 1) nx vals) (hv : v + 1 < c.nv) (hend : (bodyVals d).length ≤ nx.getD (v + 1) 0) (hfit : fitsB c d (vals.take v) = true) : Dfs c d v nx vals := by
  have hlv := h.lv
  have hb := h.bd v (by omega)
  have hpv : vals[v]? = some vals[v] := List.getElem?_eq_getElem (by omega)
  rw [hpv] at hb
  have hlt := (List.getElem?_eq_some_iff.1 hb.2).1
  refine ⟨by omega, hlv, h.ln, fun q hq => h.bd q (by omega), by omega, hfit, fun w hw => ?_⟩
  have hi := h.inv w hw
  have hwl : v + 1 < w.length := by rw [hw.len]; exact hv
  have hwv : w[v]? = some w[v] := List.getElem?_eq_getElem (by omega)
  have hwv1 : w[v + 1]? = some w[v + 1] := List.getElem?_eq_getElem (by omega)
  rw [take_snoc_get hpv, take_snoc_get hwv, lexL_snoc cmpTm_t3 _ _ _ _ (by simp; omega)] at hi
  obtain ⟨i1, i2⟩ := hi
  have hne : w.take v ++ [w[v]] ≠ vals.take v ++ [vals[v]] := fun e => i2 e _ hwv1 (by
    rw [List.take_of_length_le hend]
    exact hw.mem hc hwv1)
  refine ⟨?_, fun he x hx => ?_⟩
  · split at i1
    · omega
    · exact i1
  · rw [hwv] at hx
    cases hx
    rw [he] at i1 hne
    have h0 := (lexL_t3 cmpTm_t3).refl (vals.take v)
    rw [if_pos h0] at i1
    have hneq : cmpTm vals[v] w[v] ≠ 0 := fun e => hne (by rw [cmpTm_t3.eq _ _ e])
    have := not_mem_take_succ (bodyVals_rise d) hb.2 (show cmpTm vals[v] w[v] < 0 by omega)
    rwa [show nx.getD v 0 - 1 + 1 = nx.getD v 0 by omega] at this
/-- .. and there is none: no values do. -/
theorem Dfs.none (hc : c.Ok) {nx : List Nat} {vals : List Tm} (h : Dfs c d 0 nx vals) (hv : 0 < c.nv) (hend : (bodyVals d).length ≤ nx.getD 0 0) : SubAns c d none := by
  intro w hw
  have hwl : 0 < w.length := by rw [hw.len]; exact hv
  have hwv : w[0]? = some w[0] := List.getElem?_eq_getElem hwl
  exact (h.inv w hw).2 rfl _ hwv (by rw [List.take_of_length_le hend]; exact hw.mem hc hwv)
/-- .. or all variables have one. -/
theorem Dfs.done (hc : c.Ok) {nx : List Nat} {vals : List Tm} (h : Dfs c d c.nv nx vals) : SubAns c d (some vals) := by
  have e : vals.take c.nv = vals := List.take_of_length_le (by rw [h.lv]; exact Nat.le_refl _)
  have hf := h.fit
  rw [e] at hf
  refine ⟨fits_full hc h.lv hf, fun w hw => ?_⟩
  have := (h.inv w hw).1
  rwa [e, List.take_of_length_le (by rw [hw.len]; exact Nat.le_refl _)] at this
theorem fits_anti {vs : List Tm} {k : Nat} (h : fitsB c d vs = true) : fitsB c d (vs.take k) = true := by
  simp only [fitsB, Bool.and_eq_true, List.all_eq_true, List.any_eq_true] at h ⊢
  obtain ⟨h1, h2, h3⟩ := h
  have ext : ∀ g : Int → Tm, (∀ v t, lookB (bindsOf 0 vs) v = some t → g v = t) → ∀ v t, lookB (bindsOf 0 (vs.take k)) v = some t → g v = t := by
    intro g hg v t hl
    rw [lookB_binds] at hl
    split at hl
    · rename_i hv
      rw [List.getElem?_take] at hl
      split at hl
      · exact hg v t (by rw [lookB_binds, if_pos hv]; exact hl)
      · cases hl
    · cases hl
  refine ⟨?_, fun a ha => ?_, fun t ht => ?_⟩
  · obtain ⟨g, hg, hm⟩ := matchA_isSome.1 h1
    exact matchA_isSome.2 ⟨g, ext g hg, hm⟩
  · obtain ⟨b, hb, hs⟩ := h2 a ha
    obtain ⟨g, hg, hm⟩ := matchA_isSome.1 hs
    exact ⟨b, hb, matchA_isSome.2 ⟨g, ext g hg, hm⟩⟩
  · have h4 := h3 t ht
    by_cases hh : (hadT t.l (vs.take k).length && hadT t.r (vs.take k).length) = true
    · simp only [Bool.and_eq_true] at hh
      have up : ∀ u, hadT u (vs.take k).length = true → hadT u vs.length = true := by
        intro u hu
        simp only [hadT, Bool.or_eq_true, Bool.not_eq_true', decide_eq_true_eq] at hu ⊢
        rcases hu with hu | hu
        · exact .inl hu
        · have : (vs.take k).length ≤ vs.length := by simp; omega
          exact .inr (by omega)
      rw [up _ hh.1, up _ hh.2] at h4
      rw [hh.1, hh.2]
      unfold testI at h4 ⊢
      rw [instT_take hh.1, instT_take hh.2]
      exact h4
    · rw [Bool.or_eq_true]
      left
      rw [Bool.not_eq_true] at hh
      rw [hh]; rfl
theorem Dfs.back' (hc : c.Ok) {v : Nat} {nx : List Nat} {vals : List Tm} (h : Dfs c d (v + 1) nx vals) (hv : v + 1 < c.nv) (hend : (bodyVals d).length ≤ nx.getD (v + 1) 0) : Dfs c d v nx vals :=
  h.back hc hv hend (by
    have := fits_anti (k := v) h.fit
    rwa [List.take_take, Nat.min_eq_left (by omega)] at this)

/-! ### how much is still to be tried -/
def dT (L : Nat) : Nat → Nat
  | 0 => 1
  | k + 1 => L * (dT L k + 1) + 1
def dS (n L : Nat) (nx : List Nat) : Nat → Nat
  | 0 => 0
  | v + 1 => dS n L nx v + (L - nx.getD v 0) * (dT L (n - v - 1) + 1) + 1
def dM (n L : Nat) (nx : List Nat) (v : Nat) : Nat := dS n L nx v + if v < n then (L - nx.getD v 0) * (dT L (n - v - 1) + 1) else 0
theorem dS_congr {n L : Nat} {nx nx' : List Nat} : ∀ v, (∀ q < v, nx.getD q 0 = nx'.getD q 0) → dS n L nx v = dS n L nx' v := by
  intro v
  induction v with
  | zero => intro _; rfl
  | succ v ih => intro h; simp only [dS]; rw [ih fun q hq => h q (by omega), h v (by omega)]
theorem dM_skip {n L v : Nat} {nx : List Nat} (hv : v < n) (hl : nx.length = n + 1) (hlt : nx.getD v 0 < L) : dM n L (nx.set v (nx.getD v 0 + 1)) v < dM n L nx v := by
  unfold dM
  rw [dS_congr (nx' := nx) v fun q hq => getD_set_ne (by omega), getD_set_self (by omega), if_pos hv, if_pos hv]
  have : L - nx.getD v 0 = (L - (nx.getD v 0 + 1)) + 1 := by omega
  rw [this, Nat.add_mul]
  omega
theorem dM_goOn {n L v : Nat} {nx : List Nat} (hv : v < n) (hl : nx.length = n + 1) (hlt : nx.getD v 0 < L) : dM n L ((nx.set v (nx.getD v 0 + 1)).set (v + 1) 0) (v + 1) < dM n L nx v := by
  unfold dM
  rw [dS, dS_congr (nx' := nx) v fun q hq => by rw [getD_set_ne (by omega), getD_set_ne (by omega)]]
  rw [getD_set_ne (by omega), getD_set_self (by omega), getD_set_self (by simp; omega), if_pos hv]
  have : L - nx.getD v 0 = (L - (nx.getD v 0 + 1)) + 1 := by omega
  rw [this, Nat.add_mul, Nat.one_mul]
  split
  · rename_i h2
    have e : n - v - 1 = (n - (v + 1) - 1) + 1 := by omega
    have e2 : dT L (n - v - 1) = L * (dT L (n - (v + 1) - 1) + 1) + 1 := by rw [e]; rfl
    rw [Nat.sub_zero]
    omega
  · have : 1 ≤ dT L (n - v - 1) := by cases (n - v - 1) <;> simp [dT]
    omega
theorem dM_back {n L v : Nat} {nx : List Nat} (hv : v + 1 < n) : dM n L nx v < dM n L nx (v + 1) := by
  unfold dM
  rw [if_pos (by omega), dS]
  omega
end
end Go.Wk
/- Variables numbered anew; clauses reduced and condensed. Plain Lean. -/
namespace Go.Wk
open Go
set_option linter.unusedVariables false

def varT (k : Int) : Tm := ⟨3, k, ES⟩
/-- A term numbered as it stands in a list. -/
def numT (vs : List Tm) (t : Tm) : Tm := if 0 ≤ placeOf vs t 0 then varT (placeOf vs t 0) else t
def Cl.normal (x : Cl) : Cl := x.map (numT (varsOf x.terms))
theorem place_shift : ∀ (vs : List Tm) (t : Tm) (k : Nat), placeOf vs t k = if t ∈ vs then placeOf vs t 0 + k else -1 := by
  intro vs
  induction vs with
  | nil => intro t k; simp [placeOf]
  | cons v vs ih =>
    intro t k
    rw [placeOf]
    by_cases e : v = t
    · subst e; simp [placeOf]
    · have e' : ¬ t = v := fun h => e h.symm
      rw [if_neg e, ih t (k + 1)]
      by_cases h : t ∈ vs
      · rw [if_pos h, if_pos (List.mem_cons_of_mem _ h), placeOf, if_neg e, ih t (0 + 1), if_pos h]
        omega
      · rw [if_neg h, if_neg (by simp [e', h])]
theorem place_get {vs : List Tm} {t : Tm} (h : t ∈ vs) : ∃ j : Nat, placeOf vs t 0 = j ∧ vs[j]? = some t ∧ ∀ i < j, vs[i]? ≠ some t := by
  induction vs with
  | nil => cases h
  | cons v vs ih =>
    by_cases e : v = t
    · subst e; exact ⟨0, by simp [placeOf], rfl, fun i hi => by omega⟩
    · have hm : t ∈ vs := by
        rcases List.mem_cons.1 h with h | h
        · exact absurd h.symm e
        · exact h
      obtain ⟨j, h1, h2, h3⟩ := ih hm
      refine ⟨j + 1, ?_, by simpa using h2, fun i hi => ?_⟩
      · rw [placeOf, if_neg e, place_shift, if_pos hm, h1]; omega
      · cases i with
        | zero => simpa using e
        | succ i => simpa using h3 i (by omega)
theorem place_none {vs : List Tm} {t : Tm} (h : t ∉ vs) (k : Nat) : placeOf vs t k = -1 := by rw [place_shift, if_neg h]
theorem place_nn {vs : List Tm} {t : Tm} : 0 ≤ placeOf vs t 0 ↔ t ∈ vs := by
  by_cases h : t ∈ vs
  · obtain ⟨j, h1, _⟩ := place_get h
    simp [h, h1]
  · simp [h, place_none h]
theorem place_inj {vs : List Tm} {t u : Tm} (ht : t ∈ vs) (hu : u ∈ vs) (e : placeOf vs t 0 = placeOf vs u 0) : t = u := by
  obtain ⟨j, h1, h2, _⟩ := place_get ht
  obtain ⟨i, h3, h4, _⟩ := place_get hu
  have : j = i := by omega
  subst this
  rw [h2] at h4
  simpa using h4
theorem place_self {vs : List Tm} (hn : vs.Nodup) {j : Nat} {t : Tm} (h : vs[j]? = some t) : placeOf vs t 0 = j := by
  obtain ⟨i, h1, h2, h3⟩ := place_get (List.mem_iff_getElem?.2 ⟨j, h⟩)
  rw [h1]
  have : i = j := by
    obtain ⟨hi, e1⟩ := List.getElem?_eq_some_iff.1 h2
    obtain ⟨hj, e2⟩ := List.getElem?_eq_some_iff.1 h
    exact (List.getElem_inj hn).1 (e1.trans e2.symm)
  omega
/-- The variables that stand in a list, each once. -/
theorem foldl_varsOn_nodup : ∀ (ts out : List Tm), out.Nodup → (ts.foldl varsOn out).Nodup := by
  intro ts
  induction ts with
  | nil => intro out h; exact h
  | cons t ts ih =>
    intro out h
    refine ih _ ?_
    unfold varsOn
    split
    · rename_i hc
      simp at hc
      rw [List.nodup_append]
      exact ⟨h, by simp, fun a ha b hb => by simp at hb; subst hb; intro e; subst e; exact hc.2 ha⟩
    · exact h
theorem varsOf_nodup (ts : List Tm) : (varsOf ts).Nodup := foldl_varsOn_nodup ts [] List.nodup_nil
/-- A turn that keeps what is no variable, takes variables to variables, and no two to one. -/
structure Ren (φ : Tm → Tm) (ts : List Tm) : Prop where
  fix : ∀ t ∈ ts, t.isVar = false → φ t = t
  var : ∀ t ∈ ts, t.isVar = true → (φ t).isVar = true
  inj : ∀ t ∈ ts, ∀ u ∈ ts, t.isVar = true → u.isVar = true → φ t = φ u → t = u
theorem Ren.isVar {φ : Tm → Tm} {ts : List Tm} (h : Ren φ ts) {t : Tm} (ht : t ∈ ts) : (φ t).isVar = t.isVar := by
  cases hv : t.isVar with
  | true => exact h.var t ht hv
  | false => rw [h.fix t ht hv, hv]
theorem Ren.inj' {φ : Tm → Tm} {ts : List Tm} (h : Ren φ ts) {t u : Tm} (ht : t ∈ ts) (hu : u ∈ ts) (e : φ t = φ u) : t = u := by
  have h1 := h.isVar ht
  have h2 := h.isVar hu
  cases hv : t.isVar with
  | true => exact h.inj t ht u hu hv (by rw [← h2, ← e, h1, hv]) e
  | false =>
    have hu' : u.isVar = false := by rw [← h2, ← e, h1, hv]
    rw [h.fix t ht hv, h.fix u hu hu'] at e
    exact e
theorem Ren.sub {φ : Tm → Tm} {ts us : List Tm} (h : Ren φ ts) (hs : ∀ t ∈ us, t ∈ ts) : Ren φ us :=
  ⟨fun t ht => h.fix t (hs t ht), fun t ht => h.var t (hs t ht), fun t ht u hu => h.inj t (hs t ht) u (hs u hu)⟩
theorem Ren.foldl {φ : Tm → Tm} {all : List Tm} (h : Ren φ all) : ∀ (ts out : List Tm), (∀ t ∈ ts, t ∈ all) → (∀ t ∈ out, t ∈ all) → (ts.map φ).foldl varsOn (out.map φ) = (ts.foldl varsOn out).map φ := by
  intro ts
  induction ts with
  | nil => intro out _ _; rfl
  | cons t ts ih =>
    intro out h1 h2
    have ht := h1 t (List.mem_cons_self ..)
    have e : varsOn (out.map φ) (φ t) = (varsOn out t).map φ := by
      unfold varsOn
      rw [h.isVar ht]
      have hm : φ t ∈ out.map φ ↔ t ∈ out := by
        constructor
        · intro hh
          obtain ⟨u, hu, e⟩ := List.mem_map.1 hh
          exact h.inj' (h2 u hu) ht e ▸ hu
        · exact fun hh => List.mem_map_of_mem hh
      by_cases c1 : t ∈ out
      · simp [c1, hm]
      · simp only [hm, c1, decide_false, Bool.not_false, Bool.and_true]
        split <;> simp
    rw [List.map_cons, List.foldl_cons, List.foldl_cons, e]
    refine ih _ (fun u hu => h1 u (List.mem_cons_of_mem _ hu)) fun u hu => ?_
    unfold varsOn at hu
    split at hu
    · rcases List.mem_append.1 hu with hu | hu
      · exact h2 u hu
      · simp at hu; subst hu; exact ht
    · exact h2 u hu
theorem Ren.vars {φ : Tm → Tm} {ts : List Tm} (h : Ren φ ts) : varsOf (ts.map φ) = (varsOf ts).map φ := h.foldl ts [] (fun t ht => ht) (fun t ht => by cases ht)
theorem place_map {φ : Tm → Tm} {all : List Tm} (h : Ren φ all) {t : Tm} (ht : t ∈ all) : ∀ (vs : List Tm) (k : Nat), (∀ v ∈ vs, v ∈ all) → placeOf (vs.map φ) (φ t) k = placeOf vs t k := by
  intro vs
  induction vs with
  | nil => intro k _; rfl
  | cons v vs ih =>
    intro k hs
    rw [List.map_cons, placeOf, placeOf, ih (k + 1) fun u hu => hs u (List.mem_cons_of_mem _ hu)]
    by_cases e : v = t
    · simp [e]
    · rw [if_neg e, if_neg fun e' => e (h.inj' (hs v (List.mem_cons_self ..)) ht e')]
theorem Ren.num {φ : Tm → Tm} {ts : List Tm} (h : Ren φ ts) {t : Tm} (ht : t ∈ ts) : numT (varsOf (ts.map φ)) (φ t) = numT (varsOf ts) t := by
  unfold numT
  rw [h.vars, place_map h ht _ 0 fun v hv => (mem_varsOf.1 hv).1]
  split
  · rfl
  · rename_i hn
    rw [place_nn, mem_varsOf] at hn
    exact h.fix t ht (by
      cases hv : t.isVar with
      | false => rfl
      | true => exact absurd ⟨ht, hv⟩ hn)
theorem Cl.map_terms (φ : Tm → Tm) (x : Cl) : (x.map φ).terms = x.terms.map φ := by
  have e1 : ∀ a : At0, (a.map φ).terms = a.terms.map φ := fun a => rfl
  have e2 : (x.map φ).bodyTerms = x.bodyTerms.map φ := by
    simp only [Cl.bodyTerms, Cl.map, List.flatMap_map, List.map_flatMap, e1]
  have e3 : (x.map φ).testTerms = x.testTerms.map φ := by
    simp only [Cl.testTerms, Cl.map, List.flatMap_map, List.map_flatMap, List.map_cons, List.map_nil]
  simp only [Cl.terms, List.map_append, e2, e3]
  rw [show (x.map φ).head.terms = x.head.terms.map φ from rfl]
theorem Cl.map_bodyTerms (φ : Tm → Tm) (x : Cl) : (x.map φ).bodyTerms = x.bodyTerms.map φ := by
  have e1 : ∀ a : At0, (a.map φ).terms = a.terms.map φ := fun a => rfl
  simp only [Cl.bodyTerms, Cl.map, List.flatMap_map, List.map_flatMap, e1]
theorem Cl.map_testTerms (φ : Tm → Tm) (x : Cl) : (x.map φ).testTerms = x.testTerms.map φ := by
  simp only [Cl.testTerms, Cl.map, List.flatMap_map, List.map_flatMap, List.map_cons, List.map_nil]
theorem Cl.map_congr {f g : Tm → Tm} {x : Cl} (h : ∀ t ∈ x.terms, f t = g t) : x.map f = x.map g := by
  rw [Cl.eq]
  refine ⟨map_congrA fun t ht => h t (Cl.mem_terms_head ht), List.map_congr_left fun a ha => map_congrA fun t ht => h t (Cl.mem_terms_body (Cl.mem_body ha ht)), List.map_congr_left fun t ht => ?_⟩
  have : t.l ∈ x.terms ∧ t.r ∈ x.terms := ⟨Cl.mem_terms_test (List.mem_flatMap.2 ⟨t, ht, by simp⟩), Cl.mem_terms_test (List.mem_flatMap.2 ⟨t, ht, by simp⟩)⟩
  rw [h _ this.1, h _ this.2]
theorem Cl.map_map (f g : Tm → Tm) (x : Cl) : (x.map f).map g = x.map (g ∘ f) := by
  have ha : ∀ a : At0, (a.map f).map g = a.map (g ∘ f) := fun a => by simp [At0.map]
  rw [Cl.eq]
  exact ⟨ha _, by simp [Cl.map, ha], by simp [Cl.map]⟩
theorem Cl.map_id {f : Tm → Tm} {x : Cl} (h : ∀ t ∈ x.terms, f t = t) : x.map f = x := by
  rw [Cl.map_congr (g := id) h]
  rw [Cl.eq]
  have hid : At0.map id = id := by funext a; simp [At0.map]
  exact ⟨by simp [Cl.map, hid], by simp [Cl.map, hid], by simp [Cl.map]⟩
theorem Ren.normal {φ : Tm → Tm} {x : Cl} (h : Ren φ x.terms) : (x.map φ).normal = x.normal := by
  unfold Cl.normal
  rw [Cl.map_map, Cl.map_terms]
  exact Cl.map_congr fun t ht => h.num ht
theorem varT_isVar (j : Nat) : (varT j).isVar = true := by simp [varT, Tm.isVar]
theorem numT_var {vs : List Tm} {t : Tm} (h : t ∈ vs) : ∃ j : Nat, numT vs t = varT j ∧ placeOf vs t 0 = j := by
  obtain ⟨j, h1, _⟩ := place_get h
  exact ⟨j, by simp [numT, h1], h1⟩
theorem numT_fix {vs : List Tm} {t : Tm} (h : t ∉ vs) : numT vs t = t := by
  unfold numT
  rw [if_neg (by rw [place_nn]; exact h)]
/-- What numbers a clause's variables anew is such a turn. -/
theorem num_ren (ts : List Tm) : Ren (numT (varsOf ts)) ts := by
  refine ⟨fun t ht hv => numT_fix fun hm => ?_, fun t ht hv => ?_, fun t ht u hu hv hv' e => ?_⟩
  · rw [(mem_varsOf.1 hm).2] at hv; cases hv
  · obtain ⟨j, h1, _⟩ := numT_var (mem_varsOf.2 ⟨ht, hv⟩)
    rw [h1]
    exact varT_isVar j
  · obtain ⟨j, h1, h2⟩ := numT_var (mem_varsOf.2 ⟨ht, hv⟩)
    obtain ⟨i, h3, h4⟩ := numT_var (mem_varsOf.2 ⟨hu, hv'⟩)
    rw [h1, h3] at e
    have : (j : Int) = i := by simpa [varT] using e
    exact place_inj (mem_varsOf.2 ⟨ht, hv⟩) (mem_varsOf.2 ⟨hu, hv'⟩) (by omega)
theorem normal_terms (x : Cl) : x.normal.terms = x.terms.map (numT (varsOf x.terms)) := Cl.map_terms _ _
theorem normal_num (x : Cl) (j : Nat) (t : Tm) (h : (varsOf x.normal.terms)[j]? = some t) : t = varT j := by
  rw [normal_terms, (num_ren x.terms).vars, List.getElem?_map] at h
  cases hu : (varsOf x.terms)[j]? with
  | none => rw [hu] at h; cases h
  | some u =>
    rw [hu] at h
    simp at h
    subst h
    have := place_self (varsOf_nodup _) hu
    simp [numT, this]
theorem Ok_normal {x : Cl} (h : x.Ok) : x.normal = x := by
  refine Cl.map_id fun t ht => ?_
  by_cases hv : t.isVar = true
  · have hm := mem_varsOf.2 ⟨ht, hv⟩
    obtain ⟨j, h1, h2, _⟩ := place_get hm
    have := h.num j t h2
    rw [numT, h1, if_pos (by omega)]
    exact isVar_eq (varT_isVar j) hv this.symm
  · exact numT_fix fun hm => hv (mem_varsOf.1 hm).2

/-! ### sets of clauses, reduced -/
def firstBad (l : List Cl) : Int := orI (l.map Cl.check)
def subs (c d : Cl) : Option (List Tm) := subsR c d
theorem subs_of {c d : Cl} (hc : c.Ok) (hd : d.Ok) {r : Option (List Tm)} (h : SubAns c d r) : subs c d = r := (subsR_ans hc hd).uniq h
theorem subs_bad {c d : Cl} (h : c.check ≠ 0 ∨ d.check ≠ 0) : subs c d = none := by unfold subs subsR; rw [if_pos h]
/-- Does another one of the list subsume the one at i? -/
def goesB (l : List Cl) (i : Nat) : Bool := (List.range l.length).any fun k => decide (k ≠ i) && match l[k]?, l[i]? with | some c, some d => (subs c d).isSome | _, _ => false
def reduceGo (l : List Cl) : Nat → List Cl
  | 0 => l
  | i + 1 => if goesB l i then reduceGo (l.eraseIdx i) i else reduceGo l i
def reduceC (cs : List Cl) : List Cl × Int :=
  let s := setU cmpCl cs
  if firstBad s ≠ 0 then ([], firstBad s) else (reduceGo s s.length, 0)

/-! ### condensed -/
def Cl.without (x : Cl) (p : Nat) : Cl := if p < x.body.length then ⟨x.head, x.body.eraseIdx p, x.tests⟩ else ⟨x.head, x.body, x.tests.eraseIdx (p - x.body.length)⟩
def Cl.parts (x : Cl) : Nat := x.body.length + x.tests.length
def less (x : Cl) (p : Nat) : Cl := (x.without p).normal
/-- Once through the parts, from the last to the first: c is normal. -/
def passN : Cl → Nat → Cl × Bool
  | c, 0 => (c, false)
  | c, p + 1 => if (subs c (less c p)).isSome then ((passN (less c p) p).1, true) else passN c p
/-- .. of a clause that isn't numbered anew. -/
def passR : Cl → Nat → Cl × Bool
  | c, 0 => (c, false)
  | c, p + 1 => if (subs c.normal (c.without p).normal).isSome then ((passR (c.without p) p).1, true) else passR c p
theorem mem_eraseIdx {α : Type} {l : List α} {i : Nat} {x : α} (h : x ∈ l.eraseIdx i) : x ∈ l := (List.eraseIdx_sublist l i).subset h
theorem without_terms {x : Cl} {p : Nat} {t : Tm} (h : t ∈ (x.without p).terms) : t ∈ x.terms := by
  unfold Cl.without at h
  split at h
  · simp only [Cl.terms, List.mem_append, Cl.bodyTerms, Cl.testTerms] at h ⊢
    rcases h with (h | h) | h
    · exact .inl (.inl h)
    · obtain ⟨a, ha, h⟩ := List.mem_flatMap.1 h
      exact .inl (.inr (List.mem_flatMap.2 ⟨a, mem_eraseIdx ha, h⟩))
    · exact .inr h
  · simp only [Cl.terms, List.mem_append, Cl.bodyTerms, Cl.testTerms] at h ⊢
    rcases h with (h | h) | h
    · exact .inl (.inl h)
    · exact .inl (.inr h)
    · obtain ⟨a, ha, h⟩ := List.mem_flatMap.1 h
      exact .inr (List.mem_flatMap.2 ⟨a, mem_eraseIdx ha, h⟩)
theorem map_eraseIdx' {α β : Type} (f : α → β) : ∀ (l : List α) (i : Nat), (l.eraseIdx i).map f = (l.map f).eraseIdx i := by
  intro l
  induction l with
  | nil => intro i; rfl
  | cons x l ih => intro i; cases i <;> simp [ih]
theorem without_map (φ : Tm → Tm) (x : Cl) (p : Nat) : (x.map φ).without p = (x.without p).map φ := by
  unfold Cl.without
  have : (x.map φ).body.length = x.body.length := by simp [Cl.map]
  rw [this]
  split <;> rw [Cl.eq] <;> simp [Cl.map, map_eraseIdx']
theorem less_normal (x : Cl) (p : Nat) : less x.normal p = (x.without p).normal := by
  unfold less
  rw [show x.normal = x.map (numT (varsOf x.terms)) from rfl, without_map]
  exact Ren.normal ((num_ren x.terms).sub fun t ht => without_terms ht)
theorem passN_normal : ∀ (p : Nat) (c : Cl), passN c.normal p = ((passR c p).1.normal, (passR c p).2) := by
  intro p
  induction p with
  | zero => intro c; rfl
  | succ p ih =>
    intro c
    rw [passN, passR, less_normal]
    split
    · rw [ih]
    · exact ih c
theorem without_parts {x : Cl} {p : Nat} (h : p < x.parts) : (x.without p).parts = x.parts - 1 := by
  unfold Cl.without Cl.parts at *
  split
  · rename_i h1; rw [List.length_eraseIdx_of_lt h1]; simp; omega
  · rw [List.length_eraseIdx_of_lt (by omega)]; simp; omega
theorem normal_parts (x : Cl) : x.normal.parts = x.parts := by simp [Cl.normal, Cl.parts, Cl.map]
def condR : Nat → Cl → Cl
  | 0, c => c
  | n + 1, c => if (passR c c.parts).2 then condR n (passR c c.parts).1 else (passR c c.parts).1
/-- The document's answer: the error, or the condensed clause. -/
def condC (c : Cl) : Cl := (condR (c.parts + 1) c).normal
def condN : Nat → Cl → Cl
  | 0, c => c
  | n + 1, c => if (passN c c.parts).2 then condN n (passN c c.parts).1 else (passN c c.parts).1
theorem condN_normal : ∀ (n : Nat) (c : Cl), condN n c.normal = (condR n c).normal := by
  intro n
  induction n with
  | zero => intro c; rfl
  | succ n ih =>
    intro c
    rw [condN, condR, normal_parts, passN_normal]
    dsimp only
    split
    · exact ih _
    · rfl
end Go.Wk
/- One clause says all that another one says: an order; reduced sets, condensed clauses. Plain Lean. -/
namespace Go.Wk
open Go
set_option linter.unusedVariables false

def testS (g : Int → Tm) (t : Ts) : Ts := ⟨t.op, subT g t.l, subT g t.r⟩
/-- By this assignment c becomes part of d. -/
structure SubBy (g : Int → Tm) (c d : Cl) : Prop where
  head : Makes g c.head d.head
  body : ∀ a ∈ c.body, ∃ b ∈ d.body, Makes g a b
  tests : ∀ t ∈ c.tests, tsOk d (testS g t) = true
def SubC (c d : Cl) : Prop := c.Ok ∧ d.Ok ∧ ∃ g, SubBy g c d
theorem test_terms {x : Cl} {t : Ts} (ht : t ∈ x.tests) : t.l ∈ x.terms ∧ t.r ∈ x.terms :=
  ⟨Cl.mem_terms_test (List.mem_flatMap.2 ⟨t, ht, by simp⟩), Cl.mem_terms_test (List.mem_flatMap.2 ⟨t, ht, by simp⟩)⟩
theorem full_by {c d : Cl} (hc : c.Ok) {v : List Tm} (h : Full c d v) : SubBy (asg v) c d :=
  ⟨h.head, h.body, fun t ht => by
    have := h.tests t ht
    unfold testI at this
    rw [instT_asg hc h.len (test_terms ht).1, instT_asg hc h.len (test_terms ht).2] at this
    exact this⟩
theorem makes_cong {g g' : Int → Tm} {a b : At0} (hg : ∀ t ∈ a.terms, t.isVar = true → g t.n = g' t.n) (h : Makes g a b) : Makes g' a b := by
  refine ⟨?_, h.2⟩
  rw [← h.1]
  refine map_congrA fun t ht => ?_
  unfold subT
  by_cases hv : t.isVar = true
  · rw [if_pos hv, if_pos hv, hg t ht hv]
  · rw [if_neg hv, if_neg hv]
theorem by_full {c d : Cl} (hc : c.Ok) {g : Int → Tm} (h : SubBy g c d) : Full c d ((List.range c.nv).map fun (i : Nat) => g i) := by
  have hl : ((List.range c.nv).map fun (i : Nat) => g i).length = c.nv := by simp
  have hg : ∀ t ∈ c.terms, t.isVar = true → g t.n = asg ((List.range c.nv).map fun (i : Nat) => g i) t.n := by
    intro t ht hv
    obtain ⟨j, hj, e⟩ := hc.lt ht hv
    simp [asg, e, hj]
  refine ⟨hl, makes_cong (fun t ht hv => hg t (Cl.mem_terms_head ht) hv) h.head, fun a ha => ?_, fun t ht => ?_⟩
  · obtain ⟨b, hb, hm⟩ := h.body a ha
    exact ⟨b, hb, makes_cong (fun t ht hv => hg t (Cl.mem_terms_body (Cl.mem_body ha ht)) hv) hm⟩
  · have := h.tests t ht
    have e : ∀ u ∈ c.terms, instT ((List.range c.nv).map fun (i : Nat) => g i) u = subT g u := by
      intro u hu
      rw [instT_asg hc hl hu]
      unfold subT
      by_cases hv : u.isVar = true
      · rw [if_pos hv, if_pos hv, hg u hu hv]
      · rw [if_neg hv, if_neg hv]
    unfold testI
    rw [e _ (test_terms ht).1, e _ (test_terms ht).2]
    exact this
theorem subs_iff {c d : Cl} : (subs c d).isSome = true ↔ SubC c d := by
  by_cases hb : c.check ≠ 0 ∨ d.check ≠ 0
  · rw [subs_bad hb]
    constructor
    · intro h; cases h
    · rintro ⟨h1, h2, _⟩
      have := Cl.check_ok.2 h1
      have := Cl.check_ok.2 h2
      omega
  · have hc : c.Ok := Cl.check_ok.1 (by omega)
    have hd : d.Ok := Cl.check_ok.1 (by omega)
    have ha := subsR_ans hc hd
    constructor
    · intro h
      obtain ⟨v, hv⟩ := Option.isSome_iff_exists.1 h
      rw [show subsR c d = some v from hv] at ha
      exact ⟨hc, hd, _, full_by hc ha.1⟩
    · rintro ⟨_, _, g, hg⟩
      cases hs : subs c d with
      | some v => rfl
      | none =>
        rw [show subsR c d = none from hs] at ha
        exact absurd (by_full hc hg) (ha _)
theorem SubC.refl {c : Cl} (h : c.Ok) : SubC c c := by
  have e : ∀ t : Tm, subT varT t = t := by
    intro t
    unfold subT
    by_cases hv : t.isVar = true
    · rw [if_pos hv]
      simp [Tm.isVar] at hv
      cases t; simp_all [varT]
    · rw [if_neg hv]
  have ea : ∀ a : At0, Makes varT a a := fun a => by
    refine ⟨?_, fun ⟨h1, h2⟩ => ?_⟩
    · rw [At0.eq]
      refine ⟨e _, rfl, ?_⟩
      show a.args.map (subT varT) = a.args
      rw [show (subT varT) = id from funext e, List.map_id]
    · simp [Tm.isVar] at h1
      omega
  exact ⟨h, h, varT, ea _, fun a ha => ⟨a, ha, ea a⟩, fun t ht => by simp [testS, e, tsOk, ht]⟩
theorem const_not_var {t : Tm} (h : t.isConst = true) : t.isVar = false := by
  simp [Tm.isConst] at h
  simp [Tm.isVar]
  intro h3
  omega
theorem decide_consts {t : Ts} (h : t.decide.1 = true) : t.l.isConst = true ∧ t.r.isConst = true := by
  unfold Ts.decide at h
  split at h
  · cases h
  · rename_i hn
    simp only [not_or, Bool.not_eq_false] at hn
    exact ⟨hn.2.1, hn.2.2⟩
theorem subT_sub (g1 g2 : Int → Tm) (t : Tm) : subT (fun i => subT g2 (g1 i)) t = subT g2 (subT g1 t) := by
  unfold subT
  by_cases hv : t.isVar = true <;> simp [hv]
theorem makes_trans {g1 g2 : Int → Tm} {a b c : At0} (h1 : Makes g1 a b) (h2 : Makes g2 b c) : Makes (fun i => subT g2 (g1 i)) a c := by
  refine ⟨?_, fun ⟨k1, k2⟩ => ?_⟩
  · rw [← h2.1, ← h1.1]
    simp [At0.map, subT_sub]
  · have e : b.by_ = subT g1 a.by_ := by rw [← h1.1]; rfl
    have e2 : c.by_ = subT g2 b.by_ := by rw [← h2.1]; rfl
    have hb : b.by_.k ≠ 0 := fun h => h1.2 ⟨k1, h⟩
    by_cases hv : b.by_.isVar = true
    · exact h2.2 ⟨hv, k2⟩
    · rw [e2] at k2
      unfold subT at k2
      rw [if_neg hv] at k2
      exact hb k2
theorem tsOk_sub {d e : Cl} {g : Int → Tm} {t : Ts} (h : tsOk d t = true) (hs : ∀ t ∈ d.tests, tsOk e (testS g t) = true) : tsOk e (testS g t) = true := by
  unfold tsOk at h
  rw [Bool.or_eq_true] at h
  rcases h with h | h
  · rw [Bool.and_eq_true] at h
    have hk := decide_consts h.1
    have e1 : testS g t = t := by
      unfold testS subT
      rw [const_not_var hk.1, const_not_var hk.2]
      rfl
    rw [e1]
    simp [tsOk, h.1, h.2]
  · exact hs t (by simpa using h)
theorem SubBy.trans {g1 g2 : Int → Tm} {a b c : Cl} (h1 : SubBy g1 a b) (h2 : SubBy g2 b c) : SubBy (fun i => subT g2 (g1 i)) a c := by
  refine ⟨makes_trans h1.head h2.head, fun x hx => ?_, fun t ht => ?_⟩
  · obtain ⟨y, hy, m1⟩ := h1.body x hx
    obtain ⟨z, hz, m2⟩ := h2.body y hy
    exact ⟨z, hz, makes_trans m1 m2⟩
  · have := tsOk_sub (h1.tests t ht) h2.tests
    unfold testS at this ⊢
    rw [subT_sub, subT_sub]
    exact this
theorem SubC.trans {a b c : Cl} (h1 : SubC a b) (h2 : SubC b c) : SubC a c := by
  obtain ⟨o1, o2, g1, k1⟩ := h1
  obtain ⟨_, o3, g2, k2⟩ := h2
  exact ⟨o1, o3, _, k1.trans k2⟩

/-! ### reduced -/
theorem goesB_iff {l : List Cl} {i : Nat} (hi : i < l.length) : goesB l i = true ↔ ∃ k c, k ≠ i ∧ l[k]? = some c ∧ SubC c l[i] := by
  unfold goesB
  have hd : l[i]? = some l[i] := List.getElem?_eq_getElem hi
  rw [List.any_eq_true]
  constructor
  · rintro ⟨k, hk, h⟩
    rw [Bool.and_eq_true] at h
    obtain ⟨h1, h2⟩ := h
    have hkl : k < l.length := by simpa using hk
    have hc : l[k]? = some l[k] := List.getElem?_eq_getElem hkl
    rw [hd, hc] at h2
    exact ⟨k, l[k], by simpa using h1, hc, subs_iff.1 h2⟩
  · rintro ⟨k, c, h1, h2, h3⟩
    refine ⟨k, by simpa using (List.getElem?_eq_some_iff.1 h2).1, ?_⟩
    rw [Bool.and_eq_true, hd, h2]
    exact ⟨by simpa using h1, subs_iff.2 h3⟩
theorem reduceGo_sub (l : List Cl) (i : Nat) : (reduceGo l i).Sublist l := by
  induction i generalizing l with
  | zero => exact List.Sublist.refl _
  | succ i ih =>
    unfold reduceGo
    split
    · exact (ih _).trans (List.eraseIdx_sublist _ _)
    · exact ih l
/-- What went is said by one that is left. -/
theorem reduceGo_cov : ∀ (i : Nat) (l : List Cl), i ≤ l.length → ∀ x ∈ l, x.Ok → ∃ y ∈ reduceGo l i, SubC y x := by
  intro i
  induction i with
  | zero => intro l _ x hx ho; exact ⟨x, hx, SubC.refl ho⟩
  | succ i ih =>
    intro l hl x hx ho
    unfold reduceGo
    split
    · rename_i hg
      have hi : i < l.length := by omega
      obtain ⟨k, c, hk, hc, hs⟩ := (goesB_iff hi).1 hg
      have hlen : i ≤ (l.eraseIdx i).length := by rw [List.length_eraseIdx_of_lt hi]; omega
      have hcm : c ∈ l.eraseIdx i := by
        rw [List.mem_eraseIdx_iff_getElem?]
        exact ⟨k, hk, hc⟩
      by_cases hxm : x ∈ l.eraseIdx i
      · exact ih _ hlen x hxm ho
      · have hxe : x = l[i] := by
          obtain ⟨j, hj, e⟩ := List.mem_iff_getElem.1 hx
          by_cases hji : j = i
          · subst hji; exact e.symm
          · exact absurd (List.mem_eraseIdx_iff_getElem?.2 ⟨j, hji, e ▸ List.getElem?_eq_getElem hj⟩) hxm
        obtain ⟨y, hy, h2⟩ := ih _ hlen c hcm hs.1
        exact ⟨y, hy, h2.trans (hxe ▸ hs)⟩
    · exact ih l (by omega) x hx ho
/-- Of what is left none is said by another one. -/
theorem reduceGo_min : ∀ (i : Nat) (l : List Cl), i ≤ l.length → (∀ j : Nat, i ≤ j → j < l.length → ∀ (k : Nat) (c d : Cl), k ≠ j → l[k]? = some c → l[j]? = some d → ¬ SubC c d) →
    ∀ (j k : Nat) (c d : Cl), k ≠ j → (reduceGo l i)[k]? = some c → (reduceGo l i)[j]? = some d → ¬ SubC c d := by
  intro i
  induction i with
  | zero => intro l _ h j k c d hne hk hj; exact h j (Nat.zero_le _) (List.getElem?_eq_some_iff.1 hj).1 k c d hne hk hj
  | succ i ih =>
    intro l hl h
    unfold reduceGo
    have hi : i < l.length := by omega
    split
    · have hlen : (l.eraseIdx i).length = l.length - 1 := List.length_eraseIdx_of_lt hi
      refine ih _ (by omega) fun j hj hjl k c d hne hk hjd => ?_
      rw [List.getElem?_eraseIdx_of_ge (by omega)] at hjd
      by_cases hki : k < i
      · rw [List.getElem?_eraseIdx_of_lt hki] at hk
        exact h (j + 1) (by omega) (by omega) k c d (by omega) hk hjd
      · rw [List.getElem?_eraseIdx_of_ge (by omega)] at hk
        exact h (j + 1) (by omega) (by omega) (k + 1) c d (by omega) hk hjd
    · rename_i hg
      refine ih l (by omega) fun j hj hjl k c d hne hk hjd hs => ?_
      rcases Nat.lt_or_eq_of_le hj with h1 | h1
      · exact h j h1 hjl k c d hne hk hjd hs
      · subst h1
        rw [List.getElem?_eq_getElem hi] at hjd
        simp only [Option.some.injEq] at hjd
        exact hg ((goesB_iff hi).2 ⟨k, c, hne, hk, hjd ▸ hs⟩)
theorem reduceGo_stay : ∀ (i : Nat) (l : List Cl), i ≤ l.length → (∀ (j k : Nat) (c d : Cl), k ≠ j → l[k]? = some c → l[j]? = some d → ¬ SubC c d) → reduceGo l i = l := by
  intro i
  induction i with
  | zero => intro l _ _; rfl
  | succ i ih =>
    intro l hl h
    unfold reduceGo
    rw [if_neg]
    · exact ih l (by omega) h
    · intro hg
      obtain ⟨k, c, h1, h2, h3⟩ := (goesB_iff (by omega : i < l.length)).1 hg
      exact h i k c _ h1 h2 (List.getElem?_eq_getElem _) h3

/-! ### condensed -/
/-- With a part less a clause says no less of what it says. -/
theorem less_sub {c : Cl} {p : Nat} (hc : c.Ok) (hl : (less c p).Ok) : SubC (less c p) c := by
  have hr := (num_ren (c.without p).terms)
  have hex : ∀ i : Int, ∃ u : Tm, ∀ t ∈ (c.without p).terms, t.isVar = true → (numT (varsOf (c.without p).terms) t).n = i → u = t := by
    intro i
    by_cases h : ∃ t ∈ (c.without p).terms, t.isVar = true ∧ (numT (varsOf (c.without p).terms) t).n = i
    · obtain ⟨t, h1, h2, h3⟩ := h
      refine ⟨t, fun u hu hv hn => ?_⟩
      exact hr.inj t h1 u hu h2 hv (isVar_eq (hr.var t h1 h2) (hr.var u hu hv) (h3.trans hn.symm))
    · exact ⟨Tn, fun t ht hv hn => absurd ⟨t, ht, hv, hn⟩ h⟩
  obtain ⟨g, hg⟩ := Classical.axiomOfChoice hex
  have e : ∀ t ∈ (c.without p).terms, subT g (numT (varsOf (c.without p).terms) t) = t := by
    intro t ht
    unfold subT
    rw [hr.isVar ht]
    by_cases hv : t.isVar = true
    · rw [if_pos hv]
      exact hg _ t ht hv rfl
    · rw [if_neg hv]
      exact hr.fix t ht (by simpa using hv)
  have em : ∀ a : At0, (∀ t ∈ a.terms, t ∈ (c.without p).terms) → Makes g (a.map (numT (varsOf (c.without p).terms))) a := by
    intro a hin
    refine ⟨?_, fun ⟨h1, h2⟩ => ?_⟩
    · have : (a.map (numT (varsOf (c.without p).terms))).map (subT g) = a.map (subT g ∘ numT (varsOf (c.without p).terms)) := by simp [At0.map]
      rw [this, map_congrA (f := subT g ∘ numT (varsOf (c.without p).terms)) (g := id) fun t ht => e t (hin t ht)]
      simp [At0.map]
    · rw [show (a.map (numT (varsOf (c.without p).terms))).by_ = numT (varsOf (c.without p).terms) a.by_ from rfl, hr.isVar (hin _ (by simp [At0.terms]))] at h1
      simp [Tm.isVar] at h1
      omega
  have hh : (c.without p).head = c.head := by unfold Cl.without; split <;> rfl
  have hb : ∀ a ∈ (c.without p).body, a ∈ c.body := by
    intro a ha
    unfold Cl.without at ha
    split at ha
    · exact mem_eraseIdx ha
    · exact ha
  have ht : ∀ t ∈ (c.without p).tests, t ∈ c.tests := by
    intro a ha
    unfold Cl.without at ha
    split at ha
    · exact ha
    · exact mem_eraseIdx ha
  refine ⟨hl, hc, g, ?_, fun a ha => ?_, fun t htm => ?_⟩
  · rw [← hh]
    exact em _ fun t ht => Cl.mem_terms_head ht
  · obtain ⟨b, hbm, rfl⟩ := List.mem_map.1 ha
    exact ⟨b, hb b hbm, em b fun t ht => Cl.mem_terms_body (Cl.mem_body hbm ht)⟩
  · obtain ⟨u, hu, rfl⟩ := List.mem_map.1 htm
    have hin := test_terms hu
    have : testS g ⟨u.op, numT (varsOf (c.without p).terms) u.l, numT (varsOf (c.without p).terms) u.r⟩ = u := by
      unfold testS
      rw [e _ hin.1, e _ hin.2]
    rw [this]
    simp [tsOk, ht u hu]
/-- Clauses that say one another. -/
def Alike (c d : Cl) : Prop := SubC c d ∧ SubC d c
theorem passN_alike : ∀ (p : Nat) (c : Cl), c.Ok → (passN c p).1.Ok ∧ Alike c (passN c p).1 ∧ (passN c p).1.body.length ≤ c.body.length ∧ (passN c p).1.tests.length ≤ c.tests.length := by
  intro p
  induction p with
  | zero => intro c hc; exact ⟨hc, ⟨SubC.refl hc, SubC.refl hc⟩, Nat.le_refl _, Nat.le_refl _⟩
  | succ p ih =>
    intro c hc
    unfold passN
    split
    · rename_i hs
      have h1 := subs_iff.1 hs
      have h2 := less_sub hc h1.2.1
      obtain ⟨i1, i2, i3, i4⟩ := ih (less c p) h1.2.1
      have l1 : (less c p).body.length ≤ c.body.length ∧ (less c p).tests.length ≤ c.tests.length := by
        unfold less Cl.normal Cl.map Cl.without
        split <;> simp <;> exact List.length_eraseIdx_le _ _
      exact ⟨i1, ⟨h1.trans i2.1, i2.2.trans h2⟩, by dsimp only; omega, by dsimp only; omega⟩
    · exact ih c hc
theorem passN_none : ∀ (p : Nat) (c : Cl), (passN c p).2 = false → (passN c p).1 = c ∧ ∀ q < p, (subs c (less c q)).isSome = false := by
  intro p
  induction p with
  | zero => intro c _; exact ⟨rfl, fun q hq => by omega⟩
  | succ p ih =>
    intro c h
    unfold passN at h ⊢
    split at h
    · cases h
    · rename_i hn
      rw [if_neg hn]
      obtain ⟨h1, h2⟩ := ih c h
      refine ⟨h1, fun q hq => ?_⟩
      by_cases e : q = p
      · subst e; simpa using hn
      · exact h2 q (by omega)
theorem passN_parts (p : Nat) (c : Cl) (hp : p ≤ c.parts) : (passN c p).1.parts ≤ c.parts ∧ ((passN c p).2 = true → (passN c p).1.parts < c.parts) := by
  induction p generalizing c with
  | zero => exact ⟨Nat.le_refl _, fun h => by cases h⟩
  | succ p ih =>
    unfold passN
    split
    · have h1 : (less c p).parts = c.parts - 1 := by rw [less, normal_parts, without_parts (by omega)]
      have h2 := ih (less c p) (by omega)
      exact ⟨by dsimp only; omega, fun _ => by dsimp only; omega⟩
    · exact ih c (by omega)
structure Cond (c d : Cl) : Prop where
  ok : d.Ok
  alike : Alike c d
  lb : d.body.length ≤ c.body.length
  lt : d.tests.length ≤ c.tests.length
  none : ∀ q < d.parts, (subs d (less d q)).isSome = false
theorem condN_cond : ∀ (n : Nat) (c : Cl), c.Ok → c.parts < n → Cond c (condN n c) := by
  intro n
  induction n with
  | zero => intro c _ h; omega
  | succ n ih =>
    intro c hc hn
    unfold condN
    obtain ⟨h1, h2, h3, h4⟩ := passN_alike c.parts c hc
    split
    · rename_i hw
      have hp := (passN_parts c.parts c (Nat.le_refl _)).2 hw
      have i := ih _ h1 (by omega)
      exact ⟨i.ok, ⟨h2.1.trans i.alike.1, i.alike.2.trans h2.2⟩, Nat.le_trans i.lb h3, Nat.le_trans i.lt h4, i.none⟩
    · rename_i hw
      obtain ⟨e, hno⟩ := passN_none c.parts c (by simpa using hw)
      exact ⟨h1, h2, h3, h4, by rw [e]; exact hno⟩
theorem condC_eq {c : Cl} (hc : c.Ok) : condC c = condN (c.parts + 1) c := by
  unfold condC
  rw [← condN_normal, Ok_normal hc]
theorem condC_cond {c : Cl} (hc : c.Ok) : Cond c (condC c) := by
  rw [condC_eq hc]
  exact condN_cond _ c hc (Nat.lt_succ_self _)
end Go.Wk
/- Bindings settled one by one, the least first. Plain Lean. -/
namespace Go.Wk
open Go
set_option linter.unusedVariables false

def freshB (acc : List Bd) (b : Bd) : Bool := match acc.getLast? with | none => true | some l => decide (l.var < b.var)
def beats (s : List Bd) (b : Bd) : Option Nat → Bool
  | none => true
  | some j => match s[j]? with | none => true | some y => decide (b.var < y.var)
/-- The place of the first least fresh one of the first k. -/
def leastAt (acc s : List Bd) : Nat → Option Nat
  | 0 => none
  | k + 1 => match s[k]? with
    | none => leastAt acc s k
    | some b => if (freshB acc b && beats s b (leastAt acc s k)) = true then some k else leastAt acc s k
def atI : Option Nat → Int
  | none => -1
  | some j => j
theorem leastAt_none {acc s : List Bd} : ∀ k, leastAt acc s k = none → ∀ (i : Nat) (b : Bd), i < k → s[i]? = some b → freshB acc b = false := by
  intro k
  induction k with
  | zero => intro _ i b h; omega
  | succ k ih =>
    intro h i b hi hb
    unfold leastAt at h
    cases hs : s[k]? with
    | none =>
      rw [hs] at h
      by_cases e : i = k
      · subst e; rw [hs] at hb; cases hb
      · exact ih h i b (by omega) hb
    | some x =>
      rw [hs] at h
      dsimp only at h
      by_cases hc : (freshB acc x && beats s x (leastAt acc s k)) = true
      · rw [if_pos hc] at h; cases h
      · rw [if_neg hc] at h
        by_cases e : i = k
        · subst e
          rw [hs] at hb
          simp only [Option.some.injEq] at hb
          subst hb
          rw [h] at hc
          simpa [beats] using hc
        · exact ih h i b (by omega) hb
theorem leastAt_some {acc s : List Bd} : ∀ k j, leastAt acc s k = some j → ∃ y, j < k ∧ s[j]? = some y ∧ freshB acc y = true ∧ ∀ (i : Nat) (b : Bd), i < k → s[i]? = some b → freshB acc b = true → y.var ≤ b.var ∧ (y.var = b.var → j ≤ i) := by
  intro k
  induction k with
  | zero => intro j h; cases h
  | succ k ih =>
    intro j h
    unfold leastAt at h
    cases hs : s[k]? with
    | none =>
      rw [hs] at h
      obtain ⟨y, h1, h2, h3, h4⟩ := ih j h
      refine ⟨y, by omega, h2, h3, fun i b hi hb hf => ?_⟩
      by_cases e : i = k
      · subst e; rw [hs] at hb; cases hb
      · exact h4 i b (by omega) hb hf
    | some x =>
      rw [hs] at h
      dsimp only at h
      by_cases hc : (freshB acc x && beats s x (leastAt acc s k)) = true
      · rw [if_pos hc] at h
        simp only [Option.some.injEq] at h
        subst h
        rw [Bool.and_eq_true] at hc
        refine ⟨x, by omega, hs, hc.1, fun i b hi hb hf => ?_⟩
        by_cases e : i = k
        · subst e
          rw [hs] at hb
          simp only [Option.some.injEq] at hb
          subst hb
          exact ⟨Int.le_refl _, fun _ => Nat.le_refl _⟩
        · cases hl : leastAt acc s k with
          | none =>
            have := leastAt_none k hl i b (by omega) hb
            rw [hf] at this
            cases this
          | some j' =>
            obtain ⟨y, h1, h2, h3, h4⟩ := ih j' hl
            rw [hl] at hc
            simp only [beats, h2] at hc
            have h5 := h4 i b (by omega) hb hf
            have h6 : x.var < y.var := by simpa using hc.2
            exact ⟨by omega, fun e' => by omega⟩
      · rw [if_neg hc] at h
        obtain ⟨y, h1, h2, h3, h4⟩ := ih j h
        refine ⟨y, by omega, h2, h3, fun i b hi hb hf => ?_⟩
        by_cases e : i = k
        · subst e
          rw [hs] at hb
          simp only [Option.some.injEq] at hb
          subst hb
          rw [h, hf] at hc
          simp only [beats, h2] at hc
          have : ¬ x.var < y.var := by simpa using hc
          exact ⟨by omega, fun _ => by omega⟩
        · exact h4 i b (by omega) hb hf
structure SetInv (acc s : List Bd) : Prop where
  rise : Rise cmpB acc
  look : ∀ v, lookB acc v = if freshB acc ⟨v, Tn⟩ then none else lookB s v
  len : acc.length + (s.filter (freshB acc)).length ≤ s.length
theorem fresh_var {acc : List Bd} {b b' : Bd} (h : b.var = b'.var) : freshB acc b = freshB acc b' := by unfold freshB; rw [h]
theorem SetInv.start (s : List Bd) : SetInv [] s := ⟨List.Pairwise.nil, fun v => by simp [freshB, lookB], by simpa using List.length_filter_le _ _⟩
theorem SetInv.done {acc s : List Bd} (h : SetInv acc s) (hn : leastAt acc s s.length = none) : acc = settledB s := by
  refine settled_of h.rise fun v => ?_
  rw [h.look]
  split
  · rename_i hf
    cases hl : lookB s v with
    | none => rfl
    | some t =>
      obtain ⟨b, hb, e1, e2⟩ := look_mem hl
      obtain ⟨i, hi⟩ := List.mem_iff_getElem?.1 hb
      have := leastAt_none _ hn i b (List.getElem?_eq_some_iff.1 hi).1 hi
      rw [fresh_var (b' := ⟨v, Tn⟩) e1, hf] at this
      cases this
  · rfl
theorem look_first {s : List Bd} {j : Nat} {y : Bd} (hj : s[j]? = some y) (hf : ∀ (i : Nat) (b : Bd), s[i]? = some b → b.var = y.var → j ≤ i) : lookB s y.var = some y.to := by
  induction s generalizing j with
  | nil => simp at hj
  | cons x s ih =>
    cases j with
    | zero => simp at hj; subst hj; simp [lookB]
    | succ j =>
      have h0 : x.var ≠ y.var := fun e => by have := hf 0 x rfl e; omega
      rw [lookB, if_neg h0]
      exact ih (by simpa using hj) fun i b hi e => by have := hf (i + 1) b (by simpa using hi) e; omega
theorem SetInv.step {acc s : List Bd} {j : Nat} (h : SetInv acc s) (hj : leastAt acc s s.length = some j) : ∃ y, s[j]? = some y ∧ SetInv (acc ++ [y]) s ∧ (s.filter (freshB (acc ++ [y]))).length < (s.filter (freshB acc)).length := by
  obtain ⟨y, h1, h2, h3, h4⟩ := leastAt_some _ _ hj
  have hlast : ∀ v : Int, freshB (acc ++ [y]) ⟨v, Tn⟩ = decide (y.var < v) := by intro v; simp [freshB]
  have hle : ∀ z ∈ acc, z.var < y.var := by
    intro z hz
    have hz1 := look_of_rise h.rise hz
    rw [h.look] at hz1
    split at hz1
    · cases hz1
    · rename_i hnf
      unfold freshB at hnf h3
      cases hg : acc.getLast? with
      | none => rw [hg] at hnf; simp at hnf
      | some l => rw [hg] at hnf h3; simp at hnf h3; omega
  have hfl : ∀ b : Bd, freshB (acc ++ [y]) b = true → freshB acc b = true := by
    intro b hb
    have h5 : y.var < b.var := by simpa [freshB] using hb
    unfold freshB at h3 ⊢
    cases hg : acc.getLast? with
    | none => rfl
    | some l => rw [hg] at h3; simp at h3 ⊢; omega
  have hlt : (s.filter (freshB (acc ++ [y]))).length < (s.filter (freshB acc)).length := by
    have e : s.filter (freshB (acc ++ [y])) = (s.filter (freshB acc)).filter (freshB (acc ++ [y])) := by
      rw [List.filter_filter]
      refine List.filter_congr fun b hb => ?_
      cases hc : freshB (acc ++ [y]) b with
      | false => simp
      | true => simp [hfl b hc]
    rw [e]
    have hym : y ∈ s.filter (freshB acc) := List.mem_filter.2 ⟨List.mem_of_getElem? h2, h3⟩
    have hny : freshB (acc ++ [y]) y = false := by simp [freshB]
    generalize s.filter (freshB acc) = l at hym
    clear e h hj h4 hlast hle hfl h1 h2 h3
    induction l with
    | nil => cases hym
    | cons x l ih =>
      rcases List.mem_cons.1 hym with e | hm
      · subst e
        rw [List.filter_cons, if_neg (by simp [hny]), List.length_cons]
        have := List.length_filter_le (freshB (acc ++ [y])) l
        omega
      · rw [List.filter_cons]
        split
        · simp only [List.length_cons]; have := ih hm; omega
        · have := ih hm; simp only [List.length_cons]; omega
  refine ⟨y, h2, ⟨?_, fun v => ?_, ?_⟩, hlt⟩
  · refine List.pairwise_append.2 ⟨h.rise, by simp, fun a ha b hb => ?_⟩
    simp at hb
    subst hb
    exact cmpB_lt.2 (hle a ha)
  · rw [lookB_append, hlast, h.look]
    by_cases hv : y.var < v
    · have hf : freshB acc ⟨v, Tn⟩ = true := hfl ⟨v, Tn⟩ (by rw [hlast]; simpa using hv)
      simp [lookB, hf, hv, show ¬ y.var = v by omega]
    · rw [decide_eq_false hv]
      simp only [Bool.false_eq_true, if_false]
      by_cases hf : freshB acc ⟨v, Tn⟩ = true
      · rw [if_pos hf]
        by_cases e : y.var = v
        · subst e
          simp only [lookB, if_true, Option.none_or]
          exact (look_first h2 fun i b hi e => by
            have := h4 i b (List.getElem?_eq_some_iff.1 hi).1 hi (by rw [fresh_var (b' := ⟨y.var, Tn⟩) e]; exact hf)
            exact this.2 e.symm).symm
        · simp only [lookB, if_neg e, Option.none_or]
          cases hl : lookB s v with
          | none => rfl
          | some t =>
            obtain ⟨b, hb, e1, e2⟩ := look_mem hl
            obtain ⟨i, hi⟩ := List.mem_iff_getElem?.1 hb
            have := h4 i b (List.getElem?_eq_some_iff.1 hi).1 hi (by rw [fresh_var (b' := ⟨v, Tn⟩) e1]; exact hf)
            omega
      · rw [if_neg hf]
        cases hl : lookB s v with
        | some t => rfl
        | none =>
          simp only [lookB, Option.none_or]
          rw [if_neg]
          intro e
          have : (lookB s y.var).isSome = true := look_isSome.2 ⟨y, List.mem_of_getElem? h2, rfl⟩
          rw [e, hl] at this
          cases this
  · have := h.len
    simp only [List.length_append, List.length_cons, List.length_nil]
    omega
end Go.Wk
/- Texts that are short enough to count, throughout. Plain Lean. -/
namespace Go.Wk
open Go
set_option linter.unusedVariables false
def allSm (s : List Bd) : Prop := ∀ b ∈ s, b.to.sm
theorem Tn_sm : Tn.sm := by simp [Tm.sm, ByteArray.size]
theorem At0.sm_terms {a : At0} (h : a.sm) : ∀ t ∈ a.terms, t.sm := by
  intro t ht
  rcases List.mem_cons.1 ht with e | ht
  · exact e ▸ h.2.1
  · exact h.2.2 t ht
theorem mem_setU' {α : Type} {f : α → α → Int} {z : α} : ∀ {l : List α}, z ∈ setU f l → z ∈ l := by
  intro l
  unfold setU
  have : ∀ (l acc : List α), z ∈ l.foldl (fun acc x => insU f x acc) acc → z ∈ acc ∨ z ∈ l := by
    intro l
    induction l with
    | nil => intro acc h; exact .inl h
    | cons x l ih =>
      intro acc h
      rcases ih _ h with h | h
      · rcases mem_insU h with e | h
        · exact .inr (e ▸ List.mem_cons_self ..)
        · exact .inl h
      · exact .inr (List.mem_cons_of_mem _ h)
  intro h
  exact (this l [] h).elim (fun h => by cases h) id
theorem isConst_sm {t : Tm} (h : t.isConst = true) : t.sm := by
  simp [Tm.isConst] at h
  unfold Tm.sm
  rcases h with h | h
  · rw [h.2]; simp [ByteArray.size]
  · omega
theorem isVar_sm {t : Tm} (h : t.isVar = true) : t.sm := by
  simp [Tm.isVar] at h
  unfold Tm.sm
  rw [h.2.2]; simp [ByteArray.size]
theorem check_parts {a : At0} (h : a.check = 0) : nameB a.name = true ∧ a.args.length ≤ 8 ∧ (a.by_ = Tn ∨ a.by_.isPrinc = true ∨ a.by_.isVar = true) ∧ ∀ t ∈ a.args, t.isConst = true ∨ t.isVar = true := by
  unfold At0.check at h
  split at h
  · cases h
  · rename_i h1
    split at h
    · cases h
    · rename_i h2
      split at h
      · cases h
      · rename_i h3
        split at h
        · cases h
        · rename_i h4
          refine ⟨by simpa using h1, by omega, ?_, fun t ht => ?_⟩
          · by_cases e1 : a.by_ = Tn
            · exact .inl e1
            · by_cases e2 : a.by_.isPrinc = true
              · exact .inr (.inl e2)
              · by_cases e3 : a.by_.isVar = true
                · exact .inr (.inr e3)
                · exact absurd ⟨e1, by simpa using e2, by simpa using e3⟩ h3
          · by_cases e1 : t.isConst = true
            · exact .inl e1
            · by_cases e2 : t.isVar = true
              · exact .inr e2
              · exact absurd (List.any_eq_true.2 ⟨t, ht, by simp [e1, e2]⟩) h4
theorem princ_const {t : Tm} (h : t.isPrinc = true) : t.isConst = true := by
  simp [Tm.isPrinc] at h
  exact h.1
theorem At0.check_sm {a : At0} (h : a.check = 0) : a.sm := by
  obtain ⟨h1, h2, h3, h4⟩ := check_parts h
  refine ⟨?_, ?_, fun t ht => ?_⟩
  · unfold nameB at h1
    simp at h1
    omega
  · rcases h3 with e | e | e
    · rw [e]; exact Tn_sm
    · exact isConst_sm (princ_const e)
    · exact isVar_sm e
  · rcases h4 t ht with e | e
    · exact isConst_sm e
    · exact isVar_sm e
theorem Cl.Ok.sm {x : Cl} (h : x.Ok) : x.sm := by
  refine ⟨At0.check_sm (h.at_ _ (List.mem_cons_self ..)), fun a ha => At0.check_sm (h.at_ a (List.mem_cons_of_mem _ ha)), fun t ht => ?_⟩
  have h1 := h.ts t ht
  unfold Ts.check at h1
  split at h1
  · cases h1
  · rename_i hn
    simp only [not_or, Bool.not_eq_false, Bool.or_eq_true] at hn
    exact ⟨hn.2.2.1.elim isConst_sm isVar_sm, hn.2.2.2.elim isConst_sm isVar_sm⟩
/-- How many terms a clause that isn't refused has. -/
theorem flat_len {l : List At0} (h : ∀ a ∈ l, a.args.length ≤ 8) : (l.flatMap At0.terms).length ≤ 9 * l.length := by
  induction l with
  | nil => simp
  | cons a l ih =>
    have h1 := ih fun b hb => h b (List.mem_cons_of_mem _ hb)
    have h2 := h a (List.mem_cons_self ..)
    simp only [List.flatMap_cons, List.length_append, List.length_cons, At0.terms] at h1 ⊢
    omega
theorem Cl.Ok.terms_len {x : Cl} (h : x.Ok) : x.terms.length ≤ 97 := by
  have hb := flat_len (l := x.body) fun a ha => (check_parts (h.at_ a (List.mem_cons_of_mem _ ha))).2.1
  have hh := (check_parts (h.at_ _ (List.mem_cons_self ..))).2.1
  have h8 := h.b8
  have ht : x.testTerms.length = 2 * x.tests.length := by
    unfold Cl.testTerms
    generalize x.tests = l
    induction l with
    | nil => rfl
    | cons t l ih => simp only [List.flatMap_cons, List.length_append, List.length_cons, List.length_nil, ih]; omega
  have h9 := h.t8
  simp only [Cl.terms, List.length_append, Cl.bodyTerms, At0.terms, List.length_cons] at *
  omega
theorem Cl.Ok.nv_le {x : Cl} (h : x.Ok) : x.nv ≤ 97 := Nat.le_trans (varsOf_len x.terms) h.terms_len
end Go.Wk
/- Rising lists merged. Plain Lean. -/
namespace Go.Wk
open Go
set_option linter.unusedVariables false
section
variable {α : Type} {f : α → α → Int}
def mergeU (f : α → α → Int) : List α → List α → List α
  | [], ys => ys
  | x :: xs, [] => x :: xs
  | x :: xs, y :: ys => if f x y < 0 then x :: mergeU f xs (y :: ys) else if f x y = 0 then x :: mergeU f xs ys else y :: mergeU f (x :: xs) ys
termination_by xs ys => xs.length + ys.length
end
theorem lexL_get {α : Type} {f : α → α → Int} {xs ys : List α} {k : Nat} {t t' : α} (h : xs[k]? = some t) (h' : ys[k]? = some t') : lexL f (xs.drop k) (ys.drop k) = if f t t' = 0 then lexL f (xs.drop (k + 1)) (ys.drop (k + 1)) else f t t' := by
  rw [drop_get h, drop_get h']
  rfl
end Go.Wk
namespace Go.Wk
end Go.Wk
/- Variables numbered on the way, by a list of the numbers that were met: the same as numbered by the list of all. -/
namespace Go.Wk
section
variable {σ : Type}
def outS (step : σ → Tm → σ) (ret : σ → Tm → Tm) : σ → List Tm → List Tm
  | _, [] => []
  | s, t :: ts => ret s t :: outS step ret (step s t) ts
def repA (step : σ → Tm → σ) (ret : σ → Tm → Tm) (s : σ) (a : At0) : At0 := ⟨ret s a.by_, a.name, outS step ret (step s a.by_) a.args⟩
def repAs (step : σ → Tm → σ) (ret : σ → Tm → Tm) : σ → List At0 → List At0
  | _, [] => []
  | s, a :: l => repA step ret s a :: repAs step ret (a.terms.foldl step s) l
def repTs (step : σ → Tm → σ) (ret : σ → Tm → Tm) : σ → List Ts → List Ts
  | _, [] => []
  | s, t :: l => ⟨t.op, ret s t.l, ret (step s t.l) t.r⟩ :: repTs step ret (step (step s t.l) t.r) l
def repC (step : σ → Tm → σ) (ret : σ → Tm → Tm) (s : σ) (x : Cl) : Cl :=
  ⟨repA step ret s x.head, repAs step ret (x.head.terms.foldl step s) x.body, repTs step ret (x.bodyTerms.foldl step (x.head.terms.foldl step s)) x.tests⟩
end
def posI : List Int → Int → Nat → Int
  | [], _, _ => -1
  | v :: vs, k, i => if v = k then (i : Int) else posI vs k (i + 1)
def nrS (V : List Int) (t : Tm) : List Int := if t.isVar && !decide (t.n ∈ V) then V ++ [t.n] else V
def nrR (V : List Int) (t : Tm) : Tm := if t.isVar then varT (posI (nrS V t) t.n 0) else t
theorem varsOn_all {acc : List Tm} (h : ∀ t ∈ acc, t.isVar = true) (t : Tm) : ∀ u ∈ varsOn acc t, u.isVar = true := by
  intro u hu
  unfold varsOn at hu
  split at hu
  · rename_i hc
    simp only [List.mem_append, List.mem_singleton] at hu
    rcases hu with hu | rfl
    · exact h u hu
    · simp at hc; exact hc.1
  · exact h u hu
theorem var_n' {t u : Tm} (h : t.isVar = true) (h' : u.isVar = true) (e : t.n = u.n) : t = u := by
  obtain ⟨k, n, s⟩ := t
  obtain ⟨k', n', s'⟩ := u
  simp [Tm.isVar] at h h' e
  simp [h, h', e]
theorem mem_nums' {acc : List Tm} (h : ∀ t ∈ acc, t.isVar = true) {t : Tm} (hv : t.isVar = true) : t.n ∈ acc.map Tm.n ↔ t ∈ acc := by
  rw [List.mem_map]
  exact ⟨fun ⟨u, hu, e⟩ => var_n' (h u hu) hv e ▸ hu, fun hu => ⟨t, hu, rfl⟩⟩
theorem nrS_map {acc : List Tm} (h : ∀ t ∈ acc, t.isVar = true) (t : Tm) : nrS (acc.map Tm.n) t = (varsOn acc t).map Tm.n := by
  unfold nrS varsOn
  cases hv : t.isVar with
  | false => simp
  | true =>
    by_cases hm : t ∈ acc
    · have := (mem_nums' h hv).2 hm
      simp only [this, hm, decide_true, Bool.not_true, Bool.and_false, Bool.false_eq_true, if_false]
    · have : ¬ t.n ∈ acc.map Tm.n := fun e => hm ((mem_nums' h hv).1 e)
      simp only [this, hm, decide_false, Bool.not_false, Bool.and_true, if_true, List.map_append, List.map_cons, List.map_nil]
theorem posI_map : ∀ (acc : List Tm) (t : Tm) (i : Nat), (∀ u ∈ acc, u.isVar = true) → t.isVar = true → posI (acc.map Tm.n) t.n i = placeOf acc t i
  | [], _, _, _, _ => rfl
  | u :: acc, t, i, h, hv => by
    simp only [List.map_cons, posI, placeOf]
    by_cases e : u = t
    · subst e; simp
    · rw [if_neg e, if_neg (fun he => e (var_n' (h u (List.mem_cons_self ..)) hv he)), posI_map acc t (i + 1) (fun u hu => h u (List.mem_cons_of_mem _ hu)) hv]
theorem placeOf_app : ∀ (acc e : List Tm) (t : Tm) (i : Nat), t ∈ acc → placeOf (acc ++ e) t i = placeOf acc t i
  | u :: acc, e, t, i, h => by
    simp only [List.cons_append, placeOf]
    by_cases he : u = t
    · simp [he]
    · rw [if_neg he, if_neg he]
      exact placeOf_app acc e t (i + 1) ((List.mem_cons.1 h).resolve_left fun x => he x.symm)
theorem placeOf_mem : ∀ (acc : List Tm) (t : Tm) (i : Nat), t ∈ acc → (i : Int) ≤ placeOf acc t i
  | u :: acc, t, i, h => by
    simp only [placeOf]
    by_cases he : u = t
    · simp [he]
    · rw [if_neg he]
      have := placeOf_mem acc t (i + 1) ((List.mem_cons.1 h).resolve_left fun x => he x.symm)
      omega
theorem placeOf_not : ∀ (acc : List Tm) (t : Tm) (i : Nat), t ∉ acc → placeOf acc t i = -1
  | [], _, _, _ => rfl
  | u :: acc, t, i, h => by
    simp only [List.mem_cons, not_or] at h
    simp only [placeOf]
    rw [if_neg (fun e => h.1 e.symm)]
    exact placeOf_not acc t (i + 1) h.2
theorem varsOn_pre (acc : List Tm) (t : Tm) : acc <+: varsOn acc t := by
  unfold varsOn
  split
  · exact List.prefix_append _ _
  · exact List.prefix_rfl
theorem varsFold_pre : ∀ (ts acc : List Tm), acc <+: ts.foldl varsOn acc
  | [], _ => List.prefix_rfl
  | t :: ts, acc => (varsOn_pre acc t).trans (varsFold_pre ts _)
theorem varsFold_all : ∀ (ts acc : List Tm), (∀ t ∈ acc, t.isVar = true) → ∀ t ∈ ts.foldl varsOn acc, t.isVar = true
  | [], _, h => h
  | t :: ts, acc, h => varsFold_all ts _ (varsOn_all h t)
theorem mem_varsOn {acc : List Tm} {t : Tm} (hv : t.isVar = true) : t ∈ varsOn acc t := by
  unfold varsOn
  by_cases hm : t ∈ acc
  · simp [hm]
  · simp [hv, hm]
theorem nrR_eq {acc F : List Tm} (h : ∀ t ∈ acc, t.isVar = true) (hF : ∀ t ∈ F, t.isVar = true) {t : Tm} (hp : varsOn acc t <+: F) : nrR (acc.map Tm.n) t = numT F t := by
  unfold nrR numT
  cases hv : t.isVar with
  | false =>
    have : t ∉ F := fun h => by rw [hF t h] at hv; cases hv
    rw [placeOf_not F t 0 this]
    rfl
  | true =>
    obtain ⟨e, rfl⟩ := hp
    have hm := mem_varsOn (acc := acc) hv
    rw [if_pos rfl, nrS_map h, posI_map _ _ _ (varsOn_all h t) hv, placeOf_app _ _ _ _ hm, if_pos (by have := placeOf_mem (varsOn acc t) t 0 hm; simpa using this)]
theorem nr_fold : ∀ (ts acc : List Tm), (∀ t ∈ acc, t.isVar = true) → ts.foldl nrS (acc.map Tm.n) = (ts.foldl varsOn acc).map Tm.n
  | [], _, _ => rfl
  | t :: ts, acc, h => by
    simp only [List.foldl_cons]
    rw [nrS_map h, nr_fold ts _ (varsOn_all h t)]
theorem nr_outS {F : List Tm} (hF : ∀ t ∈ F, t.isVar = true) : ∀ (ts acc : List Tm), (∀ t ∈ acc, t.isVar = true) → ts.foldl varsOn acc <+: F → outS nrS nrR (acc.map Tm.n) ts = ts.map (numT F)
  | [], _, _, _ => rfl
  | t :: ts, acc, h, hp => by
    simp only [List.foldl_cons] at hp
    simp only [outS, List.map_cons]
    rw [nrR_eq h hF ((varsFold_pre ts _).trans hp), nrS_map h, nr_outS hF ts _ (varsOn_all h t) hp]
theorem nr_repA {F : List Tm} (hF : ∀ t ∈ F, t.isVar = true) (a : At0) (acc : List Tm) (h : ∀ t ∈ acc, t.isVar = true) (hp : a.terms.foldl varsOn acc <+: F) : repA nrS nrR (acc.map Tm.n) a = a.map (numT F) := by
  have := nr_outS hF a.terms acc h hp
  simp only [At0.terms, outS, List.map_cons, List.cons.injEq] at this
  unfold repA At0.map
  rw [this.1, this.2]
theorem nr_repAs {F : List Tm} (hF : ∀ t ∈ F, t.isVar = true) : ∀ (l : List At0) (acc : List Tm), (∀ t ∈ acc, t.isVar = true) → (l.flatMap At0.terms).foldl varsOn acc <+: F → repAs nrS nrR (acc.map Tm.n) l = l.map (At0.map (numT F))
  | [], _, _, _ => rfl
  | a :: l, acc, h, hp => by
    simp only [List.flatMap_cons, List.foldl_append] at hp
    simp only [repAs, List.map_cons]
    rw [nr_repA hF a acc h ((varsFold_pre _ _).trans hp), nr_fold _ _ h, nr_repAs hF l _ (varsFold_all _ _ h) hp]
theorem nr_repTs {F : List Tm} (hF : ∀ t ∈ F, t.isVar = true) : ∀ (l : List Ts) (acc : List Tm), (∀ t ∈ acc, t.isVar = true) → (l.flatMap fun t => [t.l, t.r]).foldl varsOn acc <+: F → repTs nrS nrR (acc.map Tm.n) l = l.map fun t => ⟨t.op, numT F t.l, numT F t.r⟩
  | [], _, _, _ => rfl
  | t :: l, acc, h, hp => by
    simp only [List.flatMap_cons, List.foldl_append, List.foldl_cons, List.foldl_nil] at hp
    have h1 := varsOn_all h t.l
    have h2 := varsOn_all h1 t.r
    simp only [repTs, List.map_cons]
    rw [nrR_eq h hF ((varsOn_pre _ _).trans ((varsFold_pre _ _).trans hp)), nrS_map h, nrR_eq h1 hF ((varsFold_pre _ _).trans hp), nrS_map h1, nr_repTs hF l _ h2 hp]
theorem nr_repC (x : Cl) : repC nrS nrR [] x = x.normal := by
  have h0 : ∀ t ∈ ([] : List Tm), t.isVar = true := fun _ h => by cases h
  have hF : ∀ t ∈ varsOf x.terms, t.isVar = true := varsFold_all _ _ h0
  have he : varsOf x.terms = x.testTerms.foldl varsOn (x.bodyTerms.foldl varsOn (x.head.terms.foldl varsOn [])) := by
    unfold varsOf Cl.terms
    rw [List.foldl_append, List.foldl_append]
  have p3 : x.testTerms.foldl varsOn (x.bodyTerms.foldl varsOn (x.head.terms.foldl varsOn [])) <+: varsOf x.terms := by rw [he]; exact List.prefix_rfl
  have p2 : x.bodyTerms.foldl varsOn (x.head.terms.foldl varsOn []) <+: varsOf x.terms := (varsFold_pre _ _).trans p3
  have p1 : x.head.terms.foldl varsOn [] <+: varsOf x.terms := (varsFold_pre _ _).trans p2
  have a1 := varsFold_all x.head.terms [] h0
  have a2 := varsFold_all x.bodyTerms _ a1
  unfold repC Cl.normal Cl.map
  have e1 := nr_repA hF x.head [] h0 p1
  have e2 := nr_fold x.head.terms [] h0
  have e3 := nr_fold x.bodyTerms _ a1
  simp only [List.map_nil] at e1 e2
  rw [e1, e2, e3, nr_repAs hF x.body _ a1 p2, nr_repTs hF x.tests _ a2 p3]
theorem same_outS : ∀ (ts : List Tm), outS (fun (_ : Unit) (_ : Tm) => ()) (fun _ t => t) () ts = ts
  | [] => rfl
  | t :: ts => by simp only [outS, same_outS ts]
theorem same_repA (a : At0) : repA (fun (_ : Unit) (_ : Tm) => ()) (fun _ t => t) () a = a := by
  unfold repA
  rw [same_outS]
theorem same_repAs : ∀ (l : List At0), repAs (fun (_ : Unit) (_ : Tm) => ()) (fun _ t => t) () l = l
  | [] => rfl
  | a :: l => by simp only [repAs, same_repA, same_repAs l]
theorem same_repTs : ∀ (l : List Ts), repTs (fun (_ : Unit) (_ : Tm) => ()) (fun _ t => t) () l = l
  | [] => rfl
  | t :: l => by simp only [repTs, same_repTs l]
theorem same_repC (x : Cl) : repC (fun (_ : Unit) (_ : Tm) => ()) (fun _ t => t) () x = x := by
  unfold repC
  rw [same_repA, same_repAs, same_repTs]
end Go.Wk
/- A binding as a list without doubles, in whatever order. Plain Lean. -/
namespace Go.Wk
def nodV (l : List Bd) : Prop := (l.map Bd.var).Nodup
theorem lookB_none {l : List Bd} {v : Int} : lookB l v = none ↔ v ∉ l.map Bd.var := by
  rw [← Option.not_isSome_iff_eq_none, look_isSome, List.mem_map]
theorem nodV_snoc {l : List Bd} {b : Bd} (h : nodV l) (hn : lookB l b.var = none) : nodV (l ++ [b]) := by
  unfold nodV at *
  rw [List.map_append, List.nodup_append]
  refine ⟨h, by simp, ?_⟩
  rintro a ha c hc rfl
  simp only [List.map_cons, List.map_nil, List.mem_singleton] at hc
  subst hc
  exact lookB_none.1 hn ha
theorem look_snoc {l all : List Bd} {b : Bd} (h : ∀ v, lookB l v = lookB all v) (v : Int) : lookB (l ++ [b]) v = lookB (all ++ [b]) v := by
  rw [lookB_append, lookB_append, h]
theorem rise_sorted {l out : List Bd} (hp : out.Perm l) (hs : out.Pairwise fun a b => cmpB a b ≤ 0) (hn : nodV l) : Rise cmpB out := by
  have hno : nodV out := ((hp.map Bd.var).nodup_iff).2 hn
  unfold nodV at hno
  rw [List.nodup_iff_pairwise_ne, List.pairwise_map] at hno
  unfold Rise
  refine (hs.and hno).imp ?_
  rintro a b ⟨h1, h2⟩
  rcases Int.lt_or_eq_of_le h1 with h | h
  · exact h
  · exact absurd (cmpB_eq.1 h) h2
theorem look_perm : ∀ {l out : List Bd}, out.Perm l → nodV l → ∀ v, lookB out v = lookB l v := by
  intro l out hp
  induction hp with
  | nil => intro _ v; rfl
  | cons b _ ih =>
    intro hn v
    unfold nodV at hn ih
    simp only [List.map_cons, List.nodup_cons] at hn
    simp only [lookB, ih hn.2 v]
  | swap a b l =>
    intro hn v
    unfold nodV at hn
    simp only [List.map_cons, List.nodup_cons, List.mem_cons, not_or] at hn
    simp only [lookB]
    by_cases h1 : a.var = v
    · by_cases h2 : b.var = v
      · exact absurd (h1.trans h2.symm) hn.1.1
      · simp [h1, h2]
    · simp [h1]
  | trans h1 h2 ih1 ih2 =>
    intro hn v
    rw [ih1 (((h2.map Bd.var).nodup_iff).2 hn) v, ih2 hn v]
theorem settled_sorted {l out all : List Bd} (hp : out.Perm l) (hs : out.Pairwise fun a b => cmpB a b ≤ 0) (hn : nodV l) (he : ∀ v, lookB l v = lookB all v) : out = settledB all :=
  settled_of (rise_sorted hp hs hn) fun v => (look_perm hp hn v).trans (he v)
/-- A binding taken over, the first bind of each variable. -/
def insL (l : List Bd) (b : Bd) : List Bd := if (lookB l b.var).isSome then l else l ++ [b]
theorem insL_look (l : List Bd) (b : Bd) (v : Int) : lookB (insL l b) v = lookB (l ++ [b]) v := by
  unfold insL
  split
  · rename_i h
    rw [lookB_append]
    simp only [lookB]
    by_cases e : b.var = v
    · subst e
      obtain ⟨t, ht⟩ := Option.isSome_iff_exists.1 h
      rw [ht]; rfl
    · rw [if_neg e]; simp
  · rfl
theorem insL_nod {l : List Bd} (h : nodV l) (b : Bd) : nodV (insL l b) := by
  unfold insL
  split
  · exact h
  · rename_i hn
    exact nodV_snoc h (by simpa using hn)
theorem insL_len (l : List Bd) (b : Bd) : (insL l b).length ≤ l.length + 1 := by
  unfold insL
  split <;> simp
end Go.Wk
/- A list without its elements that are as the one ahead. Plain Lean. -/
namespace Go.Wk
section
variable {α : Type} [DecidableEq α]
def adjL : List α → List α
  | [] => []
  | [x] => [x]
  | x :: y :: l => if x = y then adjL (y :: l) else x :: adjL (y :: l)
theorem adjL_snoc (a b : α) : ∀ l : List α, adjL (l ++ [a, b]) = adjL (l ++ [a]) ++ (if a = b then [] else [b])
  | [] => by
    simp only [List.nil_append, adjL]
    split
    · rename_i h; subst h; simp
    · simp
  | [x] => by
    have ih := adjL_snoc a b []
    simp only [List.nil_append] at ih
    show adjL (x :: a :: [b]) = adjL (x :: a :: []) ++ _
    simp only [adjL] at ih ⊢
    split <;> split <;> simp_all
  | x :: y :: l => by
    have ih := adjL_snoc a b (y :: l)
    show adjL (x :: y :: (l ++ [a, b])) = adjL (x :: y :: (l ++ [a])) ++ _
    simp only [adjL]
    have e1 : adjL (y :: (l ++ [a, b])) = adjL (y :: (l ++ [a])) ++ (if a = b then [] else [b]) := ih
    rw [e1]
    split <;> simp
theorem mem_adjL : ∀ {l : List α} {x : α}, x ∈ adjL l ↔ x ∈ l
  | [], x => Iff.rfl
  | [y], x => Iff.rfl
  | y :: z :: l, x => by
    simp only [adjL]
    have ih := mem_adjL (l := z :: l) (x := x)
    split
    · rename_i h
      subst h
      rw [ih]
      simp
    · rw [List.mem_cons, ih]
      simp
theorem adjL_rise {f : α → α → Int} (hf : T3 f) : ∀ {l : List α}, l.Pairwise (fun a b => f a b ≤ 0) → Rise f (adjL l)
  | [], _ => List.Pairwise.nil
  | [x], _ => by simp [Rise, adjL]
  | x :: y :: l, h => by
    rw [List.pairwise_cons] at h
    simp only [adjL]
    have ih := adjL_rise hf h.2
    split
    · exact ih
    · rename_i hne
      unfold Rise
      rw [List.pairwise_cons]
      refine ⟨fun z hz => ?_, ih⟩
      have hz := mem_adjL.1 hz
      have h1 := h.1 y (List.mem_cons_self ..)
      have h2 : f x y < 0 := by
        rcases Int.lt_or_eq_of_le h1 with h | h
        · exact h
        · exact absurd (hf.eq _ _ h) hne
      rcases List.mem_cons.1 hz with rfl | hz
      · exact h2
      · exact hf.toP3.lt_le h2 ((List.pairwise_cons.1 h.2).1 z hz)
theorem adjL_set {f : α → α → Int} (hf : T3 f) {l xs : List α} (hp : l.Perm xs) (hs : l.Pairwise fun a b => f a b ≤ 0) : adjL l = setU f xs :=
  (setU_eq hf (adjL_rise hf hs) fun x => mem_adjL.trans hp.mem_iff).symm
theorem adjL_take {xs : List α} {k : Nat} {a b : α} (ha : xs[k]? = some a) (hb : xs[k + 1]? = some b) : adjL (xs.take (k + 2)) = adjL (xs.take (k + 1)) ++ (if a = b then [] else [b]) := by
  rw [List.take_add_one, hb, List.take_add_one, ha]
  simp only [Option.toList_some, List.append_assoc]
  exact adjL_snoc a b _
end
end Go.Wk
/- Sizes of a clause without one of its parts. Plain Lean. -/
namespace Go.Wk
theorem numT_sm (vs : List Tm) {t : Tm} (h : t.sm) : (numT vs t).sm := by
  unfold numT
  split
  · simp [varT, Tm.sm, ES, ByteArray.size]
  · exact h
theorem map_smA {f : Tm → Tm} (hf : ∀ t : Tm, t.sm → (f t).sm) {a : At0} (h : a.sm) : (a.map f).sm :=
  ⟨h.1, hf _ h.2.1, fun t ht => by
    obtain ⟨u, hu, rfl⟩ := List.mem_map.1 ht
    exact hf u (h.2.2 u hu)⟩
theorem map_smC {f : Tm → Tm} (hf : ∀ t : Tm, t.sm → (f t).sm) {x : Cl} (h : x.sm) : (x.map f).sm :=
  ⟨map_smA hf h.1, fun a ha => by
    obtain ⟨b, hb, rfl⟩ := List.mem_map.1 ha
    exact map_smA hf (h.2.1 b hb), fun t ht => by
    obtain ⟨u, hu, rfl⟩ := List.mem_map.1 ht
    exact ⟨hf _ (h.2.2 u hu).1, hf _ (h.2.2 u hu).2⟩⟩
theorem without_sm {x : Cl} (h : x.sm) (p : Nat) : (x.without p).sm := by
  unfold Cl.without
  split
  · exact ⟨h.1, fun a ha => h.2.1 a (List.mem_of_mem_eraseIdx ha), h.2.2⟩
  · exact ⟨h.1, h.2.1, fun t ht => h.2.2 t (List.mem_of_mem_eraseIdx ht)⟩
theorem less_sm {x : Cl} (h : x.sm) (p : Nat) : (less x p).sm := map_smC (fun _ ht => numT_sm _ ht) (without_sm h p)
theorem flat_erase {α β : Type} {f : α → List β} : ∀ (l : List α) (p : Nat), ((l.eraseIdx p).flatMap f).length ≤ (l.flatMap f).length
  | [], p => by simp
  | a :: l, 0 => by simp
  | a :: l, p + 1 => by
    have := flat_erase (f := f) l p
    simp only [List.eraseIdx_cons_succ, List.flatMap_cons, List.length_append]
    omega
theorem less_len (x : Cl) (p : Nat) : (less x p).terms.length ≤ x.terms.length := by
  unfold less
  rw [normal_terms, List.length_map]
  unfold Cl.without
  split
  · have := flat_erase (f := At0.terms) x.body p
    simp only [Cl.terms, Cl.bodyTerms, Cl.testTerms, List.length_append] at *
    omega
  · have := flat_erase (f := fun t : Ts => [t.l, t.r]) x.tests (p - x.body.length)
    simp only [Cl.terms, Cl.bodyTerms, Cl.testTerms, List.length_append] at *
    omega
end Go.Wk
/- Examples 1 and 6, reckoned out. Plain Lean. -/
namespace Go.Wk
@[reducible] def nmP : ByteArray := ⟨#[112]⟩
@[reducible] def nmQ : ByteArray := ⟨#[113]⟩
@[reducible] def nmR : ByteArray := ⟨#[114]⟩
@[reducible] def txA : Tm := ⟨2, 0, ⟨#[97]⟩⟩
@[reducible] def vaN (n : Int) : Tm := ⟨3, n, ES⟩
@[reducible] def exC : Cl := ⟨⟨Tn, nmP, [vaN 0]⟩, [⟨Tn, nmQ, [vaN 0]⟩], []⟩
@[reducible] def exD : Cl := ⟨⟨Tn, nmP, [txA]⟩, [⟨Tn, nmQ, [txA]⟩, ⟨Tn, nmR, []⟩], []⟩
@[reducible] def exT : Cl := ⟨⟨Tn, nmP, [vaN 0]⟩, [⟨Tn, nmQ, [vaN 0]⟩, ⟨Tn, nmQ, [vaN 1]⟩], []⟩
theorem ex_cd : subs exC exD = some [txA] := by decide +kernel
theorem ex_dc : subs exD exC = none := by decide +kernel
theorem ex_tc : exT.check = 0 := by decide +kernel
theorem ex_tn : condC exT = exC := by decide +kernel
theorem ex_rd : reduceC [exT, exD, exC] = ([exC], 0) := by decide +kernel
end Go.Wk
/- Valid clauses made out of any. Plain Lean. -/
namespace Go.Wk
@[reducible] def nTm (n : Int) : Tm := ⟨1, n, ES⟩
def constM (t : Tm) : Tm := if t.isConst then t else if t.k = 2 then ⟨2, 0, t.s.extract 0 (min t.s.size 64)⟩ else nTm t.n
def groundM (t : Tm) : Tm := if t.k = 3 then nTm t.n else t
def safeM (l : List Tm) (t : Tm) : Tm := if t ∈ l then t else groundM t
def madeT (t : Tm) : Tm := if t.isVar then t else constM t
def madeOp (n : Int) : Int := if n < 1 ∨ 4 < n then 1 + (n.tmod 4 + 4).tmod 4 else n
def madeTs (l : List Tm) (t : Ts) : Ts := ⟨madeOp t.op, safeM l (madeT t.l), safeM l (madeT t.r)⟩
def madeBy (t : Tm) : Tm := if (⟨t, nmP, []⟩ : At0).check = 0 then t else Tn
def madeNm (s : ByteArray) : ByteArray := if (⟨Tn, s, []⟩ : At0).check = 0 then s else nmP
def madeA (a : At0) : At0 := ⟨madeBy a.by_, madeNm a.name, (a.args.take 8).map madeT⟩
def madeH (l : List Tm) (a : At0) : At0 := ⟨if (madeBy a.by_).k = 3 then Tn else madeBy a.by_, madeNm a.name, ((a.args.take 8).map madeT).map (safeM l)⟩
def madeB (x : Cl) : List At0 := (x.body.take 8).map madeA
def madeR (x : Cl) : Cl := ⟨madeH ((madeB x).flatMap At0.terms) x.head, madeB x, (x.tests.take 8).map (madeTs ((madeB x).flatMap At0.terms))⟩
def madeC (x : Cl) : Cl := (madeR x).normal
end Go.Wk
/- What is made valid is valid. Plain Lean. -/
namespace Go.Wk
/-- As Ok, but for the numbering. -/
structure Cl.OkU (x : Cl) : Prop where
  b8 : x.body.length ≤ 8
  t8 : x.tests.length ≤ 8
  at_ : ∀ a ∈ x.head :: x.body, a.check = 0
  ts : ∀ t ∈ x.tests, t.check = 0
  hd : x.head.by_.k ≠ 3
  safe : ∀ t ∈ x.head.terms ++ x.testTerms, t.isVar = true → t ∈ x.bodyTerms
theorem check_of {a : At0} (h1 : nameB a.name = true) (h2 : a.args.length ≤ 8) (h3 : a.by_ = Tn ∨ a.by_.isPrinc = true ∨ a.by_.isVar = true) (h4 : ∀ t ∈ a.args, t.isConst = true ∨ t.isVar = true) : a.check = 0 := by
  unfold At0.check
  rw [if_neg (by simp [h1]), if_neg (by omega), if_neg (by rcases h3 with h | h | h <;> simp [h]), if_neg]
  intro h
  obtain ⟨t, ht, hc⟩ := List.any_eq_true.1 h
  rcases h4 t ht with h | h <;> simp [h] at hc
theorem tcheck {t : Ts} : t.check = 0 ↔ (1 ≤ t.op ∧ t.op ≤ 4) ∧ (t.l.isConst = true ∨ t.l.isVar = true) ∧ (t.r.isConst = true ∨ t.r.isVar = true) := by
  unfold Ts.check
  split
  · rename_i h
    constructor
    · intro h; cases h
    · rintro ⟨⟨h1, h2⟩, h3, h4⟩
      exfalso
      rcases h with h | h | h | h
      · omega
      · omega
      · rcases h3 with h3 | h3 <;> simp [h3] at h
      · rcases h4 with h4 | h4 <;> simp [h4] at h
  · rename_i h
    simp only [not_or] at h
    refine ⟨fun _ => ⟨⟨by omega, by omega⟩, ?_, ?_⟩, fun _ => rfl⟩
    · have := h.2.2.1; revert this; cases t.l.isConst <;> cases t.l.isVar <;> simp
    · have := h.2.2.2; revert this; cases t.r.isConst <;> cases t.r.isVar <;> simp
theorem const_notVar {t : Tm} (h : t.isConst = true) : t.isVar = false := by
  simp [Tm.isConst, Tm.isVar] at h ⊢
  omega
theorem numT_const {vs : List Tm} {t : Tm} (hv : ∀ u ∈ vs, u.isVar = true) (h : t.isConst = true) : numT vs t = t := numT_fix fun hm => by
  have := hv t hm
  rw [const_notVar h] at this
  cases this
theorem vars_var (ts : List Tm) : ∀ u ∈ varsOf ts, u.isVar = true := fun u hu => (mem_varsOf.1 hu).2
theorem numT_cv {ts : List Tm} {t : Tm} (ht : t ∈ ts) (h : t.isConst = true ∨ t.isVar = true) : (numT (varsOf ts) t).isConst = true ∨ (numT (varsOf ts) t).isVar = true := by
  rcases h with h | h
  · exact .inl (by rw [numT_const (vars_var ts) h]; exact h)
  · obtain ⟨j, e, _⟩ := numT_var (mem_varsOf.2 ⟨ht, h⟩)
    exact .inr (by rw [e]; exact varT_isVar j)
theorem notVar_fix {ts : List Tm} {t : Tm} (h : t.isVar = false) : numT (varsOf ts) t = t := numT_fix fun hm => by
  rw [vars_var ts t hm] at h
  cases h
theorem Cl.OkU.normal {x : Cl} (h : x.OkU) : x.normal.Ok := by
  have hr := num_ren x.terms
  have hat : ∀ a ∈ x.head :: x.body, (a.map (numT (varsOf x.terms))).check = 0 := fun a ha => by
    obtain ⟨h1, h2, h3, h4⟩ := check_parts (h.at_ a ha)
    have hin : ∀ t ∈ a.terms, t ∈ x.terms := fun t ht => by
      rcases List.mem_cons.1 ha with rfl | ha
      · exact Cl.mem_terms_head ht
      · exact Cl.mem_terms_body (Cl.mem_body ha ht)
    refine check_of h1 (by simpa [At0.map] using h2) ?_ fun t ht => ?_
    · show numT _ a.by_ = Tn ∨ (numT _ a.by_).isPrinc = true ∨ (numT _ a.by_).isVar = true
      cases hv : a.by_.isVar with
      | false =>
        rw [notVar_fix hv]
        rcases h3 with h3 | h3 | h3
        · exact .inl h3
        · exact .inr (.inl h3)
        · rw [hv] at h3; cases h3
      | true => exact .inr (.inr (by rw [hr.isVar (hin _ (by simp [At0.terms]))]; exact hv))
    · obtain ⟨u, hu, rfl⟩ := List.mem_map.1 ht
      exact numT_cv (hin u (by simp [At0.terms, hu])) (h4 u hu)
  refine ⟨by simpa [Cl.normal, Cl.map] using h.b8, by simpa [Cl.normal, Cl.map] using h.t8, fun a ha => ?_, fun t ht => ?_, ?_, fun t ht hv => ?_, fun j t hj => ?_⟩
  · rcases List.mem_cons.1 ha with rfl | ha
    · exact hat _ (.head _)
    · obtain ⟨b, hb, rfl⟩ := List.mem_map.1 ha
      exact hat b (.tail _ hb)
  · obtain ⟨u, hu, rfl⟩ := List.mem_map.1 ht
    obtain ⟨h1, h2, h3⟩ := tcheck.1 (h.ts u hu)
    have hl : u.l ∈ x.terms := Cl.mem_terms_test (List.mem_flatMap.2 ⟨u, hu, by simp⟩)
    have hr : u.r ∈ x.terms := Cl.mem_terms_test (List.mem_flatMap.2 ⟨u, hu, by simp⟩)
    exact tcheck.2 ⟨h1, numT_cv hl h2, numT_cv hr h3⟩
  · show (numT _ x.head.by_).k ≠ 3
    have hv : x.head.by_.isVar = false := by
      cases hv : x.head.by_.isVar with
      | false => rfl
      | true => exact absurd (by simp [Tm.isVar] at hv; exact hv.1) h.hd
    rw [notVar_fix hv]
    exact h.hd
  · have e : x.normal.head.terms ++ x.normal.testTerms = (x.head.terms ++ x.testTerms).map (numT (varsOf x.terms)) := by
      rw [List.map_append]
      exact congr (congrArg _ (by simp [Cl.normal, Cl.map, At0.map, At0.terms])) (Cl.map_testTerms _ x)
    rw [e] at ht
    obtain ⟨u, hu, rfl⟩ := List.mem_map.1 ht
    have hux : u ∈ x.terms := by
      rcases List.mem_append.1 hu with hu | hu
      · exact Cl.mem_terms_head hu
      · exact Cl.mem_terms_test hu
    rw [hr.isVar hux] at hv
    have := h.safe u hu hv
    show _ ∈ (x.map (numT (varsOf x.terms))).bodyTerms
    rw [Cl.map_bodyTerms]
    exact List.mem_map_of_mem this
  · rw [normal_num x j t hj]
    rfl
theorem constM_const (t : Tm) : (constM t).isConst = true := by
  unfold constM
  split
  · assumption
  · split
    · have : (t.s.extract 0 (min t.s.size 64)).size ≤ 64 := by simp; omega
      simp [Tm.isConst]
      omega
    · simp [Tm.isConst]
theorem madeT_cv (t : Tm) : (madeT t).isConst = true ∨ (madeT t).isVar = true := by
  unfold madeT
  split
  · right; assumption
  · left; exact constM_const t
theorem safeM_cv {l : List Tm} {t : Tm} (h : t.isConst = true ∨ t.isVar = true) : (safeM l t).isConst = true ∨ (safeM l t).isVar = true := by
  unfold safeM
  split
  · exact h
  · unfold groundM
    split
    · left; simp [Tm.isConst]
    · exact h
theorem safeM_var {l : List Tm} {t : Tm} (h : (safeM l t).isVar = true) : safeM l t ∈ l := by
  unfold safeM at h ⊢
  split at h
  · rename_i hm
    rw [if_pos hm]; exact hm
  · unfold groundM at h
    split at h
    · simp [Tm.isVar] at h
    · rename_i hk
      simp [Tm.isVar] at h
      omega
theorem nmP_ok : nameB nmP = true := by decide +kernel
theorem madeBy_ok (t : Tm) : madeBy t = Tn ∨ (madeBy t).isPrinc = true ∨ (madeBy t).isVar = true := by
  unfold madeBy
  split
  · rename_i h
    exact (check_parts h).2.2.1
  · exact .inl rfl
theorem madeNm_ok (s : ByteArray) : nameB (madeNm s) = true := by
  unfold madeNm
  split
  · rename_i h
    exact (check_parts h).1
  · exact nmP_ok
theorem madeA_ok (a : At0) : (madeA a).check = 0 := check_of (madeNm_ok _) (by simp [madeA]; omega) (madeBy_ok _) fun t ht => by
  obtain ⟨u, _, rfl⟩ := List.mem_map.1 ht
  exact madeT_cv u
theorem madeH_ok (l : List Tm) (a : At0) : (madeH l a).check = 0 := check_of (madeNm_ok _) (by simp [madeH]; omega) (by
    show (if (madeBy a.by_).k = 3 then Tn else madeBy a.by_) = Tn ∨ (if (madeBy a.by_).k = 3 then Tn else madeBy a.by_).isPrinc = true ∨ (if (madeBy a.by_).k = 3 then Tn else madeBy a.by_).isVar = true
    split
    · exact .inl rfl
    · exact madeBy_ok _) fun t ht => by
  obtain ⟨u, hu, rfl⟩ := List.mem_map.1 ht
  obtain ⟨w, _, rfl⟩ := List.mem_map.1 hu
  exact safeM_cv (madeT_cv w)
theorem madeOp_ok (n : Int) : 1 ≤ madeOp n ∧ madeOp n ≤ 4 := by
  unfold madeOp
  split
  · have h1 : -4 < n.tmod 4 ∧ n.tmod 4 < 4 := by
      rw [Int.tmod_eq_emod]
      split <;> omega
    have h2 : (n.tmod 4 + 4).tmod 4 = (n.tmod 4 + 4) % 4 := Int.tmod_eq_emod_of_nonneg (by omega)
    omega
  · omega
theorem madeR_ok (x : Cl) : (madeR x).OkU := by
  refine ⟨by simp [madeR, madeB]; omega, by simp [madeR]; omega, fun a ha => ?_, fun t ht => ?_, ?_, fun t ht hv => ?_⟩
  · rcases List.mem_cons.1 ha with rfl | ha
    · exact madeH_ok _ _
    · obtain ⟨b, _, rfl⟩ := List.mem_map.1 ha
      exact madeA_ok b
  · obtain ⟨u, _, rfl⟩ := List.mem_map.1 ht
    exact tcheck.2 ⟨madeOp_ok _, safeM_cv (madeT_cv _), safeM_cv (madeT_cv _)⟩
  · show (if (madeBy x.head.by_).k = 3 then Tn else madeBy x.head.by_).k ≠ 3
    split
    · simp
    · assumption
  · show t ∈ (madeB x).flatMap At0.terms
    rcases List.mem_append.1 ht with ht | ht
    · rcases List.mem_cons.1 ht with rfl | ht
      · exfalso
        revert hv
        show (if (madeBy x.head.by_).k = 3 then Tn else madeBy x.head.by_).isVar = true → False
        split
        · simp [Tm.isVar]
        · simp [Tm.isVar]; omega
      · obtain ⟨u, _, rfl⟩ := List.mem_map.1 ht
        exact safeM_var hv
    · obtain ⟨u, hu, ht⟩ := List.mem_flatMap.1 ht
      obtain ⟨w, _, rfl⟩ := List.mem_map.1 hu
      simp only [List.mem_cons, List.not_mem_nil, or_false] at ht
      rcases ht with rfl | rfl
      · exact safeM_var hv
      · exact safeM_var hv
/-- What is made is valid. -/
theorem madeC_ok (x : Cl) : (madeC x).Ok := (madeR_ok x).normal
end Go.Wk
/- Reduced clauses, as their statement asks for them. Plain Lean. -/
namespace Go.Wk
theorem firstBad_ok {l : List Cl} (h : ∀ x ∈ l, x.Ok) : firstBad l = 0 := orI_zero.2 fun x hx => by
  obtain ⟨y, hy, rfl⟩ := List.mem_map.1 hx
  exact Cl.check_ok.2 (h y hy)
theorem rise_sub {α : Type} {f : α → α → Int} {l l' : List α} (h : l'.Sublist l) (hr : Rise f l) : Rise f l' := List.Pairwise.sublist h hr
theorem rise_set {α : Type} {f : α → α → Int} (hf : T3 f) {l : List α} (hr : Rise f l) : setU f l = l := setU_eq hf hr fun _ => Iff.rfl
structure RedC (cs l : List Cl) : Prop where
  e : reduceC cs = (l, 0)
  ok : ∀ x ∈ l, x.Ok
  again : reduceC l = (l, 0)
  rise : ∀ (i : Nat) a b, l[i]? = some a → l[i + 1]? = some b → cmpCl a b < 0
  own : ∀ (k i : Nat) a b, l[k]? = some a → l[i]? = some b → (subs a b).isSome = decide (k = i)
  cov : ∀ x ∈ cs, l.any (fun y => (subs y x).isSome) = true
  from_ : ∀ y ∈ l, y ∈ cs
  len : l.length ≤ cs.length
theorem redC_of {cs : List Cl} (h : ∀ x ∈ cs, x.Ok) : RedC cs (reduceGo (setU cmpCl cs) (setU cmpCl cs).length) := by
  have hs : ∀ x ∈ setU cmpCl cs, x.Ok := fun x hx => h x ((mem_setU cmpCl_t3).1 hx)
  have hsub := reduceGo_sub (setU cmpCl cs) (setU cmpCl cs).length
  have hmin := reduceGo_min (setU cmpCl cs).length (setU cmpCl cs) (Nat.le_refl _) (fun j h1 h2 => absurd h2 (by omega))
  have hcov := reduceGo_cov (setU cmpCl cs).length (setU cmpCl cs) (Nat.le_refl _)
  have hrise : Rise cmpCl (reduceGo (setU cmpCl cs) (setU cmpCl cs).length) := rise_sub hsub (setU_rise cmpCl_t3.toP3 cs)
  have e : reduceC cs = (reduceGo (setU cmpCl cs) (setU cmpCl cs).length, 0) := by
    unfold reduceC
    rw [if_neg (by rw [firstBad_ok hs]; simp)]
  have hmem : ∀ y ∈ reduceGo (setU cmpCl cs) (setU cmpCl cs).length, y ∈ cs := fun y hy => (mem_setU cmpCl_t3).1 (hsub.subset hy)
  have hlen : (reduceGo (setU cmpCl cs) (setU cmpCl cs).length).length ≤ cs.length := Nat.le_trans hsub.length_le (setU_length _)
  generalize reduceGo (setU cmpCl cs) (setU cmpCl cs).length = l at *
  refine ⟨e, fun x hx => h x (hmem x hx), ?_, fun i a b ha hb => ?_, fun k i a b ha hb => ?_, fun x hx => ?_, hmem, hlen⟩
  · unfold reduceC
    rw [rise_set cmpCl_t3 hrise, if_neg (by rw [firstBad_ok fun x hx => h x (hmem x hx)]; simp)]
    rw [reduceGo_stay l.length l (Nat.le_refl _) hmin]
  · obtain ⟨h1, rfl⟩ := List.getElem?_eq_some_iff.1 ha
    obtain ⟨h2, rfl⟩ := List.getElem?_eq_some_iff.1 hb
    exact List.pairwise_iff_getElem.1 hrise i (i + 1) h1 h2 (by omega)
  · by_cases hk : k = i
    · subst hk
      rw [ha] at hb
      cases hb
      rw [decide_eq_true rfl, subs_iff]
      exact SubC.refl (h a (hmem a (List.mem_of_getElem? ha)))
    · rw [decide_eq_false hk, ← Bool.not_eq_true, subs_iff]
      exact hmin i k a b hk ha hb
  · obtain ⟨y, hy, hyx⟩ := hcov x ((mem_setU cmpCl_t3).2 hx) (h x hx)
    exact List.any_eq_true.2 ⟨y, hy, subs_iff.2 hyx⟩
end Go.Wk
/- The least values, where all lists are tried in order. Plain Lean. -/
namespace Go.Wk
/-! ### the terms that stand in a clause, in order -/
def addT (acc : List Tm) (t : Tm) : List Tm := if t.k = 0 then acc else insU cmpTm t acc
def termsD (d : Cl) : List Tm := ((d.head :: d.body).flatMap At0.terms).foldl addT []
/-! ### lists of terms, numbered in order -/
def tryOf (l : List Tm) : Nat → Nat → List Tm
  | 0, _ => []
  | n + 1, i => (l[i / l.length ^ n]?).getD Tn :: tryOf l n (i % l.length ^ n)
end Go.Wk
/- The first of all lists that does is the least one. Plain Lean. -/
namespace Go.Wk
theorem full_k {c d : Cl} (hc : c.Ok) (hd : d.Ok) {w : List Tm} (h : Full c d w) : ∀ t ∈ w, t ∈ d.bodyTerms ∧ t.k ≠ 0 := by
  intro t ht
  obtain ⟨i, hi, e⟩ := List.mem_iff_getElem.1 ht
  have hm : t ∈ bodyVals d := h.mem hc (i := i) (by rw [List.getElem?_eq_getElem hi, e])
  rw [bodyVals, mem_setU cmpTm_t3] at hm
  refine ⟨hm, ?_⟩
  obtain ⟨x, hx, hv, hn⟩ := hc.var (by rw [← h.len]; exact hi)
  obtain ⟨a, ha, hx⟩ := List.mem_flatMap.1 hx
  obtain ⟨b, hb, hm⟩ := h.body a ha
  have hxt : subT (asg w) x = t := by
    unfold subT asg
    rw [if_pos hv, hn]
    simp [hi, e]
  have hmap := hm.1
  rcases List.mem_cons.1 hx with hxb | hx
  · have e2 : b.by_ = t := by rw [← hmap, ← hxt, hxb]; rfl
    intro h0
    exact hm.2 ⟨by rw [← hxb]; exact hv, by rw [e2]; exact h0⟩
  · have hin : t ∈ b.args := by
      rw [← hmap, ← hxt]
      exact List.mem_map.2 ⟨x, hx, rfl⟩
    obtain ⟨_, _, _, h4⟩ := check_parts (hd.at_ b (.tail _ hb))
    intro h0
    rcases h4 t hin with h | h
    · simp [Tm.isConst] at h; omega
    · simp [Tm.isVar] at h; omega
theorem subs_part {c d : Cl} {v : List Tm} (h : subs c d = some v) : partB c d v = true ∧ v.length = c.nv := by
  have hs : SubC c d := subs_iff.1 (by rw [h]; rfl)
  have ha := subsR_ans hs.1 hs.2.1
  rw [show subsR c d = some v from h] at ha
  exact ⟨ha.1.part hs.1, ha.1.len⟩
end Go.Wk
