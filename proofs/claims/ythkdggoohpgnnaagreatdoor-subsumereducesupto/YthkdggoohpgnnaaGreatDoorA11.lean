/- a part of the proof: lemmas on walks, on plain data, contracts of functions. -/
import Derived.Laws.Small
import Derived.Test.YthkdggoohpgnnaaGreatDoorRows
import Derived.Deep.Slices
import Derived.WalkKit
import Derived.ProofKit
import Derived.OpenShut
import Derived.LaidMore
import Derived.Carry
import Derived.Deep.DeepHandedRow
import Derived.Test.YthkdggoohpgnnaaGreatDoorA2
import Derived.Test.YthkdggoohpgnnaaGreatDoorA4
import Derived.Test.YthkdggoohpgnnaaGreatDoorA8
import Derived.Test.YthkdggoohpgnnaaGreatDoorA9
import Derived.Test.YthkdggoohpgnnaaGreatDoorA10
/- Contracts: what is lent, and whether it was kept: terms, atoms. -/
namespace Go.Wk
open Go Go.RowKit
@[reducible] def bNm : ByteArray := ⟨#[98, 101, 104, 105, 110, 100]⟩
@[reducible] def bTm : Tm := ⟨901, 902, bNm⟩
@[reducible] def bTs : Ts := ⟨903, Tn, Tn⟩
structure LA where
  a : At0
  b : Bool
structure LC where
  x : Cl
  b : Bool
@[reducible] def bA : LA := ⟨⟨Tn, bNm, []⟩, false⟩
@[reducible] def bC : LC := ⟨⟨⟨Tn, bNm, []⟩, [], []⟩, false⟩
instance : Mark Tm := ⟨bTm⟩
instance : Mark Ts := ⟨bTs⟩
instance : Mark LA := ⟨bA⟩
instance : Mark LC := ⟨bC⟩
@[reducible] def LA.by_ (x : LA) : Tm := x.a.by_
@[reducible] def LA.name (x : LA) : ByteArray := x.a.name
@[reducible] def LA.args (x : LA) : LL Tm := ⟨x.a.args, x.b⟩
@[reducible] def LC.head (x : LC) : LA := ⟨x.x.head, x.b⟩
@[reducible] def LC.body (x : LC) : LL LA := ⟨x.x.body.map fun a => ⟨a, x.b⟩, x.b⟩
@[reducible] def LC.tests (x : LC) : LL Ts := ⟨x.x.tests, x.b⟩
instance : Enc LA where
  k := 5
  Ok cs x c := ∃ v, cs = x.a.cs v ∧ LSl x.args v c
  mono cs x := ⟨fun h ⟨v, h1, h2⟩ => ⟨v, h1, Mono.mono h h2⟩⟩
  len cs x c h := by obtain ⟨v, rfl, _⟩ := h; rfl
  one cs x c h u hu := by
    obtain ⟨v, rfl, h2⟩ := h
    simp at hu
    rcases hu with rfl | rfl | rfl | rfl | rfl <;> first | rfl | exact h2.sl.one
  pos := by omega
theorem LA.ok {cs : List Value} {x : LA} {c : Cx} (h : Enc.Ok cs x c) : Enc.Ok cs x.a c := by
  obtain ⟨v, e, h⟩ := h
  exact ⟨v, e, h.sl⟩
theorem Ag.la {x : LA} {u : Value} {c : Cx} (h : Ag x u c) : Ag x.a u c := by
  obtain ⟨cs, e, h⟩ := h
  exact ⟨cs, e, LA.ok h⟩
/-- What the lists of a clause that was lent read as. -/
def LCAt (x : LC) (v v1 v2 : Value) (c : Cx) : Prop := LSl x.head.args v c ∧ LSl x.body v1 c ∧ LSl x.tests v2 c
instance (x : LC) (v v1 v2 : Value) : Mono (LCAt x v v1 v2) := ⟨fun h k => ⟨Mono.mono h k.1, Mono.mono h k.2.1, Mono.mono h k.2.2⟩⟩
theorem LSl.body {x : LC} {v : Value} {c : Cx} (h : LSl x.body v c) : Sl v x.x.body c := Sl.conv (g := fun a => (⟨a, x.b⟩ : LA)) rfl (fun cs a h => LA.ok (x := ⟨a, x.b⟩) h) h.sl
theorem LCAt.cl {x : LC} {v v1 v2 : Value} {c : Cx} (h : LCAt x v v1 v2 c) : ClAt x.x v v1 v2 c := ⟨h.1.sl, h.2.1.body, h.2.2.sl⟩
instance : Enc LC where
  k := 7
  Ok cs x c := ∃ v v1 v2, cs = x.x.cs v v1 v2 ∧ LCAt x v v1 v2 c
  mono cs x := ⟨fun h ⟨v, v1, v2, h1, h2⟩ => ⟨v, v1, v2, h1, Mono.mono h h2⟩⟩
  len cs x c h := by obtain ⟨v, v1, v2, rfl, _⟩ := h; rfl
  one cs x c h u hu := by
    obtain ⟨v, v1, v2, rfl, h2⟩ := h
    have h2 := h2.cl
    simp at hu
    rcases hu with rfl | rfl | rfl | rfl | rfl | rfl | rfl <;> first | rfl | exact h2.1.one | exact h2.2.1.one | exact h2.2.2.one
  pos := by omega
theorem LC.ok {cs : List Value} {x : LC} {c : Cx} (h : Enc.Ok cs x c) : Enc.Ok cs x.x c := by
  obtain ⟨v, v1, v2, e, h⟩ := h
  exact ⟨v, v1, v2, e, h.cl⟩
theorem Ag.lc {x : LC} {u : Value} {c : Cx} (h : Ag x u c) : Ag x.x u c := by
  obtain ⟨cs, e, h⟩ := h
  exact ⟨cs, e, LC.ok h⟩
theorem SlB.lc {xs : List Cl} {y : LC} {v : Value} {c : Cx} (h : SlB (xs.map fun x => (⟨x, true⟩ : LC)) y v c) : Sl v xs c := Sl.conv (g := fun x => (⟨x, true⟩ : LC)) rfl (fun cs a h => LC.ok (x := ⟨a, true⟩) h) h.sl
instance : Part LA 0 Tm LA.by_ := ⟨fun h => h.part 0 fun cs ⟨v, e, k⟩ => by cases e; rfl⟩
instance : Part LA 3 ByteArray LA.name := ⟨fun h => h.part 3 fun cs ⟨v, e, k⟩ => by cases e; rfl⟩
instance : Part LA 4 (LL Tm) LA.args := ⟨fun h => h.part 4 fun cs ⟨v, e, k⟩ => by cases e; exact ⟨v, rfl, k⟩⟩
instance : Part LC 0 LA LC.head := ⟨fun h => h.part 0 fun cs ⟨v, v1, v2, e, k⟩ => by cases e; exact ⟨v, rfl, k.1⟩⟩
instance : Part LC 5 (LL LA) LC.body := ⟨fun h => h.part 5 fun cs ⟨v, v1, v2, e, k⟩ => by cases e; exact ⟨v1, rfl, k.2.1⟩⟩
instance : Part LC 6 (LL Ts) LC.tests := ⟨fun h => h.part 6 fun cs ⟨v, v1, v2, e, k⟩ => by cases e; exact ⟨v2, rfl, k.2.2⟩⟩
end Go.Wk
namespace Go.Proofs.YthkdggoohpgnnaaGreatDoor
open Go Go.Wk
/-- What the variables of what lends hold. -/
structure LendOk (c : Cx) : Prop where
  tm : Box 2 bTm.cs c
  ts : Box 0 bTs.cs c
instance : Mono LendOk := ⟨fun h k => ⟨Mono.mono h k.tm, Mono.mono h k.ts⟩⟩
theorem ref03_LendTerms (xs : List Tm) (v : Value) (c : Cx) (h : Sl v xs c) (hl : xs.length + 1 < 1099511627776) (hg : LendOk c) : Cn Tryz.prog 95 [v] c (fun r c => SlB xs bTm r c) := by
  refine Cn.of Tryz.func95 Tryz.ntmps95 rfl rfl fun hm H HA => ?_
  have HA := (HA.add h).add hg.tm
  (apply wc_seq; apply wc_region; refine Z2 ?_; apply w_nil; apply wx_next; apply wc_seq; apply wc_region; refine Z2 ?_; apply w_nil; apply wx_next; apply wc_seq; apply wc_region; refine Z0 ?_; refine Z0 ?_)
  (have H := H.nilR Tm  23 3; have HA := HA.add (Vals.nil (α := Tm) _))
  (refine Z59 fun vx c valsx H HA => ?_; refine Z2 ?_; apply w_nil; apply wx_next; apply wc_seq; apply wc_region; refine Z0 ?_; refine Z7 ?_)
  (apply s_bs1D (u := bTm); exact rfl; exact rfl; exact rfl; exact rfl; exact rfl; exact rfl; exact H; exact HA; exact inferInstance; intro vx c H HA)
  (refine Z59 fun vx c valsx H HA => ?_; refine Z2 ?_; apply w_nil; apply wx_next; apply wc_seq; apply wc_region; refine Z0 ?_; refine Z0 ?_; refine Z45 ?_)
  (refine w_freezeRow H HA Lk rfl rfl Lt ?_; intro c H HA)
  (refine s_slB (xs := xs) (y := bTm) rfl rfl (.inr ⟨rfl, rfl⟩) (.inl rfl) Lk ?_; intro vx hx; have HA := HA.add hx; clear hx)
  (refine Z2 ?_; apply w_nil; apply wx_next; apply wc_ret)
  exact ret_fn H hm (outs1 Tryz.results95 Wh) Lk
theorem ref03_KeptTerms (xs : List Tm) (v1 v2 : Value) (c : Cx) (h1 : SlB xs bTm v1 c) (h2 : Sl v2 xs c) (hg : LendOk c) : Cn Tryz.prog 110 [v1, v2] c (fun r _ => r = .bool true) := by
  refine Cn.of Tryz.func110 Tryz.ntmps110 rfl rfl fun hm H HA => ?_
  have HA := (((HA.add h1).add h1.sl).add h2).add hg.tm
  have hlim := h2.lim
  (apply wc_seq; apply wc_region; refine Z2 ?_; apply w_nil; apply wx_next; apply wc_seq; apply wc_seq; apply wc_region; refine Z0 ?_; refine Z0 ?_)
  (refine s_call rfl rfl H HA (ref03_SameTerms xs xs _ _ _ Lk Lk) ?_; intro vx c H HP; have hvx := HP.h.1; have HA := HP.cut; subst hvx)
  rw [decide_eq_true rfl]
  (refine Z33 ?_; apply w_nil; apply wx_next; refine Z19 ?_; apply wc_skip; apply wx_next; apply wc_seq; apply wc_region; refine Z0 ?_; refine Z0 ?_; refine Z45 ?_; refine Z46 ?_)
  (refine s_slX (xs := xs) (y := bTm) rfl rfl (.inr ⟨rfl, rfl⟩) (.inl rfl) Lk ?_; intro vx hx; have HA := HA.add hx; clear hx)
  (refine Z2 ?_; apply w_nil; apply wx_next; apply wc_seq)
  have hq : (xs ++ [bTm])[xs.length]? = some bTm := by simp
  ((refine dw_start H HA ?_); (repeat (refine Dc ?_)); (refine dw_done mixed H HA rfl (by kernel_rfl) ?_; clear H HA; intro c H HA; (repeat (first | (intro vx hx; have hx2 : vx = _ := hx; clear hx; subst hx2) | (intro vx hx; have HA := HA.addSF hx; clear hx) | (intro vx hx; have HA := HA.add hx; clear hx) | intro vx)); change W _ _ _ _ _ _ _))
  rw [decide_eq_true rfl]
  (apply w_nil; apply wx_next; apply wc_ret)
  exact ret_fn H hm (outs1 Tryz.results110 Wh) rfl
theorem ref03_LendAtom (a : At0) (u : Value) (c : Cx) (h : Ag a u c) (hl : a.args.length + 1 < 1099511627776) (hg : LendOk c) : Cn Tryz.prog 45 [u] c (fun r c => Ag (⟨a, true⟩ : LA) r c) := by
  refine Cn.of Tryz.func45 Tryz.ntmps45 rfl rfl fun hm H HA => ?_
  have HA := (HA.add h).add hg
  (apply wc_seq; apply wc_region)
  (refine s_boxG rfl rfl Lk H HA ?_; intro p c H HA)
  (refine Z61 fun bx c H HA => ?_; apply w_nil; apply wx_next; apply wc_seq)
  (refine dw_start H HA ?_)
  (repeat (refine Dc ?_))
  (apply dw_cons; (focus ((intro B _ Lx c H HA; (repeat (first | (intro vx hx; have hx2 : vx = _ := hx; clear hx; subst hx2) | (intro vx hx; have HA := HA.addSF hx; clear hx) | (intro vx hx; have HA := HA.add hx; clear hx) | intro vx)); change W _ _ _ _ _ _ _); refine s_call rfl rfl H HA (ref03_LendTerms a.args _ _ Lk hl Lk) ?_; intro vx c H HP; exact w_nil (pq_rel H (Cp) HP.h.1))); exact inferInstance)
  (refine dw_done mixed H HA rfl (by kernel_rfl) ?_; clear H HA; intro c H HA; (repeat (first | (intro vx hx; have hx2 : vx = _ := hx; clear hx; subst hx2) | (intro vx hx; have HA := HA.addSF hx; clear hx) | (intro vx hx; have HA := HA.add hx; clear hx) | intro vx)); change W _ _ _ _ _ _ _)
  have HA := HA.add (SlB.sl (Lk : SlB a.args bTm vx c))
  (refine Z54 ?_; refine Z74 fun c H HA => ?_; apply w_nil; apply wx_next; apply wc_ret)
  exact ret_fn H hm (outsR1 Tryz.results45 (RV.agg rfl H Ow Rc)) ⟨_, rfl, vx, rfl, Lk⟩
theorem ref03_KeptAtom (a : At0) (u1 u2 : Value) (c : Cx) (h1 : Ag (⟨a, true⟩ : LA) u1 c) (h2 : Ag a u2 c) (hg : LendOk c) : Cn Tryz.prog 51 [u1, u2] c (fun r _ => r = .bool true) := by
  refine Cn.of Tryz.func51 Tryz.ntmps51 rfl rfl fun hm H HA => ?_
  have HA := ((HA.add h1).add h2).add hg
  have e1 : a.by_ = a.by_ := rfl
  have e2 : a.name = a.name := rfl
  (apply wc_seq; apply wc_region; refine Z40 fun vx c H HA => ?_; refine Z40 fun vx c H HA => ?_; refine Z2 ?_; apply w_nil; apply wx_next; apply wc_seq; apply wc_region; refine Z35 HA fun vx HA => ?_; refine Z38 ?_; refine Z35 HA fun vx HA => ?_; refine Z38 ?_; refine Z88 ?_; refine Z0 ?_; refine Z4 ?_; refine Z35 HA fun vx HA => ?_; refine Z4 ?_; refine Z36 ?_; refine Z4 ?_; refine Z35 HA fun vx HA => ?_; refine Z4 ?_; refine Z36 ?_; refine Z4 ?_; refine Z86 ?_; refine Z8 ?_; refine Z0 ?_; refine Z4 ?_; refine Z35 HA fun vx HA => ?_; refine Z4 ?_; refine Z37 HA fun vx HA => ?_; refine Z4 ?_; refine Z35 HA fun vx HA => ?_; refine Z4 ?_; refine Z37 HA fun vx HA => ?_; refine Z4 ?_)
  (refine s_call rfl rfl H HA (ref03_KeptTerms a.args _ _ _ Lk Lk Lk) ?_; intro vx c H HP; have hvx := HP.h.1; have HA := HP.cut; subst hvx)
  (refine Z8 ?_; refine Z2 ?_; apply w_nil; apply wx_next; apply wc_ret)
  exact ret_fn H hm (outs1 Tryz.results51 Wh) rfl
theorem ref03_LendAtoms (xs : List At0) (v : Value) (c : Cx) (h : Sl v xs c) (hl : xs.length + 1 < 1099511627776) (hx : ∀ a ∈ xs, a.args.length + 1 < 1099511627776) (hg : LendOk c) : Cn Tryz.prog 46 [v] c (fun r c => SlB (xs.map fun a => (⟨a, true⟩ : LA)) bA r c) := by
  refine Cn.of Tryz.func46 Tryz.ntmps46 rfl rfl fun hm H HA => ?_
  have HA := (HA.add h).add hg
  (apply wc_seq; apply wc_region; refine Z2 ?_; apply w_nil; apply wx_next; apply wc_seq; apply wc_region; refine Z2 ?_; apply w_nil; apply wx_next; apply wc_seq; apply wc_seq; apply wc_region; refine Z2 ?_; apply w_nil; apply wx_next; apply wc_block)
  (have H := H.nilR LA  26 5; have HA := HA.add (Vals.nil (α := LA) _))
  refine wc_loopR (α := LA) xs.length (fun k v' => [(0, v), (2, .slice none 0 0), (3, v'), (4, .int .i64 k)]) (fun k acc => acc = (xs.take k).map fun a => (⟨a, true⟩ : LA)) 0 [] H Lk Cu Ks (Nat.zero_le _) rfl ?_
  intro k acc v' vals g c hk hp H HA
  have hal : acc.length = k := by rw [hp]; simp; omega
  (focus (apply wc_seq; apply wc_seq; apply wc_region; refine Z0 ?_; refine Z0 ?_; refine Z45 ?_; refine Z93 (fun hq => ?_) fun hq => ?_; apply w_nil; apply wx_next; refine Z18 ?_; apply wc_skip; apply wx_next; apply wc_seq; apply wc_block; apply wc_region; refine Z0 ?_; refine Z0 ?_; refine Z0 ?_; rotate_left; apply w_nil; apply wx_next; refine Z19 ?_; apply wc_exit; apply wx_exit_then; apply wx_exit_then; apply wx_exit_same; apply wx_next; apply wc_seq; apply wc_region; refine Z0 ?_; refine Z54 ?_; refine Z57 fun bx c H HA => ?_; rotate_left))
  · obtain ⟨a, ha⟩ := getq (xs := xs) (k := k) (by omega)
    (refine Z34 HA fun vx HA => ?_; refine Z39 HA fun vx HA => ?_)
    (refine s_call rfl rfl H HA (ref03_LendAtom a _ _ Lk (hx a (List.mem_of_getElem? ha)) Lk) ?_; intro vx c H HA)
    (refine Z55 fun vx c H HA => ?_; refine Z59 fun vx c valsx H HA => ?_; refine Z2 ?_; apply w_nil; apply wx_norm_block; apply wx_next; apply wc_region; refine Z0 ?_; refine Z46 ?_; refine Z2 ?_; apply w_nil)
    exact wx_loopR (k + 1) H Lk Cu Ks (by omega) (by rw [hp, List.take_add_one, ha]; simp)
  · have hp : acc = xs.map fun a => (⟨a, true⟩ : LA) := by rw [hp, List.take_of_length_le (by omega)]
    subst hp
    have hk : k = xs.length := by omega
    have HA := HA.add (Sl.of_box (Lk : Box bx _ c) (show Enc.Ok (α := LA) (At0.cs ⟨Tn, bNm, []⟩ (.slice none 0 0)) bA c from ⟨_, rfl, Sl.nil c⟩))
    (refine Z59 fun vx c valsx H HA => ?_; refine Z2 ?_; apply w_nil; apply wx_next; apply wc_seq; apply wc_region; refine Z0 ?_; refine Z0 ?_; refine Z45 ?_)
    (refine w_freezeRow H HA Lk rfl rfl Lt ?_; intro c H HA)
    (refine s_slB (xs := xs.map fun a => (⟨a, true⟩ : LA)) (y := bA) rfl rfl (.inr ⟨rfl, rfl⟩) (.inl (by rw [List.length_map]; rfl)) Lk ?_; intro vx hx; have HA := HA.add hx; clear hx)
    (refine Z2 ?_; apply w_nil; apply wx_next; apply wc_ret)
    exact ret_fn H hm (outs1 Tryz.results46 Wh) Lk
theorem ref03_KeptAtoms (xs : List At0) (v1 v2 : Value) (c : Cx) (h1 : SlB (xs.map fun a => (⟨a, true⟩ : LA)) bA v1 c) (h2 : Sl v2 xs c) (hg : LendOk c) : Cn Tryz.prog 52 [v1, v2] c (fun r _ => r = .bool true) := by
  refine Cn.of Tryz.func52 Tryz.ntmps52 rfl rfl fun hm H HA => ?_
  have HA := (((HA.add hg).add h1).add h1.sl).add h2
  have hlim := h2.lim
  have e0 : ((xs.map fun a => (⟨a, true⟩ : LA)).length : Int) = xs.length := by simp
  (apply wc_seq; apply wc_region; refine Z2 ?_; apply w_nil; apply wx_next; apply wc_seq; apply wc_seq; apply wc_region; refine Z0 ?_; refine Z45 ?_; refine Z0 ?_; refine Z45 ?_; refine Z82 ?_; apply w_nil; apply wx_next; refine Z19 ?_; apply wc_skip; apply wx_next; apply wc_seq; apply wc_seq; apply wc_region; refine Z2 ?_; apply w_nil; apply wx_next; apply wc_block)
  refine wc_loopN xs.length (fun k => [(0, v1), (1, v2), (4, .bool false), (5, .int .i64 k)]) (fun _ => True) 0 H HA Ks (Nat.zero_le _) trivial ?_
  intro k g c hk _ H HA
  (focus (apply wc_seq; apply wc_seq; apply wc_region; refine Z0 ?_; refine Z0 ?_; refine Z45 ?_; refine Z93 (fun hq => ?_) fun hq => ?_; apply w_nil; apply wx_next; refine Z18 ?_; apply wc_skip; apply wx_next; apply wc_seq; apply wc_block; apply wc_seq; rotate_left; apply w_nil; apply wx_next; refine Z19 ?_; apply wc_exit; apply wx_exit_then; apply wx_exit_then; apply wx_exit_same; apply wx_next; apply wc_seq; apply wc_region; refine Z0 ?_; refine Z0 ?_; refine Z45 ?_; refine Z46 ?_; rotate_left))
  · obtain ⟨a, ha⟩ := getq (xs := xs) (k := k) (by omega)
    have hb : (xs.map fun a => (⟨a, true⟩ : LA))[k]? = some ⟨a, true⟩ := by rw [List.getElem?_map, ha]; rfl
    (skip)
    (refine dw_start H HA ?_)
    (repeat (refine Dc ?_))
    (apply dw_cons; (focus ((intro B _ Lx c H HA; (repeat (first | (intro vx hx; have hx2 : vx = _ := hx; clear hx; subst hx2) | (intro vx hx; have HA := HA.addSF hx; clear hx) | (intro vx hx; have HA := HA.add hx; clear hx) | intro vx)); change W _ _ _ _ _ _ _); (refine s_call rfl rfl H HA (ref03_KeptAtom a _ _ _ Lk Lk Lk) ?_; intro vx c H HP; have hvx := HP.h.1; have HA := HP.cut; subst hvx); exact Dx)); exact inferInstance)
    (repeat (refine Dc ?_))
    (refine dw_done mixed H HA rfl (by kernel_rfl) ?_; clear H HA; intro c H HA; (repeat (first | (intro vx hx; have hx2 : vx = _ := hx; clear hx; subst hx2) | (intro vx hx; have HA := HA.addSF hx; clear hx) | (intro vx hx; have HA := HA.add hx; clear hx) | intro vx)); change W _ _ _ _ _ _ _)
    (apply w_nil; apply wx_next; refine Z19 ?_; apply wc_skip; apply wx_norm_block; apply wx_next; apply wc_region; refine Z0 ?_; refine Z46 ?_; refine Z2 ?_; apply w_nil)
    exact wx_loopN (k + 1) H Cu Ks (by omega) trivial
  · (skip)
    (refine s_slX (xs := xs.map fun a => (⟨a, true⟩ : LA)) (y := bA) rfl rfl (.inr ⟨rfl, rfl⟩) (.inl (by rw [List.length_map]; rfl)) Lk ?_; intro vx hx; have HA := HA.add hx; clear hx)
    have hq : ((xs.map fun a => (⟨a, true⟩ : LA)) ++ [bA])[xs.length]? = some bA := by simp
    have e1 : bNm = bNm := rfl
    (focus (refine Z2 ?_; apply w_nil; apply wx_next; apply wc_seq; apply wc_region; refine Z0 ?_; refine Z0 ?_; refine Z45 ?_; refine Z34 HA fun vx HA => ?_; refine Z35 HA fun vx HA => ?_; refine Z36 ?_; refine Z86 ?_; refine Z0 ?_; refine Z4 ?_; refine Z0 ?_; refine Z4 ?_; refine Z0 ?_; refine Z4 ?_; refine Z45 ?_; refine Z4 ?_; refine Z34 HA fun vx HA => ?_; refine Z4 ?_; refine Z35 HA fun vx HA => ?_; refine Z4 ?_; refine Z37 HA fun vx HA => ?_; refine Z4 ?_; refine Z45 ?_; refine Z4 ?_; refine Z92 (fun hq => ?_) fun hq => ?_; refine Z8 ?_; refine Z2 ?_; apply w_nil; apply wx_next; apply wc_ret; rotate_left; refine Z8 ?_; refine Z2 ?_; apply w_nil; apply wx_next; apply wc_ret; rotate_left))
    · (skip)
      exact ret_fn H hm (outs1 Tryz.results52 Wh) rfl
    · exact absurd rfl hq
end Go.Proofs.YthkdggoohpgnnaaGreatDoor
/- Contracts: what is lent, and whether it was kept: clauses. -/
namespace Go.Wk
open Go Go.RowKit
/-- A clause whose head and body are lent, and whose tests aren't there yet. -/
def LCp (x : Cl) (v : Value) (c : Cx) : Prop := ∃ va v1, v = .agg (Cl.cs x va v1 (.slice none 0 0)).toArray ∧ SlB x.head.args bTm va c ∧ SlB (x.body.map fun a => (⟨a, true⟩ : LA)) bA v1 c
instance (x : Cl) (v : Value) : Mono (LCp x v) := ⟨fun h ⟨va, v1, e, k1, k2⟩ => ⟨va, v1, e, Mono.mono h k1, Mono.mono h k2⟩⟩
/-- What a clause that is to be lent must be. -/
def Cl.lends (x : Cl) : Prop := x.head.args.length + 1 < 1099511627776 ∧ x.body.length + 1 < 1099511627776 ∧ (∀ a ∈ x.body, a.args.length + 1 < 1099511627776) ∧ x.tests.length + 1 < 1099511627776
end Go.Wk
namespace Go.Proofs.YthkdggoohpgnnaaGreatDoor
open Go Go.Wk
theorem ref03_LendClause (x : Cl) (u : Value) (c : Cx) (h : Ag x u c) (hl : x.lends) (hg : LendOk c) : Cn Tryz.prog 11 [u] c (fun r c => Ag (⟨x, true⟩ : LC) r c) := by
  refine Cn.of Tryz.func11 Tryz.ntmps11 rfl rfl fun hm H HA => ?_
  have HA := (HA.add h).add hg
  (apply wc_seq; apply wc_region)
  (refine s_boxG rfl rfl Lk H HA ?_; intro p c H HA)
  (refine Z61 fun bx c H HA => ?_; apply w_nil; apply wx_next; apply wc_seq)
  (obtain ⟨b2, rfl⟩ : ∃ x, x = bx := ⟨_, rfl⟩)
  (refine dw_start H HA ?_)
  (repeat (refine Dc ?_))
  (apply dw_cons; (focus ((intro B _ Lx c H HA; (repeat (first | (intro vx hx; have hx2 : vx = _ := hx; clear hx; subst hx2) | (intro vx hx; have HA := HA.addSF hx; clear hx) | (intro vx hx; have HA := HA.add hx; clear hx) | intro vx)); change W _ _ _ _ _ _ _); refine s_call rfl rfl H HA (ref03_LendAtom x.head _ _ Lk hl.1 Lk) ?_; intro vx c H HP; exact w_nil (pq_rel H (Cp) HP.h.1))); exact inferInstance)
  (repeat (refine Dc ?_))
  (apply dw_cons; (focus ((intro B _ Lx c H HA; (repeat (first | (intro vx hx; have hx2 : vx = _ := hx; clear hx; subst hx2) | (intro vx hx; have HA := HA.addSF hx; clear hx) | (intro vx hx; have HA := HA.add hx; clear hx) | intro vx)); change W _ _ _ _ _ _ _); refine s_call rfl rfl H HA (ref03_LendAtoms x.body _ _ Lk hl.2.1 hl.2.2.1 Lk) ?_; intro vx c H HP; exact w_nil (pq_rel H (Cp) HP.h.1))); exact inferInstance)
  (apply dw_cons; (focus ((intro B _ Lx c H HA; (repeat (first | (intro vx hx; have hx2 : vx = _ := hx; clear hx; subst hx2) | (intro vx hx; have HA := HA.addSF hx; clear hx) | (intro vx hx; have HA := HA.add hx; clear hx) | intro vx)); change W _ _ _ _ _ _ _); obtain ⟨cs6, rfl, w6, rfl, hw6⟩ := (Lk : Ag (⟨x.head, true⟩ : LA) _ _); have HA := (HA.add (Lk : SlB (x.body.map fun a => (⟨a, true⟩ : LA)) bA _ _)).add (SlB.sl (Lk : SlB (x.body.map fun a => (⟨a, true⟩ : LA)) bA _ _)); (apply s_build; exact rfl; (focus ((repeat (first | exact bld_nil | (apply bld_cons; (conv => lhs; whnf)))); done)); (focus ((repeat' (first | exact Fil.nil | apply Fil.take | apply Fil.skip | exact App.nil | apply App.cons | (have h := HA.h; (repeat (first | exact Cells.sl h.1 | exact Cells.sl h | replace h := h.2)); done) | exact Cells.lit rfl | exact rfl)); done))); exact w_nil (pq_rel (S := LCp x) H Cu ⟨_, _, rfl, hw6, HA.h.2.1⟩))); exact inferInstance)
  (repeat (refine Dc ?_))
  ((refine dw_doneO mixed H HA (by kernel_rfl) (by kernel_rfl) ?_; clear H HA; intro c HA; (repeat (first | (intro bx; have hbx : bx + 0 = bx := rfl; clear hbx) | (intro vx hx; have hx2 : vx = _ := hx; clear hx; subst hx2) | (intro vx hx; have HA := HA.addSF hx; clear hx) | (intro vx hx; skip; have HA := HA.add hx; clear hx) | (intro vx; have hvx2 : Go.Value := vx; clear hvx2))); (first | intro H | (have H := HA.h.1; have HA := HA.cut)); change W _ _ _ _ _ _ _); have H : Owns _ ([.obj bx (.cells (Cl.cs ⟨⟨Tn, ES, []⟩, [], []⟩ (.slice none 0 0) (.slice none 0 0) (.slice none 0 0)).toArray 30 (0, 0)), .obj b2 (.cells (Cl.cs ⟨⟨Tn, ES, []⟩, [], []⟩ (.slice none 0 0) (.slice none 0 0) (.slice none 0 0)).toArray 30 (0, 0))]) _ := H)
  (obtain ⟨b3, rfl⟩ : ∃ x, x = bx := ⟨_, rfl⟩)
  obtain ⟨va, v1, rfl, ha, hb⟩ := (Lk : LCp x _ c)
  have HA := (((HA.add ha).add ha.sl).add hb).add hb.sl
  have HA := HA.add (Lk : LendOk c).ts
  have hlt : x.tests.length + 1 < 1099511627776 := hl.2.2.2
  (refine Z74 fun c H HA => ?_; apply w_nil; apply wx_next; apply wc_seq; apply wc_region; refine Z3 ?_; refine Z41 ?_; refine Z35 HA fun vx HA => ?_; refine Z37 HA fun vx HA => ?_)
  (have H := H.nilR Ts  79 7; have HA := HA.add (Vals.nil (α := Ts) _))
  (refine Z59 fun vx c valsx H HA => ?_; refine Z3 ?_; refine Z77 fun c H HA => ?_; apply w_nil; apply wx_next; apply wc_seq; apply wc_region; refine Z3 ?_; refine Z41 ?_; refine Z7 ?_)
  (apply s_bs1D (u := bTs); exact rfl; exact rfl; exact rfl; exact rfl; exact rfl; exact rfl; exact H; exact HA; exact inferInstance; intro vx c H HA)
  have H := H.swap
  (refine Z59 fun vx c valsx H HA => ?_; refine Z3 ?_; refine Z77 fun c H HA => ?_; apply w_nil; apply wx_next; apply wc_seq; apply wc_region; refine Z3 ?_; refine Z41 ?_; refine Z35 HA fun vx HA => ?_; refine Z37 HA fun vx HA => ?_; refine Z45 ?_)
  have H := H.swap
  (refine w_freezeRow H HA Lk rfl rfl Lt ?_; intro c H HA)
  (refine s_slB (xs := x.tests) (y := bTs) rfl rfl (.inr ⟨rfl, rfl⟩) (.inl rfl) Lk ?_; intro vx hx; have HA := HA.add hx; clear hx)
  have HA := HA.add (SlB.sl (Lk : SlB x.tests bTs vx c))
  (refine Z3 ?_; refine Z75 fun c H HA => ?_; apply w_nil; apply wx_next; apply wc_seq; apply wc_region; refine Z42 ?_; refine Z76 fun c H HA => ?_; apply w_nil; apply wx_next; apply wc_ret)
  exact ret_fn H hm (outsR1 Tryz.results11 (RV.agg rfl H Ow Rc)) ⟨_, rfl, va, v1, vx, rfl, Lk, Lk, Lk⟩
theorem ref03_KeptClause (x : Cl) (u1 u2 : Value) (c : Cx) (h1 : Ag (⟨x, true⟩ : LC) u1 c) (h2 : Ag x u2 c) (hg : LendOk c) : Cn Tryz.prog 14 [u1, u2] c (fun r _ => r = .bool true) := by
  refine Cn.of Tryz.func14 Tryz.ntmps14 rfl rfl fun hm H HA => ?_
  have hlt : x.tests.length < 1099511627776 := by obtain ⟨cs, rfl, v, v1, v2, rfl, h⟩ := h2; exact h.2.2.lim
  have HA := (((HA.add h1).add h2).add hg).add hg.ts
  (apply wc_seq; apply wc_region; refine Z40 fun vx c H HA => ?_; refine Z40 fun vx c H HA => ?_; refine Z2 ?_; apply w_nil; apply wx_next; apply wc_seq; apply wc_seq; apply wc_region; refine Z35 HA fun vx HA => ?_; refine Z39 HA fun vx HA => ?_; refine Z35 HA fun vx HA => ?_; refine Z39 HA fun vx HA => ?_)
  (refine s_call rfl rfl H HA (ref03_KeptAtom x.head _ _ _ Lk Lk Lk) ?_; intro vx c H HP; have hvx := HP.h.1; have HA := HP.cut; subst hvx)
  (refine Z33 ?_; refine Z0 ?_; refine Z4 ?_; refine Z35 HA fun vx HA => ?_; refine Z4 ?_; refine Z37 HA fun vx HA => ?_; refine Z4 ?_; refine Z35 HA fun vx HA => ?_; refine Z4 ?_; refine Z37 HA fun vx HA => ?_; refine Z4 ?_)
  (refine s_call rfl rfl H HA (ref03_KeptAtoms x.body _ _ _ Lk Lk Lk) ?_; intro vx c H HP; have hvx := HP.h.1; have HA := HP.cut; subst hvx)
  (refine Z4 ?_; refine Z33 ?_; refine Z30 ?_; refine Z0 ?_; refine Z4 ?_; refine Z35 HA fun vx HA => ?_; refine Z4 ?_; refine Z37 HA fun vx HA => ?_; refine Z4 ?_; refine Z35 HA fun vx HA => ?_; refine Z4 ?_; refine Z37 HA fun vx HA => ?_; refine Z4 ?_)
  have HA := HA.add (SlB.sl (Lk : SlB x.tests bTs _ c))
  (refine s_call rfl rfl H HA (ref03_sameTests x.tests x.tests _ _ _ Lk Lk) ?_; intro vx c H HP; have hvx := HP.h.1; have HA := HP.cut; subst hvx)
  rw [decide_eq_true rfl]
  (refine Z4 ?_; refine Z33 ?_; refine Z30 ?_; apply w_nil; apply wx_next; refine Z19 ?_; apply wc_skip; apply wx_next; apply wc_seq; apply wc_region; refine Z35 HA fun vx HA => ?_; refine Z37 HA fun vx HA => ?_; refine Z35 HA fun vx HA => ?_; refine Z37 HA fun vx HA => ?_; refine Z45 ?_; refine Z46 ?_)
  (refine s_slX (xs := x.tests) (y := bTs) rfl rfl (.inr ⟨rfl, rfl⟩) (.inl rfl) Lk ?_; intro vx hx; have HA := HA.add hx; clear hx)
  have hq : (x.tests ++ [bTs])[x.tests.length]? = some bTs := by simp
  (refine Z2 ?_; apply w_nil; apply wx_next; apply wc_seq)
  ((refine dw_start H HA ?_); (repeat (refine Dc ?_)); (refine dw_done mixed H HA rfl (by kernel_rfl) ?_; clear H HA; intro c H HA; (repeat (first | (intro vx hx; have hx2 : vx = _ := hx; clear hx; subst hx2) | (intro vx hx; have HA := HA.addSF hx; clear hx) | (intro vx hx; have HA := HA.add hx; clear hx) | intro vx)); change W _ _ _ _ _ _ _))
  rw [decide_eq_true rfl]
  (apply w_nil; apply wx_next; apply wc_ret)
  exact ret_fn H hm (outs1 Tryz.results14 Wh) rfl
theorem ref03_LendClauses (xs : List Cl) (v : Value) (c : Cx) (h : Sl v xs c) (hl : xs.length + 1 < 1099511627776) (hx : ∀ a ∈ xs, a.lends) (hg : LendOk c) : Cn Tryz.prog 17 [v] c (fun r c => SlB (xs.map fun a => (⟨a, true⟩ : LC)) bC r c) := by
  refine Cn.of Tryz.func17 Tryz.ntmps17 rfl rfl fun hm H HA => ?_
  have HA := (HA.add h).add hg
  (apply wc_seq; apply wc_region; refine Z2 ?_; apply w_nil; apply wx_next; apply wc_seq; apply wc_region; refine Z2 ?_; apply w_nil; apply wx_next; apply wc_seq; apply wc_seq; apply wc_region; refine Z2 ?_; apply w_nil; apply wx_next; apply wc_block)
  (have H := H.nilR LC  30 7; have HA := HA.add (Vals.nil (α := LC) _))
  refine wc_loopR (α := LC) xs.length (fun k v' => [(0, v), (2, .slice none 0 0), (3, v'), (4, .int .i64 k)]) (fun k acc => acc = (xs.take k).map fun a => (⟨a, true⟩ : LC)) 0 [] H Lk Cu Ks (Nat.zero_le _) rfl ?_
  intro k acc v' vals g c hk hp H HA
  have hal : acc.length = k := by rw [hp]; simp; omega
  (focus (apply wc_seq; apply wc_seq; apply wc_region; refine Z0 ?_; refine Z0 ?_; refine Z45 ?_; refine Z93 (fun hq => ?_) fun hq => ?_; apply w_nil; apply wx_next; refine Z18 ?_; apply wc_skip; apply wx_next; apply wc_seq; apply wc_block; apply wc_region; refine Z0 ?_; refine Z0 ?_; refine Z0 ?_; rotate_left; apply w_nil; apply wx_next; refine Z19 ?_; apply wc_exit; apply wx_exit_then; apply wx_exit_then; apply wx_exit_same; apply wx_next; apply wc_seq; apply wc_region; refine Z0 ?_; refine Z54 ?_; refine Z54 ?_; refine Z57 fun bx c H HA => ?_; rotate_left))
  · obtain ⟨a, ha⟩ := getq (xs := xs) (k := k) (by omega)
    (refine Z34 HA fun vx HA => ?_; refine Z39 HA fun vx HA => ?_)
    (refine s_call rfl rfl H HA (ref03_LendClause a _ _ Lk (hx a (List.mem_of_getElem? ha)) Lk) ?_; intro vx c H HA)
    (refine Z55 fun vx c H HA => ?_; refine Z59 fun vx c valsx H HA => ?_; refine Z2 ?_; apply w_nil; apply wx_norm_block; apply wx_next; apply wc_region; refine Z0 ?_; refine Z46 ?_; refine Z2 ?_; apply w_nil)
    exact wx_loopR (k + 1) H Lk Cu Ks (by omega) (by rw [hp, List.take_add_one, ha]; simp)
  · have hp : acc = xs.map fun a => (⟨a, true⟩ : LC) := by rw [hp, List.take_of_length_le (by omega)]
    subst hp
    have hk : k = xs.length := by omega
    have HA := HA.add (Sl.of_box (Lk : Box bx _ c) (show Enc.Ok (α := LC) (Cl.cs ⟨⟨Tn, bNm, []⟩, [], []⟩ (.slice none 0 0) (.slice none 0 0) (.slice none 0 0)) bC c from ⟨_, _, _, rfl, Sl.nil c, Sl.nil c, Sl.nil c⟩))
    (refine Z59 fun vx c valsx H HA => ?_; refine Z2 ?_; apply w_nil; apply wx_next; apply wc_seq; apply wc_region; refine Z0 ?_; refine Z0 ?_; refine Z45 ?_)
    (refine w_freezeRow H HA Lk rfl rfl Lt ?_; intro c H HA)
    (refine s_slB (xs := xs.map fun a => (⟨a, true⟩ : LC)) (y := bC) rfl rfl (.inr ⟨rfl, rfl⟩) (.inl (by rw [List.length_map]; rfl)) Lk ?_; intro vx hx; have HA := HA.add hx; clear hx)
    (refine Z2 ?_; apply w_nil; apply wx_next; apply wc_ret)
    exact ret_fn H hm (outs1 Tryz.results17 Wh) Lk
theorem ref03_KeptClauses (xs : List Cl) (v1 v2 : Value) (c : Cx) (h1 : SlB (xs.map fun a => (⟨a, true⟩ : LC)) bC v1 c) (h2 : Sl v2 xs c) (hg : LendOk c) : Cn Tryz.prog 20 [v1, v2] c (fun r _ => r = .bool true) := by
  refine Cn.of Tryz.func20 Tryz.ntmps20 rfl rfl fun hm H HA => ?_
  have HA := (((HA.add hg).add h1).add h1.sl).add h2
  have hlim := h2.lim
  have e0 : ((xs.map fun a => (⟨a, true⟩ : LC)).length : Int) = xs.length := by simp
  (apply wc_seq; apply wc_region; refine Z2 ?_; apply w_nil; apply wx_next; apply wc_seq; apply wc_seq; apply wc_region; refine Z0 ?_; refine Z45 ?_; refine Z0 ?_; refine Z45 ?_; refine Z82 ?_; apply w_nil; apply wx_next; refine Z19 ?_; apply wc_skip; apply wx_next; apply wc_seq; apply wc_seq; apply wc_region; refine Z2 ?_; apply w_nil; apply wx_next; apply wc_block)
  refine wc_loopN xs.length (fun k => [(0, v1), (1, v2), (4, .bool false), (5, .int .i64 k)]) (fun _ => True) 0 H HA Ks (Nat.zero_le _) trivial ?_
  intro k g c hk _ H HA
  (focus (apply wc_seq; apply wc_seq; apply wc_region; refine Z0 ?_; refine Z0 ?_; refine Z45 ?_; refine Z93 (fun hq => ?_) fun hq => ?_; apply w_nil; apply wx_next; refine Z18 ?_; apply wc_skip; apply wx_next; apply wc_seq; apply wc_block; apply wc_seq; rotate_left; apply w_nil; apply wx_next; refine Z19 ?_; apply wc_exit; apply wx_exit_then; apply wx_exit_then; apply wx_exit_same; apply wx_next; apply wc_seq; apply wc_region; refine Z0 ?_; refine Z0 ?_; refine Z45 ?_; refine Z46 ?_; rotate_left))
  · obtain ⟨a, ha⟩ := getq (xs := xs) (k := k) (by omega)
    have hb : (xs.map fun a => (⟨a, true⟩ : LC))[k]? = some ⟨a, true⟩ := by rw [List.getElem?_map, ha]; rfl
    (skip)
    (refine dw_start H HA ?_)
    (repeat (refine Dc ?_))
    (apply dw_cons; (focus ((intro B _ Lx c H HA; (repeat (first | (intro vx hx; have hx2 : vx = _ := hx; clear hx; subst hx2) | (intro vx hx; have HA := HA.addSF hx; clear hx) | (intro vx hx; have HA := HA.add hx; clear hx) | intro vx)); change W _ _ _ _ _ _ _); (refine s_call rfl rfl H HA (ref03_KeptClause a _ _ _ Lk Lk Lk) ?_; intro vx c H HP; have hvx := HP.h.1; have HA := HP.cut; subst hvx); exact Dx)); exact inferInstance)
    (repeat (refine Dc ?_))
    (refine dw_done mixed H HA rfl (by kernel_rfl) ?_; clear H HA; intro c H HA; (repeat (first | (intro vx hx; have hx2 : vx = _ := hx; clear hx; subst hx2) | (intro vx hx; have HA := HA.addSF hx; clear hx) | (intro vx hx; have HA := HA.add hx; clear hx) | intro vx)); change W _ _ _ _ _ _ _)
    (apply w_nil; apply wx_next; refine Z19 ?_; apply wc_skip; apply wx_norm_block; apply wx_next; apply wc_region; refine Z0 ?_; refine Z46 ?_; refine Z2 ?_; apply w_nil)
    exact wx_loopN (k + 1) H Cu Ks (by omega) trivial
  · (skip)
    (refine s_slX (xs := xs.map fun a => (⟨a, true⟩ : LC)) (y := bC) rfl rfl (.inr ⟨rfl, rfl⟩) (.inl (by rw [List.length_map]; rfl)) Lk ?_; intro vx hx; have HA := HA.add hx; clear hx)
    have hq : ((xs.map fun a => (⟨a, true⟩ : LC)) ++ [bC])[xs.length]? = some bC := by simp
    have e1 : bNm = bNm := rfl
    (refine Z2 ?_; apply w_nil; apply wx_next; apply wc_seq; apply wc_region; refine Z0 ?_; refine Z0 ?_; refine Z45 ?_; refine Z34 HA fun vx HA => ?_; refine Z35 HA fun vx HA => ?_; refine Z35 HA fun vx HA => ?_; refine Z36 ?_; refine Z86 ?_; refine Z2 ?_; apply w_nil; apply wx_next; apply wc_ret)
    exact ret_fn H hm (outs1 Tryz.results20 Wh) rfl
end Go.Proofs.YthkdggoohpgnnaaGreatDoor
/- Contracts: the examples that every statement asks. -/
namespace Go.Proofs.YthkdggoohpgnnaaGreatDoor
open Go Go.Wk
theorem law_va (n : Int) (c : Cx) : Cn Tryz.prog 55 [.int .i64 n] c (fun r _ => r = .agg (vaN n).cs.toArray) := by
  refine Cn.of Tryz.func55 Tryz.ntmps55 rfl rfl fun hm H HA => ?_
  (apply wc_seq; apply wc_region; refine Z61 fun bx c H HA => ?_; apply w_nil; apply wx_next; apply wc_seq; apply wc_region; refine Z0 ?_; refine Z54 ?_; refine Z74 fun c H HA => ?_; apply w_nil; apply wx_next; apply wc_ret)
  exact ret_fn H hm (outsR1 Tryz.results55 (RV.agg rfl H Ow Rc)) rfl
theorem law_text (s : ByteArray) (c : Cx) : Cn Tryz.prog 56 [.string s] c (fun r _ => r = .agg (Tm.cs ⟨2, 0, s⟩).toArray) := by
  refine Cn.of Tryz.func56 Tryz.ntmps56 rfl rfl fun hm H HA => ?_
  (apply wc_seq; apply wc_region; refine Z61 fun bx c H HA => ?_; apply w_nil; apply wx_next; apply wc_seq; apply wc_region; refine Z0 ?_; refine Z54 ?_; refine Z74 fun c H HA => ?_; apply w_nil; apply wx_next; apply wc_ret)
  exact ret_fn H hm (outsR1 Tryz.results56 (RV.agg rfl H Ow Rc)) rfl
theorem law_on (s : ByteArray) (ts : List Tm) (v : Value) (c : Cx) (h : Sl v ts c) : Cn Tryz.prog 54 [.string s, v] c (fun r c => Ag (⟨Tn, s, ts⟩ : At0) r c) := by
  refine Cn.of Tryz.func54 Tryz.ntmps54 rfl rfl fun hm H HA => ?_
  have HA := HA.add h
  (apply wc_seq; apply wc_region; refine Z61 fun bx c H HA => ?_; apply w_nil; apply wx_next; apply wc_seq; apply wc_region; refine Z0 ?_; refine Z0 ?_; refine Z54 ?_; refine Z74 fun c H HA => ?_; apply w_nil; apply wx_next; apply wc_ret)
  exact ret_fn H hm (outsR1 Tryz.results54 (RV.agg rfl H Ow Rc)) ⟨_, rfl, v, rfl, Lk⟩
set_option maxHeartbeats 1000000 in
theorem law_head (c : Cx) (hg : GlobOk c) : Cn Tryz.prog 15 [] c (fun r _ => r = .bool true) := by
  refine Cn.of Tryz.func15 Tryz.ntmps15 rfl rfl fun hm H HA => ?_
  have HA := HA.add hg
  (apply wc_seq; apply wc_region; refine Z2 ?_; apply w_nil; apply wx_next; apply wc_seq; apply wc_region)
  (refine s_call rfl rfl H HA (law_va 0 _) ?_; intro vx c H HP; have hvx := HP.h.1; have HA := HP.cut; subst hvx)
  (skip)
  (apply s_bs1D (u := (vaN 0)); exact rfl; exact rfl; exact rfl; exact rfl; exact rfl; exact rfl; exact H; exact HA; exact inferInstance; intro vx c H HA)
  (skip)
  (refine s_call rfl rfl H HA (law_on nmP [vaN 0] _ _ Lk) ?_; intro vx c H HA)
  (skip)
  (refine s_call rfl rfl H HA (law_va 0 _) ?_; intro vx c H HP; have hvx := HP.h.1; have HA := HP.cut; subst hvx)
  (skip)
  (apply s_bs1D (u := (vaN 0)); exact rfl; exact rfl; exact rfl; exact rfl; exact rfl; exact rfl; exact H; exact HA; exact inferInstance; intro vx c H HA)
  (skip)
  (refine s_call rfl rfl H HA (law_on nmQ [vaN 0] _ _ Lk) ?_; intro vx c H HA)
  (refine Z55 fun vx c H HA => ?_)
  obtain ⟨cs1, rfl, a0, rfl, ha0⟩ := (Lk : Ag (⟨Tn, nmP, [vaN 0]⟩ : At0) _ c)
  have HA := HA.add ha0
  (obtain ⟨a1, rfl⟩ : ∃ x, x = vx := ⟨_, rfl⟩)
  (refine Z54 ?_; refine Z61 fun bx c H HA => ?_; refine Z74 fun c H HA => ?_; apply w_nil; apply wx_next; apply wc_seq; apply wc_region)
  (obtain ⟨b1, rfl⟩ : ∃ x, x = bx := ⟨_, rfl⟩)
  (refine s_call rfl rfl H HA (law_text ⟨#[97]⟩ _) ?_; intro vx c H HP; have hvx := HP.h.1; have HA := HP.cut; subst hvx)
  (skip)
  (apply s_bs1D (u := txA); exact rfl; exact rfl; exact rfl; exact rfl; exact rfl; exact rfl; exact H; exact HA; exact inferInstance; intro vx c H HA)
  (skip)
  (refine s_call rfl rfl H HA (law_on nmP [txA] _ _ Lk) ?_; intro vx c H HA)
  (skip)
  (refine s_call rfl rfl H HA (law_text ⟨#[97]⟩ _) ?_; intro vx c H HP; have hvx := HP.h.1; have HA := HP.cut; subst hvx)
  (skip)
  (apply s_bs1D (u := txA); exact rfl; exact rfl; exact rfl; exact rfl; exact rfl; exact rfl; exact H; exact HA; exact inferInstance; intro vx c H HA)
  (skip)
  (refine s_call rfl rfl H HA (law_on nmQ [txA] _ _ Lk) ?_; intro vx c H HA)
  (skip)
  (refine s_call rfl rfl H HA (law_on nmR [] _ _ (Sl.nil _)) ?_; intro vx c H HA)
  (refine Z60 fun vx c H HA => ?_)
  obtain ⟨cs2, rfl, d0, rfl, hd0⟩ := (Lk : Ag (⟨Tn, nmP, [txA]⟩ : At0) _ c)
  have HA := HA.add hd0
  (obtain ⟨d1, rfl⟩ : ∃ x, x = vx := ⟨_, rfl⟩)
  (refine Z54 ?_; refine Z61 fun bx c H HA => ?_; refine Z74 fun c H HA => ?_; apply w_nil; apply wx_next; apply wc_seq; apply wc_region; refine Z42 ?_; refine Z42 ?_)
  (obtain ⟨b2, rfl⟩ : ∃ x, x = bx := ⟨_, rfl⟩)
  have hC : ∀ c', Sl a0 [vaN 0] c' → Sl a1 ([⟨Tn, nmQ, [vaN 0]⟩] : List At0) c' → Ag exC (.agg (Cl.cs exC a0 a1 (.slice none 0 0)).toArray) c' := fun c' h h' => ⟨_, rfl, _, _, _, rfl, h, h', Sl.nil c'⟩
  have hD : ∀ c', Sl d0 [txA] c' → Sl d1 ([⟨Tn, nmQ, [txA]⟩, ⟨Tn, nmR, []⟩] : List At0) c' → Ag exD (.agg (Cl.cs exD d0 d1 (.slice none 0 0)).toArray) c' := fun c' h h' => ⟨_, rfl, _, _, _, rfl, h, h', Sl.nil c'⟩
  have fC : exC.fit := (Cl.check_ok.1 (show exC.check = 0 by decide +kernel)).fit
  have fD : exD.fit := (Cl.check_ok.1 (show exD.check = 0 by decide +kernel)).fit
  (refine s_call rfl rfl H HA (subsume_Subsumes exC exD _ _ _ (hC _ Lk Lk) (hD _ Lk Lk) fC fD Lk) ?_; intro vx c H HA)
  rw [ex_cd] at HA
  obtain ⟨vm, hr, hSm⟩ := HA.h.1
  subst hr
  have HA := HA.cut.add hSm
  (refine Z0 ?_; refine Z32 ?_; refine Z32 ?_; refine Z2 ?_; refine Z2 ?_; apply w_nil; apply wx_next; apply wc_seq; apply wc_region; refine Z42 ?_; refine Z42 ?_)
  (refine s_call rfl rfl H HA (subsume_Subsumes exD exC _ _ _ (hD _ Lk Lk) (hC _ Lk Lk) fD fC Lk) ?_; intro vx c H HA)
  rw [ex_dc] at HA
  obtain ⟨vn, hr, hSn⟩ := HA.h.1
  subst hr
  have HA := HA.cut.add hSn
  have e1 : ((([txA] : List Tm).length : Nat) : Int) = 1 := rfl
  have e2 : txA = ⟨2, 0, ⟨#[97]⟩⟩ := rfl
  (refine Z0 ?_; refine Z32 ?_; refine Z32 ?_; refine Z2 ?_; refine Z2 ?_; apply w_nil; apply wx_next; apply wc_seq; apply wc_seq)
  dsimp only [Option.isSome, Option.getD, Bool.not_true] at HA ⊢
  (refine dw_start H HA ?_)
  (repeat (refine Dc ?_))
  (apply dw_cons; (focus ((intro B _ Lx c H HA; (repeat (first | (intro vx hx; have hx2 : vx = _ := hx; clear hx; subst hx2) | (intro vx hx; have HA := HA.addSF hx; clear hx) | (intro vx hx; have HA := HA.add hx; clear hx) | intro vx)); change W _ _ _ _ _ _ _); (apply s_go; exact rfl; exact rfl; exact rfl); (refine s_ixP (α := Tm) (i := 0) (u := txA) rfl rfl rfl Lk rfl rfl rfl ?_; intro vx hx; have HA := HA.add hx; clear hx); exact Dx)); exact inferInstance)
  (repeat (refine Dc ?_))
  (apply dw_cons; (focus ((intro B _ Lx c H HA; (repeat (first | (intro vx hx; have hx2 : vx = _ := hx; clear hx; subst hx2) | (intro vx hx; have HA := HA.addSF hx; clear hx) | (intro vx hx; have HA := HA.add hx; clear hx) | intro vx)); change W _ _ _ _ _ _ _); (apply s_go; exact rfl; exact rfl; exact rfl); (refine s_call rfl rfl H HA (law_text ⟨#[97]⟩ _) ?_; intro vx c H HP; have hvx := HP.h.1; have HA := HP.cut; subst hvx); exact Dx)); exact inferInstance)
  (repeat (refine Dc ?_))
  (refine dw_done mixed H HA rfl (by kernel_rfl) ?_; clear H HA; intro c H HA; (repeat (first | (intro vx hx; have hx2 : vx = _ := hx; clear hx; subst hx2) | (intro vx hx; have HA := HA.addSF hx; clear hx) | (intro vx hx; have HA := HA.add hx; clear hx) | intro vx)); change W _ _ _ _ _ _ _)
  (apply w_nil; apply wx_next; refine Z19 ?_; apply wc_skip; apply wx_next; apply wc_seq)
  (refine dw_start H HA ?_)
  (repeat (refine Dc ?_))
  (apply dw_cons; (focus ((intro B _ Lx c H HA; (repeat (first | (intro vx hx; have hx2 : vx = _ := hx; clear hx; subst hx2) | (intro vx hx; have HA := HA.addSF hx; clear hx) | (intro vx hx; have HA := HA.add hx; clear hx) | intro vx)); change W _ _ _ _ _ _ _); (refine s_call rfl rfl H HA (law_va 0 _) ?_; intro vx c H HP; have hvx := HP.h.1; have HA := HP.cut; subst hvx); exact Dx)); exact inferInstance)
  (apply dw_cons; (focus ((intro B _ Lx c H HA; (repeat (first | (intro vx hx; have hx2 : vx = _ := hx; clear hx; subst hx2) | (intro vx hx; have HA := HA.addSF hx; clear hx) | (intro vx hx; have HA := HA.add hx; clear hx) | intro vx)); change W _ _ _ _ _ _ _); (apply s_bs1D (u := (vaN 0)); exact rfl; exact rfl; exact rfl; exact rfl; exact rfl; exact rfl; exact H; exact HA; exact inferInstance; intro vx c H HA); exact Dx)); exact inferInstance)
  (apply dw_cons; (focus ((intro B _ Lx c H HA; (repeat (first | (intro vx hx; have hx2 : vx = _ := hx; clear hx; subst hx2) | (intro vx hx; have HA := HA.addSF hx; clear hx) | (intro vx hx; have HA := HA.add hx; clear hx) | intro vx)); change W _ _ _ _ _ _ _); refine s_call rfl rfl H HA (law_on nmQ [vaN 0] _ _ Lk) ?_; intro vx c H HP; exact w_nil (pq_rel H (Cp) HP.h.1))); exact inferInstance)
  (apply dw_cons; (focus ((intro B _ Lx c H HA; (repeat (first | (intro vx hx; have hx2 : vx = _ := hx; clear hx; subst hx2) | (intro vx hx; have HA := HA.addSF hx; clear hx) | (intro vx hx; have HA := HA.add hx; clear hx) | intro vx)); change W _ _ _ _ _ _ _); (refine s_call rfl rfl H HA (law_va 1 _) ?_; intro vx c H HP; have hvx := HP.h.1; have HA := HP.cut; subst hvx); exact Dx)); exact inferInstance)
  (apply dw_cons; (focus ((intro B _ Lx c H HA; (repeat (first | (intro vx hx; have hx2 : vx = _ := hx; clear hx; subst hx2) | (intro vx hx; have HA := HA.addSF hx; clear hx) | (intro vx hx; have HA := HA.add hx; clear hx) | intro vx)); change W _ _ _ _ _ _ _); (apply s_bs1D (u := (vaN 1)); exact rfl; exact rfl; exact rfl; exact rfl; exact rfl; exact rfl; exact H; exact HA; exact inferInstance; intro vx c H HA); exact Dx)); exact inferInstance)
  (apply dw_cons; (focus ((intro B _ Lx c H HA; (repeat (first | (intro vx hx; have hx2 : vx = _ := hx; clear hx; subst hx2) | (intro vx hx; have HA := HA.addSF hx; clear hx) | (intro vx hx; have HA := HA.add hx; clear hx) | intro vx)); change W _ _ _ _ _ _ _); refine s_call rfl rfl H HA (law_on nmQ [vaN 1] _ _ Lk) ?_; intro vx c H HP; exact w_nil (pq_rel H (Cp) HP.h.1))); exact inferInstance)
  (repeat (refine Dc ?_))
  (apply dw_cons; (focus ((intro B _ Lx c H HA; (repeat (first | (intro vx hx; have hx2 : vx = _ := hx; clear hx; subst hx2) | (intro vx hx; have HA := HA.addSF hx; clear hx) | (intro vx hx; have HA := HA.add hx; clear hx) | intro vx)); change W _ _ _ _ _ _ _); (apply s_build; exact rfl; (focus ((repeat (first | exact bld_nil | (apply bld_cons; (conv => lhs; whnf)))); done)); (focus ((repeat' (first | exact Fil.nil | apply Fil.take | apply Fil.skip | exact App.nil | apply App.cons | (have h := HA.h; (repeat (first | exact Cells.sl h.1 | exact Cells.sl h | replace h := h.2)); done) | exact Cells.lit rfl | exact rfl)); done))); exact w_nil (pq_rel (S := Ag exT) H Cu ⟨_, rfl, a0, _, _, rfl, Lk, Lk, Sl.nil _⟩))); exact inferInstance)
  (repeat (refine Dc ?_))
  ((refine dw_doneO mixed H HA (by kernel_rfl) (by kernel_rfl) ?_; clear H HA; intro c HA; (repeat (first | (intro bx; have hbx : bx + 0 = bx := rfl; clear hbx) | (intro vx hx; have hx2 : vx = _ := hx; clear hx; subst hx2) | (intro vx hx; have HA := HA.addSF hx; clear hx) | (intro vx hx; skip; have HA := HA.add hx; clear hx) | (intro vx; have hvx2 : Go.Value := vx; clear hvx2))); (first | intro H | (have H := HA.h.1; have HA := HA.cut)); change W _ _ _ _ _ _ _); have H : Owns _ ([.obj bx (.cells (Cl.cs ⟨⟨Tn, ES, []⟩, [], []⟩ (.slice none 0 0) (.slice none 0 0) (.slice none 0 0)).toArray 30 (0, 0)), _, _]) _ := H)
  (obtain ⟨b7, rfl⟩ : ∃ x, x = bx := ⟨_, rfl⟩)
  obtain ⟨cs7, rfl, t0, t1, t2, rfl, ht0, ht1, ht2⟩ := (Lk : Ag exT _ c)
  have HA := ((HA.add ht0).add ht1).add ht2
  have fT : exT.fit := (Cl.check_ok.1 ex_tc).fit
  (refine Z74 fun c H HA => ?_; apply w_nil; apply wx_next; apply wc_seq; apply wc_region; refine Z42 ?_)
  (refine s_call rfl rfl H HA (subsume_Condense exT _ _ ⟨_, rfl, t0, t1, t2, rfl, Lk, Lk, Lk⟩ fT Lk) ?_; intro vx c H HA)
  rw [condE, if_pos ex_tc, ex_tn, ex_tc] at HA
  obtain ⟨ur, hr, cs8, rfl, u0, u1, u2, rfl, hu0, hu1, hu2⟩ := HA.h.1
  subst hr
  have HA := ((HA.cut.add hu0).add hu1).add hu2
  (refine Z0 ?_; refine Z32 ?_; refine Z32 ?_; refine Z61 fun bx c H HA => ?_; refine Z74 fun c H HA => ?_; refine Z2 ?_; apply w_nil; apply wx_next; apply wc_seq; apply wc_region; refine Z42 ?_; refine Z42 ?_; refine Z42 ?_)
  (obtain ⟨b8, rfl⟩ : ∃ x, x = bx := ⟨_, rfl⟩)
  have HA := ((HA.add (show Ag exT (.agg (Cl.cs exT t0 t1 t2).toArray) c from ⟨_, rfl, t0, t1, t2, rfl, Lk, Lk, Lk⟩)).add (hD _ Lk Lk)).add (hC _ Lk Lk)
  (refine Z60 fun vx c H HA => ?_)
  (refine s_call rfl rfl H HA (subsume_Reduce [exT, exD, exC] _ _ Lk (fun x hx => by
    rcases List.mem_cons.1 hx with rfl | hx
    · exact fT
    · rcases List.mem_cons.1 hx with rfl | hx
      · exact fD
      · rcases List.mem_cons.1 hx with rfl | hx
        · exact fC
        · cases hx) Lk) ?_; intro vx c H HA)
  rw [ex_rd] at HA
  obtain ⟨vl, hr, hSl⟩ := HA.h.1
  subst hr
  have HA := HA.cut.add hSl
  have e3 : (0 : Int) = 0 := rfl
  have e4 : ((([exC] : List Cl).length : Nat) : Int) = 1 := rfl
  (refine Z0 ?_; refine Z32 ?_; refine Z32 ?_; refine Z2 ?_; refine Z2 ?_; apply w_nil; apply wx_next; apply wc_seq)
  have hAC : ∀ c', Sl u0 exC.head.args c' → Sl u1 exC.body c' → Sl u2 exC.tests c' → Ag exC (.agg (Cl.cs exC u0 u1 u2).toArray) c' := fun c' h h' h'' => ⟨_, rfl, _, _, _, rfl, h, h', h''⟩
  have hSl : Sl vl [exC] c := hSl
  have HA := HA.add hSl
  (refine dw_start H HA ?_)
  (repeat (refine Dc ?_))
  (apply dw_cons; (focus ((intro B _ Lx c H HA; (repeat (first | (intro vx hx; have hx2 : vx = _ := hx; clear hx; subst hx2) | (intro vx hx; have HA := HA.addSF hx; clear hx) | (intro vx hx; have HA := HA.add hx; clear hx) | intro vx)); change W _ _ _ _ _ _ _); (apply s_go; exact rfl; exact rfl; exact rfl); (refine s_call rfl rfl H HA (Cn.imp (Post' := fun v _ => v = .bool true) (ref03_SameClause exC exC _ _ _ (hAC _ Lk Lk Lk) Lk) (fun v c' _ h => by rw [h, decide_eq_true rfl])) ?_; intro vx c H HP; have hvx := HP.h.1; have HA := HP.cut; subst hvx); exact Dx)); exact inferInstance)
  (repeat (refine Dc ?_))
  (apply dw_cons; (focus ((intro B _ Lx c H HA; (repeat (first | (intro vx hx; have hx2 : vx = _ := hx; clear hx; subst hx2) | (intro vx hx; have HA := HA.addSF hx; clear hx) | (intro vx hx; have HA := HA.add hx; clear hx) | intro vx)); change W _ _ _ _ _ _ _); (apply s_go; exact rfl; exact rfl; exact rfl); (refine s_ixP (α := Cl) (i := 0) (u := exC) rfl rfl rfl (Lk : Sl vl [exC] _) rfl rfl rfl ?_; intro vx hx; have HA := HA.add hx; clear hx); exact Dx)); exact inferInstance)
  (repeat (refine Dc ?_))
  (apply dw_cons; (focus ((intro B _ Lx c H HA; (repeat (first | (intro vx hx; have hx2 : vx = _ := hx; clear hx; subst hx2) | (intro vx hx; have HA := HA.addSF hx; clear hx) | (intro vx hx; have HA := HA.add hx; clear hx) | intro vx)); change W _ _ _ _ _ _ _); (apply s_go; exact rfl; exact rfl; exact rfl); (refine s_call rfl rfl H HA (Cn.imp (Post' := fun v _ => v = .bool true) (ref03_SameClause exC exC _ _ _ Lk Lk) (fun v c' _ h => by rw [h, decide_eq_true rfl])) ?_; intro vx c H HP; have hvx := HP.h.1; have HA := HP.cut; subst hvx); exact Dx)); exact inferInstance)
  (repeat (refine Dc ?_))
  (refine dw_done mixed H HA rfl (by kernel_rfl) ?_; clear H HA; intro c H HA; (repeat (first | (intro vx hx; have hx2 : vx = _ := hx; clear hx; subst hx2) | (intro vx hx; have HA := HA.addSF hx; clear hx) | (intro vx hx; have HA := HA.add hx; clear hx) | intro vx)); change W _ _ _ _ _ _ _)
  (apply w_nil; apply wx_next; apply wc_ret)
  exact ret_fn H hm (outs1 Tryz.results15 Wh) rfl
end Go.Proofs.YthkdggoohpgnnaaGreatDoor
/- What the first two statements' functions answer. -/
namespace Go.Wk
open Go
class BoolT (P : Program) (T : TypeId) : Prop where
  h : P.underlying T = some .bool
section
variable {P : Program} {ops : Array Oper} {Q : Exit → Act → World → Prop} {n : Nat} {f : Nat → Value} {rest : List Oper} {ty : TypeId} {ps : String} {af : Array Edge} {d : Tmp} {w : World}
theorem s_eqB {T T' : TypeId} {x y : Operand} {a b : Bool} (hn : Nat.blt d n = true) [BoolT P T] (hx : opd f x = .bool a) (hy : opd f y = .bool b) {r : Bool} (hr : (a == b) = r) (k : W P ops Q rest n (upd f d (.bool r)) w) : W P ops Q (⟨some d, .binOp .eql T x y T', ty, ps, af, none⟩ :: rest) n f w :=
  st_val hn (by subst hr; simp [execOp, hx, hy, eqGuard_at_bool, binOp, run_equal_bool w T a b (BoolT.h (P := P) (T := T))]) k
end
end Go.Wk
namespace Go.Proofs.YthkdggoohpgnnaaGreatDoor
open Go Go.Wk
instance : BoolT Tryz.prog 4 := ⟨by kernel_rfl⟩
theorem law_Finds (x d : Cl) (u1 u2 : Value) (c : Cx) (h1 : Ag x u1 c) (h2 : Ag d u2 c) (hx : x.fit) (hd : d.fit) (lx : x.lends) (ld : d.lends) (hg : GlobOk c) (hl : LendOk c) : Cn Tryz.prog 3 [u1, u2] c (fun r _ => r = .bool true) := by
  refine Cn.of Tryz.func3 Tryz.ntmps3 rfl rfl fun hm H HA => ?_
  have HA := (((HA.add h1).add h2).add hg).add hl
  (apply wc_seq; apply wc_region; refine Z40 fun vx c H HA => ?_; refine Z40 fun vx c H HA => ?_; refine Z2 ?_; apply w_nil; apply wx_next; apply wc_seq; apply wc_region; refine Z39 HA fun vx HA => ?_; refine Z39 HA fun vx HA => ?_)
  (refine s_call rfl rfl H HA (ref14_Subsumes x d _ _ _ Lk Lk hx hd) ?_; intro vx c H HA)
  obtain ⟨vm, hr, hSm⟩ := HA.h.1
  subst hr
  have HA := HA.cut.add hSm
  (refine Z0 ?_; refine Z32 ?_; refine Z32 ?_; refine Z2 ?_; refine Z2 ?_; apply w_nil; apply wx_next; apply wc_seq; apply wc_region; refine Z39 HA fun vx HA => ?_)
  (refine s_call rfl rfl H HA (ref03_LendClause x _ _ Lk lx Lk) ?_; intro vx c H HA)
  (refine Z61 fun bx c H HA => ?_)
  (refine s_storeG (α := LC) rfl rfl Lk rfl rfl H HA ?_; intro c H HA)
  (apply w_nil; apply wx_next; apply wc_seq; apply wc_region; refine Z39 HA fun vx HA => ?_)
  (refine s_call rfl rfl H HA (ref03_LendClause d _ _ Lk ld Lk) ?_; intro vx c H HA)
  (refine Z61 fun bx c H HA => ?_)
  (refine s_storeG (α := LC) rfl rfl Lk rfl rfl H HA ?_; intro c H HA)
  (apply w_nil; apply wx_next; apply wc_seq; apply wc_region; refine Z39 HA fun vx HA => ?_; refine Z39 HA fun vx HA => ?_)
  (refine s_call rfl rfl H HA (subsume_Subsumes x d _ _ _ (Ag.lc (Lk : Ag (⟨x, true⟩ : LC) _ _)) (Ag.lc (Lk : Ag (⟨d, true⟩ : LC) _ _)) hx hd Lk) ?_; intro vx c H HA)
  obtain ⟨vn, hr, hSn⟩ := HA.h.1
  subst hr
  have HA := HA.cut.add hSn
  (refine Z0 ?_; refine Z32 ?_; refine Z32 ?_; refine Z2 ?_; refine Z2 ?_; apply w_nil; apply wx_next; apply wc_seq; apply wc_region; refine Z0 ?_; refine Z0 ?_)
  (refine s_eqB rfl rfl rfl (beq_self_eq_true _) ?_)
  (refine Z0 ?_; refine Z4 ?_; refine Z0 ?_; refine Z4 ?_; refine Z0 ?_; refine Z4 ?_)
  (refine s_call rfl rfl H HA (Cn.imp (Post' := fun v _ => v = .bool true) (ref03_SameTerms _ _ _ _ _ hSn Lk) (fun v c' _ h => by rw [h, decide_eq_true rfl])) ?_; intro vx c H HP; have hvx := HP.h.1; have HA := HP.cut; subst hvx)
  (refine Z8 ?_; refine Z0 ?_; refine Z4 ?_; refine Z39 HA fun vx HA => ?_; refine Z4 ?_; refine Z39 HA fun vx HA => ?_; refine Z4 ?_)
  (refine s_call rfl rfl H HA (ref03_KeptClause x _ _ _ Lk Lk Lk) ?_; intro vx c H HP; have hvx := HP.h.1; have HA := HP.cut; subst hvx)
  (refine Z8 ?_; refine Z0 ?_; refine Z4 ?_; refine Z39 HA fun vx HA => ?_; refine Z4 ?_; refine Z39 HA fun vx HA => ?_; refine Z4 ?_)
  (refine s_call rfl rfl H HA (ref03_KeptClause d _ _ _ Lk Lk Lk) ?_; intro vx c H HP; have hvx := HP.h.1; have HA := HP.cut; subst hvx)
  (refine Z8 ?_; refine Z0 ?_; refine Z4 ?_)
  (refine s_call rfl rfl H HA (law_head _ Lk) ?_; intro vx c H HP; have hvx := HP.h.1; have HA := HP.cut; subst hvx)
  (refine Z8 ?_; refine Z2 ?_; apply w_nil; apply wx_next; apply wc_ret)
  exact ret_fn H hm (outs1 Tryz.results3 Wh) rfl
theorem law_Reduces (cs : List Cl) (v : Value) (c : Cx) (h : Sl v cs c) (hb : cs.length + 1 < 1099511627776) (hf : ∀ x ∈ cs, x.fit ∧ x.lends) (hg : GlobOk c) (hl : LendOk c) : Cn Tryz.prog 4 [v] c (fun r _ => r = .bool true) := by
  refine Cn.of Tryz.func4 Tryz.ntmps4 rfl rfl fun hm H HA => ?_
  have HA := ((HA.add h).add hg).add hl
  (apply wc_seq; apply wc_region; refine Z2 ?_; apply w_nil; apply wx_next; apply wc_seq; apply wc_region; refine Z0 ?_)
  (refine s_call rfl rfl H HA (ref14_Reduce cs _ _ Lk (fun x hx => (hf x hx).1)) ?_; intro vx c H HA)
  obtain ⟨vm, hr, hSm⟩ := HA.h.1
  subst hr
  have HA := HA.cut.add hSm
  (refine Z0 ?_; refine Z32 ?_; refine Z32 ?_; refine Z2 ?_; refine Z2 ?_; apply w_nil; apply wx_next; apply wc_seq; apply wc_region; refine Z0 ?_)
  (refine s_call rfl rfl H HA (ref03_LendClauses cs _ _ Lk hb (fun x hx => (hf x hx).2) Lk) ?_; intro vx c H HA)
  (refine Z2 ?_; apply w_nil; apply wx_next; apply wc_seq; apply wc_region; refine Z0 ?_)
  (refine s_call rfl rfl H HA (subsume_Reduce cs _ _ (SlB.lc (Lk : SlB (cs.map fun x => (⟨x, true⟩ : LC)) bC _ _)) (fun x hx => (hf x hx).1) Lk) ?_; intro vx c H HA)
  obtain ⟨vn, hr, hSn⟩ := HA.h.1
  subst hr
  have HA := HA.cut.add hSn
  have e0 : (reduceC cs).2 = (reduceC cs).2 := rfl
  (refine Z0 ?_; refine Z32 ?_; refine Z32 ?_; refine Z2 ?_; refine Z2 ?_; apply w_nil; apply wx_next; apply wc_seq; apply wc_region; refine Z0 ?_; refine Z0 ?_; refine Z80 ?_; refine Z0 ?_; refine Z4 ?_; refine Z0 ?_; refine Z4 ?_; refine Z0 ?_; refine Z4 ?_)
  (refine s_call rfl rfl H HA (Cn.imp (Post' := fun v _ => v = .bool true) (ref03_SameClauses _ _ _ _ _ Lk Lk) (fun v c' _ h => by rw [h, decide_eq_true rfl])) ?_; intro vx c H HP; have hvx := HP.h.1; have HA := HP.cut; subst hvx)
  (refine Z8 ?_; refine Z0 ?_; refine Z4 ?_; refine Z0 ?_; refine Z4 ?_; refine Z0 ?_; refine Z4 ?_)
  (refine s_call rfl rfl H HA (ref03_KeptClauses cs _ _ _ Lk Lk Lk) ?_; intro vx c H HP; have hvx := HP.h.1; have HA := HP.cut; subst hvx)
  (refine Z8 ?_; refine Z0 ?_; refine Z4 ?_)
  (refine s_call rfl rfl H HA (law_head _ Lk) ?_; intro vx c H HP; have hvx := HP.h.1; have HA := HP.cut; subst hvx)
  (refine Z8 ?_; refine Z2 ?_; apply w_nil; apply wx_next; apply wc_ret)
  exact ret_fn H hm (outs1 Tryz.results4 Wh) rfl
end Go.Proofs.YthkdggoohpgnnaaGreatDoor
/- What an argument reads as, told as Lean data. -/
namespace Go.Proofs.YthkdggoohpgnnaaGreatDoor
open Go Go.Wk
theorem len3 {α : Type} {l : List α} (h : l.length = 3) : ∃ a b c, l = [a, b, c] := by
  match l, h with
  | [a, b, c], _ => exact ⟨a, b, c, rfl⟩
theorem len5 {α : Type} {l : List α} (h : l.length = 5) : ∃ a b c d e, l = [a, b, c, d, e] := by
  match l, h with
  | [a, b, c, d, e], _ => exact ⟨a, b, c, d, e, rfl⟩
theorem len7 {α : Type} {l : List α} (h : l.length = 7) : ∃ a b c d e f g, l = [a, b, c, d, e, f, g] := by
  match l, h with
  | [a, b, c, d, e, f, g], _ => exact ⟨a, b, c, d, e, f, g, rfl⟩
/-- Whatever reads of type T, within the bound, lies there as an α. -/
def Reads (P : Program) (T : TypeId) {α : Type} [Enc α] (bk : α → Nat) (ok : α → Prop) : Prop :=
  ∀ {H : Type} (enc : TypeId × Value → H) (w : World) (base : Nat) (sp : Nat → Bool) (held : Bool) (fuel : Nat) (cs : List Value) (x : DataW H × List MemPlace), DataW.trod enc P w base sp held fuel T cs = some x → Rows.uptoBulk x.1 ≤ 1048576 →
    ∃ a : α, Enc.Ok cs a ⟨w, fun _ => False⟩ ∧ ok a ∧ bk a ≤ Rows.uptoBulk x.1
theorem bulk_one {H : Type} (d : DataW H) : 1 ≤ Rows.uptoBulk d := by
  cases d with
  | lit l => cases l <;> simp [Rows.uptoBulk]
  | nil => simp [Rows.uptoBulk]
  | ptr d => simp [Rows.uptoBulk]
  | slice elems spare => simp [Rows.uptoBulk]
  | agg parts => simp [Rows.uptoBulk]
  | iface t d => simp [Rows.uptoBulk]
  | map entries => simp [Rows.uptoBulk]
  | held h => simp [Rows.uptoBulk]
theorem bulk_app {H : Type} (l r : List (DataW H)) : Rows.uptoBulkAll (l ++ r) = Rows.uptoBulkAll l + Rows.uptoBulkAll r := by
  induction l with
  | nil => simp [Rows.uptoBulkAll]
  | cons x l ih => simp only [List.cons_append, Rows.uptoBulkAll, ih]; omega
theorem reads_int {P : Program} {T : TypeId} (hu : P.underlying T = some (.int .i64)) : Reads P T (fun _ : Int => 1) (fun _ => True) := by
  intro H enc w base sp held fuel cs x h _
  obtain ⟨n, rfl, rfl, _⟩ := DataW.trod_int hu h
  exact ⟨n, rfl, trivial, by simp [Rows.uptoBulk]⟩
def strOk (s : ByteArray) : Prop := s.size < 4611686018427387904
theorem reads_string {P : Program} {T : TypeId} (hu : P.underlying T = some .string) : Reads P T (fun _ : ByteArray => 1) strOk := by
  intro H enc w base sp held fuel cs x h hb
  obtain ⟨s, rfl, rfl, _⟩ := DataW.trod_string hu h
  refine ⟨s, rfl, ?_, by simp [Rows.uptoBulk]⟩
  unfold strOk
  have : s.data.toList.length = s.size := Array.length_toList
  simp only [Rows.uptoBulk] at hb
  omega
theorem choose_list {α H : Type} {bk : α → Nat} {D : Nat → DataW H} {p : Nat → α → Prop} : ∀ (m : Nat), (∀ i, i < m → ∃ q, p i q ∧ bk q ≤ Rows.uptoBulk (D i)) →
    ∃ l : List α, l.length = m ∧ (∀ i q, l[i]? = some q → p i q) ∧ (l.map bk).sum ≤ Rows.uptoBulkAll ((List.range m).map D) ∧ m ≤ Rows.uptoBulkAll ((List.range m).map D)
  | 0, _ => ⟨[], rfl, fun i q h => by simp at h, by simp, by simp⟩
  | m + 1, h => by
    obtain ⟨l, h1, h2, h3, h4⟩ := choose_list m fun i hi => h i (by omega)
    obtain ⟨q, hq, hb⟩ := h m (by omega)
    have hone := bulk_one (D m)
    refine ⟨l ++ [q], by simp [h1], fun i r hr => ?_, ?_, ?_⟩
    · by_cases hi : i < l.length
      · rw [List.getElem?_append_left hi] at hr
        exact h2 i r hr
      · rw [List.getElem?_append_right (by omega)] at hr
        have hi' : i = m := by
          have := (List.getElem?_eq_some_iff.1 hr).1
          simp at this
          omega
        subst hi'
        simp [h1] at hr
        subst hr
        exact hq
    · rw [List.range_succ, List.map_append (f := D), bulk_app]
      simp [Rows.uptoBulkAll]
      omega
    · rw [List.range_succ, List.map_append (f := D), bulk_app]
      simp [Rows.uptoBulkAll]
      omega
theorem bulk_mem {H : Type} {D : Nat → DataW H} {i m : Nat} (h : i < m) : Rows.uptoBulk (D i) ≤ Rows.uptoBulkAll ((List.range m).map D) := by
  induction m with
  | zero => omega
  | succ m ih =>
    rw [List.range_succ, List.map_append, bulk_app]
    by_cases e : i = m
    · subst e; simp [Rows.uptoBulkAll]
    · have := ih (by omega)
      omega
theorem reads_slice {P : Program} {T e : TypeId} {α : Type} [Enc α] {bk : α → Nat} {ok : α → Prop} (hu : P.underlying T = some (.slice e)) (hk : P.cellsOf e = Enc.k α) (hr : Reads P e bk ok) : Reads P T (fun l : List α => (l.map bk).sum + 1) (fun l => ∀ a ∈ l, ok a) := by
  intro H enc w base sp held fuel cs x h hb
  rcases Deep.open_slice hu h with ⟨rfl, rfl⟩ | ⟨a, len, cap, m, n, D, Pl, rfl, _, hl, _, hmm, rfl, hx⟩
  · exact ⟨[], ⟨_, rfl, Sl.nil _⟩, (fun a h => by cases h), by simp [Rows.uptoBulk]⟩
  have hlm : len ≤ m := by rw [hmm]; split <;> omega
  simp only [Rows.uptoBulk] at hb ⊢
  obtain ⟨l, h1, h2, h3, h4⟩ := choose_list (bk := bk) (D := D) (p := fun i q => ok q ∧ ∃ cs', w.cells? base (a.add (i * P.cellsOf e)) (P.cellsOf e) = some cs' ∧ Enc.Ok cs' q ⟨w, fun _ => False⟩) len (fun i hi => by
    obtain ⟨cs', hc, ht⟩ := hx i (by omega)
    obtain ⟨q, hq, ho, hq2⟩ := hr enc w base sp held n cs' _ ht (by have := bulk_mem (D := D) hi; simp only; omega)
    exact ⟨q, ⟨ho, cs', hc, hq⟩, hq2⟩)
  refine ⟨l, ⟨_, rfl, ?_⟩, fun q hq => ?_, by omega⟩
  · subst h1
    refine ⟨by simp only [LIM]; omega, some a, cap, rfl, hl, fun hne => ?_⟩
    have hpos : 0 < l.length := List.length_pos_iff.2 hne
    have hsp : a.spot = none := by
      obtain ⟨_, cs', hc, hO⟩ := h2 0 l[0] (List.getElem?_eq_getElem hpos)
      have h5 := World.cells?_some hc
      have h6 := h5.2.2 0 (by rw [hk]; exact Enc.pos)
      have hlen : cs'.length = P.cellsOf e := h5.2.1
      have h7 : 0 < cs'.length := by rw [hlen, hk]; exact Enc.pos
      rw [List.getElem?_eq_getElem h7] at h6
      simp only [Nat.zero_mul, Addr.add, if_true] at h6
      unfold World.cell? at h6
      cases hs : a.spot with
      | none => rfl
      | some z =>
        rw [hs] at h6
        split at h6 <;> simp at h6
    refine ⟨a.block, a.off, by rw [← hsp], fun i q hq => ?_⟩
    obtain ⟨_, cs', hc, hO⟩ := h2 i q hq
    refine ⟨cs', hO, fun j v hj => ⟨?_, fun h => h⟩⟩
    have h5 := World.cells?_some hc
    have hjl : j < cs'.length := (List.getElem?_eq_some_iff.1 hj).1
    have h6 := h5.2.2 j (by rw [← h5.2.1]; exact hjl)
    have ea : a = ⟨a.block, a.off, none⟩ := by rw [← hsp]
    rw [hj, ea, Addr.add_lit, Addr.add_lit, hk] at h6
    exact h6
  · obtain ⟨i, hi⟩ := List.getElem?_of_mem hq
    exact (h2 i q hi).1
theorem reads_struct {P : Program} {T : TypeId} {α β γ δ : Type} [Enc α] [Enc β] [Enc γ] [Enc δ] {f0 f1 f2 : Field} {b0 : β → Nat} {b1 : γ → Nat} {b2 : δ → Nat} {k0 : β → Prop} {k1 : γ → Prop} {k2 : δ → Prop} (bk : α → Nat) (ok : α → Prop) (mk : β → γ → δ → α)
    (hS : P.underlying T = some (.struct #[f0, f1, f2])) (r0 : Reads P f0.type b0 k0) (r1 : Reads P f1.type b1 k1) (r2 : Reads P f2.type b2 k2)
    (hmk : ∀ cs a b d c, cs.length = P.cellsOf T → Enc.Ok ((cs.drop f0.offset).take (P.cellsOf f0.type)) a c → Enc.Ok ((cs.drop f1.offset).take (P.cellsOf f1.type)) b c → Enc.Ok ((cs.drop f2.offset).take (P.cellsOf f2.type)) d c → Enc.Ok cs (mk a b d) c)
    (hbk : ∀ a b d, bk (mk a b d) ≤ b0 a + b1 b + b2 d) (hok : ∀ a b d, k0 a → k1 b → k2 d → bk (mk a b d) ≤ 1048576 → ok (mk a b d)) : Reads P T bk ok := by
  intro H enc w base sp held fuel cs x h hb
  obtain ⟨xs, n, rfl, rfl, hl, hxl, hf⟩ := DataW.trod_struct hS h
  have hxl : xs.length = 3 := hxl
  match xs, hxl with
  | [y0, y1, y2], _ =>
    simp only [List.map_cons, List.map_nil, Rows.uptoBulk, Rows.uptoBulkAll] at hb ⊢
    obtain ⟨a, ha, ka, qa⟩ := r0 enc w base sp held n _ y0 (hf 0 f0 rfl) (by omega)
    obtain ⟨b, hb', kb, qb⟩ := r1 enc w base sp held n _ y1 (hf 1 f1 rfl) (by omega)
    obtain ⟨d, hd, kd, qd⟩ := r2 enc w base sp held n _ y2 (hf 2 f2 rfl) (by omega)
    have hq := hbk a b d
    exact ⟨mk a b d, hmk cs a b d _ hl ha hb' hd, hok a b d ka kb kd (by omega), by omega⟩
end Go.Proofs.YthkdggoohpgnnaaGreatDoor
/- What this program's arguments read as. -/
namespace Go.Proofs.YthkdggoohpgnnaaGreatDoor
open Go Go.Wk
theorem cInt : Tryz.prog.cellsOf 3 = 1 := by kernel_rfl
theorem cStr : Tryz.prog.cellsOf 9 = 1 := by kernel_rfl
theorem cTm : Tryz.prog.cellsOf 23 = 3 := by kernel_rfl
theorem cTs : Tryz.prog.cellsOf 79 = 7 := by kernel_rfl
theorem cAt : Tryz.prog.cellsOf 26 = 5 := by kernel_rfl
theorem cCl : Tryz.prog.cellsOf 30 = 7 := by kernel_rfl
theorem cTms : Tryz.prog.cellsOf 24 = 1 := by kernel_rfl
theorem cAts : Tryz.prog.cellsOf 27 = 1 := by kernel_rfl
theorem cTss : Tryz.prog.cellsOf 28 = 1 := by kernel_rfl
theorem rInt : Reads Tryz.prog 3 (fun _ : Int => 1) (fun _ => True) := reads_int Tryz.underlying3
theorem rStr : Reads Tryz.prog 9 (fun _ : ByteArray => 1) strOk := reads_string Tryz.underlying9
theorem rTm : Reads Tryz.prog 23 (fun _ : Tm => 1) Tm.sm := by
  refine reads_struct _ _ (fun k n s => (⟨k, n, s⟩ : Tm)) Tryz.underlying23 rInt rInt rStr ?_ ?_ ?_
  · intro cs a b d c hl h0 h1 h2
    obtain ⟨v0, v1, v2, rfl⟩ := len3 (hl.trans cTm)
    rw [cInt] at h0 h1
    rw [cStr] at h2
    have h0 : [v0] = [.int .i64 a] := h0
    have h1 : [v1] = [.int .i64 b] := h1
    have h2 : [v2] = [.string d] := h2
    show [v0, v1, v2] = [.int .i64 a, .int .i64 b, .string d]
    simp only [List.cons.injEq, and_true] at h0 h1 h2
    rw [h0, h1, h2]
  · intro a b d
    show 1 ≤ 1 + 1 + 1
    omega
  · intro a b d _ _ h _
    exact h
theorem rTs : Reads Tryz.prog 79 (fun _ : Ts => 2) (fun t => t.l.sm ∧ t.r.sm) := by
  refine reads_struct _ _ (fun k l r => (⟨k, l, r⟩ : Ts)) Tryz.underlying79 rInt rTm rTm ?_ ?_ ?_
  · intro cs a b d c hl h0 h1 h2
    obtain ⟨v0, v1, v2, v3, v4, v5, v6, rfl⟩ := len7 (hl.trans cTs)
    rw [cInt] at h0
    rw [cTm] at h1 h2
    have h0 : [v0] = [.int .i64 a] := h0
    have h1 : [v1, v2, v3] = b.cs := h1
    have h2 : [v4, v5, v6] = d.cs := h2
    show [v0, v1, v2, v3, v4, v5, v6] = Ts.cs ⟨a, b, d⟩
    simp only [List.cons.injEq, and_true, Tm.cs] at h0 h1 h2
    obtain ⟨e1, e2, e3⟩ := h1
    obtain ⟨e4, e5, e6⟩ := h2
    rw [h0, e1, e2, e3, e4, e5, e6]
  · intro a b d
    show 2 ≤ 1 + 1 + 1
    omega
  · intro a b d _ h h' _
    exact ⟨h, h'⟩
theorem sum_one {α : Type} (l : List α) : (l.map fun _ => 1).sum = l.length := by
  induction l with
  | nil => rfl
  | cons a l ih => simp [ih]; omega
theorem rAt : Reads Tryz.prog 26 (fun a : At0 => a.terms.length) At0.sm := by
  refine reads_struct _ _ (fun t n l => (⟨t, n, l⟩ : At0)) Tryz.underlying26 rTm rStr (reads_slice Tryz.underlying24 cTm rTm) ?_ ?_ ?_
  · intro cs a b d c hl h0 h1 h2
    obtain ⟨v0, v1, v2, v3, v4, rfl⟩ := len5 (hl.trans cAt)
    rw [cTm] at h0
    rw [cStr] at h1
    rw [cTms] at h2
    have h0 : [v0, v1, v2] = a.cs := h0
    have h1 : [v3] = [.string b] := h1
    obtain ⟨v, e, hS⟩ : ∃ v, [v4] = [v] ∧ Sl v d c := h2
    refine ⟨v, ?_, hS⟩
    simp only [List.cons.injEq, and_true, Tm.cs] at h0 h1 e
    obtain ⟨e1, e2, e3⟩ := h0
    rw [e1, e2, e3, h1, e]
  · intro a b d
    show (a :: d).length ≤ 1 + 1 + ((d.map fun _ => 1).sum + 1)
    rw [sum_one, List.length_cons]
    omega
  · intro a b d h h' h'' _
    exact ⟨h', h, h''⟩
/-- What a clause that was read is. -/
def Cl.rd (x : Cl) : Prop := x.sm ∧ x.terms.length ≤ 1048576
theorem sum_two {α : Type} (l : List α) : (l.map fun _ => 2).sum = 2 * l.length := by
  induction l with
  | nil => rfl
  | cons a l ih => simp [ih]; omega
theorem rCl : Reads Tryz.prog 30 (fun x : Cl => x.terms.length) Cl.rd := by
  refine reads_struct _ _ (fun h b t => (⟨h, b, t⟩ : Cl)) Tryz.underlying30 rAt (reads_slice Tryz.underlying27 cAt rAt) (reads_slice Tryz.underlying28 cTs rTs) ?_ ?_ ?_
  · intro cs a b d c hl h0 h1 h2
    obtain ⟨v0, v1, v2, v3, v4, v5, v6, rfl⟩ := len7 (hl.trans cCl)
    rw [cAt] at h0
    rw [cAts] at h1
    rw [cTss] at h2
    obtain ⟨u, e0, hU⟩ : ∃ u, [v0, v1, v2, v3, v4] = a.cs u ∧ Sl u a.args c := h0
    obtain ⟨v, e1, hV⟩ : ∃ v, [v5] = [v] ∧ Sl v b c := h1
    obtain ⟨w, e2, hW⟩ : ∃ v, [v6] = [v] ∧ Sl v d c := h2
    refine ⟨u, v, w, ?_, hU, hV, hW⟩
    simp only [List.cons.injEq, and_true, At0.cs] at e0 e1 e2
    obtain ⟨q1, q2, q3, q4, q5⟩ := e0
    rw [q1, q2, q3, q4, q5, e1, e2]
  · intro a b d
    show (Cl.terms ⟨a, b, d⟩).length ≤ a.terms.length + ((b.map fun a => a.terms.length).sum + 1) + ((d.map fun _ => 2).sum + 1)
    simp only [Cl.terms, Cl.bodyTerms, Cl.testTerms, List.length_append, List.length_flatMap, List.length_cons, List.length_nil]
    rw [sum_two]
    have : (d.map fun _ => 0 + 1 + 1).sum = 2 * d.length := by
      induction d with
      | nil => rfl
      | cons a l ih => simp [ih]; omega
    omega
  · intro a b d h h' h'' hb
    exact ⟨⟨h, h', h''⟩, hb⟩
theorem flat_len {α β : Type} {f : α → List β} (hf : ∀ a, 1 ≤ (f a).length) : ∀ l : List α, l.length ≤ (l.flatMap f).length
  | [] => by simp
  | a :: l => by
    have := hf a
    have := flat_len hf l
    simp only [List.length_cons, List.flatMap_cons, List.length_append]
    omega
theorem flat_mem {α β : Type} {f : α → List β} {l : List α} {a : α} (h : a ∈ l) : (f a).length ≤ (l.flatMap f).length := by
  induction l with
  | nil => cases h
  | cons b l ih =>
    simp only [List.flatMap_cons, List.length_append]
    rcases List.mem_cons.1 h with rfl | h
    · omega
    · have := ih h
      omega
theorem Cl.rd.fit {x : Cl} (h : Cl.rd x) : x.fit := ⟨h.1, by have := h.2; omega⟩
theorem Cl.rd.lends {x : Cl} (h : Cl.rd x) : x.lends := by
  have h2 := h.2
  simp only [Cl.terms, List.length_append] at h2
  have h3 : x.head.args.length + 1 = x.head.terms.length := rfl
  have h4 : x.body.length ≤ x.bodyTerms.length := flat_len (fun a => by simp [At0.terms]) _
  have h5 : x.tests.length ≤ x.testTerms.length := flat_len (fun a => by simp) _
  refine ⟨by omega, by omega, fun a ha => ?_, by omega⟩
  have h6 : a.terms.length ≤ x.bodyTerms.length := flat_mem ha
  have h7 : a.args.length + 1 = a.terms.length := rfl
  omega
end Go.Proofs.YthkdggoohpgnnaaGreatDoor
/- What the listed variables hold; the end that all rows share. -/
namespace Go.Proofs.YthkdggoohpgnnaaGreatDoor
open Go Go.Wk Go.ChangeShapes Go.WideShapes Go.ChangeAt Go.RowKit
section
variable {H : Type} {enc : TypeId × Value → H} {w : World} {base : Nat} {sp : Nat → Bool} {held : Bool}
theorem exactTm {fuel : Nat} {cs : List Value} {p : List MemPlace} {k n : Int} {bs : List UInt8} (h : DataW.trod enc Tryz.prog w base sp held fuel 23 cs = some (.agg [.lit (.int .i64 k), .lit (.int .i64 n), .lit (.string bs)], p)) : cs = Tm.cs ⟨k, n, ⟨bs.toArray⟩⟩ := by
  obtain ⟨xs, m, rfl, hx, hl, hxl, hf⟩ := DataW.trod_struct Tryz.underlying23 h
  obtain ⟨v0, v1, v2, rfl⟩ := len3 (hl.trans cTm)
  obtain ⟨y0, y1, y2, rfl⟩ := len3 (show xs.length = 3 from hxl)
  have g0 : DataW.trod enc Tryz.prog w base sp held m 3 ((List.drop 0 [v0, v1, v2]).take (Tryz.prog.cellsOf 3)) = some y0 := hf 0 _ rfl
  have g1 : DataW.trod enc Tryz.prog w base sp held m 3 ((List.drop 1 [v0, v1, v2]).take (Tryz.prog.cellsOf 3)) = some y1 := hf 1 _ rfl
  have g2 : DataW.trod enc Tryz.prog w base sp held m 9 ((List.drop 2 [v0, v1, v2]).take (Tryz.prog.cellsOf 9)) = some y2 := hf 2 _ rfl
  rw [cInt] at g0 g1
  rw [cStr] at g2
  obtain ⟨a, e0, q0, _⟩ := DataW.trod_int Tryz.underlying3 g0
  obtain ⟨b, e1, q1, _⟩ := DataW.trod_int Tryz.underlying3 g1
  obtain ⟨d, e2, q2, _⟩ := DataW.trod_string Tryz.underlying9 g2
  subst q0 q1 q2
  simp only [List.map_cons, List.map_nil, Prod.mk.injEq, DataW.agg.injEq, List.cons.injEq, DataW.lit.injEq, Lit.int.injEq, Lit.string.injEq, true_and, and_true] at hx
  obtain ⟨⟨rfl, rfl, rfl⟩, _⟩ := hx
  have e0 : [v0] = [.int .i64 k] := e0
  have e1 : [v1] = [.int .i64 n] := e1
  have e2 : [v2] = [.string d] := e2
  simp only [List.cons.injEq, and_true] at e0 e1 e2
  rw [e0, e1, e2]
theorem exactTs {fuel : Nat} {cs : List Value} {p : List MemPlace} {o k n k' n' : Int} {bs bs' : List UInt8} (h : DataW.trod enc Tryz.prog w base sp held fuel 79 cs = some (.agg [.lit (.int .i64 o), .agg [.lit (.int .i64 k), .lit (.int .i64 n), .lit (.string bs)], .agg [.lit (.int .i64 k'), .lit (.int .i64 n'), .lit (.string bs')]], p)) : cs = Ts.cs ⟨o, ⟨k, n, ⟨bs.toArray⟩⟩, ⟨k', n', ⟨bs'.toArray⟩⟩⟩ := by
  obtain ⟨xs, m, rfl, hx, hl, hxl, hf⟩ := DataW.trod_struct Tryz.underlying79 h
  obtain ⟨v0, v1, v2, v3, v4, v5, v6, rfl⟩ := len7 (hl.trans cTs)
  obtain ⟨y0, y1, y2, rfl⟩ := len3 (show xs.length = 3 from hxl)
  have g0 : DataW.trod enc Tryz.prog w base sp held m 3 ((List.drop 0 [v0, v1, v2, v3, v4, v5, v6]).take (Tryz.prog.cellsOf 3)) = some y0 := hf 0 _ rfl
  have g1 : DataW.trod enc Tryz.prog w base sp held m 23 ((List.drop 1 [v0, v1, v2, v3, v4, v5, v6]).take (Tryz.prog.cellsOf 23)) = some y1 := hf 1 _ rfl
  have g2 : DataW.trod enc Tryz.prog w base sp held m 23 ((List.drop 4 [v0, v1, v2, v3, v4, v5, v6]).take (Tryz.prog.cellsOf 23)) = some y2 := hf 2 _ rfl
  rw [cInt] at g0
  rw [cTm] at g1 g2
  obtain ⟨a, e0, q0, _⟩ := DataW.trod_int Tryz.underlying3 g0
  subst q0
  obtain ⟨d1, p1⟩ := y1
  obtain ⟨d2, p2⟩ := y2
  simp only [List.map_cons, List.map_nil, Prod.mk.injEq, DataW.agg.injEq, List.cons.injEq, DataW.lit.injEq, Lit.int.injEq, true_and, and_true] at hx
  obtain ⟨⟨rfl, rfl, rfl⟩, _⟩ := hx
  have e1 := exactTm g1
  have e2 := exactTm g2
  have e0 : [v0] = [.int .i64 o] := e0
  have e1 : [v1, v2, v3] = _ := e1
  have e2 : [v4, v5, v6] = _ := e2
  simp only [List.cons.injEq, and_true, Tm.cs] at e0 e1 e2
  obtain ⟨a1, a2, a3⟩ := e1
  obtain ⟨b1, b2, b3⟩ := e2
  rw [e0, a1, a2, a3, b1, b2, b3]
end
theorem box_of_var {P : Program} {W : World} {n : String} {g : Nat} {cs : Array Value} (hg : P.globalNamed n = some g) (h : W.var? P n = some cs) : Box g cs.toList ⟨W, fun _ => False⟩ := by
  simp only [World.var?, hg, Option.bind_some] at h
  split at h
  · rename_i c t fr hb
    cases h
    exact ⟨⟨t, fr, by simpa using hb⟩, fun h => h⟩
  · cases h
theorem str_bytes {a b : String} (h : a.toUTF8.data.toList = b.toUTF8.data.toList) : a = b := String.toByteArray_inj.1 (ByteArray.ext (Array.ext' h))
theorem trod_func {P : Program} {w : World} {base : Nat} {sp : Nat → Bool} {fuel : Nat} {t : TypeId} {ps rs : Array TypeId} {vd : Bool} {v : Value} {bs : List UInt8} {b : UInt8} {p : List MemPlace} (ht : P.underlying t = some (.func ps rs vd)) (h : DataW.trod (funcToken P) P w base sp true fuel t [v] = some (.held (b :: bs), p)) :
    ∃ (f : FuncId) (fn : Func), v = .func (.func f) #[] #[] ∧ P.funcNamed fn.name = some f ∧ fn.name.toUTF8.data.toList = b :: bs := by
  cases fuel with
  | zero => simp [DataW.trod] at h
  | succ n =>
    unfold DataW.trod at h
    rw [ht] at h
    have h2 : funcToken P (t, v) = b :: bs := by
      split at h <;> simp_all
    obtain ⟨f, fn, e, _, e2, e3⟩ := funcToken_tells h2
    exact ⟨f, fn, e, e2, e3⟩
theorem cChk : Tryz.prog.cellsOf 115 = 1 := by kernel_rfl
theorem cFn : Tryz.prog.cellsOf 50 = 1 := by kernel_rfl
theorem exactFn {w : World} {base : Nat} {sp : Nat → Bool} {fuel : Nat} {cs : List Value} {bs : List UInt8} {b : UInt8} {p : List MemPlace} {f : FuncId} (nm : String) (hn : nm.toUTF8.data.toList = b :: bs) (hf : Tryz.prog.funcNamed nm = some f)
    (h : DataW.trod (funcToken Tryz.prog) Tryz.prog w base sp true fuel 115 cs = some (.agg [.held (b :: bs)], p)) : cs = [.func (.func f) #[] #[]] := by
  obtain ⟨xs, m, rfl, hx, hl, hxl, hfd⟩ := DataW.trod_struct Tryz.underlying115 h
  obtain ⟨v, rfl⟩ := List.length_eq_one_iff.1 (hl.trans cChk)
  obtain ⟨y, rfl⟩ := List.length_eq_one_iff.1 (show xs.length = 1 from hxl)
  have g0 : DataW.trod (funcToken Tryz.prog) Tryz.prog w base sp true m 50 ((List.drop 0 [v]).take (Tryz.prog.cellsOf 50)) = some y := hfd 0 _ rfl
  rw [cFn] at g0
  obtain ⟨d, q⟩ := y
  simp only [List.map_cons, List.map_nil, Prod.mk.injEq, DataW.agg.injEq, List.cons.injEq, and_true] at hx
  obtain ⟨rfl, _⟩ := hx
  obtain ⟨f', fn, e, e2, e3⟩ := trod_func Tryz.underlying50 (show DataW.trod (funcToken Tryz.prog) Tryz.prog w base sp true m 50 [v] = _ from g0)
  have : fn.name = nm := str_bytes (e3.trans hn.symm)
  rw [this, hf] at e2
  cases e2
  rw [e]
theorem len6 {α : Type} {l : List α} (h : l.length = 6) : ∃ a b c d e f, l = [a, b, c, d, e, f] := by
  match l, h with
  | [a, b, c, d, e, f], _ => exact ⟨a, b, c, d, e, f, rfl⟩
theorem cChks : Tryz.prog.cellsOf 116 = 6 := by kernel_rfl
set_option maxRecDepth 100000 in
theorem checks_of {W : World} {d : DataW Unit} (h : funcsAt Tryz.prog W "hearsay/clause.checks" d) (hd : (Rows.laid_hearsay_clause_checks : DataW Unit) = .iface "func table" d) : Box 1 chkFs ⟨W, fun _ => False⟩ := by
  obtain ⟨g, t, cs, fuel, p, hg, ht, hv, hr⟩ := h
  have hg0 : Tryz.prog.globalNamed "hearsay/clause.checks" = some 1 := by kernel_rfl
  have ht0 : (Tryz.prog.globals[(1 : Nat)]?).map (·.type) = some 116 := by kernel_rfl
  obtain rfl := Option.some.inj (hg0.symm.trans hg)
  obtain rfl := Option.some.inj (ht0.symm.trans ht)
  have hb := box_of_var hg0 hv
  have hcs : cs.toList = chkFs := by
    generalize cs.toList = l at hr
    simp only [Rows.laid_hearsay_clause_checks, DataW.iface.injEq, true_and] at hd
    subst hd
    obtain ⟨xs, m, rfl, hx, hl, hxl, hf⟩ := DataW.trod_array Tryz.underlying116 hr
    obtain ⟨v0, v1, v2, v3, v4, v5, rfl⟩ := len6 (hl.trans cChks)
    obtain ⟨y0, y1, y2, y3, y4, y5, rfl⟩ := len6 hxl
    have g0 := hf 0 (by decide)
    rw [cChk] at g0
    obtain ⟨d0, p0⟩ := y0
    have g1 := hf 1 (by decide)
    rw [cChk] at g1
    obtain ⟨d1, p1⟩ := y1
    have g2 := hf 2 (by decide)
    rw [cChk] at g2
    obtain ⟨d2, p2⟩ := y2
    have g3 := hf 3 (by decide)
    rw [cChk] at g3
    obtain ⟨d3, p3⟩ := y3
    have g4 := hf 4 (by decide)
    rw [cChk] at g4
    obtain ⟨d4, p4⟩ := y4
    have g5 := hf 5 (by decide)
    rw [cChk] at g5
    obtain ⟨d5, p5⟩ := y5
    simp only [List.map_cons, List.map_nil, Prod.mk.injEq, DataW.funcsOut, DataW.funcsOutAll, DataW.agg.injEq, List.cons.injEq, and_true, beq_self_eq_true, if_true] at hx
    obtain ⟨⟨rfl, rfl, rfl, rfl, rfl, rfl⟩, _⟩ := hx
    have e0 : [v0] = _ := exactFn (f := 218) "hearsay/clause.tooLong" (by decide +kernel) (by kernel_rfl) g0
    have e1 : [v1] = _ := exactFn (f := 219) "hearsay/clause.badAtom" (by decide +kernel) (by kernel_rfl) g1
    have e2 : [v2] = _ := exactFn (f := 220) "hearsay/clause.badTest" (by decide +kernel) (by kernel_rfl) g2
    have e3 : [v3] = _ := exactFn (f := 221) "hearsay/clause.openHead" (by decide +kernel) (by kernel_rfl) g3
    have e4 : [v4] = _ := exactFn (f := 222) "hearsay/clause.unsafe" (by decide +kernel) (by kernel_rfl) g4
    have e5 : [v5] = _ := exactFn (f := 223) "hearsay/clause.misnumbered" (by decide +kernel) (by kernel_rfl) g5
    simp only [List.cons.injEq, and_true] at e0 e1 e2 e3 e4 e5
    rw [e0, e1, e2, e3, e4, e5]
    rfl
  rw [hcs] at hb
  exact hb
theorem gBt : Tryz.prog.globalNamed "hearsay/hearsayref03.behindTerm" = some 2 := by kernel_rfl
theorem gBs : Tryz.prog.globalNamed "hearsay/hearsayref03.behindTest" = some 0 := by kernel_rfl
theorem gNo : Tryz.prog.globalNamed "hearsay/term.none" = some 3 := by kernel_rfl
theorem tBt : (Tryz.prog.globals[(2 : Nat)]?).map (·.type) = some 23 := by kernel_rfl
theorem tBs : (Tryz.prog.globals[(0 : Nat)]?).map (·.type) = some 79 := by kernel_rfl
theorem tNo : (Tryz.prog.globals[(3 : Nat)]?).map (·.type) = some 23 := by kernel_rfl
theorem none_of {W : World} {ps : List MemPlace} {r : List (String × DataW Unit)} (h : DataW.LaidVars Tryz.prog W (("hearsay/term.none", Rows.laid_hearsay_term_none) :: r) ps) : Box 3 Tn.cs ⟨W, fun _ => False⟩ := by
  obtain ⟨g, t, cs, fuel, p, q, hg, ht, hv, hd, _, _⟩ := h
  obtain rfl := Option.some.inj (gNo.symm.trans hg)
  obtain rfl := Option.some.inj (tNo.symm.trans ht)
  have hb := box_of_var gNo hv
  rw [exactTm hd] at hb
  exact hb
theorem lend_of {W : World} {ps : List MemPlace} {r : List (String × DataW Unit)} (h : DataW.LaidVars Tryz.prog W (("hearsay/hearsayref03.behindTerm", Rows.laid_hearsay_hearsayref03_behindTerm) :: ("hearsay/hearsayref03.behindTest", Rows.laid_hearsay_hearsayref03_behindTest) :: r) ps) : LendOk ⟨W, fun _ => False⟩ ∧ ∃ q, DataW.LaidVars Tryz.prog W r q := by
  obtain ⟨g, t, cs, fuel, p, q, hg, ht, hv, hd, ⟨g', t', cs', fuel', p', q', hg', ht', hv', hd', hr, _⟩, _⟩ := h
  obtain rfl := Option.some.inj (gBt.symm.trans hg)
  obtain rfl := Option.some.inj (tBt.symm.trans ht)
  obtain rfl := Option.some.inj (gBs.symm.trans hg')
  obtain rfl := Option.some.inj (tBs.symm.trans ht')
  have hb := box_of_var gBt hv
  have hb' := box_of_var gBs hv'
  rw [exactTm hd] at hb
  rw [exactTs hd'] at hb'
  exact ⟨⟨hb, hb'⟩, q', hr⟩
theorem glob4 {W : World} (h : laidMetH Tryz.prog Rows.subsumeFindsRow.laid W) : GlobOk ⟨W, fun _ => False⟩ ∧ LendOk ⟨W, fun _ => False⟩ := by
  have hc := checks_of (laidMetH.funcs h (n := "hearsay/clause.checks") (.tail _ (.tail _ (.tail _ (.head _))))) rfl
  unfold laidMetH at h
  have e1 : (Rows.subsumeFindsRow.laid.filter fun x => x.2.handleName?.isSome) = [("hearsay/clause.checks", Rows.laid_hearsay_clause_checks)] := rfl
  rw [e1] at h
  have h := h.1
  have e2 : (Rows.subsumeFindsRow.laid.filter fun x => x.2.handleName?.isNone) = [("hearsay/hearsayref03.behindTerm", Rows.laid_hearsay_hearsayref03_behindTerm), ("hearsay/hearsayref03.behindTest", Rows.laid_hearsay_hearsayref03_behindTest), ("hearsay/term.none", Rows.laid_hearsay_term_none)] := rfl
  rw [e2] at h
  obtain ⟨ps, hv, _⟩ := h
  obtain ⟨hl, q, hr⟩ := lend_of hv
  exact ⟨⟨none_of hr, hc⟩, hl⟩
theorem glob2 {W : World} (h : laidMetH Tryz.prog Rows.subsumeLeastRow.laid W) : GlobOk ⟨W, fun _ => False⟩ := by
  have hc := checks_of (laidMetH.funcs h (n := "hearsay/clause.checks") (.tail _ (.head _))) rfl
  unfold laidMetH at h
  have e1 : (Rows.subsumeLeastRow.laid.filter fun x => x.2.handleName?.isSome) = [("hearsay/clause.checks", Rows.laid_hearsay_clause_checks)] := rfl
  rw [e1] at h
  have h := h.1
  have e2 : (Rows.subsumeLeastRow.laid.filter fun x => x.2.handleName?.isNone) = [("hearsay/term.none", Rows.laid_hearsay_term_none)] := rfl
  rw [e2] at h
  obtain ⟨ps, hv, _⟩ := h
  exact ⟨none_of hv, hc⟩
/-! ### the end that all rows share -/
theorem laidOut : laidOutB Tryz.prog = true := by kernel_rfl
theorem trodAll_below {H : Type} {enc : TypeId × Value → H} {P : Program} (hl : laidOutB P = true) {W W' : World} (hb : Below W.heap.size W W') : ∀ (ts : List TypeId), (∀ t ∈ ts, P.readableRec t = true ∧ t < P.types.size) → ∀ (vs : List Value) (ds : List (DataW H)) (ps : List MemPlace),
    DataW.TrodAll enc P W 0 (fun _ => true) true ts vs ds ps → (∀ x ∈ ps, x.block < W.heap.size) → DataW.TrodAll enc P W' 0 (fun b => decide (b < W.heap.size)) true ts vs ds ps
  | [], _, vs, ds, ps, h, _ => by
    obtain ⟨rfl, rfl, rfl⟩ := trodAll_nil h
    exact trodAll_mk0
  | t :: ts, ht, vs, ds, ps, h, hlt => by
    obtain ⟨v, vs, d, ds, p, q, rfl, rfl, rfl, h1, h2⟩ := trodAll_cons h
    exact ⟨p, q, Below.trod hl (ht t (.head _)).1 (ht t (.head _)).2 h1 hb (fun x hx => hlt x (List.mem_append_left _ hx)), trodAll_below hl hb ts (fun t h => ht t (.tail _ h)) vs ds q h2 (fun x hx => hlt x (List.mem_append_right _ hx)), rfl⟩
theorem post_true {H : Type} {enc : TypeId × Value → H} {f : Func} {s : ChangeSpec} {W W' : World} {args : Array Value} {ds : List (DataW H)} {before : List MemPlace} (hvars : s.vars = []) (hres : f.resultTypes = #[4])
    (hr : f.params.toList.all (fun t => Tryz.prog.readableRec t && decide (t < Tryz.prog.types.size)) = true)
    (hW : DataW.Whole enc Tryz.prog f.params.toList s.vars false W args.toList ds [] before) (hfn : s.fn H (ds ++ []) = { results := [.lit (.bool true)], args := ds }) (hb : Below W.heap.size W W') : s.post enc Tryz.prog f false true false false W args (.bool true) W' := by
  have hlt := hW.lt
  have hW' := hW
  obtain ⟨p, q, hA, hV, rfl, _, _⟩ := hW
  rw [hvars] at hV
  obtain ⟨_, rfl⟩ := trodVars_none hV
  refine ⟨ds, [], p ++ [], [], p, [], hW', ?_, ?_, ?_, hb.frame _, fun h => by cases h⟩
  · rw [hfn, hres]
    exact trodAll_mk1 (shut_bool Tryz.underlying4 true)
  · rw [hfn]
    refine trodAll_below laidOut hb _ (fun t ht => ?_) _ _ _ hA (fun x hx => hlt x (List.mem_append_left _ hx))
    have := List.all_eq_true.1 hr t ht
    simpa using this
  · rw [hfn, hvars]
    rfl
end Go.Proofs.YthkdggoohpgnnaaGreatDoor
/- What the rows' arguments read as, one lemma a type. -/
namespace Go.Proofs.YthkdggoohpgnnaaGreatDoor
open Go Go.Wk Go.ChangeShapes Go.WideShapes Go.ChangeAt Go.RowKit
section
variable {H : Type} {enc : TypeId × Value → H} {W : World} {base : Nat} {sp : Nat → Bool} {held : Bool} {v : Value} {d : DataW H} {p : List MemPlace} {r : Reach} {b0 : Nat}
theorem rowOwn : ownKnob Tryz.prog.godebug = none := by kernel_rfl
theorem small {l : List (DataW H)} (hk : Rows.uptoSmall H l = true) : Rows.uptoBulkAll l ≤ 1048576 := of_decide_eq_true hk
set_option maxRecDepth 100000 in
theorem argCl (hv : Value.okWide Tryz.prog W r b0 30 v) (h : DataW.Trod enc Tryz.prog W base sp held 30 v d p) (hb : Rows.uptoBulk d ≤ 1048576) : ∃ x : Cl, Ag x v ⟨W, fun _ => False⟩ ∧ Cl.rd x := by
  obtain ⟨fuel, h⟩ := h
  obtain ⟨x, hx, ho, _⟩ := rCl enc W base sp held fuel _ _ h hb
  obtain ⟨cs, rfl, _⟩ := okWide_struct Tryz.underlying30 hv
  exact ⟨x, ⟨cs.toList, congrArg Value.agg (Array.toArray_toList).symm, hx⟩, ho⟩
theorem sum_le {α : Type} (f : α → Nat) : ∀ l : List α, (∀ a ∈ l, 1 ≤ f a) → l.length ≤ (l.map f).sum
  | [], _ => by simp
  | a :: l, h => by
    have h1 := h a (.head _)
    have h2 := sum_le f l fun b hb => h b (.tail _ hb)
    simp only [List.length_cons, List.map_cons, List.sum_cons]
    omega
set_option maxRecDepth 100000 in
theorem argCls (hv : Value.okWide Tryz.prog W r b0 37 v) (h : DataW.Trod enc Tryz.prog W base sp held 37 v d p) (hb : Rows.uptoBulk d ≤ 1048576) : ∃ xs : List Cl, Sl v xs ⟨W, fun _ => False⟩ ∧ (∀ x ∈ xs, Cl.rd x) ∧ xs.length ≤ 1048576 ∧ (xs.map fun x => x.terms.length).sum ≤ 1048576 := by
  obtain ⟨fuel, h⟩ := h
  obtain ⟨xs, hx, ho, hl⟩ := reads_slice Tryz.underlying37 cCl rCl enc W base sp held fuel _ _ h hb
  obtain ⟨a, m, cap, rfl⟩ := okWide_slice Tryz.underlying37 hv
  obtain ⟨u, e, hS⟩ : ∃ u, [Value.slice a m cap] = [u] ∧ Sl u xs ⟨W, fun _ => False⟩ := hx
  simp only [List.cons.injEq, and_true] at e
  subst e
  have hl : (xs.map fun x : Cl => x.terms.length).sum + 1 ≤ 1048576 := Nat.le_trans hl hb
  have h3 := sum_le (fun x : Cl => x.terms.length) xs (fun x _ => by simp [Cl.terms, At0.terms])
  exact ⟨xs, hS, ho, by omega, by omega⟩
set_option maxRecDepth 100000 in
theorem argTms (hv : Value.okWide Tryz.prog W r b0 24 v) (h : DataW.Trod enc Tryz.prog W base sp held 24 v d p) (hb : Rows.uptoBulk d ≤ 1048576) : ∃ xs : List Tm, Sl v xs ⟨W, fun _ => False⟩ ∧ (∀ x ∈ xs, x.sm) ∧ xs.length ≤ 1048576 := by
  obtain ⟨fuel, h⟩ := h
  obtain ⟨xs, hx, ho, hl⟩ := reads_slice Tryz.underlying24 cTm rTm enc W base sp held fuel _ _ h hb
  obtain ⟨a, m, cap, rfl⟩ := okWide_slice Tryz.underlying24 hv
  obtain ⟨u, e, hS⟩ : ∃ u, [Value.slice a m cap] = [u] ∧ Sl u xs ⟨W, fun _ => False⟩ := hx
  simp only [List.cons.injEq, and_true] at e
  subst e
  have hl : (xs.map fun _ : Tm => 1).sum + 1 ≤ 1048576 := Nat.le_trans hl hb
  have h3 := sum_le (fun _ : Tm => 1) xs (fun x _ => Nat.le_refl _)
  exact ⟨xs, hS, ho, by omega⟩
set_option maxRecDepth 100000 in
theorem argInt (hv : Value.okWide Tryz.prog W r b0 3 v) : ∃ n : Int, v = .int .i64 n := okWide_int Tryz.underlying3 hv
end
end Go.Proofs.YthkdggoohpgnnaaGreatDoor
