/- a part of the proof: lemmas on walks, on plain data, contracts of functions. -/
import Derived.Test.YthkdggoohpgnnaaGreatDoorA2
import Derived.Test.YthkdggoohpgnnaaGreatDoorA4
import Derived.Test.YthkdggoohpgnnaaGreatDoorA8
set_option linter.all false
/- Contracts: a clause checked, of the program's own. -/
namespace Go.Wk
open Go
class ArrT (P : Program) (T : TypeId) (len e : outParam Nat) : Prop where
  h : P.underlying T = some (.array len e)
section
variable {P : Program} {ops : Array Oper} {Q : Exit → Act → World → Prop} {n : Nat} {f : Nat → Value} {rest : List Oper} {ty : TypeId} {ps : String} {af : Array Edge} {d : Tmp} {w : World}
theorem s_indexA {T e len i : Nat} {x y : Operand} {cs : List Value} {v : Value} (hn : Nat.blt d n = true) [ArrT P T len e] [Agg P e 1] (hx : opd f x = .agg cs.toArray) (hy : opd f y = .int .i64 (i : Nat)) (hi : i < len) (hv : cs[i]? = some v) (k : W P ops Q rest n (upd f d (.agg [v].toArray)) w) :
    W P ops Q (⟨some d, .index T x y, ty, ps, af, none⟩ :: rest) n f w := by
  have he : (cs.drop i).take 1 = [v] := by rw [drop_get hv]; rfl
  refine st_val hn ?_ k
  have h2 : (i : Int) < len := by omega
  simp [execOp, Instr.index, hx, hy, asIntOf, run_underlying (ArrT.h (P := P) (T := T)), part, Agg.ag (P := P) (T := e), Agg.sz (P := P) (T := e), hi, he]
end
end Go.Wk
namespace Go.Proofs.YthkdggoohpgnnaaGreatDoor
open Go Go.Wk
instance : ArrT Tryz.prog 116 6 115 := ⟨by kernel_rfl⟩
instance : Agg Tryz.prog 115 1 := .of (by kernel_rfl) (by kernel_rfl)
instance : Agg Tryz.prog 116 6 := .of (by kernel_rfl) (by kernel_rfl)
instance : Prim Tryz.prog 50 := .of (by kernel_rfl) (by kernel_rfl)
instance : Zer Tryz.prog 115 (.agg #[.nilFunc]) := .of (by kernel_rfl)
instance : Fld Tryz.prog 115 0 0 := .of (k := 0) (by kernel_rfl)
/-- The table of what is looked at. -/
def chkFs : List Value := [.func (.func 218) #[] #[], .func (.func 219) #[] #[], .func (.func 220) #[] #[], .func (.func 221) #[] #[], .func (.func 222) #[] #[], .func (.func 223) #[] #[]]
def Cl.looks (x : Cl) : List Int := [if 8 < x.body.length ∨ 8 < x.tests.length then 31 else 0, orI ((x.head :: x.body).map At0.check), orI (x.tests.map Ts.check), if x.head.by_.isVar then 33 else 0, if (varsOf (x.head.terms ++ x.testTerms)).any (fun t => !decide (t ∈ x.bodyTerms)) then 34 else 0, if misnum (varsOf x.terms) 0 then 35 else 0]
theorem looks_check (x : Cl) : orI (Cl.looks x) = x.check := by
  unfold Cl.looks Cl.check
  by_cases h1 : 8 < x.body.length ∨ 8 < x.tests.length
  · simp [h1, orI]
  · rw [if_neg h1, if_neg h1]
    simp only [orI, if_true]
    by_cases h2 : orI ((x.head :: x.body).map At0.check) = 0
    · have h3 : x.head.check = 0 := orI_zero.1 h2 _ (by simp)
      have h4 := (check_parts h3).2.2.1
      have h5 : x.head.by_.isVar = true ↔ x.head.by_.k = 3 := by
        rcases h4 with h4 | h4 | h4
        · rw [h4]; decide
        · simp [Tm.isPrinc, Tm.isConst, Tm.isVar] at h4 ⊢
          omega
        · simp [h4]
          simp [Tm.isVar] at h4
          exact h4.1
      by_cases h6 : x.head.by_.k = 3
      · simp [h5.2 h6, h6]
      · have : x.head.by_.isVar = false := by cases hv : x.head.by_.isVar with | false => rfl | true => exact absurd (h5.1 hv) h6
        simp [this, h6]
    · simp only [List.map_cons, orI] at h2 ⊢
      simp only [h2, if_false]
/-- What the package's variables hold. -/
structure GlobOk (c : Cx) : Prop where
  none : Box 3 Tn.cs c
  checks : Box 1 chkFs c
instance : Mono GlobOk := ⟨fun h k => ⟨Mono.mono h k.none, Mono.mono h k.checks⟩⟩
theorem clause_Check (x : Cl) (u : Value) (c : Cx) (h : Ag x u c) (hf : x.fit) (hg : GlobOk c) : Cn Tryz.prog 47 [u] c (fun v _ => v = .int .i64 x.check) := by
  refine Cn.of Tryz.func47 Tryz.ntmps47 rfl rfl fun hm H HA => ?_
  have HA := ((HA.add h).add hg.none).add hg.checks
  (apply wc_seq; apply wc_region)
  (refine s_boxG rfl rfl Lk H HA ?_; intro p c H HA)
  (refine Z2 ?_; apply w_nil; apply wx_next; apply wc_seq; apply wc_seq; apply wc_region; refine Z7 ?_; refine Z0 ?_; apply w_nil; apply wx_next; apply wc_block)
  refine wc_loopN 6 (fun k => [(1, p), (6, .agg chkFs.toArray), (7, .int .i64 k)]) (fun k => orI (Cl.looks x) = orI ((Cl.looks x).drop k)) 0 H HA Ks (Nat.zero_le _) rfl ?_
  intro k g c hk hp H HA
  (focus (apply wc_seq; apply wc_region; refine Z93 (fun hq => ?_) fun hq => ?_; apply w_nil; apply wx_next; apply wc_seq; refine Z18 ?_; apply wc_skip; apply wx_next; apply wc_seq; apply wc_block; apply wc_seq; apply wc_region; rotate_left; apply w_nil; apply wx_next; apply wc_seq; refine Z19 ?_; apply wc_exit; apply wx_exit_then; apply wx_exit_then; apply wx_exit_same; apply wx_next; apply wc_seq; apply wc_region; refine Z2 ?_; apply w_nil; apply wx_next; apply wc_ret; rotate_left))
  · have hcs : k = 0 ∨ k = 1 ∨ k = 2 ∨ k = 3 ∨ k = 4 ∨ k = 5 := by omega
    rcases hcs with rfl | rfl | rfl | rfl | rfl | rfl
    · (refine s_indexA (cs := chkFs) (i := 0) rfl rfl rfl (by decide) rfl ?_)
      (refine Z61 fun bx c H HA => ?_; refine Z74 fun c H HA => ?_; apply w_nil; apply wx_next; apply wc_seq; apply wc_region; refine Z3 ?_; refine Z41 ?_; refine Z39 HA fun vx HA => ?_)
      (refine s_callV (caps := []) rfl rfl rfl H HA (clause_tooLong x _ _ Lk) ?_; intro vx c H HP; have hvx := HP.h.1; have HA := HP.cut; subst hvx)
      generalize hE : (if 8 < x.body.length ∨ 8 < x.tests.length then (31 : Int) else 0) = e at HP ⊢
      by_cases he : e = 0
      · (refine Z2 ?_; apply w_nil; apply wx_next; apply wc_seq; apply wc_region; refine Z0 ?_; refine Z82 ?_; apply w_nil; apply wx_next; refine Z19 ?_; apply wc_skip; apply wx_norm_block; apply wx_next; apply wc_region; refine Z46 ?_; refine Z0 ?_; apply w_nil)
        have H := H.drop
        exact wx_loopN (0 + 1) H Cu Ks (by omega) (by rw [hp]; simp only [Cl.looks, List.drop_succ_cons, List.drop_zero, orI]; rw [hE, if_pos he])
      · (refine Z2 ?_; apply w_nil; apply wx_next; apply wc_seq; apply wc_region; refine Z0 ?_; refine Z82 ?_; apply w_nil; apply wx_next; refine Z18 ?_; apply wc_seq; apply wc_region; refine Z0 ?_; refine Z2 ?_; apply w_nil; apply wx_next; apply wc_ret; apply wx_ret_block; apply wx_ret_then; apply wx_ret_then; apply wx_ret_block; apply wx_ret_then)
        exact ret_fn H hm (outs1 Tryz.results47 Wh) (by rw [← looks_check, hp]; simp only [Cl.looks, List.drop_succ_cons, List.drop_zero, orI]; rw [hE, if_neg he])
    · (refine s_indexA (cs := chkFs) (i := 1) rfl rfl rfl (by decide) rfl ?_)
      (refine Z61 fun bx c H HA => ?_; refine Z74 fun c H HA => ?_; apply w_nil; apply wx_next; apply wc_seq; apply wc_region; refine Z3 ?_; refine Z41 ?_; refine Z39 HA fun vx HA => ?_)
      (refine s_callV (caps := []) rfl rfl rfl H HA (clause_badAtom x _ _ Lk hf.1 Lk) ?_; intro vx c H HP; have hvx := HP.h.1; have HA := HP.cut; subst hvx)
      generalize hE : orI ((x.head :: x.body).map At0.check) = e at HP ⊢
      by_cases he : e = 0
      · (refine Z2 ?_; apply w_nil; apply wx_next; apply wc_seq; apply wc_region; refine Z0 ?_; refine Z82 ?_; apply w_nil; apply wx_next; refine Z19 ?_; apply wc_skip; apply wx_norm_block; apply wx_next; apply wc_region; refine Z46 ?_; refine Z0 ?_; apply w_nil)
        have H := H.drop
        exact wx_loopN (1 + 1) H Cu Ks (by omega) (by rw [hp]; simp only [Cl.looks, List.drop_succ_cons, List.drop_zero, orI]; rw [hE, if_pos he])
      · (refine Z2 ?_; apply w_nil; apply wx_next; apply wc_seq; apply wc_region; refine Z0 ?_; refine Z82 ?_; apply w_nil; apply wx_next; refine Z18 ?_; apply wc_seq; apply wc_region; refine Z0 ?_; refine Z2 ?_; apply w_nil; apply wx_next; apply wc_ret; apply wx_ret_block; apply wx_ret_then; apply wx_ret_then; apply wx_ret_block; apply wx_ret_then)
        exact ret_fn H hm (outs1 Tryz.results47 Wh) (by rw [← looks_check, hp]; simp only [Cl.looks, List.drop_succ_cons, List.drop_zero, orI]; rw [hE, if_neg he])
    · (refine s_indexA (cs := chkFs) (i := 2) rfl rfl rfl (by decide) rfl ?_)
      (refine Z61 fun bx c H HA => ?_; refine Z74 fun c H HA => ?_; apply w_nil; apply wx_next; apply wc_seq; apply wc_region; refine Z3 ?_; refine Z41 ?_; refine Z39 HA fun vx HA => ?_)
      (refine s_callV (caps := []) rfl rfl rfl H HA (clause_badTest x _ _ Lk) ?_; intro vx c H HP; have hvx := HP.h.1; have HA := HP.cut; subst hvx)
      generalize hE : orI (x.tests.map Ts.check) = e at HP ⊢
      by_cases he : e = 0
      · (refine Z2 ?_; apply w_nil; apply wx_next; apply wc_seq; apply wc_region; refine Z0 ?_; refine Z82 ?_; apply w_nil; apply wx_next; refine Z19 ?_; apply wc_skip; apply wx_norm_block; apply wx_next; apply wc_region; refine Z46 ?_; refine Z0 ?_; apply w_nil)
        have H := H.drop
        exact wx_loopN (2 + 1) H Cu Ks (by omega) (by rw [hp]; simp only [Cl.looks, List.drop_succ_cons, List.drop_zero, orI]; rw [hE, if_pos he])
      · (refine Z2 ?_; apply w_nil; apply wx_next; apply wc_seq; apply wc_region; refine Z0 ?_; refine Z82 ?_; apply w_nil; apply wx_next; refine Z18 ?_; apply wc_seq; apply wc_region; refine Z0 ?_; refine Z2 ?_; apply w_nil; apply wx_next; apply wc_ret; apply wx_ret_block; apply wx_ret_then; apply wx_ret_then; apply wx_ret_block; apply wx_ret_then)
        exact ret_fn H hm (outs1 Tryz.results47 Wh) (by rw [← looks_check, hp]; simp only [Cl.looks, List.drop_succ_cons, List.drop_zero, orI]; rw [hE, if_neg he])
    · (refine s_indexA (cs := chkFs) (i := 3) rfl rfl rfl (by decide) rfl ?_)
      (refine Z61 fun bx c H HA => ?_; refine Z74 fun c H HA => ?_; apply w_nil; apply wx_next; apply wc_seq; apply wc_region; refine Z3 ?_; refine Z41 ?_; refine Z39 HA fun vx HA => ?_)
      (refine s_callV (caps := []) rfl rfl rfl H HA (clause_openHead x _ _ Lk) ?_; intro vx c H HP; have hvx := HP.h.1; have HA := HP.cut; subst hvx)
      generalize hE : (if x.head.by_.isVar then (33 : Int) else 0) = e at HP ⊢
      by_cases he : e = 0
      · (refine Z2 ?_; apply w_nil; apply wx_next; apply wc_seq; apply wc_region; refine Z0 ?_; refine Z82 ?_; apply w_nil; apply wx_next; refine Z19 ?_; apply wc_skip; apply wx_norm_block; apply wx_next; apply wc_region; refine Z46 ?_; refine Z0 ?_; apply w_nil)
        have H := H.drop
        exact wx_loopN (3 + 1) H Cu Ks (by omega) (by rw [hp]; simp only [Cl.looks, List.drop_succ_cons, List.drop_zero, orI]; rw [hE, if_pos he])
      · (refine Z2 ?_; apply w_nil; apply wx_next; apply wc_seq; apply wc_region; refine Z0 ?_; refine Z82 ?_; apply w_nil; apply wx_next; refine Z18 ?_; apply wc_seq; apply wc_region; refine Z0 ?_; refine Z2 ?_; apply w_nil; apply wx_next; apply wc_ret; apply wx_ret_block; apply wx_ret_then; apply wx_ret_then; apply wx_ret_block; apply wx_ret_then)
        exact ret_fn H hm (outs1 Tryz.results47 Wh) (by rw [← looks_check, hp]; simp only [Cl.looks, List.drop_succ_cons, List.drop_zero, orI]; rw [hE, if_neg he])
    · (refine s_indexA (cs := chkFs) (i := 4) rfl rfl rfl (by decide) rfl ?_)
      (refine Z61 fun bx c H HA => ?_; refine Z74 fun c H HA => ?_; apply w_nil; apply wx_next; apply wc_seq; apply wc_region; refine Z3 ?_; refine Z41 ?_; refine Z39 HA fun vx HA => ?_)
      (refine s_callV (caps := []) rfl rfl rfl H HA (clause_unsafe x _ _ Lk hf.2) ?_; intro vx c H HP; have hvx := HP.h.1; have HA := HP.cut; subst hvx)
      generalize hE : (if (varsOf (x.head.terms ++ x.testTerms)).any (fun t => !decide (t ∈ x.bodyTerms)) then (34 : Int) else 0) = e at HP ⊢
      by_cases he : e = 0
      · (refine Z2 ?_; apply w_nil; apply wx_next; apply wc_seq; apply wc_region; refine Z0 ?_; refine Z82 ?_; apply w_nil; apply wx_next; refine Z19 ?_; apply wc_skip; apply wx_norm_block; apply wx_next; apply wc_region; refine Z46 ?_; refine Z0 ?_; apply w_nil)
        have H := H.drop
        exact wx_loopN (4 + 1) H Cu Ks (by omega) (by rw [hp]; simp only [Cl.looks, List.drop_succ_cons, List.drop_zero, orI]; rw [hE, if_pos he])
      · (refine Z2 ?_; apply w_nil; apply wx_next; apply wc_seq; apply wc_region; refine Z0 ?_; refine Z82 ?_; apply w_nil; apply wx_next; refine Z18 ?_; apply wc_seq; apply wc_region; refine Z0 ?_; refine Z2 ?_; apply w_nil; apply wx_next; apply wc_ret; apply wx_ret_block; apply wx_ret_then; apply wx_ret_then; apply wx_ret_block; apply wx_ret_then)
        exact ret_fn H hm (outs1 Tryz.results47 Wh) (by rw [← looks_check, hp]; simp only [Cl.looks, List.drop_succ_cons, List.drop_zero, orI]; rw [hE, if_neg he])
    · (refine s_indexA (cs := chkFs) (i := 5) rfl rfl rfl (by decide) rfl ?_)
      (refine Z61 fun bx c H HA => ?_; refine Z74 fun c H HA => ?_; apply w_nil; apply wx_next; apply wc_seq; apply wc_region; refine Z3 ?_; refine Z41 ?_; refine Z39 HA fun vx HA => ?_)
      (refine s_callV (caps := []) rfl rfl rfl H HA (clause_misnumbered x _ _ Lk hf.2) ?_; intro vx c H HP; have hvx := HP.h.1; have HA := HP.cut; subst hvx)
      generalize hE : (if misnum (varsOf x.terms) 0 then (35 : Int) else 0) = e at HP ⊢
      by_cases he : e = 0
      · (refine Z2 ?_; apply w_nil; apply wx_next; apply wc_seq; apply wc_region; refine Z0 ?_; refine Z82 ?_; apply w_nil; apply wx_next; refine Z19 ?_; apply wc_skip; apply wx_norm_block; apply wx_next; apply wc_region; refine Z46 ?_; refine Z0 ?_; apply w_nil)
        have H := H.drop
        exact wx_loopN (5 + 1) H Cu Ks (by omega) (by rw [hp]; simp only [Cl.looks, List.drop_succ_cons, List.drop_zero, orI]; rw [hE, if_pos he])
      · (refine Z2 ?_; apply w_nil; apply wx_next; apply wc_seq; apply wc_region; refine Z0 ?_; refine Z82 ?_; apply w_nil; apply wx_next; refine Z18 ?_; apply wc_seq; apply wc_region; refine Z0 ?_; refine Z2 ?_; apply w_nil; apply wx_next; apply wc_ret; apply wx_ret_block; apply wx_ret_then; apply wx_ret_then; apply wx_ret_block; apply wx_ret_then)
        exact ret_fn H hm (outs1 Tryz.results47 Wh) (by rw [← looks_check, hp]; simp only [Cl.looks, List.drop_succ_cons, List.drop_zero, orI]; rw [hE, if_neg he])
  · have h6 : k = 6 := by omega
    subst h6
    exact ret_fn H hm (outs1 Tryz.results47 Wh) (by rw [← looks_check, hp]; rfl)
end Go.Proofs.YthkdggoohpgnnaaGreatDoor
/- Contracts: an atom with each of its terms turned, of the program's own. -/
namespace Go.Wk
open Go
structure CloR (P : Program) (gf : FuncId) (caps : List Value) {σ : Type} (R : σ → List Res) (F : Cx → Prop) (dom : σ → Tm → Prop) (step : σ → Tm → σ) (ret : σ → Tm → Tm) : Prop where
  call : ∀ s t c, F c → dom s t → CnT P gf (.agg t.cs.toArray :: caps) (R s) (R (step s t)) c (fun v _ => v = .agg (ret s t).cs.toArray)
theorem Vals.rep (m : Nat) (t : Tm) (c : Cx) : Vals (List.replicate m t.cs) (List.replicate m t) c :=
  ⟨by simp, fun i cs x h1 h2 => by
    simp only [List.getElem?_replicate] at h1 h2
    split at h1
    · simp_all [Enc.Ok]
    · cases h1⟩
theorem take_set_succ {α : Type} {acc : List α} {k : Nat} {x : α} (h : k < acc.length) : (acc.set k x).take (k + 1) = acc.take k ++ [x] := by
  rw [List.take_add_one, List.take_set_of_le (Nat.le_refl _)]
  simp [h]
section
variable {P : Program} {Q : Exit → Act → World → Prop} {n : Nat} {f : Nat → Value} {c0 c : Cx} {L : List Res} {A : Cx → Prop}
theorem wc_freeze {x : Code} {b : Nat} {cs : List Value} {T : TypeId} (H : Owns c0 (.obj b (.cells cs.toArray T (0, 0)) :: L) c) (HA : Hd A c) [Mono A]
    (k : ∀ c', Owns c0 L c' → Hd (fun c => Box b cs c ∧ A c) c' → WC P x Q n f c'.w) : WC P x Q n f c.w :=
  have h := H.freeze
  k ⟨c.w, fun x => c.M x ∧ (Res.obj b (.cells cs.toArray T (0, 0))).blk ≠ some x⟩ h.2 ⟨⟨⟨⟨T, (0, 0), (H.res _ (List.mem_cons_self ..)).1⟩, fun h => h.2 rfl⟩, Mono.mono h.1 HA.h⟩⟩
end
/-- The row in an atom. -/
def argRow (e : TypeId) (a : At0) (w : Value) : Res := .row w e 3 a.args.length (a.args.map Tm.cs).flatten
/-- An atom whose row none else has. -/
def AtF (e : TypeId) (base : Nat) (R : List Res) (a : At0) (v : Value) (c : Cx) : Prop := ∃ w, v = .agg (At0.cs a w).toArray ∧ Sl w a.args c ∧ FrL base (argRow e a w :: R) c
instance (e : TypeId) (base : Nat) (R : List Res) (a : At0) (v : Value) : Mono (AtF e base R a v) := ⟨fun h ⟨w, e, k, k2⟩ => ⟨w, e, Mono.mono h k, Mono.mono h k2⟩⟩
theorem AtF.ag {e : TypeId} {base : Nat} {R : List Res} {a : At0} {v : Value} {c : Cx} (h : AtF e base R a v c) : Ag a v c := by
  obtain ⟨w, rfl, k, _⟩ := h
  exact ⟨_, rfl, w, rfl, k⟩
/-- The slice in an atom. -/
def argV : Value → Value
  | .agg cs => cs.getD 4 undef
  | _ => undef
end Go.Wk
namespace Go.Proofs.YthkdggoohpgnnaaGreatDoor
open Go Go.Wk
section
variable {σ : Type} {gf : FuncId} {caps : List Value} {R : σ → List Res} {F : Cx → Prop} [Mono F] {dom : σ → Tm → Prop} {step : σ → Tm → σ} {ret : σ → Tm → Tm} [Ent Tryz.prog gf]
theorem clause_replacedF (K : CloR Tryz.prog gf caps R F dom step ret) (s : σ) (a : At0) (u : Value) (c : Cx) (base : Nat) (RF : List Res) (hR : FrL base RF c) (hF : F c) (h : Ag a u c) (hd : Doms dom step s a.terms) : CnTF base Tryz.prog 142 [u, .func (.func gf) #[] caps.toArray] (R s) (R (a.terms.foldl step s)) c (fun v c => AtF 23 base RF (repA step ret s a) v c) := by
  refine CnTF.of Tryz.func142 Tryz.ntmps142 rfl rfl fun c0 L0 A0 _ hb0 H HA => ?_
  have hlim : a.args.length < 1099511627776 := by obtain ⟨cs, rfl, v, rfl, h⟩ := h; exact h.lim
  have HA := ((HA.add h).add hF).add hR
  (apply wc_seq; apply wc_region)
  (refine s_boxG rfl rfl Lk H HA ?_; intro p c H HA)
  (refine s_alloc rfl (by conv => lhs; whnf) H HA ?_; intro b4 c H HA)
  (apply w_nil; apply wx_next; apply wc_seq)
  have H := H.perm (List.perm_middle (l₁ := R s)).symm
  have H : Owns c0 ((R s ++ []) ++ (.obj b4 (.cells (At0.cs ⟨Tn, ES, []⟩ (.slice none 0 0)).toArray 26 (0, 0)) :: L0)) c := by rw [List.append_nil]; exact H
  refine dw_startE (I := R s ++ []) H HA ?_
  (repeat (refine Dc ?_))
  refine dw_consT (pr := R s) (po := R (step s a.by_)) (S := fun v _ => v = .agg (ret s a.by_).cs.toArray) ?_ (by intro v; infer_instance) ?_
  · (intro B _ Lx c HA; (repeat (first | (intro vx hx; have hx2 : vx = _ := hx; clear hx; subst hx2) | (intro vx hx; have HA := HA.addSF hx; clear hx) | (intro vx hx; skip; have HA := HA.add hx; clear hx) | (intro vx; have hvx2 : Go.Value := vx; clear hvx2))); (first | intro H | (have H := HA.h.1; have HA := HA.cut)); change W _ _ _ _ _ _ _)
    refine s_callVT (pre := R s) (post := R (step s a.by_)) rfl rfl rfl H HA (K.call s a.by_ _ Lk hd.1) ?_
    intro vx c H HA
    exact w_nil (pq_turn H Cu HA.h.1)
  (repeat (refine Dc ?_))
  refine dw_cons (s := .row 23 3 (List.replicate a.args.length Tn).length (List.replicate a.args.length Tn.cs).flatten) ?_ inferInstance ?_
  · (intro B _ Lx c H HA; (repeat (first | (intro vx hx; have hx2 : vx = _ := hx; clear hx; subst hx2) | (intro vx hx; have HA := HA.addSF hx; clear hx) | (intro vx hx; have HA := HA.add hx; clear hx) | intro vx)); change W _ _ _ _ _ _ _)
    refine s_makeF (α := Tm) (u := Tn) (cv := Tm.cs) rfl rfl rfl rfl (fun _ => rfl) rfl rfl hlim H HA inferInstance ?_
    intro vx c H HA
    exact w_nil (pq_row H Cu)
  refine dw_consE (pv := some 9) (r := .row undef 0 0 0 []) (sel := argV) (S := fun v _ => ∃ w, v = .agg (At0.cs ⟨ret s a.by_, a.name, []⟩ w).toArray) (e := 23) (kk := 3) (m := (List.replicate a.args.length Tn).length) (xs := (List.replicate a.args.length Tn.cs).flatten) ?_ (by intro v; infer_instance) ?_
  · (intro B _ Lx c HA; (repeat (first | (intro vx hx; have hx2 : vx = _ := hx; clear hx; subst hx2) | (intro vx hx; have HA := HA.addSF hx; clear hx) | (intro vx hx; skip; have HA := HA.add hx; clear hx) | (intro vx; have hvx2 : Go.Value := vx; clear hvx2))); (first | intro H | (have H := HA.h.1; have HA := HA.cut)); change W _ _ _ _ _ _ _)
    have H : Owns c0 (.row vx 23 3 (List.replicate a.args.length Tn).length (List.replicate a.args.length Tn.cs).flatten :: (Lx ++ (.obj b4 (.cells (At0.cs ⟨Tn, ES, []⟩ (.slice none 0 0)).toArray 26 (0, 0)) :: L0))) c := H
    have hvc := H.rowCells (List.Mem.head _)
    apply s_build
    exact rfl
    focus ((repeat (first | exact bld_nil | (apply bld_cons; (conv => lhs; whnf)))); done)
    focus ((repeat' (first | exact Fil.nil | apply Fil.take | apply Fil.skip | exact App.nil | apply App.cons | exact hvc | exact Cells.lit rfl | exact rfl)); done)
    exact w_nil (pq_eff H Cu ⟨_, rfl⟩)
  (repeat (refine Dc ?_))
  refine dw_doneT mixed (I := R s ++ []) (by kernel_rfl) H HA (by kernel_rfl) ?_
  clear H HA
  intro c HA
  intro v1 h1 v3 h3 v4 h4 v6 h6 v7 h7 v9 v10 h10 b5 H
  obtain ⟨w, rfl⟩ := h10
  subst h3
  have H : Owns c0 ((R (step s a.by_) ++ ([.row w 23 3 (List.replicate a.args.length Tn).length (List.replicate a.args.length Tn.cs).flatten, .obj b5 (.cells (At0.cs ⟨Tn, ES, []⟩ (.slice none 0 0)).toArray 26 (0, 0))] ++ [])) ++ (.obj b4 (.cells (At0.cs ⟨Tn, ES, []⟩ (.slice none 0 0)).toArray 26 (0, 0)) :: L0)) c := H
  rw [List.append_nil, List.append_assoc] at H
  have H := H.perm (List.perm_append_comm_assoc ..)
  have H := H.perm (((List.perm_middle (l₁ := R (step s a.by_))).cons _).cons _)
  have HA := HA.add (Vals.rep a.args.length Tn c)
  change W _ _ _ _ _ _ _
  (refine Z76 fun c H HA => ?_; apply w_nil; apply wx_next; apply wc_seq; apply wc_seq; apply wc_region; refine Z35 HA fun vx HA => ?_; refine Z37 HA fun vx HA => ?_; refine Z45 ?_; refine Z0 ?_; apply w_nil; apply wx_next; apply wc_block)
  have hd2 := hd.2
  change Doms dom step (step s a.by_) a.args at hd2
  have hrp : repA step ret s a = ⟨ret s a.by_, a.name, outS step ret (step s a.by_) a.args⟩ := rfl
  have hfo : a.terms.foldl step s = a.args.foldl step (step s a.by_) := rfl
  rw [hrp, hfo]
  generalize step s a.by_ = s1 at H hd2 ⊢
  (obtain ⟨va, rfl⟩ : ∃ x, x = vx := ⟨_, rfl⟩)
  refine wc_loopG (σ := Nat × σ × List Tm × List (List Value)) (fun y => a.args.length - y.1) (fun y => [(1, .func (.func gf) #[] caps.toArray), (2, p), (4, .pointer (some ⟨b4, 0, none⟩)), (5, .pointer (some ⟨b5, 0, none⟩)), (20, va), (21, .int .i64 a.args.length), (22, .int .i64 y.1)])
    (fun y => y.1 ≤ a.args.length ∧ y.2.2.1.length = a.args.length ∧ y.2.2.1.take y.1 ++ outS step ret y.2.1 (a.args.drop y.1) = outS step ret s1 a.args ∧ (a.args.drop y.1).foldl step y.2.1 = a.args.foldl step s1 ∧ Doms dom step y.2.1 (a.args.drop y.1))
    (fun y => .row w 23 3 y.2.2.1.length y.2.2.2.flatten :: .obj b5 (.cells (At0.cs ⟨ret s a.by_, a.name, []⟩ w).toArray 26 (0, 0)) :: .obj b4 (.cells (At0.cs ⟨Tn, ES, []⟩ (.slice none 0 0)).toArray 26 (0, 0)) :: (R y.2.1 ++ L0))
    (fun y c => Vals y.2.2.2 y.2.2.1 c) (0, s1, List.replicate a.args.length Tn, List.replicate a.args.length Tn.cs) H.swap HA Lk Ks ⟨Nat.zero_le _, by simp, rfl, rfl, hd2⟩ ?_
  intro y g c hp H HA
  obtain ⟨k, z, acc, vals⟩ := y
  obtain ⟨hk, hlen, hacc, hfo, hd⟩ := hp
  dsimp only at hk hlen hacc hfo hd H HA ⊢
  (focus (apply wc_seq; apply wc_region; refine Z93 (fun hq => ?_) fun hq => ?_; apply w_nil; apply wx_next; apply wc_seq; refine Z18 ?_; apply wc_skip; apply wx_next; apply wc_seq; apply wc_block; apply wc_seq; apply wc_region; refine Z0 ?_; rotate_left; apply w_nil; apply wx_next; apply wc_seq; refine Z19 ?_; apply wc_exit; apply wx_exit_then; apply wx_exit_then; apply wx_exit_same; apply wx_next; apply wc_seq; apply wc_region; refine Z42 ?_; refine Z78 fun c H HA => ?_; apply w_nil; apply wx_next; apply wc_ret; rotate_left))
  · obtain ⟨t, ht⟩ := getq (xs := a.args) (k := k) (by omega)
    have hdr := drop_get ht
    rw [hdr] at hacc hfo hd
    (refine Z34 HA fun vx HA => ?_; refine Z38 ?_; refine Z61 fun bx c H HA => ?_; refine Z2 ?_; refine Z74 fun c H HA => ?_; apply w_nil; apply wx_next)
    (refine wc_freeze H HA ?_; intro c H HA)
    have H : Owns c0 ([.row w 23 3 acc.length vals.flatten, .obj b5 (.cells (At0.cs ⟨ret s a.by_, a.name, []⟩ w).toArray 26 (0, 0)), .obj b4 (.cells (At0.cs ⟨Tn, ES, []⟩ (.slice none 0 0)).toArray 26 (0, 0))] ++ (R z ++ L0)) c := H
    have H := H.perm (List.perm_append_comm_assoc ..)
    rw [← List.append_nil (R z)] at H
    refine dw_startE (I := R z ++ []) H HA ?_
    (repeat (refine Dc ?_))
    refine dw_consT (pr := R z) (po := R (step z t)) (S := fun v _ => v = .agg (ret z t).cs.toArray) ?_ (by intro v; infer_instance) ?_
    · (intro B _ Lx c HA; (repeat (first | (intro vx hx; have hx2 : vx = _ := hx; clear hx; subst hx2) | (intro vx hx; have HA := HA.addSF hx; clear hx) | (intro vx hx; skip; have HA := HA.add hx; clear hx) | (intro vx; have hvx2 : Go.Value := vx; clear hvx2))); (first | intro H | (have H := HA.h.1; have HA := HA.cut)); change W _ _ _ _ _ _ _)
      refine s_callVT (pre := R z) (post := R (step z t)) rfl rfl rfl H HA (K.call z t _ Lk hd.1) ?_
      intro vx c H HA
      exact w_nil (pq_turn H Cu HA.h.1)
    refine dw_doneT mixed (I := R z ++ []) (by kernel_rfl) H HA (by kernel_rfl) ?_
    clear H HA
    intro c HA
    intro v5 h5 H
    subst h5
    have H : Owns c0 ((R (step z t) ++ []) ++ ([.row w 23 3 acc.length vals.flatten, .obj b5 (.cells (At0.cs ⟨ret s a.by_, a.name, []⟩ w).toArray 26 (0, 0)), .obj b4 (.cells (At0.cs ⟨Tn, ES, []⟩ (.slice none 0 0)).toArray 26 (0, 0))] ++ L0)) c := H
    rw [List.append_nil] at H
    have H := H.perm (List.perm_append_comm_assoc ..)
    change W _ _ _ _ _ _ _
    (refine Z63 fun rp hrp => ?_)
    (refine s_stRA (u := ret z t) rfl rfl hrp H Lk (by omega) rfl rfl HA inferInstance ?_; intro c H HA)
    (apply w_nil; apply wx_norm_block; apply wx_next; apply wc_region; refine Z46 ?_; refine Z0 ?_; apply w_nil)
    exact wx_loopG ((k + 1, step z t, acc.set k (ret z t), vals.set k (ret z t).cs)) H Cu Lk Ks (by simp; omega) ⟨by simp; omega, by simpa using hlen, by
      rw [take_set_succ (by omega), List.append_assoc]
      exact hacc, hfo, hd.2⟩
  · have e0 : a.args.drop k = [] := List.drop_eq_nil_of_le (by omega)
    rw [e0] at hacc hfo
    have hz : z = a.args.foldl step s1 := hfo
    have hacc : acc = outS step ret s1 a.args := by
      rw [← hacc, List.take_of_length_le (by omega)]
      simp [outS]
    have hvv := vals_is (cv := Tm.cs) (Lk : Vals vals acc c)
    subst hvv
    (refine wx_freezeF H.swap HA Lk hb0 Lk rfl rfl (by simp only [LIM]; omega) ?_; intro c H HA)
    rw [← hz, ← hacc]
    exact ret_fnT H.drop.drop Ca (outsR1 Tryz.results142 (RV.agg rfl H Ow Rc)) ⟨w, rfl, Lk, Lk⟩
end
end Go.Proofs.YthkdggoohpgnnaaGreatDoor
/- Contracts: a clause with each of its terms turned, of the program's own. -/
namespace Go.Wk
open Go
def argRows (e : TypeId) (xs : List At0) (ws : List Value) : List Res := List.zipWith (argRow e) xs ws
def atCells (xs : List At0) (ws : List Value) : List (List Value) := List.zipWith At0.cs xs ws
theorem argRows_snoc {e : TypeId} {xs : List At0} {ws : List Value} {a : At0} {w : Value} (h : ws.length = xs.length) : argRows e (xs ++ [a]) (ws ++ [w]) = argRows e xs ws ++ [argRow e a w] := by
  unfold argRows
  rw [List.zipWith_append h.symm]
  rfl
theorem atCells_snoc {xs : List At0} {ws : List Value} {a : At0} {w : Value} (h : ws.length = xs.length) : atCells (xs ++ [a]) (ws ++ [w]) = atCells xs ws ++ [At0.cs a w] := by
  unfold atCells
  rw [List.zipWith_append h.symm]
  rfl
/-- A slice of one such atom. -/
def BsF (e : TypeId) (base : Nat) (R : List Res) (a : At0) (v : Value) (c : Cx) : Prop := ∃ w, SlV [a] [At0.cs a w] v c ∧ FrL base (argRow e a w :: R) c
instance (e : TypeId) (base : Nat) (R : List Res) (a : At0) (v : Value) : Mono (BsF e base R a v) := ⟨fun h ⟨w, k, k2⟩ => ⟨w, Mono.mono h k, Mono.mono h k2⟩⟩
/-- The rows in a clause. -/
def clRows (eT eA eS : TypeId) (x : Cl) (v0 v1 v2 : Value) (ws : List Value) : List Res :=
  .row v2 eS 7 x.tests.length (x.tests.map Ts.cs).flatten :: .row v1 eA 5 x.body.length (atCells x.body ws).flatten :: (argRows eT x.body ws ++ [argRow eT x.head v0])
/-- A clause whose rows none else has. -/
def ClF (eT eA eS : TypeId) (base : Nat) (R : List Res) (x : Cl) (v : Value) (c : Cx) : Prop := ∃ v0 v1 v2 ws, v = .agg (Cl.cs x v0 v1 v2).toArray ∧ ws.length = x.body.length ∧ Sl v0 x.head.args c ∧ Sl v1 x.body c ∧ Sl v2 x.tests c ∧ Vals (atCells x.body ws) x.body c ∧ FrL base (clRows eT eA eS x v0 v1 v2 ws ++ R) c
instance (eT eA eS : TypeId) (base : Nat) (R : List Res) (x : Cl) (v : Value) : Mono (ClF eT eA eS base R x v) := ⟨fun h ⟨v0, v1, v2, ws, e, l, k0, k1, k2, k3, k4⟩ => ⟨v0, v1, v2, ws, e, l, Mono.mono h k0, Mono.mono h k1, Mono.mono h k2, Mono.mono h k3, Mono.mono h k4⟩⟩
theorem ClF.ag {eT eA eS : TypeId} {base : Nat} {R : List Res} {x : Cl} {v : Value} {c : Cx} (h : ClF eT eA eS base R x v c) : Ag x v c := by
  obtain ⟨v0, v1, v2, ws, rfl, _, k0, k1, k2, _⟩ := h
  exact ⟨_, rfl, v0, v1, v2, rfl, k0, k1, k2⟩
end Go.Wk
namespace Go.Proofs.YthkdggoohpgnnaaGreatDoor
open Go Go.Wk
section
variable {σ : Type} {gf : FuncId} {caps : List Value} {R : σ → List Res} {F : Cx → Prop} [Mono F] {dom : σ → Tm → Prop} {step : σ → Tm → σ} {ret : σ → Tm → Tm} [Ent Tryz.prog gf]
theorem clause_turnedF (K : CloR Tryz.prog gf caps R F dom step ret) (s : σ) (x : Cl) (u : Value) (c : Cx) (base : Nat) (RF : List Res) (hR : FrL base RF c) (hF : F c) (h : Ag x u c) (hd : Doms dom step s x.terms) : CnTF base Tryz.prog 112 [u, .func (.func gf) #[] caps.toArray] (R s) (R (x.terms.foldl step s)) c (fun v c => ClF 23 26 79 base RF (repC step ret s x) v c) := by
  refine CnTF.of Tryz.func112 Tryz.ntmps112 rfl rfl fun c0 L0 A0 _ hb0 H HA => ?_
  have hlb : x.body.length < 1099511627776 := by obtain ⟨cs, rfl, v, v1, v2, rfl, h⟩ := h; exact h.2.1.lim
  have hlt : x.tests.length < 1099511627776 := by obtain ⟨cs, rfl, v, v1, v2, rfl, h⟩ := h; exact h.2.2.lim
  have hd1 := Doms.app (l1 := x.head.terms ++ x.bodyTerms) (l2 := x.testTerms) hd
  have hd2 := Doms.app hd1.1
  have hfo : x.terms.foldl step s = x.testTerms.foldl step (x.bodyTerms.foldl step (x.head.terms.foldl step s)) := by
    show ((x.head.terms ++ x.bodyTerms) ++ x.testTerms).foldl step s = _
    rw [List.foldl_append, List.foldl_append]
  have hd3 := hd1.2
  rw [List.foldl_append] at hd3
  have HA := ((HA.add h).add hF).add hR
  (apply wc_seq; apply wc_region)
  (refine s_boxG rfl rfl Lk H HA ?_; intro p c H HA)
  (refine s_alloc rfl (by conv => lhs; whnf) H HA ?_; intro b4 c H HA)
  (apply w_nil; apply wx_next; apply wc_seq; apply wc_region; refine Z35 HA fun vx HA => ?_; refine Z39 HA fun vx HA => ?_; refine Z0 ?_)
  have H := H.perm (List.perm_middle (l₁ := R s)).symm
  (refine s_callTF (pre := R s) (post := R (x.head.terms.foldl step s)) rfl rfl H HA hb0 (clause_replacedF K s x.head _ _ base RF Lk Lk Lk hd2.1) ?_; intro vx c H HA)
  have H := H.perm (List.perm_middle (l₁ := R (x.head.terms.foldl step s)))
  obtain ⟨w0, rfl, hw0, hf0⟩ := HA.h.1
  have HA := (HA.cut.add hw0).add hf0
  (refine Z54 ?_)
  (refine s_alloc rfl (by conv => lhs; whnf) H HA ?_; intro b5 c H HA)
  (refine Z74 fun c H HA => ?_; apply w_nil; apply wx_next; apply wc_seq; apply wc_seq; apply wc_region; refine Z35 HA fun vx HA => ?_; refine Z37 HA fun vx HA => ?_; refine Z45 ?_; refine Z0 ?_; apply w_nil; apply wx_next; apply wc_block)
  have H := H.nilR At0 26 5
  have hrc : repC step ret s x = ⟨repA step ret s x.head, repAs step ret (x.head.terms.foldl step s) x.body, repTs step ret (x.bodyTerms.foldl step (x.head.terms.foldl step s)) x.tests⟩ := rfl
  rw [hrc, hfo]
  have hd22 := hd2.2
  generalize x.head.terms.foldl step s = s1 at H hd22 hd3 ⊢
  (obtain ⟨va, rfl⟩ : ∃ x, x = vx := ⟨_, rfl⟩)
  have hf0' : FrL base (argRows 23 [] [] ++ (argRow 23 (repA step ret s x.head) w0 :: RF)) c := Lk
  refine wc_loopG (σ := Nat × σ × List At0 × Value × List Value) (fun y => x.body.length - y.1) (fun y => [(1, .func (.func gf) #[] caps.toArray), (2, p), (4, .pointer (some ⟨b4, 0, none⟩)), (5, .pointer (some ⟨b5, 0, none⟩)), (17, va), (18, .int .i64 x.body.length), (19, .int .i64 y.1)])
    (fun y => y.1 ≤ x.body.length ∧ y.2.2.1.length = y.1 ∧ y.2.2.2.2.length = y.2.2.1.length ∧ y.2.2.1 ++ repAs step ret y.2.1 (x.body.drop y.1) = repAs step ret s1 x.body ∧ ((x.body.drop y.1).flatMap At0.terms).foldl step y.2.1 = x.bodyTerms.foldl step s1 ∧ Doms dom step y.2.1 ((x.body.drop y.1).flatMap At0.terms))
    (fun y => .row y.2.2.2.1 26 5 y.2.2.1.length (atCells y.2.2.1 y.2.2.2.2).flatten :: .obj b5 (.cells (Cl.cs ⟨repA step ret s x.head, [], []⟩ w0 (y.2.2.2.1) (.slice none 0 0)).toArray 30 (0, 0)) :: .obj b4 (.cells (Cl.cs ⟨⟨Tn, ES, []⟩, [], []⟩ (.slice none 0 0) (.slice none 0 0) (.slice none 0 0)).toArray 30 (0, 0)) :: (R y.2.1 ++ L0))
    (fun y c => Vals (atCells y.2.2.1 y.2.2.2.2) y.2.2.1 c ∧ FrL base (argRows 23 y.2.2.1 y.2.2.2.2 ++ (argRow 23 (repA step ret s x.head) w0 :: RF)) c) (0, s1, [], .slice none 0 0, []) H HA ⟨Vals.nil _, hf0'⟩ Ks ⟨Nat.zero_le _, rfl, rfl, rfl, rfl, hd22⟩ ?_
  intro y g c hp H HA
  obtain ⟨k, z, acc, vb, ws⟩ := y
  obtain ⟨hk, hlen, hwl, hacc, hfo, hd⟩ := hp
  dsimp only at hk hlen hwl hacc hfo hd H HA ⊢
  have HA := (HA.cut.add HA.h.1.2).add HA.h.1.1
  (focus (apply wc_seq; apply wc_region; refine Z93 (fun hq => ?_) fun hq => ?_; apply w_nil; apply wx_next; apply wc_seq; refine Z18 ?_; apply wc_skip; apply wx_next; apply wc_seq; apply wc_block; apply wc_seq; apply wc_region; rotate_left; apply w_nil; apply wx_next; apply wc_seq; refine Z19 ?_; apply wc_exit; apply wx_exit_then; apply wx_exit_then; apply wx_exit_same; apply wx_next; apply wc_seq; apply wc_seq; apply wc_region; refine Z35 HA fun vx HA => ?_; refine Z37 HA fun vx HA => ?_; refine Z45 ?_; refine Z0 ?_; apply w_nil; apply wx_next; apply wc_block; rotate_left))
  · obtain ⟨t, ht⟩ := getq (xs := x.body) (k := k) (by omega)
    have hdr := drop_get ht
    rw [hdr, List.flatMap_cons] at hfo hd
    rw [hdr] at hacc
    rw [List.foldl_append] at hfo
    have hdd := Doms.app hd
    (refine Z34 HA fun vx HA => ?_; refine Z39 HA fun vx HA => ?_; refine Z61 fun bx c H HA => ?_)
    (refine s_storeG (α := At0) rfl rfl Lk rfl rfl H HA ?_; intro c H HA)
    (apply w_nil; apply wx_next)
    have H : Owns c0 ([.row vb 26 5 acc.length (atCells acc ws).flatten, .obj b5 (.cells (Cl.cs ⟨repA step ret s x.head, [], []⟩ w0 (vb) (.slice none 0 0)).toArray 30 (0, 0)), .obj b4 (.cells (Cl.cs ⟨⟨Tn, ES, []⟩, [], []⟩ (.slice none 0 0) (.slice none 0 0) (.slice none 0 0)).toArray 30 (0, 0))] ++ (R z ++ L0)) c := H
    have H := H.perm (List.perm_append_comm_assoc ..)
    rw [← List.append_nil (R z)] at H
    refine dw_startE (I := R z ++ []) H HA ?_
    (repeat (refine Dc ?_))
    refine dw_consT (pr := R z) (po := R (t.terms.foldl step z)) (S := fun v c => AtF 23 base (argRows 23 acc ws ++ (argRow 23 (repA step ret s x.head) w0 :: RF)) (repA step ret z t) v c) ?_ (by intro v; infer_instance) ?_
    · (intro B _ Lx c HA; (repeat (first | (intro vx hx; have hx2 : vx = _ := hx; clear hx; subst hx2) | (intro vx hx; have HA := HA.addSF hx; clear hx) | (intro vx hx; skip; have HA := HA.add hx; clear hx) | (intro vx; have hvx2 : Go.Value := vx; clear hvx2))); (first | intro H | (have H := HA.h.1; have HA := HA.cut)); change W _ _ _ _ _ _ _)
      refine s_callTF (pre := R z) (post := R (t.terms.foldl step z)) rfl rfl H HA hb0 (clause_replacedF K z t _ _ base (argRows 23 acc ws ++ (argRow 23 (repA step ret s x.head) w0 :: RF)) Lk Lk Lk hdd.1) ?_
      intro vx c H HA
      exact w_nil (pq_turn H Cu HA.h.1)
    refine dw_cons (s := .rel (BsF 23 base (argRows 23 acc ws ++ (argRow 23 (repA step ret s x.head) w0 :: RF)) (repA step ret z t))) ?_ inferInstance ?_
    · (intro B _ Lx c H HA; (repeat (first | (intro vx hx; have hx2 : vx = _ := hx; clear hx; subst hx2) | (intro vx hx; have HA := HA.addSF hx; clear hx) | (intro vx hx; have HA := HA.add hx; clear hx) | intro vx)); change W _ _ _ _ _ _ _)
      obtain ⟨w, rfl, k1, k2⟩ := HA.h.1
      have HA := HA.cut.add k2
      refine s_bs1V (α := At0) (cs := At0.cs (repA step ret z t) w) (u := repA step ret z t) rfl rfl (show Enc.Ok (At0.cs (repA step ret z t) w) (repA step ret z t) _ from ⟨w, rfl, k1⟩) rfl rfl rfl H HA inferInstance ?_
      intro vx c H HA
      exact w_nil (pq_rel H Cu ⟨w, HA.h.1, Lk⟩)
    refine dw_doneT mixed (I := R z ++ []) (by kernel_rfl) H HA (by kernel_rfl) ?_
    clear H HA
    intro c HA v2 h2 v4 h4 v5 h5 H
    obtain ⟨w, h5, h6⟩ := h5
    have HA := (HA.add h6).add h5
    have H : Owns c0 ((R (t.terms.foldl step z) ++ []) ++ ([.row vb 26 5 acc.length (atCells acc ws).flatten, .obj b5 (.cells (Cl.cs ⟨repA step ret s x.head, [], []⟩ w0 (vb) (.slice none 0 0)).toArray 30 (0, 0)), .obj b4 (.cells (Cl.cs ⟨⟨Tn, ES, []⟩, [], []⟩ (.slice none 0 0) (.slice none 0 0) (.slice none 0 0)).toArray 30 (0, 0))] ++ L0)) c := H
    rw [List.append_nil] at H
    have H := H.perm (List.perm_append_comm_assoc ..)
    change W _ _ _ _ _ _ _
    (skip)
    (refine s_appV rfl rfl rfl (Lk : SlV [repA step ret z t] [At0.cs (repA step ret z t) w] v5 _) rfl rfl rfl Lt H HA inferInstance ?_; intro vx c H HA)
    have eV : Vals (atCells (acc ++ [repA step ret z t]) (ws ++ [w])) (acc ++ [repA step ret z t]) c := by
      rw [atCells_snoc hwl]
      exact (Lk : Vals (atCells acc ws) acc c).append (Lk : SlV [repA step ret z t] [At0.cs (repA step ret z t) w] v5 c).1
    have eF : FrL base (argRows 23 (acc ++ [repA step ret z t]) (ws ++ [w]) ++ (argRow 23 (repA step ret s x.head) w0 :: RF)) c := by
      rw [argRows_snoc hwl, List.append_assoc]
      exact FrL.perm (Lk : FrL base (argRow 23 (repA step ret z t) w :: (argRows 23 acc ws ++ (argRow 23 (repA step ret s x.head) w0 :: RF))) c) List.perm_middle.symm
    rw [show (atCells acc ws).flatten ++ [At0.cs (repA step ret z t) w].flatten = (atCells (acc ++ [repA step ret z t]) (ws ++ [w])).flatten by rw [atCells_snoc hwl, List.flatten_append], show acc.length + [repA step ret z t].length = (acc ++ [repA step ret z t]).length by simp] at H
    have HA := (HA.add eF).add eV
    (refine Z3 ?_; refine Z77 fun c H HA => ?_; apply w_nil; apply wx_norm_block; apply wx_next; apply wc_region; refine Z46 ?_; refine Z0 ?_; apply w_nil)
    exact wx_loopG ((k + 1, t.terms.foldl step z, acc ++ [repA step ret z t], vx, ws ++ [w])) H.swap Cu ⟨Lk, Lk⟩ Ks (by simp; omega) ⟨by simp; omega, by simp; omega, by simp [hwl], by
      rw [List.append_assoc]
      exact hacc, hfo, hdd.2⟩
  · have e0 : x.body.drop k = [] := List.drop_eq_nil_of_le (by omega)
    rw [e0] at hacc hfo
    have hz : z = x.bodyTerms.foldl step s1 := hfo
    have hacc : acc = repAs step ret s1 x.body := by
      rw [← hacc]
      simp [repAs]
    rw [← hz] at hd3 ⊢
    (refine wc_freezeF H HA Lk hb0 Lk rfl rfl (by simp only [LIM]; omega) ?_; intro c H HA)
    have hwl2 : ws.length = (repAs step ret s1 x.body).length := by rw [hwl, hacc]
    rw [hacc] at HA
    clear hacc hz hfo hd
    have H := H.nilR Ts 79 7
    (obtain ⟨va2, rfl⟩ : ∃ x, x = vx := ⟨_, rfl⟩)
    refine wc_loopG (σ := Nat × σ × List Ts × Value × List (List Value)) (fun y => x.tests.length - y.1) (fun y => [(1, .func (.func gf) #[] caps.toArray), (2, p), (4, .pointer (some ⟨b4, 0, none⟩)), (5, .pointer (some ⟨b5, 0, none⟩)), (33, va2), (34, .int .i64 x.tests.length), (35, .int .i64 y.1)])
      (fun y => y.1 ≤ x.tests.length ∧ y.2.2.1.length = y.1 ∧ y.2.2.1 ++ repTs step ret y.2.1 (x.tests.drop y.1) = repTs step ret z x.tests ∧ ((x.tests.drop y.1).flatMap fun t => [t.l, t.r]).foldl step y.2.1 = x.testTerms.foldl step z ∧ Doms dom step y.2.1 ((x.tests.drop y.1).flatMap fun t => [t.l, t.r]))
      (fun y => .row y.2.2.2.1 79 7 y.2.2.1.length y.2.2.2.2.flatten :: .obj b5 (.cells (Cl.cs ⟨repA step ret s x.head, [], []⟩ w0 (vb) (y.2.2.2.1)).toArray 30 (0, 0)) :: .obj b4 (.cells (Cl.cs ⟨⟨Tn, ES, []⟩, [], []⟩ (.slice none 0 0) (.slice none 0 0) (.slice none 0 0)).toArray 30 (0, 0)) :: (R y.2.1 ++ L0))
      (fun y c => Vals y.2.2.2.2 y.2.2.1 c) (0, z, [], .slice none 0 0, []) H HA (Vals.nil _) Ks ⟨Nat.zero_le _, rfl, rfl, rfl, hd3⟩ ?_
    intro y g c hp H HA
    obtain ⟨k, z2, acc, vt, vals⟩ := y
    obtain ⟨hk, hlen, hacc, hfo, hd⟩ := hp
    dsimp only at hk hlen hacc hfo hd H HA ⊢
    (focus (apply wc_seq; apply wc_region; refine Z93 (fun hq => ?_) fun hq => ?_; apply w_nil; apply wx_next; apply wc_seq; refine Z18 ?_; apply wc_skip; apply wx_next; apply wc_seq; apply wc_block; apply wc_seq; apply wc_region; rotate_left; apply w_nil; apply wx_next; apply wc_seq; refine Z19 ?_; apply wc_exit; apply wx_exit_then; apply wx_exit_then; apply wx_exit_same; apply wx_next; apply wc_seq; apply wc_region; refine Z42 ?_; refine Z78 fun c H HA => ?_; apply w_nil; apply wx_next; apply wc_ret; rotate_left))
    · obtain ⟨t, ht⟩ := getq (xs := x.tests) (k := k) (by omega)
      have hdr := drop_get ht
      rw [hdr, List.flatMap_cons] at hfo hd
      rw [hdr] at hacc
      (refine Z34 HA fun vx HA => ?_; refine Z38 ?_; refine Z61 fun bx c H HA => ?_; refine Z74 fun c H HA => ?_; apply w_nil; apply wx_next; apply wc_seq; apply wc_region; refine Z0 ?_; refine Z3 ?_; refine Z42 ?_)
      (refine w_freeze H HA ?_; intro c H HA)
      have H : Owns c0 ([.row vt 79 7 acc.length vals.flatten, .obj b5 (.cells (Cl.cs ⟨repA step ret s x.head, [], []⟩ w0 (vb) (vt)).toArray 30 (0, 0)), .obj b4 (.cells (Cl.cs ⟨⟨Tn, ES, []⟩, [], []⟩ (.slice none 0 0) (.slice none 0 0) (.slice none 0 0)).toArray 30 (0, 0))] ++ (R z2 ++ L0)) c := H
      have H := H.perm (List.perm_append_comm_assoc ..)
      (refine s_callVT (pre := R z2) (post := R (step z2 t.l)) rfl rfl rfl H HA (K.call z2 t.l _ Lk hd.1) ?_; intro vx c H HA)
      have hvx := HA.h.1
      have HA := HA.cut
      subst hvx
      have H := H.perm (List.perm_append_comm_assoc ..)
      (refine Z61 fun bx c H HA => ?_; refine Z74 fun c H HA => ?_; apply w_nil; apply wx_next)
      (refine wc_freeze H HA ?_; intro c H HA)
      have H : Owns c0 ([.row vt 79 7 acc.length vals.flatten, .obj b5 (.cells (Cl.cs ⟨repA step ret s x.head, [], []⟩ w0 (vb) (vt)).toArray 30 (0, 0)), .obj b4 (.cells (Cl.cs ⟨⟨Tn, ES, []⟩, [], []⟩ (.slice none 0 0) (.slice none 0 0) (.slice none 0 0)).toArray 30 (0, 0))] ++ (R (step z2 t.l) ++ L0)) c := H
      have H := H.perm (List.perm_append_comm_assoc ..)
      rw [← List.append_nil (R (step z2 t.l))] at H
      refine dw_startE (I := R (step z2 t.l) ++ []) H HA ?_
      (repeat (refine Dc ?_))
      refine dw_consT (pr := R (step z2 t.l)) (po := R (step (step z2 t.l) t.r)) (S := fun v _ => v = .agg (ret (step z2 t.l) t.r).cs.toArray) ?_ (by intro v; infer_instance) ?_
      · (intro B _ Lx c HA; (repeat (first | (intro vx hx; have hx2 : vx = _ := hx; clear hx; subst hx2) | (intro vx hx; have HA := HA.addSF hx; clear hx) | (intro vx hx; skip; have HA := HA.add hx; clear hx) | (intro vx; have hvx2 : Go.Value := vx; clear hvx2))); (first | intro H | (have H := HA.h.1; have HA := HA.cut)); change W _ _ _ _ _ _ _)
        refine s_callVT (pre := R (step z2 t.l)) (post := R (step (step z2 t.l) t.r)) rfl rfl rfl H HA (K.call (step z2 t.l) t.r _ Lk hd.2.1) ?_
        intro vx c H HA
        exact w_nil (pq_turn H Cu HA.h.1)
      (refine Dc ?_)
      (apply dw_cons; (focus ((intro B _ Lx c H HA; (repeat (first | (intro vx hx; have hx2 : vx = _ := hx; clear hx; subst hx2) | (intro vx hx; have HA := HA.addSF hx; clear hx) | (intro vx hx; have HA := HA.add hx; clear hx) | intro vx)); change W _ _ _ _ _ _ _); (apply s_bs1D (u := (⟨t.op, ret z2 t.l, ret (step z2 t.l) t.r⟩ : Ts)); exact rfl; exact rfl; exact rfl; exact rfl; exact rfl; exact rfl; exact H; exact HA; exact inferInstance; intro vx c H HA); exact Dx)); exact inferInstance)
      refine dw_doneT mixed (I := R (step z2 t.l) ++ []) (by kernel_rfl) H HA (by kernel_rfl) ?_
      clear H HA
      intro c HA v8 h8 v10 h10 H
      subst h8
      have HA := HA.addSF h10
      have H : Owns c0 ((R (step (step z2 t.l) t.r) ++ []) ++ ([.row vt 79 7 acc.length vals.flatten, .obj b5 (.cells (Cl.cs ⟨repA step ret s x.head, [], []⟩ w0 (vb) (vt)).toArray 30 (0, 0)), .obj b4 (.cells (Cl.cs ⟨⟨Tn, ES, []⟩, [], []⟩ (.slice none 0 0) (.slice none 0 0) (.slice none 0 0)).toArray 30 (0, 0))] ++ L0)) c := H
      rw [List.append_nil] at H
      have H := H.perm (List.perm_append_comm_assoc ..)
      change W _ _ _ _ _ _ _
      (refine Z59 fun vx c valsx H HA => ?_; refine Z3 ?_; refine Z77 fun c H HA => ?_; apply w_nil; apply wx_norm_block; apply wx_next; apply wc_region; refine Z46 ?_; refine Z0 ?_; apply w_nil)
      exact wx_loopG ((k + 1, step (step z2 t.l) t.r, acc ++ [⟨t.op, ret z2 t.l, ret (step z2 t.l) t.r⟩], vx, valsx)) H.swap Cu Lk Ks (by simp; omega) ⟨by simp; omega, by simp; omega, by
        rw [List.append_assoc]
        exact hacc, hfo, hd.2.2⟩
    · have e0 : x.tests.drop k = [] := List.drop_eq_nil_of_le (by omega)
      rw [e0] at hacc hfo
      have hz : z2 = x.testTerms.foldl step z := hfo
      have hacc : acc = repTs step ret z x.tests := by
        rw [← hacc]
        simp [repTs]
      rw [← hz]
      have hvv := vals_is (cv := Ts.cs) (Lk : Vals vals acc c)
      subst hvv
      (refine wx_freezeF H.swap HA Lk hb0 Lk rfl rfl (by simp only [LIM]; omega) ?_; intro c H HA)
      rw [hacc] at HA
      refine ret_fnT H.drop.drop Ca (outsR1 Tryz.results112 (RV.agg rfl H Ow Rc)) ⟨w0, vb, vt, ws, rfl, hwl2, Lk, Lk, Lk, Lk, ?_⟩
      have hfr := (Lk : FrL base (.row vt 79 7 _ _ :: .row vb 26 5 _ _ :: (argRows 23 (repAs step ret s1 x.body) ws ++ (argRow 23 (repA step ret s x.head) w0 :: RF))) c)
      rw [clRows]
      simp only [List.cons_append, List.append_assoc, List.nil_append]
      exact hfr
end
end Go.Proofs.YthkdggoohpgnnaaGreatDoor
/- Contracts: a clause with its variables numbered anew, a clause in new memory, of the program's own. -/
namespace Go.Wk
open Go
def entN (V : List Int) : List (Int × Value) := V.zipIdx.map fun p => (p.1, .int .i64 p.2)
theorem entN_look (k : Int) : ∀ (V : List Int) (i : Nat), mLook ((V.zipIdx i).map fun p => (p.1, Value.int .i64 p.2)) k = if k ∈ V then some (.int .i64 (posI V k i)) else none
  | [], i => rfl
  | v :: V, i => by
    simp only [List.zipIdx_cons, List.map_cons, mLook, List.find?_cons, posI]
    by_cases h : v = k
    · subst h; simp
    · have h2 : (v == k) = false := by simpa using h
      have ih := entN_look k V (i + 1)
      unfold mLook at ih
      simp only [h2, ih, if_neg h, List.mem_cons]
      by_cases hm : k ∈ V
      · rw [if_pos hm, if_pos (.inr hm)]
      · rw [if_neg hm, if_neg (by rintro (e | e); exact h e.symm; exact hm e)]
theorem entN_lk (V : List Int) (k : Int) : mLook (entN V) k = if k ∈ V then some (.int .i64 (posI V k 0)) else none := entN_look k V 0
theorem entN_len (V : List Int) : (entN V).length = V.length := by simp [entN]
theorem entN_add {V : List Int} {k : Int} (h : k ∉ V) : mSet (entN V) k (.int .i64 V.length) = entN (V ++ [k]) := by
  unfold mSet
  have : (entN V).findIdx? (fun p => p.1 == k) = none := by
    rw [List.findIdx?_eq_none_iff]
    intro p hp
    simp only [entN, List.mem_map] at hp
    obtain ⟨q, hq, rfl⟩ := hp
    have := List.mem_zipIdx_iff_getElem?.1 hq
    have h3 : q.1 ∈ V := List.mem_of_getElem? this
    simp
    rintro rfl
    exact h h3
  rw [this]
  simp [entN, List.zipIdx_append]
theorem posI_last : ∀ (V : List Int) (k : Int) (i : Nat), k ∉ V → posI (V ++ [k]) k i = ((i + V.length : Nat) : Int)
  | [], k, i, _ => by simp [posI]
  | v :: V, k, i, h => by
    simp only [List.mem_cons, not_or] at h
    simp only [List.cons_append, posI]
    rw [if_neg (fun e => h.1 e.symm), posI_last V k (i + 1) h.2]
    simp
    omega
theorem nr_doms : ∀ (ts : List Tm) (V : List Int), Doms (fun _ _ => True) nrS V ts
  | [], _ => trivial
  | _ :: ts, V => ⟨trivial, nr_doms ts _⟩
theorem same_doms : ∀ (ts : List Tm), Doms (fun _ _ => True) (fun (_ : Unit) (_ : Tm) => ()) () ts
  | [] => trivial
  | _ :: ts => ⟨trivial, same_doms ts⟩
end Go.Wk
namespace Go.Proofs.YthkdggoohpgnnaaGreatDoor
open Go Go.Wk
theorem clause_same (t : Tm) (c : Cx) : Cn Tryz.prog 113 [.agg t.cs.toArray] c (fun v _ => v = .agg t.cs.toArray) := by
  refine Cn.of Tryz.func113 Tryz.ntmps113 rfl rfl fun hm H HA => ?_
  (apply wc_seq; apply wc_region; refine Z31 fun bx c H HA => ?_; refine Z61 fun bx c H HA => ?_; apply w_nil; apply wx_next; apply wc_seq; apply wc_region; refine Z7 ?_; refine Z74 fun c H HA => ?_; apply w_nil; apply wx_next; apply wc_ret)
  exact ret_fn H hm (outsR1 Tryz.results113 (RV.agg rfl H Ow Rc)) rfl
theorem same_clo : CloR Tryz.prog 113 [] (fun (_ : Unit) => []) Tt (fun _ _ => True) (fun _ _ => ()) (fun _ t => t) :=
  ⟨fun _ t c _ _ => (clause_same t c).t⟩
theorem nr_clo (pb mb : Nat) : CloR Tryz.prog 125 [.pointer (some ⟨pb, 0, none⟩)] (fun V => [.obj mb (mObj (entN V))]) (Box pb [.map (some mb)]) (fun _ _ => True) nrS nrR := ⟨by
  intro V t c hF hd
  refine CnT.of Tryz.func125 Tryz.ntmps125 rfl rfl fun c0 L0 A0 _ H HA => ?_
  have HA := HA.add hF
  have H : Owns c0 (.obj mb (mObj (entN V)) :: L0) c := H
  (apply wc_seq; apply wc_region; refine Z31 fun bx c H HA => ?_; refine Z61 fun bx c H HA => ?_; apply w_nil; apply wx_next; apply wc_seq; apply wc_seq; apply wc_region; refine Z7 ?_)
  (refine s_call rfl rfl H HA (term_Variable t _) ?_; intro vx c H HP; have hvx := HP.h.1; have HA := HP.cut; subst hvx)
  cases hv : t.isVar
  · (refine Z33 ?_; apply w_nil; apply wx_next; refine Z18 ?_; apply wc_seq; apply wc_region; refine Z7 ?_; refine Z74 fun c H HA => ?_; apply w_nil; apply wx_next; apply wc_ret; apply wx_ret_then)
    have e1 : nrS V t = V := by simp [nrS, hv]
    have e2 : nrR V t = t := by simp [nrR, hv]
    rw [e1, e2]
    exact ret_fnT H.drop Ca (outsR1 Tryz.results125 (RV.agg rfl H Ow Rc)) rfl
  · (refine Z33 ?_; apply w_nil; apply wx_next; refine Z19 ?_; apply wc_skip; apply wx_next; apply wc_seq; apply wc_region; refine Z1 ?_; refine Z3 ?_; refine Z1 ?_; refine Z66 ?_; refine Z0 ?_; refine Z32 ?_; refine Z32 ?_; refine Z2 ?_; refine Z2 ?_; apply w_nil; apply wx_next; apply wc_seq; apply wc_seq; apply wc_region; refine Z0 ?_; refine Z33 ?_; apply w_nil; apply wx_next)
    rw [entN_lk]
    by_cases hm : t.n ∈ V
    · rw [if_pos hm]
      (refine Z19 ?_; apply wc_skip; apply wx_next; apply wc_seq; apply wc_region; refine Z0 ?_; refine Z54 ?_; refine Z74 fun c H HA => ?_; apply w_nil; apply wx_next; apply wc_ret)
      have e1 : nrS V t = V := by simp [nrS, hm]
      have e2 : nrR V t = varT (posI V t.n 0) := by simp [nrR, hv, e1]
      rw [e1, e2]
      exact ret_fnT H.drop Ca (outsR1 Tryz.results125 (RV.agg rfl H Ow Rc)) rfl
    · rw [if_neg hm]
      (refine Z18 ?_; apply wc_seq; apply wc_region; refine Z1 ?_; refine Z72 ?_; refine Z2 ?_; apply w_nil; apply wx_next; apply wc_region; refine Z1 ?_; refine Z3 ?_; refine Z1 ?_; refine Z0 ?_; refine Z69 fun c H HA => ?_; apply w_nil; apply wx_next; apply wc_seq; apply wc_region; refine Z0 ?_; refine Z54 ?_; refine Z76 fun c H HA => ?_; apply w_nil; apply wx_next; apply wc_ret)
      have e1 : nrS V t = V ++ [t.n] := by simp [nrS, hv, hm]
      have e2 : nrR V t = varT V.length := by simp [nrR, hv, e1, posI_last V t.n 0 hm]
      rw [e1, e2, ← entN_add hm, ← entN_len V]
      exact ret_fnT H.drop Ca (outsR1 Tryz.results125 (RV.agg rfl H Ow Rc)) rfl⟩
theorem clause_NormalF (x : Cl) (u : Value) (c : Cx) (base : Nat) (RF : List Res) (hR : FrL base RF c) (hb0 : base ≤ c.w.heap.size) (h : Ag x u c) : Cn Tryz.prog 83 [u] c (fun v c => ClF 23 26 79 base RF x.normal v c) := by
  refine Cn.of Tryz.func83 Tryz.ntmps83 rfl rfl fun hm H HA => ?_
  have HA := (HA.add h).add hR
  (apply wc_seq; apply wc_region)
  (refine s_boxG rfl rfl Lk H HA ?_; intro p c H HA)
  (refine s_alloc rfl (by conv => lhs; whnf) H HA ?_; intro b2 c H HA)
  (apply w_nil; apply wx_next; apply wc_seq; apply wc_region; refine Z65 fun mx c H HA => ?_; refine Z61 fun bx c H HA => ?_; refine Z75 fun c H HA => ?_; apply w_nil; apply wx_next; apply wc_seq; apply wc_region; refine Z39 HA fun vx HA => ?_)
  (refine w_freeze H HA ?_; intro c H HA)
  (skip)
  (refine s_makeFunc (vs := [.pointer (some ⟨bx, 0, none⟩)]) rfl rfl ?_)
  (refine s_callTF (pre := [.obj mx (mObj (entN []))]) (post := [.obj mx (mObj (entN (x.terms.foldl nrS [])))]) rfl rfl H HA hb0 (clause_turnedF (nr_clo bx mx) [] x _ _ base RF Lk Lk Lk (nr_doms _ _)) ?_; intro vx c H HA)
  have hfin := HA.h.1
  rw [nr_repC] at hfin
  have HA := HA.cut.add hfin
  obtain ⟨v, v1, v2, ws, rfl, _, g0, g1, g2, _⟩ := hfin
  have HA := ((HA.add g0).add g1).add g2
  have H : Owns _ [.obj mx (mObj (entN (x.terms.foldl nrS []))), .obj b2 (.cells (Cl.cs ⟨⟨Tn, ES, []⟩, [], []⟩ (.slice none 0 0) (.slice none 0 0) (.slice none 0 0)).toArray 30 (0, 0))] _ := H
  (refine Z76 fun c H HA => ?_; apply w_nil; apply wx_next; apply wc_ret)
  exact ret_fn H hm (outsR1 Tryz.results83 (RV.agg rfl H Ow Rc)) Lk
end Go.Proofs.YthkdggoohpgnnaaGreatDoor
