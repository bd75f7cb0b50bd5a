/- a part of the proof: lemmas on walks, on plain data, contracts of functions. -/
import Derived.Test.YthkdggoohpgnnaaGreatDoorRows
import Derived.Deep.Slices
import Derived.WalkKit
import Derived.ProofKit
import Derived.OpenShut
import Derived.LaidMore
import Derived.Carry
import Derived.Deep.DeepHandedRow
import Derived.Test.YthkdggoohpgnnaaGreatDoorA2
import Derived.Test.YthkdggoohpgnnaaGreatDoorA4
import Derived.Test.YthkdggoohpgnnaaGreatDoorA8
import Derived.Test.YthkdggoohpgnnaaGreatDoorA9
import Derived.Test.YthkdggoohpgnnaaGreatDoorA10
set_option linter.all false
/- Contracts: the examples that every statement asks. -/
namespace Go.Proofs.YthkdggoohpgnnaaGreatDoor
open Go Go.Wk
theorem law_va (n : Int) (c : Cx) : Cn Tryz.prog 55 [.int .i64 n] c (fun r _ => r = .agg (vaN n).cs.toArray) := by
  refine Cn.of Tryz.func55 Tryz.ntmps55 rfl rfl fun hm H HA => ?_
  (apply wc_seq; apply wc_region; refine Z61 fun bx c H HA => ?_; apply w_nil; apply wx_next; apply wc_seq; apply wc_region; refine Z0 ?_; refine Z54 ?_; refine Z74 fun c H HA => ?_; apply w_nil; apply wx_next; apply wc_ret)
  exact ret_fn H hm (outsR1 Tryz.results55 (RV.agg rfl H Ow Rc)) rfl
theorem law_text (s : ByteArray) (c : Cx) : Cn Tryz.prog 56 [.string s] c (fun r _ => r = .agg (Tm.cs ⟨2, 0, s⟩).toArray) := by
  refine Cn.of Tryz.func56 Tryz.ntmps56 rfl rfl fun hm H HA => ?_
  (apply wc_seq; apply wc_region; refine Z61 fun bx c H HA => ?_; apply w_nil; apply wx_next; apply wc_seq; apply wc_region; refine Z0 ?_; refine Z54 ?_; refine Z74 fun c H HA => ?_; apply w_nil; apply wx_next; apply wc_ret)
  exact ret_fn H hm (outsR1 Tryz.results56 (RV.agg rfl H Ow Rc)) rfl
theorem law_on (s : ByteArray) (ts : List Tm) (v : Value) (c : Cx) (h : Sl v ts c) : Cn Tryz.prog 54 [.string s, v] c (fun r c => Ag (⟨Tn, s, ts⟩ : At0) r c) := by
  refine Cn.of Tryz.func54 Tryz.ntmps54 rfl rfl fun hm H HA => ?_
  have HA := HA.add h
  (apply wc_seq; apply wc_region; refine Z61 fun bx c H HA => ?_; apply w_nil; apply wx_next; apply wc_seq; apply wc_region; refine Z0 ?_; refine Z0 ?_; refine Z54 ?_; refine Z74 fun c H HA => ?_; apply w_nil; apply wx_next; apply wc_ret)
  exact ret_fn H hm (outsR1 Tryz.results54 (RV.agg rfl H Ow Rc)) ⟨_, rfl, v, rfl, Lk⟩
set_option maxHeartbeats 1000000 in
theorem law_head (c : Cx) (hg : GlobOk c) : Cn Tryz.prog 15 [] c (fun r _ => r = .bool true) := by
  refine Cn.of Tryz.func15 Tryz.ntmps15 rfl rfl fun hm H HA => ?_
  have HA := HA.add hg
  (apply wc_seq; apply wc_region; refine Z2 ?_; apply w_nil; apply wx_next; apply wc_seq; apply wc_region)
  (refine s_call rfl rfl H HA (law_va 0 _) ?_; intro vx c H HP; have hvx := HP.h.1; have HA := HP.cut; subst hvx)
  (skip)
  (apply s_bs1D (u := (vaN 0)); exact rfl; exact rfl; exact rfl; exact rfl; exact rfl; exact rfl; exact H; exact HA; exact inferInstance; intro vx c H HA)
  (skip)
  (refine s_call rfl rfl H HA (law_on nmP [vaN 0] _ _ Lk) ?_; intro vx c H HA)
  (skip)
  (refine s_call rfl rfl H HA (law_va 0 _) ?_; intro vx c H HP; have hvx := HP.h.1; have HA := HP.cut; subst hvx)
  (skip)
  (apply s_bs1D (u := (vaN 0)); exact rfl; exact rfl; exact rfl; exact rfl; exact rfl; exact rfl; exact H; exact HA; exact inferInstance; intro vx c H HA)
  (skip)
  (refine s_call rfl rfl H HA (law_on nmQ [vaN 0] _ _ Lk) ?_; intro vx c H HA)
  (refine Z55 fun vx c H HA => ?_)
  obtain ⟨cs1, rfl, a0, rfl, ha0⟩ := (Lk : Ag (⟨Tn, nmP, [vaN 0]⟩ : At0) _ c)
  have HA := HA.add ha0
  (obtain ⟨a1, rfl⟩ : ∃ x, x = vx := ⟨_, rfl⟩)
  (refine Z54 ?_; refine Z61 fun bx c H HA => ?_; refine Z74 fun c H HA => ?_; apply w_nil; apply wx_next; apply wc_seq; apply wc_region)
  (obtain ⟨b1, rfl⟩ : ∃ x, x = bx := ⟨_, rfl⟩)
  (refine s_call rfl rfl H HA (law_text ⟨#[97]⟩ _) ?_; intro vx c H HP; have hvx := HP.h.1; have HA := HP.cut; subst hvx)
  (skip)
  (apply s_bs1D (u := txA); exact rfl; exact rfl; exact rfl; exact rfl; exact rfl; exact rfl; exact H; exact HA; exact inferInstance; intro vx c H HA)
  (skip)
  (refine s_call rfl rfl H HA (law_on nmP [txA] _ _ Lk) ?_; intro vx c H HA)
  (skip)
  (refine s_call rfl rfl H HA (law_text ⟨#[97]⟩ _) ?_; intro vx c H HP; have hvx := HP.h.1; have HA := HP.cut; subst hvx)
  (skip)
  (apply s_bs1D (u := txA); exact rfl; exact rfl; exact rfl; exact rfl; exact rfl; exact rfl; exact H; exact HA; exact inferInstance; intro vx c H HA)
  (skip)
  (refine s_call rfl rfl H HA (law_on nmQ [txA] _ _ Lk) ?_; intro vx c H HA)
  (skip)
  (refine s_call rfl rfl H HA (law_on nmR [] _ _ (Sl.nil _)) ?_; intro vx c H HA)
  (refine Z60 fun vx c H HA => ?_)
  obtain ⟨cs2, rfl, d0, rfl, hd0⟩ := (Lk : Ag (⟨Tn, nmP, [txA]⟩ : At0) _ c)
  have HA := HA.add hd0
  (obtain ⟨d1, rfl⟩ : ∃ x, x = vx := ⟨_, rfl⟩)
  (refine Z54 ?_; refine Z61 fun bx c H HA => ?_; refine Z74 fun c H HA => ?_; apply w_nil; apply wx_next; apply wc_seq; apply wc_region; refine Z42 ?_; refine Z42 ?_)
  (obtain ⟨b2, rfl⟩ : ∃ x, x = bx := ⟨_, rfl⟩)
  have hC : ∀ c', Sl a0 [vaN 0] c' → Sl a1 ([⟨Tn, nmQ, [vaN 0]⟩] : List At0) c' → Ag exC (.agg (Cl.cs exC a0 a1 (.slice none 0 0)).toArray) c' := fun c' h h' => ⟨_, rfl, _, _, _, rfl, h, h', Sl.nil c'⟩
  have hD : ∀ c', Sl d0 [txA] c' → Sl d1 ([⟨Tn, nmQ, [txA]⟩, ⟨Tn, nmR, []⟩] : List At0) c' → Ag exD (.agg (Cl.cs exD d0 d1 (.slice none 0 0)).toArray) c' := fun c' h h' => ⟨_, rfl, _, _, _, rfl, h, h', Sl.nil c'⟩
  have fC : exC.fit := (Cl.check_ok.1 (show exC.check = 0 by decide +kernel)).fit
  have fD : exD.fit := (Cl.check_ok.1 (show exD.check = 0 by decide +kernel)).fit
  (refine s_call rfl rfl H HA (subsume_Subsumes exC exD _ _ _ (hC _ Lk Lk) (hD _ Lk Lk) fC fD Lk) ?_; intro vx c H HA)
  rw [ex_cd] at HA
  obtain ⟨vm, hr, hSm⟩ := HA.h.1
  subst hr
  have HA := HA.cut.add hSm
  (refine Z0 ?_; refine Z32 ?_; refine Z32 ?_; refine Z2 ?_; refine Z2 ?_; apply w_nil; apply wx_next; apply wc_seq; apply wc_region; refine Z42 ?_; refine Z42 ?_)
  (refine s_call rfl rfl H HA (subsume_Subsumes exD exC _ _ _ (hD _ Lk Lk) (hC _ Lk Lk) fD fC Lk) ?_; intro vx c H HA)
  rw [ex_dc] at HA
  obtain ⟨vn, hr, hSn⟩ := HA.h.1
  subst hr
  have HA := HA.cut.add hSn
  have e1 : ((([txA] : List Tm).length : Nat) : Int) = 1 := rfl
  have e2 : txA = ⟨2, 0, ⟨#[97]⟩⟩ := rfl
  (refine Z0 ?_; refine Z32 ?_; refine Z32 ?_; refine Z2 ?_; refine Z2 ?_; apply w_nil; apply wx_next; apply wc_seq; apply wc_seq)
  dsimp only [Option.isSome, Option.getD, Bool.not_true] at HA ⊢
  (refine dw_start H HA ?_)
  (repeat (refine Dc ?_))
  (apply dw_cons; (focus ((intro B _ Lx c H HA; (repeat (first | (intro vx hx; have hx2 : vx = _ := hx; clear hx; subst hx2) | (intro vx hx; have HA := HA.addSF hx; clear hx) | (intro vx hx; have HA := HA.add hx; clear hx) | intro vx)); change W _ _ _ _ _ _ _); (apply s_go; exact rfl; exact rfl; exact rfl); (refine s_ixP (α := Tm) (i := 0) (u := txA) rfl rfl rfl Lk rfl rfl rfl ?_; intro vx hx; have HA := HA.add hx; clear hx); exact Dx)); exact inferInstance)
  (repeat (refine Dc ?_))
  (apply dw_cons; (focus ((intro B _ Lx c H HA; (repeat (first | (intro vx hx; have hx2 : vx = _ := hx; clear hx; subst hx2) | (intro vx hx; have HA := HA.addSF hx; clear hx) | (intro vx hx; have HA := HA.add hx; clear hx) | intro vx)); change W _ _ _ _ _ _ _); (apply s_go; exact rfl; exact rfl; exact rfl); (refine s_call rfl rfl H HA (law_text ⟨#[97]⟩ _) ?_; intro vx c H HP; have hvx := HP.h.1; have HA := HP.cut; subst hvx); exact Dx)); exact inferInstance)
  (repeat (refine Dc ?_))
  (refine dw_done mixed H HA rfl (by kernel_rfl) ?_; clear H HA; intro c H HA; (repeat (first | (intro vx hx; have hx2 : vx = _ := hx; clear hx; subst hx2) | (intro vx hx; have HA := HA.addSF hx; clear hx) | (intro vx hx; have HA := HA.add hx; clear hx) | intro vx)); change W _ _ _ _ _ _ _)
  (apply w_nil; apply wx_next; refine Z19 ?_; apply wc_skip; apply wx_next; apply wc_seq)
  (refine dw_start H HA ?_)
  (repeat (refine Dc ?_))
  (apply dw_cons; (focus ((intro B _ Lx c H HA; (repeat (first | (intro vx hx; have hx2 : vx = _ := hx; clear hx; subst hx2) | (intro vx hx; have HA := HA.addSF hx; clear hx) | (intro vx hx; have HA := HA.add hx; clear hx) | intro vx)); change W _ _ _ _ _ _ _); (refine s_call rfl rfl H HA (law_va 0 _) ?_; intro vx c H HP; have hvx := HP.h.1; have HA := HP.cut; subst hvx); exact Dx)); exact inferInstance)
  (apply dw_cons; (focus ((intro B _ Lx c H HA; (repeat (first | (intro vx hx; have hx2 : vx = _ := hx; clear hx; subst hx2) | (intro vx hx; have HA := HA.addSF hx; clear hx) | (intro vx hx; have HA := HA.add hx; clear hx) | intro vx)); change W _ _ _ _ _ _ _); (apply s_bs1D (u := (vaN 0)); exact rfl; exact rfl; exact rfl; exact rfl; exact rfl; exact rfl; exact H; exact HA; exact inferInstance; intro vx c H HA); exact Dx)); exact inferInstance)
  (apply dw_cons; (focus ((intro B _ Lx c H HA; (repeat (first | (intro vx hx; have hx2 : vx = _ := hx; clear hx; subst hx2) | (intro vx hx; have HA := HA.addSF hx; clear hx) | (intro vx hx; have HA := HA.add hx; clear hx) | intro vx)); change W _ _ _ _ _ _ _); refine s_call rfl rfl H HA (law_on nmQ [vaN 0] _ _ Lk) ?_; intro vx c H HP; exact w_nil (pq_rel H (Cp) HP.h.1))); exact inferInstance)
  (apply dw_cons; (focus ((intro B _ Lx c H HA; (repeat (first | (intro vx hx; have hx2 : vx = _ := hx; clear hx; subst hx2) | (intro vx hx; have HA := HA.addSF hx; clear hx) | (intro vx hx; have HA := HA.add hx; clear hx) | intro vx)); change W _ _ _ _ _ _ _); (refine s_call rfl rfl H HA (law_va 1 _) ?_; intro vx c H HP; have hvx := HP.h.1; have HA := HP.cut; subst hvx); exact Dx)); exact inferInstance)
  (apply dw_cons; (focus ((intro B _ Lx c H HA; (repeat (first | (intro vx hx; have hx2 : vx = _ := hx; clear hx; subst hx2) | (intro vx hx; have HA := HA.addSF hx; clear hx) | (intro vx hx; have HA := HA.add hx; clear hx) | intro vx)); change W _ _ _ _ _ _ _); (apply s_bs1D (u := (vaN 1)); exact rfl; exact rfl; exact rfl; exact rfl; exact rfl; exact rfl; exact H; exact HA; exact inferInstance; intro vx c H HA); exact Dx)); exact inferInstance)
  (apply dw_cons; (focus ((intro B _ Lx c H HA; (repeat (first | (intro vx hx; have hx2 : vx = _ := hx; clear hx; subst hx2) | (intro vx hx; have HA := HA.addSF hx; clear hx) | (intro vx hx; have HA := HA.add hx; clear hx) | intro vx)); change W _ _ _ _ _ _ _); refine s_call rfl rfl H HA (law_on nmQ [vaN 1] _ _ Lk) ?_; intro vx c H HP; exact w_nil (pq_rel H (Cp) HP.h.1))); exact inferInstance)
  (repeat (refine Dc ?_))
  (apply dw_cons; (focus ((intro B _ Lx c H HA; (repeat (first | (intro vx hx; have hx2 : vx = _ := hx; clear hx; subst hx2) | (intro vx hx; have HA := HA.addSF hx; clear hx) | (intro vx hx; have HA := HA.add hx; clear hx) | intro vx)); change W _ _ _ _ _ _ _); (apply s_build; exact rfl; (focus ((repeat (first | exact bld_nil | (apply bld_cons; (conv => lhs; whnf)))); done)); (focus ((repeat' (first | exact Fil.nil | apply Fil.take | apply Fil.skip | exact App.nil | apply App.cons | (have h := HA.h; (repeat (first | exact Cells.sl h.1 | exact Cells.sl h | replace h := h.2)); done) | exact Cells.lit rfl | exact rfl)); done))); exact w_nil (pq_rel (S := Ag exT) H Cu ⟨_, rfl, a0, _, _, rfl, Lk, Lk, Sl.nil _⟩))); exact inferInstance)
  (repeat (refine Dc ?_))
  ((refine dw_doneO mixed H HA (by kernel_rfl) (by kernel_rfl) ?_; clear H HA; intro c HA; (repeat (first | (intro bx; have hbx : bx + 0 = bx := rfl; clear hbx) | (intro vx hx; have hx2 : vx = _ := hx; clear hx; subst hx2) | (intro vx hx; have HA := HA.addSF hx; clear hx) | (intro vx hx; skip; have HA := HA.add hx; clear hx) | (intro vx; have hvx2 : Go.Value := vx; clear hvx2))); (first | intro H | (have H := HA.h.1; have HA := HA.cut)); change W _ _ _ _ _ _ _); have H : Owns _ ([.obj bx (.cells (Cl.cs ⟨⟨Tn, ES, []⟩, [], []⟩ (.slice none 0 0) (.slice none 0 0) (.slice none 0 0)).toArray 30 (0, 0)), _, _]) _ := H)
  (obtain ⟨b7, rfl⟩ : ∃ x, x = bx := ⟨_, rfl⟩)
  obtain ⟨cs7, rfl, t0, t1, t2, rfl, ht0, ht1, ht2⟩ := (Lk : Ag exT _ c)
  have HA := ((HA.add ht0).add ht1).add ht2
  have fT : exT.fit := (Cl.check_ok.1 ex_tc).fit
  (refine Z74 fun c H HA => ?_; apply w_nil; apply wx_next; apply wc_seq; apply wc_region; refine Z42 ?_)
  (refine s_call rfl rfl H HA (subsume_Condense exT _ _ ⟨_, rfl, t0, t1, t2, rfl, Lk, Lk, Lk⟩ fT Lk) ?_; intro vx c H HA)
  rw [condE, if_pos ex_tc, ex_tn, ex_tc] at HA
  obtain ⟨ur, hr, cs8, rfl, u0, u1, u2, rfl, hu0, hu1, hu2⟩ := HA.h.1
  subst hr
  have HA := ((HA.cut.add hu0).add hu1).add hu2
  (refine Z0 ?_; refine Z32 ?_; refine Z32 ?_; refine Z61 fun bx c H HA => ?_; refine Z74 fun c H HA => ?_; refine Z2 ?_; apply w_nil; apply wx_next; apply wc_seq; apply wc_region; refine Z42 ?_; refine Z42 ?_; refine Z42 ?_)
  (obtain ⟨b8, rfl⟩ : ∃ x, x = bx := ⟨_, rfl⟩)
  have HA := ((HA.add (show Ag exT (.agg (Cl.cs exT t0 t1 t2).toArray) c from ⟨_, rfl, t0, t1, t2, rfl, Lk, Lk, Lk⟩)).add (hD _ Lk Lk)).add (hC _ Lk Lk)
  (refine Z60 fun vx c H HA => ?_)
  (refine s_call rfl rfl H HA (subsume_Reduce [exT, exD, exC] _ _ Lk (fun x hx => by
    rcases List.mem_cons.1 hx with rfl | hx
    · exact fT
    · rcases List.mem_cons.1 hx with rfl | hx
      · exact fD
      · rcases List.mem_cons.1 hx with rfl | hx
        · exact fC
        · cases hx) Lk) ?_; intro vx c H HA)
  rw [ex_rd] at HA
  obtain ⟨vl, hr, hSl⟩ := HA.h.1
  subst hr
  have HA := HA.cut.add hSl
  have e3 : (0 : Int) = 0 := rfl
  have e4 : ((([exC] : List Cl).length : Nat) : Int) = 1 := rfl
  (refine Z0 ?_; refine Z32 ?_; refine Z32 ?_; refine Z2 ?_; refine Z2 ?_; apply w_nil; apply wx_next; apply wc_seq)
  have hAC : ∀ c', Sl u0 exC.head.args c' → Sl u1 exC.body c' → Sl u2 exC.tests c' → Ag exC (.agg (Cl.cs exC u0 u1 u2).toArray) c' := fun c' h h' h'' => ⟨_, rfl, _, _, _, rfl, h, h', h''⟩
  have hSl : Sl vl [exC] c := hSl
  have HA := HA.add hSl
  (refine dw_start H HA ?_)
  (repeat (refine Dc ?_))
  (apply dw_cons; (focus ((intro B _ Lx c H HA; (repeat (first | (intro vx hx; have hx2 : vx = _ := hx; clear hx; subst hx2) | (intro vx hx; have HA := HA.addSF hx; clear hx) | (intro vx hx; have HA := HA.add hx; clear hx) | intro vx)); change W _ _ _ _ _ _ _); (apply s_go; exact rfl; exact rfl; exact rfl); (refine s_call rfl rfl H HA (Cn.imp (Post' := fun v _ => v = .bool true) (ref03_SameClause exC exC _ _ _ (hAC _ Lk Lk Lk) Lk) (fun v c' _ h => by rw [h, decide_eq_true rfl])) ?_; intro vx c H HP; have hvx := HP.h.1; have HA := HP.cut; subst hvx); exact Dx)); exact inferInstance)
  (repeat (refine Dc ?_))
  (apply dw_cons; (focus ((intro B _ Lx c H HA; (repeat (first | (intro vx hx; have hx2 : vx = _ := hx; clear hx; subst hx2) | (intro vx hx; have HA := HA.addSF hx; clear hx) | (intro vx hx; have HA := HA.add hx; clear hx) | intro vx)); change W _ _ _ _ _ _ _); (apply s_go; exact rfl; exact rfl; exact rfl); (refine s_ixP (α := Cl) (i := 0) (u := exC) rfl rfl rfl (Lk : Sl vl [exC] _) rfl rfl rfl ?_; intro vx hx; have HA := HA.add hx; clear hx); exact Dx)); exact inferInstance)
  (repeat (refine Dc ?_))
  (apply dw_cons; (focus ((intro B _ Lx c H HA; (repeat (first | (intro vx hx; have hx2 : vx = _ := hx; clear hx; subst hx2) | (intro vx hx; have HA := HA.addSF hx; clear hx) | (intro vx hx; have HA := HA.add hx; clear hx) | intro vx)); change W _ _ _ _ _ _ _); (apply s_go; exact rfl; exact rfl; exact rfl); (refine s_call rfl rfl H HA (Cn.imp (Post' := fun v _ => v = .bool true) (ref03_SameClause exC exC _ _ _ Lk Lk) (fun v c' _ h => by rw [h, decide_eq_true rfl])) ?_; intro vx c H HP; have hvx := HP.h.1; have HA := HP.cut; subst hvx); exact Dx)); exact inferInstance)
  (repeat (refine Dc ?_))
  (refine dw_done mixed H HA rfl (by kernel_rfl) ?_; clear H HA; intro c H HA; (repeat (first | (intro vx hx; have hx2 : vx = _ := hx; clear hx; subst hx2) | (intro vx hx; have HA := HA.addSF hx; clear hx) | (intro vx hx; have HA := HA.add hx; clear hx) | intro vx)); change W _ _ _ _ _ _ _)
  (apply w_nil; apply wx_next; apply wc_ret)
  exact ret_fn H hm (outs1 Tryz.results15 Wh) rfl
end Go.Proofs.YthkdggoohpgnnaaGreatDoor
/- Contracts: terms and tests made valid. -/
namespace Go.Wk
open Go Go.RowKit
section
variable {P : Program} {ops : Array Oper} {Q : Exit → Act → World → Prop} {n : Nat} {f : Nat → Value} {rest : List Oper} {ty : TypeId} {ps : String} {af : Array Edge} {d : Tmp} {w : World}
/-- s[:m] of a string. -/
theorem s_slS {T : TypeId} {x y : Operand} {s : ByteArray} {m : Nat} (hn : Nat.blt d n = true) [StrT P T] (hx : opd f x = .string s) (hy : opd f y = .int .i64 m) (hm : m ≤ s.size) (k : W P ops Q rest n (upd f d (.string (s.extract 0 m))) w) :
    W P ops Q (⟨some d, .slice T x none (some y) none, ty, ps, af, none⟩ :: rest) n f w := by
  refine st_val hn ?_ k
  have hu := StrT.h (P := P) (T := T)
  have h2 : (m : Int) ≤ s.size := by omega
  simp only [execOp, hx, hy, Option.map_none, Option.map_some]
  simp [Instr.sliceAt, Instr.slice, Instr.sliceBounds, Instr.sliceBound, asIntOf, run_underlying hu, h2]
  intro hc
  omega
theorem s_rem {T T' : TypeId} {x y : Operand} {kd : IntKind} {a b : Int} (hn : Nat.blt d n = true) (hx : opd f x = .int kd a) (hy : opd f y = .int kd b) (hb : b ≠ 0) (k : W P ops Q rest n (upd f d (.int kd (a.tmod b))) w) : W P ops Q (⟨some d, .binOp .rem T x y T', ty, ps, af, none⟩ :: rest) n f w :=
  st_val hn (by simp [execOp, hx, hy, eqGuard_at_int, binOp_rem, Op.intDiv, hb]) k
/-- Ways meet again: what is known of the frame, what is owned. -/
theorem wc_cutK {x y : Code} {c0 c : Cx} {L0 : List Res} {A : Cx → Prop} (kf : List (Nat × Value)) (L : List Res) (H : Owns c0 L0 c) (HA : Hd A c) (h : WC P x (CutI n fun f c => KS f kf ∧ Owns c0 L c ∧ Hd A c) n f c.w) (k : ∀ g c, Owns c0 L c → Hd A c → WC P y Q n (updA g kf) c.w) : WC P (.seq x y) Q n f c.w :=
  wc_cut _ h fun f' c' ⟨hk, H, HA⟩ => by
    obtain ⟨g, rfl⟩ := hk.ex
    exact k g c' H HA
theorem wc_cutS {x y : Code} {c0 c : Cx} {L : List Res} {A : Cx → Prop} (kf : List (Nat × Value)) (H : Owns c0 L c) (HA : Hd A c) (h : WC P x (CutI n fun f c => KS f kf ∧ Owns c0 L c ∧ Hd A c) n f c.w) (k : ∀ g c, Owns c0 L c → Hd A c → WC P y Q n (updA g kf) c.w) : WC P (.seq x y) Q n f c.w := wc_cutK kf L H HA h k
theorem wx_cutK {c0 c : Cx} {L : List Res} {A : Cx → Prop} {kf : List (Nat × Value)} (H : Owns c0 L c) (HA : Hd A c) (hk : KS f kf) : WX (CutI n fun f c => KS f kf ∧ Owns c0 L c ∧ Hd A c) .normal n f c.w := wx_cut ⟨hk, H, HA⟩
theorem wc_cutE {x y : Code} {c0 c : Cx} {L0 : List Res} {A : Cx → Prop} (kf : Value → List (Nat × Value)) (L : Value → List Res) (S : Value → Cx → Prop) (H : Owns c0 L0 c) (HA : Hd A c) (h : WC P x (CutI n fun f c => ∃ v, KS f (kf v) ∧ Owns c0 (L v) c ∧ Hd (fun c => S v c ∧ A c) c) n f c.w)
    (k : ∀ v g c, Owns c0 (L v) c → Hd (fun c => S v c ∧ A c) c → WC P y Q n (updA g (kf v)) c.w) : WC P (.seq x y) Q n f c.w :=
  wc_cut _ h fun f' c' ⟨v, hk, H, HA⟩ => by
    obtain ⟨g, rfl⟩ := hk.ex
    exact k v g c' H HA
theorem wx_cutE {c0 c : Cx} {L : Value → List Res} {A : Cx → Prop} {S : Value → Cx → Prop} {kf : Value → List (Nat × Value)} (v : Value) (H : Owns c0 (L v) c) (HA : Hd A c) (hS : S v c) (hk : KS f (kf v)) : WX (CutI n fun f c => ∃ v, KS f (kf v) ∧ Owns c0 (L v) c ∧ Hd (fun c => S v c ∧ A c) c) .normal n f c.w := wx_cut ⟨v, hk, H, HA.add hS⟩
end
theorem tmod4 (n : Int) : -4 < n.tmod 4 ∧ n.tmod 4 < 4 := by
  rw [Int.tmod_eq_emod]
  split <;> omega
end Go.Wk
namespace Go.Proofs.YthkdggoohpgnnaaGreatDoor
open Go Go.Wk
theorem ref03_MadeConst (t : Tm) (c : Cx) (hs : t.sm) : Cn Tryz.prog 27 [.agg t.cs.toArray] c (fun r _ => r = .agg (constM t).cs.toArray) := by
  refine Cn.of Tryz.func27 Tryz.ntmps27 rfl rfl fun hm H HA => ?_
  (apply wc_seq; apply wc_region; refine Z31 fun bx c H HA => ?_; refine Z61 fun bx c H HA => ?_; apply w_nil; apply wx_next; apply wc_seq; apply wc_seq; apply wc_region; refine Z7 ?_)
  (refine s_call rfl rfl H HA (ref02_Const t _) ?_; intro vx c H HP; have hvx := HP.h.1; have HA := HP.cut; subst hvx)
  cases hc : t.isConst
  · have hs' : t.s.size < 4611686018427387904 := hs
    (focus (apply w_nil; apply wx_next; refine Z19 ?_; apply wc_skip; apply wx_next; apply wc_seq; apply wc_seq; apply wc_region; refine Z3 ?_; refine Z1 ?_; refine Z92 (fun hq => ?_) fun hq => ?_; apply w_nil; apply wx_next; refine Z18 ?_; apply wc_seq; apply wc_region; refine Z3 ?_; refine Z1 ?_; refine Z43 ?_; refine Z2 ?_; apply w_nil; apply wx_next; apply wc_seq; apply wc_seq; apply wc_region; refine Z0 ?_; refine Z96 (fun hq => ?_) fun hq => ?_; apply w_nil; apply wx_next; refine Z18 ?_; apply wc_region; refine Z2 ?_; apply w_nil; apply wx_next; apply wc_seq; apply wc_region; refine Z3 ?_; refine Z1 ?_; refine Z0 ?_; rotate_left; apply w_nil; apply wx_next; refine Z19 ?_; apply wc_skip; apply wx_next; apply wc_seq; apply wc_region; refine Z3 ?_; refine Z1 ?_; refine Z0 ?_; rotate_left; apply w_nil; apply wx_next; refine Z19 ?_; apply wc_skip; apply wx_next; apply wc_seq; apply wc_region; refine Z3 ?_; refine Z1 ?_; refine Z54 ?_; refine Z74 fun c H HA => ?_; apply w_nil; apply wx_next; apply wc_ret; rotate_left))
    · rename_i hk
      have e : t.s.extract 0 64 = t.s.extract 0 (min t.s.size 64) := by rw [Nat.min_eq_right (by omega)]
      (refine s_slS (m := 64) rfl rfl rfl (by omega) ?_)
      (refine Z54 ?_; refine Z74 fun c H HA => ?_; apply w_nil; apply wx_next; apply wc_ret; apply wx_ret_then)
      exact ret_fn H hm (outsR1 Tryz.results27 (RV.agg rfl H Ow Rc)) (by rw [e]; simp [constM, hc, hk])
    · rename_i hk
      have e : t.s.extract 0 t.s.size = t.s.extract 0 (min t.s.size 64) := by rw [Nat.min_eq_left (by omega)]
      (refine s_slS (m := t.s.size) rfl rfl rfl (by omega) ?_)
      (refine Z54 ?_; refine Z74 fun c H HA => ?_; apply w_nil; apply wx_next; apply wc_ret; apply wx_ret_then)
      exact ret_fn H hm (outsR1 Tryz.results27 (RV.agg rfl H Ow Rc)) (by rw [e]; simp [constM, hc, hk])
    · exact ret_fn H hm (outsR1 Tryz.results27 (RV.agg rfl H Ow Rc)) (by simp [constM, hc, hq])
  · (apply w_nil; apply wx_next; refine Z18 ?_; apply wc_seq; apply wc_region; refine Z7 ?_; refine Z74 fun c H HA => ?_; apply w_nil; apply wx_next; apply wc_ret; apply wx_ret_then)
    exact ret_fn H hm (outsR1 Tryz.results27 (RV.agg rfl H Ow Rc)) (by simp [constM, hc])
theorem ref03_ground (t : Tm) (c : Cx) : Cn Tryz.prog 119 [.agg t.cs.toArray] c (fun r _ => r = .agg (groundM t).cs.toArray) := by
  refine Cn.of Tryz.func119 Tryz.ntmps119 rfl rfl fun hm H HA => ?_
  (focus (apply wc_seq; apply wc_region; refine Z31 fun bx c H HA => ?_; refine Z61 fun bx c H HA => ?_; apply w_nil; apply wx_next; apply wc_seq; apply wc_seq; apply wc_region; refine Z3 ?_; refine Z1 ?_; refine Z92 (fun hq => ?_) fun hq => ?_; apply w_nil; apply wx_next; refine Z18 ?_; apply wc_seq; apply wc_region; refine Z3 ?_; refine Z1 ?_; refine Z54 ?_; refine Z74 fun c H HA => ?_; apply w_nil; apply wx_next; apply wc_ret; apply wx_ret_then; rotate_left; apply w_nil; apply wx_next; refine Z19 ?_; apply wc_skip; apply wx_next; apply wc_seq; apply wc_region; refine Z7 ?_; refine Z74 fun c H HA => ?_; apply w_nil; apply wx_next; apply wc_ret; rotate_left))
  · exact ret_fn H hm (outsR1 Tryz.results119 (RV.agg rfl H Ow Rc)) (by rw [groundM, if_pos hq])
  · exact ret_fn H hm (outsR1 Tryz.results119 (RV.agg rfl H Ow Rc)) (by rw [groundM, if_neg hq])
theorem ref03_safe (l : List Tm) (v : Value) (t : Tm) (c : Cx) (h : Sl v l c) : Cn Tryz.prog 64 [v, .agg t.cs.toArray] c (fun r _ => r = .agg (safeM l t).cs.toArray) := by
  refine Cn.of Tryz.func64 Tryz.ntmps64 rfl rfl fun hm H HA => ?_
  have HA := HA.add h
  (apply wc_seq; apply wc_region; refine Z31 fun bx c H HA => ?_; refine Z61 fun bx c H HA => ?_; apply w_nil; apply wx_next; apply wc_seq; apply wc_seq; apply wc_region; refine Z0 ?_; refine Z7 ?_)
  (refine s_call rfl rfl H HA (ref03_within l _ t _ Lk) ?_; intro vx c H HP; have hvx := HP.h.1; have HA := HP.cut; subst hvx)
  by_cases ht : t ∈ l
  · rw [decide_eq_true ht]
    (apply w_nil; apply wx_next; refine Z18 ?_; apply wc_seq; apply wc_region; refine Z7 ?_; refine Z74 fun c H HA => ?_; apply w_nil; apply wx_next; apply wc_ret; apply wx_ret_then)
    exact ret_fn H hm (outsR1 Tryz.results64 (RV.agg rfl H Ow Rc)) (by rw [safeM, if_pos ht])
  · rw [decide_eq_false ht]
    (apply w_nil; apply wx_next; refine Z19 ?_; apply wc_skip; apply wx_next; apply wc_seq; apply wc_region; refine Z7 ?_)
    (refine s_call rfl rfl H HA (ref03_ground t _) ?_; intro vx c H HP; have hvx := HP.h.1; have HA := HP.cut; subst hvx)
    (refine Z74 fun c H HA => ?_; apply w_nil; apply wx_next; apply wc_ret)
    exact ret_fn H hm (outsR1 Tryz.results64 (RV.agg rfl H Ow Rc)) (by rw [safeM, if_neg ht])
end Go.Proofs.YthkdggoohpgnnaaGreatDoor
/- Contracts: atoms made valid. -/
namespace Go.Proofs.YthkdggoohpgnnaaGreatDoor
open Go Go.Wk
theorem ref03_madeTest (l : List Tm) (v : Value) (t : Ts) (c : Cx) (h : Sl v l c) (hl : t.l.sm) (hr : t.r.sm) : Cn Tryz.prog 65 [.agg t.cs.toArray, v] c (fun r _ => r = .agg (madeTs l t).cs.toArray) := by
  refine Cn.of Tryz.func65 Tryz.ntmps65 rfl rfl fun hm H HA => ?_
  have HA := HA.add h
  have hs1 : t.l.s.size < 4611686018427387904 := hl
  (skip)
  (apply wc_seq; apply wc_region)
  (refine Z31 fun bx c H HA => ?_; refine Z61 fun bx c H HA => ?_; apply w_nil; apply wx_next)
  (obtain ⟨b4, rfl⟩ : ∃ x, x = bx := ⟨_, rfl⟩)
  (obtain ⟨b2, rfl⟩ : ∃ x, x = bx := ⟨_, rfl⟩)
  (apply wc_seq; apply wc_region)
  (refine Z3 ?_; refine Z1 ?_; refine Z2 ?_; apply w_nil; apply wx_next)
  (refine wc_cutS [(1, v), (2, .pointer (some ⟨b2, 0, none⟩)), (4, .pointer (some ⟨b4, 0, none⟩)), (5, .int .i64 (madeOp t.op))] H HA ?_ ?_)
  · have hr1 := tmod4 t.op
    have hr2 := tmod4 (t.op.tmod 4 + 4)
    (focus (apply wc_seq; apply wc_region; refine Z0 ?_; refine Z93 (fun hq => ?_) fun hq => ?_; refine Z0 ?_; refine Z5 ?_; refine Z5 ?_; refine Z8 ?_; apply w_nil; apply wx_next; refine Z18 ?_; apply wc_region; refine Z0 ?_; rotate_left; refine Z0 ?_; refine Z4 ?_; refine Z0 ?_; refine Z4 ?_; refine Z96 (fun hq => ?_) fun hq => ?_; refine Z30 ?_; apply w_nil; apply wx_next; refine Z18 ?_; apply wc_region; refine Z0 ?_; rotate_left; refine Z30 ?_; apply w_nil; apply wx_next; refine Z19 ?_; apply wc_skip; rotate_left))
    · rename_i hq
      have e : madeOp t.op = 1 + (t.op.tmod 4 + 4).tmod 4 := by rw [madeOp, if_pos (.inl hq)]
      (refine s_rem rfl rfl rfl (by decide) ?_)
      (refine Z48 ?_)
      (refine s_rem rfl rfl rfl (by decide) ?_)
      (refine Z48 ?_; refine Z2 ?_; apply w_nil)
      rw [← e]
      exact wx_cutK H Cu Ks
    · rename_i hq
      have e : madeOp t.op = 1 + (t.op.tmod 4 + 4).tmod 4 := by rw [madeOp, if_pos (.inr hq)]
      (refine s_rem rfl rfl rfl (by decide) ?_)
      (refine Z48 ?_)
      (refine s_rem rfl rfl rfl (by decide) ?_)
      (refine Z48 ?_; refine Z2 ?_; apply w_nil)
      rw [← e]
      exact wx_cutK H Cu Ks
    · rename_i hq hq2
      have e : t.op = madeOp t.op := by rw [madeOp, if_neg (by omega)]
      refine wx_cutK H Cu ?_
      rw [← e]
      exact Ks
  intro g c H HA
  (apply wc_seq; apply wc_region)
  (refine Z3 ?_; refine Z7 ?_; refine Z61 fun bx c H HA => ?_; refine Z74 fun c H HA => ?_; apply w_nil; apply wx_next)
  (obtain ⟨b6, rfl⟩ : ∃ x, x = bx := ⟨_, rfl⟩)
  (apply wc_seq; apply wc_region)
  (refine Z3 ?_; refine Z7 ?_; refine Z61 fun bx c H HA => ?_; refine Z74 fun c H HA => ?_; apply w_nil; apply wx_next)
  (obtain ⟨b7, rfl⟩ : ∃ x, x = bx := ⟨_, rfl⟩)
  have hs2 : t.r.s.size < 4611686018427387904 := hr
  (refine wc_cutK [(1, v), (2, .pointer (some ⟨b2, 0, none⟩)), (4, .pointer (some ⟨b4, 0, none⟩)), (5, .int .i64 (madeOp t.op)), (6, .pointer (some ⟨b6, 0, none⟩)), (7, .pointer (some ⟨b7, 0, none⟩))] [.obj b7 (.cells (Tm.cs t.r).toArray 23 (0, 0)), .obj b6 (.cells (Tm.cs (madeT t.l)).toArray 23 (0, 0)), .obj b4 (.cells (Ts.cs ⟨0, Tn, Tn⟩).toArray 79 (0, 0))] H HA ?_ ?_)
  · (apply wc_seq; apply wc_region; refine Z42 ?_)
    (refine s_call rfl rfl H HA (ref02_Variable t.l _) ?_; intro vx c H HP; have hvx := HP.h.1; have HA := HP.cut; subst hvx)
    cases hv : t.l.isVar
    · (refine Z33 ?_; apply w_nil; apply wx_next; refine Z18 ?_; apply wc_region; refine Z42 ?_)
      (refine s_call rfl rfl H HA (ref03_MadeConst t.l _ hl) ?_; intro vx c H HP; have hvx := HP.h.1; have HA := HP.cut; subst hvx)
      have H := H.swap
      (refine Z74 fun c H HA => ?_; apply w_nil)
      have H := H.swap
      have e : madeT t.l = constM t.l := by rw [madeT, hv]; rfl
      rw [e]
      exact wx_cutK H Cu Ks
    · (refine Z33 ?_; apply w_nil; apply wx_next; refine Z19 ?_; apply wc_skip)
      have e : madeT t.l = t.l := by rw [madeT, hv]; rfl
      rw [e]
      exact wx_cutK H Cu Ks
  intro g c H HA
  (refine wc_cutK [(1, v), (2, .pointer (some ⟨b2, 0, none⟩)), (4, .pointer (some ⟨b4, 0, none⟩)), (5, .int .i64 (madeOp t.op)), (6, .pointer (some ⟨b6, 0, none⟩)), (7, .pointer (some ⟨b7, 0, none⟩))] [.obj b7 (.cells (Tm.cs (madeT t.r)).toArray 23 (0, 0)), .obj b6 (.cells (Tm.cs (madeT t.l)).toArray 23 (0, 0)), .obj b4 (.cells (Ts.cs ⟨0, Tn, Tn⟩).toArray 79 (0, 0))] H HA ?_ ?_)
  · (apply wc_seq; apply wc_region; refine Z42 ?_)
    (refine s_call rfl rfl H HA (ref02_Variable t.r _) ?_; intro vx c H HP; have hvx := HP.h.1; have HA := HP.cut; subst hvx)
    cases hv : t.r.isVar
    · (refine Z33 ?_; apply w_nil; apply wx_next; refine Z18 ?_; apply wc_region; refine Z42 ?_)
      (refine s_call rfl rfl H HA (ref03_MadeConst t.r _ hr) ?_; intro vx c H HP; have hvx := HP.h.1; have HA := HP.cut; subst hvx)
      (refine Z74 fun c H HA => ?_; apply w_nil)
      have e : madeT t.r = constM t.r := by rw [madeT, hv]; rfl
      rw [e]
      exact wx_cutK H Cu Ks
    · (refine Z33 ?_; apply w_nil; apply wx_next; refine Z19 ?_; apply wc_skip)
      have e : madeT t.r = t.r := by rw [madeT, hv]; rfl
      rw [e]
      exact wx_cutK H Cu Ks
  intro g c H HA
  (apply wc_seq)
  (refine dw_start H HA ?_)
  (repeat (refine Dc ?_))
  (apply dw_cons; (focus ((intro B _ Lx c H HA; (repeat (first | (intro vx hx; have hx2 : vx = _ := hx; clear hx; subst hx2) | (intro vx hx; have HA := HA.addSF hx; clear hx) | (intro vx hx; have HA := HA.add hx; clear hx) | intro vx)); change W _ _ _ _ _ _ _); (refine s_call rfl rfl H HA (ref03_safe l v (madeT t.l) _ Lk) ?_; intro vx c H HP; have hvx := HP.h.1; have HA := HP.cut; subst hvx); exact Dx)); exact inferInstance)
  (repeat (refine Dc ?_))
  (apply dw_cons; (focus ((intro B _ Lx c H HA; (repeat (first | (intro vx hx; have hx2 : vx = _ := hx; clear hx; subst hx2) | (intro vx hx; have HA := HA.addSF hx; clear hx) | (intro vx hx; have HA := HA.add hx; clear hx) | intro vx)); change W _ _ _ _ _ _ _); (refine s_call rfl rfl H HA (ref03_safe l v (madeT t.r) _ Lk) ?_; intro vx c H HP; have hvx := HP.h.1; have HA := HP.cut; subst hvx); exact Dx)); exact inferInstance)
  (repeat (refine Dc ?_))
  (refine dw_done mixed H HA rfl (by kernel_rfl) ?_; clear H HA; intro c H HA; (repeat (first | (intro vx hx; have hx2 : vx = _ := hx; clear hx; subst hx2) | (intro vx hx; have HA := HA.addSF hx; clear hx) | (intro vx hx; have HA := HA.add hx; clear hx) | intro vx)); change W _ _ _ _ _ _ _)
  have H := H.swap2
  (refine Z74 fun c H HA => ?_; apply w_nil; apply wx_next; apply wc_ret)
  exact ret_fn H hm (outsR1 Tryz.results65 (RV.agg rfl H Ow Rc)) rfl
end Go.Proofs.YthkdggoohpgnnaaGreatDoor
/- Contracts: atoms made valid. -/
namespace Go.Wk
open Go Go.RowKit
/-- An atom whose row of arguments is handed back as the caller's own. -/
def AtO (e : TypeId) (a : At0) (v : Value) (R : List Res) (c : Cx) : Prop := ∃ vr vals, v = .agg (At0.cs a vr).toArray ∧ R = [.row vr e 3 a.args.length vals.flatten] ∧ Vals vals a.args c
instance AtO.mono (e : TypeId) (a : At0) (v : Value) (R : List Res) : Mono (AtO e a v R) := ⟨fun h ⟨vr, vals, e1, e2, k⟩ => ⟨vr, vals, e1, e2, Mono.mono h k⟩⟩
theorem CnO.at0 {P : Program} {g : FuncId} {args : List Value} {c : Cx} {e : TypeId} {a : At0} (h : CnO P g args c (AtO e a)) (hlim : a.args.length < 1099511627776) : Cn P g args c fun v c => Ag a v c :=
  fun hm => (h hm).mono fun _ w' ⟨v, R, M', he, h1, h2, h3⟩ => by
    obtain ⟨vr, vals, e1, rfl, hv⟩ := h3
    have h4 := h1.freezeRow hv rfl rfl hlim
    refine ⟨v, he, h1.ext, ?_⟩
    subst e1
    exact ⟨_, rfl, vr, rfl, Mono.mono (h4.2.1.fin hm) h4.2.2⟩
end Go.Wk
namespace Go.Proofs.YthkdggoohpgnnaaGreatDoor
open Go Go.Wk
theorem ref03_MadeAtomO (a : At0) (u : Value) (c : Cx) (h : Ag a u c) (hs : a.sm) : CnO Tryz.prog 62 [u] c (AtO 23 (madeA a)) := by
  refine CnO.of Tryz.func62 Tryz.ntmps62 rfl rfl fun hm H HA => ?_
  have HA := HA.add h
  (apply wc_seq; apply wc_region)
  (refine s_boxG rfl rfl Lk H HA ?_; intro p c H HA)
  (refine Z61 fun bx c H HA => ?_; apply w_nil; apply wx_next)
  (obtain ⟨b2, rfl⟩ : ∃ x, x = bx := ⟨_, rfl⟩)
  (apply wc_seq; apply wc_region)
  (refine Z35 HA fun vx HA => ?_; refine Z38 ?_; refine Z35 HA fun vx HA => ?_; refine Z36 ?_; refine Z54 ?_; refine Z61 fun bx c H HA => ?_; refine Z74 fun c H HA => ?_; apply w_nil; apply wx_next)
  (obtain ⟨b3, rfl⟩ : ∃ x, x = bx := ⟨_, rfl⟩)
  (refine wc_cutK [(1, p), (2, .pointer (some ⟨b2, 0, none⟩)), (3, .pointer (some ⟨b3, 0, none⟩))] [.obj b3 (.cells (At0.cs ⟨madeBy a.by_, a.name, []⟩ (.slice none 0 0)).toArray 26 (0, 0)), .obj b2 (.cells (At0.cs ⟨Tn, ES, []⟩ (.slice none 0 0)).toArray 26 (0, 0))] H HA ?_ ?_)
  · (apply wc_seq; apply wc_region; refine Z35 HA fun vx HA => ?_; refine Z38 ?_; refine Z54 ?_)
    (refine s_call rfl rfl H HA (ref02_CheckAtom (⟨a.by_, nmP, []⟩ : At0) _ _ ⟨_, rfl, _, rfl, Sl.nil _⟩ (show nmP.size < 4611686018427387904 by decide)) ?_; intro vx c H HP; have hvx := HP.h.1; have HA := HP.cut; subst hvx)
    by_cases hc : (⟨a.by_, nmP, []⟩ : At0).check = 0
    · (refine Z82 ?_; apply w_nil; apply wx_next; refine Z19 ?_; apply wc_skip)
      have e : madeBy a.by_ = a.by_ := by rw [madeBy, if_pos hc]
      rw [e]
      exact wx_cutK H Cu Ks
    · (refine Z82 ?_; apply w_nil; apply wx_next; refine Z18 ?_; apply wc_region; refine Z54 ?_; refine Z3 ?_; refine Z74 fun c H HA => ?_; apply w_nil)
      have e : madeBy a.by_ = Tn := by rw [madeBy, if_neg hc]
      rw [e]
      exact wx_cutK H Cu Ks
  intro g c H HA
  (refine wc_cutK [(1, p), (2, .pointer (some ⟨b2, 0, none⟩)), (3, .pointer (some ⟨b3, 0, none⟩))] [.obj b3 (.cells (At0.cs ⟨madeBy a.by_, madeNm a.name, []⟩ (.slice none 0 0)).toArray 26 (0, 0)), .obj b2 (.cells (At0.cs ⟨Tn, ES, []⟩ (.slice none 0 0)).toArray 26 (0, 0))] H HA ?_ ?_)
  · (apply wc_seq; apply wc_region; refine Z35 HA fun vx HA => ?_; refine Z36 ?_; refine Z54 ?_)
    (refine s_call rfl rfl H HA (ref02_CheckAtom (⟨Tn, a.name, []⟩ : At0) _ _ ⟨_, rfl, _, rfl, Sl.nil _⟩ hs.1) ?_; intro vx c H HP; have hvx := HP.h.1; have HA := HP.cut; subst hvx)
    by_cases hc : (⟨Tn, a.name, []⟩ : At0).check = 0
    · (refine Z82 ?_; apply w_nil; apply wx_next; refine Z19 ?_; apply wc_skip)
      have e : madeNm a.name = a.name := by rw [madeNm, if_pos hc]
      rw [e]
      exact wx_cutK H Cu Ks
    · (refine Z82 ?_; apply w_nil; apply wx_next; refine Z18 ?_; apply wc_region; refine Z3 ?_; refine Z75 fun c H HA => ?_; apply w_nil)
      have e : madeNm a.name = nmP := by rw [madeNm, if_neg hc]
      rw [e]
      exact wx_cutK H Cu Ks
  intro g c H HA
  have H := H.nilR Tm 23 3
  have hlim : a.args.length < 1099511627776 := by obtain ⟨cs, rfl, v, rfl, h⟩ := h; exact h.lim
  (apply wc_seq; apply wc_seq; apply wc_region; refine Z2 ?_; apply w_nil; apply wx_next; apply wc_block)
  refine wc_loopG (σ := Nat × List Tm × Value × List (List Value)) (fun x => a.args.length - x.1) (fun x => [(1, p), (2, .pointer (some ⟨b2, 0, none⟩)), (3, .pointer (some ⟨b3, 0, none⟩)), (4, .int .i64 x.1)])
    (fun x => x.1 ≤ a.args.length ∧ x.1 ≤ 8 ∧ x.2.1 = (a.args.take x.1).map madeT)
    (fun x => [.row x.2.2.1 23 3 x.2.1.length x.2.2.2.flatten, .obj b3 (.cells (At0.cs ⟨madeBy a.by_, madeNm a.name, []⟩ x.2.2.1).toArray 26 (0, 0)), .obj b2 (.cells (At0.cs ⟨Tn, ES, []⟩ (.slice none 0 0)).toArray 26 (0, 0))])
    (fun x c => Vals x.2.2.2 x.2.1 c) (0, [], .slice none 0 0, []) H HA (Vals.nil _) Ks ⟨Nat.zero_le _, Nat.zero_le _, rfl⟩ ?_
  intro x g c hp H HA
  obtain ⟨k, acc, vr, vals⟩ := x
  obtain ⟨hk, hk8, hacc⟩ := hp
  dsimp only at hk hk8 hacc H HA ⊢
  have hlen : acc.length = k := by rw [hacc]; simp; omega
  (focus (apply wc_seq; apply wc_seq; apply wc_region; refine Z0 ?_; refine Z35 HA fun vx HA => ?_; refine Z37 HA fun vx HA => ?_; refine Z45 ?_; refine Z93 (fun hq => ?_) fun hq => ?_; refine Z0 ?_; refine Z4 ?_; refine Z0 ?_; refine Z4 ?_; refine Z93 (fun hq => ?_) fun hq => ?_; refine Z8 ?_; apply w_nil; apply wx_next; refine Z18 ?_; apply wc_skip; apply wx_next; apply wc_seq; apply wc_block; apply wc_seq; apply wc_region; refine Z35 HA fun vx HA => ?_; refine Z37 HA fun vx HA => ?_; refine Z0 ?_; rotate_left; refine Z8 ?_; apply w_nil; apply wx_next; refine Z19 ?_; apply wc_exit; apply wx_exit_then; apply wx_exit_then; apply wx_exit_same; apply wx_next; apply wc_seq; apply wc_region; refine Z42 ?_; refine Z78 fun c H HA => ?_; apply w_nil; apply wx_next; apply wc_ret; rotate_left; refine Z0 ?_; refine Z5 ?_; refine Z5 ?_; refine Z30 ?_; apply w_nil; apply wx_next; refine Z19 ?_; apply wc_exit; apply wx_exit_then; apply wx_exit_then; apply wx_exit_same; apply wx_next; apply wc_seq; apply wc_region; refine Z42 ?_; refine Z78 fun c H HA => ?_; apply w_nil; apply wx_next; apply wc_ret; rotate_left))
  · obtain ⟨t, ht⟩ := getq (xs := a.args) (k := k) (by omega)
    have hts : t.sm := hs.2.2 t (List.mem_of_getElem? ht)
    (refine Z34 HA fun vx HA => ?_; refine Z38 ?_; refine Z61 fun bx c H HA => ?_; refine Z74 fun c H HA => ?_; apply w_nil; apply wx_next)
    (obtain ⟨b5, rfl⟩ : ∃ x, x = bx := ⟨_, rfl⟩)
    (refine wc_cutK [(1, p), (2, .pointer (some ⟨b2, 0, none⟩)), (3, .pointer (some ⟨b3, 0, none⟩)), (4, .int .i64 k), (5, .pointer (some ⟨b5, 0, none⟩))] [.obj b5 (.cells (Tm.cs (madeT t)).toArray 23 (0, 0)), .row vr 23 3 acc.length vals.flatten, .obj b3 (.cells (At0.cs ⟨madeBy a.by_, madeNm a.name, []⟩ vr).toArray 26 (0, 0)), .obj b2 (.cells (At0.cs ⟨Tn, ES, []⟩ (.slice none 0 0)).toArray 26 (0, 0))] H HA ?_ ?_)
    · (apply wc_seq; apply wc_region; refine Z42 ?_)
      (refine s_call rfl rfl H HA (ref02_Variable t _) ?_; intro vx c H HP; have hvx := HP.h.1; have HA := HP.cut; subst hvx)
      cases hv : t.isVar
      · (refine Z33 ?_; apply w_nil; apply wx_next; refine Z18 ?_; apply wc_region; refine Z42 ?_)
        (refine s_call rfl rfl H HA (ref03_MadeConst t _ hts) ?_; intro vx c H HP; have hvx := HP.h.1; have HA := HP.cut; subst hvx)
        (refine Z74 fun c H HA => ?_; apply w_nil)
        have e : madeT t = constM t := by rw [madeT, hv]; rfl
        rw [e]
        exact wx_cutK H Cu Ks
      · (refine Z33 ?_; apply w_nil; apply wx_next; refine Z19 ?_; apply wc_skip)
        have e : madeT t = t := by rw [madeT, hv]; rfl
        rw [e]
        exact wx_cutK H Cu Ks
    intro g c H HA
    have H := H.swap
    (apply wc_region; refine Z3 ?_; refine Z41 ?_; refine Z42 ?_)
    (apply s_bs1D (u := (madeT t)); exact rfl; exact rfl; exact rfl; exact rfl; exact rfl; exact rfl; exact H; exact HA; exact inferInstance; intro vx c H HA)
    (refine Z59 fun vx c valsx H HA => ?_; refine Z3 ?_; refine Z79 fun c H HA => ?_; apply w_nil; apply wx_norm_block; apply wx_next; apply wc_region; refine Z0 ?_; refine Z46 ?_; refine Z2 ?_; apply w_nil)
    exact wx_loopG ((k + 1, acc ++ [madeT t], _, _)) (H.swap.sub (.cons_cons _ (.cons_cons _ (.cons _ (List.Sublist.refl _))))) Cu Lk Ks (by dsimp only; omega) ⟨by dsimp only; omega, by dsimp only; omega, by
      dsimp only
      rw [hacc, List.take_add_one, ht]
      simp⟩
  · have e : a.args.take k = a.args.take 8 := by rw [show k = 8 by omega]
    exact ret_fnO (H.sub (.cons _ (.cons_cons _ (.cons _ .slnil)))) hm (outsR1 Tryz.results62 (RV.agg rfl H Ow Rc)) ⟨vr, vals, rfl, by rw [hacc, e]; rfl, by rw [madeA, ← e, ← hacc]; exact Lk⟩ (fun _ _ => inferInstance)
  · have e : a.args.take k = a.args.take 8 := by rw [List.take_of_length_le (by omega), List.take_of_length_le (by omega)]
    exact ret_fnO (H.sub (.cons _ (.cons_cons _ (.cons _ .slnil)))) hm (outsR1 Tryz.results62 (RV.agg rfl H Ow Rc)) ⟨vr, vals, rfl, by rw [hacc, e]; rfl, by rw [madeA, ← e, ← hacc]; exact Lk⟩ (fun _ _ => inferInstance)
end Go.Proofs.YthkdggoohpgnnaaGreatDoor
/- Contracts: clauses made valid. -/
namespace Go.Proofs.YthkdggoohpgnnaaGreatDoor
open Go Go.Wk
theorem madeA_len (a : At0) : (madeA a).args.length < 1099511627776 := by
  have : (madeA a).args.length ≤ 8 := by simp [madeA]; omega
  omega
theorem madeB_len (x : Cl) : ((madeB x).flatMap At0.terms).length ≤ 72 := by
  have h : ∀ l : List At0, (l.map madeA).flatMap At0.terms = (l.map madeA).flatMap At0.terms → ((l.map madeA).flatMap At0.terms).length ≤ 9 * l.length := by
    intro l _
    induction l with
    | nil => simp
    | cons a l ih =>
      have h1 : (madeA a).args.length ≤ 8 := by simp [madeA]; omega
      have h2 := ih rfl
      simp only [List.map_cons, List.flatMap_cons, List.length_append, List.length_cons, At0.terms] at h2 ⊢
      omega
  have h1 := h (x.body.take 8) rfl
  have h2 : (x.body.take 8).length ≤ 8 := by simp; omega
  unfold madeB
  omega
theorem madeR_len (x : Cl) : (madeR x).terms.length ≤ 97 := by
  have h1 := madeB_len x
  have h2 : (madeR x).bodyTerms.length ≤ 72 := h1
  have h3 : (madeR x).head.args.length ≤ 8 := by simp [madeR, madeH]; omega
  have h4 : (madeR x).tests.length ≤ 8 := by simp [madeR]; omega
  have h5 : ∀ l : List Ts, (l.flatMap fun t => [t.l, t.r]).length = 2 * l.length := by
    intro l
    induction l with
    | nil => rfl
    | cons a l ih => simp only [List.flatMap_cons, List.length_append, List.length_cons, List.length_nil, ih]; omega
  have h6 := h5 (madeR x).tests
  have h7 : (madeR x).head.terms.length = (madeR x).head.args.length + 1 := rfl
  have h8 : (madeR x).testTerms.length = 2 * (madeR x).tests.length := h6
  simp only [Cl.terms, List.length_append]
  omega
theorem ref03_MadeAtom (a : At0) (u : Value) (c : Cx) (h : Ag a u c) (hs : a.sm) : Cn Tryz.prog 62 [u] c (fun r c => Ag (madeA a) r c) := (ref03_MadeAtomO a u c h hs).at0 (madeA_len a)
theorem ref03_Made (x : Cl) (u : Value) (c : Cx) (h : Ag x u c) (hs : x.sm) : Cn Tryz.prog 21 [u] c (fun r c => Ag (madeC x) r c) := by
  refine Cn.of Tryz.func21 Tryz.ntmps21 rfl rfl fun hm H HA => ?_
  have hlb : x.body.length < 1099511627776 := by obtain ⟨cs, rfl, v, v1, v2, rfl, h⟩ := h; exact h.2.1.lim
  have hlt : x.tests.length < 1099511627776 := by obtain ⟨cs, rfl, v, v1, v2, rfl, h⟩ := h; exact h.2.2.lim
  have HA := HA.add h
  (apply wc_seq; apply wc_region)
  (refine s_boxG rfl rfl Lk H HA ?_; intro p c H HA)
  (refine Z61 fun bx c H HA => ?_; apply w_nil; apply wx_next)
  (obtain ⟨b2, rfl⟩ : ∃ x, x = bx := ⟨_, rfl⟩)
  (apply wc_seq; apply wc_region)
  (refine Z61 fun bx c H HA => ?_; apply w_nil; apply wx_next)
  (obtain ⟨b3, rfl⟩ : ∃ x, x = bx := ⟨_, rfl⟩)
  (refine wc_cutE (fun v => [(1, p), (2, .pointer (some ⟨b2, 0, none⟩)), (3, .pointer (some ⟨b3, 0, none⟩))]) (fun v => [.obj b3 (.cells (Cl.cs ⟨⟨Tn, ES, []⟩, [], []⟩ (.slice none 0 0) (v) (.slice none 0 0)).toArray 30 (0, 0)), .obj b2 (.cells (Cl.cs ⟨⟨Tn, ES, []⟩, [], []⟩ (.slice none 0 0) (.slice none 0 0) (.slice none 0 0)).toArray 30 (0, 0))]) (fun v c => Sl v (madeB x) c) H HA ?_ ?_)
  · have H := H.nilR At0 26 5
    (apply wc_seq; apply wc_region; refine Z2 ?_; apply w_nil; apply wx_next; apply wc_block)
    refine wc_loopG (σ := Nat × List At0 × Value × List (List Value)) (fun y => x.body.length - y.1) (fun y => [(1, p), (2, .pointer (some ⟨b2, 0, none⟩)), (3, .pointer (some ⟨b3, 0, none⟩)), (4, .int .i64 y.1)])
      (fun y => y.1 ≤ x.body.length ∧ y.1 ≤ 8 ∧ y.2.1 = (x.body.take y.1).map madeA)
      (fun y => [.row y.2.2.1 26 5 y.2.1.length y.2.2.2.flatten, .obj b3 (.cells (Cl.cs ⟨⟨Tn, ES, []⟩, [], []⟩ (.slice none 0 0) (y.2.2.1) (.slice none 0 0)).toArray 30 (0, 0)), .obj b2 (.cells (Cl.cs ⟨⟨Tn, ES, []⟩, [], []⟩ (.slice none 0 0) (.slice none 0 0) (.slice none 0 0)).toArray 30 (0, 0))])
      (fun y c => Vals y.2.2.2 y.2.1 c) (0, [], .slice none 0 0, []) H HA (Vals.nil _) Ks ⟨Nat.zero_le _, Nat.zero_le _, rfl⟩ ?_
    intro y g c hp H HA
    obtain ⟨k, acc, vr, vals⟩ := y
    obtain ⟨hk, hk8, hacc⟩ := hp
    dsimp only at hk hk8 hacc H HA ⊢
    have hlen : acc.length = k := by rw [hacc]; simp; omega
    (focus (apply wc_seq; apply wc_seq; apply wc_region; refine Z0 ?_; refine Z35 HA fun vx HA => ?_; refine Z37 HA fun vx HA => ?_; refine Z45 ?_; refine Z93 (fun hq => ?_) fun hq => ?_; refine Z0 ?_; refine Z4 ?_; refine Z0 ?_; refine Z4 ?_; refine Z93 (fun hq => ?_) fun hq => ?_; refine Z8 ?_; apply w_nil; apply wx_next; refine Z18 ?_; apply wc_skip; apply wx_next; apply wc_seq; apply wc_block; rotate_left; refine Z8 ?_; apply w_nil; apply wx_next; refine Z19 ?_; apply wc_exit; apply wx_exit_then; apply wx_exit_then; apply wx_exit_same; rotate_left; refine Z0 ?_; refine Z5 ?_; refine Z5 ?_; refine Z30 ?_; apply w_nil; apply wx_next; refine Z19 ?_; apply wc_exit; apply wx_exit_then; apply wx_exit_then; apply wx_exit_same; rotate_left))
    · obtain ⟨a, ha⟩ := getq (xs := x.body) (k := k) (by omega)
      have has : a.sm := hs.2.1 a (List.mem_of_getElem? ha)
      (refine dw_start H HA ?_)
      (repeat (refine Dc ?_))
      (apply dw_cons; (focus ((intro B _ Lx c H HA; (repeat (first | (intro vx hx; have hx2 : vx = _ := hx; clear hx; subst hx2) | (intro vx hx; have HA := HA.addSF hx; clear hx) | (intro vx hx; have HA := HA.add hx; clear hx) | intro vx)); change W _ _ _ _ _ _ _); refine s_call rfl rfl H HA (ref03_MadeAtom a _ _ Lk has) ?_; intro vx c H HP; exact w_nil (pq_rel H (Cp) HP.h.1))); exact inferInstance)
      (repeat (refine Dc ?_))
      (refine dw_done mixed H HA rfl (by kernel_rfl) ?_; clear H HA; intro c H HA; (repeat (first | (intro vx hx; have hx2 : vx = _ := hx; clear hx; subst hx2) | (intro vx hx; have HA := HA.addSF hx; clear hx) | (intro vx hx; have HA := HA.add hx; clear hx) | intro vx)); change W _ _ _ _ _ _ _)
      (refine Z59 fun vx c valsx H HA => ?_; refine Z3 ?_; refine Z77 fun c H HA => ?_; apply w_nil; apply wx_norm_block; apply wx_next; apply wc_region; refine Z0 ?_; refine Z46 ?_; refine Z2 ?_; apply w_nil)
      exact wx_loopG ((k + 1, acc ++ [madeA a], _, _)) H.swap Cu Lk Ks (by dsimp only; omega) ⟨by dsimp only; omega, by dsimp only; omega, by
        dsimp only
        rw [hacc, List.take_add_one, ha]
        simp⟩
    · have e : acc = madeB x := by rw [hacc, madeB, show k = 8 by omega]
      subst e
      (refine wx_freezeRow H HA Lk rfl rfl Lt ?_; intro c H HA)
      exact wx_cutE vr H Cu Lk Ks
    · have e : acc = madeB x := by rw [hacc, madeB, List.take_of_length_le (by omega), List.take_of_length_le (by omega)]
      subst e
      (refine wx_freezeRow H HA Lk rfl rfl Lt ?_; intro c H HA)
      exact wx_cutE vr H Cu Lk Ks
  intro vB g c H HA
  (apply wc_seq; apply wc_region; refine Z42 ?_)
  have hbt := madeB_len x
  (refine s_call rfl rfl H HA (ref03_bodyTerms (⟨⟨Tn, ES, []⟩, madeB x, []⟩ : Cl) _ _ ⟨_, rfl, _, vB, _, rfl, Sl.nil _, Lk, Sl.nil _⟩ (show ((madeB x).flatMap At0.terms).length < 1099511627776 by omega)) ?_; intro vx c H HA)
  (obtain ⟨vT, rfl⟩ : ∃ x, x = vx := ⟨_, rfl⟩)
  have HA := HA.add (Lk : Sl vT ((madeB x).flatMap At0.terms) c)
  (refine Z2 ?_; apply w_nil; apply wx_next; apply wc_seq; apply wc_region; refine Z35 HA fun vx HA => ?_; refine Z39 HA fun vx HA => ?_)
  (refine s_callO rfl rfl H HA (ref03_MadeAtomO x.head _ _ Lk hs.1) ?_; intro vx R c H HA)
  obtain ⟨vr2, vals2, rfl, rfl, hv2⟩ := HA.h.1
  have HA := HA.cut.add hv2
  have H : Owns _ [.row vr2 23 3 (madeA x.head).args.length vals2.flatten, _, _] _ := H
  (refine Z3 ?_; refine Z76 fun c H HA => ?_; apply w_nil; apply wx_next)
  (refine wc_cutK [(1, p), (2, .pointer (some ⟨b2, 0, none⟩)), (3, .pointer (some ⟨b3, 0, none⟩)), (5, vT)] [.obj b3 (.cells (Cl.cs ⟨⟨(if (madeBy x.head.by_).k = 3 then Tn else madeBy x.head.by_), madeNm x.head.name, []⟩, [], []⟩ (vr2) (vB) (.slice none 0 0)).toArray 30 (0, 0)), .row vr2 23 3 (madeA x.head).args.length vals2.flatten, .obj b2 (.cells (Cl.cs ⟨⟨Tn, ES, []⟩, [], []⟩ (.slice none 0 0) (.slice none 0 0) (.slice none 0 0)).toArray 30 (0, 0))] H HA ?_ ?_)
  · (focus (apply wc_seq; apply wc_region; refine Z3 ?_; refine Z3 ?_; refine Z3 ?_; refine Z41 ?_; refine Z92 (fun hq => ?_) fun hq => ?_; apply w_nil; apply wx_next; refine Z18 ?_; apply wc_region; refine Z54 ?_; refine Z3 ?_; refine Z3 ?_; refine Z74 fun c H HA => ?_; apply w_nil; rotate_left; apply w_nil; apply wx_next; refine Z19 ?_; apply wc_skip; rotate_left))
    · have hq : (madeBy x.head.by_).k = 3 := hq
      rw [if_pos hq]
      exact wx_cutK H Cu Ks
    · have hq : ¬ (madeBy x.head.by_).k = 3 := hq
      rw [if_neg hq]
      exact wx_cutK H Cu Ks
  intro g c H HA
  obtain ⟨ags, has⟩ : ∃ ags, ags = (madeA x.head).args := ⟨_, rfl⟩
  have hal : ags.length ≤ 8 := by rw [has]; simp [madeA]; omega
  rw [← has] at H HA
  (refine wc_cutE (fun v => [(1, p), (2, .pointer (some ⟨b2, 0, none⟩)), (3, .pointer (some ⟨b3, 0, none⟩)), (5, vT)]) (fun v => [.obj b3 (.cells (Cl.cs ⟨⟨(if (madeBy x.head.by_).k = 3 then Tn else madeBy x.head.by_), madeNm x.head.name, []⟩, [], []⟩ (vr2) (vB) (.slice none 0 0)).toArray 30 (0, 0)), .obj b2 (.cells (Cl.cs ⟨⟨Tn, ES, []⟩, [], []⟩ (.slice none 0 0) (.slice none 0 0) (.slice none 0 0)).toArray 30 (0, 0))]) (fun v c => Sl vr2 (ags.map (safeM ((madeB x).flatMap At0.terms))) c) H HA ?_ ?_)
  · (apply wc_seq; apply wc_region; refine Z2 ?_; apply w_nil; apply wx_next; apply wc_block)
    have H := H.swap
    refine wc_loopG (σ := Nat × List Tm × List (List Value)) (fun y => ags.length - y.1) (fun y => [(1, p), (2, .pointer (some ⟨b2, 0, none⟩)), (3, .pointer (some ⟨b3, 0, none⟩)), (5, vT), (6, .int .i64 y.1)])
      (fun y => y.1 ≤ ags.length ∧ y.2.1 = (ags.take y.1).map (safeM ((madeB x).flatMap At0.terms)) ++ ags.drop y.1)
      (fun y => [.row vr2 23 3 y.2.1.length y.2.2.flatten, .obj b3 (.cells (Cl.cs ⟨⟨(if (madeBy x.head.by_).k = 3 then Tn else madeBy x.head.by_), madeNm x.head.name, []⟩, [], []⟩ (vr2) (vB) (.slice none 0 0)).toArray 30 (0, 0)), .obj b2 (.cells (Cl.cs ⟨⟨Tn, ES, []⟩, [], []⟩ (.slice none 0 0) (.slice none 0 0) (.slice none 0 0)).toArray 30 (0, 0))])
      (fun y c => Vals y.2.2 y.2.1 c) (0, ags, vals2) H HA Lk Ks ⟨Nat.zero_le _, by simp⟩ ?_
    intro y g c hp H HA
    obtain ⟨k, acc, vals⟩ := y
    obtain ⟨hk, hacc⟩ := hp
    dsimp only at hk hacc H HA ⊢
    have hlen : acc.length = ags.length := by rw [hacc]; simp; omega
    (focus (apply wc_seq; apply wc_seq; apply wc_region; refine Z0 ?_; refine Z3 ?_; refine Z3 ?_; refine Z41 ?_; refine Z62 ?_; refine Z93 (fun hq => ?_) fun hq => ?_; apply w_nil; apply wx_next; refine Z18 ?_; apply wc_skip; apply wx_next; apply wc_seq; apply wc_block; rotate_left; apply w_nil; apply wx_next; refine Z19 ?_; apply wc_exit; apply wx_exit_then; apply wx_exit_then; apply wx_exit_same; rotate_left))
    · obtain ⟨t, ht⟩ := getq (xs := ags) (k := k) (by omega)
      have hta : acc[k]? = some t := by
        rw [hacc, List.getElem?_append_right (by simp; omega), List.getElem?_drop]
        simp [Nat.min_eq_left hk, ht]
      (refine dw_start H HA ?_)
      (repeat (refine Dc ?_))
      (apply dw_cons; (focus ((intro B _ Lx c H HA; (repeat (first | (intro vx hx; have hx2 : vx = _ := hx; clear hx; subst hx2) | (intro vx hx; have HA := HA.addSF hx; clear hx) | (intro vx hx; have HA := HA.add hx; clear hx) | intro vx)); change W _ _ _ _ _ _ _); (refine s_ixR (i := k) rfl rfl rfl H Ow rfl (by omega) ?_; intro rp hrp); exact w_nil (pq_rel (S := fun p _ => RPt vr2 3 k p) H Cu hrp))); exact inferInstance)
      (apply dw_cons; (focus ((intro B _ Lx c H HA; (repeat (first | (intro vx hx; have hx2 : vx = _ := hx; clear hx; subst hx2) | (intro vx hx; have HA := HA.addSF hx; clear hx) | (intro vx hx; have HA := HA.add hx; clear hx) | intro vx)); change W _ _ _ _ _ _ _); (refine s_ldRD (u := t) (i := k) rfl rfl (by assumption) H Ow Lk rfl hta inferInstance ?_); exact Dx)); exact inferInstance)
      (apply dw_cons; (focus ((intro B _ Lx c H HA; (repeat (first | (intro vx hx; have hx2 : vx = _ := hx; clear hx; subst hx2) | (intro vx hx; have HA := HA.addSF hx; clear hx) | (intro vx hx; have HA := HA.add hx; clear hx) | intro vx)); change W _ _ _ _ _ _ _); (refine s_call rfl rfl H HA (ref03_safe ((madeB x).flatMap At0.terms) vT t _ Lk) ?_; intro vx c H HP; have hvx := HP.h.1; have HA := HP.cut; subst hvx); exact Dx)); exact inferInstance)
      (refine dw_done mixed H HA rfl (by kernel_rfl) ?_; clear H HA; intro c H HA; (repeat (first | (intro vx hx; have hx2 : vx = _ := hx; clear hx; subst hx2) | (intro vx hx; have HA := HA.addSF hx; clear hx) | (intro vx hx; have HA := HA.add hx; clear hx) | intro vx)); change W _ _ _ _ _ _ _)
      (refine Z63 fun rp hrp => ?_)
      (refine s_stRA (u := safeM ((madeB x).flatMap At0.terms) t) rfl rfl hrp H Lk (by omega) rfl rfl HA inferInstance ?_; intro c H HA)
      (apply w_nil; apply wx_norm_block; apply wx_next; apply wc_region; refine Z0 ?_; refine Z46 ?_; refine Z2 ?_; apply w_nil)
      exact wx_loopG ((k + 1, acc.set k (safeM ((madeB x).flatMap At0.terms) t), _)) H Cu Lk Ks (by dsimp only; omega) ⟨by dsimp only; omega, by
        dsimp only
        rw [hacc, List.take_add_one, ht, drop_get ht]
        have hl2 : ((ags.take k).map (safeM ((madeB x).flatMap At0.terms))).length = k := by simp; omega
        rw [List.set_append_right _ _ (by omega), hl2, Nat.sub_self]
        simp⟩
    · have hacc : acc = ags.map (safeM ((madeB x).flatMap At0.terms)) := by rw [hacc, List.take_of_length_le (by omega), List.drop_eq_nil_of_le (by omega), List.append_nil]
      subst hacc
      (refine wx_freezeRow H HA Lk rfl rfl Lt ?_; intro c H HA)
      exact wx_cutE vr2 H Cu Lk Ks
  intro v0 g c H HA
  clear v0
  (refine wc_cutE (fun v => [(1, p), (2, .pointer (some ⟨b2, 0, none⟩)), (3, .pointer (some ⟨b3, 0, none⟩))]) (fun v => [.obj b3 (.cells (Cl.cs ⟨⟨(if (madeBy x.head.by_).k = 3 then Tn else madeBy x.head.by_), madeNm x.head.name, []⟩, [], []⟩ (vr2) (vB) (v)).toArray 30 (0, 0)), .obj b2 (.cells (Cl.cs ⟨⟨Tn, ES, []⟩, [], []⟩ (.slice none 0 0) (.slice none 0 0) (.slice none 0 0)).toArray 30 (0, 0))]) (fun v c => Sl v ((x.tests.take 8).map (madeTs ((madeB x).flatMap At0.terms))) c) H HA ?_ ?_)
  · have H := H.nilR Ts 79 7
    (apply wc_seq; apply wc_region; refine Z2 ?_; apply w_nil; apply wx_next; apply wc_block)
    refine wc_loopG (σ := Nat × List Ts × Value × List (List Value)) (fun y => x.tests.length - y.1) (fun y => [(1, p), (2, .pointer (some ⟨b2, 0, none⟩)), (3, .pointer (some ⟨b3, 0, none⟩)), (5, vT), (7, .int .i64 y.1)])
      (fun y => y.1 ≤ x.tests.length ∧ y.1 ≤ 8 ∧ y.2.1 = (x.tests.take y.1).map (madeTs ((madeB x).flatMap At0.terms)))
      (fun y => [.row y.2.2.1 79 7 y.2.1.length y.2.2.2.flatten, .obj b3 (.cells (Cl.cs ⟨⟨(if (madeBy x.head.by_).k = 3 then Tn else madeBy x.head.by_), madeNm x.head.name, []⟩, [], []⟩ (vr2) (vB) (y.2.2.1)).toArray 30 (0, 0)), .obj b2 (.cells (Cl.cs ⟨⟨Tn, ES, []⟩, [], []⟩ (.slice none 0 0) (.slice none 0 0) (.slice none 0 0)).toArray 30 (0, 0))])
      (fun y c => Vals y.2.2.2 y.2.1 c) (0, [], .slice none 0 0, []) H HA (Vals.nil _) Ks ⟨Nat.zero_le _, Nat.zero_le _, rfl⟩ ?_
    intro y g c hp H HA
    obtain ⟨k, acc, vr, vals⟩ := y
    obtain ⟨hk, hk8, hacc⟩ := hp
    dsimp only at hk hk8 hacc H HA ⊢
    have hlen : acc.length = k := by rw [hacc]; simp; omega
    (focus (apply wc_seq; apply wc_seq; apply wc_region; refine Z0 ?_; refine Z35 HA fun vx HA => ?_; refine Z37 HA fun vx HA => ?_; refine Z45 ?_; refine Z93 (fun hq => ?_) fun hq => ?_; refine Z0 ?_; refine Z4 ?_; refine Z0 ?_; refine Z4 ?_; refine Z93 (fun hq => ?_) fun hq => ?_; refine Z8 ?_; apply w_nil; apply wx_next; refine Z18 ?_; apply wc_skip; apply wx_next; apply wc_seq; apply wc_block; rotate_left; refine Z8 ?_; apply w_nil; apply wx_next; refine Z19 ?_; apply wc_exit; apply wx_exit_then; apply wx_exit_then; apply wx_exit_same; rotate_left; refine Z0 ?_; refine Z5 ?_; refine Z5 ?_; refine Z30 ?_; apply w_nil; apply wx_next; refine Z19 ?_; apply wc_exit; apply wx_exit_then; apply wx_exit_then; apply wx_exit_same; rotate_left))
    · obtain ⟨t, ht⟩ := getq (xs := x.tests) (k := k) (by omega)
      have hts := hs.2.2 t (List.mem_of_getElem? ht)
      (refine dw_start H HA ?_)
      (repeat (refine Dc ?_))
      (apply dw_cons; (focus ((intro B _ Lx c H HA; (repeat (first | (intro vx hx; have hx2 : vx = _ := hx; clear hx; subst hx2) | (intro vx hx; have HA := HA.addSF hx; clear hx) | (intro vx hx; have HA := HA.add hx; clear hx) | intro vx)); change W _ _ _ _ _ _ _); (refine s_call rfl rfl H HA (ref03_madeTest ((madeB x).flatMap At0.terms) vT t _ Lk hts.1 hts.2) ?_; intro vx c H HP; have hvx := HP.h.1; have HA := HP.cut; subst hvx); exact Dx)); exact inferInstance)
      (apply dw_cons; (focus ((intro B _ Lx c H HA; (repeat (first | (intro vx hx; have hx2 : vx = _ := hx; clear hx; subst hx2) | (intro vx hx; have HA := HA.addSF hx; clear hx) | (intro vx hx; have HA := HA.add hx; clear hx) | intro vx)); change W _ _ _ _ _ _ _); (apply s_bs1D (u := (madeTs ((madeB x).flatMap At0.terms) t)); exact rfl; exact rfl; exact rfl; exact rfl; exact rfl; exact rfl; exact H; exact HA; exact inferInstance; intro vx c H HA); exact Dx)); exact inferInstance)
      (refine dw_done mixed H HA rfl (by kernel_rfl) ?_; clear H HA; intro c H HA; (repeat (first | (intro vx hx; have hx2 : vx = _ := hx; clear hx; subst hx2) | (intro vx hx; have HA := HA.addSF hx; clear hx) | (intro vx hx; have HA := HA.add hx; clear hx) | intro vx)); change W _ _ _ _ _ _ _)
      (refine Z59 fun vx c valsx H HA => ?_; refine Z3 ?_; refine Z77 fun c H HA => ?_; apply w_nil; apply wx_norm_block; apply wx_next; apply wc_region; refine Z0 ?_; refine Z46 ?_; refine Z2 ?_; apply w_nil)
      exact wx_loopG ((k + 1, acc ++ [madeTs ((madeB x).flatMap At0.terms) t], _, _)) H.swap Cu Lk Ks (by dsimp only; omega) ⟨by dsimp only; omega, by dsimp only; omega, by
        dsimp only
        rw [hacc, List.take_add_one, ht]
        simp⟩
    · have e : acc = (x.tests.take 8).map (madeTs ((madeB x).flatMap At0.terms)) := by rw [hacc, show k = 8 by omega]
      subst e
      (refine wx_freezeRow H HA Lk rfl rfl Lt ?_; intro c H HA)
      exact wx_cutE vr H Cu Lk Ks
    · have e : acc = (x.tests.take 8).map (madeTs ((madeB x).flatMap At0.terms)) := by rw [hacc, List.take_of_length_le (by omega), List.take_of_length_le (by omega)]
      subst e
      (refine wx_freezeRow H HA Lk rfl rfl Lt ?_; intro c H HA)
      exact wx_cutE vr H Cu Lk Ks
  intro vt g c H HA
  (apply wc_seq; apply wc_region; refine Z42 ?_)
  have hA2 : Sl vr2 ((madeA x.head).args.map (safeM ((madeB x).flatMap At0.terms))) c := by rw [← has]; exact Lk
  (refine s_call rfl rfl H HA (ref03_Normal (madeR x) _ _ ⟨_, rfl, vr2, vB, vt, rfl, hA2, Lk, Lk⟩ (by have := madeR_len x; omega)) ?_; intro vx c H HA)
  obtain ⟨cs9, rfl, w0, w1, w2, rfl, k0, k1, k2⟩ := HA.h.1
  have HA := ((HA.cut.add k0).add k1).add k2
  have H := H.swap
  (refine Z74 fun c H HA => ?_; apply w_nil; apply wx_next; apply wc_ret)
  exact ret_fn H hm (outsR1 Tryz.results21 (RV.agg rfl H Ow Rc)) ⟨_, rfl, w0, w1, w2, rfl, Lk, Lk, Lk⟩
theorem ref03_MadeAll (xs : List Cl) (v : Value) (c : Cx) (h : Sl v xs c) (hs : ∀ x ∈ xs, x.sm) : Cn Tryz.prog 31 [v] c (fun r c => Sl r (xs.map madeC) c) := by
  refine Cn.of Tryz.func31 Tryz.ntmps31 rfl rfl fun hm H HA => ?_
  have HA := HA.add h
  have hlim := h.lim
  (apply wc_seq; apply wc_region; refine Z2 ?_; apply w_nil; apply wx_next; apply wc_seq; apply wc_region; refine Z2 ?_; apply w_nil; apply wx_next; apply wc_seq; apply wc_seq; apply wc_region; refine Z2 ?_; apply w_nil; apply wx_next; apply wc_block)
  (have H := H.nilR Cl  30 7; have HA := HA.add (Vals.nil (α := Cl) _))
  refine wc_loopR (α := Cl) xs.length (fun k v' => [(0, v), (3, v'), (4, .int .i64 k)]) (fun k acc => acc = (xs.take k).map madeC) 0 [] H Lk Cu Ks (Nat.zero_le _) rfl ?_
  intro k acc v' vals g c hk hp H HA
  have hal : acc.length = k := by rw [hp]; simp; omega
  (focus (apply wc_seq; apply wc_seq; apply wc_region; refine Z0 ?_; refine Z0 ?_; refine Z45 ?_; refine Z93 (fun hq => ?_) fun hq => ?_; apply w_nil; apply wx_next; refine Z18 ?_; apply wc_skip; apply wx_next; apply wc_seq; apply wc_block; apply wc_region; refine Z0 ?_; refine Z0 ?_; refine Z0 ?_; rotate_left; apply w_nil; apply wx_next; refine Z19 ?_; apply wc_exit; apply wx_exit_then; apply wx_exit_then; apply wx_exit_same; apply wx_next; apply wc_seq; apply wc_region; refine Z0 ?_; refine Z2 ?_; apply w_nil; apply wx_next; apply wc_ret; rotate_left))
  · obtain ⟨x, hx⟩ := getq (xs := xs) (k := k) (by omega)
    (refine Z34 HA fun vx HA => ?_; refine Z39 HA fun vx HA => ?_)
    (refine s_call rfl rfl H HA (ref03_Made x _ _ Lk (hs x (List.mem_of_getElem? hx))) ?_; intro vx c H HA)
    (refine Z55 fun vx c H HA => ?_; refine Z59 fun vx c valsx H HA => ?_; refine Z2 ?_; apply w_nil; apply wx_norm_block; apply wx_next; apply wc_region; refine Z0 ?_; refine Z46 ?_; refine Z2 ?_; apply w_nil)
    exact wx_loopR (k + 1) H Lk Cu Ks (by omega) (by rw [hp, List.take_add_one, hx]; simp)
  · have hp : acc = xs.map madeC := by rw [hp, List.take_of_length_le (by omega)]
    subst hp
    (refine wx_freezeRow H HA Lk rfl rfl Lt ?_; intro c H HA)
    exact ret_fn H hm (outs1 Tryz.results31 Wh) Lk
end Go.Proofs.YthkdggoohpgnnaaGreatDoor
/- Contracts: whether one subsumes another; the parts of a condensed clause. -/
namespace Go.Wk
end Go.Wk
namespace Go.Proofs.YthkdggoohpgnnaaGreatDoor
open Go Go.Wk
theorem law_subsumes (x d : Cl) (u1 u2 : Value) (c : Cx) (h1 : Ag x u1 c) (h2 : Ag d u2 c) (hf1 : x.fit) (hf2 : d.fit) (hg : GlobOk c) : Cn Tryz.prog 25 [u1, u2] c (fun r _ => r = .bool (subs x d).isSome) := by
  refine Cn.of Tryz.func25 Tryz.ntmps25 rfl rfl fun hm H HA => ?_
  have HA := ((HA.add h1).add h2).add hg
  (apply wc_seq; apply wc_region; refine Z40 fun vx c H HA => ?_; refine Z40 fun vx c H HA => ?_; refine Z2 ?_; apply w_nil; apply wx_next; apply wc_seq; apply wc_region; refine Z39 HA fun vx HA => ?_; refine Z39 HA fun vx HA => ?_)
  (refine s_call rfl rfl H HA (subsume_Subsumes x d _ _ _ Lk Lk hf1 hf2 Lk) ?_; intro vx c H HA)
  obtain ⟨vm, hr, hSm⟩ := HA.h.1
  subst hr
  have HA := HA.cut.add hSm
  (refine Z0 ?_; refine Z32 ?_; refine Z32 ?_; refine Z2 ?_; refine Z2 ?_; apply w_nil; apply wx_next; apply wc_seq; apply wc_region; refine Z0 ?_; refine Z2 ?_; apply w_nil; apply wx_next; apply wc_ret)
  exact ret_fn H hm (outs1 Tryz.results25 Wh) rfl
end Go.Proofs.YthkdggoohpgnnaaGreatDoor
/- Contract: whether one clause becomes part of another by values. -/
namespace Go.Proofs.YthkdggoohpgnnaaGreatDoor
open Go Go.Wk
theorem law_part (x d : Cl) (u1 u2 : Value) (ts : List Tm) (v : Value) (c : Cx) (h1 : Ag x u1 c) (h2 : Ag d u2 c) (h3 : Sl v ts c) (hf : x.fit) (hts : ∀ u ∈ ts, u.sm) : Cn Tryz.prog 22 [u1, u2, v] c (fun r _ => r = .bool (partB x d ts && decide (ts.length = x.nv))) := by
  refine Cn.of Tryz.func22 Tryz.ntmps22 rfl rfl fun hm H HA => ?_
  have hlb : x.body.length < 1099511627776 := by obtain ⟨cs, rfl, v, v1, v2, rfl, h⟩ := h1; exact h.2.1.lim
  have hlt : x.tests.length < 1099511627776 := by obtain ⟨cs, rfl, v, v1, v2, rfl, h⟩ := h1; exact h.2.2.lim
  have hldb : d.body.length < 1099511627776 := by obtain ⟨cs, rfl, v, v1, v2, rfl, h⟩ := h2; exact h.2.1.lim
  have hldt : d.tests.length < 1099511627776 := by obtain ⟨cs, rfl, v, v1, v2, rfl, h⟩ := h2; exact h.2.2.lim
  have HA := ((HA.add h3).add h1).add h2
  have hpb : partB x d ts = (decide ((x.map (instT ts)).head = d.head) && ((x.map (instT ts)).body.all (fun a => decide (a ∈ d.body)) && (x.map (instT ts)).tests.all (tsOk d))) := rfl
  have hyb : (x.map (instT ts)).body.length = x.body.length := by simp [Cl.map]
  have hyt : (x.map (instT ts)).tests.length = x.tests.length := by simp [Cl.map]
  have hysm : ∀ t ∈ (x.map (instT ts)).tests, t.l.sm := by
    intro t ht
    obtain ⟨t', ht', rfl⟩ := List.mem_map.1 ht
    exact instT_sm hts (hf.1.2.2 t' ht').1
  (apply wc_seq; apply wc_region)
  (refine s_boxG rfl rfl Lk H HA ?_; intro p c H HA)
  (refine s_boxG rfl rfl Lk H HA ?_; intro q c H HA)
  (refine Z2 ?_; apply w_nil; apply wx_next; apply wc_seq; apply wc_region; refine Z39 HA fun vx HA => ?_; refine Z0 ?_)
  (refine s_call rfl rfl H HA (ref03_Instance x _ ts _ _ Lk Lk hf.2) ?_; intro vx c H HA)
  obtain ⟨va, vb, vd, hr, hS⟩ := Ag.cl HA.h.1
  subst hr
  have HA := ((HA.cut.add hS.1).add hS.2.1).add hS.2.2
  generalize hy : x.map (instT ts) = y at *
  have hl3 := h3.lim
  (refine Z61 fun bx c H HA => ?_; refine Z74 fun c H HA => ?_; apply w_nil; apply wx_next; apply wc_seq; apply wc_seq; apply wc_region; refine Z3 ?_; refine Z42 ?_; refine Z35 HA fun vx HA => ?_; refine Z39 HA fun vx HA => ?_)
  (obtain ⟨b0, rfl⟩ : ∃ x, x = bx := ⟨_, rfl⟩)
  (refine s_call rfl rfl H HA (ref03_SameAtom y.head d.head _ _ _ ⟨_, rfl, va, rfl, Lk⟩ Lk) ?_; intro vx c H HP; have hvx := HP.h.1; have HA := HP.cut; subst hvx)
  by_cases hh : y.head = d.head
  case neg =>
    rw [decide_eq_false hh]
    (refine Z33 ?_; refine Z0 ?_; refine Z5 ?_; refine Z5 ?_; refine Z5 ?_; refine Z5 ?_; refine Z5 ?_; refine Z8 ?_; apply w_nil; apply wx_next; refine Z18 ?_; apply wc_seq; apply wc_region; refine Z2 ?_; apply w_nil; apply wx_next; apply wc_ret; apply wx_ret_then)
    exact ret_fn H hm (outs1 Tryz.results22 Wh) (by rw [hpb]; simp [hh])
  rw [decide_eq_true hh]
  (refine Z33 ?_; refine Z0 ?_; refine Z4 ?_; refine Z0 ?_; refine Z4 ?_; refine Z45 ?_; refine Z4 ?_; refine Z39 HA fun vx HA => ?_; refine Z4 ?_)
  (refine s_call rfl rfl H HA (ref03_Vars x _ _ Lk hf.2) ?_; intro vx c H HP; have hvx := HP.h.1; have HA := HP.cut; subst hvx)
  by_cases hn : ts.length = x.nv
  case neg =>
    have hn2 : ¬ (ts.length : Int) = (x.nv : Int) := by omega
    (refine Z4 ?_; refine Z82 ?_; refine Z30 ?_; apply w_nil; apply wx_next; refine Z18 ?_; apply wc_seq; apply wc_region; refine Z2 ?_; apply w_nil; apply wx_next; apply wc_ret; apply wx_ret_then)
    exact ret_fn H hm (outs1 Tryz.results22 Wh) (by rw [decide_eq_false hn]; simp)
  have hn2 : (ts.length : Int) = (x.nv : Int) := by omega
  (refine Z4 ?_; refine Z82 ?_; refine Z30 ?_; apply w_nil; apply wx_next; refine Z19 ?_; apply wc_skip; apply wx_next; apply wc_seq; apply wc_seq; apply wc_region; refine Z2 ?_; apply w_nil; apply wx_next; apply wc_block)
  rw [decide_eq_true hn, Bool.and_true]
  refine wc_loopN y.body.length (fun k => [(4, q), (7, .pointer (some ⟨b0, 0, none⟩)), (8, .int .i64 k)]) (fun k => y.body.all (fun a => decide (a ∈ d.body)) = (y.body.drop k).all (fun a => decide (a ∈ d.body))) 0 H HA Ks (Nat.zero_le _) rfl ?_
  intro k g c hk hp H HA
  (focus (apply wc_seq; apply wc_seq; apply wc_region; refine Z0 ?_; refine Z3 ?_; refine Z41 ?_; refine Z45 ?_; refine Z93 (fun hq => ?_) fun hq => ?_; apply w_nil; apply wx_next; refine Z18 ?_; apply wc_skip; apply wx_next; apply wc_seq; apply wc_block; apply wc_seq; apply wc_region; refine Z2 ?_; apply w_nil; apply wx_next; apply wc_seq; apply wc_seq; apply wc_region; refine Z2 ?_; apply w_nil; apply wx_next; apply wc_block; rotate_left; apply w_nil; apply wx_next; refine Z19 ?_; apply wc_exit; apply wx_exit_then; apply wx_exit_then; apply wx_exit_same; apply wx_next; apply wc_seq; apply wc_seq; apply wc_region; refine Z2 ?_; apply w_nil; apply wx_next; apply wc_block; rotate_left))
  · obtain ⟨a, ha⟩ := getq (xs := y.body) (k := k) (by omega)
    refine wc_loopM (σ := Nat × Bool) (fun s => d.body.length - s.1) (fun s => [(4, q), (7, .pointer (some ⟨b0, 0, none⟩)), (8, .int .i64 k), (9, .bool s.2), (10, .int .i64 s.1)]) (fun s => s.1 ≤ d.body.length ∧ (s.2 || (d.body.drop s.1).any (fun b => decide (a = b))) = decide (a ∈ d.body)) (0, false) H HA Ks ⟨Nat.zero_le _, by simpa using any_eq_mem d.body a⟩ ?_
    intro s g c hp2 H HA
    obtain ⟨j, th⟩ := s
    obtain ⟨hj, hth⟩ := hp2
    dsimp only at hj hth ⊢
    (focus (apply wc_seq; apply wc_seq; apply wc_region; refine Z0 ?_; refine Z35 HA fun vx HA => ?_; refine Z37 HA fun vx HA => ?_; refine Z45 ?_; refine Z93 (fun hq => ?_) fun hq => ?_; apply w_nil; apply wx_next; refine Z18 ?_; apply wc_skip; apply wx_next; apply wc_seq; apply wc_block; rotate_left; apply w_nil; apply wx_next; refine Z19 ?_; apply wc_exit; apply wx_exit_then; apply wx_exit_then; apply wx_exit_same; apply wx_next; apply wc_seq; apply wc_region; refine Z0 ?_; refine Z33 ?_; apply w_nil; apply wx_next; (focus (apply wc_cond; rfl; all_goals intro hq)); apply wc_seq; apply wc_region; refine Z2 ?_; apply w_nil; apply wx_next; apply wc_ret; apply wx_ret_block; apply wx_ret_then; apply wx_ret_then; apply wx_ret_block; apply wx_ret_then; rotate_left; apply wc_skip; apply wx_norm_block; apply wx_next; apply wc_region; refine Z0 ?_; refine Z46 ?_; refine Z2 ?_; apply w_nil; rotate_left))
    · obtain ⟨b, hb⟩ := getq (xs := d.body) (k := j) (by omega)
      rw [any_get hb] at hth
      cases th
      · (refine dw_start H HA ?_)
        (repeat (refine Dn ?_))
        (apply dw_cons; (focus ((intro B _ Lx c H HA; (repeat (first | (intro vx hx; have hx2 : vx = _ := hx; clear hx; subst hx2) | (intro vx hx; have HA := HA.addSF hx; clear hx) | (intro vx hx; have HA := HA.add hx; clear hx) | intro vx)); change W _ _ _ _ _ _ _); (apply s_go; exact rfl; exact rfl; exact rfl); (refine s_call rfl rfl H HA (ref03_SameAtom a b _ _ _ Lk Lk) ?_; intro vx c H HP; have hvx := HP.h.1; have HA := HP.cut; subst hvx); exact Dx)); exact inferInstance)
        (repeat (refine Dn ?_))
        (refine dw_done mixed H HA rfl (by kernel_rfl) ?_; clear H HA; intro c H HA; (repeat (first | (intro vx hx; have hx2 : vx = _ := hx; clear hx; subst hx2) | (intro vx hx; have HA := HA.addSF hx; clear hx) | (intro vx hx; have HA := HA.add hx; clear hx) | intro vx)); change W _ _ _ _ _ _ _)
        (refine Z2 ?_; apply w_nil; apply wx_norm_block; apply wx_next; apply wc_region; refine Z0 ?_; refine Z46 ?_; refine Z2 ?_; apply w_nil)
        exact wx_loopM ((j + 1, decide (a = b))) H Cu Ks (by simp; omega) ⟨by simp; omega, by simpa using hth⟩
      · ((refine dw_start H HA ?_); (repeat (refine Dn ?_)); (refine dw_done mixed H HA rfl (by kernel_rfl) ?_; clear H HA; intro c H HA; (repeat (first | (intro vx hx; have hx2 : vx = _ := hx; clear hx; subst hx2) | (intro vx hx; have HA := HA.addSF hx; clear hx) | (intro vx hx; have HA := HA.add hx; clear hx) | intro vx)); change W _ _ _ _ _ _ _))
        (refine Z2 ?_; apply w_nil; apply wx_norm_block; apply wx_next; apply wc_region; refine Z0 ?_; refine Z46 ?_; refine Z2 ?_; apply w_nil)
        exact wx_loopM ((j + 1, true)) H Cu Ks (by simp; omega) ⟨by simp; omega, by simpa using hth⟩
    · rw [List.drop_eq_nil_of_le (show d.body.length ≤ j by omega)] at hth
      exact ret_fn H hm (outs1 Tryz.results22 Wh) (by rw [hpb, hp, all_get ha, ← hth]; simp_all)
    · rw [List.drop_eq_nil_of_le (show d.body.length ≤ j by omega)] at hth
      exact wx_loopN (k + 1) H Cu Ks (by omega) (by rw [hp, all_get ha, ← hth]; simp_all)
  · have hbody : y.body.all (fun a => decide (a ∈ d.body)) = true := by rw [hp, List.drop_eq_nil_of_le (by omega)]; rfl
    clear hp hk
    refine wc_loopN y.tests.length (fun k => [(4, q), (7, .pointer (some ⟨b0, 0, none⟩)), (11, .int .i64 k)]) (fun k => y.tests.all (tsOk d) = (y.tests.drop k).all (tsOk d)) 0 H HA Ks (Nat.zero_le _) rfl ?_
    clear hq k
    intro k g c hk hp H HA
    (focus (apply wc_seq; apply wc_seq; apply wc_region; refine Z0 ?_; refine Z3 ?_; refine Z41 ?_; refine Z45 ?_; refine Z93 (fun hq => ?_) fun hq => ?_; apply w_nil; apply wx_next; refine Z18 ?_; apply wc_skip; apply wx_next; apply wc_seq; apply wc_block; apply wc_seq; apply wc_region; refine Z3 ?_; refine Z41 ?_; refine Z0 ?_; rotate_left; apply w_nil; apply wx_next; refine Z19 ?_; apply wc_exit; apply wx_exit_then; apply wx_exit_then; apply wx_exit_same; apply wx_next; apply wc_seq; apply wc_region; refine Z2 ?_; apply w_nil; apply wx_next; apply wc_ret; rotate_left))
    · obtain ⟨t, ht⟩ := getq (xs := y.tests) (k := k) (by omega)
      (refine Z34 HA fun vx HA => ?_; refine Z38 ?_)
      (refine s_call rfl rfl H HA (ref02_Decide t _ (hysm t (List.mem_of_getElem? ht))) ?_; intro vx c H HP; have hvx := HP.h.1; have HA := HP.cut; subst hvx)
      generalize hd1 : t.decide.1 = d1
      generalize hd2 : t.decide.2 = d2
      have hth0 : ((d1 && d2) || (d.tests.drop 0).any (fun b => decide (t = b))) = tsOk d t := by
        rw [tsOk, hd1, hd2]; congr 1; exact any_eq_mem d.tests t
      cases d1
      all_goals
        (first | (refine Z0 ?_; refine Z32 ?_; refine Z32 ?_; refine Z2 ?_; refine Z2 ?_; apply w_nil; apply wx_next; apply wc_seq; apply wc_region; refine Z0 ?_; refine Z0 ?_; refine Z4 ?_; refine Z0 ?_; refine Z8 ?_; refine Z2 ?_; apply w_nil; apply wx_next; apply wc_seq; apply wc_seq; apply wc_region; refine Z2 ?_; apply w_nil; apply wx_next; apply wc_block) | (refine Z0 ?_; refine Z32 ?_; refine Z32 ?_; refine Z2 ?_; refine Z2 ?_; apply w_nil; apply wx_next; apply wc_seq; apply wc_region; refine Z0 ?_; refine Z0 ?_; refine Z5 ?_; refine Z30 ?_; refine Z2 ?_; apply w_nil; apply wx_next; apply wc_seq; apply wc_seq; apply wc_region; refine Z2 ?_; apply w_nil; apply wx_next; apply wc_block))
        refine wc_loopM (σ := Nat × Bool) (fun s => d.tests.length - s.1) (fun s => [(4, q), (7, .pointer (some ⟨b0, 0, none⟩)), (11, .int .i64 k), (14, .bool s.2), (15, .int .i64 s.1)]) (fun s => s.1 ≤ d.tests.length ∧ (s.2 || (d.tests.drop s.1).any (fun b => decide (t = b))) = tsOk d t) (0, _) H HA Ks ⟨Nat.zero_le _, hth0⟩ ?_
        intro s g c hp2 H HA
        obtain ⟨j, th⟩ := s
        obtain ⟨hj, hth⟩ := hp2
        dsimp only at hj hth ⊢
        (focus (apply wc_seq; apply wc_seq; apply wc_region; refine Z0 ?_; refine Z35 HA fun vx HA => ?_; refine Z37 HA fun vx HA => ?_; refine Z45 ?_; refine Z93 (fun hq => ?_) fun hq => ?_; apply w_nil; apply wx_next; refine Z18 ?_; apply wc_skip; apply wx_next; apply wc_seq; apply wc_block; rotate_left; apply w_nil; apply wx_next; refine Z19 ?_; apply wc_exit; apply wx_exit_then; apply wx_exit_then; apply wx_exit_same; apply wx_next; apply wc_seq; apply wc_region; refine Z0 ?_; refine Z33 ?_; apply w_nil; apply wx_next; (focus (apply wc_cond; rfl; all_goals intro hq)); apply wc_seq; apply wc_region; refine Z2 ?_; apply w_nil; apply wx_next; apply wc_ret; apply wx_ret_block; apply wx_ret_then; apply wx_ret_then; apply wx_ret_block; apply wx_ret_then; rotate_left; apply wc_skip; apply wx_norm_block; apply wx_next; apply wc_region; refine Z0 ?_; refine Z46 ?_; refine Z2 ?_; apply w_nil; rotate_left))
        · obtain ⟨b, hb⟩ := getq (xs := d.tests) (k := j) (by omega)
          rw [any_get hb] at hth
          cases th
          · by_cases htb : t = b
            · rw [decide_eq_true htb] at hth
              ((refine dw_start H HA ?_); (repeat (refine Dn ?_)); (refine dw_done mixed H HA rfl (by kernel_rfl) ?_; clear H HA; intro c H HA; (repeat (first | (intro vx hx; have hx2 : vx = _ := hx; clear hx; subst hx2) | (intro vx hx; have HA := HA.addSF hx; clear hx) | (intro vx hx; have HA := HA.add hx; clear hx) | intro vx)); change W _ _ _ _ _ _ _))
              (refine Z2 ?_; apply w_nil; apply wx_norm_block; apply wx_next; apply wc_region; refine Z0 ?_; refine Z46 ?_; refine Z2 ?_; apply w_nil)
              exact wx_loopM ((j + 1, true)) H Cu Ks (by simp; omega) ⟨by simp; omega, by simpa using hth⟩
            · rw [decide_eq_false htb] at hth
              ((refine dw_start H HA ?_); (repeat (refine Dn ?_)); (refine dw_done mixed H HA rfl (by kernel_rfl) ?_; clear H HA; intro c H HA; (repeat (first | (intro vx hx; have hx2 : vx = _ := hx; clear hx; subst hx2) | (intro vx hx; have HA := HA.addSF hx; clear hx) | (intro vx hx; have HA := HA.add hx; clear hx) | intro vx)); change W _ _ _ _ _ _ _))
              (refine Z2 ?_; apply w_nil; apply wx_norm_block; apply wx_next; apply wc_region; refine Z0 ?_; refine Z46 ?_; refine Z2 ?_; apply w_nil)
              exact wx_loopM ((j + 1, false)) H Cu Ks (by simp; omega) ⟨by simp; omega, by simpa using hth⟩
          · ((refine dw_start H HA ?_); (repeat (refine Dn ?_)); (refine dw_done mixed H HA rfl (by kernel_rfl) ?_; clear H HA; intro c H HA; (repeat (first | (intro vx hx; have hx2 : vx = _ := hx; clear hx; subst hx2) | (intro vx hx; have HA := HA.addSF hx; clear hx) | (intro vx hx; have HA := HA.add hx; clear hx) | intro vx)); change W _ _ _ _ _ _ _))
            (refine Z2 ?_; apply w_nil; apply wx_norm_block; apply wx_next; apply wc_region; refine Z0 ?_; refine Z46 ?_; refine Z2 ?_; apply w_nil)
            exact wx_loopM ((j + 1, true)) H Cu Ks (by simp; omega) ⟨by simp; omega, by simpa using hth⟩
        · rw [List.drop_eq_nil_of_le (show d.tests.length ≤ j by omega)] at hth
          exact ret_fn H hm (outs1 Tryz.results22 Wh) (by rw [hpb, hbody, hp, all_get ht, ← hth]; simp_all)
        · rw [List.drop_eq_nil_of_le (show d.tests.length ≤ j by omega)] at hth
          exact wx_loopN (k + 1) H Cu Ks (by omega) (by rw [hp, all_get ht, ← hth]; simp_all)
    · have htests : y.tests.all (tsOk d) = true := by rw [hp, List.drop_eq_nil_of_le (by omega)]; rfl
      exact ret_fn H hm (outs1 Tryz.results22 Wh) (by rw [hpb, hbody, htests]; simp [hh])
end Go.Proofs.YthkdggoohpgnnaaGreatDoor
/- Contracts: does a mark stand in a whole list. -/
namespace Go.Wk
open Go
section
variable {P : Program} {ops : Array Oper} {Q : Exit → Act → World → Prop} {n : Nat} {f : Nat → Value} {rest : List Oper} {ty : TypeId} {ps : String} {af : Array Edge} {d : Tmp} {w : World}
theorem s_nilCheck {x : Operand} {b o : Nat} (hn : Nat.blt d n = true) (hx : opd f x = .pointer (some ⟨b, o, none⟩)) (k : W P ops Q rest n (upd f d (.pointer (some ⟨b, o, none⟩))) w) : W P ops Q (⟨some d, .nilCheck x, ty, ps, af, none⟩ :: rest) n f w :=
  st_val hn (by simp [execOp, hx]) k
end
end Go.Wk
namespace Go.Proofs.YthkdggoohpgnnaaGreatDoor
open Go Go.Wk
theorem ref03_allTerms (xs : List Tm) (m : Tm) (v : Value) (c : Cx) (h : Sl v xs c) (ha : ∀ x ∈ xs, x = m) : Cn Tryz.prog 86 [v, .agg m.cs.toArray] c (fun r _ => r = .bool true) := by
  refine Cn.of Tryz.func86 Tryz.ntmps86 rfl rfl fun hm H HA => ?_
  have hl := h.lim
  have HA := HA.add h
  (apply wc_seq; apply wc_region; refine Z31 fun bx c H HA => ?_; refine Z2 ?_; apply w_nil; apply wx_next; apply wc_seq; apply wc_seq; apply wc_region; refine Z2 ?_; apply w_nil; apply wx_next; apply wc_block)
  generalize hpx : (Value.pointer (some ⟨bx, 0, none⟩)) = px at HA ⊢
  refine wc_loopN xs.length (fun k => [(0, v), (3, px), (5, .int .i64 k)]) (fun _ => True) 0 H HA Ks (Nat.zero_le _) trivial ?_
  intro k g c hk _ H HA
  subst hpx
  (focus (apply wc_seq; apply wc_seq; apply wc_region; refine Z0 ?_; refine Z0 ?_; refine Z45 ?_; refine Z93 (fun hq => ?_) fun hq => ?_; apply w_nil; apply wx_next; refine Z18 ?_; apply wc_skip; apply wx_next; apply wc_seq; apply wc_block; apply wc_seq; rotate_left; apply w_nil; apply wx_next; refine Z19 ?_; apply wc_exit; apply wx_exit_then; apply wx_exit_then; apply wx_exit_same; apply wx_next; apply wc_seq; apply wc_region; refine Z2 ?_; apply w_nil; apply wx_next; apply wc_ret; rotate_left))
  · obtain ⟨x, hx⟩ := getq (xs := xs) (k := k) (by omega)
    have he := ha x (List.mem_of_getElem? hx)
    ((refine dw_start H HA ?_); (repeat (refine Dc ?_)); (refine dw_done mixed H HA rfl (by kernel_rfl) ?_; clear H HA; intro c H HA; (repeat (first | (intro vx hx; have hx2 : vx = _ := hx; clear hx; subst hx2) | (intro vx hx; have HA := HA.addSF hx; clear hx) | (intro vx hx; have HA := HA.add hx; clear hx) | intro vx)); change W _ _ _ _ _ _ _))
    (apply w_nil; apply wx_next; refine Z19 ?_; apply wc_skip; apply wx_norm_block; apply wx_next; apply wc_region; refine Z0 ?_; refine Z46 ?_; refine Z2 ?_; apply w_nil)
    exact wx_loopN (k + 1) H Cu Ks (by omega) trivial
  · exact ret_fn H hm (outs1 Tryz.results86 Wh) rfl
theorem ref03_allAtoms (xs : List At0) (m : Tm) (v : Value) (c : Cx) (h : Sl v xs c) (ha : ∀ x ∈ xs, x.by_ = m) : Cn Tryz.prog 87 [v, .agg m.cs.toArray] c (fun r _ => r = .bool true) := by
  refine Cn.of Tryz.func87 Tryz.ntmps87 rfl rfl fun hm H HA => ?_
  have hl := h.lim
  have HA := HA.add h
  (apply wc_seq; apply wc_region; refine Z31 fun bx c H HA => ?_; refine Z2 ?_; apply w_nil; apply wx_next; apply wc_seq; apply wc_seq; apply wc_region; refine Z2 ?_; apply w_nil; apply wx_next; apply wc_block)
  generalize hpx : (Value.pointer (some ⟨bx, 0, none⟩)) = px at HA ⊢
  refine wc_loopN xs.length (fun k => [(0, v), (3, px), (5, .int .i64 k)]) (fun _ => True) 0 H HA Ks (Nat.zero_le _) trivial ?_
  intro k g c hk _ H HA
  subst hpx
  (focus (apply wc_seq; apply wc_seq; apply wc_region; refine Z0 ?_; refine Z0 ?_; refine Z45 ?_; refine Z93 (fun hq => ?_) fun hq => ?_; apply w_nil; apply wx_next; refine Z18 ?_; apply wc_skip; apply wx_next; apply wc_seq; apply wc_block; apply wc_seq; rotate_left; apply w_nil; apply wx_next; refine Z19 ?_; apply wc_exit; apply wx_exit_then; apply wx_exit_then; apply wx_exit_same; apply wx_next; apply wc_seq; apply wc_region; refine Z2 ?_; apply w_nil; apply wx_next; apply wc_ret; rotate_left))
  · obtain ⟨x, hx⟩ := getq (xs := xs) (k := k) (by omega)
    have he := ha x (List.mem_of_getElem? hx)
    ((refine dw_start H HA ?_); (repeat (refine Dc ?_)); (refine dw_done mixed H HA rfl (by kernel_rfl) ?_; clear H HA; intro c H HA; (repeat (first | (intro vx hx; have hx2 : vx = _ := hx; clear hx; subst hx2) | (intro vx hx; have HA := HA.addSF hx; clear hx) | (intro vx hx; have HA := HA.add hx; clear hx) | intro vx)); change W _ _ _ _ _ _ _))
    (apply w_nil; apply wx_next; refine Z19 ?_; apply wc_skip; apply wx_norm_block; apply wx_next; apply wc_region; refine Z0 ?_; refine Z46 ?_; refine Z2 ?_; apply w_nil)
    exact wx_loopN (k + 1) H Cu Ks (by omega) trivial
  · exact ret_fn H hm (outs1 Tryz.results87 Wh) rfl
theorem ref03_allTests (xs : List Ts) (m : Ts) (v : Value) (c : Cx) (h : Sl v xs c) (ha : ∀ x ∈ xs, x = m) : Cn Tryz.prog 88 [v, .agg m.cs.toArray] c (fun r _ => r = .bool true) := by
  refine Cn.of Tryz.func88 Tryz.ntmps88 rfl rfl fun hm H HA => ?_
  have hl := h.lim
  have HA := HA.add h
  (apply wc_seq; apply wc_region; refine Z31 fun bx c H HA => ?_; refine Z2 ?_; apply w_nil; apply wx_next; apply wc_seq; apply wc_seq; apply wc_region; refine Z2 ?_; apply w_nil; apply wx_next; apply wc_block)
  generalize hpx : (Value.pointer (some ⟨bx, 0, none⟩)) = px at HA ⊢
  refine wc_loopN xs.length (fun k => [(0, v), (3, px), (5, .int .i64 k)]) (fun _ => True) 0 H HA Ks (Nat.zero_le _) trivial ?_
  intro k g c hk _ H HA
  subst hpx
  (focus (apply wc_seq; apply wc_seq; apply wc_region; refine Z0 ?_; refine Z0 ?_; refine Z45 ?_; refine Z93 (fun hq => ?_) fun hq => ?_; apply w_nil; apply wx_next; refine Z18 ?_; apply wc_skip; apply wx_next; apply wc_seq; apply wc_block; apply wc_seq; rotate_left; apply w_nil; apply wx_next; refine Z19 ?_; apply wc_exit; apply wx_exit_then; apply wx_exit_then; apply wx_exit_same; apply wx_next; apply wc_seq; apply wc_region; refine Z2 ?_; apply w_nil; apply wx_next; apply wc_ret; rotate_left))
  · obtain ⟨x, hx⟩ := getq (xs := xs) (k := k) (by omega)
    have he := ha x (List.mem_of_getElem? hx)
    ((refine dw_start H HA ?_); (repeat (refine Dc ?_)); (refine dw_done mixed H HA rfl (by kernel_rfl) ?_; clear H HA; intro c H HA; (repeat (first | (intro vx hx; have hx2 : vx = _ := hx; clear hx; subst hx2) | (intro vx hx; have HA := HA.addSF hx; clear hx) | (intro vx hx; have HA := HA.add hx; clear hx) | intro vx)); change W _ _ _ _ _ _ _))
    (apply w_nil; apply wx_next; refine Z19 ?_; apply wc_skip; apply wx_norm_block; apply wx_next; apply wc_region; refine Z0 ?_; refine Z46 ?_; refine Z2 ?_; apply w_nil)
    exact wx_loopN (k + 1) H Cu Ks (by omega) trivial
  · exact ret_fn H hm (outs1 Tryz.results88 Wh) rfl
theorem ref03_allHeads (xs : List Cl) (m : Tm) (v : Value) (c : Cx) (h : Sl v xs c) (ha : ∀ x ∈ xs, x.head.by_ = m) : Cn Tryz.prog 89 [v, .agg m.cs.toArray] c (fun r _ => r = .bool true) := by
  refine Cn.of Tryz.func89 Tryz.ntmps89 rfl rfl fun hm H HA => ?_
  have hl := h.lim
  have HA := HA.add h
  (apply wc_seq; apply wc_region; refine Z31 fun bx c H HA => ?_; refine Z2 ?_; apply w_nil; apply wx_next; apply wc_seq; apply wc_seq; apply wc_region; refine Z2 ?_; apply w_nil; apply wx_next; apply wc_block)
  generalize hpx : (Value.pointer (some ⟨bx, 0, none⟩)) = px at HA ⊢
  refine wc_loopN xs.length (fun k => [(0, v), (3, px), (5, .int .i64 k)]) (fun _ => True) 0 H HA Ks (Nat.zero_le _) trivial ?_
  intro k g c hk _ H HA
  subst hpx
  (focus (apply wc_seq; apply wc_seq; apply wc_region; refine Z0 ?_; refine Z0 ?_; refine Z45 ?_; refine Z93 (fun hq => ?_) fun hq => ?_; apply w_nil; apply wx_next; refine Z18 ?_; apply wc_skip; apply wx_next; apply wc_seq; apply wc_block; apply wc_seq; rotate_left; apply w_nil; apply wx_next; refine Z19 ?_; apply wc_exit; apply wx_exit_then; apply wx_exit_then; apply wx_exit_same; apply wx_next; apply wc_seq; apply wc_region; refine Z2 ?_; apply w_nil; apply wx_next; apply wc_ret; rotate_left))
  · obtain ⟨x, hx⟩ := getq (xs := xs) (k := k) (by omega)
    have he := ha x (List.mem_of_getElem? hx)
    ((refine dw_start H HA ?_); (repeat (refine Dc ?_)); (refine dw_done mixed H HA rfl (by kernel_rfl) ?_; clear H HA; intro c H HA; (repeat (first | (intro vx hx; have hx2 : vx = _ := hx; clear hx; subst hx2) | (intro vx hx; have HA := HA.addSF hx; clear hx) | (intro vx hx; have HA := HA.add hx; clear hx) | intro vx)); change W _ _ _ _ _ _ _))
    (apply w_nil; apply wx_next; refine Z19 ?_; apply wc_skip; apply wx_norm_block; apply wx_next; apply wc_region; refine Z0 ?_; refine Z46 ?_; refine Z2 ?_; apply w_nil)
    exact wx_loopN (k + 1) H Cu Ks (by omega) trivial
  · exact ret_fn H hm (outs1 Tryz.results89 Wh) rfl
end Go.Proofs.YthkdggoohpgnnaaGreatDoor
/- A row put behind itself: the old slice and the new one both stay known. -/
namespace Go.Wk
open Go Go.RowKit
/-- .. where they may have been the call's own then. -/
theorem Owns.thawG {c0 c1 c : Cx} {L R : List Res} {base : Nat} (H : Owns c0 L c) (hF : FrL base R c) (hle : Le c1 c) (h0 : c0.w.heap.size ≤ base) (h1 : ∀ r ∈ R, ∀ b, r.blk = some b → c1.M b ∨ c1.w.heap.size ≤ b) :
    Owns c0 (R ++ L) ⟨c.w, fun x => c.M x ∨ ∃ r ∈ R, r.blk = some x⟩ ∧ Le c1 ⟨c.w, fun x => c.M x ∨ ∃ r ∈ R, r.blk = some x⟩ := by
  refine ⟨⟨H.ext, fun b hb hm => .inl (H.keep b hb hm), fun b hb => ?_, fun r hr => ?_, List.pairwise_append.2 ⟨hF.2, H.dis, fun r hr r' hr' b e e' => ?_⟩⟩, ⟨hle.os, hle.tape, hle.output, hle.drawn, hle.size, fun b hb hm => ⟨(hle.blk b hb hm).1, ?_⟩⟩⟩
  · rcases hb with hb | ⟨r, hr, e⟩
    · exact H.mbd b hb
    · exact Res.lt (hF.1 r hr).1 e
  · rcases List.mem_append.1 hr with hr | hr
    · exact ⟨(hF.1 r hr).1, fun b e => ⟨.inr ⟨r, hr, e⟩, Nat.le_trans h0 ((hF.1 r hr).2 b e).2⟩⟩
    · exact ⟨(H.res r hr).1, fun b e => ⟨.inl ((H.res r hr).2 b e).1, ((H.res r hr).2 b e).2⟩⟩
  · exact ((hF.1 r hr).2 b e).1 ((H.res r' hr').2 b e').1
  · rintro (h | ⟨r, hr, e⟩)
    · exact (hle.blk b hb hm).2 h
    · rcases h1 r hr b e with h | h
      · exact hm h
      · omega
theorem FrL.keep {base : Nat} {r : Res} {R : List Res} {c : Cx} (h : FrL base (r :: R) c) : FrL base R ⟨c.w, fun x => c.M x ∨ ∃ s ∈ [r], s.blk = some x⟩ :=
  ⟨fun s hs => ⟨(h.1 s (.tail _ hs)).1, fun b e => ⟨by
    rintro (h2 | ⟨s', hs', e'⟩)
    · exact ((h.1 s (.tail _ hs)).2 b e).1 h2
    · rw [List.mem_singleton.1 hs'] at e'
      exact (List.pairwise_cons.1 h.2).1 s hs b e' e, ((h.1 s (.tail _ hs)).2 b e).2⟩⟩, (List.pairwise_cons.1 h.2).2⟩
section
variable {P : Program}
theorem run_append_keep {T e : TypeId} {z : Value} {kk bb : Nat} {w : World} {v : Value} {m : Nat} {xs : List Value} [SlT P T e] [TyI P e z kk bb] (hz : z.cells.size = kk) (hk0 : 0 < kk) (hbb : bb ≤ 128) (hown : w.ownsRow 0 e kk v m xs)
    {ad : Addr} {cp m2 : Nat} {news : List Value} (hcell : ∀ j u, news[j]? = some u → w.cell? (ad.add j) = some u) (hl : news.length = m2 * kk) (h1 : ∀ u ∈ news, u.oneCell' = true) (hlim : m + m2 < LIM) (tt : TypeId) :
    ∃ v' w', (Builtin.append_ #[T, T] tt #[v, .slice (some ad) m2 cp]).run P w = .ok v' w' ∧ w'.ownsRow 0 e kk v' (m + m2) (xs ++ news) ∧ w.grownBy w' v.ownBlock ∧ (∀ b, v'.ownBlock = some b → v.ownBlock = some b ∨ w.heap.size ≤ b) ∧ w'.ownsRow 0 e kk v m xs := by
  obtain ⟨v', w', hr, ho, hg, hb⟩ := run_append_own2 (P := P) (T := T) hz hk0 hbb hown (.inl ⟨ad, cp, rfl, hcell⟩) hl h1 hlim tt
  refine ⟨v', w', hr, ho, hg, hb, ?_⟩
  obtain ⟨i, hi, hiz, his, hib⟩ := TyI.h (P := P) (e := e)
  have hbytes : (m + m2) * bb ≤ 140737488355328 := Nat.le_trans (Nat.mul_le_mul (Nat.le_of_lt hlim) hbb) (by unfold LIM; omega)
  rcases hown.2 with ⟨rfl, rfl⟩ | ⟨g, cap, cur, rfl, _, hh, hnc, hcm, hcs, _⟩
  · exact ⟨hown.1, .inl ⟨rfl, rfl⟩⟩
  · by_cases hroom : m + m2 ≤ cap
    · have hfit : m * kk + news.length ≤ cur.size := by rw [hl, hcs, ← Nat.add_mul]; exact Nat.mul_le_mul_right _ hroom
      have hrm := run_append_room (P := P) w T tt e i (SlT.h (P := P)) hi g m cap cur hh ad m2 cp news (by rw [his]; exact hl) hcell h1 hroom (by rw [his]; exact hfit)
      rw [hrm] at hr
      cases hr
      rcases ho.2 with ⟨h, _⟩ | ⟨g', cap', cur', h, hg', hh', _, _, hsz', htk'⟩
      · cases h
      · simp only [Value.slice.injEq, Option.some.injEq, Addr.mk.injEq, and_true, true_and] at h
        obtain ⟨rfl, rfl⟩ := h
        refine ⟨hown.1, .inr ⟨g, cap, cur', rfl, hg', hh', hnc, hcm, hsz', ?_⟩⟩
        have h2 := congrArg (List.take (m * kk)) htk'
        rw [List.take_take, Nat.min_eq_left (Nat.mul_le_mul_right _ (by omega)), List.take_append_of_le_length (by rw [hown.1]; exact Nat.le_refl _), List.take_of_length_le (l := xs) (by rw [hown.1]; exact Nat.le_refl _)] at h2
        exact h2
    · have holds : ∀ j u, xs[j]? = some u → w.cell? ((⟨g, 0, none⟩ : Addr).add j) = some u := hown.cells (g := g) rfl
      have hgw := run_append_grow (P := P) w T tt e i z (SlT.h (P := P)) hi hiz ⟨g, 0, none⟩ m cap xs (by rw [his]; exact hown.1) holds ad m2 cp news (by rw [his]; exact hl) hcell (by omega) (by unfold LIM at hlim; omega) (by rw [hib]; exact growslice_fits (by omega) hbytes)
      rw [hgw] at hr
      cases hr
      have hlt := (Array.getElem?_eq_some_iff.1 hh).1
      exact Res.kept (r := .row (.slice (some ⟨g, 0, none⟩) m cap) e kk m xs) hown hg.size fun b hb2 => by
        simp only [Res.blk, Value.ownBlock, Option.some.injEq] at hb2
        subst hb2
        exact (Ext0.draw _ |>.trans (Ext0.alloc _ _)).blk g hlt
theorem sl_of_row {α : Type} [Enc α] {v : Value} {e : TypeId} {kk : Nat} {vals : List (List Value)} {xs : List α} {w : World} {M : Nat → Prop} (hr : w.ownsRow 0 e kk v xs.length vals.flatten) (hV : Vals vals xs ⟨w, M⟩) (hk : Enc.k α = kk) (hM : ∀ b, v.ownBlock = some b → ¬ M b) (hl : xs.length < LIM) : Sl v xs ⟨w, M⟩ := by
  obtain ⟨h1, h2⟩ := hr
  rcases h2 with ⟨rfl, h0⟩ | ⟨g, cap, cur, rfl, _, hh, hnc, _, hsz, htk⟩
  · have : xs = [] := List.eq_nil_of_length_eq_zero h0
    subst this
    exact Sl.nil _
  · refine Sl.of_vals (vals := vals) (ex := cur.toList.drop (xs.length * kk)) hV hh ?_ (hM g rfl) hnc hl
    rw [← htk]
    exact (List.take_append_drop _ _).symm
end
section
variable {P : Program} {ops : Array Oper} {Q : Exit → Act → World → Prop} {n : Nat} {f : Nat → Value} {rest : List Oper} {ty : TypeId} {ps : String} {af : Array Edge} {d : Tmp}
variable {c0 c : Cx} {L : List Res} {A : Cx → Prop}
/-- append(row, l...): the row as it was, and the longer one: neither will turn. -/
theorem s_appKF {α : Type} {iE : Enc α} {T e : TypeId} {z : Value} {kk bb : Nat} {x y : Operand} {v v2 : Value} {xs ys : List α} {vals valsY : List (List Value)} (hn : Nat.blt d n = true) [SlT P T e] [TyI P e z kk bb] (hx : opd f x = v) (hy : opd f y = v2)
    (HV : Vals vals xs c) (HS : SlV ys valsY v2 c) (hne : ys ≠ []) (hk : Enc.k α = kk) (hz : z.cells.size = kk) (hbb : Nat.ble bb 128 = true) (hlim : xs.length + ys.length < LIM)
    (H : Owns c0 (.row v e kk xs.length vals.flatten :: L) c) (HA : Hd A c) (hMA : Mono A) (k : ∀ v' c', Owns c0 L c' → Hd (fun c => FrL c0.w.heap.size [.row v e kk xs.length vals.flatten] c ∧ FrL c0.w.heap.size [.row v' e kk (xs.length + ys.length) (vals.flatten ++ valsY.flatten)] c ∧ A c) c' → W P ops Q rest n (upd f d v') c'.w) :
    W P ops Q (⟨some d, .call ⟨.builtin .append, #[x, y], #[T, T]⟩, ty, ps, af, none⟩ :: rest) n f c.w := by
  have hres := H.res _ (List.mem_cons_self ..)
  obtain ⟨hvals, ad, cap, hv2, hcap, hcell⟩ := HS
  obtain ⟨b, o, rfl, hc⟩ := hcell hne
  subst hv2
  have hlen := flatten_len _ hvals.len
  obtain ⟨v', w', hr, ho, hg, hb, hkp⟩ := run_append_keep (P := P) (T := T) (ad := ⟨b, o, none⟩) (cp := cap) (m2 := ys.length) (news := valsY.flatten) hz (by rw [← hk]; exact Enc.pos) (Nat.le_of_ble_eq_true hbb) hres.1 (fun j u hu => by rw [Addr.add_lit]; exact (hc j u hu).1) (by rw [hlen, hvals.1, hk]) hvals.one hlim ty
  obtain ⟨M', hle, hO⟩ := H.appended (run_ok_drawn hr) ho hg hb
  have hle3 : Le c ⟨w', fun q => c.M q ∧ (Res.row v e kk xs.length vals.flatten).blk ≠ some q⟩ := ⟨hle.os, hle.tape, hle.output, hle.drawn, hle.size, fun q hq hm => ⟨(hle.blk q hq hm).1, fun h => hm h.1⟩⟩
  have hO3 : Owns c0 L ⟨w', fun q => c.M q ∧ (Res.row v e kk xs.length vals.flatten).blk ≠ some q⟩ := by
    refine ⟨hO.ext, fun q hq hm => ⟨H.keep q hq hm, fun e' => ?_⟩, fun q hq => Nat.lt_of_lt_of_le (H.mbd q hq.1) hle.size, fun r hr' => ?_, (List.pairwise_cons.1 H.dis).2⟩
    · have := (hres.2 q e').2
      omega
    · have h1 := H.res r (List.mem_cons_of_mem _ hr')
      have hd := (List.pairwise_cons.1 H.dis).1 r hr'
      exact ⟨Res.kept h1.1 hle.size fun q hq => hg.block q (Res.lt h1.1 hq) fun e' => hd q e'.symm hq, fun q hq => ⟨⟨(h1.2 q hq).1, fun e' => hd q e' hq⟩, (h1.2 q hq).2⟩⟩
  refine st_val hn (w' := w') ?_ (k v' ⟨w', _⟩ hO3 ⟨⟨⟨fun r hr' => ?_, List.pairwise_singleton ..⟩, ⟨fun r hr' => ?_, List.pairwise_singleton ..⟩, Mono.mono hle3 HA.h⟩⟩)
  · simp [execOp, resolve, invoke, builtin, hx, hy, hr]
  · rw [List.mem_singleton.1 hr']
    exact ⟨hkp, fun q hq => ⟨fun h => h.2 hq, (hres.2 q hq).2⟩⟩
  · rw [List.mem_singleton.1 hr']
    refine ⟨ho, fun q hq => ?_⟩
    rcases hb q hq with e' | e'
    · exact ⟨fun h => h.2 e', (hres.2 q e').2⟩
    · exact ⟨fun h => by have := H.mbd q h.1; omega, Nat.le_trans H.ext.size e'⟩
/-- A block that was own then, or is new since. -/
def PuB (c1 : Cx) (v : Value) (_ : Cx) : Prop := ∀ b, v.ownBlock = some b → c1.M b ∨ c1.w.heap.size ≤ b
instance (c1 : Cx) (v : Value) : Mono (PuB c1 v) := ⟨fun _ h => h⟩
/-- append(row, l...), frozen, beside two others. -/
theorem s_appVF {α : Type} {iE : Enc α} {T e : TypeId} {z : Value} {kk bb m : Nat} {x y : Operand} {v v2 : Value} {ys : List α} {vals : List (List Value)} {cur : List Value} {r1 r2 : Res} {c1 : Cx} (hn : Nat.blt d n = true) [SlT P T e] [TyI P e z kk bb] (hx : opd f x = v) (hy : opd f y = v2)
    (HS : SlV ys vals v2 c) (hk : Enc.k α = kk) (hz : z.cells.size = kk) (hbb : Nat.ble bb 128 = true) (hlim : m + ys.length < LIM) (h1 : FrL c0.w.heap.size [r1] c) (h2 : FrL c0.w.heap.size [r2] c) (hS : Since c1 c) (hM : ∀ b, v.ownBlock = some b → c1.M b)
    (H : Owns c0 (.row v e kk m cur :: L) c) (HA : Hd A c) (hMA : Mono A) (k : ∀ v' c', Owns c0 L c' → Hd (fun c => FrL c0.w.heap.size [.row v' e kk (m + ys.length) (cur ++ vals.flatten), r1] c ∧ FrL c0.w.heap.size [.row v' e kk (m + ys.length) (cur ++ vals.flatten), r2] c ∧ PuB c1 v' c ∧ A c) c' → W P ops Q rest n (upd f d v') c'.w) :
    W P ops Q (⟨some d, .call ⟨.builtin .append, #[x, y], #[T, T]⟩, ty, ps, af, none⟩ :: rest) n f c.w := by
  have hown := (H.res _ (List.mem_cons_self ..)).1
  obtain ⟨hvals, ad, cap, hv2, hcap, hcell⟩ := HS
  have hlen := flatten_len _ hvals.len
  obtain ⟨v', w', hr, ho, hg, hb⟩ := run_append_own2 (P := P) (T := T) (x := v2) (m2 := ys.length) (news := vals.flatten) hz (by rw [← hk]; exact Enc.pos) (Nat.le_of_ble_eq_true hbb) hown (by
    by_cases hne : ys = []
    · subst hne
      have hvn : vals = [] := List.eq_nil_of_length_eq_zero hvals.1
      subst hvn
      cases ad with
      | none => exact .inr ⟨cap, hv2, rfl, rfl⟩
      | some a => exact .inl ⟨a, cap, hv2, fun j u hu => by simp at hu⟩
    · obtain ⟨b, o, ha, hc⟩ := hcell hne
      subst ha
      exact .inl ⟨_, cap, hv2, fun j u hu => by rw [Addr.add_lit]; exact (hc j u hu).1⟩) (by rw [hlen, hvals.1, hk]) hvals.one hlim ty
  obtain ⟨M', hle, hO⟩ := H.appended (run_ok_drawn hr) ho hg hb
  have f1 := hO.freezeF (Mono.mono hle h1) (Nat.le_refl _)
  have f2 := hO.freezeF (Mono.mono hle h2) (Nat.le_refl _)
  refine st_val hn (w' := w') ?_ (k v' ⟨w', _⟩ f1.2.1 ⟨⟨f1.2.2, f2.2.2, fun b e' => ?_, Mono.mono (hle.trans f1.1) HA.h⟩⟩)
  · simp [execOp, resolve, invoke, builtin, hx, hy, hr]
  · rcases hb b e' with h | h
    · exact .inl (hM b h)
    · exact .inr (Nat.le_trans (Le.size hS) h)
/-- One row is the call's own again; two others stay as they are. -/
theorem w_thawG {l : List Oper} {r : Res} {R1 R2 : List Res} {c1 : Cx} {A1 : Cx → Prop} {base : Nat} (H : Owns c0 L c) (h1 : FrL base (r :: R1) c) (h2 : FrL base (r :: R2) c) (hS : Since c1 c) (h0 : c0.w.heap.size ≤ base) (hP : ∀ b, r.blk = some b → c1.M b ∨ c1.w.heap.size ≤ b) (HA1 : Hd A1 c1) [Mono A1]
    (k : ∀ c', Owns c0 (r :: L) c' → Hd (fun c => FrL base R1 c ∧ FrL base R2 c ∧ A1 c) c' → W P ops Q l n f c'.w) : W P ops Q l n f c.w :=
  have hT := H.thawG (R := [r]) (h1.sub (List.Sublist.cons_cons _ (List.nil_sublist _))) hS h0 (fun s hs b e => by rw [List.mem_singleton.1 hs] at e; exact hP b e)
  k ⟨c.w, fun x => c.M x ∨ ∃ s ∈ [r], s.blk = some x⟩ hT.1 ⟨⟨h1.keep, h2.keep, (HA1.to hT.2).h⟩⟩
end
end Go.Wk
/- A book of lists that were handed out: what it holds; a list of terms put into it. -/
namespace Go.Wk
open Go Go.RowKit
/-! ### contracts of functions that hand back what they turned, told behind the call -/
def CnTXR (c0 : Cx) (L : List Res) (A : Cx → Prop) (Post : Value → List Res → Cx → Prop) : Ending → World → Prop := fun e w' => ∃ v, e = .returned v ∧ ∃ c' R, c'.w = w' ∧ Owns c0 (R ++ L) c' ∧ Hd (fun c => Post v R c ∧ A c) c'
def CnTX (P : Program) (g : FuncId) (args : List Value) (pre : List Res) (c : Cx) (Post : Value → List Res → Cx → Prop) : Prop :=
  ∀ (c0 : Cx) (L : List Res) (A : Cx → Prop) [Mono A], Owns c0 (pre ++ L) c → Hd A c → Calls P g args.toArray c.w (CnTXR c0 L A Post)
section
variable {P : Program} {g : FuncId} {fn : Func} {x : Code} {args : List Value} {c : Cx}
theorem CnTX.of {pre : List Res} {Post : Value → List Res → Cx → Prop} {n : Nat} (hf : P.funcs[g]? = some fn) (hn : fn.ntmps = n) (hb : fn.body = some x) (hl : Nat.ble args.length n = true)
    (h : ∀ (c0 : Cx) (L : List Res) (A : Cx → Prop) [Mono A], Owns c0 (pre ++ L) c → Hd A c → WC P x (bodyPost P fn (CnTXR c0 L A Post)) n (frame0 args) c.w) : CnTX P g args pre c Post :=
  fun c0 L A _ H HA => calls_of_wp hf hb (by subst hn; exact (h c0 L A H HA).go _ (frIs0 (Nat.le_of_ble_eq_true hl)))
theorem norm_fnX {L R : List Res} {A : Cx → Prop} {Post : Value → List Res → Cx → Prop} {c0 c : Cx} {n : Nat} {f : Nat → Value} {v : Value} (H : Owns c0 (R ++ L) c) (HA : Hd A c) (ho : Outs P fn f c.w v) (hp : Post v R c) : WX (bodyPost P fn (CnTXR c0 L A Post)) .normal n f c.w :=
  ⟨fun a ha => ⟨ha.defers, v, ho _ ha.at_, v, rfl, c, R, rfl, H, HA.add hp⟩⟩
end
section
variable {P : Program} {ops : Array Oper} {Q : Exit → Act → World → Prop} {n : Nat} {f : Nat → Value} {rest : List Oper} {ty : TypeId} {ps : String} {af : Array Edge} {d : Tmp}
variable {c0 c : Cx} {L : List Res} {A : Cx → Prop}
theorem s_callX {os : Array Operand} {aT : Array TypeId} {g : FuncId} {vs : List Value} {pre : List Res} {Post : Value → List Res → Cx → Prop} (hn : Nat.blt d n = true) [Ent P g] (hargs : os.toList.map (opd f) = vs) (H : Owns c0 (pre ++ L) c) (HA : Hd A c) [Mono A] (hc : CnTX P g vs pre c Post)
    (k : ∀ v R c', Owns c0 (R ++ L) c' → Hd (fun c => Post v R c ∧ A c) c' → W P ops Q rest n (upd f d v) c'.w) : W P ops Q (⟨some d, .call ⟨.value (.func g), os, aT⟩, ty, ps, af, none⟩ :: rest) n f c.w :=
  st_enter hn (g := g) (args := vs.toArray) (by subst hargs; simp [execOp, resolve, Deferred.ofValue, opd, invoke, Ent.h, ← Array.toList_map]) (hc c0 L A H HA)
    fun v w' ⟨c', R, hw, H', HA'⟩ => by subst hw; exact k v R c' H' HA'
end
/-- A cell as it is. -/
structure Raw where
  v : Value
  h : v.oneCell' = true
instance : Enc Raw where
  k := 1
  Ok cs x _ := cs = [x.v]
  mono cs x := ⟨fun _ h => h⟩
  len cs x c h := by subst h; rfl
  one cs x c h u hu := by subst h; rw [List.mem_singleton.1 hu]; exact x.h
  pos := by omega
/-! ### the book -/
structure Bk where
  tl : List (List Tm)
  tm : List (List Tm)
  al : List (List At0)
  am : List (List At0)
  sl : List (List Ts)
  sm : List (List Ts)
  cl : List (List Cl)
  cm : List (List Cl)
structure BkV where
  v0 : Value
  v1 : Value
  v2 : Value
  v3 : Value
  v4 : Value
  v5 : Value
  v6 : Value
  v7 : Value
  w0 : List (List Value)
  w1 : List (List Value)
  w2 : List (List Value)
  w3 : List (List Value)
  w4 : List (List Value)
  w5 : List (List Value)
  w6 : List (List Value)
  w7 : List (List Value)
def bkRes (T e0 e2 e4 e6 : TypeId) (b : Nat) (S : Bk) (V : BkV) : List Res :=
  [.obj b (.cells [V.v0, V.v1, V.v2, V.v3, V.v4, V.v5, V.v6, V.v7, .slice none 0 0, .slice none 0 0].toArray T (0, 0)),
   .row V.v0 e0 1 S.tl.length V.w0.flatten, .row V.v1 e0 1 S.tm.length V.w1.flatten, .row V.v2 e2 1 S.al.length V.w2.flatten, .row V.v3 e2 1 S.am.length V.w3.flatten,
   .row V.v4 e4 1 S.sl.length V.w4.flatten, .row V.v5 e4 1 S.sm.length V.w5.flatten, .row V.v6 e6 1 S.cl.length V.w6.flatten, .row V.v7 e6 1 S.cm.length V.w7.flatten]
def BkOk (S : Bk) (V : BkV) (c : Cx) : Prop := Vals V.w0 S.tl c ∧ Vals V.w1 S.tm c ∧ Vals V.w2 S.al c ∧ Vals V.w3 S.am c ∧ Vals V.w4 S.sl c ∧ Vals V.w5 S.sm c ∧ Vals V.w6 S.cl c ∧ Vals V.w7 S.cm c
instance (S : Bk) (V : BkV) : Mono (BkOk S V) := ⟨fun h k => ⟨Mono.mono h k.1, Mono.mono h k.2.1, Mono.mono h k.2.2.1, Mono.mono h k.2.2.2.1, Mono.mono h k.2.2.2.2.1, Mono.mono h k.2.2.2.2.2.1, Mono.mono h k.2.2.2.2.2.2.1, Mono.mono h k.2.2.2.2.2.2.2⟩⟩
/-- The book, whoever holds it. -/
def BkP (T e0 e2 e4 e6 : TypeId) (b : Nat) (S : Bk) (R : List Res) (c : Cx) : Prop := ∃ V, R = bkRes T e0 e2 e4 e6 b S V ∧ BkOk S V c
instance (T e0 e2 e4 e6 : TypeId) (b : Nat) (S : Bk) (R : List Res) : Mono (BkP T e0 e2 e4 e6 b S R) := ⟨fun h ⟨V, e, k⟩ => ⟨V, e, Mono.mono h k⟩⟩
def mkT (n : Nat) : Tm := ⟨904, n, ES⟩
/-- .. as rows that will not turn. -/
def KpF (e : TypeId) (base : Nat) (v : Value) (xs : List Tm) (y : Tm) (v' : Value) (c : Cx) : Prop := FrL base [.row v e 3 xs.length (xs.map Tm.cs).flatten] c ∧ FrL base [.row v' e 3 (xs.length + [y].length) ((xs.map Tm.cs).flatten ++ [y.cs].flatten)] c
instance (e : TypeId) (base : Nat) (v : Value) (xs : List Tm) (y : Tm) (v' : Value) : Mono (KpF e base v xs y v') := ⟨fun h k => ⟨Mono.mono h k.1, Mono.mono h k.2⟩⟩
/-- A slice of the longer list, which will not turn. -/
def BsF1 (e : TypeId) (base : Nat) (xs : List Tm) (y : Tm) (u : Value) (c : Cx) : Prop := ∃ q, SlV [xs ++ [y]] [[q]] u c ∧ FrL base [.row q e 3 (xs.length + [y].length) ((xs.map Tm.cs).flatten ++ [y.cs].flatten)] c
instance (e : TypeId) (base : Nat) (xs : List Tm) (y : Tm) (u : Value) : Mono (BsF1 e base xs y u) := ⟨fun h ⟨q, k, k2⟩ => ⟨q, Mono.mono h k, Mono.mono h k2⟩⟩
/-- The row of lists with the longer one behind it, beside the two. -/
def BkF (e e2 : TypeId) (base : Nat) (c1 : Cx) (v : Value) (xs : List Tm) (y : Tm) (m : Nat) (cur : List Value) (u : Value) (c : Cx) : Prop := ∃ q, FrL base [.row u e2 1 m (cur ++ [[q]].flatten), .row v e 3 xs.length (xs.map Tm.cs).flatten] c ∧ FrL base [.row u e2 1 m (cur ++ [[q]].flatten), .row q e 3 (xs.length + [y].length) ((xs.map Tm.cs).flatten ++ [y.cs].flatten)] c ∧ PuB c1 u c
instance (e e2 : TypeId) (base : Nat) (c1 : Cx) (v : Value) (xs : List Tm) (y : Tm) (m : Nat) (cur : List Value) (u : Value) : Mono (BkF e e2 base c1 v xs y m cur u) := ⟨fun h ⟨q, k, k2, k3⟩ => ⟨q, Mono.mono h k, Mono.mono h k2, Mono.mono h k3⟩⟩
/-- A slice of one list. -/
def BsL {α : Type} [Enc α] (xs : List α) (u : Value) (c : Cx) : Prop := ∃ q, SlV [xs] [[q]] u c
instance {α : Type} [Enc α] (xs : List α) (u : Value) : Mono (BsL xs u) := ⟨fun h ⟨q, k⟩ => ⟨q, Mono.mono h k⟩⟩
/-- Both stay: a list, and one with an element more. -/
def KpT {α : Type} [Enc α] (v : Value) (xs : List α) (y : α) (v' : Value) (c : Cx) : Prop := Sl v xs c ∧ Sl v' (xs ++ [y]) c
instance {α : Type} [Enc α] (v : Value) (xs : List α) (y : α) (v' : Value) : Mono (KpT v xs y v') := ⟨fun h k => ⟨Mono.mono h k.1, Mono.mono h k.2⟩⟩
end Go.Wk
namespace Go.Proofs.YthkdggoohpgnnaaGreatDoor
open Go Go.Wk
instance : Fld Tryz.prog 64 0 0 := .of (k := 0) (by kernel_rfl)
instance : Fld Tryz.prog 64 1 1 := .of (k := 0) (by kernel_rfl)
instance : Fld Tryz.prog 64 2 2 := .of (k := 0) (by kernel_rfl)
instance : Fld Tryz.prog 64 3 3 := .of (k := 0) (by kernel_rfl)
instance : Fld Tryz.prog 64 4 4 := .of (k := 0) (by kernel_rfl)
instance : Fld Tryz.prog 64 5 5 := .of (k := 0) (by kernel_rfl)
instance : Fld Tryz.prog 64 6 6 := .of (k := 0) (by kernel_rfl)
instance : Fld Tryz.prog 64 7 7 := .of (k := 0) (by kernel_rfl)
theorem Book_KeepTerms (b : Nat) (S : Bk) (V : BkV) (xs : List Tm) (v : Value) (vals : List (List Value)) (c : Cx) (hS : BkOk S V c) (hV : Vals vals xs c) (hl1 : S.tl.length + 1 < 1099511627776) (hl2 : S.tm.length + 1 < 1099511627776) (hlx : xs.length + 1 < 1099511627776) :
    CnTX Tryz.prog 37 [.pointer (some ⟨b, 0, none⟩), v] (.row v 23 3 xs.length vals.flatten :: bkRes 64 24 27 28 37 b S V) c
      (fun _ R c => BkP 64 24 27 28 37 b { S with tl := S.tl ++ [List.replicate xs.length (mkT S.tl.length)], tm := S.tm ++ [List.replicate (xs.length + 1) (mkT S.tl.length)] } R c ∧ Sl v (List.replicate xs.length (mkT S.tl.length)) c) := by
  refine CnTX.of Tryz.func37 Tryz.ntmps37 rfl rfl fun c0 L0 A0 _ H HA => ?_
  have HA := (HA.add hS).add hV
  obtain ⟨v0, v1, v2, v3, v4, v5, v6, v7, w0, w1, w2, w3, w4, w5, w6, w7⟩ := V
  have H : Owns c0 (.row v 23 3 xs.length vals.flatten :: .obj b (.cells [v0, v1, v2, v3, v4, v5, v6, v7, .slice none 0 0, .slice none 0 0].toArray 64 (0, 0)) :: .row v0 24 1 S.tl.length w0.flatten :: .row v1 24 1 S.tm.length w1.flatten :: .row v2 27 1 S.al.length w2.flatten :: .row v3 27 1 S.am.length w3.flatten ::
     .row v4 28 1 S.sl.length w4.flatten :: .row v5 28 1 S.sm.length w5.flatten :: .row v6 37 1 S.cl.length w6.flatten :: .row v7 37 1 S.cm.length w7.flatten :: L0) c := H
  apply wc_seq
  (apply wc_region; refine Z0 ?_; (refine s_nilCheck rfl rfl ?_); refine Z3 ?_; refine Z41 ?_; refine Z62 ?_; refine Z54 ?_; refine Z61 fun bx c H HA => ?_; refine Z74 fun c H HA => ?_; apply w_nil; apply wx_next)
  (obtain ⟨b4, rfl⟩ : ∃ x, x = bx := ⟨_, rfl⟩)
  (refine wc_freeze H HA ?_; intro c H HA)
  (apply wc_seq; apply wc_seq; apply wc_region; refine Z2 ?_; apply w_nil; apply wx_next; apply wc_block)
  refine wc_loopG (σ := Nat × List Tm × List (List Value)) (fun y => xs.length - y.1) (fun y => [(0, .pointer (some ⟨b, 0, none⟩)), (1, v), (4, .pointer (some ⟨b4, 0, none⟩)), (5, .int .i64 y.1)]) (fun y => y.1 ≤ xs.length ∧ y.2.1 = List.replicate y.1 (mkT S.tl.length) ++ xs.drop y.1)
    (fun y => .row v 23 3 y.2.1.length y.2.2.flatten :: .obj b (.cells [v0, v1, v2, v3, v4, v5, v6, v7, .slice none 0 0, .slice none 0 0].toArray 64 (0, 0)) :: .row v0 24 1 S.tl.length w0.flatten :: .row v1 24 1 S.tm.length w1.flatten :: .row v2 27 1 S.al.length w2.flatten :: .row v3 27 1 S.am.length w3.flatten :: .row v4 28 1 S.sl.length w4.flatten :: .row v5 28 1 S.sm.length w5.flatten :: .row v6 37 1 S.cl.length w6.flatten :: .row v7 37 1 S.cm.length w7.flatten :: L0) (fun y c => Vals y.2.2 y.2.1 c) (0, xs, vals) H HA Lk Ks ⟨Nat.zero_le _, by simp⟩ ?_
  intro y g c hp H HA
  obtain ⟨k, acc, vals2⟩ := y
  obtain ⟨hk, hacc⟩ := hp
  dsimp only at hk hacc H HA ⊢
  have hal : acc.length = xs.length := by rw [hacc]; simp; omega
  (focus (apply wc_seq; apply wc_seq; apply wc_region; refine Z0 ?_; refine Z0 ?_; refine Z62 ?_; refine Z93 (fun hq => ?_) fun hq => ?_; apply w_nil; apply wx_next; refine Z18 ?_; apply wc_skip; apply wx_next; apply wc_seq; apply wc_block; apply wc_region; refine Z0 ?_; refine Z0 ?_; refine Z7 ?_; refine Z63 fun rp hrp => ?_; rotate_left; apply w_nil; apply wx_next; refine Z19 ?_; apply wc_exit; apply wx_exit_then; apply wx_exit_then; apply wx_exit_same; apply wx_next; apply wc_seq; apply wc_region; refine Z0 ?_; refine Z0 ?_; (refine s_nilCheck rfl rfl ?_); refine Z3 ?_; refine Z41 ?_; refine Z0 ?_; rotate_left))
  · (refine s_stRA (u := mkT S.tl.length) rfl rfl hrp H Lk (by omega) rfl rfl HA inferInstance ?_; intro c H HA)
    (apply w_nil; apply wx_norm_block; apply wx_next; apply wc_region; refine Z0 ?_; refine Z46 ?_; refine Z2 ?_; apply w_nil)
    exact wx_loopG ((k + 1, acc.set k (mkT S.tl.length), vals2.set k (mkT S.tl.length).cs)) H Cu Lk Ks (by dsimp only; omega) ⟨by dsimp only; omega, by
      dsimp only
      rw [hacc, List.set_append_right _ _ (by simp), List.length_replicate, Nat.sub_self, List.replicate_succ', List.append_assoc]
      congr 1
      rw [List.drop_eq_getElem_cons (by omega)]
      rfl⟩
  · have hacc : acc = List.replicate xs.length (mkT S.tl.length) := by rw [hacc, List.drop_eq_nil_of_le (by omega), show k = xs.length by omega]; simp
    subst hacc
    have hc1 : v.cells = #[v] := H.rowCells (List.Mem.head _)
    have ho1 : v.oneCell' = true := H.rowOne (List.Mem.head _)
    (refine s_bs1V (α := Raw) (cs := [v]) (u := ⟨v, ho1⟩) rfl hc1 rfl rfl rfl rfl H HA inferInstance ?_; intro vb c H HA)
    have H := H.swap2
    (refine s_appV rfl rfl rfl (Lk : SlV [(⟨v, ho1⟩ : Raw)] [[v]] vb _) rfl rfl rfl Lt H HA inferInstance ?_; intro n0 c H HA)
    ((refine s_nilCheck rfl rfl ?_); refine Z3 ?_; refine Z79 fun c H HA => ?_; apply w_nil; apply wx_next)
    have H := H.swap2
    have H : Owns c0 ((.row v 23 3 (List.replicate xs.length (mkT S.tl.length)).length vals2.flatten) :: .obj b _ :: .row n0 24 1 _ _ :: .row v1 24 1 S.tm.length w1.flatten :: (.row v2 27 1 S.al.length w2.flatten :: .row v3 27 1 S.am.length w3.flatten :: .row v4 28 1 S.sl.length w4.flatten :: .row v5 28 1 S.sm.length w5.flatten :: .row v6 37 1 S.cl.length w6.flatten :: .row v7 37 1 S.cm.length w7.flatten :: L0)) c := H
    have H := H.perm (List.Perm.cons _ ((List.perm_middle (l₁ := [_, _])).trans (List.Perm.refl _)))
    have hs1 : ∀ g, v1.ownBlock = some g → c.M g := fun g hg => ((H.res _ (.tail _ (.head _))).2 g hg).1
    obtain ⟨cS, hcS⟩ : ∃ q, q = c := ⟨_, rfl⟩
    subst hcS
    have HA := HA.add (show Since cS cS from Le.refl cS)
    have HS1 := HA
    have hvv := vals_is (cv := Tm.cs) (Lk : Vals vals2 (List.replicate xs.length (mkT S.tl.length)) cS)
    subst hvv
    have H : Owns c0 ([.row v 23 3 (List.replicate xs.length (mkT S.tl.length)).length ((List.replicate xs.length (mkT S.tl.length)).map Tm.cs).flatten, .row v1 24 1 S.tm.length w1.flatten] ++ _) cS := H
    refine dw_startE (I := [.row v 23 3 (List.replicate xs.length (mkT S.tl.length)).length ((List.replicate xs.length (mkT S.tl.length)).map Tm.cs).flatten, .row v1 24 1 S.tm.length w1.flatten]) H HA ?_
    (refine Dc ?_)
    (refine Dc ?_)
    (apply dw_cons; (focus ((intro B _ Lx c H HA; (repeat (first | (intro vx hx; have hx2 : vx = _ := hx; clear hx; subst hx2) | (intro vx hx; have HA := HA.addSF hx; clear hx) | (intro vx hx; have HA := HA.add hx; clear hx) | intro vx)); change W _ _ _ _ _ _ _); (refine s_nilCheck rfl rfl ?_); exact Dx)); exact inferInstance)
    (refine Dc ?_)
    (refine Dc ?_)
    (refine Dc ?_)
    (refine Dc ?_)
    refine dw_cons (s := .rel fun u c => SlV [(mkT S.tl.length)] [(mkT S.tl.length).cs] u c) ?_ inferInstance ?_
    · (intro B _ Lx c H HA; (repeat (first | (intro vx hx; have hx2 : vx = _ := hx; clear hx; subst hx2) | (intro vx hx; have HA := HA.addSF hx; clear hx) | (intro vx hx; have HA := HA.add hx; clear hx) | intro vx)); change W _ _ _ _ _ _ _)
      refine s_bs1V (α := Tm) (cs := (mkT S.tl.length).cs) (u := (mkT S.tl.length)) rfl rfl rfl rfl rfl rfl H HA inferInstance ?_
      intro vx c H HA
      exact w_nil (pq_rel H Cu HA.h.1)
    refine dw_consE (pv := none) (r := .row v 23 3 (List.replicate xs.length (mkT S.tl.length)).length ((List.replicate xs.length (mkT S.tl.length)).map Tm.cs).flatten) (sel := fun _ => .slice none 0 0) (S := KpF 23 c0.w.heap.size v (List.replicate xs.length (mkT S.tl.length)) (mkT S.tl.length)) (e := 23) (kk := 3) (m := 0) (xs := []) ?_ (fun _ => inferInstance) ?_
    · (intro B _ Lx c HA; (repeat (first | (intro vx hx; have hx2 : vx = _ := hx; clear hx; subst hx2) | (intro vx hx; have HA := HA.addSF hx; clear hx) | (intro vx hx; skip; have HA := HA.add hx; clear hx) | (intro vx; have hvx2 : Go.Value := vx; clear hvx2))); (first | intro H | (have H := HA.h.1; have HA := HA.cut)); change W _ _ _ _ _ _ _)
      have H : Owns c0 (.row v 23 3 (List.replicate xs.length (mkT S.tl.length)).length ((List.replicate xs.length (mkT S.tl.length)).map Tm.cs).flatten :: (Lx ++ _)) c := H
      refine s_appKF rfl rfl rfl (vals_map (P := Tryz.prog) (e := 23) _ c) (Lk : SlV [(mkT S.tl.length)] [(mkT S.tl.length).cs] _ _) (by simp) rfl rfl rfl (by simp only [List.length_replicate, List.length_cons, List.length_nil, LIM]; omega) H HA inferInstance ?_
      intro vx c H HA
      exact w_nil (pq_eff (H.nilRow _ _) Cu ⟨HA.h.1, HA.h.2.1⟩)
    refine dw_cons (s := .rel (BsF1 23 c0.w.heap.size (List.replicate xs.length (mkT S.tl.length)) (mkT S.tl.length))) ?_ inferInstance ?_
    · (intro B _ Lx c H HA; (repeat (first | (intro vx hx; have hx2 : vx = _ := hx; clear hx; subst hx2) | (intro vx hx; have HA := HA.addSF hx; clear hx) | (intro vx hx; have HA := HA.add hx; clear hx) | intro vx)); change W _ _ _ _ _ _ _)
      have hkp := (Lk : KpF 23 c0.w.heap.size v (List.replicate xs.length (mkT S.tl.length)) (mkT S.tl.length) _ c)
      have hfq := hkp.2.1 _ (.head _)
      have hsq := sl_of_row (xs := (List.replicate xs.length (mkT S.tl.length)) ++ [(mkT S.tl.length)]) (vals := (List.replicate xs.length (mkT S.tl.length)).map Tm.cs ++ [(mkT S.tl.length).cs]) (M := c.M) (by rw [List.length_append, List.flatten_append]; exact hfq.1) (by have := vals_map (P := Tryz.prog) (e := 23) ((List.replicate xs.length (mkT S.tl.length)) ++ [(mkT S.tl.length)]) c; rwa [List.map_append] at this) rfl (fun b hb => (hfq.2 b hb).1) (by simp only [List.length_append, List.length_replicate, List.length_cons, List.length_nil, LIM]; omega)
      have HA := HA.add hkp.2
      refine s_bs1V (α := List Tm) (u := (List.replicate xs.length (mkT S.tl.length)) ++ [(mkT S.tl.length)]) rfl (Cells.sl hsq) (show Enc.Ok [_] ((List.replicate xs.length (mkT S.tl.length)) ++ [(mkT S.tl.length)]) _ from ⟨_, rfl, hsq⟩) rfl rfl rfl H HA inferInstance ?_
      intro vx c H HA
      exact w_nil (pq_rel H Cu ⟨_, HA.h.1, HA.h.2.1⟩)
    refine dw_consE (pv := none) (r := .row v1 24 1 S.tm.length w1.flatten) (sel := fun _ => .slice none 0 0) (S := BkF 23 24 c0.w.heap.size cS v (List.replicate xs.length (mkT S.tl.length)) (mkT S.tl.length) (S.tm.length + 1) w1.flatten) (e := 24) (kk := 1) (m := 0) (xs := []) ?_ (fun _ => inferInstance) ?_
    · (intro B _ Lx c HA; (repeat (first | (intro vx hx; have hx2 : vx = _ := hx; clear hx; subst hx2) | (intro vx hx; have HA := HA.addSF hx; clear hx) | (intro vx hx; skip; have HA := HA.add hx; clear hx) | (intro vx; have hvx2 : Go.Value := vx; clear hvx2))); (first | intro H | (have H := HA.h.1; have HA := HA.cut)); change W _ _ _ _ _ _ _)
      have H : Owns c0 (.row v1 24 1 S.tm.length w1.flatten :: (Lx ++ _)) c := H
      have hkp := (Lk : KpF 23 c0.w.heap.size v (List.replicate xs.length (mkT S.tl.length)) (mkT S.tl.length) _ c)
      obtain ⟨q, hq1, hq2⟩ := (Lk : BsF1 23 c0.w.heap.size (List.replicate xs.length (mkT S.tl.length)) (mkT S.tl.length) _ c)
      refine s_appVF (ys := [(List.replicate xs.length (mkT S.tl.length)) ++ [(mkT S.tl.length)]]) (vals := [[q]]) (c1 := cS) rfl rfl rfl hq1 rfl rfl rfl Lt hkp.1 hq2 Lk hs1 H HA inferInstance ?_
      intro vx c H HA
      exact w_nil (pq_eff (H.nilRow _ _) Cu ⟨q, HA.h.1, HA.h.2.1, HA.h.2.2.1⟩)
    refine dw_doneT mixed (I := [.row v 23 3 (List.replicate xs.length (mkT S.tl.length)).length ((List.replicate xs.length (mkT S.tl.length)).map Tm.cs).flatten, .row v1 24 1 S.tm.length w1.flatten]) (by kernel_rfl) H HA (by kernel_rfl) ?_
    clear H HA
    intro c HA u39 h39 u40 h40 u41 h41 u42 h42 H
    obtain ⟨q, f1, f2, hp⟩ := h42
    have H := H.drop.drop
    change W _ _ _ _ _ _ _
    refine w_thawG H f1 f2 Lk (Nat.le_refl _) hp HS1 ?_
    clear H HA f1 f2 h39 h40 h41
    intro c H HA
    ((refine s_nilCheck rfl rfl ?_); refine Z3 ?_; refine Z77 fun c H HA => ?_; apply w_nil)
    have hb := (Lk : BkOk S _ c)
    have g1 := HA.h.1.1 _ (.head _)
    have g2 := HA.h.2.1.1 _ (.head _)
    have hkl := sl_of_row (xs := (List.replicate xs.length (mkT S.tl.length))) (M := c.M) g1.1 (vals_map (P := Tryz.prog) (e := 23) _ c) rfl (fun b hb => (g1.2 b hb).1) (by simp only [List.length_replicate, LIM]; omega)
    have hkq := sl_of_row (xs := (List.replicate xs.length (mkT S.tl.length)) ++ [(mkT S.tl.length)]) (vals := (List.replicate xs.length (mkT S.tl.length)).map Tm.cs ++ [(mkT S.tl.length).cs]) (M := c.M) (by rw [List.length_append, List.flatten_append]; exact g2.1) (by have := vals_map (P := Tryz.prog) (e := 23) ((List.replicate xs.length (mkT S.tl.length)) ++ [(mkT S.tl.length)]) c; rwa [List.map_append] at this) rfl (fun b hb => (g2.2 b hb).1) (by simp only [List.length_append, List.length_replicate, List.length_cons, List.length_nil, LIM]; omega)
    have one : ∀ {u : Value} {l : List Tm}, Sl u l c → Vals [[u]] [l] c := fun {u l} hu => ⟨rfl, fun j cs y h1 h2 => by
      cases j with
      | zero =>
        simp at h1 h2
        subst h1 h2
        exact ⟨u, rfl, hu⟩
      | succ j => simp at h2⟩
    have hs2 : Vals (w0 ++ [[v]]) (S.tl ++ [(List.replicate xs.length (mkT S.tl.length))]) c := hb.1.append (one hkl)
    have hs3 : Vals (w1 ++ [[q]]) (S.tm ++ [(List.replicate xs.length (mkT S.tl.length)) ++ [(mkT S.tl.length)]]) c := hb.2.1.append (one hkq)
    have H := H.perm (List.Perm.cons _ (List.Perm.swap _ _ _))
    rw [show w0.flatten ++ [[v]].flatten = (w0 ++ [[v]]).flatten by simp, show w1.flatten ++ [[q]].flatten = (w1 ++ [[q]]).flatten by simp] at H
    refine norm_fnX (R := bkRes 64 24 27 28 37 b { S with tl := S.tl ++ [(List.replicate xs.length (mkT S.tl.length))], tm := S.tm ++ [List.replicate (xs.length + 1) (mkT S.tl.length)] } ⟨n0, u42, v2, v3, v4, v5, v6, v7, w0 ++ [[v]], w1 ++ [[q]], w2, w3, w4, w5, w6, w7⟩) ?_ Ca (outs0 rfl) ⟨⟨_, rfl, hs2, ?_, hb.2.2⟩, hkl⟩
    · simp only [bkRes, List.length_append, List.length_cons, List.length_nil]
      exact H
    · rw [List.replicate_succ']
      exact hs3
end Go.Proofs.YthkdggoohpgnnaaGreatDoor
/- Cells of an own row, read and written at any place. -/
namespace Go.Wk
open Go Go.RowKit
theorem row_one {w : World} {e : TypeId} {kk m : Nat} {v : Value} {cells : List Value} {g mm cap : Nat} (h : w.ownsRow 0 e kk v m cells) (hv : v = .slice (some ⟨g, 0, none⟩) mm cap) : ∃ cur : Array Value, w.heap[g]? = some (.cells cur e (0, 0)) ∧ mm = m ∧ m ≤ cap ∧ cap ≤ maxLen ∧ cur.size = cap * kk ∧ cur.toList.take (m * kk) = cells := by
  rcases h.2 with ⟨h2, _⟩ | ⟨g', cap', cur, h2, _, hh, hnc, hmx, hsz, htk⟩
  · rw [hv] at h2; cases h2
  · rw [hv] at h2
    simp only [Value.slice.injEq, Option.some.injEq, Addr.mk.injEq, and_true] at h2
    obtain ⟨rfl, rfl, rfl⟩ := h2
    exact ⟨cur, hh, rfl, hnc, hmx, hsz, htk⟩
section
variable {P : Program} {ops : Array Oper} {Q : Exit → Act → World → Prop} {n : Nat} {f : Nat → Value} {rest : List Oper} {ty : TypeId} {ps : String} {af : Array Edge} {d : Tmp}
variable {c0 c : Cx} {L : List Res} {A : Cx → Prop}
theorem s_stCells {T' e : TypeId} {kk m k' g mm cap o : Nat} {x y : Operand} {v : Value} {cells us : List Value} [Agg P T' k'] (hx : opd f x = .pointer (some ⟨g, o, none⟩)) (hy : opd f y = .agg us.toArray) (hv : v = .slice (some ⟨g, 0, none⟩) mm cap) (hus : us.length = k') (ho : o + us.length ≤ m * kk) (h1 : ∀ u ∈ us, u.oneCell' = true)
    (H : Owns c0 (.row v e kk m cells :: L) c) (HA : Hd A c) (hMA : Mono A) (k : ∀ c', Owns c0 (.row v e kk m (cells.take o ++ us ++ cells.drop (o + us.length)) :: L) c' → Hd A c' → W P ops Q rest n f c'.w) : W P ops Q (⟨none, .store T' x y, ty, ps, af, none⟩ :: rest) n f c.w := by
  have hres := H.res _ (List.mem_cons_self ..)
  obtain ⟨cur, hh, rfl, hnc, hmx, hsz, htk⟩ := row_one hres.1 hv
  have hmul : mm * kk ≤ cap * kk := Nat.mul_le_mul_right _ hnc
  obtain ⟨w', hrun, hw, e1, e2, e3, e4, e5, e6⟩ := stores_row (P := P) g e us o 0 cur.toList c.w (by simpa using hh) (by simp; omega) h1
  rw [Nat.add_zero] at hw
  have hl : (cells.take o ++ us ++ cells.drop (o + us.length)).length = mm * kk := by
    rw [← htk]; simp; omega
  have hrow : w'.ownsRow 0 e kk v mm (cells.take o ++ us ++ cells.drop (o + us.length)) := by
    refine ⟨hl, .inr ⟨g, cap, _, hv, Nat.zero_le _, hw, hnc, hmx, by simp; omega, ?_⟩⟩
    rw [← htk]
    apply List.ext_getElem?
    intro j
    simp only [List.toList_toArray, List.getElem?_take, List.getElem?_append, List.getElem?_drop, List.length_take, List.length_append]
    simp only [Array.length_toList]
    repeat' split
    all_goals first | rfl | omega | (congr 1; omega) | skip
  have h2 := H.turn (r' := .row v e kk mm (cells.take o ++ us ++ cells.drop (o + us.length))) (w' := w') e1 e2 e3 (by omega) (by omega) (fun q hq hne => e6 q (fun e' => hne (by subst e'; simp [Res.blk, hv, Value.ownBlock]))) hrow (fun q hq => .inl hq)
  refine st_skip (w' := w') ?_ (k ⟨w', _⟩ h2.2 (HA.to h2.1))
  simp [execOp, Instr.storeAt, Instr.sureAddr, storeVar, hx, hy, Agg.sz (P := P) (T := T'), Value.cells, hus, hrun]
theorem s_ldCell {T e : TypeId} {kk m g mm cap o : Nat} {x : Operand} {v u : Value} {cells : List Value} (hn : Nat.blt d n = true) [Prim P T] (hx : opd f x = .pointer (some ⟨g, o, none⟩)) (hv : v = .slice (some ⟨g, 0, none⟩) mm cap) (H : Owns c0 L c) (hm : Res.row v e kk m cells ∈ L) (hu : cells[o]? = some u)
    (k : W P ops Q rest n (upd f d u) c.w) : W P ops Q (⟨some d, .load T x, ty, ps, af, none⟩ :: rest) n f c.w := by
  subst hv
  have hcell := World.ownsRow.cells (H.res _ hm).1 (g := g) rfl o u hu
  rw [Addr.add_lit, Nat.zero_add] at hcell
  have hr := run_load1 (P := P) (T := T) hcell
  exact st_val hn (by simp [execOp, Instr.loadAt, Instr.sureAddr, hx, hr]) k
end
end Go.Wk
/- What a list of atoms becomes when a book keeps it. Plain data. -/
namespace Go.Wk
open Go
def mkA (n : Nat) : Tm := ⟨905, n, ES⟩
/-- Each atom bears the mark, and its arguments those of their own lists. -/
def mkAt (m : Tm) : Nat → List At0 → List At0
  | _, [] => []
  | t, a :: l => ⟨m, a.name, List.replicate a.args.length (mkT t)⟩ :: mkAt m (t + 1) l
def tlOf : Nat → List At0 → List (List Tm)
  | _, [] => []
  | t, a :: l => List.replicate a.args.length (mkT t) :: tlOf (t + 1) l
def tmOf : Nat → List At0 → List (List Tm)
  | _, [] => []
  | t, a :: l => List.replicate (a.args.length + 1) (mkT t) :: tmOf (t + 1) l
theorem mkAt_len (m : Tm) : ∀ (t : Nat) (l : List At0), (mkAt m t l).length = l.length
  | _, [] => rfl
  | t, a :: l => by simp [mkAt, mkAt_len m (t + 1) l]
theorem tlOf_len : ∀ (t : Nat) (l : List At0), (tlOf t l).length = l.length
  | _, [] => rfl
  | t, a :: l => by simp [tlOf, tlOf_len (t + 1) l]
theorem tmOf_len : ∀ (t : Nat) (l : List At0), (tmOf t l).length = l.length
  | _, [] => rfl
  | t, a :: l => by simp [tmOf, tmOf_len (t + 1) l]
theorem mkAt_app (m : Tm) : ∀ (t : Nat) (l l' : List At0), mkAt m t (l ++ l') = mkAt m t l ++ mkAt m (t + l.length) l'
  | _, [], _ => rfl
  | t, a :: l, l' => by
    have := mkAt_app m (t + 1) l l'
    simp only [List.cons_append, mkAt, this, List.length_cons]
    rw [show t + 1 + l.length = t + (l.length + 1) by omega]
theorem tlOf_app : ∀ (t : Nat) (l l' : List At0), tlOf t (l ++ l') = tlOf t l ++ tlOf (t + l.length) l'
  | _, [], _ => rfl
  | t, a :: l, l' => by
    have := tlOf_app (t + 1) l l'
    simp only [List.cons_append, tlOf, this, List.length_cons]
    rw [show t + 1 + l.length = t + (l.length + 1) by omega]
theorem tmOf_app : ∀ (t : Nat) (l l' : List At0), tmOf t (l ++ l') = tmOf t l ++ tmOf (t + l.length) l'
  | _, [], _ => rfl
  | t, a :: l, l' => by
    have := tmOf_app (t + 1) l l'
    simp only [List.cons_append, tmOf, this, List.length_cons]
    rw [show t + 1 + l.length = t + (l.length + 1) by omega]
theorem mkAt_by (m : Tm) : ∀ (t : Nat) (l : List At0), ∀ a ∈ mkAt m t l, a.by_ = m
  | _, [], a, h => by cases h
  | t, b :: l, a, h => by
    rcases List.mem_cons.1 h with rfl | h
    · rfl
    · exact mkAt_by m (t + 1) l a h
theorem tlOf_get : ∀ (t : Nat) (l : List At0) (i : Nat) (x : List Tm), (tlOf t l)[i]? = some x → ∀ y ∈ x, y = mkT (t + i)
  | _, [], i, x, h => by simp [tlOf] at h
  | t, a :: l, 0, x, h => by
    simp only [tlOf, List.getElem?_cons_zero, Option.some.injEq] at h
    subst h
    exact fun y hy => (List.mem_replicate.1 hy).2
  | t, a :: l, i + 1, x, h => by
    have := tlOf_get (t + 1) l i x (by simpa [tlOf] using h)
    rwa [show t + 1 + i = t + (i + 1) by omega] at this
theorem tmOf_get : ∀ (t : Nat) (l : List At0) (i : Nat) (x : List Tm), (tmOf t l)[i]? = some x → ∀ y ∈ x, y = mkT (t + i)
  | _, [], i, x, h => by simp [tmOf] at h
  | t, a :: l, 0, x, h => by
    simp only [tmOf, List.getElem?_cons_zero, Option.some.injEq] at h
    subst h
    exact fun y hy => (List.mem_replicate.1 hy).2
  | t, a :: l, i + 1, x, h => by
    have := tmOf_get (t + 1) l i x (by simpa [tmOf] using h)
    rwa [show t + 1 + i = t + (i + 1) by omega] at this
/-- The mark written into the cells of one atom. -/
theorem atCells_mark {m : Tm} {y : At0} : ∀ {xs : List At0} {ws : List Value} {i : Nat} {x : At0} {w : Value}, xs[i]? = some x → ws[i]? = some w → y.by_ = m → y.name = x.name →
    (atCells xs ws).flatten.take (i * 5) ++ m.cs ++ (atCells xs ws).flatten.drop (i * 5 + m.cs.length) = (atCells (xs.set i y) ws).flatten
  | [], _, _, _, _, h, _, _, _ => by simp at h
  | _ :: _, [], _, _, _, _, h, _, _ => by simp at h
  | a :: xs, u :: ws, 0, x, w, hx, hw, hy, hn => by
    simp only [List.getElem?_cons_zero, Option.some.injEq] at hx hw
    subst hx hw hy
    show _ = At0.cs y u ++ (atCells xs ws).flatten
    show [] ++ y.by_.cs ++ (At0.cs a u ++ (atCells xs ws).flatten).drop (0 * 5 + 3) = _
    rw [show At0.cs y u = y.by_.cs ++ [.string y.name, u] from rfl, hn]
    rfl
  | a :: xs, u :: ws, i + 1, x, w, hx, hw, hy, hn => by
    have ih := atCells_mark (m := m) (y := y) (xs := xs) (ws := ws) (i := i) (x := x) (w := w) (by simpa using hx) (by simpa using hw) hy hn
    show (At0.cs a u ++ (atCells xs ws).flatten).take ((i + 1) * 5) ++ m.cs ++ (At0.cs a u ++ (atCells xs ws).flatten).drop ((i + 1) * 5 + m.cs.length) = At0.cs a u ++ (atCells (xs.set i y) ws).flatten
    have hl : (At0.cs a u).length = 5 := rfl
    rw [← ih, List.take_append, List.drop_append, hl, List.take_of_length_le (l := At0.cs a u) (by rw [hl]; omega), show (At0.cs a u).drop ((i + 1) * 5 + m.cs.length) = [] from List.drop_eq_nil_of_le (by rw [hl]; omega), show (i + 1) * 5 - 5 = i * 5 by omega, show (i + 1) * 5 + m.cs.length - 5 = i * 5 + m.cs.length by omega]
    simp [List.append_assoc]
end Go.Wk
/- A list of atoms, and their arguments, put into the book. -/
namespace Go.Wk
open Go Go.RowKit
/-- Two rows that will not turn, each by itself. -/
def KpG (e : TypeId) (base kk : Nat) (v : Value) (m : Nat) (cells : List Value) (m' : Nat) (cells' : List Value) (v' : Value) (c : Cx) : Prop := FrL base [.row v e kk m cells] c ∧ FrL base [.row v' e kk m' cells'] c
instance (e : TypeId) (base kk : Nat) (v : Value) (m : Nat) (cells : List Value) (m' : Nat) (cells' : List Value) (v' : Value) : Mono (KpG e base kk v m cells m' cells' v') := ⟨fun h k => ⟨Mono.mono h k.1, Mono.mono h k.2⟩⟩
/-- A slice of one list, whose row will not turn. -/
def BsG {α : Type} [Enc α] (e : TypeId) (base kk : Nat) (ys : List α) (m : Nat) (cells : List Value) (u : Value) (c : Cx) : Prop := ∃ q, SlV [ys] [[q]] u c ∧ FrL base [.row q e kk m cells] c
instance {α : Type} [Enc α] (e : TypeId) (base kk : Nat) (ys : List α) (m : Nat) (cells : List Value) (u : Value) : Mono (BsG e base kk ys m cells u) := ⟨fun h ⟨q, k, k2⟩ => ⟨q, Mono.mono h k, Mono.mono h k2⟩⟩
/-- The row of lists with the longer one behind it, beside the two. -/
def BkG (e e2 : TypeId) (base kk : Nat) (c1 : Cx) (v : Value) (m0 : Nat) (cells : List Value) (m1 : Nat) (cells' : List Value) (m : Nat) (cur : List Value) (u : Value) (c : Cx) : Prop := ∃ q, FrL base [.row u e2 1 m (cur ++ [[q]].flatten), .row v e kk m0 cells] c ∧ FrL base [.row u e2 1 m (cur ++ [[q]].flatten), .row q e kk m1 cells'] c ∧ PuB c1 u c
instance (e e2 : TypeId) (base kk : Nat) (c1 : Cx) (v : Value) (m0 : Nat) (cells : List Value) (m1 : Nat) (cells' : List Value) (m : Nat) (cur : List Value) (u : Value) : Mono (BkG e e2 base kk c1 v m0 cells m1 cells' m cur u) := ⟨fun h ⟨q, k, k2, k3⟩ => ⟨q, Mono.mono h k, Mono.mono h k2, Mono.mono h k3⟩⟩
theorem vals_one {α : Type} [Enc α] {u : Value} {l : List α} {c : Cx} (hu : Sl u l c) : Vals [[u]] [l] c := ⟨rfl, fun j cs y h1 h2 => by
  cases j with
  | zero =>
    simp at h1 h2
    subst h1 h2
    exact ⟨u, rfl, hu⟩
  | succ j => simp at h2⟩
theorem vals_single {α : Type} [Enc α] {cs : List Value} {y : α} {c : Cx} (h : Enc.Ok cs y c) : Vals [cs] [y] c := ⟨rfl, fun j cs' y' h1 h2 => by
  cases j with
  | zero =>
    simp at h1 h2
    subst h1 h2
    exact h
  | succ j => simp at h2⟩
theorem FrL.sl {α : Type} [Enc α] {base : Nat} {v : Value} {e : TypeId} {kk : Nat} {vals : List (List Value)} {xs : List α} {c : Cx} (h : FrL base [.row v e kk xs.length vals.flatten] c) (hV : Vals vals xs c) (hk : Enc.k α = kk) (hl : xs.length < LIM) : Sl v xs c :=
  sl_of_row (M := c.M) (h.1 _ (.head _)).1 hV hk (fun b hb => ((h.1 _ (.head _)).2 b hb).1) hl
theorem perm_book {r : Res} {A B L : List Res} : ((r :: (A ++ B)) ++ L).Perm (B ++ (r :: (A ++ L))) := by
  have h1 : (r :: ((A ++ B) ++ L)).Perm (r :: (B ++ (A ++ L))) := by
    rw [← List.append_assoc B A L]
    exact List.Perm.cons _ (List.perm_append_comm.append_right L)
  exact h1.trans List.perm_middle.symm
theorem atCells_arg : ∀ {xs : List At0} {ws : List Value} {i : Nat} {x : At0} {w : Value}, xs[i]? = some x → ws[i]? = some w → (atCells xs ws).flatten[i * 5 + 4]? = some w
  | [], _, _, _, _, h, _ => by simp at h
  | _ :: _, [], _, _, _, _, h => by simp at h
  | a :: xs, u :: ws, 0, x, w, hx, hw => by
    simp only [List.getElem?_cons_zero, Option.some.injEq] at hw
    subst hw
    rfl
  | a :: xs, u :: ws, i + 1, x, w, hx, hw => by
    have ih := atCells_arg (xs := xs) (ws := ws) (i := i) (x := x) (w := w) (by simpa using hx) (by simpa using hw)
    show (At0.cs a u ++ (atCells xs ws).flatten)[(i + 1) * 5 + 4]? = some w
    have hl : (At0.cs a u).length = 5 := rfl
    rw [List.getElem?_append_right (by rw [hl]; omega), hl, ← ih]
    congr 1
    omega
/-- The book behind some atoms' arguments. -/
def SKa (S : Bk) (xs : List At0) : Bk := { S with tl := S.tl ++ tlOf S.tl.length xs, tm := S.tm ++ tmOf S.tl.length xs }
theorem SKa_nil (S : Bk) : SKa S [] = S := by
  cases S
  simp [SKa, tlOf, tmOf]
theorem SKa_snoc (S : Bk) (xs : List At0) (a : At0) : { SKa S xs with tl := (SKa S xs).tl ++ [List.replicate a.args.length (mkT (SKa S xs).tl.length)], tm := (SKa S xs).tm ++ [List.replicate (a.args.length + 1) (mkT (SKa S xs).tl.length)] } = SKa S (xs ++ [a]) := by
  simp only [SKa, tlOf_app, tmOf_app, List.length_append, tlOf_len, tlOf, tmOf, List.append_assoc]
theorem SKa_len (S : Bk) (xs : List At0) : (SKa S xs).tl.length = S.tl.length + xs.length ∧ (SKa S xs).tm.length = S.tm.length + xs.length := by
  simp [SKa, tlOf_len, tmOf_len]
theorem perm_pull {α : Type} : ∀ {l : List α} {i : Nat} {r : α}, l[i]? = some r → l.Perm (r :: l.eraseIdx i)
  | [], _, _, h => by simp at h
  | a :: l, 0, r, h => by
    simp only [List.getElem?_cons_zero, Option.some.injEq] at h
    subst h
    exact .refl _
  | a :: l, i + 1, r, h => (List.Perm.cons a (perm_pull (l := l) (i := i) (by simpa using h))).trans (List.Perm.swap ..)
theorem Owns.pull {c0 c : Cx} {L : List Res} (i : Nat) {r : Res} (H : Owns c0 L c) (h : L[i]? = some r) : Owns c0 (r :: L.eraseIdx i) c := H.perm (perm_pull h)
theorem mk_set {m : Tm} {t : Nat} {xs : List At0} {k : Nat} {a : At0} (ha : xs[k]? = some a) : (mkAt m t (xs.take k) ++ xs.drop k).set k ⟨m, a.name, List.replicate a.args.length (mkT (t + k))⟩ = mkAt m t (xs.take (k + 1)) ++ xs.drop (k + 1) := by
  have hk := (List.getElem?_eq_some_iff.1 ha).1
  have hlt : (xs.take k).length = k := by rw [List.length_take]; omega
  rw [List.set_append_right _ _ (by rw [mkAt_len, hlt]; exact Nat.le_refl _), mkAt_len, hlt, Nat.sub_self, drop_get ha, List.take_add_one, ha, mkAt_app, hlt, List.append_assoc]
  rfl
theorem mk_get {m : Tm} {t : Nat} {xs : List At0} {k : Nat} {a : At0} (ha : xs[k]? = some a) : (mkAt m t (xs.take k) ++ xs.drop k)[k]? = some a := by
  have hk := (List.getElem?_eq_some_iff.1 ha).1
  have hlt : (xs.take k).length = k := by rw [List.length_take]; omega
  rw [List.getElem?_append_right (by rw [mkAt_len, hlt]; exact Nat.le_refl _), mkAt_len, hlt, Nat.sub_self, List.getElem?_drop]
  simpa using ha
theorem mk_vals {m : Tm} {t : Nat} {xs : List At0} {ws : List Value} {k : Nat} {a : At0} {w : Value} {c : Cx} (ha : xs[k]? = some a) (hw : ws[k]? = some w) (h : Vals (atCells (mkAt m t (xs.take k)) (ws.take k)) (mkAt m t (xs.take k)) c) (hs : Sl w (List.replicate a.args.length (mkT (t + k))) c) :
    Vals (atCells (mkAt m t (xs.take (k + 1))) (ws.take (k + 1))) (mkAt m t (xs.take (k + 1))) c := by
  have hk := (List.getElem?_eq_some_iff.1 ha).1
  have hk2 := (List.getElem?_eq_some_iff.1 hw).1
  have hlt : (xs.take k).length = k := by rw [List.length_take]; omega
  have e1 : mkAt m t (xs.take (k + 1)) = mkAt m t (xs.take k) ++ [⟨m, a.name, List.replicate a.args.length (mkT (t + k))⟩] := by
    rw [List.take_add_one, ha, mkAt_app, hlt]
    rfl
  have e2 : ws.take (k + 1) = ws.take k ++ [w] := by
    rw [List.take_add_one, hw]
    rfl
  rw [e1, e2, atCells_snoc (by rw [mkAt_len, hlt, List.length_take]; omega)]
  refine h.append ⟨rfl, fun j cs y h1 h2 => ?_⟩
  cases j with
  | zero =>
    simp at h1 h2
    subst h1 h2
    exact ⟨w, rfl, hs⟩
  | succ j => simp at h2
end Go.Wk
namespace Go.Proofs.YthkdggoohpgnnaaGreatDoor
open Go Go.Wk
theorem Book_KeepAtoms (b : Nat) (S : Bk) (V : BkV) (xs : List At0) (ws : List Value) (v : Value) (c : Cx) (hS : BkOk S V c) (hw : ws.length = xs.length) (hl1 : S.tl.length + xs.length + 1 < 1099511627776) (hl2 : S.tm.length + xs.length + 1 < 1099511627776) (hl3 : S.al.length + 1 < 1099511627776) (hl4 : S.am.length + 1 < 1099511627776) (hla : ∀ a ∈ xs, a.args.length + 1 < 1099511627776) :
    CnTX Tryz.prog 85 [.pointer (some ⟨b, 0, none⟩), v] (.row v 26 5 xs.length (atCells xs ws).flatten :: (argRows 23 xs ws ++ bkRes 64 24 27 28 37 b S V)) c
      (fun _ R c => BkP 64 24 27 28 37 b { SKa S xs with al := S.al ++ [mkAt (mkA S.al.length) S.tl.length xs], am := S.am ++ [mkAt (mkA S.al.length) S.tl.length xs ++ [⟨mkA S.al.length, ES, []⟩]] } R c ∧ Sl v (mkAt (mkA S.al.length) S.tl.length xs) c) := by
  refine CnTX.of Tryz.func85 Tryz.ntmps85 rfl rfl fun c0 L0 A0 _ H HA => ?_
  have HA := HA.add hS
  obtain ⟨v0, v1, v2, v3, v4, v5, v6, v7, w0, w1, w2, w3, w4, w5, w6, w7⟩ := V
  have H := H.perm perm_book
  have H : Owns c0 (.obj b (.cells [v0, v1, v2, v3, v4, v5, v6, v7, .slice none 0 0, .slice none 0 0].toArray 64 (0, 0)) :: .row v0 24 1 (S).tl.length w0.flatten :: .row v1 24 1 (S).tm.length w1.flatten :: .row v2 27 1 (S).al.length w2.flatten :: .row v3 27 1 (S).am.length w3.flatten :: .row v4 28 1 (S).sl.length w4.flatten :: .row v5 28 1 (S).sm.length w5.flatten :: .row v6 37 1 (S).cl.length w6.flatten :: .row v7 37 1 (S).cm.length w7.flatten :: .row v 26 5 xs.length (atCells xs ws).flatten :: (argRows 23 xs ws ++ L0)) c := H
  apply wc_seq
  (apply wc_region; refine Z0 ?_; (refine s_nilCheck rfl rfl ?_); refine Z3 ?_; refine Z41 ?_; refine Z62 ?_; refine Z54 ?_; refine Z61 fun bx c H HA => ?_; refine Z74 fun c H HA => ?_; apply w_nil; apply wx_next)
  (obtain ⟨b4, rfl⟩ : ∃ x, x = bx := ⟨_, rfl⟩)
  (refine wc_freeze H HA ?_; intro c H HA)
  (apply wc_seq; apply wc_seq; apply wc_region; refine Z2 ?_; apply w_nil; apply wx_next; apply wc_block)
  have H : Owns c0 (bkRes 64 24 27 28 37 b (SKa S (xs.take 0)) ⟨v0, v1, v2, v3, v4, v5, v6, v7, w0, w1, w2, w3, w4, w5, w6, w7⟩ ++ (.row v 26 5 xs.length (atCells (mkAt (mkA S.al.length) S.tl.length (xs.take 0) ++ xs.drop 0) ws).flatten :: (argRows 23 (xs.drop 0) (ws.drop 0) ++ L0))) c := by
    rw [List.take_zero, SKa_nil]
    exact H
  have hok0 : BkOk (SKa S (xs.take 0)) ⟨v0, v1, v2, v3, v4, v5, v6, v7, w0, w1, w2, w3, w4, w5, w6, w7⟩ c := by
    rw [List.take_zero, SKa_nil]
    exact Lk
  refine wc_loopG (σ := Nat × BkV) (fun y => xs.length - y.1) (fun y => [(0, .pointer (some ⟨b, 0, none⟩)), (1, v), (4, .pointer (some ⟨b4, 0, none⟩)), (5, .int .i64 y.1)]) (fun y => y.1 ≤ xs.length)
    (fun y => bkRes 64 24 27 28 37 b (SKa S (xs.take y.1)) y.2 ++ (.row v 26 5 xs.length (atCells (mkAt (mkA S.al.length) S.tl.length (xs.take y.1) ++ xs.drop y.1) ws).flatten :: (argRows 23 (xs.drop y.1) (ws.drop y.1) ++ L0))) (fun y c => BkOk (SKa S (xs.take y.1)) y.2 c ∧ Vals (atCells (mkAt (mkA S.al.length) S.tl.length (xs.take y.1)) (ws.take y.1)) (mkAt (mkA S.al.length) S.tl.length (xs.take y.1)) c) (0, _) H HA ⟨hok0, Vals.nil _⟩ Ks (Nat.zero_le _) ?_
  intro y g c hk H HA
  obtain ⟨k, ⟨v0, v1, v2, v3, v4, v5, v6, v7, w0, w1, w2, w3, w4, w5, w6, w7⟩⟩ := y
  dsimp only at hk H HA ⊢
  have HA := (HA.cut.add HA.h.1.1).add HA.h.1.2
  have hlk := SKa_len S (xs.take k)
  rw [List.length_take, Nat.min_eq_left hk] at hlk
  have H : Owns c0 (.obj b (.cells [v0, v1, v2, v3, v4, v5, v6, v7, .slice none 0 0, .slice none 0 0].toArray 64 (0, 0)) :: .row v0 24 1 (SKa S (xs.take k)).tl.length w0.flatten :: .row v1 24 1 (SKa S (xs.take k)).tm.length w1.flatten :: .row v2 27 1 (SKa S (xs.take k)).al.length w2.flatten :: .row v3 27 1 (SKa S (xs.take k)).am.length w3.flatten :: .row v4 28 1 (SKa S (xs.take k)).sl.length w4.flatten :: .row v5 28 1 (SKa S (xs.take k)).sm.length w5.flatten :: .row v6 37 1 (SKa S (xs.take k)).cl.length w6.flatten :: .row v7 37 1 (SKa S (xs.take k)).cm.length w7.flatten :: .row v 26 5 xs.length (atCells (mkAt (mkA S.al.length) S.tl.length (xs.take k) ++ xs.drop k) ws).flatten :: (argRows 23 (xs.drop k) (ws.drop k) ++ L0)) c := H
  (focus (apply wc_seq; apply wc_seq; apply wc_region; refine Z0 ?_; refine Z0 ?_; refine Z62 ?_; refine Z93 (fun hq => ?_) fun hq => ?_; apply w_nil; apply wx_next; refine Z18 ?_; apply wc_skip; apply wx_next; apply wc_seq; apply wc_block; apply wc_seq; apply wc_region; refine Z0 ?_; refine Z0 ?_; refine Z0 ?_; refine Z63 fun rp hrp => ?_; rotate_left; apply w_nil; apply wx_next; refine Z19 ?_; apply wc_exit; apply wx_exit_then; apply wx_exit_then; apply wx_exit_same; apply wx_next; apply wc_seq; apply wc_region; refine Z0 ?_; refine Z0 ?_; (refine s_nilCheck rfl rfl ?_); refine Z3 ?_; refine Z41 ?_; refine Z0 ?_; rotate_left))
  · obtain ⟨a, ha⟩ := getq (xs := xs) (k := k) (by omega)
    obtain ⟨w, hwk⟩ := getq (xs := ws) (k := k) (by omega)
    have hxk := mk_get (m := mkA S.al.length) (t := S.tl.length) ha
    have htk : xs.take k ++ [a] = xs.take (k + 1) := by
      rw [List.take_add_one, ha]
      rfl
    obtain ⟨gb, mm, cap, hvs, rfl⟩ := hrp
    (refine Z3 ?_)
    refine s_ldCell (e := 26) (kk := 5) (m := xs.length) (o := k * 5 + 4) rfl rfl hvs H Ow (atCells_arg hxk hwk) ?_
    have e3 : argRows 23 (xs.drop k) (ws.drop k) = argRow 23 a w :: argRows 23 (xs.drop (k + 1)) (ws.drop (k + 1)) := by
      rw [drop_get ha, drop_get hwk]
      rfl
    rw [e3] at H
    have H := H.pull 10 (r := argRow 23 a w) rfl
    have H : Owns c0 ((argRow 23 a w :: bkRes 64 24 27 28 37 b (SKa S (xs.take k)) ⟨v0, v1, v2, v3, v4, v5, v6, v7, w0, w1, w2, w3, w4, w5, w6, w7⟩) ++ (.row v 26 5 xs.length (atCells (mkAt (mkA S.al.length) S.tl.length (xs.take k) ++ xs.drop k) ws).flatten :: (argRows 23 (xs.drop (k + 1)) (ws.drop (k + 1)) ++ L0))) c := H
    refine s_callX (pre := argRow 23 a w :: bkRes 64 24 27 28 37 b (SKa S (xs.take k)) ⟨v0, v1, v2, v3, v4, v5, v6, v7, w0, w1, w2, w3, w4, w5, w6, w7⟩) rfl rfl H HA (Book_KeepTerms b (SKa S (xs.take k)) ⟨v0, v1, v2, v3, v4, v5, v6, v7, w0, w1, w2, w3, w4, w5, w6, w7⟩ a.args w (a.args.map Tm.cs) _ Lk (vals_map (P := Tryz.prog) (e := 23) _ _) (by omega) (by omega) (by have := hla a (List.mem_of_getElem? ha); omega)) ?_
    intro vx R c H HA
    obtain ⟨⟨V', hR, hok⟩, hsw⟩ := HA.h.1
    subst hR
    rw [SKa_snoc, htk] at H hok
    rw [hlk.1] at hsw
    have HA := (HA.cut.add hsw).add hok
    have H := H.perm List.perm_middle
    (apply w_nil; apply wx_next; apply wc_region; refine Z0 ?_; refine Z0 ?_; refine Z7 ?_; refine Z63 fun rp hrp => ?_)
    obtain ⟨gb2, mm2, cap2, hvs2, rfl⟩ := hrp
    (refine Z3 ?_)
    refine s_stCells (e := 26) (kk := 5) (m := xs.length) (o := k * 5) (us := (mkA S.al.length).cs) rfl rfl hvs2 rfl (by simp only [List.length_cons, List.length_nil]; omega) (by simp [Value.oneCell']) H HA inferInstance ?_
    intro c H HA
    rw [atCells_mark hxk hwk (y := ⟨mkA S.al.length, a.name, List.replicate a.args.length (mkT (S.tl.length + k))⟩) rfl rfl, mk_set ha] at H
    have hvl := mk_vals ha hwk Lk (Lk : Sl w (List.replicate a.args.length (mkT (S.tl.length + k))) c)
    have HA := HA.add hvl
    (apply w_nil; apply wx_norm_block; apply wx_next; apply wc_region; refine Z0 ?_; refine Z46 ?_; refine Z2 ?_; apply w_nil)
    exact wx_loopG ((k + 1, V')) (H.perm List.perm_middle.symm) Cu ⟨Lk, Lk⟩ Ks (by dsimp only; omega) (by dsimp only; omega)
  · have hkx : k = xs.length := by omega
    subst hkx
    have hwt : ws.take xs.length = ws := List.take_of_length_le (by omega)
    rw [hwt, List.take_length] at HA
    rw [List.take_length, List.drop_length, List.append_nil] at H
    rw [List.take_length] at hlk
    clear hok0
    obtain ⟨X, hX⟩ : ∃ X, X = mkAt (mkA S.al.length) S.tl.length xs := ⟨_, rfl⟩
    rw [← hX] at H HA ⊢
    have hXl : X.length = xs.length := by rw [hX, mkAt_len]
    have H := H.pull 9 (r := .row v 26 5 xs.length (atCells X ws).flatten) rfl
    have H : Owns c0 (.row v 26 5 X.length (atCells X ws).flatten :: .obj b (.cells [v0, v1, v2, v3, v4, v5, v6, v7, .slice none 0 0, .slice none 0 0].toArray 64 (0, 0)) :: .row v0 24 1 (SKa S xs).tl.length w0.flatten :: .row v1 24 1 (SKa S xs).tm.length w1.flatten :: .row v2 27 1 (SKa S xs).al.length w2.flatten :: .row v3 27 1 (SKa S xs).am.length w3.flatten :: .row v4 28 1 (SKa S xs).sl.length w4.flatten :: .row v5 28 1 (SKa S xs).sm.length w5.flatten :: .row v6 37 1 (SKa S xs).cl.length w6.flatten :: .row v7 37 1 (SKa S xs).cm.length w7.flatten :: L0) c := by
      rw [hXl]
      exact H
    have hc1 : v.cells = #[v] := H.rowCells (List.Mem.head _)
    have ho1 : v.oneCell' = true := H.rowOne (List.Mem.head _)
    (refine s_bs1V (α := Raw) (cs := [v]) (u := ⟨v, ho1⟩) rfl hc1 rfl rfl rfl rfl H HA inferInstance ?_; intro vb c H HA)
    have H := H.pull 4 (r := .row v2 27 1 (S).al.length w2.flatten) rfl
    (refine s_appV rfl rfl rfl (Lk : SlV [(⟨v, ho1⟩ : Raw)] [[v]] vb _) rfl rfl rfl Lt H HA inferInstance ?_; intro n0 c H HA)
    have H : Owns c0 (.row n0 27 1 (S.al.length + 1) (w2.flatten ++ [[v]].flatten) :: .row v 26 5 X.length (atCells X ws).flatten :: .obj b (.cells [v0, v1, v2, v3, v4, v5, v6, v7, .slice none 0 0, .slice none 0 0].toArray 64 (0, 0)) :: .row v0 24 1 (SKa S xs).tl.length w0.flatten :: .row v1 24 1 (SKa S xs).tm.length w1.flatten :: .row v3 27 1 (SKa S xs).am.length w3.flatten :: .row v4 28 1 (SKa S xs).sl.length w4.flatten :: .row v5 28 1 (SKa S xs).sm.length w5.flatten :: .row v6 37 1 (SKa S xs).cl.length w6.flatten :: .row v7 37 1 (SKa S xs).cm.length w7.flatten :: L0) c := H
    ((refine s_nilCheck rfl rfl ?_); refine Z3 ?_; refine Z79 fun c H HA => ?_; apply w_nil; apply wx_next)
    have H := H.pull 2 (r := .row v 26 5 X.length (atCells X ws).flatten) rfl
    have H := H.pull 5 (r := .row v3 27 1 (S).am.length w3.flatten) rfl
    have H := H.swap
    have H : Owns c0 (.row v 26 5 X.length (atCells X ws).flatten :: .row v3 27 1 (S).am.length w3.flatten :: (_ :: _ :: .row v0 24 1 (SKa S xs).tl.length w0.flatten :: .row v1 24 1 (SKa S xs).tm.length w1.flatten :: .row v4 28 1 (SKa S xs).sl.length w4.flatten :: .row v5 28 1 (SKa S xs).sm.length w5.flatten :: .row v6 37 1 (SKa S xs).cl.length w6.flatten :: .row v7 37 1 (SKa S xs).cm.length w7.flatten :: L0)) c := H
    have hs1 : ∀ g, v3.ownBlock = some g → c.M g := fun g hg => ((H.res _ (.tail _ (.head _))).2 g hg).1
    obtain ⟨cS, hcS⟩ : ∃ q, q = c := ⟨_, rfl⟩
    subst hcS
    have HA := HA.add (show Since cS cS from Le.refl cS)
    have HS1 := HA
    have H : Owns c0 ([.row v 26 5 X.length (atCells X ws).flatten, .row v3 27 1 (S).am.length w3.flatten] ++ _) cS := H
    refine dw_startE (I := [.row v 26 5 X.length (atCells X ws).flatten, .row v3 27 1 (S).am.length w3.flatten]) H HA ?_
    (refine Dc ?_)
    (refine Dc ?_)
    (apply dw_cons; (focus ((intro B _ Lx c H HA; (repeat (first | (intro vx hx; have hx2 : vx = _ := hx; clear hx; subst hx2) | (intro vx hx; have HA := HA.addSF hx; clear hx) | (intro vx hx; have HA := HA.add hx; clear hx) | intro vx)); change W _ _ _ _ _ _ _); (refine s_nilCheck rfl rfl ?_); exact Dx)); exact inferInstance)
    (refine Dc ?_)
    (refine Dc ?_)
    (refine Dc ?_)
    (refine Dc ?_)
    (refine Dc ?_)
    refine dw_cons (s := .rel fun u c => SlV [(⟨mkA S.al.length, ES, []⟩ : At0)] [(At0.cs ⟨mkA S.al.length, ES, []⟩ (.slice none 0 0))] u c) ?_ inferInstance ?_
    · (intro B _ Lx c H HA; (repeat (first | (intro vx hx; have hx2 : vx = _ := hx; clear hx; subst hx2) | (intro vx hx; have HA := HA.addSF hx; clear hx) | (intro vx hx; have HA := HA.add hx; clear hx) | intro vx)); change W _ _ _ _ _ _ _)
      refine s_bs1V (α := At0) (cs := (At0.cs ⟨mkA S.al.length, ES, []⟩ (.slice none 0 0))) (u := (⟨mkA S.al.length, ES, []⟩ : At0)) rfl rfl (show Enc.Ok (At0.cs ⟨mkA S.al.length, ES, []⟩ (.slice none 0 0)) (⟨mkA S.al.length, ES, []⟩ : At0) _ from ⟨_, rfl, Sl.nil _⟩) rfl rfl rfl H HA inferInstance ?_
      intro vx c H HA
      exact w_nil (pq_rel H Cu HA.h.1)
    refine dw_consE (pv := none) (r := .row v 26 5 X.length (atCells X ws).flatten) (sel := fun _ => .slice none 0 0) (S := KpG 26 c0.w.heap.size 5 v X.length (atCells X ws).flatten (X.length + [(⟨mkA S.al.length, ES, []⟩ : At0)].length) ((atCells X ws).flatten ++ [(At0.cs ⟨mkA S.al.length, ES, []⟩ (.slice none 0 0))].flatten)) (e := 26) (kk := 5) (m := 0) (xs := []) ?_ (fun _ => inferInstance) ?_
    · (intro B _ Lx c HA; (repeat (first | (intro vx hx; have hx2 : vx = _ := hx; clear hx; subst hx2) | (intro vx hx; have HA := HA.addSF hx; clear hx) | (intro vx hx; skip; have HA := HA.add hx; clear hx) | (intro vx; have hvx2 : Go.Value := vx; clear hvx2))); (first | intro H | (have H := HA.h.1; have HA := HA.cut)); change W _ _ _ _ _ _ _)
      have H : Owns c0 (.row v 26 5 X.length (atCells X ws).flatten :: (Lx ++ _)) c := H
      refine s_appKF rfl rfl rfl (Lk : Vals (atCells X ws) X c) (Lk : SlV [(⟨mkA S.al.length, ES, []⟩ : At0)] [(At0.cs ⟨mkA S.al.length, ES, []⟩ (.slice none 0 0))] _ _) (by simp) rfl rfl rfl (by simp only [List.length_cons, List.length_nil, LIM]; omega) H HA inferInstance ?_
      intro vx c H HA
      exact w_nil (pq_eff (H.nilRow _ _) Cu ⟨HA.h.1, HA.h.2.1⟩)
    refine dw_cons (s := .rel (BsG (α := At0) 26 c0.w.heap.size 5 (X ++ [(⟨mkA S.al.length, ES, []⟩ : At0)]) (X.length + [(⟨mkA S.al.length, ES, []⟩ : At0)].length) ((atCells X ws).flatten ++ [(At0.cs ⟨mkA S.al.length, ES, []⟩ (.slice none 0 0))].flatten))) ?_ inferInstance ?_
    · (intro B _ Lx c H HA; (repeat (first | (intro vx hx; have hx2 : vx = _ := hx; clear hx; subst hx2) | (intro vx hx; have HA := HA.addSF hx; clear hx) | (intro vx hx; have HA := HA.add hx; clear hx) | intro vx)); change W _ _ _ _ _ _ _)
      have hkp := (Lk : KpG 26 c0.w.heap.size 5 v X.length (atCells X ws).flatten (X.length + [(⟨mkA S.al.length, ES, []⟩ : At0)].length) ((atCells X ws).flatten ++ [(At0.cs ⟨mkA S.al.length, ES, []⟩ (.slice none 0 0))].flatten) _ c)
      have hsq : Sl _ (X ++ [(⟨mkA S.al.length, ES, []⟩ : At0)]) c := FrL.sl (vals := (atCells X ws) ++ [(At0.cs ⟨mkA S.al.length, ES, []⟩ (.slice none 0 0))]) (by rw [List.length_append, List.flatten_append]; exact hkp.2) ((Lk : Vals (atCells X ws) X c).append (vals_single (show Enc.Ok (At0.cs ⟨mkA S.al.length, ES, []⟩ (.slice none 0 0)) (⟨mkA S.al.length, ES, []⟩ : At0) c from ⟨_, rfl, Sl.nil _⟩))) rfl (by simp only [List.length_append, List.length_cons, List.length_nil, LIM]; omega)
      have HA := HA.add hkp.2
      refine s_bs1V (α := List At0) (u := X ++ [(⟨mkA S.al.length, ES, []⟩ : At0)]) rfl (Cells.sl hsq) (show Enc.Ok [_] (X ++ [(⟨mkA S.al.length, ES, []⟩ : At0)]) _ from ⟨_, rfl, hsq⟩) rfl rfl rfl H HA inferInstance ?_
      intro vx c H HA
      exact w_nil (pq_rel H Cu ⟨_, HA.h.1, HA.h.2.1⟩)
    refine dw_consE (pv := none) (r := .row v3 27 1 (S).am.length w3.flatten) (sel := fun _ => .slice none 0 0) (S := BkG 26 27 c0.w.heap.size 5 cS v X.length (atCells X ws).flatten (X.length + [(⟨mkA S.al.length, ES, []⟩ : At0)].length) ((atCells X ws).flatten ++ [(At0.cs ⟨mkA S.al.length, ES, []⟩ (.slice none 0 0))].flatten) ((S).am.length + 1) w3.flatten) (e := 27) (kk := 1) (m := 0) (xs := []) ?_ (fun _ => inferInstance) ?_
    · (intro B _ Lx c HA; (repeat (first | (intro vx hx; have hx2 : vx = _ := hx; clear hx; subst hx2) | (intro vx hx; have HA := HA.addSF hx; clear hx) | (intro vx hx; skip; have HA := HA.add hx; clear hx) | (intro vx; have hvx2 : Go.Value := vx; clear hvx2))); (first | intro H | (have H := HA.h.1; have HA := HA.cut)); change W _ _ _ _ _ _ _)
      have H : Owns c0 (.row v3 27 1 (S).am.length w3.flatten :: (Lx ++ _)) c := H
      have hkp := (Lk : KpG 26 c0.w.heap.size 5 v X.length (atCells X ws).flatten (X.length + [(⟨mkA S.al.length, ES, []⟩ : At0)].length) ((atCells X ws).flatten ++ [(At0.cs ⟨mkA S.al.length, ES, []⟩ (.slice none 0 0))].flatten) _ c)
      obtain ⟨q, hq1, hq2⟩ := (Lk : BsG (α := At0) 26 c0.w.heap.size 5 (X ++ [(⟨mkA S.al.length, ES, []⟩ : At0)]) (X.length + [(⟨mkA S.al.length, ES, []⟩ : At0)].length) ((atCells X ws).flatten ++ [(At0.cs ⟨mkA S.al.length, ES, []⟩ (.slice none 0 0))].flatten) _ c)
      refine s_appVF (ys := [X ++ [(⟨mkA S.al.length, ES, []⟩ : At0)]]) (vals := [[q]]) (c1 := cS) rfl rfl rfl hq1 rfl rfl rfl Lt hkp.1 hq2 Lk hs1 H HA inferInstance ?_
      intro vx c H HA
      exact w_nil (pq_eff (H.nilRow _ _) Cu ⟨q, HA.h.1, HA.h.2.1, HA.h.2.2.1⟩)
    refine dw_doneT mixed (I := [.row v 26 5 X.length (atCells X ws).flatten, .row v3 27 1 (S).am.length w3.flatten]) (by kernel_rfl) H HA (by kernel_rfl) ?_
    clear H HA
    intro c HA u48 h48 u49 h49 u50 h50 u51 h51 H
    obtain ⟨q, f1, f2, hp⟩ := h51
    have H := H.drop.drop
    change W _ _ _ _ _ _ _
    refine w_thawG H f1 f2 Lk (Nat.le_refl _) hp HS1 ?_
    clear H HA f1 f2 h48 h49 h50
    intro c H HA
    ((refine s_nilCheck rfl rfl ?_); refine Z3 ?_; refine Z77 fun c H HA => ?_; apply w_nil)
    have hb := (Lk : BkOk (SKa S xs) _ c)
    have hv := (Lk : Vals (atCells X ws) X c)
    have hkl : Sl v X c := FrL.sl HA.h.1 hv rfl (by simp only [LIM]; omega)
    have hkq : Sl q (X ++ [⟨mkA S.al.length, ES, []⟩]) c := FrL.sl (vals := atCells X ws ++ [At0.cs ⟨mkA S.al.length, ES, []⟩ (.slice none 0 0)]) (by rw [List.length_append, List.flatten_append]; exact HA.h.2.1) (hv.append (vals_single (show Enc.Ok (At0.cs ⟨mkA S.al.length, ES, []⟩ (.slice none 0 0)) (⟨mkA S.al.length, ES, []⟩ : At0) c from ⟨_, rfl, Sl.nil _⟩))) rfl (by simp only [List.length_append, List.length_cons, List.length_nil, LIM]; omega)
    have H := ((((H.pull 1 rfl).pull 2 rfl).pull 4 rfl).pull 4 rfl).pull 4 rfl
    rw [show w2.flatten ++ [[v]].flatten = (w2 ++ [[v]]).flatten by simp, show w3.flatten ++ [[q]].flatten = (w3 ++ [[q]]).flatten by simp] at H
    refine norm_fnX (R := bkRes 64 24 27 28 37 b { SKa S xs with al := S.al ++ [X], am := S.am ++ [X ++ [⟨mkA S.al.length, ES, []⟩]] } ⟨v0, v1, n0, u51, v4, v5, v6, v7, w0, w1, w2 ++ [[v]], w3 ++ [[q]], w4, w5, w6, w7⟩) ?_ Ca (outs0 rfl) ⟨⟨_, rfl, hb.1, hb.2.1, hb.2.2.1.append (vals_one hkl), hb.2.2.2.1.append (vals_one hkq), hb.2.2.2.2⟩, hkl⟩
    simp only [bkRes, List.length_append, List.length_cons, List.length_nil]
    exact H
end Go.Proofs.YthkdggoohpgnnaaGreatDoor
/- A clause's lists put into the book. -/
namespace Go.Wk
open Go Go.RowKit
def mkS (n : Nat) : Ts := ⟨906 + n, Tn, Tn⟩
def SKt (S : Bk) (n : Nat) : Bk := { S with tl := S.tl ++ [List.replicate n (mkT S.tl.length)], tm := S.tm ++ [List.replicate (n + 1) (mkT S.tl.length)] }
def SKb (S : Bk) (xs : List At0) : Bk := { SKa S xs with al := S.al ++ [mkAt (mkA S.al.length) S.tl.length xs], am := S.am ++ [mkAt (mkA S.al.length) S.tl.length xs ++ [⟨mkA S.al.length, ES, []⟩]] }
def SKs (S : Bk) (n : Nat) : Bk := { S with sl := S.sl ++ [List.replicate n (mkS S.sl.length)], sm := S.sm ++ [List.replicate (n + 1) (mkS S.sl.length)] }
/-- The book behind a clause. -/
def SKc (S : Bk) (x : Cl) : Bk := SKs (SKb (SKt S x.head.args.length) x.body) x.tests.length
/-- What a clause becomes. -/
def mkCl (S : Bk) (x : Cl) : Cl := ⟨⟨x.head.by_, x.head.name, List.replicate x.head.args.length (mkT S.tl.length)⟩, mkAt (mkA S.al.length) (S.tl.length + 1) x.body, List.replicate x.tests.length (mkS S.sl.length)⟩
theorem perm_cl1 {a b d : Res} {A B L : List Res} : (((a :: b :: (A ++ [d])) ++ B) ++ L).Perm ((d :: B) ++ (a :: b :: (A ++ L))) := by
  have e : ((a :: b :: (A ++ [d])) ++ B) ++ L = a :: b :: (A ++ d :: (B ++ L)) := by simp
  rw [e]
  have h1 : (A ++ d :: (B ++ L)).Perm (d :: (B ++ (A ++ L))) := List.perm_middle.trans (List.Perm.cons _ (List.perm_append_comm_assoc ..))
  have h2 : (a :: b :: (A ++ d :: (B ++ L))).Perm (a :: b :: d :: (B ++ (A ++ L))) := (h1.cons _).cons _
  have h3 : (a :: b :: d :: (B ++ (A ++ L))).Perm (d :: a :: b :: (B ++ (A ++ L))) := ((List.Perm.swap d b _).cons a).trans (List.Perm.swap d a _)
  have h4 : (a :: b :: (B ++ (A ++ L))).Perm (B ++ (a :: b :: (A ++ L))) := (List.perm_middle (l₁ := B) (a := b) (l₂ := A ++ L)).symm.cons a |>.trans List.perm_middle.symm
  exact h2.trans (h3.trans (h4.cons d))
theorem perm_cl2 {a b : Res} {A B L : List Res} : (B ++ (a :: b :: (A ++ L))).Perm ((b :: (A ++ B)) ++ (a :: L)) := by
  have h1 : (B ++ (a :: b :: (A ++ L))).Perm (a :: b :: (B ++ (A ++ L))) := List.perm_middle.trans (List.perm_middle.cons a)
  have h2 : (B ++ (A ++ L)).Perm ((A ++ B) ++ L) := (List.perm_append_comm_assoc ..).trans (by rw [List.append_assoc])
  have h3 : (b :: a :: ((A ++ B) ++ L)).Perm ((b :: (A ++ B)) ++ (a :: L)) := List.perm_middle.symm.cons b
  exact h1.trans ((List.Perm.swap b a _).trans (((h2.cons a).cons b).trans h3))
end Go.Wk
namespace Go.Proofs.YthkdggoohpgnnaaGreatDoor
open Go Go.Wk
theorem Book_KeepClause (b : Nat) (S : Bk) (V : BkV) (x : Cl) (u0 u1 u2 : Value) (ws : List Value) (c : Cx) (hS : BkOk S V c) (hw : ws.length = x.body.length) (hl1 : S.tl.length + x.body.length + 2 < 1099511627776) (hl2 : S.tm.length + x.body.length + 2 < 1099511627776) (hl3 : S.al.length + 1 < 1099511627776) (hl4 : S.am.length + 1 < 1099511627776) (hl5 : S.sl.length + 1 < 1099511627776) (hl6 : S.sm.length + 1 < 1099511627776)
    (hlh : x.head.args.length + 1 < 1099511627776) (hla : ∀ a ∈ x.body, a.args.length + 1 < 1099511627776) (hlt : x.tests.length + 1 < 1099511627776) (hlb : x.body.length + 1 < 1099511627776) :
    CnTX Tryz.prog 38 [.pointer (some ⟨b, 0, none⟩), .agg (Cl.cs x u0 u1 u2).toArray] (clRows 23 26 79 x u0 u1 u2 ws ++ bkRes 64 24 27 28 37 b S V) c
      (fun _ R c => BkP 64 24 27 28 37 b (SKc S x) R c ∧ Sl u0 (mkCl S x).head.args c ∧ Sl u1 (mkCl S x).body c ∧ Sl u2 (mkCl S x).tests c) := by
  refine CnTX.of Tryz.func38 Tryz.ntmps38 rfl rfl fun c0 L0 A0 _ H HA => ?_
  have HA := HA.add hS
  have H := H.perm perm_cl1
  apply wc_seq
  (apply wc_region; refine Z31 fun bx c H HA => ?_; apply w_nil; apply wx_next)
  (obtain ⟨b3, rfl⟩ : ∃ x, x = bx := ⟨_, rfl⟩)
  have H : Owns c0 ((argRow 23 x.head u0 :: bkRes 64 24 27 28 37 b S V) ++ (.row u2 79 7 x.tests.length (x.tests.map Ts.cs).flatten :: .row u1 26 5 x.body.length (atCells x.body ws).flatten :: (argRows 23 x.body ws ++ L0))) _ := H
  (apply wc_seq; apply wc_region; refine Z0 ?_; refine Z3 ?_; refine Z3 ?_; refine Z1 ?_)
  refine s_callX (pre := argRow 23 x.head u0 :: bkRes 64 24 27 28 37 b S V) rfl rfl H HA (Book_KeepTerms b S V x.head.args u0 (x.head.args.map Tm.cs) _ Lk (vals_map (P := Tryz.prog) (e := 23) _ _) (by omega) (by omega) hlh) ?_
  intro vx R c H HA
  obtain ⟨⟨V1, hR, hok⟩, hsw⟩ := HA.h.1
  subst hR
  have HA := (HA.cut.add hsw).add (show BkOk (SKt S x.head.args.length) V1 c from hok)
  have H : Owns c0 (bkRes 64 24 27 28 37 b (SKt S x.head.args.length) V1 ++ (.row u2 79 7 x.tests.length (x.tests.map Ts.cs).flatten :: .row u1 26 5 x.body.length (atCells x.body ws).flatten :: (argRows 23 x.body ws ++ L0))) _ := H
  have H := H.perm perm_cl2
  have hs1 : (SKt S x.head.args.length).tl.length = S.tl.length + 1 ∧ (SKt S x.head.args.length).tm.length = S.tm.length + 1 := by simp [SKt]
  (apply w_nil; apply wx_next; apply wc_seq; apply wc_region; refine Z0 ?_; refine Z3 ?_; refine Z1 ?_)
  refine s_callX (pre := .row u1 26 5 x.body.length (atCells x.body ws).flatten :: (argRows 23 x.body ws ++ bkRes 64 24 27 28 37 b (SKt S x.head.args.length) V1)) rfl rfl H HA (Book_KeepAtoms b (SKt S x.head.args.length) V1 x.body ws u1 _ Lk hw (by omega) (by omega) hl3 hl4 hla) ?_
  intro vx2 R c H HA
  obtain ⟨⟨V2, hR, hok⟩, hsa⟩ := HA.h.1
  subst hR
  rw [hs1.1] at hsa
  have HA := (HA.cut.add (show Sl u1 (mkCl S x).body c from hsa)).add (show BkOk (SKb (SKt S x.head.args.length) x.body) V2 c from hok)
  have H : Owns c0 (bkRes 64 24 27 28 37 b (SKb (SKt S x.head.args.length) x.body) V2 ++ (.row u2 79 7 x.tests.length (x.tests.map Ts.cs).flatten :: L0)) _ := H
  obtain ⟨S2, hS2⟩ : ∃ S2, S2 = SKb (SKt S x.head.args.length) x.body := ⟨_, rfl⟩
  rw [← hS2] at H HA
  have hn2 : S2.sl = S.sl ∧ S2.sm = S.sm := by
    rw [hS2]
    exact ⟨rfl, rfl⟩
  have hc2 : SKc S x = SKs S2 x.tests.length := by rw [hS2]; rfl
  have h5 : S2.sl.length + 1 < 1099511627776 := by rw [hn2.1]; exact hl5
  have h6 : S2.sm.length + 1 < 1099511627776 := by rw [hn2.2]; exact hl6
  have ht2 : (mkCl S x).tests = List.replicate x.tests.length (mkS S2.sl.length) := by rw [hn2.1]; rfl
  rw [hc2, ht2]
  obtain ⟨v0, v1, v2, v3, v4, v5, v6, v7, w0, w1, w2, w3, w4, w5, w6, w7⟩ := V2
  have H := H.perm List.perm_middle
  have H : Owns c0 (.row u2 79 7 x.tests.length (x.tests.map Ts.cs).flatten :: .obj b (.cells [v0, v1, v2, v3, v4, v5, v6, v7, .slice none 0 0, .slice none 0 0].toArray 64 (0, 0)) :: .row v0 24 1 (S2).tl.length w0.flatten :: .row v1 24 1 (S2).tm.length w1.flatten :: .row v2 27 1 (S2).al.length w2.flatten :: .row v3 27 1 (S2).am.length w3.flatten :: .row v4 28 1 (S2).sl.length w4.flatten :: .row v5 28 1 (S2).sm.length w5.flatten :: .row v6 37 1 (S2).cl.length w6.flatten :: .row v7 37 1 (S2).cm.length w7.flatten :: L0) c := H
  (apply w_nil; apply wx_next; apply wc_seq; apply wc_region; refine Z0 ?_; (refine s_nilCheck rfl rfl ?_); refine Z3 ?_; refine Z41 ?_; refine Z62 ?_; refine Z48 ?_; refine Z54 ?_; refine Z61 fun bx c H HA => ?_; refine Z74 fun c H HA => ?_; apply w_nil; apply wx_next; apply wc_seq; apply wc_seq; apply wc_region; refine Z2 ?_; apply w_nil; apply wx_next; apply wc_block)
  (obtain ⟨b4, rfl⟩ : ∃ x, x = bx := ⟨_, rfl⟩)
  (refine wc_freeze H HA ?_; intro c H HA)
  have hvm := vals_map (cv := Ts.cs) (P := Tryz.prog) (e := 79) x.tests c
  refine wc_loopG (σ := Nat × List Ts × List (List Value)) (fun y => x.tests.length - y.1) (fun y => [(0, .pointer (some ⟨b, 0, none⟩)), (3, .pointer (some ⟨b3, 0, none⟩)), (4, .pointer (some ⟨b4, 0, none⟩)), (5, .int .i64 y.1)]) (fun y => y.1 ≤ x.tests.length ∧ y.2.1 = List.replicate y.1 (mkS S2.sl.length) ++ x.tests.drop y.1)
    (fun y => .row u2 79 7 y.2.1.length y.2.2.flatten :: .obj b (.cells [v0, v1, v2, v3, v4, v5, v6, v7, .slice none 0 0, .slice none 0 0].toArray 64 (0, 0)) :: .row v0 24 1 (S2).tl.length w0.flatten :: .row v1 24 1 (S2).tm.length w1.flatten :: .row v2 27 1 (S2).al.length w2.flatten :: .row v3 27 1 (S2).am.length w3.flatten :: .row v4 28 1 (S2).sl.length w4.flatten :: .row v5 28 1 (S2).sm.length w5.flatten :: .row v6 37 1 (S2).cl.length w6.flatten :: .row v7 37 1 (S2).cm.length w7.flatten :: L0) (fun y c => Vals y.2.2 y.2.1 c) (0, x.tests, x.tests.map Ts.cs) H HA hvm Ks ⟨Nat.zero_le _, by simp⟩ ?_
  intro y g c hp H HA
  obtain ⟨k, acc, vals2⟩ := y
  obtain ⟨hk, hacc⟩ := hp
  dsimp only at hk hacc H HA ⊢
  have hal : acc.length = x.tests.length := by rw [hacc]; simp; omega
  (focus (apply wc_seq; apply wc_seq; apply wc_region; refine Z0 ?_; refine Z3 ?_; refine Z1 ?_; refine Z62 ?_; refine Z93 (fun hq => ?_) fun hq => ?_; apply w_nil; apply wx_next; refine Z18 ?_; apply wc_skip; apply wx_next; apply wc_seq; apply wc_block; apply wc_region; refine Z3 ?_; refine Z1 ?_; refine Z0 ?_; refine Z7 ?_; refine Z63 fun rp hrp => ?_; rotate_left; apply w_nil; apply wx_next; refine Z19 ?_; apply wc_exit; apply wx_exit_then; apply wx_exit_then; apply wx_exit_same; apply wx_next; apply wc_seq; rotate_left))
  · (refine s_stRA (u := mkS S2.sl.length) rfl rfl hrp H Lk (by omega) rfl rfl HA inferInstance ?_; intro c H HA)
    (apply w_nil; apply wx_norm_block; apply wx_next; apply wc_region; refine Z0 ?_; refine Z46 ?_; refine Z2 ?_; apply w_nil)
    exact wx_loopG ((k + 1, acc.set k (mkS S2.sl.length), vals2.set k (mkS S2.sl.length).cs)) H Cu Lk Ks (by dsimp only; omega) ⟨by dsimp only; omega, by
      dsimp only
      rw [hacc, List.set_append_right _ _ (by simp), List.length_replicate, Nat.sub_self, List.replicate_succ', List.append_assoc]
      congr 1
      rw [List.drop_eq_getElem_cons (by omega)]
      rfl⟩
  · have hacc : acc = List.replicate x.tests.length (mkS S2.sl.length) := by rw [hacc, List.drop_eq_nil_of_le (by omega), show k = x.tests.length by omega]; simp
    have hvv := vals_is (cv := Ts.cs) (Lk : Vals vals2 acc c)
    subst hvv
    rw [← hacc]
    have hmm : List.replicate (x.tests.length + 1) (mkS S2.sl.length) = acc ++ [mkS S2.sl.length] := by rw [hacc, List.replicate_succ']
    have hsk : SKs S2 x.tests.length = { S2 with sl := S2.sl ++ [acc], sm := S2.sm ++ [acc ++ [mkS S2.sl.length]] } := by
      rw [SKs, ← hacc, hmm]
    rw [hsk]
    have hc1 : u2.cells = #[u2] := H.rowCells (List.Mem.head _)
    have ho1 : u2.oneCell' = true := H.rowOne (List.Mem.head _)
    have H := H.pull 6 (r := .row v4 28 1 (S2).sl.length w4.flatten) rfl
    have H : Owns c0 ([.row v4 28 1 (S2).sl.length w4.flatten] ++ (.row u2 79 7 acc.length (acc.map Ts.cs).flatten :: .obj b (.cells [v0, v1, v2, v3, v4, v5, v6, v7, .slice none 0 0, .slice none 0 0].toArray 64 (0, 0)) :: .row v0 24 1 (S2).tl.length w0.flatten :: .row v1 24 1 (S2).tm.length w1.flatten :: .row v2 27 1 (S2).al.length w2.flatten :: .row v3 27 1 (S2).am.length w3.flatten :: .row v5 28 1 (S2).sm.length w5.flatten :: .row v6 37 1 (S2).cl.length w6.flatten :: .row v7 37 1 (S2).cm.length w7.flatten :: L0)) c := H
    refine dw_startE (I := [.row v4 28 1 (S2).sl.length w4.flatten]) H HA ?_
    (refine Dc ?_)
    (refine Dc ?_)
    (apply dw_cons; (focus ((intro B _ Lx c H HA; (repeat (first | (intro vx hx; have hx2 : vx = _ := hx; clear hx; subst hx2) | (intro vx hx; have HA := HA.addSF hx; clear hx) | (intro vx hx; have HA := HA.add hx; clear hx) | intro vx)); change W _ _ _ _ _ _ _); (refine s_nilCheck rfl rfl ?_); exact Dx)); exact inferInstance)
    (refine Dc ?_)
    (refine Dc ?_)
    (refine Dc ?_)
    (refine Dc ?_)
    refine dw_cons (s := .rel fun u c => SlV [(⟨u2, ho1⟩ : Raw)] [[u2]] u c) ?_ inferInstance ?_
    · (intro B _ Lx c H HA; (repeat (first | (intro vx hx; have hx2 : vx = _ := hx; clear hx; subst hx2) | (intro vx hx; have HA := HA.addSF hx; clear hx) | (intro vx hx; have HA := HA.add hx; clear hx) | intro vx)); change W _ _ _ _ _ _ _)
      (refine s_bs1V (α := Raw) (cs := [u2]) (u := ⟨u2, ho1⟩) rfl hc1 rfl rfl rfl rfl H HA inferInstance ?_; intro vb c H HA)
      exact w_nil (pq_rel H Cu HA.h.1)
    refine dw_consE (pv := none) (r := .row v4 28 1 (S2).sl.length w4.flatten) (sel := id) (S := fun _ c => Tt c) (e := 28) (kk := 1) (m := S2.sl.length + 1) (xs := w4.flatten ++ [[u2]].flatten) ?_ (fun _ => inferInstance) ?_
    · (intro B _ Lx c HA; (repeat (first | (intro vx hx; have hx2 : vx = _ := hx; clear hx; subst hx2) | (intro vx hx; have HA := HA.addSF hx; clear hx) | (intro vx hx; skip; have HA := HA.add hx; clear hx) | (intro vx; have hvx2 : Go.Value := vx; clear hvx2))); (first | intro H | (have H := HA.h.1; have HA := HA.cut)); change W _ _ _ _ _ _ _)
      have H : Owns c0 (.row v4 28 1 (S2).sl.length w4.flatten :: (Lx ++ _)) c := H
      (refine s_appV rfl rfl rfl (Lk : SlV [(⟨u2, ho1⟩ : Raw)] [[u2]] _ _) rfl rfl rfl Lt H HA inferInstance ?_; intro n0 c H HA)
      exact w_nil (pq_eff H Cu trivial)
    refine dw_doneT mixed (I := [.row v4 28 1 (S2).sl.length w4.flatten]) (by kernel_rfl) H HA (by kernel_rfl) ?_
    clear H HA
    intro c HA u41 h41 n0 h42 H
    have H : Owns c0 (.row n0 28 1 (S2.sl.length + 1) (w4.flatten ++ [[u2]].flatten) :: .row u2 79 7 acc.length (acc.map Ts.cs).flatten :: .obj b (.cells [v0, v1, v2, v3, v4, v5, v6, v7, .slice none 0 0, .slice none 0 0].toArray 64 (0, 0)) :: .row v0 24 1 (S2).tl.length w0.flatten :: .row v1 24 1 (S2).tm.length w1.flatten :: .row v2 27 1 (S2).al.length w2.flatten :: .row v3 27 1 (S2).am.length w3.flatten :: .row v5 28 1 (S2).sm.length w5.flatten :: .row v6 37 1 (S2).cl.length w6.flatten :: .row v7 37 1 (S2).cm.length w7.flatten :: L0) c := H
    change W _ _ _ _ _ _ _
    ((refine s_nilCheck rfl rfl ?_); refine Z3 ?_; refine Z79 fun c H HA => ?_; apply w_nil; apply wx_next)
    have H := H.pull 2 (r := .row u2 79 7 acc.length (acc.map Ts.cs).flatten) rfl
    have H := H.pull 7 (r := .row v5 28 1 (S2).sm.length w5.flatten) rfl
    have H := H.swap
    have H : Owns c0 (.row u2 79 7 acc.length (acc.map Ts.cs).flatten :: .row v5 28 1 (S2).sm.length w5.flatten :: (_ :: _ :: .row v0 24 1 (S2).tl.length w0.flatten :: .row v1 24 1 (S2).tm.length w1.flatten :: .row v2 27 1 (S2).al.length w2.flatten :: .row v3 27 1 (S2).am.length w3.flatten :: .row v6 37 1 (S2).cl.length w6.flatten :: .row v7 37 1 (S2).cm.length w7.flatten :: L0)) c := H
    have hs1 : ∀ g, v5.ownBlock = some g → c.M g := fun g hg => ((H.res _ (.tail _ (.head _))).2 g hg).1
    obtain ⟨cS, hcS⟩ : ∃ q, q = c := ⟨_, rfl⟩
    subst hcS
    have HA := HA.add (show Since cS cS from Le.refl cS)
    have HS1 := HA
    have H : Owns c0 ([.row u2 79 7 acc.length (acc.map Ts.cs).flatten, .row v5 28 1 (S2).sm.length w5.flatten] ++ _) cS := H
    refine dw_startE (I := [.row u2 79 7 acc.length (acc.map Ts.cs).flatten, .row v5 28 1 (S2).sm.length w5.flatten]) H HA ?_
    (refine Dc ?_)
    (refine Dc ?_)
    (apply dw_cons; (focus ((intro B _ Lx c H HA; (repeat (first | (intro vx hx; have hx2 : vx = _ := hx; clear hx; subst hx2) | (intro vx hx; have HA := HA.addSF hx; clear hx) | (intro vx hx; have HA := HA.add hx; clear hx) | intro vx)); change W _ _ _ _ _ _ _); (refine s_nilCheck rfl rfl ?_); exact Dx)); exact inferInstance)
    (refine Dc ?_)
    (refine Dc ?_)
    (refine Dc ?_)
    (refine Dc ?_)
    (refine Dc ?_)
    refine dw_cons (s := .rel fun u c => SlV [(mkS S2.sl.length)] [((mkS S2.sl.length).cs)] u c) ?_ inferInstance ?_
    · (intro B _ Lx c H HA; (repeat (first | (intro vx hx; have hx2 : vx = _ := hx; clear hx; subst hx2) | (intro vx hx; have HA := HA.addSF hx; clear hx) | (intro vx hx; have HA := HA.add hx; clear hx) | intro vx)); change W _ _ _ _ _ _ _)
      refine s_bs1V (α := Ts) (cs := ((mkS S2.sl.length).cs)) (u := (mkS S2.sl.length)) rfl rfl (show Enc.Ok ((mkS S2.sl.length).cs) (mkS S2.sl.length) _ from rfl) rfl rfl rfl H HA inferInstance ?_
      intro vx c H HA
      exact w_nil (pq_rel H Cu HA.h.1)
    refine dw_consE (pv := none) (r := .row u2 79 7 acc.length (acc.map Ts.cs).flatten) (sel := fun _ => .slice none 0 0) (S := KpG 79 c0.w.heap.size 7 u2 acc.length (acc.map Ts.cs).flatten (acc.length + [(mkS S2.sl.length)].length) ((acc.map Ts.cs).flatten ++ [((mkS S2.sl.length).cs)].flatten)) (e := 79) (kk := 7) (m := 0) (xs := []) ?_ (fun _ => inferInstance) ?_
    · (intro B _ Lx c HA; (repeat (first | (intro vx hx; have hx2 : vx = _ := hx; clear hx; subst hx2) | (intro vx hx; have HA := HA.addSF hx; clear hx) | (intro vx hx; skip; have HA := HA.add hx; clear hx) | (intro vx; have hvx2 : Go.Value := vx; clear hvx2))); (first | intro H | (have H := HA.h.1; have HA := HA.cut)); change W _ _ _ _ _ _ _)
      have H : Owns c0 (.row u2 79 7 acc.length (acc.map Ts.cs).flatten :: (Lx ++ _)) c := H
      refine s_appKF rfl rfl rfl (Lk : Vals (acc.map Ts.cs) acc c) (Lk : SlV [(mkS S2.sl.length)] [((mkS S2.sl.length).cs)] _ _) (by simp) rfl rfl rfl (by simp only [List.length_cons, List.length_nil, LIM]; omega) H HA inferInstance ?_
      intro vx c H HA
      exact w_nil (pq_eff (H.nilRow _ _) Cu ⟨HA.h.1, HA.h.2.1⟩)
    refine dw_cons (s := .rel (BsG (α := Ts) 79 c0.w.heap.size 7 (acc ++ [(mkS S2.sl.length)]) (acc.length + [(mkS S2.sl.length)].length) ((acc.map Ts.cs).flatten ++ [((mkS S2.sl.length).cs)].flatten))) ?_ inferInstance ?_
    · (intro B _ Lx c H HA; (repeat (first | (intro vx hx; have hx2 : vx = _ := hx; clear hx; subst hx2) | (intro vx hx; have HA := HA.addSF hx; clear hx) | (intro vx hx; have HA := HA.add hx; clear hx) | intro vx)); change W _ _ _ _ _ _ _)
      have hkp := (Lk : KpG 79 c0.w.heap.size 7 u2 acc.length (acc.map Ts.cs).flatten (acc.length + [(mkS S2.sl.length)].length) ((acc.map Ts.cs).flatten ++ [((mkS S2.sl.length).cs)].flatten) _ c)
      have hsq : Sl _ (acc ++ [(mkS S2.sl.length)]) c := FrL.sl (vals := (acc.map Ts.cs) ++ [((mkS S2.sl.length).cs)]) (by rw [List.length_append, List.flatten_append]; exact hkp.2) ((Lk : Vals (acc.map Ts.cs) acc c).append (vals_single (show Enc.Ok ((mkS S2.sl.length).cs) (mkS S2.sl.length) c from rfl))) rfl (by simp only [List.length_append, List.length_cons, List.length_nil, LIM]; omega)
      have HA := HA.add hkp.2
      refine s_bs1V (α := List Ts) (u := acc ++ [(mkS S2.sl.length)]) rfl (Cells.sl hsq) (show Enc.Ok [_] (acc ++ [(mkS S2.sl.length)]) _ from ⟨_, rfl, hsq⟩) rfl rfl rfl H HA inferInstance ?_
      intro vx c H HA
      exact w_nil (pq_rel H Cu ⟨_, HA.h.1, HA.h.2.1⟩)
    refine dw_consE (pv := none) (r := .row v5 28 1 (S2).sm.length w5.flatten) (sel := fun _ => .slice none 0 0) (S := BkG 79 28 c0.w.heap.size 7 cS u2 acc.length (acc.map Ts.cs).flatten (acc.length + [(mkS S2.sl.length)].length) ((acc.map Ts.cs).flatten ++ [((mkS S2.sl.length).cs)].flatten) ((S2).sm.length + 1) w5.flatten) (e := 28) (kk := 1) (m := 0) (xs := []) ?_ (fun _ => inferInstance) ?_
    · (intro B _ Lx c HA; (repeat (first | (intro vx hx; have hx2 : vx = _ := hx; clear hx; subst hx2) | (intro vx hx; have HA := HA.addSF hx; clear hx) | (intro vx hx; skip; have HA := HA.add hx; clear hx) | (intro vx; have hvx2 : Go.Value := vx; clear hvx2))); (first | intro H | (have H := HA.h.1; have HA := HA.cut)); change W _ _ _ _ _ _ _)
      have H : Owns c0 (.row v5 28 1 (S2).sm.length w5.flatten :: (Lx ++ _)) c := H
      have hkp := (Lk : KpG 79 c0.w.heap.size 7 u2 acc.length (acc.map Ts.cs).flatten (acc.length + [(mkS S2.sl.length)].length) ((acc.map Ts.cs).flatten ++ [((mkS S2.sl.length).cs)].flatten) _ c)
      obtain ⟨q, hq1, hq2⟩ := (Lk : BsG (α := Ts) 79 c0.w.heap.size 7 (acc ++ [(mkS S2.sl.length)]) (acc.length + [(mkS S2.sl.length)].length) ((acc.map Ts.cs).flatten ++ [((mkS S2.sl.length).cs)].flatten) _ c)
      refine s_appVF (ys := [acc ++ [(mkS S2.sl.length)]]) (vals := [[q]]) (c1 := cS) rfl rfl rfl hq1 rfl rfl rfl Lt hkp.1 hq2 Lk hs1 H HA inferInstance ?_
      intro vx c H HA
      exact w_nil (pq_eff (H.nilRow _ _) Cu ⟨q, HA.h.1, HA.h.2.1, HA.h.2.2.1⟩)
    refine dw_doneT mixed (I := [.row u2 79 7 acc.length (acc.map Ts.cs).flatten, .row v5 28 1 (S2).sm.length w5.flatten]) (by kernel_rfl) H HA (by kernel_rfl) ?_
    clear H HA
    intro c HA u53 h53 u54 h54 u55 h55 u56 h56 H
    obtain ⟨q, f1, f2, hp⟩ := h56
    have H := H.drop.drop
    change W _ _ _ _ _ _ _
    refine w_thawG H f1 f2 Lk (Nat.le_refl _) hp HS1 ?_
    clear H HA f1 f2 h53 h54 h55
    intro c H HA
    ((refine s_nilCheck rfl rfl ?_); refine Z3 ?_; refine Z77 fun c H HA => ?_; apply w_nil)
    have hb := (Lk : BkOk S2 _ c)
    have hkl : Sl u2 acc c := FrL.sl HA.h.1 Lk rfl (by simp only [LIM]; omega)
    have hkq : Sl q (acc ++ [mkS S2.sl.length]) c := FrL.sl (vals := acc.map Ts.cs ++ [(mkS S2.sl.length).cs]) (by rw [List.length_append, List.flatten_append]; exact HA.h.2.1) ((Lk : Vals (acc.map Ts.cs) acc c).append (vals_single (show Enc.Ok (mkS S2.sl.length).cs (mkS S2.sl.length) c from rfl))) rfl (by simp only [List.length_append, List.length_cons, List.length_nil, LIM]; omega)
    have H := ((((((H.pull 1 rfl).pull 2 rfl).pull 6 rfl).pull 6 rfl).pull 6 rfl).pull 6 rfl).pull 6 rfl
    rw [show w4.flatten ++ [[u2]].flatten = (w4 ++ [[u2]]).flatten by simp, show w5.flatten ++ [[q]].flatten = (w5 ++ [[q]]).flatten by simp] at H
    refine norm_fnX (R := bkRes 64 24 27 28 37 b { S2 with sl := S2.sl ++ [acc], sm := S2.sm ++ [acc ++ [mkS S2.sl.length]] } ⟨v0, v1, v2, v3, n0, u56, v6, v7, w0, w1, w2, w3, w4 ++ [[u2]], w5 ++ [[q]], w6, w7⟩) ?_ Ca (outs0 rfl) ⟨⟨_, rfl, hb.1, hb.2.1, hb.2.2.1, hb.2.2.2.1, hb.2.2.2.2.1.append (vals_one hkl), hb.2.2.2.2.2.1.append (vals_one hkq), hb.2.2.2.2.2.2⟩, Lk, Lk, hkl⟩
    simp only [bkRes, List.length_append, List.length_cons, List.length_nil]
    exact H
end Go.Proofs.YthkdggoohpgnnaaGreatDoor
/- A list of clauses, and all lists in them, put into the book. -/
namespace Go.Wk
open Go Go.RowKit
def mkC (n : Nat) : Tm := ⟨907, n, ES⟩
def SKcs (S : Bk) (l : List Cl) : Bk := l.foldl SKc S
theorem SKcs_snoc (S : Bk) (l : List Cl) (x : Cl) : SKcs S (l ++ [x]) = SKc (SKcs S l) x := by simp [SKcs]
/-- None of the book's lists is longer. -/
def Bk.Le (S : Bk) (u : Nat) : Prop := S.tl.length ≤ u ∧ S.tm.length ≤ u ∧ S.al.length ≤ u ∧ S.am.length ≤ u ∧ S.sl.length ≤ u ∧ S.sm.length ≤ u ∧ S.cl.length ≤ u ∧ S.cm.length ≤ u
theorem Bk.Le.mono {S : Bk} {u u' : Nat} (h : S.Le u) (hu : u ≤ u') : S.Le u' := by
  unfold Bk.Le at *
  omega
theorem SKc_le {S : Bk} {x : Cl} {u : Nat} (h : S.Le u) : (SKc S x).Le (u + x.body.length + 1) := by
  unfold Bk.Le at *
  simp only [SKc, SKs, SKb, SKa, SKt, List.length_append, List.length_cons, List.length_nil, tlOf_len, tmOf_len]
  omega
theorem SKcs_cl (S : Bk) : ∀ (l : List Cl), (SKcs S l).cl = S.cl ∧ (SKcs S l).cm = S.cm := by
  intro l
  induction l generalizing S with
  | nil => exact ⟨rfl, rfl⟩
  | cons x l ih => exact ih (SKc S x)
def cw (l : List Cl) : Nat := (l.map fun x => x.body.length + 1).sum
theorem SKcs_le {S : Bk} : ∀ {l : List Cl} {u : Nat}, S.Le u → (SKcs S l).Le (u + cw l) := by
  intro l
  induction l generalizing S with
  | nil => intro u h; exact h
  | cons x l ih =>
    intro u h
    have := ih (SKc_le (x := x) h)
    refine Bk.Le.mono this ?_
    simp only [cw, List.map_cons, List.sum_cons]
    omega
theorem cw_app (l l' : List Cl) : cw (l ++ l') = cw l + cw l' := by simp [cw]
/-- A clause whose lists take one element more. -/
def Cl.sz (x : Cl) : Prop := x.head.args.length + 1 < 1099511627776 ∧ (∀ a ∈ x.body, a.args.length + 1 < 1099511627776) ∧ x.tests.length + 1 < 1099511627776 ∧ x.body.length + 1 < 1099511627776
theorem flat_mark {kk : Nat} {us : List Value} : ∀ {vals : List (List Value)} {i : Nat} {cs : List Value}, (∀ c ∈ vals, c.length = kk) → vals[i]? = some cs → us.length ≤ kk →
    vals.flatten.take (i * kk) ++ us ++ vals.flatten.drop (i * kk + us.length) = (vals.set i (us ++ cs.drop us.length)).flatten
  | [], _, _, _, h, _ => by simp at h
  | a :: l, 0, cs, hl, h, hu => by
    simp only [List.getElem?_cons_zero, Option.some.injEq] at h
    subst h
    have ha := hl a (.head _)
    simp only [Nat.zero_mul, List.take_zero, List.nil_append, Nat.zero_add, List.set_cons_zero, List.flatten_cons]
    rw [List.drop_append_of_le_length (by omega), List.append_assoc]
  | a :: l, i + 1, cs, hl, h, hu => by
    have ha := hl a (.head _)
    have ih := flat_mark (us := us) (vals := l) (i := i) (cs := cs) (fun c hc => hl c (.tail _ hc)) (by simpa using h) hu
    have e : (i + 1) * kk = kk + i * kk := by rw [Nat.add_mul]; omega
    simp only [List.set_cons_succ, List.flatten_cons]
    rw [← ih, List.take_append, List.drop_append, ha, List.take_of_length_le (l := a) (by rw [ha, e]; omega), (show a.drop ((i + 1) * kk + us.length) = [] from List.drop_eq_nil_of_le (by rw [ha, e]; omega)), show (i + 1) * kk - kk = i * kk by omega, show (i + 1) * kk + us.length - kk = i * kk + us.length by omega]
    simp [List.append_assoc]
section
variable {P : Program} {ops : Array Oper} {Q : Exit → Act → World → Prop} {n : Nat} {f : Nat → Value} {rest : List Oper} {ty : TypeId} {ps : String} {af : Array Edge} {d : Tmp}
variable {c0 c : Cx} {L : List Res} {A : Cx → Prop}
theorem s_ldRQ {T e : TypeId} {kk m i : Nat} {x : Operand} {v p : Value} {cs : List Value} {vals : List (List Value)} (hn : Nat.blt d n = true) [Agg P T kk] (hx : opd f x = p) (hr : RPt v kk i p) (H : Owns c0 L c) (hm : Res.row v e kk m vals.flatten ∈ L) (hlen : ∀ cs ∈ vals, cs.length = kk) (hv : vals[i]? = some cs)
    (k : W P ops Q rest n (upd f d (.agg cs.toArray)) c.w) : W P ops Q (⟨some d, .load T x, ty, ps, af, none⟩ :: rest) n f c.w := by
  obtain ⟨b, rfl, hc⟩ := row_cell H hm hlen hv hr
  exact st_val hn (by simp [execOp, Instr.loadAt, Instr.sureAddr, hx, run_loadk (P := P) (T := T) (hlen _ (List.mem_of_getElem? hv)) hc]) k
end
end Go.Wk
namespace Go.Proofs.YthkdggoohpgnnaaGreatDoor
open Go Go.Wk
theorem Book_KeepClauses (b : Nat) (S : Bk) (V : BkV) (D : List ClD) (v : Value) (c : Cx) (u : Nat) (hS : BkOk S V c) (hw : ∀ p ∈ D, p.ws.length = p.x.body.length) (hle : S.Le u) (hu : u + cw (D.map ClD.x) + 2 < 1099511627776) (hz : ∀ p ∈ D, p.x.sz) (hlD : D.length + 1 < 1099511627776) :
    CnTX Tryz.prog 36 [.pointer (some ⟨b, 0, none⟩), v] (.row v 30 7 D.length (D.map ClD.cells).flatten :: (D.flatMap (ClD.rows 23 26 79) ++ bkRes 64 24 27 28 37 b S V)) c
      (fun _ R c => ∃ X : List Cl, (∀ y ∈ X, y.head.by_ = mkC S.cl.length) ∧ BkP 64 24 27 28 37 b { SKcs S (D.map ClD.x) with cl := S.cl ++ [X], cm := S.cm ++ [X ++ [⟨⟨mkC S.cl.length, ES, []⟩, [], []⟩]] } R c) := by
  refine CnTX.of Tryz.func36 Tryz.ntmps36 rfl rfl fun c0 L0 A0 _ H HA => ?_
  have HA := HA.add hS
  obtain ⟨v0, v1, v2, v3, v4, v5, v6, v7, w0, w1, w2, w3, w4, w5, w6, w7⟩ := V
  have H := H.perm perm_book
  have H : Owns c0 (.obj b (.cells [v0, v1, v2, v3, v4, v5, v6, v7, .slice none 0 0, .slice none 0 0].toArray 64 (0, 0)) :: .row v0 24 1 (S).tl.length w0.flatten :: .row v1 24 1 (S).tm.length w1.flatten :: .row v2 27 1 (S).al.length w2.flatten :: .row v3 27 1 (S).am.length w3.flatten :: .row v4 28 1 (S).sl.length w4.flatten :: .row v5 28 1 (S).sm.length w5.flatten :: .row v6 37 1 (S).cl.length w6.flatten :: .row v7 37 1 (S).cm.length w7.flatten :: .row v 30 7 D.length (D.map ClD.cells).flatten :: (D.flatMap (ClD.rows 23 26 79) ++ L0)) c := H
  apply wc_seq
  (apply wc_region; refine Z0 ?_; (refine s_nilCheck rfl rfl ?_); refine Z3 ?_; refine Z41 ?_; refine Z62 ?_; refine Z54 ?_; refine Z61 fun bx c H HA => ?_; refine Z74 fun c H HA => ?_; apply w_nil; apply wx_next)
  (obtain ⟨b4, rfl⟩ : ∃ x, x = bx := ⟨_, rfl⟩)
  (refine wc_freeze H HA ?_; intro c H HA)
  (apply wc_seq; apply wc_seq; apply wc_region; refine Z2 ?_; apply w_nil; apply wx_next; apply wc_block)
  have hok0 : BkOk (SKcs S ((D.take 0).map ClD.x)) ⟨v0, v1, v2, v3, v4, v5, v6, v7, w0, w1, w2, w3, w4, w5, w6, w7⟩ c := by
    rw [List.take_zero]
    exact Lk
  refine wc_loopG (σ := Nat × BkV × List ClD) (fun y => D.length - y.1) (fun y => [(0, .pointer (some ⟨b, 0, none⟩)), (1, v), (4, .pointer (some ⟨b4, 0, none⟩)), (5, .int .i64 y.1)]) (fun y => y.1 ≤ D.length ∧ y.2.2.length = y.1 ∧ ∀ q ∈ y.2.2, q.x.head.by_ = mkC S.cl.length)
    (fun y => bkRes 64 24 27 28 37 b (SKcs S ((D.take y.1).map ClD.x)) y.2.1 ++ (.row v 30 7 D.length ((y.2.2 ++ D.drop y.1).map ClD.cells).flatten :: ((D.drop y.1).flatMap (ClD.rows 23 26 79) ++ L0))) (fun y c => BkOk (SKcs S ((D.take y.1).map ClD.x)) y.2.1 c ∧ Vals (y.2.2.map ClD.cells) (y.2.2.map ClD.x) c) (0, _, []) H HA ⟨hok0, Vals.nil _⟩ Ks ⟨Nat.zero_le _, rfl, fun q hq => (by cases hq)⟩ ?_
  intro y g c hp H HA
  obtain ⟨k, V, Q⟩ := y
  obtain ⟨hk, hQl, hQ⟩ := hp
  dsimp only at hk hQl hQ H HA ⊢
  have HA := (HA.cut.add HA.h.1.1).add HA.h.1.2
  have hlk := SKcs_le (l := (D.take k).map ClD.x) hle
  have hcl := SKcs_cl S ((D.take k).map ClD.x)
  obtain ⟨v0, v1, v2, v3, v4, v5, v6, v7, w0, w1, w2, w3, w4, w5, w6, w7⟩ := V
  have H : Owns c0 (.obj b (.cells [v0, v1, v2, v3, v4, v5, v6, v7, .slice none 0 0, .slice none 0 0].toArray 64 (0, 0)) :: .row v0 24 1 (SKcs S ((D.take k).map ClD.x)).tl.length w0.flatten :: .row v1 24 1 (SKcs S ((D.take k).map ClD.x)).tm.length w1.flatten :: .row v2 27 1 (SKcs S ((D.take k).map ClD.x)).al.length w2.flatten :: .row v3 27 1 (SKcs S ((D.take k).map ClD.x)).am.length w3.flatten :: .row v4 28 1 (SKcs S ((D.take k).map ClD.x)).sl.length w4.flatten :: .row v5 28 1 (SKcs S ((D.take k).map ClD.x)).sm.length w5.flatten :: .row v6 37 1 (SKcs S ((D.take k).map ClD.x)).cl.length w6.flatten :: .row v7 37 1 (SKcs S ((D.take k).map ClD.x)).cm.length w7.flatten :: .row v 30 7 D.length ((Q ++ D.drop k).map ClD.cells).flatten :: ((D.drop k).flatMap (ClD.rows 23 26 79) ++ L0)) c := H
  (focus (apply wc_seq; apply wc_seq; apply wc_region; refine Z0 ?_; refine Z0 ?_; refine Z62 ?_; refine Z93 (fun hq => ?_) fun hq => ?_; apply w_nil; apply wx_next; refine Z18 ?_; apply wc_skip; apply wx_next; apply wc_seq; apply wc_block; apply wc_seq; apply wc_region; refine Z0 ?_; refine Z0 ?_; refine Z0 ?_; refine Z63 fun rp hrp => ?_; rotate_left; apply w_nil; apply wx_next; refine Z19 ?_; apply wc_exit; apply wx_exit_then; apply wx_exit_then; apply wx_exit_same; apply wx_next; apply wc_seq; apply wc_region; refine Z0 ?_; refine Z0 ?_; (refine s_nilCheck rfl rfl ?_); refine Z3 ?_; refine Z41 ?_; refine Z0 ?_; rotate_left))
  · obtain ⟨p, hp⟩ := getq (xs := D) (k := k) (by omega)
    have hpm := List.mem_of_getElem? hp
    have hdp := drop_get hp
    have htk : (D.take k).map ClD.x ++ [p.x] = (D.take (k + 1)).map ClD.x := by
      rw [List.take_add_one, hp, List.map_append]
      rfl
    have hwl : cw ((D.take k).map ClD.x) + (p.x.body.length + 1) ≤ cw (D.map ClD.x) := by
      have e : D.map ClD.x = (D.take k).map ClD.x ++ (p.x :: (D.drop (k + 1)).map ClD.x) := by
        rw [← List.map_cons, ← hdp, ← List.map_append, List.take_append_drop]
      rw [e, cw_app]
      simp only [cw, List.map_cons, List.sum_cons]
      omega
    have hcl7 : ∀ cs ∈ (Q ++ D.drop k).map ClD.cells, cs.length = 7 := fun cs hcs => by
      obtain ⟨q, _, rfl⟩ := List.mem_map.1 hcs
      rfl
    have hcp : ((Q ++ D.drop k).map ClD.cells)[k]? = some p.cells := by
      rw [List.getElem?_map, List.getElem?_append_right (by omega), hQl, Nat.sub_self, List.getElem?_drop]
      simp [hp]
    refine s_ldRQ (vals := (Q ++ D.drop k).map ClD.cells) rfl rfl hrp H Ow hcl7 hcp ?_
    have e3 : (D.drop k).flatMap (ClD.rows 23 26 79) = clRows 23 26 79 p.x p.v0 p.v1 p.v2 p.ws ++ (D.drop (k + 1)).flatMap (ClD.rows 23 26 79) := by
      rw [hdp, List.flatMap_cons]
      rfl
    rw [e3, List.append_assoc] at H
    have H : Owns c0 ((bkRes 64 24 27 28 37 b (SKcs S ((D.take k).map ClD.x)) ⟨v0, v1, v2, v3, v4, v5, v6, v7, w0, w1, w2, w3, w4, w5, w6, w7⟩ ++ [.row v 30 7 D.length ((Q ++ D.drop k).map ClD.cells).flatten]) ++ (clRows 23 26 79 p.x p.v0 p.v1 p.v2 p.ws ++ ((D.drop (k + 1)).flatMap (ClD.rows 23 26 79) ++ L0))) _ := H
    have H := H.perm (List.perm_append_comm_assoc ..)
    have H : Owns c0 (clRows 23 26 79 p.x p.v0 p.v1 p.v2 p.ws ++ (bkRes 64 24 27 28 37 b (SKcs S ((D.take k).map ClD.x)) ⟨v0, v1, v2, v3, v4, v5, v6, v7, w0, w1, w2, w3, w4, w5, w6, w7⟩ ++ (.row v 30 7 D.length ((Q ++ D.drop k).map ClD.cells).flatten :: ((D.drop (k + 1)).flatMap (ClD.rows 23 26 79) ++ L0)))) _ := H
    rw [← List.append_assoc] at H
    have hzp := hz p hpm
    unfold Bk.Le at hlk
    refine s_callX (pre := clRows 23 26 79 p.x p.v0 p.v1 p.v2 p.ws ++ bkRes 64 24 27 28 37 b (SKcs S ((D.take k).map ClD.x)) ⟨v0, v1, v2, v3, v4, v5, v6, v7, w0, w1, w2, w3, w4, w5, w6, w7⟩) rfl rfl H HA (Book_KeepClause b (SKcs S ((D.take k).map ClD.x)) ⟨v0, v1, v2, v3, v4, v5, v6, v7, w0, w1, w2, w3, w4, w5, w6, w7⟩ p.x p.v0 p.v1 p.v2 p.ws _ Lk (hw p hpm) (by omega) (by omega) (by omega) (by omega) (by omega) (by omega) hzp.1 hzp.2.1 hzp.2.2.1 hzp.2.2.2) ?_
    intro vx R c H HA
    obtain ⟨⟨V', hR, hok⟩, hs0, hs1, hs2⟩ := HA.h.1
    subst hR
    rw [← SKcs_snoc, htk] at H hok
    have HA := (((HA.cut.add hs0).add hs1).add hs2).add hok
    have H := H.perm List.perm_middle
    (apply w_nil; apply wx_next; apply wc_region; refine Z0 ?_; refine Z0 ?_; refine Z7 ?_; refine Z63 fun rp hrp => ?_)
    obtain ⟨gb2, mm2, cap2, hvs2, rfl⟩ := hrp
    (refine Z3 ?_; refine Z3 ?_)
    refine s_stCells (e := 30) (kk := 7) (m := D.length) (o := k * 7) (us := (mkC S.cl.length).cs) rfl rfl hvs2 rfl (by simp only [List.length_cons, List.length_nil]; omega) (by simp [Value.oneCell']) H HA inferInstance ?_
    intro c H HA
    rw [flat_mark hcl7 hcp (Nat.le_of_ble_eq_true rfl)] at H
    obtain ⟨q, hq⟩ : ∃ q : ClD, q = ⟨⟨⟨mkC S.cl.length, p.x.head.name, (mkCl (SKcs S ((D.take k).map ClD.x)) p.x).head.args⟩, (mkCl (SKcs S ((D.take k).map ClD.x)) p.x).body, (mkCl (SKcs S ((D.take k).map ClD.x)) p.x).tests⟩, p.v0, p.v1, p.v2, p.ws⟩ := ⟨_, rfl⟩
    have eq1 : (mkC S.cl.length).cs ++ p.cells.drop (mkC S.cl.length).cs.length = q.cells := by
      rw [hq]
      rfl
    have eq2 : ((Q ++ D.drop k).map ClD.cells).set k q.cells = ((Q ++ [q]) ++ D.drop (k + 1)).map ClD.cells := by
      rw [List.map_append, List.set_append_right _ _ (by rw [List.length_map]; omega), List.length_map, hQl, Nat.sub_self, hdp]
      simp
    rw [eq1, eq2] at H
    have hvq : Vals ((Q ++ [q]).map ClD.cells) ((Q ++ [q]).map ClD.x) c := by
      rw [List.map_append, List.map_append]
      refine Vals.append Lk (vals_single ?_)
      rw [hq]
      exact ⟨_, _, _, rfl, Lk, Lk, Lk⟩
    have HA := HA.add hvq
    (apply w_nil; apply wx_norm_block; apply wx_next; apply wc_region; refine Z0 ?_; refine Z46 ?_; refine Z2 ?_; apply w_nil)
    exact wx_loopG ((k + 1, V', Q ++ [q])) (H.perm List.perm_middle.symm) Cu ⟨Lk, Lk⟩ Ks (by dsimp only; omega) ⟨by dsimp only; omega, by simp [hQl], fun q' hq' => by
      rcases List.mem_append.1 hq' with h | h
      · exact hQ q' h
      · rw [List.mem_singleton.1 h, hq]⟩
  · have hkx : k = D.length := by omega
    subst hkx
    rw [List.take_length] at HA hcl hlk
    rw [List.take_length, List.drop_length, List.append_nil] at H
    have hXby : ∀ y ∈ Q.map ClD.x, y.head.by_ = mkC S.cl.length := fun y hy => by
      obtain ⟨q, hq, rfl⟩ := List.mem_map.1 hy
      exact hQ q hq
    obtain ⟨S2, hS2⟩ : ∃ S2, S2 = SKcs S (D.map ClD.x) := ⟨_, rfl⟩
    rw [← hS2] at H HA hcl hlk ⊢
    obtain ⟨X, hX⟩ : ∃ X, X = Q.map ClD.x := ⟨_, rfl⟩
    obtain ⟨C, hC⟩ : ∃ C, C = Q.map ClD.cells := ⟨_, rfl⟩
    rw [← hX] at HA hXby
    rw [← hC] at H HA
    have hXl : X.length = D.length := by rw [hX, List.length_map, hQl]
    unfold Bk.Le at hle
    rw [hcl.1, hcl.2] at H
    have H := H.pull 9 (r := .row v 30 7 D.length C.flatten) rfl
    have H : Owns c0 (.row v 30 7 X.length C.flatten :: .obj b (.cells [v0, v1, v2, v3, v4, v5, v6, v7, .slice none 0 0, .slice none 0 0].toArray 64 (0, 0)) :: .row v0 24 1 (S2).tl.length w0.flatten :: .row v1 24 1 (S2).tm.length w1.flatten :: .row v2 27 1 (S2).al.length w2.flatten :: .row v3 27 1 (S2).am.length w3.flatten :: .row v4 28 1 (S2).sl.length w4.flatten :: .row v5 28 1 (S2).sm.length w5.flatten :: .row v6 37 1 (S).cl.length w6.flatten :: .row v7 37 1 (S).cm.length w7.flatten :: L0) c := by
      rw [hXl]
      exact H
    have hc1 : v.cells = #[v] := H.rowCells (List.Mem.head _)
    have ho1 : v.oneCell' = true := H.rowOne (List.Mem.head _)
    (refine s_bs1V (α := Raw) (cs := [v]) (u := ⟨v, ho1⟩) rfl hc1 rfl rfl rfl rfl H HA inferInstance ?_; intro vb c H HA)
    have H := H.pull 8 (r := .row v6 37 1 (S).cl.length w6.flatten) rfl
    (refine s_appV rfl rfl rfl (Lk : SlV [(⟨v, ho1⟩ : Raw)] [[v]] vb _) rfl rfl rfl Lt H HA inferInstance ?_; intro n0 c H HA)
    have H : Owns c0 (.row n0 37 1 (S.cl.length + 1) (w6.flatten ++ [[v]].flatten) :: .row v 30 7 X.length C.flatten :: .obj b (.cells [v0, v1, v2, v3, v4, v5, v6, v7, .slice none 0 0, .slice none 0 0].toArray 64 (0, 0)) :: .row v0 24 1 (S2).tl.length w0.flatten :: .row v1 24 1 (S2).tm.length w1.flatten :: .row v2 27 1 (S2).al.length w2.flatten :: .row v3 27 1 (S2).am.length w3.flatten :: .row v4 28 1 (S2).sl.length w4.flatten :: .row v5 28 1 (S2).sm.length w5.flatten :: .row v7 37 1 (S).cm.length w7.flatten :: L0) c := H
    ((refine s_nilCheck rfl rfl ?_); refine Z3 ?_; refine Z79 fun c H HA => ?_; apply w_nil; apply wx_next)
    have H := H.pull 2 (r := .row v 30 7 X.length C.flatten) rfl
    have H := H.pull 9 (r := .row v7 37 1 (S).cm.length w7.flatten) rfl
    have H := H.swap
    have H : Owns c0 (.row v 30 7 X.length C.flatten :: .row v7 37 1 (S).cm.length w7.flatten :: (_ :: _ :: .row v0 24 1 (S2).tl.length w0.flatten :: .row v1 24 1 (S2).tm.length w1.flatten :: .row v2 27 1 (S2).al.length w2.flatten :: .row v3 27 1 (S2).am.length w3.flatten :: .row v4 28 1 (S2).sl.length w4.flatten :: .row v5 28 1 (S2).sm.length w5.flatten :: L0)) c := H
    have hs1 : ∀ g, v7.ownBlock = some g → c.M g := fun g hg => ((H.res _ (.tail _ (.head _))).2 g hg).1
    obtain ⟨cS, hcS⟩ : ∃ q, q = c := ⟨_, rfl⟩
    subst hcS
    have HA := HA.add (show Since cS cS from Le.refl cS)
    have HS1 := HA
    have H : Owns c0 ([.row v 30 7 X.length C.flatten, .row v7 37 1 (S).cm.length w7.flatten] ++ _) cS := H
    refine dw_startE (I := [.row v 30 7 X.length C.flatten, .row v7 37 1 (S).cm.length w7.flatten]) H HA ?_
    (refine Dc ?_)
    (refine Dc ?_)
    (apply dw_cons; (focus ((intro B _ Lx c H HA; (repeat (first | (intro vx hx; have hx2 : vx = _ := hx; clear hx; subst hx2) | (intro vx hx; have HA := HA.addSF hx; clear hx) | (intro vx hx; have HA := HA.add hx; clear hx) | intro vx)); change W _ _ _ _ _ _ _); (refine s_nilCheck rfl rfl ?_); exact Dx)); exact inferInstance)
    (refine Dc ?_)
    (refine Dc ?_)
    (refine Dc ?_)
    (refine Dc ?_)
    (refine Dc ?_)
    (refine Dc ?_)
    refine dw_cons (s := .rel fun u c => SlV [(⟨⟨mkC S.cl.length, ES, []⟩, [], []⟩ : Cl)] [(Cl.cs ⟨⟨mkC S.cl.length, ES, []⟩, [], []⟩ (.slice none 0 0) (.slice none 0 0) (.slice none 0 0))] u c) ?_ inferInstance ?_
    · (intro B _ Lx c H HA; (repeat (first | (intro vx hx; have hx2 : vx = _ := hx; clear hx; subst hx2) | (intro vx hx; have HA := HA.addSF hx; clear hx) | (intro vx hx; have HA := HA.add hx; clear hx) | intro vx)); change W _ _ _ _ _ _ _)
      refine s_bs1V (α := Cl) (cs := (Cl.cs ⟨⟨mkC S.cl.length, ES, []⟩, [], []⟩ (.slice none 0 0) (.slice none 0 0) (.slice none 0 0))) (u := (⟨⟨mkC S.cl.length, ES, []⟩, [], []⟩ : Cl)) rfl rfl (show Enc.Ok (Cl.cs ⟨⟨mkC S.cl.length, ES, []⟩, [], []⟩ (.slice none 0 0) (.slice none 0 0) (.slice none 0 0)) (⟨⟨mkC S.cl.length, ES, []⟩, [], []⟩ : Cl) _ from ⟨_, _, _, rfl, Sl.nil _, Sl.nil _, Sl.nil _⟩) rfl rfl rfl H HA inferInstance ?_
      intro vx c H HA
      exact w_nil (pq_rel H Cu HA.h.1)
    refine dw_consE (pv := none) (r := .row v 30 7 X.length C.flatten) (sel := fun _ => .slice none 0 0) (S := KpG 30 c0.w.heap.size 7 v X.length C.flatten (X.length + [(⟨⟨mkC S.cl.length, ES, []⟩, [], []⟩ : Cl)].length) (C.flatten ++ [(Cl.cs ⟨⟨mkC S.cl.length, ES, []⟩, [], []⟩ (.slice none 0 0) (.slice none 0 0) (.slice none 0 0))].flatten)) (e := 30) (kk := 7) (m := 0) (xs := []) ?_ (fun _ => inferInstance) ?_
    · (intro B _ Lx c HA; (repeat (first | (intro vx hx; have hx2 : vx = _ := hx; clear hx; subst hx2) | (intro vx hx; have HA := HA.addSF hx; clear hx) | (intro vx hx; skip; have HA := HA.add hx; clear hx) | (intro vx; have hvx2 : Go.Value := vx; clear hvx2))); (first | intro H | (have H := HA.h.1; have HA := HA.cut)); change W _ _ _ _ _ _ _)
      have H : Owns c0 (.row v 30 7 X.length C.flatten :: (Lx ++ _)) c := H
      refine s_appKF rfl rfl rfl (Lk : Vals C X c) (Lk : SlV [(⟨⟨mkC S.cl.length, ES, []⟩, [], []⟩ : Cl)] [(Cl.cs ⟨⟨mkC S.cl.length, ES, []⟩, [], []⟩ (.slice none 0 0) (.slice none 0 0) (.slice none 0 0))] _ _) (by simp) rfl rfl rfl (by simp only [List.length_cons, List.length_nil, LIM]; omega) H HA inferInstance ?_
      intro vx c H HA
      exact w_nil (pq_eff (H.nilRow _ _) Cu ⟨HA.h.1, HA.h.2.1⟩)
    refine dw_cons (s := .rel (BsG (α := Cl) 30 c0.w.heap.size 7 (X ++ [(⟨⟨mkC S.cl.length, ES, []⟩, [], []⟩ : Cl)]) (X.length + [(⟨⟨mkC S.cl.length, ES, []⟩, [], []⟩ : Cl)].length) (C.flatten ++ [(Cl.cs ⟨⟨mkC S.cl.length, ES, []⟩, [], []⟩ (.slice none 0 0) (.slice none 0 0) (.slice none 0 0))].flatten))) ?_ inferInstance ?_
    · (intro B _ Lx c H HA; (repeat (first | (intro vx hx; have hx2 : vx = _ := hx; clear hx; subst hx2) | (intro vx hx; have HA := HA.addSF hx; clear hx) | (intro vx hx; have HA := HA.add hx; clear hx) | intro vx)); change W _ _ _ _ _ _ _)
      have hkp := (Lk : KpG 30 c0.w.heap.size 7 v X.length C.flatten (X.length + [(⟨⟨mkC S.cl.length, ES, []⟩, [], []⟩ : Cl)].length) (C.flatten ++ [(Cl.cs ⟨⟨mkC S.cl.length, ES, []⟩, [], []⟩ (.slice none 0 0) (.slice none 0 0) (.slice none 0 0))].flatten) _ c)
      have hsq : Sl _ (X ++ [(⟨⟨mkC S.cl.length, ES, []⟩, [], []⟩ : Cl)]) c := FrL.sl (vals := C ++ [(Cl.cs ⟨⟨mkC S.cl.length, ES, []⟩, [], []⟩ (.slice none 0 0) (.slice none 0 0) (.slice none 0 0))]) (by rw [List.length_append, List.flatten_append]; exact hkp.2) ((Lk : Vals C X c).append (vals_single (show Enc.Ok (Cl.cs ⟨⟨mkC S.cl.length, ES, []⟩, [], []⟩ (.slice none 0 0) (.slice none 0 0) (.slice none 0 0)) (⟨⟨mkC S.cl.length, ES, []⟩, [], []⟩ : Cl) c from ⟨_, _, _, rfl, Sl.nil _, Sl.nil _, Sl.nil _⟩))) rfl (by simp only [List.length_append, List.length_cons, List.length_nil, LIM]; omega)
      have HA := HA.add hkp.2
      refine s_bs1V (α := List Cl) (u := X ++ [(⟨⟨mkC S.cl.length, ES, []⟩, [], []⟩ : Cl)]) rfl (Cells.sl hsq) (show Enc.Ok [_] (X ++ [(⟨⟨mkC S.cl.length, ES, []⟩, [], []⟩ : Cl)]) _ from ⟨_, rfl, hsq⟩) rfl rfl rfl H HA inferInstance ?_
      intro vx c H HA
      exact w_nil (pq_rel H Cu ⟨_, HA.h.1, HA.h.2.1⟩)
    refine dw_consE (pv := none) (r := .row v7 37 1 (S).cm.length w7.flatten) (sel := fun _ => .slice none 0 0) (S := BkG 30 37 c0.w.heap.size 7 cS v X.length C.flatten (X.length + [(⟨⟨mkC S.cl.length, ES, []⟩, [], []⟩ : Cl)].length) (C.flatten ++ [(Cl.cs ⟨⟨mkC S.cl.length, ES, []⟩, [], []⟩ (.slice none 0 0) (.slice none 0 0) (.slice none 0 0))].flatten) ((S).cm.length + 1) w7.flatten) (e := 37) (kk := 1) (m := 0) (xs := []) ?_ (fun _ => inferInstance) ?_
    · (intro B _ Lx c HA; (repeat (first | (intro vx hx; have hx2 : vx = _ := hx; clear hx; subst hx2) | (intro vx hx; have HA := HA.addSF hx; clear hx) | (intro vx hx; skip; have HA := HA.add hx; clear hx) | (intro vx; have hvx2 : Go.Value := vx; clear hvx2))); (first | intro H | (have H := HA.h.1; have HA := HA.cut)); change W _ _ _ _ _ _ _)
      have H : Owns c0 (.row v7 37 1 (S).cm.length w7.flatten :: (Lx ++ _)) c := H
      have hkp := (Lk : KpG 30 c0.w.heap.size 7 v X.length C.flatten (X.length + [(⟨⟨mkC S.cl.length, ES, []⟩, [], []⟩ : Cl)].length) (C.flatten ++ [(Cl.cs ⟨⟨mkC S.cl.length, ES, []⟩, [], []⟩ (.slice none 0 0) (.slice none 0 0) (.slice none 0 0))].flatten) _ c)
      obtain ⟨q, hq1, hq2⟩ := (Lk : BsG (α := Cl) 30 c0.w.heap.size 7 (X ++ [(⟨⟨mkC S.cl.length, ES, []⟩, [], []⟩ : Cl)]) (X.length + [(⟨⟨mkC S.cl.length, ES, []⟩, [], []⟩ : Cl)].length) (C.flatten ++ [(Cl.cs ⟨⟨mkC S.cl.length, ES, []⟩, [], []⟩ (.slice none 0 0) (.slice none 0 0) (.slice none 0 0))].flatten) _ c)
      refine s_appVF (ys := [X ++ [(⟨⟨mkC S.cl.length, ES, []⟩, [], []⟩ : Cl)]]) (vals := [[q]]) (c1 := cS) rfl rfl rfl hq1 rfl rfl rfl Lt hkp.1 hq2 Lk hs1 H HA inferInstance ?_
      intro vx c H HA
      exact w_nil (pq_eff (H.nilRow _ _) Cu ⟨q, HA.h.1, HA.h.2.1, HA.h.2.2.1⟩)
    refine dw_doneT mixed (I := [.row v 30 7 X.length C.flatten, .row v7 37 1 (S).cm.length w7.flatten]) (by kernel_rfl) H HA (by kernel_rfl) ?_
    clear H HA
    intro c HA u49 h49 u50 h50 u51 h51 u52 h52 H
    obtain ⟨q, f1, f2, hp⟩ := h52
    have H := H.drop.drop
    change W _ _ _ _ _ _ _
    refine w_thawG H f1 f2 Lk (Nat.le_refl _) hp HS1 ?_
    clear H HA f1 f2 h49 h50 h51
    intro c H HA
    ((refine s_nilCheck rfl rfl ?_); refine Z3 ?_; refine Z77 fun c H HA => ?_; apply w_nil)
    have hb := (Lk : BkOk S2 _ c)
    have hv := (Lk : Vals C X c)
    have hkl : Sl v X c := FrL.sl HA.h.1 hv rfl (by simp only [LIM]; omega)
    have hkq : Sl q (X ++ [(⟨⟨mkC S.cl.length, ES, []⟩, [], []⟩ : Cl)]) c := FrL.sl (vals := C ++ [Cl.cs ⟨⟨mkC S.cl.length, ES, []⟩, [], []⟩ (.slice none 0 0) (.slice none 0 0) (.slice none 0 0)]) (by rw [List.length_append, List.flatten_append]; exact HA.h.2.1) (hv.append (vals_single (show Enc.Ok (Cl.cs ⟨⟨mkC S.cl.length, ES, []⟩, [], []⟩ (.slice none 0 0) (.slice none 0 0) (.slice none 0 0)) ((⟨⟨mkC S.cl.length, ES, []⟩, [], []⟩ : Cl)) c from ⟨_, _, _, rfl, Sl.nil _, Sl.nil _, Sl.nil _⟩))) rfl (by simp only [List.length_append, List.length_cons, List.length_nil, LIM]; omega)
    have H := ((((((((H.pull 1 rfl).pull 2 rfl).pull 8 rfl).pull 8 rfl).pull 8 rfl).pull 8 rfl).pull 8 rfl).pull 8 rfl).pull 8 rfl
    rw [show w6.flatten ++ [[v]].flatten = (w6 ++ [[v]]).flatten by simp, show w7.flatten ++ [[q]].flatten = (w7 ++ [[q]]).flatten by simp] at H
    have h6 : Vals w6 S.cl c := by
      have := hb.2.2.2.2.2.2.1
      rwa [hcl.1] at this
    have h7 : Vals w7 S.cm c := by
      have := hb.2.2.2.2.2.2.2
      rwa [hcl.2] at this
    refine norm_fnX (R := bkRes 64 24 27 28 37 b { S2 with cl := S.cl ++ [X], cm := S.cm ++ [X ++ [(⟨⟨mkC S.cl.length, ES, []⟩, [], []⟩ : Cl)]] } ⟨v0, v1, v2, v3, v4, v5, n0, u52, w0, w1, w2, w3, w4, w5, w6 ++ [[v]], w7 ++ [[q]]⟩) ?_ Ca (outs0 rfl) ⟨X, hXby, _, rfl, hb.1, hb.2.1, hb.2.2.1, hb.2.2.2.1, hb.2.2.2.2.1, hb.2.2.2.2.2.1, h6.append (vals_one hkl), h7.append (vals_one hkq)⟩
    simp only [bkRes, List.length_append, List.length_cons, List.length_nil]
    exact H
end Go.Proofs.YthkdggoohpgnnaaGreatDoor
/- The book holds: each list bears its own mark. -/
namespace Go.Wk
open Go Go.RowKit
theorem good_app {α : Type} {P : Nat → α → Prop} {l l' : List α} (h : ∀ i y, l[i]? = some y → P i y) (h' : ∀ i y, l'[i]? = some y → P (l.length + i) y) : ∀ i y, (l ++ l')[i]? = some y → P i y := by
  intro i y hy
  by_cases hi : i < l.length
  · rw [List.getElem?_append_left hi] at hy
    exact h i y hy
  · rw [List.getElem?_append_right (by omega)] at hy
    have := h' _ y hy
    rwa [show l.length + (i - l.length) = i by omega] at this
theorem good_one {α : Type} {P : Nat → α → Prop} {n : Nat} {x : α} (h : P n x) : ∀ i y, [x][i]? = some y → P (n + i) y := by
  intro i y hy
  cases i with
  | zero =>
    simp at hy
    subst hy
    exact h
  | succ i => simp at hy
/-- Each list bears its own mark. -/
structure Bk.Good (S : Bk) : Prop where
  h0 : ∀ i x, S.tl[i]? = some x → ∀ y ∈ x, y = mkT i
  h1 : ∀ i x, S.tm[i]? = some x → ∀ y ∈ x, y = mkT i
  h2 : ∀ i (x : List At0), S.al[i]? = some x → ∀ y ∈ x, y.by_ = mkA i
  h3 : ∀ i (x : List At0), S.am[i]? = some x → ∀ y ∈ x, y.by_ = mkA i
  h4 : ∀ i x, S.sl[i]? = some x → ∀ y ∈ x, y = mkS i
  h5 : ∀ i x, S.sm[i]? = some x → ∀ y ∈ x, y = mkS i
  h6 : ∀ i (x : List Cl), S.cl[i]? = some x → ∀ y ∈ x, y.head.by_ = mkC i
  h7 : ∀ i (x : List Cl), S.cm[i]? = some x → ∀ y ∈ x, y.head.by_ = mkC i
  e0 : S.tm.length = S.tl.length
  e2 : S.am.length = S.al.length
  e4 : S.sm.length = S.sl.length
  e6 : S.cm.length = S.cl.length
theorem mem_rep {α : Type} {n : Nat} {m : α} : ∀ y ∈ List.replicate n m, y = m := fun _ hy => (List.mem_replicate.1 hy).2
theorem Bk.Good.kt {S : Bk} (h : S.Good) (n : Nat) : (SKt S n).Good :=
  { h with
    h0 := good_app h.h0 (good_one (P := fun i x => ∀ y ∈ x, y = mkT i) mem_rep)
    h1 := good_app h.h1 (good_one (P := fun i x => ∀ y ∈ x, y = mkT i) (by rw [h.e0]; exact mem_rep))
    e0 := by simp [SKt, h.e0] }
theorem Bk.Good.kb {S : Bk} (h : S.Good) (xs : List At0) : (SKb S xs).Good :=
  { h with
    h0 := good_app h.h0 (tlOf_get _ xs)
    h1 := good_app h.h1 (fun i x hx => by rw [h.e0]; exact tmOf_get _ xs i x hx)
    h2 := good_app h.h2 (good_one (P := fun i (x : List At0) => ∀ y ∈ x, y.by_ = mkA i) (mkAt_by _ _ _))
    h3 := good_app h.h3 (good_one (P := fun i (x : List At0) => ∀ y ∈ x, y.by_ = mkA i) (by
      rw [h.e2]
      intro y hy
      rcases List.mem_append.1 hy with hy | hy
      · exact mkAt_by _ _ _ y hy
      · rw [List.mem_singleton.1 hy]))
    e0 := by simp [SKb, SKa, h.e0, tlOf_len, tmOf_len]
    e2 := by simp [SKb, h.e2] }
theorem Bk.Good.ks {S : Bk} (h : S.Good) (n : Nat) : (SKs S n).Good :=
  { h with
    h4 := good_app h.h4 (good_one (P := fun i x => ∀ y ∈ x, y = mkS i) mem_rep)
    h5 := good_app h.h5 (good_one (P := fun i x => ∀ y ∈ x, y = mkS i) (by rw [h.e4]; exact mem_rep))
    e4 := by simp [SKs, h.e4] }
theorem Bk.Good.kc {S : Bk} (h : S.Good) (x : Cl) : (SKc S x).Good := ((h.kt _).kb _).ks _
theorem Bk.Good.kcs {S : Bk} (h : S.Good) (l : List Cl) : (SKcs S l).Good := by
  induction l generalizing S with
  | nil => exact h
  | cons x l ih => exact ih (h.kc x)
theorem Bk.Good.kl {S : Bk} (h : S.Good) (l : List Cl) (X : List Cl) (hX : ∀ y ∈ X, y.head.by_ = mkC S.cl.length) : Bk.Good { SKcs S l with cl := S.cl ++ [X], cm := S.cm ++ [X ++ [⟨⟨mkC S.cl.length, ES, []⟩, [], []⟩]] } :=
  { h.kcs l with
    h6 := good_app h.h6 (good_one (P := fun i (x : List Cl) => ∀ y ∈ x, y.head.by_ = mkC i) hX)
    h7 := good_app h.h7 (good_one (P := fun i (x : List Cl) => ∀ y ∈ x, y.head.by_ = mkC i) (by
      rw [h.e6]
      intro y hy
      rcases List.mem_append.1 hy with hy | hy
      · exact hX y hy
      · rw [List.mem_singleton.1 hy]))
    e6 := by simp [h.e6] }
def Bk.nil : Bk := ⟨[], [], [], [], [], [], [], []⟩
theorem Bk.nil_good : Bk.nil.Good := by constructor <;> simp [Bk.nil]
theorem kl_le {S : Bk} {l X : List Cl} {y : Cl} {u : Nat} (h : S.Le u) : Bk.Le { SKcs S l with cl := S.cl ++ [X], cm := S.cm ++ [X ++ [y]] } (u + cw l + 1) := by
  have := SKcs_le (l := l) h
  unfold Bk.Le at *
  simp only [List.length_append, List.length_cons, List.length_nil]
  omega
theorem kt_le {S : Bk} {n u : Nat} (h : S.Le u) : (SKt S n).Le (u + 1) := by
  unfold Bk.Le at *
  simp only [SKt, List.length_append, List.length_cons, List.length_nil]
  omega
end Go.Wk
namespace Go.Proofs.YthkdggoohpgnnaaGreatDoor
open Go Go.Wk
instance : Fld Tryz.prog 64 8 8 := .of (k := 0) (by kernel_rfl)
instance : Fld Tryz.prog 64 9 9 := .of (k := 0) (by kernel_rfl)
instance : Prim Tryz.prog 62 := .of (by kernel_rfl) (by kernel_rfl)
instance : SlT Tryz.prog 62 109 := ⟨by kernel_rfl⟩
theorem Book_Holds (S : Bk) (b : Nat) (v0 v1 v2 v3 v4 v5 v6 v7 : Value) (c : Cx) (hB : Box b [v0, v1, v2, v3, v4, v5, v6, v7, .slice none 0 0, .slice none 0 0] c) (h0 : Sl v0 S.tl c) (h1 : Sl v1 S.tm c) (h2 : Sl v2 S.al c) (h3 : Sl v3 S.am c) (h4 : Sl v4 S.sl c) (h5 : Sl v5 S.sm c) (h6 : Sl v6 S.cl c) (h7 : Sl v7 S.cm c) (hG : S.Good) :
    Cn Tryz.prog 39 [.pointer (some ⟨b, 0, none⟩)] c (fun r _ => r = .bool true) := by
  refine Cn.of Tryz.func39 Tryz.ntmps39 rfl rfl fun hm H HA => ?_
  have l0 := h0.lim
  have l2 := h2.lim
  have l4 := h4.lim
  have l6 := h6.lim
  have HA := ((((((((HA.add hB).add h0).add h1).add h2).add h3).add h4).add h5).add h6).add h7
  have HA := HA.add (Sl.nil (α := Raw) c)
  (apply wc_seq; apply wc_region; refine Z2 ?_; apply w_nil; apply wx_next; apply wc_seq; apply wc_seq; apply wc_region; refine Z2 ?_; apply w_nil; apply wx_next; apply wc_block)
  refine wc_loopN S.tl.length (fun k => [(0, .pointer (some ⟨b, 0, none⟩)), (3, .int .i64 k)]) (fun _ => True) 0 H HA Ks (Nat.zero_le _) trivial ?_
  intro k g c hk _ H HA
  (focus (apply wc_seq; apply wc_seq; apply wc_region; refine Z0 ?_; refine Z0 ?_; (refine s_nilCheck rfl rfl ?_); refine Z3 ?_; refine Z1 ?_; refine Z45 ?_; refine Z93 (fun hq => ?_) fun hq => ?_; apply w_nil; apply wx_next; refine Z18 ?_; apply wc_skip; apply wx_next; apply wc_seq; apply wc_block; apply wc_seq; apply wc_region; refine Z0 ?_; refine Z54 ?_; refine Z61 fun bx c H HA => ?_; refine Z74 fun c H HA => ?_; apply w_nil; apply wx_next; apply wc_seq; rotate_left; apply w_nil; apply wx_next; refine Z19 ?_; apply wc_exit; apply wx_exit_then; apply wx_exit_then; apply wx_exit_same; apply wx_next; apply wc_seq; apply wc_seq; apply wc_region; refine Z2 ?_; apply w_nil; apply wx_next; apply wc_block; rotate_left))
  · obtain ⟨x, hx⟩ := getq (xs := S.tl) (k := k) (by omega)
    obtain ⟨y, hy⟩ := getq (xs := S.tm) (k := k) (by rw [hG.e0]; omega)
    (refine wc_freeze H HA ?_; intro c H HA)
    (refine dw_start H HA ?_)
    (refine Dc ?_)
    (apply dw_cons; (focus ((intro B _ Lx c H HA; (repeat (first | (intro vx hx; have hx2 : vx = _ := hx; clear hx; subst hx2) | (intro vx hx; have HA := HA.addSF hx; clear hx) | (intro vx hx; have HA := HA.add hx; clear hx) | intro vx)); change W _ _ _ _ _ _ _); (refine s_nilCheck rfl rfl ?_); exact Dx)); exact inferInstance)
    (repeat (refine Dc ?_))
    (apply dw_cons; (focus ((intro B _ Lx c H HA; (repeat (first | (intro vx hx; have hx2 : vx = _ := hx; clear hx; subst hx2) | (intro vx hx; have HA := HA.addSF hx; clear hx) | (intro vx hx; have HA := HA.add hx; clear hx) | intro vx)); change W _ _ _ _ _ _ _); (refine s_call rfl rfl H HA (ref03_allTerms x (mkT k) _ _ Lk (hG.h0 k x hx)) ?_; intro vx c H HP; have hvx := HP.h.1; have HA := HP.cut; subst hvx); exact Dx)); exact inferInstance)
    (refine Dc ?_)
    (refine Dc ?_)
    (refine Dc ?_)
    (apply dw_cons; (focus ((intro B _ Lx c H HA; (repeat (first | (intro vx hx; have hx2 : vx = _ := hx; clear hx; subst hx2) | (intro vx hx; have HA := HA.addSF hx; clear hx) | (intro vx hx; have HA := HA.add hx; clear hx) | intro vx)); change W _ _ _ _ _ _ _); (apply s_go; exact rfl; exact rfl; exact rfl); (refine s_nilCheck rfl rfl ?_); exact Dx)); exact inferInstance)
    (repeat (refine Dc ?_))
    (apply dw_cons; (focus ((intro B _ Lx c H HA; (repeat (first | (intro vx hx; have hx2 : vx = _ := hx; clear hx; subst hx2) | (intro vx hx; have HA := HA.addSF hx; clear hx) | (intro vx hx; have HA := HA.add hx; clear hx) | intro vx)); change W _ _ _ _ _ _ _); (apply s_go; exact rfl; exact rfl; exact rfl); (refine s_call rfl rfl H HA (ref03_allTerms y (mkT k) _ _ Lk (hG.h1 k y hy)) ?_; intro vx c H HP; have hvx := HP.h.1; have HA := HP.cut; subst hvx); exact Dx)); exact inferInstance)
    (repeat (refine Dc ?_))
    (refine dw_done mixed H HA rfl (by kernel_rfl) ?_; clear H HA; intro c H HA; (repeat (first | (intro vx hx; have hx2 : vx = _ := hx; clear hx; subst hx2) | (intro vx hx; have HA := HA.addSF hx; clear hx) | (intro vx hx; have HA := HA.add hx; clear hx) | intro vx)); change W _ _ _ _ _ _ _)
    (apply w_nil; apply wx_next; refine Z19 ?_; apply wc_skip; apply wx_norm_block; apply wx_next; apply wc_region; refine Z0 ?_; refine Z46 ?_; refine Z2 ?_; apply w_nil)
    exact wx_loopN (k + 1) H Cu Ks (by omega) trivial
  (skip)
  refine wc_loopN S.al.length (fun k => [(0, .pointer (some ⟨b, 0, none⟩)), (5, .int .i64 k)]) (fun _ => True) 0 H HA Ks (Nat.zero_le _) trivial ?_
  intro k g c hk _ H HA
  (focus (apply wc_seq; apply wc_seq; apply wc_region; refine Z0 ?_; refine Z0 ?_; (refine s_nilCheck rfl rfl ?_); refine Z3 ?_; refine Z1 ?_; refine Z45 ?_; refine Z93 (fun hq => ?_) fun hq => ?_; apply w_nil; apply wx_next; refine Z18 ?_; apply wc_skip; apply wx_next; apply wc_seq; apply wc_block; apply wc_seq; apply wc_region; refine Z0 ?_; refine Z54 ?_; refine Z61 fun bx c H HA => ?_; refine Z74 fun c H HA => ?_; apply w_nil; apply wx_next; apply wc_seq; rotate_left; apply w_nil; apply wx_next; refine Z19 ?_; apply wc_exit; apply wx_exit_then; apply wx_exit_then; apply wx_exit_same; apply wx_next; apply wc_seq; apply wc_seq; apply wc_region; refine Z2 ?_; apply w_nil; apply wx_next; apply wc_block; rotate_left))
  · obtain ⟨x, hx⟩ := getq (xs := S.al) (k := k) (by omega)
    obtain ⟨y, hy⟩ := getq (xs := S.am) (k := k) (by rw [hG.e2]; omega)
    (refine wc_freeze H HA ?_; intro c H HA)
    (refine dw_start H HA ?_)
    (refine Dc ?_)
    (apply dw_cons; (focus ((intro B _ Lx c H HA; (repeat (first | (intro vx hx; have hx2 : vx = _ := hx; clear hx; subst hx2) | (intro vx hx; have HA := HA.addSF hx; clear hx) | (intro vx hx; have HA := HA.add hx; clear hx) | intro vx)); change W _ _ _ _ _ _ _); (refine s_nilCheck rfl rfl ?_); exact Dx)); exact inferInstance)
    (repeat (refine Dc ?_))
    (apply dw_cons; (focus ((intro B _ Lx c H HA; (repeat (first | (intro vx hx; have hx2 : vx = _ := hx; clear hx; subst hx2) | (intro vx hx; have HA := HA.addSF hx; clear hx) | (intro vx hx; have HA := HA.add hx; clear hx) | intro vx)); change W _ _ _ _ _ _ _); (refine s_call rfl rfl H HA (ref03_allAtoms x (mkA k) _ _ Lk (hG.h2 k x hx)) ?_; intro vx c H HP; have hvx := HP.h.1; have HA := HP.cut; subst hvx); exact Dx)); exact inferInstance)
    (refine Dc ?_)
    (refine Dc ?_)
    (refine Dc ?_)
    (apply dw_cons; (focus ((intro B _ Lx c H HA; (repeat (first | (intro vx hx; have hx2 : vx = _ := hx; clear hx; subst hx2) | (intro vx hx; have HA := HA.addSF hx; clear hx) | (intro vx hx; have HA := HA.add hx; clear hx) | intro vx)); change W _ _ _ _ _ _ _); (apply s_go; exact rfl; exact rfl; exact rfl); (refine s_nilCheck rfl rfl ?_); exact Dx)); exact inferInstance)
    (repeat (refine Dc ?_))
    (apply dw_cons; (focus ((intro B _ Lx c H HA; (repeat (first | (intro vx hx; have hx2 : vx = _ := hx; clear hx; subst hx2) | (intro vx hx; have HA := HA.addSF hx; clear hx) | (intro vx hx; have HA := HA.add hx; clear hx) | intro vx)); change W _ _ _ _ _ _ _); (apply s_go; exact rfl; exact rfl; exact rfl); (refine s_call rfl rfl H HA (ref03_allAtoms y (mkA k) _ _ Lk (hG.h3 k y hy)) ?_; intro vx c H HP; have hvx := HP.h.1; have HA := HP.cut; subst hvx); exact Dx)); exact inferInstance)
    (repeat (refine Dc ?_))
    (refine dw_done mixed H HA rfl (by kernel_rfl) ?_; clear H HA; intro c H HA; (repeat (first | (intro vx hx; have hx2 : vx = _ := hx; clear hx; subst hx2) | (intro vx hx; have HA := HA.addSF hx; clear hx) | (intro vx hx; have HA := HA.add hx; clear hx) | intro vx)); change W _ _ _ _ _ _ _)
    (apply w_nil; apply wx_next; refine Z19 ?_; apply wc_skip; apply wx_norm_block; apply wx_next; apply wc_region; refine Z0 ?_; refine Z46 ?_; refine Z2 ?_; apply w_nil)
    exact wx_loopN (k + 1) H Cu Ks (by omega) trivial
  (skip)
  refine wc_loopN S.sl.length (fun k => [(0, .pointer (some ⟨b, 0, none⟩)), (7, .int .i64 k)]) (fun _ => True) 0 H HA Ks (Nat.zero_le _) trivial ?_
  intro k g c hk _ H HA
  (focus (apply wc_seq; apply wc_seq; apply wc_region; refine Z0 ?_; refine Z0 ?_; (refine s_nilCheck rfl rfl ?_); refine Z3 ?_; refine Z1 ?_; refine Z45 ?_; refine Z93 (fun hq => ?_) fun hq => ?_; apply w_nil; apply wx_next; refine Z18 ?_; apply wc_skip; apply wx_next; apply wc_seq; apply wc_block; apply wc_seq; apply wc_region; refine Z0 ?_; refine Z48 ?_; refine Z54 ?_; refine Z61 fun bx c H HA => ?_; refine Z74 fun c H HA => ?_; apply w_nil; apply wx_next; apply wc_seq; rotate_left; apply w_nil; apply wx_next; refine Z19 ?_; apply wc_exit; apply wx_exit_then; apply wx_exit_then; apply wx_exit_same; apply wx_next; apply wc_seq; apply wc_seq; apply wc_region; refine Z2 ?_; apply w_nil; apply wx_next; apply wc_block; rotate_left))
  · obtain ⟨x, hx⟩ := getq (xs := S.sl) (k := k) (by omega)
    obtain ⟨y, hy⟩ := getq (xs := S.sm) (k := k) (by rw [hG.e4]; omega)
    (refine wc_freeze H HA ?_; intro c H HA)
    (refine dw_start H HA ?_)
    (refine Dc ?_)
    (apply dw_cons; (focus ((intro B _ Lx c H HA; (repeat (first | (intro vx hx; have hx2 : vx = _ := hx; clear hx; subst hx2) | (intro vx hx; have HA := HA.addSF hx; clear hx) | (intro vx hx; have HA := HA.add hx; clear hx) | intro vx)); change W _ _ _ _ _ _ _); (refine s_nilCheck rfl rfl ?_); exact Dx)); exact inferInstance)
    (repeat (refine Dc ?_))
    (apply dw_cons; (focus ((intro B _ Lx c H HA; (repeat (first | (intro vx hx; have hx2 : vx = _ := hx; clear hx; subst hx2) | (intro vx hx; have HA := HA.addSF hx; clear hx) | (intro vx hx; have HA := HA.add hx; clear hx) | intro vx)); change W _ _ _ _ _ _ _); (refine s_call rfl rfl H HA (ref03_allTests x (mkS k) _ _ Lk (hG.h4 k x hx)) ?_; intro vx c H HP; have hvx := HP.h.1; have HA := HP.cut; subst hvx); exact Dx)); exact inferInstance)
    (refine Dc ?_)
    (refine Dc ?_)
    (refine Dc ?_)
    (apply dw_cons; (focus ((intro B _ Lx c H HA; (repeat (first | (intro vx hx; have hx2 : vx = _ := hx; clear hx; subst hx2) | (intro vx hx; have HA := HA.addSF hx; clear hx) | (intro vx hx; have HA := HA.add hx; clear hx) | intro vx)); change W _ _ _ _ _ _ _); (apply s_go; exact rfl; exact rfl; exact rfl); (refine s_nilCheck rfl rfl ?_); exact Dx)); exact inferInstance)
    (repeat (refine Dc ?_))
    (apply dw_cons; (focus ((intro B _ Lx c H HA; (repeat (first | (intro vx hx; have hx2 : vx = _ := hx; clear hx; subst hx2) | (intro vx hx; have HA := HA.addSF hx; clear hx) | (intro vx hx; have HA := HA.add hx; clear hx) | intro vx)); change W _ _ _ _ _ _ _); (apply s_go; exact rfl; exact rfl; exact rfl); (refine s_call rfl rfl H HA (ref03_allTests y (mkS k) _ _ Lk (hG.h5 k y hy)) ?_; intro vx c H HP; have hvx := HP.h.1; have HA := HP.cut; subst hvx); exact Dx)); exact inferInstance)
    (repeat (refine Dc ?_))
    (refine dw_done mixed H HA rfl (by kernel_rfl) ?_; clear H HA; intro c H HA; (repeat (first | (intro vx hx; have hx2 : vx = _ := hx; clear hx; subst hx2) | (intro vx hx; have HA := HA.addSF hx; clear hx) | (intro vx hx; have HA := HA.add hx; clear hx) | intro vx)); change W _ _ _ _ _ _ _)
    (apply w_nil; apply wx_next; refine Z19 ?_; apply wc_skip; apply wx_norm_block; apply wx_next; apply wc_region; refine Z0 ?_; refine Z46 ?_; refine Z2 ?_; apply w_nil)
    exact wx_loopN (k + 1) H Cu Ks (by omega) trivial
  (skip)
  refine wc_loopN S.cl.length (fun k => [(0, .pointer (some ⟨b, 0, none⟩)), (9, .int .i64 k)]) (fun _ => True) 0 H HA Ks (Nat.zero_le _) trivial ?_
  intro k g c hk _ H HA
  (focus (apply wc_seq; apply wc_seq; apply wc_region; refine Z0 ?_; refine Z0 ?_; (refine s_nilCheck rfl rfl ?_); refine Z3 ?_; refine Z1 ?_; refine Z45 ?_; refine Z93 (fun hq => ?_) fun hq => ?_; apply w_nil; apply wx_next; refine Z18 ?_; apply wc_skip; apply wx_next; apply wc_seq; apply wc_block; apply wc_seq; apply wc_region; refine Z0 ?_; refine Z54 ?_; refine Z61 fun bx c H HA => ?_; refine Z74 fun c H HA => ?_; apply w_nil; apply wx_next; apply wc_seq; rotate_left; apply w_nil; apply wx_next; refine Z19 ?_; apply wc_exit; apply wx_exit_then; apply wx_exit_then; apply wx_exit_same; apply wx_next; apply wc_seq; apply wc_seq; apply wc_region; refine Z2 ?_; apply w_nil; apply wx_next; apply wc_block; rotate_left))
  · obtain ⟨x, hx⟩ := getq (xs := S.cl) (k := k) (by omega)
    obtain ⟨y, hy⟩ := getq (xs := S.cm) (k := k) (by rw [hG.e6]; omega)
    (refine wc_freeze H HA ?_; intro c H HA)
    (refine dw_start H HA ?_)
    (refine Dc ?_)
    (apply dw_cons; (focus ((intro B _ Lx c H HA; (repeat (first | (intro vx hx; have hx2 : vx = _ := hx; clear hx; subst hx2) | (intro vx hx; have HA := HA.addSF hx; clear hx) | (intro vx hx; have HA := HA.add hx; clear hx) | intro vx)); change W _ _ _ _ _ _ _); (refine s_nilCheck rfl rfl ?_); exact Dx)); exact inferInstance)
    (repeat (refine Dc ?_))
    (apply dw_cons; (focus ((intro B _ Lx c H HA; (repeat (first | (intro vx hx; have hx2 : vx = _ := hx; clear hx; subst hx2) | (intro vx hx; have HA := HA.addSF hx; clear hx) | (intro vx hx; have HA := HA.add hx; clear hx) | intro vx)); change W _ _ _ _ _ _ _); (refine s_call rfl rfl H HA (ref03_allHeads x (mkC k) _ _ Lk (hG.h6 k x hx)) ?_; intro vx c H HP; have hvx := HP.h.1; have HA := HP.cut; subst hvx); exact Dx)); exact inferInstance)
    (refine Dc ?_)
    (refine Dc ?_)
    (refine Dc ?_)
    (apply dw_cons; (focus ((intro B _ Lx c H HA; (repeat (first | (intro vx hx; have hx2 : vx = _ := hx; clear hx; subst hx2) | (intro vx hx; have HA := HA.addSF hx; clear hx) | (intro vx hx; have HA := HA.add hx; clear hx) | intro vx)); change W _ _ _ _ _ _ _); (apply s_go; exact rfl; exact rfl; exact rfl); (refine s_nilCheck rfl rfl ?_); exact Dx)); exact inferInstance)
    (repeat (refine Dc ?_))
    (apply dw_cons; (focus ((intro B _ Lx c H HA; (repeat (first | (intro vx hx; have hx2 : vx = _ := hx; clear hx; subst hx2) | (intro vx hx; have HA := HA.addSF hx; clear hx) | (intro vx hx; have HA := HA.add hx; clear hx) | intro vx)); change W _ _ _ _ _ _ _); (apply s_go; exact rfl; exact rfl; exact rfl); (refine s_call rfl rfl H HA (ref03_allHeads y (mkC k) _ _ Lk (hG.h7 k y hy)) ?_; intro vx c H HP; have hvx := HP.h.1; have HA := HP.cut; subst hvx); exact Dx)); exact inferInstance)
    (repeat (refine Dc ?_))
    (refine dw_done mixed H HA rfl (by kernel_rfl) ?_; clear H HA; intro c H HA; (repeat (first | (intro vx hx; have hx2 : vx = _ := hx; clear hx; subst hx2) | (intro vx hx; have HA := HA.addSF hx; clear hx) | (intro vx hx; have HA := HA.add hx; clear hx) | intro vx)); change W _ _ _ _ _ _ _)
    (apply w_nil; apply wx_next; refine Z19 ?_; apply wc_skip; apply wx_norm_block; apply wx_next; apply wc_region; refine Z0 ?_; refine Z46 ?_; refine Z2 ?_; apply w_nil)
    exact wx_loopN (k + 1) H Cu Ks (by omega) trivial
  (skip)
  refine wc_loopN 0 (fun k => [(0, .pointer (some ⟨b, 0, none⟩)), (11, .int .i64 k)]) (fun _ => True) 0 H HA Ks (Nat.zero_le _) trivial ?_
  intro k g c hk _ H HA
  (focus (apply wc_seq; apply wc_seq; apply wc_region; refine Z0 ?_; refine Z0 ?_; (refine s_nilCheck rfl rfl ?_); refine Z3 ?_; refine Z1 ?_; refine Z44 ?_; refine Z93 (fun hq => ?_) fun hq => ?_; apply w_nil; apply wx_next; refine Z18 ?_; apply wc_skip; apply wx_next; apply wc_seq; apply wc_block; apply wc_seq; apply wc_region; refine Z0 ?_; rotate_left; apply w_nil; apply wx_next; refine Z19 ?_; apply wc_exit; apply wx_exit_then; apply wx_exit_then; apply wx_exit_same; apply wx_next; apply wc_seq; apply wc_region; refine Z2 ?_; apply w_nil; apply wx_next; apply wc_ret; rotate_left))
  · exact absurd hq (by omega)
  · exact ret_fn H hm (outs1 Tryz.results39 Wh) rfl
end Go.Proofs.YthkdggoohpgnnaaGreatDoor
/- SubsumeApart: what its function answers. -/
namespace Go.Wk
open Go Go.RowKit
theorem Cl.Ok.sz {x : Cl} (h : x.Ok) : x.sz := by
  have hh := (check_parts (h.at_ _ (List.mem_cons_self ..))).2.1
  have hb := h.b8
  have ht := h.t8
  refine ⟨by omega, fun a ha => ?_, by omega, by omega⟩
  have := (check_parts (h.at_ a (List.mem_cons_of_mem _ ha))).2.1
  omega
theorem cw_ok : ∀ {l : List Cl}, (∀ x ∈ l, x.Ok) → cw l ≤ 9 * l.length
  | [], _ => Nat.zero_le _
  | x :: l, h => by
    have := cw_ok (l := l) fun y hy => h y (.tail _ hy)
    have hb := (h x (.head _)).b8
    simp only [cw, List.map_cons, List.sum_cons, List.length_cons] at this ⊢
    omega
theorem At0.termsm' {a : At0} (h : a.sm) : ∀ t ∈ a.terms, t.sm := fun t ht => by
  rcases List.mem_cons.1 ht with rfl | ht
  · exact h.2.1
  · exact h.2.2 t ht
theorem perm_of_count {l l' : List Res} (h : ∀ [BEq Res] [LawfulBEq Res] (a : Res), l.count a = l'.count a) : l.Perm l' := by
  classical
  exact List.perm_iff_count.2 fun a => h a
theorem perm_ap {A A' B : List Res} {ra rb o14 o18 : Res} : ((A' ++ (rb :: (A ++ [ra]))) ++ (o18 :: o14 :: B)).Perm ((ra :: B) ++ (A ++ (rb :: (A' ++ [o14, o18])))) := perm_of_count fun a => by
  simp only [List.count_append, List.count_cons, List.count_nil]
  omega
/-- The book with nothing in it. -/
theorem bk_nil {c0 c : Cx} {b : Nat} {T e0 e2 e4 e6 : TypeId} {L : List Res} (H : Owns c0 (.obj b (.cells [.slice none 0 0, .slice none 0 0, .slice none 0 0, .slice none 0 0, .slice none 0 0, .slice none 0 0, .slice none 0 0, .slice none 0 0, .slice none 0 0, .slice none 0 0].toArray T (0, 0)) :: L) c) :
    ∃ V, Owns c0 (bkRes T e0 e2 e4 e6 b Bk.nil V ++ L) c ∧ BkOk Bk.nil V c := by
  refine ⟨⟨.slice none 0 0, .slice none 0 0, .slice none 0 0, .slice none 0 0, .slice none 0 0, .slice none 0 0, .slice none 0 0, .slice none 0 0, [], [], [], [], [], [], [], []⟩, ?_, Vals.nil _, Vals.nil _, Vals.nil _, Vals.nil _, Vals.nil _, Vals.nil _, Vals.nil _, Vals.nil _⟩
  have H := (((((((H.nilRow e0 1).nilRow e0 1).nilRow e2 1).nilRow e2 1).nilRow e4 1).nilRow e4 1).nilRow e6 1).nilRow e6 1
  refine H.perm (perm_of_count fun a => ?_)
  simp only [bkRes, Bk.nil, List.length_nil, List.flatten_nil, List.cons_append, List.nil_append, List.count_cons]
  omega
/-- One of the two values of an answer: a row that none else has. -/
def TmF (e : TypeId) (base : Nat) (R : List Res) (ts : List Tm) (v : Value) (c : Cx) : Prop := Sl v ts c ∧ FrL base (.row v e 3 ts.length (ts.map Tm.cs).flatten :: R) c
instance (e : TypeId) (base : Nat) (R : List Res) (ts : List Tm) (v : Value) : Mono (TmF e base R ts v) := ⟨fun h ⟨k, k2⟩ => ⟨Mono.mono h k, Mono.mono h k2⟩⟩
/-- The pair of such a value and yes. -/
def TyF (e : TypeId) (base : Nat) (R : List Res) (ts : List Tm) (v : Value) (c : Cx) : Prop := ∃ v', v = .tuple #[v', .bool true] ∧ TmF e base R ts v' c
instance (e : TypeId) (base : Nat) (R : List Res) (ts : List Tm) (v : Value) : Mono (TyF e base R ts v) := ⟨fun h ⟨v', e, k⟩ => ⟨v', e, Mono.mono h k⟩⟩
theorem MoF.ty {e : TypeId} {base : Nat} {R : List Res} {r : Option (List Tm)} {ts : List Tm} {v : Value} {c : Cx} (h : MoF e 3 Tm.cs base R r v c) (hr : r = some ts) : TyF e base R ts v c := by
  subst hr
  obtain ⟨v', e, k, k2⟩ := h
  exact ⟨v', e, k, k2⟩
end Go.Wk
namespace Go.Proofs.YthkdggoohpgnnaaGreatDoor
open Go Go.Wk
instance : Zer Tryz.prog 64 (.agg #[.slice none 0 0, .slice none 0 0, .slice none 0 0, .slice none 0 0, .slice none 0 0, .slice none 0 0, .slice none 0 0, .slice none 0 0, .slice none 0 0, .slice none 0 0]) := .of (by kernel_rfl)
set_option maxHeartbeats 4000000 in
theorem law_Apart (xs : List Cl) (v : Value) (c : Cx) (h : Sl v xs c) (hs : ∀ x ∈ xs, x.sm) (hlen : xs.length ≤ 1048576) (hg : GlobOk c) : Cn Tryz.prog 9 [v] c (fun r _ => r = .bool true) := by
  refine Cn.of Tryz.func9 Tryz.ntmps9 rfl rfl fun hm H HA => ?_
  have HA := (HA.add h).add hg
  (apply wc_seq; apply wc_region; refine Z2 ?_; apply w_nil; apply wx_next; apply wc_seq; apply wc_region; refine Z0 ?_)
  (refine s_call rfl rfl H HA (ref03_MadeAll xs _ _ Lk hs) ?_; intro vx c H HA)
  (refine Z2 ?_; apply w_nil; apply wx_next; apply wc_seq; apply wc_region; refine Z0 ?_)
  (obtain ⟨vc, rfl⟩ : ∃ x, x = vx := ⟨_, rfl⟩)
  (refine s_call rfl rfl H HA (ref03_MadeAll xs _ _ Lk hs) ?_; intro vx c H HA)
  (obtain ⟨vk, rfl⟩ : ∃ x, x = vx := ⟨_, rfl⟩)
  have hok : ∀ x ∈ xs.map madeC, x.Ok := fun x hx => by
    obtain ⟨y, _, rfl⟩ := List.mem_map.1 hx
    exact madeC_ok y
  have hcl : (xs.map madeC).length ≤ 1048576 := by simpa using hlen
  generalize xs.map madeC = cs at *
  obtain ⟨l, hl⟩ : ∃ l, RedC cs l := ⟨_, redC_of hok⟩
  have hll := hl.len
  (refine Z2 ?_; apply w_nil; apply wx_next; apply wc_seq; apply wc_region; refine Z0 ?_)
  (refine s_call rfl rfl H HA (subsume_Reduce cs _ _ Lk (fun x hx => (hok x hx).fit) Lk) ?_; intro vx c H HA)
  rw [hl.e] at HA
  obtain ⟨u1, hr, hA1⟩ := HA.h.1
  subst hr
  have HA := HA.cut.add (show Sl u1 l c from hA1)
  have e0 : (0 : Int) = 0 := rfl
  (refine Z0 ?_; refine Z32 ?_; refine Z32 ?_; refine Z2 ?_; refine Z2 ?_; apply w_nil; apply wx_next; apply wc_seq; apply wc_seq; apply wc_region; refine Z0 ?_; refine Z82 ?_; refine Z0 ?_; refine Z4 ?_)
  (refine s_call rfl rfl H HA (law_head _ Lk) ?_; intro vx c H HP; have hvx := HP.h.1; have HA := HP.cut; subst hvx)
  (refine Z4 ?_; refine Z33 ?_; refine Z30 ?_; apply w_nil; apply wx_next; refine Z19 ?_; apply wc_skip; apply wx_next; apply wc_seq; apply wc_region; refine Z61 fun bx c H HA => ?_; apply w_nil; apply wx_next; apply wc_seq; apply wc_seq; apply wc_region; refine Z2 ?_; apply w_nil; apply wx_next; apply wc_block)
  (obtain ⟨b7, rfl⟩ : ∃ x, x = bx := ⟨_, rfl⟩)
  obtain ⟨V0, H, hv0⟩ := bk_nil (e0 := 24) (e2 := 27) (e4 := 28) (e6 := 37) H
  rw [List.append_nil] at H
  refine wc_loopG (σ := Nat × Bk × BkV) (fun y => 2 - y.1) (fun y => [(3, vc), (4, vk), (5, u1), (7, .pointer (some ⟨b7, 0, none⟩)), (8, .int .i64 y.1)]) (fun y => y.1 ≤ 2 ∧ y.2.1.Good ∧ y.2.1.Le (y.1 * (29 * cs.length + 1)))
    (fun y => bkRes 64 24 27 28 37 b7 y.2.1 y.2.2) (fun y c => BkOk y.2.1 y.2.2 c) (0, Bk.nil, V0) H HA hv0 Ks ⟨Nat.zero_le _, Bk.nil_good, by unfold Bk.Le Bk.nil; simp⟩ ?_
  intro y g c hp H HA
  obtain ⟨rd, S, V⟩ := y
  obtain ⟨hrd, hG, hLe⟩ := hp
  dsimp only at hrd hG hLe H HA ⊢
  have hru : rd * (29 * cs.length + 1) ≤ 2 * (29 * cs.length + 1) := Nat.mul_le_mul_right _ hrd
  apply wc_seq
  apply wc_seq
  (focus (apply wc_region; refine Z0 ?_; refine Z93 (fun hq => ?_) fun hq => ?_; apply w_nil; apply wx_next; refine Z18 ?_; apply wc_skip; apply wx_next; rotate_left; apply w_nil; apply wx_next; refine Z19 ?_; apply wc_exit; apply wx_exit_then; apply wx_exit_then; apply wx_exit_same; apply wx_next; rotate_left))
  · obtain ⟨c1, hc1⟩ : ∃ q, q = c := ⟨_, rfl⟩
    subst hc1
    have HS := HA
    have hx0 := H.ext.size
    have HA := HA.add (show Since c1 c1 from Le.refl c1)
    (apply wc_seq; apply wc_block; apply wc_seq; apply wc_region; refine Z0 ?_)
    (refine s_call rfl rfl H HA (subsume_ReduceF cs _ _ c1.w.heap.size [] (FrL.nil _ _) (Le.size (Lk : Since c1 _)) Lk (fun x hx => (hok x hx).fit) Lk) ?_; intro vx c H HA)
    rw [hl.e] at HA
    obtain ⟨u2, hr, D, hD, hS2, hpo, hF⟩ := HA.h.1
    subst hr
    have HA := (HA.cut.add (show Sl u2 l c from hS2)).add hF
    (refine Z0 ?_; refine Z32 ?_; refine Z32 ?_; refine Z2 ?_; refine Z2 ?_; apply w_nil; apply wx_next; apply wc_seq; apply wc_seq; apply wc_region; refine Z0 ?_; refine Z82 ?_; refine Z0 ?_; refine Z4 ?_; refine Z0 ?_; refine Z4 ?_; refine Z0 ?_; refine Z4 ?_)
    (refine s_call rfl rfl H HA (Cn.imp (Post' := fun v _ => v = .bool true) (ref03_SameClauses l l _ _ _ (Lk : Sl u2 l _) (Lk : Sl u1 l _)) (fun v c' _ h => by rw [h, decide_eq_true rfl])) ?_; intro vx c H HP; have hvx := HP.h.1; have HA := HP.cut; subst hvx)
    (refine Z4 ?_; refine Z33 ?_; refine Z30 ?_; apply w_nil; apply wx_next; refine Z19 ?_; apply wc_skip; apply wx_next; apply wc_seq; apply wc_region; refine Z0 ?_)
    have hlD : D.length = l.length := by rw [← List.length_map ClD.x, hD]
    have hFc : FrL c1.w.heap.size (.row u2 30 7 D.length (D.map ClD.cells).flatten :: (D.flatMap (ClD.rows 23 26 79) ++ [])) c := by
      rw [hlD]
      exact Lk
    refine w_thaw H hFc (Lk : Since c1 _) hx0 (Nat.le_refl _) HS ?_
    clear H HA HP hFc hF hS2
    intro c H HA
    rw [List.append_nil] at H
    have H := H.perm (List.Perm.of_eq (show _ = (.row u2 30 7 D.length (D.map ClD.cells).flatten :: (D.flatMap (ClD.rows 23 26 79) ++ bkRes 64 24 27 28 37 b7 S V)) ++ [] by rw [List.append_nil]; rfl))
    have hDx : D.map ClD.x = l := hD
    have hcwl : cw (D.map ClD.x) ≤ 9 * l.length := by
      rw [hDx]
      exact cw_ok hl.ok
    refine s_callX (pre := .row u2 30 7 D.length (D.map ClD.cells).flatten :: (D.flatMap (ClD.rows 23 26 79) ++ bkRes 64 24 27 28 37 b7 S V)) rfl rfl H HA (Book_KeepClauses b7 S V D u2 _ _ Lk (fun p hp => (hpo p hp).1) hLe (by omega) (fun p hp => (hl.ok p.x (by rw [← hDx]; exact List.mem_map_of_mem hp)).sz) (by omega)) ?_
    intro vx R c H HA
    obtain ⟨X, hX, V1, hR, hok1⟩ := HA.h.1
    subst hR
    have HA := HA.cut.add hok1
    have hG1 := hG.kl (D.map ClD.x) X hX
    have hLe1 := kl_le (l := D.map ClD.x) (X := X) (y := ⟨⟨mkC S.cl.length, ES, []⟩, [], []⟩) hLe
    have hLe1 := hLe1.mono (u' := rd * (29 * cs.length + 1) + 9 * cs.length + 1) (by omega)
    generalize hS1 : ({ SKcs S (D.map ClD.x) with cl := S.cl ++ [X], cm := S.cm ++ [X ++ [⟨⟨mkC S.cl.length, ES, []⟩, [], []⟩]] } : Bk) = S1 at H HA hG1 hLe1
    rw [List.append_nil] at H
    (apply w_nil; apply wx_next; apply wc_seq; apply wc_region; refine Z2 ?_; apply w_nil; apply wx_next; apply wc_block)
    refine wc_loopG (σ := Nat × Bk × BkV) (fun y => cs.length - y.1) (fun y => [(3, vc), (4, vk), (5, u1), (7, .pointer (some ⟨b7, 0, none⟩)), (8, .int .i64 rd), (11, .int .i64 y.1)]) (fun y => y.1 ≤ cs.length ∧ y.2.1.Good ∧ y.2.1.Le (rd * (29 * cs.length + 1) + 9 * cs.length + 1 + y.1 * 20))
      (fun y => bkRes 64 24 27 28 37 b7 y.2.1 y.2.2) (fun y c => BkOk y.2.1 y.2.2 c) (0, S1, V1) H HA Lk Ks ⟨Nat.zero_le _, hG1, hLe1.mono (by omega)⟩ ?_
    clear hok1 hG1 hLe1 hS1 hX H HA HS hx0
    intro y g c hp H HA
    obtain ⟨i, S2, V2⟩ := y
    obtain ⟨hi, hG2, hLe2⟩ := hp
    dsimp only at hi hG2 hLe2 H HA ⊢
    have hx0 := H.ext.size
    (focus (apply wc_seq; apply wc_seq; apply wc_region; refine Z0 ?_; refine Z0 ?_; refine Z45 ?_; refine Z93 (fun hq => ?_) fun hq => ?_; apply w_nil; apply wx_next; refine Z18 ?_; apply wc_skip; apply wx_next; apply wc_seq; apply wc_block; apply wc_seq; rotate_left; apply w_nil; apply wx_next; refine Z19 ?_; apply wc_exit; apply wx_exit_then; apply wx_exit_then; apply wx_exit_same; apply wx_norm_block; apply wx_next; apply wc_region; refine Z0 ?_; refine Z46 ?_; refine Z2 ?_; apply w_nil; rotate_left))
    · obtain ⟨x, hx⟩ := getq (xs := cs) (k := i) (by omega)
      obtain ⟨c2, hc2⟩ : ∃ q, q = c := ⟨_, rfl⟩
      subst hc2
      have HS := HA
      have HA := HA.add (show Since c2 c2 from Le.refl c2)
      have okx := hok x (List.mem_of_getElem? hx)
      have hx00 : x.check = 0 := Cl.check_ok.2 okx
      obtain ⟨ts, hts⟩ : ∃ ts, subs x x = some ts := Option.isSome_iff_exists.1 (subs_iff.2 (SubC.refl okx))
      have hpt := subs_part hts
      have hcc := condC_cond okx
      have okd := hcc.ok
      have hdx : (subs (condC x) x).isSome = true := subs_iff.2 hcc.alike.2
      have htsm : ∀ t ∈ ts, t.sm := fun t ht => by
        have hs : SubC x x := subs_iff.1 (by rw [hts]; rfl)
        have ha := subsR_ans hs.1 hs.2.1
        rw [show subsR x x = some ts from hts] at ha
        have hm := (full_k hs.1 hs.2.1 ha.1 t ht).1
        obtain ⟨y, hy, hm⟩ := List.mem_flatMap.1 hm
        exact Wk.At0.termsm' (okx.sm.2.1 y hy) t hm
      have hnv := okx.nv_le
      generalize hdd : condC x = d at *
      (refine dw_start H HA ?_)
      (repeat (refine Dc ?_))
      (apply dw_cons; (focus ((intro B _ Lx c H HA; (repeat (first | (intro vx hx; have hx2 : vx = _ := hx; clear hx; subst hx2) | (intro vx hx; have HA := HA.addSF hx; clear hx) | (intro vx hx; have HA := HA.add hx; clear hx) | intro vx)); change W _ _ _ _ _ _ _); refine s_call rfl rfl H HA (Cn.imp (Post' := fun v c => TyF 23 c2.w.heap.size [] ts v c) (subsume_SubsumesF x x _ _ _ c2.w.heap.size [] (FrL.nil _ _) (Le.size (Lk : Since c2 _)) Lk Lk okx.fit okx.fit Lk) (fun v c' _ h => h.ty hts)) ?_; intro vx c H HP; exact w_nil (pq_rel H (Cp) HP.h.1))); exact inferInstance)
      (apply dw_cons; (focus ((intro B _ Lx c H HA; (repeat (first | (intro vx hx; have hx2 : vx = _ := hx; clear hx; subst hx2) | (intro vx hx; have HA := HA.addSF hx; clear hx) | (intro vx hx; have HA := HA.add hx; clear hx) | intro vx)); change W _ _ _ _ _ _ _); (apply s_move; exact rfl; (conv => lhs; whnf)); exact w_nil (pq_rel (S := TyF 23 c2.w.heap.size [] ts) H (Cu) Lk))); exact inferInstance)
      refine dw_cons (s := .rel (TmF 23 c2.w.heap.size [] ts)) ?_ inferInstance ?_
      · (intro B _ Lx c H HA; (repeat (first | (intro vx hx; have hx2 : vx = _ := hx; clear hx; subst hx2) | (intro vx hx; have HA := HA.addSF hx; clear hx) | (intro vx hx; have HA := HA.add hx; clear hx) | intro vx)); change W _ _ _ _ _ _ _)
        obtain ⟨vm, hr, hSm⟩ := HA.h.1
        subst hr
        (apply s_extract; exact rfl; exact rfl; exact rfl)
        exact w_nil (pq_rel H Cu hSm)
      (apply dw_cons; (focus ((intro B _ Lx c H HA; (repeat (first | (intro vx hx; have hx2 : vx = _ := hx; clear hx; subst hx2) | (intro vx hx; have HA := HA.addSF hx; clear hx) | (intro vx hx; have HA := HA.add hx; clear hx) | intro vx)); change W _ _ _ _ _ _ _); (obtain ⟨vm, hr, hSm⟩ := HA.h.1; subst hr; have HA := HA.cut.add hSm); (apply s_extract; exact rfl; exact rfl; exact rfl); exact Dx)); exact inferInstance)
      refine dw_cons (s := .rel (TmF 23 c2.w.heap.size [] ts)) ?_ inferInstance ?_
      · (intro B _ Lx c H HA; (repeat (first | (intro vx hx; have hx2 : vx = _ := hx; clear hx; subst hx2) | (intro vx hx; have HA := HA.addSF hx; clear hx) | (intro vx hx; have HA := HA.add hx; clear hx) | intro vx)); change W _ _ _ _ _ _ _)
        (apply s_assign; exact rfl; (conv => lhs; whnf))
        exact w_nil (pq_rel H Cu Lk)
      (repeat (refine Dc ?_))
      (refine dw_done mixed H HA rfl (by kernel_rfl) ?_; clear H HA; intro c H HA; (repeat (first | (intro vx hx; have hx2 : vx = _ := hx; clear hx; subst hx2) | (intro vx hx; have HA := HA.addSF hx; clear hx) | (intro vx hx; have HA := HA.add hx; clear hx) | intro vx)); change W _ _ _ _ _ _ _)
      (obtain ⟨va, rfl⟩ : ∃ x, x = vx := ⟨_, rfl⟩)
      have hTa := (Lk : TmF 23 c2.w.heap.size [] ts va _)
      have HA := (HA.add hTa.1).add hTa.2
      (apply w_nil; apply wx_next; apply wc_seq; apply wc_region; refine Z0 ?_; refine Z0 ?_; refine Z34 HA fun vx HA => ?_; refine Z39 HA fun vx HA => ?_)
      (refine s_call rfl rfl H HA (subsume_CondenseF x _ _ c2.w.heap.size [.row va 23 3 ts.length (ts.map Tm.cs).flatten] Lk (Le.size (Lk : Since c2 _)) Lk okx.fit Lk) ?_; intro vx c H HA)
      rw [condE, if_pos hx00, hx00, hdd] at HA
      obtain ⟨w1, hr, hcf⟩ := HA.h.1
      subst hr
      have HA := HA.cut.add hcf.ag
      obtain ⟨d0, d1, d2, wd, hw1, hlwd, k0, k1, k2, k3, kF⟩ := hcf
      subst hw1
      have HA := (((HA.add k0).add k1).add k2).add kF
      (refine Z0 ?_; refine Z32 ?_; refine Z32 ?_; refine Z61 fun bx c H HA => ?_; refine Z74 fun c H HA => ?_; refine Z2 ?_; apply w_nil; apply wx_next; apply wc_seq)
      (obtain ⟨b14, rfl⟩ : ∃ x, x = bx := ⟨_, rfl⟩)
      (refine dw_start H HA ?_)
      (repeat (refine Dc ?_))
      (apply dw_cons; (focus ((intro B _ Lx c H HA; (repeat (first | (intro vx hx; have hx2 : vx = _ := hx; clear hx; subst hx2) | (intro vx hx; have HA := HA.addSF hx; clear hx) | (intro vx hx; have HA := HA.add hx; clear hx) | intro vx)); change W _ _ _ _ _ _ _); refine s_call rfl rfl H HA (Cn.imp (Post' := fun v c => TyF 23 c2.w.heap.size (clRows 23 26 79 d d0 d1 d2 wd ++ [.row va 23 3 ts.length (ts.map Tm.cs).flatten]) ts v c) (subsume_SubsumesF x x _ _ _ c2.w.heap.size (clRows 23 26 79 d d0 d1 d2 wd ++ [.row va 23 3 ts.length (ts.map Tm.cs).flatten]) Lk (Le.size (Lk : Since c2 _)) Lk Lk okx.fit okx.fit Lk) (fun v c' _ h => h.ty hts)) ?_; intro vx c H HP; exact w_nil (pq_rel H (Cp) HP.h.1))); exact inferInstance)
      (apply dw_cons; (focus ((intro B _ Lx c H HA; (repeat (first | (intro vx hx; have hx2 : vx = _ := hx; clear hx; subst hx2) | (intro vx hx; have HA := HA.addSF hx; clear hx) | (intro vx hx; have HA := HA.add hx; clear hx) | intro vx)); change W _ _ _ _ _ _ _); (apply s_move; exact rfl; (conv => lhs; whnf)); exact w_nil (pq_rel (S := TyF 23 c2.w.heap.size (clRows 23 26 79 d d0 d1 d2 wd ++ [.row va 23 3 ts.length (ts.map Tm.cs).flatten]) ts) H (Cu) Lk))); exact inferInstance)
      refine dw_cons (s := .rel (TmF 23 c2.w.heap.size (clRows 23 26 79 d d0 d1 d2 wd ++ [.row va 23 3 ts.length (ts.map Tm.cs).flatten]) ts)) ?_ inferInstance ?_
      · (intro B _ Lx c H HA; (repeat (first | (intro vx hx; have hx2 : vx = _ := hx; clear hx; subst hx2) | (intro vx hx; have HA := HA.addSF hx; clear hx) | (intro vx hx; have HA := HA.add hx; clear hx) | intro vx)); change W _ _ _ _ _ _ _)
        obtain ⟨vm, hr, hSm⟩ := HA.h.1
        subst hr
        (apply s_extract; exact rfl; exact rfl; exact rfl)
        exact w_nil (pq_rel H Cu hSm)
      (apply dw_cons; (focus ((intro B _ Lx c H HA; (repeat (first | (intro vx hx; have hx2 : vx = _ := hx; clear hx; subst hx2) | (intro vx hx; have HA := HA.addSF hx; clear hx) | (intro vx hx; have HA := HA.add hx; clear hx) | intro vx)); change W _ _ _ _ _ _ _); (obtain ⟨vm, hr, hSm⟩ := HA.h.1; subst hr; have HA := HA.cut.add hSm); (apply s_extract; exact rfl; exact rfl; exact rfl); exact Dx)); exact inferInstance)
      refine dw_cons (s := .rel (TmF 23 c2.w.heap.size (clRows 23 26 79 d d0 d1 d2 wd ++ [.row va 23 3 ts.length (ts.map Tm.cs).flatten]) ts)) ?_ inferInstance ?_
      · (intro B _ Lx c H HA; (repeat (first | (intro vx hx; have hx2 : vx = _ := hx; clear hx; subst hx2) | (intro vx hx; have HA := HA.addSF hx; clear hx) | (intro vx hx; have HA := HA.add hx; clear hx) | intro vx)); change W _ _ _ _ _ _ _)
        (apply s_assign; exact rfl; (conv => lhs; whnf))
        exact w_nil (pq_rel H Cu Lk)
      (repeat (refine Dc ?_))
      (refine dw_done mixed H HA rfl (by kernel_rfl) ?_; clear H HA; intro c H HA; (repeat (first | (intro vx hx; have hx2 : vx = _ := hx; clear hx; subst hx2) | (intro vx hx; have HA := HA.addSF hx; clear hx) | (intro vx hx; have HA := HA.add hx; clear hx) | intro vx)); change W _ _ _ _ _ _ _)
      (obtain ⟨vb, rfl⟩ : ∃ x, x = vx := ⟨_, rfl⟩)
      have hTb := (Lk : TmF 23 c2.w.heap.size (clRows 23 26 79 d d0 d1 d2 wd ++ [.row va 23 3 ts.length (ts.map Tm.cs).flatten]) ts vb _)
      have HA := (HA.add hTb.1).add hTb.2
      (apply w_nil; apply wx_next; apply wc_seq; apply wc_region; refine Z0 ?_; refine Z0 ?_; refine Z34 HA fun vx HA => ?_; refine Z39 HA fun vx HA => ?_)
      (refine s_call rfl rfl H HA (subsume_CondenseF x _ _ c2.w.heap.size (.row vb 23 3 ts.length (ts.map Tm.cs).flatten :: (clRows 23 26 79 d d0 d1 d2 wd ++ [.row va 23 3 ts.length (ts.map Tm.cs).flatten])) Lk (Le.size (Lk : Since c2 _)) Lk okx.fit Lk) ?_; intro vx c H HA)
      rw [condE, if_pos hx00, hx00, hdd] at HA
      obtain ⟨w1, hr, hcf⟩ := HA.h.1
      subst hr
      have HA := HA.cut.add hcf.ag
      obtain ⟨f0, f1, f2, wf, hw1, hlwf, k0, k1, k2, k3, kF⟩ := hcf
      subst hw1
      have HA := (((HA.add k0).add k1).add k2).add kF
      (refine Z0 ?_; refine Z32 ?_; refine Z32 ?_; refine Z61 fun bx c H HA => ?_; refine Z74 fun c H HA => ?_; refine Z2 ?_; apply w_nil; apply wx_next; apply wc_seq; apply wc_seq)
      (obtain ⟨b18, rfl⟩ : ∃ x, x = bx := ⟨_, rfl⟩)
      (refine dw_start H HA ?_)
      (repeat (refine Dc ?_))
      (apply dw_cons; (focus ((intro B _ Lx c H HA; (repeat (first | (intro vx hx; have hx2 : vx = _ := hx; clear hx; subst hx2) | (intro vx hx; have HA := HA.addSF hx; clear hx) | (intro vx hx; have HA := HA.add hx; clear hx) | intro vx)); change W _ _ _ _ _ _ _); (apply s_go; exact rfl; exact rfl; exact rfl); (refine s_call rfl rfl H HA (Cn.imp (Post' := fun v _ => v = .bool true) (law_part x x _ _ ts va _ Lk Lk Lk okx.fit htsm) (fun v c' _ h => by rw [h, hpt.1, decide_eq_true hpt.2]; rfl)) ?_; intro vx c H HP; have hvx := HP.h.1; have HA := HP.cut; subst hvx); exact Dx)); exact inferInstance)
      (repeat (refine Dc ?_))
      (apply dw_cons; (focus ((intro B _ Lx c H HA; (repeat (first | (intro vx hx; have hx2 : vx = _ := hx; clear hx; subst hx2) | (intro vx hx; have HA := HA.addSF hx; clear hx) | (intro vx hx; have HA := HA.add hx; clear hx) | intro vx)); change W _ _ _ _ _ _ _); (apply s_go; exact rfl; exact rfl; exact rfl); (refine s_call rfl rfl H HA (Cn.imp (Post' := fun v _ => v = .bool true) (law_subsumes d x _ _ _ Lk Lk okd.fit okx.fit Lk) (fun v c' _ h => by rw [h, hdx])) ?_; intro vx c H HP; have hvx := HP.h.1; have HA := HP.cut; subst hvx); exact Dx)); exact inferInstance)
      (repeat (refine Dc ?_))
      (apply dw_cons; (focus ((intro B _ Lx c H HA; (repeat (first | (intro vx hx; have hx2 : vx = _ := hx; clear hx; subst hx2) | (intro vx hx; have HA := HA.addSF hx; clear hx) | (intro vx hx; have HA := HA.add hx; clear hx) | intro vx)); change W _ _ _ _ _ _ _); (apply s_go; exact rfl; exact rfl; exact rfl); (refine s_call rfl rfl H HA (Cn.imp (Post' := fun v _ => v = .bool true) (ref03_SameTerms ts ts va vb _ Lk Lk) (fun v c' _ h => by rw [h, decide_eq_true rfl])) ?_; intro vx c H HP; have hvx := HP.h.1; have HA := HP.cut; subst hvx); exact Dx)); exact inferInstance)
      (repeat (refine Dc ?_))
      (apply dw_cons; (focus ((intro B _ Lx c H HA; (repeat (first | (intro vx hx; have hx2 : vx = _ := hx; clear hx; subst hx2) | (intro vx hx; have HA := HA.addSF hx; clear hx) | (intro vx hx; have HA := HA.add hx; clear hx) | intro vx)); change W _ _ _ _ _ _ _); (apply s_go; exact rfl; exact rfl; exact rfl); (refine s_call rfl rfl H HA (Cn.imp (Post' := fun v _ => v = .bool true) (ref03_SameClause d d _ _ _ Lk Lk) (fun v c' _ h => by rw [h, decide_eq_true rfl])) ?_; intro vx c H HP; have hvx := HP.h.1; have HA := HP.cut; subst hvx); exact Dx)); exact inferInstance)
      (repeat (refine Dc ?_))
      (refine dw_done mixed H HA rfl (by kernel_rfl) ?_; clear H HA; intro c H HA; (repeat (first | (intro vx hx; have hx2 : vx = _ := hx; clear hx; subst hx2) | (intro vx hx; have HA := HA.addSF hx; clear hx) | (intro vx hx; have HA := HA.add hx; clear hx) | intro vx)); change W _ _ _ _ _ _ _)
      (apply w_nil; apply wx_next; refine Z19 ?_; apply wc_skip; apply wx_next; apply wc_seq; apply wc_region; refine Z0 ?_)
      refine w_thaw H (Lk : FrL c2.w.heap.size (clRows 23 26 79 d f0 f1 f2 wf ++ .row vb 23 3 ts.length (ts.map Tm.cs).flatten :: (clRows 23 26 79 d d0 d1 d2 wd ++ [.row va 23 3 ts.length (ts.map Tm.cs).flatten])) _) (Lk : Since c2 _) hx0 (Nat.le_refl _) HS ?_
      clear H HA hTa hTb kF k0 k1 k2 k3
      intro c H HA
      have H := H.perm perm_ap
      have hd8 := okd.b8
      have szd := okd.sz
      have hn40 : ts.length ≤ 97 := by rw [hpt.2]; exact hnv
      have l3 := kt_le (n := ts.length) hLe2
      have l4 := SKc_le (x := d) l3
      have l5 := kt_le (n := ts.length) l4
      have l6 := SKc_le (x := d) l5
      have l2' := hLe2
      have l3' := l3
      have l4' := l4
      have l5' := l5
      unfold Bk.Le at l2' l3' l4' l5'
      refine s_callX (pre := .row va 23 3 ts.length (ts.map Tm.cs).flatten :: bkRes 64 24 27 28 37 b7 S2 V2) rfl rfl H HA (Book_KeepTerms b7 S2 V2 ts va (ts.map Tm.cs) _ Lk (vals_map (P := Tryz.prog) (e := 23) _ _) (by omega) (by omega) (by omega)) ?_
      intro vx1 R c H HA
      obtain ⟨⟨V3, hR, hok3⟩, _⟩ := HA.h.1
      subst hR
      have HA := HA.cut.add (show BkOk (SKt S2 ts.length) V3 c from hok3)
      have H := H.perm (List.perm_append_comm_assoc ..)
      rw [← List.append_assoc] at H
      (apply w_nil; apply wx_next; apply wc_seq; apply wc_region; refine Z42 ?_)
      refine s_callX (pre := clRows 23 26 79 d d0 d1 d2 wd ++ bkRes 64 24 27 28 37 b7 (SKt S2 ts.length) V3) rfl rfl H HA (Book_KeepClause b7 (SKt S2 ts.length) V3 d d0 d1 d2 wd _ Lk hlwd (by omega) (by omega) (by omega) (by omega) (by omega) (by omega) szd.1 szd.2.1 szd.2.2.1 szd.2.2.2) ?_
      intro vx2 R c H HA
      obtain ⟨⟨V4, hR, hok4⟩, _⟩ := HA.h.1
      subst hR
      have HA := HA.cut.add hok4
      have H := H.perm List.perm_middle
      (apply w_nil; apply wx_next; apply wc_seq; apply wc_region; refine Z0 ?_)
      refine s_callX (pre := .row vb 23 3 ts.length (ts.map Tm.cs).flatten :: bkRes 64 24 27 28 37 b7 (SKc (SKt S2 ts.length) d) V4) rfl rfl H HA (Book_KeepTerms b7 (SKc (SKt S2 ts.length) d) V4 ts vb (ts.map Tm.cs) _ Lk (vals_map (P := Tryz.prog) (e := 23) _ _) (by omega) (by omega) (by omega)) ?_
      intro vx3 R c H HA
      obtain ⟨⟨V5, hR, hok5⟩, _⟩ := HA.h.1
      subst hR
      have HA := HA.cut.add (show BkOk (SKt (SKc (SKt S2 ts.length) d) ts.length) V5 c from hok5)
      have H := H.perm (List.perm_append_comm_assoc ..)
      rw [← List.append_assoc] at H
      (apply w_nil; apply wx_next; apply wc_region; refine Z42 ?_)
      refine s_callX (pre := clRows 23 26 79 d f0 f1 f2 wf ++ bkRes 64 24 27 28 37 b7 (SKt (SKc (SKt S2 ts.length) d) ts.length) V5) rfl rfl H HA (Book_KeepClause b7 (SKt (SKc (SKt S2 ts.length) d) ts.length) V5 d f0 f1 f2 wf _ Lk hlwf (by omega) (by omega) (by omega) (by omega) (by omega) (by omega) szd.1 szd.2.1 szd.2.2.1 szd.2.2.2) ?_
      intro vx4 R c H HA
      obtain ⟨⟨V6, hR, hok6⟩, _⟩ := HA.h.1
      subst hR
      have HA := HA.cut.add hok6
      have H := (H.perm List.perm_append_comm).drop.drop
      (apply w_nil; apply wx_norm_block; apply wx_next; apply wc_region; refine Z0 ?_; refine Z46 ?_; refine Z2 ?_; apply w_nil)
      exact wx_loopG ((i + 1, SKc (SKt (SKc (SKt S2 ts.length) d) ts.length) d, V6)) H Cu Lk Ks (by dsimp only; omega) ⟨by dsimp only; omega, (((hG2.kt _).kc _).kt _).kc _, l6.mono (by dsimp only; omega)⟩
    · (skip)
      exact wx_loopG ((rd + 1, S2, V2)) H Cu Lk Ks (by dsimp only; omega) ⟨by dsimp only; omega, hG2, hLe2.mono (by
        dsimp only
        rw [Nat.succ_mul rd]
        omega)⟩
  · obtain ⟨v0, v1, v2, v3, v4, v5, v6, v7, w0, w1, w2, w3, w4, w5, w6, w7⟩ := V
    have hb := (Lk : BkOk S _ c)
    have HA := (((((((HA.add hb.1).add hb.2.1).add hb.2.2.1).add hb.2.2.2.1).add hb.2.2.2.2.1).add hb.2.2.2.2.2.1).add hb.2.2.2.2.2.2.1).add hb.2.2.2.2.2.2.2
    have H : Owns _ (.obj b7 (.cells [v0, v1, v2, v3, v4, v5, v6, v7, .slice none 0 0, .slice none 0 0].toArray 64 (0, 0)) :: .row v0 24 1 S.tl.length w0.flatten :: .row v1 24 1 S.tm.length w1.flatten :: .row v2 27 1 S.al.length w2.flatten :: .row v3 27 1 S.am.length w3.flatten :: .row v4 28 1 S.sl.length w4.flatten :: .row v5 28 1 S.sm.length w5.flatten :: .row v6 37 1 S.cl.length w6.flatten :: .row v7 37 1 S.cm.length w7.flatten :: []) c := H
    unfold Bk.Le at hLe
    (refine wc_freeze H HA ?_; intro c H HA)
    (refine wc_freezeRow H HA Lk rfl rfl Lt ?_; intro c H HA)
    (refine wc_freezeRow H HA Lk rfl rfl Lt ?_; intro c H HA)
    (refine wc_freezeRow H HA Lk rfl rfl Lt ?_; intro c H HA)
    (refine wc_freezeRow H HA Lk rfl rfl Lt ?_; intro c H HA)
    (refine wc_freezeRow H HA Lk rfl rfl Lt ?_; intro c H HA)
    (refine wc_freezeRow H HA Lk rfl rfl Lt ?_; intro c H HA)
    (refine wc_freezeRow H HA Lk rfl rfl Lt ?_; intro c H HA)
    (refine wc_freezeRow H HA Lk rfl rfl Lt ?_; intro c H HA)
    (apply wc_seq; apply wc_region)
    (refine s_call rfl rfl H HA (Book_Holds S b7 v0 v1 v2 v3 v4 v5 v6 v7 _ Lk Lk Lk Lk Lk Lk Lk Lk Lk hG) ?_; intro vx c H HP; have hvx := HP.h.1; have HA := HP.cut; subst hvx)
    (refine Z0 ?_; refine Z4 ?_; refine Z0 ?_; refine Z4 ?_; refine Z0 ?_; refine Z4 ?_)
    (refine s_call rfl rfl H HA (Cn.imp (Post' := fun v _ => v = .bool true) (ref03_SameClauses cs cs _ _ _ (Lk : Sl vc cs _) (Lk : Sl vk cs _)) (fun v c' _ h => by rw [h, decide_eq_true rfl])) ?_; intro vx c H HP; have hvx := HP.h.1; have HA := HP.cut; subst hvx)
    (refine Z8 ?_; refine Z2 ?_; apply w_nil; apply wx_next; apply wc_ret)
    exact ret_fn H hm (outs1 Tryz.results9 Wh) rfl
end Go.Proofs.YthkdggoohpgnnaaGreatDoor
/- What an argument reads as, told as Lean data. -/
namespace Go.Proofs.YthkdggoohpgnnaaGreatDoor
open Go Go.Wk
theorem len3 {α : Type} {l : List α} (h : l.length = 3) : ∃ a b c, l = [a, b, c] := by
  match l, h with
  | [a, b, c], _ => exact ⟨a, b, c, rfl⟩
theorem len5 {α : Type} {l : List α} (h : l.length = 5) : ∃ a b c d e, l = [a, b, c, d, e] := by
  match l, h with
  | [a, b, c, d, e], _ => exact ⟨a, b, c, d, e, rfl⟩
theorem len7 {α : Type} {l : List α} (h : l.length = 7) : ∃ a b c d e f g, l = [a, b, c, d, e, f, g] := by
  match l, h with
  | [a, b, c, d, e, f, g], _ => exact ⟨a, b, c, d, e, f, g, rfl⟩
/-- Whatever reads of type T, within the bound, lies there as an α. -/
def Reads (P : Program) (T : TypeId) {α : Type} [Enc α] (bk : α → Nat) (ok : α → Prop) : Prop :=
  ∀ {H : Type} (enc : TypeId × Value → H) (w : World) (base : Nat) (sp : Nat → Bool) (held : Bool) (fuel : Nat) (cs : List Value) (x : DataW H × List MemPlace), DataW.trod enc P w base sp held fuel T cs = some x → Rows.uptoBulk x.1 ≤ 1048576 →
    ∃ a : α, Enc.Ok cs a ⟨w, fun _ => False⟩ ∧ ok a ∧ bk a ≤ Rows.uptoBulk x.1
theorem bulk_one {H : Type} (d : DataW H) : 1 ≤ Rows.uptoBulk d := by
  cases d with
  | lit l => cases l <;> simp [Rows.uptoBulk]
  | nil => simp [Rows.uptoBulk]
  | ptr d => simp [Rows.uptoBulk]
  | slice elems spare => simp [Rows.uptoBulk]
  | agg parts => simp [Rows.uptoBulk]
  | iface t d => simp [Rows.uptoBulk]
  | map entries => simp [Rows.uptoBulk]
  | held h => simp [Rows.uptoBulk]
theorem bulk_app {H : Type} (l r : List (DataW H)) : Rows.uptoBulkAll (l ++ r) = Rows.uptoBulkAll l + Rows.uptoBulkAll r := by
  induction l with
  | nil => simp [Rows.uptoBulkAll]
  | cons x l ih => simp only [List.cons_append, Rows.uptoBulkAll, ih]; omega
theorem reads_int {P : Program} {T : TypeId} (hu : P.underlying T = some (.int .i64)) : Reads P T (fun _ : Int => 1) (fun _ => True) := by
  intro H enc w base sp held fuel cs x h _
  obtain ⟨n, rfl, rfl, _⟩ := DataW.trod_int hu h
  exact ⟨n, rfl, trivial, by simp [Rows.uptoBulk]⟩
def strOk (s : ByteArray) : Prop := s.size < 4611686018427387904
theorem reads_string {P : Program} {T : TypeId} (hu : P.underlying T = some .string) : Reads P T (fun _ : ByteArray => 1) strOk := by
  intro H enc w base sp held fuel cs x h hb
  obtain ⟨s, rfl, rfl, _⟩ := DataW.trod_string hu h
  refine ⟨s, rfl, ?_, by simp [Rows.uptoBulk]⟩
  unfold strOk
  have : s.data.toList.length = s.size := Array.length_toList
  simp only [Rows.uptoBulk] at hb
  omega
theorem choose_list {α H : Type} {bk : α → Nat} {D : Nat → DataW H} {p : Nat → α → Prop} : ∀ (m : Nat), (∀ i, i < m → ∃ q, p i q ∧ bk q ≤ Rows.uptoBulk (D i)) →
    ∃ l : List α, l.length = m ∧ (∀ i q, l[i]? = some q → p i q) ∧ (l.map bk).sum ≤ Rows.uptoBulkAll ((List.range m).map D) ∧ m ≤ Rows.uptoBulkAll ((List.range m).map D)
  | 0, _ => ⟨[], rfl, fun i q h => by simp at h, by simp, by simp⟩
  | m + 1, h => by
    obtain ⟨l, h1, h2, h3, h4⟩ := choose_list m fun i hi => h i (by omega)
    obtain ⟨q, hq, hb⟩ := h m (by omega)
    have hone := bulk_one (D m)
    refine ⟨l ++ [q], by simp [h1], fun i r hr => ?_, ?_, ?_⟩
    · by_cases hi : i < l.length
      · rw [List.getElem?_append_left hi] at hr
        exact h2 i r hr
      · rw [List.getElem?_append_right (by omega)] at hr
        have hi' : i = m := by
          have := (List.getElem?_eq_some_iff.1 hr).1
          simp at this
          omega
        subst hi'
        simp [h1] at hr
        subst hr
        exact hq
    · rw [List.range_succ, List.map_append (f := D), bulk_app]
      simp [Rows.uptoBulkAll]
      omega
    · rw [List.range_succ, List.map_append (f := D), bulk_app]
      simp [Rows.uptoBulkAll]
      omega
theorem bulk_mem {H : Type} {D : Nat → DataW H} {i m : Nat} (h : i < m) : Rows.uptoBulk (D i) ≤ Rows.uptoBulkAll ((List.range m).map D) := by
  induction m with
  | zero => omega
  | succ m ih =>
    rw [List.range_succ, List.map_append, bulk_app]
    by_cases e : i = m
    · subst e; simp [Rows.uptoBulkAll]
    · have := ih (by omega)
      omega
theorem reads_slice {P : Program} {T e : TypeId} {α : Type} [Enc α] {bk : α → Nat} {ok : α → Prop} (hu : P.underlying T = some (.slice e)) (hk : P.cellsOf e = Enc.k α) (hr : Reads P e bk ok) : Reads P T (fun l : List α => (l.map bk).sum + 1) (fun l => ∀ a ∈ l, ok a) := by
  intro H enc w base sp held fuel cs x h hb
  rcases Deep.open_slice hu h with ⟨rfl, rfl⟩ | ⟨a, len, cap, m, n, D, Pl, rfl, _, hl, _, hmm, rfl, hx⟩
  · exact ⟨[], ⟨_, rfl, Sl.nil _⟩, (fun a h => by cases h), by simp [Rows.uptoBulk]⟩
  have hlm : len ≤ m := by rw [hmm]; split <;> omega
  simp only [Rows.uptoBulk] at hb ⊢
  obtain ⟨l, h1, h2, h3, h4⟩ := choose_list (bk := bk) (D := D) (p := fun i q => ok q ∧ ∃ cs', w.cells? base (a.add (i * P.cellsOf e)) (P.cellsOf e) = some cs' ∧ Enc.Ok cs' q ⟨w, fun _ => False⟩) len (fun i hi => by
    obtain ⟨cs', hc, ht⟩ := hx i (by omega)
    obtain ⟨q, hq, ho, hq2⟩ := hr enc w base sp held n cs' _ ht (by have := bulk_mem (D := D) hi; simp only; omega)
    exact ⟨q, ⟨ho, cs', hc, hq⟩, hq2⟩)
  refine ⟨l, ⟨_, rfl, ?_⟩, fun q hq => ?_, by omega⟩
  · subst h1
    refine ⟨by simp only [LIM]; omega, some a, cap, rfl, hl, fun hne => ?_⟩
    have hpos : 0 < l.length := List.length_pos_iff.2 hne
    have hsp : a.spot = none := by
      obtain ⟨_, cs', hc, hO⟩ := h2 0 l[0] (List.getElem?_eq_getElem hpos)
      have h5 := World.cells?_some hc
      have h6 := h5.2.2 0 (by rw [hk]; exact Enc.pos)
      have hlen : cs'.length = P.cellsOf e := h5.2.1
      have h7 : 0 < cs'.length := by rw [hlen, hk]; exact Enc.pos
      rw [List.getElem?_eq_getElem h7] at h6
      simp only [Nat.zero_mul, Addr.add, if_true] at h6
      unfold World.cell? at h6
      cases hs : a.spot with
      | none => rfl
      | some z =>
        rw [hs] at h6
        split at h6 <;> simp at h6
    refine ⟨a.block, a.off, by rw [← hsp], fun i q hq => ?_⟩
    obtain ⟨_, cs', hc, hO⟩ := h2 i q hq
    refine ⟨cs', hO, fun j v hj => ⟨?_, fun h => h⟩⟩
    have h5 := World.cells?_some hc
    have hjl : j < cs'.length := (List.getElem?_eq_some_iff.1 hj).1
    have h6 := h5.2.2 j (by rw [← h5.2.1]; exact hjl)
    have ea : a = ⟨a.block, a.off, none⟩ := by rw [← hsp]
    rw [hj, ea, Addr.add_lit, Addr.add_lit, hk] at h6
    exact h6
  · obtain ⟨i, hi⟩ := List.getElem?_of_mem hq
    exact (h2 i q hi).1
theorem reads_struct {P : Program} {T : TypeId} {α β γ δ : Type} [Enc α] [Enc β] [Enc γ] [Enc δ] {f0 f1 f2 : Field} {b0 : β → Nat} {b1 : γ → Nat} {b2 : δ → Nat} {k0 : β → Prop} {k1 : γ → Prop} {k2 : δ → Prop} (bk : α → Nat) (ok : α → Prop) (mk : β → γ → δ → α)
    (hS : P.underlying T = some (.struct #[f0, f1, f2])) (r0 : Reads P f0.type b0 k0) (r1 : Reads P f1.type b1 k1) (r2 : Reads P f2.type b2 k2)
    (hmk : ∀ cs a b d c, cs.length = P.cellsOf T → Enc.Ok ((cs.drop f0.offset).take (P.cellsOf f0.type)) a c → Enc.Ok ((cs.drop f1.offset).take (P.cellsOf f1.type)) b c → Enc.Ok ((cs.drop f2.offset).take (P.cellsOf f2.type)) d c → Enc.Ok cs (mk a b d) c)
    (hbk : ∀ a b d, bk (mk a b d) ≤ b0 a + b1 b + b2 d) (hok : ∀ a b d, k0 a → k1 b → k2 d → bk (mk a b d) ≤ 1048576 → ok (mk a b d)) : Reads P T bk ok := by
  intro H enc w base sp held fuel cs x h hb
  obtain ⟨xs, n, rfl, rfl, hl, hxl, hf⟩ := DataW.trod_struct hS h
  have hxl : xs.length = 3 := hxl
  match xs, hxl with
  | [y0, y1, y2], _ =>
    simp only [List.map_cons, List.map_nil, Rows.uptoBulk, Rows.uptoBulkAll] at hb ⊢
    obtain ⟨a, ha, ka, qa⟩ := r0 enc w base sp held n _ y0 (hf 0 f0 rfl) (by omega)
    obtain ⟨b, hb', kb, qb⟩ := r1 enc w base sp held n _ y1 (hf 1 f1 rfl) (by omega)
    obtain ⟨d, hd, kd, qd⟩ := r2 enc w base sp held n _ y2 (hf 2 f2 rfl) (by omega)
    have hq := hbk a b d
    exact ⟨mk a b d, hmk cs a b d _ hl ha hb' hd, hok a b d ka kb kd (by omega), by omega⟩
end Go.Proofs.YthkdggoohpgnnaaGreatDoor
/- What this program's arguments read as. -/
namespace Go.Proofs.YthkdggoohpgnnaaGreatDoor
open Go Go.Wk
theorem cInt : Tryz.prog.cellsOf 3 = 1 := by kernel_rfl
theorem cStr : Tryz.prog.cellsOf 9 = 1 := by kernel_rfl
theorem cTm : Tryz.prog.cellsOf 23 = 3 := by kernel_rfl
theorem cTs : Tryz.prog.cellsOf 79 = 7 := by kernel_rfl
theorem cAt : Tryz.prog.cellsOf 26 = 5 := by kernel_rfl
theorem cCl : Tryz.prog.cellsOf 30 = 7 := by kernel_rfl
theorem cTms : Tryz.prog.cellsOf 24 = 1 := by kernel_rfl
theorem cAts : Tryz.prog.cellsOf 27 = 1 := by kernel_rfl
theorem cTss : Tryz.prog.cellsOf 28 = 1 := by kernel_rfl
theorem rInt : Reads Tryz.prog 3 (fun _ : Int => 1) (fun _ => True) := reads_int Tryz.underlying3
theorem rStr : Reads Tryz.prog 9 (fun _ : ByteArray => 1) strOk := reads_string Tryz.underlying9
theorem rTm : Reads Tryz.prog 23 (fun _ : Tm => 1) Tm.sm := by
  refine reads_struct _ _ (fun k n s => (⟨k, n, s⟩ : Tm)) Tryz.underlying23 rInt rInt rStr ?_ ?_ ?_
  · intro cs a b d c hl h0 h1 h2
    obtain ⟨v0, v1, v2, rfl⟩ := len3 (hl.trans cTm)
    rw [cInt] at h0 h1
    rw [cStr] at h2
    have h0 : [v0] = [.int .i64 a] := h0
    have h1 : [v1] = [.int .i64 b] := h1
    have h2 : [v2] = [.string d] := h2
    show [v0, v1, v2] = [.int .i64 a, .int .i64 b, .string d]
    simp only [List.cons.injEq, and_true] at h0 h1 h2
    rw [h0, h1, h2]
  · intro a b d
    show 1 ≤ 1 + 1 + 1
    omega
  · intro a b d _ _ h _
    exact h
theorem rTs : Reads Tryz.prog 79 (fun _ : Ts => 2) (fun t => t.l.sm ∧ t.r.sm) := by
  refine reads_struct _ _ (fun k l r => (⟨k, l, r⟩ : Ts)) Tryz.underlying79 rInt rTm rTm ?_ ?_ ?_
  · intro cs a b d c hl h0 h1 h2
    obtain ⟨v0, v1, v2, v3, v4, v5, v6, rfl⟩ := len7 (hl.trans cTs)
    rw [cInt] at h0
    rw [cTm] at h1 h2
    have h0 : [v0] = [.int .i64 a] := h0
    have h1 : [v1, v2, v3] = b.cs := h1
    have h2 : [v4, v5, v6] = d.cs := h2
    show [v0, v1, v2, v3, v4, v5, v6] = Ts.cs ⟨a, b, d⟩
    simp only [List.cons.injEq, and_true, Tm.cs] at h0 h1 h2
    obtain ⟨e1, e2, e3⟩ := h1
    obtain ⟨e4, e5, e6⟩ := h2
    rw [h0, e1, e2, e3, e4, e5, e6]
  · intro a b d
    show 2 ≤ 1 + 1 + 1
    omega
  · intro a b d _ h h' _
    exact ⟨h, h'⟩
theorem sum_one {α : Type} (l : List α) : (l.map fun _ => 1).sum = l.length := by
  induction l with
  | nil => rfl
  | cons a l ih => simp [ih]; omega
theorem rAt : Reads Tryz.prog 26 (fun a : At0 => a.terms.length) At0.sm := by
  refine reads_struct _ _ (fun t n l => (⟨t, n, l⟩ : At0)) Tryz.underlying26 rTm rStr (reads_slice Tryz.underlying24 cTm rTm) ?_ ?_ ?_
  · intro cs a b d c hl h0 h1 h2
    obtain ⟨v0, v1, v2, v3, v4, rfl⟩ := len5 (hl.trans cAt)
    rw [cTm] at h0
    rw [cStr] at h1
    rw [cTms] at h2
    have h0 : [v0, v1, v2] = a.cs := h0
    have h1 : [v3] = [.string b] := h1
    obtain ⟨v, e, hS⟩ : ∃ v, [v4] = [v] ∧ Sl v d c := h2
    refine ⟨v, ?_, hS⟩
    simp only [List.cons.injEq, and_true, Tm.cs] at h0 h1 e
    obtain ⟨e1, e2, e3⟩ := h0
    rw [e1, e2, e3, h1, e]
  · intro a b d
    show (a :: d).length ≤ 1 + 1 + ((d.map fun _ => 1).sum + 1)
    rw [sum_one, List.length_cons]
    omega
  · intro a b d h h' h'' _
    exact ⟨h', h, h''⟩
/-- What a clause that was read is. -/
def Cl.rd (x : Cl) : Prop := x.sm ∧ x.terms.length ≤ 1048576
theorem sum_two {α : Type} (l : List α) : (l.map fun _ => 2).sum = 2 * l.length := by
  induction l with
  | nil => rfl
  | cons a l ih => simp [ih]; omega
theorem rCl : Reads Tryz.prog 30 (fun x : Cl => x.terms.length) Cl.rd := by
  refine reads_struct _ _ (fun h b t => (⟨h, b, t⟩ : Cl)) Tryz.underlying30 rAt (reads_slice Tryz.underlying27 cAt rAt) (reads_slice Tryz.underlying28 cTs rTs) ?_ ?_ ?_
  · intro cs a b d c hl h0 h1 h2
    obtain ⟨v0, v1, v2, v3, v4, v5, v6, rfl⟩ := len7 (hl.trans cCl)
    rw [cAt] at h0
    rw [cAts] at h1
    rw [cTss] at h2
    obtain ⟨u, e0, hU⟩ : ∃ u, [v0, v1, v2, v3, v4] = a.cs u ∧ Sl u a.args c := h0
    obtain ⟨v, e1, hV⟩ : ∃ v, [v5] = [v] ∧ Sl v b c := h1
    obtain ⟨w, e2, hW⟩ : ∃ v, [v6] = [v] ∧ Sl v d c := h2
    refine ⟨u, v, w, ?_, hU, hV, hW⟩
    simp only [List.cons.injEq, and_true, At0.cs] at e0 e1 e2
    obtain ⟨q1, q2, q3, q4, q5⟩ := e0
    rw [q1, q2, q3, q4, q5, e1, e2]
  · intro a b d
    show (Cl.terms ⟨a, b, d⟩).length ≤ a.terms.length + ((b.map fun a => a.terms.length).sum + 1) + ((d.map fun _ => 2).sum + 1)
    simp only [Cl.terms, Cl.bodyTerms, Cl.testTerms, List.length_append, List.length_flatMap, List.length_cons, List.length_nil]
    rw [sum_two]
    have : (d.map fun _ => 0 + 1 + 1).sum = 2 * d.length := by
      induction d with
      | nil => rfl
      | cons a l ih => simp [ih]; omega
    omega
  · intro a b d h h' h'' hb
    exact ⟨⟨h, h', h''⟩, hb⟩
theorem flat_len {α β : Type} {f : α → List β} (hf : ∀ a, 1 ≤ (f a).length) : ∀ l : List α, l.length ≤ (l.flatMap f).length
  | [] => by simp
  | a :: l => by
    have := hf a
    have := flat_len hf l
    simp only [List.length_cons, List.flatMap_cons, List.length_append]
    omega
theorem Cl.rd.fit {x : Cl} (h : Cl.rd x) : x.fit := ⟨h.1, by have := h.2; omega⟩
end Go.Proofs.YthkdggoohpgnnaaGreatDoor
/- What the listed variables hold; the end that all rows share. -/
namespace Go.Proofs.YthkdggoohpgnnaaGreatDoor
open Go Go.Wk Go.ChangeShapes Go.WideShapes Go.ChangeAt Go.RowKit
section
variable {H : Type} {enc : TypeId × Value → H} {w : World} {base : Nat} {sp : Nat → Bool} {held : Bool}
theorem exactTm {fuel : Nat} {cs : List Value} {p : List MemPlace} {k n : Int} {bs : List UInt8} (h : DataW.trod enc Tryz.prog w base sp held fuel 23 cs = some (.agg [.lit (.int .i64 k), .lit (.int .i64 n), .lit (.string bs)], p)) : cs = Tm.cs ⟨k, n, ⟨bs.toArray⟩⟩ := by
  obtain ⟨xs, m, rfl, hx, hl, hxl, hf⟩ := DataW.trod_struct Tryz.underlying23 h
  obtain ⟨v0, v1, v2, rfl⟩ := len3 (hl.trans cTm)
  obtain ⟨y0, y1, y2, rfl⟩ := len3 (show xs.length = 3 from hxl)
  have g0 : DataW.trod enc Tryz.prog w base sp held m 3 ((List.drop 0 [v0, v1, v2]).take (Tryz.prog.cellsOf 3)) = some y0 := hf 0 _ rfl
  have g1 : DataW.trod enc Tryz.prog w base sp held m 3 ((List.drop 1 [v0, v1, v2]).take (Tryz.prog.cellsOf 3)) = some y1 := hf 1 _ rfl
  have g2 : DataW.trod enc Tryz.prog w base sp held m 9 ((List.drop 2 [v0, v1, v2]).take (Tryz.prog.cellsOf 9)) = some y2 := hf 2 _ rfl
  rw [cInt] at g0 g1
  rw [cStr] at g2
  obtain ⟨a, e0, q0, _⟩ := DataW.trod_int Tryz.underlying3 g0
  obtain ⟨b, e1, q1, _⟩ := DataW.trod_int Tryz.underlying3 g1
  obtain ⟨d, e2, q2, _⟩ := DataW.trod_string Tryz.underlying9 g2
  subst q0 q1 q2
  simp only [List.map_cons, List.map_nil, Prod.mk.injEq, DataW.agg.injEq, List.cons.injEq, DataW.lit.injEq, Lit.int.injEq, Lit.string.injEq, true_and, and_true] at hx
  obtain ⟨⟨rfl, rfl, rfl⟩, _⟩ := hx
  have e0 : [v0] = [.int .i64 k] := e0
  have e1 : [v1] = [.int .i64 n] := e1
  have e2 : [v2] = [.string d] := e2
  simp only [List.cons.injEq, and_true] at e0 e1 e2
  rw [e0, e1, e2]
end
theorem box_of_var {P : Program} {W : World} {n : String} {g : Nat} {cs : Array Value} (hg : P.globalNamed n = some g) (h : W.var? P n = some cs) : Box g cs.toList ⟨W, fun _ => False⟩ := by
  simp only [World.var?, hg, Option.bind_some] at h
  split at h
  · rename_i c t fr hb
    cases h
    exact ⟨⟨t, fr, by simpa using hb⟩, fun h => h⟩
  · cases h
theorem str_bytes {a b : String} (h : a.toUTF8.data.toList = b.toUTF8.data.toList) : a = b := String.toByteArray_inj.1 (ByteArray.ext (Array.ext' h))
theorem trod_func {P : Program} {w : World} {base : Nat} {sp : Nat → Bool} {fuel : Nat} {t : TypeId} {ps rs : Array TypeId} {vd : Bool} {v : Value} {bs : List UInt8} {b : UInt8} {p : List MemPlace} (ht : P.underlying t = some (.func ps rs vd)) (h : DataW.trod (funcToken P) P w base sp true fuel t [v] = some (.held (b :: bs), p)) :
    ∃ (f : FuncId) (fn : Func), v = .func (.func f) #[] #[] ∧ P.funcNamed fn.name = some f ∧ fn.name.toUTF8.data.toList = b :: bs := by
  cases fuel with
  | zero => simp [DataW.trod] at h
  | succ n =>
    unfold DataW.trod at h
    rw [ht] at h
    have h2 : funcToken P (t, v) = b :: bs := by
      split at h <;> simp_all
    obtain ⟨f, fn, e, _, e2, e3⟩ := funcToken_tells h2
    exact ⟨f, fn, e, e2, e3⟩
theorem cChk : Tryz.prog.cellsOf 115 = 1 := by kernel_rfl
theorem cFn : Tryz.prog.cellsOf 50 = 1 := by kernel_rfl
theorem exactFn {w : World} {base : Nat} {sp : Nat → Bool} {fuel : Nat} {cs : List Value} {bs : List UInt8} {b : UInt8} {p : List MemPlace} {f : FuncId} (nm : String) (hn : nm.toUTF8.data.toList = b :: bs) (hf : Tryz.prog.funcNamed nm = some f)
    (h : DataW.trod (funcToken Tryz.prog) Tryz.prog w base sp true fuel 115 cs = some (.agg [.held (b :: bs)], p)) : cs = [.func (.func f) #[] #[]] := by
  obtain ⟨xs, m, rfl, hx, hl, hxl, hfd⟩ := DataW.trod_struct Tryz.underlying115 h
  obtain ⟨v, rfl⟩ := List.length_eq_one_iff.1 (hl.trans cChk)
  obtain ⟨y, rfl⟩ := List.length_eq_one_iff.1 (show xs.length = 1 from hxl)
  have g0 : DataW.trod (funcToken Tryz.prog) Tryz.prog w base sp true m 50 ((List.drop 0 [v]).take (Tryz.prog.cellsOf 50)) = some y := hfd 0 _ rfl
  rw [cFn] at g0
  obtain ⟨d, q⟩ := y
  simp only [List.map_cons, List.map_nil, Prod.mk.injEq, DataW.agg.injEq, List.cons.injEq, and_true] at hx
  obtain ⟨rfl, _⟩ := hx
  obtain ⟨f', fn, e, e2, e3⟩ := trod_func Tryz.underlying50 (show DataW.trod (funcToken Tryz.prog) Tryz.prog w base sp true m 50 [v] = _ from g0)
  have : fn.name = nm := str_bytes (e3.trans hn.symm)
  rw [this, hf] at e2
  cases e2
  rw [e]
theorem len6 {α : Type} {l : List α} (h : l.length = 6) : ∃ a b c d e f, l = [a, b, c, d, e, f] := by
  match l, h with
  | [a, b, c, d, e, f], _ => exact ⟨a, b, c, d, e, f, rfl⟩
theorem cChks : Tryz.prog.cellsOf 116 = 6 := by kernel_rfl
set_option maxRecDepth 100000 in
theorem checks_of {W : World} {d : DataW Unit} (h : funcsAt Tryz.prog W "hearsay/clause.checks" d) (hd : (Rows.laid_hearsay_clause_checks : DataW Unit) = .iface "func table" d) : Box 1 chkFs ⟨W, fun _ => False⟩ := by
  obtain ⟨g, t, cs, fuel, p, hg, ht, hv, hr⟩ := h
  have hg0 : Tryz.prog.globalNamed "hearsay/clause.checks" = some 1 := by kernel_rfl
  have ht0 : (Tryz.prog.globals[(1 : Nat)]?).map (·.type) = some 116 := by kernel_rfl
  obtain rfl := Option.some.inj (hg0.symm.trans hg)
  obtain rfl := Option.some.inj (ht0.symm.trans ht)
  have hb := box_of_var hg0 hv
  have hcs : cs.toList = chkFs := by
    generalize cs.toList = l at hr
    simp only [Rows.laid_hearsay_clause_checks, DataW.iface.injEq, true_and] at hd
    subst hd
    obtain ⟨xs, m, rfl, hx, hl, hxl, hf⟩ := DataW.trod_array Tryz.underlying116 hr
    obtain ⟨v0, v1, v2, v3, v4, v5, rfl⟩ := len6 (hl.trans cChks)
    obtain ⟨y0, y1, y2, y3, y4, y5, rfl⟩ := len6 hxl
    have g0 := hf 0 (by decide)
    rw [cChk] at g0
    obtain ⟨d0, p0⟩ := y0
    have g1 := hf 1 (by decide)
    rw [cChk] at g1
    obtain ⟨d1, p1⟩ := y1
    have g2 := hf 2 (by decide)
    rw [cChk] at g2
    obtain ⟨d2, p2⟩ := y2
    have g3 := hf 3 (by decide)
    rw [cChk] at g3
    obtain ⟨d3, p3⟩ := y3
    have g4 := hf 4 (by decide)
    rw [cChk] at g4
    obtain ⟨d4, p4⟩ := y4
    have g5 := hf 5 (by decide)
    rw [cChk] at g5
    obtain ⟨d5, p5⟩ := y5
    simp only [List.map_cons, List.map_nil, Prod.mk.injEq, DataW.funcsOut, DataW.funcsOutAll, DataW.agg.injEq, List.cons.injEq, and_true, beq_self_eq_true, if_true] at hx
    obtain ⟨⟨rfl, rfl, rfl, rfl, rfl, rfl⟩, _⟩ := hx
    have e0 : [v0] = _ := exactFn (f := 218) "hearsay/clause.tooLong" (by decide +kernel) (by kernel_rfl) g0
    have e1 : [v1] = _ := exactFn (f := 219) "hearsay/clause.badAtom" (by decide +kernel) (by kernel_rfl) g1
    have e2 : [v2] = _ := exactFn (f := 220) "hearsay/clause.badTest" (by decide +kernel) (by kernel_rfl) g2
    have e3 : [v3] = _ := exactFn (f := 221) "hearsay/clause.openHead" (by decide +kernel) (by kernel_rfl) g3
    have e4 : [v4] = _ := exactFn (f := 222) "hearsay/clause.unsafe" (by decide +kernel) (by kernel_rfl) g4
    have e5 : [v5] = _ := exactFn (f := 223) "hearsay/clause.misnumbered" (by decide +kernel) (by kernel_rfl) g5
    simp only [List.cons.injEq, and_true] at e0 e1 e2 e3 e4 e5
    rw [e0, e1, e2, e3, e4, e5]
    rfl
  rw [hcs] at hb
  exact hb
theorem gNo : Tryz.prog.globalNamed "hearsay/term.none" = some 3 := by kernel_rfl
theorem tNo : (Tryz.prog.globals[(3 : Nat)]?).map (·.type) = some 23 := by kernel_rfl
theorem none_of {W : World} {ps : List MemPlace} {r : List (String × DataW Unit)} (h : DataW.LaidVars Tryz.prog W (("hearsay/term.none", Rows.laid_hearsay_term_none) :: r) ps) : Box 3 Tn.cs ⟨W, fun _ => False⟩ := by
  obtain ⟨g, t, cs, fuel, p, q, hg, ht, hv, hd, _, _⟩ := h
  obtain rfl := Option.some.inj (gNo.symm.trans hg)
  obtain rfl := Option.some.inj (tNo.symm.trans ht)
  have hb := box_of_var gNo hv
  rw [exactTm hd] at hb
  exact hb
theorem glob2 {W : World} (h : laidMetH Tryz.prog Rows.subsumeLeastRow.laid W) : GlobOk ⟨W, fun _ => False⟩ := by
  have hc := checks_of (laidMetH.funcs h (n := "hearsay/clause.checks") (.tail _ (.head _))) rfl
  unfold laidMetH at h
  have e1 : (Rows.subsumeLeastRow.laid.filter fun x => x.2.handleName?.isSome) = [("hearsay/clause.checks", Rows.laid_hearsay_clause_checks)] := rfl
  rw [e1] at h
  have h := h.1
  have e2 : (Rows.subsumeLeastRow.laid.filter fun x => x.2.handleName?.isNone) = [("hearsay/term.none", Rows.laid_hearsay_term_none)] := rfl
  rw [e2] at h
  obtain ⟨ps, hv, _⟩ := h
  exact ⟨none_of hv, hc⟩
/-! ### the end that all rows share -/
theorem laidOut : laidOutB Tryz.prog = true := by kernel_rfl
theorem trodAll_below {H : Type} {enc : TypeId × Value → H} {P : Program} (hl : laidOutB P = true) {W W' : World} (hb : Below W.heap.size W W') : ∀ (ts : List TypeId), (∀ t ∈ ts, P.readableRec t = true ∧ t < P.types.size) → ∀ (vs : List Value) (ds : List (DataW H)) (ps : List MemPlace),
    DataW.TrodAll enc P W 0 (fun _ => true) true ts vs ds ps → (∀ x ∈ ps, x.block < W.heap.size) → DataW.TrodAll enc P W' 0 (fun b => decide (b < W.heap.size)) true ts vs ds ps
  | [], _, vs, ds, ps, h, _ => by
    obtain ⟨rfl, rfl, rfl⟩ := trodAll_nil h
    exact trodAll_mk0
  | t :: ts, ht, vs, ds, ps, h, hlt => by
    obtain ⟨v, vs, d, ds, p, q, rfl, rfl, rfl, h1, h2⟩ := trodAll_cons h
    exact ⟨p, q, Below.trod hl (ht t (.head _)).1 (ht t (.head _)).2 h1 hb (fun x hx => hlt x (List.mem_append_left _ hx)), trodAll_below hl hb ts (fun t h => ht t (.tail _ h)) vs ds q h2 (fun x hx => hlt x (List.mem_append_right _ hx)), rfl⟩
theorem post_true {H : Type} {enc : TypeId × Value → H} {f : Func} {s : ChangeSpec} {W W' : World} {args : Array Value} {ds : List (DataW H)} {before : List MemPlace} (hvars : s.vars = []) (hres : f.resultTypes = #[4])
    (hr : f.params.toList.all (fun t => Tryz.prog.readableRec t && decide (t < Tryz.prog.types.size)) = true)
    (hW : DataW.Whole enc Tryz.prog f.params.toList s.vars false W args.toList ds [] before) (hfn : s.fn H (ds ++ []) = { results := [.lit (.bool true)], args := ds }) (hb : Below W.heap.size W W') : s.post enc Tryz.prog f false true false false W args (.bool true) W' := by
  have hlt := hW.lt
  have hW' := hW
  obtain ⟨p, q, hA, hV, rfl, _, _⟩ := hW
  rw [hvars] at hV
  obtain ⟨_, rfl⟩ := trodVars_none hV
  refine ⟨ds, [], p ++ [], [], p, [], hW', ?_, ?_, ?_, hb.frame _, fun h => by cases h⟩
  · rw [hfn, hres]
    exact trodAll_mk1 (shut_bool Tryz.underlying4 true)
  · rw [hfn]
    refine trodAll_below laidOut hb _ (fun t ht => ?_) _ _ _ hA (fun x hx => hlt x (List.mem_append_left _ hx))
    have := List.all_eq_true.1 hr t ht
    simpa using this
  · rw [hfn, hvars]
    rfl
end Go.Proofs.YthkdggoohpgnnaaGreatDoor
/- What the rows' arguments read as, one lemma a type. -/
namespace Go.Proofs.YthkdggoohpgnnaaGreatDoor
open Go Go.Wk Go.ChangeShapes Go.WideShapes Go.ChangeAt Go.RowKit
section
variable {H : Type} {enc : TypeId × Value → H} {W : World} {base : Nat} {sp : Nat → Bool} {held : Bool} {v : Value} {d : DataW H} {p : List MemPlace} {r : Reach} {b0 : Nat}
theorem rowOwn : ownKnob Tryz.prog.godebug = none := by kernel_rfl
theorem small {l : List (DataW H)} (hk : Rows.uptoSmall H l = true) : Rows.uptoBulkAll l ≤ 1048576 := of_decide_eq_true hk
theorem sum_le {α : Type} (f : α → Nat) : ∀ l : List α, (∀ a ∈ l, 1 ≤ f a) → l.length ≤ (l.map f).sum
  | [], _ => by simp
  | a :: l, h => by
    have h1 := h a (.head _)
    have h2 := sum_le f l fun b hb => h b (.tail _ hb)
    simp only [List.length_cons, List.map_cons, List.sum_cons]
    omega
set_option maxRecDepth 100000 in
theorem argCls (hv : Value.okWide Tryz.prog W r b0 37 v) (h : DataW.Trod enc Tryz.prog W base sp held 37 v d p) (hb : Rows.uptoBulk d ≤ 1048576) : ∃ xs : List Cl, Sl v xs ⟨W, fun _ => False⟩ ∧ (∀ x ∈ xs, Cl.rd x) ∧ xs.length ≤ 1048576 ∧ (xs.map fun x => x.terms.length).sum ≤ 1048576 := by
  obtain ⟨fuel, h⟩ := h
  obtain ⟨xs, hx, ho, hl⟩ := reads_slice Tryz.underlying37 cCl rCl enc W base sp held fuel _ _ h hb
  obtain ⟨a, m, cap, rfl⟩ := okWide_slice Tryz.underlying37 hv
  obtain ⟨u, e, hS⟩ : ∃ u, [Value.slice a m cap] = [u] ∧ Sl u xs ⟨W, fun _ => False⟩ := hx
  simp only [List.cons.injEq, and_true] at e
  subst e
  have hl : (xs.map fun x : Cl => x.terms.length).sum + 1 ≤ 1048576 := Nat.le_trans hl hb
  have h3 := sum_le (fun x : Cl => x.terms.length) xs (fun x _ => by simp [Cl.terms, At0.terms])
  exact ⟨xs, hS, ho, by omega, by omega⟩
end
end Go.Proofs.YthkdggoohpgnnaaGreatDoor
