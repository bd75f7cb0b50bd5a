/- a part of the proof: lemmas on walks, on plain data, contracts of functions. -/
import Derived.Test.YthkdggoohpgnnaaGreatDoorRows
import Derived.Deep.Slices
import Derived.WalkKit
import Derived.ProofKit
import Derived.OpenShut
import Derived.LaidMore
import Derived.Carry
import Derived.Deep.DeepHandedRow
import Derived.Test.YthkdggoohpgnnaaGreatDoorA4
import Derived.Test.YthkdggoohpgnnaaGreatDoorA8
import Derived.Test.YthkdggoohpgnnaaGreatDoorA9
import Derived.Test.YthkdggoohpgnnaaGreatDoorA10
set_option linter.all false
/- Contracts: the examples that every statement asks. -/
namespace Go.Proofs.YthkdggoohpgnnaaGreatDoor
open Go Go.Wk
theorem law_va (n : Int) (c : Cx) : Cn Tryz.prog 55 [.int .i64 n] c (fun r _ => r = .agg (vaN n).cs.toArray) := by
  refine Cn.of Tryz.func55 Tryz.ntmps55 rfl rfl fun hm H HA => ?_
  (apply wc_seq; apply wc_region; refine Z61 fun bx c H HA => ?_; apply w_nil; apply wx_next; apply wc_seq; apply wc_region; refine Z0 ?_; refine Z54 ?_; refine Z74 fun c H HA => ?_; apply w_nil; apply wx_next; apply wc_ret)
  exact ret_fn H hm (outsR1 Tryz.results55 (RV.agg rfl H Ow Rc)) rfl
theorem law_text (s : ByteArray) (c : Cx) : Cn Tryz.prog 56 [.string s] c (fun r _ => r = .agg (Tm.cs ⟨2, 0, s⟩).toArray) := by
  refine Cn.of Tryz.func56 Tryz.ntmps56 rfl rfl fun hm H HA => ?_
  (apply wc_seq; apply wc_region; refine Z61 fun bx c H HA => ?_; apply w_nil; apply wx_next; apply wc_seq; apply wc_region; refine Z0 ?_; refine Z54 ?_; refine Z74 fun c H HA => ?_; apply w_nil; apply wx_next; apply wc_ret)
  exact ret_fn H hm (outsR1 Tryz.results56 (RV.agg rfl H Ow Rc)) rfl
theorem law_on (s : ByteArray) (ts : List Tm) (v : Value) (c : Cx) (h : Sl v ts c) : Cn Tryz.prog 54 [.string s, v] c (fun r c => Ag (⟨Tn, s, ts⟩ : At0) r c) := by
  refine Cn.of Tryz.func54 Tryz.ntmps54 rfl rfl fun hm H HA => ?_
  have HA := HA.add h
  (apply wc_seq; apply wc_region; refine Z61 fun bx c H HA => ?_; apply w_nil; apply wx_next; apply wc_seq; apply wc_region; refine Z0 ?_; refine Z0 ?_; refine Z54 ?_; refine Z74 fun c H HA => ?_; apply w_nil; apply wx_next; apply wc_ret)
  exact ret_fn H hm (outsR1 Tryz.results54 (RV.agg rfl H Ow Rc)) ⟨_, rfl, v, rfl, Lk⟩
set_option maxHeartbeats 1000000 in
theorem law_head (c : Cx) (hg : GlobOk c) : Cn Tryz.prog 15 [] c (fun r _ => r = .bool true) := by
  refine Cn.of Tryz.func15 Tryz.ntmps15 rfl rfl fun hm H HA => ?_
  have HA := HA.add hg
  (apply wc_seq; apply wc_region; refine Z2 ?_; apply w_nil; apply wx_next; apply wc_seq; apply wc_region)
  (refine s_call rfl rfl H HA (law_va 0 _) ?_; intro vx c H HP; have hvx := HP.h.1; have HA := HP.cut; subst hvx)
  (skip)
  (apply s_bs1D (u := (vaN 0)); exact rfl; exact rfl; exact rfl; exact rfl; exact rfl; exact rfl; exact H; exact HA; exact inferInstance; intro vx c H HA)
  (skip)
  (refine s_call rfl rfl H HA (law_on nmP [vaN 0] _ _ Lk) ?_; intro vx c H HA)
  (skip)
  (refine s_call rfl rfl H HA (law_va 0 _) ?_; intro vx c H HP; have hvx := HP.h.1; have HA := HP.cut; subst hvx)
  (skip)
  (apply s_bs1D (u := (vaN 0)); exact rfl; exact rfl; exact rfl; exact rfl; exact rfl; exact rfl; exact H; exact HA; exact inferInstance; intro vx c H HA)
  (skip)
  (refine s_call rfl rfl H HA (law_on nmQ [vaN 0] _ _ Lk) ?_; intro vx c H HA)
  (refine Z55 fun vx c H HA => ?_)
  obtain ⟨cs1, rfl, a0, rfl, ha0⟩ := (Lk : Ag (⟨Tn, nmP, [vaN 0]⟩ : At0) _ c)
  have HA := HA.add ha0
  (obtain ⟨a1, rfl⟩ : ∃ x, x = vx := ⟨_, rfl⟩)
  (refine Z54 ?_; refine Z61 fun bx c H HA => ?_; refine Z74 fun c H HA => ?_; apply w_nil; apply wx_next; apply wc_seq; apply wc_region)
  (obtain ⟨b1, rfl⟩ : ∃ x, x = bx := ⟨_, rfl⟩)
  (refine s_call rfl rfl H HA (law_text ⟨#[97]⟩ _) ?_; intro vx c H HP; have hvx := HP.h.1; have HA := HP.cut; subst hvx)
  (skip)
  (apply s_bs1D (u := txA); exact rfl; exact rfl; exact rfl; exact rfl; exact rfl; exact rfl; exact H; exact HA; exact inferInstance; intro vx c H HA)
  (skip)
  (refine s_call rfl rfl H HA (law_on nmP [txA] _ _ Lk) ?_; intro vx c H HA)
  (skip)
  (refine s_call rfl rfl H HA (law_text ⟨#[97]⟩ _) ?_; intro vx c H HP; have hvx := HP.h.1; have HA := HP.cut; subst hvx)
  (skip)
  (apply s_bs1D (u := txA); exact rfl; exact rfl; exact rfl; exact rfl; exact rfl; exact rfl; exact H; exact HA; exact inferInstance; intro vx c H HA)
  (skip)
  (refine s_call rfl rfl H HA (law_on nmQ [txA] _ _ Lk) ?_; intro vx c H HA)
  (skip)
  (refine s_call rfl rfl H HA (law_on nmR [] _ _ (Sl.nil _)) ?_; intro vx c H HA)
  (refine Z60 fun vx c H HA => ?_)
  obtain ⟨cs2, rfl, d0, rfl, hd0⟩ := (Lk : Ag (⟨Tn, nmP, [txA]⟩ : At0) _ c)
  have HA := HA.add hd0
  (obtain ⟨d1, rfl⟩ : ∃ x, x = vx := ⟨_, rfl⟩)
  (refine Z54 ?_; refine Z61 fun bx c H HA => ?_; refine Z74 fun c H HA => ?_; apply w_nil; apply wx_next; apply wc_seq; apply wc_region; refine Z42 ?_; refine Z42 ?_)
  (obtain ⟨b2, rfl⟩ : ∃ x, x = bx := ⟨_, rfl⟩)
  have hC : ∀ c', Sl a0 [vaN 0] c' → Sl a1 ([⟨Tn, nmQ, [vaN 0]⟩] : List At0) c' → Ag exC (.agg (Cl.cs exC a0 a1 (.slice none 0 0)).toArray) c' := fun c' h h' => ⟨_, rfl, _, _, _, rfl, h, h', Sl.nil c'⟩
  have hD : ∀ c', Sl d0 [txA] c' → Sl d1 ([⟨Tn, nmQ, [txA]⟩, ⟨Tn, nmR, []⟩] : List At0) c' → Ag exD (.agg (Cl.cs exD d0 d1 (.slice none 0 0)).toArray) c' := fun c' h h' => ⟨_, rfl, _, _, _, rfl, h, h', Sl.nil c'⟩
  have fC : exC.fit := (Cl.check_ok.1 (show exC.check = 0 by decide +kernel)).fit
  have fD : exD.fit := (Cl.check_ok.1 (show exD.check = 0 by decide +kernel)).fit
  (refine s_call rfl rfl H HA (subsume_Subsumes exC exD _ _ _ (hC _ Lk Lk) (hD _ Lk Lk) fC fD Lk) ?_; intro vx c H HA)
  rw [ex_cd] at HA
  obtain ⟨vm, hr, hSm⟩ := HA.h.1
  subst hr
  have HA := HA.cut.add hSm
  (refine Z0 ?_; refine Z32 ?_; refine Z32 ?_; refine Z2 ?_; refine Z2 ?_; apply w_nil; apply wx_next; apply wc_seq; apply wc_region; refine Z42 ?_; refine Z42 ?_)
  (refine s_call rfl rfl H HA (subsume_Subsumes exD exC _ _ _ (hD _ Lk Lk) (hC _ Lk Lk) fD fC Lk) ?_; intro vx c H HA)
  rw [ex_dc] at HA
  obtain ⟨vn, hr, hSn⟩ := HA.h.1
  subst hr
  have HA := HA.cut.add hSn
  have e1 : ((([txA] : List Tm).length : Nat) : Int) = 1 := rfl
  have e2 : txA = ⟨2, 0, ⟨#[97]⟩⟩ := rfl
  (refine Z0 ?_; refine Z32 ?_; refine Z32 ?_; refine Z2 ?_; refine Z2 ?_; apply w_nil; apply wx_next; apply wc_seq; apply wc_seq)
  dsimp only [Option.isSome, Option.getD, Bool.not_true] at HA ⊢
  (refine dw_start H HA ?_)
  (repeat (refine Dc ?_))
  (apply dw_cons; (focus ((intro B _ Lx c H HA; (repeat (first | (intro vx hx; have hx2 : vx = _ := hx; clear hx; subst hx2) | (intro vx hx; have HA := HA.addSF hx; clear hx) | (intro vx hx; have HA := HA.add hx; clear hx) | intro vx)); change W _ _ _ _ _ _ _); (apply s_go; exact rfl; exact rfl; exact rfl); (refine s_ixP (α := Tm) (i := 0) (u := txA) rfl rfl rfl Lk rfl rfl rfl ?_; intro vx hx; have HA := HA.add hx; clear hx); exact Dx)); exact inferInstance)
  (repeat (refine Dc ?_))
  (apply dw_cons; (focus ((intro B _ Lx c H HA; (repeat (first | (intro vx hx; have hx2 : vx = _ := hx; clear hx; subst hx2) | (intro vx hx; have HA := HA.addSF hx; clear hx) | (intro vx hx; have HA := HA.add hx; clear hx) | intro vx)); change W _ _ _ _ _ _ _); (apply s_go; exact rfl; exact rfl; exact rfl); (refine s_call rfl rfl H HA (law_text ⟨#[97]⟩ _) ?_; intro vx c H HP; have hvx := HP.h.1; have HA := HP.cut; subst hvx); exact Dx)); exact inferInstance)
  (repeat (refine Dc ?_))
  (refine dw_done mixed H HA rfl (by kernel_rfl) ?_; clear H HA; intro c H HA; (repeat (first | (intro vx hx; have hx2 : vx = _ := hx; clear hx; subst hx2) | (intro vx hx; have HA := HA.addSF hx; clear hx) | (intro vx hx; have HA := HA.add hx; clear hx) | intro vx)); change W _ _ _ _ _ _ _)
  (apply w_nil; apply wx_next; refine Z19 ?_; apply wc_skip; apply wx_next; apply wc_seq)
  (refine dw_start H HA ?_)
  (repeat (refine Dc ?_))
  (apply dw_cons; (focus ((intro B _ Lx c H HA; (repeat (first | (intro vx hx; have hx2 : vx = _ := hx; clear hx; subst hx2) | (intro vx hx; have HA := HA.addSF hx; clear hx) | (intro vx hx; have HA := HA.add hx; clear hx) | intro vx)); change W _ _ _ _ _ _ _); (refine s_call rfl rfl H HA (law_va 0 _) ?_; intro vx c H HP; have hvx := HP.h.1; have HA := HP.cut; subst hvx); exact Dx)); exact inferInstance)
  (apply dw_cons; (focus ((intro B _ Lx c H HA; (repeat (first | (intro vx hx; have hx2 : vx = _ := hx; clear hx; subst hx2) | (intro vx hx; have HA := HA.addSF hx; clear hx) | (intro vx hx; have HA := HA.add hx; clear hx) | intro vx)); change W _ _ _ _ _ _ _); (apply s_bs1D (u := (vaN 0)); exact rfl; exact rfl; exact rfl; exact rfl; exact rfl; exact rfl; exact H; exact HA; exact inferInstance; intro vx c H HA); exact Dx)); exact inferInstance)
  (apply dw_cons; (focus ((intro B _ Lx c H HA; (repeat (first | (intro vx hx; have hx2 : vx = _ := hx; clear hx; subst hx2) | (intro vx hx; have HA := HA.addSF hx; clear hx) | (intro vx hx; have HA := HA.add hx; clear hx) | intro vx)); change W _ _ _ _ _ _ _); refine s_call rfl rfl H HA (law_on nmQ [vaN 0] _ _ Lk) ?_; intro vx c H HP; exact w_nil (pq_rel H (Cp) HP.h.1))); exact inferInstance)
  (apply dw_cons; (focus ((intro B _ Lx c H HA; (repeat (first | (intro vx hx; have hx2 : vx = _ := hx; clear hx; subst hx2) | (intro vx hx; have HA := HA.addSF hx; clear hx) | (intro vx hx; have HA := HA.add hx; clear hx) | intro vx)); change W _ _ _ _ _ _ _); (refine s_call rfl rfl H HA (law_va 1 _) ?_; intro vx c H HP; have hvx := HP.h.1; have HA := HP.cut; subst hvx); exact Dx)); exact inferInstance)
  (apply dw_cons; (focus ((intro B _ Lx c H HA; (repeat (first | (intro vx hx; have hx2 : vx = _ := hx; clear hx; subst hx2) | (intro vx hx; have HA := HA.addSF hx; clear hx) | (intro vx hx; have HA := HA.add hx; clear hx) | intro vx)); change W _ _ _ _ _ _ _); (apply s_bs1D (u := (vaN 1)); exact rfl; exact rfl; exact rfl; exact rfl; exact rfl; exact rfl; exact H; exact HA; exact inferInstance; intro vx c H HA); exact Dx)); exact inferInstance)
  (apply dw_cons; (focus ((intro B _ Lx c H HA; (repeat (first | (intro vx hx; have hx2 : vx = _ := hx; clear hx; subst hx2) | (intro vx hx; have HA := HA.addSF hx; clear hx) | (intro vx hx; have HA := HA.add hx; clear hx) | intro vx)); change W _ _ _ _ _ _ _); refine s_call rfl rfl H HA (law_on nmQ [vaN 1] _ _ Lk) ?_; intro vx c H HP; exact w_nil (pq_rel H (Cp) HP.h.1))); exact inferInstance)
  (repeat (refine Dc ?_))
  (apply dw_cons; (focus ((intro B _ Lx c H HA; (repeat (first | (intro vx hx; have hx2 : vx = _ := hx; clear hx; subst hx2) | (intro vx hx; have HA := HA.addSF hx; clear hx) | (intro vx hx; have HA := HA.add hx; clear hx) | intro vx)); change W _ _ _ _ _ _ _); (apply s_build; exact rfl; (focus ((repeat (first | exact bld_nil | (apply bld_cons; (conv => lhs; whnf)))); done)); (focus ((repeat' (first | exact Fil.nil | apply Fil.take | apply Fil.skip | exact App.nil | apply App.cons | (have h := HA.h; (repeat (first | exact Cells.sl h.1 | exact Cells.sl h | replace h := h.2)); done) | exact Cells.lit rfl | exact rfl)); done))); exact w_nil (pq_rel (S := Ag exT) H Cu ⟨_, rfl, a0, _, _, rfl, Lk, Lk, Sl.nil _⟩))); exact inferInstance)
  (repeat (refine Dc ?_))
  ((refine dw_doneO mixed H HA (by kernel_rfl) (by kernel_rfl) ?_; clear H HA; intro c HA; (repeat (first | (intro bx; have hbx : bx + 0 = bx := rfl; clear hbx) | (intro vx hx; have hx2 : vx = _ := hx; clear hx; subst hx2) | (intro vx hx; have HA := HA.addSF hx; clear hx) | (intro vx hx; skip; have HA := HA.add hx; clear hx) | (intro vx; have hvx2 : Go.Value := vx; clear hvx2))); (first | intro H | (have H := HA.h.1; have HA := HA.cut)); change W _ _ _ _ _ _ _); have H : Owns _ ([.obj bx (.cells (Cl.cs ⟨⟨Tn, ES, []⟩, [], []⟩ (.slice none 0 0) (.slice none 0 0) (.slice none 0 0)).toArray 30 (0, 0)), _, _]) _ := H)
  (obtain ⟨b7, rfl⟩ : ∃ x, x = bx := ⟨_, rfl⟩)
  obtain ⟨cs7, rfl, t0, t1, t2, rfl, ht0, ht1, ht2⟩ := (Lk : Ag exT _ c)
  have HA := ((HA.add ht0).add ht1).add ht2
  have fT : exT.fit := (Cl.check_ok.1 ex_tc).fit
  (refine Z74 fun c H HA => ?_; apply w_nil; apply wx_next; apply wc_seq; apply wc_region; refine Z42 ?_)
  (refine s_call rfl rfl H HA (subsume_Condense exT _ _ ⟨_, rfl, t0, t1, t2, rfl, Lk, Lk, Lk⟩ fT Lk) ?_; intro vx c H HA)
  rw [condE, if_pos ex_tc, ex_tn, ex_tc] at HA
  obtain ⟨ur, hr, cs8, rfl, u0, u1, u2, rfl, hu0, hu1, hu2⟩ := HA.h.1
  subst hr
  have HA := ((HA.cut.add hu0).add hu1).add hu2
  (refine Z0 ?_; refine Z32 ?_; refine Z32 ?_; refine Z61 fun bx c H HA => ?_; refine Z74 fun c H HA => ?_; refine Z2 ?_; apply w_nil; apply wx_next; apply wc_seq; apply wc_region; refine Z42 ?_; refine Z42 ?_; refine Z42 ?_)
  (obtain ⟨b8, rfl⟩ : ∃ x, x = bx := ⟨_, rfl⟩)
  have HA := ((HA.add (show Ag exT (.agg (Cl.cs exT t0 t1 t2).toArray) c from ⟨_, rfl, t0, t1, t2, rfl, Lk, Lk, Lk⟩)).add (hD _ Lk Lk)).add (hC _ Lk Lk)
  (refine Z60 fun vx c H HA => ?_)
  (refine s_call rfl rfl H HA (subsume_Reduce [exT, exD, exC] _ _ Lk (fun x hx => by
    rcases List.mem_cons.1 hx with rfl | hx
    · exact fT
    · rcases List.mem_cons.1 hx with rfl | hx
      · exact fD
      · rcases List.mem_cons.1 hx with rfl | hx
        · exact fC
        · cases hx) Lk) ?_; intro vx c H HA)
  rw [ex_rd] at HA
  obtain ⟨vl, hr, hSl⟩ := HA.h.1
  subst hr
  have HA := HA.cut.add hSl
  have e3 : (0 : Int) = 0 := rfl
  have e4 : ((([exC] : List Cl).length : Nat) : Int) = 1 := rfl
  (refine Z0 ?_; refine Z32 ?_; refine Z32 ?_; refine Z2 ?_; refine Z2 ?_; apply w_nil; apply wx_next; apply wc_seq)
  have hAC : ∀ c', Sl u0 exC.head.args c' → Sl u1 exC.body c' → Sl u2 exC.tests c' → Ag exC (.agg (Cl.cs exC u0 u1 u2).toArray) c' := fun c' h h' h'' => ⟨_, rfl, _, _, _, rfl, h, h', h''⟩
  have hSl : Sl vl [exC] c := hSl
  have HA := HA.add hSl
  (refine dw_start H HA ?_)
  (repeat (refine Dc ?_))
  (apply dw_cons; (focus ((intro B _ Lx c H HA; (repeat (first | (intro vx hx; have hx2 : vx = _ := hx; clear hx; subst hx2) | (intro vx hx; have HA := HA.addSF hx; clear hx) | (intro vx hx; have HA := HA.add hx; clear hx) | intro vx)); change W _ _ _ _ _ _ _); (apply s_go; exact rfl; exact rfl; exact rfl); (refine s_call rfl rfl H HA (Cn.imp (Post' := fun v _ => v = .bool true) (ref03_SameClause exC exC _ _ _ (hAC _ Lk Lk Lk) Lk) (fun v c' _ h => by rw [h, decide_eq_true rfl])) ?_; intro vx c H HP; have hvx := HP.h.1; have HA := HP.cut; subst hvx); exact Dx)); exact inferInstance)
  (repeat (refine Dc ?_))
  (apply dw_cons; (focus ((intro B _ Lx c H HA; (repeat (first | (intro vx hx; have hx2 : vx = _ := hx; clear hx; subst hx2) | (intro vx hx; have HA := HA.addSF hx; clear hx) | (intro vx hx; have HA := HA.add hx; clear hx) | intro vx)); change W _ _ _ _ _ _ _); (apply s_go; exact rfl; exact rfl; exact rfl); (refine s_ixP (α := Cl) (i := 0) (u := exC) rfl rfl rfl (Lk : Sl vl [exC] _) rfl rfl rfl ?_; intro vx hx; have HA := HA.add hx; clear hx); exact Dx)); exact inferInstance)
  (repeat (refine Dc ?_))
  (apply dw_cons; (focus ((intro B _ Lx c H HA; (repeat (first | (intro vx hx; have hx2 : vx = _ := hx; clear hx; subst hx2) | (intro vx hx; have HA := HA.addSF hx; clear hx) | (intro vx hx; have HA := HA.add hx; clear hx) | intro vx)); change W _ _ _ _ _ _ _); (apply s_go; exact rfl; exact rfl; exact rfl); (refine s_call rfl rfl H HA (Cn.imp (Post' := fun v _ => v = .bool true) (ref03_SameClause exC exC _ _ _ Lk Lk) (fun v c' _ h => by rw [h, decide_eq_true rfl])) ?_; intro vx c H HP; have hvx := HP.h.1; have HA := HP.cut; subst hvx); exact Dx)); exact inferInstance)
  (repeat (refine Dc ?_))
  (refine dw_done mixed H HA rfl (by kernel_rfl) ?_; clear H HA; intro c H HA; (repeat (first | (intro vx hx; have hx2 : vx = _ := hx; clear hx; subst hx2) | (intro vx hx; have HA := HA.addSF hx; clear hx) | (intro vx hx; have HA := HA.add hx; clear hx) | intro vx)); change W _ _ _ _ _ _ _)
  (apply w_nil; apply wx_next; apply wc_ret)
  exact ret_fn H hm (outs1 Tryz.results15 Wh) rfl
end Go.Proofs.YthkdggoohpgnnaaGreatDoor
/- Contracts: terms and tests made valid. -/
namespace Go.Wk
open Go Go.RowKit
section
variable {P : Program} {ops : Array Oper} {Q : Exit → Act → World → Prop} {n : Nat} {f : Nat → Value} {rest : List Oper} {ty : TypeId} {ps : String} {af : Array Edge} {d : Tmp} {w : World}
/-- s[:m] of a string. -/
theorem s_slS {T : TypeId} {x y : Operand} {s : ByteArray} {m : Nat} (hn : Nat.blt d n = true) [StrT P T] (hx : opd f x = .string s) (hy : opd f y = .int .i64 m) (hm : m ≤ s.size) (k : W P ops Q rest n (upd f d (.string (s.extract 0 m))) w) :
    W P ops Q (⟨some d, .slice T x none (some y) none, ty, ps, af, none⟩ :: rest) n f w := by
  refine st_val hn ?_ k
  have hu := StrT.h (P := P) (T := T)
  have h2 : (m : Int) ≤ s.size := by omega
  simp only [execOp, hx, hy, Option.map_none, Option.map_some]
  simp [Instr.sliceAt, Instr.slice, Instr.sliceBounds, Instr.sliceBound, asIntOf, run_underlying hu, h2]
  intro hc
  omega
theorem s_rem {T T' : TypeId} {x y : Operand} {kd : IntKind} {a b : Int} (hn : Nat.blt d n = true) (hx : opd f x = .int kd a) (hy : opd f y = .int kd b) (hb : b ≠ 0) (k : W P ops Q rest n (upd f d (.int kd (a.tmod b))) w) : W P ops Q (⟨some d, .binOp .rem T x y T', ty, ps, af, none⟩ :: rest) n f w :=
  st_val hn (by simp [execOp, hx, hy, eqGuard_at_int, binOp_rem, Op.intDiv, hb]) k
/-- Ways meet again: what is known of the frame, what is owned. -/
theorem wc_cutK {x y : Code} {c0 c : Cx} {L0 : List Res} {A : Cx → Prop} (kf : List (Nat × Value)) (L : List Res) (H : Owns c0 L0 c) (HA : Hd A c) (h : WC P x (CutI n fun f c => KS f kf ∧ Owns c0 L c ∧ Hd A c) n f c.w) (k : ∀ g c, Owns c0 L c → Hd A c → WC P y Q n (updA g kf) c.w) : WC P (.seq x y) Q n f c.w :=
  wc_cut _ h fun f' c' ⟨hk, H, HA⟩ => by
    obtain ⟨g, rfl⟩ := hk.ex
    exact k g c' H HA
theorem wc_cutS {x y : Code} {c0 c : Cx} {L : List Res} {A : Cx → Prop} (kf : List (Nat × Value)) (H : Owns c0 L c) (HA : Hd A c) (h : WC P x (CutI n fun f c => KS f kf ∧ Owns c0 L c ∧ Hd A c) n f c.w) (k : ∀ g c, Owns c0 L c → Hd A c → WC P y Q n (updA g kf) c.w) : WC P (.seq x y) Q n f c.w := wc_cutK kf L H HA h k
theorem wx_cutK {c0 c : Cx} {L : List Res} {A : Cx → Prop} {kf : List (Nat × Value)} (H : Owns c0 L c) (HA : Hd A c) (hk : KS f kf) : WX (CutI n fun f c => KS f kf ∧ Owns c0 L c ∧ Hd A c) .normal n f c.w := wx_cut ⟨hk, H, HA⟩
theorem wc_cutE {x y : Code} {c0 c : Cx} {L0 : List Res} {A : Cx → Prop} (kf : Value → List (Nat × Value)) (L : Value → List Res) (S : Value → Cx → Prop) (H : Owns c0 L0 c) (HA : Hd A c) (h : WC P x (CutI n fun f c => ∃ v, KS f (kf v) ∧ Owns c0 (L v) c ∧ Hd (fun c => S v c ∧ A c) c) n f c.w)
    (k : ∀ v g c, Owns c0 (L v) c → Hd (fun c => S v c ∧ A c) c → WC P y Q n (updA g (kf v)) c.w) : WC P (.seq x y) Q n f c.w :=
  wc_cut _ h fun f' c' ⟨v, hk, H, HA⟩ => by
    obtain ⟨g, rfl⟩ := hk.ex
    exact k v g c' H HA
theorem wx_cutE {c0 c : Cx} {L : Value → List Res} {A : Cx → Prop} {S : Value → Cx → Prop} {kf : Value → List (Nat × Value)} (v : Value) (H : Owns c0 (L v) c) (HA : Hd A c) (hS : S v c) (hk : KS f (kf v)) : WX (CutI n fun f c => ∃ v, KS f (kf v) ∧ Owns c0 (L v) c ∧ Hd (fun c => S v c ∧ A c) c) .normal n f c.w := wx_cut ⟨v, hk, H, HA.add hS⟩
end
theorem tmod4 (n : Int) : -4 < n.tmod 4 ∧ n.tmod 4 < 4 := by
  rw [Int.tmod_eq_emod]
  split <;> omega
end Go.Wk
namespace Go.Proofs.YthkdggoohpgnnaaGreatDoor
open Go Go.Wk
theorem ref03_MadeConst (t : Tm) (c : Cx) (hs : t.sm) : Cn Tryz.prog 27 [.agg t.cs.toArray] c (fun r _ => r = .agg (constM t).cs.toArray) := by
  refine Cn.of Tryz.func27 Tryz.ntmps27 rfl rfl fun hm H HA => ?_
  (apply wc_seq; apply wc_region; refine Z31 fun bx c H HA => ?_; refine Z61 fun bx c H HA => ?_; apply w_nil; apply wx_next; apply wc_seq; apply wc_seq; apply wc_region; refine Z7 ?_)
  (refine s_call rfl rfl H HA (ref02_Const t _) ?_; intro vx c H HP; have hvx := HP.h.1; have HA := HP.cut; subst hvx)
  cases hc : t.isConst
  · have hs' : t.s.size < 4611686018427387904 := hs
    (focus (apply w_nil; apply wx_next; refine Z19 ?_; apply wc_skip; apply wx_next; apply wc_seq; apply wc_seq; apply wc_region; refine Z3 ?_; refine Z1 ?_; refine Z92 (fun hq => ?_) fun hq => ?_; apply w_nil; apply wx_next; refine Z18 ?_; apply wc_seq; apply wc_region; refine Z3 ?_; refine Z1 ?_; refine Z43 ?_; refine Z2 ?_; apply w_nil; apply wx_next; apply wc_seq; apply wc_seq; apply wc_region; refine Z0 ?_; refine Z96 (fun hq => ?_) fun hq => ?_; apply w_nil; apply wx_next; refine Z18 ?_; apply wc_region; refine Z2 ?_; apply w_nil; apply wx_next; apply wc_seq; apply wc_region; refine Z3 ?_; refine Z1 ?_; refine Z0 ?_; rotate_left; apply w_nil; apply wx_next; refine Z19 ?_; apply wc_skip; apply wx_next; apply wc_seq; apply wc_region; refine Z3 ?_; refine Z1 ?_; refine Z0 ?_; rotate_left; apply w_nil; apply wx_next; refine Z19 ?_; apply wc_skip; apply wx_next; apply wc_seq; apply wc_region; refine Z3 ?_; refine Z1 ?_; refine Z54 ?_; refine Z74 fun c H HA => ?_; apply w_nil; apply wx_next; apply wc_ret; rotate_left))
    · rename_i hk
      have e : t.s.extract 0 64 = t.s.extract 0 (min t.s.size 64) := by rw [Nat.min_eq_right (by omega)]
      (refine s_slS (m := 64) rfl rfl rfl (by omega) ?_)
      (refine Z54 ?_; refine Z74 fun c H HA => ?_; apply w_nil; apply wx_next; apply wc_ret; apply wx_ret_then)
      exact ret_fn H hm (outsR1 Tryz.results27 (RV.agg rfl H Ow Rc)) (by rw [e]; simp [constM, hc, hk])
    · rename_i hk
      have e : t.s.extract 0 t.s.size = t.s.extract 0 (min t.s.size 64) := by rw [Nat.min_eq_left (by omega)]
      (refine s_slS (m := t.s.size) rfl rfl rfl (by omega) ?_)
      (refine Z54 ?_; refine Z74 fun c H HA => ?_; apply w_nil; apply wx_next; apply wc_ret; apply wx_ret_then)
      exact ret_fn H hm (outsR1 Tryz.results27 (RV.agg rfl H Ow Rc)) (by rw [e]; simp [constM, hc, hk])
    · exact ret_fn H hm (outsR1 Tryz.results27 (RV.agg rfl H Ow Rc)) (by simp [constM, hc, hq])
  · (apply w_nil; apply wx_next; refine Z18 ?_; apply wc_seq; apply wc_region; refine Z7 ?_; refine Z74 fun c H HA => ?_; apply w_nil; apply wx_next; apply wc_ret; apply wx_ret_then)
    exact ret_fn H hm (outsR1 Tryz.results27 (RV.agg rfl H Ow Rc)) (by simp [constM, hc])
theorem ref03_ground (t : Tm) (c : Cx) : Cn Tryz.prog 119 [.agg t.cs.toArray] c (fun r _ => r = .agg (groundM t).cs.toArray) := by
  refine Cn.of Tryz.func119 Tryz.ntmps119 rfl rfl fun hm H HA => ?_
  (focus (apply wc_seq; apply wc_region; refine Z31 fun bx c H HA => ?_; refine Z61 fun bx c H HA => ?_; apply w_nil; apply wx_next; apply wc_seq; apply wc_seq; apply wc_region; refine Z3 ?_; refine Z1 ?_; refine Z92 (fun hq => ?_) fun hq => ?_; apply w_nil; apply wx_next; refine Z18 ?_; apply wc_seq; apply wc_region; refine Z3 ?_; refine Z1 ?_; refine Z54 ?_; refine Z74 fun c H HA => ?_; apply w_nil; apply wx_next; apply wc_ret; apply wx_ret_then; rotate_left; apply w_nil; apply wx_next; refine Z19 ?_; apply wc_skip; apply wx_next; apply wc_seq; apply wc_region; refine Z7 ?_; refine Z74 fun c H HA => ?_; apply w_nil; apply wx_next; apply wc_ret; rotate_left))
  · exact ret_fn H hm (outsR1 Tryz.results119 (RV.agg rfl H Ow Rc)) (by rw [groundM, if_pos hq])
  · exact ret_fn H hm (outsR1 Tryz.results119 (RV.agg rfl H Ow Rc)) (by rw [groundM, if_neg hq])
theorem ref03_safe (l : List Tm) (v : Value) (t : Tm) (c : Cx) (h : Sl v l c) : Cn Tryz.prog 64 [v, .agg t.cs.toArray] c (fun r _ => r = .agg (safeM l t).cs.toArray) := by
  refine Cn.of Tryz.func64 Tryz.ntmps64 rfl rfl fun hm H HA => ?_
  have HA := HA.add h
  (apply wc_seq; apply wc_region; refine Z31 fun bx c H HA => ?_; refine Z61 fun bx c H HA => ?_; apply w_nil; apply wx_next; apply wc_seq; apply wc_seq; apply wc_region; refine Z0 ?_; refine Z7 ?_)
  (refine s_call rfl rfl H HA (ref03_within l _ t _ Lk) ?_; intro vx c H HP; have hvx := HP.h.1; have HA := HP.cut; subst hvx)
  by_cases ht : t ∈ l
  · rw [decide_eq_true ht]
    (apply w_nil; apply wx_next; refine Z18 ?_; apply wc_seq; apply wc_region; refine Z7 ?_; refine Z74 fun c H HA => ?_; apply w_nil; apply wx_next; apply wc_ret; apply wx_ret_then)
    exact ret_fn H hm (outsR1 Tryz.results64 (RV.agg rfl H Ow Rc)) (by rw [safeM, if_pos ht])
  · rw [decide_eq_false ht]
    (apply w_nil; apply wx_next; refine Z19 ?_; apply wc_skip; apply wx_next; apply wc_seq; apply wc_region; refine Z7 ?_)
    (refine s_call rfl rfl H HA (ref03_ground t _) ?_; intro vx c H HP; have hvx := HP.h.1; have HA := HP.cut; subst hvx)
    (refine Z74 fun c H HA => ?_; apply w_nil; apply wx_next; apply wc_ret)
    exact ret_fn H hm (outsR1 Tryz.results64 (RV.agg rfl H Ow Rc)) (by rw [safeM, if_neg ht])
end Go.Proofs.YthkdggoohpgnnaaGreatDoor
/- Contracts: atoms made valid. -/
namespace Go.Proofs.YthkdggoohpgnnaaGreatDoor
open Go Go.Wk
theorem ref03_madeTest (l : List Tm) (v : Value) (t : Ts) (c : Cx) (h : Sl v l c) (hl : t.l.sm) (hr : t.r.sm) : Cn Tryz.prog 65 [.agg t.cs.toArray, v] c (fun r _ => r = .agg (madeTs l t).cs.toArray) := by
  refine Cn.of Tryz.func65 Tryz.ntmps65 rfl rfl fun hm H HA => ?_
  have HA := HA.add h
  have hs1 : t.l.s.size < 4611686018427387904 := hl
  (skip)
  (apply wc_seq; apply wc_region)
  (refine Z31 fun bx c H HA => ?_; refine Z61 fun bx c H HA => ?_; apply w_nil; apply wx_next)
  (obtain ⟨b4, rfl⟩ : ∃ x, x = bx := ⟨_, rfl⟩)
  (obtain ⟨b2, rfl⟩ : ∃ x, x = bx := ⟨_, rfl⟩)
  (apply wc_seq; apply wc_region)
  (refine Z3 ?_; refine Z1 ?_; refine Z2 ?_; apply w_nil; apply wx_next)
  (refine wc_cutS [(1, v), (2, .pointer (some ⟨b2, 0, none⟩)), (4, .pointer (some ⟨b4, 0, none⟩)), (5, .int .i64 (madeOp t.op))] H HA ?_ ?_)
  · have hr1 := tmod4 t.op
    have hr2 := tmod4 (t.op.tmod 4 + 4)
    (focus (apply wc_seq; apply wc_region; refine Z0 ?_; refine Z93 (fun hq => ?_) fun hq => ?_; refine Z0 ?_; refine Z5 ?_; refine Z5 ?_; refine Z8 ?_; apply w_nil; apply wx_next; refine Z18 ?_; apply wc_region; refine Z0 ?_; rotate_left; refine Z0 ?_; refine Z4 ?_; refine Z0 ?_; refine Z4 ?_; refine Z96 (fun hq => ?_) fun hq => ?_; refine Z30 ?_; apply w_nil; apply wx_next; refine Z18 ?_; apply wc_region; refine Z0 ?_; rotate_left; refine Z30 ?_; apply w_nil; apply wx_next; refine Z19 ?_; apply wc_skip; rotate_left))
    · rename_i hq
      have e : madeOp t.op = 1 + (t.op.tmod 4 + 4).tmod 4 := by rw [madeOp, if_pos (.inl hq)]
      (refine s_rem rfl rfl rfl (by decide) ?_)
      (refine Z48 ?_)
      (refine s_rem rfl rfl rfl (by decide) ?_)
      (refine Z48 ?_; refine Z2 ?_; apply w_nil)
      rw [← e]
      exact wx_cutK H Cu Ks
    · rename_i hq
      have e : madeOp t.op = 1 + (t.op.tmod 4 + 4).tmod 4 := by rw [madeOp, if_pos (.inr hq)]
      (refine s_rem rfl rfl rfl (by decide) ?_)
      (refine Z48 ?_)
      (refine s_rem rfl rfl rfl (by decide) ?_)
      (refine Z48 ?_; refine Z2 ?_; apply w_nil)
      rw [← e]
      exact wx_cutK H Cu Ks
    · rename_i hq hq2
      have e : t.op = madeOp t.op := by rw [madeOp, if_neg (by omega)]
      refine wx_cutK H Cu ?_
      rw [← e]
      exact Ks
  intro g c H HA
  (apply wc_seq; apply wc_region)
  (refine Z3 ?_; refine Z7 ?_; refine Z61 fun bx c H HA => ?_; refine Z74 fun c H HA => ?_; apply w_nil; apply wx_next)
  (obtain ⟨b6, rfl⟩ : ∃ x, x = bx := ⟨_, rfl⟩)
  (apply wc_seq; apply wc_region)
  (refine Z3 ?_; refine Z7 ?_; refine Z61 fun bx c H HA => ?_; refine Z74 fun c H HA => ?_; apply w_nil; apply wx_next)
  (obtain ⟨b7, rfl⟩ : ∃ x, x = bx := ⟨_, rfl⟩)
  have hs2 : t.r.s.size < 4611686018427387904 := hr
  (refine wc_cutK [(1, v), (2, .pointer (some ⟨b2, 0, none⟩)), (4, .pointer (some ⟨b4, 0, none⟩)), (5, .int .i64 (madeOp t.op)), (6, .pointer (some ⟨b6, 0, none⟩)), (7, .pointer (some ⟨b7, 0, none⟩))] [.obj b7 (.cells (Tm.cs t.r).toArray 23 (0, 0)), .obj b6 (.cells (Tm.cs (madeT t.l)).toArray 23 (0, 0)), .obj b4 (.cells (Ts.cs ⟨0, Tn, Tn⟩).toArray 79 (0, 0))] H HA ?_ ?_)
  · (apply wc_seq; apply wc_region; refine Z42 ?_)
    (refine s_call rfl rfl H HA (ref02_Variable t.l _) ?_; intro vx c H HP; have hvx := HP.h.1; have HA := HP.cut; subst hvx)
    cases hv : t.l.isVar
    · (refine Z33 ?_; apply w_nil; apply wx_next; refine Z18 ?_; apply wc_region; refine Z42 ?_)
      (refine s_call rfl rfl H HA (ref03_MadeConst t.l _ hl) ?_; intro vx c H HP; have hvx := HP.h.1; have HA := HP.cut; subst hvx)
      have H := H.swap
      (refine Z74 fun c H HA => ?_; apply w_nil)
      have H := H.swap
      have e : madeT t.l = constM t.l := by rw [madeT, hv]; rfl
      rw [e]
      exact wx_cutK H Cu Ks
    · (refine Z33 ?_; apply w_nil; apply wx_next; refine Z19 ?_; apply wc_skip)
      have e : madeT t.l = t.l := by rw [madeT, hv]; rfl
      rw [e]
      exact wx_cutK H Cu Ks
  intro g c H HA
  (refine wc_cutK [(1, v), (2, .pointer (some ⟨b2, 0, none⟩)), (4, .pointer (some ⟨b4, 0, none⟩)), (5, .int .i64 (madeOp t.op)), (6, .pointer (some ⟨b6, 0, none⟩)), (7, .pointer (some ⟨b7, 0, none⟩))] [.obj b7 (.cells (Tm.cs (madeT t.r)).toArray 23 (0, 0)), .obj b6 (.cells (Tm.cs (madeT t.l)).toArray 23 (0, 0)), .obj b4 (.cells (Ts.cs ⟨0, Tn, Tn⟩).toArray 79 (0, 0))] H HA ?_ ?_)
  · (apply wc_seq; apply wc_region; refine Z42 ?_)
    (refine s_call rfl rfl H HA (ref02_Variable t.r _) ?_; intro vx c H HP; have hvx := HP.h.1; have HA := HP.cut; subst hvx)
    cases hv : t.r.isVar
    · (refine Z33 ?_; apply w_nil; apply wx_next; refine Z18 ?_; apply wc_region; refine Z42 ?_)
      (refine s_call rfl rfl H HA (ref03_MadeConst t.r _ hr) ?_; intro vx c H HP; have hvx := HP.h.1; have HA := HP.cut; subst hvx)
      (refine Z74 fun c H HA => ?_; apply w_nil)
      have e : madeT t.r = constM t.r := by rw [madeT, hv]; rfl
      rw [e]
      exact wx_cutK H Cu Ks
    · (refine Z33 ?_; apply w_nil; apply wx_next; refine Z19 ?_; apply wc_skip)
      have e : madeT t.r = t.r := by rw [madeT, hv]; rfl
      rw [e]
      exact wx_cutK H Cu Ks
  intro g c H HA
  (apply wc_seq)
  (refine dw_start H HA ?_)
  (repeat (refine Dc ?_))
  (apply dw_cons; (focus ((intro B _ Lx c H HA; (repeat (first | (intro vx hx; have hx2 : vx = _ := hx; clear hx; subst hx2) | (intro vx hx; have HA := HA.addSF hx; clear hx) | (intro vx hx; have HA := HA.add hx; clear hx) | intro vx)); change W _ _ _ _ _ _ _); (refine s_call rfl rfl H HA (ref03_safe l v (madeT t.l) _ Lk) ?_; intro vx c H HP; have hvx := HP.h.1; have HA := HP.cut; subst hvx); exact Dx)); exact inferInstance)
  (repeat (refine Dc ?_))
  (apply dw_cons; (focus ((intro B _ Lx c H HA; (repeat (first | (intro vx hx; have hx2 : vx = _ := hx; clear hx; subst hx2) | (intro vx hx; have HA := HA.addSF hx; clear hx) | (intro vx hx; have HA := HA.add hx; clear hx) | intro vx)); change W _ _ _ _ _ _ _); (refine s_call rfl rfl H HA (ref03_safe l v (madeT t.r) _ Lk) ?_; intro vx c H HP; have hvx := HP.h.1; have HA := HP.cut; subst hvx); exact Dx)); exact inferInstance)
  (repeat (refine Dc ?_))
  (refine dw_done mixed H HA rfl (by kernel_rfl) ?_; clear H HA; intro c H HA; (repeat (first | (intro vx hx; have hx2 : vx = _ := hx; clear hx; subst hx2) | (intro vx hx; have HA := HA.addSF hx; clear hx) | (intro vx hx; have HA := HA.add hx; clear hx) | intro vx)); change W _ _ _ _ _ _ _)
  have H := H.swap2
  (refine Z74 fun c H HA => ?_; apply w_nil; apply wx_next; apply wc_ret)
  exact ret_fn H hm (outsR1 Tryz.results65 (RV.agg rfl H Ow Rc)) rfl
end Go.Proofs.YthkdggoohpgnnaaGreatDoor
/- Contracts: atoms made valid. -/
namespace Go.Wk
open Go Go.RowKit
/-- An atom whose row of arguments is handed back as the caller's own. -/
def AtO (e : TypeId) (a : At0) (v : Value) (R : List Res) (c : Cx) : Prop := ∃ vr vals, v = .agg (At0.cs a vr).toArray ∧ R = [.row vr e 3 a.args.length vals.flatten] ∧ Vals vals a.args c
instance AtO.mono (e : TypeId) (a : At0) (v : Value) (R : List Res) : Mono (AtO e a v R) := ⟨fun h ⟨vr, vals, e1, e2, k⟩ => ⟨vr, vals, e1, e2, Mono.mono h k⟩⟩
theorem CnO.at0 {P : Program} {g : FuncId} {args : List Value} {c : Cx} {e : TypeId} {a : At0} (h : CnO P g args c (AtO e a)) (hlim : a.args.length < 1099511627776) : Cn P g args c fun v c => Ag a v c :=
  fun hm => (h hm).mono fun _ w' ⟨v, R, M', he, h1, h2, h3⟩ => by
    obtain ⟨vr, vals, e1, rfl, hv⟩ := h3
    have h4 := h1.freezeRow hv rfl rfl hlim
    refine ⟨v, he, h1.ext, ?_⟩
    subst e1
    exact ⟨_, rfl, vr, rfl, Mono.mono (h4.2.1.fin hm) h4.2.2⟩
end Go.Wk
namespace Go.Proofs.YthkdggoohpgnnaaGreatDoor
open Go Go.Wk
theorem ref03_MadeAtomO (a : At0) (u : Value) (c : Cx) (h : Ag a u c) (hs : a.sm) : CnO Tryz.prog 62 [u] c (AtO 23 (madeA a)) := by
  refine CnO.of Tryz.func62 Tryz.ntmps62 rfl rfl fun hm H HA => ?_
  have HA := HA.add h
  (apply wc_seq; apply wc_region)
  (refine s_boxG rfl rfl Lk H HA ?_; intro p c H HA)
  (refine Z61 fun bx c H HA => ?_; apply w_nil; apply wx_next)
  (obtain ⟨b2, rfl⟩ : ∃ x, x = bx := ⟨_, rfl⟩)
  (apply wc_seq; apply wc_region)
  (refine Z35 HA fun vx HA => ?_; refine Z38 ?_; refine Z35 HA fun vx HA => ?_; refine Z36 ?_; refine Z54 ?_; refine Z61 fun bx c H HA => ?_; refine Z74 fun c H HA => ?_; apply w_nil; apply wx_next)
  (obtain ⟨b3, rfl⟩ : ∃ x, x = bx := ⟨_, rfl⟩)
  (refine wc_cutK [(1, p), (2, .pointer (some ⟨b2, 0, none⟩)), (3, .pointer (some ⟨b3, 0, none⟩))] [.obj b3 (.cells (At0.cs ⟨madeBy a.by_, a.name, []⟩ (.slice none 0 0)).toArray 26 (0, 0)), .obj b2 (.cells (At0.cs ⟨Tn, ES, []⟩ (.slice none 0 0)).toArray 26 (0, 0))] H HA ?_ ?_)
  · (apply wc_seq; apply wc_region; refine Z35 HA fun vx HA => ?_; refine Z38 ?_; refine Z54 ?_)
    (refine s_call rfl rfl H HA (ref02_CheckAtom (⟨a.by_, nmP, []⟩ : At0) _ _ ⟨_, rfl, _, rfl, Sl.nil _⟩ (show nmP.size < 4611686018427387904 by decide)) ?_; intro vx c H HP; have hvx := HP.h.1; have HA := HP.cut; subst hvx)
    by_cases hc : (⟨a.by_, nmP, []⟩ : At0).check = 0
    · (refine Z82 ?_; apply w_nil; apply wx_next; refine Z19 ?_; apply wc_skip)
      have e : madeBy a.by_ = a.by_ := by rw [madeBy, if_pos hc]
      rw [e]
      exact wx_cutK H Cu Ks
    · (refine Z82 ?_; apply w_nil; apply wx_next; refine Z18 ?_; apply wc_region; refine Z54 ?_; refine Z3 ?_; refine Z74 fun c H HA => ?_; apply w_nil)
      have e : madeBy a.by_ = Tn := by rw [madeBy, if_neg hc]
      rw [e]
      exact wx_cutK H Cu Ks
  intro g c H HA
  (refine wc_cutK [(1, p), (2, .pointer (some ⟨b2, 0, none⟩)), (3, .pointer (some ⟨b3, 0, none⟩))] [.obj b3 (.cells (At0.cs ⟨madeBy a.by_, madeNm a.name, []⟩ (.slice none 0 0)).toArray 26 (0, 0)), .obj b2 (.cells (At0.cs ⟨Tn, ES, []⟩ (.slice none 0 0)).toArray 26 (0, 0))] H HA ?_ ?_)
  · (apply wc_seq; apply wc_region; refine Z35 HA fun vx HA => ?_; refine Z36 ?_; refine Z54 ?_)
    (refine s_call rfl rfl H HA (ref02_CheckAtom (⟨Tn, a.name, []⟩ : At0) _ _ ⟨_, rfl, _, rfl, Sl.nil _⟩ hs.1) ?_; intro vx c H HP; have hvx := HP.h.1; have HA := HP.cut; subst hvx)
    by_cases hc : (⟨Tn, a.name, []⟩ : At0).check = 0
    · (refine Z82 ?_; apply w_nil; apply wx_next; refine Z19 ?_; apply wc_skip)
      have e : madeNm a.name = a.name := by rw [madeNm, if_pos hc]
      rw [e]
      exact wx_cutK H Cu Ks
    · (refine Z82 ?_; apply w_nil; apply wx_next; refine Z18 ?_; apply wc_region; refine Z3 ?_; refine Z75 fun c H HA => ?_; apply w_nil)
      have e : madeNm a.name = nmP := by rw [madeNm, if_neg hc]
      rw [e]
      exact wx_cutK H Cu Ks
  intro g c H HA
  have H := H.nilR Tm 23 3
  have hlim : a.args.length < 1099511627776 := by obtain ⟨cs, rfl, v, rfl, h⟩ := h; exact h.lim
  (apply wc_seq; apply wc_seq; apply wc_region; refine Z2 ?_; apply w_nil; apply wx_next; apply wc_block)
  refine wc_loopG (σ := Nat × List Tm × Value × List (List Value)) (fun x => a.args.length - x.1) (fun x => [(1, p), (2, .pointer (some ⟨b2, 0, none⟩)), (3, .pointer (some ⟨b3, 0, none⟩)), (4, .int .i64 x.1)])
    (fun x => x.1 ≤ a.args.length ∧ x.1 ≤ 8 ∧ x.2.1 = (a.args.take x.1).map madeT)
    (fun x => [.row x.2.2.1 23 3 x.2.1.length x.2.2.2.flatten, .obj b3 (.cells (At0.cs ⟨madeBy a.by_, madeNm a.name, []⟩ x.2.2.1).toArray 26 (0, 0)), .obj b2 (.cells (At0.cs ⟨Tn, ES, []⟩ (.slice none 0 0)).toArray 26 (0, 0))])
    (fun x c => Vals x.2.2.2 x.2.1 c) (0, [], .slice none 0 0, []) H HA (Vals.nil _) Ks ⟨Nat.zero_le _, Nat.zero_le _, rfl⟩ ?_
  intro x g c hp H HA
  obtain ⟨k, acc, vr, vals⟩ := x
  obtain ⟨hk, hk8, hacc⟩ := hp
  dsimp only at hk hk8 hacc H HA ⊢
  have hlen : acc.length = k := by rw [hacc]; simp; omega
  (focus (apply wc_seq; apply wc_seq; apply wc_region; refine Z0 ?_; refine Z35 HA fun vx HA => ?_; refine Z37 HA fun vx HA => ?_; refine Z45 ?_; refine Z93 (fun hq => ?_) fun hq => ?_; refine Z0 ?_; refine Z4 ?_; refine Z0 ?_; refine Z4 ?_; refine Z93 (fun hq => ?_) fun hq => ?_; refine Z8 ?_; apply w_nil; apply wx_next; refine Z18 ?_; apply wc_skip; apply wx_next; apply wc_seq; apply wc_block; apply wc_seq; apply wc_region; refine Z35 HA fun vx HA => ?_; refine Z37 HA fun vx HA => ?_; refine Z0 ?_; rotate_left; refine Z8 ?_; apply w_nil; apply wx_next; refine Z19 ?_; apply wc_exit; apply wx_exit_then; apply wx_exit_then; apply wx_exit_same; apply wx_next; apply wc_seq; apply wc_region; refine Z42 ?_; refine Z78 fun c H HA => ?_; apply w_nil; apply wx_next; apply wc_ret; rotate_left; refine Z0 ?_; refine Z5 ?_; refine Z5 ?_; refine Z30 ?_; apply w_nil; apply wx_next; refine Z19 ?_; apply wc_exit; apply wx_exit_then; apply wx_exit_then; apply wx_exit_same; apply wx_next; apply wc_seq; apply wc_region; refine Z42 ?_; refine Z78 fun c H HA => ?_; apply w_nil; apply wx_next; apply wc_ret; rotate_left))
  · obtain ⟨t, ht⟩ := getq (xs := a.args) (k := k) (by omega)
    have hts : t.sm := hs.2.2 t (List.mem_of_getElem? ht)
    (refine Z34 HA fun vx HA => ?_; refine Z38 ?_; refine Z61 fun bx c H HA => ?_; refine Z74 fun c H HA => ?_; apply w_nil; apply wx_next)
    (obtain ⟨b5, rfl⟩ : ∃ x, x = bx := ⟨_, rfl⟩)
    (refine wc_cutK [(1, p), (2, .pointer (some ⟨b2, 0, none⟩)), (3, .pointer (some ⟨b3, 0, none⟩)), (4, .int .i64 k), (5, .pointer (some ⟨b5, 0, none⟩))] [.obj b5 (.cells (Tm.cs (madeT t)).toArray 23 (0, 0)), .row vr 23 3 acc.length vals.flatten, .obj b3 (.cells (At0.cs ⟨madeBy a.by_, madeNm a.name, []⟩ vr).toArray 26 (0, 0)), .obj b2 (.cells (At0.cs ⟨Tn, ES, []⟩ (.slice none 0 0)).toArray 26 (0, 0))] H HA ?_ ?_)
    · (apply wc_seq; apply wc_region; refine Z42 ?_)
      (refine s_call rfl rfl H HA (ref02_Variable t _) ?_; intro vx c H HP; have hvx := HP.h.1; have HA := HP.cut; subst hvx)
      cases hv : t.isVar
      · (refine Z33 ?_; apply w_nil; apply wx_next; refine Z18 ?_; apply wc_region; refine Z42 ?_)
        (refine s_call rfl rfl H HA (ref03_MadeConst t _ hts) ?_; intro vx c H HP; have hvx := HP.h.1; have HA := HP.cut; subst hvx)
        (refine Z74 fun c H HA => ?_; apply w_nil)
        have e : madeT t = constM t := by rw [madeT, hv]; rfl
        rw [e]
        exact wx_cutK H Cu Ks
      · (refine Z33 ?_; apply w_nil; apply wx_next; refine Z19 ?_; apply wc_skip)
        have e : madeT t = t := by rw [madeT, hv]; rfl
        rw [e]
        exact wx_cutK H Cu Ks
    intro g c H HA
    have H := H.swap
    (apply wc_region; refine Z3 ?_; refine Z41 ?_; refine Z42 ?_)
    (apply s_bs1D (u := (madeT t)); exact rfl; exact rfl; exact rfl; exact rfl; exact rfl; exact rfl; exact H; exact HA; exact inferInstance; intro vx c H HA)
    (refine Z59 fun vx c valsx H HA => ?_; refine Z3 ?_; refine Z79 fun c H HA => ?_; apply w_nil; apply wx_norm_block; apply wx_next; apply wc_region; refine Z0 ?_; refine Z46 ?_; refine Z2 ?_; apply w_nil)
    exact wx_loopG ((k + 1, acc ++ [madeT t], _, _)) (H.swap.sub (.cons_cons _ (.cons_cons _ (.cons _ (List.Sublist.refl _))))) Cu Lk Ks (by dsimp only; omega) ⟨by dsimp only; omega, by dsimp only; omega, by
      dsimp only
      rw [hacc, List.take_add_one, ht]
      simp⟩
  · have e : a.args.take k = a.args.take 8 := by rw [show k = 8 by omega]
    exact ret_fnO (H.sub (.cons _ (.cons_cons _ (.cons _ .slnil)))) hm (outsR1 Tryz.results62 (RV.agg rfl H Ow Rc)) ⟨vr, vals, rfl, by rw [hacc, e]; rfl, by rw [madeA, ← e, ← hacc]; exact Lk⟩ (fun _ _ => inferInstance)
  · have e : a.args.take k = a.args.take 8 := by rw [List.take_of_length_le (by omega), List.take_of_length_le (by omega)]
    exact ret_fnO (H.sub (.cons _ (.cons_cons _ (.cons _ .slnil)))) hm (outsR1 Tryz.results62 (RV.agg rfl H Ow Rc)) ⟨vr, vals, rfl, by rw [hacc, e]; rfl, by rw [madeA, ← e, ← hacc]; exact Lk⟩ (fun _ _ => inferInstance)
end Go.Proofs.YthkdggoohpgnnaaGreatDoor
/- Contracts: clauses made valid. -/
namespace Go.Proofs.YthkdggoohpgnnaaGreatDoor
open Go Go.Wk
theorem madeA_len (a : At0) : (madeA a).args.length < 1099511627776 := by
  have : (madeA a).args.length ≤ 8 := by simp [madeA]; omega
  omega
theorem madeB_len (x : Cl) : ((madeB x).flatMap At0.terms).length ≤ 72 := by
  have h : ∀ l : List At0, (l.map madeA).flatMap At0.terms = (l.map madeA).flatMap At0.terms → ((l.map madeA).flatMap At0.terms).length ≤ 9 * l.length := by
    intro l _
    induction l with
    | nil => simp
    | cons a l ih =>
      have h1 : (madeA a).args.length ≤ 8 := by simp [madeA]; omega
      have h2 := ih rfl
      simp only [List.map_cons, List.flatMap_cons, List.length_append, List.length_cons, At0.terms] at h2 ⊢
      omega
  have h1 := h (x.body.take 8) rfl
  have h2 : (x.body.take 8).length ≤ 8 := by simp; omega
  unfold madeB
  omega
theorem madeR_len (x : Cl) : (madeR x).terms.length ≤ 97 := by
  have h1 := madeB_len x
  have h2 : (madeR x).bodyTerms.length ≤ 72 := h1
  have h3 : (madeR x).head.args.length ≤ 8 := by simp [madeR, madeH]; omega
  have h4 : (madeR x).tests.length ≤ 8 := by simp [madeR]; omega
  have h5 : ∀ l : List Ts, (l.flatMap fun t => [t.l, t.r]).length = 2 * l.length := by
    intro l
    induction l with
    | nil => rfl
    | cons a l ih => simp only [List.flatMap_cons, List.length_append, List.length_cons, List.length_nil, ih]; omega
  have h6 := h5 (madeR x).tests
  have h7 : (madeR x).head.terms.length = (madeR x).head.args.length + 1 := rfl
  have h8 : (madeR x).testTerms.length = 2 * (madeR x).tests.length := h6
  simp only [Cl.terms, List.length_append]
  omega
theorem ref03_MadeAtom (a : At0) (u : Value) (c : Cx) (h : Ag a u c) (hs : a.sm) : Cn Tryz.prog 62 [u] c (fun r c => Ag (madeA a) r c) := (ref03_MadeAtomO a u c h hs).at0 (madeA_len a)
theorem ref03_Made (x : Cl) (u : Value) (c : Cx) (h : Ag x u c) (hs : x.sm) : Cn Tryz.prog 21 [u] c (fun r c => Ag (madeC x) r c) := by
  refine Cn.of Tryz.func21 Tryz.ntmps21 rfl rfl fun hm H HA => ?_
  have hlb : x.body.length < 1099511627776 := by obtain ⟨cs, rfl, v, v1, v2, rfl, h⟩ := h; exact h.2.1.lim
  have hlt : x.tests.length < 1099511627776 := by obtain ⟨cs, rfl, v, v1, v2, rfl, h⟩ := h; exact h.2.2.lim
  have HA := HA.add h
  (apply wc_seq; apply wc_region)
  (refine s_boxG rfl rfl Lk H HA ?_; intro p c H HA)
  (refine Z61 fun bx c H HA => ?_; apply w_nil; apply wx_next)
  (obtain ⟨b2, rfl⟩ : ∃ x, x = bx := ⟨_, rfl⟩)
  (apply wc_seq; apply wc_region)
  (refine Z61 fun bx c H HA => ?_; apply w_nil; apply wx_next)
  (obtain ⟨b3, rfl⟩ : ∃ x, x = bx := ⟨_, rfl⟩)
  (refine wc_cutE (fun v => [(1, p), (2, .pointer (some ⟨b2, 0, none⟩)), (3, .pointer (some ⟨b3, 0, none⟩))]) (fun v => [.obj b3 (.cells (Cl.cs ⟨⟨Tn, ES, []⟩, [], []⟩ (.slice none 0 0) (v) (.slice none 0 0)).toArray 30 (0, 0)), .obj b2 (.cells (Cl.cs ⟨⟨Tn, ES, []⟩, [], []⟩ (.slice none 0 0) (.slice none 0 0) (.slice none 0 0)).toArray 30 (0, 0))]) (fun v c => Sl v (madeB x) c) H HA ?_ ?_)
  · have H := H.nilR At0 26 5
    (apply wc_seq; apply wc_region; refine Z2 ?_; apply w_nil; apply wx_next; apply wc_block)
    refine wc_loopG (σ := Nat × List At0 × Value × List (List Value)) (fun y => x.body.length - y.1) (fun y => [(1, p), (2, .pointer (some ⟨b2, 0, none⟩)), (3, .pointer (some ⟨b3, 0, none⟩)), (4, .int .i64 y.1)])
      (fun y => y.1 ≤ x.body.length ∧ y.1 ≤ 8 ∧ y.2.1 = (x.body.take y.1).map madeA)
      (fun y => [.row y.2.2.1 26 5 y.2.1.length y.2.2.2.flatten, .obj b3 (.cells (Cl.cs ⟨⟨Tn, ES, []⟩, [], []⟩ (.slice none 0 0) (y.2.2.1) (.slice none 0 0)).toArray 30 (0, 0)), .obj b2 (.cells (Cl.cs ⟨⟨Tn, ES, []⟩, [], []⟩ (.slice none 0 0) (.slice none 0 0) (.slice none 0 0)).toArray 30 (0, 0))])
      (fun y c => Vals y.2.2.2 y.2.1 c) (0, [], .slice none 0 0, []) H HA (Vals.nil _) Ks ⟨Nat.zero_le _, Nat.zero_le _, rfl⟩ ?_
    intro y g c hp H HA
    obtain ⟨k, acc, vr, vals⟩ := y
    obtain ⟨hk, hk8, hacc⟩ := hp
    dsimp only at hk hk8 hacc H HA ⊢
    have hlen : acc.length = k := by rw [hacc]; simp; omega
    (focus (apply wc_seq; apply wc_seq; apply wc_region; refine Z0 ?_; refine Z35 HA fun vx HA => ?_; refine Z37 HA fun vx HA => ?_; refine Z45 ?_; refine Z93 (fun hq => ?_) fun hq => ?_; refine Z0 ?_; refine Z4 ?_; refine Z0 ?_; refine Z4 ?_; refine Z93 (fun hq => ?_) fun hq => ?_; refine Z8 ?_; apply w_nil; apply wx_next; refine Z18 ?_; apply wc_skip; apply wx_next; apply wc_seq; apply wc_block; rotate_left; refine Z8 ?_; apply w_nil; apply wx_next; refine Z19 ?_; apply wc_exit; apply wx_exit_then; apply wx_exit_then; apply wx_exit_same; rotate_left; refine Z0 ?_; refine Z5 ?_; refine Z5 ?_; refine Z30 ?_; apply w_nil; apply wx_next; refine Z19 ?_; apply wc_exit; apply wx_exit_then; apply wx_exit_then; apply wx_exit_same; rotate_left))
    · obtain ⟨a, ha⟩ := getq (xs := x.body) (k := k) (by omega)
      have has : a.sm := hs.2.1 a (List.mem_of_getElem? ha)
      (refine dw_start H HA ?_)
      (repeat (refine Dc ?_))
      (apply dw_cons; (focus ((intro B _ Lx c H HA; (repeat (first | (intro vx hx; have hx2 : vx = _ := hx; clear hx; subst hx2) | (intro vx hx; have HA := HA.addSF hx; clear hx) | (intro vx hx; have HA := HA.add hx; clear hx) | intro vx)); change W _ _ _ _ _ _ _); refine s_call rfl rfl H HA (ref03_MadeAtom a _ _ Lk has) ?_; intro vx c H HP; exact w_nil (pq_rel H (Cp) HP.h.1))); exact inferInstance)
      (repeat (refine Dc ?_))
      (refine dw_done mixed H HA rfl (by kernel_rfl) ?_; clear H HA; intro c H HA; (repeat (first | (intro vx hx; have hx2 : vx = _ := hx; clear hx; subst hx2) | (intro vx hx; have HA := HA.addSF hx; clear hx) | (intro vx hx; have HA := HA.add hx; clear hx) | intro vx)); change W _ _ _ _ _ _ _)
      (refine Z59 fun vx c valsx H HA => ?_; refine Z3 ?_; refine Z77 fun c H HA => ?_; apply w_nil; apply wx_norm_block; apply wx_next; apply wc_region; refine Z0 ?_; refine Z46 ?_; refine Z2 ?_; apply w_nil)
      exact wx_loopG ((k + 1, acc ++ [madeA a], _, _)) H.swap Cu Lk Ks (by dsimp only; omega) ⟨by dsimp only; omega, by dsimp only; omega, by
        dsimp only
        rw [hacc, List.take_add_one, ha]
        simp⟩
    · have e : acc = madeB x := by rw [hacc, madeB, show k = 8 by omega]
      subst e
      (refine wx_freezeRow H HA Lk rfl rfl Lt ?_; intro c H HA)
      exact wx_cutE vr H Cu Lk Ks
    · have e : acc = madeB x := by rw [hacc, madeB, List.take_of_length_le (by omega), List.take_of_length_le (by omega)]
      subst e
      (refine wx_freezeRow H HA Lk rfl rfl Lt ?_; intro c H HA)
      exact wx_cutE vr H Cu Lk Ks
  intro vB g c H HA
  (apply wc_seq; apply wc_region; refine Z42 ?_)
  have hbt := madeB_len x
  (refine s_call rfl rfl H HA (ref03_bodyTerms (⟨⟨Tn, ES, []⟩, madeB x, []⟩ : Cl) _ _ ⟨_, rfl, _, vB, _, rfl, Sl.nil _, Lk, Sl.nil _⟩ (show ((madeB x).flatMap At0.terms).length < 1099511627776 by omega)) ?_; intro vx c H HA)
  (obtain ⟨vT, rfl⟩ : ∃ x, x = vx := ⟨_, rfl⟩)
  have HA := HA.add (Lk : Sl vT ((madeB x).flatMap At0.terms) c)
  (refine Z2 ?_; apply w_nil; apply wx_next; apply wc_seq; apply wc_region; refine Z35 HA fun vx HA => ?_; refine Z39 HA fun vx HA => ?_)
  (refine s_callO rfl rfl H HA (ref03_MadeAtomO x.head _ _ Lk hs.1) ?_; intro vx R c H HA)
  obtain ⟨vr2, vals2, rfl, rfl, hv2⟩ := HA.h.1
  have HA := HA.cut.add hv2
  have H : Owns _ [.row vr2 23 3 (madeA x.head).args.length vals2.flatten, _, _] _ := H
  (refine Z3 ?_; refine Z76 fun c H HA => ?_; apply w_nil; apply wx_next)
  (refine wc_cutK [(1, p), (2, .pointer (some ⟨b2, 0, none⟩)), (3, .pointer (some ⟨b3, 0, none⟩)), (5, vT)] [.obj b3 (.cells (Cl.cs ⟨⟨(if (madeBy x.head.by_).k = 3 then Tn else madeBy x.head.by_), madeNm x.head.name, []⟩, [], []⟩ (vr2) (vB) (.slice none 0 0)).toArray 30 (0, 0)), .row vr2 23 3 (madeA x.head).args.length vals2.flatten, .obj b2 (.cells (Cl.cs ⟨⟨Tn, ES, []⟩, [], []⟩ (.slice none 0 0) (.slice none 0 0) (.slice none 0 0)).toArray 30 (0, 0))] H HA ?_ ?_)
  · (focus (apply wc_seq; apply wc_region; refine Z3 ?_; refine Z3 ?_; refine Z3 ?_; refine Z41 ?_; refine Z92 (fun hq => ?_) fun hq => ?_; apply w_nil; apply wx_next; refine Z18 ?_; apply wc_region; refine Z54 ?_; refine Z3 ?_; refine Z3 ?_; refine Z74 fun c H HA => ?_; apply w_nil; rotate_left; apply w_nil; apply wx_next; refine Z19 ?_; apply wc_skip; rotate_left))
    · have hq : (madeBy x.head.by_).k = 3 := hq
      rw [if_pos hq]
      exact wx_cutK H Cu Ks
    · have hq : ¬ (madeBy x.head.by_).k = 3 := hq
      rw [if_neg hq]
      exact wx_cutK H Cu Ks
  intro g c H HA
  obtain ⟨ags, has⟩ : ∃ ags, ags = (madeA x.head).args := ⟨_, rfl⟩
  have hal : ags.length ≤ 8 := by rw [has]; simp [madeA]; omega
  rw [← has] at H HA
  (refine wc_cutE (fun v => [(1, p), (2, .pointer (some ⟨b2, 0, none⟩)), (3, .pointer (some ⟨b3, 0, none⟩)), (5, vT)]) (fun v => [.obj b3 (.cells (Cl.cs ⟨⟨(if (madeBy x.head.by_).k = 3 then Tn else madeBy x.head.by_), madeNm x.head.name, []⟩, [], []⟩ (vr2) (vB) (.slice none 0 0)).toArray 30 (0, 0)), .obj b2 (.cells (Cl.cs ⟨⟨Tn, ES, []⟩, [], []⟩ (.slice none 0 0) (.slice none 0 0) (.slice none 0 0)).toArray 30 (0, 0))]) (fun v c => Sl vr2 (ags.map (safeM ((madeB x).flatMap At0.terms))) c) H HA ?_ ?_)
  · (apply wc_seq; apply wc_region; refine Z2 ?_; apply w_nil; apply wx_next; apply wc_block)
    have H := H.swap
    refine wc_loopG (σ := Nat × List Tm × List (List Value)) (fun y => ags.length - y.1) (fun y => [(1, p), (2, .pointer (some ⟨b2, 0, none⟩)), (3, .pointer (some ⟨b3, 0, none⟩)), (5, vT), (6, .int .i64 y.1)])
      (fun y => y.1 ≤ ags.length ∧ y.2.1 = (ags.take y.1).map (safeM ((madeB x).flatMap At0.terms)) ++ ags.drop y.1)
      (fun y => [.row vr2 23 3 y.2.1.length y.2.2.flatten, .obj b3 (.cells (Cl.cs ⟨⟨(if (madeBy x.head.by_).k = 3 then Tn else madeBy x.head.by_), madeNm x.head.name, []⟩, [], []⟩ (vr2) (vB) (.slice none 0 0)).toArray 30 (0, 0)), .obj b2 (.cells (Cl.cs ⟨⟨Tn, ES, []⟩, [], []⟩ (.slice none 0 0) (.slice none 0 0) (.slice none 0 0)).toArray 30 (0, 0))])
      (fun y c => Vals y.2.2 y.2.1 c) (0, ags, vals2) H HA Lk Ks ⟨Nat.zero_le _, by simp⟩ ?_
    intro y g c hp H HA
    obtain ⟨k, acc, vals⟩ := y
    obtain ⟨hk, hacc⟩ := hp
    dsimp only at hk hacc H HA ⊢
    have hlen : acc.length = ags.length := by rw [hacc]; simp; omega
    (focus (apply wc_seq; apply wc_seq; apply wc_region; refine Z0 ?_; refine Z3 ?_; refine Z3 ?_; refine Z41 ?_; refine Z62 ?_; refine Z93 (fun hq => ?_) fun hq => ?_; apply w_nil; apply wx_next; refine Z18 ?_; apply wc_skip; apply wx_next; apply wc_seq; apply wc_block; rotate_left; apply w_nil; apply wx_next; refine Z19 ?_; apply wc_exit; apply wx_exit_then; apply wx_exit_then; apply wx_exit_same; rotate_left))
    · obtain ⟨t, ht⟩ := getq (xs := ags) (k := k) (by omega)
      have hta : acc[k]? = some t := by
        rw [hacc, List.getElem?_append_right (by simp; omega), List.getElem?_drop]
        simp [Nat.min_eq_left hk, ht]
      (refine dw_start H HA ?_)
      (repeat (refine Dc ?_))
      (apply dw_cons; (focus ((intro B _ Lx c H HA; (repeat (first | (intro vx hx; have hx2 : vx = _ := hx; clear hx; subst hx2) | (intro vx hx; have HA := HA.addSF hx; clear hx) | (intro vx hx; have HA := HA.add hx; clear hx) | intro vx)); change W _ _ _ _ _ _ _); (refine s_ixR (i := k) rfl rfl rfl H Ow rfl (by omega) ?_; intro rp hrp); exact w_nil (pq_rel (S := fun p _ => RPt vr2 3 k p) H Cu hrp))); exact inferInstance)
      (apply dw_cons; (focus ((intro B _ Lx c H HA; (repeat (first | (intro vx hx; have hx2 : vx = _ := hx; clear hx; subst hx2) | (intro vx hx; have HA := HA.addSF hx; clear hx) | (intro vx hx; have HA := HA.add hx; clear hx) | intro vx)); change W _ _ _ _ _ _ _); (refine s_ldRD (u := t) (i := k) rfl rfl (by assumption) H Ow Lk rfl hta inferInstance ?_); exact Dx)); exact inferInstance)
      (apply dw_cons; (focus ((intro B _ Lx c H HA; (repeat (first | (intro vx hx; have hx2 : vx = _ := hx; clear hx; subst hx2) | (intro vx hx; have HA := HA.addSF hx; clear hx) | (intro vx hx; have HA := HA.add hx; clear hx) | intro vx)); change W _ _ _ _ _ _ _); (refine s_call rfl rfl H HA (ref03_safe ((madeB x).flatMap At0.terms) vT t _ Lk) ?_; intro vx c H HP; have hvx := HP.h.1; have HA := HP.cut; subst hvx); exact Dx)); exact inferInstance)
      (refine dw_done mixed H HA rfl (by kernel_rfl) ?_; clear H HA; intro c H HA; (repeat (first | (intro vx hx; have hx2 : vx = _ := hx; clear hx; subst hx2) | (intro vx hx; have HA := HA.addSF hx; clear hx) | (intro vx hx; have HA := HA.add hx; clear hx) | intro vx)); change W _ _ _ _ _ _ _)
      (refine Z63 fun rp hrp => ?_)
      (refine s_stRA (u := safeM ((madeB x).flatMap At0.terms) t) rfl rfl hrp H Lk (by omega) rfl rfl HA inferInstance ?_; intro c H HA)
      (apply w_nil; apply wx_norm_block; apply wx_next; apply wc_region; refine Z0 ?_; refine Z46 ?_; refine Z2 ?_; apply w_nil)
      exact wx_loopG ((k + 1, acc.set k (safeM ((madeB x).flatMap At0.terms) t), _)) H Cu Lk Ks (by dsimp only; omega) ⟨by dsimp only; omega, by
        dsimp only
        rw [hacc, List.take_add_one, ht, drop_get ht]
        have hl2 : ((ags.take k).map (safeM ((madeB x).flatMap At0.terms))).length = k := by simp; omega
        rw [List.set_append_right _ _ (by omega), hl2, Nat.sub_self]
        simp⟩
    · have hacc : acc = ags.map (safeM ((madeB x).flatMap At0.terms)) := by rw [hacc, List.take_of_length_le (by omega), List.drop_eq_nil_of_le (by omega), List.append_nil]
      subst hacc
      (refine wx_freezeRow H HA Lk rfl rfl Lt ?_; intro c H HA)
      exact wx_cutE vr2 H Cu Lk Ks
  intro v0 g c H HA
  clear v0
  (refine wc_cutE (fun v => [(1, p), (2, .pointer (some ⟨b2, 0, none⟩)), (3, .pointer (some ⟨b3, 0, none⟩))]) (fun v => [.obj b3 (.cells (Cl.cs ⟨⟨(if (madeBy x.head.by_).k = 3 then Tn else madeBy x.head.by_), madeNm x.head.name, []⟩, [], []⟩ (vr2) (vB) (v)).toArray 30 (0, 0)), .obj b2 (.cells (Cl.cs ⟨⟨Tn, ES, []⟩, [], []⟩ (.slice none 0 0) (.slice none 0 0) (.slice none 0 0)).toArray 30 (0, 0))]) (fun v c => Sl v ((x.tests.take 8).map (madeTs ((madeB x).flatMap At0.terms))) c) H HA ?_ ?_)
  · have H := H.nilR Ts 79 7
    (apply wc_seq; apply wc_region; refine Z2 ?_; apply w_nil; apply wx_next; apply wc_block)
    refine wc_loopG (σ := Nat × List Ts × Value × List (List Value)) (fun y => x.tests.length - y.1) (fun y => [(1, p), (2, .pointer (some ⟨b2, 0, none⟩)), (3, .pointer (some ⟨b3, 0, none⟩)), (5, vT), (7, .int .i64 y.1)])
      (fun y => y.1 ≤ x.tests.length ∧ y.1 ≤ 8 ∧ y.2.1 = (x.tests.take y.1).map (madeTs ((madeB x).flatMap At0.terms)))
      (fun y => [.row y.2.2.1 79 7 y.2.1.length y.2.2.2.flatten, .obj b3 (.cells (Cl.cs ⟨⟨(if (madeBy x.head.by_).k = 3 then Tn else madeBy x.head.by_), madeNm x.head.name, []⟩, [], []⟩ (vr2) (vB) (y.2.2.1)).toArray 30 (0, 0)), .obj b2 (.cells (Cl.cs ⟨⟨Tn, ES, []⟩, [], []⟩ (.slice none 0 0) (.slice none 0 0) (.slice none 0 0)).toArray 30 (0, 0))])
      (fun y c => Vals y.2.2.2 y.2.1 c) (0, [], .slice none 0 0, []) H HA (Vals.nil _) Ks ⟨Nat.zero_le _, Nat.zero_le _, rfl⟩ ?_
    intro y g c hp H HA
    obtain ⟨k, acc, vr, vals⟩ := y
    obtain ⟨hk, hk8, hacc⟩ := hp
    dsimp only at hk hk8 hacc H HA ⊢
    have hlen : acc.length = k := by rw [hacc]; simp; omega
    (focus (apply wc_seq; apply wc_seq; apply wc_region; refine Z0 ?_; refine Z35 HA fun vx HA => ?_; refine Z37 HA fun vx HA => ?_; refine Z45 ?_; refine Z93 (fun hq => ?_) fun hq => ?_; refine Z0 ?_; refine Z4 ?_; refine Z0 ?_; refine Z4 ?_; refine Z93 (fun hq => ?_) fun hq => ?_; refine Z8 ?_; apply w_nil; apply wx_next; refine Z18 ?_; apply wc_skip; apply wx_next; apply wc_seq; apply wc_block; rotate_left; refine Z8 ?_; apply w_nil; apply wx_next; refine Z19 ?_; apply wc_exit; apply wx_exit_then; apply wx_exit_then; apply wx_exit_same; rotate_left; refine Z0 ?_; refine Z5 ?_; refine Z5 ?_; refine Z30 ?_; apply w_nil; apply wx_next; refine Z19 ?_; apply wc_exit; apply wx_exit_then; apply wx_exit_then; apply wx_exit_same; rotate_left))
    · obtain ⟨t, ht⟩ := getq (xs := x.tests) (k := k) (by omega)
      have hts := hs.2.2 t (List.mem_of_getElem? ht)
      (refine dw_start H HA ?_)
      (repeat (refine Dc ?_))
      (apply dw_cons; (focus ((intro B _ Lx c H HA; (repeat (first | (intro vx hx; have hx2 : vx = _ := hx; clear hx; subst hx2) | (intro vx hx; have HA := HA.addSF hx; clear hx) | (intro vx hx; have HA := HA.add hx; clear hx) | intro vx)); change W _ _ _ _ _ _ _); (refine s_call rfl rfl H HA (ref03_madeTest ((madeB x).flatMap At0.terms) vT t _ Lk hts.1 hts.2) ?_; intro vx c H HP; have hvx := HP.h.1; have HA := HP.cut; subst hvx); exact Dx)); exact inferInstance)
      (apply dw_cons; (focus ((intro B _ Lx c H HA; (repeat (first | (intro vx hx; have hx2 : vx = _ := hx; clear hx; subst hx2) | (intro vx hx; have HA := HA.addSF hx; clear hx) | (intro vx hx; have HA := HA.add hx; clear hx) | intro vx)); change W _ _ _ _ _ _ _); (apply s_bs1D (u := (madeTs ((madeB x).flatMap At0.terms) t)); exact rfl; exact rfl; exact rfl; exact rfl; exact rfl; exact rfl; exact H; exact HA; exact inferInstance; intro vx c H HA); exact Dx)); exact inferInstance)
      (refine dw_done mixed H HA rfl (by kernel_rfl) ?_; clear H HA; intro c H HA; (repeat (first | (intro vx hx; have hx2 : vx = _ := hx; clear hx; subst hx2) | (intro vx hx; have HA := HA.addSF hx; clear hx) | (intro vx hx; have HA := HA.add hx; clear hx) | intro vx)); change W _ _ _ _ _ _ _)
      (refine Z59 fun vx c valsx H HA => ?_; refine Z3 ?_; refine Z77 fun c H HA => ?_; apply w_nil; apply wx_norm_block; apply wx_next; apply wc_region; refine Z0 ?_; refine Z46 ?_; refine Z2 ?_; apply w_nil)
      exact wx_loopG ((k + 1, acc ++ [madeTs ((madeB x).flatMap At0.terms) t], _, _)) H.swap Cu Lk Ks (by dsimp only; omega) ⟨by dsimp only; omega, by dsimp only; omega, by
        dsimp only
        rw [hacc, List.take_add_one, ht]
        simp⟩
    · have e : acc = (x.tests.take 8).map (madeTs ((madeB x).flatMap At0.terms)) := by rw [hacc, show k = 8 by omega]
      subst e
      (refine wx_freezeRow H HA Lk rfl rfl Lt ?_; intro c H HA)
      exact wx_cutE vr H Cu Lk Ks
    · have e : acc = (x.tests.take 8).map (madeTs ((madeB x).flatMap At0.terms)) := by rw [hacc, List.take_of_length_le (by omega), List.take_of_length_le (by omega)]
      subst e
      (refine wx_freezeRow H HA Lk rfl rfl Lt ?_; intro c H HA)
      exact wx_cutE vr H Cu Lk Ks
  intro vt g c H HA
  (apply wc_seq; apply wc_region; refine Z42 ?_)
  have hA2 : Sl vr2 ((madeA x.head).args.map (safeM ((madeB x).flatMap At0.terms))) c := by rw [← has]; exact Lk
  (refine s_call rfl rfl H HA (ref03_Normal (madeR x) _ _ ⟨_, rfl, vr2, vB, vt, rfl, hA2, Lk, Lk⟩ (by have := madeR_len x; omega)) ?_; intro vx c H HA)
  obtain ⟨cs9, rfl, w0, w1, w2, rfl, k0, k1, k2⟩ := HA.h.1
  have HA := ((HA.cut.add k0).add k1).add k2
  have H := H.swap
  (refine Z74 fun c H HA => ?_; apply w_nil; apply wx_next; apply wc_ret)
  exact ret_fn H hm (outsR1 Tryz.results21 (RV.agg rfl H Ow Rc)) ⟨_, rfl, w0, w1, w2, rfl, Lk, Lk, Lk⟩
end Go.Proofs.YthkdggoohpgnnaaGreatDoor
/- Contracts: whether one subsumes another; the parts of a condensed clause. -/
namespace Go.Wk
end Go.Wk
namespace Go.Proofs.YthkdggoohpgnnaaGreatDoor
open Go Go.Wk
end Go.Proofs.YthkdggoohpgnnaaGreatDoor
/- Contract: whether one clause becomes part of another by values. -/
namespace Go.Proofs.YthkdggoohpgnnaaGreatDoor
open Go Go.Wk
theorem law_part (x d : Cl) (u1 u2 : Value) (ts : List Tm) (v : Value) (c : Cx) (h1 : Ag x u1 c) (h2 : Ag d u2 c) (h3 : Sl v ts c) (hf : x.fit) (hts : ∀ u ∈ ts, u.sm) : Cn Tryz.prog 22 [u1, u2, v] c (fun r _ => r = .bool (partB x d ts && decide (ts.length = x.nv))) := by
  refine Cn.of Tryz.func22 Tryz.ntmps22 rfl rfl fun hm H HA => ?_
  have hlb : x.body.length < 1099511627776 := by obtain ⟨cs, rfl, v, v1, v2, rfl, h⟩ := h1; exact h.2.1.lim
  have hlt : x.tests.length < 1099511627776 := by obtain ⟨cs, rfl, v, v1, v2, rfl, h⟩ := h1; exact h.2.2.lim
  have hldb : d.body.length < 1099511627776 := by obtain ⟨cs, rfl, v, v1, v2, rfl, h⟩ := h2; exact h.2.1.lim
  have hldt : d.tests.length < 1099511627776 := by obtain ⟨cs, rfl, v, v1, v2, rfl, h⟩ := h2; exact h.2.2.lim
  have HA := ((HA.add h3).add h1).add h2
  have hpb : partB x d ts = (decide ((x.map (instT ts)).head = d.head) && ((x.map (instT ts)).body.all (fun a => decide (a ∈ d.body)) && (x.map (instT ts)).tests.all (tsOk d))) := rfl
  have hyb : (x.map (instT ts)).body.length = x.body.length := by simp [Cl.map]
  have hyt : (x.map (instT ts)).tests.length = x.tests.length := by simp [Cl.map]
  have hysm : ∀ t ∈ (x.map (instT ts)).tests, t.l.sm := by
    intro t ht
    obtain ⟨t', ht', rfl⟩ := List.mem_map.1 ht
    exact instT_sm hts (hf.1.2.2 t' ht').1
  (apply wc_seq; apply wc_region)
  (refine s_boxG rfl rfl Lk H HA ?_; intro p c H HA)
  (refine s_boxG rfl rfl Lk H HA ?_; intro q c H HA)
  (refine Z2 ?_; apply w_nil; apply wx_next; apply wc_seq; apply wc_region; refine Z39 HA fun vx HA => ?_; refine Z0 ?_)
  (refine s_call rfl rfl H HA (ref03_Instance x _ ts _ _ Lk Lk hf.2) ?_; intro vx c H HA)
  obtain ⟨va, vb, vd, hr, hS⟩ := Ag.cl HA.h.1
  subst hr
  have HA := ((HA.cut.add hS.1).add hS.2.1).add hS.2.2
  generalize hy : x.map (instT ts) = y at *
  have hl3 := h3.lim
  (refine Z61 fun bx c H HA => ?_; refine Z74 fun c H HA => ?_; apply w_nil; apply wx_next; apply wc_seq; apply wc_seq; apply wc_region; refine Z3 ?_; refine Z42 ?_; refine Z35 HA fun vx HA => ?_; refine Z39 HA fun vx HA => ?_)
  (obtain ⟨b0, rfl⟩ : ∃ x, x = bx := ⟨_, rfl⟩)
  (refine s_call rfl rfl H HA (ref03_SameAtom y.head d.head _ _ _ ⟨_, rfl, va, rfl, Lk⟩ Lk) ?_; intro vx c H HP; have hvx := HP.h.1; have HA := HP.cut; subst hvx)
  by_cases hh : y.head = d.head
  case neg =>
    rw [decide_eq_false hh]
    (refine Z33 ?_; refine Z0 ?_; refine Z5 ?_; refine Z5 ?_; refine Z5 ?_; refine Z5 ?_; refine Z5 ?_; refine Z8 ?_; apply w_nil; apply wx_next; refine Z18 ?_; apply wc_seq; apply wc_region; refine Z2 ?_; apply w_nil; apply wx_next; apply wc_ret; apply wx_ret_then)
    exact ret_fn H hm (outs1 Tryz.results22 Wh) (by rw [hpb]; simp [hh])
  rw [decide_eq_true hh]
  (refine Z33 ?_; refine Z0 ?_; refine Z4 ?_; refine Z0 ?_; refine Z4 ?_; refine Z45 ?_; refine Z4 ?_; refine Z39 HA fun vx HA => ?_; refine Z4 ?_)
  (refine s_call rfl rfl H HA (ref03_Vars x _ _ Lk hf.2) ?_; intro vx c H HP; have hvx := HP.h.1; have HA := HP.cut; subst hvx)
  by_cases hn : ts.length = x.nv
  case neg =>
    have hn2 : ¬ (ts.length : Int) = (x.nv : Int) := by omega
    (refine Z4 ?_; refine Z82 ?_; refine Z30 ?_; apply w_nil; apply wx_next; refine Z18 ?_; apply wc_seq; apply wc_region; refine Z2 ?_; apply w_nil; apply wx_next; apply wc_ret; apply wx_ret_then)
    exact ret_fn H hm (outs1 Tryz.results22 Wh) (by rw [decide_eq_false hn]; simp)
  have hn2 : (ts.length : Int) = (x.nv : Int) := by omega
  (refine Z4 ?_; refine Z82 ?_; refine Z30 ?_; apply w_nil; apply wx_next; refine Z19 ?_; apply wc_skip; apply wx_next; apply wc_seq; apply wc_seq; apply wc_region; refine Z2 ?_; apply w_nil; apply wx_next; apply wc_block)
  rw [decide_eq_true hn, Bool.and_true]
  refine wc_loopN y.body.length (fun k => [(4, q), (7, .pointer (some ⟨b0, 0, none⟩)), (8, .int .i64 k)]) (fun k => y.body.all (fun a => decide (a ∈ d.body)) = (y.body.drop k).all (fun a => decide (a ∈ d.body))) 0 H HA Ks (Nat.zero_le _) rfl ?_
  intro k g c hk hp H HA
  (focus (apply wc_seq; apply wc_seq; apply wc_region; refine Z0 ?_; refine Z3 ?_; refine Z41 ?_; refine Z45 ?_; refine Z93 (fun hq => ?_) fun hq => ?_; apply w_nil; apply wx_next; refine Z18 ?_; apply wc_skip; apply wx_next; apply wc_seq; apply wc_block; apply wc_seq; apply wc_region; refine Z2 ?_; apply w_nil; apply wx_next; apply wc_seq; apply wc_seq; apply wc_region; refine Z2 ?_; apply w_nil; apply wx_next; apply wc_block; rotate_left; apply w_nil; apply wx_next; refine Z19 ?_; apply wc_exit; apply wx_exit_then; apply wx_exit_then; apply wx_exit_same; apply wx_next; apply wc_seq; apply wc_seq; apply wc_region; refine Z2 ?_; apply w_nil; apply wx_next; apply wc_block; rotate_left))
  · obtain ⟨a, ha⟩ := getq (xs := y.body) (k := k) (by omega)
    refine wc_loopM (σ := Nat × Bool) (fun s => d.body.length - s.1) (fun s => [(4, q), (7, .pointer (some ⟨b0, 0, none⟩)), (8, .int .i64 k), (9, .bool s.2), (10, .int .i64 s.1)]) (fun s => s.1 ≤ d.body.length ∧ (s.2 || (d.body.drop s.1).any (fun b => decide (a = b))) = decide (a ∈ d.body)) (0, false) H HA Ks ⟨Nat.zero_le _, by simpa using any_eq_mem d.body a⟩ ?_
    intro s g c hp2 H HA
    obtain ⟨j, th⟩ := s
    obtain ⟨hj, hth⟩ := hp2
    dsimp only at hj hth ⊢
    (focus (apply wc_seq; apply wc_seq; apply wc_region; refine Z0 ?_; refine Z35 HA fun vx HA => ?_; refine Z37 HA fun vx HA => ?_; refine Z45 ?_; refine Z93 (fun hq => ?_) fun hq => ?_; apply w_nil; apply wx_next; refine Z18 ?_; apply wc_skip; apply wx_next; apply wc_seq; apply wc_block; rotate_left; apply w_nil; apply wx_next; refine Z19 ?_; apply wc_exit; apply wx_exit_then; apply wx_exit_then; apply wx_exit_same; apply wx_next; apply wc_seq; apply wc_region; refine Z0 ?_; refine Z33 ?_; apply w_nil; apply wx_next; (focus (apply wc_cond; rfl; all_goals intro hq)); apply wc_seq; apply wc_region; refine Z2 ?_; apply w_nil; apply wx_next; apply wc_ret; apply wx_ret_block; apply wx_ret_then; apply wx_ret_then; apply wx_ret_block; apply wx_ret_then; rotate_left; apply wc_skip; apply wx_norm_block; apply wx_next; apply wc_region; refine Z0 ?_; refine Z46 ?_; refine Z2 ?_; apply w_nil; rotate_left))
    · obtain ⟨b, hb⟩ := getq (xs := d.body) (k := j) (by omega)
      rw [any_get hb] at hth
      cases th
      · (refine dw_start H HA ?_)
        (repeat (refine Dn ?_))
        (apply dw_cons; (focus ((intro B _ Lx c H HA; (repeat (first | (intro vx hx; have hx2 : vx = _ := hx; clear hx; subst hx2) | (intro vx hx; have HA := HA.addSF hx; clear hx) | (intro vx hx; have HA := HA.add hx; clear hx) | intro vx)); change W _ _ _ _ _ _ _); (apply s_go; exact rfl; exact rfl; exact rfl); (refine s_call rfl rfl H HA (ref03_SameAtom a b _ _ _ Lk Lk) ?_; intro vx c H HP; have hvx := HP.h.1; have HA := HP.cut; subst hvx); exact Dx)); exact inferInstance)
        (repeat (refine Dn ?_))
        (refine dw_done mixed H HA rfl (by kernel_rfl) ?_; clear H HA; intro c H HA; (repeat (first | (intro vx hx; have hx2 : vx = _ := hx; clear hx; subst hx2) | (intro vx hx; have HA := HA.addSF hx; clear hx) | (intro vx hx; have HA := HA.add hx; clear hx) | intro vx)); change W _ _ _ _ _ _ _)
        (refine Z2 ?_; apply w_nil; apply wx_norm_block; apply wx_next; apply wc_region; refine Z0 ?_; refine Z46 ?_; refine Z2 ?_; apply w_nil)
        exact wx_loopM ((j + 1, decide (a = b))) H Cu Ks (by simp; omega) ⟨by simp; omega, by simpa using hth⟩
      · ((refine dw_start H HA ?_); (repeat (refine Dn ?_)); (refine dw_done mixed H HA rfl (by kernel_rfl) ?_; clear H HA; intro c H HA; (repeat (first | (intro vx hx; have hx2 : vx = _ := hx; clear hx; subst hx2) | (intro vx hx; have HA := HA.addSF hx; clear hx) | (intro vx hx; have HA := HA.add hx; clear hx) | intro vx)); change W _ _ _ _ _ _ _))
        (refine Z2 ?_; apply w_nil; apply wx_norm_block; apply wx_next; apply wc_region; refine Z0 ?_; refine Z46 ?_; refine Z2 ?_; apply w_nil)
        exact wx_loopM ((j + 1, true)) H Cu Ks (by simp; omega) ⟨by simp; omega, by simpa using hth⟩
    · rw [List.drop_eq_nil_of_le (show d.body.length ≤ j by omega)] at hth
      exact ret_fn H hm (outs1 Tryz.results22 Wh) (by rw [hpb, hp, all_get ha, ← hth]; simp_all)
    · rw [List.drop_eq_nil_of_le (show d.body.length ≤ j by omega)] at hth
      exact wx_loopN (k + 1) H Cu Ks (by omega) (by rw [hp, all_get ha, ← hth]; simp_all)
  · have hbody : y.body.all (fun a => decide (a ∈ d.body)) = true := by rw [hp, List.drop_eq_nil_of_le (by omega)]; rfl
    clear hp hk
    refine wc_loopN y.tests.length (fun k => [(4, q), (7, .pointer (some ⟨b0, 0, none⟩)), (11, .int .i64 k)]) (fun k => y.tests.all (tsOk d) = (y.tests.drop k).all (tsOk d)) 0 H HA Ks (Nat.zero_le _) rfl ?_
    clear hq k
    intro k g c hk hp H HA
    (focus (apply wc_seq; apply wc_seq; apply wc_region; refine Z0 ?_; refine Z3 ?_; refine Z41 ?_; refine Z45 ?_; refine Z93 (fun hq => ?_) fun hq => ?_; apply w_nil; apply wx_next; refine Z18 ?_; apply wc_skip; apply wx_next; apply wc_seq; apply wc_block; apply wc_seq; apply wc_region; refine Z3 ?_; refine Z41 ?_; refine Z0 ?_; rotate_left; apply w_nil; apply wx_next; refine Z19 ?_; apply wc_exit; apply wx_exit_then; apply wx_exit_then; apply wx_exit_same; apply wx_next; apply wc_seq; apply wc_region; refine Z2 ?_; apply w_nil; apply wx_next; apply wc_ret; rotate_left))
    · obtain ⟨t, ht⟩ := getq (xs := y.tests) (k := k) (by omega)
      (refine Z34 HA fun vx HA => ?_; refine Z38 ?_)
      (refine s_call rfl rfl H HA (ref02_Decide t _ (hysm t (List.mem_of_getElem? ht))) ?_; intro vx c H HP; have hvx := HP.h.1; have HA := HP.cut; subst hvx)
      generalize hd1 : t.decide.1 = d1
      generalize hd2 : t.decide.2 = d2
      have hth0 : ((d1 && d2) || (d.tests.drop 0).any (fun b => decide (t = b))) = tsOk d t := by
        rw [tsOk, hd1, hd2]; congr 1; exact any_eq_mem d.tests t
      cases d1
      all_goals
        (first | (refine Z0 ?_; refine Z32 ?_; refine Z32 ?_; refine Z2 ?_; refine Z2 ?_; apply w_nil; apply wx_next; apply wc_seq; apply wc_region; refine Z0 ?_; refine Z0 ?_; refine Z4 ?_; refine Z0 ?_; refine Z8 ?_; refine Z2 ?_; apply w_nil; apply wx_next; apply wc_seq; apply wc_seq; apply wc_region; refine Z2 ?_; apply w_nil; apply wx_next; apply wc_block) | (refine Z0 ?_; refine Z32 ?_; refine Z32 ?_; refine Z2 ?_; refine Z2 ?_; apply w_nil; apply wx_next; apply wc_seq; apply wc_region; refine Z0 ?_; refine Z0 ?_; refine Z5 ?_; refine Z30 ?_; refine Z2 ?_; apply w_nil; apply wx_next; apply wc_seq; apply wc_seq; apply wc_region; refine Z2 ?_; apply w_nil; apply wx_next; apply wc_block))
        refine wc_loopM (σ := Nat × Bool) (fun s => d.tests.length - s.1) (fun s => [(4, q), (7, .pointer (some ⟨b0, 0, none⟩)), (11, .int .i64 k), (14, .bool s.2), (15, .int .i64 s.1)]) (fun s => s.1 ≤ d.tests.length ∧ (s.2 || (d.tests.drop s.1).any (fun b => decide (t = b))) = tsOk d t) (0, _) H HA Ks ⟨Nat.zero_le _, hth0⟩ ?_
        intro s g c hp2 H HA
        obtain ⟨j, th⟩ := s
        obtain ⟨hj, hth⟩ := hp2
        dsimp only at hj hth ⊢
        (focus (apply wc_seq; apply wc_seq; apply wc_region; refine Z0 ?_; refine Z35 HA fun vx HA => ?_; refine Z37 HA fun vx HA => ?_; refine Z45 ?_; refine Z93 (fun hq => ?_) fun hq => ?_; apply w_nil; apply wx_next; refine Z18 ?_; apply wc_skip; apply wx_next; apply wc_seq; apply wc_block; rotate_left; apply w_nil; apply wx_next; refine Z19 ?_; apply wc_exit; apply wx_exit_then; apply wx_exit_then; apply wx_exit_same; apply wx_next; apply wc_seq; apply wc_region; refine Z0 ?_; refine Z33 ?_; apply w_nil; apply wx_next; (focus (apply wc_cond; rfl; all_goals intro hq)); apply wc_seq; apply wc_region; refine Z2 ?_; apply w_nil; apply wx_next; apply wc_ret; apply wx_ret_block; apply wx_ret_then; apply wx_ret_then; apply wx_ret_block; apply wx_ret_then; rotate_left; apply wc_skip; apply wx_norm_block; apply wx_next; apply wc_region; refine Z0 ?_; refine Z46 ?_; refine Z2 ?_; apply w_nil; rotate_left))
        · obtain ⟨b, hb⟩ := getq (xs := d.tests) (k := j) (by omega)
          rw [any_get hb] at hth
          cases th
          · by_cases htb : t = b
            · rw [decide_eq_true htb] at hth
              ((refine dw_start H HA ?_); (repeat (refine Dn ?_)); (refine dw_done mixed H HA rfl (by kernel_rfl) ?_; clear H HA; intro c H HA; (repeat (first | (intro vx hx; have hx2 : vx = _ := hx; clear hx; subst hx2) | (intro vx hx; have HA := HA.addSF hx; clear hx) | (intro vx hx; have HA := HA.add hx; clear hx) | intro vx)); change W _ _ _ _ _ _ _))
              (refine Z2 ?_; apply w_nil; apply wx_norm_block; apply wx_next; apply wc_region; refine Z0 ?_; refine Z46 ?_; refine Z2 ?_; apply w_nil)
              exact wx_loopM ((j + 1, true)) H Cu Ks (by simp; omega) ⟨by simp; omega, by simpa using hth⟩
            · rw [decide_eq_false htb] at hth
              ((refine dw_start H HA ?_); (repeat (refine Dn ?_)); (refine dw_done mixed H HA rfl (by kernel_rfl) ?_; clear H HA; intro c H HA; (repeat (first | (intro vx hx; have hx2 : vx = _ := hx; clear hx; subst hx2) | (intro vx hx; have HA := HA.addSF hx; clear hx) | (intro vx hx; have HA := HA.add hx; clear hx) | intro vx)); change W _ _ _ _ _ _ _))
              (refine Z2 ?_; apply w_nil; apply wx_norm_block; apply wx_next; apply wc_region; refine Z0 ?_; refine Z46 ?_; refine Z2 ?_; apply w_nil)
              exact wx_loopM ((j + 1, false)) H Cu Ks (by simp; omega) ⟨by simp; omega, by simpa using hth⟩
          · ((refine dw_start H HA ?_); (repeat (refine Dn ?_)); (refine dw_done mixed H HA rfl (by kernel_rfl) ?_; clear H HA; intro c H HA; (repeat (first | (intro vx hx; have hx2 : vx = _ := hx; clear hx; subst hx2) | (intro vx hx; have HA := HA.addSF hx; clear hx) | (intro vx hx; have HA := HA.add hx; clear hx) | intro vx)); change W _ _ _ _ _ _ _))
            (refine Z2 ?_; apply w_nil; apply wx_norm_block; apply wx_next; apply wc_region; refine Z0 ?_; refine Z46 ?_; refine Z2 ?_; apply w_nil)
            exact wx_loopM ((j + 1, true)) H Cu Ks (by simp; omega) ⟨by simp; omega, by simpa using hth⟩
        · rw [List.drop_eq_nil_of_le (show d.tests.length ≤ j by omega)] at hth
          exact ret_fn H hm (outs1 Tryz.results22 Wh) (by rw [hpb, hbody, hp, all_get ht, ← hth]; simp_all)
        · rw [List.drop_eq_nil_of_le (show d.tests.length ≤ j by omega)] at hth
          exact wx_loopN (k + 1) H Cu Ks (by omega) (by rw [hp, all_get ht, ← hth]; simp_all)
    · have htests : y.tests.all (tsOk d) = true := by rw [hp, List.drop_eq_nil_of_le (by omega)]; rfl
      exact ret_fn H hm (outs1 Tryz.results22 Wh) (by rw [hpb, hbody, htests]; simp [hh])
end Go.Proofs.YthkdggoohpgnnaaGreatDoor
/- Contract: the terms that stand in a clause, in order. -/
namespace Go.Wk
open Go
/-- A place of a list: what is ahead of it is less. -/
def PlP (out : List Tm) (t : Tm) (v : Value) (_ : Cx) : Prop := ∃ p : Nat, v = .int .i64 p ∧ p ≤ out.length ∧ (∀ (j : Nat) y, j < p → out[j]? = some y → cmpTm y t < 0) ∧ ∀ y, out[p]? = some y → ¬ cmpTm y t < 0
instance (out : List Tm) (t : Tm) (v : Value) : Mono (PlP out t v) := ⟨fun _ h => h⟩
theorem termsm {a : At0} (h : a.sm) : ∀ t ∈ a.terms, t.sm := fun t ht => by
  rcases List.mem_cons.1 ht with rfl | ht
  · exact h.2.1
  · exact h.2.2 t ht
end Go.Wk
namespace Go.Proofs.YthkdggoohpgnnaaGreatDoor
open Go Go.Wk
theorem law_terms (d : Cl) (u : Value) (c : Cx) (h : Ag d u c) (hok : d.Ok) : Cn Tryz.prog 23 [u] c (fun r c => Sl r (termsD d) c) := by
  refine Cn.of Tryz.func23 Tryz.ntmps23 rfl rfl fun hm H HA => ?_
  have HA := HA.add h
  have hs := hok.sm
  have hb := hok.terms_len
  have hlb := hok.b8
  have hsm : ∀ a ∈ [d.head] ++ d.body, a.sm := fun a ha => by
    rcases List.mem_cons.1 ha with rfl | ha
    · exact hs.1
    · exact hs.2.1 a ha
  have hch : ∀ a ∈ [d.head] ++ d.body, a.check = 0 := fun a ha => hok.at_ a ha
  have htm : ((([d.head] ++ d.body)).flatMap At0.terms).length ≤ d.terms.length := by
    simp only [Cl.terms, List.flatMap_append, List.flatMap_cons, List.flatMap_nil, List.append_nil, List.length_append, Cl.bodyTerms]
    omega
  have hfin : (([d.head] ++ d.body).flatMap At0.terms).foldl addT [] = termsD d := rfl
  (apply wc_seq; apply wc_region; refine Z40 fun vx c H HA => ?_; refine Z2 ?_; apply w_nil; apply wx_next; apply wc_seq; apply wc_region; refine Z35 HA fun vx HA => ?_; refine Z39 HA fun vx HA => ?_; refine Z55 fun vx c H HA => ?_; refine Z35 HA fun vx HA => ?_; refine Z37 HA fun vx HA => ?_; refine Z58 fun vx c H HA => ?_; refine Z2 ?_; apply w_nil; apply wx_next; apply wc_seq; apply wc_region; refine Z2 ?_; apply w_nil; apply wx_next; apply wc_seq; apply wc_seq; apply wc_region; refine Z2 ?_; apply w_nil; apply wx_next; apply wc_block)
  generalize hat : [d.head] ++ d.body = atoms at *
  have hal : atoms.length ≤ 9 := by rw [← hat]; simp; omega
  obtain ⟨va, hva⟩ : ∃ v, v = vx := ⟨_, rfl⟩
  subst hva
  refine wc_loopG (σ := Nat × List Tm × Value) (fun x => atoms.length - x.1) (fun x => [(3, va), (4, x.2.2), (5, .int .i64 x.1)])
    (fun x => x.1 ≤ atoms.length ∧ x.2.1 = ((atoms.take x.1).flatMap At0.terms).foldl addT []) (fun x => []) (fun x c => Sl x.2.2 x.2.1 c) (0, [], .slice none 0 0) H HA (Sl.nil _) Ks ⟨Nat.zero_le _, rfl⟩ ?_
  intro x g c hp H HA
  obtain ⟨i, out0, vo0⟩ := x
  obtain ⟨hi, hout0⟩ := hp
  dsimp only at hi hout0 H HA ⊢
  (focus (apply wc_seq; apply wc_seq; apply wc_region; refine Z0 ?_; refine Z0 ?_; refine Z45 ?_; refine Z93 (fun hq => ?_) fun hq => ?_; apply w_nil; apply wx_next; refine Z18 ?_; apply wc_skip; apply wx_next; apply wc_seq; apply wc_block; apply wc_seq; rotate_left; apply w_nil; apply wx_next; refine Z19 ?_; apply wc_exit; apply wx_exit_then; apply wx_exit_then; apply wx_exit_same; apply wx_next; apply wc_seq; apply wc_region; refine Z0 ?_; refine Z2 ?_; apply w_nil; apply wx_next; apply wc_ret; rotate_left))
  · obtain ⟨a, ha⟩ := getq (xs := atoms) (k := i) (by omega)
    have has : a.sm := hsm a (List.mem_of_getElem? ha)
    obtain ⟨_, ha8, _, _⟩ := check_parts (hch a (List.mem_of_getElem? ha))
    (refine dw_start H HA ?_)
    (repeat (refine Dc ?_))
    (refine dw_done mixed H HA rfl (by kernel_rfl) ?_; clear H HA; intro c H HA; (repeat (first | (intro vx hx; have hx2 : vx = _ := hx; clear hx; subst hx2) | (intro vx hx; have HA := HA.addSF hx; clear hx) | (intro vx hx; have HA := HA.add hx; clear hx) | intro vx)); change W _ _ _ _ _ _ _)
    have e1 : [a.by_] ++ a.args = a.terms := rfl
    have ho0 : out0.length ≤ ((atoms.take i).flatMap At0.terms).length := by
      rw [hout0]
      have := foldT_len ((atoms.take i).flatMap At0.terms) []
      simpa using this
    have hpre : ((atoms.take i).flatMap At0.terms).length + a.terms.length ≤ 97 := by
      have : ((atoms.take (i + 1)).flatMap At0.terms).length ≤ (atoms.flatMap At0.terms).length := by
        have e : atoms = atoms.take (i + 1) ++ atoms.drop (i + 1) := (List.take_append_drop _ _).symm
        conv => rhs; rw [e]
        simp only [List.flatMap_append, List.length_append]
        omega
      rw [List.take_add_one, ha] at this
      simp only [List.flatMap_append, List.length_append, Option.toList, List.flatMap_cons, List.flatMap_nil, List.append_nil] at this
      omega
    obtain ⟨vl, hvl⟩ : ∃ v, v = vx := ⟨_, rfl⟩
    subst hvl
    rw [e1] at HA
    (apply w_nil; apply wx_next; apply wc_seq; apply wc_region; refine Z2 ?_; apply w_nil; apply wx_next; apply wc_block)
    refine wc_loopG (σ := Nat × List Tm × Value) (fun x => a.terms.length - x.1) (fun x => [(3, va), (4, x.2.2), (5, .int .i64 i), (6, vl), (7, .int .i64 x.1)])
      (fun x => x.1 ≤ a.terms.length ∧ x.2.1 = (a.terms.take x.1).foldl addT out0) (fun x => []) (fun x c => Sl x.2.2 x.2.1 c) (0, out0, vo0) H HA Lk Ks ⟨Nat.zero_le _, rfl⟩ ?_
    intro x g c hp H HA
    obtain ⟨k, out, vo⟩ := x
    obtain ⟨hk, hout⟩ := hp
    dsimp only at hk hout H HA ⊢
    have hol : out.length ≤ out0.length + k := by
      rw [hout]
      have := foldT_len (a.terms.take k) out0
      simp at this
      omega
    apply wc_seq
    apply wc_seq
    (focus (apply wc_region; refine Z0 ?_; refine Z0 ?_; refine Z45 ?_; refine Z93 (fun hq => ?_) fun hq => ?_; apply w_nil; apply wx_next; refine Z18 ?_; apply wc_skip; apply wx_next; rotate_left; apply w_nil; apply wx_next; refine Z19 ?_; apply wc_exit; apply wx_exit_then; apply wx_exit_then; apply wx_exit_same; apply wx_norm_block; apply wx_next; apply wc_region; refine Z0 ?_; refine Z46 ?_; refine Z2 ?_; apply w_nil; rotate_left))
    · obtain ⟨t, ht⟩ := getq (xs := a.terms) (k := k) (by omega)
      apply wc_seq
      apply wc_block
      apply wc_seq
      (apply wc_region; refine Z2 ?_; apply w_nil; apply wx_next)
      have hnext : addT out t = (a.terms.take (k + 1)).foldl addT out0 := by rw [List.take_add_one, ht, hout]; simp
      have hosm : ∀ y ∈ out, y.sm := fun y hy => by
        rw [hout] at hy
        rcases mem_foldT.1 hy with hy | ⟨hy, _⟩
        · rw [hout0] at hy
          rcases mem_foldT.1 hy with hy | ⟨hy, _⟩
          · cases hy
          · obtain ⟨b, hb, hy⟩ := List.mem_flatMap.1 hy
            exact termsm (hsm b (List.mem_of_mem_take hb)) y hy
        · exact termsm has y (List.mem_of_mem_take hy)
      (refine wc_cutE (fun v => [(3, va), (4, vo), (5, .int .i64 i), (6, vl), (7, .int .i64 k), (8, v)]) (fun v => []) (fun v c => PlP out t v c) H HA ?_ ?_)
      · (apply wc_block)
        refine wc_loopN out.length (fun p => [(3, va), (4, vo), (5, .int .i64 i), (6, vl), (7, .int .i64 k), (8, .int .i64 p)]) (fun p => ∀ (j : Nat) y, j < p → out[j]? = some y → cmpTm y t < 0) 0 H HA Ks (Nat.zero_le _) (fun j y h => absurd h (by omega)) ?_
        intro p g c hp1 hp2 H HA
        by_cases hlt : (p : Int) < (out.length : Int)
        · obtain ⟨y, hy⟩ := getq (xs := out) (k := p) (by omega)
          by_cases hc : cmpTm y t < 0
          · (apply wc_seq; apply wc_seq)
            (refine dw_start H HA ?_)
            (repeat (refine Dc ?_))
            (apply dw_cons; (focus ((intro B _ Lx c H HA; (repeat (first | (intro vx hx; have hx2 : vx = _ := hx; clear hx; subst hx2) | (intro vx hx; have HA := HA.addSF hx; clear hx) | (intro vx hx; have HA := HA.add hx; clear hx) | intro vx)); change W _ _ _ _ _ _ _); (apply s_go; exact rfl; exact rfl; exact rfl); (refine s_call rfl rfl H HA (ref02_Compare y t _ (hosm y (List.mem_of_getElem? hy))) ?_; intro vx c H HP; have hvx := HP.h.1; have HA := HP.cut; subst hvx); exact Dx)); exact inferInstance)
            (repeat (refine Dc ?_))
            (refine dw_done mixed H HA rfl (by kernel_rfl) ?_; clear H HA; intro c H HA; (repeat (first | (intro vx hx; have hx2 : vx = _ := hx; clear hx; subst hx2) | (intro vx hx; have HA := HA.addSF hx; clear hx) | (intro vx hx; have HA := HA.add hx; clear hx) | intro vx)); change W _ _ _ _ _ _ _)
            (apply w_nil; apply wx_next; refine Z18 ?_; apply wc_skip; apply wx_next; apply wc_block; apply wc_region; refine Z0 ?_; refine Z46 ?_; refine Z2 ?_; apply w_nil; apply wx_norm_block)
            exact wx_loopN (p + 1) H Cu Ks (by omega) (fun j z hj hz => by
              rcases Nat.lt_or_eq_of_le (Nat.le_of_lt_succ hj) with h | h
              · exact hp2 j z h hz
              · subst h
                rw [hy] at hz
                cases hz
                exact hc)
          · (apply wc_seq; apply wc_seq)
            (refine dw_start H HA ?_)
            (repeat (refine Dc ?_))
            (apply dw_cons; (focus ((intro B _ Lx c H HA; (repeat (first | (intro vx hx; have hx2 : vx = _ := hx; clear hx; subst hx2) | (intro vx hx; have HA := HA.addSF hx; clear hx) | (intro vx hx; have HA := HA.add hx; clear hx) | intro vx)); change W _ _ _ _ _ _ _); (apply s_go; exact rfl; exact rfl; exact rfl); (refine s_call rfl rfl H HA (ref02_Compare y t _ (hosm y (List.mem_of_getElem? hy))) ?_; intro vx c H HP; have hvx := HP.h.1; have HA := HP.cut; subst hvx); exact Dx)); exact inferInstance)
            (repeat (refine Dc ?_))
            (refine dw_done mixed H HA rfl (by kernel_rfl) ?_; clear H HA; intro c H HA; (repeat (first | (intro vx hx; have hx2 : vx = _ := hx; clear hx; subst hx2) | (intro vx hx; have HA := HA.addSF hx; clear hx) | (intro vx hx; have HA := HA.add hx; clear hx) | intro vx)); change W _ _ _ _ _ _ _)
            (apply w_nil; apply wx_next; refine Z19 ?_; apply wc_exit; apply wx_exit_then; apply wx_exit_then; apply wx_exit_same)
            exact wx_cutE (.int .i64 p) H Cu ⟨p, rfl, hp1, hp2, fun z hz => by rw [hy] at hz; cases hz; exact hc⟩ Ks
        · (apply wc_seq; apply wc_seq)
          ((refine dw_start H HA ?_); (repeat (refine Dc ?_)); (refine dw_done mixed H HA rfl (by kernel_rfl) ?_; clear H HA; intro c H HA; (repeat (first | (intro vx hx; have hx2 : vx = _ := hx; clear hx; subst hx2) | (intro vx hx; have HA := HA.addSF hx; clear hx) | (intro vx hx; have HA := HA.add hx; clear hx) | intro vx)); change W _ _ _ _ _ _ _))
          (apply w_nil; apply wx_next; refine Z19 ?_; apply wc_exit; apply wx_exit_then; apply wx_exit_then; apply wx_exit_same)
          exact wx_cutE (.int .i64 p) H Cu ⟨p, rfl, hp1, hp2, fun z hz => absurd (List.getElem?_eq_some_iff.1 hz).1 (by omega)⟩ Ks
      intro v8 g c H HA
      obtain ⟨p, rfl, hp1, hp2, hp3⟩ := HA.h.1
      have HA := HA.cut
      have hins := ins_at hp1 hp2 hp3
      (apply wc_seq; apply wc_seq)
      by_cases hk0 : t.k = 0
      · have hadd : addT out t = out := by rw [addT, if_pos hk0]
        (refine dw_start H HA ?_)
        (repeat (refine Dc ?_))
        (refine dw_done mixed H HA rfl (by kernel_rfl) ?_; clear H HA; intro c H HA; (repeat (first | (intro vx hx; have hx2 : vx = _ := hx; clear hx; subst hx2) | (intro vx hx; have HA := HA.addSF hx; clear hx) | (intro vx hx; have HA := HA.add hx; clear hx) | intro vx)); change W _ _ _ _ _ _ _)
        (apply w_nil; apply wx_next; refine Z18 ?_; apply wc_exit; apply wx_exit_then; apply wx_exit_same; apply wx_next; apply wc_region; refine Z0 ?_; refine Z46 ?_; refine Z2 ?_; apply w_nil)
        rw [hadd] at hnext
        exact wx_loopG ((k + 1, out, vo)) H Cu Lk Ks (by dsimp only; omega) ⟨by dsimp only; omega, hnext⟩
      · by_cases hpl : (p : Int) < (out.length : Int)
        · obtain ⟨y, hy⟩ := getq (xs := out) (k := p) (by omega)
          by_cases hyt : y = t
          · have hadd : addT out t = out := by rw [addT, if_neg hk0, hins, if_pos (by rw [hy, hyt])]
            (refine dw_start H HA ?_)
            (repeat (refine Dc ?_))
            (refine dw_done mixed H HA rfl (by kernel_rfl) ?_; clear H HA; intro c H HA; (repeat (first | (intro vx hx; have hx2 : vx = _ := hx; clear hx; subst hx2) | (intro vx hx; have HA := HA.addSF hx; clear hx) | (intro vx hx; have HA := HA.add hx; clear hx) | intro vx)); change W _ _ _ _ _ _ _)
            (apply w_nil; apply wx_next; refine Z18 ?_; apply wc_exit; apply wx_exit_then; apply wx_exit_same; apply wx_next; apply wc_region; refine Z0 ?_; refine Z46 ?_; refine Z2 ?_; apply w_nil)
            rw [hadd] at hnext
            exact wx_loopG ((k + 1, out, vo)) H Cu Lk Ks (by dsimp only; omega) ⟨by dsimp only; omega, hnext⟩
          · have hadd : addT out t = out.take p ++ t :: out.drop p := by rw [addT, if_neg hk0, hins, if_neg (by rw [hy]; simpa using hyt)]
            have hl1 : (out.take p).length = p := by simp; omega
            have hl2 : (out.drop p).length = out.length - p := by simp
            (refine dw_start H HA ?_)
            (repeat (refine Dc ?_))
            (refine dw_done mixed H HA rfl (by kernel_rfl) ?_; clear H HA; intro c H HA; (repeat (first | (intro vx hx; have hx2 : vx = _ := hx; clear hx; subst hx2) | (intro vx hx; have HA := HA.addSF hx; clear hx) | (intro vx hx; have HA := HA.add hx; clear hx) | intro vx)); change W _ _ _ _ _ _ _)
            (apply w_nil; apply wx_next; refine Z19 ?_; apply wc_skip; apply wx_next; apply wc_seq; apply wc_region; refine Z2 ?_; apply w_nil; apply wx_next; apply wc_seq; apply wc_region; refine Z0 ?_; refine Z0 ?_; refine Z0 ?_)
            have H := H.nilR Tm 23 3
            (refine s_slL (α := Tm) (lo := 0) (hi := p) rfl rfl (.inr ⟨rfl, rfl⟩) (.inl rfl) (Lk : Sl vo out _) rfl (by omega) (by omega) ?_; intro vx hx; rw [List.drop_zero, Nat.sub_zero] at hx; have HA := (HA.add (Vals.nil (α := Tm) c)).add hx; clear hx)
            (refine Z59 fun vx c valsx H HA => ?_; refine Z2 ?_; apply w_nil; apply wx_next; apply wc_seq; apply wc_region; refine Z0 ?_; refine Z0 ?_; refine Z0 ?_; refine Z34 HA fun vx HA => ?_; refine Z38 ?_; refine Z56 fun vx c H HA => ?_; refine Z59 fun vx c valsx H HA => ?_; refine Z2 ?_; apply w_nil; apply wx_next; apply wc_region; refine Z0 ?_; refine Z0 ?_; refine Z0 ?_)
            (refine s_slL (α := Tm) (lo := p) (hi := out.length) rfl rfl (.inl rfl) (.inr ⟨rfl, rfl⟩) (Lk : Sl vo out _) rfl (by omega) (by omega) ?_; intro vx hx; rw [List.take_of_length_le (by simp)] at hx; have HA := HA.add hx; clear hx)
            (refine Z59 fun vx c valsx H HA => ?_; refine Z2 ?_; apply w_nil; apply wx_norm_block; apply wx_next; apply wc_region; refine Z0 ?_; refine Z46 ?_; refine Z2 ?_; apply w_nil)
            (refine wx_freezeRow H HA Lk rfl rfl Lt ?_; intro c H HA)
            have e9 : [] ++ out.take p ++ [t] ++ out.drop p = addT out t := by rw [hadd, List.nil_append, List.append_assoc]; rfl
            rw [e9] at HA
            exact wx_loopG ((k + 1, addT out t, _)) H Cu Lk Ks (by dsimp only; omega) ⟨by dsimp only; omega, hnext⟩
        · have hadd : addT out t = out.take p ++ t :: out.drop p := by rw [addT, if_neg hk0, hins, if_neg (by rw [List.getElem?_eq_none (by omega)]; simp)]
          have hl1 : (out.take p).length = p := by simp; omega
          have hl2 : (out.drop p).length = out.length - p := by simp
          (refine dw_start H HA ?_)
          (repeat (refine Dc ?_))
          (refine dw_done mixed H HA rfl (by kernel_rfl) ?_; clear H HA; intro c H HA; (repeat (first | (intro vx hx; have hx2 : vx = _ := hx; clear hx; subst hx2) | (intro vx hx; have HA := HA.addSF hx; clear hx) | (intro vx hx; have HA := HA.add hx; clear hx) | intro vx)); change W _ _ _ _ _ _ _)
          (apply w_nil; apply wx_next; refine Z19 ?_; apply wc_skip; apply wx_next; apply wc_seq; apply wc_region; refine Z2 ?_; apply w_nil; apply wx_next; apply wc_seq; apply wc_region; refine Z0 ?_; refine Z0 ?_; refine Z0 ?_)
          have H := H.nilR Tm 23 3
          (refine s_slL (α := Tm) (lo := 0) (hi := p) rfl rfl (.inr ⟨rfl, rfl⟩) (.inl rfl) (Lk : Sl vo out _) rfl (by omega) (by omega) ?_; intro vx hx; rw [List.drop_zero, Nat.sub_zero] at hx; have HA := (HA.add (Vals.nil (α := Tm) c)).add hx; clear hx)
          (refine Z59 fun vx c valsx H HA => ?_; refine Z2 ?_; apply w_nil; apply wx_next; apply wc_seq; apply wc_region; refine Z0 ?_; refine Z0 ?_; refine Z0 ?_; refine Z34 HA fun vx HA => ?_; refine Z38 ?_; refine Z56 fun vx c H HA => ?_; refine Z59 fun vx c valsx H HA => ?_; refine Z2 ?_; apply w_nil; apply wx_next; apply wc_region; refine Z0 ?_; refine Z0 ?_; refine Z0 ?_)
          (refine s_slL (α := Tm) (lo := p) (hi := out.length) rfl rfl (.inl rfl) (.inr ⟨rfl, rfl⟩) (Lk : Sl vo out _) rfl (by omega) (by omega) ?_; intro vx hx; rw [List.take_of_length_le (by simp)] at hx; have HA := HA.add hx; clear hx)
          (refine Z59 fun vx c valsx H HA => ?_; refine Z2 ?_; apply w_nil; apply wx_norm_block; apply wx_next; apply wc_region; refine Z0 ?_; refine Z46 ?_; refine Z2 ?_; apply w_nil)
          (refine wx_freezeRow H HA Lk rfl rfl Lt ?_; intro c H HA)
          have e9 : [] ++ out.take p ++ [t] ++ out.drop p = addT out t := by rw [hadd, List.nil_append, List.append_assoc]; rfl
          rw [e9] at HA
          exact wx_loopG ((k + 1, addT out t, _)) H Cu Lk Ks (by dsimp only; omega) ⟨by dsimp only; omega, hnext⟩
    · have hacc : out = ((atoms.take (i + 1)).flatMap At0.terms).foldl addT [] := by
        rw [hout, List.take_of_length_le (by omega), hout0, ← List.foldl_append, List.take_add_one, ha]
        simp
      exact wx_loopG ((i + 1, out, vo)) H Cu Lk Ks (by dsimp only; omega) ⟨by dsimp only; omega, hacc⟩
  · have hacc : out0 = termsD d := by rw [hout0, List.take_of_length_le (by omega)]; exact hfin
    subst hacc
    exact ret_fn H hm (outs1 Tryz.results23 Wh) Lk
end Go.Proofs.YthkdggoohpgnnaaGreatDoor
/- SubsumeLeast: what its function answers. -/
namespace Go.Wk
open Go
section
variable {P : Program} {ops : Array Oper} {Q : Exit → Act → World → Prop} {n : Nat} {f : Nat → Value} {rest : List Oper} {ty : TypeId} {ps : String} {af : Array Edge} {d : Tmp} {w : World}
theorem s_remN {T T' : TypeId} {x y : Operand} {a b : Nat} (hn : Nat.blt d n = true) (hx : opd f x = .int .i64 a) (hy : opd f y = .int .i64 b) (hb : 0 < b) (k : W P ops Q rest n (upd f d (.int .i64 (a % b : Nat))) w) : W P ops Q (⟨some d, .binOp .rem T x y T', ty, ps, af, none⟩ :: rest) n f w :=
  st_val hn (by simp [execOp, hx, hy, eqGuard_at_int, binOp_rem, Op.intDiv, show ¬ b = 0 by omega]; rfl) k
theorem s_quoN {T T' : TypeId} {x y : Operand} {a b : Nat} (hn : Nat.blt d n = true) (hx : opd f x = .int .i64 a) (hy : opd f y = .int .i64 b) (hb : 0 < b) (ha : a < 1099511627776) (k : W P ops Q rest n (upd f d (.int .i64 (a / b : Nat))) w) : W P ops Q (⟨some d, .binOp .quo T x y T', ty, ps, af, none⟩ :: rest) n f w := by
  obtain ⟨q, hq⟩ : ∃ q, a / b = q := ⟨_, rfl⟩
  have h1 : a / b ≤ a := Nat.div_le_self a b
  rw [hq] at k h1
  have h2 : IntKind.i64.wrap (q : Int) = (q : Int) := wrapI (by omega) (by omega)
  have h3 : ((a : Int).tdiv (b : Int)) = (q : Int) := by rw [← hq]; rfl
  have h4 : ((a : Int) / (b : Int)) = (q : Int) := by rw [← hq]; rfl
  exact st_val hn (by simp [execOp, hx, hy, eqGuard_at_int, binOp, Op.intDiv, show ¬ b = 0 by omega, h3, h4, h2]) k
end
end Go.Wk
namespace Go.Proofs.YthkdggoohpgnnaaGreatDoor
open Go Go.Wk
set_option maxHeartbeats 4000000 in
theorem law_Least (x0 x1 : Cl) (v0 v1 : Value) (c : Cx) (h0 : Ag x0 v0 c) (h1 : Ag x1 v1 c) (s0 : x0.sm) (s1 : x1.sm) (hg : GlobOk c) : Cn Tryz.prog 5 [v0, v1] c (fun r _ => r = .bool true) := by
  refine Cn.of Tryz.func5 Tryz.ntmps5 rfl rfl fun hm H HA => ?_
  have HA := ((HA.add h0).add h1).add hg
  (apply wc_seq; apply wc_region; refine Z40 fun vx c H HA => ?_; refine Z40 fun vx c H HA => ?_; refine Z2 ?_; apply w_nil; apply wx_next; apply wc_seq; apply wc_region; refine Z39 HA fun vx HA => ?_)
  (refine s_call rfl rfl H HA (ref03_Made x0 _ _ Lk s0) ?_; intro vx c H HA)
  have oka := madeC_ok x0
  generalize madeC x0 = a at *
  (refine Z61 fun bx c H HA => ?_)
  (obtain ⟨b5, rfl⟩ : ∃ x, x = bx := ⟨_, rfl⟩)
  (refine s_storeG (α := Cl) rfl rfl Lk rfl rfl H HA ?_; intro c H HA)
  generalize hp5 : (Value.pointer (some ⟨b5, 0, none⟩)) = p5 at HA ⊢
  (apply w_nil; apply wx_next; apply wc_seq; apply wc_region; refine Z39 HA fun vx HA => ?_)
  (refine s_call rfl rfl H HA (ref03_Made x1 _ _ Lk s1) ?_; intro vx c H HA)
  have okb := madeC_ok x1
  generalize madeC x1 = b at *
  (refine Z61 fun bx c H HA => ?_)
  (obtain ⟨b6, rfl⟩ : ∃ x, x = bx := ⟨_, rfl⟩)
  (refine s_storeG (α := Cl) rfl rfl Lk rfl rfl H HA ?_; intro c H HA)
  generalize hp6 : (Value.pointer (some ⟨b6, 0, none⟩)) = p6 at HA ⊢
  (apply w_nil; apply wx_next; apply wc_seq; apply wc_region; refine Z39 HA fun vx HA => ?_; refine Z39 HA fun vx HA => ?_)
  (refine s_call rfl rfl H HA (subsume_Subsumes a b _ _ _ Lk Lk oka.fit okb.fit Lk) ?_; intro vx c H HA)
  obtain ⟨vm, hr, hSm⟩ := HA.h.1
  subst hr
  have HA := HA.cut.add hSm
  have hpart : ∀ w, subs a b = some w → partB a b w = true ∧ w.length = a.nv := fun w hw => subs_part hw
  have hfound : ∀ i, i < (termsD b).length ^ a.nv → partB a b (tryOf (termsD b) a.nv i) = true → (∀ j, j < i → partB a b (tryOf (termsD b) a.nv j) = false) → subs a b = some (tryOf (termsD b) a.nv i) := fun i h1 h2 h3 => least_found oka okb h1 h2 h3
  have hnone : (∀ j, j < (termsD b).length ^ a.nv → partB a b (tryOf (termsD b) a.nv j) = false) → subs a b = none := fun h => least_none oka okb h
  have hwsm : ∀ w, subs a b = some w → ∀ t ∈ w, t.sm := fun w hw t ht => by
    have hs : SubC a b := subs_iff.1 (by rw [hw]; rfl)
    have ha := subsR_ans hs.1 hs.2.1
    rw [show subsR a b = some w from hw] at ha
    have hm := (full_k hs.1 hs.2.1 ha.1 t ht).1
    obtain ⟨y, hy, hm⟩ := List.mem_flatMap.1 hm
    exact termsm (okb.sm.2.1 y hy) t hm
  (refine Z0 ?_; refine Z32 ?_; refine Z32 ?_; refine Z2 ?_; refine Z2 ?_; apply w_nil; apply wx_next)
  (refine wc_cutS [(5, p5), (6, p6), (7, vm), (8, .bool (subs a b).isSome)] H HA ?_ ?_)
  · (apply wc_seq; apply wc_region)
    (refine s_call rfl rfl H HA (law_head _ Lk) ?_; intro vx c H HP; have hvx := HP.h.1; have HA := HP.cut; subst hvx)
    cases hsb : subs a b with
    | none =>
      rw [hsb] at HA
      dsimp only [Option.isSome, Option.getD] at HA ⊢
      have hz : ¬ ((([] : List Tm).length : Nat) : Int) > 0 := by decide
      (refine Z33 ?_; refine Z0 ?_; refine Z4 ?_; refine Z0 ?_; refine Z4 ?_; refine Z0 ?_; refine Z5 ?_; refine Z5 ?_; refine Z5 ?_; refine Z5 ?_; refine Z5 ?_; refine Z4 ?_; refine Z30 ?_; refine Z30 ?_; refine Z0 ?_; refine Z4 ?_; refine Z0 ?_; refine Z4 ?_; refine Z33 ?_; refine Z4 ?_; refine Z0 ?_; refine Z4 ?_; refine Z0 ?_; refine Z4 ?_; refine Z45 ?_; refine Z4 ?_; refine Z84 ?_; refine Z4 ?_; refine Z8 ?_; refine Z30 ?_; apply w_nil; apply wx_next; refine Z19 ?_; apply wc_skip)
      exact wx_cutK H Cu Ks
    | some w =>
      rw [hsb] at HA
      dsimp only [Option.isSome, Option.getD] at HA ⊢
      (refine Z33 ?_; refine Z0 ?_; refine Z4 ?_; refine Z0 ?_; refine Z4 ?_; refine Z0 ?_; refine Z4 ?_; refine Z39 HA fun vx HA => ?_; refine Z4 ?_; refine Z39 HA fun vx HA => ?_; refine Z4 ?_; refine Z0 ?_; refine Z4 ?_)
      (refine s_call rfl rfl H HA (Cn.imp (Post' := fun v _ => v = .bool true) (law_part a b _ _ w vm _ Lk Lk Lk oka.fit (hwsm w hsb)) (fun v c' _ h => by rw [h, (hpart w hsb).1, decide_eq_true (hpart w hsb).2]; rfl)) ?_; intro vx c H HP; have hvx := HP.h.1; have HA := HP.cut; subst hvx)
      (refine Z4 ?_; refine Z33 ?_; refine Z4 ?_; refine Z8 ?_; refine Z30 ?_; refine Z0 ?_; refine Z4 ?_; refine Z0 ?_; refine Z4 ?_; refine Z33 ?_; refine Z4 ?_; refine Z0 ?_; refine Z5 ?_; refine Z5 ?_; refine Z5 ?_; refine Z4 ?_; refine Z30 ?_; refine Z30 ?_; apply w_nil; apply wx_next; refine Z19 ?_; apply wc_skip)
      exact wx_cutK H Cu Ks
  intro g c H HA
  have hm97 : (termsD b).length ≤ 97 := by
    have h1 := termsD_len b
    have h2 := okb.terms_len
    omega
  have hlsm : ∀ t ∈ termsD b, t.sm := fun t ht => by
    rcases mem_foldT.1 ht with h | ⟨h, _⟩
    · cases h
    · obtain ⟨y, hy, hm⟩ := List.mem_flatMap.1 h
      rcases List.mem_cons.1 hy with rfl | hy
      · exact termsm okb.sm.1 t hm
      · exact termsm (okb.sm.2.1 y hy) t hm
  have hnv := oka.nv_le
  (apply wc_seq; apply wc_region; refine Z39 HA fun vx HA => ?_)
  (refine s_call rfl rfl H HA (law_terms b _ _ Lk okb) ?_; intro vx c H HA)
  obtain ⟨vl, hvl⟩ : ∃ v, v = vx := ⟨_, rfl⟩
  subst hvl
  generalize termsD b = l at *
  generalize hnn : a.nv = n at *
  (refine Z2 ?_; apply w_nil; apply wx_next; apply wc_seq; apply wc_region; refine Z39 HA fun vx HA => ?_)
  (refine s_call rfl rfl H HA (ref03_Vars a _ _ Lk oka.fit.2) ?_; intro vx c H HP; have hvx := HP.h.1; have HA := HP.cut; subst hvx)
  rw [hnn]
  (refine Z2 ?_; apply w_nil; apply wx_next; apply wc_seq; apply wc_region; refine Z2 ?_; apply w_nil; apply wx_next; apply wc_seq; apply wc_seq; apply wc_region; refine Z2 ?_; apply w_nil; apply wx_next; apply wc_block)
  refine wc_loopN n (fun k => [(5, p5), (6, p6), (7, vm), (8, .bool (subs a b).isSome), (9, vl), (10, .int .i64 n), (11, .int .i64 (l.length ^ k : Nat)), (12, .int .i64 k)]) (fun k => k = 0 ∨ l.length ^ (k - 1) ≤ 4000) 0 H HA Ks (Nat.zero_le _) (.inl rfl) ?_
  intro k g c hk hp H HA
  have hpb : l.length ^ k ≤ 388000 := by
    rcases hp with rfl | hp
    · simp
    · cases k with
      | zero => simp
      | succ k =>
        have hp : l.length ^ k ≤ 4000 := hp
        rw [Nat.pow_succ]
        exact Nat.le_trans (Nat.mul_le_mul hp hm97) (by decide)
  have hps : l.length ^ (k + 1) = l.length ^ k * l.length := Nat.pow_succ ..
  obtain ⟨C, hC⟩ : ∃ C, l.length ^ k = C := ⟨_, rfl⟩
  rw [hC] at hpb hps ⊢
  by_cases hkn : (k : Int) < (n : Int)
  · by_cases hc4 : (C : Int) ≤ 4000
    · have hmul : IntKind.i64.wrap ((C : Int) * (l.length : Int)) = ((l.length ^ (k + 1) : Nat) : Int) := by
        have h1 : C * l.length ≤ 4000 * 97 := Nat.mul_le_mul (by omega) hm97
        rw [hps]
        have h2 : (C : Int) * (l.length : Int) = ((C * l.length : Nat) : Int) := by simp
        rw [h2]
        exact wrapI (by omega) (by omega)
      (apply wc_seq; apply wc_seq; apply wc_region; refine Z0 ?_; refine Z0 ?_; refine Z81 ?_; refine Z0 ?_; refine Z4 ?_; refine Z0 ?_; refine Z4 ?_; refine Z83 ?_; refine Z8 ?_; apply w_nil; apply wx_next; refine Z18 ?_; apply wc_skip; apply wx_next; apply wc_seq; apply wc_block; apply wc_region; refine Z0 ?_; refine Z0 ?_; refine Z45 ?_)
      (refine s_mul rfl rfl rfl hmul ?_)
      (refine Z2 ?_; apply w_nil; apply wx_norm_block; apply wx_next; apply wc_region; refine Z0 ?_; refine Z46 ?_; refine Z2 ?_; apply w_nil)
      exact wx_loopN (k + 1) H Cu Ks (by omega) (.inr (by show l.length ^ k ≤ 4000; omega))
    · have hc5 : (C : Int) > 4000 := by omega
      (apply wc_seq; apply wc_seq; apply wc_region; refine Z0 ?_; refine Z0 ?_; refine Z81 ?_; refine Z0 ?_; refine Z4 ?_; refine Z0 ?_; refine Z4 ?_; refine Z83 ?_; refine Z8 ?_; apply w_nil; apply wx_next; refine Z19 ?_; apply wc_exit; apply wx_exit_then; apply wx_exit_then; apply wx_exit_same; apply wx_next; apply wc_seq; apply wc_seq; apply wc_region; refine Z0 ?_; refine Z84 ?_; apply w_nil; apply wx_next; refine Z18 ?_; apply wc_seq; apply wc_region; refine Z2 ?_; apply w_nil; apply wx_next; apply wc_ret; apply wx_ret_then)
      exact ret_fn H hm (outs1 Tryz.results5 Wh) rfl
  · have hkn2 : k = n := by omega
    subst hkn2
    by_cases hc5 : (C : Int) > 4000
    · (apply wc_seq; apply wc_seq; apply wc_region; refine Z0 ?_; refine Z0 ?_; refine Z81 ?_; refine Z0 ?_; refine Z5 ?_; refine Z5 ?_; refine Z30 ?_; apply w_nil; apply wx_next; refine Z19 ?_; apply wc_exit; apply wx_exit_then; apply wx_exit_then; apply wx_exit_same; apply wx_next; apply wc_seq; apply wc_seq; apply wc_region; refine Z0 ?_; refine Z84 ?_; apply w_nil; apply wx_next; refine Z18 ?_; apply wc_seq; apply wc_region; refine Z2 ?_; apply w_nil; apply wx_next; apply wc_ret; apply wx_ret_then)
      exact ret_fn H hm (outs1 Tryz.results5 Wh) rfl
    · clear hp hpb hps hk
      subst hC
      have hC4 : l.length ^ k ≤ 4000 := by omega
      (apply wc_seq; apply wc_seq; apply wc_region; refine Z0 ?_; refine Z0 ?_; refine Z81 ?_; refine Z0 ?_; refine Z5 ?_; refine Z5 ?_; refine Z30 ?_; apply w_nil; apply wx_next; refine Z19 ?_; apply wc_exit; apply wx_exit_then; apply wx_exit_then; apply wx_exit_same; apply wx_next; apply wc_seq; apply wc_seq; apply wc_region; refine Z0 ?_; refine Z84 ?_; apply w_nil; apply wx_next; refine Z19 ?_; apply wc_skip; apply wx_next; apply wc_seq; apply wc_seq; apply wc_region; refine Z2 ?_; apply w_nil; apply wx_next; apply wc_block)
      refine wc_loopN (l.length ^ k) (fun i => [(5, p5), (6, p6), (7, vm), (8, .bool (subs a b).isSome), (9, vl), (10, .int .i64 k), (11, .int .i64 (l.length ^ k : Nat)), (13, .int .i64 i)]) (fun i => ∀ j, j < i → partB a b (tryOf l k j) = false) 0 H HA Ks (Nat.zero_le _) (fun j h => absurd h (by omega)) ?_
      intro i g c hi hp H HA
      (focus (apply wc_seq; apply wc_seq; apply wc_region; refine Z0 ?_; refine Z0 ?_; refine Z93 (fun hq => ?_) fun hq => ?_; apply w_nil; apply wx_next; refine Z18 ?_; apply wc_skip; apply wx_next; apply wc_seq; apply wc_block; apply wc_seq; apply wc_region; refine Z2 ?_; apply w_nil; apply wx_next; apply wc_seq; apply wc_region; refine Z0 ?_; refine Z2 ?_; apply w_nil; apply wx_next; apply wc_seq; apply wc_region; refine Z0 ?_; refine Z2 ?_; apply w_nil; apply wx_next; apply wc_seq; apply wc_seq; apply wc_region; refine Z2 ?_; apply w_nil; apply wx_next; apply wc_block; rotate_left; apply w_nil; apply wx_next; refine Z19 ?_; apply wc_exit; apply wx_exit_then; apply wx_exit_then; apply wx_exit_same; apply wx_next; apply wc_seq; apply wc_region; refine Z0 ?_; refine Z33 ?_; refine Z2 ?_; apply w_nil; apply wx_next; apply wc_ret; rotate_left))
      · have hik : i < l.length ^ k := by omega
        have hdec : decide ((tryOf l k i).length = a.nv) = true := by rw [hnn]; exact decide_eq_true (tryOf_len _ _ _)
        have htsm : ∀ t ∈ tryOf l k i, t.sm := fun t ht => hlsm t (tryOf_mem hik t ht)
        have H := H.nilR Tm 23 3
        refine wc_loopG (σ := Nat × List Tm × Value × List (List Value) × Nat) (fun x => k - x.1) (fun x => [(5, p5), (6, p6), (7, vm), (8, .bool (subs a b).isSome), (9, vl), (10, .int .i64 k), (11, .int .i64 (l.length ^ k : Nat)), (13, .int .i64 i), (14, x.2.2.1), (15, .int .i64 x.2.2.2.2), (16, .int .i64 (l.length ^ (k - x.1) : Nat)), (17, .int .i64 x.1)])
          (fun x => x.1 ≤ k ∧ x.2.2.2.2 < l.length ^ (k - x.1) ∧ x.2.1.length = x.1 ∧ x.2.1 ++ tryOf l (k - x.1) x.2.2.2.2 = tryOf l k i)
          (fun x => [.row x.2.2.1 23 3 x.2.1.length x.2.2.2.1.flatten]) (fun x c => Vals x.2.2.2.1 x.2.1 c) (0, [], .slice none 0 0, [], i) H HA (Vals.nil _) Ks ⟨Nat.zero_le _, hik, rfl, rfl⟩ ?_
        intro x g c hp3 H HA
        obtain ⟨v, acc, vr, vals, q⟩ := x
        obtain ⟨hv, hq, hal, hacc⟩ := hp3
        dsimp only at hv hq hal hacc H HA ⊢
        by_cases hvk : (v : Int) < (k : Int)
        · (apply wc_seq; apply wc_seq; apply wc_region; refine Z0 ?_; refine Z0 ?_; refine Z81 ?_; apply w_nil; apply wx_next; refine Z18 ?_; apply wc_skip; apply wx_next; apply wc_seq; apply wc_block; apply wc_seq; apply wc_region; refine Z0 ?_; refine Z0 ?_; refine Z45 ?_)
          obtain ⟨r, hr⟩ : ∃ r, k - v = r + 1 := ⟨k - v - 1, by omega⟩
          rw [hr] at hq hacc ⊢
          obtain ⟨d0, d1, d2⟩ := try_digit hq
          have hm0 : 0 < l.length := Nat.lt_of_le_of_lt (Nat.zero_le _) d1
          have hdiv : l.length ^ (r + 1) / l.length = l.length ^ r := by rw [Nat.pow_succ]; exact Nat.mul_div_cancel _ hm0
          have hle : l.length ^ (r + 1) ≤ l.length ^ k := Nat.pow_le_pow_right hm0 (by omega)
          obtain ⟨t, ht⟩ := getq (xs := l) (k := q / l.length ^ r) d1
          (refine s_quoN rfl rfl rfl hm0 (by omega) ?_)
          rw [hdiv]
          (refine Z2 ?_; apply w_nil; apply wx_next; apply wc_seq; apply wc_region; refine Z0 ?_; refine Z0 ?_; refine Z0 ?_; refine Z0 ?_)
          (refine s_quoN rfl rfl rfl d0 (by omega) ?_)
          (refine Z34 HA fun vx HA => ?_; refine Z38 ?_; refine Z56 fun vx c H HA => ?_; refine Z59 fun vx c valsx H HA => ?_; refine Z2 ?_; apply w_nil; apply wx_next; apply wc_region; refine Z0 ?_; refine Z0 ?_)
          (refine s_remN rfl rfl rfl d0 ?_)
          (refine Z2 ?_; apply w_nil; apply wx_norm_block; apply wx_next; apply wc_region; refine Z0 ?_; refine Z46 ?_; refine Z2 ?_; apply w_nil)
          have hr2 : r = k - (v + 1) := by omega
          have hacc2 : acc ++ [t] ++ tryOf l r (q % l.length ^ r) = tryOf l k i := by
            rw [← hacc, List.append_assoc]
            show _ = acc ++ ((l[q / l.length ^ r]?).getD Tn :: tryOf l r (q % l.length ^ r))
            rw [ht]
            rfl
          subst hr2
          exact wx_loopG ((v + 1, acc ++ [t], _, _, q % l.length ^ (k - (v + 1)))) H Cu Lk Ks (by dsimp only; omega) ⟨by dsimp only; omega, d2, by simp [hal], hacc2⟩
        · have hvk2 : v = k := by omega
          have e : acc = tryOf l k i := by
            rw [← hacc, hvk2, Nat.sub_self]
            simp [tryOf]
          (apply wc_seq; apply wc_seq; apply wc_region; refine Z0 ?_; refine Z0 ?_; refine Z81 ?_; apply w_nil; apply wx_next; refine Z19 ?_; apply wc_exit; apply wx_exit_then; apply wx_exit_then; apply wx_exit_same; apply wx_next; apply wc_seq; apply wc_region; refine Z39 HA fun vx HA => ?_; refine Z39 HA fun vx HA => ?_; refine Z0 ?_)
          (refine w_freezeRow H HA Lk rfl rfl Lt ?_; intro c H HA)
          rw [e] at HA
          cases hpt : partB a b (tryOf l k i)
          · (refine s_call rfl rfl H HA (Cn.imp (Post' := fun v _ => v = .bool false) (law_part a b _ _ (tryOf l k i) vr _ Lk Lk Lk oka.fit htsm) (fun v c' _ h => by rw [h, hpt, Bool.false_and])) ?_; intro vx c H HP; have hvx := HP.h.1; have HA := HP.cut; subst hvx)
            (apply w_nil; apply wx_next; refine Z19 ?_; apply wc_skip; apply wx_norm_block; apply wx_next; apply wc_region; refine Z0 ?_; refine Z46 ?_; refine Z2 ?_; apply w_nil)
            exact wx_loopN (i + 1) H Cu Ks (by omega) (fun j hj => by
              rcases Nat.lt_or_eq_of_le (Nat.le_of_lt_succ hj) with h | h
              · exact hp j h
              · subst h; exact hpt)
          · (refine s_call rfl rfl H HA (Cn.imp (Post' := fun v _ => v = .bool true) (law_part a b _ _ (tryOf l k i) vr _ Lk Lk Lk oka.fit htsm) (fun v c' _ h => by rw [h, hpt, hdec]; rfl)) ?_; intro vx c H HP; have hvx := HP.h.1; have HA := HP.cut; subst hvx)
            have hs := hfound i hik hpt hp
            rw [hs] at HA ⊢
            dsimp only [Option.isSome, Option.getD] at HA ⊢
            (apply w_nil; apply wx_next; refine Z18 ?_; apply wc_seq; apply wc_region; refine Z0 ?_; refine Z0 ?_; refine Z4 ?_; refine Z0 ?_; refine Z4 ?_; refine Z0 ?_; refine Z4 ?_)
            (refine s_call rfl rfl H HA (Cn.imp (Post' := fun v _ => v = .bool true) (ref03_SameTerms (tryOf l k i) (tryOf l k i) vm vr _ Lk Lk) (fun v c' _ h => by rw [h, decide_eq_true rfl])) ?_; intro vx c H HP; have hvx := HP.h.1; have HA := HP.cut; subst hvx)
            (refine Z8 ?_; refine Z2 ?_; apply w_nil; apply wx_next; apply wc_ret; apply wx_ret_block; apply wx_ret_then; apply wx_ret_then; apply wx_ret_block; apply wx_ret_then)
            exact ret_fn H hm (outs1 Tryz.results5 Wh) rfl
      · have hs : subs a b = none := hnone fun j hj => hp j (by omega)
        rw [hs]
        dsimp only [Option.isSome]
        (skip)
        exact ret_fn H hm (outs1 Tryz.results5 Wh) (by rfl)
end Go.Proofs.YthkdggoohpgnnaaGreatDoor
/- What an argument reads as, told as Lean data. -/
namespace Go.Proofs.YthkdggoohpgnnaaGreatDoor
open Go Go.Wk
theorem len3 {α : Type} {l : List α} (h : l.length = 3) : ∃ a b c, l = [a, b, c] := by
  match l, h with
  | [a, b, c], _ => exact ⟨a, b, c, rfl⟩
theorem len5 {α : Type} {l : List α} (h : l.length = 5) : ∃ a b c d e, l = [a, b, c, d, e] := by
  match l, h with
  | [a, b, c, d, e], _ => exact ⟨a, b, c, d, e, rfl⟩
theorem len7 {α : Type} {l : List α} (h : l.length = 7) : ∃ a b c d e f g, l = [a, b, c, d, e, f, g] := by
  match l, h with
  | [a, b, c, d, e, f, g], _ => exact ⟨a, b, c, d, e, f, g, rfl⟩
/-- Whatever reads of type T, within the bound, lies there as an α. -/
def Reads (P : Program) (T : TypeId) {α : Type} [Enc α] (bk : α → Nat) (ok : α → Prop) : Prop :=
  ∀ {H : Type} (enc : TypeId × Value → H) (w : World) (base : Nat) (sp : Nat → Bool) (held : Bool) (fuel : Nat) (cs : List Value) (x : DataW H × List MemPlace), DataW.trod enc P w base sp held fuel T cs = some x → Rows.uptoBulk x.1 ≤ 1048576 →
    ∃ a : α, Enc.Ok cs a ⟨w, fun _ => False⟩ ∧ ok a ∧ bk a ≤ Rows.uptoBulk x.1
theorem bulk_one {H : Type} (d : DataW H) : 1 ≤ Rows.uptoBulk d := by
  cases d with
  | lit l => cases l <;> simp [Rows.uptoBulk]
  | nil => simp [Rows.uptoBulk]
  | ptr d => simp [Rows.uptoBulk]
  | slice elems spare => simp [Rows.uptoBulk]
  | agg parts => simp [Rows.uptoBulk]
  | iface t d => simp [Rows.uptoBulk]
  | map entries => simp [Rows.uptoBulk]
  | held h => simp [Rows.uptoBulk]
theorem bulk_app {H : Type} (l r : List (DataW H)) : Rows.uptoBulkAll (l ++ r) = Rows.uptoBulkAll l + Rows.uptoBulkAll r := by
  induction l with
  | nil => simp [Rows.uptoBulkAll]
  | cons x l ih => simp only [List.cons_append, Rows.uptoBulkAll, ih]; omega
theorem reads_int {P : Program} {T : TypeId} (hu : P.underlying T = some (.int .i64)) : Reads P T (fun _ : Int => 1) (fun _ => True) := by
  intro H enc w base sp held fuel cs x h _
  obtain ⟨n, rfl, rfl, _⟩ := DataW.trod_int hu h
  exact ⟨n, rfl, trivial, by simp [Rows.uptoBulk]⟩
def strOk (s : ByteArray) : Prop := s.size < 4611686018427387904
theorem reads_string {P : Program} {T : TypeId} (hu : P.underlying T = some .string) : Reads P T (fun _ : ByteArray => 1) strOk := by
  intro H enc w base sp held fuel cs x h hb
  obtain ⟨s, rfl, rfl, _⟩ := DataW.trod_string hu h
  refine ⟨s, rfl, ?_, by simp [Rows.uptoBulk]⟩
  unfold strOk
  have : s.data.toList.length = s.size := Array.length_toList
  simp only [Rows.uptoBulk] at hb
  omega
theorem choose_list {α H : Type} {bk : α → Nat} {D : Nat → DataW H} {p : Nat → α → Prop} : ∀ (m : Nat), (∀ i, i < m → ∃ q, p i q ∧ bk q ≤ Rows.uptoBulk (D i)) →
    ∃ l : List α, l.length = m ∧ (∀ i q, l[i]? = some q → p i q) ∧ (l.map bk).sum ≤ Rows.uptoBulkAll ((List.range m).map D) ∧ m ≤ Rows.uptoBulkAll ((List.range m).map D)
  | 0, _ => ⟨[], rfl, fun i q h => by simp at h, by simp, by simp⟩
  | m + 1, h => by
    obtain ⟨l, h1, h2, h3, h4⟩ := choose_list m fun i hi => h i (by omega)
    obtain ⟨q, hq, hb⟩ := h m (by omega)
    have hone := bulk_one (D m)
    refine ⟨l ++ [q], by simp [h1], fun i r hr => ?_, ?_, ?_⟩
    · by_cases hi : i < l.length
      · rw [List.getElem?_append_left hi] at hr
        exact h2 i r hr
      · rw [List.getElem?_append_right (by omega)] at hr
        have hi' : i = m := by
          have := (List.getElem?_eq_some_iff.1 hr).1
          simp at this
          omega
        subst hi'
        simp [h1] at hr
        subst hr
        exact hq
    · rw [List.range_succ, List.map_append (f := D), bulk_app]
      simp [Rows.uptoBulkAll]
      omega
    · rw [List.range_succ, List.map_append (f := D), bulk_app]
      simp [Rows.uptoBulkAll]
      omega
theorem bulk_mem {H : Type} {D : Nat → DataW H} {i m : Nat} (h : i < m) : Rows.uptoBulk (D i) ≤ Rows.uptoBulkAll ((List.range m).map D) := by
  induction m with
  | zero => omega
  | succ m ih =>
    rw [List.range_succ, List.map_append, bulk_app]
    by_cases e : i = m
    · subst e; simp [Rows.uptoBulkAll]
    · have := ih (by omega)
      omega
theorem reads_slice {P : Program} {T e : TypeId} {α : Type} [Enc α] {bk : α → Nat} {ok : α → Prop} (hu : P.underlying T = some (.slice e)) (hk : P.cellsOf e = Enc.k α) (hr : Reads P e bk ok) : Reads P T (fun l : List α => (l.map bk).sum + 1) (fun l => ∀ a ∈ l, ok a) := by
  intro H enc w base sp held fuel cs x h hb
  rcases Deep.open_slice hu h with ⟨rfl, rfl⟩ | ⟨a, len, cap, m, n, D, Pl, rfl, _, hl, _, hmm, rfl, hx⟩
  · exact ⟨[], ⟨_, rfl, Sl.nil _⟩, (fun a h => by cases h), by simp [Rows.uptoBulk]⟩
  have hlm : len ≤ m := by rw [hmm]; split <;> omega
  simp only [Rows.uptoBulk] at hb ⊢
  obtain ⟨l, h1, h2, h3, h4⟩ := choose_list (bk := bk) (D := D) (p := fun i q => ok q ∧ ∃ cs', w.cells? base (a.add (i * P.cellsOf e)) (P.cellsOf e) = some cs' ∧ Enc.Ok cs' q ⟨w, fun _ => False⟩) len (fun i hi => by
    obtain ⟨cs', hc, ht⟩ := hx i (by omega)
    obtain ⟨q, hq, ho, hq2⟩ := hr enc w base sp held n cs' _ ht (by have := bulk_mem (D := D) hi; simp only; omega)
    exact ⟨q, ⟨ho, cs', hc, hq⟩, hq2⟩)
  refine ⟨l, ⟨_, rfl, ?_⟩, fun q hq => ?_, by omega⟩
  · subst h1
    refine ⟨by simp only [LIM]; omega, some a, cap, rfl, hl, fun hne => ?_⟩
    have hpos : 0 < l.length := List.length_pos_iff.2 hne
    have hsp : a.spot = none := by
      obtain ⟨_, cs', hc, hO⟩ := h2 0 l[0] (List.getElem?_eq_getElem hpos)
      have h5 := World.cells?_some hc
      have h6 := h5.2.2 0 (by rw [hk]; exact Enc.pos)
      have hlen : cs'.length = P.cellsOf e := h5.2.1
      have h7 : 0 < cs'.length := by rw [hlen, hk]; exact Enc.pos
      rw [List.getElem?_eq_getElem h7] at h6
      simp only [Nat.zero_mul, Addr.add, if_true] at h6
      unfold World.cell? at h6
      cases hs : a.spot with
      | none => rfl
      | some z =>
        rw [hs] at h6
        split at h6 <;> simp at h6
    refine ⟨a.block, a.off, by rw [← hsp], fun i q hq => ?_⟩
    obtain ⟨_, cs', hc, hO⟩ := h2 i q hq
    refine ⟨cs', hO, fun j v hj => ⟨?_, fun h => h⟩⟩
    have h5 := World.cells?_some hc
    have hjl : j < cs'.length := (List.getElem?_eq_some_iff.1 hj).1
    have h6 := h5.2.2 j (by rw [← h5.2.1]; exact hjl)
    have ea : a = ⟨a.block, a.off, none⟩ := by rw [← hsp]
    rw [hj, ea, Addr.add_lit, Addr.add_lit, hk] at h6
    exact h6
  · obtain ⟨i, hi⟩ := List.getElem?_of_mem hq
    exact (h2 i q hi).1
theorem reads_struct {P : Program} {T : TypeId} {α β γ δ : Type} [Enc α] [Enc β] [Enc γ] [Enc δ] {f0 f1 f2 : Field} {b0 : β → Nat} {b1 : γ → Nat} {b2 : δ → Nat} {k0 : β → Prop} {k1 : γ → Prop} {k2 : δ → Prop} (bk : α → Nat) (ok : α → Prop) (mk : β → γ → δ → α)
    (hS : P.underlying T = some (.struct #[f0, f1, f2])) (r0 : Reads P f0.type b0 k0) (r1 : Reads P f1.type b1 k1) (r2 : Reads P f2.type b2 k2)
    (hmk : ∀ cs a b d c, cs.length = P.cellsOf T → Enc.Ok ((cs.drop f0.offset).take (P.cellsOf f0.type)) a c → Enc.Ok ((cs.drop f1.offset).take (P.cellsOf f1.type)) b c → Enc.Ok ((cs.drop f2.offset).take (P.cellsOf f2.type)) d c → Enc.Ok cs (mk a b d) c)
    (hbk : ∀ a b d, bk (mk a b d) ≤ b0 a + b1 b + b2 d) (hok : ∀ a b d, k0 a → k1 b → k2 d → bk (mk a b d) ≤ 1048576 → ok (mk a b d)) : Reads P T bk ok := by
  intro H enc w base sp held fuel cs x h hb
  obtain ⟨xs, n, rfl, rfl, hl, hxl, hf⟩ := DataW.trod_struct hS h
  have hxl : xs.length = 3 := hxl
  match xs, hxl with
  | [y0, y1, y2], _ =>
    simp only [List.map_cons, List.map_nil, Rows.uptoBulk, Rows.uptoBulkAll] at hb ⊢
    obtain ⟨a, ha, ka, qa⟩ := r0 enc w base sp held n _ y0 (hf 0 f0 rfl) (by omega)
    obtain ⟨b, hb', kb, qb⟩ := r1 enc w base sp held n _ y1 (hf 1 f1 rfl) (by omega)
    obtain ⟨d, hd, kd, qd⟩ := r2 enc w base sp held n _ y2 (hf 2 f2 rfl) (by omega)
    have hq := hbk a b d
    exact ⟨mk a b d, hmk cs a b d _ hl ha hb' hd, hok a b d ka kb kd (by omega), by omega⟩
end Go.Proofs.YthkdggoohpgnnaaGreatDoor
/- What this program's arguments read as. -/
namespace Go.Proofs.YthkdggoohpgnnaaGreatDoor
open Go Go.Wk
theorem cInt : Tryz.prog.cellsOf 3 = 1 := by kernel_rfl
theorem cStr : Tryz.prog.cellsOf 9 = 1 := by kernel_rfl
theorem cTm : Tryz.prog.cellsOf 23 = 3 := by kernel_rfl
theorem cTs : Tryz.prog.cellsOf 79 = 7 := by kernel_rfl
theorem cAt : Tryz.prog.cellsOf 26 = 5 := by kernel_rfl
theorem cCl : Tryz.prog.cellsOf 30 = 7 := by kernel_rfl
theorem cTms : Tryz.prog.cellsOf 24 = 1 := by kernel_rfl
theorem cAts : Tryz.prog.cellsOf 27 = 1 := by kernel_rfl
theorem cTss : Tryz.prog.cellsOf 28 = 1 := by kernel_rfl
theorem rInt : Reads Tryz.prog 3 (fun _ : Int => 1) (fun _ => True) := reads_int Tryz.underlying3
theorem rStr : Reads Tryz.prog 9 (fun _ : ByteArray => 1) strOk := reads_string Tryz.underlying9
theorem rTm : Reads Tryz.prog 23 (fun _ : Tm => 1) Tm.sm := by
  refine reads_struct _ _ (fun k n s => (⟨k, n, s⟩ : Tm)) Tryz.underlying23 rInt rInt rStr ?_ ?_ ?_
  · intro cs a b d c hl h0 h1 h2
    obtain ⟨v0, v1, v2, rfl⟩ := len3 (hl.trans cTm)
    rw [cInt] at h0 h1
    rw [cStr] at h2
    have h0 : [v0] = [.int .i64 a] := h0
    have h1 : [v1] = [.int .i64 b] := h1
    have h2 : [v2] = [.string d] := h2
    show [v0, v1, v2] = [.int .i64 a, .int .i64 b, .string d]
    simp only [List.cons.injEq, and_true] at h0 h1 h2
    rw [h0, h1, h2]
  · intro a b d
    show 1 ≤ 1 + 1 + 1
    omega
  · intro a b d _ _ h _
    exact h
theorem rTs : Reads Tryz.prog 79 (fun _ : Ts => 2) (fun t => t.l.sm ∧ t.r.sm) := by
  refine reads_struct _ _ (fun k l r => (⟨k, l, r⟩ : Ts)) Tryz.underlying79 rInt rTm rTm ?_ ?_ ?_
  · intro cs a b d c hl h0 h1 h2
    obtain ⟨v0, v1, v2, v3, v4, v5, v6, rfl⟩ := len7 (hl.trans cTs)
    rw [cInt] at h0
    rw [cTm] at h1 h2
    have h0 : [v0] = [.int .i64 a] := h0
    have h1 : [v1, v2, v3] = b.cs := h1
    have h2 : [v4, v5, v6] = d.cs := h2
    show [v0, v1, v2, v3, v4, v5, v6] = Ts.cs ⟨a, b, d⟩
    simp only [List.cons.injEq, and_true, Tm.cs] at h0 h1 h2
    obtain ⟨e1, e2, e3⟩ := h1
    obtain ⟨e4, e5, e6⟩ := h2
    rw [h0, e1, e2, e3, e4, e5, e6]
  · intro a b d
    show 2 ≤ 1 + 1 + 1
    omega
  · intro a b d _ h h' _
    exact ⟨h, h'⟩
theorem sum_one {α : Type} (l : List α) : (l.map fun _ => 1).sum = l.length := by
  induction l with
  | nil => rfl
  | cons a l ih => simp [ih]; omega
theorem rAt : Reads Tryz.prog 26 (fun a : At0 => a.terms.length) At0.sm := by
  refine reads_struct _ _ (fun t n l => (⟨t, n, l⟩ : At0)) Tryz.underlying26 rTm rStr (reads_slice Tryz.underlying24 cTm rTm) ?_ ?_ ?_
  · intro cs a b d c hl h0 h1 h2
    obtain ⟨v0, v1, v2, v3, v4, rfl⟩ := len5 (hl.trans cAt)
    rw [cTm] at h0
    rw [cStr] at h1
    rw [cTms] at h2
    have h0 : [v0, v1, v2] = a.cs := h0
    have h1 : [v3] = [.string b] := h1
    obtain ⟨v, e, hS⟩ : ∃ v, [v4] = [v] ∧ Sl v d c := h2
    refine ⟨v, ?_, hS⟩
    simp only [List.cons.injEq, and_true, Tm.cs] at h0 h1 e
    obtain ⟨e1, e2, e3⟩ := h0
    rw [e1, e2, e3, h1, e]
  · intro a b d
    show (a :: d).length ≤ 1 + 1 + ((d.map fun _ => 1).sum + 1)
    rw [sum_one, List.length_cons]
    omega
  · intro a b d h h' h'' _
    exact ⟨h', h, h''⟩
/-- What a clause that was read is. -/
def Cl.rd (x : Cl) : Prop := x.sm ∧ x.terms.length ≤ 1048576
theorem sum_two {α : Type} (l : List α) : (l.map fun _ => 2).sum = 2 * l.length := by
  induction l with
  | nil => rfl
  | cons a l ih => simp [ih]; omega
theorem rCl : Reads Tryz.prog 30 (fun x : Cl => x.terms.length) Cl.rd := by
  refine reads_struct _ _ (fun h b t => (⟨h, b, t⟩ : Cl)) Tryz.underlying30 rAt (reads_slice Tryz.underlying27 cAt rAt) (reads_slice Tryz.underlying28 cTs rTs) ?_ ?_ ?_
  · intro cs a b d c hl h0 h1 h2
    obtain ⟨v0, v1, v2, v3, v4, v5, v6, rfl⟩ := len7 (hl.trans cCl)
    rw [cAt] at h0
    rw [cAts] at h1
    rw [cTss] at h2
    obtain ⟨u, e0, hU⟩ : ∃ u, [v0, v1, v2, v3, v4] = a.cs u ∧ Sl u a.args c := h0
    obtain ⟨v, e1, hV⟩ : ∃ v, [v5] = [v] ∧ Sl v b c := h1
    obtain ⟨w, e2, hW⟩ : ∃ v, [v6] = [v] ∧ Sl v d c := h2
    refine ⟨u, v, w, ?_, hU, hV, hW⟩
    simp only [List.cons.injEq, and_true, At0.cs] at e0 e1 e2
    obtain ⟨q1, q2, q3, q4, q5⟩ := e0
    rw [q1, q2, q3, q4, q5, e1, e2]
  · intro a b d
    show (Cl.terms ⟨a, b, d⟩).length ≤ a.terms.length + ((b.map fun a => a.terms.length).sum + 1) + ((d.map fun _ => 2).sum + 1)
    simp only [Cl.terms, Cl.bodyTerms, Cl.testTerms, List.length_append, List.length_flatMap, List.length_cons, List.length_nil]
    rw [sum_two]
    have : (d.map fun _ => 0 + 1 + 1).sum = 2 * d.length := by
      induction d with
      | nil => rfl
      | cons a l ih => simp [ih]; omega
    omega
  · intro a b d h h' h'' hb
    exact ⟨⟨h, h', h''⟩, hb⟩
theorem flat_len {α β : Type} {f : α → List β} (hf : ∀ a, 1 ≤ (f a).length) : ∀ l : List α, l.length ≤ (l.flatMap f).length
  | [] => by simp
  | a :: l => by
    have := hf a
    have := flat_len hf l
    simp only [List.length_cons, List.flatMap_cons, List.length_append]
    omega
theorem Cl.rd.fit {x : Cl} (h : Cl.rd x) : x.fit := ⟨h.1, by have := h.2; omega⟩
end Go.Proofs.YthkdggoohpgnnaaGreatDoor
/- What the listed variables hold; the end that all rows share. -/
namespace Go.Proofs.YthkdggoohpgnnaaGreatDoor
open Go Go.Wk Go.ChangeShapes Go.WideShapes Go.ChangeAt Go.RowKit
section
variable {H : Type} {enc : TypeId × Value → H} {w : World} {base : Nat} {sp : Nat → Bool} {held : Bool}
theorem exactTm {fuel : Nat} {cs : List Value} {p : List MemPlace} {k n : Int} {bs : List UInt8} (h : DataW.trod enc Tryz.prog w base sp held fuel 23 cs = some (.agg [.lit (.int .i64 k), .lit (.int .i64 n), .lit (.string bs)], p)) : cs = Tm.cs ⟨k, n, ⟨bs.toArray⟩⟩ := by
  obtain ⟨xs, m, rfl, hx, hl, hxl, hf⟩ := DataW.trod_struct Tryz.underlying23 h
  obtain ⟨v0, v1, v2, rfl⟩ := len3 (hl.trans cTm)
  obtain ⟨y0, y1, y2, rfl⟩ := len3 (show xs.length = 3 from hxl)
  have g0 : DataW.trod enc Tryz.prog w base sp held m 3 ((List.drop 0 [v0, v1, v2]).take (Tryz.prog.cellsOf 3)) = some y0 := hf 0 _ rfl
  have g1 : DataW.trod enc Tryz.prog w base sp held m 3 ((List.drop 1 [v0, v1, v2]).take (Tryz.prog.cellsOf 3)) = some y1 := hf 1 _ rfl
  have g2 : DataW.trod enc Tryz.prog w base sp held m 9 ((List.drop 2 [v0, v1, v2]).take (Tryz.prog.cellsOf 9)) = some y2 := hf 2 _ rfl
  rw [cInt] at g0 g1
  rw [cStr] at g2
  obtain ⟨a, e0, q0, _⟩ := DataW.trod_int Tryz.underlying3 g0
  obtain ⟨b, e1, q1, _⟩ := DataW.trod_int Tryz.underlying3 g1
  obtain ⟨d, e2, q2, _⟩ := DataW.trod_string Tryz.underlying9 g2
  subst q0 q1 q2
  simp only [List.map_cons, List.map_nil, Prod.mk.injEq, DataW.agg.injEq, List.cons.injEq, DataW.lit.injEq, Lit.int.injEq, Lit.string.injEq, true_and, and_true] at hx
  obtain ⟨⟨rfl, rfl, rfl⟩, _⟩ := hx
  have e0 : [v0] = [.int .i64 k] := e0
  have e1 : [v1] = [.int .i64 n] := e1
  have e2 : [v2] = [.string d] := e2
  simp only [List.cons.injEq, and_true] at e0 e1 e2
  rw [e0, e1, e2]
end
theorem box_of_var {P : Program} {W : World} {n : String} {g : Nat} {cs : Array Value} (hg : P.globalNamed n = some g) (h : W.var? P n = some cs) : Box g cs.toList ⟨W, fun _ => False⟩ := by
  simp only [World.var?, hg, Option.bind_some] at h
  split at h
  · rename_i c t fr hb
    cases h
    exact ⟨⟨t, fr, by simpa using hb⟩, fun h => h⟩
  · cases h
theorem str_bytes {a b : String} (h : a.toUTF8.data.toList = b.toUTF8.data.toList) : a = b := String.toByteArray_inj.1 (ByteArray.ext (Array.ext' h))
theorem trod_func {P : Program} {w : World} {base : Nat} {sp : Nat → Bool} {fuel : Nat} {t : TypeId} {ps rs : Array TypeId} {vd : Bool} {v : Value} {bs : List UInt8} {b : UInt8} {p : List MemPlace} (ht : P.underlying t = some (.func ps rs vd)) (h : DataW.trod (funcToken P) P w base sp true fuel t [v] = some (.held (b :: bs), p)) :
    ∃ (f : FuncId) (fn : Func), v = .func (.func f) #[] #[] ∧ P.funcNamed fn.name = some f ∧ fn.name.toUTF8.data.toList = b :: bs := by
  cases fuel with
  | zero => simp [DataW.trod] at h
  | succ n =>
    unfold DataW.trod at h
    rw [ht] at h
    have h2 : funcToken P (t, v) = b :: bs := by
      split at h <;> simp_all
    obtain ⟨f, fn, e, _, e2, e3⟩ := funcToken_tells h2
    exact ⟨f, fn, e, e2, e3⟩
theorem cChk : Tryz.prog.cellsOf 115 = 1 := by kernel_rfl
theorem cFn : Tryz.prog.cellsOf 50 = 1 := by kernel_rfl
theorem exactFn {w : World} {base : Nat} {sp : Nat → Bool} {fuel : Nat} {cs : List Value} {bs : List UInt8} {b : UInt8} {p : List MemPlace} {f : FuncId} (nm : String) (hn : nm.toUTF8.data.toList = b :: bs) (hf : Tryz.prog.funcNamed nm = some f)
    (h : DataW.trod (funcToken Tryz.prog) Tryz.prog w base sp true fuel 115 cs = some (.agg [.held (b :: bs)], p)) : cs = [.func (.func f) #[] #[]] := by
  obtain ⟨xs, m, rfl, hx, hl, hxl, hfd⟩ := DataW.trod_struct Tryz.underlying115 h
  obtain ⟨v, rfl⟩ := List.length_eq_one_iff.1 (hl.trans cChk)
  obtain ⟨y, rfl⟩ := List.length_eq_one_iff.1 (show xs.length = 1 from hxl)
  have g0 : DataW.trod (funcToken Tryz.prog) Tryz.prog w base sp true m 50 ((List.drop 0 [v]).take (Tryz.prog.cellsOf 50)) = some y := hfd 0 _ rfl
  rw [cFn] at g0
  obtain ⟨d, q⟩ := y
  simp only [List.map_cons, List.map_nil, Prod.mk.injEq, DataW.agg.injEq, List.cons.injEq, and_true] at hx
  obtain ⟨rfl, _⟩ := hx
  obtain ⟨f', fn, e, e2, e3⟩ := trod_func Tryz.underlying50 (show DataW.trod (funcToken Tryz.prog) Tryz.prog w base sp true m 50 [v] = _ from g0)
  have : fn.name = nm := str_bytes (e3.trans hn.symm)
  rw [this, hf] at e2
  cases e2
  rw [e]
theorem len6 {α : Type} {l : List α} (h : l.length = 6) : ∃ a b c d e f, l = [a, b, c, d, e, f] := by
  match l, h with
  | [a, b, c, d, e, f], _ => exact ⟨a, b, c, d, e, f, rfl⟩
theorem cChks : Tryz.prog.cellsOf 116 = 6 := by kernel_rfl
set_option maxRecDepth 100000 in
theorem checks_of {W : World} {d : DataW Unit} (h : funcsAt Tryz.prog W "hearsay/clause.checks" d) (hd : (Rows.laid_hearsay_clause_checks : DataW Unit) = .iface "func table" d) : Box 1 chkFs ⟨W, fun _ => False⟩ := by
  obtain ⟨g, t, cs, fuel, p, hg, ht, hv, hr⟩ := h
  have hg0 : Tryz.prog.globalNamed "hearsay/clause.checks" = some 1 := by kernel_rfl
  have ht0 : (Tryz.prog.globals[(1 : Nat)]?).map (·.type) = some 116 := by kernel_rfl
  obtain rfl := Option.some.inj (hg0.symm.trans hg)
  obtain rfl := Option.some.inj (ht0.symm.trans ht)
  have hb := box_of_var hg0 hv
  have hcs : cs.toList = chkFs := by
    generalize cs.toList = l at hr
    simp only [Rows.laid_hearsay_clause_checks, DataW.iface.injEq, true_and] at hd
    subst hd
    obtain ⟨xs, m, rfl, hx, hl, hxl, hf⟩ := DataW.trod_array Tryz.underlying116 hr
    obtain ⟨v0, v1, v2, v3, v4, v5, rfl⟩ := len6 (hl.trans cChks)
    obtain ⟨y0, y1, y2, y3, y4, y5, rfl⟩ := len6 hxl
    have g0 := hf 0 (by decide)
    rw [cChk] at g0
    obtain ⟨d0, p0⟩ := y0
    have g1 := hf 1 (by decide)
    rw [cChk] at g1
    obtain ⟨d1, p1⟩ := y1
    have g2 := hf 2 (by decide)
    rw [cChk] at g2
    obtain ⟨d2, p2⟩ := y2
    have g3 := hf 3 (by decide)
    rw [cChk] at g3
    obtain ⟨d3, p3⟩ := y3
    have g4 := hf 4 (by decide)
    rw [cChk] at g4
    obtain ⟨d4, p4⟩ := y4
    have g5 := hf 5 (by decide)
    rw [cChk] at g5
    obtain ⟨d5, p5⟩ := y5
    simp only [List.map_cons, List.map_nil, Prod.mk.injEq, DataW.funcsOut, DataW.funcsOutAll, DataW.agg.injEq, List.cons.injEq, and_true, beq_self_eq_true, if_true] at hx
    obtain ⟨⟨rfl, rfl, rfl, rfl, rfl, rfl⟩, _⟩ := hx
    have e0 : [v0] = _ := exactFn (f := 218) "hearsay/clause.tooLong" (by decide +kernel) (by kernel_rfl) g0
    have e1 : [v1] = _ := exactFn (f := 219) "hearsay/clause.badAtom" (by decide +kernel) (by kernel_rfl) g1
    have e2 : [v2] = _ := exactFn (f := 220) "hearsay/clause.badTest" (by decide +kernel) (by kernel_rfl) g2
    have e3 : [v3] = _ := exactFn (f := 221) "hearsay/clause.openHead" (by decide +kernel) (by kernel_rfl) g3
    have e4 : [v4] = _ := exactFn (f := 222) "hearsay/clause.unsafe" (by decide +kernel) (by kernel_rfl) g4
    have e5 : [v5] = _ := exactFn (f := 223) "hearsay/clause.misnumbered" (by decide +kernel) (by kernel_rfl) g5
    simp only [List.cons.injEq, and_true] at e0 e1 e2 e3 e4 e5
    rw [e0, e1, e2, e3, e4, e5]
    rfl
  rw [hcs] at hb
  exact hb
theorem gNo : Tryz.prog.globalNamed "hearsay/term.none" = some 3 := by kernel_rfl
theorem tNo : (Tryz.prog.globals[(3 : Nat)]?).map (·.type) = some 23 := by kernel_rfl
theorem none_of {W : World} {ps : List MemPlace} {r : List (String × DataW Unit)} (h : DataW.LaidVars Tryz.prog W (("hearsay/term.none", Rows.laid_hearsay_term_none) :: r) ps) : Box 3 Tn.cs ⟨W, fun _ => False⟩ := by
  obtain ⟨g, t, cs, fuel, p, q, hg, ht, hv, hd, _, _⟩ := h
  obtain rfl := Option.some.inj (gNo.symm.trans hg)
  obtain rfl := Option.some.inj (tNo.symm.trans ht)
  have hb := box_of_var gNo hv
  rw [exactTm hd] at hb
  exact hb
theorem glob2 {W : World} (h : laidMetH Tryz.prog Rows.subsumeLeastRow.laid W) : GlobOk ⟨W, fun _ => False⟩ := by
  have hc := checks_of (laidMetH.funcs h (n := "hearsay/clause.checks") (.tail _ (.head _))) rfl
  unfold laidMetH at h
  have e1 : (Rows.subsumeLeastRow.laid.filter fun x => x.2.handleName?.isSome) = [("hearsay/clause.checks", Rows.laid_hearsay_clause_checks)] := rfl
  rw [e1] at h
  have h := h.1
  have e2 : (Rows.subsumeLeastRow.laid.filter fun x => x.2.handleName?.isNone) = [("hearsay/term.none", Rows.laid_hearsay_term_none)] := rfl
  rw [e2] at h
  obtain ⟨ps, hv, _⟩ := h
  exact ⟨none_of hv, hc⟩
/-! ### the end that all rows share -/
theorem laidOut : laidOutB Tryz.prog = true := by kernel_rfl
theorem trodAll_below {H : Type} {enc : TypeId × Value → H} {P : Program} (hl : laidOutB P = true) {W W' : World} (hb : Below W.heap.size W W') : ∀ (ts : List TypeId), (∀ t ∈ ts, P.readableRec t = true ∧ t < P.types.size) → ∀ (vs : List Value) (ds : List (DataW H)) (ps : List MemPlace),
    DataW.TrodAll enc P W 0 (fun _ => true) true ts vs ds ps → (∀ x ∈ ps, x.block < W.heap.size) → DataW.TrodAll enc P W' 0 (fun b => decide (b < W.heap.size)) true ts vs ds ps
  | [], _, vs, ds, ps, h, _ => by
    obtain ⟨rfl, rfl, rfl⟩ := trodAll_nil h
    exact trodAll_mk0
  | t :: ts, ht, vs, ds, ps, h, hlt => by
    obtain ⟨v, vs, d, ds, p, q, rfl, rfl, rfl, h1, h2⟩ := trodAll_cons h
    exact ⟨p, q, Below.trod hl (ht t (.head _)).1 (ht t (.head _)).2 h1 hb (fun x hx => hlt x (List.mem_append_left _ hx)), trodAll_below hl hb ts (fun t h => ht t (.tail _ h)) vs ds q h2 (fun x hx => hlt x (List.mem_append_right _ hx)), rfl⟩
theorem post_true {H : Type} {enc : TypeId × Value → H} {f : Func} {s : ChangeSpec} {W W' : World} {args : Array Value} {ds : List (DataW H)} {before : List MemPlace} (hvars : s.vars = []) (hres : f.resultTypes = #[4])
    (hr : f.params.toList.all (fun t => Tryz.prog.readableRec t && decide (t < Tryz.prog.types.size)) = true)
    (hW : DataW.Whole enc Tryz.prog f.params.toList s.vars false W args.toList ds [] before) (hfn : s.fn H (ds ++ []) = { results := [.lit (.bool true)], args := ds }) (hb : Below W.heap.size W W') : s.post enc Tryz.prog f false true false false W args (.bool true) W' := by
  have hlt := hW.lt
  have hW' := hW
  obtain ⟨p, q, hA, hV, rfl, _, _⟩ := hW
  rw [hvars] at hV
  obtain ⟨_, rfl⟩ := trodVars_none hV
  refine ⟨ds, [], p ++ [], [], p, [], hW', ?_, ?_, ?_, hb.frame _, fun h => by cases h⟩
  · rw [hfn, hres]
    exact trodAll_mk1 (shut_bool Tryz.underlying4 true)
  · rw [hfn]
    refine trodAll_below laidOut hb _ (fun t ht => ?_) _ _ _ hA (fun x hx => hlt x (List.mem_append_left _ hx))
    have := List.all_eq_true.1 hr t ht
    simpa using this
  · rw [hfn, hvars]
    rfl
end Go.Proofs.YthkdggoohpgnnaaGreatDoor
/- What the rows' arguments read as, one lemma a type. -/
namespace Go.Proofs.YthkdggoohpgnnaaGreatDoor
open Go Go.Wk Go.ChangeShapes Go.WideShapes Go.ChangeAt Go.RowKit
section
variable {H : Type} {enc : TypeId × Value → H} {W : World} {base : Nat} {sp : Nat → Bool} {held : Bool} {v : Value} {d : DataW H} {p : List MemPlace} {r : Reach} {b0 : Nat}
theorem rowOwn : ownKnob Tryz.prog.godebug = none := by kernel_rfl
theorem small {l : List (DataW H)} (hk : Rows.uptoSmall H l = true) : Rows.uptoBulkAll l ≤ 1048576 := of_decide_eq_true hk
set_option maxRecDepth 100000 in
theorem argCl (hv : Value.okWide Tryz.prog W r b0 30 v) (h : DataW.Trod enc Tryz.prog W base sp held 30 v d p) (hb : Rows.uptoBulk d ≤ 1048576) : ∃ x : Cl, Ag x v ⟨W, fun _ => False⟩ ∧ Cl.rd x := by
  obtain ⟨fuel, h⟩ := h
  obtain ⟨x, hx, ho, _⟩ := rCl enc W base sp held fuel _ _ h hb
  obtain ⟨cs, rfl, _⟩ := okWide_struct Tryz.underlying30 hv
  exact ⟨x, ⟨cs.toList, congrArg Value.agg (Array.toArray_toList).symm, hx⟩, ho⟩
end
end Go.Proofs.YthkdggoohpgnnaaGreatDoor
