/- a part of the proof: lemmas on walks, on plain data, contracts of functions. -/
import Derived.Test.YthkdggoohpgnnaaGreatDoorRows
import Derived.Deep.Slices
import Derived.WalkKit
import Derived.ProofKit
import Derived.OpenShut
import Derived.LaidMore
import Derived.Carry
import Derived.Deep.DeepHandedRow
import Derived.Test.YthkdggoohpgnnaaGreatDoorA4
import Derived.Test.YthkdggoohpgnnaaGreatDoorA9
import Derived.Test.YthkdggoohpgnnaaGreatDoorA10
set_option linter.all false
/- Contracts: the examples that every statement asks. -/
namespace Go.Proofs.YthkdggoohpgnnaaGreatDoor
open Go Go.Wk
theorem law_va (n : Int) (c : Cx) : Cn Tryz.prog 55 [.int .i64 n] c (fun r _ => r = .agg (vaN n).cs.toArray) := by
  refine Cn.of Tryz.func55 Tryz.ntmps55 rfl rfl fun hm H HA => ?_
  (apply wc_seq; apply wc_region; refine Z61 fun bx c H HA => ?_; apply w_nil; apply wx_next; apply wc_seq; apply wc_region; refine Z0 ?_; refine Z54 ?_; refine Z74 fun c H HA => ?_; apply w_nil; apply wx_next; apply wc_ret)
  exact ret_fn H hm (outsR1 Tryz.results55 (RV.agg rfl H Ow Rc)) rfl
theorem law_text (s : ByteArray) (c : Cx) : Cn Tryz.prog 56 [.string s] c (fun r _ => r = .agg (Tm.cs ⟨2, 0, s⟩).toArray) := by
  refine Cn.of Tryz.func56 Tryz.ntmps56 rfl rfl fun hm H HA => ?_
  (apply wc_seq; apply wc_region; refine Z61 fun bx c H HA => ?_; apply w_nil; apply wx_next; apply wc_seq; apply wc_region; refine Z0 ?_; refine Z54 ?_; refine Z74 fun c H HA => ?_; apply w_nil; apply wx_next; apply wc_ret)
  exact ret_fn H hm (outsR1 Tryz.results56 (RV.agg rfl H Ow Rc)) rfl
theorem law_on (s : ByteArray) (ts : List Tm) (v : Value) (c : Cx) (h : Sl v ts c) : Cn Tryz.prog 54 [.string s, v] c (fun r c => Ag (⟨Tn, s, ts⟩ : At0) r c) := by
  refine Cn.of Tryz.func54 Tryz.ntmps54 rfl rfl fun hm H HA => ?_
  have HA := HA.add h
  (apply wc_seq; apply wc_region; refine Z61 fun bx c H HA => ?_; apply w_nil; apply wx_next; apply wc_seq; apply wc_region; refine Z0 ?_; refine Z0 ?_; refine Z54 ?_; refine Z74 fun c H HA => ?_; apply w_nil; apply wx_next; apply wc_ret)
  exact ret_fn H hm (outsR1 Tryz.results54 (RV.agg rfl H Ow Rc)) ⟨_, rfl, v, rfl, Lk⟩
set_option maxHeartbeats 1000000 in
theorem law_head (c : Cx) (hg : GlobOk c) : Cn Tryz.prog 15 [] c (fun r _ => r = .bool true) := by
  refine Cn.of Tryz.func15 Tryz.ntmps15 rfl rfl fun hm H HA => ?_
  have HA := HA.add hg
  (apply wc_seq; apply wc_region; refine Z2 ?_; apply w_nil; apply wx_next; apply wc_seq; apply wc_region)
  (refine s_call rfl rfl H HA (law_va 0 _) ?_; intro vx c H HP; have hvx := HP.h.1; have HA := HP.cut; subst hvx)
  (skip)
  (apply s_bs1D (u := (vaN 0)); exact rfl; exact rfl; exact rfl; exact rfl; exact rfl; exact rfl; exact H; exact HA; exact inferInstance; intro vx c H HA)
  (skip)
  (refine s_call rfl rfl H HA (law_on nmP [vaN 0] _ _ Lk) ?_; intro vx c H HA)
  (skip)
  (refine s_call rfl rfl H HA (law_va 0 _) ?_; intro vx c H HP; have hvx := HP.h.1; have HA := HP.cut; subst hvx)
  (skip)
  (apply s_bs1D (u := (vaN 0)); exact rfl; exact rfl; exact rfl; exact rfl; exact rfl; exact rfl; exact H; exact HA; exact inferInstance; intro vx c H HA)
  (skip)
  (refine s_call rfl rfl H HA (law_on nmQ [vaN 0] _ _ Lk) ?_; intro vx c H HA)
  (refine Z55 fun vx c H HA => ?_)
  obtain ⟨cs1, rfl, a0, rfl, ha0⟩ := (Lk : Ag (⟨Tn, nmP, [vaN 0]⟩ : At0) _ c)
  have HA := HA.add ha0
  (obtain ⟨a1, rfl⟩ : ∃ x, x = vx := ⟨_, rfl⟩)
  (refine Z54 ?_; refine Z61 fun bx c H HA => ?_; refine Z74 fun c H HA => ?_; apply w_nil; apply wx_next; apply wc_seq; apply wc_region)
  (obtain ⟨b1, rfl⟩ : ∃ x, x = bx := ⟨_, rfl⟩)
  (refine s_call rfl rfl H HA (law_text ⟨#[97]⟩ _) ?_; intro vx c H HP; have hvx := HP.h.1; have HA := HP.cut; subst hvx)
  (skip)
  (apply s_bs1D (u := txA); exact rfl; exact rfl; exact rfl; exact rfl; exact rfl; exact rfl; exact H; exact HA; exact inferInstance; intro vx c H HA)
  (skip)
  (refine s_call rfl rfl H HA (law_on nmP [txA] _ _ Lk) ?_; intro vx c H HA)
  (skip)
  (refine s_call rfl rfl H HA (law_text ⟨#[97]⟩ _) ?_; intro vx c H HP; have hvx := HP.h.1; have HA := HP.cut; subst hvx)
  (skip)
  (apply s_bs1D (u := txA); exact rfl; exact rfl; exact rfl; exact rfl; exact rfl; exact rfl; exact H; exact HA; exact inferInstance; intro vx c H HA)
  (skip)
  (refine s_call rfl rfl H HA (law_on nmQ [txA] _ _ Lk) ?_; intro vx c H HA)
  (skip)
  (refine s_call rfl rfl H HA (law_on nmR [] _ _ (Sl.nil _)) ?_; intro vx c H HA)
  (refine Z60 fun vx c H HA => ?_)
  obtain ⟨cs2, rfl, d0, rfl, hd0⟩ := (Lk : Ag (⟨Tn, nmP, [txA]⟩ : At0) _ c)
  have HA := HA.add hd0
  (obtain ⟨d1, rfl⟩ : ∃ x, x = vx := ⟨_, rfl⟩)
  (refine Z54 ?_; refine Z61 fun bx c H HA => ?_; refine Z74 fun c H HA => ?_; apply w_nil; apply wx_next; apply wc_seq; apply wc_region; refine Z42 ?_; refine Z42 ?_)
  (obtain ⟨b2, rfl⟩ : ∃ x, x = bx := ⟨_, rfl⟩)
  have hC : ∀ c', Sl a0 [vaN 0] c' → Sl a1 ([⟨Tn, nmQ, [vaN 0]⟩] : List At0) c' → Ag exC (.agg (Cl.cs exC a0 a1 (.slice none 0 0)).toArray) c' := fun c' h h' => ⟨_, rfl, _, _, _, rfl, h, h', Sl.nil c'⟩
  have hD : ∀ c', Sl d0 [txA] c' → Sl d1 ([⟨Tn, nmQ, [txA]⟩, ⟨Tn, nmR, []⟩] : List At0) c' → Ag exD (.agg (Cl.cs exD d0 d1 (.slice none 0 0)).toArray) c' := fun c' h h' => ⟨_, rfl, _, _, _, rfl, h, h', Sl.nil c'⟩
  have fC : exC.fit := (Cl.check_ok.1 (show exC.check = 0 by decide +kernel)).fit
  have fD : exD.fit := (Cl.check_ok.1 (show exD.check = 0 by decide +kernel)).fit
  (refine s_call rfl rfl H HA (subsume_Subsumes exC exD _ _ _ (hC _ Lk Lk) (hD _ Lk Lk) fC fD Lk) ?_; intro vx c H HA)
  rw [ex_cd] at HA
  obtain ⟨vm, hr, hSm⟩ := HA.h.1
  subst hr
  have HA := HA.cut.add hSm
  (refine Z0 ?_; refine Z32 ?_; refine Z32 ?_; refine Z2 ?_; refine Z2 ?_; apply w_nil; apply wx_next; apply wc_seq; apply wc_region; refine Z42 ?_; refine Z42 ?_)
  (refine s_call rfl rfl H HA (subsume_Subsumes exD exC _ _ _ (hD _ Lk Lk) (hC _ Lk Lk) fD fC Lk) ?_; intro vx c H HA)
  rw [ex_dc] at HA
  obtain ⟨vn, hr, hSn⟩ := HA.h.1
  subst hr
  have HA := HA.cut.add hSn
  have e1 : ((([txA] : List Tm).length : Nat) : Int) = 1 := rfl
  have e2 : txA = ⟨2, 0, ⟨#[97]⟩⟩ := rfl
  (refine Z0 ?_; refine Z32 ?_; refine Z32 ?_; refine Z2 ?_; refine Z2 ?_; apply w_nil; apply wx_next; apply wc_seq; apply wc_seq)
  dsimp only [Option.isSome, Option.getD, Bool.not_true] at HA ⊢
  (refine dw_start H HA ?_)
  (repeat (refine Dc ?_))
  (apply dw_cons; (focus ((intro B _ Lx c H HA; (repeat (first | (intro vx hx; have hx2 : vx = _ := hx; clear hx; subst hx2) | (intro vx hx; have HA := HA.addSF hx; clear hx) | (intro vx hx; have HA := HA.add hx; clear hx) | intro vx)); change W _ _ _ _ _ _ _); (apply s_go; exact rfl; exact rfl; exact rfl); (refine s_ixP (α := Tm) (i := 0) (u := txA) rfl rfl rfl Lk rfl rfl rfl ?_; intro vx hx; have HA := HA.add hx; clear hx); exact Dx)); exact inferInstance)
  (repeat (refine Dc ?_))
  (apply dw_cons; (focus ((intro B _ Lx c H HA; (repeat (first | (intro vx hx; have hx2 : vx = _ := hx; clear hx; subst hx2) | (intro vx hx; have HA := HA.addSF hx; clear hx) | (intro vx hx; have HA := HA.add hx; clear hx) | intro vx)); change W _ _ _ _ _ _ _); (apply s_go; exact rfl; exact rfl; exact rfl); (refine s_call rfl rfl H HA (law_text ⟨#[97]⟩ _) ?_; intro vx c H HP; have hvx := HP.h.1; have HA := HP.cut; subst hvx); exact Dx)); exact inferInstance)
  (repeat (refine Dc ?_))
  (refine dw_done mixed H HA rfl (by kernel_rfl) ?_; clear H HA; intro c H HA; (repeat (first | (intro vx hx; have hx2 : vx = _ := hx; clear hx; subst hx2) | (intro vx hx; have HA := HA.addSF hx; clear hx) | (intro vx hx; have HA := HA.add hx; clear hx) | intro vx)); change W _ _ _ _ _ _ _)
  (apply w_nil; apply wx_next; refine Z19 ?_; apply wc_skip; apply wx_next; apply wc_seq)
  (refine dw_start H HA ?_)
  (repeat (refine Dc ?_))
  (apply dw_cons; (focus ((intro B _ Lx c H HA; (repeat (first | (intro vx hx; have hx2 : vx = _ := hx; clear hx; subst hx2) | (intro vx hx; have HA := HA.addSF hx; clear hx) | (intro vx hx; have HA := HA.add hx; clear hx) | intro vx)); change W _ _ _ _ _ _ _); (refine s_call rfl rfl H HA (law_va 0 _) ?_; intro vx c H HP; have hvx := HP.h.1; have HA := HP.cut; subst hvx); exact Dx)); exact inferInstance)
  (apply dw_cons; (focus ((intro B _ Lx c H HA; (repeat (first | (intro vx hx; have hx2 : vx = _ := hx; clear hx; subst hx2) | (intro vx hx; have HA := HA.addSF hx; clear hx) | (intro vx hx; have HA := HA.add hx; clear hx) | intro vx)); change W _ _ _ _ _ _ _); (apply s_bs1D (u := (vaN 0)); exact rfl; exact rfl; exact rfl; exact rfl; exact rfl; exact rfl; exact H; exact HA; exact inferInstance; intro vx c H HA); exact Dx)); exact inferInstance)
  (apply dw_cons; (focus ((intro B _ Lx c H HA; (repeat (first | (intro vx hx; have hx2 : vx = _ := hx; clear hx; subst hx2) | (intro vx hx; have HA := HA.addSF hx; clear hx) | (intro vx hx; have HA := HA.add hx; clear hx) | intro vx)); change W _ _ _ _ _ _ _); refine s_call rfl rfl H HA (law_on nmQ [vaN 0] _ _ Lk) ?_; intro vx c H HP; exact w_nil (pq_rel H (Cp) HP.h.1))); exact inferInstance)
  (apply dw_cons; (focus ((intro B _ Lx c H HA; (repeat (first | (intro vx hx; have hx2 : vx = _ := hx; clear hx; subst hx2) | (intro vx hx; have HA := HA.addSF hx; clear hx) | (intro vx hx; have HA := HA.add hx; clear hx) | intro vx)); change W _ _ _ _ _ _ _); (refine s_call rfl rfl H HA (law_va 1 _) ?_; intro vx c H HP; have hvx := HP.h.1; have HA := HP.cut; subst hvx); exact Dx)); exact inferInstance)
  (apply dw_cons; (focus ((intro B _ Lx c H HA; (repeat (first | (intro vx hx; have hx2 : vx = _ := hx; clear hx; subst hx2) | (intro vx hx; have HA := HA.addSF hx; clear hx) | (intro vx hx; have HA := HA.add hx; clear hx) | intro vx)); change W _ _ _ _ _ _ _); (apply s_bs1D (u := (vaN 1)); exact rfl; exact rfl; exact rfl; exact rfl; exact rfl; exact rfl; exact H; exact HA; exact inferInstance; intro vx c H HA); exact Dx)); exact inferInstance)
  (apply dw_cons; (focus ((intro B _ Lx c H HA; (repeat (first | (intro vx hx; have hx2 : vx = _ := hx; clear hx; subst hx2) | (intro vx hx; have HA := HA.addSF hx; clear hx) | (intro vx hx; have HA := HA.add hx; clear hx) | intro vx)); change W _ _ _ _ _ _ _); refine s_call rfl rfl H HA (law_on nmQ [vaN 1] _ _ Lk) ?_; intro vx c H HP; exact w_nil (pq_rel H (Cp) HP.h.1))); exact inferInstance)
  (repeat (refine Dc ?_))
  (apply dw_cons; (focus ((intro B _ Lx c H HA; (repeat (first | (intro vx hx; have hx2 : vx = _ := hx; clear hx; subst hx2) | (intro vx hx; have HA := HA.addSF hx; clear hx) | (intro vx hx; have HA := HA.add hx; clear hx) | intro vx)); change W _ _ _ _ _ _ _); (apply s_build; exact rfl; (focus ((repeat (first | exact bld_nil | (apply bld_cons; (conv => lhs; whnf)))); done)); (focus ((repeat' (first | exact Fil.nil | apply Fil.take | apply Fil.skip | exact App.nil | apply App.cons | (have h := HA.h; (repeat (first | exact Cells.sl h.1 | exact Cells.sl h | replace h := h.2)); done) | exact Cells.lit rfl | exact rfl)); done))); exact w_nil (pq_rel (S := Ag exT) H Cu ⟨_, rfl, a0, _, _, rfl, Lk, Lk, Sl.nil _⟩))); exact inferInstance)
  (repeat (refine Dc ?_))
  ((refine dw_doneO mixed H HA (by kernel_rfl) (by kernel_rfl) ?_; clear H HA; intro c HA; (repeat (first | (intro bx; have hbx : bx + 0 = bx := rfl; clear hbx) | (intro vx hx; have hx2 : vx = _ := hx; clear hx; subst hx2) | (intro vx hx; have HA := HA.addSF hx; clear hx) | (intro vx hx; skip; have HA := HA.add hx; clear hx) | (intro vx; have hvx2 : Go.Value := vx; clear hvx2))); (first | intro H | (have H := HA.h.1; have HA := HA.cut)); change W _ _ _ _ _ _ _); have H : Owns _ ([.obj bx (.cells (Cl.cs ⟨⟨Tn, ES, []⟩, [], []⟩ (.slice none 0 0) (.slice none 0 0) (.slice none 0 0)).toArray 30 (0, 0)), _, _]) _ := H)
  (obtain ⟨b7, rfl⟩ : ∃ x, x = bx := ⟨_, rfl⟩)
  obtain ⟨cs7, rfl, t0, t1, t2, rfl, ht0, ht1, ht2⟩ := (Lk : Ag exT _ c)
  have HA := ((HA.add ht0).add ht1).add ht2
  have fT : exT.fit := (Cl.check_ok.1 ex_tc).fit
  (refine Z74 fun c H HA => ?_; apply w_nil; apply wx_next; apply wc_seq; apply wc_region; refine Z42 ?_)
  (refine s_call rfl rfl H HA (subsume_Condense exT _ _ ⟨_, rfl, t0, t1, t2, rfl, Lk, Lk, Lk⟩ fT Lk) ?_; intro vx c H HA)
  rw [condE, if_pos ex_tc, ex_tn, ex_tc] at HA
  obtain ⟨ur, hr, cs8, rfl, u0, u1, u2, rfl, hu0, hu1, hu2⟩ := HA.h.1
  subst hr
  have HA := ((HA.cut.add hu0).add hu1).add hu2
  (refine Z0 ?_; refine Z32 ?_; refine Z32 ?_; refine Z61 fun bx c H HA => ?_; refine Z74 fun c H HA => ?_; refine Z2 ?_; apply w_nil; apply wx_next; apply wc_seq; apply wc_region; refine Z42 ?_; refine Z42 ?_; refine Z42 ?_)
  (obtain ⟨b8, rfl⟩ : ∃ x, x = bx := ⟨_, rfl⟩)
  have HA := ((HA.add (show Ag exT (.agg (Cl.cs exT t0 t1 t2).toArray) c from ⟨_, rfl, t0, t1, t2, rfl, Lk, Lk, Lk⟩)).add (hD _ Lk Lk)).add (hC _ Lk Lk)
  (refine Z60 fun vx c H HA => ?_)
  (refine s_call rfl rfl H HA (subsume_Reduce [exT, exD, exC] _ _ Lk (fun x hx => by
    rcases List.mem_cons.1 hx with rfl | hx
    · exact fT
    · rcases List.mem_cons.1 hx with rfl | hx
      · exact fD
      · rcases List.mem_cons.1 hx with rfl | hx
        · exact fC
        · cases hx) Lk) ?_; intro vx c H HA)
  rw [ex_rd] at HA
  obtain ⟨vl, hr, hSl⟩ := HA.h.1
  subst hr
  have HA := HA.cut.add hSl
  have e3 : (0 : Int) = 0 := rfl
  have e4 : ((([exC] : List Cl).length : Nat) : Int) = 1 := rfl
  (refine Z0 ?_; refine Z32 ?_; refine Z32 ?_; refine Z2 ?_; refine Z2 ?_; apply w_nil; apply wx_next; apply wc_seq)
  have hAC : ∀ c', Sl u0 exC.head.args c' → Sl u1 exC.body c' → Sl u2 exC.tests c' → Ag exC (.agg (Cl.cs exC u0 u1 u2).toArray) c' := fun c' h h' h'' => ⟨_, rfl, _, _, _, rfl, h, h', h''⟩
  have hSl : Sl vl [exC] c := hSl
  have HA := HA.add hSl
  (refine dw_start H HA ?_)
  (repeat (refine Dc ?_))
  (apply dw_cons; (focus ((intro B _ Lx c H HA; (repeat (first | (intro vx hx; have hx2 : vx = _ := hx; clear hx; subst hx2) | (intro vx hx; have HA := HA.addSF hx; clear hx) | (intro vx hx; have HA := HA.add hx; clear hx) | intro vx)); change W _ _ _ _ _ _ _); (apply s_go; exact rfl; exact rfl; exact rfl); (refine s_call rfl rfl H HA (Cn.imp (Post' := fun v _ => v = .bool true) (ref03_SameClause exC exC _ _ _ (hAC _ Lk Lk Lk) Lk) (fun v c' _ h => by rw [h, decide_eq_true rfl])) ?_; intro vx c H HP; have hvx := HP.h.1; have HA := HP.cut; subst hvx); exact Dx)); exact inferInstance)
  (repeat (refine Dc ?_))
  (apply dw_cons; (focus ((intro B _ Lx c H HA; (repeat (first | (intro vx hx; have hx2 : vx = _ := hx; clear hx; subst hx2) | (intro vx hx; have HA := HA.addSF hx; clear hx) | (intro vx hx; have HA := HA.add hx; clear hx) | intro vx)); change W _ _ _ _ _ _ _); (apply s_go; exact rfl; exact rfl; exact rfl); (refine s_ixP (α := Cl) (i := 0) (u := exC) rfl rfl rfl (Lk : Sl vl [exC] _) rfl rfl rfl ?_; intro vx hx; have HA := HA.add hx; clear hx); exact Dx)); exact inferInstance)
  (repeat (refine Dc ?_))
  (apply dw_cons; (focus ((intro B _ Lx c H HA; (repeat (first | (intro vx hx; have hx2 : vx = _ := hx; clear hx; subst hx2) | (intro vx hx; have HA := HA.addSF hx; clear hx) | (intro vx hx; have HA := HA.add hx; clear hx) | intro vx)); change W _ _ _ _ _ _ _); (apply s_go; exact rfl; exact rfl; exact rfl); (refine s_call rfl rfl H HA (Cn.imp (Post' := fun v _ => v = .bool true) (ref03_SameClause exC exC _ _ _ Lk Lk) (fun v c' _ h => by rw [h, decide_eq_true rfl])) ?_; intro vx c H HP; have hvx := HP.h.1; have HA := HP.cut; subst hvx); exact Dx)); exact inferInstance)
  (repeat (refine Dc ?_))
  (refine dw_done mixed H HA rfl (by kernel_rfl) ?_; clear H HA; intro c H HA; (repeat (first | (intro vx hx; have hx2 : vx = _ := hx; clear hx; subst hx2) | (intro vx hx; have HA := HA.addSF hx; clear hx) | (intro vx hx; have HA := HA.add hx; clear hx) | intro vx)); change W _ _ _ _ _ _ _)
  (apply w_nil; apply wx_next; apply wc_ret)
  exact ret_fn H hm (outs1 Tryz.results15 Wh) rfl
end Go.Proofs.YthkdggoohpgnnaaGreatDoor
/- Contracts: terms and tests made valid. -/
namespace Go.Wk
open Go Go.RowKit
section
variable {P : Program} {ops : Array Oper} {Q : Exit → Act → World → Prop} {n : Nat} {f : Nat → Value} {rest : List Oper} {ty : TypeId} {ps : String} {af : Array Edge} {d : Tmp} {w : World}
/-- s[:m] of a string. -/
theorem s_slS {T : TypeId} {x y : Operand} {s : ByteArray} {m : Nat} (hn : Nat.blt d n = true) [StrT P T] (hx : opd f x = .string s) (hy : opd f y = .int .i64 m) (hm : m ≤ s.size) (k : W P ops Q rest n (upd f d (.string (s.extract 0 m))) w) :
    W P ops Q (⟨some d, .slice T x none (some y) none, ty, ps, af, none⟩ :: rest) n f w := by
  refine st_val hn ?_ k
  have hu := StrT.h (P := P) (T := T)
  have h2 : (m : Int) ≤ s.size := by omega
  simp only [execOp, hx, hy, Option.map_none, Option.map_some]
  simp [Instr.sliceAt, Instr.slice, Instr.sliceBounds, Instr.sliceBound, asIntOf, run_underlying hu, h2]
  intro hc
  omega
theorem s_rem {T T' : TypeId} {x y : Operand} {kd : IntKind} {a b : Int} (hn : Nat.blt d n = true) (hx : opd f x = .int kd a) (hy : opd f y = .int kd b) (hb : b ≠ 0) (k : W P ops Q rest n (upd f d (.int kd (a.tmod b))) w) : W P ops Q (⟨some d, .binOp .rem T x y T', ty, ps, af, none⟩ :: rest) n f w :=
  st_val hn (by simp [execOp, hx, hy, eqGuard_at_int, binOp_rem, Op.intDiv, hb]) k
/-- Ways meet again: what is known of the frame, what is owned. -/
theorem wc_cutK {x y : Code} {c0 c : Cx} {L0 : List Res} {A : Cx → Prop} (kf : List (Nat × Value)) (L : List Res) (H : Owns c0 L0 c) (HA : Hd A c) (h : WC P x (CutI n fun f c => KS f kf ∧ Owns c0 L c ∧ Hd A c) n f c.w) (k : ∀ g c, Owns c0 L c → Hd A c → WC P y Q n (updA g kf) c.w) : WC P (.seq x y) Q n f c.w :=
  wc_cut _ h fun f' c' ⟨hk, H, HA⟩ => by
    obtain ⟨g, rfl⟩ := hk.ex
    exact k g c' H HA
theorem wc_cutS {x y : Code} {c0 c : Cx} {L : List Res} {A : Cx → Prop} (kf : List (Nat × Value)) (H : Owns c0 L c) (HA : Hd A c) (h : WC P x (CutI n fun f c => KS f kf ∧ Owns c0 L c ∧ Hd A c) n f c.w) (k : ∀ g c, Owns c0 L c → Hd A c → WC P y Q n (updA g kf) c.w) : WC P (.seq x y) Q n f c.w := wc_cutK kf L H HA h k
theorem wx_cutK {c0 c : Cx} {L : List Res} {A : Cx → Prop} {kf : List (Nat × Value)} (H : Owns c0 L c) (HA : Hd A c) (hk : KS f kf) : WX (CutI n fun f c => KS f kf ∧ Owns c0 L c ∧ Hd A c) .normal n f c.w := wx_cut ⟨hk, H, HA⟩
theorem wc_cutE {x y : Code} {c0 c : Cx} {L0 : List Res} {A : Cx → Prop} (kf : Value → List (Nat × Value)) (L : Value → List Res) (S : Value → Cx → Prop) (H : Owns c0 L0 c) (HA : Hd A c) (h : WC P x (CutI n fun f c => ∃ v, KS f (kf v) ∧ Owns c0 (L v) c ∧ Hd (fun c => S v c ∧ A c) c) n f c.w)
    (k : ∀ v g c, Owns c0 (L v) c → Hd (fun c => S v c ∧ A c) c → WC P y Q n (updA g (kf v)) c.w) : WC P (.seq x y) Q n f c.w :=
  wc_cut _ h fun f' c' ⟨v, hk, H, HA⟩ => by
    obtain ⟨g, rfl⟩ := hk.ex
    exact k v g c' H HA
theorem wx_cutE {c0 c : Cx} {L : Value → List Res} {A : Cx → Prop} {S : Value → Cx → Prop} {kf : Value → List (Nat × Value)} (v : Value) (H : Owns c0 (L v) c) (HA : Hd A c) (hS : S v c) (hk : KS f (kf v)) : WX (CutI n fun f c => ∃ v, KS f (kf v) ∧ Owns c0 (L v) c ∧ Hd (fun c => S v c ∧ A c) c) .normal n f c.w := wx_cut ⟨v, hk, H, HA.add hS⟩
end
theorem tmod4 (n : Int) : -4 < n.tmod 4 ∧ n.tmod 4 < 4 := by
  rw [Int.tmod_eq_emod]
  split <;> omega
end Go.Wk
namespace Go.Proofs.YthkdggoohpgnnaaGreatDoor
open Go Go.Wk
theorem ref03_MadeConst (t : Tm) (c : Cx) (hs : t.sm) : Cn Tryz.prog 27 [.agg t.cs.toArray] c (fun r _ => r = .agg (constM t).cs.toArray) := by
  refine Cn.of Tryz.func27 Tryz.ntmps27 rfl rfl fun hm H HA => ?_
  (apply wc_seq; apply wc_region; refine Z31 fun bx c H HA => ?_; refine Z61 fun bx c H HA => ?_; apply w_nil; apply wx_next; apply wc_seq; apply wc_seq; apply wc_region; refine Z7 ?_)
  (refine s_call rfl rfl H HA (ref02_Const t _) ?_; intro vx c H HP; have hvx := HP.h.1; have HA := HP.cut; subst hvx)
  cases hc : t.isConst
  · have hs' : t.s.size < 4611686018427387904 := hs
    (focus (apply w_nil; apply wx_next; refine Z19 ?_; apply wc_skip; apply wx_next; apply wc_seq; apply wc_seq; apply wc_region; refine Z3 ?_; refine Z1 ?_; refine Z92 (fun hq => ?_) fun hq => ?_; apply w_nil; apply wx_next; refine Z18 ?_; apply wc_seq; apply wc_region; refine Z3 ?_; refine Z1 ?_; refine Z43 ?_; refine Z2 ?_; apply w_nil; apply wx_next; apply wc_seq; apply wc_seq; apply wc_region; refine Z0 ?_; refine Z96 (fun hq => ?_) fun hq => ?_; apply w_nil; apply wx_next; refine Z18 ?_; apply wc_region; refine Z2 ?_; apply w_nil; apply wx_next; apply wc_seq; apply wc_region; refine Z3 ?_; refine Z1 ?_; refine Z0 ?_; rotate_left; apply w_nil; apply wx_next; refine Z19 ?_; apply wc_skip; apply wx_next; apply wc_seq; apply wc_region; refine Z3 ?_; refine Z1 ?_; refine Z0 ?_; rotate_left; apply w_nil; apply wx_next; refine Z19 ?_; apply wc_skip; apply wx_next; apply wc_seq; apply wc_region; refine Z3 ?_; refine Z1 ?_; refine Z54 ?_; refine Z74 fun c H HA => ?_; apply w_nil; apply wx_next; apply wc_ret; rotate_left))
    · rename_i hk
      have e : t.s.extract 0 64 = t.s.extract 0 (min t.s.size 64) := by rw [Nat.min_eq_right (by omega)]
      (refine s_slS (m := 64) rfl rfl rfl (by omega) ?_)
      (refine Z54 ?_; refine Z74 fun c H HA => ?_; apply w_nil; apply wx_next; apply wc_ret; apply wx_ret_then)
      exact ret_fn H hm (outsR1 Tryz.results27 (RV.agg rfl H Ow Rc)) (by rw [e]; simp [constM, hc, hk])
    · rename_i hk
      have e : t.s.extract 0 t.s.size = t.s.extract 0 (min t.s.size 64) := by rw [Nat.min_eq_left (by omega)]
      (refine s_slS (m := t.s.size) rfl rfl rfl (by omega) ?_)
      (refine Z54 ?_; refine Z74 fun c H HA => ?_; apply w_nil; apply wx_next; apply wc_ret; apply wx_ret_then)
      exact ret_fn H hm (outsR1 Tryz.results27 (RV.agg rfl H Ow Rc)) (by rw [e]; simp [constM, hc, hk])
    · exact ret_fn H hm (outsR1 Tryz.results27 (RV.agg rfl H Ow Rc)) (by simp [constM, hc, hq])
  · (apply w_nil; apply wx_next; refine Z18 ?_; apply wc_seq; apply wc_region; refine Z7 ?_; refine Z74 fun c H HA => ?_; apply w_nil; apply wx_next; apply wc_ret; apply wx_ret_then)
    exact ret_fn H hm (outsR1 Tryz.results27 (RV.agg rfl H Ow Rc)) (by simp [constM, hc])
theorem ref03_ground (t : Tm) (c : Cx) : Cn Tryz.prog 119 [.agg t.cs.toArray] c (fun r _ => r = .agg (groundM t).cs.toArray) := by
  refine Cn.of Tryz.func119 Tryz.ntmps119 rfl rfl fun hm H HA => ?_
  (focus (apply wc_seq; apply wc_region; refine Z31 fun bx c H HA => ?_; refine Z61 fun bx c H HA => ?_; apply w_nil; apply wx_next; apply wc_seq; apply wc_seq; apply wc_region; refine Z3 ?_; refine Z1 ?_; refine Z92 (fun hq => ?_) fun hq => ?_; apply w_nil; apply wx_next; refine Z18 ?_; apply wc_seq; apply wc_region; refine Z3 ?_; refine Z1 ?_; refine Z54 ?_; refine Z74 fun c H HA => ?_; apply w_nil; apply wx_next; apply wc_ret; apply wx_ret_then; rotate_left; apply w_nil; apply wx_next; refine Z19 ?_; apply wc_skip; apply wx_next; apply wc_seq; apply wc_region; refine Z7 ?_; refine Z74 fun c H HA => ?_; apply w_nil; apply wx_next; apply wc_ret; rotate_left))
  · exact ret_fn H hm (outsR1 Tryz.results119 (RV.agg rfl H Ow Rc)) (by rw [groundM, if_pos hq])
  · exact ret_fn H hm (outsR1 Tryz.results119 (RV.agg rfl H Ow Rc)) (by rw [groundM, if_neg hq])
theorem ref03_safe (l : List Tm) (v : Value) (t : Tm) (c : Cx) (h : Sl v l c) : Cn Tryz.prog 64 [v, .agg t.cs.toArray] c (fun r _ => r = .agg (safeM l t).cs.toArray) := by
  refine Cn.of Tryz.func64 Tryz.ntmps64 rfl rfl fun hm H HA => ?_
  have HA := HA.add h
  (apply wc_seq; apply wc_region; refine Z31 fun bx c H HA => ?_; refine Z61 fun bx c H HA => ?_; apply w_nil; apply wx_next; apply wc_seq; apply wc_seq; apply wc_region; refine Z0 ?_; refine Z7 ?_)
  (refine s_call rfl rfl H HA (ref03_within l _ t _ Lk) ?_; intro vx c H HP; have hvx := HP.h.1; have HA := HP.cut; subst hvx)
  by_cases ht : t ∈ l
  · rw [decide_eq_true ht]
    (apply w_nil; apply wx_next; refine Z18 ?_; apply wc_seq; apply wc_region; refine Z7 ?_; refine Z74 fun c H HA => ?_; apply w_nil; apply wx_next; apply wc_ret; apply wx_ret_then)
    exact ret_fn H hm (outsR1 Tryz.results64 (RV.agg rfl H Ow Rc)) (by rw [safeM, if_pos ht])
  · rw [decide_eq_false ht]
    (apply w_nil; apply wx_next; refine Z19 ?_; apply wc_skip; apply wx_next; apply wc_seq; apply wc_region; refine Z7 ?_)
    (refine s_call rfl rfl H HA (ref03_ground t _) ?_; intro vx c H HP; have hvx := HP.h.1; have HA := HP.cut; subst hvx)
    (refine Z74 fun c H HA => ?_; apply w_nil; apply wx_next; apply wc_ret)
    exact ret_fn H hm (outsR1 Tryz.results64 (RV.agg rfl H Ow Rc)) (by rw [safeM, if_neg ht])
end Go.Proofs.YthkdggoohpgnnaaGreatDoor
/- Contracts: atoms made valid. -/
namespace Go.Proofs.YthkdggoohpgnnaaGreatDoor
open Go Go.Wk
theorem ref03_madeTest (l : List Tm) (v : Value) (t : Ts) (c : Cx) (h : Sl v l c) (hl : t.l.sm) (hr : t.r.sm) : Cn Tryz.prog 65 [.agg t.cs.toArray, v] c (fun r _ => r = .agg (madeTs l t).cs.toArray) := by
  refine Cn.of Tryz.func65 Tryz.ntmps65 rfl rfl fun hm H HA => ?_
  have HA := HA.add h
  have hs1 : t.l.s.size < 4611686018427387904 := hl
  (skip)
  (apply wc_seq; apply wc_region)
  (refine Z31 fun bx c H HA => ?_; refine Z61 fun bx c H HA => ?_; apply w_nil; apply wx_next)
  (obtain ⟨b4, rfl⟩ : ∃ x, x = bx := ⟨_, rfl⟩)
  (obtain ⟨b2, rfl⟩ : ∃ x, x = bx := ⟨_, rfl⟩)
  (apply wc_seq; apply wc_region)
  (refine Z3 ?_; refine Z1 ?_; refine Z2 ?_; apply w_nil; apply wx_next)
  (refine wc_cutS [(1, v), (2, .pointer (some ⟨b2, 0, none⟩)), (4, .pointer (some ⟨b4, 0, none⟩)), (5, .int .i64 (madeOp t.op))] H HA ?_ ?_)
  · have hr1 := tmod4 t.op
    have hr2 := tmod4 (t.op.tmod 4 + 4)
    (focus (apply wc_seq; apply wc_region; refine Z0 ?_; refine Z93 (fun hq => ?_) fun hq => ?_; refine Z0 ?_; refine Z5 ?_; refine Z5 ?_; refine Z8 ?_; apply w_nil; apply wx_next; refine Z18 ?_; apply wc_region; refine Z0 ?_; rotate_left; refine Z0 ?_; refine Z4 ?_; refine Z0 ?_; refine Z4 ?_; refine Z96 (fun hq => ?_) fun hq => ?_; refine Z30 ?_; apply w_nil; apply wx_next; refine Z18 ?_; apply wc_region; refine Z0 ?_; rotate_left; refine Z30 ?_; apply w_nil; apply wx_next; refine Z19 ?_; apply wc_skip; rotate_left))
    · rename_i hq
      have e : madeOp t.op = 1 + (t.op.tmod 4 + 4).tmod 4 := by rw [madeOp, if_pos (.inl hq)]
      (refine s_rem rfl rfl rfl (by decide) ?_)
      (refine Z48 ?_)
      (refine s_rem rfl rfl rfl (by decide) ?_)
      (refine Z48 ?_; refine Z2 ?_; apply w_nil)
      rw [← e]
      exact wx_cutK H Cu Ks
    · rename_i hq
      have e : madeOp t.op = 1 + (t.op.tmod 4 + 4).tmod 4 := by rw [madeOp, if_pos (.inr hq)]
      (refine s_rem rfl rfl rfl (by decide) ?_)
      (refine Z48 ?_)
      (refine s_rem rfl rfl rfl (by decide) ?_)
      (refine Z48 ?_; refine Z2 ?_; apply w_nil)
      rw [← e]
      exact wx_cutK H Cu Ks
    · rename_i hq hq2
      have e : t.op = madeOp t.op := by rw [madeOp, if_neg (by omega)]
      refine wx_cutK H Cu ?_
      rw [← e]
      exact Ks
  intro g c H HA
  (apply wc_seq; apply wc_region)
  (refine Z3 ?_; refine Z7 ?_; refine Z61 fun bx c H HA => ?_; refine Z74 fun c H HA => ?_; apply w_nil; apply wx_next)
  (obtain ⟨b6, rfl⟩ : ∃ x, x = bx := ⟨_, rfl⟩)
  (apply wc_seq; apply wc_region)
  (refine Z3 ?_; refine Z7 ?_; refine Z61 fun bx c H HA => ?_; refine Z74 fun c H HA => ?_; apply w_nil; apply wx_next)
  (obtain ⟨b7, rfl⟩ : ∃ x, x = bx := ⟨_, rfl⟩)
  have hs2 : t.r.s.size < 4611686018427387904 := hr
  (refine wc_cutK [(1, v), (2, .pointer (some ⟨b2, 0, none⟩)), (4, .pointer (some ⟨b4, 0, none⟩)), (5, .int .i64 (madeOp t.op)), (6, .pointer (some ⟨b6, 0, none⟩)), (7, .pointer (some ⟨b7, 0, none⟩))] [.obj b7 (.cells (Tm.cs t.r).toArray 23 (0, 0)), .obj b6 (.cells (Tm.cs (madeT t.l)).toArray 23 (0, 0)), .obj b4 (.cells (Ts.cs ⟨0, Tn, Tn⟩).toArray 79 (0, 0))] H HA ?_ ?_)
  · (apply wc_seq; apply wc_region; refine Z42 ?_)
    (refine s_call rfl rfl H HA (ref02_Variable t.l _) ?_; intro vx c H HP; have hvx := HP.h.1; have HA := HP.cut; subst hvx)
    cases hv : t.l.isVar
    · (refine Z33 ?_; apply w_nil; apply wx_next; refine Z18 ?_; apply wc_region; refine Z42 ?_)
      (refine s_call rfl rfl H HA (ref03_MadeConst t.l _ hl) ?_; intro vx c H HP; have hvx := HP.h.1; have HA := HP.cut; subst hvx)
      have H := H.swap
      (refine Z74 fun c H HA => ?_; apply w_nil)
      have H := H.swap
      have e : madeT t.l = constM t.l := by rw [madeT, hv]; rfl
      rw [e]
      exact wx_cutK H Cu Ks
    · (refine Z33 ?_; apply w_nil; apply wx_next; refine Z19 ?_; apply wc_skip)
      have e : madeT t.l = t.l := by rw [madeT, hv]; rfl
      rw [e]
      exact wx_cutK H Cu Ks
  intro g c H HA
  (refine wc_cutK [(1, v), (2, .pointer (some ⟨b2, 0, none⟩)), (4, .pointer (some ⟨b4, 0, none⟩)), (5, .int .i64 (madeOp t.op)), (6, .pointer (some ⟨b6, 0, none⟩)), (7, .pointer (some ⟨b7, 0, none⟩))] [.obj b7 (.cells (Tm.cs (madeT t.r)).toArray 23 (0, 0)), .obj b6 (.cells (Tm.cs (madeT t.l)).toArray 23 (0, 0)), .obj b4 (.cells (Ts.cs ⟨0, Tn, Tn⟩).toArray 79 (0, 0))] H HA ?_ ?_)
  · (apply wc_seq; apply wc_region; refine Z42 ?_)
    (refine s_call rfl rfl H HA (ref02_Variable t.r _) ?_; intro vx c H HP; have hvx := HP.h.1; have HA := HP.cut; subst hvx)
    cases hv : t.r.isVar
    · (refine Z33 ?_; apply w_nil; apply wx_next; refine Z18 ?_; apply wc_region; refine Z42 ?_)
      (refine s_call rfl rfl H HA (ref03_MadeConst t.r _ hr) ?_; intro vx c H HP; have hvx := HP.h.1; have HA := HP.cut; subst hvx)
      (refine Z74 fun c H HA => ?_; apply w_nil)
      have e : madeT t.r = constM t.r := by rw [madeT, hv]; rfl
      rw [e]
      exact wx_cutK H Cu Ks
    · (refine Z33 ?_; apply w_nil; apply wx_next; refine Z19 ?_; apply wc_skip)
      have e : madeT t.r = t.r := by rw [madeT, hv]; rfl
      rw [e]
      exact wx_cutK H Cu Ks
  intro g c H HA
  (apply wc_seq)
  (refine dw_start H HA ?_)
  (repeat (refine Dc ?_))
  (apply dw_cons; (focus ((intro B _ Lx c H HA; (repeat (first | (intro vx hx; have hx2 : vx = _ := hx; clear hx; subst hx2) | (intro vx hx; have HA := HA.addSF hx; clear hx) | (intro vx hx; have HA := HA.add hx; clear hx) | intro vx)); change W _ _ _ _ _ _ _); (refine s_call rfl rfl H HA (ref03_safe l v (madeT t.l) _ Lk) ?_; intro vx c H HP; have hvx := HP.h.1; have HA := HP.cut; subst hvx); exact Dx)); exact inferInstance)
  (repeat (refine Dc ?_))
  (apply dw_cons; (focus ((intro B _ Lx c H HA; (repeat (first | (intro vx hx; have hx2 : vx = _ := hx; clear hx; subst hx2) | (intro vx hx; have HA := HA.addSF hx; clear hx) | (intro vx hx; have HA := HA.add hx; clear hx) | intro vx)); change W _ _ _ _ _ _ _); (refine s_call rfl rfl H HA (ref03_safe l v (madeT t.r) _ Lk) ?_; intro vx c H HP; have hvx := HP.h.1; have HA := HP.cut; subst hvx); exact Dx)); exact inferInstance)
  (repeat (refine Dc ?_))
  (refine dw_done mixed H HA rfl (by kernel_rfl) ?_; clear H HA; intro c H HA; (repeat (first | (intro vx hx; have hx2 : vx = _ := hx; clear hx; subst hx2) | (intro vx hx; have HA := HA.addSF hx; clear hx) | (intro vx hx; have HA := HA.add hx; clear hx) | intro vx)); change W _ _ _ _ _ _ _)
  have H := H.swap2
  (refine Z74 fun c H HA => ?_; apply w_nil; apply wx_next; apply wc_ret)
  exact ret_fn H hm (outsR1 Tryz.results65 (RV.agg rfl H Ow Rc)) rfl
end Go.Proofs.YthkdggoohpgnnaaGreatDoor
/- Contracts: atoms made valid. -/
namespace Go.Wk
open Go Go.RowKit
/-- An atom whose row of arguments is handed back as the caller's own. -/
def AtO (e : TypeId) (a : At0) (v : Value) (R : List Res) (c : Cx) : Prop := ∃ vr vals, v = .agg (At0.cs a vr).toArray ∧ R = [.row vr e 3 a.args.length vals.flatten] ∧ Vals vals a.args c
instance AtO.mono (e : TypeId) (a : At0) (v : Value) (R : List Res) : Mono (AtO e a v R) := ⟨fun h ⟨vr, vals, e1, e2, k⟩ => ⟨vr, vals, e1, e2, Mono.mono h k⟩⟩
theorem CnO.at0 {P : Program} {g : FuncId} {args : List Value} {c : Cx} {e : TypeId} {a : At0} (h : CnO P g args c (AtO e a)) (hlim : a.args.length < 1099511627776) : Cn P g args c fun v c => Ag a v c :=
  fun hm => (h hm).mono fun _ w' ⟨v, R, M', he, h1, h2, h3⟩ => by
    obtain ⟨vr, vals, e1, rfl, hv⟩ := h3
    have h4 := h1.freezeRow hv rfl rfl hlim
    refine ⟨v, he, h1.ext, ?_⟩
    subst e1
    exact ⟨_, rfl, vr, rfl, Mono.mono (h4.2.1.fin hm) h4.2.2⟩
end Go.Wk
namespace Go.Proofs.YthkdggoohpgnnaaGreatDoor
open Go Go.Wk
theorem ref03_MadeAtomO (a : At0) (u : Value) (c : Cx) (h : Ag a u c) (hs : a.sm) : CnO Tryz.prog 62 [u] c (AtO 23 (madeA a)) := by
  refine CnO.of Tryz.func62 Tryz.ntmps62 rfl rfl fun hm H HA => ?_
  have HA := HA.add h
  (apply wc_seq; apply wc_region)
  (refine s_boxG rfl rfl Lk H HA ?_; intro p c H HA)
  (refine Z61 fun bx c H HA => ?_; apply w_nil; apply wx_next)
  (obtain ⟨b2, rfl⟩ : ∃ x, x = bx := ⟨_, rfl⟩)
  (apply wc_seq; apply wc_region)
  (refine Z35 HA fun vx HA => ?_; refine Z38 ?_; refine Z35 HA fun vx HA => ?_; refine Z36 ?_; refine Z54 ?_; refine Z61 fun bx c H HA => ?_; refine Z74 fun c H HA => ?_; apply w_nil; apply wx_next)
  (obtain ⟨b3, rfl⟩ : ∃ x, x = bx := ⟨_, rfl⟩)
  (refine wc_cutK [(1, p), (2, .pointer (some ⟨b2, 0, none⟩)), (3, .pointer (some ⟨b3, 0, none⟩))] [.obj b3 (.cells (At0.cs ⟨madeBy a.by_, a.name, []⟩ (.slice none 0 0)).toArray 26 (0, 0)), .obj b2 (.cells (At0.cs ⟨Tn, ES, []⟩ (.slice none 0 0)).toArray 26 (0, 0))] H HA ?_ ?_)
  · (apply wc_seq; apply wc_region; refine Z35 HA fun vx HA => ?_; refine Z38 ?_; refine Z54 ?_)
    (refine s_call rfl rfl H HA (ref02_CheckAtom (⟨a.by_, nmP, []⟩ : At0) _ _ ⟨_, rfl, _, rfl, Sl.nil _⟩ (show nmP.size < 4611686018427387904 by decide)) ?_; intro vx c H HP; have hvx := HP.h.1; have HA := HP.cut; subst hvx)
    by_cases hc : (⟨a.by_, nmP, []⟩ : At0).check = 0
    · (refine Z82 ?_; apply w_nil; apply wx_next; refine Z19 ?_; apply wc_skip)
      have e : madeBy a.by_ = a.by_ := by rw [madeBy, if_pos hc]
      rw [e]
      exact wx_cutK H Cu Ks
    · (refine Z82 ?_; apply w_nil; apply wx_next; refine Z18 ?_; apply wc_region; refine Z54 ?_; refine Z3 ?_; refine Z74 fun c H HA => ?_; apply w_nil)
      have e : madeBy a.by_ = Tn := by rw [madeBy, if_neg hc]
      rw [e]
      exact wx_cutK H Cu Ks
  intro g c H HA
  (refine wc_cutK [(1, p), (2, .pointer (some ⟨b2, 0, none⟩)), (3, .pointer (some ⟨b3, 0, none⟩))] [.obj b3 (.cells (At0.cs ⟨madeBy a.by_, madeNm a.name, []⟩ (.slice none 0 0)).toArray 26 (0, 0)), .obj b2 (.cells (At0.cs ⟨Tn, ES, []⟩ (.slice none 0 0)).toArray 26 (0, 0))] H HA ?_ ?_)
  · (apply wc_seq; apply wc_region; refine Z35 HA fun vx HA => ?_; refine Z36 ?_; refine Z54 ?_)
    (refine s_call rfl rfl H HA (ref02_CheckAtom (⟨Tn, a.name, []⟩ : At0) _ _ ⟨_, rfl, _, rfl, Sl.nil _⟩ hs.1) ?_; intro vx c H HP; have hvx := HP.h.1; have HA := HP.cut; subst hvx)
    by_cases hc : (⟨Tn, a.name, []⟩ : At0).check = 0
    · (refine Z82 ?_; apply w_nil; apply wx_next; refine Z19 ?_; apply wc_skip)
      have e : madeNm a.name = a.name := by rw [madeNm, if_pos hc]
      rw [e]
      exact wx_cutK H Cu Ks
    · (refine Z82 ?_; apply w_nil; apply wx_next; refine Z18 ?_; apply wc_region; refine Z3 ?_; refine Z75 fun c H HA => ?_; apply w_nil)
      have e : madeNm a.name = nmP := by rw [madeNm, if_neg hc]
      rw [e]
      exact wx_cutK H Cu Ks
  intro g c H HA
  have H := H.nilR Tm 23 3
  have hlim : a.args.length < 1099511627776 := by obtain ⟨cs, rfl, v, rfl, h⟩ := h; exact h.lim
  (apply wc_seq; apply wc_seq; apply wc_region; refine Z2 ?_; apply w_nil; apply wx_next; apply wc_block)
  refine wc_loopG (σ := Nat × List Tm × Value × List (List Value)) (fun x => a.args.length - x.1) (fun x => [(1, p), (2, .pointer (some ⟨b2, 0, none⟩)), (3, .pointer (some ⟨b3, 0, none⟩)), (4, .int .i64 x.1)])
    (fun x => x.1 ≤ a.args.length ∧ x.1 ≤ 8 ∧ x.2.1 = (a.args.take x.1).map madeT)
    (fun x => [.row x.2.2.1 23 3 x.2.1.length x.2.2.2.flatten, .obj b3 (.cells (At0.cs ⟨madeBy a.by_, madeNm a.name, []⟩ x.2.2.1).toArray 26 (0, 0)), .obj b2 (.cells (At0.cs ⟨Tn, ES, []⟩ (.slice none 0 0)).toArray 26 (0, 0))])
    (fun x c => Vals x.2.2.2 x.2.1 c) (0, [], .slice none 0 0, []) H HA (Vals.nil _) Ks ⟨Nat.zero_le _, Nat.zero_le _, rfl⟩ ?_
  intro x g c hp H HA
  obtain ⟨k, acc, vr, vals⟩ := x
  obtain ⟨hk, hk8, hacc⟩ := hp
  dsimp only at hk hk8 hacc H HA ⊢
  have hlen : acc.length = k := by rw [hacc]; simp; omega
  (focus (apply wc_seq; apply wc_seq; apply wc_region; refine Z0 ?_; refine Z35 HA fun vx HA => ?_; refine Z37 HA fun vx HA => ?_; refine Z45 ?_; refine Z93 (fun hq => ?_) fun hq => ?_; refine Z0 ?_; refine Z4 ?_; refine Z0 ?_; refine Z4 ?_; refine Z93 (fun hq => ?_) fun hq => ?_; refine Z8 ?_; apply w_nil; apply wx_next; refine Z18 ?_; apply wc_skip; apply wx_next; apply wc_seq; apply wc_block; apply wc_seq; apply wc_region; refine Z35 HA fun vx HA => ?_; refine Z37 HA fun vx HA => ?_; refine Z0 ?_; rotate_left; refine Z8 ?_; apply w_nil; apply wx_next; refine Z19 ?_; apply wc_exit; apply wx_exit_then; apply wx_exit_then; apply wx_exit_same; apply wx_next; apply wc_seq; apply wc_region; refine Z42 ?_; refine Z78 fun c H HA => ?_; apply w_nil; apply wx_next; apply wc_ret; rotate_left; refine Z0 ?_; refine Z5 ?_; refine Z5 ?_; refine Z30 ?_; apply w_nil; apply wx_next; refine Z19 ?_; apply wc_exit; apply wx_exit_then; apply wx_exit_then; apply wx_exit_same; apply wx_next; apply wc_seq; apply wc_region; refine Z42 ?_; refine Z78 fun c H HA => ?_; apply w_nil; apply wx_next; apply wc_ret; rotate_left))
  · obtain ⟨t, ht⟩ := getq (xs := a.args) (k := k) (by omega)
    have hts : t.sm := hs.2.2 t (List.mem_of_getElem? ht)
    (refine Z34 HA fun vx HA => ?_; refine Z38 ?_; refine Z61 fun bx c H HA => ?_; refine Z74 fun c H HA => ?_; apply w_nil; apply wx_next)
    (obtain ⟨b5, rfl⟩ : ∃ x, x = bx := ⟨_, rfl⟩)
    (refine wc_cutK [(1, p), (2, .pointer (some ⟨b2, 0, none⟩)), (3, .pointer (some ⟨b3, 0, none⟩)), (4, .int .i64 k), (5, .pointer (some ⟨b5, 0, none⟩))] [.obj b5 (.cells (Tm.cs (madeT t)).toArray 23 (0, 0)), .row vr 23 3 acc.length vals.flatten, .obj b3 (.cells (At0.cs ⟨madeBy a.by_, madeNm a.name, []⟩ vr).toArray 26 (0, 0)), .obj b2 (.cells (At0.cs ⟨Tn, ES, []⟩ (.slice none 0 0)).toArray 26 (0, 0))] H HA ?_ ?_)
    · (apply wc_seq; apply wc_region; refine Z42 ?_)
      (refine s_call rfl rfl H HA (ref02_Variable t _) ?_; intro vx c H HP; have hvx := HP.h.1; have HA := HP.cut; subst hvx)
      cases hv : t.isVar
      · (refine Z33 ?_; apply w_nil; apply wx_next; refine Z18 ?_; apply wc_region; refine Z42 ?_)
        (refine s_call rfl rfl H HA (ref03_MadeConst t _ hts) ?_; intro vx c H HP; have hvx := HP.h.1; have HA := HP.cut; subst hvx)
        (refine Z74 fun c H HA => ?_; apply w_nil)
        have e : madeT t = constM t := by rw [madeT, hv]; rfl
        rw [e]
        exact wx_cutK H Cu Ks
      · (refine Z33 ?_; apply w_nil; apply wx_next; refine Z19 ?_; apply wc_skip)
        have e : madeT t = t := by rw [madeT, hv]; rfl
        rw [e]
        exact wx_cutK H Cu Ks
    intro g c H HA
    have H := H.swap
    (apply wc_region; refine Z3 ?_; refine Z41 ?_; refine Z42 ?_)
    (apply s_bs1D (u := (madeT t)); exact rfl; exact rfl; exact rfl; exact rfl; exact rfl; exact rfl; exact H; exact HA; exact inferInstance; intro vx c H HA)
    (refine Z59 fun vx c valsx H HA => ?_; refine Z3 ?_; refine Z79 fun c H HA => ?_; apply w_nil; apply wx_norm_block; apply wx_next; apply wc_region; refine Z0 ?_; refine Z46 ?_; refine Z2 ?_; apply w_nil)
    exact wx_loopG ((k + 1, acc ++ [madeT t], _, _)) (H.swap.sub (.cons_cons _ (.cons_cons _ (.cons _ (List.Sublist.refl _))))) Cu Lk Ks (by dsimp only; omega) ⟨by dsimp only; omega, by dsimp only; omega, by
      dsimp only
      rw [hacc, List.take_add_one, ht]
      simp⟩
  · have e : a.args.take k = a.args.take 8 := by rw [show k = 8 by omega]
    exact ret_fnO (H.sub (.cons _ (.cons_cons _ (.cons _ .slnil)))) hm (outsR1 Tryz.results62 (RV.agg rfl H Ow Rc)) ⟨vr, vals, rfl, by rw [hacc, e]; rfl, by rw [madeA, ← e, ← hacc]; exact Lk⟩ (fun _ _ => inferInstance)
  · have e : a.args.take k = a.args.take 8 := by rw [List.take_of_length_le (by omega), List.take_of_length_le (by omega)]
    exact ret_fnO (H.sub (.cons _ (.cons_cons _ (.cons _ .slnil)))) hm (outsR1 Tryz.results62 (RV.agg rfl H Ow Rc)) ⟨vr, vals, rfl, by rw [hacc, e]; rfl, by rw [madeA, ← e, ← hacc]; exact Lk⟩ (fun _ _ => inferInstance)
end Go.Proofs.YthkdggoohpgnnaaGreatDoor
/- Contracts: clauses made valid. -/
namespace Go.Proofs.YthkdggoohpgnnaaGreatDoor
open Go Go.Wk
theorem madeA_len (a : At0) : (madeA a).args.length < 1099511627776 := by
  have : (madeA a).args.length ≤ 8 := by simp [madeA]; omega
  omega
theorem madeB_len (x : Cl) : ((madeB x).flatMap At0.terms).length ≤ 72 := by
  have h : ∀ l : List At0, (l.map madeA).flatMap At0.terms = (l.map madeA).flatMap At0.terms → ((l.map madeA).flatMap At0.terms).length ≤ 9 * l.length := by
    intro l _
    induction l with
    | nil => simp
    | cons a l ih =>
      have h1 : (madeA a).args.length ≤ 8 := by simp [madeA]; omega
      have h2 := ih rfl
      simp only [List.map_cons, List.flatMap_cons, List.length_append, List.length_cons, At0.terms] at h2 ⊢
      omega
  have h1 := h (x.body.take 8) rfl
  have h2 : (x.body.take 8).length ≤ 8 := by simp; omega
  unfold madeB
  omega
theorem madeR_len (x : Cl) : (madeR x).terms.length ≤ 97 := by
  have h1 := madeB_len x
  have h2 : (madeR x).bodyTerms.length ≤ 72 := h1
  have h3 : (madeR x).head.args.length ≤ 8 := by simp [madeR, madeH]; omega
  have h4 : (madeR x).tests.length ≤ 8 := by simp [madeR]; omega
  have h5 : ∀ l : List Ts, (l.flatMap fun t => [t.l, t.r]).length = 2 * l.length := by
    intro l
    induction l with
    | nil => rfl
    | cons a l ih => simp only [List.flatMap_cons, List.length_append, List.length_cons, List.length_nil, ih]; omega
  have h6 := h5 (madeR x).tests
  have h7 : (madeR x).head.terms.length = (madeR x).head.args.length + 1 := rfl
  have h8 : (madeR x).testTerms.length = 2 * (madeR x).tests.length := h6
  simp only [Cl.terms, List.length_append]
  omega
theorem ref03_MadeAtom (a : At0) (u : Value) (c : Cx) (h : Ag a u c) (hs : a.sm) : Cn Tryz.prog 62 [u] c (fun r c => Ag (madeA a) r c) := (ref03_MadeAtomO a u c h hs).at0 (madeA_len a)
theorem ref03_Made (x : Cl) (u : Value) (c : Cx) (h : Ag x u c) (hs : x.sm) : Cn Tryz.prog 21 [u] c (fun r c => Ag (madeC x) r c) := by
  refine Cn.of Tryz.func21 Tryz.ntmps21 rfl rfl fun hm H HA => ?_
  have hlb : x.body.length < 1099511627776 := by obtain ⟨cs, rfl, v, v1, v2, rfl, h⟩ := h; exact h.2.1.lim
  have hlt : x.tests.length < 1099511627776 := by obtain ⟨cs, rfl, v, v1, v2, rfl, h⟩ := h; exact h.2.2.lim
  have HA := HA.add h
  (apply wc_seq; apply wc_region)
  (refine s_boxG rfl rfl Lk H HA ?_; intro p c H HA)
  (refine Z61 fun bx c H HA => ?_; apply w_nil; apply wx_next)
  (obtain ⟨b2, rfl⟩ : ∃ x, x = bx := ⟨_, rfl⟩)
  (apply wc_seq; apply wc_region)
  (refine Z61 fun bx c H HA => ?_; apply w_nil; apply wx_next)
  (obtain ⟨b3, rfl⟩ : ∃ x, x = bx := ⟨_, rfl⟩)
  (refine wc_cutE (fun v => [(1, p), (2, .pointer (some ⟨b2, 0, none⟩)), (3, .pointer (some ⟨b3, 0, none⟩))]) (fun v => [.obj b3 (.cells (Cl.cs ⟨⟨Tn, ES, []⟩, [], []⟩ (.slice none 0 0) (v) (.slice none 0 0)).toArray 30 (0, 0)), .obj b2 (.cells (Cl.cs ⟨⟨Tn, ES, []⟩, [], []⟩ (.slice none 0 0) (.slice none 0 0) (.slice none 0 0)).toArray 30 (0, 0))]) (fun v c => Sl v (madeB x) c) H HA ?_ ?_)
  · have H := H.nilR At0 26 5
    (apply wc_seq; apply wc_region; refine Z2 ?_; apply w_nil; apply wx_next; apply wc_block)
    refine wc_loopG (σ := Nat × List At0 × Value × List (List Value)) (fun y => x.body.length - y.1) (fun y => [(1, p), (2, .pointer (some ⟨b2, 0, none⟩)), (3, .pointer (some ⟨b3, 0, none⟩)), (4, .int .i64 y.1)])
      (fun y => y.1 ≤ x.body.length ∧ y.1 ≤ 8 ∧ y.2.1 = (x.body.take y.1).map madeA)
      (fun y => [.row y.2.2.1 26 5 y.2.1.length y.2.2.2.flatten, .obj b3 (.cells (Cl.cs ⟨⟨Tn, ES, []⟩, [], []⟩ (.slice none 0 0) (y.2.2.1) (.slice none 0 0)).toArray 30 (0, 0)), .obj b2 (.cells (Cl.cs ⟨⟨Tn, ES, []⟩, [], []⟩ (.slice none 0 0) (.slice none 0 0) (.slice none 0 0)).toArray 30 (0, 0))])
      (fun y c => Vals y.2.2.2 y.2.1 c) (0, [], .slice none 0 0, []) H HA (Vals.nil _) Ks ⟨Nat.zero_le _, Nat.zero_le _, rfl⟩ ?_
    intro y g c hp H HA
    obtain ⟨k, acc, vr, vals⟩ := y
    obtain ⟨hk, hk8, hacc⟩ := hp
    dsimp only at hk hk8 hacc H HA ⊢
    have hlen : acc.length = k := by rw [hacc]; simp; omega
    (focus (apply wc_seq; apply wc_seq; apply wc_region; refine Z0 ?_; refine Z35 HA fun vx HA => ?_; refine Z37 HA fun vx HA => ?_; refine Z45 ?_; refine Z93 (fun hq => ?_) fun hq => ?_; refine Z0 ?_; refine Z4 ?_; refine Z0 ?_; refine Z4 ?_; refine Z93 (fun hq => ?_) fun hq => ?_; refine Z8 ?_; apply w_nil; apply wx_next; refine Z18 ?_; apply wc_skip; apply wx_next; apply wc_seq; apply wc_block; rotate_left; refine Z8 ?_; apply w_nil; apply wx_next; refine Z19 ?_; apply wc_exit; apply wx_exit_then; apply wx_exit_then; apply wx_exit_same; rotate_left; refine Z0 ?_; refine Z5 ?_; refine Z5 ?_; refine Z30 ?_; apply w_nil; apply wx_next; refine Z19 ?_; apply wc_exit; apply wx_exit_then; apply wx_exit_then; apply wx_exit_same; rotate_left))
    · obtain ⟨a, ha⟩ := getq (xs := x.body) (k := k) (by omega)
      have has : a.sm := hs.2.1 a (List.mem_of_getElem? ha)
      (refine dw_start H HA ?_)
      (repeat (refine Dc ?_))
      (apply dw_cons; (focus ((intro B _ Lx c H HA; (repeat (first | (intro vx hx; have hx2 : vx = _ := hx; clear hx; subst hx2) | (intro vx hx; have HA := HA.addSF hx; clear hx) | (intro vx hx; have HA := HA.add hx; clear hx) | intro vx)); change W _ _ _ _ _ _ _); refine s_call rfl rfl H HA (ref03_MadeAtom a _ _ Lk has) ?_; intro vx c H HP; exact w_nil (pq_rel H (Cp) HP.h.1))); exact inferInstance)
      (repeat (refine Dc ?_))
      (refine dw_done mixed H HA rfl (by kernel_rfl) ?_; clear H HA; intro c H HA; (repeat (first | (intro vx hx; have hx2 : vx = _ := hx; clear hx; subst hx2) | (intro vx hx; have HA := HA.addSF hx; clear hx) | (intro vx hx; have HA := HA.add hx; clear hx) | intro vx)); change W _ _ _ _ _ _ _)
      (refine Z59 fun vx c valsx H HA => ?_; refine Z3 ?_; refine Z77 fun c H HA => ?_; apply w_nil; apply wx_norm_block; apply wx_next; apply wc_region; refine Z0 ?_; refine Z46 ?_; refine Z2 ?_; apply w_nil)
      exact wx_loopG ((k + 1, acc ++ [madeA a], _, _)) H.swap Cu Lk Ks (by dsimp only; omega) ⟨by dsimp only; omega, by dsimp only; omega, by
        dsimp only
        rw [hacc, List.take_add_one, ha]
        simp⟩
    · have e : acc = madeB x := by rw [hacc, madeB, show k = 8 by omega]
      subst e
      (refine wx_freezeRow H HA Lk rfl rfl Lt ?_; intro c H HA)
      exact wx_cutE vr H Cu Lk Ks
    · have e : acc = madeB x := by rw [hacc, madeB, List.take_of_length_le (by omega), List.take_of_length_le (by omega)]
      subst e
      (refine wx_freezeRow H HA Lk rfl rfl Lt ?_; intro c H HA)
      exact wx_cutE vr H Cu Lk Ks
  intro vB g c H HA
  (apply wc_seq; apply wc_region; refine Z42 ?_)
  have hbt := madeB_len x
  (refine s_call rfl rfl H HA (ref03_bodyTerms (⟨⟨Tn, ES, []⟩, madeB x, []⟩ : Cl) _ _ ⟨_, rfl, _, vB, _, rfl, Sl.nil _, Lk, Sl.nil _⟩ (show ((madeB x).flatMap At0.terms).length < 1099511627776 by omega)) ?_; intro vx c H HA)
  (obtain ⟨vT, rfl⟩ : ∃ x, x = vx := ⟨_, rfl⟩)
  have HA := HA.add (Lk : Sl vT ((madeB x).flatMap At0.terms) c)
  (refine Z2 ?_; apply w_nil; apply wx_next; apply wc_seq; apply wc_region; refine Z35 HA fun vx HA => ?_; refine Z39 HA fun vx HA => ?_)
  (refine s_callO rfl rfl H HA (ref03_MadeAtomO x.head _ _ Lk hs.1) ?_; intro vx R c H HA)
  obtain ⟨vr2, vals2, rfl, rfl, hv2⟩ := HA.h.1
  have HA := HA.cut.add hv2
  have H : Owns _ [.row vr2 23 3 (madeA x.head).args.length vals2.flatten, _, _] _ := H
  (refine Z3 ?_; refine Z76 fun c H HA => ?_; apply w_nil; apply wx_next)
  (refine wc_cutK [(1, p), (2, .pointer (some ⟨b2, 0, none⟩)), (3, .pointer (some ⟨b3, 0, none⟩)), (5, vT)] [.obj b3 (.cells (Cl.cs ⟨⟨(if (madeBy x.head.by_).k = 3 then Tn else madeBy x.head.by_), madeNm x.head.name, []⟩, [], []⟩ (vr2) (vB) (.slice none 0 0)).toArray 30 (0, 0)), .row vr2 23 3 (madeA x.head).args.length vals2.flatten, .obj b2 (.cells (Cl.cs ⟨⟨Tn, ES, []⟩, [], []⟩ (.slice none 0 0) (.slice none 0 0) (.slice none 0 0)).toArray 30 (0, 0))] H HA ?_ ?_)
  · (focus (apply wc_seq; apply wc_region; refine Z3 ?_; refine Z3 ?_; refine Z3 ?_; refine Z41 ?_; refine Z92 (fun hq => ?_) fun hq => ?_; apply w_nil; apply wx_next; refine Z18 ?_; apply wc_region; refine Z54 ?_; refine Z3 ?_; refine Z3 ?_; refine Z74 fun c H HA => ?_; apply w_nil; rotate_left; apply w_nil; apply wx_next; refine Z19 ?_; apply wc_skip; rotate_left))
    · have hq : (madeBy x.head.by_).k = 3 := hq
      rw [if_pos hq]
      exact wx_cutK H Cu Ks
    · have hq : ¬ (madeBy x.head.by_).k = 3 := hq
      rw [if_neg hq]
      exact wx_cutK H Cu Ks
  intro g c H HA
  obtain ⟨ags, has⟩ : ∃ ags, ags = (madeA x.head).args := ⟨_, rfl⟩
  have hal : ags.length ≤ 8 := by rw [has]; simp [madeA]; omega
  rw [← has] at H HA
  (refine wc_cutE (fun v => [(1, p), (2, .pointer (some ⟨b2, 0, none⟩)), (3, .pointer (some ⟨b3, 0, none⟩)), (5, vT)]) (fun v => [.obj b3 (.cells (Cl.cs ⟨⟨(if (madeBy x.head.by_).k = 3 then Tn else madeBy x.head.by_), madeNm x.head.name, []⟩, [], []⟩ (vr2) (vB) (.slice none 0 0)).toArray 30 (0, 0)), .obj b2 (.cells (Cl.cs ⟨⟨Tn, ES, []⟩, [], []⟩ (.slice none 0 0) (.slice none 0 0) (.slice none 0 0)).toArray 30 (0, 0))]) (fun v c => Sl vr2 (ags.map (safeM ((madeB x).flatMap At0.terms))) c) H HA ?_ ?_)
  · (apply wc_seq; apply wc_region; refine Z2 ?_; apply w_nil; apply wx_next; apply wc_block)
    have H := H.swap
    refine wc_loopG (σ := Nat × List Tm × List (List Value)) (fun y => ags.length - y.1) (fun y => [(1, p), (2, .pointer (some ⟨b2, 0, none⟩)), (3, .pointer (some ⟨b3, 0, none⟩)), (5, vT), (6, .int .i64 y.1)])
      (fun y => y.1 ≤ ags.length ∧ y.2.1 = (ags.take y.1).map (safeM ((madeB x).flatMap At0.terms)) ++ ags.drop y.1)
      (fun y => [.row vr2 23 3 y.2.1.length y.2.2.flatten, .obj b3 (.cells (Cl.cs ⟨⟨(if (madeBy x.head.by_).k = 3 then Tn else madeBy x.head.by_), madeNm x.head.name, []⟩, [], []⟩ (vr2) (vB) (.slice none 0 0)).toArray 30 (0, 0)), .obj b2 (.cells (Cl.cs ⟨⟨Tn, ES, []⟩, [], []⟩ (.slice none 0 0) (.slice none 0 0) (.slice none 0 0)).toArray 30 (0, 0))])
      (fun y c => Vals y.2.2 y.2.1 c) (0, ags, vals2) H HA Lk Ks ⟨Nat.zero_le _, by simp⟩ ?_
    intro y g c hp H HA
    obtain ⟨k, acc, vals⟩ := y
    obtain ⟨hk, hacc⟩ := hp
    dsimp only at hk hacc H HA ⊢
    have hlen : acc.length = ags.length := by rw [hacc]; simp; omega
    (focus (apply wc_seq; apply wc_seq; apply wc_region; refine Z0 ?_; refine Z3 ?_; refine Z3 ?_; refine Z41 ?_; refine Z62 ?_; refine Z93 (fun hq => ?_) fun hq => ?_; apply w_nil; apply wx_next; refine Z18 ?_; apply wc_skip; apply wx_next; apply wc_seq; apply wc_block; rotate_left; apply w_nil; apply wx_next; refine Z19 ?_; apply wc_exit; apply wx_exit_then; apply wx_exit_then; apply wx_exit_same; rotate_left))
    · obtain ⟨t, ht⟩ := getq (xs := ags) (k := k) (by omega)
      have hta : acc[k]? = some t := by
        rw [hacc, List.getElem?_append_right (by simp; omega), List.getElem?_drop]
        simp [Nat.min_eq_left hk, ht]
      (refine dw_start H HA ?_)
      (repeat (refine Dc ?_))
      (apply dw_cons; (focus ((intro B _ Lx c H HA; (repeat (first | (intro vx hx; have hx2 : vx = _ := hx; clear hx; subst hx2) | (intro vx hx; have HA := HA.addSF hx; clear hx) | (intro vx hx; have HA := HA.add hx; clear hx) | intro vx)); change W _ _ _ _ _ _ _); (refine s_ixR (i := k) rfl rfl rfl H Ow rfl (by omega) ?_; intro rp hrp); exact w_nil (pq_rel (S := fun p _ => RPt vr2 3 k p) H Cu hrp))); exact inferInstance)
      (apply dw_cons; (focus ((intro B _ Lx c H HA; (repeat (first | (intro vx hx; have hx2 : vx = _ := hx; clear hx; subst hx2) | (intro vx hx; have HA := HA.addSF hx; clear hx) | (intro vx hx; have HA := HA.add hx; clear hx) | intro vx)); change W _ _ _ _ _ _ _); (refine s_ldRD (u := t) (i := k) rfl rfl (by assumption) H Ow Lk rfl hta inferInstance ?_); exact Dx)); exact inferInstance)
      (apply dw_cons; (focus ((intro B _ Lx c H HA; (repeat (first | (intro vx hx; have hx2 : vx = _ := hx; clear hx; subst hx2) | (intro vx hx; have HA := HA.addSF hx; clear hx) | (intro vx hx; have HA := HA.add hx; clear hx) | intro vx)); change W _ _ _ _ _ _ _); (refine s_call rfl rfl H HA (ref03_safe ((madeB x).flatMap At0.terms) vT t _ Lk) ?_; intro vx c H HP; have hvx := HP.h.1; have HA := HP.cut; subst hvx); exact Dx)); exact inferInstance)
      (refine dw_done mixed H HA rfl (by kernel_rfl) ?_; clear H HA; intro c H HA; (repeat (first | (intro vx hx; have hx2 : vx = _ := hx; clear hx; subst hx2) | (intro vx hx; have HA := HA.addSF hx; clear hx) | (intro vx hx; have HA := HA.add hx; clear hx) | intro vx)); change W _ _ _ _ _ _ _)
      (refine Z63 fun rp hrp => ?_)
      (refine s_stRA (u := safeM ((madeB x).flatMap At0.terms) t) rfl rfl hrp H Lk (by omega) rfl rfl HA inferInstance ?_; intro c H HA)
      (apply w_nil; apply wx_norm_block; apply wx_next; apply wc_region; refine Z0 ?_; refine Z46 ?_; refine Z2 ?_; apply w_nil)
      exact wx_loopG ((k + 1, acc.set k (safeM ((madeB x).flatMap At0.terms) t), _)) H Cu Lk Ks (by dsimp only; omega) ⟨by dsimp only; omega, by
        dsimp only
        rw [hacc, List.take_add_one, ht, drop_get ht]
        have hl2 : ((ags.take k).map (safeM ((madeB x).flatMap At0.terms))).length = k := by simp; omega
        rw [List.set_append_right _ _ (by omega), hl2, Nat.sub_self]
        simp⟩
    · have hacc : acc = ags.map (safeM ((madeB x).flatMap At0.terms)) := by rw [hacc, List.take_of_length_le (by omega), List.drop_eq_nil_of_le (by omega), List.append_nil]
      subst hacc
      (refine wx_freezeRow H HA Lk rfl rfl Lt ?_; intro c H HA)
      exact wx_cutE vr2 H Cu Lk Ks
  intro v0 g c H HA
  clear v0
  (refine wc_cutE (fun v => [(1, p), (2, .pointer (some ⟨b2, 0, none⟩)), (3, .pointer (some ⟨b3, 0, none⟩))]) (fun v => [.obj b3 (.cells (Cl.cs ⟨⟨(if (madeBy x.head.by_).k = 3 then Tn else madeBy x.head.by_), madeNm x.head.name, []⟩, [], []⟩ (vr2) (vB) (v)).toArray 30 (0, 0)), .obj b2 (.cells (Cl.cs ⟨⟨Tn, ES, []⟩, [], []⟩ (.slice none 0 0) (.slice none 0 0) (.slice none 0 0)).toArray 30 (0, 0))]) (fun v c => Sl v ((x.tests.take 8).map (madeTs ((madeB x).flatMap At0.terms))) c) H HA ?_ ?_)
  · have H := H.nilR Ts 79 7
    (apply wc_seq; apply wc_region; refine Z2 ?_; apply w_nil; apply wx_next; apply wc_block)
    refine wc_loopG (σ := Nat × List Ts × Value × List (List Value)) (fun y => x.tests.length - y.1) (fun y => [(1, p), (2, .pointer (some ⟨b2, 0, none⟩)), (3, .pointer (some ⟨b3, 0, none⟩)), (5, vT), (7, .int .i64 y.1)])
      (fun y => y.1 ≤ x.tests.length ∧ y.1 ≤ 8 ∧ y.2.1 = (x.tests.take y.1).map (madeTs ((madeB x).flatMap At0.terms)))
      (fun y => [.row y.2.2.1 79 7 y.2.1.length y.2.2.2.flatten, .obj b3 (.cells (Cl.cs ⟨⟨(if (madeBy x.head.by_).k = 3 then Tn else madeBy x.head.by_), madeNm x.head.name, []⟩, [], []⟩ (vr2) (vB) (y.2.2.1)).toArray 30 (0, 0)), .obj b2 (.cells (Cl.cs ⟨⟨Tn, ES, []⟩, [], []⟩ (.slice none 0 0) (.slice none 0 0) (.slice none 0 0)).toArray 30 (0, 0))])
      (fun y c => Vals y.2.2.2 y.2.1 c) (0, [], .slice none 0 0, []) H HA (Vals.nil _) Ks ⟨Nat.zero_le _, Nat.zero_le _, rfl⟩ ?_
    intro y g c hp H HA
    obtain ⟨k, acc, vr, vals⟩ := y
    obtain ⟨hk, hk8, hacc⟩ := hp
    dsimp only at hk hk8 hacc H HA ⊢
    have hlen : acc.length = k := by rw [hacc]; simp; omega
    (focus (apply wc_seq; apply wc_seq; apply wc_region; refine Z0 ?_; refine Z35 HA fun vx HA => ?_; refine Z37 HA fun vx HA => ?_; refine Z45 ?_; refine Z93 (fun hq => ?_) fun hq => ?_; refine Z0 ?_; refine Z4 ?_; refine Z0 ?_; refine Z4 ?_; refine Z93 (fun hq => ?_) fun hq => ?_; refine Z8 ?_; apply w_nil; apply wx_next; refine Z18 ?_; apply wc_skip; apply wx_next; apply wc_seq; apply wc_block; rotate_left; refine Z8 ?_; apply w_nil; apply wx_next; refine Z19 ?_; apply wc_exit; apply wx_exit_then; apply wx_exit_then; apply wx_exit_same; rotate_left; refine Z0 ?_; refine Z5 ?_; refine Z5 ?_; refine Z30 ?_; apply w_nil; apply wx_next; refine Z19 ?_; apply wc_exit; apply wx_exit_then; apply wx_exit_then; apply wx_exit_same; rotate_left))
    · obtain ⟨t, ht⟩ := getq (xs := x.tests) (k := k) (by omega)
      have hts := hs.2.2 t (List.mem_of_getElem? ht)
      (refine dw_start H HA ?_)
      (repeat (refine Dc ?_))
      (apply dw_cons; (focus ((intro B _ Lx c H HA; (repeat (first | (intro vx hx; have hx2 : vx = _ := hx; clear hx; subst hx2) | (intro vx hx; have HA := HA.addSF hx; clear hx) | (intro vx hx; have HA := HA.add hx; clear hx) | intro vx)); change W _ _ _ _ _ _ _); (refine s_call rfl rfl H HA (ref03_madeTest ((madeB x).flatMap At0.terms) vT t _ Lk hts.1 hts.2) ?_; intro vx c H HP; have hvx := HP.h.1; have HA := HP.cut; subst hvx); exact Dx)); exact inferInstance)
      (apply dw_cons; (focus ((intro B _ Lx c H HA; (repeat (first | (intro vx hx; have hx2 : vx = _ := hx; clear hx; subst hx2) | (intro vx hx; have HA := HA.addSF hx; clear hx) | (intro vx hx; have HA := HA.add hx; clear hx) | intro vx)); change W _ _ _ _ _ _ _); (apply s_bs1D (u := (madeTs ((madeB x).flatMap At0.terms) t)); exact rfl; exact rfl; exact rfl; exact rfl; exact rfl; exact rfl; exact H; exact HA; exact inferInstance; intro vx c H HA); exact Dx)); exact inferInstance)
      (refine dw_done mixed H HA rfl (by kernel_rfl) ?_; clear H HA; intro c H HA; (repeat (first | (intro vx hx; have hx2 : vx = _ := hx; clear hx; subst hx2) | (intro vx hx; have HA := HA.addSF hx; clear hx) | (intro vx hx; have HA := HA.add hx; clear hx) | intro vx)); change W _ _ _ _ _ _ _)
      (refine Z59 fun vx c valsx H HA => ?_; refine Z3 ?_; refine Z77 fun c H HA => ?_; apply w_nil; apply wx_norm_block; apply wx_next; apply wc_region; refine Z0 ?_; refine Z46 ?_; refine Z2 ?_; apply w_nil)
      exact wx_loopG ((k + 1, acc ++ [madeTs ((madeB x).flatMap At0.terms) t], _, _)) H.swap Cu Lk Ks (by dsimp only; omega) ⟨by dsimp only; omega, by dsimp only; omega, by
        dsimp only
        rw [hacc, List.take_add_one, ht]
        simp⟩
    · have e : acc = (x.tests.take 8).map (madeTs ((madeB x).flatMap At0.terms)) := by rw [hacc, show k = 8 by omega]
      subst e
      (refine wx_freezeRow H HA Lk rfl rfl Lt ?_; intro c H HA)
      exact wx_cutE vr H Cu Lk Ks
    · have e : acc = (x.tests.take 8).map (madeTs ((madeB x).flatMap At0.terms)) := by rw [hacc, List.take_of_length_le (by omega), List.take_of_length_le (by omega)]
      subst e
      (refine wx_freezeRow H HA Lk rfl rfl Lt ?_; intro c H HA)
      exact wx_cutE vr H Cu Lk Ks
  intro vt g c H HA
  (apply wc_seq; apply wc_region; refine Z42 ?_)
  have hA2 : Sl vr2 ((madeA x.head).args.map (safeM ((madeB x).flatMap At0.terms))) c := by rw [← has]; exact Lk
  (refine s_call rfl rfl H HA (ref03_Normal (madeR x) _ _ ⟨_, rfl, vr2, vB, vt, rfl, hA2, Lk, Lk⟩ (by have := madeR_len x; omega)) ?_; intro vx c H HA)
  obtain ⟨cs9, rfl, w0, w1, w2, rfl, k0, k1, k2⟩ := HA.h.1
  have HA := ((HA.cut.add k0).add k1).add k2
  have H := H.swap
  (refine Z74 fun c H HA => ?_; apply w_nil; apply wx_next; apply wc_ret)
  exact ret_fn H hm (outsR1 Tryz.results21 (RV.agg rfl H Ow Rc)) ⟨_, rfl, w0, w1, w2, rfl, Lk, Lk, Lk⟩
theorem ref03_MadeAll (xs : List Cl) (v : Value) (c : Cx) (h : Sl v xs c) (hs : ∀ x ∈ xs, x.sm) : Cn Tryz.prog 31 [v] c (fun r c => Sl r (xs.map madeC) c) := by
  refine Cn.of Tryz.func31 Tryz.ntmps31 rfl rfl fun hm H HA => ?_
  have HA := HA.add h
  have hlim := h.lim
  (apply wc_seq; apply wc_region; refine Z2 ?_; apply w_nil; apply wx_next; apply wc_seq; apply wc_region; refine Z2 ?_; apply w_nil; apply wx_next; apply wc_seq; apply wc_seq; apply wc_region; refine Z2 ?_; apply w_nil; apply wx_next; apply wc_block)
  (have H := H.nilR Cl  30 7; have HA := HA.add (Vals.nil (α := Cl) _))
  refine wc_loopR (α := Cl) xs.length (fun k v' => [(0, v), (3, v'), (4, .int .i64 k)]) (fun k acc => acc = (xs.take k).map madeC) 0 [] H Lk Cu Ks (Nat.zero_le _) rfl ?_
  intro k acc v' vals g c hk hp H HA
  have hal : acc.length = k := by rw [hp]; simp; omega
  (focus (apply wc_seq; apply wc_seq; apply wc_region; refine Z0 ?_; refine Z0 ?_; refine Z45 ?_; refine Z93 (fun hq => ?_) fun hq => ?_; apply w_nil; apply wx_next; refine Z18 ?_; apply wc_skip; apply wx_next; apply wc_seq; apply wc_block; apply wc_region; refine Z0 ?_; refine Z0 ?_; refine Z0 ?_; rotate_left; apply w_nil; apply wx_next; refine Z19 ?_; apply wc_exit; apply wx_exit_then; apply wx_exit_then; apply wx_exit_same; apply wx_next; apply wc_seq; apply wc_region; refine Z0 ?_; refine Z2 ?_; apply w_nil; apply wx_next; apply wc_ret; rotate_left))
  · obtain ⟨x, hx⟩ := getq (xs := xs) (k := k) (by omega)
    (refine Z34 HA fun vx HA => ?_; refine Z39 HA fun vx HA => ?_)
    (refine s_call rfl rfl H HA (ref03_Made x _ _ Lk (hs x (List.mem_of_getElem? hx))) ?_; intro vx c H HA)
    (refine Z55 fun vx c H HA => ?_; refine Z59 fun vx c valsx H HA => ?_; refine Z2 ?_; apply w_nil; apply wx_norm_block; apply wx_next; apply wc_region; refine Z0 ?_; refine Z46 ?_; refine Z2 ?_; apply w_nil)
    exact wx_loopR (k + 1) H Lk Cu Ks (by omega) (by rw [hp, List.take_add_one, hx]; simp)
  · have hp : acc = xs.map madeC := by rw [hp, List.take_of_length_le (by omega)]
    subst hp
    (refine wx_freezeRow H HA Lk rfl rfl Lt ?_; intro c H HA)
    exact ret_fn H hm (outs1 Tryz.results31 Wh) Lk
end Go.Proofs.YthkdggoohpgnnaaGreatDoor
/- Contracts: whether one subsumes another; the parts of a condensed clause. -/
namespace Go.Wk
theorem erase_step {α : Type} {l : List α} {k i : Nat} {a : α} (h : l[k]? = some a) : (l.take (k + 1)).eraseIdx i = if k = i then (l.take k).eraseIdx i else (l.take k).eraseIdx i ++ [a] := by
  have hk : k < l.length := (List.getElem?_eq_some_iff.1 h).1
  have hl : (l.take k).length = k := by simp; omega
  rw [List.take_add_one, h]
  show (l.take k ++ [a]).eraseIdx i = _
  by_cases hi : i < k
  · rw [List.eraseIdx_append_of_lt_length (by omega), if_neg (by omega)]
  · have e1 : (l.take k ++ [a]).eraseIdx i = l.take k ++ [a].eraseIdx (i - k) := by rw [List.eraseIdx_append_of_length_le (by omega), hl]
    have e2 : (l.take k).eraseIdx i = l.take k := List.eraseIdx_of_length_le (by omega)
    rw [e1, e2]
    by_cases e : k = i
    · subst e; simp
    · rw [if_neg e]
      obtain ⟨j, hj⟩ : ∃ j, i - k = j + 1 := ⟨i - k - 1, by omega⟩
      rw [hj]
      simp
end Go.Wk
namespace Go.Proofs.YthkdggoohpgnnaaGreatDoor
open Go Go.Wk
theorem law_subsumes (x d : Cl) (u1 u2 : Value) (c : Cx) (h1 : Ag x u1 c) (h2 : Ag d u2 c) (hf1 : x.fit) (hf2 : d.fit) (hg : GlobOk c) : Cn Tryz.prog 25 [u1, u2] c (fun r _ => r = .bool (subs x d).isSome) := by
  refine Cn.of Tryz.func25 Tryz.ntmps25 rfl rfl fun hm H HA => ?_
  have HA := ((HA.add h1).add h2).add hg
  (apply wc_seq; apply wc_region; refine Z40 fun vx c H HA => ?_; refine Z40 fun vx c H HA => ?_; refine Z2 ?_; apply w_nil; apply wx_next; apply wc_seq; apply wc_region; refine Z39 HA fun vx HA => ?_; refine Z39 HA fun vx HA => ?_)
  (refine s_call rfl rfl H HA (subsume_Subsumes x d _ _ _ Lk Lk hf1 hf2 Lk) ?_; intro vx c H HA)
  obtain ⟨vm, hr, hSm⟩ := HA.h.1
  subst hr
  have HA := HA.cut.add hSm
  (refine Z0 ?_; refine Z32 ?_; refine Z32 ?_; refine Z2 ?_; refine Z2 ?_; apply w_nil; apply wx_next; apply wc_seq; apply wc_region; refine Z0 ?_; refine Z2 ?_; apply w_nil; apply wx_next; apply wc_ret)
  exact ret_fn H hm (outs1 Tryz.results25 Wh) rfl
theorem without_terms_len (x : Cl) (p : Nat) : (x.without p).terms.length ≤ x.terms.length := by
  have h := less_len x p
  unfold less at h
  rwa [normal_terms, List.length_map] at h
theorem law_without (x : Cl) (i : Nat) (u : Value) (c : Cx) (h : Ag x u c) (hx : x.Ok) : Cn Tryz.prog 35 [u, .int .i64 i] c (fun r c => Ag (x.without i).normal r c) := by
  refine Cn.of Tryz.func35 Tryz.ntmps35 rfl rfl fun hm H HA => ?_
  have hlb := hx.b8
  have hlt := hx.t8
  have HA := HA.add h
  (apply wc_seq; apply wc_region)
  (refine s_boxG rfl rfl Lk H HA ?_; intro p c H HA)
  (refine Z61 fun bx c H HA => ?_; apply w_nil; apply wx_next)
  (obtain ⟨b4, rfl⟩ : ∃ x, x = bx := ⟨_, rfl⟩)
  (apply wc_seq; apply wc_region)
  (refine Z35 HA fun vx HA => ?_; refine Z39 HA fun vx HA => ?_)
  obtain ⟨cs1, rfl, w0, rfl, hw0⟩ := (Lk : Ag x.head _ _)
  have HA := HA.add hw0
  (refine Z54 ?_; refine Z61 fun bx c H HA => ?_; refine Z74 fun c H HA => ?_; apply w_nil; apply wx_next)
  (obtain ⟨b5, rfl⟩ : ∃ x, x = bx := ⟨_, rfl⟩)
  (refine wc_cutE (fun v => [(1, .int .i64 i), (2, p), (4, .pointer (some ⟨b4, 0, none⟩)), (5, .pointer (some ⟨b5, 0, none⟩))]) (fun v => [.obj b5 (.cells (Cl.cs ⟨x.head, [], []⟩ (w0) (v) (.slice none 0 0)).toArray 30 (0, 0)), .obj b4 (.cells (Cl.cs ⟨⟨Tn, ES, []⟩, [], []⟩ (.slice none 0 0) (.slice none 0 0) (.slice none 0 0)).toArray 30 (0, 0))]) (fun v c => Sl v (x.body.eraseIdx i) c) H HA ?_ ?_)
  · have H := H.nilR At0 26 5
    (apply wc_seq; apply wc_region; refine Z2 ?_; apply w_nil; apply wx_next; apply wc_block)
    refine wc_loopG (σ := Nat × List At0 × Value × List (List Value)) (fun y => x.body.length - y.1) (fun y => [(1, .int .i64 i), (2, p), (4, .pointer (some ⟨b4, 0, none⟩)), (5, .pointer (some ⟨b5, 0, none⟩)), (6, .int .i64 y.1)])
      (fun y => y.1 ≤ x.body.length ∧ y.2.1 = (x.body.take y.1).eraseIdx i)
      (fun y => [.row y.2.2.1 26 5 y.2.1.length y.2.2.2.flatten, .obj b5 (.cells (Cl.cs ⟨x.head, [], []⟩ (w0) (y.2.2.1) (.slice none 0 0)).toArray 30 (0, 0)), .obj b4 (.cells (Cl.cs ⟨⟨Tn, ES, []⟩, [], []⟩ (.slice none 0 0) (.slice none 0 0) (.slice none 0 0)).toArray 30 (0, 0))])
      (fun y c => Vals y.2.2.2 y.2.1 c) (0, [], .slice none 0 0, []) H HA (Vals.nil _) Ks ⟨Nat.zero_le _, rfl⟩ ?_
    intro y g c hp H HA
    obtain ⟨k, acc, vr, vals⟩ := y
    obtain ⟨hk, hacc⟩ := hp
    dsimp only at hk hacc H HA ⊢
    have hlen : acc.length ≤ k := by rw [hacc]; have := List.length_eraseIdx_le (x.body.take k) i; simp at this; omega
    (focus (apply wc_seq; apply wc_seq; apply wc_region; refine Z0 ?_; refine Z35 HA fun vx HA => ?_; refine Z37 HA fun vx HA => ?_; refine Z45 ?_; refine Z93 (fun hq => ?_) fun hq => ?_; apply w_nil; apply wx_next; refine Z18 ?_; apply wc_skip; apply wx_next; apply wc_seq; apply wc_block; apply wc_seq; apply wc_region; refine Z0 ?_; refine Z0 ?_; refine Z94 (fun hq => ?_) fun hq => ?_; apply w_nil; apply wx_next; refine Z18 ?_; rotate_left; apply w_nil; apply wx_next; refine Z19 ?_; apply wc_skip; apply wx_norm_block; apply wx_next; apply wc_region; refine Z0 ?_; refine Z46 ?_; refine Z2 ?_; apply w_nil; rotate_left; apply w_nil; apply wx_next; refine Z19 ?_; apply wc_exit; apply wx_exit_then; apply wx_exit_then; apply wx_exit_same; rotate_left))
    · obtain ⟨a, ha⟩ := getq (xs := x.body) (k := k) (by omega)
      (refine dw_start H HA ?_)
      (repeat (refine Dc ?_))
      (refine dw_done mixed H HA rfl (by kernel_rfl) ?_; clear H HA; intro c H HA; (repeat (first | (intro vx hx; have hx2 : vx = _ := hx; clear hx; subst hx2) | (intro vx hx; have HA := HA.addSF hx; clear hx) | (intro vx hx; have HA := HA.add hx; clear hx) | intro vx)); change W _ _ _ _ _ _ _)
      (refine Z59 fun vx c valsx H HA => ?_; refine Z3 ?_; refine Z77 fun c H HA => ?_; apply w_nil; apply wx_norm_block; apply wx_next; apply wc_region; refine Z0 ?_; refine Z46 ?_; refine Z2 ?_; apply w_nil)
      exact wx_loopG ((k + 1, acc ++ [a], _, _)) H.swap Cu Lk Ks (by dsimp only; omega) ⟨by dsimp only; omega, by
        dsimp only
        rw [hacc, erase_step ha, if_neg (by omega)]⟩
    · obtain ⟨a, ha⟩ := getq (xs := x.body) (k := k) (by omega)
      exact wx_loopG ((k + 1, acc, _, _)) H Cu Lk Ks (by dsimp only; omega) ⟨by dsimp only; omega, by
        dsimp only
        rw [hacc, erase_step ha, if_pos (by omega)]⟩
    · have e : acc = x.body.eraseIdx i := by rw [hacc, List.take_of_length_le (by omega)]
      subst e
      have hle := List.length_eraseIdx_le x.body i
      (refine wx_freezeRow H HA Lk rfl rfl Lt ?_; intro c H HA)
      exact wx_cutE vr H Cu Lk Ks
  intro vB g c H HA
  (refine wc_cutE (fun v => [(1, .int .i64 i), (2, p), (4, .pointer (some ⟨b4, 0, none⟩)), (5, .pointer (some ⟨b5, 0, none⟩))]) (fun v => [.obj b5 (.cells (Cl.cs ⟨x.head, [], []⟩ (w0) (vB) (v)).toArray 30 (0, 0)), .obj b4 (.cells (Cl.cs ⟨⟨Tn, ES, []⟩, [], []⟩ (.slice none 0 0) (.slice none 0 0) (.slice none 0 0)).toArray 30 (0, 0))]) (fun v c => Sl v (if i < x.body.length then x.tests else (x.tests).eraseIdx (i - x.body.length)) c) H HA ?_ ?_)
  · have H := H.nilR Ts 79 7
    (apply wc_seq; apply wc_region; refine Z2 ?_; apply w_nil; apply wx_next; apply wc_block)
    refine wc_loopG (σ := Nat × List Ts × Value × List (List Value)) (fun y => x.tests.length - y.1) (fun y => [(1, .int .i64 i), (2, p), (4, .pointer (some ⟨b4, 0, none⟩)), (5, .pointer (some ⟨b5, 0, none⟩)), (7, .int .i64 y.1)])
      (fun y => y.1 ≤ x.tests.length ∧ y.2.1 = (if i < x.body.length then x.tests.take y.1 else (x.tests.take y.1).eraseIdx (i - x.body.length)))
      (fun y => [.row y.2.2.1 79 7 y.2.1.length y.2.2.2.flatten, .obj b5 (.cells (Cl.cs ⟨x.head, [], []⟩ (w0) (vB) (y.2.2.1)).toArray 30 (0, 0)), .obj b4 (.cells (Cl.cs ⟨⟨Tn, ES, []⟩, [], []⟩ (.slice none 0 0) (.slice none 0 0) (.slice none 0 0)).toArray 30 (0, 0))])
      (fun y c => Vals y.2.2.2 y.2.1 c) (0, [], .slice none 0 0, []) H HA (Vals.nil _) Ks ⟨Nat.zero_le _, by split <;> rfl⟩ ?_
    intro y g c hp H HA
    obtain ⟨k, acc, vr, vals⟩ := y
    obtain ⟨hk, hacc⟩ := hp
    dsimp only at hk hacc H HA ⊢
    have hlen : acc.length ≤ k := by
      rw [hacc]
      split
      · simp; omega
      · have := List.length_eraseIdx_le (x.tests.take k) (i - x.body.length); simp at this; omega
    have ei : ((x.body.length : Int) + (k : Int)) = ((x.body.length + k : Nat) : Int) := by omega
    (focus (apply wc_seq; apply wc_seq; apply wc_region; refine Z0 ?_; refine Z35 HA fun vx HA => ?_; refine Z37 HA fun vx HA => ?_; refine Z45 ?_; refine Z93 (fun hq => ?_) fun hq => ?_; apply w_nil; apply wx_next; refine Z18 ?_; apply wc_skip; apply wx_next; apply wc_seq; apply wc_block; apply wc_seq; apply wc_region; refine Z35 HA fun vx HA => ?_; refine Z37 HA fun vx HA => ?_; refine Z45 ?_; refine Z0 ?_; refine Z48 ?_; refine Z0 ?_; refine Z94 (fun hq => ?_) fun hq => ?_; apply w_nil; apply wx_next; refine Z18 ?_; rotate_left; apply w_nil; apply wx_next; refine Z19 ?_; apply wc_skip; apply wx_norm_block; apply wx_next; apply wc_region; refine Z0 ?_; refine Z46 ?_; refine Z2 ?_; apply w_nil; rotate_left; apply w_nil; apply wx_next; refine Z19 ?_; apply wc_exit; apply wx_exit_then; apply wx_exit_then; apply wx_exit_same; rotate_left))
    · obtain ⟨a, ha⟩ := getq (xs := x.tests) (k := k) (by omega)
      (refine dw_start H HA ?_)
      (repeat (refine Dc ?_))
      (refine dw_done mixed H HA rfl (by kernel_rfl) ?_; clear H HA; intro c H HA; (repeat (first | (intro vx hx; have hx2 : vx = _ := hx; clear hx; subst hx2) | (intro vx hx; have HA := HA.addSF hx; clear hx) | (intro vx hx; have HA := HA.add hx; clear hx) | intro vx)); change W _ _ _ _ _ _ _)
      (refine Z59 fun vx c valsx H HA => ?_; refine Z3 ?_; refine Z77 fun c H HA => ?_; apply w_nil; apply wx_norm_block; apply wx_next; apply wc_region; refine Z0 ?_; refine Z46 ?_; refine Z2 ?_; apply w_nil)
      exact wx_loopG ((k + 1, acc ++ [a], _, _)) H.swap Cu Lk Ks (by dsimp only; omega) ⟨by dsimp only; omega, by
        dsimp only
        rw [hacc]
        split
        · rw [List.take_add_one, ha]; rfl
        · rw [erase_step ha, if_neg (by omega)]⟩
    · obtain ⟨a, ha⟩ := getq (xs := x.tests) (k := k) (by omega)
      exact wx_loopG ((k + 1, acc, _, _)) H Cu Lk Ks (by dsimp only; omega) ⟨by dsimp only; omega, by
        dsimp only
        rw [hacc, if_neg (by omega), if_neg (by omega), erase_step ha, if_pos (by omega)]⟩
    · have e : acc = (if i < x.body.length then x.tests else (x.tests).eraseIdx (i - x.body.length)) := by rw [hacc, List.take_of_length_le (by omega)]
      have hle : acc.length < 1099511627776 := by omega
      (refine wx_freezeRow H HA Lk rfl rfl Lt ?_; intro c H HA)
      rw [e] at HA
      exact wx_cutE vr H Cu Lk Ks
  intro vt g c H HA
  have hw : x.without i = ⟨x.head, x.body.eraseIdx i, (if i < x.body.length then x.tests else (x.tests).eraseIdx (i - x.body.length))⟩ := by
    unfold Cl.without
    split
    · rfl
    · have e : x.body.eraseIdx i = x.body := List.eraseIdx_of_length_le (by omega)
      rw [e]
  have hwt : (x.without i).terms.length < 1099511627776 := by
    have h1 := without_terms_len x i
    have h2 := hx.terms_len
    omega
  (apply wc_seq; apply wc_region; refine Z42 ?_)
  (refine s_call rfl rfl H HA (ref03_Normal (x.without i) _ _ (by rw [hw]; exact ⟨_, rfl, w0, vB, vt, rfl, Lk, Lk, Lk⟩) hwt) ?_; intro vx c H HA)
  obtain ⟨cs9, rfl, z0, z1, z2, rfl, k0, k1, k2⟩ := HA.h.1
  have HA := ((HA.cut.add k0).add k1).add k2
  have H := H.swap
  (refine Z74 fun c H HA => ?_; apply w_nil; apply wx_next; apply wc_ret)
  exact ret_fn H hm (outsR1 Tryz.results35 (RV.agg rfl H Ow Rc)) ⟨_, rfl, z0, z1, z2, rfl, Lk, Lk, Lk⟩
end Go.Proofs.YthkdggoohpgnnaaGreatDoor
/- A new row of nothing; what is put behind it, cell by cell. -/
namespace Go.Wk
open Go Go.RowKit
/-- A slice that reads as a list, its cells told. -/
def SlV {α : Type} [Enc α] (ys : List α) (vals : List (List Value)) (v : Value) (c : Cx) : Prop :=
  Vals vals ys c ∧ ∃ ad cap, v = .slice ad ys.length cap ∧ ys.length ≤ cap ∧ (ys ≠ [] → ∃ b o, ad = some ⟨b, o, none⟩ ∧ ∀ j u, vals.flatten[j]? = some u → At ⟨b, o + j, none⟩ u c)
instance SlV.mono {α : Type} [Enc α] (ys : List α) (vals : List (List Value)) (v : Value) : Mono (SlV ys vals v) :=
  ⟨fun h ⟨h0, ad, cap, h1, h2, h3⟩ => ⟨Mono.mono h h0, ad, cap, h1, h2, fun hne => let ⟨b, o, e, h4⟩ := h3 hne; ⟨b, o, e, fun j u hj => Mono.mono h (h4 j u hj)⟩⟩⟩
theorem SlV.of {α : Type} [Enc α] {v : Value} {ys : List α} {c : Cx} (h : Sl v ys c) : ∃ vals, SlV ys vals v c := by
  obtain ⟨vals, ad, cap, h1, h2, h3, h4⟩ := h.vals
  exact ⟨vals, h1, ad, cap, h2, h3, h4⟩
section
variable {P : Program} {ops : Array Oper} {Q : Exit → Act → World → Prop} {n : Nat} {f : Nat → Value} {rest : List Oper} {ty : TypeId} {ps : String} {af : Array Edge} {d : Tmp}
variable {c0 c : Cx} {L : List Res} {A : Cx → Prop}
theorem s_appV {α : Type} {iE : Enc α} {T e : TypeId} {z : Value} {kk bb m : Nat} {x y : Operand} {v v2 : Value} {ys : List α} {vals : List (List Value)} {cur : List Value} (hn : Nat.blt d n = true) [SlT P T e] [TyI P e z kk bb] (hx : opd f x = v) (hy : opd f y = v2)
    (HS : SlV ys vals v2 c) (hk : Enc.k α = kk) (hz : z.cells.size = kk) (hbb : Nat.ble bb 128 = true) (hlim : m + ys.length < LIM)
    (H : Owns c0 (.row v e kk m cur :: L) c) (HA : Hd A c) (hMA : Mono A) (k : ∀ v' c', Owns c0 (.row v' e kk (m + ys.length) (cur ++ vals.flatten) :: L) c' → Hd A c' → W P ops Q rest n (upd f d v') c'.w) :
    W P ops Q (⟨some d, .call ⟨.builtin .append, #[x, y], #[T, T]⟩, ty, ps, af, none⟩ :: rest) n f c.w := by
  have hown := (H.res _ (List.mem_cons_self ..)).1
  obtain ⟨hvals, ad, cap, hv2, hcap, hcell⟩ := HS
  have hlen := flatten_len _ hvals.len
  obtain ⟨v', w', hr, ho, hg, hb⟩ := run_append_own2 (P := P) (T := T) (x := v2) (m2 := ys.length) (news := vals.flatten) hz (by rw [← hk]; exact Enc.pos) (Nat.le_of_ble_eq_true hbb) hown (by
    by_cases hne : ys = []
    · subst hne
      have hvn : vals = [] := List.eq_nil_of_length_eq_zero hvals.1
      subst hvn
      cases ad with
      | none => exact .inr ⟨cap, hv2, rfl, rfl⟩
      | some a => exact .inl ⟨a, cap, hv2, fun j u hu => by simp at hu⟩
    · obtain ⟨b, o, ha, hc⟩ := hcell hne
      subst ha
      exact .inl ⟨_, cap, hv2, fun j u hu => by rw [Addr.add_lit]; exact (hc j u hu).1⟩) (by rw [hlen, hvals.1, hk]) hvals.one hlim ty
  obtain ⟨M', hle, hO⟩ := H.appended (run_ok_drawn hr) ho hg hb
  refine st_val hn (w' := w') ?_ (k v' ⟨w', M'⟩ (by simpa using hO) (HA.to hle))
  simp [execOp, resolve, invoke, builtin, hx, hy, hr]
/-- []T{} as a row of the call's own. -/
theorem s_bs0O {T e : TypeId} {z : Value} {kk bb : Nat} (hn : Nat.blt d n = true) [SlT P T e] [TyI P e z kk bb]
    (H : Owns c0 L c) (HA : Hd A c) (hMA : Mono A) (k : ∀ v c', Owns c0 (.row v e kk 0 [] :: L) c' → Hd A c' → W P ops Q rest n (upd f d v) c'.w) : W P ops Q (⟨some d, .buildSlice T 0 #[], ty, ps, af, none⟩ :: rest) n f c.w := by
  obtain ⟨i, hi, hiz, his, _⟩ := TyI.h (P := P) (e := e)
  have hO := World.ownsRow_lit (base := 0) (e := e) (size := kk) c.w #[] 0 (Nat.zero_le _) (by decide) (by simp)
  have hN := H.new (.cells #[] e (0, 0)) rfl
  have hT := hN.2.turn (r' := .row (.slice (some ⟨c.w.heap.size, 0, none⟩) 0 0) e kk 0 []) (w' := c.w.alloc (.cells #[] e (0, 0))) rfl rfl rfl (Nat.le_refl _) (Nat.le_refl _) (fun _ _ _ => rfl) (by simpa [Res.holds] using hO) (fun b hb => .inl hb)
  have hle := hN.1.trans hT.1
  refine st_val hn (w' := c.w.alloc (.cells #[] e (0, 0))) (v := .slice (some ⟨c.w.heap.size, 0, none⟩) 0 0) ?_ (k _ ⟨_, _⟩ (by simpa using hT.2) (HA.to hle))
  simp [execOp, Instr.buildSlice, run_underlying (SlT.h (P := P) (T := T)), sizeOf, typeInfo, hi, newRow, Instr.fill]
  rw [Array.eq_empty_of_size_eq_zero (xs := Array.map _ (Array.range 0)) (by simp)]
/-- A block of the call's own that will not turn any more. -/
theorem wc_freezeObj {x : Code} {b : Nat} {cs : List Value} {T : TypeId} {fr : Nat × Nat} (H : Owns c0 (.obj b (.cells cs.toArray T fr) :: L) c) (HA : Hd A c) [Mono A] (k : ∀ c', Owns c0 L c' → Hd (fun c => Box b cs c ∧ A c) c' → WC P x Q n f c'.w) : WC P x Q n f c.w :=
  have h := H.freeze
  k ⟨c.w, fun x => c.M x ∧ (Res.obj b (.cells cs.toArray T fr)).blk ≠ some x⟩ h.2 ⟨⟨⟨⟨T, fr, (H.res _ (List.mem_cons_self ..)).1⟩, fun h2 => h2.2 rfl⟩, Mono.mono h.1 HA.h⟩⟩
end
end Go.Wk
/- SubsumeOrder: what its function answers. -/
namespace Go.Wk
theorem madeT_sm {t : Tm} : (madeT t).sm := by
  rcases madeT_cv t with h | h
  · exact isConst_sm h
  · exact isVar_sm h
end Go.Wk
namespace Go.Proofs.YthkdggoohpgnnaaGreatDoor
open Go Go.Wk
set_option maxHeartbeats 4000000 in
theorem law_Order (x0 x1 x2 : Cl) (ts : List Tm) (v0 v1 v2 v3 : Value) (c : Cx) (h0 : Ag x0 v0 c) (h1 : Ag x1 v1 c) (h2 : Ag x2 v2 c) (h3 : Sl v3 ts c) (s0 : x0.sm) (s1 : x1.sm) (s2 : x2.sm) (hts : ∀ t ∈ ts, t.sm) (hlen : ts.length ≤ 1048576) (hg : GlobOk c) :
    Cn Tryz.prog 6 [v0, v1, v2, v3] c (fun r _ => r = .bool true) := by
  refine Cn.of Tryz.func6 Tryz.ntmps6 rfl rfl fun hm H HA => ?_
  have HA := ((((HA.add h0).add h1).add h2).add h3).add hg
  (apply wc_seq; apply wc_region; refine Z40 fun vx c H HA => ?_; refine Z40 fun vx c H HA => ?_; refine Z40 fun vx c H HA => ?_; refine Z2 ?_; apply w_nil; apply wx_next; apply wc_seq; apply wc_region; refine Z39 HA fun vx HA => ?_)
  (refine s_call rfl rfl H HA (ref03_Made x0 _ _ Lk s0) ?_; intro vx c H HA)
  have oka := madeC_ok x0
  generalize madeC x0 = a at *
  obtain ⟨csa, rfl, a0, a1, a2, rfl, ka0, ka1, ka2⟩ := HA.h.1
  obtain ⟨aB, kaB⟩ := SlV.of ka1
  obtain ⟨aT, kaT⟩ := SlV.of ka2
  have HA := (((((HA.cut.add ka0).add ka1).add ka2).add kaB).add kaT).add (show Ag a (.agg (Cl.cs a a0 a1 a2).toArray) c from ⟨_, rfl, a0, a1, a2, rfl, ka0, ka1, ka2⟩)
  (refine Z61 fun bx c H HA => ?_; refine Z74 fun c H HA => ?_; apply w_nil; apply wx_next)
  (obtain ⟨b9, rfl⟩ : ∃ x, x = bx := ⟨_, rfl⟩)
  (refine wc_freezeObj H HA ?_; intro c H HA)
  (apply wc_seq; apply wc_region; refine Z39 HA fun vx HA => ?_)
  (refine s_call rfl rfl H HA (ref03_Made x1 _ _ Lk s1) ?_; intro vx c H HA)
  have okb := madeC_ok x1
  generalize madeC x1 = b at *
  obtain ⟨csb, rfl, b0, b1, b2, rfl, kb0, kb1, kb2⟩ := HA.h.1
  obtain ⟨bB, kbB⟩ := SlV.of kb1
  obtain ⟨bT, kbT⟩ := SlV.of kb2
  have HA := (((((HA.cut.add kb0).add kb1).add kb2).add kbB).add kbT).add (show Ag b (.agg (Cl.cs b b0 b1 b2).toArray) c from ⟨_, rfl, b0, b1, b2, rfl, kb0, kb1, kb2⟩)
  (refine Z61 fun bx c H HA => ?_; refine Z74 fun c H HA => ?_; apply w_nil; apply wx_next)
  (obtain ⟨b10, rfl⟩ : ∃ x, x = bx := ⟨_, rfl⟩)
  (refine wc_freezeObj H HA ?_; intro c H HA)
  (apply wc_seq; apply wc_region; refine Z39 HA fun vx HA => ?_)
  (refine s_call rfl rfl H HA (ref03_Made x2 _ _ Lk s2) ?_; intro vx c H HA)
  have okd := madeC_ok x2
  generalize madeC x2 = d at *
  (refine Z61 fun bx c H HA => ?_)
  (obtain ⟨b11, rfl⟩ : ∃ x, x = bx := ⟨_, rfl⟩)
  (refine s_storeG (α := Cl) rfl rfl Lk rfl rfl H HA ?_; intro c H HA)
  generalize hp11 : (Value.pointer (some ⟨b11, 0, none⟩)) = p11 at HA ⊢
  have haa : (subs a a).isSome = true := subs_iff.2 (SubC.refl oka)
  (apply w_nil; apply wx_next; apply wc_seq; apply wc_seq; apply wc_region; refine Z7 ?_; refine Z7 ?_)
  (refine s_call rfl rfl H HA (Cn.imp (Post' := fun v _ => v = .bool true) (law_subsumes a a _ _ _ Lk Lk oka.fit oka.fit Lk) (fun v c' _ h => by rw [h, haa])) ?_; intro vx c H HP; have hvx := HP.h.1; have HA := HP.cut; subst hvx)
  (refine Z33 ?_; refine Z0 ?_; refine Z4 ?_)
  (refine s_call rfl rfl H HA (law_head _ Lk) ?_; intro vx c H HP; have hvx := HP.h.1; have HA := HP.cut; subst hvx)
  (refine Z4 ?_; refine Z33 ?_; refine Z30 ?_; apply w_nil; apply wx_next; refine Z19 ?_; apply wc_skip; apply wx_next)
  (refine wc_cutS [(3, v3), (9, .pointer (some ⟨b9, 0, none⟩)), (10, .pointer (some ⟨b10, 0, none⟩)), (11, p11)] H HA ?_ ?_)
  · (apply wc_seq; apply wc_region; refine Z7 ?_; refine Z7 ?_)
    cases hab : (subs a b).isSome
    · (refine s_call rfl rfl H HA (Cn.imp (Post' := fun v _ => v = .bool false) (law_subsumes a b _ _ _ Lk Lk oka.fit okb.fit Lk) (fun v c' _ h => by rw [h, hab])) ?_; intro vx c H HP; have hvx := HP.h.1; have HA := HP.cut; subst hvx)
      (refine Z0 ?_; refine Z5 ?_; refine Z5 ?_; refine Z5 ?_; refine Z30 ?_; refine Z0 ?_; refine Z5 ?_; refine Z5 ?_; refine Z5 ?_; refine Z5 ?_; refine Z30 ?_; apply w_nil; apply wx_next; refine Z19 ?_; apply wc_skip)
      exact wx_cutK H Cu Ks
    · (refine s_call rfl rfl H HA (Cn.imp (Post' := fun v _ => v = .bool true) (law_subsumes a b _ _ _ Lk Lk oka.fit okb.fit Lk) (fun v c' _ h => by rw [h, hab])) ?_; intro vx c H HP; have hvx := HP.h.1; have HA := HP.cut; subst hvx)
      (refine Z0 ?_; refine Z4 ?_; refine Z7 ?_; refine Z4 ?_; refine Z39 HA fun vx HA => ?_; refine Z4 ?_)
      cases hbd : (subs b d).isSome
      · (refine s_call rfl rfl H HA (Cn.imp (Post' := fun v _ => v = .bool false) (law_subsumes b d _ _ _ Lk Lk okb.fit okd.fit Lk) (fun v c' _ h => by rw [h, hbd])) ?_; intro vx c H HP; have hvx := HP.h.1; have HA := HP.cut; subst hvx)
        (refine Z8 ?_; refine Z0 ?_; refine Z5 ?_; refine Z5 ?_; refine Z5 ?_; refine Z5 ?_; refine Z30 ?_; apply w_nil; apply wx_next; refine Z19 ?_; apply wc_skip)
        exact wx_cutK H Cu Ks
      · (refine s_call rfl rfl H HA (Cn.imp (Post' := fun v _ => v = .bool true) (law_subsumes b d _ _ _ Lk Lk okb.fit okd.fit Lk) (fun v c' _ h => by rw [h, hbd])) ?_; intro vx c H HP; have hvx := HP.h.1; have HA := HP.cut; subst hvx)
        have had : (subs a d).isSome = true := subs_iff.2 ((subs_iff.1 hab).trans (subs_iff.1 hbd))
        (refine Z8 ?_; refine Z0 ?_; refine Z4 ?_; refine Z7 ?_; refine Z4 ?_; refine Z39 HA fun vx HA => ?_; refine Z4 ?_)
        (refine s_call rfl rfl H HA (Cn.imp (Post' := fun v _ => v = .bool true) (law_subsumes a d _ _ _ Lk Lk oka.fit okd.fit Lk) (fun v c' _ h => by rw [h, had])) ?_; intro vx c H HP; have hvx := HP.h.1; have HA := HP.cut; subst hvx)
        (refine Z4 ?_; refine Z33 ?_; refine Z8 ?_; apply w_nil; apply wx_next; refine Z19 ?_; apply wc_skip)
        exact wx_cutK H Cu Ks
  intro g c H HA
  have H := H.nilR Tm 23 3
  (apply wc_seq; apply wc_region; refine Z2 ?_; apply w_nil; apply wx_next; apply wc_seq; apply wc_seq; apply wc_region; refine Z2 ?_; apply w_nil; apply wx_next; apply wc_block)
  refine wc_loopG (σ := Nat × List Tm × Value × List (List Value)) (fun x => ts.length - x.1) (fun x => [(3, v3), (9, .pointer (some ⟨b9, 0, none⟩)), (10, .pointer (some ⟨b10, 0, none⟩)), (12, x.2.2.1), (13, .int .i64 x.1)])
    (fun x => x.1 ≤ ts.length ∧ x.2.1 = (ts.take x.1).map madeT)
    (fun x => [.row x.2.2.1 23 3 x.2.1.length x.2.2.2.flatten])
    (fun x c => Vals x.2.2.2 x.2.1 c) (0, [], .slice none 0 0, []) H HA (Vals.nil _) Ks ⟨Nat.zero_le _, rfl⟩ ?_
  intro x g c hp H HA
  obtain ⟨k, acc, vr, vals⟩ := x
  obtain ⟨hk, hacc⟩ := hp
  dsimp only at hk hacc H HA ⊢
  have hlen : acc.length = k := by rw [hacc]; simp; omega
  (focus (apply wc_seq; apply wc_seq; apply wc_region; refine Z0 ?_; refine Z0 ?_; refine Z45 ?_; refine Z93 (fun hq => ?_) fun hq => ?_; apply w_nil; apply wx_next; refine Z18 ?_; apply wc_skip; apply wx_next; apply wc_seq; apply wc_block; apply wc_seq; apply wc_region; refine Z0 ?_; refine Z0 ?_; rotate_left; apply w_nil; apply wx_next; refine Z19 ?_; apply wc_exit; apply wx_exit_then; apply wx_exit_then; apply wx_exit_same; apply wx_next; apply wc_seq; apply wc_region; refine Z7 ?_; refine Z0 ?_; rotate_left))
  · obtain ⟨t, ht⟩ := getq (xs := ts) (k := k) (by omega)
    have hs : t.sm := hts t (List.mem_of_getElem? ht)
    (refine Z34 HA fun vx HA => ?_; refine Z38 ?_; refine Z61 fun bx c H HA => ?_; refine Z74 fun c H HA => ?_; apply w_nil; apply wx_next)
    (obtain ⟨b14, rfl⟩ : ∃ x, x = bx := ⟨_, rfl⟩)
    (skip)
    (refine wc_cutK [(3, v3), (9, .pointer (some ⟨b9, 0, none⟩)), (10, .pointer (some ⟨b10, 0, none⟩)), (12, vr), (13, .int .i64 k), (14, .pointer (some ⟨b14, 0, none⟩))] [.obj b14 (.cells (Tm.cs (madeT t)).toArray 23 (0, 0)), .row vr 23 3 acc.length vals.flatten] H HA ?_ ?_)
    · (apply wc_seq; apply wc_region; refine Z42 ?_)
      (refine s_call rfl rfl H HA (ref02_Variable t _) ?_; intro vx c H HP; have hvx := HP.h.1; have HA := HP.cut; subst hvx)
      cases hv : t.isVar
      · (refine Z33 ?_; apply w_nil; apply wx_next; refine Z18 ?_; apply wc_region; refine Z42 ?_)
        (refine s_call rfl rfl H HA (ref03_MadeConst t _ hs) ?_; intro vx c H HP; have hvx := HP.h.1; have HA := HP.cut; subst hvx)
        (refine Z74 fun c H HA => ?_; apply w_nil)
        have e : madeT t = constM t := by rw [madeT, hv]; rfl
        rw [e]
        exact wx_cutK H Cu Ks
      · (refine Z33 ?_; apply w_nil; apply wx_next; refine Z19 ?_; apply wc_skip)
        have e : madeT t = t := by rw [madeT, hv]; rfl
        rw [e]
        exact wx_cutK H Cu Ks
    intro g c H HA
    have H := H.swap
    (apply wc_region; refine Z0 ?_; refine Z42 ?_)
    (apply s_bs1D (u := (madeT t)); exact rfl; exact rfl; exact rfl; exact rfl; exact rfl; exact rfl; exact H; exact HA; exact inferInstance; intro vx c H HA)
    (refine Z59 fun vx c valsx H HA => ?_; refine Z2 ?_; apply w_nil; apply wx_norm_block; apply wx_next; apply wc_region; refine Z0 ?_; refine Z46 ?_; refine Z2 ?_; apply w_nil)
    exact wx_loopG ((k + 1, acc ++ [madeT t], _, _)) (H.sub (.cons_cons _ (.cons _ .slnil))) Cu Lk Ks (by dsimp only; omega) ⟨by dsimp only; omega, by
      dsimp only
      rw [hacc, List.take_add_one, ht]
      simp⟩
  · have hl : acc = ts.map madeT := by rw [hacc, List.take_of_length_le (by omega)]
    subst hl
    have hmsm : ∀ u ∈ ts.map madeT, u.sm := fun u hu => by
      obtain ⟨t, _, rfl⟩ := List.mem_map.1 hu
      exact madeT_sm
    have hil : (a.map (instT (ts.map madeT))).terms.length < 1099511627776 := by rw [Cl.map_terms, List.length_map]; exact oka.fit.2
    have hif : (a.map (instT (ts.map madeT))).normal.fit := ⟨map_smC (fun _ ht => numT_sm _ ht) (map_smC (fun _ ht => instT_sm hmsm ht) oka.fit.1), by rw [normal_terms, List.length_map]; exact hil⟩
    have hsub : (a.map (instT (ts.map madeT))).normal.check = 0 → (subs a (a.map (instT (ts.map madeT))).normal).isSome = true := fun h => subs_iff.2 (subC_inst oka ts (Cl.check_ok.1 h))
    (refine w_freezeRow H HA Lk rfl rfl Lt ?_; intro c H HA)
    (refine s_call rfl rfl H HA (ref03_Instance a _ (ts.map madeT) _ _ Lk Lk oka.fit.2) ?_; intro vx c H HA)
    (skip)
    (refine s_call rfl rfl H HA (ref03_Normal (a.map (instT (ts.map madeT))) _ _ Lk hil) ?_; intro vx c H HA)
    generalize (a.map (instT (ts.map madeT))).normal = y at *
    (refine Z61 fun bx c H HA => ?_)
    (obtain ⟨b15, rfl⟩ : ∃ x, x = bx := ⟨_, rfl⟩)
    (refine s_storeG (α := Cl) rfl rfl Lk rfl rfl H HA ?_; intro c H HA)
    (apply w_nil; apply wx_next)
    (refine wc_cutS [(9, .pointer (some ⟨b9, 0, none⟩)), (10, .pointer (some ⟨b10, 0, none⟩))] H HA ?_ ?_)
    · (apply wc_seq; apply wc_region; refine Z39 HA fun vx HA => ?_)
      (refine s_call rfl rfl H HA (ref03_Check y _ _ Lk hif) ?_; intro vx c H HP; have hvx := HP.h.1; have HA := HP.cut; subst hvx)
      by_cases hy : y.check = 0
      · have hs := hsub hy
        (refine Z80 ?_; refine Z0 ?_; refine Z4 ?_; refine Z7 ?_; refine Z4 ?_; refine Z39 HA fun vx HA => ?_; refine Z4 ?_)
        (refine s_call rfl rfl H HA (Cn.imp (Post' := fun v _ => v = .bool true) (law_subsumes a y _ _ _ Lk Lk oka.fit hif Lk) (fun v c' _ h => by rw [h, hs])) ?_; intro vx c H HP; have hvx := HP.h.1; have HA := HP.cut; subst hvx)
        (refine Z4 ?_; refine Z33 ?_; refine Z8 ?_; apply w_nil; apply wx_next; refine Z19 ?_; apply wc_skip)
        exact wx_cutK H Cu Ks
      · (refine Z80 ?_; refine Z0 ?_; refine Z5 ?_; refine Z5 ?_; refine Z5 ?_; refine Z5 ?_; refine Z30 ?_; apply w_nil; apply wx_next; refine Z19 ?_; apply wc_skip)
        exact wx_cutK H Cu Ks
    intro g c H HA
    have la := oka.b8
    have lb := okb.b8
    have ta := oka.t8
    have tb := okb.t8
    apply wc_seq
    refine dw_start H HA ?_
    (refine Dc ?_)
    (refine Dc ?_)
    refine dw_cons (s := .row 26 5 0 []) ?_ inferInstance ?_
    · (intro B _ Lx c H HA; (repeat (first | (intro vx hx; have hx2 : vx = _ := hx; clear hx; subst hx2) | (intro vx hx; have HA := HA.addSF hx; clear hx) | (intro vx hx; have HA := HA.add hx; clear hx) | intro vx)); change W _ _ _ _ _ _ _)
      refine s_bs0O rfl H HA inferInstance ?_
      intro vx c H HA
      exact w_nil (pq_row H Cu)
    (refine Dc ?_)
    (refine Dc ?_)
    refine dw_consE (pv := some 2) (r := .row undef 0 0 0 []) (sel := id) (S := fun _ c => Tt c) (e := 26) (kk := 5) (m := 0 + a.body.length) (xs := [] ++ aB.flatten) ?_ (fun _ => inferInstance) ?_
    · (intro B _ Lx c HA; (repeat (first | (intro vx hx; have hx2 : vx = _ := hx; clear hx; subst hx2) | (intro vx hx; have HA := HA.addSF hx; clear hx) | (intro vx hx; skip; have HA := HA.add hx; clear hx) | (intro vx; have hvx2 : Go.Value := vx; clear hvx2))); (first | intro H | (have H := HA.h.1; have HA := HA.cut)); change W _ _ _ _ _ _ _)
      refine s_appV rfl rfl rfl (Lk : SlV a.body aB a1 _) rfl rfl rfl Lt H HA inferInstance ?_
      intro vx c H HA
      exact w_nil (pq_eff H Cu True.intro)
    (refine Dc ?_)
    (refine Dc ?_)
    refine dw_consE (pv := some 5) (r := .row undef 0 0 0 []) (sel := fun _ => .slice none 0 0) (S := fun v c => Sl v (a.body ++ b.body) c) (e := 26) (kk := 5) (m := 0) (xs := []) ?_ (fun _ => inferInstance) ?_
    · (intro B _ Lx c HA; (repeat (first | (intro vx hx; have hx2 : vx = _ := hx; clear hx; subst hx2) | (intro vx hx; have HA := HA.addSF hx; clear hx) | (intro vx hx; skip; have HA := HA.add hx; clear hx) | (intro vx; have hvx2 : Go.Value := vx; clear hvx2))); (first | intro H | (have H := HA.h.1; have HA := HA.cut)); change W _ _ _ _ _ _ _)
      refine s_appV rfl rfl rfl (Lk : SlV b.body bB b1 _) rfl rfl rfl Lt H HA inferInstance ?_
      intro vx c H HA
      have hV : Vals (aB ++ bB) (a.body ++ b.body) c := (Lk : SlV a.body aB a1 c).1.append (Lk : SlV b.body bB b1 c).1
      rw [show 0 + a.body.length + b.body.length = (a.body ++ b.body).length by simp, show [] ++ aB.flatten ++ bB.flatten = (aB ++ bB).flatten by simp] at H
      (refine w_freezeRow H HA hV rfl rfl Lt ?_; intro c H HA)
      exact w_nil (pq_eff (H.nilRow _ _) Cu HA.h.1)
    refine dw_cons (s := .row 79 7 0 []) ?_ inferInstance ?_
    · (intro B _ Lx c H HA; (repeat (first | (intro vx hx; have hx2 : vx = _ := hx; clear hx; subst hx2) | (intro vx hx; have HA := HA.addSF hx; clear hx) | (intro vx hx; have HA := HA.add hx; clear hx) | intro vx)); change W _ _ _ _ _ _ _)
      refine s_bs0O rfl H HA inferInstance ?_
      intro vx c H HA
      exact w_nil (pq_row H Cu)
    (refine Dc ?_)
    (refine Dc ?_)
    refine dw_consE (pv := some 9) (r := .row undef 0 0 0 []) (sel := id) (S := fun _ c => Tt c) (e := 79) (kk := 7) (m := 0 + a.tests.length) (xs := [] ++ aT.flatten) ?_ (fun _ => inferInstance) ?_
    · (intro B _ Lx c HA; (repeat (first | (intro vx hx; have hx2 : vx = _ := hx; clear hx; subst hx2) | (intro vx hx; have HA := HA.addSF hx; clear hx) | (intro vx hx; skip; have HA := HA.add hx; clear hx) | (intro vx; have hvx2 : Go.Value := vx; clear hvx2))); (first | intro H | (have H := HA.h.1; have HA := HA.cut)); change W _ _ _ _ _ _ _)
      refine s_appV rfl rfl rfl (Lk : SlV a.tests aT a2 _) rfl rfl rfl Lt H HA inferInstance ?_
      intro vx c H HA
      exact w_nil (pq_eff H Cu True.intro)
    (refine Dc ?_)
    (refine Dc ?_)
    refine dw_consE (pv := some 12) (r := .row undef 0 0 0 []) (sel := fun _ => .slice none 0 0) (S := fun v c => Sl v (a.tests ++ b.tests) c) (e := 79) (kk := 7) (m := 0) (xs := []) ?_ (fun _ => inferInstance) ?_
    · (intro B _ Lx c HA; (repeat (first | (intro vx hx; have hx2 : vx = _ := hx; clear hx; subst hx2) | (intro vx hx; have HA := HA.addSF hx; clear hx) | (intro vx hx; skip; have HA := HA.add hx; clear hx) | (intro vx; have hvx2 : Go.Value := vx; clear hvx2))); (first | intro H | (have H := HA.h.1; have HA := HA.cut)); change W _ _ _ _ _ _ _)
      refine s_appV rfl rfl rfl (Lk : SlV b.tests bT b2 _) rfl rfl rfl Lt H HA inferInstance ?_
      intro vx c H HA
      have hV : Vals (aT ++ bT) (a.tests ++ b.tests) c := (Lk : SlV a.tests aT a2 c).1.append (Lk : SlV b.tests bT b2 c).1
      rw [show 0 + a.tests.length + b.tests.length = (a.tests ++ b.tests).length by simp, show [] ++ aT.flatten ++ bT.flatten = (aT ++ bT).flatten by simp] at H
      (refine w_freezeRow H HA hV rfl rfl Lt ?_; intro c H HA)
      exact w_nil (pq_eff (H.nilRow _ _) Cu HA.h.1)
    (apply dw_cons; (focus ((intro B _ Lx c H HA; (repeat (first | (intro vx hx; have hx2 : vx = _ := hx; clear hx; subst hx2) | (intro vx hx; have HA := HA.addSF hx; clear hx) | (intro vx hx; have HA := HA.add hx; clear hx) | intro vx)); change W _ _ _ _ _ _ _); (apply s_build; exact rfl; (focus ((repeat (first | exact bld_nil | (apply bld_cons; (conv => lhs; whnf)))); done)); (focus ((repeat' (first | exact Fil.nil | apply Fil.take | apply Fil.skip | exact App.nil | apply App.cons | (have h := HA.h; (repeat (first | exact Cells.sl h.1 | exact Cells.sl h | replace h := h.2)); done) | exact Cells.lit rfl | exact rfl)); done))); exact w_nil (pq_rel (S := Ag (longer a b)) H Cu ⟨_, rfl, a0, _, _, rfl, Lk, Lk, Lk⟩))); exact inferInstance)
    (repeat (refine Dc ?_))
    refine dw_doneT mixed (I := []) (by kernel_rfl) H HA (by kernel_rfl) ?_
    clear H HA
    intro c HA
    intro u1 u2 k2 u3 k3 u4 u5 k5 u6 k6 u7 k7 b16 H
    have HA := ((HA.add k3).add k6).add k7
    have H : Owns _ [.row (.slice none 0 0) 26 5 0 [], .row (.slice none 0 0) 79 7 0 [], .obj b16 (.cells (Cl.cs ⟨⟨Tn, ES, []⟩, [], []⟩ (.slice none 0 0) (.slice none 0 0) (.slice none 0 0)).toArray 30 (0, 0))] c := H
    have H := H.sub (.cons _ (.cons _ (.cons_cons _ .slnil)))
    change W _ _ _ _ _ _ _
    have hll : (longer a b).terms.length < 1099511627776 := by
      have h1 := longer_terms a b
      have h2 := oka.terms_len
      have h3 := okb.terms_len
      omega
    have hlf : (longer a b).normal.fit := ⟨map_smC (fun _ ht => numT_sm _ ht) (longer_sm oka.sm okb.sm), by rw [normal_terms, List.length_map]; exact hll⟩
    have hsub2 : (longer a b).normal.check = 0 → (subs a (longer a b).normal).isSome = true := fun h => subs_iff.2 (subC_long b oka (Cl.check_ok.1 h))
    obtain ⟨cs7, rfl, w0, w1, w2, rfl, l0, l1, l2⟩ := k7
    have HA := ((HA.add l0).add l1).add l2
    (refine Z78 fun c H HA => ?_; apply w_nil; apply wx_next; apply wc_seq; apply wc_region; refine Z42 ?_)
    (refine s_call rfl rfl H HA (ref03_Normal (longer a b) _ _ ⟨_, rfl, w0, w1, w2, rfl, Lk, Lk, Lk⟩ hll) ?_; intro vx c H HA)
    generalize (longer a b).normal = z at *
    (skip)
    (refine s_storeG (α := Cl) rfl rfl Lk rfl rfl H HA ?_; intro c H HA)
    generalize hp16 : (Value.pointer (some ⟨b16, 0, none⟩)) = p16 at HA ⊢
    (apply w_nil; apply wx_next; apply wc_seq; apply wc_region; refine Z39 HA fun vx HA => ?_)
    (refine s_call rfl rfl H HA (ref03_Check z _ _ Lk hlf) ?_; intro vx c H HP; have hvx := HP.h.1; have HA := HP.cut; subst hvx)
    by_cases hz : z.check = 0
    · have hs := hsub2 hz
      (refine Z82 ?_; refine Z0 ?_; refine Z4 ?_; refine Z7 ?_; refine Z4 ?_; refine Z39 HA fun vx HA => ?_; refine Z4 ?_)
      (refine s_call rfl rfl H HA (Cn.imp (Post' := fun v _ => v = .bool true) (law_subsumes a z _ _ _ Lk Lk oka.fit hlf Lk) (fun v c' _ h => by rw [h, hs])) ?_; intro vx c H HP; have hvx := HP.h.1; have HA := HP.cut; subst hvx)
      (refine Z30 ?_; refine Z2 ?_; apply w_nil; apply wx_next; apply wc_ret)
      exact ret_fn H hm (outs1 Tryz.results6 Wh) rfl
    · (refine Z82 ?_; refine Z0 ?_; refine Z5 ?_; refine Z5 ?_; refine Z5 ?_; refine Z8 ?_; refine Z2 ?_; apply w_nil; apply wx_next; apply wc_ret)
      exact ret_fn H hm (outs1 Tryz.results6 Wh) rfl
end Go.Proofs.YthkdggoohpgnnaaGreatDoor
/- What an argument reads as, told as Lean data. -/
namespace Go.Proofs.YthkdggoohpgnnaaGreatDoor
open Go Go.Wk
theorem len3 {α : Type} {l : List α} (h : l.length = 3) : ∃ a b c, l = [a, b, c] := by
  match l, h with
  | [a, b, c], _ => exact ⟨a, b, c, rfl⟩
theorem len5 {α : Type} {l : List α} (h : l.length = 5) : ∃ a b c d e, l = [a, b, c, d, e] := by
  match l, h with
  | [a, b, c, d, e], _ => exact ⟨a, b, c, d, e, rfl⟩
theorem len7 {α : Type} {l : List α} (h : l.length = 7) : ∃ a b c d e f g, l = [a, b, c, d, e, f, g] := by
  match l, h with
  | [a, b, c, d, e, f, g], _ => exact ⟨a, b, c, d, e, f, g, rfl⟩
/-- Whatever reads of type T, within the bound, lies there as an α. -/
def Reads (P : Program) (T : TypeId) {α : Type} [Enc α] (bk : α → Nat) (ok : α → Prop) : Prop :=
  ∀ {H : Type} (enc : TypeId × Value → H) (w : World) (base : Nat) (sp : Nat → Bool) (held : Bool) (fuel : Nat) (cs : List Value) (x : DataW H × List MemPlace), DataW.trod enc P w base sp held fuel T cs = some x → Rows.uptoBulk x.1 ≤ 1048576 →
    ∃ a : α, Enc.Ok cs a ⟨w, fun _ => False⟩ ∧ ok a ∧ bk a ≤ Rows.uptoBulk x.1
theorem bulk_one {H : Type} (d : DataW H) : 1 ≤ Rows.uptoBulk d := by
  cases d with
  | lit l => cases l <;> simp [Rows.uptoBulk]
  | nil => simp [Rows.uptoBulk]
  | ptr d => simp [Rows.uptoBulk]
  | slice elems spare => simp [Rows.uptoBulk]
  | agg parts => simp [Rows.uptoBulk]
  | iface t d => simp [Rows.uptoBulk]
  | map entries => simp [Rows.uptoBulk]
  | held h => simp [Rows.uptoBulk]
theorem bulk_app {H : Type} (l r : List (DataW H)) : Rows.uptoBulkAll (l ++ r) = Rows.uptoBulkAll l + Rows.uptoBulkAll r := by
  induction l with
  | nil => simp [Rows.uptoBulkAll]
  | cons x l ih => simp only [List.cons_append, Rows.uptoBulkAll, ih]; omega
theorem reads_int {P : Program} {T : TypeId} (hu : P.underlying T = some (.int .i64)) : Reads P T (fun _ : Int => 1) (fun _ => True) := by
  intro H enc w base sp held fuel cs x h _
  obtain ⟨n, rfl, rfl, _⟩ := DataW.trod_int hu h
  exact ⟨n, rfl, trivial, by simp [Rows.uptoBulk]⟩
def strOk (s : ByteArray) : Prop := s.size < 4611686018427387904
theorem reads_string {P : Program} {T : TypeId} (hu : P.underlying T = some .string) : Reads P T (fun _ : ByteArray => 1) strOk := by
  intro H enc w base sp held fuel cs x h hb
  obtain ⟨s, rfl, rfl, _⟩ := DataW.trod_string hu h
  refine ⟨s, rfl, ?_, by simp [Rows.uptoBulk]⟩
  unfold strOk
  have : s.data.toList.length = s.size := Array.length_toList
  simp only [Rows.uptoBulk] at hb
  omega
theorem choose_list {α H : Type} {bk : α → Nat} {D : Nat → DataW H} {p : Nat → α → Prop} : ∀ (m : Nat), (∀ i, i < m → ∃ q, p i q ∧ bk q ≤ Rows.uptoBulk (D i)) →
    ∃ l : List α, l.length = m ∧ (∀ i q, l[i]? = some q → p i q) ∧ (l.map bk).sum ≤ Rows.uptoBulkAll ((List.range m).map D) ∧ m ≤ Rows.uptoBulkAll ((List.range m).map D)
  | 0, _ => ⟨[], rfl, fun i q h => by simp at h, by simp, by simp⟩
  | m + 1, h => by
    obtain ⟨l, h1, h2, h3, h4⟩ := choose_list m fun i hi => h i (by omega)
    obtain ⟨q, hq, hb⟩ := h m (by omega)
    have hone := bulk_one (D m)
    refine ⟨l ++ [q], by simp [h1], fun i r hr => ?_, ?_, ?_⟩
    · by_cases hi : i < l.length
      · rw [List.getElem?_append_left hi] at hr
        exact h2 i r hr
      · rw [List.getElem?_append_right (by omega)] at hr
        have hi' : i = m := by
          have := (List.getElem?_eq_some_iff.1 hr).1
          simp at this
          omega
        subst hi'
        simp [h1] at hr
        subst hr
        exact hq
    · rw [List.range_succ, List.map_append (f := D), bulk_app]
      simp [Rows.uptoBulkAll]
      omega
    · rw [List.range_succ, List.map_append (f := D), bulk_app]
      simp [Rows.uptoBulkAll]
      omega
theorem bulk_mem {H : Type} {D : Nat → DataW H} {i m : Nat} (h : i < m) : Rows.uptoBulk (D i) ≤ Rows.uptoBulkAll ((List.range m).map D) := by
  induction m with
  | zero => omega
  | succ m ih =>
    rw [List.range_succ, List.map_append, bulk_app]
    by_cases e : i = m
    · subst e; simp [Rows.uptoBulkAll]
    · have := ih (by omega)
      omega
theorem reads_slice {P : Program} {T e : TypeId} {α : Type} [Enc α] {bk : α → Nat} {ok : α → Prop} (hu : P.underlying T = some (.slice e)) (hk : P.cellsOf e = Enc.k α) (hr : Reads P e bk ok) : Reads P T (fun l : List α => (l.map bk).sum + 1) (fun l => ∀ a ∈ l, ok a) := by
  intro H enc w base sp held fuel cs x h hb
  rcases Deep.open_slice hu h with ⟨rfl, rfl⟩ | ⟨a, len, cap, m, n, D, Pl, rfl, _, hl, _, hmm, rfl, hx⟩
  · exact ⟨[], ⟨_, rfl, Sl.nil _⟩, (fun a h => by cases h), by simp [Rows.uptoBulk]⟩
  have hlm : len ≤ m := by rw [hmm]; split <;> omega
  simp only [Rows.uptoBulk] at hb ⊢
  obtain ⟨l, h1, h2, h3, h4⟩ := choose_list (bk := bk) (D := D) (p := fun i q => ok q ∧ ∃ cs', w.cells? base (a.add (i * P.cellsOf e)) (P.cellsOf e) = some cs' ∧ Enc.Ok cs' q ⟨w, fun _ => False⟩) len (fun i hi => by
    obtain ⟨cs', hc, ht⟩ := hx i (by omega)
    obtain ⟨q, hq, ho, hq2⟩ := hr enc w base sp held n cs' _ ht (by have := bulk_mem (D := D) hi; simp only; omega)
    exact ⟨q, ⟨ho, cs', hc, hq⟩, hq2⟩)
  refine ⟨l, ⟨_, rfl, ?_⟩, fun q hq => ?_, by omega⟩
  · subst h1
    refine ⟨by simp only [LIM]; omega, some a, cap, rfl, hl, fun hne => ?_⟩
    have hpos : 0 < l.length := List.length_pos_iff.2 hne
    have hsp : a.spot = none := by
      obtain ⟨_, cs', hc, hO⟩ := h2 0 l[0] (List.getElem?_eq_getElem hpos)
      have h5 := World.cells?_some hc
      have h6 := h5.2.2 0 (by rw [hk]; exact Enc.pos)
      have hlen : cs'.length = P.cellsOf e := h5.2.1
      have h7 : 0 < cs'.length := by rw [hlen, hk]; exact Enc.pos
      rw [List.getElem?_eq_getElem h7] at h6
      simp only [Nat.zero_mul, Addr.add, if_true] at h6
      unfold World.cell? at h6
      cases hs : a.spot with
      | none => rfl
      | some z =>
        rw [hs] at h6
        split at h6 <;> simp at h6
    refine ⟨a.block, a.off, by rw [← hsp], fun i q hq => ?_⟩
    obtain ⟨_, cs', hc, hO⟩ := h2 i q hq
    refine ⟨cs', hO, fun j v hj => ⟨?_, fun h => h⟩⟩
    have h5 := World.cells?_some hc
    have hjl : j < cs'.length := (List.getElem?_eq_some_iff.1 hj).1
    have h6 := h5.2.2 j (by rw [← h5.2.1]; exact hjl)
    have ea : a = ⟨a.block, a.off, none⟩ := by rw [← hsp]
    rw [hj, ea, Addr.add_lit, Addr.add_lit, hk] at h6
    exact h6
  · obtain ⟨i, hi⟩ := List.getElem?_of_mem hq
    exact (h2 i q hi).1
theorem reads_struct {P : Program} {T : TypeId} {α β γ δ : Type} [Enc α] [Enc β] [Enc γ] [Enc δ] {f0 f1 f2 : Field} {b0 : β → Nat} {b1 : γ → Nat} {b2 : δ → Nat} {k0 : β → Prop} {k1 : γ → Prop} {k2 : δ → Prop} (bk : α → Nat) (ok : α → Prop) (mk : β → γ → δ → α)
    (hS : P.underlying T = some (.struct #[f0, f1, f2])) (r0 : Reads P f0.type b0 k0) (r1 : Reads P f1.type b1 k1) (r2 : Reads P f2.type b2 k2)
    (hmk : ∀ cs a b d c, cs.length = P.cellsOf T → Enc.Ok ((cs.drop f0.offset).take (P.cellsOf f0.type)) a c → Enc.Ok ((cs.drop f1.offset).take (P.cellsOf f1.type)) b c → Enc.Ok ((cs.drop f2.offset).take (P.cellsOf f2.type)) d c → Enc.Ok cs (mk a b d) c)
    (hbk : ∀ a b d, bk (mk a b d) ≤ b0 a + b1 b + b2 d) (hok : ∀ a b d, k0 a → k1 b → k2 d → bk (mk a b d) ≤ 1048576 → ok (mk a b d)) : Reads P T bk ok := by
  intro H enc w base sp held fuel cs x h hb
  obtain ⟨xs, n, rfl, rfl, hl, hxl, hf⟩ := DataW.trod_struct hS h
  have hxl : xs.length = 3 := hxl
  match xs, hxl with
  | [y0, y1, y2], _ =>
    simp only [List.map_cons, List.map_nil, Rows.uptoBulk, Rows.uptoBulkAll] at hb ⊢
    obtain ⟨a, ha, ka, qa⟩ := r0 enc w base sp held n _ y0 (hf 0 f0 rfl) (by omega)
    obtain ⟨b, hb', kb, qb⟩ := r1 enc w base sp held n _ y1 (hf 1 f1 rfl) (by omega)
    obtain ⟨d, hd, kd, qd⟩ := r2 enc w base sp held n _ y2 (hf 2 f2 rfl) (by omega)
    have hq := hbk a b d
    exact ⟨mk a b d, hmk cs a b d _ hl ha hb' hd, hok a b d ka kb kd (by omega), by omega⟩
end Go.Proofs.YthkdggoohpgnnaaGreatDoor
/- What this program's arguments read as. -/
namespace Go.Proofs.YthkdggoohpgnnaaGreatDoor
open Go Go.Wk
theorem cInt : Tryz.prog.cellsOf 3 = 1 := by kernel_rfl
theorem cStr : Tryz.prog.cellsOf 9 = 1 := by kernel_rfl
theorem cTm : Tryz.prog.cellsOf 23 = 3 := by kernel_rfl
theorem cTs : Tryz.prog.cellsOf 79 = 7 := by kernel_rfl
theorem cAt : Tryz.prog.cellsOf 26 = 5 := by kernel_rfl
theorem cCl : Tryz.prog.cellsOf 30 = 7 := by kernel_rfl
theorem cTms : Tryz.prog.cellsOf 24 = 1 := by kernel_rfl
theorem cAts : Tryz.prog.cellsOf 27 = 1 := by kernel_rfl
theorem cTss : Tryz.prog.cellsOf 28 = 1 := by kernel_rfl
theorem rInt : Reads Tryz.prog 3 (fun _ : Int => 1) (fun _ => True) := reads_int Tryz.underlying3
theorem rStr : Reads Tryz.prog 9 (fun _ : ByteArray => 1) strOk := reads_string Tryz.underlying9
theorem rTm : Reads Tryz.prog 23 (fun _ : Tm => 1) Tm.sm := by
  refine reads_struct _ _ (fun k n s => (⟨k, n, s⟩ : Tm)) Tryz.underlying23 rInt rInt rStr ?_ ?_ ?_
  · intro cs a b d c hl h0 h1 h2
    obtain ⟨v0, v1, v2, rfl⟩ := len3 (hl.trans cTm)
    rw [cInt] at h0 h1
    rw [cStr] at h2
    have h0 : [v0] = [.int .i64 a] := h0
    have h1 : [v1] = [.int .i64 b] := h1
    have h2 : [v2] = [.string d] := h2
    show [v0, v1, v2] = [.int .i64 a, .int .i64 b, .string d]
    simp only [List.cons.injEq, and_true] at h0 h1 h2
    rw [h0, h1, h2]
  · intro a b d
    show 1 ≤ 1 + 1 + 1
    omega
  · intro a b d _ _ h _
    exact h
theorem rTs : Reads Tryz.prog 79 (fun _ : Ts => 2) (fun t => t.l.sm ∧ t.r.sm) := by
  refine reads_struct _ _ (fun k l r => (⟨k, l, r⟩ : Ts)) Tryz.underlying79 rInt rTm rTm ?_ ?_ ?_
  · intro cs a b d c hl h0 h1 h2
    obtain ⟨v0, v1, v2, v3, v4, v5, v6, rfl⟩ := len7 (hl.trans cTs)
    rw [cInt] at h0
    rw [cTm] at h1 h2
    have h0 : [v0] = [.int .i64 a] := h0
    have h1 : [v1, v2, v3] = b.cs := h1
    have h2 : [v4, v5, v6] = d.cs := h2
    show [v0, v1, v2, v3, v4, v5, v6] = Ts.cs ⟨a, b, d⟩
    simp only [List.cons.injEq, and_true, Tm.cs] at h0 h1 h2
    obtain ⟨e1, e2, e3⟩ := h1
    obtain ⟨e4, e5, e6⟩ := h2
    rw [h0, e1, e2, e3, e4, e5, e6]
  · intro a b d
    show 2 ≤ 1 + 1 + 1
    omega
  · intro a b d _ h h' _
    exact ⟨h, h'⟩
theorem sum_one {α : Type} (l : List α) : (l.map fun _ => 1).sum = l.length := by
  induction l with
  | nil => rfl
  | cons a l ih => simp [ih]; omega
theorem rAt : Reads Tryz.prog 26 (fun a : At0 => a.terms.length) At0.sm := by
  refine reads_struct _ _ (fun t n l => (⟨t, n, l⟩ : At0)) Tryz.underlying26 rTm rStr (reads_slice Tryz.underlying24 cTm rTm) ?_ ?_ ?_
  · intro cs a b d c hl h0 h1 h2
    obtain ⟨v0, v1, v2, v3, v4, rfl⟩ := len5 (hl.trans cAt)
    rw [cTm] at h0
    rw [cStr] at h1
    rw [cTms] at h2
    have h0 : [v0, v1, v2] = a.cs := h0
    have h1 : [v3] = [.string b] := h1
    obtain ⟨v, e, hS⟩ : ∃ v, [v4] = [v] ∧ Sl v d c := h2
    refine ⟨v, ?_, hS⟩
    simp only [List.cons.injEq, and_true, Tm.cs] at h0 h1 e
    obtain ⟨e1, e2, e3⟩ := h0
    rw [e1, e2, e3, h1, e]
  · intro a b d
    show (a :: d).length ≤ 1 + 1 + ((d.map fun _ => 1).sum + 1)
    rw [sum_one, List.length_cons]
    omega
  · intro a b d h h' h'' _
    exact ⟨h', h, h''⟩
/-- What a clause that was read is. -/
def Cl.rd (x : Cl) : Prop := x.sm ∧ x.terms.length ≤ 1048576
theorem sum_two {α : Type} (l : List α) : (l.map fun _ => 2).sum = 2 * l.length := by
  induction l with
  | nil => rfl
  | cons a l ih => simp [ih]; omega
theorem rCl : Reads Tryz.prog 30 (fun x : Cl => x.terms.length) Cl.rd := by
  refine reads_struct _ _ (fun h b t => (⟨h, b, t⟩ : Cl)) Tryz.underlying30 rAt (reads_slice Tryz.underlying27 cAt rAt) (reads_slice Tryz.underlying28 cTs rTs) ?_ ?_ ?_
  · intro cs a b d c hl h0 h1 h2
    obtain ⟨v0, v1, v2, v3, v4, v5, v6, rfl⟩ := len7 (hl.trans cCl)
    rw [cAt] at h0
    rw [cAts] at h1
    rw [cTss] at h2
    obtain ⟨u, e0, hU⟩ : ∃ u, [v0, v1, v2, v3, v4] = a.cs u ∧ Sl u a.args c := h0
    obtain ⟨v, e1, hV⟩ : ∃ v, [v5] = [v] ∧ Sl v b c := h1
    obtain ⟨w, e2, hW⟩ : ∃ v, [v6] = [v] ∧ Sl v d c := h2
    refine ⟨u, v, w, ?_, hU, hV, hW⟩
    simp only [List.cons.injEq, and_true, At0.cs] at e0 e1 e2
    obtain ⟨q1, q2, q3, q4, q5⟩ := e0
    rw [q1, q2, q3, q4, q5, e1, e2]
  · intro a b d
    show (Cl.terms ⟨a, b, d⟩).length ≤ a.terms.length + ((b.map fun a => a.terms.length).sum + 1) + ((d.map fun _ => 2).sum + 1)
    simp only [Cl.terms, Cl.bodyTerms, Cl.testTerms, List.length_append, List.length_flatMap, List.length_cons, List.length_nil]
    rw [sum_two]
    have : (d.map fun _ => 0 + 1 + 1).sum = 2 * d.length := by
      induction d with
      | nil => rfl
      | cons a l ih => simp [ih]; omega
    omega
  · intro a b d h h' h'' hb
    exact ⟨⟨h, h', h''⟩, hb⟩
theorem flat_len {α β : Type} {f : α → List β} (hf : ∀ a, 1 ≤ (f a).length) : ∀ l : List α, l.length ≤ (l.flatMap f).length
  | [] => by simp
  | a :: l => by
    have := hf a
    have := flat_len hf l
    simp only [List.length_cons, List.flatMap_cons, List.length_append]
    omega
theorem flat_mem {α β : Type} {f : α → List β} {l : List α} {a : α} (h : a ∈ l) : (f a).length ≤ (l.flatMap f).length := by
  induction l with
  | nil => cases h
  | cons b l ih =>
    simp only [List.flatMap_cons, List.length_append]
    rcases List.mem_cons.1 h with rfl | h
    · omega
    · have := ih h
      omega
theorem Cl.rd.fit {x : Cl} (h : Cl.rd x) : x.fit := ⟨h.1, by have := h.2; omega⟩
end Go.Proofs.YthkdggoohpgnnaaGreatDoor
/- What the listed variables hold; the end that all rows share. -/
namespace Go.Proofs.YthkdggoohpgnnaaGreatDoor
open Go Go.Wk Go.ChangeShapes Go.WideShapes Go.ChangeAt Go.RowKit
section
variable {H : Type} {enc : TypeId × Value → H} {w : World} {base : Nat} {sp : Nat → Bool} {held : Bool}
theorem exactTm {fuel : Nat} {cs : List Value} {p : List MemPlace} {k n : Int} {bs : List UInt8} (h : DataW.trod enc Tryz.prog w base sp held fuel 23 cs = some (.agg [.lit (.int .i64 k), .lit (.int .i64 n), .lit (.string bs)], p)) : cs = Tm.cs ⟨k, n, ⟨bs.toArray⟩⟩ := by
  obtain ⟨xs, m, rfl, hx, hl, hxl, hf⟩ := DataW.trod_struct Tryz.underlying23 h
  obtain ⟨v0, v1, v2, rfl⟩ := len3 (hl.trans cTm)
  obtain ⟨y0, y1, y2, rfl⟩ := len3 (show xs.length = 3 from hxl)
  have g0 : DataW.trod enc Tryz.prog w base sp held m 3 ((List.drop 0 [v0, v1, v2]).take (Tryz.prog.cellsOf 3)) = some y0 := hf 0 _ rfl
  have g1 : DataW.trod enc Tryz.prog w base sp held m 3 ((List.drop 1 [v0, v1, v2]).take (Tryz.prog.cellsOf 3)) = some y1 := hf 1 _ rfl
  have g2 : DataW.trod enc Tryz.prog w base sp held m 9 ((List.drop 2 [v0, v1, v2]).take (Tryz.prog.cellsOf 9)) = some y2 := hf 2 _ rfl
  rw [cInt] at g0 g1
  rw [cStr] at g2
  obtain ⟨a, e0, q0, _⟩ := DataW.trod_int Tryz.underlying3 g0
  obtain ⟨b, e1, q1, _⟩ := DataW.trod_int Tryz.underlying3 g1
  obtain ⟨d, e2, q2, _⟩ := DataW.trod_string Tryz.underlying9 g2
  subst q0 q1 q2
  simp only [List.map_cons, List.map_nil, Prod.mk.injEq, DataW.agg.injEq, List.cons.injEq, DataW.lit.injEq, Lit.int.injEq, Lit.string.injEq, true_and, and_true] at hx
  obtain ⟨⟨rfl, rfl, rfl⟩, _⟩ := hx
  have e0 : [v0] = [.int .i64 k] := e0
  have e1 : [v1] = [.int .i64 n] := e1
  have e2 : [v2] = [.string d] := e2
  simp only [List.cons.injEq, and_true] at e0 e1 e2
  rw [e0, e1, e2]
theorem exactTs {fuel : Nat} {cs : List Value} {p : List MemPlace} {o k n k' n' : Int} {bs bs' : List UInt8} (h : DataW.trod enc Tryz.prog w base sp held fuel 79 cs = some (.agg [.lit (.int .i64 o), .agg [.lit (.int .i64 k), .lit (.int .i64 n), .lit (.string bs)], .agg [.lit (.int .i64 k'), .lit (.int .i64 n'), .lit (.string bs')]], p)) : cs = Ts.cs ⟨o, ⟨k, n, ⟨bs.toArray⟩⟩, ⟨k', n', ⟨bs'.toArray⟩⟩⟩ := by
  obtain ⟨xs, m, rfl, hx, hl, hxl, hf⟩ := DataW.trod_struct Tryz.underlying79 h
  obtain ⟨v0, v1, v2, v3, v4, v5, v6, rfl⟩ := len7 (hl.trans cTs)
  obtain ⟨y0, y1, y2, rfl⟩ := len3 (show xs.length = 3 from hxl)
  have g0 : DataW.trod enc Tryz.prog w base sp held m 3 ((List.drop 0 [v0, v1, v2, v3, v4, v5, v6]).take (Tryz.prog.cellsOf 3)) = some y0 := hf 0 _ rfl
  have g1 : DataW.trod enc Tryz.prog w base sp held m 23 ((List.drop 1 [v0, v1, v2, v3, v4, v5, v6]).take (Tryz.prog.cellsOf 23)) = some y1 := hf 1 _ rfl
  have g2 : DataW.trod enc Tryz.prog w base sp held m 23 ((List.drop 4 [v0, v1, v2, v3, v4, v5, v6]).take (Tryz.prog.cellsOf 23)) = some y2 := hf 2 _ rfl
  rw [cInt] at g0
  rw [cTm] at g1 g2
  obtain ⟨a, e0, q0, _⟩ := DataW.trod_int Tryz.underlying3 g0
  subst q0
  obtain ⟨d1, p1⟩ := y1
  obtain ⟨d2, p2⟩ := y2
  simp only [List.map_cons, List.map_nil, Prod.mk.injEq, DataW.agg.injEq, List.cons.injEq, DataW.lit.injEq, Lit.int.injEq, true_and, and_true] at hx
  obtain ⟨⟨rfl, rfl, rfl⟩, _⟩ := hx
  have e1 := exactTm g1
  have e2 := exactTm g2
  have e0 : [v0] = [.int .i64 o] := e0
  have e1 : [v1, v2, v3] = _ := e1
  have e2 : [v4, v5, v6] = _ := e2
  simp only [List.cons.injEq, and_true, Tm.cs] at e0 e1 e2
  obtain ⟨a1, a2, a3⟩ := e1
  obtain ⟨b1, b2, b3⟩ := e2
  rw [e0, a1, a2, a3, b1, b2, b3]
end
theorem box_of_var {P : Program} {W : World} {n : String} {g : Nat} {cs : Array Value} (hg : P.globalNamed n = some g) (h : W.var? P n = some cs) : Box g cs.toList ⟨W, fun _ => False⟩ := by
  simp only [World.var?, hg, Option.bind_some] at h
  split at h
  · rename_i c t fr hb
    cases h
    exact ⟨⟨t, fr, by simpa using hb⟩, fun h => h⟩
  · cases h
theorem str_bytes {a b : String} (h : a.toUTF8.data.toList = b.toUTF8.data.toList) : a = b := String.toByteArray_inj.1 (ByteArray.ext (Array.ext' h))
theorem trod_func {P : Program} {w : World} {base : Nat} {sp : Nat → Bool} {fuel : Nat} {t : TypeId} {ps rs : Array TypeId} {vd : Bool} {v : Value} {bs : List UInt8} {b : UInt8} {p : List MemPlace} (ht : P.underlying t = some (.func ps rs vd)) (h : DataW.trod (funcToken P) P w base sp true fuel t [v] = some (.held (b :: bs), p)) :
    ∃ (f : FuncId) (fn : Func), v = .func (.func f) #[] #[] ∧ P.funcNamed fn.name = some f ∧ fn.name.toUTF8.data.toList = b :: bs := by
  cases fuel with
  | zero => simp [DataW.trod] at h
  | succ n =>
    unfold DataW.trod at h
    rw [ht] at h
    have h2 : funcToken P (t, v) = b :: bs := by
      split at h <;> simp_all
    obtain ⟨f, fn, e, _, e2, e3⟩ := funcToken_tells h2
    exact ⟨f, fn, e, e2, e3⟩
theorem cChk : Tryz.prog.cellsOf 115 = 1 := by kernel_rfl
theorem cFn : Tryz.prog.cellsOf 50 = 1 := by kernel_rfl
theorem exactFn {w : World} {base : Nat} {sp : Nat → Bool} {fuel : Nat} {cs : List Value} {bs : List UInt8} {b : UInt8} {p : List MemPlace} {f : FuncId} (nm : String) (hn : nm.toUTF8.data.toList = b :: bs) (hf : Tryz.prog.funcNamed nm = some f)
    (h : DataW.trod (funcToken Tryz.prog) Tryz.prog w base sp true fuel 115 cs = some (.agg [.held (b :: bs)], p)) : cs = [.func (.func f) #[] #[]] := by
  obtain ⟨xs, m, rfl, hx, hl, hxl, hfd⟩ := DataW.trod_struct Tryz.underlying115 h
  obtain ⟨v, rfl⟩ := List.length_eq_one_iff.1 (hl.trans cChk)
  obtain ⟨y, rfl⟩ := List.length_eq_one_iff.1 (show xs.length = 1 from hxl)
  have g0 : DataW.trod (funcToken Tryz.prog) Tryz.prog w base sp true m 50 ((List.drop 0 [v]).take (Tryz.prog.cellsOf 50)) = some y := hfd 0 _ rfl
  rw [cFn] at g0
  obtain ⟨d, q⟩ := y
  simp only [List.map_cons, List.map_nil, Prod.mk.injEq, DataW.agg.injEq, List.cons.injEq, and_true] at hx
  obtain ⟨rfl, _⟩ := hx
  obtain ⟨f', fn, e, e2, e3⟩ := trod_func Tryz.underlying50 (show DataW.trod (funcToken Tryz.prog) Tryz.prog w base sp true m 50 [v] = _ from g0)
  have : fn.name = nm := str_bytes (e3.trans hn.symm)
  rw [this, hf] at e2
  cases e2
  rw [e]
theorem len6 {α : Type} {l : List α} (h : l.length = 6) : ∃ a b c d e f, l = [a, b, c, d, e, f] := by
  match l, h with
  | [a, b, c, d, e, f], _ => exact ⟨a, b, c, d, e, f, rfl⟩
theorem cChks : Tryz.prog.cellsOf 116 = 6 := by kernel_rfl
set_option maxRecDepth 100000 in
theorem checks_of {W : World} {d : DataW Unit} (h : funcsAt Tryz.prog W "hearsay/clause.checks" d) (hd : (Rows.laid_hearsay_clause_checks : DataW Unit) = .iface "func table" d) : Box 1 chkFs ⟨W, fun _ => False⟩ := by
  obtain ⟨g, t, cs, fuel, p, hg, ht, hv, hr⟩ := h
  have hg0 : Tryz.prog.globalNamed "hearsay/clause.checks" = some 1 := by kernel_rfl
  have ht0 : (Tryz.prog.globals[(1 : Nat)]?).map (·.type) = some 116 := by kernel_rfl
  obtain rfl := Option.some.inj (hg0.symm.trans hg)
  obtain rfl := Option.some.inj (ht0.symm.trans ht)
  have hb := box_of_var hg0 hv
  have hcs : cs.toList = chkFs := by
    generalize cs.toList = l at hr
    simp only [Rows.laid_hearsay_clause_checks, DataW.iface.injEq, true_and] at hd
    subst hd
    obtain ⟨xs, m, rfl, hx, hl, hxl, hf⟩ := DataW.trod_array Tryz.underlying116 hr
    obtain ⟨v0, v1, v2, v3, v4, v5, rfl⟩ := len6 (hl.trans cChks)
    obtain ⟨y0, y1, y2, y3, y4, y5, rfl⟩ := len6 hxl
    have g0 := hf 0 (by decide)
    rw [cChk] at g0
    obtain ⟨d0, p0⟩ := y0
    have g1 := hf 1 (by decide)
    rw [cChk] at g1
    obtain ⟨d1, p1⟩ := y1
    have g2 := hf 2 (by decide)
    rw [cChk] at g2
    obtain ⟨d2, p2⟩ := y2
    have g3 := hf 3 (by decide)
    rw [cChk] at g3
    obtain ⟨d3, p3⟩ := y3
    have g4 := hf 4 (by decide)
    rw [cChk] at g4
    obtain ⟨d4, p4⟩ := y4
    have g5 := hf 5 (by decide)
    rw [cChk] at g5
    obtain ⟨d5, p5⟩ := y5
    simp only [List.map_cons, List.map_nil, Prod.mk.injEq, DataW.funcsOut, DataW.funcsOutAll, DataW.agg.injEq, List.cons.injEq, and_true, beq_self_eq_true, if_true] at hx
    obtain ⟨⟨rfl, rfl, rfl, rfl, rfl, rfl⟩, _⟩ := hx
    have e0 : [v0] = _ := exactFn (f := 218) "hearsay/clause.tooLong" (by decide +kernel) (by kernel_rfl) g0
    have e1 : [v1] = _ := exactFn (f := 219) "hearsay/clause.badAtom" (by decide +kernel) (by kernel_rfl) g1
    have e2 : [v2] = _ := exactFn (f := 220) "hearsay/clause.badTest" (by decide +kernel) (by kernel_rfl) g2
    have e3 : [v3] = _ := exactFn (f := 221) "hearsay/clause.openHead" (by decide +kernel) (by kernel_rfl) g3
    have e4 : [v4] = _ := exactFn (f := 222) "hearsay/clause.unsafe" (by decide +kernel) (by kernel_rfl) g4
    have e5 : [v5] = _ := exactFn (f := 223) "hearsay/clause.misnumbered" (by decide +kernel) (by kernel_rfl) g5
    simp only [List.cons.injEq, and_true] at e0 e1 e2 e3 e4 e5
    rw [e0, e1, e2, e3, e4, e5]
    rfl
  rw [hcs] at hb
  exact hb
theorem gNo : Tryz.prog.globalNamed "hearsay/term.none" = some 3 := by kernel_rfl
theorem tNo : (Tryz.prog.globals[(3 : Nat)]?).map (·.type) = some 23 := by kernel_rfl
theorem none_of {W : World} {ps : List MemPlace} {r : List (String × DataW Unit)} (h : DataW.LaidVars Tryz.prog W (("hearsay/term.none", Rows.laid_hearsay_term_none) :: r) ps) : Box 3 Tn.cs ⟨W, fun _ => False⟩ := by
  obtain ⟨g, t, cs, fuel, p, q, hg, ht, hv, hd, _, _⟩ := h
  obtain rfl := Option.some.inj (gNo.symm.trans hg)
  obtain rfl := Option.some.inj (tNo.symm.trans ht)
  have hb := box_of_var gNo hv
  rw [exactTm hd] at hb
  exact hb
theorem glob2 {W : World} (h : laidMetH Tryz.prog Rows.subsumeLeastRow.laid W) : GlobOk ⟨W, fun _ => False⟩ := by
  have hc := checks_of (laidMetH.funcs h (n := "hearsay/clause.checks") (.tail _ (.head _))) rfl
  unfold laidMetH at h
  have e1 : (Rows.subsumeLeastRow.laid.filter fun x => x.2.handleName?.isSome) = [("hearsay/clause.checks", Rows.laid_hearsay_clause_checks)] := rfl
  rw [e1] at h
  have h := h.1
  have e2 : (Rows.subsumeLeastRow.laid.filter fun x => x.2.handleName?.isNone) = [("hearsay/term.none", Rows.laid_hearsay_term_none)] := rfl
  rw [e2] at h
  obtain ⟨ps, hv, _⟩ := h
  exact ⟨none_of hv, hc⟩
/-! ### the end that all rows share -/
theorem laidOut : laidOutB Tryz.prog = true := by kernel_rfl
theorem trodAll_below {H : Type} {enc : TypeId × Value → H} {P : Program} (hl : laidOutB P = true) {W W' : World} (hb : Below W.heap.size W W') : ∀ (ts : List TypeId), (∀ t ∈ ts, P.readableRec t = true ∧ t < P.types.size) → ∀ (vs : List Value) (ds : List (DataW H)) (ps : List MemPlace),
    DataW.TrodAll enc P W 0 (fun _ => true) true ts vs ds ps → (∀ x ∈ ps, x.block < W.heap.size) → DataW.TrodAll enc P W' 0 (fun b => decide (b < W.heap.size)) true ts vs ds ps
  | [], _, vs, ds, ps, h, _ => by
    obtain ⟨rfl, rfl, rfl⟩ := trodAll_nil h
    exact trodAll_mk0
  | t :: ts, ht, vs, ds, ps, h, hlt => by
    obtain ⟨v, vs, d, ds, p, q, rfl, rfl, rfl, h1, h2⟩ := trodAll_cons h
    exact ⟨p, q, Below.trod hl (ht t (.head _)).1 (ht t (.head _)).2 h1 hb (fun x hx => hlt x (List.mem_append_left _ hx)), trodAll_below hl hb ts (fun t h => ht t (.tail _ h)) vs ds q h2 (fun x hx => hlt x (List.mem_append_right _ hx)), rfl⟩
theorem post_true {H : Type} {enc : TypeId × Value → H} {f : Func} {s : ChangeSpec} {W W' : World} {args : Array Value} {ds : List (DataW H)} {before : List MemPlace} (hvars : s.vars = []) (hres : f.resultTypes = #[4])
    (hr : f.params.toList.all (fun t => Tryz.prog.readableRec t && decide (t < Tryz.prog.types.size)) = true)
    (hW : DataW.Whole enc Tryz.prog f.params.toList s.vars false W args.toList ds [] before) (hfn : s.fn H (ds ++ []) = { results := [.lit (.bool true)], args := ds }) (hb : Below W.heap.size W W') : s.post enc Tryz.prog f false true false false W args (.bool true) W' := by
  have hlt := hW.lt
  have hW' := hW
  obtain ⟨p, q, hA, hV, rfl, _, _⟩ := hW
  rw [hvars] at hV
  obtain ⟨_, rfl⟩ := trodVars_none hV
  refine ⟨ds, [], p ++ [], [], p, [], hW', ?_, ?_, ?_, hb.frame _, fun h => by cases h⟩
  · rw [hfn, hres]
    exact trodAll_mk1 (shut_bool Tryz.underlying4 true)
  · rw [hfn]
    refine trodAll_below laidOut hb _ (fun t ht => ?_) _ _ _ hA (fun x hx => hlt x (List.mem_append_left _ hx))
    have := List.all_eq_true.1 hr t ht
    simpa using this
  · rw [hfn, hvars]
    rfl
end Go.Proofs.YthkdggoohpgnnaaGreatDoor
/- What the rows' arguments read as, one lemma a type. -/
namespace Go.Proofs.YthkdggoohpgnnaaGreatDoor
open Go Go.Wk Go.ChangeShapes Go.WideShapes Go.ChangeAt Go.RowKit
section
variable {H : Type} {enc : TypeId × Value → H} {W : World} {base : Nat} {sp : Nat → Bool} {held : Bool} {v : Value} {d : DataW H} {p : List MemPlace} {r : Reach} {b0 : Nat}
theorem rowOwn : ownKnob Tryz.prog.godebug = none := by kernel_rfl
theorem small {l : List (DataW H)} (hk : Rows.uptoSmall H l = true) : Rows.uptoBulkAll l ≤ 1048576 := of_decide_eq_true hk
set_option maxRecDepth 100000 in
theorem argCl (hv : Value.okWide Tryz.prog W r b0 30 v) (h : DataW.Trod enc Tryz.prog W base sp held 30 v d p) (hb : Rows.uptoBulk d ≤ 1048576) : ∃ x : Cl, Ag x v ⟨W, fun _ => False⟩ ∧ Cl.rd x := by
  obtain ⟨fuel, h⟩ := h
  obtain ⟨x, hx, ho, _⟩ := rCl enc W base sp held fuel _ _ h hb
  obtain ⟨cs, rfl, _⟩ := okWide_struct Tryz.underlying30 hv
  exact ⟨x, ⟨cs.toList, congrArg Value.agg (Array.toArray_toList).symm, hx⟩, ho⟩
theorem sum_le {α : Type} (f : α → Nat) : ∀ l : List α, (∀ a ∈ l, 1 ≤ f a) → l.length ≤ (l.map f).sum
  | [], _ => by simp
  | a :: l, h => by
    have h1 := h a (.head _)
    have h2 := sum_le f l fun b hb => h b (.tail _ hb)
    simp only [List.length_cons, List.map_cons, List.sum_cons]
    omega
set_option maxRecDepth 100000 in
theorem argCls (hv : Value.okWide Tryz.prog W r b0 37 v) (h : DataW.Trod enc Tryz.prog W base sp held 37 v d p) (hb : Rows.uptoBulk d ≤ 1048576) : ∃ xs : List Cl, Sl v xs ⟨W, fun _ => False⟩ ∧ (∀ x ∈ xs, Cl.rd x) ∧ xs.length ≤ 1048576 ∧ (xs.map fun x => x.terms.length).sum ≤ 1048576 := by
  obtain ⟨fuel, h⟩ := h
  obtain ⟨xs, hx, ho, hl⟩ := reads_slice Tryz.underlying37 cCl rCl enc W base sp held fuel _ _ h hb
  obtain ⟨a, m, cap, rfl⟩ := okWide_slice Tryz.underlying37 hv
  obtain ⟨u, e, hS⟩ : ∃ u, [Value.slice a m cap] = [u] ∧ Sl u xs ⟨W, fun _ => False⟩ := hx
  simp only [List.cons.injEq, and_true] at e
  subst e
  have hl : (xs.map fun x : Cl => x.terms.length).sum + 1 ≤ 1048576 := Nat.le_trans hl hb
  have h3 := sum_le (fun x : Cl => x.terms.length) xs (fun x _ => by simp [Cl.terms, At0.terms])
  exact ⟨xs, hS, ho, by omega, by omega⟩
set_option maxRecDepth 100000 in
theorem argTms (hv : Value.okWide Tryz.prog W r b0 24 v) (h : DataW.Trod enc Tryz.prog W base sp held 24 v d p) (hb : Rows.uptoBulk d ≤ 1048576) : ∃ xs : List Tm, Sl v xs ⟨W, fun _ => False⟩ ∧ (∀ x ∈ xs, x.sm) ∧ xs.length ≤ 1048576 := by
  obtain ⟨fuel, h⟩ := h
  obtain ⟨xs, hx, ho, hl⟩ := reads_slice Tryz.underlying24 cTm rTm enc W base sp held fuel _ _ h hb
  obtain ⟨a, m, cap, rfl⟩ := okWide_slice Tryz.underlying24 hv
  obtain ⟨u, e, hS⟩ : ∃ u, [Value.slice a m cap] = [u] ∧ Sl u xs ⟨W, fun _ => False⟩ := hx
  simp only [List.cons.injEq, and_true] at e
  subst e
  have hl : (xs.map fun _ : Tm => 1).sum + 1 ≤ 1048576 := Nat.le_trans hl hb
  have h3 := sum_le (fun _ : Tm => 1) xs (fun x _ => Nat.le_refl _)
  exact ⟨xs, hS, ho, by omega⟩
set_option maxRecDepth 100000 in
theorem argInt (hv : Value.okWide Tryz.prog W r b0 3 v) : ∃ n : Int, v = .int .i64 n := okWide_int Tryz.underlying3 hv
end
end Go.Proofs.YthkdggoohpgnnaaGreatDoor
