/- a part of the proof: lemmas on walks, on plain data, contracts of functions. -/
import Derived.Test.YthkdggoohpgnnaaGreatDoorA1
import Derived.Test.YthkdggoohpgnnaaGreatDoorA2
import Derived.Test.YthkdggoohpgnnaaGreatDoorA4
import Derived.Test.YthkdggoohpgnnaaGreatDoorA6
import Derived.Test.YthkdggoohpgnnaaGreatDoorA7
set_option linter.all false
/- Contracts: kinds of terms, comparison. -/
namespace Go.Wk
open Go
theorem Cn.same {P : Program} {g : FuncId} {args : List Value} {c : Cx} {v : Value} (h : Calls P g args.toArray c.w fun e w' => e = .returned v ∧ w' = c.w) : Cn P g args c (fun u _ => u = v) :=
  fun _ => h.mono fun _ _ ⟨he, hw⟩ => ⟨v, he, hw ▸ Ext0.refl _, rfl⟩
end Go.Wk
namespace Go.Proofs.YthkdggoohpgnnaaGreatDoor
open Go Go.Wk
theorem mixed : Tryz.prog.follows .mixedOrders = true := by kernel_rfl
theorem term_Variable (t : Tm) (c : Cx) : Cn Tryz.prog 109 [.agg t.cs.toArray] c (fun v _ => v = .bool t.isVar) := by
  refine Cn.of Tryz.func109 Tryz.ntmps109 rfl rfl fun hm H HA => ?_
  (focus (apply wc_seq; apply wc_region; refine Z31 fun bx c H HA => ?_; refine Z2 ?_; apply w_nil; apply wx_next; apply wc_seq; apply wc_region; refine Z3 ?_; refine Z1 ?_; refine Z92 (fun hq => ?_) fun hq => ?_; refine Z0 ?_; refine Z4 ?_; refine Z3 ?_; refine Z4 ?_; refine Z1 ?_; refine Z4 ?_; refine Z97 (fun hq => ?_) fun hq => ?_; refine Z8 ?_; refine Z0 ?_; refine Z4 ?_; refine Z3 ?_; refine Z4 ?_; refine Z1 ?_; refine Z4 ?_; refine Z98 (fun hq => ?_) fun hq => ?_; refine Z8 ?_; refine Z2 ?_; apply w_nil; apply wx_next; apply wc_ret; rotate_left; refine Z8 ?_; refine Z2 ?_; apply w_nil; apply wx_next; apply wc_ret; rotate_left; refine Z8 ?_; refine Z0 ?_; refine Z5 ?_; refine Z5 ?_; refine Z5 ?_; refine Z30 ?_; refine Z2 ?_; apply w_nil; apply wx_next; apply wc_ret; rotate_left; refine Z0 ?_; refine Z5 ?_; refine Z5 ?_; refine Z5 ?_; refine Z30 ?_; refine Z0 ?_; refine Z5 ?_; refine Z5 ?_; refine Z5 ?_; refine Z30 ?_; refine Z2 ?_; apply w_nil; apply wx_next; apply wc_ret; rotate_left))
  all_goals exact ret_fn H hm (outs1 Tryz.results109 Wh) (by simp [Tm.isVar, *])
theorem ref02_Variable (t : Tm) (c : Cx) : Cn Tryz.prog 26 [.agg t.cs.toArray] c (fun v _ => v = .bool t.isVar) := by
  refine Cn.of Tryz.func26 Tryz.ntmps26 rfl rfl fun hm H HA => ?_
  (focus (apply wc_seq; apply wc_region; refine Z31 fun bx c H HA => ?_; refine Z2 ?_; apply w_nil; apply wx_next; apply wc_seq; apply wc_region; refine Z3 ?_; refine Z1 ?_; refine Z92 (fun hq => ?_) fun hq => ?_; refine Z0 ?_; refine Z4 ?_; refine Z3 ?_; refine Z4 ?_; refine Z1 ?_; refine Z4 ?_; refine Z97 (fun hq => ?_) fun hq => ?_; refine Z8 ?_; refine Z0 ?_; refine Z4 ?_; refine Z3 ?_; refine Z4 ?_; refine Z1 ?_; refine Z4 ?_; refine Z98 (fun hq => ?_) fun hq => ?_; refine Z8 ?_; refine Z2 ?_; apply w_nil; apply wx_next; apply wc_ret; rotate_left; refine Z8 ?_; refine Z2 ?_; apply w_nil; apply wx_next; apply wc_ret; rotate_left; refine Z8 ?_; refine Z0 ?_; refine Z5 ?_; refine Z5 ?_; refine Z5 ?_; refine Z30 ?_; refine Z2 ?_; apply w_nil; apply wx_next; apply wc_ret; rotate_left; refine Z0 ?_; refine Z5 ?_; refine Z5 ?_; refine Z5 ?_; refine Z30 ?_; refine Z0 ?_; refine Z5 ?_; refine Z5 ?_; refine Z5 ?_; refine Z30 ?_; refine Z2 ?_; apply w_nil; apply wx_next; apply wc_ret; rotate_left))
  all_goals exact ret_fn H hm (outs1 Tryz.results26 Wh) (by simp [Tm.isVar, *])
theorem term_Const (t : Tm) (c : Cx) : Cn Tryz.prog 134 [.agg t.cs.toArray] c (fun v _ => v = .bool t.isConst) := by
  refine Cn.of Tryz.func134 Tryz.ntmps134 rfl rfl fun hm H HA => ?_
  (focus (apply wc_seq; apply wc_region; refine Z31 fun bx c H HA => ?_; refine Z2 ?_; apply w_nil; apply wx_next; apply wc_seq; apply wc_seq; apply wc_region; refine Z3 ?_; refine Z1 ?_; apply w_nil; apply wx_next; apply wc_block; apply wc_seq; apply wc_region; refine Z92 (fun hq => ?_) fun hq => ?_; refine Z2 ?_; apply w_nil; apply wx_next; refine Z18 ?_; apply wc_seq; apply wc_region; refine Z3 ?_; refine Z1 ?_; refine Z98 (fun hq => ?_) fun hq => ?_; refine Z2 ?_; apply w_nil; apply wx_next; apply wc_ret; apply wx_ret_block; apply wx_ret_then; rotate_left; refine Z2 ?_; apply w_nil; apply wx_next; apply wc_ret; apply wx_ret_block; apply wx_ret_then; rotate_left; refine Z2 ?_; apply w_nil; apply wx_next; refine Z19 ?_; apply wc_seq; apply wc_region; refine Z92 (fun hq => ?_) fun hq => ?_; refine Z2 ?_; apply w_nil; apply wx_next; refine Z18 ?_; apply wc_seq; apply wc_region; refine Z3 ?_; refine Z1 ?_; refine Z92 (fun hq => ?_) fun hq => ?_; refine Z0 ?_; refine Z4 ?_; refine Z3 ?_; refine Z4 ?_; refine Z1 ?_; refine Z4 ?_; refine Z43 ?_; refine Z4 ?_; refine Z95 (fun hq => ?_) fun hq => ?_; refine Z8 ?_; refine Z2 ?_; apply w_nil; apply wx_next; apply wc_ret; apply wx_ret_block; apply wx_ret_then; rotate_left; refine Z8 ?_; refine Z2 ?_; apply w_nil; apply wx_next; apply wc_ret; apply wx_ret_block; apply wx_ret_then; rotate_left; refine Z0 ?_; refine Z5 ?_; refine Z5 ?_; refine Z5 ?_; refine Z5 ?_; refine Z30 ?_; refine Z2 ?_; apply w_nil; apply wx_next; apply wc_ret; apply wx_ret_block; apply wx_ret_then; rotate_left; refine Z2 ?_; apply w_nil; apply wx_next; refine Z19 ?_; apply wc_skip; apply wx_norm_block; apply wx_next; apply wc_seq; apply wc_region; refine Z2 ?_; apply w_nil; apply wx_next; apply wc_ret; rotate_left))
  all_goals exact ret_fn H hm (outs1 Tryz.results134 Wh) (by simp_all [Tm.isConst])
theorem ref02_Const (t : Tm) (c : Cx) : Cn Tryz.prog 71 [.agg t.cs.toArray] c (fun v _ => v = .bool t.isConst) := by
  refine Cn.of Tryz.func71 Tryz.ntmps71 rfl rfl fun hm H HA => ?_
  (focus (apply wc_seq; apply wc_region; refine Z31 fun bx c H HA => ?_; refine Z2 ?_; apply w_nil; apply wx_next; apply wc_seq; apply wc_region; refine Z3 ?_; refine Z1 ?_; refine Z92 (fun hq => ?_) fun hq => ?_; refine Z0 ?_; refine Z4 ?_; refine Z3 ?_; refine Z4 ?_; refine Z1 ?_; refine Z4 ?_; refine Z98 (fun hq => ?_) fun hq => ?_; refine Z8 ?_; refine Z0 ?_; refine Z5 ?_; refine Z5 ?_; refine Z5 ?_; refine Z5 ?_; refine Z6 ?_; refine Z6 ?_; refine Z6 ?_; refine Z5 ?_; refine Z5 ?_; refine Z6 ?_; refine Z6 ?_; refine Z6 ?_; refine Z6 ?_; refine Z5 ?_; refine Z8 ?_; refine Z2 ?_; apply w_nil; apply wx_next; apply wc_ret; rotate_left; refine Z8 ?_; refine Z0 ?_; refine Z4 ?_; refine Z3 ?_; refine Z4 ?_; refine Z1 ?_; refine Z4 ?_; refine Z92 (fun hq => ?_) fun hq => ?_; refine Z4 ?_; refine Z0 ?_; refine Z4 ?_; refine Z3 ?_; refine Z4 ?_; refine Z1 ?_; refine Z4 ?_; refine Z92 (fun hq => ?_) fun hq => ?_; refine Z4 ?_; refine Z8 ?_; refine Z4 ?_; refine Z0 ?_; refine Z4 ?_; refine Z3 ?_; refine Z4 ?_; refine Z1 ?_; refine Z4 ?_; refine Z43 ?_; refine Z4 ?_; refine Z95 (fun hq => ?_) fun hq => ?_; refine Z4 ?_; refine Z8 ?_; refine Z30 ?_; refine Z2 ?_; apply w_nil; apply wx_next; apply wc_ret; rotate_left; refine Z4 ?_; refine Z8 ?_; refine Z30 ?_; refine Z2 ?_; apply w_nil; apply wx_next; apply wc_ret; rotate_left; refine Z4 ?_; refine Z8 ?_; refine Z4 ?_; refine Z0 ?_; refine Z5 ?_; refine Z5 ?_; refine Z5 ?_; refine Z5 ?_; refine Z4 ?_; refine Z30 ?_; refine Z30 ?_; refine Z2 ?_; apply w_nil; apply wx_next; apply wc_ret; rotate_left; refine Z4 ?_; refine Z0 ?_; refine Z5 ?_; refine Z5 ?_; refine Z5 ?_; refine Z4 ?_; refine Z30 ?_; refine Z4 ?_; refine Z0 ?_; refine Z5 ?_; refine Z5 ?_; refine Z5 ?_; refine Z5 ?_; refine Z4 ?_; refine Z30 ?_; refine Z30 ?_; refine Z2 ?_; apply w_nil; apply wx_next; apply wc_ret; rotate_left; refine Z0 ?_; refine Z5 ?_; refine Z5 ?_; refine Z5 ?_; refine Z30 ?_; refine Z0 ?_; refine Z4 ?_; refine Z3 ?_; refine Z4 ?_; refine Z1 ?_; refine Z4 ?_; refine Z92 (fun hq => ?_) fun hq => ?_; refine Z4 ?_; refine Z0 ?_; refine Z4 ?_; refine Z3 ?_; refine Z4 ?_; refine Z1 ?_; refine Z4 ?_; refine Z92 (fun hq => ?_) fun hq => ?_; refine Z4 ?_; refine Z8 ?_; refine Z4 ?_; refine Z0 ?_; refine Z4 ?_; refine Z3 ?_; refine Z4 ?_; refine Z1 ?_; refine Z4 ?_; refine Z43 ?_; refine Z4 ?_; refine Z95 (fun hq => ?_) fun hq => ?_; refine Z4 ?_; refine Z8 ?_; refine Z30 ?_; refine Z2 ?_; apply w_nil; apply wx_next; apply wc_ret; rotate_left; refine Z4 ?_; refine Z8 ?_; refine Z30 ?_; refine Z2 ?_; apply w_nil; apply wx_next; apply wc_ret; rotate_left; refine Z4 ?_; refine Z8 ?_; refine Z4 ?_; refine Z0 ?_; refine Z5 ?_; refine Z5 ?_; refine Z5 ?_; refine Z5 ?_; refine Z4 ?_; refine Z30 ?_; refine Z30 ?_; refine Z2 ?_; apply w_nil; apply wx_next; apply wc_ret; rotate_left; refine Z4 ?_; refine Z0 ?_; refine Z5 ?_; refine Z5 ?_; refine Z5 ?_; refine Z4 ?_; refine Z30 ?_; refine Z4 ?_; refine Z0 ?_; refine Z5 ?_; refine Z5 ?_; refine Z5 ?_; refine Z5 ?_; refine Z4 ?_; refine Z30 ?_; refine Z30 ?_; refine Z2 ?_; apply w_nil; apply wx_next; apply wc_ret; rotate_left))

  all_goals exact ret_fn H hm (outs1 Tryz.results71 Wh) (by simp_all [Tm.isConst])
theorem ref02_ints (a b : Int) (c : Cx) : Cn Tryz.prog 120 [.int .i64 a, .int .i64 b] c (fun v _ => v = .int .i64 (cmpI a b)) := by
  refine Cn.of Tryz.func120 Tryz.ntmps120 rfl rfl fun hm H HA => ?_
  (focus (apply wc_seq; apply wc_region; refine Z2 ?_; apply w_nil; apply wx_next; apply wc_seq; apply wc_seq; apply wc_region; refine Z0 ?_; refine Z0 ?_; refine Z93 (fun hq => ?_) fun hq => ?_; apply w_nil; apply wx_next; refine Z18 ?_; apply wc_seq; apply wc_region; refine Z2 ?_; apply w_nil; apply wx_next; apply wc_ret; apply wx_ret_then; rotate_left; apply w_nil; apply wx_next; refine Z19 ?_; apply wc_skip; apply wx_next; apply wc_seq; apply wc_seq; apply wc_region; refine Z0 ?_; refine Z0 ?_; refine Z96 (fun hq => ?_) fun hq => ?_; apply w_nil; apply wx_next; refine Z18 ?_; apply wc_seq; apply wc_region; refine Z2 ?_; apply w_nil; apply wx_next; apply wc_ret; apply wx_ret_then; rotate_left; apply w_nil; apply wx_next; refine Z19 ?_; apply wc_skip; apply wx_next; apply wc_seq; apply wc_region; refine Z2 ?_; apply w_nil; apply wx_next; apply wc_ret; rotate_left))
  all_goals exact ret_fn H hm (outs1 Tryz.results120 Wh) (by simp [cmpI, *])
theorem cmp_isNaN (a : Int) (c : Cx) : Cn Tryz.prog 165 [.int .i64 a] c (fun v _ => v = .bool false) := by
  refine Cn.of Tryz.func165 Tryz.ntmps165 rfl rfl fun hm H HA => ?_
  (focus (apply wc_seq; apply wc_region; refine Z2 ?_; apply w_nil; apply wx_next; apply wc_seq; apply wc_region; refine Z0 ?_; refine Z0 ?_; refine Z94 (fun hq => ?_) fun hq => ?_; refine Z2 ?_; apply w_nil; apply wx_next; apply wc_ret; rotate_left; refine Z2 ?_; apply w_nil; apply wx_next; apply wc_ret; rotate_left))
  · exact absurd rfl hq
  · exact ret_fn H hm (outs1 Tryz.results165 Wh) rfl
theorem cmp_Compare (a b : Int) (c : Cx) : Cn Tryz.prog 139 [.int .i64 a, .int .i64 b] c (fun v _ => v = .int .i64 (cmpI a b)) := by
  refine Cn.of Tryz.func139 Tryz.ntmps139 rfl rfl fun hm H HA => ?_
  (apply wc_seq; apply wc_region; refine Z2 ?_; apply w_nil; apply wx_next; apply wc_seq; apply wc_region; refine Z0 ?_)
  (refine s_call rfl rfl H HA (cmp_isNaN _ _) ?_; intro vx c H HP; have hvx := HP.h.1; have HA := HP.cut; subst hvx)
  (refine Z2 ?_; apply w_nil; apply wx_next; apply wc_seq; apply wc_region; refine Z0 ?_)
  (refine s_call rfl rfl H HA (cmp_isNaN _ _) ?_; intro vx c H HP; have hvx := HP.h.1; have HA := HP.cut; subst hvx)
  (focus (refine Z2 ?_; apply w_nil; apply wx_next; apply wc_seq; apply wc_seq; apply wc_region; refine Z0 ?_; apply w_nil; apply wx_next; refine Z19 ?_; apply wc_skip; apply wx_next; apply wc_seq; apply wc_seq; apply wc_region; refine Z0 ?_; apply w_nil; apply wx_next; refine Z19 ?_; apply wc_skip; apply wx_next; apply wc_seq; apply wc_seq; apply wc_region; refine Z0 ?_; refine Z0 ?_; refine Z93 (fun hq => ?_) fun hq => ?_; apply w_nil; apply wx_next; refine Z18 ?_; apply wc_seq; apply wc_region; refine Z2 ?_; apply w_nil; apply wx_next; apply wc_ret; apply wx_ret_then; rotate_left; apply w_nil; apply wx_next; refine Z19 ?_; apply wc_skip; apply wx_next; apply wc_seq; apply wc_seq; apply wc_region; refine Z0 ?_; refine Z0 ?_; refine Z96 (fun hq => ?_) fun hq => ?_; apply w_nil; apply wx_next; refine Z18 ?_; apply wc_seq; apply wc_region; refine Z2 ?_; apply w_nil; apply wx_next; apply wc_ret; apply wx_ret_then; rotate_left; apply w_nil; apply wx_next; refine Z19 ?_; apply wc_skip; apply wx_next; apply wc_seq; apply wc_region; refine Z2 ?_; apply w_nil; apply wx_next; apply wc_ret; rotate_left))
  all_goals exact ret_fn H hm (outs1 Tryz.results139 Wh) (by simp [cmpI, *])
theorem strings_Compare (a b : ByteArray) (c : Cx) : Cn Tryz.prog 140 [.string a, .string b] c (fun v _ => v = .int .i64 (cmpS a b)) := Cn.same (Tryz.strings_Compare a b c.w)
theorem term_Principal (t : Tm) (c : Cx) : Cn Tryz.prog 231 [.agg t.cs.toArray] c (fun v _ => v = .bool t.isPrinc) := by
  refine Cn.of Tryz.func231 Tryz.ntmps231 rfl rfl fun hm H HA => ?_
  (apply wc_seq; apply wc_region; refine Z31 fun bx c H HA => ?_; refine Z2 ?_; apply w_nil; apply wx_next; apply wc_seq; apply wc_region; refine Z7 ?_)
  (refine s_call rfl rfl H HA (term_Const t _) ?_; intro vx c H HP; have hvx := HP.h.1; have HA := HP.cut; subst hvx)
  cases hc : t.isConst
  all_goals (first | (focus (refine Z0 ?_; refine Z4 ?_; refine Z3 ?_; refine Z4 ?_; refine Z1 ?_; refine Z4 ?_; refine Z92 (fun hq => ?_) fun hq => ?_; refine Z8 ?_; refine Z0 ?_; refine Z4 ?_; refine Z3 ?_; refine Z4 ?_; refine Z1 ?_; refine Z4 ?_; refine Z99 (fun hq => ?_) fun hq => ?_; refine Z8 ?_; refine Z2 ?_; apply w_nil; apply wx_next; apply wc_ret; rotate_left; refine Z8 ?_; refine Z2 ?_; apply w_nil; apply wx_next; apply wc_ret; rotate_left; refine Z8 ?_; refine Z0 ?_; refine Z5 ?_; refine Z5 ?_; refine Z5 ?_; refine Z30 ?_; refine Z2 ?_; apply w_nil; apply wx_next; apply wc_ret; rotate_left)) | (refine Z0 ?_; refine Z5 ?_; refine Z5 ?_; refine Z5 ?_; refine Z30 ?_; refine Z0 ?_; refine Z5 ?_; refine Z5 ?_; refine Z5 ?_; refine Z30 ?_; refine Z2 ?_; apply w_nil; apply wx_next; apply wc_ret))
  all_goals exact ret_fn H hm (outs1 Tryz.results231 Wh) (by simp [Tm.isPrinc, *])
theorem ref02_Principal (t : Tm) (c : Cx) : Cn Tryz.prog 124 [.agg t.cs.toArray] c (fun v _ => v = .bool t.isPrinc) := by
  refine Cn.of Tryz.func124 Tryz.ntmps124 rfl rfl fun hm H HA => ?_
  (apply wc_seq; apply wc_region; refine Z31 fun bx c H HA => ?_; refine Z2 ?_; apply w_nil; apply wx_next; apply wc_seq; apply wc_region; refine Z7 ?_)
  (refine s_call rfl rfl H HA (ref02_Const t _) ?_; intro vx c H HP; have hvx := HP.h.1; have HA := HP.cut; subst hvx)
  cases hc : t.isConst
  all_goals (first | (focus (refine Z0 ?_; refine Z4 ?_; refine Z3 ?_; refine Z4 ?_; refine Z1 ?_; refine Z4 ?_; refine Z92 (fun hq => ?_) fun hq => ?_; refine Z8 ?_; refine Z0 ?_; refine Z4 ?_; refine Z3 ?_; refine Z4 ?_; refine Z1 ?_; refine Z4 ?_; refine Z99 (fun hq => ?_) fun hq => ?_; refine Z8 ?_; refine Z2 ?_; apply w_nil; apply wx_next; apply wc_ret; rotate_left; refine Z8 ?_; refine Z2 ?_; apply w_nil; apply wx_next; apply wc_ret; rotate_left; refine Z8 ?_; refine Z0 ?_; refine Z5 ?_; refine Z5 ?_; refine Z5 ?_; refine Z30 ?_; refine Z2 ?_; apply w_nil; apply wx_next; apply wc_ret; rotate_left)) | (refine Z0 ?_; refine Z5 ?_; refine Z5 ?_; refine Z5 ?_; refine Z30 ?_; refine Z0 ?_; refine Z5 ?_; refine Z5 ?_; refine Z5 ?_; refine Z30 ?_; refine Z2 ?_; apply w_nil; apply wx_next; apply wc_ret))
  all_goals exact ret_fn H hm (outs1 Tryz.results124 Wh) (by simp [Tm.isPrinc, *])
end Go.Proofs.YthkdggoohpgnnaaGreatDoor
/- Contracts: lists read through. -/
namespace Go.Proofs.YthkdggoohpgnnaaGreatDoor
open Go Go.Wk
theorem ref03_within (ts : List Tm) (v : Value) (t : Tm) (c : Cx) (h : Sl v ts c) : Cn Tryz.prog 78 [v, .agg t.cs.toArray] c (fun v _ => v = .bool (decide (t ∈ ts))) := by
  refine Cn.of Tryz.func78 Tryz.ntmps78 rfl rfl fun hm H HA => ?_
  have HA := HA.add h
  have hlim := h.lim
  (apply wc_seq; apply wc_region; refine Z31 fun bx c H HA => ?_; refine Z2 ?_; apply w_nil; apply wx_next; apply wc_seq; apply wc_seq; apply wc_region; refine Z2 ?_; apply w_nil; apply wx_next; apply wc_block)
  rename_i b c' H' HA'
  refine wc_loopN ts.length (fun k => [(0, v), (3, .pointer (some ⟨bx, 0, none⟩)), (5, .int .i64 k)]) (fun k => decide (t ∈ ts) = decide (t ∈ ts.drop k)) 0 H HA Ks (Nat.zero_le _) (by simp) ?_
  intro k g c hk hno H HA
  (focus (apply wc_seq; apply wc_seq; apply wc_region; refine Z0 ?_; refine Z0 ?_; refine Z45 ?_; refine Z93 (fun hq => ?_) fun hq => ?_; apply w_nil; apply wx_next; refine Z18 ?_; apply wc_skip; apply wx_next; apply wc_seq; apply wc_block; apply wc_seq; rotate_left; apply w_nil; apply wx_next; refine Z19 ?_; apply wc_exit; apply wx_exit_then; apply wx_exit_then; apply wx_exit_same; apply wx_next; apply wc_seq; apply wc_region; refine Z2 ?_; apply w_nil; apply wx_next; apply wc_ret; rotate_left))
  · obtain ⟨u, hu⟩ := getq (xs := ts) (k := k) (by omega)
    have hd := drop_get hu
    ((refine dw_start H HA ?_); (repeat (refine Dc ?_)); (refine dw_done mixed H HA rfl (by kernel_rfl) ?_; clear H HA; intro c H HA; (repeat (first | (intro vx hx; have hx2 : vx = _ := hx; clear hx; subst hx2) | (intro vx hx; have HA := HA.addSF hx; clear hx) | (intro vx hx; have HA := HA.add hx; clear hx) | intro vx)); change W _ _ _ _ _ _ _))
    (focus (apply w_nil; apply wx_next; (focus (apply wc_cond; rfl; all_goals intro hq)); apply wc_seq; apply wc_region; refine Z2 ?_; apply w_nil; apply wx_next; apply wc_ret; apply wx_ret_block; apply wx_ret_then; apply wx_ret_then; apply wx_ret_block; apply wx_ret_then; rotate_left; apply wc_skip; apply wx_norm_block; apply wx_next; apply wc_region; refine Z0 ?_; refine Z46 ?_; refine Z2 ?_; apply w_nil; rotate_left))
    · exact ret_fn H hm (outs1 Tryz.results78 Wh) (by simp_all)
    · exact wx_loopN (k + 1) H Cu Ks (by omega) (by simp at hq; simp [hno, hd, Ne.symm hq])
  · exact ret_fn H hm (outs1 Tryz.results78 Wh) (by simp [hno, drop_end hq])
theorem ref03_SameTerms (xs ys : List Tm) (v1 v2 : Value) (c : Cx) (h1 : Sl v1 xs c) (h2 : Sl v2 ys c) : Cn Tryz.prog 13 [v1, v2] c (fun v _ => v = .bool (decide (xs = ys))) := by
  refine Cn.of Tryz.func13 Tryz.ntmps13 rfl rfl fun hm H HA => ?_
  have HA := (HA.add h1).add h2
  have hlim := h1.lim
  (focus (apply wc_seq; apply wc_region; refine Z2 ?_; apply w_nil; apply wx_next; apply wc_seq; apply wc_seq; apply wc_region; refine Z0 ?_; refine Z45 ?_; refine Z0 ?_; refine Z45 ?_; refine Z94 (fun hq => ?_) fun hq => ?_; apply w_nil; apply wx_next; refine Z18 ?_; apply wc_seq; apply wc_region; refine Z2 ?_; apply w_nil; apply wx_next; apply wc_ret; apply wx_ret_then; rotate_left; apply w_nil; apply wx_next; refine Z19 ?_; apply wc_skip; apply wx_next; apply wc_seq; apply wc_seq; apply wc_region; refine Z2 ?_; apply w_nil; apply wx_next; apply wc_block; rotate_left))
  · exact ret_fn H hm (outs1 Tryz.results13 Wh) (by simp; intro e; subst e; omega)
  refine wc_loopN xs.length (fun k => [(0, v1), (1, v2), (5, .int .i64 k)]) (fun k => decide (xs = ys) = decide (xs.drop k = ys.drop k)) 0 H HA Ks (Nat.zero_le _) (by simp) ?_
  intro k g c hk hno H HA
  (focus (apply wc_seq; apply wc_seq; apply wc_region; refine Z0 ?_; refine Z0 ?_; refine Z45 ?_; refine Z93 (fun hq => ?_) fun hq => ?_; apply w_nil; apply wx_next; refine Z18 ?_; apply wc_skip; apply wx_next; apply wc_seq; apply wc_block; apply wc_seq; rotate_left; apply w_nil; apply wx_next; refine Z19 ?_; apply wc_exit; apply wx_exit_then; apply wx_exit_then; apply wx_exit_same; apply wx_next; apply wc_seq; apply wc_region; refine Z2 ?_; apply w_nil; apply wx_next; apply wc_ret; rotate_left))
  · obtain ⟨u, hu⟩ := getq (xs := xs) (k := k) (by omega)
    obtain ⟨u', hu'⟩ := getq (xs := ys) (k := k) (by omega)
    have hd := drop_get hu
    have hd' := drop_get hu'
    ((refine dw_start H HA ?_); (repeat (refine Dc ?_)); (refine dw_done mixed H HA rfl (by kernel_rfl) ?_; clear H HA; intro c H HA; (repeat (first | (intro vx hx; have hx2 : vx = _ := hx; clear hx; subst hx2) | (intro vx hx; have HA := HA.addSF hx; clear hx) | (intro vx hx; have HA := HA.add hx; clear hx) | intro vx)); change W _ _ _ _ _ _ _))
    (focus (apply w_nil; apply wx_next; (focus (apply wc_cond; rfl; all_goals intro hq)); apply wc_seq; apply wc_region; refine Z2 ?_; apply w_nil; apply wx_next; apply wc_ret; apply wx_ret_block; apply wx_ret_then; apply wx_ret_then; apply wx_ret_block; apply wx_ret_then; rotate_left; apply wc_skip; apply wx_norm_block; apply wx_next; apply wc_region; refine Z0 ?_; refine Z46 ?_; refine Z2 ?_; apply w_nil; rotate_left))
    · exact ret_fn H hm (outs1 Tryz.results13 Wh) (by simp_all)
    · exact wx_loopN (k + 1) H Cu Ks (by omega) (by simp_all)
  · exact ret_fn H hm (outs1 Tryz.results13 Wh) (by rename_i hq0 _; rw [hno, drop_end hq, drop_end (xs := ys) (k := k) (by omega)]; simp)
theorem ref03_SameAtom (a b : At0) (u1 u2 : Value) (c : Cx) (h1 : Ag a u1 c) (h2 : Ag b u2 c) : Cn Tryz.prog 66 [u1, u2] c (fun v _ => v = .bool (decide (a = b))) := by
  refine Cn.of Tryz.func66 Tryz.ntmps66 rfl rfl fun hm H HA => ?_
  have HA := (HA.add h1).add h2
  (focus (apply wc_seq; apply wc_region; refine Z40 fun vx c H HA => ?_; refine Z40 fun vx c H HA => ?_; refine Z2 ?_; apply w_nil; apply wx_next; apply wc_seq; apply wc_region; refine Z35 HA fun vx HA => ?_; refine Z38 ?_; refine Z35 HA fun vx HA => ?_; refine Z38 ?_; refine Z100 (fun hq => ?_) fun hq => ?_; refine Z0 ?_; refine Z4 ?_; refine Z35 HA fun vx HA => ?_; refine Z4 ?_; refine Z36 ?_; refine Z4 ?_; refine Z35 HA fun vx HA => ?_; refine Z4 ?_; refine Z36 ?_; refine Z4 ?_; refine Z98 (fun hq => ?_) fun hq => ?_; refine Z8 ?_; refine Z0 ?_; refine Z4 ?_; refine Z35 HA fun vx HA => ?_; refine Z4 ?_; refine Z37 HA fun vx HA => ?_; refine Z4 ?_; refine Z35 HA fun vx HA => ?_; refine Z4 ?_; refine Z37 HA fun vx HA => ?_; refine Z4 ?_; rotate_left; refine Z8 ?_; refine Z0 ?_; refine Z5 ?_; refine Z5 ?_; refine Z5 ?_; refine Z5 ?_; refine Z5 ?_; refine Z30 ?_; refine Z2 ?_; apply w_nil; apply wx_next; apply wc_ret; rotate_left; refine Z0 ?_; refine Z5 ?_; refine Z5 ?_; refine Z5 ?_; refine Z5 ?_; refine Z5 ?_; refine Z30 ?_; refine Z0 ?_; refine Z5 ?_; refine Z5 ?_; refine Z5 ?_; refine Z5 ?_; refine Z5 ?_; refine Z30 ?_; refine Z2 ?_; apply w_nil; apply wx_next; apply wc_ret; rotate_left))
  · (refine s_call rfl rfl H HA (ref03_SameTerms a.args b.args _ _ _ Lk Lk) ?_; intro vx c H HP; have hvx := HP.h.1; have HA := HP.cut; subst hvx)
    (refine Z8 ?_; refine Z2 ?_; apply w_nil; apply wx_next; apply wc_ret)
    exact ret_fn H hm (outs1 Tryz.results66 Wh) (by simp [At0.eq, *])
  all_goals exact ret_fn H hm (outs1 Tryz.results66 Wh) (by simp [At0.eq, *])
theorem ref03_SameAtoms (xs ys : List At0) (v1 v2 : Value) (c : Cx) (h1 : Sl v1 xs c) (h2 : Sl v2 ys c) : Cn Tryz.prog 82 [v1, v2] c (fun v _ => v = .bool (decide (xs = ys))) := by
  refine Cn.of Tryz.func82 Tryz.ntmps82 rfl rfl fun hm H HA => ?_
  have HA := (HA.add h1).add h2
  have hlim := h1.lim
  (focus (apply wc_seq; apply wc_region; refine Z2 ?_; apply w_nil; apply wx_next; apply wc_seq; apply wc_seq; apply wc_region; refine Z0 ?_; refine Z45 ?_; refine Z0 ?_; refine Z45 ?_; refine Z94 (fun hq => ?_) fun hq => ?_; apply w_nil; apply wx_next; refine Z18 ?_; apply wc_seq; apply wc_region; refine Z2 ?_; apply w_nil; apply wx_next; apply wc_ret; apply wx_ret_then; rotate_left; apply w_nil; apply wx_next; refine Z19 ?_; apply wc_skip; apply wx_next; apply wc_seq; apply wc_seq; apply wc_region; refine Z2 ?_; apply w_nil; apply wx_next; apply wc_block; rotate_left))
  · exact ret_fn H hm (outs1 Tryz.results82 Wh) (by simp; intro e; subst e; omega)
  refine wc_loopN xs.length (fun k => [(0, v1), (1, v2), (5, .int .i64 k)]) (fun k => decide (xs = ys) = decide (xs.drop k = ys.drop k)) 0 H HA Ks (Nat.zero_le _) (by simp) ?_
  intro k g c hk hno H HA
  (focus (apply wc_seq; apply wc_seq; apply wc_region; refine Z0 ?_; refine Z0 ?_; refine Z45 ?_; refine Z93 (fun hq => ?_) fun hq => ?_; apply w_nil; apply wx_next; refine Z18 ?_; apply wc_skip; apply wx_next; apply wc_seq; apply wc_block; apply wc_seq; rotate_left; apply w_nil; apply wx_next; refine Z19 ?_; apply wc_exit; apply wx_exit_then; apply wx_exit_then; apply wx_exit_same; apply wx_next; apply wc_seq; apply wc_region; refine Z2 ?_; apply w_nil; apply wx_next; apply wc_ret; rotate_left))
  · obtain ⟨u, hu⟩ := getq (xs := xs) (k := k) (by omega)
    obtain ⟨u', hu'⟩ := getq (xs := ys) (k := k) (by omega)
    have hd := drop_get hu
    have hd' := drop_get hu'
    (refine dw_start H HA ?_)
    (repeat (refine Dc ?_))
    (apply dw_cons; (focus ((intro B _ Lx c H HA; (repeat (first | (intro vx hx; have hx2 : vx = _ := hx; clear hx; subst hx2) | (intro vx hx; have HA := HA.addSF hx; clear hx) | (intro vx hx; have HA := HA.add hx; clear hx) | intro vx)); change W _ _ _ _ _ _ _); (refine s_call rfl rfl H HA (ref03_SameAtom u u' _ _ _ Lk Lk) ?_; intro vx c H HP; have hvx := HP.h.1; have HA := HP.cut; subst hvx); exact Dx)); exact inferInstance)
    (repeat (refine Dc ?_))
    (refine dw_done mixed H HA rfl (by kernel_rfl) ?_; clear H HA; intro c H HA; (repeat (first | (intro vx hx; have hx2 : vx = _ := hx; clear hx; subst hx2) | (intro vx hx; have HA := HA.addSF hx; clear hx) | (intro vx hx; have HA := HA.add hx; clear hx) | intro vx)); change W _ _ _ _ _ _ _)
    (focus (apply w_nil; apply wx_next; (focus (apply wc_cond; rfl; all_goals intro hq)); apply wc_seq; apply wc_region; refine Z2 ?_; apply w_nil; apply wx_next; apply wc_ret; apply wx_ret_block; apply wx_ret_then; apply wx_ret_then; apply wx_ret_block; apply wx_ret_then; rotate_left; apply wc_skip; apply wx_norm_block; apply wx_next; apply wc_region; refine Z0 ?_; refine Z46 ?_; refine Z2 ?_; apply w_nil; rotate_left))
    · exact ret_fn H hm (outs1 Tryz.results82 Wh) (by simp_all)
    · exact wx_loopN (k + 1) H Cu Ks (by omega) (by simp_all)
  · exact ret_fn H hm (outs1 Tryz.results82 Wh) (by rename_i hq0 _; rw [hno, drop_end hq, drop_end (xs := ys) (k := k) (by omega)]; simp)
end Go.Proofs.YthkdggoohpgnnaaGreatDoor
/- Contracts: the terms of atoms and clauses, variables. -/
namespace Go.Proofs.YthkdggoohpgnnaaGreatDoor
open Go Go.Wk
theorem ref03_atomTermsO (a : At0) (u : Value) (c : Cx) (h : Ag a u c) (hb : a.args.length + 1 < 1099511627776) : CnO Tryz.prog 76 [u] c (RowP 23 3 a.terms) := by
  refine CnO.of Tryz.func76 Tryz.ntmps76 rfl rfl fun hm H HA => ?_
  have HA := HA.add h
  (apply wc_seq; apply wc_region; refine Z40 fun vx c H HA => ?_; refine Z2 ?_; apply w_nil; apply wx_next; apply wc_seq; apply wc_region; refine Z35 HA fun vx HA => ?_; refine Z38 ?_)
  (apply s_bs1O; exact rfl; exact rfl; exact rfl; exact rfl; exact rfl; exact rfl; exact H; exact HA; exact inferInstance; intro vx c H HA)
  (refine Z2 ?_; apply w_nil; apply wx_next; apply wc_seq; apply wc_region; refine Z0 ?_; refine Z35 HA fun vx HA => ?_; refine Z37 HA fun vx HA => ?_; refine Z59 fun vx c valsx H HA => ?_; refine Z2 ?_; apply w_nil; apply wx_next; apply wc_ret)
  exact ret_fnO H hm (outs1 Tryz.results76 Wh) (rowP Lk) (fun _ _ => inferInstance)
theorem ref03_atomTerms (a : At0) (u : Value) (c : Cx) (h : Ag a u c) (hb : a.args.length + 1 < 1099511627776) : Cn Tryz.prog 76 [u] c (fun v c => Sl v a.terms c) := (ref03_atomTermsO a u c h hb).cn rfl hb
theorem term_places (a : At0) (u : Value) (c : Cx) (h : Ag a u c) (hb : a.args.length + 1 < 1099511627776) : Cn Tryz.prog 129 [u] c (fun v c => Sl v a.terms c) := by
  refine Cn.of Tryz.func129 Tryz.ntmps129 rfl rfl fun hm H HA => ?_
  have HA := HA.add h
  (apply wc_seq; apply wc_region; refine Z40 fun vx c H HA => ?_; refine Z2 ?_; apply w_nil; apply wx_next; apply wc_seq; apply wc_region; refine Z35 HA fun vx HA => ?_; refine Z38 ?_; refine Z56 fun vx c H HA => ?_; refine Z35 HA fun vx HA => ?_; refine Z37 HA fun vx HA => ?_; refine Z58 fun vx c H HA => ?_; refine Z2 ?_; apply w_nil; apply wx_next; apply wc_ret)
  exact ret_fn H hm (outs1 Tryz.results129 Wh) Lk
theorem ref03_bodyTerms (x : Cl) (u : Value) (c : Cx) (h : Ag x u c) (hb : x.bodyTerms.length < 1099511627776) : Cn Tryz.prog 63 [u] c (fun v c => Sl v x.bodyTerms c) := by
  refine Cn.of Tryz.func63 Tryz.ntmps63 rfl rfl fun hm H HA => ?_
  have hlim : x.body.length < 1099511627776 := by obtain ⟨cs, rfl, v, v1, v2, rfl, h⟩ := h; exact h.2.1.lim
  have HA := HA.add h
  (apply wc_seq; apply wc_region; refine Z40 fun vx c H HA => ?_; refine Z2 ?_; apply w_nil; apply wx_next; apply wc_seq; apply wc_region; refine Z2 ?_; apply w_nil; apply wx_next; apply wc_seq; apply wc_seq; apply wc_region; refine Z2 ?_; apply w_nil; apply wx_next; apply wc_block)
  (have H := H.nilR Tm  23 3; have HA := HA.add (Vals.nil (α := Tm) _))
  refine wc_loopR (α := Tm) x.body.length (fun k v' => [(1, vx), (3, v'), (4, .int .i64 k)]) (fun k acc => acc ++ (x.body.drop k).flatMap At0.terms = x.bodyTerms) 0 [] H Lk Cu Ks (Nat.zero_le _) (by simp [Cl.bodyTerms]) ?_
  intro k acc v' vals g c hk hp H HA
  have hlen : acc.length ≤ x.bodyTerms.length := by rw [← hp]; simp
  (focus (apply wc_seq; apply wc_seq; apply wc_region; refine Z0 ?_; refine Z35 HA fun vx HA => ?_; refine Z37 HA fun vx HA => ?_; refine Z45 ?_; refine Z93 (fun hq => ?_) fun hq => ?_; apply w_nil; apply wx_next; refine Z18 ?_; apply wc_skip; apply wx_next; apply wc_seq; apply wc_block; apply wc_region; refine Z0 ?_; refine Z35 HA fun vx HA => ?_; refine Z37 HA fun vx HA => ?_; refine Z0 ?_; rotate_left; apply w_nil; apply wx_next; refine Z19 ?_; apply wc_exit; apply wx_exit_then; apply wx_exit_then; apply wx_exit_same; apply wx_next; apply wc_seq; apply wc_region; refine Z0 ?_; refine Z2 ?_; apply w_nil; apply wx_next; apply wc_ret; rotate_left))
  · obtain ⟨a, ha⟩ := getq (xs := x.body) (k := k) (by omega)
    have hd := drop_get ha
    have hl2 : acc.length + a.args.length + 1 ≤ x.bodyTerms.length := by rw [← hp, hd]; simp [At0.terms]; omega
    (refine Z34 HA fun vx HA => ?_; refine Z39 HA fun vx HA => ?_)
    (refine s_call rfl rfl H HA (ref03_atomTerms a _ _ Lk (by omega)) ?_; intro vx c H HA)
    have hl3 : a.terms.length = a.args.length + 1 := rfl
    (refine Z59 fun vx c valsx H HA => ?_; refine Z2 ?_; apply w_nil; apply wx_norm_block; apply wx_next; apply wc_region; refine Z0 ?_; refine Z46 ?_; refine Z2 ?_; apply w_nil)
    exact wx_loopR (k + 1) H Lk Cu Ks (by omega) (by rw [← hp, hd]; simp)
  · (refine wx_freezeRow H HA Lk rfl rfl Lt ?_; intro c H HA)
    exact ret_fn H hm (outs1 Tryz.results63 Wh) (by rw [← hp, drop_end hq]; simpa using Lk)
theorem ref03_testTerms (x : Cl) (u : Value) (c : Cx) (h : Ag x u c) (hb : x.testTerms.length < 1099511627776) : Cn Tryz.prog 77 [u] c (fun v c => Sl v x.testTerms c) := by
  refine Cn.of Tryz.func77 Tryz.ntmps77 rfl rfl fun hm H HA => ?_
  have hlim : x.tests.length < 1099511627776 := by obtain ⟨cs, rfl, v, v1, v2, rfl, h⟩ := h; exact h.2.2.lim
  have HA := HA.add h
  (apply wc_seq; apply wc_region; refine Z40 fun vx c H HA => ?_; refine Z2 ?_; apply w_nil; apply wx_next; apply wc_seq; apply wc_region; refine Z2 ?_; apply w_nil; apply wx_next; apply wc_seq; apply wc_seq; apply wc_region; refine Z2 ?_; apply w_nil; apply wx_next; apply wc_block)
  (have H := H.nilR Tm  23 3; have HA := HA.add (Vals.nil (α := Tm) _))
  refine wc_loopR (α := Tm) x.tests.length (fun k v' => [(1, vx), (3, v'), (4, .int .i64 k)]) (fun k acc => acc ++ (x.tests.drop k).flatMap (fun t => [t.l, t.r]) = x.testTerms) 0 [] H Lk Cu Ks (Nat.zero_le _) (by simp [Cl.testTerms]) ?_
  intro k acc v' vals g c hk hp H HA
  have hlen : acc.length ≤ x.testTerms.length := by rw [← hp]; simp
  (focus (apply wc_seq; apply wc_seq; apply wc_region; refine Z0 ?_; refine Z35 HA fun vx HA => ?_; refine Z37 HA fun vx HA => ?_; refine Z45 ?_; refine Z93 (fun hq => ?_) fun hq => ?_; apply w_nil; apply wx_next; refine Z18 ?_; apply wc_skip; apply wx_next; apply wc_seq; apply wc_block; rotate_left; apply w_nil; apply wx_next; refine Z19 ?_; apply wc_exit; apply wx_exit_then; apply wx_exit_then; apply wx_exit_same; apply wx_next; apply wc_seq; apply wc_region; refine Z0 ?_; refine Z2 ?_; apply w_nil; apply wx_next; apply wc_ret; rotate_left))
  · obtain ⟨a, ha⟩ := getq (xs := x.tests) (k := k) (by omega)
    have hd := drop_get ha
    have hl2 : acc.length + 2 ≤ x.testTerms.length := by rw [← hp, hd]; simp
    ((refine dw_start H HA ?_); (repeat (refine Dc ?_)); (refine dw_done mixed H HA rfl (by kernel_rfl) ?_; clear H HA; intro c H HA; (repeat (first | (intro vx hx; have hx2 : vx = _ := hx; clear hx; subst hx2) | (intro vx hx; have HA := HA.addSF hx; clear hx) | (intro vx hx; have HA := HA.add hx; clear hx) | intro vx)); change W _ _ _ _ _ _ _))
    (refine Z59 fun vx c valsx H HA => ?_; refine Z2 ?_; apply w_nil; apply wx_norm_block; apply wx_next; apply wc_region; refine Z0 ?_; refine Z46 ?_; refine Z2 ?_; apply w_nil)
    exact wx_loopR (k + 1) H Lk Cu Ks (by omega) (by rw [← hp, hd]; simp)
  · (refine wx_freezeRow H HA Lk rfl rfl Lt ?_; intro c H HA)
    exact ret_fn H hm (outs1 Tryz.results77 Wh) (by rw [← hp, drop_end hq]; simpa using Lk)
theorem ref03_Terms (x : Cl) (u : Value) (c : Cx) (h : Ag x u c) (hb : x.terms.length < 1099511627776) : Cn Tryz.prog 70 [u] c (fun v c => Sl v x.terms c) := by
  refine Cn.of Tryz.func70 Tryz.ntmps70 rfl rfl fun hm H HA => ?_
  have HA := HA.add h
  have hl : x.head.args.length + 1 + x.bodyTerms.length + x.testTerms.length < 1099511627776 := by simp [Cl.terms, At0.terms] at hb; omega
  have hl3 : x.head.terms.length = x.head.args.length + 1 := rfl
  (apply wc_seq; apply wc_region; refine Z40 fun vx c H HA => ?_; refine Z2 ?_; apply w_nil; apply wx_next; apply wc_seq; apply wc_region; refine Z35 HA fun vx HA => ?_; refine Z39 HA fun vx HA => ?_)
  (refine s_callR rfl rfl H HA (ref03_atomTermsO x.head _ _ Lk (by omega)) ?_; intro vx valsx c H HA)
  (refine Z2 ?_; apply w_nil; apply wx_next; apply wc_seq; apply wc_region; refine Z0 ?_; refine Z39 HA fun vx HA => ?_)
  (refine s_call rfl rfl H HA (ref03_bodyTerms x _ _ Lk (by omega)) ?_; intro vx c H HA)
  (refine Z59 fun vx c valsx H HA => ?_; refine Z2 ?_; apply w_nil; apply wx_next; apply wc_seq; apply wc_region; refine Z0 ?_; refine Z39 HA fun vx HA => ?_)
  (refine s_call rfl rfl H HA (ref03_testTerms x _ _ Lk (by omega)) ?_; intro vx c H HA)
  (refine Z59 fun vx c valsx H HA => ?_; refine Z2 ?_; apply w_nil; apply wx_next; apply wc_ret)
  (refine wx_freezeRow H HA Lk rfl rfl Lt ?_; intro c H HA)
  exact ret_fn H hm (outs1 Tryz.results70 Wh) Lk
theorem ref03_variables (ts : List Tm) (v : Value) (c : Cx) (h : Sl v ts c) : Cn Tryz.prog 69 [v] c (fun v c => Sl v (varsOf ts) c) := by
  refine Cn.of Tryz.func69 Tryz.ntmps69 rfl rfl fun hm H HA => ?_
  have hlim := h.lim
  have HA := HA.add h
  have hvl := varsOf_len ts
  (apply wc_seq; apply wc_region; refine Z2 ?_; apply w_nil; apply wx_next; apply wc_seq; apply wc_region; refine Z2 ?_; apply w_nil; apply wx_next; apply wc_seq; apply wc_seq; apply wc_region; refine Z2 ?_; apply w_nil; apply wx_next; apply wc_block)
  (have H := H.nilR Tm  23 3; have HA := HA.add (Vals.nil (α := Tm) _))
  refine wc_loopR (α := Tm) ts.length (fun k v' => [(0, v), (3, v'), (4, .int .i64 k)]) (fun k acc => (ts.drop k).foldl varsOn acc = varsOf ts ∧ acc.length ≤ k) 0 [] H Lk Cu Ks (Nat.zero_le _) ⟨rfl, Nat.zero_le _⟩ ?_
  intro k acc v' vals g c hk hp H HA
  obtain ⟨hp, hlen⟩ := hp
  (focus (apply wc_seq; apply wc_seq; apply wc_region; refine Z0 ?_; refine Z0 ?_; refine Z45 ?_; refine Z93 (fun hq => ?_) fun hq => ?_; apply w_nil; apply wx_next; refine Z18 ?_; apply wc_skip; apply wx_next; apply wc_seq; apply wc_block; apply wc_seq; apply wc_region; refine Z0 ?_; refine Z0 ?_; rotate_left; apply w_nil; apply wx_next; refine Z19 ?_; apply wc_exit; apply wx_exit_then; apply wx_exit_then; apply wx_exit_same; apply wx_next; apply wc_seq; apply wc_region; refine Z0 ?_; refine Z2 ?_; apply w_nil; apply wx_next; apply wc_ret; rotate_left))
  · obtain ⟨a, ha⟩ := getq (xs := ts) (k := k) (by omega)
    have hd := drop_get ha
    (refine Z34 HA fun vx HA => ?_; refine Z38 ?_)
    (refine s_call rfl rfl H HA (ref02_Variable a _) ?_; intro vx c H HP; have hvx := HP.h.1; have HA := HP.cut; subst hvx)
    cases hv : a.isVar
    · (refine Z0 ?_; refine Z5 ?_; refine Z5 ?_; refine Z5 ?_; refine Z5 ?_; refine Z5 ?_; refine Z5 ?_; refine Z5 ?_; refine Z30 ?_; apply w_nil; apply wx_next; refine Z19 ?_; apply wc_skip; apply wx_norm_block; apply wx_next; apply wc_region; refine Z0 ?_; refine Z46 ?_; refine Z2 ?_; apply w_nil)
      exact wx_loopR (k + 1) H Lk Cu Ks (by omega) ⟨by rw [← hp, hd]; simp [varsOn, hv], by omega⟩
    · (refine Z0 ?_; refine Z4 ?_; refine Z0 ?_; refine Z4 ?_; refine Z0 ?_; refine Z4 ?_; refine Z0 ?_; refine Z4 ?_; refine Z34 HA fun vx HA => ?_; refine Z4 ?_; refine Z38 ?_; refine Z4 ?_)
      (refine s_callB rfl rfl Lk H HA rfl Lt (fun c HA => ref03_within acc _ a _ Lk) ?_; intro vx c hvx H HA; subst hvx)
      by_cases hm : a ∈ acc
      · rw [show decide (a ∈ acc) = true by simpa using hm]
        (refine Z4 ?_; refine Z33 ?_; refine Z8 ?_; apply w_nil; apply wx_next; refine Z19 ?_; apply wc_skip; apply wx_norm_block; apply wx_next; apply wc_region; refine Z0 ?_; refine Z46 ?_; refine Z2 ?_; apply w_nil)
        exact wx_loopR (k + 1) H Lk Cu Ks (by omega) ⟨by rw [← hp, hd]; simp [varsOn, hv, hm], by omega⟩
      · rw [show decide (a ∈ acc) = false by simpa using hm]
        (refine Z4 ?_; refine Z33 ?_; refine Z8 ?_; apply w_nil; apply wx_next; refine Z18 ?_; apply wc_region; refine Z0 ?_; refine Z0 ?_; refine Z0 ?_; refine Z34 HA fun vx HA => ?_; refine Z38 ?_; refine Z56 fun vx c H HA => ?_; refine Z59 fun vx c valsx H HA => ?_; refine Z2 ?_; apply w_nil; apply wx_norm_block; apply wx_next; apply wc_region; refine Z0 ?_; refine Z46 ?_; refine Z2 ?_; apply w_nil)
        exact wx_loopR (k + 1) H Lk Cu Ks (by omega) ⟨by rw [← hp, hd]; simp [varsOn, hv, hm], by simp; omega⟩
  · (refine wx_freezeRow H HA Lk rfl rfl Lt ?_; intro c H HA)
    exact ret_fn H hm (outs1 Tryz.results69 Wh) (by rw [← hp, drop_end hq]; simpa using Lk)
end Go.Proofs.YthkdggoohpgnnaaGreatDoor
/- Contracts: texts, names, comparison of terms and atoms, checks, of the document's answer. -/
namespace Go.Proofs.YthkdggoohpgnnaaGreatDoor
open Go Go.Wk
theorem ref02_Texts (a b : ByteArray) (c : Cx) (ha : a.size < 4611686018427387904) : Cn Tryz.prog 121 [.string a, .string b] c (fun v _ => v = .int .i64 (cmpS a b)) := by
  refine Cn.of Tryz.func121 Tryz.ntmps121 rfl rfl fun hm H HA => ?_
  (apply wc_seq; apply wc_region; refine Z2 ?_; apply w_nil; apply wx_next; apply wc_seq; apply wc_seq; apply wc_region; refine Z2 ?_; apply w_nil; apply wx_next; apply wc_block)
  refine wc_loopN a.size (fun k => [(0, .string a), (1, .string b), (5, .int .i64 k)]) (fun k => k ≤ b.size ∧ cmpS a b = Lib.compareBytes (a.data.toList.drop k) (b.data.toList.drop k)) 0 H HA Ks (Nat.zero_le _) ⟨Nat.zero_le _, rfl⟩ ?_
  intro k g c hk hp H HA
  obtain ⟨hk2, hp⟩ := hp
  have hla : a.data.toList.length = a.size := by simp
  have hlb : b.data.toList.length = b.size := by simp
  (focus (apply wc_seq; apply wc_seq; apply wc_region; refine Z0 ?_; refine Z0 ?_; refine Z43 ?_; refine Z93 (fun hq => ?_) fun hq => ?_; refine Z0 ?_; refine Z4 ?_; refine Z0 ?_; refine Z4 ?_; refine Z0 ?_; refine Z4 ?_; refine Z43 ?_; refine Z4 ?_; refine Z93 (fun hq => ?_) fun hq => ?_; refine Z8 ?_; apply w_nil; apply wx_next; refine Z18 ?_; apply wc_skip; apply wx_next; apply wc_seq; apply wc_block; apply wc_seq; rotate_left; refine Z8 ?_; apply w_nil; apply wx_next; refine Z19 ?_; apply wc_exit; apply wx_exit_then; apply wx_exit_then; apply wx_exit_same; apply wx_next; apply wc_seq; apply wc_region; refine Z0 ?_; refine Z43 ?_; refine Z0 ?_; refine Z43 ?_; rotate_left; refine Z0 ?_; refine Z5 ?_; refine Z5 ?_; refine Z5 ?_; refine Z5 ?_; refine Z30 ?_; apply w_nil; apply wx_next; refine Z19 ?_; apply wc_exit; apply wx_exit_then; apply wx_exit_then; apply wx_exit_same; apply wx_next; apply wc_seq; apply wc_region; refine Z0 ?_; refine Z43 ?_; refine Z0 ?_; refine Z43 ?_; rotate_left))
  · obtain ⟨u, hu, hul⟩ := byte_get (s := a) (k := k) (by omega)
    obtain ⟨u', hu', hul'⟩ := byte_get (s := b) (k := k) (by omega)
    ((refine dw_start H HA ?_); (repeat (refine Dc ?_)); (refine dw_done mixed H HA rfl (by kernel_rfl) ?_; clear H HA; intro c H HA; (repeat (first | (intro vx hx; have hx2 : vx = _ := hx; clear hx; subst hx2) | (intro vx hx; have HA := HA.addSF hx; clear hx) | (intro vx hx; have HA := HA.add hx; clear hx) | intro vx)); change W _ _ _ _ _ _ _))
    (focus (apply w_nil; apply wx_next; (focus (apply wc_cond; rfl; all_goals intro hq)); apply wc_seq; rotate_left; apply wc_skip; apply wx_norm_block; apply wx_next; apply wc_region; refine Z0 ?_; refine Z46 ?_; refine Z2 ?_; apply w_nil; rotate_left))
    · ((refine dw_start H HA ?_); (repeat (refine Dc ?_)); (refine dw_done mixed H HA rfl (by kernel_rfl) ?_; clear H HA; intro c H HA; (repeat (first | (intro vx hx; have hx2 : vx = _ := hx; clear hx; subst hx2) | (intro vx hx; have HA := HA.addSF hx; clear hx) | (intro vx hx; have HA := HA.add hx; clear hx) | intro vx)); change W _ _ _ _ _ _ _))
      (refine s_call rfl rfl H HA (ref02_ints _ _ _) ?_; intro vx c H HP; have hvx := HP.h.1; have HA := HP.cut; subst hvx)
      (refine Z2 ?_; apply w_nil; apply wx_next; apply wc_ret; apply wx_ret_block; apply wx_ret_then; apply wx_ret_then; apply wx_ret_block; apply wx_ret_then)
      exact ret_fn H hm (outs1 Tryz.results121 Wh) (by
        have hne : u ≠ u' := fun e => by subst e; simp at hq
        rw [hp, cb_step hul hul', if_neg hne])
    · exact wx_loopN (k + 1) H Cu Ks (by omega) ⟨by omega, by
        have he : u = u' := UInt8.toNat_inj.1 (by simp at hq; omega)
        rw [hp, cb_step hul hul', if_pos he]⟩
  all_goals
    (refine s_call rfl rfl H HA (ref02_ints _ _ _) ?_; intro vx c H HP; have hvx := HP.h.1; have HA := HP.cut; subst hvx)
    (refine Z2 ?_; apply w_nil; apply wx_next; apply wc_ret)
    exact ret_fn H hm (outs1 Tryz.results121 Wh) (by
      rw [hp, cb_end (by omega), hla, hlb, cmpI_nat, cmpI_nat]
      congr 1
      repeat' split <;> try omega)
theorem ref02_Compare (t u : Tm) (c : Cx) (ha : t.s.size < 4611686018427387904) : Cn Tryz.prog 68 [.agg t.cs.toArray, .agg u.cs.toArray] c (fun v _ => v = .int .i64 (cmpTm t u)) := by
  refine Cn.of Tryz.func68 Tryz.ntmps68 rfl rfl fun hm H HA => ?_
  (focus (apply wc_seq; apply wc_region; refine Z31 fun bx c H HA => ?_; refine Z31 fun bx c H HA => ?_; refine Z2 ?_; apply w_nil; apply wx_next; apply wc_seq; apply wc_seq; apply wc_region; refine Z3 ?_; refine Z1 ?_; refine Z3 ?_; refine Z1 ?_; refine Z94 (fun hq => ?_) fun hq => ?_; apply w_nil; apply wx_next; refine Z18 ?_; apply wc_seq; apply wc_region; refine Z3 ?_; refine Z1 ?_; refine Z3 ?_; refine Z1 ?_; rotate_left; apply w_nil; apply wx_next; refine Z19 ?_; apply wc_skip; apply wx_next; apply wc_seq; apply wc_seq; apply wc_region; refine Z3 ?_; refine Z1 ?_; refine Z3 ?_; refine Z1 ?_; refine Z94 (fun hq => ?_) fun hq => ?_; apply w_nil; apply wx_next; refine Z18 ?_; apply wc_seq; apply wc_region; refine Z3 ?_; refine Z1 ?_; refine Z3 ?_; refine Z1 ?_; rotate_left; apply w_nil; apply wx_next; refine Z19 ?_; apply wc_skip; apply wx_next; apply wc_seq; apply wc_region; refine Z3 ?_; refine Z1 ?_; refine Z3 ?_; refine Z1 ?_; rotate_left))
  · (refine s_call rfl rfl H HA (ref02_ints _ _ _) ?_; intro vx c H HP; have hvx := HP.h.1; have HA := HP.cut; subst hvx)
    (refine Z2 ?_; apply w_nil; apply wx_next; apply wc_ret; apply wx_ret_then)
    exact ret_fn H hm (outs1 Tryz.results68 Wh) (by simp [cmpTm, orI, cmpI]; intros; omega)
  · (refine s_call rfl rfl H HA (ref02_ints _ _ _) ?_; intro vx c H HP; have hvx := HP.h.1; have HA := HP.cut; subst hvx)
    (refine Z2 ?_; apply w_nil; apply wx_next; apply wc_ret; apply wx_ret_then)
    exact ret_fn H hm (outs1 Tryz.results68 Wh) (by simp_all [cmpTm, orI, cmpI]; intros; omega)
  · (refine s_call rfl rfl H HA (ref02_Texts _ _ _ ha) ?_; intro vx c H HP; have hvx := HP.h.1; have HA := HP.cut; subst hvx)
    (refine Z2 ?_; apply w_nil; apply wx_next; apply wc_ret)
    exact ret_fn H hm (outs1 Tryz.results68 Wh) (by simp_all [cmpTm, orI, cmpI])
theorem ref02_letter (u : UInt8) (c : Cx) : Cn Tryz.prog 149 [.int .u8 u.toNat] c (fun v _ => v = .bool (letterB u.toNat)) := by
  refine Cn.of Tryz.func149 Tryz.ntmps149 rfl rfl fun hm H HA => ?_
  (focus (apply wc_seq; apply wc_region; refine Z2 ?_; apply w_nil; apply wx_next; apply wc_seq; apply wc_region; refine Z0 ?_; refine Z97 (fun hq => ?_) fun hq => ?_; refine Z0 ?_; refine Z4 ?_; refine Z0 ?_; refine Z4 ?_; refine Z95 (fun hq => ?_) fun hq => ?_; refine Z8 ?_; refine Z0 ?_; refine Z5 ?_; refine Z5 ?_; refine Z5 ?_; refine Z6 ?_; refine Z6 ?_; refine Z5 ?_; refine Z8 ?_; refine Z0 ?_; refine Z5 ?_; refine Z5 ?_; refine Z5 ?_; refine Z6 ?_; refine Z6 ?_; refine Z5 ?_; refine Z8 ?_; refine Z0 ?_; refine Z5 ?_; refine Z5 ?_; refine Z8 ?_; refine Z2 ?_; apply w_nil; apply wx_next; apply wc_ret; rotate_left; refine Z8 ?_; refine Z0 ?_; refine Z4 ?_; refine Z0 ?_; refine Z4 ?_; refine Z97 (fun hq => ?_) fun hq => ?_; refine Z4 ?_; refine Z0 ?_; refine Z4 ?_; refine Z0 ?_; refine Z4 ?_; refine Z95 (fun hq => ?_) fun hq => ?_; refine Z4 ?_; refine Z8 ?_; refine Z30 ?_; refine Z0 ?_; refine Z5 ?_; refine Z5 ?_; refine Z5 ?_; refine Z6 ?_; refine Z6 ?_; refine Z5 ?_; refine Z8 ?_; refine Z0 ?_; refine Z5 ?_; refine Z5 ?_; refine Z8 ?_; refine Z2 ?_; apply w_nil; apply wx_next; apply wc_ret; rotate_left; refine Z4 ?_; refine Z8 ?_; refine Z30 ?_; refine Z0 ?_; refine Z4 ?_; refine Z0 ?_; refine Z4 ?_; refine Z97 (fun hq => ?_) fun hq => ?_; refine Z4 ?_; refine Z0 ?_; refine Z4 ?_; refine Z0 ?_; refine Z4 ?_; refine Z95 (fun hq => ?_) fun hq => ?_; refine Z4 ?_; refine Z8 ?_; refine Z30 ?_; refine Z0 ?_; refine Z5 ?_; refine Z5 ?_; refine Z8 ?_; refine Z2 ?_; apply w_nil; apply wx_next; apply wc_ret; rotate_left; refine Z4 ?_; refine Z8 ?_; refine Z30 ?_; refine Z0 ?_; refine Z4 ?_; refine Z0 ?_; refine Z4 ?_; refine Z92 (fun hq => ?_) fun hq => ?_; refine Z30 ?_; refine Z2 ?_; apply w_nil; apply wx_next; apply wc_ret; rotate_left; refine Z30 ?_; refine Z2 ?_; apply w_nil; apply wx_next; apply wc_ret; rotate_left; refine Z4 ?_; refine Z0 ?_; refine Z5 ?_; refine Z5 ?_; refine Z4 ?_; refine Z30 ?_; refine Z30 ?_; refine Z0 ?_; refine Z4 ?_; refine Z0 ?_; refine Z4 ?_; refine Z92 (fun hq => ?_) fun hq => ?_; refine Z30 ?_; refine Z2 ?_; apply w_nil; apply wx_next; apply wc_ret; rotate_left; refine Z30 ?_; refine Z2 ?_; apply w_nil; apply wx_next; apply wc_ret; rotate_left; refine Z4 ?_; refine Z0 ?_; refine Z5 ?_; refine Z5 ?_; refine Z4 ?_; refine Z30 ?_; refine Z30 ?_; refine Z0 ?_; refine Z4 ?_; refine Z0 ?_; refine Z4 ?_; refine Z97 (fun hq => ?_) fun hq => ?_; refine Z4 ?_; refine Z0 ?_; refine Z4 ?_; refine Z0 ?_; refine Z4 ?_; refine Z95 (fun hq => ?_) fun hq => ?_; refine Z4 ?_; refine Z8 ?_; refine Z30 ?_; refine Z0 ?_; refine Z5 ?_; refine Z5 ?_; refine Z8 ?_; refine Z2 ?_; apply w_nil; apply wx_next; apply wc_ret; rotate_left; refine Z4 ?_; refine Z8 ?_; refine Z30 ?_; refine Z0 ?_; refine Z4 ?_; refine Z0 ?_; refine Z4 ?_; refine Z92 (fun hq => ?_) fun hq => ?_; refine Z30 ?_; refine Z2 ?_; apply w_nil; apply wx_next; apply wc_ret; rotate_left; refine Z30 ?_; refine Z2 ?_; apply w_nil; apply wx_next; apply wc_ret; rotate_left; refine Z4 ?_; refine Z0 ?_; refine Z5 ?_; refine Z5 ?_; refine Z4 ?_; refine Z30 ?_; refine Z30 ?_; refine Z0 ?_; refine Z4 ?_; refine Z0 ?_; refine Z4 ?_; refine Z92 (fun hq => ?_) fun hq => ?_; refine Z30 ?_; refine Z2 ?_; apply w_nil; apply wx_next; apply wc_ret; rotate_left; refine Z30 ?_; refine Z2 ?_; apply w_nil; apply wx_next; apply wc_ret; rotate_left; refine Z0 ?_; refine Z5 ?_; refine Z5 ?_; refine Z30 ?_; refine Z0 ?_; refine Z4 ?_; refine Z0 ?_; refine Z4 ?_; refine Z97 (fun hq => ?_) fun hq => ?_; refine Z4 ?_; refine Z0 ?_; refine Z4 ?_; refine Z0 ?_; refine Z4 ?_; refine Z95 (fun hq => ?_) fun hq => ?_; refine Z4 ?_; refine Z8 ?_; refine Z30 ?_; refine Z0 ?_; refine Z5 ?_; refine Z5 ?_; refine Z5 ?_; refine Z6 ?_; refine Z6 ?_; refine Z5 ?_; refine Z8 ?_; refine Z0 ?_; refine Z5 ?_; refine Z5 ?_; refine Z8 ?_; refine Z2 ?_; apply w_nil; apply wx_next; apply wc_ret; rotate_left; refine Z4 ?_; refine Z8 ?_; refine Z30 ?_; refine Z0 ?_; refine Z4 ?_; refine Z0 ?_; refine Z4 ?_; refine Z97 (fun hq => ?_) fun hq => ?_; refine Z4 ?_; refine Z0 ?_; refine Z4 ?_; refine Z0 ?_; refine Z4 ?_; refine Z95 (fun hq => ?_) fun hq => ?_; refine Z4 ?_; refine Z8 ?_; refine Z30 ?_; refine Z0 ?_; refine Z5 ?_; refine Z5 ?_; refine Z8 ?_; refine Z2 ?_; apply w_nil; apply wx_next; apply wc_ret; rotate_left; refine Z4 ?_; refine Z8 ?_; refine Z30 ?_; refine Z0 ?_; refine Z4 ?_; refine Z0 ?_; refine Z4 ?_; refine Z92 (fun hq => ?_) fun hq => ?_; refine Z30 ?_; refine Z2 ?_; apply w_nil; apply wx_next; apply wc_ret; rotate_left; refine Z30 ?_; refine Z2 ?_; apply w_nil; apply wx_next; apply wc_ret; rotate_left; refine Z4 ?_; refine Z0 ?_; refine Z5 ?_; refine Z5 ?_; refine Z4 ?_; refine Z30 ?_; refine Z30 ?_; refine Z0 ?_; refine Z4 ?_; refine Z0 ?_; refine Z4 ?_; refine Z92 (fun hq => ?_) fun hq => ?_; refine Z30 ?_; refine Z2 ?_; apply w_nil; apply wx_next; apply wc_ret; rotate_left; refine Z30 ?_; refine Z2 ?_; apply w_nil; apply wx_next; apply wc_ret; rotate_left; refine Z4 ?_; refine Z0 ?_; refine Z5 ?_; refine Z5 ?_; refine Z4 ?_; refine Z30 ?_; refine Z30 ?_; refine Z0 ?_; refine Z4 ?_; refine Z0 ?_; refine Z4 ?_; refine Z97 (fun hq => ?_) fun hq => ?_; refine Z4 ?_; refine Z0 ?_; refine Z4 ?_; refine Z0 ?_; refine Z4 ?_; refine Z95 (fun hq => ?_) fun hq => ?_; refine Z4 ?_; refine Z8 ?_; refine Z30 ?_; refine Z0 ?_; refine Z5 ?_; refine Z5 ?_; refine Z8 ?_; refine Z2 ?_; apply w_nil; apply wx_next; apply wc_ret; rotate_left; refine Z4 ?_; refine Z8 ?_; refine Z30 ?_; refine Z0 ?_; refine Z4 ?_; refine Z0 ?_; refine Z4 ?_; refine Z92 (fun hq => ?_) fun hq => ?_; refine Z30 ?_; refine Z2 ?_; apply w_nil; apply wx_next; apply wc_ret; rotate_left; refine Z30 ?_; refine Z2 ?_; apply w_nil; apply wx_next; apply wc_ret; rotate_left; refine Z4 ?_; refine Z0 ?_; refine Z5 ?_; refine Z5 ?_; refine Z4 ?_; refine Z30 ?_; refine Z30 ?_; refine Z0 ?_; refine Z4 ?_; refine Z0 ?_; refine Z4 ?_; refine Z92 (fun hq => ?_) fun hq => ?_; refine Z30 ?_; refine Z2 ?_; apply w_nil; apply wx_next; apply wc_ret; rotate_left; refine Z30 ?_; refine Z2 ?_; apply w_nil; apply wx_next; apply wc_ret; rotate_left))
  all_goals exact ret_fn H hm (outs1 Tryz.results149 Wh) (by simp only [letterB, Value.bool.injEq]; simp; omega)
theorem ref02_Name (s : ByteArray) (c : Cx) (ha : s.size < 4611686018427387904) : Cn Tryz.prog 123 [.string s] c (fun v _ => v = .bool (nameB s)) := by
  refine Cn.of Tryz.func123 Tryz.ntmps123 rfl rfl fun hm H HA => ?_
  by_cases he : s = ES
  · subst he
    (focus (apply wc_seq; apply wc_region; refine Z2 ?_; apply w_nil; apply wx_next; apply wc_seq; apply wc_seq; apply wc_region; refine Z0 ?_; refine Z98 (fun hq => ?_) fun hq => ?_; refine Z0 ?_; refine Z5 ?_; refine Z5 ?_; refine Z5 ?_; refine Z8 ?_; refine Z0 ?_; refine Z5 ?_; refine Z5 ?_; refine Z8 ?_; refine Z0 ?_; refine Z5 ?_; refine Z5 ?_; refine Z5 ?_; refine Z8 ?_; refine Z0 ?_; refine Z5 ?_; refine Z5 ?_; refine Z5 ?_; refine Z8 ?_; apply w_nil; apply wx_next; refine Z18 ?_; apply wc_seq; apply wc_region; refine Z2 ?_; apply w_nil; apply wx_next; apply wc_ret; apply wx_ret_then; rotate_left; refine Z0 ?_; refine Z4 ?_; refine Z0 ?_; refine Z4 ?_; refine Z43 ?_; refine Z4 ?_; refine Z96 (fun hq => ?_) fun hq => ?_; refine Z30 ?_; refine Z0 ?_; refine Z5 ?_; refine Z5 ?_; refine Z8 ?_; refine Z0 ?_; refine Z5 ?_; refine Z5 ?_; refine Z5 ?_; refine Z8 ?_; refine Z0 ?_; refine Z5 ?_; refine Z5 ?_; refine Z5 ?_; refine Z8 ?_; apply w_nil; apply wx_next; refine Z18 ?_; apply wc_seq; apply wc_region; refine Z2 ?_; apply w_nil; apply wx_next; apply wc_ret; apply wx_ret_then; rotate_left; refine Z30 ?_; refine Z0 ?_; refine Z4 ?_; refine Z0 ?_; refine Z4 ?_; refine Z98 (fun hq => ?_) fun hq => ?_; refine Z30 ?_; refine Z0 ?_; refine Z5 ?_; refine Z5 ?_; refine Z5 ?_; refine Z8 ?_; refine Z0 ?_; refine Z5 ?_; refine Z5 ?_; refine Z5 ?_; refine Z8 ?_; apply w_nil; apply wx_next; refine Z18 ?_; apply wc_seq; apply wc_region; refine Z2 ?_; apply w_nil; apply wx_next; apply wc_ret; apply wx_ret_then; rotate_left; refine Z30 ?_; refine Z0 ?_; refine Z4 ?_; refine Z0 ?_; refine Z4 ?_; rotate_left))
    all_goals first | (exact ret_fn H hm (outs1 Tryz.results123 Wh) (by simp [nameB])) | (exfalso; simp_all; done)
  have hpos : ((0 : Nat) : Int) < (s.size : Int) := by
    have : s.size ≠ 0 := fun h => he (by
      obtain ⟨⟨l⟩⟩ := s
      simpa [ByteArray.size] using h)
    omega
  obtain ⟨u, hu, hul⟩ := byte_get hpos
  have hcons : ∃ l, s.data.toList = u :: l := by
    cases hl : s.data.toList with
    | nil => rw [hl] at hul; simp at hul
    | cons x l => rw [hl] at hul; simp at hul; exact ⟨l, by rw [hul]⟩
  obtain ⟨l, hl⟩ := hcons
  have hsz : s.data.toList.length = s.size := by simp
  (focus (apply wc_seq; apply wc_region; refine Z2 ?_; apply w_nil; apply wx_next; apply wc_seq; apply wc_seq; apply wc_region; refine Z0 ?_; refine Z86 ?_; refine Z0 ?_; refine Z4 ?_; refine Z0 ?_; refine Z4 ?_; refine Z43 ?_; refine Z4 ?_; refine Z96 (fun hq => ?_) fun hq => ?_; refine Z30 ?_; refine Z0 ?_; refine Z5 ?_; refine Z5 ?_; refine Z8 ?_; refine Z0 ?_; refine Z5 ?_; refine Z5 ?_; refine Z5 ?_; refine Z8 ?_; refine Z0 ?_; refine Z5 ?_; refine Z5 ?_; refine Z5 ?_; refine Z8 ?_; apply w_nil; apply wx_next; refine Z18 ?_; apply wc_seq; apply wc_region; refine Z2 ?_; apply w_nil; apply wx_next; apply wc_ret; apply wx_ret_then; rotate_left; refine Z30 ?_; refine Z0 ?_; refine Z4 ?_; refine Z0 ?_; refine Z4 ?_; refine Z98 (fun hq => ?_) fun hq => ?_; refine Z30 ?_; refine Z0 ?_; refine Z5 ?_; refine Z5 ?_; refine Z5 ?_; refine Z8 ?_; refine Z0 ?_; refine Z5 ?_; refine Z5 ?_; refine Z5 ?_; refine Z8 ?_; apply w_nil; apply wx_next; refine Z18 ?_; apply wc_seq; apply wc_region; refine Z2 ?_; apply w_nil; apply wx_next; apply wc_ret; apply wx_ret_then; rotate_left; refine Z30 ?_; refine Z0 ?_; refine Z4 ?_; refine Z0 ?_; refine Z4 ?_; refine Z52 ?_; refine Z4 ?_; refine Z93 (fun hq => ?_) fun hq => ?_; refine Z30 ?_; refine Z0 ?_; refine Z5 ?_; refine Z5 ?_; refine Z5 ?_; refine Z8 ?_; apply w_nil; apply wx_next; refine Z18 ?_; apply wc_seq; apply wc_region; refine Z2 ?_; apply w_nil; apply wx_next; apply wc_ret; apply wx_ret_then; rotate_left; refine Z30 ?_; refine Z0 ?_; refine Z4 ?_; refine Z0 ?_; refine Z4 ?_; refine Z52 ?_; refine Z4 ?_; refine Z96 (fun hq => ?_) fun hq => ?_; refine Z30 ?_; apply w_nil; apply wx_next; refine Z18 ?_; apply wc_seq; apply wc_region; refine Z2 ?_; apply w_nil; apply wx_next; apply wc_ret; apply wx_ret_then; rotate_left; refine Z30 ?_; apply w_nil; apply wx_next; refine Z19 ?_; apply wc_skip; apply wx_next; apply wc_seq; apply wc_seq; apply wc_region; refine Z2 ?_; apply w_nil; apply wx_next; apply wc_block; rotate_left))
  iterate 4 first | (exact ret_fn H hm (outs1 Tryz.results123 Wh) (by first | (simp_all [nameB]; done) | (simp [nameB, hl]; intros; omega)))
  have hname : nameB s = s.data.toList.all (fun u => letterB u.toNat) := by
    have h1 : decide (s.size ≤ 32) = true := by simp; omega
    have h2 : decide (97 ≤ u.toNat) = true := by simp; omega
    have h3 : decide (u.toNat ≤ 122) = true := by simp; omega
    have h4 : decide (s = says) = false := by simp; assumption
    simp only [nameB, hl, h1, h2, h3, h4, decide_eq_false he]
    simp
  refine wc_loopN s.size (fun k => [(0, .string s), (3, .int .i64 k)]) (fun k => nameB s = (s.data.toList.drop k).all (fun u => letterB u.toNat)) 0 H HA Ks (Nat.zero_le _) (by simpa using hname) ?_
  intro k g c hk hp H HA
  (focus (apply wc_seq; apply wc_seq; apply wc_region; refine Z0 ?_; refine Z0 ?_; refine Z43 ?_; refine Z93 (fun hq => ?_) fun hq => ?_; apply w_nil; apply wx_next; refine Z18 ?_; apply wc_skip; apply wx_next; apply wc_seq; apply wc_block; apply wc_seq; apply wc_region; refine Z0 ?_; refine Z0 ?_; rotate_left; apply w_nil; apply wx_next; refine Z19 ?_; apply wc_exit; apply wx_exit_then; apply wx_exit_then; apply wx_exit_same; apply wx_next; apply wc_seq; apply wc_region; refine Z2 ?_; apply w_nil; apply wx_next; apply wc_ret; rotate_left))
  · obtain ⟨u, hu, hul⟩ := byte_get (s := s) (k := k) (by omega)
    (refine Z52 ?_)
    (refine s_call rfl rfl H HA (ref02_letter u _) ?_; intro vx c H HP; have hvx := HP.h.1; have HA := HP.cut; subst hvx)
    have hd := drop_get hul
    cases hlb : letterB u.toNat
    · (refine Z33 ?_; apply w_nil; apply wx_next; refine Z18 ?_; apply wc_seq; apply wc_region; refine Z2 ?_; apply w_nil; apply wx_next; apply wc_ret; apply wx_ret_block; apply wx_ret_then; apply wx_ret_then; apply wx_ret_block; apply wx_ret_then)
      exact ret_fn H hm (outs1 Tryz.results123 Wh) (by rw [hp, hd]; simp [hlb])
    · (refine Z33 ?_; apply w_nil; apply wx_next; refine Z19 ?_; apply wc_skip; apply wx_norm_block; apply wx_next; apply wc_region; refine Z0 ?_; refine Z46 ?_; refine Z2 ?_; apply w_nil)
      exact wx_loopN (k + 1) H Cu Ks (by omega) (by rw [hp, hd]; simp [hlb])
  · exact ret_fn H hm (outs1 Tryz.results123 Wh) (by rw [hp, List.drop_eq_nil_of_le (by omega)]; rfl)
end Go.Proofs.YthkdggoohpgnnaaGreatDoor
/- Contracts: checks and comparison of atoms, tests, of the document's answer. -/
namespace Go.Proofs.YthkdggoohpgnnaaGreatDoor
open Go Go.Wk
theorem ref02_CheckAtom (a : At0) (u : Value) (c : Cx) (h : Ag a u c) (hs : a.name.size < 4611686018427387904) : Cn Tryz.prog 74 [u] c (fun v _ => v = .int .i64 a.check) := by
  refine Cn.of Tryz.func74 Tryz.ntmps74 rfl rfl fun hm H HA => ?_
  have hlim : a.args.length < 1099511627776 := by obtain ⟨cs, rfl, v, rfl, h⟩ := h; exact h.lim
  have HA := HA.add h
  (apply wc_seq; apply wc_region)
  (refine s_boxG rfl rfl Lk H HA ?_; intro p c H HA)
  (refine Z2 ?_; apply w_nil; apply wx_next; apply wc_seq; apply wc_seq; apply wc_region; refine Z35 HA fun vx HA => ?_; refine Z36 ?_)
  (refine s_call rfl rfl H HA (ref02_Name a.name _ hs) ?_; intro vx c H HP; have hvx := HP.h.1; have HA := HP.cut; subst hvx)
  cases hn : nameB a.name
  · (refine Z33 ?_; apply w_nil; apply wx_next; refine Z18 ?_; apply wc_seq; apply wc_region; refine Z2 ?_; apply w_nil; apply wx_next; apply wc_ret; apply wx_ret_then)
    exact ret_fn H hm (outs1 Tryz.results74 Wh) (by simp [At0.check, hn])
  (focus (refine Z33 ?_; apply w_nil; apply wx_next; refine Z19 ?_; apply wc_skip; apply wx_next; apply wc_seq; apply wc_seq; apply wc_region; refine Z35 HA fun vx HA => ?_; refine Z37 HA fun vx HA => ?_; refine Z45 ?_; refine Z96 (fun hq => ?_) fun hq => ?_; apply w_nil; apply wx_next; refine Z18 ?_; apply wc_seq; apply wc_region; refine Z2 ?_; apply w_nil; apply wx_next; apply wc_ret; apply wx_ret_then; rotate_left; apply w_nil; apply wx_next; refine Z19 ?_; apply wc_skip; apply wx_next; apply wc_seq; apply wc_seq; apply wc_region; refine Z35 HA fun vx HA => ?_; refine Z38 ?_; refine Z54 ?_; (focus (apply c_neT (u := Tn); exact rfl; exact rfl; exact rfl; all_goals intro hq)); refine Z0 ?_; refine Z4 ?_; refine Z35 HA fun vx HA => ?_; refine Z4 ?_; refine Z38 ?_; refine Z4 ?_; rotate_left; refine Z0 ?_; refine Z5 ?_; refine Z5 ?_; refine Z5 ?_; refine Z5 ?_; refine Z30 ?_; refine Z0 ?_; refine Z5 ?_; refine Z5 ?_; refine Z5 ?_; refine Z5 ?_; refine Z30 ?_; apply w_nil; apply wx_next; refine Z19 ?_; apply wc_skip; apply wx_next; apply wc_seq; apply wc_seq; apply wc_region; refine Z2 ?_; apply w_nil; apply wx_next; apply wc_block; rotate_left))
  · exact ret_fn H hm (outs1 Tryz.results74 Wh) (by simp [At0.check, hn]; intros; omega)
  · (refine s_call rfl rfl H HA (ref02_Principal a.by_ _) ?_; intro vx c H HP; have hvx := HP.h.1; have HA := HP.cut; subst hvx)
    cases hp : a.by_.isPrinc
    · (refine Z4 ?_; refine Z33 ?_; refine Z8 ?_; refine Z0 ?_; refine Z4 ?_; refine Z35 HA fun vx HA => ?_; refine Z4 ?_; refine Z38 ?_; refine Z4 ?_)
      (refine s_call rfl rfl H HA (ref02_Variable a.by_ _) ?_; intro vx c H HP; have hvx := HP.h.1; have HA := HP.cut; subst hvx)
      cases hv : a.by_.isVar
      · (refine Z4 ?_; refine Z33 ?_; refine Z8 ?_; apply w_nil; apply wx_next; refine Z18 ?_; apply wc_seq; apply wc_region; refine Z2 ?_; apply w_nil; apply wx_next; apply wc_ret; apply wx_ret_then)
        exact ret_fn H hm (outs1 Tryz.results74 Wh) (by simp_all [At0.check]; intros; omega)
      · (refine Z4 ?_; refine Z33 ?_; refine Z8 ?_; apply w_nil; apply wx_next; refine Z19 ?_; apply wc_skip; apply wx_next; apply wc_seq; apply wc_seq; apply wc_region; refine Z2 ?_; apply w_nil; apply wx_next; apply wc_block)
        refine wc_loopN a.args.length (fun k => [(1, p), (3, .int .i64 k)]) (fun k => a.args.any (fun t => !t.isConst && !t.isVar) = (a.args.drop k).any (fun t => !t.isConst && !t.isVar)) 0 H HA Ks (Nat.zero_le _) rfl ?_
        intro k g c hk hk2 H HA
        (focus (apply wc_seq; apply wc_seq; apply wc_region; refine Z0 ?_; refine Z35 HA fun vx HA => ?_; refine Z37 HA fun vx HA => ?_; refine Z45 ?_; refine Z93 (fun hq => ?_) fun hq => ?_; apply w_nil; apply wx_next; refine Z18 ?_; apply wc_skip; apply wx_next; apply wc_seq; apply wc_block; apply wc_seq; apply wc_region; refine Z35 HA fun vx HA => ?_; refine Z37 HA fun vx HA => ?_; refine Z0 ?_; rotate_left; apply w_nil; apply wx_next; refine Z19 ?_; apply wc_exit; apply wx_exit_then; apply wx_exit_then; apply wx_exit_same; apply wx_next; apply wc_seq; apply wc_region; refine Z2 ?_; apply w_nil; apply wx_next; apply wc_ret; rotate_left))
        · obtain ⟨t, ht⟩ := getq (xs := a.args) (k := k) (by omega)
          have hd := drop_get ht
          (refine Z34 HA fun vx HA => ?_; refine Z38 ?_)
          (refine s_call rfl rfl H HA (ref02_Const t _) ?_; intro vx c H HP; have hvx := HP.h.1; have HA := HP.cut; subst hvx)
          cases hc : t.isConst
          · (refine Z33 ?_; refine Z0 ?_; refine Z4 ?_; refine Z35 HA fun vx HA => ?_; refine Z4 ?_; refine Z37 HA fun vx HA => ?_; refine Z4 ?_; refine Z0 ?_; refine Z4 ?_; refine Z34 HA fun vx HA => ?_; refine Z4 ?_; refine Z38 ?_; refine Z4 ?_)
            (refine s_call rfl rfl H HA (ref02_Variable t _) ?_; intro vx c H HP; have hvx := HP.h.1; have HA := HP.cut; subst hvx)
            cases hv : t.isVar
            · (refine Z4 ?_; refine Z33 ?_; refine Z8 ?_; apply w_nil; apply wx_next; refine Z18 ?_; apply wc_seq; apply wc_region; refine Z2 ?_; apply w_nil; apply wx_next; apply wc_ret; apply wx_ret_block; apply wx_ret_then; apply wx_ret_then; apply wx_ret_block; apply wx_ret_then)
              exact ret_fn H hm (outs1 Tryz.results74 Wh) (by rw [At0.check, hk2, hd]; simp_all; omega)
            · (refine Z4 ?_; refine Z33 ?_; refine Z8 ?_; apply w_nil; apply wx_next; refine Z19 ?_; apply wc_skip; apply wx_norm_block; apply wx_next; apply wc_region; refine Z0 ?_; refine Z46 ?_; refine Z2 ?_; apply w_nil)
              exact wx_loopN (k + 1) H Cu Ks (by omega) (by rw [hk2, hd]; simp [hc, hv])
          · (refine Z33 ?_; refine Z0 ?_; refine Z5 ?_; refine Z5 ?_; refine Z5 ?_; refine Z5 ?_; refine Z5 ?_; refine Z5 ?_; refine Z5 ?_; refine Z30 ?_; apply w_nil; apply wx_next; refine Z19 ?_; apply wc_skip; apply wx_norm_block; apply wx_next; apply wc_region; refine Z0 ?_; refine Z46 ?_; refine Z2 ?_; apply w_nil)
            exact wx_loopN (k + 1) H Cu Ks (by omega) (by rw [hk2, hd]; simp [hc])
        · exact ret_fn H hm (outs1 Tryz.results74 Wh) (by rw [At0.check, hk2, drop_end hq]; simp_all; try omega)
    · (refine Z4 ?_; refine Z33 ?_; refine Z8 ?_; refine Z0 ?_; refine Z5 ?_; refine Z5 ?_; refine Z5 ?_; refine Z5 ?_; refine Z30 ?_; apply w_nil; apply wx_next; refine Z19 ?_; apply wc_skip; apply wx_next; apply wc_seq; apply wc_seq; apply wc_region; refine Z2 ?_; apply w_nil; apply wx_next; apply wc_block)
      refine wc_loopN a.args.length (fun k => [(1, p), (3, .int .i64 k)]) (fun k => a.args.any (fun t => !t.isConst && !t.isVar) = (a.args.drop k).any (fun t => !t.isConst && !t.isVar)) 0 H HA Ks (Nat.zero_le _) rfl ?_
      intro k g c hk hk2 H HA
      (focus (apply wc_seq; apply wc_seq; apply wc_region; refine Z0 ?_; refine Z35 HA fun vx HA => ?_; refine Z37 HA fun vx HA => ?_; refine Z45 ?_; refine Z93 (fun hq => ?_) fun hq => ?_; apply w_nil; apply wx_next; refine Z18 ?_; apply wc_skip; apply wx_next; apply wc_seq; apply wc_block; apply wc_seq; apply wc_region; refine Z35 HA fun vx HA => ?_; refine Z37 HA fun vx HA => ?_; refine Z0 ?_; rotate_left; apply w_nil; apply wx_next; refine Z19 ?_; apply wc_exit; apply wx_exit_then; apply wx_exit_then; apply wx_exit_same; apply wx_next; apply wc_seq; apply wc_region; refine Z2 ?_; apply w_nil; apply wx_next; apply wc_ret; rotate_left))
      · obtain ⟨t, ht⟩ := getq (xs := a.args) (k := k) (by omega)
        have hd := drop_get ht
        (refine Z34 HA fun vx HA => ?_; refine Z38 ?_)
        (refine s_call rfl rfl H HA (ref02_Const t _) ?_; intro vx c H HP; have hvx := HP.h.1; have HA := HP.cut; subst hvx)
        cases hc : t.isConst
        · (refine Z33 ?_; refine Z0 ?_; refine Z4 ?_; refine Z35 HA fun vx HA => ?_; refine Z4 ?_; refine Z37 HA fun vx HA => ?_; refine Z4 ?_; refine Z0 ?_; refine Z4 ?_; refine Z34 HA fun vx HA => ?_; refine Z4 ?_; refine Z38 ?_; refine Z4 ?_)
          (refine s_call rfl rfl H HA (ref02_Variable t _) ?_; intro vx c H HP; have hvx := HP.h.1; have HA := HP.cut; subst hvx)
          cases hv : t.isVar
          · (refine Z4 ?_; refine Z33 ?_; refine Z8 ?_; apply w_nil; apply wx_next; refine Z18 ?_; apply wc_seq; apply wc_region; refine Z2 ?_; apply w_nil; apply wx_next; apply wc_ret; apply wx_ret_block; apply wx_ret_then; apply wx_ret_then; apply wx_ret_block; apply wx_ret_then)
            exact ret_fn H hm (outs1 Tryz.results74 Wh) (by rw [At0.check, hk2, hd]; simp_all; omega)
          · (refine Z4 ?_; refine Z33 ?_; refine Z8 ?_; apply w_nil; apply wx_next; refine Z19 ?_; apply wc_skip; apply wx_norm_block; apply wx_next; apply wc_region; refine Z0 ?_; refine Z46 ?_; refine Z2 ?_; apply w_nil)
            exact wx_loopN (k + 1) H Cu Ks (by omega) (by rw [hk2, hd]; simp [hc, hv])
        · (refine Z33 ?_; refine Z0 ?_; refine Z5 ?_; refine Z5 ?_; refine Z5 ?_; refine Z5 ?_; refine Z5 ?_; refine Z5 ?_; refine Z5 ?_; refine Z30 ?_; apply w_nil; apply wx_next; refine Z19 ?_; apply wc_skip; apply wx_norm_block; apply wx_next; apply wc_region; refine Z0 ?_; refine Z46 ?_; refine Z2 ?_; apply w_nil)
          exact wx_loopN (k + 1) H Cu Ks (by omega) (by rw [hk2, hd]; simp [hc])
      · exact ret_fn H hm (outs1 Tryz.results74 Wh) (by rw [At0.check, hk2, drop_end hq]; simp_all; try omega)
  · refine wc_loopN a.args.length (fun k => [(1, p), (3, .int .i64 k)]) (fun k => a.args.any (fun t => !t.isConst && !t.isVar) = (a.args.drop k).any (fun t => !t.isConst && !t.isVar)) 0 H HA Ks (Nat.zero_le _) rfl ?_
    intro k g c hk hk2 H HA
    (focus (apply wc_seq; apply wc_seq; apply wc_region; refine Z0 ?_; refine Z35 HA fun vx HA => ?_; refine Z37 HA fun vx HA => ?_; refine Z45 ?_; refine Z93 (fun hq => ?_) fun hq => ?_; apply w_nil; apply wx_next; refine Z18 ?_; apply wc_skip; apply wx_next; apply wc_seq; apply wc_block; apply wc_seq; apply wc_region; refine Z35 HA fun vx HA => ?_; refine Z37 HA fun vx HA => ?_; refine Z0 ?_; rotate_left; apply w_nil; apply wx_next; refine Z19 ?_; apply wc_exit; apply wx_exit_then; apply wx_exit_then; apply wx_exit_same; apply wx_next; apply wc_seq; apply wc_region; refine Z2 ?_; apply w_nil; apply wx_next; apply wc_ret; rotate_left))
    · obtain ⟨t, ht⟩ := getq (xs := a.args) (k := k) (by omega)
      have hd := drop_get ht
      (refine Z34 HA fun vx HA => ?_; refine Z38 ?_)
      (refine s_call rfl rfl H HA (ref02_Const t _) ?_; intro vx c H HP; have hvx := HP.h.1; have HA := HP.cut; subst hvx)
      cases hc : t.isConst
      · (refine Z33 ?_; refine Z0 ?_; refine Z4 ?_; refine Z35 HA fun vx HA => ?_; refine Z4 ?_; refine Z37 HA fun vx HA => ?_; refine Z4 ?_; refine Z0 ?_; refine Z4 ?_; refine Z34 HA fun vx HA => ?_; refine Z4 ?_; refine Z38 ?_; refine Z4 ?_)
        (refine s_call rfl rfl H HA (ref02_Variable t _) ?_; intro vx c H HP; have hvx := HP.h.1; have HA := HP.cut; subst hvx)
        cases hv : t.isVar
        · (refine Z4 ?_; refine Z33 ?_; refine Z8 ?_; apply w_nil; apply wx_next; refine Z18 ?_; apply wc_seq; apply wc_region; refine Z2 ?_; apply w_nil; apply wx_next; apply wc_ret; apply wx_ret_block; apply wx_ret_then; apply wx_ret_then; apply wx_ret_block; apply wx_ret_then)
          exact ret_fn H hm (outs1 Tryz.results74 Wh) (by rw [At0.check, hk2, hd]; simp_all; omega)
        · (refine Z4 ?_; refine Z33 ?_; refine Z8 ?_; apply w_nil; apply wx_next; refine Z19 ?_; apply wc_skip; apply wx_norm_block; apply wx_next; apply wc_region; refine Z0 ?_; refine Z46 ?_; refine Z2 ?_; apply w_nil)
          exact wx_loopN (k + 1) H Cu Ks (by omega) (by rw [hk2, hd]; simp [hc, hv])
      · (refine Z33 ?_; refine Z0 ?_; refine Z5 ?_; refine Z5 ?_; refine Z5 ?_; refine Z5 ?_; refine Z5 ?_; refine Z5 ?_; refine Z5 ?_; refine Z30 ?_; apply w_nil; apply wx_next; refine Z19 ?_; apply wc_skip; apply wx_norm_block; apply wx_next; apply wc_region; refine Z0 ?_; refine Z46 ?_; refine Z2 ?_; apply w_nil)
        exact wx_loopN (k + 1) H Cu Ks (by omega) (by rw [hk2, hd]; simp [hc])
    · exact ret_fn H hm (outs1 Tryz.results74 Wh) (by rw [At0.check, hk2, drop_end hq]; simp_all; try omega)
theorem ref02_CheckTest (t : Ts) (c : Cx) : Cn Tryz.prog 75 [.agg t.cs.toArray] c (fun v _ => v = .int .i64 t.check) := by
  refine Cn.of Tryz.func75 Tryz.ntmps75 rfl rfl fun hm H HA => ?_
  (apply wc_seq; apply wc_region; refine Z31 fun bx c H HA => ?_; refine Z2 ?_; apply w_nil; apply wx_next; apply wc_seq; apply wc_region; refine Z3 ?_; refine Z7 ?_)
  (refine s_call rfl rfl H HA (ref02_Const t.l _) ?_; intro vx c H HP; have hvx := HP.h.1; have HA := HP.cut; subst hvx)
  cases h1 : t.l.isConst
  · (refine Z0 ?_; refine Z4 ?_; refine Z3 ?_; refine Z4 ?_; refine Z7 ?_; refine Z4 ?_)
    (refine s_call rfl rfl H HA (ref02_Variable t.l _) ?_; intro vx c H HP; have hvx := HP.h.1; have HA := HP.cut; subst hvx)
    cases h4 : t.l.isVar
    · (refine Z30 ?_; refine Z2 ?_; apply w_nil; apply wx_next; apply wc_seq; apply wc_region; refine Z3 ?_; refine Z7 ?_)
      (refine s_call rfl rfl H HA (ref02_Const t.r _) ?_; intro vx c H HP; have hvx := HP.h.1; have HA := HP.cut; subst hvx)
      cases h2 : t.r.isConst
      · (refine Z0 ?_; refine Z4 ?_; refine Z3 ?_; refine Z4 ?_; refine Z7 ?_; refine Z4 ?_)
        (refine s_call rfl rfl H HA (ref02_Variable t.r _) ?_; intro vx c H HP; have hvx := HP.h.1; have HA := HP.cut; subst hvx)
        cases h3 : t.r.isVar <;> (focus (refine Z30 ?_; refine Z2 ?_; apply w_nil; apply wx_next; apply wc_seq; apply wc_seq; apply wc_region; refine Z3 ?_; refine Z1 ?_; refine Z93 (fun hq => ?_) fun hq => ?_; refine Z0 ?_; refine Z5 ?_; refine Z5 ?_; refine Z5 ?_; refine Z8 ?_; refine Z0 ?_; refine Z5 ?_; refine Z5 ?_; refine Z8 ?_; refine Z0 ?_; refine Z5 ?_; refine Z5 ?_; refine Z8 ?_; apply w_nil; apply wx_next; refine Z18 ?_; apply wc_seq; apply wc_region; refine Z2 ?_; apply w_nil; apply wx_next; apply wc_ret; apply wx_ret_then; rotate_left; refine Z0 ?_; refine Z4 ?_; refine Z3 ?_; refine Z4 ?_; refine Z1 ?_; refine Z4 ?_; refine Z96 (fun hq => ?_) fun hq => ?_; refine Z30 ?_; refine Z0 ?_; refine Z5 ?_; refine Z5 ?_; refine Z8 ?_; refine Z0 ?_; refine Z5 ?_; refine Z5 ?_; refine Z8 ?_; apply w_nil; apply wx_next; refine Z18 ?_; apply wc_seq; apply wc_region; refine Z2 ?_; apply w_nil; apply wx_next; apply wc_ret; apply wx_ret_then; rotate_left; refine Z30 ?_; refine Z0 ?_; refine Z4 ?_; refine Z0 ?_; refine Z4 ?_; refine Z33 ?_; refine Z30 ?_; refine Z0 ?_; refine Z5 ?_; refine Z5 ?_; refine Z8 ?_; apply w_nil; apply wx_next; refine Z18 ?_; apply wc_seq; apply wc_region; refine Z2 ?_; apply w_nil; apply wx_next; apply wc_ret; apply wx_ret_then; rotate_left))
        all_goals exact ret_fn H hm (outs1 Tryz.results75 Wh) (by simp_all [Ts.check]; try omega)
      · (focus (refine Z0 ?_; refine Z5 ?_; refine Z5 ?_; refine Z5 ?_; refine Z8 ?_; refine Z2 ?_; apply w_nil; apply wx_next; apply wc_seq; apply wc_seq; apply wc_region; refine Z3 ?_; refine Z1 ?_; refine Z93 (fun hq => ?_) fun hq => ?_; refine Z0 ?_; refine Z5 ?_; refine Z5 ?_; refine Z5 ?_; refine Z8 ?_; refine Z0 ?_; refine Z5 ?_; refine Z5 ?_; refine Z8 ?_; refine Z0 ?_; refine Z5 ?_; refine Z5 ?_; refine Z8 ?_; apply w_nil; apply wx_next; refine Z18 ?_; apply wc_seq; apply wc_region; refine Z2 ?_; apply w_nil; apply wx_next; apply wc_ret; apply wx_ret_then; rotate_left; refine Z0 ?_; refine Z4 ?_; refine Z3 ?_; refine Z4 ?_; refine Z1 ?_; refine Z4 ?_; refine Z96 (fun hq => ?_) fun hq => ?_; refine Z30 ?_; refine Z0 ?_; refine Z5 ?_; refine Z5 ?_; refine Z8 ?_; refine Z0 ?_; refine Z5 ?_; refine Z5 ?_; refine Z8 ?_; apply w_nil; apply wx_next; refine Z18 ?_; apply wc_seq; apply wc_region; refine Z2 ?_; apply w_nil; apply wx_next; apply wc_ret; apply wx_ret_then; rotate_left; refine Z30 ?_; refine Z0 ?_; refine Z4 ?_; refine Z0 ?_; refine Z4 ?_; refine Z33 ?_; refine Z30 ?_; refine Z0 ?_; refine Z5 ?_; refine Z5 ?_; refine Z8 ?_; apply w_nil; apply wx_next; refine Z18 ?_; apply wc_seq; apply wc_region; refine Z2 ?_; apply w_nil; apply wx_next; apply wc_ret; apply wx_ret_then; rotate_left))
        all_goals exact ret_fn H hm (outs1 Tryz.results75 Wh) (by simp_all [Ts.check]; try omega)
    · (refine Z30 ?_; refine Z2 ?_; apply w_nil; apply wx_next; apply wc_seq; apply wc_region; refine Z3 ?_; refine Z7 ?_)
      (refine s_call rfl rfl H HA (ref02_Const t.r _) ?_; intro vx c H HP; have hvx := HP.h.1; have HA := HP.cut; subst hvx)
      cases h2 : t.r.isConst
      · (refine Z0 ?_; refine Z4 ?_; refine Z3 ?_; refine Z4 ?_; refine Z7 ?_; refine Z4 ?_)
        (refine s_call rfl rfl H HA (ref02_Variable t.r _) ?_; intro vx c H HP; have hvx := HP.h.1; have HA := HP.cut; subst hvx)
        cases h3 : t.r.isVar <;> (first | (focus (refine Z30 ?_; refine Z2 ?_; apply w_nil; apply wx_next; apply wc_seq; apply wc_seq; apply wc_region; refine Z3 ?_; refine Z1 ?_; refine Z93 (fun hq => ?_) fun hq => ?_; refine Z0 ?_; refine Z5 ?_; refine Z5 ?_; refine Z5 ?_; refine Z8 ?_; refine Z0 ?_; refine Z5 ?_; refine Z5 ?_; refine Z8 ?_; refine Z0 ?_; refine Z5 ?_; refine Z5 ?_; refine Z8 ?_; apply w_nil; apply wx_next; refine Z18 ?_; apply wc_seq; apply wc_region; refine Z2 ?_; apply w_nil; apply wx_next; apply wc_ret; apply wx_ret_then; rotate_left; refine Z0 ?_; refine Z4 ?_; refine Z3 ?_; refine Z4 ?_; refine Z1 ?_; refine Z4 ?_; refine Z96 (fun hq => ?_) fun hq => ?_; refine Z30 ?_; refine Z0 ?_; refine Z5 ?_; refine Z5 ?_; refine Z8 ?_; refine Z0 ?_; refine Z5 ?_; refine Z5 ?_; refine Z8 ?_; apply w_nil; apply wx_next; refine Z18 ?_; apply wc_seq; apply wc_region; refine Z2 ?_; apply w_nil; apply wx_next; apply wc_ret; apply wx_ret_then; rotate_left; refine Z30 ?_; refine Z0 ?_; refine Z4 ?_; refine Z0 ?_; refine Z4 ?_; refine Z33 ?_; refine Z30 ?_; refine Z0 ?_; refine Z4 ?_; refine Z0 ?_; refine Z4 ?_; refine Z33 ?_; refine Z30 ?_; apply w_nil; apply wx_next; refine Z19 ?_; apply wc_skip; apply wx_next; apply wc_seq; apply wc_region; refine Z2 ?_; apply w_nil; apply wx_next; apply wc_ret; rotate_left)) | (focus (refine Z30 ?_; refine Z2 ?_; apply w_nil; apply wx_next; apply wc_seq; apply wc_seq; apply wc_region; refine Z3 ?_; refine Z1 ?_; refine Z93 (fun hq => ?_) fun hq => ?_; refine Z0 ?_; refine Z5 ?_; refine Z5 ?_; refine Z5 ?_; refine Z8 ?_; refine Z0 ?_; refine Z5 ?_; refine Z5 ?_; refine Z8 ?_; refine Z0 ?_; refine Z5 ?_; refine Z5 ?_; refine Z8 ?_; apply w_nil; apply wx_next; refine Z18 ?_; apply wc_seq; apply wc_region; refine Z2 ?_; apply w_nil; apply wx_next; apply wc_ret; apply wx_ret_then; rotate_left; refine Z0 ?_; refine Z4 ?_; refine Z3 ?_; refine Z4 ?_; refine Z1 ?_; refine Z4 ?_; refine Z96 (fun hq => ?_) fun hq => ?_; refine Z30 ?_; refine Z0 ?_; refine Z5 ?_; refine Z5 ?_; refine Z8 ?_; refine Z0 ?_; refine Z5 ?_; refine Z5 ?_; refine Z8 ?_; apply w_nil; apply wx_next; refine Z18 ?_; apply wc_seq; apply wc_region; refine Z2 ?_; apply w_nil; apply wx_next; apply wc_ret; apply wx_ret_then; rotate_left; refine Z30 ?_; refine Z0 ?_; refine Z4 ?_; refine Z0 ?_; refine Z4 ?_; refine Z33 ?_; refine Z30 ?_; refine Z0 ?_; refine Z4 ?_; refine Z0 ?_; refine Z4 ?_; refine Z33 ?_; refine Z30 ?_; apply w_nil; apply wx_next; refine Z18 ?_; apply wc_seq; apply wc_region; refine Z2 ?_; apply w_nil; apply wx_next; apply wc_ret; apply wx_ret_then; rotate_left)))
        all_goals exact ret_fn H hm (outs1 Tryz.results75 Wh) (by simp_all [Ts.check]; try omega)
      · (focus (refine Z0 ?_; refine Z5 ?_; refine Z5 ?_; refine Z5 ?_; refine Z8 ?_; refine Z2 ?_; apply w_nil; apply wx_next; apply wc_seq; apply wc_seq; apply wc_region; refine Z3 ?_; refine Z1 ?_; refine Z93 (fun hq => ?_) fun hq => ?_; refine Z0 ?_; refine Z5 ?_; refine Z5 ?_; refine Z5 ?_; refine Z8 ?_; refine Z0 ?_; refine Z5 ?_; refine Z5 ?_; refine Z8 ?_; refine Z0 ?_; refine Z5 ?_; refine Z5 ?_; refine Z8 ?_; apply w_nil; apply wx_next; refine Z18 ?_; apply wc_seq; apply wc_region; refine Z2 ?_; apply w_nil; apply wx_next; apply wc_ret; apply wx_ret_then; rotate_left; refine Z0 ?_; refine Z4 ?_; refine Z3 ?_; refine Z4 ?_; refine Z1 ?_; refine Z4 ?_; refine Z96 (fun hq => ?_) fun hq => ?_; refine Z30 ?_; refine Z0 ?_; refine Z5 ?_; refine Z5 ?_; refine Z8 ?_; refine Z0 ?_; refine Z5 ?_; refine Z5 ?_; refine Z8 ?_; apply w_nil; apply wx_next; refine Z18 ?_; apply wc_seq; apply wc_region; refine Z2 ?_; apply w_nil; apply wx_next; apply wc_ret; apply wx_ret_then; rotate_left; refine Z30 ?_; refine Z0 ?_; refine Z4 ?_; refine Z0 ?_; refine Z4 ?_; refine Z33 ?_; refine Z30 ?_; refine Z0 ?_; refine Z4 ?_; refine Z0 ?_; refine Z4 ?_; refine Z33 ?_; refine Z30 ?_; apply w_nil; apply wx_next; refine Z19 ?_; apply wc_skip; apply wx_next; apply wc_seq; apply wc_region; refine Z2 ?_; apply w_nil; apply wx_next; apply wc_ret; rotate_left))
        all_goals exact ret_fn H hm (outs1 Tryz.results75 Wh) (by simp_all [Ts.check]; try omega)
  · (refine Z0 ?_; refine Z5 ?_; refine Z5 ?_; refine Z5 ?_; refine Z8 ?_; refine Z2 ?_; apply w_nil; apply wx_next; apply wc_seq; apply wc_region; refine Z3 ?_; refine Z7 ?_)
    (refine s_call rfl rfl H HA (ref02_Const t.r _) ?_; intro vx c H HP; have hvx := HP.h.1; have HA := HP.cut; subst hvx)
    cases h2 : t.r.isConst
    · (refine Z0 ?_; refine Z4 ?_; refine Z3 ?_; refine Z4 ?_; refine Z7 ?_; refine Z4 ?_)
      (refine s_call rfl rfl H HA (ref02_Variable t.r _) ?_; intro vx c H HP; have hvx := HP.h.1; have HA := HP.cut; subst hvx)
      cases h3 : t.r.isVar <;> (first | (focus (refine Z30 ?_; refine Z2 ?_; apply w_nil; apply wx_next; apply wc_seq; apply wc_seq; apply wc_region; refine Z3 ?_; refine Z1 ?_; refine Z93 (fun hq => ?_) fun hq => ?_; refine Z0 ?_; refine Z5 ?_; refine Z5 ?_; refine Z5 ?_; refine Z8 ?_; refine Z0 ?_; refine Z5 ?_; refine Z5 ?_; refine Z8 ?_; refine Z0 ?_; refine Z5 ?_; refine Z5 ?_; refine Z8 ?_; apply w_nil; apply wx_next; refine Z18 ?_; apply wc_seq; apply wc_region; refine Z2 ?_; apply w_nil; apply wx_next; apply wc_ret; apply wx_ret_then; rotate_left; refine Z0 ?_; refine Z4 ?_; refine Z3 ?_; refine Z4 ?_; refine Z1 ?_; refine Z4 ?_; refine Z96 (fun hq => ?_) fun hq => ?_; refine Z30 ?_; refine Z0 ?_; refine Z5 ?_; refine Z5 ?_; refine Z8 ?_; refine Z0 ?_; refine Z5 ?_; refine Z5 ?_; refine Z8 ?_; apply w_nil; apply wx_next; refine Z18 ?_; apply wc_seq; apply wc_region; refine Z2 ?_; apply w_nil; apply wx_next; apply wc_ret; apply wx_ret_then; rotate_left; refine Z30 ?_; refine Z0 ?_; refine Z4 ?_; refine Z0 ?_; refine Z4 ?_; refine Z33 ?_; refine Z30 ?_; refine Z0 ?_; refine Z4 ?_; refine Z0 ?_; refine Z4 ?_; refine Z33 ?_; refine Z30 ?_; apply w_nil; apply wx_next; refine Z19 ?_; apply wc_skip; apply wx_next; apply wc_seq; apply wc_region; refine Z2 ?_; apply w_nil; apply wx_next; apply wc_ret; rotate_left)) | (focus (refine Z30 ?_; refine Z2 ?_; apply w_nil; apply wx_next; apply wc_seq; apply wc_seq; apply wc_region; refine Z3 ?_; refine Z1 ?_; refine Z93 (fun hq => ?_) fun hq => ?_; refine Z0 ?_; refine Z5 ?_; refine Z5 ?_; refine Z5 ?_; refine Z8 ?_; refine Z0 ?_; refine Z5 ?_; refine Z5 ?_; refine Z8 ?_; refine Z0 ?_; refine Z5 ?_; refine Z5 ?_; refine Z8 ?_; apply w_nil; apply wx_next; refine Z18 ?_; apply wc_seq; apply wc_region; refine Z2 ?_; apply w_nil; apply wx_next; apply wc_ret; apply wx_ret_then; rotate_left; refine Z0 ?_; refine Z4 ?_; refine Z3 ?_; refine Z4 ?_; refine Z1 ?_; refine Z4 ?_; refine Z96 (fun hq => ?_) fun hq => ?_; refine Z30 ?_; refine Z0 ?_; refine Z5 ?_; refine Z5 ?_; refine Z8 ?_; refine Z0 ?_; refine Z5 ?_; refine Z5 ?_; refine Z8 ?_; apply w_nil; apply wx_next; refine Z18 ?_; apply wc_seq; apply wc_region; refine Z2 ?_; apply w_nil; apply wx_next; apply wc_ret; apply wx_ret_then; rotate_left; refine Z30 ?_; refine Z0 ?_; refine Z4 ?_; refine Z0 ?_; refine Z4 ?_; refine Z33 ?_; refine Z30 ?_; refine Z0 ?_; refine Z4 ?_; refine Z0 ?_; refine Z4 ?_; refine Z33 ?_; refine Z30 ?_; apply w_nil; apply wx_next; refine Z18 ?_; apply wc_seq; apply wc_region; refine Z2 ?_; apply w_nil; apply wx_next; apply wc_ret; apply wx_ret_then; rotate_left)))
      all_goals exact ret_fn H hm (outs1 Tryz.results75 Wh) (by simp_all [Ts.check]; try omega)
    · (focus (refine Z0 ?_; refine Z5 ?_; refine Z5 ?_; refine Z5 ?_; refine Z8 ?_; refine Z2 ?_; apply w_nil; apply wx_next; apply wc_seq; apply wc_seq; apply wc_region; refine Z3 ?_; refine Z1 ?_; refine Z93 (fun hq => ?_) fun hq => ?_; refine Z0 ?_; refine Z5 ?_; refine Z5 ?_; refine Z5 ?_; refine Z8 ?_; refine Z0 ?_; refine Z5 ?_; refine Z5 ?_; refine Z8 ?_; refine Z0 ?_; refine Z5 ?_; refine Z5 ?_; refine Z8 ?_; apply w_nil; apply wx_next; refine Z18 ?_; apply wc_seq; apply wc_region; refine Z2 ?_; apply w_nil; apply wx_next; apply wc_ret; apply wx_ret_then; rotate_left; refine Z0 ?_; refine Z4 ?_; refine Z3 ?_; refine Z4 ?_; refine Z1 ?_; refine Z4 ?_; refine Z96 (fun hq => ?_) fun hq => ?_; refine Z30 ?_; refine Z0 ?_; refine Z5 ?_; refine Z5 ?_; refine Z8 ?_; refine Z0 ?_; refine Z5 ?_; refine Z5 ?_; refine Z8 ?_; apply w_nil; apply wx_next; refine Z18 ?_; apply wc_seq; apply wc_region; refine Z2 ?_; apply w_nil; apply wx_next; apply wc_ret; apply wx_ret_then; rotate_left; refine Z30 ?_; refine Z0 ?_; refine Z4 ?_; refine Z0 ?_; refine Z4 ?_; refine Z33 ?_; refine Z30 ?_; refine Z0 ?_; refine Z4 ?_; refine Z0 ?_; refine Z4 ?_; refine Z33 ?_; refine Z30 ?_; apply w_nil; apply wx_next; refine Z19 ?_; apply wc_skip; apply wx_next; apply wc_seq; apply wc_region; refine Z2 ?_; apply w_nil; apply wx_next; apply wc_ret; rotate_left))
      all_goals exact ret_fn H hm (outs1 Tryz.results75 Wh) (by simp_all [Ts.check]; try omega)
theorem ref02_Decide (t : Ts) (c : Cx) (hs : t.l.sm) : Cn Tryz.prog 67 [.agg t.cs.toArray] c (fun v _ => v = .tuple #[.bool t.decide.1, .bool t.decide.2]) := by
  refine Cn.of Tryz.func67 Tryz.ntmps67 rfl rfl fun hm H HA => ?_
  (apply wc_seq; apply wc_region; refine Z31 fun bx c H HA => ?_; refine Z2 ?_; refine Z2 ?_; apply w_nil; apply wx_next; apply wc_seq; apply wc_seq; apply wc_region; refine Z7 ?_)
  (refine s_call rfl rfl H HA (ref02_CheckTest t _) ?_; intro vx c H HP; have hvx := HP.h.1; have HA := HP.cut; subst hvx)
  by_cases h0 : t.check = 0
  · (refine Z82 ?_; refine Z0 ?_; refine Z4 ?_; refine Z3 ?_; refine Z4 ?_; refine Z7 ?_; refine Z4 ?_)
    (refine s_call rfl rfl H HA (ref02_Const t.l _) ?_; intro vx c H HP; have hvx := HP.h.1; have HA := HP.cut; subst hvx)
    cases h1 : t.l.isConst
    · (refine Z4 ?_; refine Z33 ?_; refine Z30 ?_; refine Z0 ?_; refine Z5 ?_; refine Z5 ?_; refine Z5 ?_; refine Z5 ?_; refine Z8 ?_; apply w_nil; apply wx_next; refine Z18 ?_; apply wc_seq; apply wc_region; refine Z2 ?_; refine Z2 ?_; apply w_nil; apply wx_next; apply wc_ret; apply wx_ret_then)
      exact ret_fn H hm (outs2 Tryz.results67 Wh Wh) (by simp [Ts.decide, h1])
    · (refine Z4 ?_; refine Z33 ?_; refine Z30 ?_; refine Z0 ?_; refine Z4 ?_; refine Z3 ?_; refine Z4 ?_; refine Z7 ?_; refine Z4 ?_)
      (refine s_call rfl rfl H HA (ref02_Const t.r _) ?_; intro vx c H HP; have hvx := HP.h.1; have HA := HP.cut; subst hvx)
      cases h2 : t.r.isConst
      · (refine Z4 ?_; refine Z33 ?_; refine Z30 ?_; apply w_nil; apply wx_next; refine Z18 ?_; apply wc_seq; apply wc_region; refine Z2 ?_; refine Z2 ?_; apply w_nil; apply wx_next; apply wc_ret; apply wx_ret_then)
        exact ret_fn H hm (outs2 Tryz.results67 Wh Wh) (by simp [Ts.decide, h1, h2])
      · (refine Z4 ?_; refine Z33 ?_; refine Z30 ?_; apply w_nil; apply wx_next; refine Z19 ?_; apply wc_skip; apply wx_next; apply wc_seq; apply wc_region; refine Z3 ?_; refine Z7 ?_; refine Z3 ?_; refine Z7 ?_)
        (refine s_call rfl rfl H HA (ref02_Compare t.l t.r _ hs) ?_; intro vx c H HP; have hvx := HP.h.1; have HA := HP.cut; subst hvx)
        (focus (refine Z2 ?_; apply w_nil; apply wx_next; apply wc_seq; apply wc_seq; apply wc_region; refine Z3 ?_; refine Z1 ?_; apply w_nil; apply wx_next; apply wc_block; apply wc_seq; apply wc_region; refine Z92 (fun hq => ?_) fun hq => ?_; refine Z2 ?_; apply w_nil; apply wx_next; refine Z18 ?_; apply wc_seq; apply wc_region; refine Z0 ?_; refine Z92 (fun hq => ?_) fun hq => ?_; refine Z2 ?_; refine Z2 ?_; apply w_nil; apply wx_next; apply wc_ret; apply wx_ret_block; apply wx_ret_then; rotate_left; refine Z2 ?_; refine Z2 ?_; apply w_nil; apply wx_next; apply wc_ret; apply wx_ret_block; apply wx_ret_then; rotate_left; refine Z2 ?_; apply w_nil; apply wx_next; refine Z19 ?_; apply wc_seq; apply wc_region; refine Z92 (fun hq => ?_) fun hq => ?_; refine Z2 ?_; apply w_nil; apply wx_next; refine Z18 ?_; apply wc_seq; apply wc_region; refine Z0 ?_; refine Z94 (fun hq => ?_) fun hq => ?_; refine Z2 ?_; refine Z2 ?_; apply w_nil; apply wx_next; apply wc_ret; apply wx_ret_block; apply wx_ret_then; rotate_left; refine Z2 ?_; refine Z2 ?_; apply w_nil; apply wx_next; apply wc_ret; apply wx_ret_block; apply wx_ret_then; rotate_left; refine Z2 ?_; apply w_nil; apply wx_next; refine Z19 ?_; apply wc_seq; apply wc_region; refine Z92 (fun hq => ?_) fun hq => ?_; refine Z2 ?_; apply w_nil; apply wx_next; refine Z18 ?_; apply wc_seq; apply wc_region; refine Z0 ?_; refine Z93 (fun hq => ?_) fun hq => ?_; refine Z2 ?_; refine Z2 ?_; apply w_nil; apply wx_next; apply wc_ret; apply wx_ret_block; apply wx_ret_then; rotate_left; refine Z2 ?_; refine Z2 ?_; apply w_nil; apply wx_next; apply wc_ret; apply wx_ret_block; apply wx_ret_then; rotate_left; refine Z2 ?_; apply w_nil; apply wx_next; refine Z19 ?_; apply wc_skip; apply wx_norm_block; apply wx_next; apply wc_seq; apply wc_region; refine Z0 ?_; refine Z95 (fun hq => ?_) fun hq => ?_; refine Z2 ?_; refine Z2 ?_; apply w_nil; apply wx_next; apply wc_ret; rotate_left; refine Z2 ?_; refine Z2 ?_; apply w_nil; apply wx_next; apply wc_ret; rotate_left))
        all_goals exact ret_fn H hm (outs2 Tryz.results67 Wh Wh) (by simp [Ts.decide, h1, h2, *])
  · (refine Z82 ?_; refine Z0 ?_; refine Z5 ?_; refine Z5 ?_; refine Z5 ?_; refine Z5 ?_; refine Z8 ?_; refine Z0 ?_; refine Z5 ?_; refine Z5 ?_; refine Z5 ?_; refine Z5 ?_; refine Z8 ?_; apply w_nil; apply wx_next; refine Z18 ?_; apply wc_seq; apply wc_region; refine Z2 ?_; refine Z2 ?_; apply w_nil; apply wx_next; apply wc_ret; apply wx_ret_then)
    exact ret_fn H hm (outs2 Tryz.results67 Wh Wh) (by simp [Ts.decide, h0])
end Go.Proofs.YthkdggoohpgnnaaGreatDoor
/- Contracts: bindings, of the document's answer. -/
namespace Go.Wk
open Go
def looked (s : List Bd) (x : Int) : Value := .tuple #[.agg ((lookB s x).getD Tn).cs.toArray, .bool (lookB s x).isSome]
end Go.Wk
namespace Go.Proofs.YthkdggoohpgnnaaGreatDoor
open Go Go.Wk
end Go.Proofs.YthkdggoohpgnnaaGreatDoor
/- Contracts: sameness of clauses, places, the terms put back. -/
namespace Go.Proofs.YthkdggoohpgnnaaGreatDoor
open Go Go.Wk
theorem ref03_sameTests (xs ys : List Ts) (v1 v2 : Value) (c : Cx) (h1 : Sl v1 xs c) (h2 : Sl v2 ys c) : Cn Tryz.prog 53 [v1, v2] c (fun v _ => v = .bool (decide (xs = ys))) := by
  refine Cn.of Tryz.func53 Tryz.ntmps53 rfl rfl fun hm H HA => ?_
  have HA := (HA.add h1).add h2
  have hlim := h1.lim
  (focus (apply wc_seq; apply wc_region; refine Z2 ?_; apply w_nil; apply wx_next; apply wc_seq; apply wc_seq; apply wc_region; refine Z0 ?_; refine Z45 ?_; refine Z0 ?_; refine Z45 ?_; refine Z94 (fun hq => ?_) fun hq => ?_; apply w_nil; apply wx_next; refine Z18 ?_; apply wc_seq; apply wc_region; refine Z2 ?_; apply w_nil; apply wx_next; apply wc_ret; apply wx_ret_then; rotate_left; apply w_nil; apply wx_next; refine Z19 ?_; apply wc_skip; apply wx_next; apply wc_seq; apply wc_seq; apply wc_region; refine Z2 ?_; apply w_nil; apply wx_next; apply wc_block; rotate_left))
  · exact ret_fn H hm (outs1 Tryz.results53 Wh) (by simp; intro e; subst e; omega)
  refine wc_loopN xs.length (fun k => [(0, v1), (1, v2), (5, .int .i64 k)]) (fun k => decide (xs = ys) = decide (xs.drop k = ys.drop k)) 0 H HA Ks (Nat.zero_le _) (by simp) ?_
  intro k g c hk hno H HA
  (focus (apply wc_seq; apply wc_seq; apply wc_region; refine Z0 ?_; refine Z0 ?_; refine Z45 ?_; refine Z93 (fun hq => ?_) fun hq => ?_; apply w_nil; apply wx_next; refine Z18 ?_; apply wc_skip; apply wx_next; apply wc_seq; apply wc_block; apply wc_seq; rotate_left; apply w_nil; apply wx_next; refine Z19 ?_; apply wc_exit; apply wx_exit_then; apply wx_exit_then; apply wx_exit_same; apply wx_next; apply wc_seq; apply wc_region; refine Z2 ?_; apply w_nil; apply wx_next; apply wc_ret; rotate_left))
  · obtain ⟨u, hu⟩ := getq (xs := xs) (k := k) (by omega)
    obtain ⟨u', hu'⟩ := getq (xs := ys) (k := k) (by omega)
    have hd := drop_get hu
    have hd' := drop_get hu'
    ((refine dw_start H HA ?_); (repeat (refine Dc ?_)); (refine dw_done mixed H HA rfl (by kernel_rfl) ?_; clear H HA; intro c H HA; (repeat (first | (intro vx hx; have hx2 : vx = _ := hx; clear hx; subst hx2) | (intro vx hx; have HA := HA.addSF hx; clear hx) | (intro vx hx; have HA := HA.add hx; clear hx) | intro vx)); change W _ _ _ _ _ _ _))
    (focus (apply w_nil; apply wx_next; (focus (apply wc_cond; rfl; all_goals intro hq)); apply wc_seq; apply wc_region; refine Z2 ?_; apply w_nil; apply wx_next; apply wc_ret; apply wx_ret_block; apply wx_ret_then; apply wx_ret_then; apply wx_ret_block; apply wx_ret_then; rotate_left; apply wc_skip; apply wx_norm_block; apply wx_next; apply wc_region; refine Z0 ?_; refine Z46 ?_; refine Z2 ?_; apply w_nil; rotate_left))
    · exact ret_fn H hm (outs1 Tryz.results53 Wh) (by simp_all)
    · exact wx_loopN (k + 1) H Cu Ks (by omega) (by simp_all)
  · exact ret_fn H hm (outs1 Tryz.results53 Wh) (by rename_i hq0 _; rw [hno, drop_end hq, drop_end (xs := ys) (k := k) (by omega)]; simp)
theorem ref03_SameClause (a b : Cl) (u1 u2 : Value) (c : Cx) (h1 : Ag a u1 c) (h2 : Ag b u2 c) : Cn Tryz.prog 33 [u1, u2] c (fun v _ => v = .bool (decide (a = b))) := by
  refine Cn.of Tryz.func33 Tryz.ntmps33 rfl rfl fun hm H HA => ?_
  have HA := (HA.add h1).add h2
  (apply wc_seq; apply wc_region; refine Z40 fun vx c H HA => ?_; refine Z40 fun vx c H HA => ?_; refine Z2 ?_; apply w_nil; apply wx_next; apply wc_seq; apply wc_region; refine Z35 HA fun vx HA => ?_; refine Z39 HA fun vx HA => ?_; refine Z35 HA fun vx HA => ?_; refine Z39 HA fun vx HA => ?_)
  (refine s_call rfl rfl H HA (ref03_SameAtom a.head b.head _ _ _ Lk Lk) ?_; intro vx c H HP; have hvx := HP.h.1; have HA := HP.cut; subst hvx)
  generalize e1 : decide (a.head = b.head) = g1
  cases g1
  · (refine Z0 ?_; refine Z5 ?_; refine Z5 ?_; refine Z5 ?_; refine Z5 ?_; refine Z5 ?_; refine Z30 ?_; refine Z0 ?_; refine Z5 ?_; refine Z5 ?_; refine Z5 ?_; refine Z5 ?_; refine Z5 ?_; refine Z30 ?_; refine Z2 ?_; apply w_nil; apply wx_next; apply wc_ret)
    exact ret_fn H hm (outs1 Tryz.results33 Wh) (by simp at e1; simp [Cl.eq, e1])
  (refine Z0 ?_; refine Z4 ?_; refine Z35 HA fun vx HA => ?_; refine Z4 ?_; refine Z37 HA fun vx HA => ?_; refine Z4 ?_; refine Z35 HA fun vx HA => ?_; refine Z4 ?_; refine Z37 HA fun vx HA => ?_; refine Z4 ?_)
  (refine s_call rfl rfl H HA (ref03_SameAtoms a.body b.body _ _ _ Lk Lk) ?_; intro vx c H HP; have hvx := HP.h.1; have HA := HP.cut; subst hvx)
  generalize e2 : decide (a.body = b.body) = g2
  cases g2
  · (refine Z8 ?_; refine Z0 ?_; refine Z5 ?_; refine Z5 ?_; refine Z5 ?_; refine Z5 ?_; refine Z5 ?_; refine Z30 ?_; refine Z2 ?_; apply w_nil; apply wx_next; apply wc_ret)
    exact ret_fn H hm (outs1 Tryz.results33 Wh) (by simp at e2; simp [Cl.eq, e2])
  (refine Z8 ?_; refine Z0 ?_; refine Z4 ?_; refine Z35 HA fun vx HA => ?_; refine Z4 ?_; refine Z37 HA fun vx HA => ?_; refine Z4 ?_; refine Z35 HA fun vx HA => ?_; refine Z4 ?_; refine Z37 HA fun vx HA => ?_; refine Z4 ?_)
  (refine s_call rfl rfl H HA (ref03_sameTests a.tests b.tests _ _ _ Lk Lk) ?_; intro vx c H HP; have hvx := HP.h.1; have HA := HP.cut; subst hvx)
  (refine Z8 ?_; refine Z2 ?_; apply w_nil; apply wx_next; apply wc_ret)
  exact ret_fn H hm (outs1 Tryz.results33 Wh) (by simp at e1 e2; simp [Cl.eq, e1, e2])
theorem ref03_SameClauses (xs ys : List Cl) (v1 v2 : Value) (c : Cx) (h1 : Sl v1 xs c) (h2 : Sl v2 ys c) : Cn Tryz.prog 19 [v1, v2] c (fun v _ => v = .bool (decide (xs = ys))) := by
  refine Cn.of Tryz.func19 Tryz.ntmps19 rfl rfl fun hm H HA => ?_
  have HA := (HA.add h1).add h2
  have hlim := h1.lim
  (focus (apply wc_seq; apply wc_region; refine Z2 ?_; apply w_nil; apply wx_next; apply wc_seq; apply wc_seq; apply wc_region; refine Z0 ?_; refine Z45 ?_; refine Z0 ?_; refine Z45 ?_; refine Z94 (fun hq => ?_) fun hq => ?_; apply w_nil; apply wx_next; refine Z18 ?_; apply wc_seq; apply wc_region; refine Z2 ?_; apply w_nil; apply wx_next; apply wc_ret; apply wx_ret_then; rotate_left; apply w_nil; apply wx_next; refine Z19 ?_; apply wc_skip; apply wx_next; apply wc_seq; apply wc_seq; apply wc_region; refine Z2 ?_; apply w_nil; apply wx_next; apply wc_block; rotate_left))
  · exact ret_fn H hm (outs1 Tryz.results19 Wh) (by simp; intro e; subst e; omega)
  refine wc_loopN xs.length (fun k => [(0, v1), (1, v2), (5, .int .i64 k)]) (fun k => decide (xs = ys) = decide (xs.drop k = ys.drop k)) 0 H HA Ks (Nat.zero_le _) (by simp) ?_
  intro k g c hk hno H HA
  (focus (apply wc_seq; apply wc_seq; apply wc_region; refine Z0 ?_; refine Z0 ?_; refine Z45 ?_; refine Z93 (fun hq => ?_) fun hq => ?_; apply w_nil; apply wx_next; refine Z18 ?_; apply wc_skip; apply wx_next; apply wc_seq; apply wc_block; apply wc_seq; rotate_left; apply w_nil; apply wx_next; refine Z19 ?_; apply wc_exit; apply wx_exit_then; apply wx_exit_then; apply wx_exit_same; apply wx_next; apply wc_seq; apply wc_region; refine Z2 ?_; apply w_nil; apply wx_next; apply wc_ret; rotate_left))
  · obtain ⟨u, hu⟩ := getq (xs := xs) (k := k) (by omega)
    obtain ⟨u', hu'⟩ := getq (xs := ys) (k := k) (by omega)
    have hd := drop_get hu
    have hd' := drop_get hu'
    (refine dw_start H HA ?_)
    (repeat (refine Dc ?_))
    (apply dw_cons; (focus ((intro B _ Lx c H HA; (repeat (first | (intro vx hx; have hx2 : vx = _ := hx; clear hx; subst hx2) | (intro vx hx; have HA := HA.addSF hx; clear hx) | (intro vx hx; have HA := HA.add hx; clear hx) | intro vx)); change W _ _ _ _ _ _ _); (refine s_call rfl rfl H HA (ref03_SameClause u u' _ _ _ Lk Lk) ?_; intro vx c H HP; have hvx := HP.h.1; have HA := HP.cut; subst hvx); exact Dx)); exact inferInstance)
    (repeat (refine Dc ?_))
    (refine dw_done mixed H HA rfl (by kernel_rfl) ?_; clear H HA; intro c H HA; (repeat (first | (intro vx hx; have hx2 : vx = _ := hx; clear hx; subst hx2) | (intro vx hx; have HA := HA.addSF hx; clear hx) | (intro vx hx; have HA := HA.add hx; clear hx) | intro vx)); change W _ _ _ _ _ _ _)
    (focus (apply w_nil; apply wx_next; (focus (apply wc_cond; rfl; all_goals intro hq)); apply wc_seq; apply wc_region; refine Z2 ?_; apply w_nil; apply wx_next; apply wc_ret; apply wx_ret_block; apply wx_ret_then; apply wx_ret_then; apply wx_ret_block; apply wx_ret_then; rotate_left; apply wc_skip; apply wx_norm_block; apply wx_next; apply wc_region; refine Z0 ?_; refine Z46 ?_; refine Z2 ?_; apply w_nil; rotate_left))
    · exact ret_fn H hm (outs1 Tryz.results19 Wh) (by simp_all)
    · exact wx_loopN (k + 1) H Cu Ks (by omega) (by simp_all)
  · exact ret_fn H hm (outs1 Tryz.results19 Wh) (by rename_i hq0 _; rw [hno, drop_end hq, drop_end (xs := ys) (k := k) (by omega)]; simp)
theorem ref03_place (ts : List Tm) (v : Value) (t : Tm) (c : Cx) (h : Sl v ts c) : Cn Tryz.prog 72 [v, .agg t.cs.toArray] c (fun v _ => v = .int .i64 (placeOf ts t 0)) := by
  refine Cn.of Tryz.func72 Tryz.ntmps72 rfl rfl fun hm H HA => ?_
  have HA := HA.add h
  have hlim := h.lim
  (apply wc_seq; apply wc_region; refine Z31 fun bx c H HA => ?_; refine Z2 ?_; apply w_nil; apply wx_next; apply wc_seq; apply wc_seq; apply wc_region; refine Z2 ?_; apply w_nil; apply wx_next; apply wc_block)
  refine wc_loopN ts.length (fun k => [(0, v), (3, .pointer (some ⟨bx, 0, none⟩)), (5, .int .i64 k)]) (fun k => placeOf ts t 0 = placeOf (ts.drop k) t k) 0 H HA Ks (Nat.zero_le _) rfl ?_
  intro k g c hk hno H HA
  (focus (apply wc_seq; apply wc_seq; apply wc_region; refine Z0 ?_; refine Z0 ?_; refine Z45 ?_; refine Z93 (fun hq => ?_) fun hq => ?_; apply w_nil; apply wx_next; refine Z18 ?_; apply wc_skip; apply wx_next; apply wc_seq; apply wc_block; apply wc_seq; rotate_left; apply w_nil; apply wx_next; refine Z19 ?_; apply wc_exit; apply wx_exit_then; apply wx_exit_then; apply wx_exit_same; apply wx_next; apply wc_seq; apply wc_region; refine Z2 ?_; apply w_nil; apply wx_next; apply wc_ret; rotate_left))
  · obtain ⟨u, hu⟩ := getq (xs := ts) (k := k) (by omega)
    have hd := drop_get hu
    ((refine dw_start H HA ?_); (repeat (refine Dc ?_)); (refine dw_done mixed H HA rfl (by kernel_rfl) ?_; clear H HA; intro c H HA; (repeat (first | (intro vx hx; have hx2 : vx = _ := hx; clear hx; subst hx2) | (intro vx hx; have HA := HA.addSF hx; clear hx) | (intro vx hx; have HA := HA.add hx; clear hx) | intro vx)); change W _ _ _ _ _ _ _))
    (focus (apply w_nil; apply wx_next; (focus (apply wc_cond; rfl; all_goals intro hq)); apply wc_seq; apply wc_region; refine Z0 ?_; refine Z2 ?_; apply w_nil; apply wx_next; apply wc_ret; apply wx_ret_block; apply wx_ret_then; apply wx_ret_then; apply wx_ret_block; apply wx_ret_then; rotate_left; apply wc_skip; apply wx_norm_block; apply wx_next; apply wc_region; refine Z0 ?_; refine Z46 ?_; refine Z2 ?_; apply w_nil; rotate_left))
    · exact ret_fn H hm (outs1 Tryz.results72 Wh) (by simp at hq; simp [hno, hd, placeOf, hq])
    · exact wx_loopN (k + 1) H Cu Ks (by omega) (by simp at hq; simp [hno, hd, placeOf, hq])
  · exact ret_fn H hm (outs1 Tryz.results72 Wh) (by simp [hno, drop_end hq, placeOf])
end Go.Proofs.YthkdggoohpgnnaaGreatDoor
/- Contracts: terms put back into clauses. -/
namespace Go.Proofs.YthkdggoohpgnnaaGreatDoor
open Go Go.Wk
theorem ref03_putAtom (φ : Tm → Tm) (a : At0) (u : Value) (ls : List Tm) (vl : Value) (at_ : Nat) (c : Cx) (h : Ag a u c) (h2 : Sl vl ls c) (h0 : ls[at_]? = some (φ a.by_)) (h1 : ∀ (k : Nat) (t : Tm), a.args[k]? = some t → ls[at_ + 1 + k]? = some (φ t)) :
    Cn Tryz.prog 122 [u, vl, .int .i64 at_] c (fun r c => ∃ v', r = .tuple #[.agg ((a.map φ).cs v').toArray, .int .i64 ((at_ + 1 + a.args.length : Nat) : Int)] ∧ Sl v' (a.map φ).args c) := by
  refine Cn.of Tryz.func122 Tryz.ntmps122 rfl rfl fun hm H HA => ?_
  have hlim : a.args.length < 1099511627776 := by obtain ⟨cs, rfl, v, rfl, h⟩ := h; exact h.lim
  have hlim2 := h2.lim
  have hat : at_ < ls.length := (List.getElem?_eq_some_iff.1 h0).1
  have HA := (HA.add h).add h2
  (apply wc_seq; apply wc_region)
  (refine s_boxG rfl rfl Lk H HA ?_; intro p c H HA)
  (refine Z61 fun bx c H HA => ?_; refine Z2 ?_; apply w_nil; apply wx_next; apply wc_seq)
  (obtain ⟨b0, rfl⟩ : ∃ x, x = bx := ⟨_, rfl⟩)
  (refine dw_start H HA ?_)
  (repeat (refine Dc ?_))
  ((refine dw_doneO mixed H HA (by kernel_rfl) (by kernel_rfl) ?_; clear H HA; intro c HA; (repeat (first | (intro bx; have hbx : bx + 0 = bx := rfl; clear hbx) | (intro vx hx; have hx2 : vx = _ := hx; clear hx; subst hx2) | (intro vx hx; have HA := HA.addSF hx; clear hx) | (intro vx hx; skip; have HA := HA.add hx; clear hx) | (intro vx; have hvx2 : Go.Value := vx; clear hvx2))); (first | intro H | (have H := HA.h.1; have HA := HA.cut)); change W _ _ _ _ _ _ _); have H : Owns _ ([.obj bx (.cells (At0.cs ⟨Tn, ES, []⟩ (.slice none 0 0)).toArray 26 (0, 0)), .obj b0 (.cells (At0.cs ⟨Tn, ES, []⟩ (.slice none 0 0)).toArray 26 (0, 0))]) _ := H)
  (obtain ⟨b1, rfl⟩ : ∃ x, x = bx := ⟨_, rfl⟩)
  (refine Z74 fun c H HA => ?_; apply w_nil; apply wx_next; apply wc_seq; apply wc_region; refine Z0 ?_; refine Z46 ?_; refine Z2 ?_; apply w_nil; apply wx_next; apply wc_seq; apply wc_seq; apply wc_region; refine Z2 ?_; apply w_nil; apply wx_next; apply wc_block)
  have H := H.nilR Tm 23 3
  refine wc_loopG (σ := Nat × List Tm × Value × List (List Value)) (fun x => a.args.length - x.1) (fun x => [(1, vl), (2, .int .i64 ((at_ + 1 + x.1 : Nat) : Int)), (3, p), (6, .pointer (some ⟨b0, 0, none⟩)), (8, .pointer (some ⟨b1, 0, none⟩)), (9, .int .i64 x.1)])
    (fun x => x.1 ≤ a.args.length ∧ x.2.1 = (a.args.take x.1).map φ)
    (fun x => [.row x.2.2.1 23 3 x.2.1.length x.2.2.2.flatten, .obj b1 (.cells (At0.cs ⟨φ a.by_, a.name, []⟩ x.2.2.1).toArray 26 (0, 0)), .obj b0 (.cells (At0.cs ⟨Tn, ES, []⟩ (.slice none 0 0)).toArray 26 (0, 0))])
    (fun x c => Vals x.2.2.2 x.2.1 c) (0, [], .slice none 0 0, []) H HA (Vals.nil _) Ks ⟨Nat.zero_le _, rfl⟩ ?_
  intro x g c hp H HA
  obtain ⟨k, acc, vr, vals⟩ := x
  obtain ⟨hk, hacc⟩ := hp
  dsimp only at hk hacc H HA ⊢
  have hlen : acc.length = k := by rw [hacc]; simp; omega
  (focus (apply wc_seq; apply wc_seq; apply wc_region; refine Z0 ?_; refine Z35 HA fun vx HA => ?_; refine Z37 HA fun vx HA => ?_; refine Z45 ?_; refine Z93 (fun hq => ?_) fun hq => ?_; apply w_nil; apply wx_next; refine Z18 ?_; apply wc_skip; apply wx_next; apply wc_seq; apply wc_block; apply wc_seq; rotate_left; apply w_nil; apply wx_next; refine Z19 ?_; apply wc_exit; apply wx_exit_then; apply wx_exit_then; apply wx_exit_same; apply wx_next; apply wc_seq; apply wc_region; refine Z42 ?_; refine Z0 ?_; refine Z78 fun c H HA => ?_; refine Z2 ?_; apply w_nil; apply wx_next; apply wc_ret; rotate_left))
  · obtain ⟨t, ht⟩ := getq (xs := a.args) (k := k) (by omega)
    have hlt := h1 k t ht
    have hltl : at_ + 1 + k < ls.length := (List.getElem?_eq_some_iff.1 hlt).1
    ((refine dw_start H HA ?_); (repeat (refine Dc ?_)); (refine dw_done mixed H HA rfl (by kernel_rfl) ?_; clear H HA; intro c H HA; (repeat (first | (intro vx hx; have hx2 : vx = _ := hx; clear hx; subst hx2) | (intro vx hx; have HA := HA.addSF hx; clear hx) | (intro vx hx; have HA := HA.add hx; clear hx) | intro vx)); change W _ _ _ _ _ _ _))
    (refine Z59 fun vx c valsx H HA => ?_; refine Z3 ?_; refine Z77 fun c H HA => ?_; apply w_nil; apply wx_next; apply wc_region; refine Z0 ?_; refine Z46 ?_; refine Z2 ?_; apply w_nil; apply wx_norm_block; apply wx_next; apply wc_region; refine Z0 ?_; refine Z46 ?_; refine Z2 ?_; apply w_nil)
    exact wx_loopG ((k + 1, acc ++ [φ t], vx, valsx)) H.swap Cu Lk Ks (by simp; omega) ⟨by simp; omega, by
      rw [List.take_add_one, ht]
      simp [hacc]⟩
  · have hacc : acc = a.args.map φ := by rw [hacc, List.take_of_length_le (by omega)]
    (refine wx_freezeRow H.swap HA Lk rfl rfl Lt ?_; intro c H HA)
    exact ret_fn H hm (outsR2 Tryz.results122 (RV.agg rfl H Ow Rc) (RV.tmp Wh)) ⟨_, by
      have : k = a.args.length := by omega
      subst this
      rfl, by subst hacc; exact Lk⟩
end Go.Proofs.YthkdggoohpgnnaaGreatDoor
/- Contracts: a clause's terms put back. -/
namespace Go.Proofs.YthkdggoohpgnnaaGreatDoor
open Go Go.Wk
theorem ref03_Put (φ : Tm → Tm) (x : Cl) (u vl : Value) (c : Cx) (h : Ag x u c) (h2 : Sl vl (x.terms.map φ) c) : Cn Tryz.prog 73 [u, vl] c (fun r c => Ag (x.map φ) r c) := by
  refine Cn.of Tryz.func73 Tryz.ntmps73 rfl rfl fun hm H HA => ?_
  have hlim2 := h2.lim
  have hlb : x.body.length < 1099511627776 := by obtain ⟨cs, rfl, v, v1, v2, rfl, h⟩ := h; exact h.2.1.lim
  have hlt : x.tests.length < 1099511627776 := by obtain ⟨cs, rfl, v, v1, v2, rfl, h⟩ := h; exact h.2.2.lim
  have HA := (HA.add h).add h2
  (apply wc_seq; apply wc_region)
  (refine s_boxG rfl rfl Lk H HA ?_; intro p c H HA)
  (refine s_alloc rfl (by conv => lhs; whnf) H HA ?_; intro b0 c H HA)
  (apply w_nil; apply wx_next; apply wc_seq; apply wc_region; refine Z2 ?_; apply w_nil; apply wx_next; apply wc_seq; apply wc_region; refine Z61 fun bx c H HA => ?_; apply w_nil; apply wx_next; apply wc_seq; apply wc_region; refine Z35 HA fun vx HA => ?_; refine Z39 HA fun vx HA => ?_; refine Z0 ?_; refine Z0 ?_)
  (obtain ⟨b1, rfl⟩ : ∃ x, x = bx := ⟨_, rfl⟩)
  have seg := x.seg_head φ
  (refine s_call rfl rfl H HA (ref03_putAtom φ x.head _ _ _ 0 _ Lk Lk seg.1 seg.2) ?_; intro vx c H HA)
  obtain ⟨vh, hr, hS⟩ := HA.h.1
  subst hr
  have HA := HA.cut.add hS
  have e0 : 0 + 1 + x.head.args.length = x.posB 0 := by simp [Cl.posB]; omega
  rw [e0]
  (refine Z0 ?_; refine Z32 ?_; refine Z32 ?_; refine Z3 ?_; refine Z74 fun c H HA => ?_; refine Z2 ?_; apply w_nil; apply wx_next; apply wc_seq; apply wc_seq; apply wc_region; refine Z2 ?_; apply w_nil; apply wx_next; apply wc_block)
  have H := H.nilR At0 26 5
  refine wc_loopG (σ := Nat × List At0 × Value × List (List Value)) (fun y => x.body.length - y.1) (fun y => [(1, vl), (2, p), (4, .pointer (some ⟨b0, 0, none⟩)), (5, .int .i64 ((x.posB y.1 : Nat) : Int)), (6, .pointer (some ⟨b1, 0, none⟩)), (7, .int .i64 y.1)])
    (fun y => y.1 ≤ x.body.length ∧ y.2.1 = (x.body.take y.1).map (At0.map φ))
    (fun y => [.row y.2.2.1 26 5 y.2.1.length y.2.2.2.flatten, .obj b1 (.cells (Cl.cs (x.map φ) vh y.2.2.1 (.slice none 0 0)).toArray 30 (0, 0)), .obj b0 (.cells (Cl.cs ⟨⟨Tn, ES, []⟩, [], []⟩ (.slice none 0 0) (.slice none 0 0) (.slice none 0 0)).toArray 30 (0, 0))])
    (fun y c => Vals y.2.2.2 y.2.1 c) (0, [], .slice none 0 0, []) H HA (Vals.nil _) Ks ⟨Nat.zero_le _, rfl⟩ ?_
  intro y g c hp H HA
  obtain ⟨k, acc, vr, vals⟩ := y
  obtain ⟨hk, hacc⟩ := hp
  dsimp only at hk hacc H HA ⊢
  have hlen : acc.length = k := by rw [hacc]; simp; omega
  (focus (apply wc_seq; apply wc_seq; apply wc_region; refine Z0 ?_; refine Z35 HA fun vx HA => ?_; refine Z37 HA fun vx HA => ?_; refine Z45 ?_; refine Z93 (fun hq => ?_) fun hq => ?_; apply w_nil; apply wx_next; refine Z18 ?_; apply wc_skip; apply wx_next; apply wc_seq; apply wc_block; apply wc_seq; apply wc_region; refine Z54 ?_; refine Z61 fun bx c H HA => ?_; refine Z74 fun c H HA => ?_; apply w_nil; apply wx_next; apply wc_seq; apply wc_region; refine Z35 HA fun vx HA => ?_; refine Z37 HA fun vx HA => ?_; refine Z0 ?_; rotate_left; apply w_nil; apply wx_next; refine Z19 ?_; apply wc_exit; apply wx_exit_then; apply wx_exit_then; apply wx_exit_same; apply wx_next; apply wc_seq; apply wc_seq; apply wc_region; refine Z2 ?_; apply w_nil; apply wx_next; apply wc_block; rotate_left))
  · obtain ⟨a, ha⟩ := getq (xs := x.body) (k := k) (by omega)
    have seg := x.seg_body φ ha
    (refine Z34 HA fun vx HA => ?_; refine Z39 HA fun vx HA => ?_; refine Z0 ?_; refine Z0 ?_)
    (obtain ⟨b2, rfl⟩ : ∃ x, x = bx := ⟨_, rfl⟩)
    (refine s_call rfl rfl H HA (ref03_putAtom φ a _ _ _ (x.posB k) _ Lk Lk seg.1 seg.2) ?_; intro vx c H HA)
    obtain ⟨va, hr, hS⟩ := HA.h.1
    subst hr
    have HA := (HA.cut.add hS).add (show Ag (a.map φ) (.agg ((a.map φ).cs va).toArray) _ from ⟨_, rfl, va, rfl, hS⟩)
    rw [← x.posB_succ ha]
    (refine Z0 ?_; refine Z32 ?_; refine Z32 ?_; refine Z74 fun c H HA => ?_; refine Z2 ?_; apply w_nil; apply wx_next; apply wc_region; refine Z3 ?_; refine Z41 ?_; refine Z42 ?_; refine Z55 fun vx c H HA => ?_)
    have H := H.swap
    (refine Z59 fun vx c valsx H HA => ?_; refine Z3 ?_; refine Z79 fun c H HA => ?_; apply w_nil; apply wx_norm_block; apply wx_next; apply wc_region; refine Z0 ?_; refine Z46 ?_; refine Z2 ?_; apply w_nil)
    exact wx_loopG ((k + 1, acc ++ [a.map φ], vx, valsx)) (H.swap.sub (.cons_cons _ (.cons_cons _ (.cons _ (.cons_cons _ .slnil))))) Cu Lk Ks (by simp; omega) ⟨by simp; omega, by
      rw [List.take_add_one, ha]
      simp [hacc]⟩
  obtain rfl : k = x.body.length := by omega
  rw [List.take_length] at hacc
  rw [x.posB_end]
  (refine wc_freezeRow H HA Lk rfl rfl Lt ?_; intro c H HA)
  have H := H.nilR Ts 79 7
  refine wc_loopG (σ := Nat × List Ts × Value × List (List Value)) (fun y => x.tests.length - y.1) (fun y => [(1, vl), (2, p), (4, .pointer (some ⟨b0, 0, none⟩)), (5, .int .i64 ((x.posT y.1 : Nat) : Int)), (6, .pointer (some ⟨b1, 0, none⟩)), (9, .int .i64 y.1)])
    (fun y => y.1 ≤ x.tests.length ∧ y.2.1 = (x.tests.take y.1).map (fun t => ⟨t.op, φ t.l, φ t.r⟩))
    (fun y => [.row y.2.2.1 79 7 y.2.1.length y.2.2.2.flatten, .obj b1 (.cells (Cl.cs (x.map φ) vh vr y.2.2.1).toArray 30 (0, 0)), .obj b0 (.cells (Cl.cs ⟨⟨Tn, ES, []⟩, [], []⟩ (.slice none 0 0) (.slice none 0 0) (.slice none 0 0)).toArray 30 (0, 0))])
    (fun y c => Vals y.2.2.2 y.2.1 c) (0, [], .slice none 0 0, []) H HA (Vals.nil _) Ks ⟨Nat.zero_le _, rfl⟩ ?_
  intro y g c hp H HA
  obtain ⟨k, acc2, vr2, vals2⟩ := y
  obtain ⟨hk, hacc2⟩ := hp
  dsimp only at hk hacc2 H HA ⊢
  have hlen : acc2.length = k := by rw [hacc2]; simp; omega
  (focus (apply wc_seq; apply wc_seq; apply wc_region; refine Z0 ?_; refine Z35 HA fun vx HA => ?_; refine Z37 HA fun vx HA => ?_; refine Z45 ?_; refine Z93 (fun hq => ?_) fun hq => ?_; apply w_nil; apply wx_next; refine Z18 ?_; apply wc_skip; apply wx_next; apply wc_seq; apply wc_block; apply wc_seq; rotate_left; apply w_nil; apply wx_next; refine Z19 ?_; apply wc_exit; apply wx_exit_then; apply wx_exit_then; apply wx_exit_same; apply wx_next; apply wc_seq; apply wc_region; refine Z42 ?_; refine Z78 fun c H HA => ?_; apply w_nil; apply wx_next; apply wc_ret; rotate_left))
  · obtain ⟨t, ht⟩ := getq (xs := x.tests) (k := k) (by omega)
    obtain ⟨sg1, sg2⟩ := x.seg_test φ ht
    have hlq : x.posT k + 1 < (x.terms.map φ).length := (List.getElem?_eq_some_iff.1 sg2).1
    (refine dw_start H HA ?_)
    (repeat (refine Dc ?_))
    (refine dw_done mixed H HA rfl (by kernel_rfl) ?_; clear H HA; intro c H HA; (repeat (first | (intro vx hx; have hx2 : vx = _ := hx; clear hx; subst hx2) | (intro vx hx; have HA := HA.addSF hx; clear hx) | (intro vx hx; have HA := HA.add hx; clear hx) | intro vx)); change W _ _ _ _ _ _ _)
    have HA := HA.addSb HA.h.1 (⟨t.op, φ t.l, φ t.r⟩ : Ts) rfl
    (refine Z59 fun vx c valsx H HA => ?_; refine Z3 ?_; refine Z77 fun c H HA => ?_; apply w_nil; apply wx_next; apply wc_region; refine Z0 ?_; refine Z46 ?_; refine Z2 ?_; apply w_nil; apply wx_norm_block; apply wx_next; apply wc_region; refine Z0 ?_; refine Z46 ?_; refine Z2 ?_; apply w_nil)
    exact wx_loopG ((k + 1, acc2 ++ [⟨t.op, φ t.l, φ t.r⟩], vx, valsx)) H.swap Cu Lk Ks (by simp; omega) ⟨by simp; omega, by
      rw [List.take_add_one, ht]
      simp [hacc2]⟩
  · have hacc2 : acc2 = (x.map φ).tests := by rw [hacc2, List.take_of_length_le (by omega)]; rfl
    subst hacc hacc2
    (refine wx_freezeRow H.swap HA Lk rfl rfl Lt ?_; intro c H HA)
    exact ret_fn H hm (outsR1 Tryz.results73 (RV.agg rfl H Ow Rc)) ⟨_, rfl, vh, vr, vr2, rfl, Lk, Lk, Lk⟩
end Go.Proofs.YthkdggoohpgnnaaGreatDoor
/- Contracts: clauses in memory of their own, numbered anew, with values. -/
namespace Go.Wk
open Go
theorem Ag.cl {x : Cl} {v : Value} {c : Cx} (h : Ag x v c) : ∃ a b d, v = .agg (x.cs a b d).toArray ∧ ClAt x a b d c := by
  obtain ⟨cs, rfl, a, b, d, rfl, hS⟩ := h
  exact ⟨a, b, d, rfl, hS⟩
theorem Ag.mk_cl {x : Cl} {a b d : Value} {c : Cx} (h : ClAt x a b d c) : Ag x (.agg (x.cs a b d).toArray) c := ⟨_, rfl, a, b, d, rfl, h⟩
end Go.Wk
namespace Go.Proofs.YthkdggoohpgnnaaGreatDoor
open Go Go.Wk
theorem ref03_Vars (x : Cl) (u : Value) (c : Cx) (h : Ag x u c) (hb : x.terms.length < 1099511627776) : Cn Tryz.prog 24 [u] c (fun r _ => r = .int .i64 x.nv) := by
  refine Cn.of Tryz.func24 Tryz.ntmps24 rfl rfl fun hm H HA => ?_
  have HA := HA.add h
  (apply wc_seq; apply wc_region; refine Z40 fun vx c H HA => ?_; refine Z2 ?_; apply w_nil; apply wx_next; apply wc_seq; apply wc_region; refine Z39 HA fun vx HA => ?_)
  (refine s_call rfl rfl H HA (ref03_Terms x _ _ Lk hb) ?_; intro vx c H HA)
  (skip)
  (refine s_call rfl rfl H HA (ref03_variables x.terms _ _ Lk) ?_; intro vx c H HA)
  (refine Z45 ?_; refine Z2 ?_; apply w_nil; apply wx_next; apply wc_ret)
  exact ret_fn H hm (outs1 Tryz.results24 Wh) (by rw [Cl.nv])
theorem ref03_Normal (x : Cl) (u : Value) (c : Cx) (h : Ag x u c) (hb : x.terms.length < 1099511627776) : Cn Tryz.prog 28 [u] c (fun r c => Ag x.normal r c) := by
  refine Cn.of Tryz.func28 Tryz.ntmps28 rfl rfl fun hm H HA => ?_
  have HA := HA.add h
  (apply wc_seq; apply wc_region)
  (refine s_boxG rfl rfl Lk H HA ?_; intro p c H HA)
  (refine Z61 fun bx c H HA => ?_; apply w_nil; apply wx_next; apply wc_seq; apply wc_region; refine Z39 HA fun vx HA => ?_)
  (obtain ⟨b2, rfl⟩ : ∃ x, x = bx := ⟨_, rfl⟩)
  (refine s_call rfl rfl H HA (ref03_Terms x _ _ Lk hb) ?_; intro vx c H HA)
  (obtain ⟨vt, rfl⟩ : ∃ x, x = vx := ⟨_, rfl⟩)
  (refine Z2 ?_; apply w_nil; apply wx_next; apply wc_seq; apply wc_region; refine Z0 ?_)
  (refine s_call rfl rfl H HA (ref03_variables x.terms _ _ Lk) ?_; intro vx c H HA)
  (obtain ⟨vv, rfl⟩ : ∃ x, x = vx := ⟨_, rfl⟩)
  (refine Z2 ?_; apply w_nil; apply wx_next; apply wc_seq; apply wc_region; refine Z2 ?_; apply w_nil; apply wx_next; apply wc_seq; apply wc_seq; apply wc_region; refine Z2 ?_; apply w_nil; apply wx_next; apply wc_block)
  (have H := H.nilR Tm  23 3; have HA := HA.add (Vals.nil (α := Tm) _))
  refine wc_loopR (α := Tm) x.terms.length (fun k v' => [(1, p), (2, .pointer (some ⟨b2, 0, none⟩)), (3, vt), (4, vv), (5, v'), (6, .int .i64 k)]) (fun k acc => acc = (x.terms.take k).map (numT (varsOf x.terms))) 0 [] H Lk Cu Ks (Nat.zero_le _) rfl ?_
  intro k acc v' vals g c hk hp H HA
  have hlen : acc.length = k := by rw [hp]; simp; omega
  (focus (apply wc_seq; apply wc_seq; apply wc_region; refine Z0 ?_; refine Z0 ?_; refine Z45 ?_; refine Z93 (fun hq => ?_) fun hq => ?_; apply w_nil; apply wx_next; refine Z18 ?_; apply wc_skip; apply wx_next; apply wc_seq; apply wc_block; apply wc_seq; apply wc_region; refine Z0 ?_; refine Z0 ?_; rotate_left; apply w_nil; apply wx_next; refine Z19 ?_; apply wc_exit; apply wx_exit_then; apply wx_exit_then; apply wx_exit_same; apply wx_next; apply wc_seq; apply wc_region; refine Z39 HA fun vx HA => ?_; refine Z0 ?_; rotate_left))
  · obtain ⟨a, ha⟩ := getq (xs := x.terms) (k := k) (by omega)
    (refine Z34 HA fun vx HA => ?_; refine Z38 ?_; refine Z61 fun bx c H HA => ?_; refine Z74 fun c H HA => ?_; apply w_nil; apply wx_next; apply wc_seq; apply wc_region; refine Z0 ?_; refine Z42 ?_)
    (refine s_call rfl rfl H HA (ref03_place (varsOf x.terms) _ a _ Lk) ?_; intro vx c H HP; have hvx := HP.h.1; have HA := HP.cut; subst hvx)
    have hnext : (x.terms.take (k + 1)).map (numT (varsOf x.terms)) = acc ++ [numT (varsOf x.terms) a] := by rw [List.take_add_one, ha, hp]; simp
    by_cases hpl : 0 ≤ placeOf (varsOf x.terms) a 0
    · have hn : numT (varsOf x.terms) a = ⟨3, placeOf (varsOf x.terms) a 0, ES⟩ := by simp [numT, varT, hpl]
      (refine Z2 ?_; apply w_nil; apply wx_next; apply wc_seq; apply wc_seq; apply wc_region; refine Z0 ?_; refine Z85 ?_; apply w_nil; apply wx_next; refine Z18 ?_; apply wc_region; refine Z0 ?_; refine Z54 ?_; refine Z74 fun c H HA => ?_; apply w_nil; apply wx_next; apply wc_region; refine Z0 ?_; refine Z42 ?_)
      (apply s_bs1D (u := ⟨3, placeOf (varsOf x.terms) a 0, ES⟩); exact rfl; exact rfl; exact rfl; exact rfl; exact rfl; exact rfl; exact H; exact HA; exact inferInstance; intro vx c H HA)
      have H := H.swap
      (refine Z59 fun vx c valsx H HA => ?_; refine Z2 ?_; apply w_nil; apply wx_norm_block; apply wx_next; apply wc_region; refine Z0 ?_; refine Z46 ?_; refine Z2 ?_; apply w_nil)
      exact wx_loopR (k + 1) (H.sub (.cons_cons _ (.cons _ (List.Sublist.refl _)))) Lk Cu Ks (by omega) (by rw [hnext, hn])
    · have hn : numT (varsOf x.terms) a = a := by simp [numT, hpl]
      (refine Z2 ?_; apply w_nil; apply wx_next; apply wc_seq; apply wc_seq; apply wc_region; refine Z0 ?_; refine Z85 ?_; apply w_nil; apply wx_next; refine Z19 ?_; apply wc_skip; apply wx_next; apply wc_region; refine Z0 ?_; refine Z42 ?_)
      (apply s_bs1D (u := a); exact rfl; exact rfl; exact rfl; exact rfl; exact rfl; exact rfl; exact H; exact HA; exact inferInstance; intro vx c H HA)
      have H := H.swap
      (refine Z59 fun vx c valsx H HA => ?_; refine Z2 ?_; apply w_nil; apply wx_norm_block; apply wx_next; apply wc_region; refine Z0 ?_; refine Z46 ?_; refine Z2 ?_; apply w_nil)
      exact wx_loopR (k + 1) (H.sub (.cons_cons _ (.cons _ (List.Sublist.refl _)))) Lk Cu Ks (by omega) (by rw [hnext, hn])
  · have hp : acc = x.terms.map (numT (varsOf x.terms)) := by rw [hp, List.take_of_length_le (by omega)]
    subst hp
    (refine w_freezeRow H HA Lk rfl rfl Lt ?_; intro c H HA)
    (skip)
    (refine s_call rfl rfl H HA (ref03_Put (numT (varsOf x.terms)) x _ _ _ Lk Lk) ?_; intro vx c H HA)
    obtain ⟨va, vb, vd, hr, hS⟩ := Ag.cl HA.h.1
    subst hr
    have HA := ((HA.cut.add hS.1).add hS.2.1).add hS.2.2
    (refine Z74 fun c H HA => ?_; apply w_nil; apply wx_next; apply wc_ret)
    exact ret_fn H hm (outsR1 Tryz.results28 (RV.agg rfl H Ow Rc)) (Ag.mk_cl ⟨Lk, Lk, Lk⟩)
theorem ref03_Instance (x : Cl) (u : Value) (ts : List Tm) (v : Value) (c : Cx) (h : Ag x u c) (h2 : Sl v ts c) (hb : x.terms.length < 1099511627776) : Cn Tryz.prog 29 [u, v] c (fun r c => Ag (x.map (instT ts)) r c) := by
  refine Cn.of Tryz.func29 Tryz.ntmps29 rfl rfl fun hm H HA => ?_
  have HA := (HA.add h).add h2
  (apply wc_seq; apply wc_region)
  (refine s_boxG rfl rfl Lk H HA ?_; intro p c H HA)
  (refine Z61 fun bx c H HA => ?_; apply w_nil; apply wx_next; apply wc_seq; apply wc_region; refine Z39 HA fun vx HA => ?_)
  (obtain ⟨b2, rfl⟩ : ∃ x, x = bx := ⟨_, rfl⟩)
  (refine s_call rfl rfl H HA (ref03_Terms x _ _ Lk hb) ?_; intro vx c H HA)
  (obtain ⟨vt, rfl⟩ : ∃ x, x = vx := ⟨_, rfl⟩)
  (refine Z2 ?_; apply w_nil; apply wx_next; apply wc_seq; apply wc_region; refine Z2 ?_; apply w_nil; apply wx_next; apply wc_seq; apply wc_seq; apply wc_region; refine Z2 ?_; apply w_nil; apply wx_next; apply wc_block)
  (have H := H.nilR Tm  23 3; have HA := HA.add (Vals.nil (α := Tm) _))
  refine wc_loopR (α := Tm) x.terms.length (fun k v' => [(1, v), (2, p), (4, .pointer (some ⟨b2, 0, none⟩)), (5, vt), (6, v'), (7, .int .i64 k)]) (fun k acc => acc = (x.terms.take k).map (instT ts)) 0 [] H Lk Cu Ks (Nat.zero_le _) rfl ?_
  intro k acc v' vals g c hk hp H HA
  have hlen : acc.length = k := by rw [hp]; simp; omega
  (focus (apply wc_seq; apply wc_seq; apply wc_region; refine Z0 ?_; refine Z0 ?_; refine Z45 ?_; refine Z93 (fun hq => ?_) fun hq => ?_; apply w_nil; apply wx_next; refine Z18 ?_; apply wc_skip; apply wx_next; apply wc_seq; apply wc_block; apply wc_seq; apply wc_region; refine Z0 ?_; refine Z0 ?_; rotate_left; apply w_nil; apply wx_next; refine Z19 ?_; apply wc_exit; apply wx_exit_then; apply wx_exit_then; apply wx_exit_same; apply wx_next; apply wc_seq; apply wc_region; refine Z39 HA fun vx HA => ?_; refine Z0 ?_; rotate_left))
  · obtain ⟨a, ha⟩ := getq (xs := x.terms) (k := k) (by omega)
    (refine Z34 HA fun vx HA => ?_; refine Z38 ?_; refine Z61 fun bx c H HA => ?_; refine Z74 fun c H HA => ?_; apply w_nil; apply wx_next; apply wc_seq; apply wc_seq; apply wc_region; refine Z42 ?_)
    (refine s_call rfl rfl H HA (ref02_Variable a _) ?_; intro vx c H HP; have hvx := HP.h.1; have HA := HP.cut; subst hvx)
    have hnext : (x.terms.take (k + 1)).map (instT ts) = acc ++ [instT ts a] := by rw [List.take_add_one, ha, hp]; simp
    cases hv : a.isVar
    · have hn : instT ts a = a := by simp [instT, hv]
      (refine Z0 ?_; refine Z5 ?_; refine Z5 ?_; refine Z5 ?_; refine Z5 ?_; refine Z5 ?_; refine Z30 ?_; apply w_nil; apply wx_next; refine Z19 ?_; apply wc_skip; apply wx_next; apply wc_region; refine Z0 ?_; refine Z42 ?_)
      (apply s_bs1D (u := a); exact rfl; exact rfl; exact rfl; exact rfl; exact rfl; exact rfl; exact H; exact HA; exact inferInstance; intro vx c H HA)
      have H := H.swap
      (refine Z59 fun vx c valsx H HA => ?_; refine Z2 ?_; apply w_nil; apply wx_norm_block; apply wx_next; apply wc_region; refine Z0 ?_; refine Z46 ?_; refine Z2 ?_; apply w_nil)
      exact wx_loopR (k + 1) (H.sub (.cons_cons _ (.cons _ (List.Sublist.refl _)))) Lk Cu Ks (by omega) (by rw [hnext, hn])
    · by_cases hlt : a.n < (ts.length : Int)
      · have hnn := isVar_nn hv
        obtain ⟨t, ht⟩ := getq (xs := ts) (k := a.n.toNat) (by omega)
        have hn : instT ts a = t := by simp [instT, hv, hlt, ht]
        (refine Z0 ?_; refine Z4 ?_; refine Z3 ?_; refine Z4 ?_; refine Z41 ?_; refine Z4 ?_; refine Z0 ?_; refine Z4 ?_; refine Z45 ?_; refine Z4 ?_; refine Z81 ?_; refine Z8 ?_; apply w_nil; apply wx_next; refine Z18 ?_; apply wc_region; refine Z0 ?_; refine Z3 ?_; refine Z41 ?_)
        (refine s_ixP (i := a.n.toNat) rfl rfl rfl Lk rfl (by omega) ht ?_; intro vx hx; have HA := HA.add hx; clear hx)
        (refine Z38 ?_; refine Z74 fun c H HA => ?_; apply w_nil; apply wx_next; apply wc_region; refine Z0 ?_; refine Z42 ?_)
        (apply s_bs1D (u := t); exact rfl; exact rfl; exact rfl; exact rfl; exact rfl; exact rfl; exact H; exact HA; exact inferInstance; intro vx c H HA)
        have H := H.swap
        (refine Z59 fun vx c valsx H HA => ?_; refine Z2 ?_; apply w_nil; apply wx_norm_block; apply wx_next; apply wc_region; refine Z0 ?_; refine Z46 ?_; refine Z2 ?_; apply w_nil)
        exact wx_loopR (k + 1) (H.sub (.cons_cons _ (.cons _ (List.Sublist.refl _)))) Lk Cu Ks (by omega) (by rw [hnext, hn])
      · have hn : instT ts a = a := by simp [instT, hlt]
        (refine Z0 ?_; refine Z4 ?_; refine Z3 ?_; refine Z4 ?_; refine Z41 ?_; refine Z4 ?_; refine Z0 ?_; refine Z4 ?_; refine Z45 ?_; refine Z4 ?_; refine Z81 ?_; refine Z8 ?_; apply w_nil; apply wx_next; refine Z19 ?_; apply wc_skip; apply wx_next; apply wc_region; refine Z0 ?_; refine Z42 ?_)
        (apply s_bs1D (u := a); exact rfl; exact rfl; exact rfl; exact rfl; exact rfl; exact rfl; exact H; exact HA; exact inferInstance; intro vx c H HA)
        have H := H.swap
        (refine Z59 fun vx c valsx H HA => ?_; refine Z2 ?_; apply w_nil; apply wx_norm_block; apply wx_next; apply wc_region; refine Z0 ?_; refine Z46 ?_; refine Z2 ?_; apply w_nil)
        exact wx_loopR (k + 1) (H.sub (.cons_cons _ (.cons _ (List.Sublist.refl _)))) Lk Cu Ks (by omega) (by rw [hnext, hn])
  · have hp : acc = x.terms.map (instT ts) := by rw [hp, List.take_of_length_le (by omega)]
    subst hp
    (refine w_freezeRow H HA Lk rfl rfl Lt ?_; intro c H HA)
    (skip)
    (refine s_call rfl rfl H HA (ref03_Put (instT ts) x _ _ _ Lk Lk) ?_; intro vx c H HA)
    obtain ⟨va, vb, vd, hr, hS⟩ := Ag.cl HA.h.1
    subst hr
    have HA := ((HA.cut.add hS.1).add hS.2.1).add hS.2.2
    (refine Z74 fun c H HA => ?_; apply w_nil; apply wx_next; apply wc_ret)
    exact ret_fn H hm (outsR1 Tryz.results29 (RV.agg rfl H Ow Rc)) (Ag.mk_cl ⟨Lk, Lk, Lk⟩)
end Go.Proofs.YthkdggoohpgnnaaGreatDoor
/- Contracts: bindings settled, atoms matched, of the document's answer. -/
namespace Go.Proofs.YthkdggoohpgnnaaGreatDoor
open Go Go.Wk
end Go.Proofs.YthkdggoohpgnnaaGreatDoor
/- Contracts: atoms matched, of the document's answer. -/
namespace Go.Wk
open Go
/-- What a match hands back. -/
def Mt (r : Option (List Bd)) (v : Value) (c : Cx) : Prop := ∃ v', v = .tuple #[v', .bool r.isSome] ∧ Sl v' (r.getD []) c
instance (r : Option (List Bd)) (v : Value) : Mono (Mt r v) := ⟨fun h ⟨v', e, k⟩ => ⟨v', e, Mono.mono h k⟩⟩
theorem Mt.no {r : Option (List Bd)} {c : Cx} (h : r = none) : Mt r (.tuple #[.slice none 0 0, .bool false]) c := by subst h; exact ⟨_, rfl, Sl.nil _⟩
theorem Mt.yes {r : Option (List Bd)} {l : List Bd} {v : Value} {c : Cx} (h : r = some l) (k : Sl v l c) : Mt r (.tuple #[v, .bool true]) c := by subst h; exact ⟨_, rfl, k⟩
end Go.Wk
namespace Go.Proofs.YthkdggoohpgnnaaGreatDoor
open Go Go.Wk
end Go.Proofs.YthkdggoohpgnnaaGreatDoor
/- Contracts: clauses checked and compared, of the document's answer. -/
namespace Go.Wk
open Go
def Cl.fit (x : Cl) : Prop := x.sm ∧ x.terms.length < 1099511627776
theorem orI_get {α : Type} {f : α → Int} {l : List α} {k : Nat} {a : α} (h : l[k]? = some a) : orI ((l.drop k).map f) = if f a = 0 then orI ((l.drop (k + 1)).map f) else f a := by
  rw [drop_get h]
  rfl
end Go.Wk
namespace Go.Proofs.YthkdggoohpgnnaaGreatDoor
open Go Go.Wk
end Go.Proofs.YthkdggoohpgnnaaGreatDoor
/- Contracts: clauses compared, the set of clauses, of the document's answer. -/
namespace Go.Wk
open Go
section
variable {P : Program} {ops : Array Oper} {Q : Exit → Act → World → Prop} {n : Nat} {f : Nat → Value} {rest : List Oper} {ty : TypeId} {ps : String} {af : Array Edge} {d : Tmp} {w : World}
end
end Go.Wk
namespace Go.Proofs.YthkdggoohpgnnaaGreatDoor
open Go Go.Wk
end Go.Proofs.YthkdggoohpgnnaaGreatDoor
/- Contracts: the set of clauses, the first that is refused, of the document's answer. -/
namespace Go.Proofs.YthkdggoohpgnnaaGreatDoor
open Go Go.Wk
end Go.Proofs.YthkdggoohpgnnaaGreatDoor
/- Contracts: when one clause becomes part of another, all ways, of the document's answer. -/
namespace Go.Wk
open Go
theorem instT_sm {vs : List Tm} {t : Tm} (h : ∀ u ∈ vs, u.sm) (ht : t.sm) : (instT vs t).sm := by
  unfold instT
  split
  · cases hv : vs[t.n.toNat]? with
    | none => exact Tn_sm
    | some u => exact h u (List.mem_of_getElem? hv)
  · exact ht
theorem any_get {α : Type} {p : α → Bool} {xs : List α} {k : Nat} {u : α} (h : xs[k]? = some u) : (xs.drop k).any p = (p u || (xs.drop (k + 1)).any p) := by rw [drop_get h]; rfl
theorem all_get {α : Type} {p : α → Bool} {xs : List α} {k : Nat} {u : α} (h : xs[k]? = some u) : (xs.drop k).all p = (p u && (xs.drop (k + 1)).all p) := by rw [drop_get h]; rfl
theorem any_eq_mem {α : Type} [DecidableEq α] (xs : List α) (a : α) : xs.any (fun x => decide (a = x)) = decide (a ∈ xs) := by
  induction xs with
  | nil => rfl
  | cons x xs ih => simp only [List.any_cons, ih, List.mem_cons]; by_cases h : a = x <;> simp [h]
end Go.Wk
namespace Go.Proofs.YthkdggoohpgnnaaGreatDoor
open Go Go.Wk
end Go.Proofs.YthkdggoohpgnnaaGreatDoor
/- Contracts: all ways, the least values, the reduced set, of the document's answer. -/
namespace Go.Wk
open Go
/-- A list, and whether there is one. -/
def Mo {α : Type} [Enc α] (r : Option (List α)) (v : Value) (c : Cx) : Prop := ∃ v', v = .tuple #[v', .bool r.isSome] ∧ Sl v' (r.getD []) c
instance {α : Type} [Enc α] (r : Option (List α)) (v : Value) : Mono (Mo r v) := ⟨fun h ⟨v', e, k⟩ => ⟨v', e, Mono.mono h k⟩⟩
section
variable {P : Program} {ops : Array Oper} {Q : Exit → Act → World → Prop} {n : Nat} {f : Nat → Value} {rest : List Oper} {ty : TypeId} {ps : String} {af : Array Edge} {d : Tmp}
variable {c0 c : Cx} {L : List Res} {A : Cx → Prop}
end
theorem Mo.no {α : Type} [Enc α] {r : Option (List α)} {c : Cx} (h : r = none) : Mo r (.tuple #[.slice none 0 0, .bool false]) c := by subst h; exact ⟨_, rfl, Sl.nil _⟩
def wayOf (a : At0) (tl body : List At0) (s : List Bd) (b : At0) : List (List Bd) := match matchA a b s with | none => [] | some t => waysW tl body t
end Go.Wk
namespace Go.Proofs.YthkdggoohpgnnaaGreatDoor
open Go Go.Wk
end Go.Proofs.YthkdggoohpgnnaaGreatDoor
/- Contracts: sets reduced, of the document's answer. -/
namespace Go.Wk
open Go
/-- A list, and an error. -/
def Ml {α : Type} [Enc α] (l : List α) (e : Int) (v : Value) (c : Cx) : Prop := ∃ v', v = .tuple #[v', .int .i64 e] ∧ Sl v' l c
instance {α : Type} [Enc α] (l : List α) (e : Int) (v : Value) : Mono (Ml l e v) := ⟨fun h ⟨v', x, k⟩ => ⟨v', x, Mono.mono h k⟩⟩
def goesAt (l : List Cl) (i k : Nat) : Bool := decide (k ≠ i) && match l[k]?, l[i]? with | some c, some d => (subs c d).isSome | _, _ => false
theorem goesB_eq (l : List Cl) (i : Nat) : goesB l i = (List.range l.length).any (goesAt l i) := rfl
theorem goesAt_get {l : List Cl} {i k : Nat} {c d : Cl} (h : l[k]? = some c) (h' : l[i]? = some d) : goesAt l i k = (decide (k ≠ i) && (subs c d).isSome) := by simp [goesAt, h, h']
theorem goesB_yes {l : List Cl} {i k : Nat} (hk : k < l.length) (h : goesAt l i k = true) : goesB l i = true := by rw [goesB_eq, List.any_eq_true]; exact ⟨k, by simpa using hk, h⟩
theorem goesB_no {l : List Cl} {i : Nat} (h : ∀ k < l.length, goesAt l i k = false) : goesB l i = false := by
  rw [goesB_eq, List.any_eq_false]
  intro k hk
  rw [h k (by simpa using hk)]
  simp
theorem erase_eq {α : Type} (l : List α) (i : Nat) : l.eraseIdx i = l.take i ++ l.drop (i + 1) := List.eraseIdx_eq_take_drop_succ l i
end Go.Wk
namespace Go.Proofs.YthkdggoohpgnnaaGreatDoor
open Go Go.Wk
end Go.Proofs.YthkdggoohpgnnaaGreatDoor
/- Contracts: comparison, checks, tests and bindings of the program's own terms. -/
namespace Go.Wk
open Go
section
variable {P : Program} {ops : Array Oper} {Q : Exit → Act → World → Prop} {n : Nat} {f : Nat → Value} {rest : List Oper} {ty : TypeId} {ps : String} {af : Array Edge} {d : Tmp}
variable {c0 c : Cx} {L : List Res} {A : Cx → Prop}
theorem LPut.all {cs vs : List Value} (h : cs.length = vs.length) : LPut cs 0 vs vs := by
  induction cs generalizing vs with
  | nil =>
    have : vs = [] := List.eq_nil_of_length_eq_zero h.symm
    subst this
    exact .nil
  | cons c cs ih =>
    cases vs with
    | nil => simp at h
    | cons v vs => exact .here (ih (by simpa using h))
/-- A value is stored into a new box, which nothing turns any more. -/
theorem s_storeG {α : Type} {iE : Enc α} {T T' : TypeId} {kk b : Nat} {x y : Operand} {cs : List Value} {v : Value} {u : α} (hx : opd f x = .pointer (some ⟨b, 0, none⟩)) (hy : opd f y = v) (h : Ag u v c) [Agg P T' kk] (hk : Enc.k α = kk) (hl : cs.length = kk) (H : Owns c0 (.obj b (.cells cs.toArray T (0, 0)) :: L) c) (HA : Hd A c) [Mono A]
    (k : ∀ c', Owns c0 L c' → Hd (fun c => Pt u (.pointer (some ⟨b, 0, none⟩)) c ∧ A c) c' → W P ops Q rest n f c'.w) : W P ops Q (⟨none, .store T' x y, ty, ps, af, none⟩ :: rest) n f c.w := by
  obtain ⟨us, rfl, hO⟩ := h
  have hlu := Enc.len us u c hO
  refine s_storeA (T := T) hx hy H (HA.add hO) (hlu.trans hk) (fun v hv => Enc.one us u c hO v hv) (LPut.all (by rw [hl, hlu, hk])) fun c' H HA => ?_
  refine w_freeze H HA fun c' H HA => k c' H ⟨⟨b, 0, rfl, us, HA.h.2.1, fun j v hj => ?_⟩, HA.h.2.2⟩
  rw [Nat.zero_add]
  exact HA.h.1.at_ hj
end
end Go.Wk
namespace Go.Proofs.YthkdggoohpgnnaaGreatDoor
open Go Go.Wk
instance : TyD Tryz.prog 3 Int (fun x => [.int .i64 x]) := ⟨fun _ _ => rfl⟩
theorem cmp_Or (xs : List Int) (v : Value) (c : Cx) (h : Sl v xs c) : Cn Tryz.prog 138 [v] c (fun v _ => v = .int .i64 (orI xs)) := by
  refine Cn.of Tryz.func138 Tryz.ntmps138 rfl rfl fun hm H HA => ?_
  have hlim := h.lim
  have HA := HA.add h
  (apply wc_seq; apply wc_region; refine Z2 ?_; apply w_nil; apply wx_next; apply wc_seq; apply wc_region; refine Z2 ?_; apply w_nil; apply wx_next; apply wc_seq; apply wc_seq; apply wc_region; refine Z0 ?_; refine Z45 ?_; refine Z0 ?_; apply w_nil; apply wx_next; apply wc_block)
  refine wc_loopN xs.length (fun k => [(3, .int .i64 0), (6, v), (7, .int .i64 xs.length), (8, .int .i64 k)]) (fun k => orI (xs.drop k) = orI xs) 0 H HA Ks (Nat.zero_le _) rfl ?_
  intro k g c hk hp H HA
  (focus (apply wc_seq; apply wc_region; refine Z93 (fun hq => ?_) fun hq => ?_; apply w_nil; apply wx_next; apply wc_seq; refine Z18 ?_; apply wc_skip; apply wx_next; apply wc_seq; apply wc_block; apply wc_seq; apply wc_region; rotate_left; apply w_nil; apply wx_next; apply wc_seq; refine Z19 ?_; apply wc_exit; apply wx_exit_then; apply wx_exit_then; apply wx_exit_same; apply wx_next; apply wc_seq; apply wc_region; refine Z0 ?_; refine Z2 ?_; apply w_nil; apply wx_next; apply wc_ret; rotate_left))
  · obtain ⟨a, ha⟩ := getq (xs := xs) (k := k) (by omega)
    have hd := drop_get ha
    (focus (refine Z34 HA fun vx HA => ?_; refine Z36 ?_; refine Z2 ?_; apply w_nil; apply wx_next; apply wc_seq; apply wc_region; refine Z0 ?_; refine Z0 ?_; refine Z94 (fun hq => ?_) fun hq => ?_; apply w_nil; apply wx_next; refine Z18 ?_; apply wc_seq; apply wc_region; refine Z0 ?_; refine Z2 ?_; apply w_nil; apply wx_next; apply wc_ret; apply wx_ret_block; apply wx_ret_then; apply wx_ret_then; apply wx_ret_block; apply wx_ret_then; rotate_left; apply w_nil; apply wx_next; refine Z19 ?_; apply wc_skip; apply wx_norm_block; apply wx_next; apply wc_region; refine Z46 ?_; refine Z0 ?_; apply w_nil; rotate_left))
    · exact ret_fn H hm (outs1 Tryz.results138 Wh) (by rw [← hp, hd, orI, if_neg hq])
    · exact wx_loopN (k + 1) H Cu Ks (by omega) (by rw [← hp, hd, orI, if_pos hq])
  · exact ret_fn H hm (outs1 Tryz.results138 Wh) (by rw [← hp, drop_end hq]; rfl)
theorem term_Compare (t u : Tm) (c : Cx) (ha : t.s.size < 4611686018427387904) : Cn Tryz.prog 105 [.agg t.cs.toArray, .agg u.cs.toArray] c (fun v _ => v = .int .i64 (cmpTm t u)) := by
  refine Cn.of Tryz.func105 Tryz.ntmps105 rfl rfl fun hm H HA => ?_
  (apply wc_seq; apply wc_region; refine Z31 fun bx c H HA => ?_; refine Z31 fun bx c H HA => ?_; refine Z2 ?_; apply w_nil; apply wx_next; apply wc_seq)
  (refine dw_start H HA ?_)
  (repeat (refine Dc ?_))
  (apply dw_cons; (focus ((intro B _ Lx c H HA; (repeat (first | (intro vx hx; have hx2 : vx = _ := hx; clear hx; subst hx2) | (intro vx hx; have HA := HA.addSF hx; clear hx) | (intro vx hx; have HA := HA.add hx; clear hx) | intro vx)); change W _ _ _ _ _ _ _); (refine s_call rfl rfl H HA (cmp_Compare _ _ _) ?_; intro vx c H HP; have hvx := HP.h.1; have HA := HP.cut; subst hvx); exact Dx)); exact inferInstance)
  (repeat (refine Dc ?_))
  (apply dw_cons; (focus ((intro B _ Lx c H HA; (repeat (first | (intro vx hx; have hx2 : vx = _ := hx; clear hx; subst hx2) | (intro vx hx; have HA := HA.addSF hx; clear hx) | (intro vx hx; have HA := HA.add hx; clear hx) | intro vx)); change W _ _ _ _ _ _ _); (refine s_call rfl rfl H HA (cmp_Compare _ _ _) ?_; intro vx c H HP; have hvx := HP.h.1; have HA := HP.cut; subst hvx); exact Dx)); exact inferInstance)
  (repeat (refine Dc ?_))
  (apply dw_cons; (focus ((intro B _ Lx c H HA; (repeat (first | (intro vx hx; have hx2 : vx = _ := hx; clear hx; subst hx2) | (intro vx hx; have HA := HA.addSF hx; clear hx) | (intro vx hx; have HA := HA.add hx; clear hx) | intro vx)); change W _ _ _ _ _ _ _); (refine s_call rfl rfl H HA (strings_Compare _ _ _) ?_; intro vx c H HP; have hvx := HP.h.1; have HA := HP.cut; subst hvx); exact Dx)); exact inferInstance)
  (repeat (refine Dc ?_))
  (apply dw_cons; (focus ((intro B _ Lx c H HA; (repeat (first | (intro vx hx; have hx2 : vx = _ := hx; clear hx; subst hx2) | (intro vx hx; have HA := HA.addSF hx; clear hx) | (intro vx hx; have HA := HA.add hx; clear hx) | intro vx)); change W _ _ _ _ _ _ _); (refine s_call rfl rfl H HA (cmp_Or _ _ _ Lk) ?_; intro vx c H HP; have hvx := HP.h.1; have HA := HP.cut; subst hvx); exact Dx)); exact inferInstance)
  (repeat (refine Dc ?_))
  (refine dw_done mixed H HA rfl (by kernel_rfl) ?_; clear H HA; intro c H HA; (repeat (first | (intro vx hx; have hx2 : vx = _ := hx; clear hx; subst hx2) | (intro vx hx; have HA := HA.addSF hx; clear hx) | (intro vx hx; have HA := HA.add hx; clear hx) | intro vx)); change W _ _ _ _ _ _ _)
  (apply w_nil; apply wx_next; apply wc_ret)
  exact ret_fn H hm (outs1 Tryz.results105 Wh) (by rw [cmpTm])
theorem term_CheckTest (t : Ts) (c : Cx) : Cn Tryz.prog 133 [.agg t.cs.toArray] c (fun v _ => v = .int .i64 t.check) := by
  refine Cn.of Tryz.func133 Tryz.ntmps133 rfl rfl fun hm H HA => ?_
  (focus (apply wc_seq; apply wc_region; refine Z31 fun bx c H HA => ?_; refine Z2 ?_; apply w_nil; apply wx_next; apply wc_seq; apply wc_seq; apply wc_region; refine Z3 ?_; refine Z1 ?_; refine Z93 (fun hq => ?_) fun hq => ?_; refine Z0 ?_; refine Z5 ?_; refine Z5 ?_; refine Z5 ?_; refine Z8 ?_; refine Z0 ?_; refine Z5 ?_; refine Z5 ?_; refine Z5 ?_; refine Z5 ?_; refine Z5 ?_; refine Z6 ?_; refine Z6 ?_; refine Z6 ?_; refine Z6 ?_; refine Z5 ?_; refine Z8 ?_; refine Z0 ?_; refine Z5 ?_; refine Z5 ?_; refine Z5 ?_; refine Z5 ?_; refine Z5 ?_; refine Z6 ?_; refine Z6 ?_; refine Z6 ?_; refine Z6 ?_; refine Z5 ?_; refine Z8 ?_; apply w_nil; apply wx_next; refine Z18 ?_; apply wc_seq; apply wc_region; refine Z2 ?_; apply w_nil; apply wx_next; apply wc_ret; apply wx_ret_then; rotate_left; refine Z0 ?_; refine Z4 ?_; refine Z3 ?_; refine Z4 ?_; refine Z1 ?_; refine Z4 ?_; refine Z96 (fun hq => ?_) fun hq => ?_; refine Z30 ?_; refine Z0 ?_; refine Z5 ?_; refine Z5 ?_; refine Z5 ?_; refine Z5 ?_; refine Z5 ?_; refine Z6 ?_; refine Z6 ?_; refine Z6 ?_; refine Z6 ?_; refine Z5 ?_; refine Z8 ?_; refine Z0 ?_; refine Z5 ?_; refine Z5 ?_; refine Z5 ?_; refine Z5 ?_; refine Z5 ?_; refine Z6 ?_; refine Z6 ?_; refine Z6 ?_; refine Z6 ?_; refine Z5 ?_; refine Z8 ?_; apply w_nil; apply wx_next; refine Z18 ?_; apply wc_seq; apply wc_region; refine Z2 ?_; apply w_nil; apply wx_next; apply wc_ret; apply wx_ret_then; rotate_left; refine Z30 ?_; refine Z0 ?_; refine Z4 ?_; refine Z3 ?_; refine Z4 ?_; refine Z7 ?_; refine Z4 ?_; rotate_left))
  all_goals first | exact ret_fn H hm (outs1 Tryz.results133 Wh) (by simp_all [Ts.check]; try omega) | skip
  (refine s_call rfl rfl H HA (term_Const t.l _) ?_; intro vx c H HP; have hvx := HP.h.1; have HA := HP.cut; subst hvx)
  cases h1 : t.l.isConst
  · (refine Z4 ?_; refine Z33 ?_; refine Z4 ?_; refine Z0 ?_; refine Z4 ?_; refine Z3 ?_; refine Z4 ?_; refine Z7 ?_; refine Z4 ?_)
    (refine s_call rfl rfl H HA (term_Variable t.l _) ?_; intro vx c H HP; have hvx := HP.h.1; have HA := HP.cut; subst hvx)
    cases h2 : t.l.isVar
    · (refine Z4 ?_; refine Z33 ?_; refine Z4 ?_; refine Z8 ?_; refine Z30 ?_; refine Z0 ?_; refine Z5 ?_; refine Z5 ?_; refine Z5 ?_; refine Z5 ?_; refine Z5 ?_; refine Z6 ?_; refine Z6 ?_; refine Z6 ?_; refine Z6 ?_; refine Z5 ?_; refine Z8 ?_; apply w_nil; apply wx_next; refine Z18 ?_; apply wc_seq; apply wc_region; refine Z2 ?_; apply w_nil; apply wx_next; apply wc_ret; apply wx_ret_then)
      exact ret_fn H hm (outs1 Tryz.results133 Wh) (by simp_all [Ts.check])
    · (refine Z4 ?_; refine Z33 ?_; refine Z4 ?_; refine Z8 ?_; refine Z30 ?_; refine Z0 ?_; refine Z4 ?_; refine Z3 ?_; refine Z4 ?_; refine Z7 ?_; refine Z4 ?_)
      (refine s_call rfl rfl H HA (term_Const t.r _) ?_; intro vx c H HP; have hvx := HP.h.1; have HA := HP.cut; subst hvx)
      cases h3 : t.r.isConst
      · (refine Z4 ?_; refine Z33 ?_; refine Z4 ?_; refine Z0 ?_; refine Z4 ?_; refine Z3 ?_; refine Z4 ?_; refine Z7 ?_; refine Z4 ?_)
        (refine s_call rfl rfl H HA (term_Variable t.r _) ?_; intro vx c H HP; have hvx := HP.h.1; have HA := HP.cut; subst hvx)
        cases h4 : t.r.isVar
        · (refine Z4 ?_; refine Z33 ?_; refine Z4 ?_; refine Z8 ?_; refine Z30 ?_; apply w_nil; apply wx_next; refine Z18 ?_; apply wc_seq; apply wc_region; refine Z2 ?_; apply w_nil; apply wx_next; apply wc_ret; apply wx_ret_then)
          exact ret_fn H hm (outs1 Tryz.results133 Wh) (by simp_all [Ts.check])
        · (refine Z4 ?_; refine Z33 ?_; refine Z4 ?_; refine Z8 ?_; refine Z30 ?_; apply w_nil; apply wx_next; refine Z19 ?_; apply wc_skip; apply wx_next; apply wc_seq; apply wc_region; refine Z2 ?_; apply w_nil; apply wx_next; apply wc_ret)
          exact ret_fn H hm (outs1 Tryz.results133 Wh) (by simp_all [Ts.check]; try omega)
      · (refine Z4 ?_; refine Z33 ?_; refine Z4 ?_; refine Z0 ?_; refine Z5 ?_; refine Z5 ?_; refine Z5 ?_; refine Z5 ?_; refine Z4 ?_; refine Z30 ?_; refine Z30 ?_; apply w_nil; apply wx_next; refine Z19 ?_; apply wc_skip; apply wx_next; apply wc_seq; apply wc_region; refine Z2 ?_; apply w_nil; apply wx_next; apply wc_ret)
        exact ret_fn H hm (outs1 Tryz.results133 Wh) (by simp_all [Ts.check]; try omega)
  · (refine Z4 ?_; refine Z33 ?_; refine Z4 ?_; refine Z0 ?_; refine Z5 ?_; refine Z5 ?_; refine Z5 ?_; refine Z5 ?_; refine Z4 ?_; refine Z30 ?_; refine Z30 ?_; refine Z0 ?_; refine Z4 ?_; refine Z3 ?_; refine Z4 ?_; refine Z7 ?_; refine Z4 ?_)
    (refine s_call rfl rfl H HA (term_Const t.r _) ?_; intro vx c H HP; have hvx := HP.h.1; have HA := HP.cut; subst hvx)
    cases h3 : t.r.isConst
    · (refine Z4 ?_; refine Z33 ?_; refine Z4 ?_; refine Z0 ?_; refine Z4 ?_; refine Z3 ?_; refine Z4 ?_; refine Z7 ?_; refine Z4 ?_)
      (refine s_call rfl rfl H HA (term_Variable t.r _) ?_; intro vx c H HP; have hvx := HP.h.1; have HA := HP.cut; subst hvx)
      cases h4 : t.r.isVar
      · (refine Z4 ?_; refine Z33 ?_; refine Z4 ?_; refine Z8 ?_; refine Z30 ?_; apply w_nil; apply wx_next; refine Z18 ?_; apply wc_seq; apply wc_region; refine Z2 ?_; apply w_nil; apply wx_next; apply wc_ret; apply wx_ret_then)
        exact ret_fn H hm (outs1 Tryz.results133 Wh) (by simp_all [Ts.check])
      · (refine Z4 ?_; refine Z33 ?_; refine Z4 ?_; refine Z8 ?_; refine Z30 ?_; apply w_nil; apply wx_next; refine Z19 ?_; apply wc_skip; apply wx_next; apply wc_seq; apply wc_region; refine Z2 ?_; apply w_nil; apply wx_next; apply wc_ret)
        exact ret_fn H hm (outs1 Tryz.results133 Wh) (by simp_all [Ts.check]; try omega)
    · (refine Z4 ?_; refine Z33 ?_; refine Z4 ?_; refine Z0 ?_; refine Z5 ?_; refine Z5 ?_; refine Z5 ?_; refine Z5 ?_; refine Z4 ?_; refine Z30 ?_; refine Z30 ?_; apply w_nil; apply wx_next; refine Z19 ?_; apply wc_skip; apply wx_next; apply wc_seq; apply wc_region; refine Z2 ?_; apply w_nil; apply wx_next; apply wc_ret)
      exact ret_fn H hm (outs1 Tryz.results133 Wh) (by simp_all [Ts.check]; try omega)
theorem term_Decide (t : Ts) (c : Cx) (hs : t.l.sm) : Cn Tryz.prog 102 [.agg t.cs.toArray] c (fun v _ => v = .tuple #[.bool t.decide.1, .bool t.decide.2]) := by
  refine Cn.of Tryz.func102 Tryz.ntmps102 rfl rfl fun hm H HA => ?_
  (apply wc_seq; apply wc_region; refine Z31 fun bx c H HA => ?_; refine Z2 ?_; refine Z2 ?_; apply w_nil; apply wx_next; apply wc_seq; apply wc_seq; apply wc_region; refine Z7 ?_)
  (refine s_call rfl rfl H HA (term_CheckTest t _) ?_; intro vx c H HP; have hvx := HP.h.1; have HA := HP.cut; subst hvx)
  by_cases h0 : t.check = 0
  · (refine Z82 ?_; refine Z0 ?_; refine Z4 ?_; refine Z3 ?_; refine Z4 ?_; refine Z7 ?_; refine Z4 ?_)
    (refine s_call rfl rfl H HA (term_Const t.l _) ?_; intro vx c H HP; have hvx := HP.h.1; have HA := HP.cut; subst hvx)
    cases h1 : t.l.isConst
    · (refine Z4 ?_; refine Z33 ?_; refine Z30 ?_; refine Z0 ?_; refine Z5 ?_; refine Z5 ?_; refine Z5 ?_; refine Z5 ?_; refine Z8 ?_; apply w_nil; apply wx_next; refine Z18 ?_; apply wc_seq; apply wc_region; refine Z2 ?_; refine Z2 ?_; apply w_nil; apply wx_next; apply wc_ret; apply wx_ret_then)
      exact ret_fn H hm (outs2 Tryz.results102 Wh Wh) (by simp [Ts.decide, h1])
    · (refine Z4 ?_; refine Z33 ?_; refine Z30 ?_; refine Z0 ?_; refine Z4 ?_; refine Z3 ?_; refine Z4 ?_; refine Z7 ?_; refine Z4 ?_)
      (refine s_call rfl rfl H HA (term_Const t.r _) ?_; intro vx c H HP; have hvx := HP.h.1; have HA := HP.cut; subst hvx)
      cases h2 : t.r.isConst
      · (refine Z4 ?_; refine Z33 ?_; refine Z30 ?_; apply w_nil; apply wx_next; refine Z18 ?_; apply wc_seq; apply wc_region; refine Z2 ?_; refine Z2 ?_; apply w_nil; apply wx_next; apply wc_ret; apply wx_ret_then)
        exact ret_fn H hm (outs2 Tryz.results102 Wh Wh) (by simp [Ts.decide, h1, h2])
      · (refine Z4 ?_; refine Z33 ?_; refine Z30 ?_; apply w_nil; apply wx_next; refine Z19 ?_; apply wc_skip; apply wx_next; apply wc_seq; apply wc_region; refine Z3 ?_; refine Z7 ?_; refine Z3 ?_; refine Z7 ?_)
        (refine s_call rfl rfl H HA (term_Compare t.l t.r _ hs) ?_; intro vx c H HP; have hvx := HP.h.1; have HA := HP.cut; subst hvx)
        (focus (refine Z2 ?_; apply w_nil; apply wx_next; apply wc_seq; apply wc_seq; apply wc_region; refine Z3 ?_; refine Z1 ?_; apply w_nil; apply wx_next; apply wc_block; apply wc_seq; apply wc_region; refine Z92 (fun hq => ?_) fun hq => ?_; refine Z2 ?_; apply w_nil; apply wx_next; refine Z18 ?_; apply wc_seq; apply wc_region; refine Z0 ?_; refine Z92 (fun hq => ?_) fun hq => ?_; refine Z2 ?_; refine Z2 ?_; apply w_nil; apply wx_next; apply wc_ret; apply wx_ret_block; apply wx_ret_then; rotate_left; refine Z2 ?_; refine Z2 ?_; apply w_nil; apply wx_next; apply wc_ret; apply wx_ret_block; apply wx_ret_then; rotate_left; refine Z2 ?_; apply w_nil; apply wx_next; refine Z19 ?_; apply wc_seq; apply wc_region; refine Z92 (fun hq => ?_) fun hq => ?_; refine Z2 ?_; apply w_nil; apply wx_next; refine Z18 ?_; apply wc_seq; apply wc_region; refine Z0 ?_; refine Z94 (fun hq => ?_) fun hq => ?_; refine Z2 ?_; refine Z2 ?_; apply w_nil; apply wx_next; apply wc_ret; apply wx_ret_block; apply wx_ret_then; rotate_left; refine Z2 ?_; refine Z2 ?_; apply w_nil; apply wx_next; apply wc_ret; apply wx_ret_block; apply wx_ret_then; rotate_left; refine Z2 ?_; apply w_nil; apply wx_next; refine Z19 ?_; apply wc_seq; apply wc_region; refine Z92 (fun hq => ?_) fun hq => ?_; refine Z2 ?_; apply w_nil; apply wx_next; refine Z18 ?_; apply wc_seq; apply wc_region; refine Z0 ?_; refine Z93 (fun hq => ?_) fun hq => ?_; refine Z2 ?_; refine Z2 ?_; apply w_nil; apply wx_next; apply wc_ret; apply wx_ret_block; apply wx_ret_then; rotate_left; refine Z2 ?_; refine Z2 ?_; apply w_nil; apply wx_next; apply wc_ret; apply wx_ret_block; apply wx_ret_then; rotate_left; refine Z2 ?_; apply w_nil; apply wx_next; refine Z19 ?_; apply wc_skip; apply wx_norm_block; apply wx_next; apply wc_seq; apply wc_region; refine Z0 ?_; refine Z95 (fun hq => ?_) fun hq => ?_; refine Z2 ?_; refine Z2 ?_; apply w_nil; apply wx_next; apply wc_ret; rotate_left; refine Z2 ?_; refine Z2 ?_; apply w_nil; apply wx_next; apply wc_ret; rotate_left))
        all_goals exact ret_fn H hm (outs2 Tryz.results102 Wh Wh) (by simp [Ts.decide, h1, h2, *])
  · (refine Z82 ?_; refine Z0 ?_; refine Z5 ?_; refine Z5 ?_; refine Z5 ?_; refine Z5 ?_; refine Z8 ?_; refine Z0 ?_; refine Z5 ?_; refine Z5 ?_; refine Z5 ?_; refine Z5 ?_; refine Z8 ?_; apply w_nil; apply wx_next; refine Z18 ?_; apply wc_seq; apply wc_region; refine Z2 ?_; refine Z2 ?_; apply w_nil; apply wx_next; apply wc_ret; apply wx_ret_then)
    exact ret_fn H hm (outs2 Tryz.results102 Wh Wh) (by simp [Ts.decide, h0])
theorem term_Look (s : List Bd) (v : Value) (x : Int) (c : Cx) (h : Sl v s c) (hg : Box 3 Tn.cs c) : Cn Tryz.prog 154 [v, .int .i64 x] c (fun u _ => u = looked s x) := by
  refine Cn.of Tryz.func154 Tryz.ntmps154 rfl rfl fun hm H HA => ?_
  have hlim := h.lim
  have HA := (HA.add h).add hg
  (apply wc_seq; apply wc_region; refine Z61 fun bx c H HA => ?_; refine Z2 ?_; apply w_nil; apply wx_next; apply wc_seq; apply wc_seq; apply wc_region; refine Z0 ?_; refine Z45 ?_; refine Z0 ?_; apply w_nil; apply wx_next; apply wc_block)
  (obtain ⟨b0, rfl⟩ : ∃ x, x = bx := ⟨_, rfl⟩)
  refine wc_loopN s.length (fun k => [(1, .int .i64 x), (4, .pointer (some ⟨b0, 0, none⟩)), (8, v), (9, .int .i64 s.length), (10, .int .i64 k)]) (fun k => lookB s x = lookB (s.drop k) x) 0 H HA Ks (Nat.zero_le _) rfl ?_
  intro k g c hk hp H HA
  (focus (apply wc_seq; apply wc_region; refine Z93 (fun hq => ?_) fun hq => ?_; apply w_nil; apply wx_next; apply wc_seq; refine Z18 ?_; apply wc_skip; apply wx_next; apply wc_seq; apply wc_block; apply wc_seq; apply wc_region; rotate_left; apply w_nil; apply wx_next; apply wc_seq; refine Z19 ?_; apply wc_exit; apply wx_exit_then; apply wx_exit_then; apply wx_exit_same; apply wx_next; apply wc_seq; apply wc_region; refine Z7 ?_; refine Z74 fun c H HA => ?_; refine Z2 ?_; apply w_nil; apply wx_next; apply wc_ret; rotate_left))
  · obtain ⟨e, he⟩ := getq (xs := s) (k := k) (by omega)
    have hd := drop_get he
    (focus (refine Z34 HA fun vx HA => ?_; refine Z38 ?_; refine Z61 fun bx c H HA => ?_; refine Z74 fun c H HA => ?_; apply w_nil; apply wx_next; apply wc_seq; apply wc_region; refine Z3 ?_; refine Z41 ?_; refine Z0 ?_; refine Z92 (fun hq => ?_) fun hq => ?_; apply w_nil; apply wx_next; refine Z18 ?_; apply wc_seq; apply wc_region; refine Z3 ?_; refine Z42 ?_; refine Z76 fun c H HA => ?_; refine Z2 ?_; apply w_nil; apply wx_next; apply wc_ret; apply wx_ret_block; apply wx_ret_then; apply wx_ret_then; apply wx_ret_block; apply wx_ret_then; rotate_left; apply w_nil; apply wx_next; refine Z19 ?_; apply wc_skip; apply wx_norm_block; apply wx_next; apply wc_region; refine Z46 ?_; refine Z0 ?_; apply w_nil; rotate_left))
    · exact ret_fn H hm (outsR2 Tryz.results154 (RV.agg rfl H Ow Rc) (RV.tmp Wh)) (by simp [looked, hp, hd, lookB, hq])
    · have H := H.drop
      exact wx_loopN (k + 1) H Cu Ks (by omega) (by simp [hp, hd, lookB, hq])
  · exact ret_fn H hm (outsR2 Tryz.results154 (RV.agg rfl H Ow Rc) (RV.tmp Wh)) (by simp [looked, hp, drop_end hq, lookB])
theorem term_become (s : List Bd) (v : Value) (t : Tm) (c : Cx) (h : Sl v s c) (hg : Box 3 Tn.cs c) : Cn Tryz.prog 132 [v, .agg t.cs.toArray] c (fun u _ => u = .agg (becomeT s t).cs.toArray) := by
  refine Cn.of Tryz.func132 Tryz.ntmps132 rfl rfl fun hm H HA => ?_
  have HA := (HA.add h).add hg
  (apply wc_seq; apply wc_region; refine Z31 fun bx c H HA => ?_; refine Z61 fun bx c H HA => ?_; apply w_nil; apply wx_next; apply wc_seq; apply wc_seq; apply wc_region; refine Z7 ?_)
  (refine s_call rfl rfl H HA (term_Variable t _) ?_; intro vx c H HP; have hvx := HP.h.1; have HA := HP.cut; subst hvx)
  cases hv : t.isVar
  · (apply w_nil; apply wx_next; refine Z19 ?_; apply wc_skip; apply wx_next; apply wc_seq; apply wc_region; refine Z7 ?_; refine Z74 fun c H HA => ?_; apply w_nil; apply wx_next; apply wc_ret)
    exact ret_fn H hm (outsR1 Tryz.results132 (RV.agg rfl H Ow Rc)) (by simp [becomeT, hv])
  · (apply w_nil; apply wx_next; refine Z18 ?_; apply wc_seq; apply wc_region; refine Z0 ?_; refine Z3 ?_; refine Z1 ?_)
    (refine s_call rfl rfl H HA (term_Look s v t.n _ Lk Lk) ?_; intro vx c H HP; have hvx := HP.h.1; have HA := HP.cut; subst hvx)
    cases hl : lookB s t.n
    · rw [looked, hl]
      (refine Z0 ?_; refine Z32 ?_; refine Z32 ?_; refine Z61 fun bx c H HA => ?_; refine Z74 fun c H HA => ?_; refine Z2 ?_; apply w_nil; apply wx_next; apply wc_seq; apply wc_region; refine Z0 ?_; apply w_nil; apply wx_next; refine Z19 ?_; apply wc_skip; apply wx_next; apply wc_seq; apply wc_region; refine Z7 ?_; refine Z76 fun c H HA => ?_; apply w_nil; apply wx_next; apply wc_ret)
      exact ret_fn H hm (outsR1 Tryz.results132 (RV.agg rfl H Ow Rc)) (by simp [becomeT, hv, hl])
    · rw [looked, hl]
      (refine Z0 ?_; refine Z32 ?_; refine Z32 ?_; refine Z61 fun bx c H HA => ?_; refine Z74 fun c H HA => ?_; refine Z2 ?_; apply w_nil; apply wx_next; apply wc_seq; apply wc_region; refine Z0 ?_; apply w_nil; apply wx_next; refine Z18 ?_; apply wc_seq; apply wc_region; refine Z42 ?_; refine Z76 fun c H HA => ?_; apply w_nil; apply wx_next; apply wc_ret; apply wx_ret_then)
      exact ret_fn H hm (outsR1 Tryz.results132 (RV.agg rfl H Ow Rc)) (by simp [becomeT, hv, hl])
theorem term_ApplyTest (s : List Bd) (v : Value) (t : Ts) (c : Cx) (h : Sl v s c) (hg : Box 3 Tn.cs c) : Cn Tryz.prog 101 [v, .agg t.cs.toArray] c (fun u _ => u = .agg (Ts.cs ⟨t.op, becomeT s t.l, becomeT s t.r⟩).toArray) := by
  refine Cn.of Tryz.func101 Tryz.ntmps101 rfl rfl fun hm H HA => ?_
  have HA := (HA.add h).add hg
  (apply wc_seq; apply wc_region; refine Z31 fun bx c H HA => ?_; refine Z61 fun bx c H HA => ?_; apply w_nil; apply wx_next; apply wc_seq)
  (refine dw_start H HA ?_)
  (repeat (refine Dc ?_))
  (apply dw_cons; (focus ((intro B _ Lx c H HA; (repeat (first | (intro vx hx; have hx2 : vx = _ := hx; clear hx; subst hx2) | (intro vx hx; have HA := HA.addSF hx; clear hx) | (intro vx hx; have HA := HA.add hx; clear hx) | intro vx)); change W _ _ _ _ _ _ _); (refine s_call rfl rfl H HA (term_become s v t.l _ Lk Lk) ?_; intro vx c H HP; have hvx := HP.h.1; have HA := HP.cut; subst hvx); exact Dx)); exact inferInstance)
  (repeat (refine Dc ?_))
  (apply dw_cons; (focus ((intro B _ Lx c H HA; (repeat (first | (intro vx hx; have hx2 : vx = _ := hx; clear hx; subst hx2) | (intro vx hx; have HA := HA.addSF hx; clear hx) | (intro vx hx; have HA := HA.add hx; clear hx) | intro vx)); change W _ _ _ _ _ _ _); (refine s_call rfl rfl H HA (term_become s v t.r _ Lk Lk) ?_; intro vx c H HP; have hvx := HP.h.1; have HA := HP.cut; subst hvx); exact Dx)); exact inferInstance)
  (repeat (refine Dc ?_))
  (refine dw_done mixed H HA rfl (by kernel_rfl) ?_; clear H HA; intro c H HA; (repeat (first | (intro vx hx; have hx2 : vx = _ := hx; clear hx; subst hx2) | (intro vx hx; have HA := HA.addSF hx; clear hx) | (intro vx hx; have HA := HA.add hx; clear hx) | intro vx)); change W _ _ _ _ _ _ _)
  (refine Z74 fun c H HA => ?_; apply w_nil; apply wx_next; apply wc_ret)
  exact ret_fn H hm (outsR1 Tryz.results101 (RV.agg rfl H Ow Rc)) rfl
theorem subsume_had (t : Tm) (n : Int) (c : Cx) : Cn Tryz.prog 100 [.agg t.cs.toArray, .int .i64 n] c (fun v _ => v = .bool (!t.isVar || decide (t.n < n))) := by
  refine Cn.of Tryz.func100 Tryz.ntmps100 rfl rfl fun hm H HA => ?_
  (apply wc_seq; apply wc_region; refine Z31 fun bx c H HA => ?_; refine Z2 ?_; apply w_nil; apply wx_next; apply wc_seq; apply wc_region; refine Z7 ?_)
  (refine s_call rfl rfl H HA (term_Variable t _) ?_; intro vx c H HP; have hvx := HP.h.1; have HA := HP.cut; subst hvx)
  cases hv : t.isVar
  · (refine Z33 ?_; refine Z0 ?_; refine Z5 ?_; refine Z5 ?_; refine Z5 ?_; refine Z5 ?_; refine Z8 ?_; refine Z2 ?_; apply w_nil; apply wx_next; apply wc_ret)
    exact ret_fn H hm (outs1 Tryz.results100 Wh) (by simp)
  · (focus (refine Z33 ?_; refine Z0 ?_; refine Z4 ?_; refine Z3 ?_; refine Z4 ?_; refine Z1 ?_; refine Z4 ?_; refine Z0 ?_; refine Z4 ?_; refine Z93 (fun hq => ?_) fun hq => ?_; refine Z30 ?_; refine Z2 ?_; apply w_nil; apply wx_next; apply wc_ret; rotate_left; refine Z30 ?_; refine Z2 ?_; apply w_nil; apply wx_next; apply wc_ret; rotate_left))
    all_goals exact ret_fn H hm (outs1 Tryz.results100 Wh) (by simp [*])
end Go.Proofs.YthkdggoohpgnnaaGreatDoor
/- Contracts: atoms, tests and clauses compared, of the program's own. -/
namespace Go.Wk
theorem lexL_tms : ∀ (xs ys : List Tm), xs.length = ys.length → lexL cmpTm xs ys = cmpTms xs ys
  | [], [], _ => rfl
  | x :: xs, y :: ys, h => by
    have ih := lexL_tms xs ys (by simpa using h)
    simp only [lexL, cmpTms, ih]
  | [], _ :: _, h => by simp at h
  | _ :: _, [], h => by simp at h
end Go.Wk
namespace Go.Proofs.YthkdggoohpgnnaaGreatDoor
open Go Go.Wk
theorem CompareFunc_Tm (xs ys : List Tm) (v1 v2 : Value) (c : Cx) (h1 : Sl v1 xs c) (h2 : Sl v2 ys c) (hs : ∀ x ∈ xs, x.sm) : Cn Tryz.prog 175 [v1, v2, .func (.func 105) #[] #[]] c (fun v _ => v = .int .i64 (lexL cmpTm xs ys)) := by
  refine Cn.of Tryz.func175 Tryz.ntmps175 rfl rfl fun hm H HA => ?_
  have hl1 := h1.lim
  have hl2 := h2.lim
  have HA := (HA.add h1).add h2
  (apply wc_seq; apply wc_region; refine Z2 ?_; apply w_nil; apply wx_next; apply wc_seq; apply wc_seq; apply wc_region; refine Z0 ?_; refine Z45 ?_; refine Z0 ?_; apply w_nil; apply wx_next; apply wc_block)
  refine wc_loopN xs.length (fun k => [(0, v1), (1, v2), (2, .func (.func 105) #[] #[]), (11, v1), (12, .int .i64 xs.length), (13, .int .i64 k)]) (fun k => k ≤ ys.length ∧ lexL cmpTm xs ys = lexL cmpTm (xs.drop k) (ys.drop k)) 0 H HA Ks (Nat.zero_le _) ⟨Nat.zero_le _, rfl⟩ ?_
  intro k g c hk hp H HA
  obtain ⟨hk2, hp⟩ := hp
  (focus (apply wc_seq; apply wc_region; refine Z93 (fun hq => ?_) fun hq => ?_; apply w_nil; apply wx_next; apply wc_seq; refine Z18 ?_; apply wc_skip; apply wx_next; apply wc_seq; apply wc_block; apply wc_seq; apply wc_region; refine Z0 ?_; rotate_left; apply w_nil; apply wx_next; apply wc_seq; refine Z19 ?_; apply wc_exit; apply wx_exit_then; apply wx_exit_then; apply wx_exit_same; apply wx_next; apply wc_seq; apply wc_seq; apply wc_region; refine Z0 ?_; refine Z45 ?_; refine Z0 ?_; refine Z45 ?_; refine Z93 (fun hq => ?_) fun hq => ?_; apply w_nil; apply wx_next; refine Z18 ?_; apply wc_seq; apply wc_region; refine Z2 ?_; apply w_nil; apply wx_next; apply wc_ret; apply wx_ret_then; rotate_left; apply w_nil; apply wx_next; refine Z19 ?_; apply wc_skip; apply wx_next; apply wc_seq; apply wc_region; refine Z2 ?_; apply w_nil; apply wx_next; apply wc_ret; rotate_left))
  · obtain ⟨x, hx⟩ := getq (xs := xs) (k := k) (by omega)
    (focus (refine Z34 HA fun vx HA => ?_; refine Z38 ?_; refine Z61 fun bx c H HA => ?_; refine Z2 ?_; refine Z74 fun c H HA => ?_; apply w_nil; apply wx_next; apply wc_seq; apply wc_seq; apply wc_region; refine Z0 ?_; refine Z0 ?_; refine Z45 ?_; refine Z97 (fun hq => ?_) fun hq => ?_; apply w_nil; apply wx_next; refine Z18 ?_; apply wc_seq; apply wc_region; refine Z2 ?_; apply w_nil; apply wx_next; apply wc_ret; apply wx_ret_then; apply wx_ret_block; apply wx_ret_then; apply wx_ret_then; apply wx_ret_block; apply wx_ret_then; rotate_left; apply w_nil; apply wx_next; refine Z19 ?_; apply wc_skip; apply wx_next; apply wc_seq; apply wc_region; refine Z0 ?_; refine Z0 ?_; rotate_left))
    · have e0 : ys.drop k = [] := List.drop_eq_nil_of_le (by omega)
      exact ret_fn H hm (outs1 Tryz.results175 Wh) (by rw [hp, drop_get hx, e0]; rfl)
    · obtain ⟨y, hy⟩ := getq (xs := ys) (k := k) (by omega)
      (refine Z34 HA fun vx HA => ?_; refine Z38 ?_; refine Z61 fun bx c H HA => ?_; refine Z74 fun c H HA => ?_; apply w_nil; apply wx_next; apply wc_seq; apply wc_region; refine Z0 ?_; refine Z42 ?_; refine Z42 ?_)
      (refine s_callV (caps := []) rfl rfl rfl H HA (term_Compare x y _ (hs x (List.mem_of_getElem? hx))) ?_; intro vx c H HP; have hvx := HP.h.1; have HA := HP.cut; subst hvx)
      have hl := lexL_get (f := cmpTm) hx hy
      (focus (refine Z2 ?_; apply w_nil; apply wx_next; apply wc_seq; apply wc_region; refine Z0 ?_; refine Z94 (fun hq => ?_) fun hq => ?_; apply w_nil; apply wx_next; refine Z18 ?_; apply wc_seq; apply wc_region; refine Z0 ?_; refine Z2 ?_; apply w_nil; apply wx_next; apply wc_ret; apply wx_ret_block; apply wx_ret_then; apply wx_ret_then; apply wx_ret_block; apply wx_ret_then; rotate_left; apply w_nil; apply wx_next; refine Z19 ?_; apply wc_skip; apply wx_norm_block; apply wx_next; apply wc_region; refine Z46 ?_; refine Z0 ?_; apply w_nil; rotate_left))
      · exact ret_fn H hm (outs1 Tryz.results175 Wh) (by rw [hp, hl, if_neg (by assumption)])
      · have H := H.drop.drop
        exact wx_loopN (k + 1) H Cu Ks (by omega) ⟨by omega, by rw [hp, hl, if_pos (by assumption)]⟩
  · have e0 : xs.drop k = [] := List.drop_eq_nil_of_le (by omega)
    obtain ⟨y, hy⟩ := getq (xs := ys) (k := k) (by omega)
    exact ret_fn H hm (outs1 Tryz.results175 Wh) (by rw [hp, e0, drop_get hy]; rfl)
  · have e0 : xs.drop k = [] := List.drop_eq_nil_of_le (by omega)
    have e1 : ys.drop k = [] := List.drop_eq_nil_of_le (by omega)
    exact ret_fn H hm (outs1 Tryz.results175 Wh) (by rw [hp, e0, e1]; rfl)
theorem term_CompareAtoms (a b : At0) (u1 u2 : Value) (c : Cx) (h1 : Ag a u1 c) (h2 : Ag b u2 c) (hs : a.sm) : Cn Tryz.prog 144 [u1, u2] c (fun v _ => v = .int .i64 (cmpAt a b)) := by
  refine Cn.of Tryz.func144 Tryz.ntmps144 rfl rfl fun hm H HA => ?_
  have HA := (HA.add h1).add h2
  (apply wc_seq; apply wc_region)
  (refine s_boxG rfl rfl Lk H HA ?_; intro p c H HA)
  (refine s_boxG rfl rfl Lk H HA ?_; intro q c H HA)
  (refine Z2 ?_; apply w_nil; apply wx_next; apply wc_seq; apply wc_seq)
  (refine dw_start H HA ?_)
  (repeat (refine Dc ?_))
  (apply dw_cons; (focus ((intro B _ Lx c H HA; (repeat (first | (intro vx hx; have hx2 : vx = _ := hx; clear hx; subst hx2) | (intro vx hx; have HA := HA.addSF hx; clear hx) | (intro vx hx; have HA := HA.add hx; clear hx) | intro vx)); change W _ _ _ _ _ _ _); (refine s_call rfl rfl H HA (strings_Compare _ _ _) ?_; intro vx c H HP; have hvx := HP.h.1; have HA := HP.cut; subst hvx); exact Dx)); exact inferInstance)
  (repeat (refine Dc ?_))
  (apply dw_cons; (focus ((intro B _ Lx c H HA; (repeat (first | (intro vx hx; have hx2 : vx = _ := hx; clear hx; subst hx2) | (intro vx hx; have HA := HA.addSF hx; clear hx) | (intro vx hx; have HA := HA.add hx; clear hx) | intro vx)); change W _ _ _ _ _ _ _); (refine s_call rfl rfl H HA (cmp_Compare _ _ _) ?_; intro vx c H HP; have hvx := HP.h.1; have HA := HP.cut; subst hvx); exact Dx)); exact inferInstance)
  (repeat (refine Dc ?_))
  (apply dw_cons; (focus ((intro B _ Lx c H HA; (repeat (first | (intro vx hx; have hx2 : vx = _ := hx; clear hx; subst hx2) | (intro vx hx; have HA := HA.addSF hx; clear hx) | (intro vx hx; have HA := HA.add hx; clear hx) | intro vx)); change W _ _ _ _ _ _ _); (refine s_call rfl rfl H HA (term_Compare a.by_ b.by_ _ hs.2.1) ?_; intro vx c H HP; have hvx := HP.h.1; have HA := HP.cut; subst hvx); exact Dx)); exact inferInstance)
  (repeat (refine Dc ?_))
  (apply dw_cons; (focus ((intro B _ Lx c H HA; (repeat (first | (intro vx hx; have hx2 : vx = _ := hx; clear hx; subst hx2) | (intro vx hx; have HA := HA.addSF hx; clear hx) | (intro vx hx; have HA := HA.add hx; clear hx) | intro vx)); change W _ _ _ _ _ _ _); (refine s_call rfl rfl H HA (cmp_Or _ _ _ Lk) ?_; intro vx c H HP; have hvx := HP.h.1; have HA := HP.cut; subst hvx); exact Dx)); exact inferInstance)
  (repeat (refine Dc ?_))
  (refine dw_done mixed H HA rfl (by kernel_rfl) ?_; clear H HA; intro c H HA; (repeat (first | (intro vx hx; have hx2 : vx = _ := hx; clear hx; subst hx2) | (intro vx hx; have HA := HA.addSF hx; clear hx) | (intro vx hx; have HA := HA.add hx; clear hx) | intro vx)); change W _ _ _ _ _ _ _)
  have he : cmpAt a b = if orI [cmpS a.name b.name, cmpI a.args.length b.args.length, cmpTm a.by_ b.by_] = 0 then cmpTms a.args b.args else orI [cmpS a.name b.name, cmpI a.args.length b.args.length, cmpTm a.by_ b.by_] := by
    simp only [cmpAt, orI]
    repeat' split
    all_goals simp_all
  have hlen : orI [cmpS a.name b.name, cmpI a.args.length b.args.length, cmpTm a.by_ b.by_] = 0 → a.args.length = b.args.length := by
    intro h
    simp only [orI] at h
    repeat' split at h
    all_goals simp_all [cmpI_nat0]
  generalize orI [cmpS a.name b.name, cmpI a.args.length b.args.length, cmpTm a.by_ b.by_] = z at he hlen ⊢
  (focus (apply w_nil; apply wx_next; apply wc_seq; apply wc_region; refine Z0 ?_; refine Z94 (fun hq => ?_) fun hq => ?_; apply w_nil; apply wx_next; refine Z18 ?_; apply wc_seq; apply wc_region; refine Z0 ?_; refine Z2 ?_; apply w_nil; apply wx_next; apply wc_ret; apply wx_ret_then; rotate_left; apply w_nil; apply wx_next; refine Z19 ?_; apply wc_skip; apply wx_next; apply wc_seq; apply wc_region; refine Z35 HA fun vx HA => ?_; refine Z37 HA fun vx HA => ?_; refine Z35 HA fun vx HA => ?_; refine Z37 HA fun vx HA => ?_; rotate_left))
  · exact ret_fn H hm (outs1 Tryz.results144 Wh) (by rw [he, if_neg (by assumption)])
  · (refine s_call rfl rfl H HA (CompareFunc_Tm a.args b.args _ _ _ Lk Lk hs.2.2) ?_; intro vx c H HP; have hvx := HP.h.1; have HA := HP.cut; subst hvx)
    (refine Z2 ?_; apply w_nil; apply wx_next; apply wc_ret)
    exact ret_fn H hm (outs1 Tryz.results144 Wh) (by rw [he, if_pos (by assumption), lexL_tms _ _ (hlen (by assumption))])
theorem clause_compareTests (a b : Ts) (c : Cx) (hl : a.l.sm) (hr : a.r.sm) : Cn Tryz.prog 147 [.agg a.cs.toArray, .agg b.cs.toArray] c (fun v _ => v = .int .i64 (cmpTs a b)) := by
  refine Cn.of Tryz.func147 Tryz.ntmps147 rfl rfl fun hm H HA => ?_
  (apply wc_seq; apply wc_region; refine Z31 fun bx c H HA => ?_; refine Z31 fun bx c H HA => ?_; refine Z2 ?_; apply w_nil; apply wx_next; apply wc_seq)
  (refine dw_start H HA ?_)
  (repeat (refine Dc ?_))
  (apply dw_cons; (focus ((intro B _ Lx c H HA; (repeat (first | (intro vx hx; have hx2 : vx = _ := hx; clear hx; subst hx2) | (intro vx hx; have HA := HA.addSF hx; clear hx) | (intro vx hx; have HA := HA.add hx; clear hx) | intro vx)); change W _ _ _ _ _ _ _); (refine s_call rfl rfl H HA (cmp_Compare _ _ _) ?_; intro vx c H HP; have hvx := HP.h.1; have HA := HP.cut; subst hvx); exact Dx)); exact inferInstance)
  (repeat (refine Dc ?_))
  (apply dw_cons; (focus ((intro B _ Lx c H HA; (repeat (first | (intro vx hx; have hx2 : vx = _ := hx; clear hx; subst hx2) | (intro vx hx; have HA := HA.addSF hx; clear hx) | (intro vx hx; have HA := HA.add hx; clear hx) | intro vx)); change W _ _ _ _ _ _ _); (refine s_call rfl rfl H HA (term_Compare a.l b.l _ hl) ?_; intro vx c H HP; have hvx := HP.h.1; have HA := HP.cut; subst hvx); exact Dx)); exact inferInstance)
  (repeat (refine Dc ?_))
  (apply dw_cons; (focus ((intro B _ Lx c H HA; (repeat (first | (intro vx hx; have hx2 : vx = _ := hx; clear hx; subst hx2) | (intro vx hx; have HA := HA.addSF hx; clear hx) | (intro vx hx; have HA := HA.add hx; clear hx) | intro vx)); change W _ _ _ _ _ _ _); (refine s_call rfl rfl H HA (term_Compare a.r b.r _ hr) ?_; intro vx c H HP; have hvx := HP.h.1; have HA := HP.cut; subst hvx); exact Dx)); exact inferInstance)
  (repeat (refine Dc ?_))
  (apply dw_cons; (focus ((intro B _ Lx c H HA; (repeat (first | (intro vx hx; have hx2 : vx = _ := hx; clear hx; subst hx2) | (intro vx hx; have HA := HA.addSF hx; clear hx) | (intro vx hx; have HA := HA.add hx; clear hx) | intro vx)); change W _ _ _ _ _ _ _); (refine s_call rfl rfl H HA (cmp_Or _ _ _ Lk) ?_; intro vx c H HP; have hvx := HP.h.1; have HA := HP.cut; subst hvx); exact Dx)); exact inferInstance)
  (repeat (refine Dc ?_))
  (refine dw_done mixed H HA rfl (by kernel_rfl) ?_; clear H HA; intro c H HA; (repeat (first | (intro vx hx; have hx2 : vx = _ := hx; clear hx; subst hx2) | (intro vx hx; have HA := HA.addSF hx; clear hx) | (intro vx hx; have HA := HA.add hx; clear hx) | intro vx)); change W _ _ _ _ _ _ _)
  (apply w_nil; apply wx_next; apply wc_ret)
  exact ret_fn H hm (outs1 Tryz.results147 Wh) (by
    simp only [cmpTs, orI]
    repeat' split
    all_goals simp_all)
theorem CompareFunc_At (xs ys : List At0) (v1 v2 : Value) (c : Cx) (h1 : Sl v1 xs c) (h2 : Sl v2 ys c) (hs : ∀ x ∈ xs, x.sm) : Cn Tryz.prog 145 [v1, v2, .func (.func 144) #[] #[]] c (fun v _ => v = .int .i64 (lexL cmpAt xs ys)) := by
  refine Cn.of Tryz.func145 Tryz.ntmps145 rfl rfl fun hm H HA => ?_
  have hl1 := h1.lim
  have hl2 := h2.lim
  have HA := (HA.add h1).add h2
  (apply wc_seq; apply wc_region; refine Z2 ?_; apply w_nil; apply wx_next; apply wc_seq; apply wc_seq; apply wc_region; refine Z0 ?_; refine Z45 ?_; refine Z0 ?_; apply w_nil; apply wx_next; apply wc_block)
  refine wc_loopN xs.length (fun k => [(0, v1), (1, v2), (2, .func (.func 144) #[] #[]), (11, v1), (12, .int .i64 xs.length), (13, .int .i64 k)]) (fun k => k ≤ ys.length ∧ lexL cmpAt xs ys = lexL cmpAt (xs.drop k) (ys.drop k)) 0 H HA Ks (Nat.zero_le _) ⟨Nat.zero_le _, rfl⟩ ?_
  intro k g c hk hp H HA
  obtain ⟨hk2, hp⟩ := hp
  (focus (apply wc_seq; apply wc_region; refine Z93 (fun hq => ?_) fun hq => ?_; apply w_nil; apply wx_next; apply wc_seq; refine Z18 ?_; apply wc_skip; apply wx_next; apply wc_seq; apply wc_block; apply wc_seq; apply wc_region; refine Z0 ?_; rotate_left; apply w_nil; apply wx_next; apply wc_seq; refine Z19 ?_; apply wc_exit; apply wx_exit_then; apply wx_exit_then; apply wx_exit_same; apply wx_next; apply wc_seq; apply wc_seq; apply wc_region; refine Z0 ?_; refine Z45 ?_; refine Z0 ?_; refine Z45 ?_; refine Z93 (fun hq => ?_) fun hq => ?_; apply w_nil; apply wx_next; refine Z18 ?_; apply wc_seq; apply wc_region; refine Z2 ?_; apply w_nil; apply wx_next; apply wc_ret; apply wx_ret_then; rotate_left; apply w_nil; apply wx_next; refine Z19 ?_; apply wc_skip; apply wx_next; apply wc_seq; apply wc_region; refine Z2 ?_; apply w_nil; apply wx_next; apply wc_ret; rotate_left))
  · obtain ⟨x, hx⟩ := getq (xs := xs) (k := k) (by omega)
    (refine Z34 HA fun vx HA => ?_; refine Z39 HA fun vx HA => ?_; refine Z61 fun bx c H HA => ?_; refine Z2 ?_)
    (refine s_storeG (α := At0) rfl rfl Lk rfl rfl H HA ?_; intro c H HA)
    (focus (apply w_nil; apply wx_next; apply wc_seq; apply wc_seq; apply wc_region; refine Z0 ?_; refine Z0 ?_; refine Z45 ?_; refine Z97 (fun hq => ?_) fun hq => ?_; apply w_nil; apply wx_next; refine Z18 ?_; apply wc_seq; apply wc_region; refine Z2 ?_; apply w_nil; apply wx_next; apply wc_ret; apply wx_ret_then; apply wx_ret_block; apply wx_ret_then; apply wx_ret_then; apply wx_ret_block; apply wx_ret_then; rotate_left; apply w_nil; apply wx_next; refine Z19 ?_; apply wc_skip; apply wx_next; apply wc_seq; apply wc_region; refine Z0 ?_; refine Z0 ?_; rotate_left))
    · have e0 : ys.drop k = [] := List.drop_eq_nil_of_le (by omega)
      exact ret_fn H hm (outs1 Tryz.results145 Wh) (by rw [hp, drop_get hx, e0]; rfl)
    · obtain ⟨y, hy⟩ := getq (xs := ys) (k := k) (by omega)
      (refine Z34 HA fun vx HA => ?_; refine Z39 HA fun vx HA => ?_; refine Z61 fun bx c H HA => ?_)
      (refine s_storeG (α := At0) rfl rfl Lk rfl rfl H HA ?_; intro c H HA)
      (apply w_nil; apply wx_next; apply wc_seq; apply wc_region; refine Z0 ?_; refine Z39 HA fun vx HA => ?_; refine Z39 HA fun vx HA => ?_)
      (refine s_callV (caps := []) rfl rfl rfl H HA (term_CompareAtoms x y _ _ _ Lk Lk (hs x (List.mem_of_getElem? hx))) ?_; intro vx c H HP; have hvx := HP.h.1; have HA := HP.cut; subst hvx)
      have hl := lexL_get (f := cmpAt) hx hy
      (focus (refine Z2 ?_; apply w_nil; apply wx_next; apply wc_seq; apply wc_region; refine Z0 ?_; refine Z94 (fun hq => ?_) fun hq => ?_; apply w_nil; apply wx_next; refine Z18 ?_; apply wc_seq; apply wc_region; refine Z0 ?_; refine Z2 ?_; apply w_nil; apply wx_next; apply wc_ret; apply wx_ret_block; apply wx_ret_then; apply wx_ret_then; apply wx_ret_block; apply wx_ret_then; rotate_left; apply w_nil; apply wx_next; refine Z19 ?_; apply wc_skip; apply wx_norm_block; apply wx_next; apply wc_region; refine Z46 ?_; refine Z0 ?_; apply w_nil; rotate_left))
      · exact ret_fn H hm (outs1 Tryz.results145 Wh) (by rw [hp, hl, if_neg (by assumption)])
      · skip
        exact wx_loopN (k + 1) H Cu Ks (by omega) ⟨by omega, by rw [hp, hl, if_pos (by assumption)]⟩
  · have e0 : xs.drop k = [] := List.drop_eq_nil_of_le (by omega)
    obtain ⟨y, hy⟩ := getq (xs := ys) (k := k) (by omega)
    exact ret_fn H hm (outs1 Tryz.results145 Wh) (by rw [hp, e0, drop_get hy]; rfl)
  · have e0 : xs.drop k = [] := List.drop_eq_nil_of_le (by omega)
    have e1 : ys.drop k = [] := List.drop_eq_nil_of_le (by omega)
    exact ret_fn H hm (outs1 Tryz.results145 Wh) (by rw [hp, e0, e1]; rfl)
theorem CompareFunc_Ts (xs ys : List Ts) (v1 v2 : Value) (c : Cx) (h1 : Sl v1 xs c) (h2 : Sl v2 ys c) (hs : ∀ x ∈ xs, x.l.sm ∧ x.r.sm) : Cn Tryz.prog 146 [v1, v2, .func (.func 147) #[] #[]] c (fun v _ => v = .int .i64 (lexL cmpTs xs ys)) := by
  refine Cn.of Tryz.func146 Tryz.ntmps146 rfl rfl fun hm H HA => ?_
  have hl1 := h1.lim
  have hl2 := h2.lim
  have HA := (HA.add h1).add h2
  (apply wc_seq; apply wc_region; refine Z2 ?_; apply w_nil; apply wx_next; apply wc_seq; apply wc_seq; apply wc_region; refine Z0 ?_; refine Z45 ?_; refine Z0 ?_; apply w_nil; apply wx_next; apply wc_block)
  refine wc_loopN xs.length (fun k => [(0, v1), (1, v2), (2, .func (.func 147) #[] #[]), (11, v1), (12, .int .i64 xs.length), (13, .int .i64 k)]) (fun k => k ≤ ys.length ∧ lexL cmpTs xs ys = lexL cmpTs (xs.drop k) (ys.drop k)) 0 H HA Ks (Nat.zero_le _) ⟨Nat.zero_le _, rfl⟩ ?_
  intro k g c hk hp H HA
  obtain ⟨hk2, hp⟩ := hp
  (focus (apply wc_seq; apply wc_region; refine Z93 (fun hq => ?_) fun hq => ?_; apply w_nil; apply wx_next; apply wc_seq; refine Z18 ?_; apply wc_skip; apply wx_next; apply wc_seq; apply wc_block; apply wc_seq; apply wc_region; refine Z0 ?_; rotate_left; apply w_nil; apply wx_next; apply wc_seq; refine Z19 ?_; apply wc_exit; apply wx_exit_then; apply wx_exit_then; apply wx_exit_same; apply wx_next; apply wc_seq; apply wc_seq; apply wc_region; refine Z0 ?_; refine Z45 ?_; refine Z0 ?_; refine Z45 ?_; refine Z93 (fun hq => ?_) fun hq => ?_; apply w_nil; apply wx_next; refine Z18 ?_; apply wc_seq; apply wc_region; refine Z2 ?_; apply w_nil; apply wx_next; apply wc_ret; apply wx_ret_then; rotate_left; apply w_nil; apply wx_next; refine Z19 ?_; apply wc_skip; apply wx_next; apply wc_seq; apply wc_region; refine Z2 ?_; apply w_nil; apply wx_next; apply wc_ret; rotate_left))
  · obtain ⟨x, hx⟩ := getq (xs := xs) (k := k) (by omega)
    (focus (refine Z34 HA fun vx HA => ?_; refine Z38 ?_; refine Z61 fun bx c H HA => ?_; refine Z2 ?_; refine Z74 fun c H HA => ?_; apply w_nil; apply wx_next; apply wc_seq; apply wc_seq; apply wc_region; refine Z0 ?_; refine Z0 ?_; refine Z45 ?_; refine Z97 (fun hq => ?_) fun hq => ?_; apply w_nil; apply wx_next; refine Z18 ?_; apply wc_seq; apply wc_region; refine Z2 ?_; apply w_nil; apply wx_next; apply wc_ret; apply wx_ret_then; apply wx_ret_block; apply wx_ret_then; apply wx_ret_then; apply wx_ret_block; apply wx_ret_then; rotate_left; apply w_nil; apply wx_next; refine Z19 ?_; apply wc_skip; apply wx_next; apply wc_seq; apply wc_region; refine Z0 ?_; refine Z0 ?_; rotate_left))
    · have e0 : ys.drop k = [] := List.drop_eq_nil_of_le (by omega)
      exact ret_fn H hm (outs1 Tryz.results146 Wh) (by rw [hp, drop_get hx, e0]; rfl)
    · obtain ⟨y, hy⟩ := getq (xs := ys) (k := k) (by omega)
      (refine Z34 HA fun vx HA => ?_; refine Z38 ?_; refine Z61 fun bx c H HA => ?_; refine Z74 fun c H HA => ?_; apply w_nil; apply wx_next; apply wc_seq; apply wc_region; refine Z0 ?_; refine Z42 ?_; refine Z42 ?_)
      (refine s_callV (caps := []) rfl rfl rfl H HA (clause_compareTests x y _ (hs x (List.mem_of_getElem? hx)).1 (hs x (List.mem_of_getElem? hx)).2) ?_; intro vx c H HP; have hvx := HP.h.1; have HA := HP.cut; subst hvx)
      have hl := lexL_get (f := cmpTs) hx hy
      (focus (refine Z2 ?_; apply w_nil; apply wx_next; apply wc_seq; apply wc_region; refine Z0 ?_; refine Z94 (fun hq => ?_) fun hq => ?_; apply w_nil; apply wx_next; refine Z18 ?_; apply wc_seq; apply wc_region; refine Z0 ?_; refine Z2 ?_; apply w_nil; apply wx_next; apply wc_ret; apply wx_ret_block; apply wx_ret_then; apply wx_ret_then; apply wx_ret_block; apply wx_ret_then; rotate_left; apply w_nil; apply wx_next; refine Z19 ?_; apply wc_skip; apply wx_norm_block; apply wx_next; apply wc_region; refine Z46 ?_; refine Z0 ?_; apply w_nil; rotate_left))
      · exact ret_fn H hm (outs1 Tryz.results146 Wh) (by rw [hp, hl, if_neg (by assumption)])
      · have H := H.drop.drop
        exact wx_loopN (k + 1) H Cu Ks (by omega) ⟨by omega, by rw [hp, hl, if_pos (by assumption)]⟩
  · have e0 : xs.drop k = [] := List.drop_eq_nil_of_le (by omega)
    obtain ⟨y, hy⟩ := getq (xs := ys) (k := k) (by omega)
    exact ret_fn H hm (outs1 Tryz.results146 Wh) (by rw [hp, e0, drop_get hy]; rfl)
  · have e0 : xs.drop k = [] := List.drop_eq_nil_of_le (by omega)
    have e1 : ys.drop k = [] := List.drop_eq_nil_of_le (by omega)
    exact ret_fn H hm (outs1 Tryz.results146 Wh) (by rw [hp, e0, e1]; rfl)
end Go.Proofs.YthkdggoohpgnnaaGreatDoor
/- Contracts: clauses compared, names, atoms and clauses checked, of the program's own. -/
namespace Go.Proofs.YthkdggoohpgnnaaGreatDoor
open Go Go.Wk
theorem clause_Compare (a b : Cl) (u1 u2 : Value) (c : Cx) (h1 : Ag a u1 c) (h2 : Ag b u2 c) (hs : a.sm) : Cn Tryz.prog 115 [u1, u2] c (fun v _ => v = .int .i64 (cmpCl a b)) := by
  refine Cn.of Tryz.func115 Tryz.ntmps115 rfl rfl fun hm H HA => ?_
  have HA := (HA.add h1).add h2
  (apply wc_seq; apply wc_region)
  (refine s_boxG rfl rfl Lk H HA ?_; intro p c H HA)
  (refine s_boxG rfl rfl Lk H HA ?_; intro q c H HA)
  (refine Z2 ?_; apply w_nil; apply wx_next; apply wc_seq; apply wc_seq)
  (refine dw_start H HA ?_)
  (repeat (refine Dc ?_))
  (apply dw_cons; (focus ((intro B _ Lx c H HA; (repeat (first | (intro vx hx; have hx2 : vx = _ := hx; clear hx; subst hx2) | (intro vx hx; have HA := HA.addSF hx; clear hx) | (intro vx hx; have HA := HA.add hx; clear hx) | intro vx)); change W _ _ _ _ _ _ _); (refine s_call rfl rfl H HA (term_CompareAtoms a.head b.head _ _ _ Lk Lk hs.1) ?_; intro vx c H HP; have hvx := HP.h.1; have HA := HP.cut; subst hvx); exact Dx)); exact inferInstance)
  (repeat (refine Dc ?_))
  (apply dw_cons; (focus ((intro B _ Lx c H HA; (repeat (first | (intro vx hx; have hx2 : vx = _ := hx; clear hx; subst hx2) | (intro vx hx; have HA := HA.addSF hx; clear hx) | (intro vx hx; have HA := HA.add hx; clear hx) | intro vx)); change W _ _ _ _ _ _ _); (refine s_call rfl rfl H HA (cmp_Compare _ _ _) ?_; intro vx c H HP; have hvx := HP.h.1; have HA := HP.cut; subst hvx); exact Dx)); exact inferInstance)
  (repeat (refine Dc ?_))
  (apply dw_cons; (focus ((intro B _ Lx c H HA; (repeat (first | (intro vx hx; have hx2 : vx = _ := hx; clear hx; subst hx2) | (intro vx hx; have HA := HA.addSF hx; clear hx) | (intro vx hx; have HA := HA.add hx; clear hx) | intro vx)); change W _ _ _ _ _ _ _); (refine s_call rfl rfl H HA (cmp_Or _ _ _ Lk) ?_; intro vx c H HP; have hvx := HP.h.1; have HA := HP.cut; subst hvx); exact Dx)); exact inferInstance)
  (repeat (refine Dc ?_))
  (refine dw_done mixed H HA rfl (by kernel_rfl) ?_; clear H HA; intro c H HA; (repeat (first | (intro vx hx; have hx2 : vx = _ := hx; clear hx; subst hx2) | (intro vx hx; have HA := HA.addSF hx; clear hx) | (intro vx hx; have HA := HA.add hx; clear hx) | intro vx)); change W _ _ _ _ _ _ _)
  have he : cmpCl a b = if orI [cmpAt a.head b.head, cmpI a.body.length b.body.length] = 0 then (if lexL cmpAt a.body b.body = 0 then (if cmpI a.tests.length b.tests.length = 0 then lexL cmpTs a.tests b.tests else cmpI a.tests.length b.tests.length) else lexL cmpAt a.body b.body) else orI [cmpAt a.head b.head, cmpI a.body.length b.body.length] := by
    simp only [cmpCl, orI]
    repeat' split
    all_goals simp_all
  generalize orI [cmpAt a.head b.head, cmpI a.body.length b.body.length] = z at he ⊢
  (focus (apply w_nil; apply wx_next; apply wc_seq; apply wc_region; refine Z0 ?_; refine Z94 (fun hq => ?_) fun hq => ?_; apply w_nil; apply wx_next; refine Z18 ?_; apply wc_seq; apply wc_region; refine Z0 ?_; refine Z2 ?_; apply w_nil; apply wx_next; apply wc_ret; apply wx_ret_then; rotate_left; apply w_nil; apply wx_next; refine Z19 ?_; apply wc_skip; apply wx_next; apply wc_seq; apply wc_seq; apply wc_region; refine Z35 HA fun vx HA => ?_; refine Z37 HA fun vx HA => ?_; refine Z35 HA fun vx HA => ?_; refine Z37 HA fun vx HA => ?_; rotate_left))
  · exact ret_fn H hm (outs1 Tryz.results115 Wh) (by rw [he, if_neg (by assumption)])
  · rw [if_pos (by assumption)] at he
    (refine s_call rfl rfl H HA (CompareFunc_At a.body b.body _ _ _ Lk Lk hs.2.1) ?_; intro vx c H HP; have hvx := HP.h.1; have HA := HP.cut; subst hvx)
    by_cases h3 : lexL cmpAt a.body b.body = 0
    · rw [if_pos h3] at he
      (refine Z2 ?_; apply w_nil; apply wx_next; apply wc_seq; apply wc_region; refine Z0 ?_; refine Z82 ?_; apply w_nil; apply wx_next; refine Z19 ?_; apply wc_skip; apply wx_next; apply wc_seq; apply wc_seq; apply wc_region; refine Z35 HA fun vx HA => ?_; refine Z37 HA fun vx HA => ?_; refine Z45 ?_; refine Z35 HA fun vx HA => ?_; refine Z37 HA fun vx HA => ?_; refine Z45 ?_)
      (refine s_call rfl rfl H HA (cmp_Compare _ _ _) ?_; intro vx c H HP; have hvx := HP.h.1; have HA := HP.cut; subst hvx)
      by_cases h4 : cmpI a.tests.length b.tests.length = 0
      · rw [if_pos h4] at he
        (refine Z2 ?_; apply w_nil; apply wx_next; apply wc_seq; apply wc_region; refine Z0 ?_; refine Z82 ?_; apply w_nil; apply wx_next; refine Z19 ?_; apply wc_skip; apply wx_next; apply wc_seq; apply wc_region; refine Z35 HA fun vx HA => ?_; refine Z37 HA fun vx HA => ?_; refine Z35 HA fun vx HA => ?_; refine Z37 HA fun vx HA => ?_)
        (refine s_call rfl rfl H HA (CompareFunc_Ts a.tests b.tests _ _ _ Lk Lk hs.2.2) ?_; intro vx c H HP; have hvx := HP.h.1; have HA := HP.cut; subst hvx)
        (refine Z2 ?_; apply w_nil; apply wx_next; apply wc_ret)
        exact ret_fn H hm (outs1 Tryz.results115 Wh) (by rw [he])
      · rw [if_neg h4] at he
        (refine Z2 ?_; apply w_nil; apply wx_next; apply wc_seq; apply wc_region; refine Z0 ?_; refine Z82 ?_; apply w_nil; apply wx_next; refine Z18 ?_; apply wc_seq; apply wc_region; refine Z0 ?_; refine Z2 ?_; apply w_nil; apply wx_next; apply wc_ret; apply wx_ret_then)
        exact ret_fn H hm (outs1 Tryz.results115 Wh) (by rw [he])
    · rw [if_neg h3] at he
      (refine Z2 ?_; apply w_nil; apply wx_next; apply wc_seq; apply wc_region; refine Z0 ?_; refine Z82 ?_; apply w_nil; apply wx_next; refine Z18 ?_; apply wc_seq; apply wc_region; refine Z0 ?_; refine Z2 ?_; apply w_nil; apply wx_next; apply wc_ret; apply wx_ret_then)
      exact ret_fn H hm (outs1 Tryz.results115 Wh) (by rw [he])
theorem clause_Set1 (a b : Cl) (u1 u2 : Value) (c : Cx) (h1 : Ag a u1 c) (h2 : Ag b u2 c) (hs : a.sm) : Cn Tryz.prog 117 [u1, u2] c (fun v _ => v = .bool (decide (cmpCl a b = 0))) := by
  refine Cn.of Tryz.func117 Tryz.ntmps117 rfl rfl fun hm H HA => ?_
  have HA := (HA.add h1).add h2
  (apply wc_seq; apply wc_region)
  (refine s_boxG rfl rfl Lk H HA ?_; intro p c H HA)
  (refine s_boxG rfl rfl Lk H HA ?_; intro q c H HA)
  (refine Z2 ?_; apply w_nil; apply wx_next; apply wc_seq; apply wc_region; refine Z39 HA fun vx HA => ?_; refine Z39 HA fun vx HA => ?_)
  (refine s_call rfl rfl H HA (clause_Compare a b _ _ _ Lk Lk hs) ?_; intro vx c H HP; have hvx := HP.h.1; have HA := HP.cut; subst hvx)
  (focus (refine Z92 (fun hq => ?_) fun hq => ?_; refine Z2 ?_; apply w_nil; apply wx_next; apply wc_ret; rotate_left; refine Z2 ?_; apply w_nil; apply wx_next; apply wc_ret; rotate_left))
  all_goals exact ret_fn H hm (outs1 Tryz.results117 Wh) (by simp [*])
theorem clause_when (b : Bool) (e : Int) (c : Cx) : Cn Tryz.prog 224 [.bool b, .int .i64 e] c (fun v _ => v = .int .i64 (if b then e else 0)) := by
  refine Cn.of Tryz.func224 Tryz.ntmps224 rfl rfl fun hm H HA => ?_
  cases b
  · (apply wc_seq; apply wc_region; refine Z2 ?_; apply w_nil; apply wx_next; apply wc_seq; apply wc_seq; apply wc_region; refine Z0 ?_; apply w_nil; apply wx_next; refine Z19 ?_; apply wc_skip; apply wx_next; apply wc_seq; apply wc_region; refine Z2 ?_; apply w_nil; apply wx_next; apply wc_ret)
    exact ret_fn H hm (outs1 Tryz.results224 Wh) (by simp)
  · (apply wc_seq; apply wc_region; refine Z2 ?_; apply w_nil; apply wx_next; apply wc_seq; apply wc_seq; apply wc_region; refine Z0 ?_; apply w_nil; apply wx_next; refine Z18 ?_; apply wc_seq; apply wc_region; refine Z0 ?_; refine Z2 ?_; apply w_nil; apply wx_next; apply wc_ret; apply wx_ret_then)
    exact ret_fn H hm (outs1 Tryz.results224 Wh) (by simp)
theorem clause_tooLong (x : Cl) (u : Value) (c : Cx) (h : Ag x u c) : Cn Tryz.prog 218 [u] c (fun v _ => v = .int .i64 (if 8 < x.body.length ∨ 8 < x.tests.length then 31 else 0)) := by
  refine Cn.of Tryz.func218 Tryz.ntmps218 rfl rfl fun hm H HA => ?_
  have HA := HA.add h
  have hlb : x.body.length < 1099511627776 := by obtain ⟨cs, rfl, v, v1, v2, rfl, h⟩ := h; exact h.2.1.lim
  have hlt : x.tests.length < 1099511627776 := by obtain ⟨cs, rfl, v, v1, v2, rfl, h⟩ := h; exact h.2.2.lim
  (apply wc_seq; apply wc_region)
  (refine s_boxG rfl rfl Lk H HA ?_; intro p c H HA)
  (focus (refine Z2 ?_; apply w_nil; apply wx_next; apply wc_seq; apply wc_region; refine Z35 HA fun vx HA => ?_; refine Z37 HA fun vx HA => ?_; refine Z45 ?_; refine Z96 (fun hq => ?_) fun hq => ?_; refine Z0 ?_; refine Z5 ?_; refine Z5 ?_; refine Z5 ?_; refine Z5 ?_; refine Z8 ?_; rotate_left; refine Z0 ?_; refine Z4 ?_; refine Z35 HA fun vx HA => ?_; refine Z4 ?_; refine Z37 HA fun vx HA => ?_; refine Z4 ?_; refine Z45 ?_; refine Z4 ?_; refine Z96 (fun hq => ?_) fun hq => ?_; refine Z30 ?_; rotate_left; refine Z30 ?_; rotate_left))
  all_goals
    (refine s_call rfl rfl H HA (clause_when _ _ _) ?_; intro vx c H HP; have hvx := HP.h.1; have HA := HP.cut; subst hvx)
    (refine Z2 ?_; apply w_nil; apply wx_next; apply wc_ret)
    exact ret_fn H hm (outs1 Tryz.results218 Wh) (by simp; intros; omega)
theorem clause_openHead (x : Cl) (u : Value) (c : Cx) (h : Ag x u c) : Cn Tryz.prog 221 [u] c (fun v _ => v = .int .i64 (if x.head.by_.isVar then 33 else 0)) := by
  refine Cn.of Tryz.func221 Tryz.ntmps221 rfl rfl fun hm H HA => ?_
  have HA := HA.add h
  (apply wc_seq; apply wc_region)
  (refine s_boxG rfl rfl Lk H HA ?_; intro p c H HA)
  (refine Z2 ?_; apply w_nil; apply wx_next; apply wc_seq; apply wc_region; refine Z35 HA fun vx HA => ?_; refine Z35 HA fun vx HA => ?_; refine Z38 ?_)
  (refine s_call rfl rfl H HA (term_Variable x.head.by_ _) ?_; intro vx c H HP; have hvx := HP.h.1; have HA := HP.cut; subst hvx)
  (skip)
  (refine s_call rfl rfl H HA (clause_when _ _ _) ?_; intro vx c H HP; have hvx := HP.h.1; have HA := HP.cut; subst hvx)
  (refine Z2 ?_; apply w_nil; apply wx_next; apply wc_ret)
  exact ret_fn H hm (outs1 Tryz.results221 Wh) rfl
theorem clause_badTest (x : Cl) (u : Value) (c : Cx) (h : Ag x u c) : Cn Tryz.prog 220 [u] c (fun v _ => v = .int .i64 (orI (x.tests.map Ts.check))) := by
  refine Cn.of Tryz.func220 Tryz.ntmps220 rfl rfl fun hm H HA => ?_
  have hlt : x.tests.length < 1099511627776 := by obtain ⟨cs, rfl, v, v1, v2, rfl, h⟩ := h; exact h.2.2.lim
  have HA := HA.add h
  (apply wc_seq; apply wc_region)
  (refine s_boxG rfl rfl Lk H HA ?_; intro p c H HA)
  (refine Z2 ?_; apply w_nil; apply wx_next; apply wc_seq; apply wc_seq; apply wc_region; refine Z35 HA fun vx HA => ?_; refine Z37 HA fun vx HA => ?_; refine Z45 ?_; refine Z0 ?_; apply w_nil; apply wx_next; apply wc_block)
  (obtain ⟨vl, rfl⟩ : ∃ x, x = vx := ⟨_, rfl⟩)
  refine wc_loopN x.tests.length (fun k => [(7, vl), (8, .int .i64 x.tests.length), (9, .int .i64 k)]) (fun k => orI (x.tests.map Ts.check) = orI ((x.tests.drop k).map Ts.check)) 0 H HA Ks (Nat.zero_le _) rfl ?_
  intro k g c hk hp H HA
  (focus (apply wc_seq; apply wc_region; refine Z93 (fun hq => ?_) fun hq => ?_; apply w_nil; apply wx_next; apply wc_seq; refine Z18 ?_; apply wc_skip; apply wx_next; apply wc_seq; apply wc_block; apply wc_seq; apply wc_region; rotate_left; apply w_nil; apply wx_next; apply wc_seq; refine Z19 ?_; apply wc_exit; apply wx_exit_then; apply wx_exit_then; apply wx_exit_same; apply wx_next; apply wc_seq; apply wc_region; refine Z2 ?_; apply w_nil; apply wx_next; apply wc_ret; rotate_left))
  · obtain ⟨t, ht⟩ := getq (xs := x.tests) (k := k) (by omega)
    (refine Z34 HA fun vx HA => ?_; refine Z38 ?_; refine Z61 fun bx c H HA => ?_; refine Z74 fun c H HA => ?_; apply w_nil; apply wx_next; apply wc_seq; apply wc_region; refine Z42 ?_)
    (refine s_call rfl rfl H HA (term_CheckTest t _) ?_; intro vx c H HP; have hvx := HP.h.1; have HA := HP.cut; subst hvx)
    by_cases he : t.check = 0
    · (refine Z2 ?_; apply w_nil; apply wx_next; apply wc_seq; apply wc_region; refine Z0 ?_; refine Z82 ?_; apply w_nil; apply wx_next; refine Z19 ?_; apply wc_skip; apply wx_norm_block; apply wx_next; apply wc_region; refine Z46 ?_; refine Z0 ?_; apply w_nil)
      have H := H.drop
      exact wx_loopN (k + 1) H Cu Ks (by omega) (by rw [hp, orI_get ht, if_pos he])
    · (refine Z2 ?_; apply w_nil; apply wx_next; apply wc_seq; apply wc_region; refine Z0 ?_; refine Z82 ?_; apply w_nil; apply wx_next; refine Z18 ?_; apply wc_seq; apply wc_region; refine Z0 ?_; refine Z2 ?_; apply w_nil; apply wx_next; apply wc_ret; apply wx_ret_block; apply wx_ret_then; apply wx_ret_then; apply wx_ret_block; apply wx_ret_then)
      exact ret_fn H hm (outs1 Tryz.results220 Wh) (by rw [hp, orI_get ht, if_neg he])
  · exact ret_fn H hm (outs1 Tryz.results220 Wh) (by rw [hp, List.drop_eq_nil_of_le (by omega)]; rfl)
end Go.Proofs.YthkdggoohpgnnaaGreatDoor
/- Contracts: names, atoms checked, of the program's own. -/
namespace Go.Proofs.YthkdggoohpgnnaaGreatDoor
open Go Go.Wk
theorem term_name (s : ByteArray) (c : Cx) (ha : s.size < 4611686018427387904) : Cn Tryz.prog 230 [.string s] c (fun v _ => v = .bool (nameB s)) := by
  refine Cn.of Tryz.func230 Tryz.ntmps230 rfl rfl fun hm H HA => ?_
  by_cases he : s = ES
  · subst he
    (focus (apply wc_seq; apply wc_region; refine Z2 ?_; apply w_nil; apply wx_next; apply wc_seq; apply wc_seq; apply wc_region; refine Z0 ?_; refine Z98 (fun hq => ?_) fun hq => ?_; refine Z0 ?_; refine Z5 ?_; refine Z5 ?_; refine Z5 ?_; refine Z8 ?_; refine Z0 ?_; refine Z5 ?_; refine Z5 ?_; refine Z8 ?_; refine Z0 ?_; refine Z5 ?_; refine Z5 ?_; refine Z5 ?_; refine Z8 ?_; refine Z0 ?_; refine Z5 ?_; refine Z5 ?_; refine Z5 ?_; refine Z8 ?_; apply w_nil; apply wx_next; refine Z18 ?_; apply wc_seq; apply wc_region; refine Z2 ?_; apply w_nil; apply wx_next; apply wc_ret; apply wx_ret_then; rotate_left; refine Z0 ?_; refine Z4 ?_; refine Z0 ?_; refine Z4 ?_; refine Z43 ?_; refine Z4 ?_; refine Z96 (fun hq => ?_) fun hq => ?_; refine Z30 ?_; refine Z0 ?_; refine Z5 ?_; refine Z5 ?_; refine Z8 ?_; refine Z0 ?_; refine Z5 ?_; refine Z5 ?_; refine Z5 ?_; refine Z8 ?_; refine Z0 ?_; refine Z5 ?_; refine Z5 ?_; refine Z5 ?_; refine Z8 ?_; apply w_nil; apply wx_next; refine Z18 ?_; apply wc_seq; apply wc_region; refine Z2 ?_; apply w_nil; apply wx_next; apply wc_ret; apply wx_ret_then; rotate_left; refine Z30 ?_; refine Z0 ?_; refine Z4 ?_; refine Z0 ?_; refine Z4 ?_; refine Z98 (fun hq => ?_) fun hq => ?_; refine Z30 ?_; refine Z0 ?_; refine Z5 ?_; refine Z5 ?_; refine Z5 ?_; refine Z8 ?_; refine Z0 ?_; refine Z5 ?_; refine Z5 ?_; refine Z5 ?_; refine Z8 ?_; apply w_nil; apply wx_next; refine Z18 ?_; apply wc_seq; apply wc_region; refine Z2 ?_; apply w_nil; apply wx_next; apply wc_ret; apply wx_ret_then; rotate_left; refine Z30 ?_; refine Z0 ?_; refine Z4 ?_; refine Z0 ?_; refine Z4 ?_; rotate_left))
    all_goals first | (exact ret_fn H hm (outs1 Tryz.results230 Wh) (by simp [nameB])) | (exfalso; simp_all; done)
  have hpos : ((0 : Nat) : Int) < (s.size : Int) := by
    have : s.size ≠ 0 := fun h => he (by
      obtain ⟨⟨l⟩⟩ := s
      simpa [ByteArray.size] using h)
    omega
  obtain ⟨u, hu, hul⟩ := byte_get hpos
  have hcons : ∃ l, s.data.toList = u :: l := by
    cases hl : s.data.toList with
    | nil => rw [hl] at hul; simp at hul
    | cons x l => rw [hl] at hul; simp at hul; exact ⟨l, by rw [hul]⟩
  obtain ⟨l, hl⟩ := hcons
  have hsz : s.data.toList.length = s.size := by simp
  (focus (apply wc_seq; apply wc_region; refine Z2 ?_; apply w_nil; apply wx_next; apply wc_seq; apply wc_seq; apply wc_region; refine Z0 ?_; refine Z86 ?_; refine Z0 ?_; refine Z4 ?_; refine Z0 ?_; refine Z4 ?_; refine Z43 ?_; refine Z4 ?_; refine Z96 (fun hq => ?_) fun hq => ?_; refine Z30 ?_; refine Z0 ?_; refine Z5 ?_; refine Z5 ?_; refine Z8 ?_; refine Z0 ?_; refine Z5 ?_; refine Z5 ?_; refine Z5 ?_; refine Z8 ?_; refine Z0 ?_; refine Z5 ?_; refine Z5 ?_; refine Z5 ?_; refine Z8 ?_; apply w_nil; apply wx_next; refine Z18 ?_; apply wc_seq; apply wc_region; refine Z2 ?_; apply w_nil; apply wx_next; apply wc_ret; apply wx_ret_then; rotate_left; refine Z30 ?_; refine Z0 ?_; refine Z4 ?_; refine Z0 ?_; refine Z4 ?_; refine Z98 (fun hq => ?_) fun hq => ?_; refine Z30 ?_; refine Z0 ?_; refine Z5 ?_; refine Z5 ?_; refine Z5 ?_; refine Z8 ?_; refine Z0 ?_; refine Z5 ?_; refine Z5 ?_; refine Z5 ?_; refine Z8 ?_; apply w_nil; apply wx_next; refine Z18 ?_; apply wc_seq; apply wc_region; refine Z2 ?_; apply w_nil; apply wx_next; apply wc_ret; apply wx_ret_then; rotate_left; refine Z30 ?_; refine Z0 ?_; refine Z4 ?_; refine Z0 ?_; refine Z4 ?_; refine Z52 ?_; refine Z4 ?_; refine Z93 (fun hq => ?_) fun hq => ?_; refine Z30 ?_; refine Z0 ?_; refine Z5 ?_; refine Z5 ?_; refine Z5 ?_; refine Z8 ?_; apply w_nil; apply wx_next; refine Z18 ?_; apply wc_seq; apply wc_region; refine Z2 ?_; apply w_nil; apply wx_next; apply wc_ret; apply wx_ret_then; rotate_left; refine Z30 ?_; refine Z0 ?_; refine Z4 ?_; refine Z0 ?_; refine Z4 ?_; refine Z52 ?_; refine Z4 ?_; refine Z96 (fun hq => ?_) fun hq => ?_; refine Z30 ?_; apply w_nil; apply wx_next; refine Z18 ?_; apply wc_seq; apply wc_region; refine Z2 ?_; apply w_nil; apply wx_next; apply wc_ret; apply wx_ret_then; rotate_left; refine Z30 ?_; apply w_nil; apply wx_next; refine Z19 ?_; apply wc_skip; apply wx_next; apply wc_seq; apply wc_seq; apply wc_region; refine Z0 ?_; refine Z43 ?_; refine Z0 ?_; apply w_nil; apply wx_next; apply wc_block; rotate_left))
  iterate 4 first | (exact ret_fn H hm (outs1 Tryz.results230 Wh) (by first | (simp_all [nameB]; done) | (simp [nameB, hl]; intros; omega)))
  have hname : nameB s = s.data.toList.all (fun u => letterB u.toNat) := by
    have h1 : decide (s.size ≤ 32) = true := by simp; omega
    have h2 : decide (97 ≤ u.toNat) = true := by simp; omega
    have h3 : decide (u.toNat ≤ 122) = true := by simp; omega
    have h4 : decide (s = says) = false := by simp; assumption
    simp only [nameB, hl, h1, h2, h3, h4, decide_eq_false he]
    simp
  refine wc_loopN s.size (fun k => [(0, .string s), (27, .int .i64 s.size), (28, .int .i64 k)]) (fun k => nameB s = (s.data.toList.drop k).all (fun u => letterB u.toNat)) 0 H HA Ks (Nat.zero_le _) (by simpa using hname) ?_
  intro k g c hk hp H HA
  (focus (apply wc_seq; apply wc_region; refine Z93 (fun hq => ?_) fun hq => ?_; apply w_nil; apply wx_next; apply wc_seq; refine Z18 ?_; apply wc_skip; apply wx_next; apply wc_seq; apply wc_block; apply wc_seq; apply wc_region; refine Z0 ?_; refine Z2 ?_; apply w_nil; apply wx_next; apply wc_seq; apply wc_region; refine Z0 ?_; refine Z0 ?_; rotate_left; apply w_nil; apply wx_next; apply wc_seq; refine Z19 ?_; apply wc_exit; apply wx_exit_then; apply wx_exit_then; apply wx_exit_same; apply wx_next; apply wc_seq; apply wc_region; refine Z2 ?_; apply w_nil; apply wx_next; apply wc_ret; rotate_left))
  · obtain ⟨u, hu, hul⟩ := byte_get (s := s) (k := k) (by omega)
    have hd := drop_get hul
    (focus (refine Z52 ?_; refine Z2 ?_; apply w_nil; apply wx_next; apply wc_seq; apply wc_region; refine Z0 ?_; refine Z97 (fun hq => ?_) fun hq => ?_; refine Z0 ?_; refine Z4 ?_; refine Z0 ?_; refine Z4 ?_; refine Z95 (fun hq => ?_) fun hq => ?_; refine Z8 ?_; refine Z0 ?_; refine Z5 ?_; refine Z5 ?_; refine Z5 ?_; refine Z6 ?_; refine Z6 ?_; refine Z5 ?_; refine Z8 ?_; refine Z0 ?_; refine Z5 ?_; refine Z5 ?_; refine Z5 ?_; refine Z6 ?_; refine Z6 ?_; refine Z5 ?_; refine Z8 ?_; refine Z0 ?_; refine Z5 ?_; refine Z5 ?_; refine Z8 ?_; refine Z33 ?_; apply w_nil; apply wx_next; refine Z19 ?_; apply wc_skip; apply wx_norm_block; apply wx_next; apply wc_region; refine Z46 ?_; refine Z0 ?_; apply w_nil; rotate_left; refine Z8 ?_; refine Z0 ?_; refine Z4 ?_; refine Z0 ?_; refine Z4 ?_; refine Z97 (fun hq => ?_) fun hq => ?_; refine Z4 ?_; refine Z0 ?_; refine Z4 ?_; refine Z0 ?_; refine Z4 ?_; refine Z95 (fun hq => ?_) fun hq => ?_; refine Z4 ?_; refine Z8 ?_; refine Z30 ?_; refine Z0 ?_; refine Z5 ?_; refine Z5 ?_; refine Z5 ?_; refine Z6 ?_; refine Z6 ?_; refine Z5 ?_; refine Z8 ?_; refine Z0 ?_; refine Z5 ?_; refine Z5 ?_; refine Z8 ?_; refine Z33 ?_; apply w_nil; apply wx_next; refine Z19 ?_; apply wc_skip; apply wx_norm_block; apply wx_next; apply wc_region; refine Z46 ?_; refine Z0 ?_; apply w_nil; rotate_left; refine Z4 ?_; refine Z8 ?_; refine Z30 ?_; refine Z0 ?_; refine Z4 ?_; refine Z0 ?_; refine Z4 ?_; refine Z97 (fun hq => ?_) fun hq => ?_; refine Z4 ?_; refine Z0 ?_; refine Z4 ?_; refine Z0 ?_; refine Z4 ?_; refine Z95 (fun hq => ?_) fun hq => ?_; refine Z4 ?_; refine Z8 ?_; refine Z30 ?_; refine Z0 ?_; refine Z5 ?_; refine Z5 ?_; refine Z8 ?_; refine Z33 ?_; apply w_nil; apply wx_next; refine Z19 ?_; apply wc_skip; apply wx_norm_block; apply wx_next; apply wc_region; refine Z46 ?_; refine Z0 ?_; apply w_nil; rotate_left; refine Z4 ?_; refine Z8 ?_; refine Z30 ?_; refine Z0 ?_; refine Z4 ?_; refine Z0 ?_; refine Z4 ?_; refine Z92 (fun hq => ?_) fun hq => ?_; refine Z30 ?_; refine Z33 ?_; apply w_nil; apply wx_next; refine Z19 ?_; apply wc_skip; apply wx_norm_block; apply wx_next; apply wc_region; refine Z46 ?_; refine Z0 ?_; apply w_nil; rotate_left; refine Z30 ?_; refine Z33 ?_; apply w_nil; apply wx_next; refine Z18 ?_; apply wc_seq; apply wc_region; refine Z2 ?_; apply w_nil; apply wx_next; apply wc_ret; apply wx_ret_block; apply wx_ret_then; apply wx_ret_then; apply wx_ret_block; apply wx_ret_then; rotate_left; refine Z4 ?_; refine Z0 ?_; refine Z5 ?_; refine Z5 ?_; refine Z4 ?_; refine Z30 ?_; refine Z30 ?_; refine Z0 ?_; refine Z4 ?_; refine Z0 ?_; refine Z4 ?_; refine Z92 (fun hq => ?_) fun hq => ?_; refine Z30 ?_; refine Z33 ?_; apply w_nil; apply wx_next; refine Z19 ?_; apply wc_skip; apply wx_norm_block; apply wx_next; apply wc_region; refine Z46 ?_; refine Z0 ?_; apply w_nil; rotate_left; refine Z30 ?_; refine Z33 ?_; apply w_nil; apply wx_next; refine Z18 ?_; apply wc_seq; apply wc_region; refine Z2 ?_; apply w_nil; apply wx_next; apply wc_ret; apply wx_ret_block; apply wx_ret_then; apply wx_ret_then; apply wx_ret_block; apply wx_ret_then; rotate_left; refine Z4 ?_; refine Z0 ?_; refine Z5 ?_; refine Z5 ?_; refine Z4 ?_; refine Z30 ?_; refine Z30 ?_; refine Z0 ?_; refine Z4 ?_; refine Z0 ?_; refine Z4 ?_; refine Z97 (fun hq => ?_) fun hq => ?_; refine Z4 ?_; refine Z0 ?_; refine Z4 ?_; refine Z0 ?_; refine Z4 ?_; refine Z95 (fun hq => ?_) fun hq => ?_; refine Z4 ?_; refine Z8 ?_; refine Z30 ?_; refine Z0 ?_; refine Z5 ?_; refine Z5 ?_; refine Z8 ?_; refine Z33 ?_; apply w_nil; apply wx_next; refine Z19 ?_; apply wc_skip; apply wx_norm_block; apply wx_next; apply wc_region; refine Z46 ?_; refine Z0 ?_; apply w_nil; rotate_left; refine Z4 ?_; refine Z8 ?_; refine Z30 ?_; refine Z0 ?_; refine Z4 ?_; refine Z0 ?_; refine Z4 ?_; refine Z92 (fun hq => ?_) fun hq => ?_; refine Z30 ?_; refine Z33 ?_; apply w_nil; apply wx_next; refine Z19 ?_; apply wc_skip; apply wx_norm_block; apply wx_next; apply wc_region; refine Z46 ?_; refine Z0 ?_; apply w_nil; rotate_left; refine Z30 ?_; refine Z33 ?_; apply w_nil; apply wx_next; refine Z18 ?_; apply wc_seq; apply wc_region; refine Z2 ?_; apply w_nil; apply wx_next; apply wc_ret; apply wx_ret_block; apply wx_ret_then; apply wx_ret_then; apply wx_ret_block; apply wx_ret_then; rotate_left; refine Z4 ?_; refine Z0 ?_; refine Z5 ?_; refine Z5 ?_; refine Z4 ?_; refine Z30 ?_; refine Z30 ?_; refine Z0 ?_; refine Z4 ?_; refine Z0 ?_; refine Z4 ?_; refine Z92 (fun hq => ?_) fun hq => ?_; refine Z30 ?_; refine Z33 ?_; apply w_nil; apply wx_next; refine Z19 ?_; apply wc_skip; apply wx_norm_block; apply wx_next; apply wc_region; refine Z46 ?_; refine Z0 ?_; apply w_nil; rotate_left; refine Z30 ?_; refine Z33 ?_; apply w_nil; apply wx_next; refine Z18 ?_; apply wc_seq; apply wc_region; refine Z2 ?_; apply w_nil; apply wx_next; apply wc_ret; apply wx_ret_block; apply wx_ret_then; apply wx_ret_then; apply wx_ret_block; apply wx_ret_then; rotate_left; refine Z0 ?_; refine Z5 ?_; refine Z5 ?_; refine Z30 ?_; refine Z0 ?_; refine Z4 ?_; refine Z0 ?_; refine Z4 ?_; refine Z97 (fun hq => ?_) fun hq => ?_; refine Z4 ?_; refine Z0 ?_; refine Z4 ?_; refine Z0 ?_; refine Z4 ?_; refine Z95 (fun hq => ?_) fun hq => ?_; refine Z4 ?_; refine Z8 ?_; refine Z30 ?_; refine Z0 ?_; refine Z5 ?_; refine Z5 ?_; refine Z5 ?_; refine Z6 ?_; refine Z6 ?_; refine Z5 ?_; refine Z8 ?_; refine Z0 ?_; refine Z5 ?_; refine Z5 ?_; refine Z8 ?_; refine Z33 ?_; apply w_nil; apply wx_next; refine Z19 ?_; apply wc_skip; apply wx_norm_block; apply wx_next; apply wc_region; refine Z46 ?_; refine Z0 ?_; apply w_nil; rotate_left; refine Z4 ?_; refine Z8 ?_; refine Z30 ?_; refine Z0 ?_; refine Z4 ?_; refine Z0 ?_; refine Z4 ?_; refine Z97 (fun hq => ?_) fun hq => ?_; refine Z4 ?_; refine Z0 ?_; refine Z4 ?_; refine Z0 ?_; refine Z4 ?_; refine Z95 (fun hq => ?_) fun hq => ?_; refine Z4 ?_; refine Z8 ?_; refine Z30 ?_; refine Z0 ?_; refine Z5 ?_; refine Z5 ?_; refine Z8 ?_; refine Z33 ?_; apply w_nil; apply wx_next; refine Z19 ?_; apply wc_skip; apply wx_norm_block; apply wx_next; apply wc_region; refine Z46 ?_; refine Z0 ?_; apply w_nil; rotate_left; refine Z4 ?_; refine Z8 ?_; refine Z30 ?_; refine Z0 ?_; refine Z4 ?_; refine Z0 ?_; refine Z4 ?_; refine Z92 (fun hq => ?_) fun hq => ?_; refine Z30 ?_; refine Z33 ?_; apply w_nil; apply wx_next; refine Z19 ?_; apply wc_skip; apply wx_norm_block; apply wx_next; apply wc_region; refine Z46 ?_; refine Z0 ?_; apply w_nil; rotate_left; refine Z30 ?_; refine Z33 ?_; apply w_nil; apply wx_next; refine Z18 ?_; apply wc_seq; apply wc_region; refine Z2 ?_; apply w_nil; apply wx_next; apply wc_ret; apply wx_ret_block; apply wx_ret_then; apply wx_ret_then; apply wx_ret_block; apply wx_ret_then; rotate_left; refine Z4 ?_; refine Z0 ?_; refine Z5 ?_; refine Z5 ?_; refine Z4 ?_; refine Z30 ?_; refine Z30 ?_; refine Z0 ?_; refine Z4 ?_; refine Z0 ?_; refine Z4 ?_; refine Z92 (fun hq => ?_) fun hq => ?_; refine Z30 ?_; refine Z33 ?_; apply w_nil; apply wx_next; refine Z19 ?_; apply wc_skip; apply wx_norm_block; apply wx_next; apply wc_region; refine Z46 ?_; refine Z0 ?_; apply w_nil; rotate_left; refine Z30 ?_; refine Z33 ?_; apply w_nil; apply wx_next; refine Z18 ?_; apply wc_seq; apply wc_region; refine Z2 ?_; apply w_nil; apply wx_next; apply wc_ret; apply wx_ret_block; apply wx_ret_then; apply wx_ret_then; apply wx_ret_block; apply wx_ret_then; rotate_left; refine Z4 ?_; refine Z0 ?_; refine Z5 ?_; refine Z5 ?_; refine Z4 ?_; refine Z30 ?_; refine Z30 ?_; refine Z0 ?_; refine Z4 ?_; refine Z0 ?_; refine Z4 ?_; refine Z97 (fun hq => ?_) fun hq => ?_; refine Z4 ?_; refine Z0 ?_; refine Z4 ?_; refine Z0 ?_; refine Z4 ?_; refine Z95 (fun hq => ?_) fun hq => ?_; refine Z4 ?_; refine Z8 ?_; refine Z30 ?_; refine Z0 ?_; refine Z5 ?_; refine Z5 ?_; refine Z8 ?_; refine Z33 ?_; apply w_nil; apply wx_next; refine Z19 ?_; apply wc_skip; apply wx_norm_block; apply wx_next; apply wc_region; refine Z46 ?_; refine Z0 ?_; apply w_nil; rotate_left; refine Z4 ?_; refine Z8 ?_; refine Z30 ?_; refine Z0 ?_; refine Z4 ?_; refine Z0 ?_; refine Z4 ?_; refine Z92 (fun hq => ?_) fun hq => ?_; refine Z30 ?_; refine Z33 ?_; apply w_nil; apply wx_next; refine Z19 ?_; apply wc_skip; apply wx_norm_block; apply wx_next; apply wc_region; refine Z46 ?_; refine Z0 ?_; apply w_nil; rotate_left; refine Z30 ?_; refine Z33 ?_; apply w_nil; apply wx_next; refine Z18 ?_; apply wc_seq; apply wc_region; refine Z2 ?_; apply w_nil; apply wx_next; apply wc_ret; apply wx_ret_block; apply wx_ret_then; apply wx_ret_then; apply wx_ret_block; apply wx_ret_then; rotate_left; refine Z4 ?_; refine Z0 ?_; refine Z5 ?_; refine Z5 ?_; refine Z4 ?_; refine Z30 ?_; refine Z30 ?_; refine Z0 ?_; refine Z4 ?_; refine Z0 ?_; refine Z4 ?_; refine Z92 (fun hq => ?_) fun hq => ?_; refine Z30 ?_; refine Z33 ?_; apply w_nil; apply wx_next; refine Z19 ?_; apply wc_skip; apply wx_norm_block; apply wx_next; apply wc_region; refine Z46 ?_; refine Z0 ?_; apply w_nil; rotate_left; refine Z30 ?_; refine Z33 ?_; apply w_nil; apply wx_next; refine Z18 ?_; apply wc_seq; apply wc_region; refine Z2 ?_; apply w_nil; apply wx_next; apply wc_ret; apply wx_ret_block; apply wx_ret_then; apply wx_ret_then; apply wx_ret_block; apply wx_ret_then; rotate_left))
    all_goals first
      | (exact ret_fn H hm (outs1 Tryz.results230 Wh) (by
          have hlb : letterB u.toNat = false := by simp only [letterB]; simp; omega
          rw [hp, hd]; simp [hlb]))
      | (exact wx_loopN (k + 1) H Cu Ks (by omega) (by
          have hlb : letterB u.toNat = true := by simp only [letterB]; simp; omega
          rw [hp, hd]; simp [hlb]))
  · exact ret_fn H hm (outs1 Tryz.results230 Wh) (by rw [hp, List.drop_eq_nil_of_le (by omega)]; rfl)
theorem term_CheckAtom1 (t : Tm) (c : Cx) : Cn Tryz.prog 233 [.agg t.cs.toArray] c (fun v _ => v = .bool (!t.isConst && !t.isVar)) := by
  refine Cn.of Tryz.func233 Tryz.ntmps233 rfl rfl fun hm H HA => ?_
  (apply wc_seq; apply wc_region; refine Z31 fun bx c H HA => ?_; refine Z2 ?_; apply w_nil; apply wx_next; apply wc_seq; apply wc_region; refine Z7 ?_)
  (refine s_call rfl rfl H HA (term_Const t _) ?_; intro vx c H HP; have hvx := HP.h.1; have HA := HP.cut; subst hvx)
  cases h1 : t.isConst
  · (refine Z33 ?_; refine Z0 ?_; refine Z4 ?_; refine Z7 ?_; refine Z4 ?_)
    (refine s_call rfl rfl H HA (term_Variable t _) ?_; intro vx c H HP; have hvx := HP.h.1; have HA := HP.cut; subst hvx)
    (refine Z4 ?_; refine Z33 ?_; refine Z8 ?_; refine Z2 ?_; apply w_nil; apply wx_next; apply wc_ret)
    exact ret_fn H hm (outs1 Tryz.results233 Wh) (by simp)
  · (refine Z33 ?_; refine Z0 ?_; refine Z5 ?_; refine Z5 ?_; refine Z5 ?_; refine Z30 ?_; refine Z2 ?_; apply w_nil; apply wx_next; apply wc_ret)
    exact ret_fn H hm (outs1 Tryz.results233 Wh) (by simp)
theorem IndexFunc_Tm (xs : List Tm) (v : Value) (c : Cx) (h : Sl v xs c) : Cn Tryz.prog 235 [v, .func (.func 233) #[] #[]] c (fun v _ => ∃ i : Int, v = .int .i64 i ∧ decide (i ≥ 0) = xs.any fun t => !t.isConst && !t.isVar) := by
  refine Cn.of Tryz.func235 Tryz.ntmps235 rfl rfl fun hm H HA => ?_
  have hlim := h.lim
  have HA := HA.add h
  (apply wc_seq; apply wc_region; refine Z2 ?_; apply w_nil; apply wx_next; apply wc_seq; apply wc_seq; apply wc_region; refine Z0 ?_; refine Z45 ?_; refine Z0 ?_; apply w_nil; apply wx_next; apply wc_block)
  refine wc_loopN xs.length (fun k => [(0, v), (1, .func (.func 233) #[] #[]), (7, .int .i64 xs.length), (8, .int .i64 k)]) (fun k => (xs.any fun t => !t.isConst && !t.isVar) = (xs.drop k).any fun t => !t.isConst && !t.isVar) 0 H HA Ks (Nat.zero_le _) rfl ?_
  intro k g c hk hp H HA
  (focus (apply wc_seq; apply wc_region; refine Z93 (fun hq => ?_) fun hq => ?_; apply w_nil; apply wx_next; apply wc_seq; refine Z18 ?_; apply wc_skip; apply wx_next; apply wc_seq; apply wc_block; apply wc_seq; apply wc_region; refine Z0 ?_; refine Z2 ?_; apply w_nil; apply wx_next; apply wc_seq; apply wc_region; refine Z0 ?_; refine Z0 ?_; refine Z0 ?_; rotate_left; apply w_nil; apply wx_next; apply wc_seq; refine Z19 ?_; apply wc_exit; apply wx_exit_then; apply wx_exit_then; apply wx_exit_same; apply wx_next; apply wc_seq; apply wc_region; refine Z2 ?_; apply w_nil; apply wx_next; apply wc_ret; rotate_left))
  · obtain ⟨t, ht⟩ := getq (xs := xs) (k := k) (by omega)
    have hd := drop_get ht
    (refine Z34 HA fun vx HA => ?_; refine Z38 ?_)
    (refine s_callV (caps := []) rfl rfl rfl H HA (term_CheckAtom1 t _) ?_; intro vx c H HP; have hvx := HP.h.1; have HA := HP.cut; subst hvx)
    cases hb : (!t.isConst && !t.isVar)
    · (apply w_nil; apply wx_next; refine Z19 ?_; apply wc_skip; apply wx_norm_block; apply wx_next; apply wc_region; refine Z46 ?_; refine Z0 ?_; apply w_nil)
      exact wx_loopN (k + 1) H Cu Ks (by omega) (by rw [hp, hd]; simp only [List.any_cons, hb, Bool.false_or])
    · (apply w_nil; apply wx_next; refine Z18 ?_; apply wc_seq; apply wc_region; refine Z0 ?_; refine Z2 ?_; apply w_nil; apply wx_next; apply wc_ret; apply wx_ret_block; apply wx_ret_then; apply wx_ret_then; apply wx_ret_block; apply wx_ret_then)
      exact ret_fn H hm (outs1 Tryz.results235 Wh) ⟨_, rfl, by rw [hp, hd]; simp only [List.any_cons, hb, Bool.true_or]; simp⟩
  · exact ret_fn H hm (outs1 Tryz.results235 Wh) ⟨_, rfl, by rw [hp, List.drop_eq_nil_of_le (by omega)]; rfl⟩
theorem ContainsFunc_Tm (xs : List Tm) (v : Value) (c : Cx) (h : Sl v xs c) : Cn Tryz.prog 232 [v, .func (.func 233) #[] #[]] c (fun v _ => v = .bool (xs.any fun t => !t.isConst && !t.isVar)) := by
  refine Cn.of Tryz.func232 Tryz.ntmps232 rfl rfl fun hm H HA => ?_
  have HA := HA.add h
  (apply wc_seq; apply wc_region; refine Z2 ?_; apply w_nil; apply wx_next; apply wc_seq; apply wc_region; refine Z0 ?_; refine Z0 ?_)
  (refine s_call rfl rfl H HA (IndexFunc_Tm xs _ _ Lk) ?_; intro vx c H HA)
  obtain ⟨i, rfl, hi⟩ := HA.h.1
  (focus (refine Z97 (fun hq => ?_) fun hq => ?_; refine Z2 ?_; apply w_nil; apply wx_next; apply wc_ret; rotate_left; refine Z2 ?_; apply w_nil; apply wx_next; apply wc_ret; rotate_left))
  all_goals exact ret_fn H hm (outs1 Tryz.results232 Wh) (by rw [← hi]; simp; omega)
theorem term_CheckAtom (a : At0) (u : Value) (c : Cx) (h : Ag a u c) (hs : a.name.size < 4611686018427387904) (hg : Box 3 Tn.cs c) : Cn Tryz.prog 225 [u] c (fun v _ => v = .int .i64 a.check) := by
  refine Cn.of Tryz.func225 Tryz.ntmps225 rfl rfl fun hm H HA => ?_
  have hlim : a.args.length < 1099511627776 := by obtain ⟨cs, rfl, v, rfl, h⟩ := h; exact h.lim
  have HA := (HA.add h).add hg
  (apply wc_seq; apply wc_region)
  (refine s_boxG rfl rfl Lk H HA ?_; intro p c H HA)
  (refine Z2 ?_; apply w_nil; apply wx_next; apply wc_seq; apply wc_block; apply wc_seq; apply wc_region; refine Z35 HA fun vx HA => ?_; refine Z36 ?_)
  (refine s_call rfl rfl H HA (term_name a.name _ hs) ?_; intro vx c H HP; have hvx := HP.h.1; have HA := HP.cut; subst hvx)
  cases hn : nameB a.name
  · (refine Z33 ?_; refine Z2 ?_; apply w_nil; apply wx_next; refine Z18 ?_; apply wc_seq; apply wc_region; refine Z2 ?_; apply w_nil; apply wx_next; apply wc_ret; apply wx_ret_block; apply wx_ret_then)
    exact ret_fn H hm (outs1 Tryz.results225 Wh) (by simp [At0.check, hn])
  (focus (refine Z33 ?_; refine Z2 ?_; apply w_nil; apply wx_next; refine Z19 ?_; apply wc_seq; apply wc_region; refine Z35 HA fun vx HA => ?_; refine Z37 HA fun vx HA => ?_; refine Z45 ?_; refine Z96 (fun hq => ?_) fun hq => ?_; refine Z2 ?_; apply w_nil; apply wx_next; refine Z18 ?_; apply wc_seq; apply wc_region; refine Z2 ?_; apply w_nil; apply wx_next; apply wc_ret; apply wx_ret_block; apply wx_ret_then; rotate_left; refine Z2 ?_; apply w_nil; apply wx_next; refine Z19 ?_; apply wc_seq; apply wc_region; refine Z35 HA fun vx HA => ?_; refine Z38 ?_; refine Z7 ?_; refine Z101 (fun hq => ?_) fun hq => ?_; refine Z0 ?_; refine Z4 ?_; refine Z35 HA fun vx HA => ?_; refine Z4 ?_; refine Z38 ?_; refine Z4 ?_; rotate_left; refine Z0 ?_; refine Z5 ?_; refine Z5 ?_; refine Z5 ?_; refine Z5 ?_; refine Z30 ?_; refine Z0 ?_; refine Z5 ?_; refine Z5 ?_; refine Z5 ?_; refine Z5 ?_; refine Z30 ?_; refine Z2 ?_; apply w_nil; apply wx_next; refine Z19 ?_; apply wc_seq; apply wc_region; refine Z35 HA fun vx HA => ?_; refine Z37 HA fun vx HA => ?_; rotate_left))
  · exact ret_fn H hm (outs1 Tryz.results225 Wh) (by simp [At0.check, hn]; intros; omega)
  · (refine s_call rfl rfl H HA (term_Principal a.by_ _) ?_; intro vx c H HP; have hvx := HP.h.1; have HA := HP.cut; subst hvx)
    cases hp : a.by_.isPrinc
    · (refine Z4 ?_; refine Z33 ?_; refine Z8 ?_; refine Z0 ?_; refine Z4 ?_; refine Z35 HA fun vx HA => ?_; refine Z4 ?_; refine Z38 ?_; refine Z4 ?_)
      (refine s_call rfl rfl H HA (term_Variable a.by_ _) ?_; intro vx c H HP; have hvx := HP.h.1; have HA := HP.cut; subst hvx)
      cases hv : a.by_.isVar
      · (refine Z4 ?_; refine Z33 ?_; refine Z8 ?_; refine Z2 ?_; apply w_nil; apply wx_next; refine Z18 ?_; apply wc_seq; apply wc_region; refine Z2 ?_; apply w_nil; apply wx_next; apply wc_ret; apply wx_ret_block; apply wx_ret_then)
        exact ret_fn H hm (outs1 Tryz.results225 Wh) (by simp_all [At0.check]; intros; omega)
      · (refine Z4 ?_; refine Z33 ?_; refine Z8 ?_; refine Z2 ?_; apply w_nil; apply wx_next; refine Z19 ?_; apply wc_seq; apply wc_region; refine Z35 HA fun vx HA => ?_; refine Z37 HA fun vx HA => ?_)
        (refine s_call rfl rfl H HA (ContainsFunc_Tm a.args _ _ Lk) ?_; intro vx c H HP; have hvx := HP.h.1; have HA := HP.cut; subst hvx)
        cases hc : (a.args.any fun t => !t.isConst && !t.isVar)
        · (refine Z2 ?_; apply w_nil; apply wx_next; refine Z19 ?_; apply wc_skip; apply wx_norm_block; apply wx_next; apply wc_seq; apply wc_region; refine Z2 ?_; apply w_nil; apply wx_next; apply wc_ret)
          exact ret_fn H hm (outs1 Tryz.results225 Wh) (by
            have h8 : ¬ 8 < a.args.length := by omega
            rw [At0.check, hc]; simp [*])
        · (refine Z2 ?_; apply w_nil; apply wx_next; refine Z18 ?_; apply wc_seq; apply wc_region; refine Z2 ?_; apply w_nil; apply wx_next; apply wc_ret; apply wx_ret_block; apply wx_ret_then)
          exact ret_fn H hm (outs1 Tryz.results225 Wh) (by
            have h8 : ¬ 8 < a.args.length := by omega
            rw [At0.check, hc]; simp [*])
    · (refine Z4 ?_; refine Z33 ?_; refine Z8 ?_; refine Z0 ?_; refine Z5 ?_; refine Z5 ?_; refine Z5 ?_; refine Z5 ?_; refine Z30 ?_; refine Z2 ?_; apply w_nil; apply wx_next; refine Z19 ?_; apply wc_seq; apply wc_region; refine Z35 HA fun vx HA => ?_; refine Z37 HA fun vx HA => ?_)
      (refine s_call rfl rfl H HA (ContainsFunc_Tm a.args _ _ Lk) ?_; intro vx c H HP; have hvx := HP.h.1; have HA := HP.cut; subst hvx)
      cases hc : (a.args.any fun t => !t.isConst && !t.isVar)
      · (refine Z2 ?_; apply w_nil; apply wx_next; refine Z19 ?_; apply wc_skip; apply wx_norm_block; apply wx_next; apply wc_seq; apply wc_region; refine Z2 ?_; apply w_nil; apply wx_next; apply wc_ret)
        exact ret_fn H hm (outs1 Tryz.results225 Wh) (by
          have h8 : ¬ 8 < a.args.length := by omega
          rw [At0.check, hc]; simp [*])
      · (refine Z2 ?_; apply w_nil; apply wx_next; refine Z18 ?_; apply wc_seq; apply wc_region; refine Z2 ?_; apply w_nil; apply wx_next; apply wc_ret; apply wx_ret_block; apply wx_ret_then)
        exact ret_fn H hm (outs1 Tryz.results225 Wh) (by
          have h8 : ¬ 8 < a.args.length := by omega
          rw [At0.check, hc]; simp [*])
  · (refine s_call rfl rfl H HA (ContainsFunc_Tm a.args _ _ Lk) ?_; intro vx c H HP; have hvx := HP.h.1; have HA := HP.cut; subst hvx)
    cases hc : (a.args.any fun t => !t.isConst && !t.isVar)
    · (refine Z2 ?_; apply w_nil; apply wx_next; refine Z19 ?_; apply wc_skip; apply wx_norm_block; apply wx_next; apply wc_seq; apply wc_region; refine Z2 ?_; apply w_nil; apply wx_next; apply wc_ret)
      exact ret_fn H hm (outs1 Tryz.results225 Wh) (by
        have h8 : ¬ 8 < a.args.length := by omega
        rw [At0.check, hc]; simp [*])
    · (refine Z2 ?_; apply w_nil; apply wx_next; refine Z18 ?_; apply wc_seq; apply wc_region; refine Z2 ?_; apply w_nil; apply wx_next; apply wc_ret; apply wx_ret_block; apply wx_ret_then)
      exact ret_fn H hm (outs1 Tryz.results225 Wh) (by
        have h8 : ¬ 8 < a.args.length := by omega
        rw [At0.check, hc]; simp [*])
theorem clause_badAtom (x : Cl) (u : Value) (c : Cx) (h : Ag x u c) (hs : x.sm) (hg : Box 3 Tn.cs c) : Cn Tryz.prog 219 [u] c (fun v _ => v = .int .i64 (orI ((x.head :: x.body).map At0.check))) := by
  refine Cn.of Tryz.func219 Tryz.ntmps219 rfl rfl fun hm H HA => ?_
  have hlt : x.body.length < 1099511627776 := by obtain ⟨cs, rfl, v, v1, v2, rfl, h⟩ := h; exact h.2.1.lim
  have HA := (HA.add h).add hg
  (apply wc_seq; apply wc_region)
  (refine s_boxG rfl rfl Lk H HA ?_; intro p c H HA)
  (refine Z2 ?_; apply w_nil; apply wx_next; apply wc_seq; apply wc_seq; apply wc_region; refine Z35 HA fun vx HA => ?_; refine Z39 HA fun vx HA => ?_)
  (refine s_call rfl rfl H HA (term_CheckAtom x.head _ _ Lk hs.1.1 Lk) ?_; intro vx c H HP; have hvx := HP.h.1; have HA := HP.cut; subst hvx)
  by_cases he : x.head.check = 0
  · (refine Z2 ?_; apply w_nil; apply wx_next; apply wc_seq; apply wc_region; refine Z0 ?_; refine Z82 ?_; apply w_nil; apply wx_next; refine Z19 ?_; apply wc_skip; apply wx_next; apply wc_seq; apply wc_seq; apply wc_region; refine Z35 HA fun vx HA => ?_; refine Z37 HA fun vx HA => ?_; refine Z45 ?_; refine Z0 ?_; apply w_nil; apply wx_next; apply wc_block)
    (obtain ⟨vl, rfl⟩ : ∃ x, x = vx := ⟨_, rfl⟩)
    refine wc_loopN x.body.length (fun k => [(14, vl), (15, .int .i64 x.body.length), (16, .int .i64 k)]) (fun k => orI ((x.head :: x.body).map At0.check) = orI ((x.body.drop k).map At0.check)) 0 H HA Ks (Nat.zero_le _) (by simp [orI, he]) ?_
    intro k g c hk hp H HA
    (focus (apply wc_seq; apply wc_region; refine Z93 (fun hq => ?_) fun hq => ?_; apply w_nil; apply wx_next; apply wc_seq; refine Z18 ?_; apply wc_skip; apply wx_next; apply wc_seq; apply wc_block; apply wc_seq; apply wc_region; rotate_left; apply w_nil; apply wx_next; apply wc_seq; refine Z19 ?_; apply wc_exit; apply wx_exit_then; apply wx_exit_then; apply wx_exit_same; apply wx_next; apply wc_seq; apply wc_region; refine Z2 ?_; apply w_nil; apply wx_next; apply wc_ret; rotate_left))
    · obtain ⟨t, ht⟩ := getq (xs := x.body) (k := k) (by omega)
      (refine Z34 HA fun vx HA => ?_; refine Z39 HA fun vx HA => ?_; refine Z61 fun bx c H HA => ?_)
      (refine s_storeG (α := At0) rfl rfl Lk rfl rfl H HA ?_; intro c H HA)
      (apply w_nil; apply wx_next; apply wc_seq; apply wc_region; refine Z39 HA fun vx HA => ?_)
      (refine s_call rfl rfl H HA (term_CheckAtom t _ _ Lk (hs.2.1 t (List.mem_of_getElem? ht)).1 Lk) ?_; intro vx c H HP; have hvx := HP.h.1; have HA := HP.cut; subst hvx)
      by_cases he : t.check = 0
      · (refine Z2 ?_; apply w_nil; apply wx_next; apply wc_seq; apply wc_region; refine Z0 ?_; refine Z82 ?_; apply w_nil; apply wx_next; refine Z19 ?_; apply wc_skip; apply wx_norm_block; apply wx_next; apply wc_region; refine Z46 ?_; refine Z0 ?_; apply w_nil)
        exact wx_loopN (k + 1) H Cu Ks (by omega) (by rw [hp, orI_get ht, if_pos he])
      · (refine Z2 ?_; apply w_nil; apply wx_next; apply wc_seq; apply wc_region; refine Z0 ?_; refine Z82 ?_; apply w_nil; apply wx_next; refine Z18 ?_; apply wc_seq; apply wc_region; refine Z0 ?_; refine Z2 ?_; apply w_nil; apply wx_next; apply wc_ret; apply wx_ret_block; apply wx_ret_then; apply wx_ret_then; apply wx_ret_block; apply wx_ret_then)
        exact ret_fn H hm (outs1 Tryz.results219 Wh) (by rw [hp, orI_get ht, if_neg he])
    · exact ret_fn H hm (outs1 Tryz.results219 Wh) (by rw [hp, List.drop_eq_nil_of_le (by omega)]; rfl)
  · (refine Z2 ?_; apply w_nil; apply wx_next; apply wc_seq; apply wc_region; refine Z0 ?_; refine Z82 ?_; apply w_nil; apply wx_next; refine Z18 ?_; apply wc_seq; apply wc_region; refine Z0 ?_; refine Z2 ?_; apply w_nil; apply wx_next; apply wc_ret; apply wx_ret_then)
    exact ret_fn H hm (outs1 Tryz.results219 Wh) (by simp [orI, he])
end Go.Proofs.YthkdggoohpgnnaaGreatDoor
/- Contracts: the terms of a clause handed to a function, of the program's own. -/
namespace Go.Wk
open Go
def Doms {σ : Type} (dom : σ → Tm → Prop) (step : σ → Tm → σ) : σ → List Tm → Prop
  | _, [] => True
  | s, t :: ts => dom s t ∧ Doms dom step (step s t) ts
theorem Doms.app {σ : Type} {dom : σ → Tm → Prop} {step : σ → Tm → σ} : ∀ {l1 l2 : List Tm} {s : σ}, Doms dom step s (l1 ++ l2) → Doms dom step s l1 ∧ Doms dom step (l1.foldl step s) l2
  | [], _, _, h => ⟨trivial, h⟩
  | _ :: l1, _, _, h => ⟨⟨h.1, (Doms.app h.2).1⟩, (Doms.app (l1 := l1) h.2).2⟩
/-- A function as a value, with what it turns. -/
structure CloU (P : Program) (gf : FuncId) (caps : List Value) {σ : Type} (R : σ → List Res) (F : Cx → Prop) (dom : σ → Tm → Prop) (step : σ → Tm → σ) : Prop where
  call : ∀ s t c, F c → dom s t → CnT P gf (.agg t.cs.toArray :: caps) (R s) (R (step s t)) c (fun _ _ => True)
end Go.Wk
namespace Go.Proofs.YthkdggoohpgnnaaGreatDoor
open Go Go.Wk
section
variable {σ : Type} {gf : FuncId} {caps : List Value} {R : σ → List Res} {F : Cx → Prop} [Mono F] {dom : σ → Tm → Prop} {step : σ → Tm → σ} [Ent Tryz.prog gf]
theorem clause_atomTerms (K : CloU Tryz.prog gf caps R F dom step) (s : σ) (a : At0) (u : Value) (c : Cx) (hF : F c) (h : Ag a u c) (hd : Doms dom step s a.terms) : CnT Tryz.prog 141 [u, .func (.func gf) #[] caps.toArray] (R s) (R (a.terms.foldl step s)) c (fun _ _ => True) := by
  refine CnT.of Tryz.func141 Tryz.ntmps141 rfl rfl fun c0 L0 A0 _ H HA => ?_
  have hlim : a.args.length < 1099511627776 := by obtain ⟨cs, rfl, v, rfl, h⟩ := h; exact h.lim
  have HA := (HA.add h).add hF
  (apply wc_seq; apply wc_region)
  (refine s_boxG rfl rfl Lk H HA ?_; intro p c H HA)
  (apply w_nil; apply wx_next; apply wc_seq; apply wc_region; refine Z0 ?_; refine Z35 HA fun vx HA => ?_; refine Z38 ?_)
  (refine s_callVT (pre := _) (post := _) rfl rfl rfl H HA (K.call s a.by_ _ Lk hd.1) ?_; intro vx c H HA)
  (apply w_nil; apply wx_next; apply wc_seq; apply wc_region; refine Z35 HA fun vx HA => ?_; refine Z37 HA fun vx HA => ?_; refine Z45 ?_; refine Z0 ?_; apply w_nil; apply wx_next; apply wc_block)
  (obtain ⟨vl, rfl⟩ : ∃ x, x = vx := ⟨_, rfl⟩)
  refine wc_loopG (σ := Nat × σ) (fun x => a.args.length - x.1) (fun x => [(1, .func (.func gf) #[] caps.toArray), (11, vl), (12, .int .i64 a.args.length), (13, .int .i64 x.1)]) (fun x => x.1 ≤ a.args.length ∧ (a.args.drop x.1).foldl step x.2 = a.terms.foldl step s ∧ Doms dom step x.2 (a.args.drop x.1)) (fun x => R x.2 ++ L0) (fun _ => Tt) (0, step s a.by_) H HA trivial Ks ⟨Nat.zero_le _, rfl, hd.2⟩ ?_
  intro x g c hp H HA
  obtain ⟨k, z⟩ := x
  obtain ⟨hk, hp, hd⟩ := hp
  dsimp only at hk hp hd H HA ⊢
  (focus (apply wc_seq; apply wc_region; refine Z93 (fun hq => ?_) fun hq => ?_; apply w_nil; apply wx_next; apply wc_seq; refine Z18 ?_; apply wc_skip; apply wx_next; apply wc_seq; apply wc_block; apply wc_seq; apply wc_region; rotate_left; apply w_nil; apply wx_next; apply wc_seq; refine Z19 ?_; apply wc_exit; apply wx_exit_then; apply wx_exit_then; apply wx_exit_same; rotate_left))
  · obtain ⟨t, ht⟩ := getq (xs := a.args) (k := k) (by omega)
    have hdr := drop_get ht
    rw [hdr] at hd hp
    (refine Z34 HA fun vx HA => ?_; refine Z38 ?_; refine Z61 fun bx c H HA => ?_; refine Z74 fun c H HA => ?_; apply w_nil; apply wx_next; apply wc_region; refine Z0 ?_; refine Z42 ?_)
    have H := H.drop
    (refine s_callVT (pre := _) (post := _) rfl rfl rfl H HA (K.call z t _ Lk hd.1) ?_; intro vx c H HA)
    (apply w_nil; apply wx_norm_block; apply wx_next; apply wc_region; refine Z46 ?_; refine Z0 ?_; apply w_nil)
    exact wx_loopG ((k + 1, step z t)) H Cu trivial Ks (by simp; omega) ⟨by simp; omega, hp, hd.2⟩
  · have e0 : a.args.drop k = [] := List.drop_eq_nil_of_le (by omega)
    rw [e0] at hp
    have hz : z = a.terms.foldl step s := hp
    subst hz
    exact norm_fnT H Ca (outs0 rfl) trivial
theorem clause_terms (K : CloU Tryz.prog gf caps R F dom step) (s : σ) (x : Cl) (u : Value) (c : Cx) (hF : F c) (h : Ag x u c) (hd : Doms dom step s x.terms) : CnT Tryz.prog 107 [u, .func (.func gf) #[] caps.toArray] (R s) (R (x.terms.foldl step s)) c (fun _ _ => True) := by
  refine CnT.of Tryz.func107 Tryz.ntmps107 rfl rfl fun c0 L0 A0 _ H HA => ?_
  have hlb : x.body.length < 1099511627776 := by obtain ⟨cs, rfl, v, v1, v2, rfl, h⟩ := h; exact h.2.1.lim
  have hlt : x.tests.length < 1099511627776 := by obtain ⟨cs, rfl, v, v1, v2, rfl, h⟩ := h; exact h.2.2.lim
  have hd1 := Doms.app (l1 := x.head.terms ++ x.bodyTerms) (l2 := x.testTerms) hd
  have hd2 := Doms.app hd1.1
  have hfo : x.testTerms.foldl step (x.bodyTerms.foldl step (x.head.terms.foldl step s)) = x.terms.foldl step s := by
    show _ = ((x.head.terms ++ x.bodyTerms) ++ x.testTerms).foldl step s
    rw [List.foldl_append, List.foldl_append]
  have HA := (HA.add h).add hF
  (apply wc_seq; apply wc_region)
  (refine s_boxG rfl rfl Lk H HA ?_; intro p c H HA)
  (apply w_nil; apply wx_next; apply wc_seq; apply wc_region; refine Z35 HA fun vx HA => ?_; refine Z39 HA fun vx HA => ?_; refine Z0 ?_)
  (refine s_callT (pre := _) (post := _) rfl rfl H HA (clause_atomTerms K s x.head _ _ Lk Lk hd2.1) ?_; intro vx c H HA)
  (apply w_nil; apply wx_next; apply wc_seq; apply wc_seq; apply wc_region; refine Z35 HA fun vx HA => ?_; refine Z37 HA fun vx HA => ?_; refine Z45 ?_; refine Z0 ?_; apply w_nil; apply wx_next; apply wc_block)
  (obtain ⟨vl, rfl⟩ : ∃ x, x = vx := ⟨_, rfl⟩)
  have hd3 := hd1.2
  rw [List.foldl_append] at hd3
  generalize x.head.terms.foldl step s = s1 at H hd2 hd3 hfo
  refine wc_loopG (σ := Nat × σ) (fun y => x.body.length - y.1) (fun y => [(1, .func (.func gf) #[] caps.toArray), (2, p), (13, vl), (14, .int .i64 x.body.length), (15, .int .i64 y.1)]) (fun y => y.1 ≤ x.body.length ∧ ((x.body.drop y.1).flatMap At0.terms).foldl step y.2 = x.bodyTerms.foldl step s1 ∧ Doms dom step y.2 ((x.body.drop y.1).flatMap At0.terms)) (fun y => R y.2 ++ L0) (fun _ => Tt) (0, s1) H HA trivial Ks ⟨Nat.zero_le _, rfl, hd2.2⟩ ?_
  intro y g c hp H HA
  obtain ⟨k, z⟩ := y
  obtain ⟨hk, hp, hd⟩ := hp
  dsimp only at hk hp hd H HA ⊢
  (focus (apply wc_seq; apply wc_region; refine Z93 (fun hq => ?_) fun hq => ?_; apply w_nil; apply wx_next; apply wc_seq; refine Z18 ?_; apply wc_skip; apply wx_next; apply wc_seq; apply wc_block; apply wc_seq; apply wc_region; rotate_left; apply w_nil; apply wx_next; apply wc_seq; refine Z19 ?_; apply wc_exit; apply wx_exit_then; apply wx_exit_then; apply wx_exit_same; apply wx_next; apply wc_seq; apply wc_region; refine Z35 HA fun vx HA => ?_; refine Z37 HA fun vx HA => ?_; refine Z45 ?_; refine Z0 ?_; apply w_nil; apply wx_next; apply wc_block; rotate_left))
  · obtain ⟨t, ht⟩ := getq (xs := x.body) (k := k) (by omega)
    have hdr := drop_get ht
    rw [hdr, List.flatMap_cons] at hd hp
    have hda := Doms.app hd
    rw [List.foldl_append] at hp
    (refine Z34 HA fun vx HA => ?_; refine Z39 HA fun vx HA => ?_; refine Z61 fun bx c H HA => ?_)
    (refine s_storeG (α := At0) rfl rfl Lk rfl rfl H HA ?_; intro c H HA)
    (apply w_nil; apply wx_next; apply wc_region; refine Z39 HA fun vx HA => ?_; refine Z0 ?_)
    (refine s_callT (pre := _) (post := _) rfl rfl H HA (clause_atomTerms K z t _ _ Lk Lk hda.1) ?_; intro vx c H HA)
    (apply w_nil; apply wx_norm_block; apply wx_next; apply wc_region; refine Z46 ?_; refine Z0 ?_; apply w_nil)
    exact wx_loopG ((k + 1, t.terms.foldl step z)) H Cu trivial Ks (by simp; omega) ⟨by simp; omega, hp, hda.2⟩
  · have e0 : x.body.drop k = [] := List.drop_eq_nil_of_le (by omega)
    rw [e0] at hp
    have hz : z = x.bodyTerms.foldl step s1 := hp
    rw [← hz] at hd3 hfo
    clear hp hd hz
    (obtain ⟨vl, rfl⟩ : ∃ x, x = vx := ⟨_, rfl⟩)
    refine wc_loopG (σ := Nat × σ) (fun y => x.tests.length - y.1) (fun y => [(1, .func (.func gf) #[] caps.toArray), (24, vl), (25, .int .i64 x.tests.length), (26, .int .i64 y.1)]) (fun y => y.1 ≤ x.tests.length ∧ ((x.tests.drop y.1).flatMap fun t => [t.l, t.r]).foldl step y.2 = x.testTerms.foldl step z ∧ Doms dom step y.2 ((x.tests.drop y.1).flatMap fun t => [t.l, t.r])) (fun y => R y.2 ++ L0) (fun _ => Tt) (0, z) H HA trivial Ks ⟨Nat.zero_le _, rfl, hd3⟩ ?_
    intro y g c hp H HA
    obtain ⟨k, z⟩ := y
    obtain ⟨hk, hp, hd⟩ := hp
    dsimp only at hk hp hd H HA ⊢
    (focus (apply wc_seq; apply wc_region; refine Z93 (fun hq => ?_) fun hq => ?_; apply w_nil; apply wx_next; apply wc_seq; refine Z18 ?_; apply wc_skip; apply wx_next; apply wc_seq; apply wc_block; apply wc_seq; apply wc_region; rotate_left; apply w_nil; apply wx_next; apply wc_seq; refine Z19 ?_; apply wc_exit; apply wx_exit_then; apply wx_exit_then; apply wx_exit_same; rotate_left))
    · obtain ⟨t, ht⟩ := getq (xs := x.tests) (k := k) (by omega)
      have hdr := drop_get ht
      rw [hdr, List.flatMap_cons] at hd hp
      (refine Z34 HA fun vx HA => ?_; refine Z38 ?_; refine Z61 fun bx c H HA => ?_; refine Z74 fun c H HA => ?_; apply w_nil; apply wx_next; apply wc_seq; apply wc_region; refine Z0 ?_; refine Z3 ?_; refine Z42 ?_)
      (refine w_freeze H HA ?_; intro c H HA)
      (refine s_callVT (pre := _) (post := _) rfl rfl rfl H HA (K.call z t.l _ Lk hd.1) ?_; intro vx c H HA)
      (apply w_nil; apply wx_next; apply wc_region; refine Z0 ?_; refine Z3 ?_; refine Z7 ?_)
      (refine s_callVT (pre := _) (post := _) rfl rfl rfl H HA (K.call (step z t.l) t.r _ Lk hd.2.1) ?_; intro vx c H HA)
      (apply w_nil; apply wx_norm_block; apply wx_next; apply wc_region; refine Z46 ?_; refine Z0 ?_; apply w_nil)
      exact wx_loopG ((k + 1, step (step z t.l) t.r)) H Cu trivial Ks (by simp; omega) ⟨by simp; omega, hp, hd.2.2⟩
    · have e0 : x.tests.drop k = [] := List.drop_eq_nil_of_le (by omega)
      rw [e0] at hp
      have hz : z = x.terms.foldl step s := hp.trans hfo
      subst hz
      exact norm_fnT H Ca (outs0 rfl) trivial
end
end Go.Proofs.YthkdggoohpgnnaaGreatDoor
/- Contracts: how many variables, how they are numbered, whether a clause is safe, of the program's own. -/
namespace Go.Wk
open Go
def toI : Value → Int
  | .int _ i => i
  | _ => 0
def cntS (es : List (Int × Value)) (t : Tm) : List (Int × Value) := if t.isVar then mSet es t.n (.int .i64 (IntKind.i64.wrap (toI ((mLook es t.n).getD (.int .i64 0)) + 1))) else es
def intsM (es : List (Int × Value)) : Prop := ∀ p ∈ es, ∃ m : Int, p.2 = .int .i64 m
theorem mLook_mem {es : List (Int × Value)} {k : Int} {v : Value} (h : mLook es k = some v) : (k, v) ∈ es := by
  unfold mLook at h
  cases hf : es.find? fun p => p.1 == k with
  | none => rw [hf] at h; cases h
  | some p =>
    rw [hf] at h
    have h1 := List.mem_of_find?_eq_some hf
    have h2 := List.find?_some hf
    simp only [Option.map_some, Option.some.injEq, beq_iff_eq] at h h2
    obtain ⟨a, b⟩ := p
    simp only at h h2
    subst h h2
    exact h1
theorem intsM.get {es : List (Int × Value)} (h : intsM es) (k : Int) : ∃ m : Int, (mLook es k).getD (.int .i64 0) = .int .i64 m := by
  cases hl : mLook es k with
  | none => exact ⟨0, rfl⟩
  | some v => obtain ⟨m, hm⟩ := h _ (mLook_mem hl); exact ⟨m, hm⟩
theorem mSet_mem {es : List (Int × Value)} {k : Int} {v : Value} {p : Int × Value} (h : p ∈ mSet es k v) : p ∈ es ∨ p = (k, v) := by
  unfold mSet at h
  split at h
  · rcases List.mem_or_eq_of_mem_set h with h | h
    · exact .inl h
    · exact .inr h
  · simpa using h
theorem cntS_ints {es : List (Int × Value)} (h : intsM es) (t : Tm) : intsM (cntS es t) := by
  unfold cntS
  split
  · intro p hp
    rcases mSet_mem hp with hp | rfl
    · exact h p hp
    · exact ⟨_, rfl⟩
  · exact h
theorem cnt_doms : ∀ (ts : List Tm) (es : List (Int × Value)), intsM es → Doms (fun es _ => intsM es) cntS es ts
  | [], _, _ => trivial
  | t :: ts, es, h => ⟨h, cnt_doms ts _ (cntS_ints h t)⟩
theorem mSet_keys (es : List (Int × Value)) (k : Int) (v : Value) : (mSet es k v).map Prod.fst = if k ∈ es.map Prod.fst then es.map Prod.fst else es.map Prod.fst ++ [k] := by
  unfold mSet
  cases hf : es.findIdx? fun p => p.1 == k with
  | none =>
    have : k ∉ es.map Prod.fst := by
      rw [List.findIdx?_eq_none_iff] at hf
      intro h
      obtain ⟨p, hp, he⟩ := List.mem_map.1 h
      have := hf p hp
      simp [he] at this
    rw [if_neg this]
    simp
  | some i =>
    obtain ⟨hi, he⟩ := List.findIdx?_eq_some_iff_findIdx_eq.1 hf
    have h3 := List.findIdx_getElem (xs := es) (p := fun p => p.1 == k) (w := by omega)
    simp only [he] at h3
    have hk : es[i].1 = k := by simpa using h3
    have : k ∈ es.map Prod.fst := List.mem_map.2 ⟨es[i], List.getElem_mem hi, hk⟩
    rw [if_pos this]
    refine List.ext_getElem? fun j => ?_
    simp only [List.getElem?_map, List.getElem?_set]
    by_cases e : i = j
    · subst e; simp [hi, hk]
    · simp [e]
/-- A variable is its number. -/
theorem var_n {t u : Tm} (h : t.isVar = true) (h' : u.isVar = true) : t.n = u.n ↔ t = u := by
  constructor
  · intro e
    obtain ⟨k, n, s⟩ := t
    obtain ⟨k', n', s'⟩ := u
    simp [Tm.isVar] at h h' e
    simp [h, h', e]
  · rintro rfl; rfl
theorem cnt_keys : ∀ (ts : List Tm) (es : List (Int × Value)) (acc : List Tm), es.map Prod.fst = acc.map Tm.n → (∀ t ∈ acc, t.isVar = true) → (ts.foldl cntS es).map Prod.fst = (ts.foldl varsOn acc).map Tm.n ∧ ∀ t ∈ ts.foldl varsOn acc, t.isVar = true
  | [], _, _, h, h2 => ⟨h, h2⟩
  | t :: ts, es, acc, h, h2 => by
    refine cnt_keys ts _ _ ?_ ?_
    · unfold cntS varsOn
      cases hv : t.isVar with
      | false => simpa using h
      | true =>
        simp only [if_true, mSet_keys, Bool.true_and, h]
        have : t.n ∈ acc.map Tm.n ↔ t ∈ acc := by
          rw [List.mem_map]
          exact ⟨fun ⟨u, hu, e⟩ => (var_n (h2 u hu) hv).1 e ▸ hu, fun hu => ⟨t, hu, rfl⟩⟩
        by_cases hm : t ∈ acc
        · simp [hm, this.2 hm]
        · have h4 : t.n ∉ acc.map Tm.n := fun h => hm (this.1 h)
          rw [if_neg h4]
          simp [hm]
    · intro u hu
      unfold varsOn at hu
      split at hu
      · rename_i hc
        simp only [List.mem_append, List.mem_singleton] at hu
        rcases hu with hu | rfl
        · exact h2 u hu
        · simp at hc; exact hc.1
      · exact h2 u hu
end Go.Wk
namespace Go.Proofs.YthkdggoohpgnnaaGreatDoor
open Go Go.Wk
instance : MapT Tryz.prog 123 3 := ⟨3, .i64, by kernel_rfl, by kernel_rfl⟩
instance : Zer Tryz.prog 123 (.map none) := .of (by kernel_rfl)
theorem vars_clo (pb mb : Nat) : CloU Tryz.prog 108 [.pointer (some ⟨pb, 0, none⟩)] (fun es => [.obj mb (mObj es)]) (Box pb [.map (some mb)]) (fun es _ => intsM es) cntS := ⟨by
  intro es t c hF hd
  refine CnT.of Tryz.func108 Tryz.ntmps108 rfl rfl fun c0 L0 A0 _ H HA => ?_
  have HA := HA.add hF
  have H : Owns c0 (.obj mb (mObj es) :: L0) c := H
  (apply wc_seq; apply wc_region; refine Z31 fun bx c H HA => ?_; apply w_nil; apply wx_next; apply wc_seq; apply wc_region; refine Z7 ?_)
  (refine s_call rfl rfl H HA (term_Variable t _) ?_; intro vx c H HP; have hvx := HP.h.1; have HA := HP.cut; subst hvx)
  obtain ⟨m, hm⟩ := hd.get t.n
  cases hv : t.isVar
  · (apply w_nil; apply wx_next; refine Z19 ?_; apply wc_skip)
    have he : cntS es t = es := by simp [cntS, hv]
    rw [he]
    exact norm_fnT H Ca (outs0 rfl) trivial
  · (apply w_nil; apply wx_next; refine Z18 ?_; apply wc_region; refine Z1 ?_; refine Z3 ?_; refine Z1 ?_; refine Z67 ?_)
    rw [hm]
    apply s_add rfl rfl rfl rfl
    (refine Z68 fun c H HA => ?_; apply w_nil)
    have he : cntS es t = mSet es t.n (.int .i64 (IntKind.i64.wrap (m + 1))) := by simp [cntS, hv, hm, toI]
    rw [he]
    exact norm_fnT H Ca (outs0 rfl) trivial⟩
theorem clause_Vars (x : Cl) (u : Value) (c : Cx) (h : Ag x u c) : Cn Tryz.prog 50 [u] c (fun v _ => v = .int .i64 x.nv) := by
  refine Cn.of Tryz.func50 Tryz.ntmps50 rfl rfl fun hm H HA => ?_
  have HA := HA.add h
  (apply wc_seq; apply wc_region)
  (refine s_boxG rfl rfl Lk H HA ?_; intro p c H HA)
  (refine Z2 ?_; apply w_nil; apply wx_next; apply wc_seq; apply wc_region; refine Z65 fun mx c H HA => ?_; refine Z61 fun bx c H HA => ?_; refine Z75 fun c H HA => ?_; apply w_nil; apply wx_next; apply wc_seq; apply wc_region; refine Z39 HA fun vx HA => ?_)
  (refine w_freeze H HA ?_; intro c H HA)
  (skip)
  (refine s_makeFunc (vs := [.pointer (some ⟨bx, 0, none⟩)]) rfl rfl ?_)
  (refine s_callT (pre := [.obj mx (mObj [])]) (post := [.obj mx (mObj (x.terms.foldl cntS []))]) rfl rfl H HA (clause_terms (vars_clo bx mx) [] x _ _ Lk Lk (cnt_doms _ _ (fun _ h => by cases h))) ?_; intro vx c H HA)
  have H : Owns _ [.obj mx (mObj (x.terms.foldl cntS []))] _ := H
  (apply w_nil; apply wx_next; apply wc_seq; apply wc_region; refine Z1 ?_; refine Z72 ?_; refine Z2 ?_; apply w_nil; apply wx_next; apply wc_ret)
  exact ret_fn H hm (outs1 Tryz.results50 Wh) (by
    have := (cnt_keys x.terms [] [] rfl (fun _ h => by cases h)).1
    have h2 := congrArg List.length this
    simp only [List.length_map] at h2
    rw [h2]
    rfl)
end Go.Proofs.YthkdggoohpgnnaaGreatDoor
/- Contracts: what lies in a slice; the variables of an atom; numbering, safety, of the program's own. -/
namespace Go.Proofs.YthkdggoohpgnnaaGreatDoor
open Go Go.Wk
theorem Index_int (xs : List Int) (v : Value) (t : Int) (c : Cx) (h : Sl v xs c) : Cn Tryz.prog 234 [v, .int .i64 t] c (fun v _ => ∃ i : Int, v = .int .i64 i ∧ decide (i ≥ 0) = decide (t ∈ xs)) := by
  refine Cn.of Tryz.func234 Tryz.ntmps234 rfl rfl fun hm H HA => ?_
  have hlim := h.lim
  have HA := HA.add h
  (apply wc_seq; apply wc_region; refine Z2 ?_; apply w_nil; apply wx_next; apply wc_seq; apply wc_seq; apply wc_region; refine Z0 ?_; refine Z45 ?_; refine Z0 ?_; apply w_nil; apply wx_next; apply wc_block)
  refine wc_loopN xs.length (fun k => [(0, v), (1, .int .i64 t), (7, .int .i64 xs.length), (8, .int .i64 k)]) (fun k => (t ∈ xs) = (t ∈ xs.drop k)) 0 H HA Ks (Nat.zero_le _) rfl ?_
  intro k g c hk hp H HA
  (focus (apply wc_seq; apply wc_region; refine Z93 (fun hq => ?_) fun hq => ?_; apply w_nil; apply wx_next; apply wc_seq; refine Z18 ?_; apply wc_skip; apply wx_next; apply wc_seq; apply wc_block; apply wc_seq; apply wc_region; refine Z0 ?_; refine Z2 ?_; apply w_nil; apply wx_next; apply wc_seq; apply wc_region; refine Z0 ?_; refine Z0 ?_; refine Z0 ?_; rotate_left; apply w_nil; apply wx_next; apply wc_seq; refine Z19 ?_; apply wc_exit; apply wx_exit_then; apply wx_exit_then; apply wx_exit_same; apply wx_next; apply wc_seq; apply wc_region; refine Z2 ?_; apply w_nil; apply wx_next; apply wc_ret; rotate_left))
  · obtain ⟨a, ha⟩ := getq (xs := xs) (k := k) (by omega)
    have hd := drop_get ha
    (focus (refine Z34 HA fun vx HA => ?_; refine Z36 ?_; refine Z92 (fun hq => ?_) fun hq => ?_; apply w_nil; apply wx_next; refine Z18 ?_; apply wc_seq; apply wc_region; refine Z0 ?_; refine Z2 ?_; apply w_nil; apply wx_next; apply wc_ret; apply wx_ret_block; apply wx_ret_then; apply wx_ret_then; apply wx_ret_block; apply wx_ret_then; rotate_left; apply w_nil; apply wx_next; refine Z19 ?_; apply wc_skip; apply wx_norm_block; apply wx_next; apply wc_region; refine Z46 ?_; refine Z0 ?_; apply w_nil; rotate_left))
    · exact ret_fn H hm (outs1 Tryz.results234 Wh) ⟨_, rfl, by simp only [hp, hd]; simp_all⟩
    · exact wx_loopN (k + 1) H Cu Ks (by omega) (by rw [hp, hd]; simp [*])
  · exact ret_fn H hm (outs1 Tryz.results234 Wh) ⟨_, rfl, by simp only [hp]; rw [List.drop_eq_nil_of_le (by omega)]; simp⟩
theorem Contains_int (xs : List Int) (v : Value) (t : Int) (c : Cx) (h : Sl v xs c) : Cn Tryz.prog 228 [v, .int .i64 t] c (fun v _ => v = .bool (decide (t ∈ xs))) := by
  refine Cn.of Tryz.func228 Tryz.ntmps228 rfl rfl fun hm H HA => ?_
  have HA := HA.add h
  (apply wc_seq; apply wc_region; refine Z2 ?_; apply w_nil; apply wx_next; apply wc_seq; apply wc_region; refine Z0 ?_; refine Z0 ?_)
  (refine s_call rfl rfl H HA (Index_int xs _ t _ Lk) ?_; intro vx c H HA)
  obtain ⟨i, rfl, hi⟩ := HA.h.1
  (focus (refine Z97 (fun hq => ?_) fun hq => ?_; refine Z2 ?_; apply w_nil; apply wx_next; apply wc_ret; rotate_left; refine Z2 ?_; apply w_nil; apply wx_next; apply wc_ret; rotate_left))
  all_goals exact ret_fn H hm (outs1 Tryz.results228 Wh) (by rw [← hi]; simp; omega)
theorem Index_Ts (xs : List Ts) (v : Value) (t : Ts) (c : Cx) (h : Sl v xs c) : Cn Tryz.prog 135 [v, .agg t.cs.toArray] c (fun v _ => ∃ i : Int, v = .int .i64 i ∧ decide (i ≥ 0) = decide (t ∈ xs)) := by
  refine Cn.of Tryz.func135 Tryz.ntmps135 rfl rfl fun hm H HA => ?_
  have hlim := h.lim
  have HA := HA.add h
  (apply wc_seq; apply wc_region; refine Z31 fun bx c H HA => ?_; refine Z2 ?_; apply w_nil; apply wx_next; apply wc_seq; apply wc_seq; apply wc_region; refine Z0 ?_; refine Z45 ?_; refine Z0 ?_; apply w_nil; apply wx_next; apply wc_block)
  refine wc_loopN xs.length (fun k => [(0, v), (3, .pointer (some ⟨bx, 0, none⟩)), (7, .int .i64 xs.length), (8, .int .i64 k)]) (fun k => (t ∈ xs) = (t ∈ xs.drop k)) 0 H HA Ks (Nat.zero_le _) rfl ?_
  intro k g c hk hp H HA
  (focus (apply wc_seq; apply wc_region; refine Z93 (fun hq => ?_) fun hq => ?_; apply w_nil; apply wx_next; apply wc_seq; refine Z18 ?_; apply wc_skip; apply wx_next; apply wc_seq; apply wc_block; apply wc_seq; apply wc_region; refine Z0 ?_; refine Z2 ?_; apply w_nil; apply wx_next; apply wc_seq; rotate_left; apply w_nil; apply wx_next; apply wc_seq; refine Z19 ?_; apply wc_exit; apply wx_exit_then; apply wx_exit_then; apply wx_exit_same; apply wx_next; apply wc_seq; apply wc_region; refine Z2 ?_; apply w_nil; apply wx_next; apply wc_ret; rotate_left))
  · obtain ⟨a, ha⟩ := getq (xs := xs) (k := k) (by omega)
    have hd := drop_get ha
    (refine dw_start H HA ?_)
    (repeat (refine Dc ?_))
    (refine dw_done mixed H HA rfl (by kernel_rfl) ?_; clear H HA; intro c H HA; (repeat (first | (intro vx hx; have hx2 : vx = _ := hx; clear hx; subst hx2) | (intro vx hx; have HA := HA.addSF hx; clear hx) | (intro vx hx; have HA := HA.add hx; clear hx) | intro vx)); change W _ _ _ _ _ _ _)
    (focus (apply w_nil; apply wx_next; (focus (apply wc_cond; rfl; all_goals intro hq)); apply wc_seq; apply wc_region; refine Z0 ?_; refine Z2 ?_; apply w_nil; apply wx_next; apply wc_ret; apply wx_ret_block; apply wx_ret_then; apply wx_ret_then; apply wx_ret_block; apply wx_ret_then; rotate_left; apply wc_skip; apply wx_norm_block; apply wx_next; apply wc_region; refine Z46 ?_; refine Z0 ?_; apply w_nil; rotate_left))
    · exact ret_fn H hm (outs1 Tryz.results135 Wh) ⟨_, rfl, by simp only [hp, hd]; simp_all⟩
    · have hq := of_decide_eq_false hq
      exact wx_loopN (k + 1) H Cu Ks (by omega) (by rw [hp, hd]; simp [hq])
  · exact ret_fn H hm (outs1 Tryz.results135 Wh) ⟨_, rfl, by simp only [hp]; rw [List.drop_eq_nil_of_le (by omega)]; simp⟩
theorem Contains_Ts (xs : List Ts) (v : Value) (t : Ts) (c : Cx) (h : Sl v xs c) : Cn Tryz.prog 103 [v, .agg t.cs.toArray] c (fun v _ => v = .bool (decide (t ∈ xs))) := by
  refine Cn.of Tryz.func103 Tryz.ntmps103 rfl rfl fun hm H HA => ?_
  have HA := HA.add h
  (apply wc_seq; apply wc_region; refine Z31 fun bx c H HA => ?_; refine Z2 ?_; apply w_nil; apply wx_next; apply wc_seq; apply wc_region; refine Z0 ?_; refine Z7 ?_)
  (refine s_call rfl rfl H HA (Index_Ts xs _ t _ Lk) ?_; intro vx c H HA)
  obtain ⟨i, rfl, hi⟩ := HA.h.1
  (focus (refine Z97 (fun hq => ?_) fun hq => ?_; refine Z2 ?_; apply w_nil; apply wx_next; apply wc_ret; rotate_left; refine Z2 ?_; apply w_nil; apply wx_next; apply wc_ret; rotate_left))
  all_goals exact ret_fn H hm (outs1 Tryz.results103 Wh) (by rw [← hi]; simp; omega)
end Go.Proofs.YthkdggoohpgnnaaGreatDoor
/- Contracts: the variables of an atom, of the program's own. -/
namespace Go.Wk
theorem varsOn_isVar : ∀ (ts acc : List Tm), (∀ t ∈ acc, t.isVar = true) → ∀ t ∈ ts.foldl varsOn acc, t.isVar = true
  | [], _, h => h
  | t :: ts, acc, h => varsOn_isVar ts _ (by
    intro u hu
    unfold varsOn at hu
    split at hu
    · rename_i hc
      simp only [List.mem_append, List.mem_singleton] at hu
      rcases hu with hu | rfl
      · exact h u hu
      · simp at hc; exact hc.1
    · exact h u hu)
theorem mem_nums {acc : List Tm} (h : ∀ t ∈ acc, t.isVar = true) {t : Tm} (hv : t.isVar = true) : t.n ∈ acc.map Tm.n ↔ t ∈ acc := by
  rw [List.mem_map]
  exact ⟨fun ⟨u, hu, e⟩ => (var_n (h u hu) hv).1 e ▸ hu, fun hu => ⟨t, hu, rfl⟩⟩
end Go.Wk
namespace Go.Proofs.YthkdggoohpgnnaaGreatDoor
open Go Go.Wk
theorem term_Vars (a : At0) (u : Value) (c : Cx) (h : Ag a u c) (hb : a.args.length + 1 < 1099511627776) : Cn Tryz.prog 226 [u] c (fun v c => Sl v ((varsOf a.terms).map Tm.n) c) := by
  refine Cn.of Tryz.func226 Tryz.ntmps226 rfl rfl fun hm H HA => ?_
  have HA := HA.add h
  have hvl := varsOf_len a.terms
  have htl : a.terms.length = a.args.length + 1 := rfl
  (apply wc_seq; apply wc_region)
  (refine s_boxG rfl rfl Lk H HA ?_; intro p c H HA)
  (refine Z2 ?_; apply w_nil; apply wx_next; apply wc_scope; apply wc_seq; apply wc_region; refine Z2 ?_; apply w_nil; apply wx_next; apply wc_seq; apply wc_label; apply wx_next; apply wc_seq; apply wc_seq; apply wc_region; refine Z39 HA fun vx HA => ?_)
  (refine s_call rfl rfl H HA (term_places a _ _ Lk hb) ?_; intro vx c H HA)
  (refine Z45 ?_; refine Z0 ?_; apply w_nil; apply wx_next; apply wc_block)
  (obtain ⟨vp, rfl⟩ : ∃ x, x = vx := ⟨_, rfl⟩)
  (have H := H.nilR Int  3 1; have HA := HA.add (Vals.nil (α := Int) _))
  refine wc_loopR (α := Int) a.terms.length (fun k v' => [(3, v'), (9, vp), (10, .int .i64 a.terms.length), (11, .int .i64 k)]) (fun k acc => acc = ((a.terms.take k).foldl varsOn []).map Tm.n) 0 [] H Lk Cu Ks (Nat.zero_le _) rfl ?_
  intro k acc vr vals g c hk hp H HA
  have hal : acc.length ≤ k := by
    have h1 := varsOf_len (a.terms.take k)
    rw [hp, List.length_map]
    refine Nat.le_trans h1 ?_
    simp
    try omega
  (focus (apply wc_seq; apply wc_region; refine Z93 (fun hq => ?_) fun hq => ?_; apply w_nil; apply wx_next; apply wc_seq; refine Z18 ?_; apply wc_skip; apply wx_next; apply wc_seq; apply wc_block; apply wc_seq; apply wc_region; rotate_left; apply w_nil; apply wx_next; apply wc_seq; refine Z19 ?_; apply wc_exit; apply wx_exit_then; apply wx_exit_then; apply wx_exit_same; apply wx_next; apply wc_seq; apply wc_region; refine Z0 ?_; refine Z2 ?_; apply w_nil; apply wx_next; apply wc_ret; apply wx_ret_goto; rotate_left))
  · obtain ⟨t, ht⟩ := getq (xs := a.terms) (k := k) (by omega)
    have hstep : (a.terms.take (k + 1)).foldl varsOn [] = varsOn ((a.terms.take k).foldl varsOn []) t := by
      rw [List.take_add_one, ht, List.foldl_append]
      rfl
    (refine Z34 HA fun vx HA => ?_; refine Z38 ?_; refine Z61 fun bx c H HA => ?_; refine Z74 fun c H HA => ?_; apply w_nil; apply wx_next; apply wc_seq; apply wc_seq; apply wc_region; refine Z42 ?_)
    (refine w_freeze H HA ?_; intro c H HA)
    (skip)
    (refine s_call rfl rfl H HA (term_Variable t _) ?_; intro vx c H HP; have hvx := HP.h.1; have HA := HP.cut; subst hvx)
    cases hv : t.isVar
    · (refine Z33 ?_; apply w_nil; apply wx_next; refine Z18 ?_; apply wc_exit; apply wx_exit_then; apply wx_exit_same; apply wx_next; apply wc_region; refine Z46 ?_; refine Z0 ?_; apply w_nil)
      exact wx_loopR (k + 1) H Lk Cu Ks (by omega) (by rw [hstep, hp]; simp [varsOn, hv])
    · (refine Z33 ?_; apply w_nil; apply wx_next; refine Z19 ?_; apply wc_skip; apply wx_next; apply wc_seq; apply wc_seq; apply wc_region; refine Z0 ?_; refine Z62 ?_; refine Z0 ?_; apply w_nil; apply wx_next; apply wc_block)
      have hallv := varsOn_isVar (a.terms.take k) [] (fun _ h => by cases h)
      have hmem := mem_nums hallv hv
      rw [← hp] at hmem
      refine wc_loopN acc.length (fun j => [(3, vr), (5, .pointer (some ⟨bx, 0, none⟩)), (9, vp), (10, .int .i64 a.terms.length), (11, .int .i64 k), (18, vr), (19, .int .i64 acc.length), (20, .int .i64 j)]) (fun j => t.n ∈ acc ↔ t.n ∈ acc.drop j) 0 H HA Ks (Nat.zero_le _) Iff.rfl ?_
      intro j g c hj hpj H HA
      (focus (apply wc_seq; apply wc_region; refine Z93 (fun hq => ?_) fun hq => ?_; apply w_nil; apply wx_next; apply wc_seq; refine Z18 ?_; apply wc_skip; apply wx_next; apply wc_seq; apply wc_block; apply wc_seq; apply wc_region; refine Z63 fun rp hrp => ?_; rotate_left; apply w_nil; apply wx_next; apply wc_seq; refine Z19 ?_; apply wc_exit; apply wx_exit_then; apply wx_exit_then; apply wx_exit_same; apply wx_next; apply wc_region; refine Z0 ?_; refine Z3 ?_; refine Z1 ?_; refine Z56 fun vx c H HA => ?_; refine Z59 fun vx c valsx H HA => ?_; refine Z2 ?_; apply w_nil; apply wx_norm_block; apply wx_next; apply wc_region; refine Z46 ?_; refine Z0 ?_; apply w_nil; rotate_left))
      · obtain ⟨y, hy⟩ := getq (xs := acc) (k := j) (by omega)
        have hdj := drop_get hy
        (focus (refine Z64 ?_; refine Z2 ?_; apply w_nil; apply wx_next; apply wc_seq; apply wc_region; refine Z0 ?_; refine Z3 ?_; refine Z1 ?_; refine Z92 (fun hq => ?_) fun hq => ?_; apply w_nil; apply wx_next; refine Z18 ?_; apply wc_exit; refine Z27 ?_; apply wx_exit_then; apply wx_exit_then; refine Z27 ?_; apply wx_exit_then; apply wx_exit_same; apply wx_next; apply wc_region; refine Z46 ?_; refine Z0 ?_; apply w_nil; rotate_left; apply w_nil; apply wx_next; refine Z19 ?_; apply wc_skip; apply wx_norm_block; apply wx_next; apply wc_region; refine Z46 ?_; refine Z0 ?_; apply w_nil; rotate_left))
        · exact wx_loopR (k + 1) H Lk Cu Ks (by omega) (by
            have : t ∈ (a.terms.take k).foldl varsOn [] := hmem.1 (hpj.2 (by rw [hdj]; simp [*]))
            rw [hstep, hp]; simp [varsOn, hv, this])
        · exact wx_loopN (j + 1) H Cu Ks (by omega) (by rw [hpj, hdj]; simp; intro e; simp_all)
      · have hnm : ¬ t.n ∈ acc := by rw [hpj, List.drop_eq_nil_of_le (by omega)]; simp
        (skip)
        exact wx_loopR (k + 1) H Lk Cu Ks (by omega) (by
          have : ¬ t ∈ (a.terms.take k).foldl varsOn [] := fun h => hnm (hmem.2 h)
          rw [hstep, hp]; simp [varsOn, hv, this])
  · have hp : acc = (varsOf a.terms).map Tm.n := by rw [hp, List.take_of_length_le (by omega)]; rfl
    (refine wx_freezeRow H HA Lk rfl rfl Lt ?_; intro c H HA)
    exact ret_fn H hm (outs1 Tryz.results226 Wh) (by rw [← hp]; exact Lk)
end Go.Proofs.YthkdggoohpgnnaaGreatDoor
/- Contracts: how a clause's variables are numbered, of the program's own. -/
namespace Go.Wk
open Go
def misS (s : Bool × Int) (t : Tm) : Bool × Int := if t.isVar then (s.1 || decide (t.n > s.2), if t.n = s.2 then s.2 + 1 else s.2) else s
theorem misnum_app (l : List Tm) (t : Tm) : ∀ i, misnum (l ++ [t]) i = (misnum l i || !decide (t.n = ((i + l.length : Nat) : Int))) := by
  induction l with
  | nil => intro i; simp [misnum]
  | cons u l ih =>
    intro i
    simp only [List.cons_append, misnum, ih, List.length_cons, Bool.or_assoc]
    rw [show i + 1 + l.length = i + (l.length + 1) by omega]
theorem misS_inv : ∀ (ts acc : List Tm) (s : Bool × Int), (∀ t ∈ acc, t.isVar = true) → s.1 = misnum acc 0 → (s.1 = false → s.2 = acc.length) → (ts.foldl misS s).1 = misnum (ts.foldl varsOn acc) 0
  | [], acc, s, _, h1, _ => h1
  | t :: ts, acc, s, hv, h1, h2 => by
    simp only [List.foldl_cons]
    cases ht : t.isVar with
    | false =>
      have e1 : misS s t = s := by simp [misS, ht]
      have e2 : varsOn acc t = acc := by simp [varsOn, ht]
      rw [e1, e2]
      exact misS_inv ts acc s hv h1 h2
    | true =>
      have ht0 : 0 ≤ t.n := by simp [Tm.isVar] at ht; omega
      by_cases hm : t ∈ acc
      · have e2 : varsOn acc t = acc := by simp [varsOn, ht, hm]
        rw [e2]
        cases hs : s.1 with
        | true => exact misS_inv ts acc _ hv (by simp [misS, ht, hs, ← h1]) (by simp [misS, ht, hs])
        | false =>
          have hl := h2 hs
          obtain ⟨j, hj⟩ := List.getElem?_of_mem hm
          have hjl := (List.getElem?_eq_some_iff.1 hj).1
          have hn := (misnum_false acc 0).1 (by rw [← h1, hs]) j t hj
          have hlt : t.n < s.2 := by rw [hl, hn]; simp; omega
          exact misS_inv ts acc _ hv (by simp [misS, ht, hs, ← h1]; omega) (by simp [misS, ht, hs]; intro _; rw [if_neg (by omega)]; exact hl)
      · have e2 : varsOn acc t = acc ++ [t] := by simp [varsOn, ht, hm]
        rw [e2]
        have hv' : ∀ u ∈ acc ++ [t], u.isVar = true := by
          intro u hu
          simp only [List.mem_append, List.mem_singleton] at hu
          rcases hu with hu | rfl
          · exact hv u hu
          · exact ht
        cases hs : s.1 with
        | true => exact misS_inv ts _ _ hv' (by rw [misnum_app, ← h1, hs]; simp [misS, ht, hs]) (by simp [misS, ht, hs])
        | false =>
          have hl := h2 hs
          have h0 : misnum acc 0 = false := by rw [← h1, hs]
          have hge : ¬ t.n < s.2 := by
            intro hlt
            rw [hl] at hlt
            have hj : t.n.toNat < acc.length := by omega
            have hg : acc[t.n.toNat]? = some (acc[t.n.toNat]'hj) := List.getElem?_eq_getElem hj
            have hn := (misnum_false acc 0).1 h0 _ _ hg
            have hmem := List.mem_of_getElem? hg
            have : acc[t.n.toNat]'hj = t := (var_n (hv _ hmem) ht).1 (by rw [hn]; simp; omega)
            rw [this] at hmem
            exact hm hmem
          refine misS_inv ts _ _ hv' ?_ ?_
          · rw [misnum_app, h0]
            simp only [misS, ht, hs, if_true, Bool.false_or, Nat.zero_add, ← hl]
            rw [Bool.eq_iff_iff]
            simp
            omega
          · intro hf
            simp only [misS, ht, hs, if_true, Bool.false_or, decide_eq_false_iff_not] at hf ⊢
            have he : t.n = s.2 := by omega
            rw [if_pos he, hl]
            simp
def misD (s : Bool × Int) (_ : Tm) : Prop := 0 ≤ s.2 ∧ s.2 < 4611686018427387904
theorem mis_doms : ∀ (ts : List Tm) (s : Bool × Int), 0 ≤ s.2 → s.2 + ts.length < 4611686018427387904 → Doms misD misS s ts
  | [], _, _, _ => trivial
  | t :: ts, s, h0, h => by
    simp only [List.length_cons] at h
    refine ⟨⟨h0, by omega⟩, mis_doms ts _ ?_ ?_⟩
    · unfold misS; split
      · dsimp only; split <;> omega
      · exact h0
    · unfold misS; split
      · dsimp only; split <;> omega
      · omega
end Go.Wk
namespace Go.Proofs.YthkdggoohpgnnaaGreatDoor
open Go Go.Wk
theorem mis_clo (pb pn : Nat) : CloU Tryz.prog 229 [.pointer (some ⟨pb, 0, none⟩), .pointer (some ⟨pn, 0, none⟩)] (fun s => [.obj pb (.cells #[.bool s.1] 4 (0, 0)), .obj pn (.cells #[.int .i64 s.2] 3 (0, 0))]) Tt misD misS := ⟨by
  intro s t c hF hd
  refine CnT.of Tryz.func229 Tryz.ntmps229 rfl rfl fun c0 L0 A0 _ H HA => ?_
  obtain ⟨b, m⟩ := s
  obtain ⟨hd0, hd1⟩ := hd
  dsimp only at hd0 hd1
  have H : Owns c0 (.obj pb (.cells [.bool b].toArray 4 (0, 0)) :: .obj pn (.cells [.int .i64 m].toArray 3 (0, 0)) :: L0) c := H
  (apply wc_seq; apply wc_region; refine Z31 fun bx c H HA => ?_; apply w_nil; apply wx_next; apply wc_seq; apply wc_seq; apply wc_region; refine Z7 ?_)
  (refine s_call rfl rfl H HA (term_Variable t _) ?_; intro vx c H HP; have hvx := HP.h.1; have HA := HP.cut; subst hvx)
  cases hv : t.isVar
  · (refine Z33 ?_; apply w_nil; apply wx_next; refine Z18 ?_; apply wc_ret; apply wx_ret_then)
    have he : misS (b, m) t = (b, m) := by simp [misS, hv]
    rw [he]
    exact ret_fnT H Ca (outs0 rfl) trivial
  · cases b
    · (focus (refine Z33 ?_; apply w_nil; apply wx_next; refine Z19 ?_; apply wc_skip; apply wx_next; apply wc_seq; apply wc_region; refine Z41 ?_; refine Z0 ?_; refine Z4 ?_; refine Z3 ?_; refine Z4 ?_; refine Z1 ?_; refine Z4 ?_; refine Z41 ?_; refine Z4 ?_; refine Z96 (fun hq => ?_) fun hq => ?_; refine Z30 ?_; refine Z75 fun c H HA => ?_; apply w_nil; apply wx_next; apply wc_seq; apply wc_region; refine Z3 ?_; refine Z1 ?_; refine Z41 ?_; refine Z92 (fun hq => ?_) fun hq => ?_; apply w_nil; apply wx_next; refine Z18 ?_; apply wc_region; refine Z41 ?_; refine Z48 ?_; refine Z77 fun c H HA => ?_; apply w_nil; rotate_left; apply w_nil; apply wx_next; refine Z19 ?_; apply wc_skip; rotate_left; refine Z30 ?_; refine Z75 fun c H HA => ?_; apply w_nil; apply wx_next; apply wc_seq; apply wc_region; refine Z3 ?_; refine Z1 ?_; refine Z41 ?_; refine Z92 (fun hq => ?_) fun hq => ?_; apply w_nil; apply wx_next; refine Z18 ?_; apply wc_region; refine Z41 ?_; refine Z48 ?_; refine Z77 fun c H HA => ?_; apply w_nil; rotate_left; apply w_nil; apply wx_next; refine Z19 ?_; apply wc_skip; rotate_left))
      all_goals
        refine norm_fnT ?_ Ca (outs0 rfl) trivial
        simp only [misS, hv, if_true, *, Bool.false_or, decide_true, decide_false]
        first | exact H | exact H.swap | (exfalso; omega) | (rw [show decide (m > m) = false by simp]; exact H.swap)
    · (focus (refine Z33 ?_; apply w_nil; apply wx_next; refine Z19 ?_; apply wc_skip; apply wx_next; apply wc_seq; apply wc_region; refine Z41 ?_; refine Z0 ?_; refine Z5 ?_; refine Z5 ?_; refine Z5 ?_; refine Z5 ?_; refine Z8 ?_; refine Z75 fun c H HA => ?_; apply w_nil; apply wx_next; apply wc_seq; apply wc_region; refine Z3 ?_; refine Z1 ?_; refine Z41 ?_; refine Z92 (fun hq => ?_) fun hq => ?_; apply w_nil; apply wx_next; refine Z18 ?_; apply wc_region; refine Z41 ?_; refine Z48 ?_; refine Z77 fun c H HA => ?_; apply w_nil; rotate_left; apply w_nil; apply wx_next; refine Z19 ?_; apply wc_skip; rotate_left))
      all_goals
        refine norm_fnT ?_ Ca (outs0 rfl) trivial
        simp only [misS, hv, if_true, *, Bool.true_or]
        first | exact H | exact H.swap⟩
theorem clause_misnumbered (x : Cl) (u : Value) (c : Cx) (h : Ag x u c) (hl : x.terms.length < 1099511627776) : Cn Tryz.prog 223 [u] c (fun v _ => v = .int .i64 (if misnum (varsOf x.terms) 0 then 35 else 0)) := by
  refine Cn.of Tryz.func223 Tryz.ntmps223 rfl rfl fun hm H HA => ?_
  have HA := HA.add h
  (apply wc_seq; apply wc_region)
  (refine s_boxG rfl rfl Lk H HA ?_; intro p c H HA)
  (refine Z2 ?_; apply w_nil; apply wx_next; apply wc_seq; apply wc_region)
  (refine s_alloc rfl (by conv => lhs; whnf) H HA ?_; intro b3 c H HA)
  (refine s_alloc rfl (by conv => lhs; whnf) H HA ?_; intro b4 c H HA)
  (refine Z77 fun c H HA => ?_; refine Z77 fun c H HA => ?_; apply w_nil; apply wx_next; apply wc_seq; apply wc_region; refine Z39 HA fun vx HA => ?_)
  have hd := mis_doms x.terms (false, 0) (Int.le_refl _) (by simp; omega)
  (refine s_makeFunc (vs := [.pointer (some ⟨b4, 0, none⟩), .pointer (some ⟨b3, 0, none⟩)]) rfl rfl ?_)
  (refine s_callT (pre := [.obj b4 (.cells #[.bool false] 4 (0, 0)), .obj b3 (.cells #[.int .i64 0] 3 (0, 0))]) (post := [.obj b4 (.cells #[.bool (x.terms.foldl misS (false, 0)).1] 4 (0, 0)), .obj b3 (.cells #[.int .i64 (x.terms.foldl misS (false, 0)).2] 3 (0, 0))]) rfl rfl H HA (clause_terms (mis_clo b4 b3) (false, 0) x _ _ trivial Lk hd) ?_; intro vx c H HA)
  have H : Owns _ [.obj b4 (.cells [.bool (x.terms.foldl misS (false, 0)).1].toArray 4 (0, 0)), .obj b3 (.cells [.int .i64 (x.terms.foldl misS (false, 0)).2].toArray 3 (0, 0))] _ := H
  (apply w_nil; apply wx_next; apply wc_seq; apply wc_region; refine Z41 ?_)
  (refine s_call rfl rfl H HA (clause_when _ _ _) ?_; intro vx c H HP; have hvx := HP.h.1; have HA := HP.cut; subst hvx)
  (refine Z2 ?_; apply w_nil; apply wx_next; apply wc_ret)
  exact ret_fn H hm (outs1 Tryz.results223 Wh) (by
    have := misS_inv x.terms [] (false, 0) (fun _ h => by cases h) rfl (fun _ => rfl)
    rw [this]
    rfl)
end Go.Proofs.YthkdggoohpgnnaaGreatDoor
/- Contracts: whether a clause is safe, of the program's own. -/
namespace Go.Wk
open Go
def unsS (ns : List Int) (b : Bool) (t : Tm) : Bool := b || (t.isVar && !decide (t.n ∈ ns))
def Cl.bodyNs (x : Cl) : List Int := x.body.flatMap fun a => (varsOf a.terms).map Tm.n
theorem flatMap_len {α β γ : Type} {f : α → List β} {g : α → List γ} (h : ∀ a, (f a).length ≤ (g a).length) : ∀ l : List α, (l.flatMap f).length ≤ (l.flatMap g).length
  | [] => Nat.le_refl _
  | a :: l => by
    have := flatMap_len h l
    have h2 := h a
    simp only [List.flatMap_cons, List.length_append]
    omega
theorem bodyNs_take (x : Cl) (k : Nat) : ((x.body.take k).flatMap fun a => (varsOf a.terms).map Tm.n).length ≤ x.bodyTerms.length := by
  refine Nat.le_trans (flatMap_len (g := At0.terms) (fun a => by rw [List.length_map]; exact varsOf_len _) _) ?_
  have : x.bodyTerms = (x.body.take k).flatMap At0.terms ++ (x.body.drop k).flatMap At0.terms := by
    rw [← List.flatMap_append, List.take_append_drop]
    rfl
  rw [this, List.length_append]
  omega
theorem flatMap_mem_len {α β : Type} {f : α → List β} : ∀ {l : List α} {a : α}, a ∈ l → (f a).length ≤ (l.flatMap f).length
  | b :: l, a, h => by
    simp only [List.flatMap_cons, List.length_append]
    rcases List.mem_cons.1 h with rfl | h
    · omega
    · have := flatMap_mem_len (f := f) h
      omega
theorem uns_doms (ns : List Int) : ∀ (ts : List Tm) (b : Bool), Doms (fun _ _ => True) (unsS ns) b ts
  | [], _ => trivial
  | _ :: ts, b => ⟨trivial, uns_doms ns ts _⟩
theorem uns_any (ns : List Int) : ∀ (ts : List Tm) (b : Bool), ts.foldl (unsS ns) b = (b || ts.any fun t => t.isVar && !decide (t.n ∈ ns))
  | [], b => by simp
  | t :: ts, b => by
    simp only [List.foldl_cons, uns_any ns ts, List.any_cons, unsS, Bool.or_assoc]
theorem mem_varsOf' : ∀ (ts acc : List Tm) (t : Tm), t ∈ ts.foldl varsOn acc ↔ t ∈ acc ∨ (t ∈ ts ∧ t.isVar = true)
  | [], acc, t => by simp
  | u :: ts, acc, t => by
    rw [List.foldl_cons, mem_varsOf' ts]
    unfold varsOn
    split
    · rename_i hc
      simp only [Bool.and_eq_true, Bool.not_eq_true', decide_eq_false_iff_not] at hc
      simp only [List.mem_append, List.mem_cons, List.not_mem_nil, or_false]
      constructor
      · rintro ((h | rfl) | h)
        · exact .inl h
        · exact .inr ⟨.inl rfl, hc.1⟩
        · exact .inr ⟨.inr h.1, h.2⟩
      · rintro (h | ⟨rfl | h, hv⟩)
        · exact .inl (.inl h)
        · exact .inl (.inr rfl)
        · exact .inr ⟨h, hv⟩
    · rename_i hc
      simp only [Bool.and_eq_true, Bool.not_eq_true', decide_eq_false_iff_not, not_and, Classical.not_not] at hc
      simp only [List.mem_cons]
      constructor
      · rintro (h | h)
        · exact .inl h
        · exact .inr ⟨.inr h.1, h.2⟩
      · rintro (h | ⟨rfl | h, hv⟩)
        · exact .inl h
        · exact .inl (hc hv)
        · exact .inr ⟨h, hv⟩
theorem mem_bodyNs {x : Cl} {t : Tm} (hv : t.isVar = true) : t.n ∈ x.bodyNs ↔ t ∈ x.bodyTerms := by
  unfold Cl.bodyNs Cl.bodyTerms
  simp only [List.mem_flatMap, List.mem_map]
  constructor
  · rintro ⟨a, ha, u, hu, e⟩
    have := (mem_varsOf' a.terms [] u).1 hu
    simp at this
    exact ⟨a, ha, (var_n this.2 hv).1 e ▸ this.1⟩
  · rintro ⟨a, ha, ht⟩
    exact ⟨a, ha, t, (mem_varsOf' a.terms [] t).2 (.inr ⟨ht, hv⟩), rfl⟩
theorem uns_eq (x : Cl) : ((x.head.terms ++ x.testTerms).foldl (unsS x.bodyNs) false) = (varsOf (x.head.terms ++ x.testTerms)).any fun t => !decide (t ∈ x.bodyTerms) := by
  rw [uns_any, Bool.false_or, Bool.eq_iff_iff, List.any_eq_true, List.any_eq_true]
  constructor
  · rintro ⟨t, ht, h⟩
    simp only [Bool.and_eq_true, Bool.not_eq_true', decide_eq_false_iff_not] at h
    exact ⟨t, (mem_varsOf' _ [] t).2 (.inr ⟨ht, h.1⟩), by simpa using fun hm => h.2 ((mem_bodyNs h.1).2 hm)⟩
  · rintro ⟨t, ht, h⟩
    have := (mem_varsOf' _ [] t).1 ht
    simp only [List.not_mem_nil, false_or] at this
    exact ⟨t, this.1, by simp only [Bool.and_eq_true, this.2, true_and]; simpa using fun hm => (by simpa using h : ¬ t ∈ x.bodyTerms) ((mem_bodyNs this.2).1 hm)⟩
end Go.Wk
namespace Go.Proofs.YthkdggoohpgnnaaGreatDoor
open Go Go.Wk
theorem uns_clo (pb ps : Nat) (ns : List Int) (v : Value) : CloU Tryz.prog 227 [.pointer (some ⟨pb, 0, none⟩), .pointer (some ⟨ps, 0, none⟩)] (fun b => [.obj pb (.cells #[.bool b] 4 (0, 0))]) (fun c => Box ps [v] c ∧ Sl v ns c) (fun _ _ => True) (unsS ns) := ⟨by
  intro b t c hF hd
  refine CnT.of Tryz.func227 Tryz.ntmps227 rfl rfl fun c0 L0 A0 _ H HA => ?_
  have HA := (HA.add hF.1).add hF.2
  have H : Owns c0 (.obj pb (.cells [.bool b].toArray 4 (0, 0)) :: L0) c := H
  cases b
  · (apply wc_seq; apply wc_region; refine Z31 fun bx c H HA => ?_; apply w_nil; apply wx_next; apply wc_region; refine Z41 ?_; refine Z0 ?_; refine Z4 ?_; refine Z7 ?_; refine Z4 ?_)
    (refine s_call rfl rfl H HA (term_Variable t _) ?_; intro vx c H HP; have hvx := HP.h.1; have HA := HP.cut; subst hvx)
    cases hv : t.isVar
    · (refine Z4 ?_; refine Z0 ?_; refine Z5 ?_; refine Z5 ?_; refine Z5 ?_; refine Z5 ?_; refine Z5 ?_; refine Z4 ?_; refine Z30 ?_; refine Z30 ?_; refine Z75 fun c H HA => ?_; apply w_nil)
      refine norm_fnT ?_ Ca (outs0 rfl) trivial
      simp only [unsS, hv, Bool.false_and, Bool.false_or]
      exact H
    · (refine Z4 ?_; refine Z0 ?_; refine Z4 ?_; refine Z1 ?_; refine Z4 ?_; refine Z3 ?_; refine Z4 ?_; refine Z1 ?_; refine Z4 ?_)
      (refine s_call rfl rfl H HA (Contains_int ns _ _ _ Lk) ?_; intro vx c H HP; have hvx := HP.h.1; have HA := HP.cut; subst hvx)
      (refine Z4 ?_; refine Z33 ?_; refine Z4 ?_; refine Z8 ?_; refine Z30 ?_; refine Z75 fun c H HA => ?_; apply w_nil)
      refine norm_fnT ?_ Ca (outs0 rfl) trivial
      simp only [unsS, hv, Bool.true_and, Bool.false_or]
      exact H
  · (apply wc_seq; apply wc_region; refine Z31 fun bx c H HA => ?_; apply w_nil; apply wx_next; apply wc_region; refine Z41 ?_; refine Z0 ?_; refine Z5 ?_; refine Z5 ?_; refine Z5 ?_; refine Z6 ?_; refine Z6 ?_; refine Z6 ?_; refine Z6 ?_; refine Z6 ?_; refine Z5 ?_; refine Z8 ?_; refine Z75 fun c H HA => ?_; apply w_nil)
    refine norm_fnT ?_ Ca (outs0 rfl) trivial
    simp only [unsS, Bool.true_or]
    exact H⟩
theorem clause_unsafe (x : Cl) (u : Value) (c : Cx) (h : Ag x u c) (hb : x.terms.length < 1099511627776) : Cn Tryz.prog 222 [u] c (fun v _ => v = .int .i64 (if (varsOf (x.head.terms ++ x.testTerms)).any (fun t => !decide (t ∈ x.bodyTerms)) then 34 else 0)) := by
  refine Cn.of Tryz.func222 Tryz.ntmps222 rfl rfl fun hm H HA => ?_
  have hlb : x.body.length < 1099511627776 := by obtain ⟨cs, rfl, v, v1, v2, rfl, h⟩ := h; exact h.2.1.lim
  have hlt : x.tests.length < 1099511627776 := by obtain ⟨cs, rfl, v, v1, v2, rfl, h⟩ := h; exact h.2.2.lim
  have hbt : x.bodyTerms.length < 1099511627776 := by simp only [Cl.terms, List.length_append] at hb; omega
  have HA := HA.add h
  (apply wc_seq; apply wc_region)
  (refine s_boxG rfl rfl Lk H HA ?_; intro p c H HA)
  (refine Z2 ?_; apply w_nil; apply wx_next; apply wc_seq; apply wc_region)
  (refine s_alloc rfl (by conv => lhs; whnf) H HA ?_; intro b3 c H HA)
  (apply w_nil; apply wx_next; apply wc_seq; apply wc_seq; apply wc_region; refine Z35 HA fun vx HA => ?_; refine Z37 HA fun vx HA => ?_; refine Z45 ?_; refine Z0 ?_; apply w_nil; apply wx_next; apply wc_block)
  (obtain ⟨vl, rfl⟩ : ∃ x, x = vx := ⟨_, rfl⟩)
  have H := H.nilR Int 3 1
  refine wc_loopG (σ := Nat × List Int × Value × List (List Value)) (fun y => x.body.length - y.1) (fun y => [(1, p), (3, .pointer (some ⟨b3, 0, none⟩)), (11, vl), (12, .int .i64 x.body.length), (13, .int .i64 y.1)]) (fun y => y.1 ≤ x.body.length ∧ y.2.1 = (x.body.take y.1).flatMap fun a => (varsOf a.terms).map Tm.n)
    (fun y => [.row y.2.2.1 3 1 y.2.1.length y.2.2.2.flatten, .obj b3 (.cells [y.2.2.1].toArray 80 (0, 0))]) (fun y c => Vals y.2.2.2 y.2.1 c) (0, [], .slice none 0 0, []) H HA (Vals.nil _) Ks ⟨Nat.zero_le _, rfl⟩ ?_
  intro y g c hp H HA
  obtain ⟨k, acc, vr, vals⟩ := y
  obtain ⟨hk, hacc⟩ := hp
  dsimp only at hk hacc H HA ⊢
  (focus (apply wc_seq; apply wc_region; refine Z93 (fun hq => ?_) fun hq => ?_; apply w_nil; apply wx_next; apply wc_seq; refine Z18 ?_; apply wc_skip; apply wx_next; apply wc_seq; apply wc_block; apply wc_seq; apply wc_region; rotate_left; apply w_nil; apply wx_next; apply wc_seq; refine Z19 ?_; apply wc_exit; apply wx_exit_then; apply wx_exit_then; apply wx_exit_same; apply wx_next; apply wc_seq; apply wc_region; refine Z61 fun bx c H HA => ?_; refine Z75 fun c H HA => ?_; apply w_nil; apply wx_next; apply wc_seq; apply wc_region; rotate_left))
  · obtain ⟨t, ht⟩ := getq (xs := x.body) (k := k) (by omega)
    have hta : t.args.length + 1 ≤ x.bodyTerms.length := flatMap_mem_len (f := At0.terms) (List.mem_of_getElem? ht)
    have hnx := bodyNs_take x (k + 1)
    rw [List.take_add_one, ht] at hnx
    simp only [Option.toList_some, List.flatMap_append, List.flatMap_cons, List.flatMap_nil, List.append_nil, ← hacc, List.length_append] at hnx
    (refine Z34 HA fun vx HA => ?_; refine Z39 HA fun vx HA => ?_; refine Z61 fun bx c H HA => ?_)
    (refine s_storeG (α := At0) rfl rfl Lk rfl rfl H HA ?_; intro c H HA)
    (apply w_nil; apply wx_next)
    (refine dw_start H HA ?_)
    (repeat (refine Dc ?_))
    (apply dw_cons; (focus ((intro B _ Lx c H HA; (repeat (first | (intro vx hx; have hx2 : vx = _ := hx; clear hx; subst hx2) | (intro vx hx; have HA := HA.addSF hx; clear hx) | (intro vx hx; have HA := HA.add hx; clear hx) | intro vx)); change W _ _ _ _ _ _ _); refine s_call rfl rfl H HA (term_Vars t _ _ Lk (by omega)) ?_; intro vx c H HP; exact w_nil (pq_rel H (Cp) HP.h.1))); exact inferInstance)
    (repeat (refine Dc ?_))
    (refine dw_done mixed H HA rfl (by kernel_rfl) ?_; clear H HA; intro c H HA; (repeat (first | (intro vx hx; have hx2 : vx = _ := hx; clear hx; subst hx2) | (intro vx hx; have HA := HA.addSF hx; clear hx) | (intro vx hx; have HA := HA.add hx; clear hx) | intro vx)); change W _ _ _ _ _ _ _)
    (refine Z59 fun vx c valsx H HA => ?_; refine Z77 fun c H HA => ?_; apply w_nil; apply wx_norm_block; apply wx_next; apply wc_region; refine Z46 ?_; refine Z0 ?_; apply w_nil)
    exact wx_loopG ((k + 1, acc ++ (varsOf t.terms).map Tm.n, vx, valsx)) H.swap Cu Lk Ks (by simp; omega) ⟨by simp; omega, by
      rw [List.take_add_one, ht]
      simp [hacc]⟩
  · have hacc : acc = x.bodyNs := by rw [hacc, List.take_of_length_le (by omega)]; rfl
    have hnl : acc.length ≤ x.bodyTerms.length := by rw [hacc]; have := bodyNs_take x x.body.length; rwa [List.take_of_length_le (Nat.le_refl _)] at this
    (refine w_freezeRow H.swap HA Lk rfl rfl (by simp only [LIM]; omega) ?_; intro c H HA)
    (refine w_freeze H.swap HA ?_; intro c H HA)
    rw [hacc] at HA
    (obtain ⟨b6, rfl⟩ : ∃ x, x = bx := ⟨_, rfl⟩)
    (refine s_makeFunc (vs := [.pointer (some ⟨b6, 0, none⟩), .pointer (some ⟨b3, 0, none⟩)]) rfl rfl ?_)
    (refine Z2 ?_; apply w_nil; apply wx_next; apply wc_seq; apply wc_region; refine Z35 HA fun vx HA => ?_; refine Z39 HA fun vx HA => ?_; refine Z0 ?_)
    have hF : (fun c => Box b3 [vr] c ∧ Sl vr x.bodyNs c) _ := ⟨Lk, Lk⟩
    (refine s_callT (pre := [.obj b6 (.cells #[.bool false] 4 (0, 0))]) (post := [.obj b6 (.cells #[.bool (x.head.terms.foldl (unsS x.bodyNs) false)] 4 (0, 0))]) rfl rfl H HA (clause_atomTerms (uns_clo b6 b3 x.bodyNs vr) false x.head _ _ hF Lk (uns_doms _ _ _)) ?_; intro vx c H HA)
    have H : Owns _ [.obj b6 (.cells [.bool (x.head.terms.foldl (unsS x.bodyNs) false)].toArray 4 (0, 0))] _ := H
    have huq := uns_eq x
    rw [List.foldl_append] at huq
    generalize x.head.terms.foldl (unsS x.bodyNs) false = z0 at H huq
    (apply w_nil; apply wx_next; apply wc_seq; apply wc_seq; apply wc_region; refine Z35 HA fun vx HA => ?_; refine Z37 HA fun vx HA => ?_; refine Z45 ?_; refine Z0 ?_; apply w_nil; apply wx_next; apply wc_block)
    (obtain ⟨vt, rfl⟩ : ∃ x, x = vx := ⟨_, rfl⟩)
    refine wc_loopG (σ := Nat × Bool) (fun y => x.tests.length - y.1) (fun y => [(6, .pointer (some ⟨b6, 0, none⟩)), (7, .func (.func 227) #[] [.pointer (some ⟨b6, 0, none⟩), .pointer (some ⟨b3, 0, none⟩)].toArray), (28, vt), (29, .int .i64 x.tests.length), (30, .int .i64 y.1)]) (fun y => y.1 ≤ x.tests.length ∧ ((x.tests.drop y.1).flatMap fun t => [t.l, t.r]).foldl (unsS x.bodyNs) y.2 = x.testTerms.foldl (unsS x.bodyNs) z0)
      (fun y => [.obj b6 (.cells [.bool y.2].toArray 4 (0, 0))]) (fun _ => Tt) (0, z0) H HA trivial Ks ⟨Nat.zero_le _, rfl⟩ ?_
    intro y g c hp H HA
    obtain ⟨k, z⟩ := y
    obtain ⟨hk, hp⟩ := hp
    dsimp only at hk hp H HA ⊢
    (focus (apply wc_seq; apply wc_region; refine Z93 (fun hq => ?_) fun hq => ?_; apply w_nil; apply wx_next; apply wc_seq; refine Z18 ?_; apply wc_skip; apply wx_next; apply wc_seq; apply wc_block; apply wc_seq; apply wc_region; rotate_left; apply w_nil; apply wx_next; apply wc_seq; refine Z19 ?_; apply wc_exit; apply wx_exit_then; apply wx_exit_then; apply wx_exit_same; apply wx_next; apply wc_seq; apply wc_region; refine Z41 ?_; rotate_left))
    · obtain ⟨t, ht⟩ := getq (xs := x.tests) (k := k) (by omega)
      have hdr := drop_get ht
      rw [hdr, List.flatMap_cons] at hp
      (refine Z34 HA fun vx HA => ?_; refine Z38 ?_; refine Z61 fun bx c H HA => ?_; refine Z74 fun c H HA => ?_; apply w_nil; apply wx_next; apply wc_seq; apply wc_region; refine Z0 ?_; refine Z3 ?_; refine Z42 ?_)
      (refine w_freeze H HA ?_; intro c H HA)
      have hF : (fun c => Box b3 [vr] c ∧ Sl vr x.bodyNs c) _ := ⟨Lk, Lk⟩
      (refine s_callVT (pre := [.obj b6 (.cells #[.bool z] 4 (0, 0))]) (post := [.obj b6 (.cells #[.bool (unsS x.bodyNs z t.l)] 4 (0, 0))]) rfl rfl rfl H HA ((uns_clo b6 b3 x.bodyNs vr).call z t.l _ hF trivial) ?_; intro vx c H HA)
      (apply w_nil; apply wx_next; apply wc_region; refine Z0 ?_; refine Z3 ?_; refine Z7 ?_)
      have hF : (fun c => Box b3 [vr] c ∧ Sl vr x.bodyNs c) _ := ⟨Lk, Lk⟩
      (refine s_callVT (pre := [.obj b6 (.cells #[.bool (unsS x.bodyNs z t.l)] 4 (0, 0))]) (post := [.obj b6 (.cells #[.bool (unsS x.bodyNs (unsS x.bodyNs z t.l) t.r)] 4 (0, 0))]) rfl rfl rfl H HA ((uns_clo b6 b3 x.bodyNs vr).call (unsS x.bodyNs z t.l) t.r _ hF trivial) ?_; intro vx c H HA)
      (apply w_nil; apply wx_norm_block; apply wx_next; apply wc_region; refine Z46 ?_; refine Z0 ?_; apply w_nil)
      exact wx_loopG ((k + 1, unsS x.bodyNs (unsS x.bodyNs z t.l) t.r)) H Cu trivial Ks (by simp; omega) ⟨by simp; omega, hp⟩
    · have e0 : x.tests.drop k = [] := List.drop_eq_nil_of_le (by omega)
      rw [e0] at hp
      have hz : z = x.testTerms.foldl (unsS x.bodyNs) z0 := hp
      rw [← hz] at huq
      (skip)
      (refine s_call rfl rfl H HA (clause_when _ _ _) ?_; intro vx c H HP; have hvx := HP.h.1; have HA := HP.cut; subst hvx)
      (refine Z2 ?_; apply w_nil; apply wx_next; apply wc_ret)
      exact ret_fn H hm (outs1 Tryz.results222 Wh) (by rw [huq])
end Go.Proofs.YthkdggoohpgnnaaGreatDoor
