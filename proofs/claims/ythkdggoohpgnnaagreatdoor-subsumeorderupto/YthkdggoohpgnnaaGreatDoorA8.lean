/- a part of the proof: lemmas on walks, on plain data, contracts of functions. -/
import Derived.Test.YthkdggoohpgnnaaGreatDoorA1
import Derived.Test.YthkdggoohpgnnaaGreatDoorA4
import Derived.Test.YthkdggoohpgnnaaGreatDoorA6
import Derived.Test.YthkdggoohpgnnaaGreatDoorA7
set_option linter.all false
/- Contracts: kinds of terms, comparison. -/
namespace Go.Wk
open Go
theorem Cn.same {P : Program} {g : FuncId} {args : List Value} {c : Cx} {v : Value} (h : Calls P g args.toArray c.w fun e w' => e = .returned v ∧ w' = c.w) : Cn P g args c (fun u _ => u = v) :=
  fun _ => h.mono fun _ _ ⟨he, hw⟩ => ⟨v, he, hw ▸ Ext0.refl _, rfl⟩
end Go.Wk
namespace Go.Proofs.YthkdggoohpgnnaaGreatDoor
open Go Go.Wk
theorem mixed : Tryz.prog.follows .mixedOrders = true := by kernel_rfl
theorem term_Variable (t : Tm) (c : Cx) : Cn Tryz.prog 109 [.agg t.cs.toArray] c (fun v _ => v = .bool t.isVar) := by
  refine Cn.of Tryz.func109 Tryz.ntmps109 rfl rfl fun hm H HA => ?_
  (focus (apply wc_seq; apply wc_region; refine Z31 fun bx c H HA => ?_; refine Z2 ?_; apply w_nil; apply wx_next; apply wc_seq; apply wc_region; refine Z3 ?_; refine Z1 ?_; refine Z92 (fun hq => ?_) fun hq => ?_; refine Z0 ?_; refine Z4 ?_; refine Z3 ?_; refine Z4 ?_; refine Z1 ?_; refine Z4 ?_; refine Z97 (fun hq => ?_) fun hq => ?_; refine Z8 ?_; refine Z0 ?_; refine Z4 ?_; refine Z3 ?_; refine Z4 ?_; refine Z1 ?_; refine Z4 ?_; refine Z98 (fun hq => ?_) fun hq => ?_; refine Z8 ?_; refine Z2 ?_; apply w_nil; apply wx_next; apply wc_ret; rotate_left; refine Z8 ?_; refine Z2 ?_; apply w_nil; apply wx_next; apply wc_ret; rotate_left; refine Z8 ?_; refine Z0 ?_; refine Z5 ?_; refine Z5 ?_; refine Z5 ?_; refine Z30 ?_; refine Z2 ?_; apply w_nil; apply wx_next; apply wc_ret; rotate_left; refine Z0 ?_; refine Z5 ?_; refine Z5 ?_; refine Z5 ?_; refine Z30 ?_; refine Z0 ?_; refine Z5 ?_; refine Z5 ?_; refine Z5 ?_; refine Z30 ?_; refine Z2 ?_; apply w_nil; apply wx_next; apply wc_ret; rotate_left))
  all_goals exact ret_fn H hm (outs1 Tryz.results109 Wh) (by simp [Tm.isVar, *])
theorem ref02_Variable (t : Tm) (c : Cx) : Cn Tryz.prog 26 [.agg t.cs.toArray] c (fun v _ => v = .bool t.isVar) := by
  refine Cn.of Tryz.func26 Tryz.ntmps26 rfl rfl fun hm H HA => ?_
  (focus (apply wc_seq; apply wc_region; refine Z31 fun bx c H HA => ?_; refine Z2 ?_; apply w_nil; apply wx_next; apply wc_seq; apply wc_region; refine Z3 ?_; refine Z1 ?_; refine Z92 (fun hq => ?_) fun hq => ?_; refine Z0 ?_; refine Z4 ?_; refine Z3 ?_; refine Z4 ?_; refine Z1 ?_; refine Z4 ?_; refine Z97 (fun hq => ?_) fun hq => ?_; refine Z8 ?_; refine Z0 ?_; refine Z4 ?_; refine Z3 ?_; refine Z4 ?_; refine Z1 ?_; refine Z4 ?_; refine Z98 (fun hq => ?_) fun hq => ?_; refine Z8 ?_; refine Z2 ?_; apply w_nil; apply wx_next; apply wc_ret; rotate_left; refine Z8 ?_; refine Z2 ?_; apply w_nil; apply wx_next; apply wc_ret; rotate_left; refine Z8 ?_; refine Z0 ?_; refine Z5 ?_; refine Z5 ?_; refine Z5 ?_; refine Z30 ?_; refine Z2 ?_; apply w_nil; apply wx_next; apply wc_ret; rotate_left; refine Z0 ?_; refine Z5 ?_; refine Z5 ?_; refine Z5 ?_; refine Z30 ?_; refine Z0 ?_; refine Z5 ?_; refine Z5 ?_; refine Z5 ?_; refine Z30 ?_; refine Z2 ?_; apply w_nil; apply wx_next; apply wc_ret; rotate_left))
  all_goals exact ret_fn H hm (outs1 Tryz.results26 Wh) (by simp [Tm.isVar, *])
theorem term_Const (t : Tm) (c : Cx) : Cn Tryz.prog 134 [.agg t.cs.toArray] c (fun v _ => v = .bool t.isConst) := by
  refine Cn.of Tryz.func134 Tryz.ntmps134 rfl rfl fun hm H HA => ?_
  (focus (apply wc_seq; apply wc_region; refine Z31 fun bx c H HA => ?_; refine Z2 ?_; apply w_nil; apply wx_next; apply wc_seq; apply wc_seq; apply wc_region; refine Z3 ?_; refine Z1 ?_; apply w_nil; apply wx_next; apply wc_block; apply wc_seq; apply wc_region; refine Z92 (fun hq => ?_) fun hq => ?_; refine Z2 ?_; apply w_nil; apply wx_next; refine Z18 ?_; apply wc_seq; apply wc_region; refine Z3 ?_; refine Z1 ?_; refine Z98 (fun hq => ?_) fun hq => ?_; refine Z2 ?_; apply w_nil; apply wx_next; apply wc_ret; apply wx_ret_block; apply wx_ret_then; rotate_left; refine Z2 ?_; apply w_nil; apply wx_next; apply wc_ret; apply wx_ret_block; apply wx_ret_then; rotate_left; refine Z2 ?_; apply w_nil; apply wx_next; refine Z19 ?_; apply wc_seq; apply wc_region; refine Z92 (fun hq => ?_) fun hq => ?_; refine Z2 ?_; apply w_nil; apply wx_next; refine Z18 ?_; apply wc_seq; apply wc_region; refine Z3 ?_; refine Z1 ?_; refine Z92 (fun hq => ?_) fun hq => ?_; refine Z0 ?_; refine Z4 ?_; refine Z3 ?_; refine Z4 ?_; refine Z1 ?_; refine Z4 ?_; refine Z43 ?_; refine Z4 ?_; refine Z95 (fun hq => ?_) fun hq => ?_; refine Z8 ?_; refine Z2 ?_; apply w_nil; apply wx_next; apply wc_ret; apply wx_ret_block; apply wx_ret_then; rotate_left; refine Z8 ?_; refine Z2 ?_; apply w_nil; apply wx_next; apply wc_ret; apply wx_ret_block; apply wx_ret_then; rotate_left; refine Z0 ?_; refine Z5 ?_; refine Z5 ?_; refine Z5 ?_; refine Z5 ?_; refine Z30 ?_; refine Z2 ?_; apply w_nil; apply wx_next; apply wc_ret; apply wx_ret_block; apply wx_ret_then; rotate_left; refine Z2 ?_; apply w_nil; apply wx_next; refine Z19 ?_; apply wc_skip; apply wx_norm_block; apply wx_next; apply wc_seq; apply wc_region; refine Z2 ?_; apply w_nil; apply wx_next; apply wc_ret; rotate_left))
  all_goals exact ret_fn H hm (outs1 Tryz.results134 Wh) (by simp_all [Tm.isConst])
theorem ref02_Const (t : Tm) (c : Cx) : Cn Tryz.prog 71 [.agg t.cs.toArray] c (fun v _ => v = .bool t.isConst) := by
  refine Cn.of Tryz.func71 Tryz.ntmps71 rfl rfl fun hm H HA => ?_
  (focus (apply wc_seq; apply wc_region; refine Z31 fun bx c H HA => ?_; refine Z2 ?_; apply w_nil; apply wx_next; apply wc_seq; apply wc_region; refine Z3 ?_; refine Z1 ?_; refine Z92 (fun hq => ?_) fun hq => ?_; refine Z0 ?_; refine Z4 ?_; refine Z3 ?_; refine Z4 ?_; refine Z1 ?_; refine Z4 ?_; refine Z98 (fun hq => ?_) fun hq => ?_; refine Z8 ?_; refine Z0 ?_; refine Z5 ?_; refine Z5 ?_; refine Z5 ?_; refine Z5 ?_; refine Z6 ?_; refine Z6 ?_; refine Z6 ?_; refine Z5 ?_; refine Z5 ?_; refine Z6 ?_; refine Z6 ?_; refine Z6 ?_; refine Z6 ?_; refine Z5 ?_; refine Z8 ?_; refine Z2 ?_; apply w_nil; apply wx_next; apply wc_ret; rotate_left; refine Z8 ?_; refine Z0 ?_; refine Z4 ?_; refine Z3 ?_; refine Z4 ?_; refine Z1 ?_; refine Z4 ?_; refine Z92 (fun hq => ?_) fun hq => ?_; refine Z4 ?_; refine Z0 ?_; refine Z4 ?_; refine Z3 ?_; refine Z4 ?_; refine Z1 ?_; refine Z4 ?_; refine Z92 (fun hq => ?_) fun hq => ?_; refine Z4 ?_; refine Z8 ?_; refine Z4 ?_; refine Z0 ?_; refine Z4 ?_; refine Z3 ?_; refine Z4 ?_; refine Z1 ?_; refine Z4 ?_; refine Z43 ?_; refine Z4 ?_; refine Z95 (fun hq => ?_) fun hq => ?_; refine Z4 ?_; refine Z8 ?_; refine Z30 ?_; refine Z2 ?_; apply w_nil; apply wx_next; apply wc_ret; rotate_left; refine Z4 ?_; refine Z8 ?_; refine Z30 ?_; refine Z2 ?_; apply w_nil; apply wx_next; apply wc_ret; rotate_left; refine Z4 ?_; refine Z8 ?_; refine Z4 ?_; refine Z0 ?_; refine Z5 ?_; refine Z5 ?_; refine Z5 ?_; refine Z5 ?_; refine Z4 ?_; refine Z30 ?_; refine Z30 ?_; refine Z2 ?_; apply w_nil; apply wx_next; apply wc_ret; rotate_left; refine Z4 ?_; refine Z0 ?_; refine Z5 ?_; refine Z5 ?_; refine Z5 ?_; refine Z4 ?_; refine Z30 ?_; refine Z4 ?_; refine Z0 ?_; refine Z5 ?_; refine Z5 ?_; refine Z5 ?_; refine Z5 ?_; refine Z4 ?_; refine Z30 ?_; refine Z30 ?_; refine Z2 ?_; apply w_nil; apply wx_next; apply wc_ret; rotate_left; refine Z0 ?_; refine Z5 ?_; refine Z5 ?_; refine Z5 ?_; refine Z30 ?_; refine Z0 ?_; refine Z4 ?_; refine Z3 ?_; refine Z4 ?_; refine Z1 ?_; refine Z4 ?_; refine Z92 (fun hq => ?_) fun hq => ?_; refine Z4 ?_; refine Z0 ?_; refine Z4 ?_; refine Z3 ?_; refine Z4 ?_; refine Z1 ?_; refine Z4 ?_; refine Z92 (fun hq => ?_) fun hq => ?_; refine Z4 ?_; refine Z8 ?_; refine Z4 ?_; refine Z0 ?_; refine Z4 ?_; refine Z3 ?_; refine Z4 ?_; refine Z1 ?_; refine Z4 ?_; refine Z43 ?_; refine Z4 ?_; refine Z95 (fun hq => ?_) fun hq => ?_; refine Z4 ?_; refine Z8 ?_; refine Z30 ?_; refine Z2 ?_; apply w_nil; apply wx_next; apply wc_ret; rotate_left; refine Z4 ?_; refine Z8 ?_; refine Z30 ?_; refine Z2 ?_; apply w_nil; apply wx_next; apply wc_ret; rotate_left; refine Z4 ?_; refine Z8 ?_; refine Z4 ?_; refine Z0 ?_; refine Z5 ?_; refine Z5 ?_; refine Z5 ?_; refine Z5 ?_; refine Z4 ?_; refine Z30 ?_; refine Z30 ?_; refine Z2 ?_; apply w_nil; apply wx_next; apply wc_ret; rotate_left; refine Z4 ?_; refine Z0 ?_; refine Z5 ?_; refine Z5 ?_; refine Z5 ?_; refine Z4 ?_; refine Z30 ?_; refine Z4 ?_; refine Z0 ?_; refine Z5 ?_; refine Z5 ?_; refine Z5 ?_; refine Z5 ?_; refine Z4 ?_; refine Z30 ?_; refine Z30 ?_; refine Z2 ?_; apply w_nil; apply wx_next; apply wc_ret; rotate_left))

  all_goals exact ret_fn H hm (outs1 Tryz.results71 Wh) (by simp_all [Tm.isConst])
theorem ref02_ints (a b : Int) (c : Cx) : Cn Tryz.prog 120 [.int .i64 a, .int .i64 b] c (fun v _ => v = .int .i64 (cmpI a b)) := by
  refine Cn.of Tryz.func120 Tryz.ntmps120 rfl rfl fun hm H HA => ?_
  (focus (apply wc_seq; apply wc_region; refine Z2 ?_; apply w_nil; apply wx_next; apply wc_seq; apply wc_seq; apply wc_region; refine Z0 ?_; refine Z0 ?_; refine Z93 (fun hq => ?_) fun hq => ?_; apply w_nil; apply wx_next; refine Z18 ?_; apply wc_seq; apply wc_region; refine Z2 ?_; apply w_nil; apply wx_next; apply wc_ret; apply wx_ret_then; rotate_left; apply w_nil; apply wx_next; refine Z19 ?_; apply wc_skip; apply wx_next; apply wc_seq; apply wc_seq; apply wc_region; refine Z0 ?_; refine Z0 ?_; refine Z96 (fun hq => ?_) fun hq => ?_; apply w_nil; apply wx_next; refine Z18 ?_; apply wc_seq; apply wc_region; refine Z2 ?_; apply w_nil; apply wx_next; apply wc_ret; apply wx_ret_then; rotate_left; apply w_nil; apply wx_next; refine Z19 ?_; apply wc_skip; apply wx_next; apply wc_seq; apply wc_region; refine Z2 ?_; apply w_nil; apply wx_next; apply wc_ret; rotate_left))
  all_goals exact ret_fn H hm (outs1 Tryz.results120 Wh) (by simp [cmpI, *])
theorem ref03_number (a b : Int) (c : Cx) : Cn Tryz.prog 80 [.int .i64 a, .int .i64 b] c (fun v _ => v = .int .i64 (cmpI a b)) := by
  refine Cn.of Tryz.func80 Tryz.ntmps80 rfl rfl fun hm H HA => ?_
  (focus (apply wc_seq; apply wc_region; refine Z2 ?_; apply w_nil; apply wx_next; apply wc_seq; apply wc_seq; apply wc_region; refine Z0 ?_; refine Z0 ?_; refine Z93 (fun hq => ?_) fun hq => ?_; apply w_nil; apply wx_next; refine Z18 ?_; apply wc_seq; apply wc_region; refine Z2 ?_; apply w_nil; apply wx_next; apply wc_ret; apply wx_ret_then; rotate_left; apply w_nil; apply wx_next; refine Z19 ?_; apply wc_skip; apply wx_next; apply wc_seq; apply wc_seq; apply wc_region; refine Z0 ?_; refine Z0 ?_; refine Z96 (fun hq => ?_) fun hq => ?_; apply w_nil; apply wx_next; refine Z18 ?_; apply wc_seq; apply wc_region; refine Z2 ?_; apply w_nil; apply wx_next; apply wc_ret; apply wx_ret_then; rotate_left; apply w_nil; apply wx_next; refine Z19 ?_; apply wc_skip; apply wx_next; apply wc_seq; apply wc_region; refine Z2 ?_; apply w_nil; apply wx_next; apply wc_ret; rotate_left))
  all_goals exact ret_fn H hm (outs1 Tryz.results80 Wh) (by simp [cmpI, *])
theorem cmp_isNaN (a : Int) (c : Cx) : Cn Tryz.prog 165 [.int .i64 a] c (fun v _ => v = .bool false) := by
  refine Cn.of Tryz.func165 Tryz.ntmps165 rfl rfl fun hm H HA => ?_
  (focus (apply wc_seq; apply wc_region; refine Z2 ?_; apply w_nil; apply wx_next; apply wc_seq; apply wc_region; refine Z0 ?_; refine Z0 ?_; refine Z94 (fun hq => ?_) fun hq => ?_; refine Z2 ?_; apply w_nil; apply wx_next; apply wc_ret; rotate_left; refine Z2 ?_; apply w_nil; apply wx_next; apply wc_ret; rotate_left))
  · exact absurd rfl hq
  · exact ret_fn H hm (outs1 Tryz.results165 Wh) rfl
theorem cmp_Compare (a b : Int) (c : Cx) : Cn Tryz.prog 139 [.int .i64 a, .int .i64 b] c (fun v _ => v = .int .i64 (cmpI a b)) := by
  refine Cn.of Tryz.func139 Tryz.ntmps139 rfl rfl fun hm H HA => ?_
  (apply wc_seq; apply wc_region; refine Z2 ?_; apply w_nil; apply wx_next; apply wc_seq; apply wc_region; refine Z0 ?_)
  (refine s_call rfl rfl H HA (cmp_isNaN _ _) ?_; intro vx c H HP; have hvx := HP.h.1; have HA := HP.cut; subst hvx)
  (refine Z2 ?_; apply w_nil; apply wx_next; apply wc_seq; apply wc_region; refine Z0 ?_)
  (refine s_call rfl rfl H HA (cmp_isNaN _ _) ?_; intro vx c H HP; have hvx := HP.h.1; have HA := HP.cut; subst hvx)
  (focus (refine Z2 ?_; apply w_nil; apply wx_next; apply wc_seq; apply wc_seq; apply wc_region; refine Z0 ?_; apply w_nil; apply wx_next; refine Z19 ?_; apply wc_skip; apply wx_next; apply wc_seq; apply wc_seq; apply wc_region; refine Z0 ?_; apply w_nil; apply wx_next; refine Z19 ?_; apply wc_skip; apply wx_next; apply wc_seq; apply wc_seq; apply wc_region; refine Z0 ?_; refine Z0 ?_; refine Z93 (fun hq => ?_) fun hq => ?_; apply w_nil; apply wx_next; refine Z18 ?_; apply wc_seq; apply wc_region; refine Z2 ?_; apply w_nil; apply wx_next; apply wc_ret; apply wx_ret_then; rotate_left; apply w_nil; apply wx_next; refine Z19 ?_; apply wc_skip; apply wx_next; apply wc_seq; apply wc_seq; apply wc_region; refine Z0 ?_; refine Z0 ?_; refine Z96 (fun hq => ?_) fun hq => ?_; apply w_nil; apply wx_next; refine Z18 ?_; apply wc_seq; apply wc_region; refine Z2 ?_; apply w_nil; apply wx_next; apply wc_ret; apply wx_ret_then; rotate_left; apply w_nil; apply wx_next; refine Z19 ?_; apply wc_skip; apply wx_next; apply wc_seq; apply wc_region; refine Z2 ?_; apply w_nil; apply wx_next; apply wc_ret; rotate_left))
  all_goals exact ret_fn H hm (outs1 Tryz.results139 Wh) (by simp [cmpI, *])
theorem strings_Compare (a b : ByteArray) (c : Cx) : Cn Tryz.prog 140 [.string a, .string b] c (fun v _ => v = .int .i64 (cmpS a b)) := Cn.same (Tryz.strings_Compare a b c.w)
theorem term_Principal (t : Tm) (c : Cx) : Cn Tryz.prog 231 [.agg t.cs.toArray] c (fun v _ => v = .bool t.isPrinc) := by
  refine Cn.of Tryz.func231 Tryz.ntmps231 rfl rfl fun hm H HA => ?_
  (apply wc_seq; apply wc_region; refine Z31 fun bx c H HA => ?_; refine Z2 ?_; apply w_nil; apply wx_next; apply wc_seq; apply wc_region; refine Z7 ?_)
  (refine s_call rfl rfl H HA (term_Const t _) ?_; intro vx c H HP; have hvx := HP.h.1; have HA := HP.cut; subst hvx)
  cases hc : t.isConst
  all_goals (first | (focus (refine Z0 ?_; refine Z4 ?_; refine Z3 ?_; refine Z4 ?_; refine Z1 ?_; refine Z4 ?_; refine Z92 (fun hq => ?_) fun hq => ?_; refine Z8 ?_; refine Z0 ?_; refine Z4 ?_; refine Z3 ?_; refine Z4 ?_; refine Z1 ?_; refine Z4 ?_; refine Z99 (fun hq => ?_) fun hq => ?_; refine Z8 ?_; refine Z2 ?_; apply w_nil; apply wx_next; apply wc_ret; rotate_left; refine Z8 ?_; refine Z2 ?_; apply w_nil; apply wx_next; apply wc_ret; rotate_left; refine Z8 ?_; refine Z0 ?_; refine Z5 ?_; refine Z5 ?_; refine Z5 ?_; refine Z30 ?_; refine Z2 ?_; apply w_nil; apply wx_next; apply wc_ret; rotate_left)) | (refine Z0 ?_; refine Z5 ?_; refine Z5 ?_; refine Z5 ?_; refine Z30 ?_; refine Z0 ?_; refine Z5 ?_; refine Z5 ?_; refine Z5 ?_; refine Z30 ?_; refine Z2 ?_; apply w_nil; apply wx_next; apply wc_ret))
  all_goals exact ret_fn H hm (outs1 Tryz.results231 Wh) (by simp [Tm.isPrinc, *])
theorem ref02_Principal (t : Tm) (c : Cx) : Cn Tryz.prog 124 [.agg t.cs.toArray] c (fun v _ => v = .bool t.isPrinc) := by
  refine Cn.of Tryz.func124 Tryz.ntmps124 rfl rfl fun hm H HA => ?_
  (apply wc_seq; apply wc_region; refine Z31 fun bx c H HA => ?_; refine Z2 ?_; apply w_nil; apply wx_next; apply wc_seq; apply wc_region; refine Z7 ?_)
  (refine s_call rfl rfl H HA (ref02_Const t _) ?_; intro vx c H HP; have hvx := HP.h.1; have HA := HP.cut; subst hvx)
  cases hc : t.isConst
  all_goals (first | (focus (refine Z0 ?_; refine Z4 ?_; refine Z3 ?_; refine Z4 ?_; refine Z1 ?_; refine Z4 ?_; refine Z92 (fun hq => ?_) fun hq => ?_; refine Z8 ?_; refine Z0 ?_; refine Z4 ?_; refine Z3 ?_; refine Z4 ?_; refine Z1 ?_; refine Z4 ?_; refine Z99 (fun hq => ?_) fun hq => ?_; refine Z8 ?_; refine Z2 ?_; apply w_nil; apply wx_next; apply wc_ret; rotate_left; refine Z8 ?_; refine Z2 ?_; apply w_nil; apply wx_next; apply wc_ret; rotate_left; refine Z8 ?_; refine Z0 ?_; refine Z5 ?_; refine Z5 ?_; refine Z5 ?_; refine Z30 ?_; refine Z2 ?_; apply w_nil; apply wx_next; apply wc_ret; rotate_left)) | (refine Z0 ?_; refine Z5 ?_; refine Z5 ?_; refine Z5 ?_; refine Z30 ?_; refine Z0 ?_; refine Z5 ?_; refine Z5 ?_; refine Z5 ?_; refine Z30 ?_; refine Z2 ?_; apply w_nil; apply wx_next; apply wc_ret))
  all_goals exact ret_fn H hm (outs1 Tryz.results124 Wh) (by simp [Tm.isPrinc, *])
end Go.Proofs.YthkdggoohpgnnaaGreatDoor
/- Contracts: lists read through. -/
namespace Go.Proofs.YthkdggoohpgnnaaGreatDoor
open Go Go.Wk
theorem ref03_within (ts : List Tm) (v : Value) (t : Tm) (c : Cx) (h : Sl v ts c) : Cn Tryz.prog 78 [v, .agg t.cs.toArray] c (fun v _ => v = .bool (decide (t ∈ ts))) := by
  refine Cn.of Tryz.func78 Tryz.ntmps78 rfl rfl fun hm H HA => ?_
  have HA := HA.add h
  have hlim := h.lim
  (apply wc_seq; apply wc_region; refine Z31 fun bx c H HA => ?_; refine Z2 ?_; apply w_nil; apply wx_next; apply wc_seq; apply wc_seq; apply wc_region; refine Z2 ?_; apply w_nil; apply wx_next; apply wc_block)
  rename_i b c' H' HA'
  refine wc_loopN ts.length (fun k => [(0, v), (3, .pointer (some ⟨bx, 0, none⟩)), (5, .int .i64 k)]) (fun k => decide (t ∈ ts) = decide (t ∈ ts.drop k)) 0 H HA Ks (Nat.zero_le _) (by simp) ?_
  intro k g c hk hno H HA
  (focus (apply wc_seq; apply wc_seq; apply wc_region; refine Z0 ?_; refine Z0 ?_; refine Z45 ?_; refine Z93 (fun hq => ?_) fun hq => ?_; apply w_nil; apply wx_next; refine Z18 ?_; apply wc_skip; apply wx_next; apply wc_seq; apply wc_block; apply wc_seq; rotate_left; apply w_nil; apply wx_next; refine Z19 ?_; apply wc_exit; apply wx_exit_then; apply wx_exit_then; apply wx_exit_same; apply wx_next; apply wc_seq; apply wc_region; refine Z2 ?_; apply w_nil; apply wx_next; apply wc_ret; rotate_left))
  · obtain ⟨u, hu⟩ := getq (xs := ts) (k := k) (by omega)
    have hd := drop_get hu
    ((refine dw_start H HA ?_); (repeat (refine Dc ?_)); (refine dw_done mixed H HA rfl (by kernel_rfl) ?_; clear H HA; intro c H HA; (repeat (first | (intro vx hx; have hx2 : vx = _ := hx; clear hx; subst hx2) | (intro vx hx; have HA := HA.addSF hx; clear hx) | (intro vx hx; have HA := HA.add hx; clear hx) | intro vx)); change W _ _ _ _ _ _ _))
    (focus (apply w_nil; apply wx_next; (focus (apply wc_cond; rfl; all_goals intro hq)); apply wc_seq; apply wc_region; refine Z2 ?_; apply w_nil; apply wx_next; apply wc_ret; apply wx_ret_block; apply wx_ret_then; apply wx_ret_then; apply wx_ret_block; apply wx_ret_then; rotate_left; apply wc_skip; apply wx_norm_block; apply wx_next; apply wc_region; refine Z0 ?_; refine Z46 ?_; refine Z2 ?_; apply w_nil; rotate_left))
    · exact ret_fn H hm (outs1 Tryz.results78 Wh) (by simp_all)
    · exact wx_loopN (k + 1) H Cu Ks (by omega) (by simp at hq; simp [hno, hd, Ne.symm hq])
  · exact ret_fn H hm (outs1 Tryz.results78 Wh) (by simp [hno, drop_end hq])
theorem ref03_SameTerms (xs ys : List Tm) (v1 v2 : Value) (c : Cx) (h1 : Sl v1 xs c) (h2 : Sl v2 ys c) : Cn Tryz.prog 13 [v1, v2] c (fun v _ => v = .bool (decide (xs = ys))) := by
  refine Cn.of Tryz.func13 Tryz.ntmps13 rfl rfl fun hm H HA => ?_
  have HA := (HA.add h1).add h2
  have hlim := h1.lim
  (focus (apply wc_seq; apply wc_region; refine Z2 ?_; apply w_nil; apply wx_next; apply wc_seq; apply wc_seq; apply wc_region; refine Z0 ?_; refine Z45 ?_; refine Z0 ?_; refine Z45 ?_; refine Z94 (fun hq => ?_) fun hq => ?_; apply w_nil; apply wx_next; refine Z18 ?_; apply wc_seq; apply wc_region; refine Z2 ?_; apply w_nil; apply wx_next; apply wc_ret; apply wx_ret_then; rotate_left; apply w_nil; apply wx_next; refine Z19 ?_; apply wc_skip; apply wx_next; apply wc_seq; apply wc_seq; apply wc_region; refine Z2 ?_; apply w_nil; apply wx_next; apply wc_block; rotate_left))
  · exact ret_fn H hm (outs1 Tryz.results13 Wh) (by simp; intro e; subst e; omega)
  refine wc_loopN xs.length (fun k => [(0, v1), (1, v2), (5, .int .i64 k)]) (fun k => decide (xs = ys) = decide (xs.drop k = ys.drop k)) 0 H HA Ks (Nat.zero_le _) (by simp) ?_
  intro k g c hk hno H HA
  (focus (apply wc_seq; apply wc_seq; apply wc_region; refine Z0 ?_; refine Z0 ?_; refine Z45 ?_; refine Z93 (fun hq => ?_) fun hq => ?_; apply w_nil; apply wx_next; refine Z18 ?_; apply wc_skip; apply wx_next; apply wc_seq; apply wc_block; apply wc_seq; rotate_left; apply w_nil; apply wx_next; refine Z19 ?_; apply wc_exit; apply wx_exit_then; apply wx_exit_then; apply wx_exit_same; apply wx_next; apply wc_seq; apply wc_region; refine Z2 ?_; apply w_nil; apply wx_next; apply wc_ret; rotate_left))
  · obtain ⟨u, hu⟩ := getq (xs := xs) (k := k) (by omega)
    obtain ⟨u', hu'⟩ := getq (xs := ys) (k := k) (by omega)
    have hd := drop_get hu
    have hd' := drop_get hu'
    ((refine dw_start H HA ?_); (repeat (refine Dc ?_)); (refine dw_done mixed H HA rfl (by kernel_rfl) ?_; clear H HA; intro c H HA; (repeat (first | (intro vx hx; have hx2 : vx = _ := hx; clear hx; subst hx2) | (intro vx hx; have HA := HA.addSF hx; clear hx) | (intro vx hx; have HA := HA.add hx; clear hx) | intro vx)); change W _ _ _ _ _ _ _))
    (focus (apply w_nil; apply wx_next; (focus (apply wc_cond; rfl; all_goals intro hq)); apply wc_seq; apply wc_region; refine Z2 ?_; apply w_nil; apply wx_next; apply wc_ret; apply wx_ret_block; apply wx_ret_then; apply wx_ret_then; apply wx_ret_block; apply wx_ret_then; rotate_left; apply wc_skip; apply wx_norm_block; apply wx_next; apply wc_region; refine Z0 ?_; refine Z46 ?_; refine Z2 ?_; apply w_nil; rotate_left))
    · exact ret_fn H hm (outs1 Tryz.results13 Wh) (by simp_all)
    · exact wx_loopN (k + 1) H Cu Ks (by omega) (by simp_all)
  · exact ret_fn H hm (outs1 Tryz.results13 Wh) (by rename_i hq0 _; rw [hno, drop_end hq, drop_end (xs := ys) (k := k) (by omega)]; simp)
theorem ref03_SameAtom (a b : At0) (u1 u2 : Value) (c : Cx) (h1 : Ag a u1 c) (h2 : Ag b u2 c) : Cn Tryz.prog 66 [u1, u2] c (fun v _ => v = .bool (decide (a = b))) := by
  refine Cn.of Tryz.func66 Tryz.ntmps66 rfl rfl fun hm H HA => ?_
  have HA := (HA.add h1).add h2
  (focus (apply wc_seq; apply wc_region; refine Z40 fun vx c H HA => ?_; refine Z40 fun vx c H HA => ?_; refine Z2 ?_; apply w_nil; apply wx_next; apply wc_seq; apply wc_region; refine Z35 HA fun vx HA => ?_; refine Z38 ?_; refine Z35 HA fun vx HA => ?_; refine Z38 ?_; refine Z100 (fun hq => ?_) fun hq => ?_; refine Z0 ?_; refine Z4 ?_; refine Z35 HA fun vx HA => ?_; refine Z4 ?_; refine Z36 ?_; refine Z4 ?_; refine Z35 HA fun vx HA => ?_; refine Z4 ?_; refine Z36 ?_; refine Z4 ?_; refine Z98 (fun hq => ?_) fun hq => ?_; refine Z8 ?_; refine Z0 ?_; refine Z4 ?_; refine Z35 HA fun vx HA => ?_; refine Z4 ?_; refine Z37 HA fun vx HA => ?_; refine Z4 ?_; refine Z35 HA fun vx HA => ?_; refine Z4 ?_; refine Z37 HA fun vx HA => ?_; refine Z4 ?_; rotate_left; refine Z8 ?_; refine Z0 ?_; refine Z5 ?_; refine Z5 ?_; refine Z5 ?_; refine Z5 ?_; refine Z5 ?_; refine Z30 ?_; refine Z2 ?_; apply w_nil; apply wx_next; apply wc_ret; rotate_left; refine Z0 ?_; refine Z5 ?_; refine Z5 ?_; refine Z5 ?_; refine Z5 ?_; refine Z5 ?_; refine Z30 ?_; refine Z0 ?_; refine Z5 ?_; refine Z5 ?_; refine Z5 ?_; refine Z5 ?_; refine Z5 ?_; refine Z30 ?_; refine Z2 ?_; apply w_nil; apply wx_next; apply wc_ret; rotate_left))
  · (refine s_call rfl rfl H HA (ref03_SameTerms a.args b.args _ _ _ Lk Lk) ?_; intro vx c H HP; have hvx := HP.h.1; have HA := HP.cut; subst hvx)
    (refine Z8 ?_; refine Z2 ?_; apply w_nil; apply wx_next; apply wc_ret)
    exact ret_fn H hm (outs1 Tryz.results66 Wh) (by simp [At0.eq, *])
  all_goals exact ret_fn H hm (outs1 Tryz.results66 Wh) (by simp [At0.eq, *])
theorem ref03_SameAtoms (xs ys : List At0) (v1 v2 : Value) (c : Cx) (h1 : Sl v1 xs c) (h2 : Sl v2 ys c) : Cn Tryz.prog 82 [v1, v2] c (fun v _ => v = .bool (decide (xs = ys))) := by
  refine Cn.of Tryz.func82 Tryz.ntmps82 rfl rfl fun hm H HA => ?_
  have HA := (HA.add h1).add h2
  have hlim := h1.lim
  (focus (apply wc_seq; apply wc_region; refine Z2 ?_; apply w_nil; apply wx_next; apply wc_seq; apply wc_seq; apply wc_region; refine Z0 ?_; refine Z45 ?_; refine Z0 ?_; refine Z45 ?_; refine Z94 (fun hq => ?_) fun hq => ?_; apply w_nil; apply wx_next; refine Z18 ?_; apply wc_seq; apply wc_region; refine Z2 ?_; apply w_nil; apply wx_next; apply wc_ret; apply wx_ret_then; rotate_left; apply w_nil; apply wx_next; refine Z19 ?_; apply wc_skip; apply wx_next; apply wc_seq; apply wc_seq; apply wc_region; refine Z2 ?_; apply w_nil; apply wx_next; apply wc_block; rotate_left))
  · exact ret_fn H hm (outs1 Tryz.results82 Wh) (by simp; intro e; subst e; omega)
  refine wc_loopN xs.length (fun k => [(0, v1), (1, v2), (5, .int .i64 k)]) (fun k => decide (xs = ys) = decide (xs.drop k = ys.drop k)) 0 H HA Ks (Nat.zero_le _) (by simp) ?_
  intro k g c hk hno H HA
  (focus (apply wc_seq; apply wc_seq; apply wc_region; refine Z0 ?_; refine Z0 ?_; refine Z45 ?_; refine Z93 (fun hq => ?_) fun hq => ?_; apply w_nil; apply wx_next; refine Z18 ?_; apply wc_skip; apply wx_next; apply wc_seq; apply wc_block; apply wc_seq; rotate_left; apply w_nil; apply wx_next; refine Z19 ?_; apply wc_exit; apply wx_exit_then; apply wx_exit_then; apply wx_exit_same; apply wx_next; apply wc_seq; apply wc_region; refine Z2 ?_; apply w_nil; apply wx_next; apply wc_ret; rotate_left))
  · obtain ⟨u, hu⟩ := getq (xs := xs) (k := k) (by omega)
    obtain ⟨u', hu'⟩ := getq (xs := ys) (k := k) (by omega)
    have hd := drop_get hu
    have hd' := drop_get hu'
    (refine dw_start H HA ?_)
    (repeat (refine Dc ?_))
    (apply dw_cons; (focus ((intro B _ Lx c H HA; (repeat (first | (intro vx hx; have hx2 : vx = _ := hx; clear hx; subst hx2) | (intro vx hx; have HA := HA.addSF hx; clear hx) | (intro vx hx; have HA := HA.add hx; clear hx) | intro vx)); change W _ _ _ _ _ _ _); (refine s_call rfl rfl H HA (ref03_SameAtom u u' _ _ _ Lk Lk) ?_; intro vx c H HP; have hvx := HP.h.1; have HA := HP.cut; subst hvx); exact Dx)); exact inferInstance)
    (repeat (refine Dc ?_))
    (refine dw_done mixed H HA rfl (by kernel_rfl) ?_; clear H HA; intro c H HA; (repeat (first | (intro vx hx; have hx2 : vx = _ := hx; clear hx; subst hx2) | (intro vx hx; have HA := HA.addSF hx; clear hx) | (intro vx hx; have HA := HA.add hx; clear hx) | intro vx)); change W _ _ _ _ _ _ _)
    (focus (apply w_nil; apply wx_next; (focus (apply wc_cond; rfl; all_goals intro hq)); apply wc_seq; apply wc_region; refine Z2 ?_; apply w_nil; apply wx_next; apply wc_ret; apply wx_ret_block; apply wx_ret_then; apply wx_ret_then; apply wx_ret_block; apply wx_ret_then; rotate_left; apply wc_skip; apply wx_norm_block; apply wx_next; apply wc_region; refine Z0 ?_; refine Z46 ?_; refine Z2 ?_; apply w_nil; rotate_left))
    · exact ret_fn H hm (outs1 Tryz.results82 Wh) (by simp_all)
    · exact wx_loopN (k + 1) H Cu Ks (by omega) (by simp_all)
  · exact ret_fn H hm (outs1 Tryz.results82 Wh) (by rename_i hq0 _; rw [hno, drop_end hq, drop_end (xs := ys) (k := k) (by omega)]; simp)
end Go.Proofs.YthkdggoohpgnnaaGreatDoor
/- Contracts: the terms of atoms and clauses, variables. -/
namespace Go.Proofs.YthkdggoohpgnnaaGreatDoor
open Go Go.Wk
theorem ref03_atomTermsO (a : At0) (u : Value) (c : Cx) (h : Ag a u c) (hb : a.args.length + 1 < 1099511627776) : CnO Tryz.prog 76 [u] c (RowP 23 3 a.terms) := by
  refine CnO.of Tryz.func76 Tryz.ntmps76 rfl rfl fun hm H HA => ?_
  have HA := HA.add h
  (apply wc_seq; apply wc_region; refine Z40 fun vx c H HA => ?_; refine Z2 ?_; apply w_nil; apply wx_next; apply wc_seq; apply wc_region; refine Z35 HA fun vx HA => ?_; refine Z38 ?_)
  (apply s_bs1O; exact rfl; exact rfl; exact rfl; exact rfl; exact rfl; exact rfl; exact H; exact HA; exact inferInstance; intro vx c H HA)
  (refine Z2 ?_; apply w_nil; apply wx_next; apply wc_seq; apply wc_region; refine Z0 ?_; refine Z35 HA fun vx HA => ?_; refine Z37 HA fun vx HA => ?_; refine Z59 fun vx c valsx H HA => ?_; refine Z2 ?_; apply w_nil; apply wx_next; apply wc_ret)
  exact ret_fnO H hm (outs1 Tryz.results76 Wh) (rowP Lk) (fun _ _ => inferInstance)
theorem ref03_atomTerms (a : At0) (u : Value) (c : Cx) (h : Ag a u c) (hb : a.args.length + 1 < 1099511627776) : Cn Tryz.prog 76 [u] c (fun v c => Sl v a.terms c) := (ref03_atomTermsO a u c h hb).cn rfl hb
theorem ref02_Places (a : At0) (u : Value) (c : Cx) (h : Ag a u c) (hb : a.args.length + 1 < 1099511627776) : Cn Tryz.prog 91 [u] c (fun v c => Sl v a.terms c) := by
  refine Cn.of Tryz.func91 Tryz.ntmps91 rfl rfl fun hm H HA => ?_
  have HA := HA.add h
  (apply wc_seq; apply wc_region; refine Z40 fun vx c H HA => ?_; refine Z2 ?_; apply w_nil; apply wx_next; apply wc_seq; apply wc_region; refine Z35 HA fun vx HA => ?_; refine Z38 ?_; refine Z56 fun vx c H HA => ?_; refine Z2 ?_; apply w_nil; apply wx_next; apply wc_seq; apply wc_region; refine Z0 ?_; refine Z35 HA fun vx HA => ?_; refine Z37 HA fun vx HA => ?_; refine Z58 fun vx c H HA => ?_; refine Z2 ?_; apply w_nil; apply wx_next; apply wc_ret)
  exact ret_fn H hm (outs1 Tryz.results91 Wh) Lk
theorem term_places (a : At0) (u : Value) (c : Cx) (h : Ag a u c) (hb : a.args.length + 1 < 1099511627776) : Cn Tryz.prog 129 [u] c (fun v c => Sl v a.terms c) := by
  refine Cn.of Tryz.func129 Tryz.ntmps129 rfl rfl fun hm H HA => ?_
  have HA := HA.add h
  (apply wc_seq; apply wc_region; refine Z40 fun vx c H HA => ?_; refine Z2 ?_; apply w_nil; apply wx_next; apply wc_seq; apply wc_region; refine Z35 HA fun vx HA => ?_; refine Z38 ?_; refine Z56 fun vx c H HA => ?_; refine Z35 HA fun vx HA => ?_; refine Z37 HA fun vx HA => ?_; refine Z58 fun vx c H HA => ?_; refine Z2 ?_; apply w_nil; apply wx_next; apply wc_ret)
  exact ret_fn H hm (outs1 Tryz.results129 Wh) Lk
theorem ref03_bodyTerms (x : Cl) (u : Value) (c : Cx) (h : Ag x u c) (hb : x.bodyTerms.length < 1099511627776) : Cn Tryz.prog 63 [u] c (fun v c => Sl v x.bodyTerms c) := by
  refine Cn.of Tryz.func63 Tryz.ntmps63 rfl rfl fun hm H HA => ?_
  have hlim : x.body.length < 1099511627776 := by obtain ⟨cs, rfl, v, v1, v2, rfl, h⟩ := h; exact h.2.1.lim
  have HA := HA.add h
  (apply wc_seq; apply wc_region; refine Z40 fun vx c H HA => ?_; refine Z2 ?_; apply w_nil; apply wx_next; apply wc_seq; apply wc_region; refine Z2 ?_; apply w_nil; apply wx_next; apply wc_seq; apply wc_seq; apply wc_region; refine Z2 ?_; apply w_nil; apply wx_next; apply wc_block)
  (have H := H.nilR Tm  23 3; have HA := HA.add (Vals.nil (α := Tm) _))
  refine wc_loopR (α := Tm) x.body.length (fun k v' => [(1, vx), (3, v'), (4, .int .i64 k)]) (fun k acc => acc ++ (x.body.drop k).flatMap At0.terms = x.bodyTerms) 0 [] H Lk Cu Ks (Nat.zero_le _) (by simp [Cl.bodyTerms]) ?_
  intro k acc v' vals g c hk hp H HA
  have hlen : acc.length ≤ x.bodyTerms.length := by rw [← hp]; simp
  (focus (apply wc_seq; apply wc_seq; apply wc_region; refine Z0 ?_; refine Z35 HA fun vx HA => ?_; refine Z37 HA fun vx HA => ?_; refine Z45 ?_; refine Z93 (fun hq => ?_) fun hq => ?_; apply w_nil; apply wx_next; refine Z18 ?_; apply wc_skip; apply wx_next; apply wc_seq; apply wc_block; apply wc_region; refine Z0 ?_; refine Z35 HA fun vx HA => ?_; refine Z37 HA fun vx HA => ?_; refine Z0 ?_; rotate_left; apply w_nil; apply wx_next; refine Z19 ?_; apply wc_exit; apply wx_exit_then; apply wx_exit_then; apply wx_exit_same; apply wx_next; apply wc_seq; apply wc_region; refine Z0 ?_; refine Z2 ?_; apply w_nil; apply wx_next; apply wc_ret; rotate_left))
  · obtain ⟨a, ha⟩ := getq (xs := x.body) (k := k) (by omega)
    have hd := drop_get ha
    have hl2 : acc.length + a.args.length + 1 ≤ x.bodyTerms.length := by rw [← hp, hd]; simp [At0.terms]; omega
    (refine Z34 HA fun vx HA => ?_; refine Z39 HA fun vx HA => ?_)
    (refine s_call rfl rfl H HA (ref03_atomTerms a _ _ Lk (by omega)) ?_; intro vx c H HA)
    have hl3 : a.terms.length = a.args.length + 1 := rfl
    (refine Z59 fun vx c valsx H HA => ?_; refine Z2 ?_; apply w_nil; apply wx_norm_block; apply wx_next; apply wc_region; refine Z0 ?_; refine Z46 ?_; refine Z2 ?_; apply w_nil)
    exact wx_loopR (k + 1) H Lk Cu Ks (by omega) (by rw [← hp, hd]; simp)
  · (refine wx_freezeRow H HA Lk rfl rfl Lt ?_; intro c H HA)
    exact ret_fn H hm (outs1 Tryz.results63 Wh) (by rw [← hp, drop_end hq]; simpa using Lk)
theorem ref03_testTerms (x : Cl) (u : Value) (c : Cx) (h : Ag x u c) (hb : x.testTerms.length < 1099511627776) : Cn Tryz.prog 77 [u] c (fun v c => Sl v x.testTerms c) := by
  refine Cn.of Tryz.func77 Tryz.ntmps77 rfl rfl fun hm H HA => ?_
  have hlim : x.tests.length < 1099511627776 := by obtain ⟨cs, rfl, v, v1, v2, rfl, h⟩ := h; exact h.2.2.lim
  have HA := HA.add h
  (apply wc_seq; apply wc_region; refine Z40 fun vx c H HA => ?_; refine Z2 ?_; apply w_nil; apply wx_next; apply wc_seq; apply wc_region; refine Z2 ?_; apply w_nil; apply wx_next; apply wc_seq; apply wc_seq; apply wc_region; refine Z2 ?_; apply w_nil; apply wx_next; apply wc_block)
  (have H := H.nilR Tm  23 3; have HA := HA.add (Vals.nil (α := Tm) _))
  refine wc_loopR (α := Tm) x.tests.length (fun k v' => [(1, vx), (3, v'), (4, .int .i64 k)]) (fun k acc => acc ++ (x.tests.drop k).flatMap (fun t => [t.l, t.r]) = x.testTerms) 0 [] H Lk Cu Ks (Nat.zero_le _) (by simp [Cl.testTerms]) ?_
  intro k acc v' vals g c hk hp H HA
  have hlen : acc.length ≤ x.testTerms.length := by rw [← hp]; simp
  (focus (apply wc_seq; apply wc_seq; apply wc_region; refine Z0 ?_; refine Z35 HA fun vx HA => ?_; refine Z37 HA fun vx HA => ?_; refine Z45 ?_; refine Z93 (fun hq => ?_) fun hq => ?_; apply w_nil; apply wx_next; refine Z18 ?_; apply wc_skip; apply wx_next; apply wc_seq; apply wc_block; rotate_left; apply w_nil; apply wx_next; refine Z19 ?_; apply wc_exit; apply wx_exit_then; apply wx_exit_then; apply wx_exit_same; apply wx_next; apply wc_seq; apply wc_region; refine Z0 ?_; refine Z2 ?_; apply w_nil; apply wx_next; apply wc_ret; rotate_left))
  · obtain ⟨a, ha⟩ := getq (xs := x.tests) (k := k) (by omega)
    have hd := drop_get ha
    have hl2 : acc.length + 2 ≤ x.testTerms.length := by rw [← hp, hd]; simp
    ((refine dw_start H HA ?_); (repeat (refine Dc ?_)); (refine dw_done mixed H HA rfl (by kernel_rfl) ?_; clear H HA; intro c H HA; (repeat (first | (intro vx hx; have hx2 : vx = _ := hx; clear hx; subst hx2) | (intro vx hx; have HA := HA.addSF hx; clear hx) | (intro vx hx; have HA := HA.add hx; clear hx) | intro vx)); change W _ _ _ _ _ _ _))
    (refine Z59 fun vx c valsx H HA => ?_; refine Z2 ?_; apply w_nil; apply wx_norm_block; apply wx_next; apply wc_region; refine Z0 ?_; refine Z46 ?_; refine Z2 ?_; apply w_nil)
    exact wx_loopR (k + 1) H Lk Cu Ks (by omega) (by rw [← hp, hd]; simp)
  · (refine wx_freezeRow H HA Lk rfl rfl Lt ?_; intro c H HA)
    exact ret_fn H hm (outs1 Tryz.results77 Wh) (by rw [← hp, drop_end hq]; simpa using Lk)
theorem ref03_Terms (x : Cl) (u : Value) (c : Cx) (h : Ag x u c) (hb : x.terms.length < 1099511627776) : Cn Tryz.prog 70 [u] c (fun v c => Sl v x.terms c) := by
  refine Cn.of Tryz.func70 Tryz.ntmps70 rfl rfl fun hm H HA => ?_
  have HA := HA.add h
  have hl : x.head.args.length + 1 + x.bodyTerms.length + x.testTerms.length < 1099511627776 := by simp [Cl.terms, At0.terms] at hb; omega
  have hl3 : x.head.terms.length = x.head.args.length + 1 := rfl
  (apply wc_seq; apply wc_region; refine Z40 fun vx c H HA => ?_; refine Z2 ?_; apply w_nil; apply wx_next; apply wc_seq; apply wc_region; refine Z35 HA fun vx HA => ?_; refine Z39 HA fun vx HA => ?_)
  (refine s_callR rfl rfl H HA (ref03_atomTermsO x.head _ _ Lk (by omega)) ?_; intro vx valsx c H HA)
  (refine Z2 ?_; apply w_nil; apply wx_next; apply wc_seq; apply wc_region; refine Z0 ?_; refine Z39 HA fun vx HA => ?_)
  (refine s_call rfl rfl H HA (ref03_bodyTerms x _ _ Lk (by omega)) ?_; intro vx c H HA)
  (refine Z59 fun vx c valsx H HA => ?_; refine Z2 ?_; apply w_nil; apply wx_next; apply wc_seq; apply wc_region; refine Z0 ?_; refine Z39 HA fun vx HA => ?_)
  (refine s_call rfl rfl H HA (ref03_testTerms x _ _ Lk (by omega)) ?_; intro vx c H HA)
  (refine Z59 fun vx c valsx H HA => ?_; refine Z2 ?_; apply w_nil; apply wx_next; apply wc_ret)
  (refine wx_freezeRow H HA Lk rfl rfl Lt ?_; intro c H HA)
  exact ret_fn H hm (outs1 Tryz.results70 Wh) Lk
theorem ref03_variables (ts : List Tm) (v : Value) (c : Cx) (h : Sl v ts c) : Cn Tryz.prog 69 [v] c (fun v c => Sl v (varsOf ts) c) := by
  refine Cn.of Tryz.func69 Tryz.ntmps69 rfl rfl fun hm H HA => ?_
  have hlim := h.lim
  have HA := HA.add h
  have hvl := varsOf_len ts
  (apply wc_seq; apply wc_region; refine Z2 ?_; apply w_nil; apply wx_next; apply wc_seq; apply wc_region; refine Z2 ?_; apply w_nil; apply wx_next; apply wc_seq; apply wc_seq; apply wc_region; refine Z2 ?_; apply w_nil; apply wx_next; apply wc_block)
  (have H := H.nilR Tm  23 3; have HA := HA.add (Vals.nil (α := Tm) _))
  refine wc_loopR (α := Tm) ts.length (fun k v' => [(0, v), (3, v'), (4, .int .i64 k)]) (fun k acc => (ts.drop k).foldl varsOn acc = varsOf ts ∧ acc.length ≤ k) 0 [] H Lk Cu Ks (Nat.zero_le _) ⟨rfl, Nat.zero_le _⟩ ?_
  intro k acc v' vals g c hk hp H HA
  obtain ⟨hp, hlen⟩ := hp
  (focus (apply wc_seq; apply wc_seq; apply wc_region; refine Z0 ?_; refine Z0 ?_; refine Z45 ?_; refine Z93 (fun hq => ?_) fun hq => ?_; apply w_nil; apply wx_next; refine Z18 ?_; apply wc_skip; apply wx_next; apply wc_seq; apply wc_block; apply wc_seq; apply wc_region; refine Z0 ?_; refine Z0 ?_; rotate_left; apply w_nil; apply wx_next; refine Z19 ?_; apply wc_exit; apply wx_exit_then; apply wx_exit_then; apply wx_exit_same; apply wx_next; apply wc_seq; apply wc_region; refine Z0 ?_; refine Z2 ?_; apply w_nil; apply wx_next; apply wc_ret; rotate_left))
  · obtain ⟨a, ha⟩ := getq (xs := ts) (k := k) (by omega)
    have hd := drop_get ha
    (refine Z34 HA fun vx HA => ?_; refine Z38 ?_)
    (refine s_call rfl rfl H HA (ref02_Variable a _) ?_; intro vx c H HP; have hvx := HP.h.1; have HA := HP.cut; subst hvx)
    cases hv : a.isVar
    · (refine Z0 ?_; refine Z5 ?_; refine Z5 ?_; refine Z5 ?_; refine Z5 ?_; refine Z5 ?_; refine Z5 ?_; refine Z5 ?_; refine Z30 ?_; apply w_nil; apply wx_next; refine Z19 ?_; apply wc_skip; apply wx_norm_block; apply wx_next; apply wc_region; refine Z0 ?_; refine Z46 ?_; refine Z2 ?_; apply w_nil)
      exact wx_loopR (k + 1) H Lk Cu Ks (by omega) ⟨by rw [← hp, hd]; simp [varsOn, hv], by omega⟩
    · (refine Z0 ?_; refine Z4 ?_; refine Z0 ?_; refine Z4 ?_; refine Z0 ?_; refine Z4 ?_; refine Z0 ?_; refine Z4 ?_; refine Z34 HA fun vx HA => ?_; refine Z4 ?_; refine Z38 ?_; refine Z4 ?_)
      (refine s_callB rfl rfl Lk H HA rfl Lt (fun c HA => ref03_within acc _ a _ Lk) ?_; intro vx c hvx H HA; subst hvx)
      by_cases hm : a ∈ acc
      · rw [show decide (a ∈ acc) = true by simpa using hm]
        (refine Z4 ?_; refine Z33 ?_; refine Z8 ?_; apply w_nil; apply wx_next; refine Z19 ?_; apply wc_skip; apply wx_norm_block; apply wx_next; apply wc_region; refine Z0 ?_; refine Z46 ?_; refine Z2 ?_; apply w_nil)
        exact wx_loopR (k + 1) H Lk Cu Ks (by omega) ⟨by rw [← hp, hd]; simp [varsOn, hv, hm], by omega⟩
      · rw [show decide (a ∈ acc) = false by simpa using hm]
        (refine Z4 ?_; refine Z33 ?_; refine Z8 ?_; apply w_nil; apply wx_next; refine Z18 ?_; apply wc_region; refine Z0 ?_; refine Z0 ?_; refine Z0 ?_; refine Z34 HA fun vx HA => ?_; refine Z38 ?_; refine Z56 fun vx c H HA => ?_; refine Z59 fun vx c valsx H HA => ?_; refine Z2 ?_; apply w_nil; apply wx_norm_block; apply wx_next; apply wc_region; refine Z0 ?_; refine Z46 ?_; refine Z2 ?_; apply w_nil)
        exact wx_loopR (k + 1) H Lk Cu Ks (by omega) ⟨by rw [← hp, hd]; simp [varsOn, hv, hm], by simp; omega⟩
  · (refine wx_freezeRow H HA Lk rfl rfl Lt ?_; intro c H HA)
    exact ret_fn H hm (outs1 Tryz.results69 Wh) (by rw [← hp, drop_end hq]; simpa using Lk)
end Go.Proofs.YthkdggoohpgnnaaGreatDoor
/- Contracts: texts, names, comparison of terms and atoms, checks, of the document's answer. -/
namespace Go.Proofs.YthkdggoohpgnnaaGreatDoor
open Go Go.Wk
theorem ref02_Texts (a b : ByteArray) (c : Cx) (ha : a.size < 4611686018427387904) : Cn Tryz.prog 121 [.string a, .string b] c (fun v _ => v = .int .i64 (cmpS a b)) := by
  refine Cn.of Tryz.func121 Tryz.ntmps121 rfl rfl fun hm H HA => ?_
  (apply wc_seq; apply wc_region; refine Z2 ?_; apply w_nil; apply wx_next; apply wc_seq; apply wc_seq; apply wc_region; refine Z2 ?_; apply w_nil; apply wx_next; apply wc_block)
  refine wc_loopN a.size (fun k => [(0, .string a), (1, .string b), (5, .int .i64 k)]) (fun k => k ≤ b.size ∧ cmpS a b = Lib.compareBytes (a.data.toList.drop k) (b.data.toList.drop k)) 0 H HA Ks (Nat.zero_le _) ⟨Nat.zero_le _, rfl⟩ ?_
  intro k g c hk hp H HA
  obtain ⟨hk2, hp⟩ := hp
  have hla : a.data.toList.length = a.size := by simp
  have hlb : b.data.toList.length = b.size := by simp
  (focus (apply wc_seq; apply wc_seq; apply wc_region; refine Z0 ?_; refine Z0 ?_; refine Z43 ?_; refine Z93 (fun hq => ?_) fun hq => ?_; refine Z0 ?_; refine Z4 ?_; refine Z0 ?_; refine Z4 ?_; refine Z0 ?_; refine Z4 ?_; refine Z43 ?_; refine Z4 ?_; refine Z93 (fun hq => ?_) fun hq => ?_; refine Z8 ?_; apply w_nil; apply wx_next; refine Z18 ?_; apply wc_skip; apply wx_next; apply wc_seq; apply wc_block; apply wc_seq; rotate_left; refine Z8 ?_; apply w_nil; apply wx_next; refine Z19 ?_; apply wc_exit; apply wx_exit_then; apply wx_exit_then; apply wx_exit_same; apply wx_next; apply wc_seq; apply wc_region; refine Z0 ?_; refine Z43 ?_; refine Z0 ?_; refine Z43 ?_; rotate_left; refine Z0 ?_; refine Z5 ?_; refine Z5 ?_; refine Z5 ?_; refine Z5 ?_; refine Z30 ?_; apply w_nil; apply wx_next; refine Z19 ?_; apply wc_exit; apply wx_exit_then; apply wx_exit_then; apply wx_exit_same; apply wx_next; apply wc_seq; apply wc_region; refine Z0 ?_; refine Z43 ?_; refine Z0 ?_; refine Z43 ?_; rotate_left))
  · obtain ⟨u, hu, hul⟩ := byte_get (s := a) (k := k) (by omega)
    obtain ⟨u', hu', hul'⟩ := byte_get (s := b) (k := k) (by omega)
    ((refine dw_start H HA ?_); (repeat (refine Dc ?_)); (refine dw_done mixed H HA rfl (by kernel_rfl) ?_; clear H HA; intro c H HA; (repeat (first | (intro vx hx; have hx2 : vx = _ := hx; clear hx; subst hx2) | (intro vx hx; have HA := HA.addSF hx; clear hx) | (intro vx hx; have HA := HA.add hx; clear hx) | intro vx)); change W _ _ _ _ _ _ _))
    (focus (apply w_nil; apply wx_next; (focus (apply wc_cond; rfl; all_goals intro hq)); apply wc_seq; rotate_left; apply wc_skip; apply wx_norm_block; apply wx_next; apply wc_region; refine Z0 ?_; refine Z46 ?_; refine Z2 ?_; apply w_nil; rotate_left))
    · ((refine dw_start H HA ?_); (repeat (refine Dc ?_)); (refine dw_done mixed H HA rfl (by kernel_rfl) ?_; clear H HA; intro c H HA; (repeat (first | (intro vx hx; have hx2 : vx = _ := hx; clear hx; subst hx2) | (intro vx hx; have HA := HA.addSF hx; clear hx) | (intro vx hx; have HA := HA.add hx; clear hx) | intro vx)); change W _ _ _ _ _ _ _))
      (refine s_call rfl rfl H HA (ref02_ints _ _ _) ?_; intro vx c H HP; have hvx := HP.h.1; have HA := HP.cut; subst hvx)
      (refine Z2 ?_; apply w_nil; apply wx_next; apply wc_ret; apply wx_ret_block; apply wx_ret_then; apply wx_ret_then; apply wx_ret_block; apply wx_ret_then)
      exact ret_fn H hm (outs1 Tryz.results121 Wh) (by
        have hne : u ≠ u' := fun e => by subst e; simp at hq
        rw [hp, cb_step hul hul', if_neg hne])
    · exact wx_loopN (k + 1) H Cu Ks (by omega) ⟨by omega, by
        have he : u = u' := UInt8.toNat_inj.1 (by simp at hq; omega)
        rw [hp, cb_step hul hul', if_pos he]⟩
  all_goals
    (refine s_call rfl rfl H HA (ref02_ints _ _ _) ?_; intro vx c H HP; have hvx := HP.h.1; have HA := HP.cut; subst hvx)
    (refine Z2 ?_; apply w_nil; apply wx_next; apply wc_ret)
    exact ret_fn H hm (outs1 Tryz.results121 Wh) (by
      rw [hp, cb_end (by omega), hla, hlb, cmpI_nat, cmpI_nat]
      congr 1
      repeat' split <;> try omega)
theorem ref02_Compare (t u : Tm) (c : Cx) (ha : t.s.size < 4611686018427387904) : Cn Tryz.prog 68 [.agg t.cs.toArray, .agg u.cs.toArray] c (fun v _ => v = .int .i64 (cmpTm t u)) := by
  refine Cn.of Tryz.func68 Tryz.ntmps68 rfl rfl fun hm H HA => ?_
  (focus (apply wc_seq; apply wc_region; refine Z31 fun bx c H HA => ?_; refine Z31 fun bx c H HA => ?_; refine Z2 ?_; apply w_nil; apply wx_next; apply wc_seq; apply wc_seq; apply wc_region; refine Z3 ?_; refine Z1 ?_; refine Z3 ?_; refine Z1 ?_; refine Z94 (fun hq => ?_) fun hq => ?_; apply w_nil; apply wx_next; refine Z18 ?_; apply wc_seq; apply wc_region; refine Z3 ?_; refine Z1 ?_; refine Z3 ?_; refine Z1 ?_; rotate_left; apply w_nil; apply wx_next; refine Z19 ?_; apply wc_skip; apply wx_next; apply wc_seq; apply wc_seq; apply wc_region; refine Z3 ?_; refine Z1 ?_; refine Z3 ?_; refine Z1 ?_; refine Z94 (fun hq => ?_) fun hq => ?_; apply w_nil; apply wx_next; refine Z18 ?_; apply wc_seq; apply wc_region; refine Z3 ?_; refine Z1 ?_; refine Z3 ?_; refine Z1 ?_; rotate_left; apply w_nil; apply wx_next; refine Z19 ?_; apply wc_skip; apply wx_next; apply wc_seq; apply wc_region; refine Z3 ?_; refine Z1 ?_; refine Z3 ?_; refine Z1 ?_; rotate_left))
  · (refine s_call rfl rfl H HA (ref02_ints _ _ _) ?_; intro vx c H HP; have hvx := HP.h.1; have HA := HP.cut; subst hvx)
    (refine Z2 ?_; apply w_nil; apply wx_next; apply wc_ret; apply wx_ret_then)
    exact ret_fn H hm (outs1 Tryz.results68 Wh) (by simp [cmpTm, orI, cmpI]; intros; omega)
  · (refine s_call rfl rfl H HA (ref02_ints _ _ _) ?_; intro vx c H HP; have hvx := HP.h.1; have HA := HP.cut; subst hvx)
    (refine Z2 ?_; apply w_nil; apply wx_next; apply wc_ret; apply wx_ret_then)
    exact ret_fn H hm (outs1 Tryz.results68 Wh) (by simp_all [cmpTm, orI, cmpI]; intros; omega)
  · (refine s_call rfl rfl H HA (ref02_Texts _ _ _ ha) ?_; intro vx c H HP; have hvx := HP.h.1; have HA := HP.cut; subst hvx)
    (refine Z2 ?_; apply w_nil; apply wx_next; apply wc_ret)
    exact ret_fn H hm (outs1 Tryz.results68 Wh) (by simp_all [cmpTm, orI, cmpI])
theorem ref02_letter (u : UInt8) (c : Cx) : Cn Tryz.prog 149 [.int .u8 u.toNat] c (fun v _ => v = .bool (letterB u.toNat)) := by
  refine Cn.of Tryz.func149 Tryz.ntmps149 rfl rfl fun hm H HA => ?_
  (focus (apply wc_seq; apply wc_region; refine Z2 ?_; apply w_nil; apply wx_next; apply wc_seq; apply wc_region; refine Z0 ?_; refine Z97 (fun hq => ?_) fun hq => ?_; refine Z0 ?_; refine Z4 ?_; refine Z0 ?_; refine Z4 ?_; refine Z95 (fun hq => ?_) fun hq => ?_; refine Z8 ?_; refine Z0 ?_; refine Z5 ?_; refine Z5 ?_; refine Z5 ?_; refine Z6 ?_; refine Z6 ?_; refine Z5 ?_; refine Z8 ?_; refine Z0 ?_; refine Z5 ?_; refine Z5 ?_; refine Z5 ?_; refine Z6 ?_; refine Z6 ?_; refine Z5 ?_; refine Z8 ?_; refine Z0 ?_; refine Z5 ?_; refine Z5 ?_; refine Z8 ?_; refine Z2 ?_; apply w_nil; apply wx_next; apply wc_ret; rotate_left; refine Z8 ?_; refine Z0 ?_; refine Z4 ?_; refine Z0 ?_; refine Z4 ?_; refine Z97 (fun hq => ?_) fun hq => ?_; refine Z4 ?_; refine Z0 ?_; refine Z4 ?_; refine Z0 ?_; refine Z4 ?_; refine Z95 (fun hq => ?_) fun hq => ?_; refine Z4 ?_; refine Z8 ?_; refine Z30 ?_; refine Z0 ?_; refine Z5 ?_; refine Z5 ?_; refine Z5 ?_; refine Z6 ?_; refine Z6 ?_; refine Z5 ?_; refine Z8 ?_; refine Z0 ?_; refine Z5 ?_; refine Z5 ?_; refine Z8 ?_; refine Z2 ?_; apply w_nil; apply wx_next; apply wc_ret; rotate_left; refine Z4 ?_; refine Z8 ?_; refine Z30 ?_; refine Z0 ?_; refine Z4 ?_; refine Z0 ?_; refine Z4 ?_; refine Z97 (fun hq => ?_) fun hq => ?_; refine Z4 ?_; refine Z0 ?_; refine Z4 ?_; refine Z0 ?_; refine Z4 ?_; refine Z95 (fun hq => ?_) fun hq => ?_; refine Z4 ?_; refine Z8 ?_; refine Z30 ?_; refine Z0 ?_; refine Z5 ?_; refine Z5 ?_; refine Z8 ?_; refine Z2 ?_; apply w_nil; apply wx_next; apply wc_ret; rotate_left; refine Z4 ?_; refine Z8 ?_; refine Z30 ?_; refine Z0 ?_; refine Z4 ?_; refine Z0 ?_; refine Z4 ?_; refine Z92 (fun hq => ?_) fun hq => ?_; refine Z30 ?_; refine Z2 ?_; apply w_nil; apply wx_next; apply wc_ret; rotate_left; refine Z30 ?_; refine Z2 ?_; apply w_nil; apply wx_next; apply wc_ret; rotate_left; refine Z4 ?_; refine Z0 ?_; refine Z5 ?_; refine Z5 ?_; refine Z4 ?_; refine Z30 ?_; refine Z30 ?_; refine Z0 ?_; refine Z4 ?_; refine Z0 ?_; refine Z4 ?_; refine Z92 (fun hq => ?_) fun hq => ?_; refine Z30 ?_; refine Z2 ?_; apply w_nil; apply wx_next; apply wc_ret; rotate_left; refine Z30 ?_; refine Z2 ?_; apply w_nil; apply wx_next; apply wc_ret; rotate_left; refine Z4 ?_; refine Z0 ?_; refine Z5 ?_; refine Z5 ?_; refine Z4 ?_; refine Z30 ?_; refine Z30 ?_; refine Z0 ?_; refine Z4 ?_; refine Z0 ?_; refine Z4 ?_; refine Z97 (fun hq => ?_) fun hq => ?_; refine Z4 ?_; refine Z0 ?_; refine Z4 ?_; refine Z0 ?_; refine Z4 ?_; refine Z95 (fun hq => ?_) fun hq => ?_; refine Z4 ?_; refine Z8 ?_; refine Z30 ?_; refine Z0 ?_; refine Z5 ?_; refine Z5 ?_; refine Z8 ?_; refine Z2 ?_; apply w_nil; apply wx_next; apply wc_ret; rotate_left; refine Z4 ?_; refine Z8 ?_; refine Z30 ?_; refine Z0 ?_; refine Z4 ?_; refine Z0 ?_; refine Z4 ?_; refine Z92 (fun hq => ?_) fun hq => ?_; refine Z30 ?_; refine Z2 ?_; apply w_nil; apply wx_next; apply wc_ret; rotate_left; refine Z30 ?_; refine Z2 ?_; apply w_nil; apply wx_next; apply wc_ret; rotate_left; refine Z4 ?_; refine Z0 ?_; refine Z5 ?_; refine Z5 ?_; refine Z4 ?_; refine Z30 ?_; refine Z30 ?_; refine Z0 ?_; refine Z4 ?_; refine Z0 ?_; refine Z4 ?_; refine Z92 (fun hq => ?_) fun hq => ?_; refine Z30 ?_; refine Z2 ?_; apply w_nil; apply wx_next; apply wc_ret; rotate_left; refine Z30 ?_; refine Z2 ?_; apply w_nil; apply wx_next; apply wc_ret; rotate_left; refine Z0 ?_; refine Z5 ?_; refine Z5 ?_; refine Z30 ?_; refine Z0 ?_; refine Z4 ?_; refine Z0 ?_; refine Z4 ?_; refine Z97 (fun hq => ?_) fun hq => ?_; refine Z4 ?_; refine Z0 ?_; refine Z4 ?_; refine Z0 ?_; refine Z4 ?_; refine Z95 (fun hq => ?_) fun hq => ?_; refine Z4 ?_; refine Z8 ?_; refine Z30 ?_; refine Z0 ?_; refine Z5 ?_; refine Z5 ?_; refine Z5 ?_; refine Z6 ?_; refine Z6 ?_; refine Z5 ?_; refine Z8 ?_; refine Z0 ?_; refine Z5 ?_; refine Z5 ?_; refine Z8 ?_; refine Z2 ?_; apply w_nil; apply wx_next; apply wc_ret; rotate_left; refine Z4 ?_; refine Z8 ?_; refine Z30 ?_; refine Z0 ?_; refine Z4 ?_; refine Z0 ?_; refine Z4 ?_; refine Z97 (fun hq => ?_) fun hq => ?_; refine Z4 ?_; refine Z0 ?_; refine Z4 ?_; refine Z0 ?_; refine Z4 ?_; refine Z95 (fun hq => ?_) fun hq => ?_; refine Z4 ?_; refine Z8 ?_; refine Z30 ?_; refine Z0 ?_; refine Z5 ?_; refine Z5 ?_; refine Z8 ?_; refine Z2 ?_; apply w_nil; apply wx_next; apply wc_ret; rotate_left; refine Z4 ?_; refine Z8 ?_; refine Z30 ?_; refine Z0 ?_; refine Z4 ?_; refine Z0 ?_; refine Z4 ?_; refine Z92 (fun hq => ?_) fun hq => ?_; refine Z30 ?_; refine Z2 ?_; apply w_nil; apply wx_next; apply wc_ret; rotate_left; refine Z30 ?_; refine Z2 ?_; apply w_nil; apply wx_next; apply wc_ret; rotate_left; refine Z4 ?_; refine Z0 ?_; refine Z5 ?_; refine Z5 ?_; refine Z4 ?_; refine Z30 ?_; refine Z30 ?_; refine Z0 ?_; refine Z4 ?_; refine Z0 ?_; refine Z4 ?_; refine Z92 (fun hq => ?_) fun hq => ?_; refine Z30 ?_; refine Z2 ?_; apply w_nil; apply wx_next; apply wc_ret; rotate_left; refine Z30 ?_; refine Z2 ?_; apply w_nil; apply wx_next; apply wc_ret; rotate_left; refine Z4 ?_; refine Z0 ?_; refine Z5 ?_; refine Z5 ?_; refine Z4 ?_; refine Z30 ?_; refine Z30 ?_; refine Z0 ?_; refine Z4 ?_; refine Z0 ?_; refine Z4 ?_; refine Z97 (fun hq => ?_) fun hq => ?_; refine Z4 ?_; refine Z0 ?_; refine Z4 ?_; refine Z0 ?_; refine Z4 ?_; refine Z95 (fun hq => ?_) fun hq => ?_; refine Z4 ?_; refine Z8 ?_; refine Z30 ?_; refine Z0 ?_; refine Z5 ?_; refine Z5 ?_; refine Z8 ?_; refine Z2 ?_; apply w_nil; apply wx_next; apply wc_ret; rotate_left; refine Z4 ?_; refine Z8 ?_; refine Z30 ?_; refine Z0 ?_; refine Z4 ?_; refine Z0 ?_; refine Z4 ?_; refine Z92 (fun hq => ?_) fun hq => ?_; refine Z30 ?_; refine Z2 ?_; apply w_nil; apply wx_next; apply wc_ret; rotate_left; refine Z30 ?_; refine Z2 ?_; apply w_nil; apply wx_next; apply wc_ret; rotate_left; refine Z4 ?_; refine Z0 ?_; refine Z5 ?_; refine Z5 ?_; refine Z4 ?_; refine Z30 ?_; refine Z30 ?_; refine Z0 ?_; refine Z4 ?_; refine Z0 ?_; refine Z4 ?_; refine Z92 (fun hq => ?_) fun hq => ?_; refine Z30 ?_; refine Z2 ?_; apply w_nil; apply wx_next; apply wc_ret; rotate_left; refine Z30 ?_; refine Z2 ?_; apply w_nil; apply wx_next; apply wc_ret; rotate_left))
  all_goals exact ret_fn H hm (outs1 Tryz.results149 Wh) (by simp only [letterB, Value.bool.injEq]; simp; omega)
theorem ref02_Name (s : ByteArray) (c : Cx) (ha : s.size < 4611686018427387904) : Cn Tryz.prog 123 [.string s] c (fun v _ => v = .bool (nameB s)) := by
  refine Cn.of Tryz.func123 Tryz.ntmps123 rfl rfl fun hm H HA => ?_
  by_cases he : s = ES
  · subst he
    (focus (apply wc_seq; apply wc_region; refine Z2 ?_; apply w_nil; apply wx_next; apply wc_seq; apply wc_seq; apply wc_region; refine Z0 ?_; refine Z98 (fun hq => ?_) fun hq => ?_; refine Z0 ?_; refine Z5 ?_; refine Z5 ?_; refine Z5 ?_; refine Z8 ?_; refine Z0 ?_; refine Z5 ?_; refine Z5 ?_; refine Z8 ?_; refine Z0 ?_; refine Z5 ?_; refine Z5 ?_; refine Z5 ?_; refine Z8 ?_; refine Z0 ?_; refine Z5 ?_; refine Z5 ?_; refine Z5 ?_; refine Z8 ?_; apply w_nil; apply wx_next; refine Z18 ?_; apply wc_seq; apply wc_region; refine Z2 ?_; apply w_nil; apply wx_next; apply wc_ret; apply wx_ret_then; rotate_left; refine Z0 ?_; refine Z4 ?_; refine Z0 ?_; refine Z4 ?_; refine Z43 ?_; refine Z4 ?_; refine Z96 (fun hq => ?_) fun hq => ?_; refine Z30 ?_; refine Z0 ?_; refine Z5 ?_; refine Z5 ?_; refine Z8 ?_; refine Z0 ?_; refine Z5 ?_; refine Z5 ?_; refine Z5 ?_; refine Z8 ?_; refine Z0 ?_; refine Z5 ?_; refine Z5 ?_; refine Z5 ?_; refine Z8 ?_; apply w_nil; apply wx_next; refine Z18 ?_; apply wc_seq; apply wc_region; refine Z2 ?_; apply w_nil; apply wx_next; apply wc_ret; apply wx_ret_then; rotate_left; refine Z30 ?_; refine Z0 ?_; refine Z4 ?_; refine Z0 ?_; refine Z4 ?_; refine Z98 (fun hq => ?_) fun hq => ?_; refine Z30 ?_; refine Z0 ?_; refine Z5 ?_; refine Z5 ?_; refine Z5 ?_; refine Z8 ?_; refine Z0 ?_; refine Z5 ?_; refine Z5 ?_; refine Z5 ?_; refine Z8 ?_; apply w_nil; apply wx_next; refine Z18 ?_; apply wc_seq; apply wc_region; refine Z2 ?_; apply w_nil; apply wx_next; apply wc_ret; apply wx_ret_then; rotate_left; refine Z30 ?_; refine Z0 ?_; refine Z4 ?_; refine Z0 ?_; refine Z4 ?_; rotate_left))
    all_goals first | (exact ret_fn H hm (outs1 Tryz.results123 Wh) (by simp [nameB])) | (exfalso; simp_all; done)
  have hpos : ((0 : Nat) : Int) < (s.size : Int) := by
    have : s.size ≠ 0 := fun h => he (by
      obtain ⟨⟨l⟩⟩ := s
      simpa [ByteArray.size] using h)
    omega
  obtain ⟨u, hu, hul⟩ := byte_get hpos
  have hcons : ∃ l, s.data.toList = u :: l := by
    cases hl : s.data.toList with
    | nil => rw [hl] at hul; simp at hul
    | cons x l => rw [hl] at hul; simp at hul; exact ⟨l, by rw [hul]⟩
  obtain ⟨l, hl⟩ := hcons
  have hsz : s.data.toList.length = s.size := by simp
  (focus (apply wc_seq; apply wc_region; refine Z2 ?_; apply w_nil; apply wx_next; apply wc_seq; apply wc_seq; apply wc_region; refine Z0 ?_; refine Z86 ?_; refine Z0 ?_; refine Z4 ?_; refine Z0 ?_; refine Z4 ?_; refine Z43 ?_; refine Z4 ?_; refine Z96 (fun hq => ?_) fun hq => ?_; refine Z30 ?_; refine Z0 ?_; refine Z5 ?_; refine Z5 ?_; refine Z8 ?_; refine Z0 ?_; refine Z5 ?_; refine Z5 ?_; refine Z5 ?_; refine Z8 ?_; refine Z0 ?_; refine Z5 ?_; refine Z5 ?_; refine Z5 ?_; refine Z8 ?_; apply w_nil; apply wx_next; refine Z18 ?_; apply wc_seq; apply wc_region; refine Z2 ?_; apply w_nil; apply wx_next; apply wc_ret; apply wx_ret_then; rotate_left; refine Z30 ?_; refine Z0 ?_; refine Z4 ?_; refine Z0 ?_; refine Z4 ?_; refine Z98 (fun hq => ?_) fun hq => ?_; refine Z30 ?_; refine Z0 ?_; refine Z5 ?_; refine Z5 ?_; refine Z5 ?_; refine Z8 ?_; refine Z0 ?_; refine Z5 ?_; refine Z5 ?_; refine Z5 ?_; refine Z8 ?_; apply w_nil; apply wx_next; refine Z18 ?_; apply wc_seq; apply wc_region; refine Z2 ?_; apply w_nil; apply wx_next; apply wc_ret; apply wx_ret_then; rotate_left; refine Z30 ?_; refine Z0 ?_; refine Z4 ?_; refine Z0 ?_; refine Z4 ?_; refine Z52 ?_; refine Z4 ?_; refine Z93 (fun hq => ?_) fun hq => ?_; refine Z30 ?_; refine Z0 ?_; refine Z5 ?_; refine Z5 ?_; refine Z5 ?_; refine Z8 ?_; apply w_nil; apply wx_next; refine Z18 ?_; apply wc_seq; apply wc_region; refine Z2 ?_; apply w_nil; apply wx_next; apply wc_ret; apply wx_ret_then; rotate_left; refine Z30 ?_; refine Z0 ?_; refine Z4 ?_; refine Z0 ?_; refine Z4 ?_; refine Z52 ?_; refine Z4 ?_; refine Z96 (fun hq => ?_) fun hq => ?_; refine Z30 ?_; apply w_nil; apply wx_next; refine Z18 ?_; apply wc_seq; apply wc_region; refine Z2 ?_; apply w_nil; apply wx_next; apply wc_ret; apply wx_ret_then; rotate_left; refine Z30 ?_; apply w_nil; apply wx_next; refine Z19 ?_; apply wc_skip; apply wx_next; apply wc_seq; apply wc_seq; apply wc_region; refine Z2 ?_; apply w_nil; apply wx_next; apply wc_block; rotate_left))
  iterate 4 first | (exact ret_fn H hm (outs1 Tryz.results123 Wh) (by first | (simp_all [nameB]; done) | (simp [nameB, hl]; intros; omega)))
  have hname : nameB s = s.data.toList.all (fun u => letterB u.toNat) := by
    have h1 : decide (s.size ≤ 32) = true := by simp; omega
    have h2 : decide (97 ≤ u.toNat) = true := by simp; omega
    have h3 : decide (u.toNat ≤ 122) = true := by simp; omega
    have h4 : decide (s = says) = false := by simp; assumption
    simp only [nameB, hl, h1, h2, h3, h4, decide_eq_false he]
    simp
  refine wc_loopN s.size (fun k => [(0, .string s), (3, .int .i64 k)]) (fun k => nameB s = (s.data.toList.drop k).all (fun u => letterB u.toNat)) 0 H HA Ks (Nat.zero_le _) (by simpa using hname) ?_
  intro k g c hk hp H HA
  (focus (apply wc_seq; apply wc_seq; apply wc_region; refine Z0 ?_; refine Z0 ?_; refine Z43 ?_; refine Z93 (fun hq => ?_) fun hq => ?_; apply w_nil; apply wx_next; refine Z18 ?_; apply wc_skip; apply wx_next; apply wc_seq; apply wc_block; apply wc_seq; apply wc_region; refine Z0 ?_; refine Z0 ?_; rotate_left; apply w_nil; apply wx_next; refine Z19 ?_; apply wc_exit; apply wx_exit_then; apply wx_exit_then; apply wx_exit_same; apply wx_next; apply wc_seq; apply wc_region; refine Z2 ?_; apply w_nil; apply wx_next; apply wc_ret; rotate_left))
  · obtain ⟨u, hu, hul⟩ := byte_get (s := s) (k := k) (by omega)
    (refine Z52 ?_)
    (refine s_call rfl rfl H HA (ref02_letter u _) ?_; intro vx c H HP; have hvx := HP.h.1; have HA := HP.cut; subst hvx)
    have hd := drop_get hul
    cases hlb : letterB u.toNat
    · (refine Z33 ?_; apply w_nil; apply wx_next; refine Z18 ?_; apply wc_seq; apply wc_region; refine Z2 ?_; apply w_nil; apply wx_next; apply wc_ret; apply wx_ret_block; apply wx_ret_then; apply wx_ret_then; apply wx_ret_block; apply wx_ret_then)
      exact ret_fn H hm (outs1 Tryz.results123 Wh) (by rw [hp, hd]; simp [hlb])
    · (refine Z33 ?_; apply w_nil; apply wx_next; refine Z19 ?_; apply wc_skip; apply wx_norm_block; apply wx_next; apply wc_region; refine Z0 ?_; refine Z46 ?_; refine Z2 ?_; apply w_nil)
      exact wx_loopN (k + 1) H Cu Ks (by omega) (by rw [hp, hd]; simp [hlb])
  · exact ret_fn H hm (outs1 Tryz.results123 Wh) (by rw [hp, List.drop_eq_nil_of_le (by omega)]; rfl)
end Go.Proofs.YthkdggoohpgnnaaGreatDoor
/- Contracts: checks and comparison of atoms, tests, of the document's answer. -/
namespace Go.Proofs.YthkdggoohpgnnaaGreatDoor
open Go Go.Wk
theorem ref02_CheckAtom (a : At0) (u : Value) (c : Cx) (h : Ag a u c) (hs : a.name.size < 4611686018427387904) : Cn Tryz.prog 74 [u] c (fun v _ => v = .int .i64 a.check) := by
  refine Cn.of Tryz.func74 Tryz.ntmps74 rfl rfl fun hm H HA => ?_
  have hlim : a.args.length < 1099511627776 := by obtain ⟨cs, rfl, v, rfl, h⟩ := h; exact h.lim
  have HA := HA.add h
  (apply wc_seq; apply wc_region)
  (refine s_boxG rfl rfl Lk H HA ?_; intro p c H HA)
  (refine Z2 ?_; apply w_nil; apply wx_next; apply wc_seq; apply wc_seq; apply wc_region; refine Z35 HA fun vx HA => ?_; refine Z36 ?_)
  (refine s_call rfl rfl H HA (ref02_Name a.name _ hs) ?_; intro vx c H HP; have hvx := HP.h.1; have HA := HP.cut; subst hvx)
  cases hn : nameB a.name
  · (refine Z33 ?_; apply w_nil; apply wx_next; refine Z18 ?_; apply wc_seq; apply wc_region; refine Z2 ?_; apply w_nil; apply wx_next; apply wc_ret; apply wx_ret_then)
    exact ret_fn H hm (outs1 Tryz.results74 Wh) (by simp [At0.check, hn])
  (focus (refine Z33 ?_; apply w_nil; apply wx_next; refine Z19 ?_; apply wc_skip; apply wx_next; apply wc_seq; apply wc_seq; apply wc_region; refine Z35 HA fun vx HA => ?_; refine Z37 HA fun vx HA => ?_; refine Z45 ?_; refine Z96 (fun hq => ?_) fun hq => ?_; apply w_nil; apply wx_next; refine Z18 ?_; apply wc_seq; apply wc_region; refine Z2 ?_; apply w_nil; apply wx_next; apply wc_ret; apply wx_ret_then; rotate_left; apply w_nil; apply wx_next; refine Z19 ?_; apply wc_skip; apply wx_next; apply wc_seq; apply wc_seq; apply wc_region; refine Z35 HA fun vx HA => ?_; refine Z38 ?_; refine Z54 ?_; (focus (apply c_neT (u := Tn); exact rfl; exact rfl; exact rfl; all_goals intro hq)); refine Z0 ?_; refine Z4 ?_; refine Z35 HA fun vx HA => ?_; refine Z4 ?_; refine Z38 ?_; refine Z4 ?_; rotate_left; refine Z0 ?_; refine Z5 ?_; refine Z5 ?_; refine Z5 ?_; refine Z5 ?_; refine Z30 ?_; refine Z0 ?_; refine Z5 ?_; refine Z5 ?_; refine Z5 ?_; refine Z5 ?_; refine Z30 ?_; apply w_nil; apply wx_next; refine Z19 ?_; apply wc_skip; apply wx_next; apply wc_seq; apply wc_seq; apply wc_region; refine Z2 ?_; apply w_nil; apply wx_next; apply wc_block; rotate_left))
  · exact ret_fn H hm (outs1 Tryz.results74 Wh) (by simp [At0.check, hn]; intros; omega)
  · (refine s_call rfl rfl H HA (ref02_Principal a.by_ _) ?_; intro vx c H HP; have hvx := HP.h.1; have HA := HP.cut; subst hvx)
    cases hp : a.by_.isPrinc
    · (refine Z4 ?_; refine Z33 ?_; refine Z8 ?_; refine Z0 ?_; refine Z4 ?_; refine Z35 HA fun vx HA => ?_; refine Z4 ?_; refine Z38 ?_; refine Z4 ?_)
      (refine s_call rfl rfl H HA (ref02_Variable a.by_ _) ?_; intro vx c H HP; have hvx := HP.h.1; have HA := HP.cut; subst hvx)
      cases hv : a.by_.isVar
      · (refine Z4 ?_; refine Z33 ?_; refine Z8 ?_; apply w_nil; apply wx_next; refine Z18 ?_; apply wc_seq; apply wc_region; refine Z2 ?_; apply w_nil; apply wx_next; apply wc_ret; apply wx_ret_then)
        exact ret_fn H hm (outs1 Tryz.results74 Wh) (by simp_all [At0.check]; intros; omega)
      · (refine Z4 ?_; refine Z33 ?_; refine Z8 ?_; apply w_nil; apply wx_next; refine Z19 ?_; apply wc_skip; apply wx_next; apply wc_seq; apply wc_seq; apply wc_region; refine Z2 ?_; apply w_nil; apply wx_next; apply wc_block)
        refine wc_loopN a.args.length (fun k => [(1, p), (3, .int .i64 k)]) (fun k => a.args.any (fun t => !t.isConst && !t.isVar) = (a.args.drop k).any (fun t => !t.isConst && !t.isVar)) 0 H HA Ks (Nat.zero_le _) rfl ?_
        intro k g c hk hk2 H HA
        (focus (apply wc_seq; apply wc_seq; apply wc_region; refine Z0 ?_; refine Z35 HA fun vx HA => ?_; refine Z37 HA fun vx HA => ?_; refine Z45 ?_; refine Z93 (fun hq => ?_) fun hq => ?_; apply w_nil; apply wx_next; refine Z18 ?_; apply wc_skip; apply wx_next; apply wc_seq; apply wc_block; apply wc_seq; apply wc_region; refine Z35 HA fun vx HA => ?_; refine Z37 HA fun vx HA => ?_; refine Z0 ?_; rotate_left; apply w_nil; apply wx_next; refine Z19 ?_; apply wc_exit; apply wx_exit_then; apply wx_exit_then; apply wx_exit_same; apply wx_next; apply wc_seq; apply wc_region; refine Z2 ?_; apply w_nil; apply wx_next; apply wc_ret; rotate_left))
        · obtain ⟨t, ht⟩ := getq (xs := a.args) (k := k) (by omega)
          have hd := drop_get ht
          (refine Z34 HA fun vx HA => ?_; refine Z38 ?_)
          (refine s_call rfl rfl H HA (ref02_Const t _) ?_; intro vx c H HP; have hvx := HP.h.1; have HA := HP.cut; subst hvx)
          cases hc : t.isConst
          · (refine Z33 ?_; refine Z0 ?_; refine Z4 ?_; refine Z35 HA fun vx HA => ?_; refine Z4 ?_; refine Z37 HA fun vx HA => ?_; refine Z4 ?_; refine Z0 ?_; refine Z4 ?_; refine Z34 HA fun vx HA => ?_; refine Z4 ?_; refine Z38 ?_; refine Z4 ?_)
            (refine s_call rfl rfl H HA (ref02_Variable t _) ?_; intro vx c H HP; have hvx := HP.h.1; have HA := HP.cut; subst hvx)
            cases hv : t.isVar
            · (refine Z4 ?_; refine Z33 ?_; refine Z8 ?_; apply w_nil; apply wx_next; refine Z18 ?_; apply wc_seq; apply wc_region; refine Z2 ?_; apply w_nil; apply wx_next; apply wc_ret; apply wx_ret_block; apply wx_ret_then; apply wx_ret_then; apply wx_ret_block; apply wx_ret_then)
              exact ret_fn H hm (outs1 Tryz.results74 Wh) (by rw [At0.check, hk2, hd]; simp_all; omega)
            · (refine Z4 ?_; refine Z33 ?_; refine Z8 ?_; apply w_nil; apply wx_next; refine Z19 ?_; apply wc_skip; apply wx_norm_block; apply wx_next; apply wc_region; refine Z0 ?_; refine Z46 ?_; refine Z2 ?_; apply w_nil)
              exact wx_loopN (k + 1) H Cu Ks (by omega) (by rw [hk2, hd]; simp [hc, hv])
          · (refine Z33 ?_; refine Z0 ?_; refine Z5 ?_; refine Z5 ?_; refine Z5 ?_; refine Z5 ?_; refine Z5 ?_; refine Z5 ?_; refine Z5 ?_; refine Z30 ?_; apply w_nil; apply wx_next; refine Z19 ?_; apply wc_skip; apply wx_norm_block; apply wx_next; apply wc_region; refine Z0 ?_; refine Z46 ?_; refine Z2 ?_; apply w_nil)
            exact wx_loopN (k + 1) H Cu Ks (by omega) (by rw [hk2, hd]; simp [hc])
        · exact ret_fn H hm (outs1 Tryz.results74 Wh) (by rw [At0.check, hk2, drop_end hq]; simp_all; try omega)
    · (refine Z4 ?_; refine Z33 ?_; refine Z8 ?_; refine Z0 ?_; refine Z5 ?_; refine Z5 ?_; refine Z5 ?_; refine Z5 ?_; refine Z30 ?_; apply w_nil; apply wx_next; refine Z19 ?_; apply wc_skip; apply wx_next; apply wc_seq; apply wc_seq; apply wc_region; refine Z2 ?_; apply w_nil; apply wx_next; apply wc_block)
      refine wc_loopN a.args.length (fun k => [(1, p), (3, .int .i64 k)]) (fun k => a.args.any (fun t => !t.isConst && !t.isVar) = (a.args.drop k).any (fun t => !t.isConst && !t.isVar)) 0 H HA Ks (Nat.zero_le _) rfl ?_
      intro k g c hk hk2 H HA
      (focus (apply wc_seq; apply wc_seq; apply wc_region; refine Z0 ?_; refine Z35 HA fun vx HA => ?_; refine Z37 HA fun vx HA => ?_; refine Z45 ?_; refine Z93 (fun hq => ?_) fun hq => ?_; apply w_nil; apply wx_next; refine Z18 ?_; apply wc_skip; apply wx_next; apply wc_seq; apply wc_block; apply wc_seq; apply wc_region; refine Z35 HA fun vx HA => ?_; refine Z37 HA fun vx HA => ?_; refine Z0 ?_; rotate_left; apply w_nil; apply wx_next; refine Z19 ?_; apply wc_exit; apply wx_exit_then; apply wx_exit_then; apply wx_exit_same; apply wx_next; apply wc_seq; apply wc_region; refine Z2 ?_; apply w_nil; apply wx_next; apply wc_ret; rotate_left))
      · obtain ⟨t, ht⟩ := getq (xs := a.args) (k := k) (by omega)
        have hd := drop_get ht
        (refine Z34 HA fun vx HA => ?_; refine Z38 ?_)
        (refine s_call rfl rfl H HA (ref02_Const t _) ?_; intro vx c H HP; have hvx := HP.h.1; have HA := HP.cut; subst hvx)
        cases hc : t.isConst
        · (refine Z33 ?_; refine Z0 ?_; refine Z4 ?_; refine Z35 HA fun vx HA => ?_; refine Z4 ?_; refine Z37 HA fun vx HA => ?_; refine Z4 ?_; refine Z0 ?_; refine Z4 ?_; refine Z34 HA fun vx HA => ?_; refine Z4 ?_; refine Z38 ?_; refine Z4 ?_)
          (refine s_call rfl rfl H HA (ref02_Variable t _) ?_; intro vx c H HP; have hvx := HP.h.1; have HA := HP.cut; subst hvx)
          cases hv : t.isVar
          · (refine Z4 ?_; refine Z33 ?_; refine Z8 ?_; apply w_nil; apply wx_next; refine Z18 ?_; apply wc_seq; apply wc_region; refine Z2 ?_; apply w_nil; apply wx_next; apply wc_ret; apply wx_ret_block; apply wx_ret_then; apply wx_ret_then; apply wx_ret_block; apply wx_ret_then)
            exact ret_fn H hm (outs1 Tryz.results74 Wh) (by rw [At0.check, hk2, hd]; simp_all; omega)
          · (refine Z4 ?_; refine Z33 ?_; refine Z8 ?_; apply w_nil; apply wx_next; refine Z19 ?_; apply wc_skip; apply wx_norm_block; apply wx_next; apply wc_region; refine Z0 ?_; refine Z46 ?_; refine Z2 ?_; apply w_nil)
            exact wx_loopN (k + 1) H Cu Ks (by omega) (by rw [hk2, hd]; simp [hc, hv])
        · (refine Z33 ?_; refine Z0 ?_; refine Z5 ?_; refine Z5 ?_; refine Z5 ?_; refine Z5 ?_; refine Z5 ?_; refine Z5 ?_; refine Z5 ?_; refine Z30 ?_; apply w_nil; apply wx_next; refine Z19 ?_; apply wc_skip; apply wx_norm_block; apply wx_next; apply wc_region; refine Z0 ?_; refine Z46 ?_; refine Z2 ?_; apply w_nil)
          exact wx_loopN (k + 1) H Cu Ks (by omega) (by rw [hk2, hd]; simp [hc])
      · exact ret_fn H hm (outs1 Tryz.results74 Wh) (by rw [At0.check, hk2, drop_end hq]; simp_all; try omega)
  · refine wc_loopN a.args.length (fun k => [(1, p), (3, .int .i64 k)]) (fun k => a.args.any (fun t => !t.isConst && !t.isVar) = (a.args.drop k).any (fun t => !t.isConst && !t.isVar)) 0 H HA Ks (Nat.zero_le _) rfl ?_
    intro k g c hk hk2 H HA
    (focus (apply wc_seq; apply wc_seq; apply wc_region; refine Z0 ?_; refine Z35 HA fun vx HA => ?_; refine Z37 HA fun vx HA => ?_; refine Z45 ?_; refine Z93 (fun hq => ?_) fun hq => ?_; apply w_nil; apply wx_next; refine Z18 ?_; apply wc_skip; apply wx_next; apply wc_seq; apply wc_block; apply wc_seq; apply wc_region; refine Z35 HA fun vx HA => ?_; refine Z37 HA fun vx HA => ?_; refine Z0 ?_; rotate_left; apply w_nil; apply wx_next; refine Z19 ?_; apply wc_exit; apply wx_exit_then; apply wx_exit_then; apply wx_exit_same; apply wx_next; apply wc_seq; apply wc_region; refine Z2 ?_; apply w_nil; apply wx_next; apply wc_ret; rotate_left))
    · obtain ⟨t, ht⟩ := getq (xs := a.args) (k := k) (by omega)
      have hd := drop_get ht
      (refine Z34 HA fun vx HA => ?_; refine Z38 ?_)
      (refine s_call rfl rfl H HA (ref02_Const t _) ?_; intro vx c H HP; have hvx := HP.h.1; have HA := HP.cut; subst hvx)
      cases hc : t.isConst
      · (refine Z33 ?_; refine Z0 ?_; refine Z4 ?_; refine Z35 HA fun vx HA => ?_; refine Z4 ?_; refine Z37 HA fun vx HA => ?_; refine Z4 ?_; refine Z0 ?_; refine Z4 ?_; refine Z34 HA fun vx HA => ?_; refine Z4 ?_; refine Z38 ?_; refine Z4 ?_)
        (refine s_call rfl rfl H HA (ref02_Variable t _) ?_; intro vx c H HP; have hvx := HP.h.1; have HA := HP.cut; subst hvx)
        cases hv : t.isVar
        · (refine Z4 ?_; refine Z33 ?_; refine Z8 ?_; apply w_nil; apply wx_next; refine Z18 ?_; apply wc_seq; apply wc_region; refine Z2 ?_; apply w_nil; apply wx_next; apply wc_ret; apply wx_ret_block; apply wx_ret_then; apply wx_ret_then; apply wx_ret_block; apply wx_ret_then)
          exact ret_fn H hm (outs1 Tryz.results74 Wh) (by rw [At0.check, hk2, hd]; simp_all; omega)
        · (refine Z4 ?_; refine Z33 ?_; refine Z8 ?_; apply w_nil; apply wx_next; refine Z19 ?_; apply wc_skip; apply wx_norm_block; apply wx_next; apply wc_region; refine Z0 ?_; refine Z46 ?_; refine Z2 ?_; apply w_nil)
          exact wx_loopN (k + 1) H Cu Ks (by omega) (by rw [hk2, hd]; simp [hc, hv])
      · (refine Z33 ?_; refine Z0 ?_; refine Z5 ?_; refine Z5 ?_; refine Z5 ?_; refine Z5 ?_; refine Z5 ?_; refine Z5 ?_; refine Z5 ?_; refine Z30 ?_; apply w_nil; apply wx_next; refine Z19 ?_; apply wc_skip; apply wx_norm_block; apply wx_next; apply wc_region; refine Z0 ?_; refine Z46 ?_; refine Z2 ?_; apply w_nil)
        exact wx_loopN (k + 1) H Cu Ks (by omega) (by rw [hk2, hd]; simp [hc])
    · exact ret_fn H hm (outs1 Tryz.results74 Wh) (by rw [At0.check, hk2, drop_end hq]; simp_all; try omega)
theorem ref02_CheckTest (t : Ts) (c : Cx) : Cn Tryz.prog 75 [.agg t.cs.toArray] c (fun v _ => v = .int .i64 t.check) := by
  refine Cn.of Tryz.func75 Tryz.ntmps75 rfl rfl fun hm H HA => ?_
  (apply wc_seq; apply wc_region; refine Z31 fun bx c H HA => ?_; refine Z2 ?_; apply w_nil; apply wx_next; apply wc_seq; apply wc_region; refine Z3 ?_; refine Z7 ?_)
  (refine s_call rfl rfl H HA (ref02_Const t.l _) ?_; intro vx c H HP; have hvx := HP.h.1; have HA := HP.cut; subst hvx)
  cases h1 : t.l.isConst
  · (refine Z0 ?_; refine Z4 ?_; refine Z3 ?_; refine Z4 ?_; refine Z7 ?_; refine Z4 ?_)
    (refine s_call rfl rfl H HA (ref02_Variable t.l _) ?_; intro vx c H HP; have hvx := HP.h.1; have HA := HP.cut; subst hvx)
    cases h4 : t.l.isVar
    · (refine Z30 ?_; refine Z2 ?_; apply w_nil; apply wx_next; apply wc_seq; apply wc_region; refine Z3 ?_; refine Z7 ?_)
      (refine s_call rfl rfl H HA (ref02_Const t.r _) ?_; intro vx c H HP; have hvx := HP.h.1; have HA := HP.cut; subst hvx)
      cases h2 : t.r.isConst
      · (refine Z0 ?_; refine Z4 ?_; refine Z3 ?_; refine Z4 ?_; refine Z7 ?_; refine Z4 ?_)
        (refine s_call rfl rfl H HA (ref02_Variable t.r _) ?_; intro vx c H HP; have hvx := HP.h.1; have HA := HP.cut; subst hvx)
        cases h3 : t.r.isVar <;> (focus (refine Z30 ?_; refine Z2 ?_; apply w_nil; apply wx_next; apply wc_seq; apply wc_seq; apply wc_region; refine Z3 ?_; refine Z1 ?_; refine Z93 (fun hq => ?_) fun hq => ?_; refine Z0 ?_; refine Z5 ?_; refine Z5 ?_; refine Z5 ?_; refine Z8 ?_; refine Z0 ?_; refine Z5 ?_; refine Z5 ?_; refine Z8 ?_; refine Z0 ?_; refine Z5 ?_; refine Z5 ?_; refine Z8 ?_; apply w_nil; apply wx_next; refine Z18 ?_; apply wc_seq; apply wc_region; refine Z2 ?_; apply w_nil; apply wx_next; apply wc_ret; apply wx_ret_then; rotate_left; refine Z0 ?_; refine Z4 ?_; refine Z3 ?_; refine Z4 ?_; refine Z1 ?_; refine Z4 ?_; refine Z96 (fun hq => ?_) fun hq => ?_; refine Z30 ?_; refine Z0 ?_; refine Z5 ?_; refine Z5 ?_; refine Z8 ?_; refine Z0 ?_; refine Z5 ?_; refine Z5 ?_; refine Z8 ?_; apply w_nil; apply wx_next; refine Z18 ?_; apply wc_seq; apply wc_region; refine Z2 ?_; apply w_nil; apply wx_next; apply wc_ret; apply wx_ret_then; rotate_left; refine Z30 ?_; refine Z0 ?_; refine Z4 ?_; refine Z0 ?_; refine Z4 ?_; refine Z33 ?_; refine Z30 ?_; refine Z0 ?_; refine Z5 ?_; refine Z5 ?_; refine Z8 ?_; apply w_nil; apply wx_next; refine Z18 ?_; apply wc_seq; apply wc_region; refine Z2 ?_; apply w_nil; apply wx_next; apply wc_ret; apply wx_ret_then; rotate_left))
        all_goals exact ret_fn H hm (outs1 Tryz.results75 Wh) (by simp_all [Ts.check]; try omega)
      · (focus (refine Z0 ?_; refine Z5 ?_; refine Z5 ?_; refine Z5 ?_; refine Z8 ?_; refine Z2 ?_; apply w_nil; apply wx_next; apply wc_seq; apply wc_seq; apply wc_region; refine Z3 ?_; refine Z1 ?_; refine Z93 (fun hq => ?_) fun hq => ?_; refine Z0 ?_; refine Z5 ?_; refine Z5 ?_; refine Z5 ?_; refine Z8 ?_; refine Z0 ?_; refine Z5 ?_; refine Z5 ?_; refine Z8 ?_; refine Z0 ?_; refine Z5 ?_; refine Z5 ?_; refine Z8 ?_; apply w_nil; apply wx_next; refine Z18 ?_; apply wc_seq; apply wc_region; refine Z2 ?_; apply w_nil; apply wx_next; apply wc_ret; apply wx_ret_then; rotate_left; refine Z0 ?_; refine Z4 ?_; refine Z3 ?_; refine Z4 ?_; refine Z1 ?_; refine Z4 ?_; refine Z96 (fun hq => ?_) fun hq => ?_; refine Z30 ?_; refine Z0 ?_; refine Z5 ?_; refine Z5 ?_; refine Z8 ?_; refine Z0 ?_; refine Z5 ?_; refine Z5 ?_; refine Z8 ?_; apply w_nil; apply wx_next; refine Z18 ?_; apply wc_seq; apply wc_region; refine Z2 ?_; apply w_nil; apply wx_next; apply wc_ret; apply wx_ret_then; rotate_left; refine Z30 ?_; refine Z0 ?_; refine Z4 ?_; refine Z0 ?_; refine Z4 ?_; refine Z33 ?_; refine Z30 ?_; refine Z0 ?_; refine Z5 ?_; refine Z5 ?_; refine Z8 ?_; apply w_nil; apply wx_next; refine Z18 ?_; apply wc_seq; apply wc_region; refine Z2 ?_; apply w_nil; apply wx_next; apply wc_ret; apply wx_ret_then; rotate_left))
        all_goals exact ret_fn H hm (outs1 Tryz.results75 Wh) (by simp_all [Ts.check]; try omega)
    · (refine Z30 ?_; refine Z2 ?_; apply w_nil; apply wx_next; apply wc_seq; apply wc_region; refine Z3 ?_; refine Z7 ?_)
      (refine s_call rfl rfl H HA (ref02_Const t.r _) ?_; intro vx c H HP; have hvx := HP.h.1; have HA := HP.cut; subst hvx)
      cases h2 : t.r.isConst
      · (refine Z0 ?_; refine Z4 ?_; refine Z3 ?_; refine Z4 ?_; refine Z7 ?_; refine Z4 ?_)
        (refine s_call rfl rfl H HA (ref02_Variable t.r _) ?_; intro vx c H HP; have hvx := HP.h.1; have HA := HP.cut; subst hvx)
        cases h3 : t.r.isVar <;> (first | (focus (refine Z30 ?_; refine Z2 ?_; apply w_nil; apply wx_next; apply wc_seq; apply wc_seq; apply wc_region; refine Z3 ?_; refine Z1 ?_; refine Z93 (fun hq => ?_) fun hq => ?_; refine Z0 ?_; refine Z5 ?_; refine Z5 ?_; refine Z5 ?_; refine Z8 ?_; refine Z0 ?_; refine Z5 ?_; refine Z5 ?_; refine Z8 ?_; refine Z0 ?_; refine Z5 ?_; refine Z5 ?_; refine Z8 ?_; apply w_nil; apply wx_next; refine Z18 ?_; apply wc_seq; apply wc_region; refine Z2 ?_; apply w_nil; apply wx_next; apply wc_ret; apply wx_ret_then; rotate_left; refine Z0 ?_; refine Z4 ?_; refine Z3 ?_; refine Z4 ?_; refine Z1 ?_; refine Z4 ?_; refine Z96 (fun hq => ?_) fun hq => ?_; refine Z30 ?_; refine Z0 ?_; refine Z5 ?_; refine Z5 ?_; refine Z8 ?_; refine Z0 ?_; refine Z5 ?_; refine Z5 ?_; refine Z8 ?_; apply w_nil; apply wx_next; refine Z18 ?_; apply wc_seq; apply wc_region; refine Z2 ?_; apply w_nil; apply wx_next; apply wc_ret; apply wx_ret_then; rotate_left; refine Z30 ?_; refine Z0 ?_; refine Z4 ?_; refine Z0 ?_; refine Z4 ?_; refine Z33 ?_; refine Z30 ?_; refine Z0 ?_; refine Z4 ?_; refine Z0 ?_; refine Z4 ?_; refine Z33 ?_; refine Z30 ?_; apply w_nil; apply wx_next; refine Z19 ?_; apply wc_skip; apply wx_next; apply wc_seq; apply wc_region; refine Z2 ?_; apply w_nil; apply wx_next; apply wc_ret; rotate_left)) | (focus (refine Z30 ?_; refine Z2 ?_; apply w_nil; apply wx_next; apply wc_seq; apply wc_seq; apply wc_region; refine Z3 ?_; refine Z1 ?_; refine Z93 (fun hq => ?_) fun hq => ?_; refine Z0 ?_; refine Z5 ?_; refine Z5 ?_; refine Z5 ?_; refine Z8 ?_; refine Z0 ?_; refine Z5 ?_; refine Z5 ?_; refine Z8 ?_; refine Z0 ?_; refine Z5 ?_; refine Z5 ?_; refine Z8 ?_; apply w_nil; apply wx_next; refine Z18 ?_; apply wc_seq; apply wc_region; refine Z2 ?_; apply w_nil; apply wx_next; apply wc_ret; apply wx_ret_then; rotate_left; refine Z0 ?_; refine Z4 ?_; refine Z3 ?_; refine Z4 ?_; refine Z1 ?_; refine Z4 ?_; refine Z96 (fun hq => ?_) fun hq => ?_; refine Z30 ?_; refine Z0 ?_; refine Z5 ?_; refine Z5 ?_; refine Z8 ?_; refine Z0 ?_; refine Z5 ?_; refine Z5 ?_; refine Z8 ?_; apply w_nil; apply wx_next; refine Z18 ?_; apply wc_seq; apply wc_region; refine Z2 ?_; apply w_nil; apply wx_next; apply wc_ret; apply wx_ret_then; rotate_left; refine Z30 ?_; refine Z0 ?_; refine Z4 ?_; refine Z0 ?_; refine Z4 ?_; refine Z33 ?_; refine Z30 ?_; refine Z0 ?_; refine Z4 ?_; refine Z0 ?_; refine Z4 ?_; refine Z33 ?_; refine Z30 ?_; apply w_nil; apply wx_next; refine Z18 ?_; apply wc_seq; apply wc_region; refine Z2 ?_; apply w_nil; apply wx_next; apply wc_ret; apply wx_ret_then; rotate_left)))
        all_goals exact ret_fn H hm (outs1 Tryz.results75 Wh) (by simp_all [Ts.check]; try omega)
      · (focus (refine Z0 ?_; refine Z5 ?_; refine Z5 ?_; refine Z5 ?_; refine Z8 ?_; refine Z2 ?_; apply w_nil; apply wx_next; apply wc_seq; apply wc_seq; apply wc_region; refine Z3 ?_; refine Z1 ?_; refine Z93 (fun hq => ?_) fun hq => ?_; refine Z0 ?_; refine Z5 ?_; refine Z5 ?_; refine Z5 ?_; refine Z8 ?_; refine Z0 ?_; refine Z5 ?_; refine Z5 ?_; refine Z8 ?_; refine Z0 ?_; refine Z5 ?_; refine Z5 ?_; refine Z8 ?_; apply w_nil; apply wx_next; refine Z18 ?_; apply wc_seq; apply wc_region; refine Z2 ?_; apply w_nil; apply wx_next; apply wc_ret; apply wx_ret_then; rotate_left; refine Z0 ?_; refine Z4 ?_; refine Z3 ?_; refine Z4 ?_; refine Z1 ?_; refine Z4 ?_; refine Z96 (fun hq => ?_) fun hq => ?_; refine Z30 ?_; refine Z0 ?_; refine Z5 ?_; refine Z5 ?_; refine Z8 ?_; refine Z0 ?_; refine Z5 ?_; refine Z5 ?_; refine Z8 ?_; apply w_nil; apply wx_next; refine Z18 ?_; apply wc_seq; apply wc_region; refine Z2 ?_; apply w_nil; apply wx_next; apply wc_ret; apply wx_ret_then; rotate_left; refine Z30 ?_; refine Z0 ?_; refine Z4 ?_; refine Z0 ?_; refine Z4 ?_; refine Z33 ?_; refine Z30 ?_; refine Z0 ?_; refine Z4 ?_; refine Z0 ?_; refine Z4 ?_; refine Z33 ?_; refine Z30 ?_; apply w_nil; apply wx_next; refine Z19 ?_; apply wc_skip; apply wx_next; apply wc_seq; apply wc_region; refine Z2 ?_; apply w_nil; apply wx_next; apply wc_ret; rotate_left))
        all_goals exact ret_fn H hm (outs1 Tryz.results75 Wh) (by simp_all [Ts.check]; try omega)
  · (refine Z0 ?_; refine Z5 ?_; refine Z5 ?_; refine Z5 ?_; refine Z8 ?_; refine Z2 ?_; apply w_nil; apply wx_next; apply wc_seq; apply wc_region; refine Z3 ?_; refine Z7 ?_)
    (refine s_call rfl rfl H HA (ref02_Const t.r _) ?_; intro vx c H HP; have hvx := HP.h.1; have HA := HP.cut; subst hvx)
    cases h2 : t.r.isConst
    · (refine Z0 ?_; refine Z4 ?_; refine Z3 ?_; refine Z4 ?_; refine Z7 ?_; refine Z4 ?_)
      (refine s_call rfl rfl H HA (ref02_Variable t.r _) ?_; intro vx c H HP; have hvx := HP.h.1; have HA := HP.cut; subst hvx)
      cases h3 : t.r.isVar <;> (first | (focus (refine Z30 ?_; refine Z2 ?_; apply w_nil; apply wx_next; apply wc_seq; apply wc_seq; apply wc_region; refine Z3 ?_; refine Z1 ?_; refine Z93 (fun hq => ?_) fun hq => ?_; refine Z0 ?_; refine Z5 ?_; refine Z5 ?_; refine Z5 ?_; refine Z8 ?_; refine Z0 ?_; refine Z5 ?_; refine Z5 ?_; refine Z8 ?_; refine Z0 ?_; refine Z5 ?_; refine Z5 ?_; refine Z8 ?_; apply w_nil; apply wx_next; refine Z18 ?_; apply wc_seq; apply wc_region; refine Z2 ?_; apply w_nil; apply wx_next; apply wc_ret; apply wx_ret_then; rotate_left; refine Z0 ?_; refine Z4 ?_; refine Z3 ?_; refine Z4 ?_; refine Z1 ?_; refine Z4 ?_; refine Z96 (fun hq => ?_) fun hq => ?_; refine Z30 ?_; refine Z0 ?_; refine Z5 ?_; refine Z5 ?_; refine Z8 ?_; refine Z0 ?_; refine Z5 ?_; refine Z5 ?_; refine Z8 ?_; apply w_nil; apply wx_next; refine Z18 ?_; apply wc_seq; apply wc_region; refine Z2 ?_; apply w_nil; apply wx_next; apply wc_ret; apply wx_ret_then; rotate_left; refine Z30 ?_; refine Z0 ?_; refine Z4 ?_; refine Z0 ?_; refine Z4 ?_; refine Z33 ?_; refine Z30 ?_; refine Z0 ?_; refine Z4 ?_; refine Z0 ?_; refine Z4 ?_; refine Z33 ?_; refine Z30 ?_; apply w_nil; apply wx_next; refine Z19 ?_; apply wc_skip; apply wx_next; apply wc_seq; apply wc_region; refine Z2 ?_; apply w_nil; apply wx_next; apply wc_ret; rotate_left)) | (focus (refine Z30 ?_; refine Z2 ?_; apply w_nil; apply wx_next; apply wc_seq; apply wc_seq; apply wc_region; refine Z3 ?_; refine Z1 ?_; refine Z93 (fun hq => ?_) fun hq => ?_; refine Z0 ?_; refine Z5 ?_; refine Z5 ?_; refine Z5 ?_; refine Z8 ?_; refine Z0 ?_; refine Z5 ?_; refine Z5 ?_; refine Z8 ?_; refine Z0 ?_; refine Z5 ?_; refine Z5 ?_; refine Z8 ?_; apply w_nil; apply wx_next; refine Z18 ?_; apply wc_seq; apply wc_region; refine Z2 ?_; apply w_nil; apply wx_next; apply wc_ret; apply wx_ret_then; rotate_left; refine Z0 ?_; refine Z4 ?_; refine Z3 ?_; refine Z4 ?_; refine Z1 ?_; refine Z4 ?_; refine Z96 (fun hq => ?_) fun hq => ?_; refine Z30 ?_; refine Z0 ?_; refine Z5 ?_; refine Z5 ?_; refine Z8 ?_; refine Z0 ?_; refine Z5 ?_; refine Z5 ?_; refine Z8 ?_; apply w_nil; apply wx_next; refine Z18 ?_; apply wc_seq; apply wc_region; refine Z2 ?_; apply w_nil; apply wx_next; apply wc_ret; apply wx_ret_then; rotate_left; refine Z30 ?_; refine Z0 ?_; refine Z4 ?_; refine Z0 ?_; refine Z4 ?_; refine Z33 ?_; refine Z30 ?_; refine Z0 ?_; refine Z4 ?_; refine Z0 ?_; refine Z4 ?_; refine Z33 ?_; refine Z30 ?_; apply w_nil; apply wx_next; refine Z18 ?_; apply wc_seq; apply wc_region; refine Z2 ?_; apply w_nil; apply wx_next; apply wc_ret; apply wx_ret_then; rotate_left)))
      all_goals exact ret_fn H hm (outs1 Tryz.results75 Wh) (by simp_all [Ts.check]; try omega)
    · (focus (refine Z0 ?_; refine Z5 ?_; refine Z5 ?_; refine Z5 ?_; refine Z8 ?_; refine Z2 ?_; apply w_nil; apply wx_next; apply wc_seq; apply wc_seq; apply wc_region; refine Z3 ?_; refine Z1 ?_; refine Z93 (fun hq => ?_) fun hq => ?_; refine Z0 ?_; refine Z5 ?_; refine Z5 ?_; refine Z5 ?_; refine Z8 ?_; refine Z0 ?_; refine Z5 ?_; refine Z5 ?_; refine Z8 ?_; refine Z0 ?_; refine Z5 ?_; refine Z5 ?_; refine Z8 ?_; apply w_nil; apply wx_next; refine Z18 ?_; apply wc_seq; apply wc_region; refine Z2 ?_; apply w_nil; apply wx_next; apply wc_ret; apply wx_ret_then; rotate_left; refine Z0 ?_; refine Z4 ?_; refine Z3 ?_; refine Z4 ?_; refine Z1 ?_; refine Z4 ?_; refine Z96 (fun hq => ?_) fun hq => ?_; refine Z30 ?_; refine Z0 ?_; refine Z5 ?_; refine Z5 ?_; refine Z8 ?_; refine Z0 ?_; refine Z5 ?_; refine Z5 ?_; refine Z8 ?_; apply w_nil; apply wx_next; refine Z18 ?_; apply wc_seq; apply wc_region; refine Z2 ?_; apply w_nil; apply wx_next; apply wc_ret; apply wx_ret_then; rotate_left; refine Z30 ?_; refine Z0 ?_; refine Z4 ?_; refine Z0 ?_; refine Z4 ?_; refine Z33 ?_; refine Z30 ?_; refine Z0 ?_; refine Z4 ?_; refine Z0 ?_; refine Z4 ?_; refine Z33 ?_; refine Z30 ?_; apply w_nil; apply wx_next; refine Z19 ?_; apply wc_skip; apply wx_next; apply wc_seq; apply wc_region; refine Z2 ?_; apply w_nil; apply wx_next; apply wc_ret; rotate_left))
      all_goals exact ret_fn H hm (outs1 Tryz.results75 Wh) (by simp_all [Ts.check]; try omega)
theorem ref02_CompareAtoms (a b : At0) (u1 u2 : Value) (c : Cx) (h1 : Ag a u1 c) (h2 : Ag b u2 c) (hs : a.sm) : Cn Tryz.prog 79 [u1, u2] c (fun v _ => v = .int .i64 (cmpAt a b)) := by
  refine Cn.of Tryz.func79 Tryz.ntmps79 rfl rfl fun hm H HA => ?_
  have hlim : a.args.length < 1099511627776 := by obtain ⟨cs, rfl, v, rfl, h⟩ := h1; exact h.lim
  have HA := (HA.add h1).add h2
  (apply wc_seq; apply wc_region)
  (refine s_boxG rfl rfl Lk H HA ?_; intro p c H HA)
  (refine s_boxG rfl rfl Lk H HA ?_; intro q c H HA)
  (refine Z2 ?_; apply w_nil; apply wx_next; apply wc_seq; apply wc_region; refine Z35 HA fun vx HA => ?_; refine Z36 ?_; refine Z35 HA fun vx HA => ?_; refine Z36 ?_)
  (refine s_call rfl rfl H HA (ref02_Texts a.name b.name _ hs.1) ?_; intro vx c H HP; have hvx := HP.h.1; have HA := HP.cut; subst hvx)
  generalize e1 : cmpS a.name b.name = n1
  by_cases hn1 : n1 = 0
  · (refine Z2 ?_; apply w_nil; apply wx_next; apply wc_seq; apply wc_seq; apply wc_region; refine Z0 ?_; refine Z80 ?_; apply w_nil; apply wx_next; refine Z18 ?_; apply wc_region; refine Z35 HA fun vx HA => ?_; refine Z37 HA fun vx HA => ?_; refine Z45 ?_; refine Z35 HA fun vx HA => ?_; refine Z37 HA fun vx HA => ?_; refine Z45 ?_)
    (refine s_call rfl rfl H HA (ref02_ints _ _ _) ?_; intro vx c H HP; have hvx := HP.h.1; have HA := HP.cut; subst hvx)
    generalize e2 : cmpI a.args.length b.args.length = n2
    have hle : n2 = 0 → a.args.length = b.args.length := by
      intro h
      rw [← e2, cmpI_nat] at h
      repeat' split at h
      all_goals omega
    by_cases hn2 : n2 = 0
    · (refine Z2 ?_; apply w_nil; apply wx_next; apply wc_seq; apply wc_seq; apply wc_region; refine Z0 ?_; refine Z80 ?_; apply w_nil; apply wx_next; refine Z18 ?_; apply wc_region; refine Z35 HA fun vx HA => ?_; refine Z38 ?_; refine Z35 HA fun vx HA => ?_; refine Z38 ?_)
      (refine s_call rfl rfl H HA (ref02_Compare a.by_ b.by_ _ hs.2.1) ?_; intro vx c H HP; have hvx := HP.h.1; have HA := HP.cut; subst hvx)
      generalize e3 : cmpTm a.by_ b.by_ = X
      have hX1 : X = 0 → a.args.length = b.args.length := fun _ => hle hn2
      have hX2 : cmpAt a b = if X = 0 then cmpTms (a.args.drop 0) (b.args.drop 0) else X := by
        simp [cmpAt, orI, e1, e2, e3, hn1, hn2]
        split <;> (try split) <;> simp_all
      (refine Z2 ?_; apply w_nil; apply wx_next; apply wc_seq; apply wc_seq; apply wc_region; refine Z2 ?_; apply w_nil; apply wx_next; apply wc_block)
      refine wc_loopM (σ := Nat × Int) (fun s => a.args.length - s.1) (fun s => [(2, p), (3, q), (5, .int .i64 s.2), (6, .int .i64 s.1)]) (fun s => s.1 ≤ a.args.length ∧ (s.2 = 0 → a.args.length = b.args.length) ∧ cmpAt a b = if s.2 = 0 then cmpTms (a.args.drop s.1) (b.args.drop s.1) else s.2) (0, X) H HA Ks ⟨Nat.zero_le _, hX1, hX2⟩ ?_
      intro s g c hp H HA
      obtain ⟨k, cur⟩ := s
      obtain ⟨hk, hl, hc⟩ := hp
      dsimp only at hk hl hc ⊢
      by_cases h0 : cur = 0
      · have hl := hl h0
        rw [if_pos h0] at hc
        (focus (apply wc_seq; apply wc_seq; apply wc_region; refine Z0 ?_; refine Z80 ?_; refine Z0 ?_; refine Z4 ?_; refine Z0 ?_; refine Z4 ?_; refine Z35 HA fun vx HA => ?_; refine Z4 ?_; refine Z37 HA fun vx HA => ?_; refine Z4 ?_; refine Z45 ?_; refine Z4 ?_; refine Z93 (fun hq => ?_) fun hq => ?_; refine Z8 ?_; apply w_nil; apply wx_next; refine Z18 ?_; apply wc_skip; apply wx_next; apply wc_seq; apply wc_block; rotate_left; refine Z8 ?_; apply w_nil; apply wx_next; refine Z19 ?_; apply wc_exit; apply wx_exit_then; apply wx_exit_then; apply wx_exit_same; apply wx_next; apply wc_seq; apply wc_region; refine Z0 ?_; refine Z2 ?_; apply w_nil; apply wx_next; apply wc_ret; rotate_left))
        · obtain ⟨t, ht⟩ := getq (xs := a.args) (k := k) (by omega)
          obtain ⟨t', ht'⟩ := getq (xs := b.args) (k := k) (by omega)
          have hd := drop_get ht
          have hd' := drop_get ht'
          ((refine dw_start H HA ?_); (repeat (refine Dc ?_)); (refine dw_done mixed H HA rfl (by kernel_rfl) ?_; clear H HA; intro c H HA; (repeat (first | (intro vx hx; have hx2 : vx = _ := hx; clear hx; subst hx2) | (intro vx hx; have HA := HA.addSF hx; clear hx) | (intro vx hx; have HA := HA.add hx; clear hx) | intro vx)); change W _ _ _ _ _ _ _))
          (refine s_call rfl rfl H HA (ref02_Compare t t' _ (hs.2.2 t (List.mem_of_getElem? ht))) ?_; intro vx c H HP; have hvx := HP.h.1; have HA := HP.cut; subst hvx)
          (refine Z2 ?_; apply w_nil; apply wx_norm_block; apply wx_next; apply wc_region; refine Z0 ?_; refine Z46 ?_; refine Z2 ?_; apply w_nil)
          exact wx_loopM ((k + 1, cmpTm t t')) H Cu Ks (by simp; omega) ⟨by simp; omega, fun _ => hl, by
            rw [hc, hd, hd']
            rfl⟩
        · exact ret_fn H hm (outs1 Tryz.results79 Wh) (by rw [hc, drop_end hq, h0]; rfl)
      · rw [if_neg h0] at hc
        (apply wc_seq; apply wc_seq; apply wc_region; refine Z0 ?_; refine Z80 ?_; refine Z0 ?_; refine Z5 ?_; refine Z5 ?_; refine Z5 ?_; refine Z5 ?_; refine Z5 ?_; refine Z30 ?_; apply w_nil; apply wx_next; refine Z19 ?_; apply wc_exit; apply wx_exit_then; apply wx_exit_then; apply wx_exit_same; apply wx_next; apply wc_seq; apply wc_region; refine Z0 ?_; refine Z2 ?_; apply w_nil; apply wx_next; apply wc_ret)
        exact ret_fn H hm (outs1 Tryz.results79 Wh) (by rw [hc])
    · generalize n2 = X at *
      have hX1 : X = 0 → a.args.length = b.args.length := fun h => absurd h hn2
      have hX2 : cmpAt a b = if X = 0 then cmpTms (a.args.drop 0) (b.args.drop 0) else X := by
        simp [cmpAt, orI, e1, e2, hn1, hn2]
      (refine Z2 ?_; apply w_nil; apply wx_next; apply wc_seq; apply wc_seq; apply wc_region; refine Z0 ?_; refine Z80 ?_; apply w_nil; apply wx_next; refine Z19 ?_; apply wc_skip; apply wx_next; apply wc_seq; apply wc_seq; apply wc_region; refine Z2 ?_; apply w_nil; apply wx_next; apply wc_block)
      refine wc_loopM (σ := Nat × Int) (fun s => a.args.length - s.1) (fun s => [(2, p), (3, q), (5, .int .i64 s.2), (6, .int .i64 s.1)]) (fun s => s.1 ≤ a.args.length ∧ (s.2 = 0 → a.args.length = b.args.length) ∧ cmpAt a b = if s.2 = 0 then cmpTms (a.args.drop s.1) (b.args.drop s.1) else s.2) (0, X) H HA Ks ⟨Nat.zero_le _, hX1, hX2⟩ ?_
      intro s g c hp H HA
      obtain ⟨k, cur⟩ := s
      obtain ⟨hk, hl, hc⟩ := hp
      dsimp only at hk hl hc ⊢
      by_cases h0 : cur = 0
      · have hl := hl h0
        rw [if_pos h0] at hc
        (focus (apply wc_seq; apply wc_seq; apply wc_region; refine Z0 ?_; refine Z80 ?_; refine Z0 ?_; refine Z4 ?_; refine Z0 ?_; refine Z4 ?_; refine Z35 HA fun vx HA => ?_; refine Z4 ?_; refine Z37 HA fun vx HA => ?_; refine Z4 ?_; refine Z45 ?_; refine Z4 ?_; refine Z93 (fun hq => ?_) fun hq => ?_; refine Z8 ?_; apply w_nil; apply wx_next; refine Z18 ?_; apply wc_skip; apply wx_next; apply wc_seq; apply wc_block; rotate_left; refine Z8 ?_; apply w_nil; apply wx_next; refine Z19 ?_; apply wc_exit; apply wx_exit_then; apply wx_exit_then; apply wx_exit_same; apply wx_next; apply wc_seq; apply wc_region; refine Z0 ?_; refine Z2 ?_; apply w_nil; apply wx_next; apply wc_ret; rotate_left))
        · obtain ⟨t, ht⟩ := getq (xs := a.args) (k := k) (by omega)
          obtain ⟨t', ht'⟩ := getq (xs := b.args) (k := k) (by omega)
          have hd := drop_get ht
          have hd' := drop_get ht'
          ((refine dw_start H HA ?_); (repeat (refine Dc ?_)); (refine dw_done mixed H HA rfl (by kernel_rfl) ?_; clear H HA; intro c H HA; (repeat (first | (intro vx hx; have hx2 : vx = _ := hx; clear hx; subst hx2) | (intro vx hx; have HA := HA.addSF hx; clear hx) | (intro vx hx; have HA := HA.add hx; clear hx) | intro vx)); change W _ _ _ _ _ _ _))
          (refine s_call rfl rfl H HA (ref02_Compare t t' _ (hs.2.2 t (List.mem_of_getElem? ht))) ?_; intro vx c H HP; have hvx := HP.h.1; have HA := HP.cut; subst hvx)
          (refine Z2 ?_; apply w_nil; apply wx_norm_block; apply wx_next; apply wc_region; refine Z0 ?_; refine Z46 ?_; refine Z2 ?_; apply w_nil)
          exact wx_loopM ((k + 1, cmpTm t t')) H Cu Ks (by simp; omega) ⟨by simp; omega, fun _ => hl, by
            rw [hc, hd, hd']
            rfl⟩
        · exact ret_fn H hm (outs1 Tryz.results79 Wh) (by rw [hc, drop_end hq, h0]; rfl)
      · rw [if_neg h0] at hc
        (apply wc_seq; apply wc_seq; apply wc_region; refine Z0 ?_; refine Z80 ?_; refine Z0 ?_; refine Z5 ?_; refine Z5 ?_; refine Z5 ?_; refine Z5 ?_; refine Z5 ?_; refine Z30 ?_; apply w_nil; apply wx_next; refine Z19 ?_; apply wc_exit; apply wx_exit_then; apply wx_exit_then; apply wx_exit_same; apply wx_next; apply wc_seq; apply wc_region; refine Z0 ?_; refine Z2 ?_; apply w_nil; apply wx_next; apply wc_ret)
        exact ret_fn H hm (outs1 Tryz.results79 Wh) (by rw [hc])
  · generalize n1 = X at *
    have hX1 : X = 0 → a.args.length = b.args.length := fun h => absurd h hn1
    have hX2 : cmpAt a b = if X = 0 then cmpTms (a.args.drop 0) (b.args.drop 0) else X := by
      simp [cmpAt, orI, e1, hn1]
    (refine Z2 ?_; apply w_nil; apply wx_next; apply wc_seq; apply wc_seq; apply wc_region; refine Z0 ?_; refine Z80 ?_; apply w_nil; apply wx_next; refine Z19 ?_; apply wc_skip; apply wx_next; apply wc_seq; apply wc_seq; apply wc_region; refine Z0 ?_; refine Z80 ?_; apply w_nil; apply wx_next; refine Z19 ?_; apply wc_skip; apply wx_next; apply wc_seq; apply wc_seq; apply wc_region; refine Z2 ?_; apply w_nil; apply wx_next; apply wc_block)
    refine wc_loopM (σ := Nat × Int) (fun s => a.args.length - s.1) (fun s => [(2, p), (3, q), (5, .int .i64 s.2), (6, .int .i64 s.1)]) (fun s => s.1 ≤ a.args.length ∧ (s.2 = 0 → a.args.length = b.args.length) ∧ cmpAt a b = if s.2 = 0 then cmpTms (a.args.drop s.1) (b.args.drop s.1) else s.2) (0, X) H HA Ks ⟨Nat.zero_le _, hX1, hX2⟩ ?_
    intro s g c hp H HA
    obtain ⟨k, cur⟩ := s
    obtain ⟨hk, hl, hc⟩ := hp
    dsimp only at hk hl hc ⊢
    by_cases h0 : cur = 0
    · have hl := hl h0
      rw [if_pos h0] at hc
      (focus (apply wc_seq; apply wc_seq; apply wc_region; refine Z0 ?_; refine Z80 ?_; refine Z0 ?_; refine Z4 ?_; refine Z0 ?_; refine Z4 ?_; refine Z35 HA fun vx HA => ?_; refine Z4 ?_; refine Z37 HA fun vx HA => ?_; refine Z4 ?_; refine Z45 ?_; refine Z4 ?_; refine Z93 (fun hq => ?_) fun hq => ?_; refine Z8 ?_; apply w_nil; apply wx_next; refine Z18 ?_; apply wc_skip; apply wx_next; apply wc_seq; apply wc_block; rotate_left; refine Z8 ?_; apply w_nil; apply wx_next; refine Z19 ?_; apply wc_exit; apply wx_exit_then; apply wx_exit_then; apply wx_exit_same; apply wx_next; apply wc_seq; apply wc_region; refine Z0 ?_; refine Z2 ?_; apply w_nil; apply wx_next; apply wc_ret; rotate_left))
      · obtain ⟨t, ht⟩ := getq (xs := a.args) (k := k) (by omega)
        obtain ⟨t', ht'⟩ := getq (xs := b.args) (k := k) (by omega)
        have hd := drop_get ht
        have hd' := drop_get ht'
        ((refine dw_start H HA ?_); (repeat (refine Dc ?_)); (refine dw_done mixed H HA rfl (by kernel_rfl) ?_; clear H HA; intro c H HA; (repeat (first | (intro vx hx; have hx2 : vx = _ := hx; clear hx; subst hx2) | (intro vx hx; have HA := HA.addSF hx; clear hx) | (intro vx hx; have HA := HA.add hx; clear hx) | intro vx)); change W _ _ _ _ _ _ _))
        (refine s_call rfl rfl H HA (ref02_Compare t t' _ (hs.2.2 t (List.mem_of_getElem? ht))) ?_; intro vx c H HP; have hvx := HP.h.1; have HA := HP.cut; subst hvx)
        (refine Z2 ?_; apply w_nil; apply wx_norm_block; apply wx_next; apply wc_region; refine Z0 ?_; refine Z46 ?_; refine Z2 ?_; apply w_nil)
        exact wx_loopM ((k + 1, cmpTm t t')) H Cu Ks (by simp; omega) ⟨by simp; omega, fun _ => hl, by
          rw [hc, hd, hd']
          rfl⟩
      · exact ret_fn H hm (outs1 Tryz.results79 Wh) (by rw [hc, drop_end hq, h0]; rfl)
    · rw [if_neg h0] at hc
      (apply wc_seq; apply wc_seq; apply wc_region; refine Z0 ?_; refine Z80 ?_; refine Z0 ?_; refine Z5 ?_; refine Z5 ?_; refine Z5 ?_; refine Z5 ?_; refine Z5 ?_; refine Z30 ?_; apply w_nil; apply wx_next; refine Z19 ?_; apply wc_exit; apply wx_exit_then; apply wx_exit_then; apply wx_exit_same; apply wx_next; apply wc_seq; apply wc_region; refine Z0 ?_; refine Z2 ?_; apply w_nil; apply wx_next; apply wc_ret)
      exact ret_fn H hm (outs1 Tryz.results79 Wh) (by rw [hc])
theorem ref02_Same (a b : At0) (u1 u2 : Value) (c : Cx) (h1 : Ag a u1 c) (h2 : Ag b u2 c) (hs : a.sm) : Cn Tryz.prog 92 [u1, u2] c (fun v _ => v = .bool (decide (cmpAt a b = 0))) := by
  refine Cn.of Tryz.func92 Tryz.ntmps92 rfl rfl fun hm H HA => ?_
  have HA := (HA.add h1).add h2
  (apply wc_seq; apply wc_region; refine Z40 fun vx c H HA => ?_; refine Z40 fun vx c H HA => ?_; refine Z2 ?_; apply w_nil; apply wx_next; apply wc_seq; apply wc_region; refine Z39 HA fun vx HA => ?_; refine Z39 HA fun vx HA => ?_)
  (refine s_call rfl rfl H HA (ref02_CompareAtoms a b _ _ _ Lk Lk hs) ?_; intro vx c H HP; have hvx := HP.h.1; have HA := HP.cut; subst hvx)
  (focus (refine Z92 (fun hq => ?_) fun hq => ?_; refine Z2 ?_; apply w_nil; apply wx_next; apply wc_ret; rotate_left; refine Z2 ?_; apply w_nil; apply wx_next; apply wc_ret; rotate_left))
  all_goals exact ret_fn H hm (outs1 Tryz.results92 Wh) (by simp [*])
theorem ref02_Decide (t : Ts) (c : Cx) (hs : t.l.sm) : Cn Tryz.prog 67 [.agg t.cs.toArray] c (fun v _ => v = .tuple #[.bool t.decide.1, .bool t.decide.2]) := by
  refine Cn.of Tryz.func67 Tryz.ntmps67 rfl rfl fun hm H HA => ?_
  (apply wc_seq; apply wc_region; refine Z31 fun bx c H HA => ?_; refine Z2 ?_; refine Z2 ?_; apply w_nil; apply wx_next; apply wc_seq; apply wc_seq; apply wc_region; refine Z7 ?_)
  (refine s_call rfl rfl H HA (ref02_CheckTest t _) ?_; intro vx c H HP; have hvx := HP.h.1; have HA := HP.cut; subst hvx)
  by_cases h0 : t.check = 0
  · (refine Z82 ?_; refine Z0 ?_; refine Z4 ?_; refine Z3 ?_; refine Z4 ?_; refine Z7 ?_; refine Z4 ?_)
    (refine s_call rfl rfl H HA (ref02_Const t.l _) ?_; intro vx c H HP; have hvx := HP.h.1; have HA := HP.cut; subst hvx)
    cases h1 : t.l.isConst
    · (refine Z4 ?_; refine Z33 ?_; refine Z30 ?_; refine Z0 ?_; refine Z5 ?_; refine Z5 ?_; refine Z5 ?_; refine Z5 ?_; refine Z8 ?_; apply w_nil; apply wx_next; refine Z18 ?_; apply wc_seq; apply wc_region; refine Z2 ?_; refine Z2 ?_; apply w_nil; apply wx_next; apply wc_ret; apply wx_ret_then)
      exact ret_fn H hm (outs2 Tryz.results67 Wh Wh) (by simp [Ts.decide, h1])
    · (refine Z4 ?_; refine Z33 ?_; refine Z30 ?_; refine Z0 ?_; refine Z4 ?_; refine Z3 ?_; refine Z4 ?_; refine Z7 ?_; refine Z4 ?_)
      (refine s_call rfl rfl H HA (ref02_Const t.r _) ?_; intro vx c H HP; have hvx := HP.h.1; have HA := HP.cut; subst hvx)
      cases h2 : t.r.isConst
      · (refine Z4 ?_; refine Z33 ?_; refine Z30 ?_; apply w_nil; apply wx_next; refine Z18 ?_; apply wc_seq; apply wc_region; refine Z2 ?_; refine Z2 ?_; apply w_nil; apply wx_next; apply wc_ret; apply wx_ret_then)
        exact ret_fn H hm (outs2 Tryz.results67 Wh Wh) (by simp [Ts.decide, h1, h2])
      · (refine Z4 ?_; refine Z33 ?_; refine Z30 ?_; apply w_nil; apply wx_next; refine Z19 ?_; apply wc_skip; apply wx_next; apply wc_seq; apply wc_region; refine Z3 ?_; refine Z7 ?_; refine Z3 ?_; refine Z7 ?_)
        (refine s_call rfl rfl H HA (ref02_Compare t.l t.r _ hs) ?_; intro vx c H HP; have hvx := HP.h.1; have HA := HP.cut; subst hvx)
        (focus (refine Z2 ?_; apply w_nil; apply wx_next; apply wc_seq; apply wc_seq; apply wc_region; refine Z3 ?_; refine Z1 ?_; apply w_nil; apply wx_next; apply wc_block; apply wc_seq; apply wc_region; refine Z92 (fun hq => ?_) fun hq => ?_; refine Z2 ?_; apply w_nil; apply wx_next; refine Z18 ?_; apply wc_seq; apply wc_region; refine Z0 ?_; refine Z92 (fun hq => ?_) fun hq => ?_; refine Z2 ?_; refine Z2 ?_; apply w_nil; apply wx_next; apply wc_ret; apply wx_ret_block; apply wx_ret_then; rotate_left; refine Z2 ?_; refine Z2 ?_; apply w_nil; apply wx_next; apply wc_ret; apply wx_ret_block; apply wx_ret_then; rotate_left; refine Z2 ?_; apply w_nil; apply wx_next; refine Z19 ?_; apply wc_seq; apply wc_region; refine Z92 (fun hq => ?_) fun hq => ?_; refine Z2 ?_; apply w_nil; apply wx_next; refine Z18 ?_; apply wc_seq; apply wc_region; refine Z0 ?_; refine Z94 (fun hq => ?_) fun hq => ?_; refine Z2 ?_; refine Z2 ?_; apply w_nil; apply wx_next; apply wc_ret; apply wx_ret_block; apply wx_ret_then; rotate_left; refine Z2 ?_; refine Z2 ?_; apply w_nil; apply wx_next; apply wc_ret; apply wx_ret_block; apply wx_ret_then; rotate_left; refine Z2 ?_; apply w_nil; apply wx_next; refine Z19 ?_; apply wc_seq; apply wc_region; refine Z92 (fun hq => ?_) fun hq => ?_; refine Z2 ?_; apply w_nil; apply wx_next; refine Z18 ?_; apply wc_seq; apply wc_region; refine Z0 ?_; refine Z93 (fun hq => ?_) fun hq => ?_; refine Z2 ?_; refine Z2 ?_; apply w_nil; apply wx_next; apply wc_ret; apply wx_ret_block; apply wx_ret_then; rotate_left; refine Z2 ?_; refine Z2 ?_; apply w_nil; apply wx_next; apply wc_ret; apply wx_ret_block; apply wx_ret_then; rotate_left; refine Z2 ?_; apply w_nil; apply wx_next; refine Z19 ?_; apply wc_skip; apply wx_norm_block; apply wx_next; apply wc_seq; apply wc_region; refine Z0 ?_; refine Z95 (fun hq => ?_) fun hq => ?_; refine Z2 ?_; refine Z2 ?_; apply w_nil; apply wx_next; apply wc_ret; rotate_left; refine Z2 ?_; refine Z2 ?_; apply w_nil; apply wx_next; apply wc_ret; rotate_left))
        all_goals exact ret_fn H hm (outs2 Tryz.results67 Wh Wh) (by simp [Ts.decide, h1, h2, *])
  · (refine Z82 ?_; refine Z0 ?_; refine Z5 ?_; refine Z5 ?_; refine Z5 ?_; refine Z5 ?_; refine Z8 ?_; refine Z0 ?_; refine Z5 ?_; refine Z5 ?_; refine Z5 ?_; refine Z5 ?_; refine Z8 ?_; apply w_nil; apply wx_next; refine Z18 ?_; apply wc_seq; apply wc_region; refine Z2 ?_; refine Z2 ?_; apply w_nil; apply wx_next; apply wc_ret; apply wx_ret_then)
    exact ret_fn H hm (outs2 Tryz.results67 Wh Wh) (by simp [Ts.decide, h0])
end Go.Proofs.YthkdggoohpgnnaaGreatDoor
/- Contracts: bindings, of the document's answer. -/
namespace Go.Wk
open Go
def looked (s : List Bd) (x : Int) : Value := .tuple #[.agg ((lookB s x).getD Tn).cs.toArray, .bool (lookB s x).isSome]
end Go.Wk
namespace Go.Proofs.YthkdggoohpgnnaaGreatDoor
open Go Go.Wk
theorem ref02_Look (s : List Bd) (v : Value) (x : Int) (c : Cx) (h : Sl v s c) : Cn Tryz.prog 42 [v, .int .i64 x] c (fun u _ => u = looked s x) := by
  refine Cn.of Tryz.func42 Tryz.ntmps42 rfl rfl fun hm H HA => ?_
  have hlim := h.lim
  have HA := HA.add h
  (apply wc_seq; apply wc_region; refine Z61 fun bx c H HA => ?_; refine Z2 ?_; apply w_nil; apply wx_next; apply wc_seq; apply wc_seq; apply wc_region; refine Z2 ?_; apply w_nil; apply wx_next; apply wc_block)
  refine wc_loopN s.length (fun k => [(0, v), (1, .int .i64 x), (4, .pointer (some ⟨bx, 0, none⟩)), (5, .bool false), (6, .int .i64 k)]) (fun k => lookB s x = lookB (s.drop k) x) 0 H HA Ks (Nat.zero_le _) rfl ?_
  intro k g c hk hp H HA
  (focus (apply wc_seq; apply wc_seq; apply wc_region; refine Z0 ?_; refine Z0 ?_; refine Z45 ?_; refine Z93 (fun hq => ?_) fun hq => ?_; apply w_nil; apply wx_next; refine Z18 ?_; apply wc_skip; apply wx_next; apply wc_seq; apply wc_block; apply wc_seq; apply wc_region; refine Z0 ?_; refine Z0 ?_; rotate_left; apply w_nil; apply wx_next; refine Z19 ?_; apply wc_exit; apply wx_exit_then; apply wx_exit_then; apply wx_exit_same; apply wx_next; apply wc_seq; apply wc_region; refine Z54 ?_; refine Z74 fun c H HA => ?_; refine Z2 ?_; apply w_nil; apply wx_next; apply wc_ret; rotate_left))
  · obtain ⟨e, he⟩ := getq (xs := s) (k := k) (by omega)
    have hd := drop_get he
    (focus (refine Z34 HA fun vx HA => ?_; refine Z35 HA fun vx HA => ?_; refine Z36 ?_; refine Z0 ?_; refine Z92 (fun hq => ?_) fun hq => ?_; apply w_nil; apply wx_next; refine Z18 ?_; apply wc_seq; apply wc_region; refine Z0 ?_; refine Z0 ?_; refine Z34 HA fun vx HA => ?_; refine Z35 HA fun vx HA => ?_; refine Z38 ?_; refine Z74 fun c H HA => ?_; refine Z2 ?_; apply w_nil; apply wx_next; apply wc_ret; apply wx_ret_block; apply wx_ret_then; apply wx_ret_then; apply wx_ret_block; apply wx_ret_then; rotate_left; apply w_nil; apply wx_next; refine Z19 ?_; apply wc_skip; apply wx_norm_block; apply wx_next; apply wc_region; refine Z0 ?_; refine Z46 ?_; refine Z2 ?_; apply w_nil; rotate_left))
    · exact ret_fn H hm (outsR2 Tryz.results42 (RV.agg rfl H Ow Rc) (RV.tmp Wh)) (by simp [looked, hp, hd, lookB, hq])
    · exact wx_loopN (k + 1) H Cu Ks (by omega) (by simp [hp, hd, lookB, hq])
  · exact ret_fn H hm (outsR2 Tryz.results42 (RV.agg rfl H Ow Rc) (RV.tmp Wh)) (by simp [looked, hp, drop_end hq, lookB])
theorem ref02_Become (s : List Bd) (v : Value) (t : Tm) (c : Cx) (h : Sl v s c) : Cn Tryz.prog 128 [v, .agg t.cs.toArray] c (fun u _ => u = .agg (becomeT s t).cs.toArray) := by
  refine Cn.of Tryz.func128 Tryz.ntmps128 rfl rfl fun hm H HA => ?_
  have HA := HA.add h
  (apply wc_seq; apply wc_region; refine Z31 fun bx c H HA => ?_; refine Z61 fun bx c H HA => ?_; apply w_nil; apply wx_next; apply wc_seq; apply wc_seq; apply wc_region; refine Z7 ?_)
  (refine s_call rfl rfl H HA (ref02_Variable t _) ?_; intro vx c H HP; have hvx := HP.h.1; have HA := HP.cut; subst hvx)
  cases hv : t.isVar
  · (apply w_nil; apply wx_next; refine Z19 ?_; apply wc_skip; apply wx_next; apply wc_seq; apply wc_region; refine Z7 ?_; refine Z74 fun c H HA => ?_; apply w_nil; apply wx_next; apply wc_ret)
    exact ret_fn H hm (outsR1 Tryz.results128 (RV.agg rfl H Ow Rc)) (by simp [becomeT, hv])
  · (apply w_nil; apply wx_next; refine Z18 ?_; apply wc_seq; apply wc_region; refine Z0 ?_; refine Z3 ?_; refine Z1 ?_)
    (refine s_call rfl rfl H HA (ref02_Look s v t.n _ Lk) ?_; intro vx c H HP; have hvx := HP.h.1; have HA := HP.cut; subst hvx)
    cases hl : lookB s t.n
    · rw [looked, hl]
      (refine Z0 ?_; refine Z32 ?_; refine Z32 ?_; refine Z61 fun bx c H HA => ?_; refine Z74 fun c H HA => ?_; refine Z2 ?_; apply w_nil; apply wx_next; apply wc_seq; apply wc_region; refine Z0 ?_; apply w_nil; apply wx_next; refine Z19 ?_; apply wc_skip; apply wx_next; apply wc_seq; apply wc_region; refine Z7 ?_; refine Z76 fun c H HA => ?_; apply w_nil; apply wx_next; apply wc_ret)
      exact ret_fn H hm (outsR1 Tryz.results128 (RV.agg rfl H Ow Rc)) (by simp [becomeT, hv, hl])
    · rw [looked, hl]
      (refine Z0 ?_; refine Z32 ?_; refine Z32 ?_; refine Z61 fun bx c H HA => ?_; refine Z74 fun c H HA => ?_; refine Z2 ?_; apply w_nil; apply wx_next; apply wc_seq; apply wc_region; refine Z0 ?_; apply w_nil; apply wx_next; refine Z18 ?_; apply wc_seq; apply wc_region; refine Z42 ?_; refine Z76 fun c H HA => ?_; apply w_nil; apply wx_next; apply wc_ret; apply wx_ret_then)
      exact ret_fn H hm (outsR1 Tryz.results128 (RV.agg rfl H Ow Rc)) (by simp [becomeT, hv, hl])
theorem ref02_Apply (s : List Bd) (v : Value) (a : At0) (u : Value) (c : Cx) (h : Sl v s c) (h2 : Ag a u c) : Cn Tryz.prog 93 [v, u] c (fun r c => Ag (applyA s a) r c) := by
  refine Cn.of Tryz.func93 Tryz.ntmps93 rfl rfl fun hm H HA => ?_
  have hlim : a.args.length < 1099511627776 := by obtain ⟨cs, rfl, v, rfl, h⟩ := h2; exact h.lim
  have HA := (HA.add h).add h2
  (apply wc_seq; apply wc_region)
  (refine s_boxG rfl rfl Lk H HA ?_; intro p c H HA)
  (refine Z61 fun bx c H HA => ?_; apply w_nil; apply wx_next; apply wc_seq)
  (obtain ⟨b0, rfl⟩ : ∃ x, x = bx := ⟨_, rfl⟩)
  (refine dw_start H HA ?_)
  (repeat (refine Dc ?_))
  (apply dw_cons; (focus ((intro B _ Lx c H HA; (repeat (first | (intro vx hx; have hx2 : vx = _ := hx; clear hx; subst hx2) | (intro vx hx; have HA := HA.addSF hx; clear hx) | (intro vx hx; have HA := HA.add hx; clear hx) | intro vx)); change W _ _ _ _ _ _ _); (refine s_call rfl rfl H HA (ref02_Become s v a.by_ _ Lk) ?_; intro vx c H HP; have hvx := HP.h.1; have HA := HP.cut; subst hvx); exact Dx)); exact inferInstance)
  (repeat (refine Dc ?_))
  ((refine dw_doneO mixed H HA (by kernel_rfl) (by kernel_rfl) ?_; clear H HA; intro c HA; (repeat (first | (intro bx; have hbx : bx + 0 = bx := rfl; clear hbx) | (intro vx hx; have hx2 : vx = _ := hx; clear hx; subst hx2) | (intro vx hx; have HA := HA.addSF hx; clear hx) | (intro vx hx; skip; have HA := HA.add hx; clear hx) | (intro vx; have hvx2 : Go.Value := vx; clear hvx2))); (first | intro H | (have H := HA.h.1; have HA := HA.cut)); change W _ _ _ _ _ _ _); have H : Owns _ ([.obj bx (.cells (At0.cs ⟨Tn, ES, []⟩ (.slice none 0 0)).toArray 26 (0, 0)), .obj b0 (.cells (At0.cs ⟨Tn, ES, []⟩ (.slice none 0 0)).toArray 26 (0, 0))]) _ := H)
  (obtain ⟨b1, rfl⟩ : ∃ x, x = bx := ⟨_, rfl⟩)
  (refine Z74 fun c H HA => ?_; apply w_nil; apply wx_next; apply wc_seq; apply wc_seq; apply wc_region; refine Z2 ?_; apply w_nil; apply wx_next; apply wc_block)
  have H := H.nilR Tm 23 3
  refine wc_loopG (σ := Nat × List Tm × Value × List (List Value)) (fun x => a.args.length - x.1) (fun x => [(0, v), (3, p), (4, .pointer (some ⟨b0, 0, none⟩)), (5, .pointer (some ⟨b1, 0, none⟩)), (6, .int .i64 x.1)])
    (fun x => x.1 ≤ a.args.length ∧ x.2.1 = (a.args.take x.1).map (becomeT s))
    (fun x => [.row x.2.2.1 23 3 x.2.1.length x.2.2.2.flatten, .obj b1 (.cells (At0.cs ⟨becomeT s a.by_, a.name, []⟩ x.2.2.1).toArray 26 (0, 0)), .obj b0 (.cells (At0.cs ⟨Tn, ES, []⟩ (.slice none 0 0)).toArray 26 (0, 0))])
    (fun x c => Vals x.2.2.2 x.2.1 c) (0, [], .slice none 0 0, []) H HA (Vals.nil _) Ks ⟨Nat.zero_le _, rfl⟩ ?_
  intro x g c hp H HA
  obtain ⟨k, acc, vr, vals⟩ := x
  obtain ⟨hk, hacc⟩ := hp
  dsimp only at hk hacc H HA ⊢
  have hlen : acc.length = k := by rw [hacc]; simp; omega
  (focus (apply wc_seq; apply wc_seq; apply wc_region; refine Z0 ?_; refine Z35 HA fun vx HA => ?_; refine Z37 HA fun vx HA => ?_; refine Z45 ?_; refine Z93 (fun hq => ?_) fun hq => ?_; apply w_nil; apply wx_next; refine Z18 ?_; apply wc_skip; apply wx_next; apply wc_seq; apply wc_block; rotate_left; apply w_nil; apply wx_next; refine Z19 ?_; apply wc_exit; apply wx_exit_then; apply wx_exit_then; apply wx_exit_same; apply wx_next; apply wc_seq; apply wc_region; refine Z42 ?_; refine Z78 fun c H HA => ?_; apply w_nil; apply wx_next; apply wc_ret; rotate_left))
  · obtain ⟨t, ht⟩ := getq (xs := a.args) (k := k) (by omega)
    (refine dw_start H HA ?_)
    (repeat (refine Dc ?_))
    (apply dw_cons; (focus ((intro B _ Lx c H HA; (repeat (first | (intro vx hx; have hx2 : vx = _ := hx; clear hx; subst hx2) | (intro vx hx; have HA := HA.addSF hx; clear hx) | (intro vx hx; have HA := HA.add hx; clear hx) | intro vx)); change W _ _ _ _ _ _ _); (refine s_call rfl rfl H HA (ref02_Become s v t _ Lk) ?_; intro vx c H HP; have hvx := HP.h.1; have HA := HP.cut; subst hvx); exact Dx)); exact inferInstance)
    (repeat (refine Dc ?_))
    (refine dw_done mixed H HA rfl (by kernel_rfl) ?_; clear H HA; intro c H HA; (repeat (first | (intro vx hx; have hx2 : vx = _ := hx; clear hx; subst hx2) | (intro vx hx; have HA := HA.addSF hx; clear hx) | (intro vx hx; have HA := HA.add hx; clear hx) | intro vx)); change W _ _ _ _ _ _ _)
    (refine Z59 fun vx c valsx H HA => ?_; refine Z3 ?_; refine Z77 fun c H HA => ?_; apply w_nil; apply wx_norm_block; apply wx_next; apply wc_region; refine Z0 ?_; refine Z46 ?_; refine Z2 ?_; apply w_nil)
    exact wx_loopG ((k + 1, acc ++ [becomeT s t], vx, valsx)) H.swap Cu Lk Ks (by simp; omega) ⟨by simp; omega, by
      rw [List.take_add_one, ht]
      simp [hacc]⟩
  · have hacc : acc = a.args.map (becomeT s) := by rw [hacc, List.take_of_length_le (by omega)]
    (refine wx_freezeRow H.swap HA Lk rfl rfl Lt ?_; intro c H HA)
    exact ret_fn H hm (outsR1 Tryz.results93 (RV.agg rfl H Ow Rc)) ⟨_, rfl, _, rfl, by subst hacc; exact Lk⟩
end Go.Proofs.YthkdggoohpgnnaaGreatDoor
/- Contracts: sameness of clauses, places, the terms put back. -/
namespace Go.Proofs.YthkdggoohpgnnaaGreatDoor
open Go Go.Wk
theorem ref03_sameTests (xs ys : List Ts) (v1 v2 : Value) (c : Cx) (h1 : Sl v1 xs c) (h2 : Sl v2 ys c) : Cn Tryz.prog 53 [v1, v2] c (fun v _ => v = .bool (decide (xs = ys))) := by
  refine Cn.of Tryz.func53 Tryz.ntmps53 rfl rfl fun hm H HA => ?_
  have HA := (HA.add h1).add h2
  have hlim := h1.lim
  (focus (apply wc_seq; apply wc_region; refine Z2 ?_; apply w_nil; apply wx_next; apply wc_seq; apply wc_seq; apply wc_region; refine Z0 ?_; refine Z45 ?_; refine Z0 ?_; refine Z45 ?_; refine Z94 (fun hq => ?_) fun hq => ?_; apply w_nil; apply wx_next; refine Z18 ?_; apply wc_seq; apply wc_region; refine Z2 ?_; apply w_nil; apply wx_next; apply wc_ret; apply wx_ret_then; rotate_left; apply w_nil; apply wx_next; refine Z19 ?_; apply wc_skip; apply wx_next; apply wc_seq; apply wc_seq; apply wc_region; refine Z2 ?_; apply w_nil; apply wx_next; apply wc_block; rotate_left))
  · exact ret_fn H hm (outs1 Tryz.results53 Wh) (by simp; intro e; subst e; omega)
  refine wc_loopN xs.length (fun k => [(0, v1), (1, v2), (5, .int .i64 k)]) (fun k => decide (xs = ys) = decide (xs.drop k = ys.drop k)) 0 H HA Ks (Nat.zero_le _) (by simp) ?_
  intro k g c hk hno H HA
  (focus (apply wc_seq; apply wc_seq; apply wc_region; refine Z0 ?_; refine Z0 ?_; refine Z45 ?_; refine Z93 (fun hq => ?_) fun hq => ?_; apply w_nil; apply wx_next; refine Z18 ?_; apply wc_skip; apply wx_next; apply wc_seq; apply wc_block; apply wc_seq; rotate_left; apply w_nil; apply wx_next; refine Z19 ?_; apply wc_exit; apply wx_exit_then; apply wx_exit_then; apply wx_exit_same; apply wx_next; apply wc_seq; apply wc_region; refine Z2 ?_; apply w_nil; apply wx_next; apply wc_ret; rotate_left))
  · obtain ⟨u, hu⟩ := getq (xs := xs) (k := k) (by omega)
    obtain ⟨u', hu'⟩ := getq (xs := ys) (k := k) (by omega)
    have hd := drop_get hu
    have hd' := drop_get hu'
    ((refine dw_start H HA ?_); (repeat (refine Dc ?_)); (refine dw_done mixed H HA rfl (by kernel_rfl) ?_; clear H HA; intro c H HA; (repeat (first | (intro vx hx; have hx2 : vx = _ := hx; clear hx; subst hx2) | (intro vx hx; have HA := HA.addSF hx; clear hx) | (intro vx hx; have HA := HA.add hx; clear hx) | intro vx)); change W _ _ _ _ _ _ _))
    (focus (apply w_nil; apply wx_next; (focus (apply wc_cond; rfl; all_goals intro hq)); apply wc_seq; apply wc_region; refine Z2 ?_; apply w_nil; apply wx_next; apply wc_ret; apply wx_ret_block; apply wx_ret_then; apply wx_ret_then; apply wx_ret_block; apply wx_ret_then; rotate_left; apply wc_skip; apply wx_norm_block; apply wx_next; apply wc_region; refine Z0 ?_; refine Z46 ?_; refine Z2 ?_; apply w_nil; rotate_left))
    · exact ret_fn H hm (outs1 Tryz.results53 Wh) (by simp_all)
    · exact wx_loopN (k + 1) H Cu Ks (by omega) (by simp_all)
  · exact ret_fn H hm (outs1 Tryz.results53 Wh) (by rename_i hq0 _; rw [hno, drop_end hq, drop_end (xs := ys) (k := k) (by omega)]; simp)
theorem ref03_SameClause (a b : Cl) (u1 u2 : Value) (c : Cx) (h1 : Ag a u1 c) (h2 : Ag b u2 c) : Cn Tryz.prog 33 [u1, u2] c (fun v _ => v = .bool (decide (a = b))) := by
  refine Cn.of Tryz.func33 Tryz.ntmps33 rfl rfl fun hm H HA => ?_
  have HA := (HA.add h1).add h2
  (apply wc_seq; apply wc_region; refine Z40 fun vx c H HA => ?_; refine Z40 fun vx c H HA => ?_; refine Z2 ?_; apply w_nil; apply wx_next; apply wc_seq; apply wc_region; refine Z35 HA fun vx HA => ?_; refine Z39 HA fun vx HA => ?_; refine Z35 HA fun vx HA => ?_; refine Z39 HA fun vx HA => ?_)
  (refine s_call rfl rfl H HA (ref03_SameAtom a.head b.head _ _ _ Lk Lk) ?_; intro vx c H HP; have hvx := HP.h.1; have HA := HP.cut; subst hvx)
  generalize e1 : decide (a.head = b.head) = g1
  cases g1
  · (refine Z0 ?_; refine Z5 ?_; refine Z5 ?_; refine Z5 ?_; refine Z5 ?_; refine Z5 ?_; refine Z30 ?_; refine Z0 ?_; refine Z5 ?_; refine Z5 ?_; refine Z5 ?_; refine Z5 ?_; refine Z5 ?_; refine Z30 ?_; refine Z2 ?_; apply w_nil; apply wx_next; apply wc_ret)
    exact ret_fn H hm (outs1 Tryz.results33 Wh) (by simp at e1; simp [Cl.eq, e1])
  (refine Z0 ?_; refine Z4 ?_; refine Z35 HA fun vx HA => ?_; refine Z4 ?_; refine Z37 HA fun vx HA => ?_; refine Z4 ?_; refine Z35 HA fun vx HA => ?_; refine Z4 ?_; refine Z37 HA fun vx HA => ?_; refine Z4 ?_)
  (refine s_call rfl rfl H HA (ref03_SameAtoms a.body b.body _ _ _ Lk Lk) ?_; intro vx c H HP; have hvx := HP.h.1; have HA := HP.cut; subst hvx)
  generalize e2 : decide (a.body = b.body) = g2
  cases g2
  · (refine Z8 ?_; refine Z0 ?_; refine Z5 ?_; refine Z5 ?_; refine Z5 ?_; refine Z5 ?_; refine Z5 ?_; refine Z30 ?_; refine Z2 ?_; apply w_nil; apply wx_next; apply wc_ret)
    exact ret_fn H hm (outs1 Tryz.results33 Wh) (by simp at e2; simp [Cl.eq, e2])
  (refine Z8 ?_; refine Z0 ?_; refine Z4 ?_; refine Z35 HA fun vx HA => ?_; refine Z4 ?_; refine Z37 HA fun vx HA => ?_; refine Z4 ?_; refine Z35 HA fun vx HA => ?_; refine Z4 ?_; refine Z37 HA fun vx HA => ?_; refine Z4 ?_)
  (refine s_call rfl rfl H HA (ref03_sameTests a.tests b.tests _ _ _ Lk Lk) ?_; intro vx c H HP; have hvx := HP.h.1; have HA := HP.cut; subst hvx)
  (refine Z8 ?_; refine Z2 ?_; apply w_nil; apply wx_next; apply wc_ret)
  exact ret_fn H hm (outs1 Tryz.results33 Wh) (by simp at e1 e2; simp [Cl.eq, e1, e2])
theorem ref03_SameClauses (xs ys : List Cl) (v1 v2 : Value) (c : Cx) (h1 : Sl v1 xs c) (h2 : Sl v2 ys c) : Cn Tryz.prog 19 [v1, v2] c (fun v _ => v = .bool (decide (xs = ys))) := by
  refine Cn.of Tryz.func19 Tryz.ntmps19 rfl rfl fun hm H HA => ?_
  have HA := (HA.add h1).add h2
  have hlim := h1.lim
  (focus (apply wc_seq; apply wc_region; refine Z2 ?_; apply w_nil; apply wx_next; apply wc_seq; apply wc_seq; apply wc_region; refine Z0 ?_; refine Z45 ?_; refine Z0 ?_; refine Z45 ?_; refine Z94 (fun hq => ?_) fun hq => ?_; apply w_nil; apply wx_next; refine Z18 ?_; apply wc_seq; apply wc_region; refine Z2 ?_; apply w_nil; apply wx_next; apply wc_ret; apply wx_ret_then; rotate_left; apply w_nil; apply wx_next; refine Z19 ?_; apply wc_skip; apply wx_next; apply wc_seq; apply wc_seq; apply wc_region; refine Z2 ?_; apply w_nil; apply wx_next; apply wc_block; rotate_left))
  · exact ret_fn H hm (outs1 Tryz.results19 Wh) (by simp; intro e; subst e; omega)
  refine wc_loopN xs.length (fun k => [(0, v1), (1, v2), (5, .int .i64 k)]) (fun k => decide (xs = ys) = decide (xs.drop k = ys.drop k)) 0 H HA Ks (Nat.zero_le _) (by simp) ?_
  intro k g c hk hno H HA
  (focus (apply wc_seq; apply wc_seq; apply wc_region; refine Z0 ?_; refine Z0 ?_; refine Z45 ?_; refine Z93 (fun hq => ?_) fun hq => ?_; apply w_nil; apply wx_next; refine Z18 ?_; apply wc_skip; apply wx_next; apply wc_seq; apply wc_block; apply wc_seq; rotate_left; apply w_nil; apply wx_next; refine Z19 ?_; apply wc_exit; apply wx_exit_then; apply wx_exit_then; apply wx_exit_same; apply wx_next; apply wc_seq; apply wc_region; refine Z2 ?_; apply w_nil; apply wx_next; apply wc_ret; rotate_left))
  · obtain ⟨u, hu⟩ := getq (xs := xs) (k := k) (by omega)
    obtain ⟨u', hu'⟩ := getq (xs := ys) (k := k) (by omega)
    have hd := drop_get hu
    have hd' := drop_get hu'
    (refine dw_start H HA ?_)
    (repeat (refine Dc ?_))
    (apply dw_cons; (focus ((intro B _ Lx c H HA; (repeat (first | (intro vx hx; have hx2 : vx = _ := hx; clear hx; subst hx2) | (intro vx hx; have HA := HA.addSF hx; clear hx) | (intro vx hx; have HA := HA.add hx; clear hx) | intro vx)); change W _ _ _ _ _ _ _); (refine s_call rfl rfl H HA (ref03_SameClause u u' _ _ _ Lk Lk) ?_; intro vx c H HP; have hvx := HP.h.1; have HA := HP.cut; subst hvx); exact Dx)); exact inferInstance)
    (repeat (refine Dc ?_))
    (refine dw_done mixed H HA rfl (by kernel_rfl) ?_; clear H HA; intro c H HA; (repeat (first | (intro vx hx; have hx2 : vx = _ := hx; clear hx; subst hx2) | (intro vx hx; have HA := HA.addSF hx; clear hx) | (intro vx hx; have HA := HA.add hx; clear hx) | intro vx)); change W _ _ _ _ _ _ _)
    (focus (apply w_nil; apply wx_next; (focus (apply wc_cond; rfl; all_goals intro hq)); apply wc_seq; apply wc_region; refine Z2 ?_; apply w_nil; apply wx_next; apply wc_ret; apply wx_ret_block; apply wx_ret_then; apply wx_ret_then; apply wx_ret_block; apply wx_ret_then; rotate_left; apply wc_skip; apply wx_norm_block; apply wx_next; apply wc_region; refine Z0 ?_; refine Z46 ?_; refine Z2 ?_; apply w_nil; rotate_left))
    · exact ret_fn H hm (outs1 Tryz.results19 Wh) (by simp_all)
    · exact wx_loopN (k + 1) H Cu Ks (by omega) (by simp_all)
  · exact ret_fn H hm (outs1 Tryz.results19 Wh) (by rename_i hq0 _; rw [hno, drop_end hq, drop_end (xs := ys) (k := k) (by omega)]; simp)
theorem ref03_place (ts : List Tm) (v : Value) (t : Tm) (c : Cx) (h : Sl v ts c) : Cn Tryz.prog 72 [v, .agg t.cs.toArray] c (fun v _ => v = .int .i64 (placeOf ts t 0)) := by
  refine Cn.of Tryz.func72 Tryz.ntmps72 rfl rfl fun hm H HA => ?_
  have HA := HA.add h
  have hlim := h.lim
  (apply wc_seq; apply wc_region; refine Z31 fun bx c H HA => ?_; refine Z2 ?_; apply w_nil; apply wx_next; apply wc_seq; apply wc_seq; apply wc_region; refine Z2 ?_; apply w_nil; apply wx_next; apply wc_block)
  refine wc_loopN ts.length (fun k => [(0, v), (3, .pointer (some ⟨bx, 0, none⟩)), (5, .int .i64 k)]) (fun k => placeOf ts t 0 = placeOf (ts.drop k) t k) 0 H HA Ks (Nat.zero_le _) rfl ?_
  intro k g c hk hno H HA
  (focus (apply wc_seq; apply wc_seq; apply wc_region; refine Z0 ?_; refine Z0 ?_; refine Z45 ?_; refine Z93 (fun hq => ?_) fun hq => ?_; apply w_nil; apply wx_next; refine Z18 ?_; apply wc_skip; apply wx_next; apply wc_seq; apply wc_block; apply wc_seq; rotate_left; apply w_nil; apply wx_next; refine Z19 ?_; apply wc_exit; apply wx_exit_then; apply wx_exit_then; apply wx_exit_same; apply wx_next; apply wc_seq; apply wc_region; refine Z2 ?_; apply w_nil; apply wx_next; apply wc_ret; rotate_left))
  · obtain ⟨u, hu⟩ := getq (xs := ts) (k := k) (by omega)
    have hd := drop_get hu
    ((refine dw_start H HA ?_); (repeat (refine Dc ?_)); (refine dw_done mixed H HA rfl (by kernel_rfl) ?_; clear H HA; intro c H HA; (repeat (first | (intro vx hx; have hx2 : vx = _ := hx; clear hx; subst hx2) | (intro vx hx; have HA := HA.addSF hx; clear hx) | (intro vx hx; have HA := HA.add hx; clear hx) | intro vx)); change W _ _ _ _ _ _ _))
    (focus (apply w_nil; apply wx_next; (focus (apply wc_cond; rfl; all_goals intro hq)); apply wc_seq; apply wc_region; refine Z0 ?_; refine Z2 ?_; apply w_nil; apply wx_next; apply wc_ret; apply wx_ret_block; apply wx_ret_then; apply wx_ret_then; apply wx_ret_block; apply wx_ret_then; rotate_left; apply wc_skip; apply wx_norm_block; apply wx_next; apply wc_region; refine Z0 ?_; refine Z46 ?_; refine Z2 ?_; apply w_nil; rotate_left))
    · exact ret_fn H hm (outs1 Tryz.results72 Wh) (by simp at hq; simp [hno, hd, placeOf, hq])
    · exact wx_loopN (k + 1) H Cu Ks (by omega) (by simp at hq; simp [hno, hd, placeOf, hq])
  · exact ret_fn H hm (outs1 Tryz.results72 Wh) (by simp [hno, drop_end hq, placeOf])
end Go.Proofs.YthkdggoohpgnnaaGreatDoor
/- Contracts: terms put back into clauses. -/
namespace Go.Proofs.YthkdggoohpgnnaaGreatDoor
open Go Go.Wk
theorem ref03_putAtom (φ : Tm → Tm) (a : At0) (u : Value) (ls : List Tm) (vl : Value) (at_ : Nat) (c : Cx) (h : Ag a u c) (h2 : Sl vl ls c) (h0 : ls[at_]? = some (φ a.by_)) (h1 : ∀ (k : Nat) (t : Tm), a.args[k]? = some t → ls[at_ + 1 + k]? = some (φ t)) :
    Cn Tryz.prog 122 [u, vl, .int .i64 at_] c (fun r c => ∃ v', r = .tuple #[.agg ((a.map φ).cs v').toArray, .int .i64 ((at_ + 1 + a.args.length : Nat) : Int)] ∧ Sl v' (a.map φ).args c) := by
  refine Cn.of Tryz.func122 Tryz.ntmps122 rfl rfl fun hm H HA => ?_
  have hlim : a.args.length < 1099511627776 := by obtain ⟨cs, rfl, v, rfl, h⟩ := h; exact h.lim
  have hlim2 := h2.lim
  have hat : at_ < ls.length := (List.getElem?_eq_some_iff.1 h0).1
  have HA := (HA.add h).add h2
  (apply wc_seq; apply wc_region)
  (refine s_boxG rfl rfl Lk H HA ?_; intro p c H HA)
  (refine Z61 fun bx c H HA => ?_; refine Z2 ?_; apply w_nil; apply wx_next; apply wc_seq)
  (obtain ⟨b0, rfl⟩ : ∃ x, x = bx := ⟨_, rfl⟩)
  (refine dw_start H HA ?_)
  (repeat (refine Dc ?_))
  ((refine dw_doneO mixed H HA (by kernel_rfl) (by kernel_rfl) ?_; clear H HA; intro c HA; (repeat (first | (intro bx; have hbx : bx + 0 = bx := rfl; clear hbx) | (intro vx hx; have hx2 : vx = _ := hx; clear hx; subst hx2) | (intro vx hx; have HA := HA.addSF hx; clear hx) | (intro vx hx; skip; have HA := HA.add hx; clear hx) | (intro vx; have hvx2 : Go.Value := vx; clear hvx2))); (first | intro H | (have H := HA.h.1; have HA := HA.cut)); change W _ _ _ _ _ _ _); have H : Owns _ ([.obj bx (.cells (At0.cs ⟨Tn, ES, []⟩ (.slice none 0 0)).toArray 26 (0, 0)), .obj b0 (.cells (At0.cs ⟨Tn, ES, []⟩ (.slice none 0 0)).toArray 26 (0, 0))]) _ := H)
  (obtain ⟨b1, rfl⟩ : ∃ x, x = bx := ⟨_, rfl⟩)
  (refine Z74 fun c H HA => ?_; apply w_nil; apply wx_next; apply wc_seq; apply wc_region; refine Z0 ?_; refine Z46 ?_; refine Z2 ?_; apply w_nil; apply wx_next; apply wc_seq; apply wc_seq; apply wc_region; refine Z2 ?_; apply w_nil; apply wx_next; apply wc_block)
  have H := H.nilR Tm 23 3
  refine wc_loopG (σ := Nat × List Tm × Value × List (List Value)) (fun x => a.args.length - x.1) (fun x => [(1, vl), (2, .int .i64 ((at_ + 1 + x.1 : Nat) : Int)), (3, p), (6, .pointer (some ⟨b0, 0, none⟩)), (8, .pointer (some ⟨b1, 0, none⟩)), (9, .int .i64 x.1)])
    (fun x => x.1 ≤ a.args.length ∧ x.2.1 = (a.args.take x.1).map φ)
    (fun x => [.row x.2.2.1 23 3 x.2.1.length x.2.2.2.flatten, .obj b1 (.cells (At0.cs ⟨φ a.by_, a.name, []⟩ x.2.2.1).toArray 26 (0, 0)), .obj b0 (.cells (At0.cs ⟨Tn, ES, []⟩ (.slice none 0 0)).toArray 26 (0, 0))])
    (fun x c => Vals x.2.2.2 x.2.1 c) (0, [], .slice none 0 0, []) H HA (Vals.nil _) Ks ⟨Nat.zero_le _, rfl⟩ ?_
  intro x g c hp H HA
  obtain ⟨k, acc, vr, vals⟩ := x
  obtain ⟨hk, hacc⟩ := hp
  dsimp only at hk hacc H HA ⊢
  have hlen : acc.length = k := by rw [hacc]; simp; omega
  (focus (apply wc_seq; apply wc_seq; apply wc_region; refine Z0 ?_; refine Z35 HA fun vx HA => ?_; refine Z37 HA fun vx HA => ?_; refine Z45 ?_; refine Z93 (fun hq => ?_) fun hq => ?_; apply w_nil; apply wx_next; refine Z18 ?_; apply wc_skip; apply wx_next; apply wc_seq; apply wc_block; apply wc_seq; rotate_left; apply w_nil; apply wx_next; refine Z19 ?_; apply wc_exit; apply wx_exit_then; apply wx_exit_then; apply wx_exit_same; apply wx_next; apply wc_seq; apply wc_region; refine Z42 ?_; refine Z0 ?_; refine Z78 fun c H HA => ?_; refine Z2 ?_; apply w_nil; apply wx_next; apply wc_ret; rotate_left))
  · obtain ⟨t, ht⟩ := getq (xs := a.args) (k := k) (by omega)
    have hlt := h1 k t ht
    have hltl : at_ + 1 + k < ls.length := (List.getElem?_eq_some_iff.1 hlt).1
    ((refine dw_start H HA ?_); (repeat (refine Dc ?_)); (refine dw_done mixed H HA rfl (by kernel_rfl) ?_; clear H HA; intro c H HA; (repeat (first | (intro vx hx; have hx2 : vx = _ := hx; clear hx; subst hx2) | (intro vx hx; have HA := HA.addSF hx; clear hx) | (intro vx hx; have HA := HA.add hx; clear hx) | intro vx)); change W _ _ _ _ _ _ _))
    (refine Z59 fun vx c valsx H HA => ?_; refine Z3 ?_; refine Z77 fun c H HA => ?_; apply w_nil; apply wx_next; apply wc_region; refine Z0 ?_; refine Z46 ?_; refine Z2 ?_; apply w_nil; apply wx_norm_block; apply wx_next; apply wc_region; refine Z0 ?_; refine Z46 ?_; refine Z2 ?_; apply w_nil)
    exact wx_loopG ((k + 1, acc ++ [φ t], vx, valsx)) H.swap Cu Lk Ks (by simp; omega) ⟨by simp; omega, by
      rw [List.take_add_one, ht]
      simp [hacc]⟩
  · have hacc : acc = a.args.map φ := by rw [hacc, List.take_of_length_le (by omega)]
    (refine wx_freezeRow H.swap HA Lk rfl rfl Lt ?_; intro c H HA)
    exact ret_fn H hm (outsR2 Tryz.results122 (RV.agg rfl H Ow Rc) (RV.tmp Wh)) ⟨_, by
      have : k = a.args.length := by omega
      subst this
      rfl, by subst hacc; exact Lk⟩
end Go.Proofs.YthkdggoohpgnnaaGreatDoor
/- Contracts: a clause's terms put back. -/
namespace Go.Proofs.YthkdggoohpgnnaaGreatDoor
open Go Go.Wk
theorem ref03_Put (φ : Tm → Tm) (x : Cl) (u vl : Value) (c : Cx) (h : Ag x u c) (h2 : Sl vl (x.terms.map φ) c) : Cn Tryz.prog 73 [u, vl] c (fun r c => Ag (x.map φ) r c) := by
  refine Cn.of Tryz.func73 Tryz.ntmps73 rfl rfl fun hm H HA => ?_
  have hlim2 := h2.lim
  have hlb : x.body.length < 1099511627776 := by obtain ⟨cs, rfl, v, v1, v2, rfl, h⟩ := h; exact h.2.1.lim
  have hlt : x.tests.length < 1099511627776 := by obtain ⟨cs, rfl, v, v1, v2, rfl, h⟩ := h; exact h.2.2.lim
  have HA := (HA.add h).add h2
  (apply wc_seq; apply wc_region)
  (refine s_boxG rfl rfl Lk H HA ?_; intro p c H HA)
  (refine s_alloc rfl (by conv => lhs; whnf) H HA ?_; intro b0 c H HA)
  (apply w_nil; apply wx_next; apply wc_seq; apply wc_region; refine Z2 ?_; apply w_nil; apply wx_next; apply wc_seq; apply wc_region; refine Z61 fun bx c H HA => ?_; apply w_nil; apply wx_next; apply wc_seq; apply wc_region; refine Z35 HA fun vx HA => ?_; refine Z39 HA fun vx HA => ?_; refine Z0 ?_; refine Z0 ?_)
  (obtain ⟨b1, rfl⟩ : ∃ x, x = bx := ⟨_, rfl⟩)
  have seg := x.seg_head φ
  (refine s_call rfl rfl H HA (ref03_putAtom φ x.head _ _ _ 0 _ Lk Lk seg.1 seg.2) ?_; intro vx c H HA)
  obtain ⟨vh, hr, hS⟩ := HA.h.1
  subst hr
  have HA := HA.cut.add hS
  have e0 : 0 + 1 + x.head.args.length = x.posB 0 := by simp [Cl.posB]; omega
  rw [e0]
  (refine Z0 ?_; refine Z32 ?_; refine Z32 ?_; refine Z3 ?_; refine Z74 fun c H HA => ?_; refine Z2 ?_; apply w_nil; apply wx_next; apply wc_seq; apply wc_seq; apply wc_region; refine Z2 ?_; apply w_nil; apply wx_next; apply wc_block)
  have H := H.nilR At0 26 5
  refine wc_loopG (σ := Nat × List At0 × Value × List (List Value)) (fun y => x.body.length - y.1) (fun y => [(1, vl), (2, p), (4, .pointer (some ⟨b0, 0, none⟩)), (5, .int .i64 ((x.posB y.1 : Nat) : Int)), (6, .pointer (some ⟨b1, 0, none⟩)), (7, .int .i64 y.1)])
    (fun y => y.1 ≤ x.body.length ∧ y.2.1 = (x.body.take y.1).map (At0.map φ))
    (fun y => [.row y.2.2.1 26 5 y.2.1.length y.2.2.2.flatten, .obj b1 (.cells (Cl.cs (x.map φ) vh y.2.2.1 (.slice none 0 0)).toArray 30 (0, 0)), .obj b0 (.cells (Cl.cs ⟨⟨Tn, ES, []⟩, [], []⟩ (.slice none 0 0) (.slice none 0 0) (.slice none 0 0)).toArray 30 (0, 0))])
    (fun y c => Vals y.2.2.2 y.2.1 c) (0, [], .slice none 0 0, []) H HA (Vals.nil _) Ks ⟨Nat.zero_le _, rfl⟩ ?_
  intro y g c hp H HA
  obtain ⟨k, acc, vr, vals⟩ := y
  obtain ⟨hk, hacc⟩ := hp
  dsimp only at hk hacc H HA ⊢
  have hlen : acc.length = k := by rw [hacc]; simp; omega
  (focus (apply wc_seq; apply wc_seq; apply wc_region; refine Z0 ?_; refine Z35 HA fun vx HA => ?_; refine Z37 HA fun vx HA => ?_; refine Z45 ?_; refine Z93 (fun hq => ?_) fun hq => ?_; apply w_nil; apply wx_next; refine Z18 ?_; apply wc_skip; apply wx_next; apply wc_seq; apply wc_block; apply wc_seq; apply wc_region; refine Z54 ?_; refine Z61 fun bx c H HA => ?_; refine Z74 fun c H HA => ?_; apply w_nil; apply wx_next; apply wc_seq; apply wc_region; refine Z35 HA fun vx HA => ?_; refine Z37 HA fun vx HA => ?_; refine Z0 ?_; rotate_left; apply w_nil; apply wx_next; refine Z19 ?_; apply wc_exit; apply wx_exit_then; apply wx_exit_then; apply wx_exit_same; apply wx_next; apply wc_seq; apply wc_seq; apply wc_region; refine Z2 ?_; apply w_nil; apply wx_next; apply wc_block; rotate_left))
  · obtain ⟨a, ha⟩ := getq (xs := x.body) (k := k) (by omega)
    have seg := x.seg_body φ ha
    (refine Z34 HA fun vx HA => ?_; refine Z39 HA fun vx HA => ?_; refine Z0 ?_; refine Z0 ?_)
    (obtain ⟨b2, rfl⟩ : ∃ x, x = bx := ⟨_, rfl⟩)
    (refine s_call rfl rfl H HA (ref03_putAtom φ a _ _ _ (x.posB k) _ Lk Lk seg.1 seg.2) ?_; intro vx c H HA)
    obtain ⟨va, hr, hS⟩ := HA.h.1
    subst hr
    have HA := (HA.cut.add hS).add (show Ag (a.map φ) (.agg ((a.map φ).cs va).toArray) _ from ⟨_, rfl, va, rfl, hS⟩)
    rw [← x.posB_succ ha]
    (refine Z0 ?_; refine Z32 ?_; refine Z32 ?_; refine Z74 fun c H HA => ?_; refine Z2 ?_; apply w_nil; apply wx_next; apply wc_region; refine Z3 ?_; refine Z41 ?_; refine Z42 ?_; refine Z55 fun vx c H HA => ?_)
    have H := H.swap
    (refine Z59 fun vx c valsx H HA => ?_; refine Z3 ?_; refine Z79 fun c H HA => ?_; apply w_nil; apply wx_norm_block; apply wx_next; apply wc_region; refine Z0 ?_; refine Z46 ?_; refine Z2 ?_; apply w_nil)
    exact wx_loopG ((k + 1, acc ++ [a.map φ], vx, valsx)) (H.swap.sub (.cons_cons _ (.cons_cons _ (.cons _ (.cons_cons _ .slnil))))) Cu Lk Ks (by simp; omega) ⟨by simp; omega, by
      rw [List.take_add_one, ha]
      simp [hacc]⟩
  obtain rfl : k = x.body.length := by omega
  rw [List.take_length] at hacc
  rw [x.posB_end]
  (refine wc_freezeRow H HA Lk rfl rfl Lt ?_; intro c H HA)
  have H := H.nilR Ts 79 7
  refine wc_loopG (σ := Nat × List Ts × Value × List (List Value)) (fun y => x.tests.length - y.1) (fun y => [(1, vl), (2, p), (4, .pointer (some ⟨b0, 0, none⟩)), (5, .int .i64 ((x.posT y.1 : Nat) : Int)), (6, .pointer (some ⟨b1, 0, none⟩)), (9, .int .i64 y.1)])
    (fun y => y.1 ≤ x.tests.length ∧ y.2.1 = (x.tests.take y.1).map (fun t => ⟨t.op, φ t.l, φ t.r⟩))
    (fun y => [.row y.2.2.1 79 7 y.2.1.length y.2.2.2.flatten, .obj b1 (.cells (Cl.cs (x.map φ) vh vr y.2.2.1).toArray 30 (0, 0)), .obj b0 (.cells (Cl.cs ⟨⟨Tn, ES, []⟩, [], []⟩ (.slice none 0 0) (.slice none 0 0) (.slice none 0 0)).toArray 30 (0, 0))])
    (fun y c => Vals y.2.2.2 y.2.1 c) (0, [], .slice none 0 0, []) H HA (Vals.nil _) Ks ⟨Nat.zero_le _, rfl⟩ ?_
  intro y g c hp H HA
  obtain ⟨k, acc2, vr2, vals2⟩ := y
  obtain ⟨hk, hacc2⟩ := hp
  dsimp only at hk hacc2 H HA ⊢
  have hlen : acc2.length = k := by rw [hacc2]; simp; omega
  (focus (apply wc_seq; apply wc_seq; apply wc_region; refine Z0 ?_; refine Z35 HA fun vx HA => ?_; refine Z37 HA fun vx HA => ?_; refine Z45 ?_; refine Z93 (fun hq => ?_) fun hq => ?_; apply w_nil; apply wx_next; refine Z18 ?_; apply wc_skip; apply wx_next; apply wc_seq; apply wc_block; apply wc_seq; rotate_left; apply w_nil; apply wx_next; refine Z19 ?_; apply wc_exit; apply wx_exit_then; apply wx_exit_then; apply wx_exit_same; apply wx_next; apply wc_seq; apply wc_region; refine Z42 ?_; refine Z78 fun c H HA => ?_; apply w_nil; apply wx_next; apply wc_ret; rotate_left))
  · obtain ⟨t, ht⟩ := getq (xs := x.tests) (k := k) (by omega)
    obtain ⟨sg1, sg2⟩ := x.seg_test φ ht
    have hlq : x.posT k + 1 < (x.terms.map φ).length := (List.getElem?_eq_some_iff.1 sg2).1
    (refine dw_start H HA ?_)
    (repeat (refine Dc ?_))
    (refine dw_done mixed H HA rfl (by kernel_rfl) ?_; clear H HA; intro c H HA; (repeat (first | (intro vx hx; have hx2 : vx = _ := hx; clear hx; subst hx2) | (intro vx hx; have HA := HA.addSF hx; clear hx) | (intro vx hx; have HA := HA.add hx; clear hx) | intro vx)); change W _ _ _ _ _ _ _)
    have HA := HA.addSb HA.h.1 (⟨t.op, φ t.l, φ t.r⟩ : Ts) rfl
    (refine Z59 fun vx c valsx H HA => ?_; refine Z3 ?_; refine Z77 fun c H HA => ?_; apply w_nil; apply wx_next; apply wc_region; refine Z0 ?_; refine Z46 ?_; refine Z2 ?_; apply w_nil; apply wx_norm_block; apply wx_next; apply wc_region; refine Z0 ?_; refine Z46 ?_; refine Z2 ?_; apply w_nil)
    exact wx_loopG ((k + 1, acc2 ++ [⟨t.op, φ t.l, φ t.r⟩], vx, valsx)) H.swap Cu Lk Ks (by simp; omega) ⟨by simp; omega, by
      rw [List.take_add_one, ht]
      simp [hacc2]⟩
  · have hacc2 : acc2 = (x.map φ).tests := by rw [hacc2, List.take_of_length_le (by omega)]; rfl
    subst hacc hacc2
    (refine wx_freezeRow H.swap HA Lk rfl rfl Lt ?_; intro c H HA)
    exact ret_fn H hm (outsR1 Tryz.results73 (RV.agg rfl H Ow Rc)) ⟨_, rfl, vh, vr, vr2, rfl, Lk, Lk, Lk⟩
end Go.Proofs.YthkdggoohpgnnaaGreatDoor
/- Contracts: clauses in memory of their own, numbered anew, with values. -/
namespace Go.Wk
open Go
theorem Cl.map_same (x : Cl) : x.map (fun t => t) = x := Cl.map_id fun _ _ => rfl
theorem Ag.cl {x : Cl} {v : Value} {c : Cx} (h : Ag x v c) : ∃ a b d, v = .agg (x.cs a b d).toArray ∧ ClAt x a b d c := by
  obtain ⟨cs, rfl, a, b, d, rfl, hS⟩ := h
  exact ⟨a, b, d, rfl, hS⟩
theorem Ag.mk_cl {x : Cl} {a b d : Value} {c : Cx} (h : ClAt x a b d c) : Ag x (.agg (x.cs a b d).toArray) c := ⟨_, rfl, a, b, d, rfl, h⟩
end Go.Wk
namespace Go.Proofs.YthkdggoohpgnnaaGreatDoor
open Go Go.Wk
theorem ref03_Own (x : Cl) (u : Value) (c : Cx) (h : Ag x u c) (hb : x.terms.length < 1099511627776) : Cn Tryz.prog 111 [u] c (fun r c => Ag x r c) := by
  refine Cn.of Tryz.func111 Tryz.ntmps111 rfl rfl fun hm H HA => ?_
  have HA := HA.add h
  (apply wc_seq; apply wc_region)
  (refine s_boxG rfl rfl Lk H HA ?_; intro p c H HA)
  (refine Z61 fun bx c H HA => ?_; apply w_nil; apply wx_next; apply wc_seq)
  (refine dw_start H HA ?_)
  (repeat (refine Dc ?_))
  (apply dw_cons; (focus ((intro B _ Lx c H HA; (repeat (first | (intro vx hx; have hx2 : vx = _ := hx; clear hx; subst hx2) | (intro vx hx; have HA := HA.addSF hx; clear hx) | (intro vx hx; have HA := HA.add hx; clear hx) | intro vx)); change W _ _ _ _ _ _ _); refine s_call rfl rfl H HA (ref03_Terms x _ _ Lk hb) ?_; intro vx c H HP; exact w_nil (pq_rel H (Cp) HP.h.1))); exact inferInstance)
  (apply dw_cons; (focus ((intro B _ Lx c H HA; (repeat (first | (intro vx hx; have hx2 : vx = _ := hx; clear hx; subst hx2) | (intro vx hx; have HA := HA.addSF hx; clear hx) | (intro vx hx; have HA := HA.add hx; clear hx) | intro vx)); change W _ _ _ _ _ _ _); refine s_call rfl rfl H HA (ref03_Put (fun t => t) x _ _ _ Lk (by rw [List.map_id']; exact Lk)) ?_; intro vx c H HP; exact w_nil (pq_rel H (Cp) HP.h.1))); exact inferInstance)
  (refine dw_done mixed H HA rfl (by kernel_rfl) ?_; clear H HA; intro c H HA; (repeat (first | (intro vx hx; have hx2 : vx = _ := hx; clear hx; subst hx2) | (intro vx hx; have HA := HA.addSF hx; clear hx) | (intro vx hx; have HA := HA.add hx; clear hx) | intro vx)); change W _ _ _ _ _ _ _)
  rw [x.map_same] at HA
  obtain ⟨va, vb, vd, hr, hS⟩ := Ag.cl HA.h.1
  subst hr
  have HA := ((HA.cut.add hS.1).add hS.2.1).add hS.2.2
  (refine Z74 fun c H HA => ?_; apply w_nil; apply wx_next; apply wc_ret)
  exact ret_fn H hm (outsR1 Tryz.results111 (RV.agg rfl H Ow Rc)) (Ag.mk_cl ⟨Lk, Lk, Lk⟩)
theorem ref03_Vars (x : Cl) (u : Value) (c : Cx) (h : Ag x u c) (hb : x.terms.length < 1099511627776) : Cn Tryz.prog 24 [u] c (fun r _ => r = .int .i64 x.nv) := by
  refine Cn.of Tryz.func24 Tryz.ntmps24 rfl rfl fun hm H HA => ?_
  have HA := HA.add h
  (apply wc_seq; apply wc_region; refine Z40 fun vx c H HA => ?_; refine Z2 ?_; apply w_nil; apply wx_next; apply wc_seq; apply wc_region; refine Z39 HA fun vx HA => ?_)
  (refine s_call rfl rfl H HA (ref03_Terms x _ _ Lk hb) ?_; intro vx c H HA)
  (skip)
  (refine s_call rfl rfl H HA (ref03_variables x.terms _ _ Lk) ?_; intro vx c H HA)
  (refine Z45 ?_; refine Z2 ?_; apply w_nil; apply wx_next; apply wc_ret)
  exact ret_fn H hm (outs1 Tryz.results24 Wh) (by rw [Cl.nv])
theorem ref03_Normal (x : Cl) (u : Value) (c : Cx) (h : Ag x u c) (hb : x.terms.length < 1099511627776) : Cn Tryz.prog 28 [u] c (fun r c => Ag x.normal r c) := by
  refine Cn.of Tryz.func28 Tryz.ntmps28 rfl rfl fun hm H HA => ?_
  have HA := HA.add h
  (apply wc_seq; apply wc_region)
  (refine s_boxG rfl rfl Lk H HA ?_; intro p c H HA)
  (refine Z61 fun bx c H HA => ?_; apply w_nil; apply wx_next; apply wc_seq; apply wc_region; refine Z39 HA fun vx HA => ?_)
  (obtain ⟨b2, rfl⟩ : ∃ x, x = bx := ⟨_, rfl⟩)
  (refine s_call rfl rfl H HA (ref03_Terms x _ _ Lk hb) ?_; intro vx c H HA)
  (obtain ⟨vt, rfl⟩ : ∃ x, x = vx := ⟨_, rfl⟩)
  (refine Z2 ?_; apply w_nil; apply wx_next; apply wc_seq; apply wc_region; refine Z0 ?_)
  (refine s_call rfl rfl H HA (ref03_variables x.terms _ _ Lk) ?_; intro vx c H HA)
  (obtain ⟨vv, rfl⟩ : ∃ x, x = vx := ⟨_, rfl⟩)
  (refine Z2 ?_; apply w_nil; apply wx_next; apply wc_seq; apply wc_region; refine Z2 ?_; apply w_nil; apply wx_next; apply wc_seq; apply wc_seq; apply wc_region; refine Z2 ?_; apply w_nil; apply wx_next; apply wc_block)
  (have H := H.nilR Tm  23 3; have HA := HA.add (Vals.nil (α := Tm) _))
  refine wc_loopR (α := Tm) x.terms.length (fun k v' => [(1, p), (2, .pointer (some ⟨b2, 0, none⟩)), (3, vt), (4, vv), (5, v'), (6, .int .i64 k)]) (fun k acc => acc = (x.terms.take k).map (numT (varsOf x.terms))) 0 [] H Lk Cu Ks (Nat.zero_le _) rfl ?_
  intro k acc v' vals g c hk hp H HA
  have hlen : acc.length = k := by rw [hp]; simp; omega
  (focus (apply wc_seq; apply wc_seq; apply wc_region; refine Z0 ?_; refine Z0 ?_; refine Z45 ?_; refine Z93 (fun hq => ?_) fun hq => ?_; apply w_nil; apply wx_next; refine Z18 ?_; apply wc_skip; apply wx_next; apply wc_seq; apply wc_block; apply wc_seq; apply wc_region; refine Z0 ?_; refine Z0 ?_; rotate_left; apply w_nil; apply wx_next; refine Z19 ?_; apply wc_exit; apply wx_exit_then; apply wx_exit_then; apply wx_exit_same; apply wx_next; apply wc_seq; apply wc_region; refine Z39 HA fun vx HA => ?_; refine Z0 ?_; rotate_left))
  · obtain ⟨a, ha⟩ := getq (xs := x.terms) (k := k) (by omega)
    (refine Z34 HA fun vx HA => ?_; refine Z38 ?_; refine Z61 fun bx c H HA => ?_; refine Z74 fun c H HA => ?_; apply w_nil; apply wx_next; apply wc_seq; apply wc_region; refine Z0 ?_; refine Z42 ?_)
    (refine s_call rfl rfl H HA (ref03_place (varsOf x.terms) _ a _ Lk) ?_; intro vx c H HP; have hvx := HP.h.1; have HA := HP.cut; subst hvx)
    have hnext : (x.terms.take (k + 1)).map (numT (varsOf x.terms)) = acc ++ [numT (varsOf x.terms) a] := by rw [List.take_add_one, ha, hp]; simp
    by_cases hpl : 0 ≤ placeOf (varsOf x.terms) a 0
    · have hn : numT (varsOf x.terms) a = ⟨3, placeOf (varsOf x.terms) a 0, ES⟩ := by simp [numT, varT, hpl]
      (refine Z2 ?_; apply w_nil; apply wx_next; apply wc_seq; apply wc_seq; apply wc_region; refine Z0 ?_; refine Z85 ?_; apply w_nil; apply wx_next; refine Z18 ?_; apply wc_region; refine Z0 ?_; refine Z54 ?_; refine Z74 fun c H HA => ?_; apply w_nil; apply wx_next; apply wc_region; refine Z0 ?_; refine Z42 ?_)
      (apply s_bs1D (u := ⟨3, placeOf (varsOf x.terms) a 0, ES⟩); exact rfl; exact rfl; exact rfl; exact rfl; exact rfl; exact rfl; exact H; exact HA; exact inferInstance; intro vx c H HA)
      have H := H.swap
      (refine Z59 fun vx c valsx H HA => ?_; refine Z2 ?_; apply w_nil; apply wx_norm_block; apply wx_next; apply wc_region; refine Z0 ?_; refine Z46 ?_; refine Z2 ?_; apply w_nil)
      exact wx_loopR (k + 1) (H.sub (.cons_cons _ (.cons _ (List.Sublist.refl _)))) Lk Cu Ks (by omega) (by rw [hnext, hn])
    · have hn : numT (varsOf x.terms) a = a := by simp [numT, hpl]
      (refine Z2 ?_; apply w_nil; apply wx_next; apply wc_seq; apply wc_seq; apply wc_region; refine Z0 ?_; refine Z85 ?_; apply w_nil; apply wx_next; refine Z19 ?_; apply wc_skip; apply wx_next; apply wc_region; refine Z0 ?_; refine Z42 ?_)
      (apply s_bs1D (u := a); exact rfl; exact rfl; exact rfl; exact rfl; exact rfl; exact rfl; exact H; exact HA; exact inferInstance; intro vx c H HA)
      have H := H.swap
      (refine Z59 fun vx c valsx H HA => ?_; refine Z2 ?_; apply w_nil; apply wx_norm_block; apply wx_next; apply wc_region; refine Z0 ?_; refine Z46 ?_; refine Z2 ?_; apply w_nil)
      exact wx_loopR (k + 1) (H.sub (.cons_cons _ (.cons _ (List.Sublist.refl _)))) Lk Cu Ks (by omega) (by rw [hnext, hn])
  · have hp : acc = x.terms.map (numT (varsOf x.terms)) := by rw [hp, List.take_of_length_le (by omega)]
    subst hp
    (refine w_freezeRow H HA Lk rfl rfl Lt ?_; intro c H HA)
    (skip)
    (refine s_call rfl rfl H HA (ref03_Put (numT (varsOf x.terms)) x _ _ _ Lk Lk) ?_; intro vx c H HA)
    obtain ⟨va, vb, vd, hr, hS⟩ := Ag.cl HA.h.1
    subst hr
    have HA := ((HA.cut.add hS.1).add hS.2.1).add hS.2.2
    (refine Z74 fun c H HA => ?_; apply w_nil; apply wx_next; apply wc_ret)
    exact ret_fn H hm (outsR1 Tryz.results28 (RV.agg rfl H Ow Rc)) (Ag.mk_cl ⟨Lk, Lk, Lk⟩)
theorem ref03_Instance (x : Cl) (u : Value) (ts : List Tm) (v : Value) (c : Cx) (h : Ag x u c) (h2 : Sl v ts c) (hb : x.terms.length < 1099511627776) : Cn Tryz.prog 29 [u, v] c (fun r c => Ag (x.map (instT ts)) r c) := by
  refine Cn.of Tryz.func29 Tryz.ntmps29 rfl rfl fun hm H HA => ?_
  have HA := (HA.add h).add h2
  (apply wc_seq; apply wc_region)
  (refine s_boxG rfl rfl Lk H HA ?_; intro p c H HA)
  (refine Z61 fun bx c H HA => ?_; apply w_nil; apply wx_next; apply wc_seq; apply wc_region; refine Z39 HA fun vx HA => ?_)
  (obtain ⟨b2, rfl⟩ : ∃ x, x = bx := ⟨_, rfl⟩)
  (refine s_call rfl rfl H HA (ref03_Terms x _ _ Lk hb) ?_; intro vx c H HA)
  (obtain ⟨vt, rfl⟩ : ∃ x, x = vx := ⟨_, rfl⟩)
  (refine Z2 ?_; apply w_nil; apply wx_next; apply wc_seq; apply wc_region; refine Z2 ?_; apply w_nil; apply wx_next; apply wc_seq; apply wc_seq; apply wc_region; refine Z2 ?_; apply w_nil; apply wx_next; apply wc_block)
  (have H := H.nilR Tm  23 3; have HA := HA.add (Vals.nil (α := Tm) _))
  refine wc_loopR (α := Tm) x.terms.length (fun k v' => [(1, v), (2, p), (4, .pointer (some ⟨b2, 0, none⟩)), (5, vt), (6, v'), (7, .int .i64 k)]) (fun k acc => acc = (x.terms.take k).map (instT ts)) 0 [] H Lk Cu Ks (Nat.zero_le _) rfl ?_
  intro k acc v' vals g c hk hp H HA
  have hlen : acc.length = k := by rw [hp]; simp; omega
  (focus (apply wc_seq; apply wc_seq; apply wc_region; refine Z0 ?_; refine Z0 ?_; refine Z45 ?_; refine Z93 (fun hq => ?_) fun hq => ?_; apply w_nil; apply wx_next; refine Z18 ?_; apply wc_skip; apply wx_next; apply wc_seq; apply wc_block; apply wc_seq; apply wc_region; refine Z0 ?_; refine Z0 ?_; rotate_left; apply w_nil; apply wx_next; refine Z19 ?_; apply wc_exit; apply wx_exit_then; apply wx_exit_then; apply wx_exit_same; apply wx_next; apply wc_seq; apply wc_region; refine Z39 HA fun vx HA => ?_; refine Z0 ?_; rotate_left))
  · obtain ⟨a, ha⟩ := getq (xs := x.terms) (k := k) (by omega)
    (refine Z34 HA fun vx HA => ?_; refine Z38 ?_; refine Z61 fun bx c H HA => ?_; refine Z74 fun c H HA => ?_; apply w_nil; apply wx_next; apply wc_seq; apply wc_seq; apply wc_region; refine Z42 ?_)
    (refine s_call rfl rfl H HA (ref02_Variable a _) ?_; intro vx c H HP; have hvx := HP.h.1; have HA := HP.cut; subst hvx)
    have hnext : (x.terms.take (k + 1)).map (instT ts) = acc ++ [instT ts a] := by rw [List.take_add_one, ha, hp]; simp
    cases hv : a.isVar
    · have hn : instT ts a = a := by simp [instT, hv]
      (refine Z0 ?_; refine Z5 ?_; refine Z5 ?_; refine Z5 ?_; refine Z5 ?_; refine Z5 ?_; refine Z30 ?_; apply w_nil; apply wx_next; refine Z19 ?_; apply wc_skip; apply wx_next; apply wc_region; refine Z0 ?_; refine Z42 ?_)
      (apply s_bs1D (u := a); exact rfl; exact rfl; exact rfl; exact rfl; exact rfl; exact rfl; exact H; exact HA; exact inferInstance; intro vx c H HA)
      have H := H.swap
      (refine Z59 fun vx c valsx H HA => ?_; refine Z2 ?_; apply w_nil; apply wx_norm_block; apply wx_next; apply wc_region; refine Z0 ?_; refine Z46 ?_; refine Z2 ?_; apply w_nil)
      exact wx_loopR (k + 1) (H.sub (.cons_cons _ (.cons _ (List.Sublist.refl _)))) Lk Cu Ks (by omega) (by rw [hnext, hn])
    · by_cases hlt : a.n < (ts.length : Int)
      · have hnn := isVar_nn hv
        obtain ⟨t, ht⟩ := getq (xs := ts) (k := a.n.toNat) (by omega)
        have hn : instT ts a = t := by simp [instT, hv, hlt, ht]
        (refine Z0 ?_; refine Z4 ?_; refine Z3 ?_; refine Z4 ?_; refine Z41 ?_; refine Z4 ?_; refine Z0 ?_; refine Z4 ?_; refine Z45 ?_; refine Z4 ?_; refine Z81 ?_; refine Z8 ?_; apply w_nil; apply wx_next; refine Z18 ?_; apply wc_region; refine Z0 ?_; refine Z3 ?_; refine Z41 ?_)
        (refine s_ixP (i := a.n.toNat) rfl rfl rfl Lk rfl (by omega) ht ?_; intro vx hx; have HA := HA.add hx; clear hx)
        (refine Z38 ?_; refine Z74 fun c H HA => ?_; apply w_nil; apply wx_next; apply wc_region; refine Z0 ?_; refine Z42 ?_)
        (apply s_bs1D (u := t); exact rfl; exact rfl; exact rfl; exact rfl; exact rfl; exact rfl; exact H; exact HA; exact inferInstance; intro vx c H HA)
        have H := H.swap
        (refine Z59 fun vx c valsx H HA => ?_; refine Z2 ?_; apply w_nil; apply wx_norm_block; apply wx_next; apply wc_region; refine Z0 ?_; refine Z46 ?_; refine Z2 ?_; apply w_nil)
        exact wx_loopR (k + 1) (H.sub (.cons_cons _ (.cons _ (List.Sublist.refl _)))) Lk Cu Ks (by omega) (by rw [hnext, hn])
      · have hn : instT ts a = a := by simp [instT, hlt]
        (refine Z0 ?_; refine Z4 ?_; refine Z3 ?_; refine Z4 ?_; refine Z41 ?_; refine Z4 ?_; refine Z0 ?_; refine Z4 ?_; refine Z45 ?_; refine Z4 ?_; refine Z81 ?_; refine Z8 ?_; apply w_nil; apply wx_next; refine Z19 ?_; apply wc_skip; apply wx_next; apply wc_region; refine Z0 ?_; refine Z42 ?_)
        (apply s_bs1D (u := a); exact rfl; exact rfl; exact rfl; exact rfl; exact rfl; exact rfl; exact H; exact HA; exact inferInstance; intro vx c H HA)
        have H := H.swap
        (refine Z59 fun vx c valsx H HA => ?_; refine Z2 ?_; apply w_nil; apply wx_norm_block; apply wx_next; apply wc_region; refine Z0 ?_; refine Z46 ?_; refine Z2 ?_; apply w_nil)
        exact wx_loopR (k + 1) (H.sub (.cons_cons _ (.cons _ (List.Sublist.refl _)))) Lk Cu Ks (by omega) (by rw [hnext, hn])
  · have hp : acc = x.terms.map (instT ts) := by rw [hp, List.take_of_length_le (by omega)]
    subst hp
    (refine w_freezeRow H HA Lk rfl rfl Lt ?_; intro c H HA)
    (skip)
    (refine s_call rfl rfl H HA (ref03_Put (instT ts) x _ _ _ Lk Lk) ?_; intro vx c H HA)
    obtain ⟨va, vb, vd, hr, hS⟩ := Ag.cl HA.h.1
    subst hr
    have HA := ((HA.cut.add hS.1).add hS.2.1).add hS.2.2
    (refine Z74 fun c H HA => ?_; apply w_nil; apply wx_next; apply wc_ret)
    exact ret_fn H hm (outsR1 Tryz.results29 (RV.agg rfl H Ow Rc)) (Ag.mk_cl ⟨Lk, Lk, Lk⟩)
end Go.Proofs.YthkdggoohpgnnaaGreatDoor
/- Contracts: bindings settled, atoms matched, of the document's answer. -/
namespace Go.Proofs.YthkdggoohpgnnaaGreatDoor
open Go Go.Wk
theorem ref02_Settled (s : List Bd) (v : Value) (c : Cx) (h : Sl v s c) : Cn Tryz.prog 94 [v] c (fun r c => Sl r (settledB s) c) := by
  refine Cn.of Tryz.func94 Tryz.ntmps94 rfl rfl fun hm H HA => ?_
  have hlim := h.lim
  have HA := HA.add h
  (apply wc_seq; apply wc_region; refine Z2 ?_; apply w_nil; apply wx_next; apply wc_seq; apply wc_region; refine Z2 ?_; apply w_nil; apply wx_next; apply wc_block)
  have H := H.nilR Bd 111 4
  refine wc_loopG (σ := List Bd × Value × List (List Value)) (fun x => (s.filter (freshB x.1)).length) (fun x => [(0, v), (3, x.2.1)]) (fun x => SetInv x.1 s) (fun x => [.row x.2.1 111 4 x.1.length x.2.2.flatten]) (fun x c => Vals x.2.2 x.1 c) ([], .slice none 0 0, []) H HA (Vals.nil _) Ks (SetInv.start s) ?_
  intro x g c hp H HA
  obtain ⟨acc, vr, vals⟩ := x
  dsimp only at hp H HA ⊢
  have hlen := hp.len
  (apply wc_block; apply wc_seq)
  (apply wc_region; refine Z2 ?_; apply w_nil; apply wx_next)
  refine wc_lend (fun f => KS f [(0, v), (3, vr), (4, .int .i64 (atI (leastAt acc s s.length)))]) H HA Lk rfl rfl Lt ?_ ?_
  · intro c1 c H HA
    (apply wc_seq; apply wc_region; refine Z2 ?_; apply w_nil; apply wx_next; apply wc_block)
    refine wc_loopM (σ := Nat × Option Nat) (fun x => s.length - x.1) (fun x => [(0, v), (3, vr), (4, .int .i64 (atI x.2)), (5, .int .i64 x.1)]) (fun x => x.1 ≤ s.length ∧ x.2 = leastAt acc s x.1) (0, none) H HA Ks ⟨Nat.zero_le _, rfl⟩ ?_
    intro x g c hp2 H HA
    obtain ⟨k, r⟩ := x
    obtain ⟨hk, hr⟩ := hp2
    dsimp only at hk hr ⊢
    (focus (apply wc_seq; apply wc_seq; apply wc_region; refine Z0 ?_; refine Z0 ?_; refine Z45 ?_; refine Z93 (fun hq => ?_) fun hq => ?_; apply w_nil; apply wx_next; refine Z18 ?_; apply wc_skip; apply wx_next; apply wc_seq; apply wc_block; apply wc_seq; rotate_left; apply w_nil; apply wx_next; refine Z19 ?_; apply wc_exit; apply wx_exit_then; apply wx_exit_then; apply wx_exit_same; rotate_left))
    · obtain ⟨b, hb⟩ := getq (xs := s) (k := k) (by omega)
      by_cases he : ((acc.length : Nat) : Int) = 0
      · have hfr : freshB acc b = true := by
          have : acc = [] := List.eq_nil_of_length_eq_zero (by omega)
          subst this; rfl
        ((refine dw_start H HA ?_); (repeat (refine Dc ?_)); (refine dw_done mixed H HA rfl (by kernel_rfl) ?_; clear H HA; intro c H HA; (repeat (first | (intro vx hx; have hx2 : vx = _ := hx; clear hx; subst hx2) | (intro vx hx; have HA := HA.addSF hx; clear hx) | (intro vx hx; have HA := HA.add hx; clear hx) | intro vx)); change W _ _ _ _ _ _ _))
        cases r with
        | none =>
          have hneg : (-1 : Int) < 0 := by omega
          dsimp only [atI]
          (apply w_nil; apply wx_next; apply wc_seq)
          ((refine dw_start H HA ?_); (repeat (refine Dc ?_)); (refine dw_done mixed H HA rfl (by kernel_rfl) ?_; clear H HA; intro c H HA; (repeat (first | (intro vx hx; have hx2 : vx = _ := hx; clear hx; subst hx2) | (intro vx hx; have HA := HA.addSF hx; clear hx) | (intro vx hx; have HA := HA.add hx; clear hx) | intro vx)); change W _ _ _ _ _ _ _))
          (apply w_nil; apply wx_next; refine Z18 ?_; apply wc_region; refine Z0 ?_; refine Z2 ?_; apply w_nil; apply wx_norm_block; apply wx_next; apply wc_region; refine Z0 ?_; refine Z46 ?_; refine Z2 ?_; apply w_nil)
          exact wx_loopM ((k + 1, some k)) H Cu Ks (by simp; omega) ⟨by simp; omega, by rw [leastAt_succ hb, hfr, ← hr]; rfl⟩
        | some j =>
          obtain ⟨y, hy, hjk⟩ := leastAt_lt hr.symm
          have hneg : ¬ ((j : Nat) : Int) < 0 := by omega
          dsimp only [atI]
          by_cases hby : b.var < y.var
          · (apply w_nil; apply wx_next; apply wc_seq)
            ((refine dw_start H HA ?_); (repeat (refine Dc ?_)); (refine dw_done mixed H HA rfl (by kernel_rfl) ?_; clear H HA; intro c H HA; (repeat (first | (intro vx hx; have hx2 : vx = _ := hx; clear hx; subst hx2) | (intro vx hx; have HA := HA.addSF hx; clear hx) | (intro vx hx; have HA := HA.add hx; clear hx) | intro vx)); change W _ _ _ _ _ _ _))
            (apply w_nil; apply wx_next; refine Z18 ?_; apply wc_region; refine Z0 ?_; refine Z2 ?_; apply w_nil; apply wx_norm_block; apply wx_next; apply wc_region; refine Z0 ?_; refine Z46 ?_; refine Z2 ?_; apply w_nil)
            exact wx_loopM ((k + 1, some k)) H Cu Ks (by simp; omega) ⟨by simp; omega, by rw [leastAt_succ hb, hfr, ← hr]; simp [beats, hy, hby]⟩
          · (apply w_nil; apply wx_next; apply wc_seq)
            ((refine dw_start H HA ?_); (repeat (refine Dc ?_)); (refine dw_done mixed H HA rfl (by kernel_rfl) ?_; clear H HA; intro c H HA; (repeat (first | (intro vx hx; have hx2 : vx = _ := hx; clear hx; subst hx2) | (intro vx hx; have HA := HA.addSF hx; clear hx) | (intro vx hx; have HA := HA.add hx; clear hx) | intro vx)); change W _ _ _ _ _ _ _))
            (apply w_nil; apply wx_next; refine Z19 ?_; apply wc_skip; apply wx_norm_block; apply wx_next; apply wc_region; refine Z0 ?_; refine Z46 ?_; refine Z2 ?_; apply w_nil)
            exact wx_loopM ((k + 1, some j)) H Cu Ks (by simp; omega) ⟨by simp; omega, by rw [leastAt_succ hb, hfr, ← hr]; simp [beats, hy]; omega⟩
      · obtain ⟨l, hl⟩ := getq (xs := acc) (k := acc.length - 1) (by omega)
        have hgl : acc.getLast? = some l := by rw [List.getLast?_eq_getElem?]; exact hl
        by_cases hlb : l.var < b.var
        · have hfr : freshB acc b = true := by simp [freshB, hgl, hlb]
          ((refine dw_start H HA ?_); (repeat (refine Dc ?_)); (refine dw_done mixed H HA rfl (by kernel_rfl) ?_; clear H HA; intro c H HA; (repeat (first | (intro vx hx; have hx2 : vx = _ := hx; clear hx; subst hx2) | (intro vx hx; have HA := HA.addSF hx; clear hx) | (intro vx hx; have HA := HA.add hx; clear hx) | intro vx)); change W _ _ _ _ _ _ _))
          cases r with
          | none =>
            have hneg : (-1 : Int) < 0 := by omega
            dsimp only [atI]
            (apply w_nil; apply wx_next; apply wc_seq)
            ((refine dw_start H HA ?_); (repeat (refine Dc ?_)); (refine dw_done mixed H HA rfl (by kernel_rfl) ?_; clear H HA; intro c H HA; (repeat (first | (intro vx hx; have hx2 : vx = _ := hx; clear hx; subst hx2) | (intro vx hx; have HA := HA.addSF hx; clear hx) | (intro vx hx; have HA := HA.add hx; clear hx) | intro vx)); change W _ _ _ _ _ _ _))
            (apply w_nil; apply wx_next; refine Z18 ?_; apply wc_region; refine Z0 ?_; refine Z2 ?_; apply w_nil; apply wx_norm_block; apply wx_next; apply wc_region; refine Z0 ?_; refine Z46 ?_; refine Z2 ?_; apply w_nil)
            exact wx_loopM ((k + 1, some k)) H Cu Ks (by simp; omega) ⟨by simp; omega, by rw [leastAt_succ hb, hfr, ← hr]; rfl⟩
          | some j =>
            obtain ⟨y, hy, hjk⟩ := leastAt_lt hr.symm
            have hneg : ¬ ((j : Nat) : Int) < 0 := by omega
            dsimp only [atI]
            by_cases hby : b.var < y.var
            · (apply w_nil; apply wx_next; apply wc_seq)
              ((refine dw_start H HA ?_); (repeat (refine Dc ?_)); (refine dw_done mixed H HA rfl (by kernel_rfl) ?_; clear H HA; intro c H HA; (repeat (first | (intro vx hx; have hx2 : vx = _ := hx; clear hx; subst hx2) | (intro vx hx; have HA := HA.addSF hx; clear hx) | (intro vx hx; have HA := HA.add hx; clear hx) | intro vx)); change W _ _ _ _ _ _ _))
              (apply w_nil; apply wx_next; refine Z18 ?_; apply wc_region; refine Z0 ?_; refine Z2 ?_; apply w_nil; apply wx_norm_block; apply wx_next; apply wc_region; refine Z0 ?_; refine Z46 ?_; refine Z2 ?_; apply w_nil)
              exact wx_loopM ((k + 1, some k)) H Cu Ks (by simp; omega) ⟨by simp; omega, by rw [leastAt_succ hb, hfr, ← hr]; simp [beats, hy, hby]⟩
            · (apply w_nil; apply wx_next; apply wc_seq)
              ((refine dw_start H HA ?_); (repeat (refine Dc ?_)); (refine dw_done mixed H HA rfl (by kernel_rfl) ?_; clear H HA; intro c H HA; (repeat (first | (intro vx hx; have hx2 : vx = _ := hx; clear hx; subst hx2) | (intro vx hx; have HA := HA.addSF hx; clear hx) | (intro vx hx; have HA := HA.add hx; clear hx) | intro vx)); change W _ _ _ _ _ _ _))
              (apply w_nil; apply wx_next; refine Z19 ?_; apply wc_skip; apply wx_norm_block; apply wx_next; apply wc_region; refine Z0 ?_; refine Z46 ?_; refine Z2 ?_; apply w_nil)
              exact wx_loopM ((k + 1, some j)) H Cu Ks (by simp; omega) ⟨by simp; omega, by rw [leastAt_succ hb, hfr, ← hr]; simp [beats, hy]; omega⟩
        · have hfr : freshB acc b = false := by simp [freshB, hgl]; omega
          ((refine dw_start H HA ?_); (repeat (refine Dc ?_)); (refine dw_done mixed H HA rfl (by kernel_rfl) ?_; clear H HA; intro c H HA; (repeat (first | (intro vx hx; have hx2 : vx = _ := hx; clear hx; subst hx2) | (intro vx hx; have HA := HA.addSF hx; clear hx) | (intro vx hx; have HA := HA.add hx; clear hx) | intro vx)); change W _ _ _ _ _ _ _))
          cases r with
          | none =>
            have hneg : (-1 : Int) < 0 := by omega
            dsimp only [atI]
            (apply w_nil; apply wx_next; apply wc_seq)
            ((refine dw_start H HA ?_); (repeat (refine Dc ?_)); (refine dw_done mixed H HA rfl (by kernel_rfl) ?_; clear H HA; intro c H HA; (repeat (first | (intro vx hx; have hx2 : vx = _ := hx; clear hx; subst hx2) | (intro vx hx; have HA := HA.addSF hx; clear hx) | (intro vx hx; have HA := HA.add hx; clear hx) | intro vx)); change W _ _ _ _ _ _ _))
            (apply w_nil; apply wx_next; refine Z19 ?_; apply wc_skip; apply wx_norm_block; apply wx_next; apply wc_region; refine Z0 ?_; refine Z46 ?_; refine Z2 ?_; apply w_nil)
            exact wx_loopM ((k + 1, none)) H Cu Ks (by simp; omega) ⟨by simp; omega, by rw [leastAt_succ hb, hfr, ← hr]; rfl⟩
          | some j =>
            obtain ⟨y, hy, hjk⟩ := leastAt_lt hr.symm
            have hneg : ¬ ((j : Nat) : Int) < 0 := by omega
            dsimp only [atI]
            (apply w_nil; apply wx_next; apply wc_seq)
            ((refine dw_start H HA ?_); (repeat (refine Dc ?_)); (refine dw_done mixed H HA rfl (by kernel_rfl) ?_; clear H HA; intro c H HA; (repeat (first | (intro vx hx; have hx2 : vx = _ := hx; clear hx; subst hx2) | (intro vx hx; have HA := HA.addSF hx; clear hx) | (intro vx hx; have HA := HA.add hx; clear hx) | intro vx)); change W _ _ _ _ _ _ _))
            (apply w_nil; apply wx_next; refine Z19 ?_; apply wc_skip; apply wx_norm_block; apply wx_next; apply wc_region; refine Z0 ?_; refine Z46 ?_; refine Z2 ?_; apply w_nil)
            exact wx_loopM ((k + 1, some j)) H Cu Ks (by simp; omega) ⟨by simp; omega, by rw [leastAt_succ hb, hfr, ← hr]; rfl⟩
    · obtain rfl : k = s.length := by omega
      subst hr
      exact wx_cut ⟨Ks, H, Lk⟩
  · intro f c hR H HA
    obtain ⟨g2, rfl⟩ := hR.ex
    cases hla : leastAt acc s s.length with
    | none =>
      have hneg : (-1 : Int) < 0 := by omega
      dsimp only [atI]
      (apply wc_seq; apply wc_seq; apply wc_region; refine Z0 ?_; refine Z81 ?_; apply w_nil; apply wx_next; refine Z18 ?_; apply wc_seq; apply wc_region; refine Z0 ?_; refine Z2 ?_; apply w_nil; apply wx_next; apply wc_ret; apply wx_ret_then; apply wx_ret_block; apply wx_ret_then; apply wx_ret_block)
      (refine wx_freezeRow H HA Lk rfl rfl Lt ?_; intro c H HA)
      exact ret_fn H hm (outs1 Tryz.results94 Wh) (by rw [← hp.done hla]; exact Lk)
    | some j =>
      obtain ⟨y, hy, hst, hlt⟩ := hp.step hla
      have hneg : ¬ ((j : Nat) : Int) < 0 := by omega
      dsimp only [atI]
      (apply wc_seq; apply wc_seq; apply wc_region; refine Z0 ?_; refine Z81 ?_; apply w_nil; apply wx_next; refine Z19 ?_; apply wc_skip; apply wx_next; apply wc_region; refine Z0 ?_; refine Z0 ?_; refine Z0 ?_; refine Z34 HA fun vx HA => ?_; refine Z38 ?_; refine Z56 fun vx c H HA => ?_; refine Z59 fun vx c valsx H HA => ?_; refine Z2 ?_; apply w_nil; apply wx_norm_block)
      exact wx_loopG ((acc ++ [y], vx, valsx)) H Cu Lk Ks (by simpa using hlt) hst
end Go.Proofs.YthkdggoohpgnnaaGreatDoor
/- Contracts: atoms matched, of the document's answer. -/
namespace Go.Wk
open Go
/-- What a match hands back. -/
def Mt (r : Option (List Bd)) (v : Value) (c : Cx) : Prop := ∃ v', v = .tuple #[v', .bool r.isSome] ∧ Sl v' (r.getD []) c
instance (r : Option (List Bd)) (v : Value) : Mono (Mt r v) := ⟨fun h ⟨v', e, k⟩ => ⟨v', e, Mono.mono h k⟩⟩
theorem Mt.no {r : Option (List Bd)} {c : Cx} (h : r = none) : Mt r (.tuple #[.slice none 0 0, .bool false]) c := by subst h; exact ⟨_, rfl, Sl.nil _⟩
theorem Mt.yes {r : Option (List Bd)} {l : List Bd} {v : Value} {c : Cx} (h : r = some l) (k : Sl v l c) : Mt r (.tuple #[v, .bool true]) c := by subst h; exact ⟨_, rfl, k⟩
end Go.Wk
namespace Go.Proofs.YthkdggoohpgnnaaGreatDoor
open Go Go.Wk
theorem ref02_Match (p a : At0) (u1 u2 : Value) (s : List Bd) (v : Value) (c : Cx) (h1 : Ag p u1 c) (h2 : Ag a u2 c) (h : Sl v s c) (hp : p.sm) (ha : a.sm) (hs : allSm s) (hb : s.length + p.args.length + 1 < 1099511627776) : Cn Tryz.prog 40 [u1, u2, v] c (Mt (matchA p a s)) := by
  refine Cn.of Tryz.func40 Tryz.ntmps40 rfl rfl fun hm H HA => ?_
  have HA := ((HA.add h).add h1).add h2
  (apply wc_seq; apply wc_region)
  (refine s_boxG rfl rfl Lk H HA ?_; intro p1 c H HA)
  (refine s_boxG rfl rfl Lk H HA ?_; intro p2 c H HA)
  by_cases hn : p.name = a.name
  case neg =>
    (refine Z2 ?_; refine Z2 ?_; apply w_nil; apply wx_next; apply wc_seq; apply wc_seq; apply wc_region; refine Z35 HA fun vx HA => ?_; refine Z36 ?_; refine Z35 HA fun vx HA => ?_; refine Z36 ?_; refine Z87 ?_; refine Z0 ?_; refine Z5 ?_; refine Z5 ?_; refine Z5 ?_; refine Z5 ?_; refine Z5 ?_; refine Z5 ?_; refine Z5 ?_; refine Z8 ?_; refine Z0 ?_; refine Z5 ?_; refine Z5 ?_; refine Z5 ?_; refine Z5 ?_; refine Z6 ?_; refine Z6 ?_; refine Z6 ?_; refine Z6 ?_; refine Z5 ?_; refine Z8 ?_; apply w_nil; apply wx_next; refine Z18 ?_; apply wc_seq; apply wc_region; refine Z2 ?_; refine Z2 ?_; apply w_nil; apply wx_next; apply wc_ret; apply wx_ret_then)
    exact ret_fn H hm (outs2 Tryz.results40 Wh Wh) (Mt.no (by simp [matchA, matchOk, hn]))
  by_cases hl : (p.args.length : Int) = a.args.length
  case neg =>
    (refine Z2 ?_; refine Z2 ?_; apply w_nil; apply wx_next; apply wc_seq; apply wc_seq; apply wc_region; refine Z35 HA fun vx HA => ?_; refine Z36 ?_; refine Z35 HA fun vx HA => ?_; refine Z36 ?_; refine Z87 ?_; refine Z0 ?_; refine Z4 ?_; refine Z35 HA fun vx HA => ?_; refine Z4 ?_; refine Z37 HA fun vx HA => ?_; refine Z4 ?_; refine Z45 ?_; refine Z4 ?_; refine Z35 HA fun vx HA => ?_; refine Z4 ?_; refine Z37 HA fun vx HA => ?_; refine Z4 ?_; refine Z45 ?_; refine Z4 ?_; refine Z82 ?_; refine Z30 ?_; refine Z0 ?_; refine Z5 ?_; refine Z5 ?_; refine Z5 ?_; refine Z5 ?_; refine Z6 ?_; refine Z6 ?_; refine Z6 ?_; refine Z6 ?_; refine Z5 ?_; refine Z8 ?_; apply w_nil; apply wx_next; refine Z18 ?_; apply wc_seq; apply wc_region; refine Z2 ?_; refine Z2 ?_; apply w_nil; apply wx_next; apply wc_ret; apply wx_ret_then)
    exact ret_fn H hm (outs2 Tryz.results40 Wh Wh) (Mt.no (by simp [matchA, matchOk, show ¬ p.args.length = a.args.length by omega]))
  have hla : a.args.length + 1 < 1099511627776 := by omega
  by_cases hbv : p.by_.isVar = true ∧ a.by_.k = 0
  · have h0 := hbv.2
    (refine Z2 ?_; refine Z2 ?_; apply w_nil; apply wx_next; apply wc_seq; apply wc_seq; apply wc_region; refine Z35 HA fun vx HA => ?_; refine Z36 ?_; refine Z35 HA fun vx HA => ?_; refine Z36 ?_; refine Z87 ?_; refine Z0 ?_; refine Z4 ?_; refine Z35 HA fun vx HA => ?_; refine Z4 ?_; refine Z37 HA fun vx HA => ?_; refine Z4 ?_; refine Z45 ?_; refine Z4 ?_; refine Z35 HA fun vx HA => ?_; refine Z4 ?_; refine Z37 HA fun vx HA => ?_; refine Z4 ?_; refine Z45 ?_; refine Z4 ?_; refine Z82 ?_; refine Z30 ?_; refine Z0 ?_; refine Z4 ?_; refine Z35 HA fun vx HA => ?_; refine Z4 ?_; refine Z38 ?_; refine Z4 ?_)
    (refine s_call rfl rfl H HA (ref02_Variable p.by_ _) ?_; intro vx c H HP; have hvx := HP.h.1; have HA := HP.cut; subst hvx)
    rw [hbv.1]
    (refine Z4 ?_; refine Z0 ?_; refine Z4 ?_; refine Z35 HA fun vx HA => ?_; refine Z4 ?_; refine Z35 HA fun vx HA => ?_; refine Z4 ?_; refine Z36 ?_; refine Z4 ?_; refine Z80 ?_; refine Z4 ?_; refine Z8 ?_; refine Z30 ?_; apply w_nil; apply wx_next; refine Z18 ?_; apply wc_seq; apply wc_region; refine Z2 ?_; refine Z2 ?_; apply w_nil; apply wx_next; apply wc_ret; apply wx_ret_then)
    exact ret_fn H hm (outs2 Tryz.results40 Wh Wh) (Mt.no (by simp [matchA, matchOk, hbv]))
  have hok : matchOk p a = true := by
    have hl' : p.args.length = a.args.length := by omega
    simp only [matchOk, hn, hl', decide_true, Bool.true_and, Bool.not_eq_true', Bool.and_eq_false_iff, decide_eq_false_iff_not]
    by_cases e : p.by_.isVar = true
    · exact .inr fun e' => hbv ⟨e, e'⟩
    · exact .inl (by simpa using e)
  have hmd : matchA p a s = if applyA (extAll s p.terms a.terms) p = a then some (settledB (extAll s p.terms a.terms)) else none := by rw [matchA, if_neg (by simp [hok])]
  (refine Z2 ?_; refine Z2 ?_; apply w_nil; apply wx_next; apply wc_seq; apply wc_seq; apply wc_region; refine Z35 HA fun vx HA => ?_; refine Z36 ?_; refine Z35 HA fun vx HA => ?_; refine Z36 ?_; refine Z87 ?_; refine Z0 ?_; refine Z4 ?_; refine Z35 HA fun vx HA => ?_; refine Z4 ?_; refine Z37 HA fun vx HA => ?_; refine Z4 ?_; refine Z45 ?_; refine Z4 ?_; refine Z35 HA fun vx HA => ?_; refine Z4 ?_; refine Z37 HA fun vx HA => ?_; refine Z4 ?_; refine Z45 ?_; refine Z4 ?_; refine Z82 ?_; refine Z30 ?_; refine Z0 ?_; refine Z4 ?_; refine Z35 HA fun vx HA => ?_; refine Z4 ?_; refine Z38 ?_; refine Z4 ?_)
  (refine s_call rfl rfl H HA (ref02_Variable p.by_ _) ?_; intro vx c H HP; have hvx := HP.h.1; have HA := HP.cut; subst hvx)
  cases hv : p.by_.isVar
  · (refine Z4 ?_; refine Z0 ?_; refine Z5 ?_; refine Z5 ?_; refine Z5 ?_; refine Z5 ?_; refine Z4 ?_; refine Z30 ?_; refine Z30 ?_; apply w_nil; apply wx_next; refine Z19 ?_; apply wc_skip; apply wx_next; apply wc_seq; apply wc_region; refine Z2 ?_; apply w_nil; apply wx_next; apply wc_seq; apply wc_region; refine Z0 ?_; refine Z0 ?_)
    (have H := H.nilR Bd  111 4; have HA := HA.add (Vals.nil (α := Bd) _))
    (refine Z59 fun vx c valsx H HA => ?_; refine Z2 ?_; apply w_nil; apply wx_next; apply wc_seq; apply wc_region; refine Z39 HA fun vx HA => ?_)
    (refine s_call rfl rfl H HA (ref02_Places p _ _ Lk (by omega)) ?_; intro vx c H HA)
    (obtain ⟨vp, rfl⟩ : ∃ x, x = vx := ⟨_, rfl⟩)
    (refine Z2 ?_; apply w_nil; apply wx_next; apply wc_seq; apply wc_region; refine Z39 HA fun vx HA => ?_)
    (refine s_call rfl rfl H HA (ref02_Places a _ _ Lk (by omega)) ?_; intro vx c H HA)
    (obtain ⟨va, rfl⟩ : ∃ x, x = vx := ⟨_, rfl⟩)
    (refine Z2 ?_; apply w_nil; apply wx_next; apply wc_seq; apply wc_seq; apply wc_region; refine Z2 ?_; apply w_nil; apply wx_next; apply wc_block)
    have hpl : p.terms.length = p.args.length + 1 := rfl
    refine wc_loopR (α := Bd) p.terms.length (fun k v' => [(3, p1), (4, p2), (8, v'), (9, vp), (10, va), (11, .int .i64 k)]) (fun k acc => extAll acc (p.terms.drop k) (a.terms.drop k) = extAll s p.terms a.terms ∧ acc.length ≤ s.length + k) 0 ([] ++ s) H Lk Cu Ks (Nat.zero_le _) ⟨rfl, by simp⟩ ?_
    intro k acc v' vals g c hk hpp H HA
    obtain ⟨hext, hlen⟩ := hpp
    (focus (apply wc_seq; apply wc_seq; apply wc_region; refine Z0 ?_; refine Z0 ?_; refine Z45 ?_; refine Z93 (fun hq => ?_) fun hq => ?_; apply w_nil; apply wx_next; refine Z18 ?_; apply wc_skip; apply wx_next; apply wc_seq; apply wc_block; apply wc_seq; apply wc_region; refine Z0 ?_; refine Z0 ?_; refine Z0 ?_; rotate_left; apply w_nil; apply wx_next; refine Z19 ?_; apply wc_exit; apply wx_exit_then; apply wx_exit_then; apply wx_exit_same; apply wx_next; apply wc_seq; apply wc_seq; rotate_left))
    · obtain ⟨x, hx⟩ := getq (xs := p.terms) (k := k) (by omega)
      obtain ⟨y, hy⟩ := getq (xs := a.terms) (k := k) (by simp [At0.terms] at *; omega)
      have hstep : extAll (extB acc x y) (p.terms.drop (k + 1)) (a.terms.drop (k + 1)) = extAll s p.terms a.terms := by rw [← hext, drop_get hx, drop_get hy]; rfl
      (refine Z34 HA fun vx HA => ?_; refine Z35 HA fun vx HA => ?_; refine Z36 ?_)
      (refine s_callB rfl rfl Lk H HA rfl Lt (fun c HA => ref02_Look acc _ x.n _ Lk) ?_; intro vx c hvx H HA; subst hvx)
      rw [looked]
      cases hlk : lookB acc x.n
      · (refine Z0 ?_; refine Z32 ?_; refine Z32 ?_; refine Z61 fun bx c H HA => ?_; refine Z74 fun c H HA => ?_; refine Z2 ?_; apply w_nil; apply wx_next; apply wc_seq; apply wc_region; refine Z0 ?_; refine Z0 ?_; refine Z34 HA fun vx HA => ?_; refine Z38 ?_)
        (refine s_call rfl rfl H HA (ref02_Variable x _) ?_; intro vx c H HP; have hvx := HP.h.1; have HA := HP.cut; subst hvx)
        cases hxv : x.isVar
        · (refine Z0 ?_; refine Z5 ?_; refine Z5 ?_; refine Z30 ?_; apply w_nil; apply wx_next; refine Z19 ?_; apply wc_skip; apply wx_norm_block; apply wx_next; apply wc_region; refine Z0 ?_; refine Z46 ?_; refine Z2 ?_; apply w_nil)
          have H := H.drop
          exact wx_loopR (k + 1) H Lk Cu Ks (by omega) ⟨by rw [← hstep, extB]; simp [hxv], by omega⟩
        · (refine Z0 ?_; refine Z4 ?_; refine Z0 ?_; refine Z4 ?_; refine Z33 ?_; refine Z8 ?_; apply w_nil; apply wx_next; refine Z18 ?_)
          have H := H.drop
          (refine dw_start H HA ?_)
          (repeat (refine Dc ?_))
          (refine dw_done mixed H HA rfl (by kernel_rfl) ?_; clear H HA; intro c H HA; (repeat (first | (intro vx hx; have hx2 : vx = _ := hx; clear hx; subst hx2) | (intro vx hx; have HA := HA.addSF hx; clear hx) | (intro vx hx; have HA := HA.add hx; clear hx) | intro vx)); change W _ _ _ _ _ _ _)
          have HA := HA.addSb HA.h.1 (⟨x.n, y⟩ : Bd) rfl
          (refine Z59 fun vx c valsx H HA => ?_; refine Z2 ?_; apply w_nil; apply wx_norm_block; apply wx_next; apply wc_region; refine Z0 ?_; refine Z46 ?_; refine Z2 ?_; apply w_nil)
          exact wx_loopR (k + 1) H Lk Cu Ks (by omega) ⟨by rw [← hstep, extB]; simp [hxv, hlk], by simp; omega⟩
      · (refine Z0 ?_; refine Z32 ?_; refine Z32 ?_; refine Z61 fun bx c H HA => ?_; refine Z74 fun c H HA => ?_; refine Z2 ?_; apply w_nil; apply wx_next; apply wc_seq; apply wc_region; refine Z0 ?_; refine Z0 ?_; refine Z34 HA fun vx HA => ?_; refine Z38 ?_)
        (refine s_call rfl rfl H HA (ref02_Variable x _) ?_; intro vx c H HP; have hvx := HP.h.1; have HA := HP.cut; subst hvx)
        cases hxv : x.isVar
        · (refine Z0 ?_; refine Z5 ?_; refine Z5 ?_; refine Z30 ?_; apply w_nil; apply wx_next; refine Z19 ?_; apply wc_skip; apply wx_norm_block; apply wx_next; apply wc_region; refine Z0 ?_; refine Z46 ?_; refine Z2 ?_; apply w_nil)
          have H := H.drop
          exact wx_loopR (k + 1) H Lk Cu Ks (by omega) ⟨by rw [← hstep, extB]; simp [hxv], by omega⟩
        · (refine Z0 ?_; refine Z4 ?_; refine Z0 ?_; refine Z4 ?_; refine Z33 ?_; refine Z8 ?_; apply w_nil; apply wx_next; refine Z19 ?_; apply wc_skip; apply wx_norm_block; apply wx_next; apply wc_region; refine Z0 ?_; refine Z46 ?_; refine Z2 ?_; apply w_nil)
          have H := H.drop
          exact wx_loopR (k + 1) H Lk Cu Ks (by omega) ⟨by rw [← hstep, extB]; simp [hxv, hlk], by omega⟩
    · rw [List.drop_eq_nil_of_le (by omega)] at hext
      have hacc : acc = extAll s p.terms a.terms := hext
      have hsm : allSm acc := by rw [hacc]; exact extAll_sm _ _ _ hs (At0.sm_terms ha)
      (refine wc_freezeRow H HA Lk rfl rfl Lt ?_; intro c H HA)
      (refine dw_start H HA ?_)
      (repeat (refine Dc ?_))
      (apply dw_cons; (focus ((intro B _ Lx c H HA; (repeat (first | (intro vx hx; have hx2 : vx = _ := hx; clear hx; subst hx2) | (intro vx hx; have HA := HA.addSF hx; clear hx) | (intro vx hx; have HA := HA.add hx; clear hx) | intro vx)); change W _ _ _ _ _ _ _); refine s_call rfl rfl H HA (ref02_Apply acc _ p _ _ Lk Lk) ?_; intro vx c H HP; exact w_nil (pq_rel H (Cp) HP.h.1))); exact inferInstance)
      (repeat (refine Dc ?_))
      (apply dw_cons; (focus ((intro B _ Lx c H HA; (repeat (first | (intro vx hx; have hx2 : vx = _ := hx; clear hx; subst hx2) | (intro vx hx; have HA := HA.addSF hx; clear hx) | (intro vx hx; have HA := HA.add hx; clear hx) | intro vx)); change W _ _ _ _ _ _ _); (refine s_call rfl rfl H HA (ref02_Same (applyA acc p) a _ _ _ Lk Lk (applyA_sm hsm hp)) ?_; intro vx c H HP; have hvx := HP.h.1; have HA := HP.cut; subst hvx); exact Dx)); exact inferInstance)
      (repeat (refine Dc ?_))
      (refine dw_done mixed H HA rfl (by kernel_rfl) ?_; clear H HA; intro c H HA; (repeat (first | (intro vx hx; have hx2 : vx = _ := hx; clear hx; subst hx2) | (intro vx hx; have HA := HA.addSF hx; clear hx) | (intro vx hx; have HA := HA.add hx; clear hx) | intro vx)); change W _ _ _ _ _ _ _)
      by_cases he : applyA acc p = a
      · have he' : decide (cmpAt (applyA acc p) a = 0) = true := by simpa using cmpAt_t3.eq0.2 he
        rw [he']
        (apply w_nil; apply wx_next; refine Z19 ?_; apply wc_skip; apply wx_next; apply wc_seq; apply wc_region; refine Z0 ?_)
        (refine s_call rfl rfl H HA (ref02_Settled acc _ _ Lk) ?_; intro vx c H HA)
        (refine Z2 ?_; refine Z2 ?_; apply w_nil; apply wx_next; apply wc_ret)
        exact ret_fn H hm (outs2 Tryz.results40 Wh Wh) (Mt.yes (by rw [hmd, ← hacc, if_pos he]) Lk)
      · have he' : decide (cmpAt (applyA acc p) a = 0) = false := by simpa using fun h => he (cmpAt_t3.eq0.1 h)
        rw [he']
        (apply w_nil; apply wx_next; refine Z18 ?_; apply wc_seq; apply wc_region; refine Z2 ?_; refine Z2 ?_; apply w_nil; apply wx_next; apply wc_ret; apply wx_ret_then)
        exact ret_fn H hm (outs2 Tryz.results40 Wh Wh) (Mt.no (by rw [hmd, ← hacc, if_neg he]))
  · have h0 : ¬ a.by_.k = 0 := fun e => hbv ⟨hv, e⟩
    (refine Z4 ?_; refine Z0 ?_; refine Z4 ?_; refine Z35 HA fun vx HA => ?_; refine Z4 ?_; refine Z35 HA fun vx HA => ?_; refine Z4 ?_; refine Z36 ?_; refine Z4 ?_; refine Z80 ?_; refine Z4 ?_; refine Z8 ?_; refine Z30 ?_; apply w_nil; apply wx_next; refine Z19 ?_; apply wc_skip; apply wx_next; apply wc_seq; apply wc_region; refine Z2 ?_; apply w_nil; apply wx_next; apply wc_seq; apply wc_region; refine Z0 ?_; refine Z0 ?_)
    (have H := H.nilR Bd  111 4; have HA := HA.add (Vals.nil (α := Bd) _))
    (refine Z59 fun vx c valsx H HA => ?_; refine Z2 ?_; apply w_nil; apply wx_next; apply wc_seq; apply wc_region; refine Z39 HA fun vx HA => ?_)
    (refine s_call rfl rfl H HA (ref02_Places p _ _ Lk (by omega)) ?_; intro vx c H HA)
    (obtain ⟨vp, rfl⟩ : ∃ x, x = vx := ⟨_, rfl⟩)
    (refine Z2 ?_; apply w_nil; apply wx_next; apply wc_seq; apply wc_region; refine Z39 HA fun vx HA => ?_)
    (refine s_call rfl rfl H HA (ref02_Places a _ _ Lk (by omega)) ?_; intro vx c H HA)
    (obtain ⟨va, rfl⟩ : ∃ x, x = vx := ⟨_, rfl⟩)
    (refine Z2 ?_; apply w_nil; apply wx_next; apply wc_seq; apply wc_seq; apply wc_region; refine Z2 ?_; apply w_nil; apply wx_next; apply wc_block)
    have hpl : p.terms.length = p.args.length + 1 := rfl
    refine wc_loopR (α := Bd) p.terms.length (fun k v' => [(3, p1), (4, p2), (8, v'), (9, vp), (10, va), (11, .int .i64 k)]) (fun k acc => extAll acc (p.terms.drop k) (a.terms.drop k) = extAll s p.terms a.terms ∧ acc.length ≤ s.length + k) 0 ([] ++ s) H Lk Cu Ks (Nat.zero_le _) ⟨rfl, by simp⟩ ?_
    intro k acc v' vals g c hk hpp H HA
    obtain ⟨hext, hlen⟩ := hpp
    (focus (apply wc_seq; apply wc_seq; apply wc_region; refine Z0 ?_; refine Z0 ?_; refine Z45 ?_; refine Z93 (fun hq => ?_) fun hq => ?_; apply w_nil; apply wx_next; refine Z18 ?_; apply wc_skip; apply wx_next; apply wc_seq; apply wc_block; apply wc_seq; apply wc_region; refine Z0 ?_; refine Z0 ?_; refine Z0 ?_; rotate_left; apply w_nil; apply wx_next; refine Z19 ?_; apply wc_exit; apply wx_exit_then; apply wx_exit_then; apply wx_exit_same; apply wx_next; apply wc_seq; apply wc_seq; rotate_left))
    · obtain ⟨x, hx⟩ := getq (xs := p.terms) (k := k) (by omega)
      obtain ⟨y, hy⟩ := getq (xs := a.terms) (k := k) (by simp [At0.terms] at *; omega)
      have hstep : extAll (extB acc x y) (p.terms.drop (k + 1)) (a.terms.drop (k + 1)) = extAll s p.terms a.terms := by rw [← hext, drop_get hx, drop_get hy]; rfl
      (refine Z34 HA fun vx HA => ?_; refine Z35 HA fun vx HA => ?_; refine Z36 ?_)
      (refine s_callB rfl rfl Lk H HA rfl Lt (fun c HA => ref02_Look acc _ x.n _ Lk) ?_; intro vx c hvx H HA; subst hvx)
      rw [looked]
      cases hlk : lookB acc x.n
      · (refine Z0 ?_; refine Z32 ?_; refine Z32 ?_; refine Z61 fun bx c H HA => ?_; refine Z74 fun c H HA => ?_; refine Z2 ?_; apply w_nil; apply wx_next; apply wc_seq; apply wc_region; refine Z0 ?_; refine Z0 ?_; refine Z34 HA fun vx HA => ?_; refine Z38 ?_)
        (refine s_call rfl rfl H HA (ref02_Variable x _) ?_; intro vx c H HP; have hvx := HP.h.1; have HA := HP.cut; subst hvx)
        cases hxv : x.isVar
        · (refine Z0 ?_; refine Z5 ?_; refine Z5 ?_; refine Z30 ?_; apply w_nil; apply wx_next; refine Z19 ?_; apply wc_skip; apply wx_norm_block; apply wx_next; apply wc_region; refine Z0 ?_; refine Z46 ?_; refine Z2 ?_; apply w_nil)
          have H := H.drop
          exact wx_loopR (k + 1) H Lk Cu Ks (by omega) ⟨by rw [← hstep, extB]; simp [hxv], by omega⟩
        · (refine Z0 ?_; refine Z4 ?_; refine Z0 ?_; refine Z4 ?_; refine Z33 ?_; refine Z8 ?_; apply w_nil; apply wx_next; refine Z18 ?_)
          have H := H.drop
          (refine dw_start H HA ?_)
          (repeat (refine Dc ?_))
          (refine dw_done mixed H HA rfl (by kernel_rfl) ?_; clear H HA; intro c H HA; (repeat (first | (intro vx hx; have hx2 : vx = _ := hx; clear hx; subst hx2) | (intro vx hx; have HA := HA.addSF hx; clear hx) | (intro vx hx; have HA := HA.add hx; clear hx) | intro vx)); change W _ _ _ _ _ _ _)
          have HA := HA.addSb HA.h.1 (⟨x.n, y⟩ : Bd) rfl
          (refine Z59 fun vx c valsx H HA => ?_; refine Z2 ?_; apply w_nil; apply wx_norm_block; apply wx_next; apply wc_region; refine Z0 ?_; refine Z46 ?_; refine Z2 ?_; apply w_nil)
          exact wx_loopR (k + 1) H Lk Cu Ks (by omega) ⟨by rw [← hstep, extB]; simp [hxv, hlk], by simp; omega⟩
      · (refine Z0 ?_; refine Z32 ?_; refine Z32 ?_; refine Z61 fun bx c H HA => ?_; refine Z74 fun c H HA => ?_; refine Z2 ?_; apply w_nil; apply wx_next; apply wc_seq; apply wc_region; refine Z0 ?_; refine Z0 ?_; refine Z34 HA fun vx HA => ?_; refine Z38 ?_)
        (refine s_call rfl rfl H HA (ref02_Variable x _) ?_; intro vx c H HP; have hvx := HP.h.1; have HA := HP.cut; subst hvx)
        cases hxv : x.isVar
        · (refine Z0 ?_; refine Z5 ?_; refine Z5 ?_; refine Z30 ?_; apply w_nil; apply wx_next; refine Z19 ?_; apply wc_skip; apply wx_norm_block; apply wx_next; apply wc_region; refine Z0 ?_; refine Z46 ?_; refine Z2 ?_; apply w_nil)
          have H := H.drop
          exact wx_loopR (k + 1) H Lk Cu Ks (by omega) ⟨by rw [← hstep, extB]; simp [hxv], by omega⟩
        · (refine Z0 ?_; refine Z4 ?_; refine Z0 ?_; refine Z4 ?_; refine Z33 ?_; refine Z8 ?_; apply w_nil; apply wx_next; refine Z19 ?_; apply wc_skip; apply wx_norm_block; apply wx_next; apply wc_region; refine Z0 ?_; refine Z46 ?_; refine Z2 ?_; apply w_nil)
          have H := H.drop
          exact wx_loopR (k + 1) H Lk Cu Ks (by omega) ⟨by rw [← hstep, extB]; simp [hxv, hlk], by omega⟩
    · rw [List.drop_eq_nil_of_le (by omega)] at hext
      have hacc : acc = extAll s p.terms a.terms := hext
      have hsm : allSm acc := by rw [hacc]; exact extAll_sm _ _ _ hs (At0.sm_terms ha)
      (refine wc_freezeRow H HA Lk rfl rfl Lt ?_; intro c H HA)
      (refine dw_start H HA ?_)
      (repeat (refine Dc ?_))
      (apply dw_cons; (focus ((intro B _ Lx c H HA; (repeat (first | (intro vx hx; have hx2 : vx = _ := hx; clear hx; subst hx2) | (intro vx hx; have HA := HA.addSF hx; clear hx) | (intro vx hx; have HA := HA.add hx; clear hx) | intro vx)); change W _ _ _ _ _ _ _); refine s_call rfl rfl H HA (ref02_Apply acc _ p _ _ Lk Lk) ?_; intro vx c H HP; exact w_nil (pq_rel H (Cp) HP.h.1))); exact inferInstance)
      (repeat (refine Dc ?_))
      (apply dw_cons; (focus ((intro B _ Lx c H HA; (repeat (first | (intro vx hx; have hx2 : vx = _ := hx; clear hx; subst hx2) | (intro vx hx; have HA := HA.addSF hx; clear hx) | (intro vx hx; have HA := HA.add hx; clear hx) | intro vx)); change W _ _ _ _ _ _ _); (refine s_call rfl rfl H HA (ref02_Same (applyA acc p) a _ _ _ Lk Lk (applyA_sm hsm hp)) ?_; intro vx c H HP; have hvx := HP.h.1; have HA := HP.cut; subst hvx); exact Dx)); exact inferInstance)
      (repeat (refine Dc ?_))
      (refine dw_done mixed H HA rfl (by kernel_rfl) ?_; clear H HA; intro c H HA; (repeat (first | (intro vx hx; have hx2 : vx = _ := hx; clear hx; subst hx2) | (intro vx hx; have HA := HA.addSF hx; clear hx) | (intro vx hx; have HA := HA.add hx; clear hx) | intro vx)); change W _ _ _ _ _ _ _)
      by_cases he : applyA acc p = a
      · have he' : decide (cmpAt (applyA acc p) a = 0) = true := by simpa using cmpAt_t3.eq0.2 he
        rw [he']
        (apply w_nil; apply wx_next; refine Z19 ?_; apply wc_skip; apply wx_next; apply wc_seq; apply wc_region; refine Z0 ?_)
        (refine s_call rfl rfl H HA (ref02_Settled acc _ _ Lk) ?_; intro vx c H HA)
        (refine Z2 ?_; refine Z2 ?_; apply w_nil; apply wx_next; apply wc_ret)
        exact ret_fn H hm (outs2 Tryz.results40 Wh Wh) (Mt.yes (by rw [hmd, ← hacc, if_pos he]) Lk)
      · have he' : decide (cmpAt (applyA acc p) a = 0) = false := by simpa using fun h => he (cmpAt_t3.eq0.1 h)
        rw [he']
        (apply w_nil; apply wx_next; refine Z18 ?_; apply wc_seq; apply wc_region; refine Z2 ?_; refine Z2 ?_; apply w_nil; apply wx_next; apply wc_ret; apply wx_ret_then)
        exact ret_fn H hm (outs2 Tryz.results40 Wh Wh) (Mt.no (by rw [hmd, ← hacc, if_neg he]))
end Go.Proofs.YthkdggoohpgnnaaGreatDoor
/- Contracts: clauses checked and compared, of the document's answer. -/
namespace Go.Wk
open Go
def Cl.fit (x : Cl) : Prop := x.sm ∧ x.terms.length < 1099511627776
theorem Cl.fit_body {x : Cl} (h : x.fit) : x.bodyTerms.length < 1099511627776 := by have := h.2; simp [Cl.terms] at this; omega
theorem Cl.fit_test {x : Cl} (h : x.fit) : x.testTerms.length < 1099511627776 := by have := h.2; simp [Cl.terms] at this; omega
theorem Cl.fit_head {x : Cl} (h : x.fit) : x.head.args.length + 1 < 1099511627776 := by have := h.2; simp [Cl.terms, At0.terms] at this; omega
theorem Cl.fit_ht {x : Cl} (h : x.fit) : x.head.terms.length + x.testTerms.length < 1099511627776 := by have := h.2; simp [Cl.terms] at this; omega
theorem orI_get {α : Type} {f : α → Int} {l : List α} {k : Nat} {a : α} (h : l[k]? = some a) : orI ((l.drop k).map f) = if f a = 0 then orI ((l.drop (k + 1)).map f) else f a := by
  rw [drop_get h]
  rfl
theorem orI_two {a : Int} {l : List Int} : orI (a :: l) = if a = 0 then orI l else a := rfl
end Go.Wk
namespace Go.Proofs.YthkdggoohpgnnaaGreatDoor
open Go Go.Wk
theorem ref03_Check (x : Cl) (u : Value) (c : Cx) (h : Ag x u c) (hf : x.fit) : Cn Tryz.prog 30 [u] c (fun r _ => r = .int .i64 x.check) := by
  refine Cn.of Tryz.func30 Tryz.ntmps30 rfl rfl fun hm H HA => ?_
  have hlt : x.tests.length < 1099511627776 := by obtain ⟨cs, rfl, v, v1, v2, rfl, h⟩ := h; exact h.2.2.lim
  have hfb := Cl.fit_body hf
  have hft := Cl.fit_test hf
  have hfh := Cl.fit_head hf
  have hfht := Cl.fit_ht hf
  have hf2 := hf.2
  have hhl : x.head.terms.length = x.head.args.length + 1 := rfl
  have HA := HA.add h
  (apply wc_seq; apply wc_region)
  (refine s_boxG rfl rfl Lk H HA ?_; intro p c H HA)
  by_cases h8 : (8 : Int) < x.body.length
  · (refine Z2 ?_; apply w_nil; apply wx_next; apply wc_seq; apply wc_seq; apply wc_region; refine Z35 HA fun vx HA => ?_; refine Z37 HA fun vx HA => ?_; refine Z45 ?_; refine Z84 ?_; refine Z0 ?_; refine Z5 ?_; refine Z5 ?_; refine Z5 ?_; refine Z5 ?_; refine Z8 ?_; apply w_nil; apply wx_next; refine Z18 ?_; apply wc_seq; apply wc_region; refine Z2 ?_; apply w_nil; apply wx_next; apply wc_ret; apply wx_ret_then)
    exact ret_fn H hm (outs1 Tryz.results30 Wh) (by rw [Cl.check, if_pos (by omega)])
  by_cases h8t : (8 : Int) < x.tests.length
  · (refine Z2 ?_; apply w_nil; apply wx_next; apply wc_seq; apply wc_seq; apply wc_region; refine Z35 HA fun vx HA => ?_; refine Z37 HA fun vx HA => ?_; refine Z45 ?_; refine Z84 ?_; refine Z0 ?_; refine Z4 ?_; refine Z35 HA fun vx HA => ?_; refine Z4 ?_; refine Z37 HA fun vx HA => ?_; refine Z4 ?_; refine Z45 ?_; refine Z4 ?_; refine Z84 ?_; refine Z30 ?_; apply w_nil; apply wx_next; refine Z18 ?_; apply wc_seq; apply wc_region; refine Z2 ?_; apply w_nil; apply wx_next; apply wc_ret; apply wx_ret_then)
    exact ret_fn H hm (outs1 Tryz.results30 Wh) (by rw [Cl.check, if_pos (by omega)])
  have hck : x.check = orI [orI ((x.head :: x.body).map At0.check), orI (x.tests.map Ts.check), if x.head.by_.k = 3 then 33 else 0, if (varsOf (x.head.terms ++ x.testTerms)).any (fun t => !decide (t ∈ x.bodyTerms)) then 34 else 0, if misnum (varsOf x.terms) 0 then 35 else 0] := by rw [Cl.check, if_neg (by omega)]
  (refine Z2 ?_; apply w_nil; apply wx_next; apply wc_seq; apply wc_seq; apply wc_region; refine Z35 HA fun vx HA => ?_; refine Z37 HA fun vx HA => ?_; refine Z45 ?_; refine Z84 ?_; refine Z0 ?_; refine Z4 ?_; refine Z35 HA fun vx HA => ?_; refine Z4 ?_; refine Z37 HA fun vx HA => ?_; refine Z4 ?_; refine Z45 ?_; refine Z4 ?_; refine Z84 ?_; refine Z30 ?_; apply w_nil; apply wx_next; refine Z19 ?_; apply wc_skip; apply wx_next; apply wc_seq; apply wc_region; refine Z35 HA fun vx HA => ?_; refine Z39 HA fun vx HA => ?_; refine Z55 fun vx c H HA => ?_; refine Z2 ?_; apply w_nil; apply wx_next; apply wc_seq; apply wc_region; refine Z0 ?_; refine Z35 HA fun vx HA => ?_; refine Z37 HA fun vx HA => ?_; refine Z58 fun vx c H HA => ?_; refine Z2 ?_; apply w_nil; apply wx_next; apply wc_seq; apply wc_seq; apply wc_region; refine Z2 ?_; apply w_nil; apply wx_next; apply wc_block)
  (obtain ⟨vl, rfl⟩ : ∃ x, x = vx := ⟨_, rfl⟩)
  refine wc_loopN (x.body.length + 1) (fun k => [(1, p), (3, vl), (4, .int .i64 k)]) (fun k => orI ((x.head :: x.body).map At0.check) = orI (((x.head :: x.body).drop k).map At0.check)) 0 H HA Ks (Nat.zero_le _) rfl ?_
  intro k g c hk hp H HA
  (focus (apply wc_seq; apply wc_seq; apply wc_region; refine Z0 ?_; refine Z0 ?_; refine Z45 ?_; refine Z93 (fun hq => ?_) fun hq => ?_; apply w_nil; apply wx_next; refine Z18 ?_; apply wc_skip; apply wx_next; apply wc_seq; apply wc_block; apply wc_seq; apply wc_region; refine Z0 ?_; refine Z0 ?_; rotate_left; apply w_nil; apply wx_next; refine Z19 ?_; apply wc_exit; apply wx_exit_then; apply wx_exit_then; apply wx_exit_same; apply wx_next; apply wc_seq; apply wc_seq; apply wc_region; refine Z2 ?_; apply w_nil; apply wx_next; apply wc_block; rotate_left))
  · obtain ⟨a, ha⟩ := getq (xs := x.head :: x.body) (k := k) (by simp at hq; simp; omega)
    have hsm : a.name.size < 4611686018427387904 := by
      rcases List.mem_cons.1 (List.mem_of_getElem? ha) with e | hm
      · subst e; exact hf.1.1.1
      · exact (hf.1.2.1 a hm).1
    (refine Z34 HA fun vx HA => ?_; refine Z39 HA fun vx HA => ?_)
    (refine s_call rfl rfl H HA (ref02_CheckAtom a _ _ Lk hsm) ?_; intro vx c H HP; have hvx := HP.h.1; have HA := HP.cut; subst hvx)
    by_cases he : a.check = 0
    · (refine Z2 ?_; apply w_nil; apply wx_next; apply wc_seq; apply wc_region; refine Z0 ?_; refine Z82 ?_; apply w_nil; apply wx_next; refine Z19 ?_; apply wc_skip; apply wx_norm_block; apply wx_next; apply wc_region; refine Z0 ?_; refine Z46 ?_; refine Z2 ?_; apply w_nil)
      exact wx_loopN (k + 1) H Cu Ks (by simp at hq; omega) (by rw [hp, orI_get ha, if_pos he])
    · (refine Z2 ?_; apply w_nil; apply wx_next; apply wc_seq; apply wc_region; refine Z0 ?_; refine Z82 ?_; apply w_nil; apply wx_next; refine Z18 ?_; apply wc_seq; apply wc_region; refine Z0 ?_; refine Z2 ?_; apply w_nil; apply wx_next; apply wc_ret; apply wx_ret_block; apply wx_ret_then; apply wx_ret_then; apply wx_ret_block; apply wx_ret_then)
      exact ret_fn H hm (outs1 Tryz.results30 Wh) (by rw [hck, hp, orI_get ha, if_neg he, orI_two, if_neg he])
  have hA0 : orI ((x.head :: x.body).map At0.check) = 0 := by rw [hp, List.drop_eq_nil_of_le (by simp at hq; simp; omega)]; rfl
  refine wc_loopN x.tests.length (fun k => [(1, p), (6, .int .i64 k)]) (fun k => orI (x.tests.map Ts.check) = orI ((x.tests.drop k).map Ts.check)) 0 H HA Ks (Nat.zero_le _) rfl ?_
  clear hp hk
  intro k g c hk hp H HA
  (focus (apply wc_seq; apply wc_seq; apply wc_region; refine Z0 ?_; refine Z35 HA fun vx HA => ?_; refine Z37 HA fun vx HA => ?_; refine Z45 ?_; refine Z93 (fun hq => ?_) fun hq => ?_; apply w_nil; apply wx_next; refine Z18 ?_; apply wc_skip; apply wx_next; apply wc_seq; apply wc_block; apply wc_seq; apply wc_region; refine Z35 HA fun vx HA => ?_; refine Z37 HA fun vx HA => ?_; refine Z0 ?_; rotate_left; apply w_nil; apply wx_next; refine Z19 ?_; apply wc_exit; apply wx_exit_then; apply wx_exit_then; apply wx_exit_same; apply wx_next; apply wc_seq; apply wc_seq; apply wc_region; refine Z35 HA fun vx HA => ?_; refine Z35 HA fun vx HA => ?_; refine Z35 HA fun vx HA => ?_; refine Z36 ?_; refine Z92 (fun hq => ?_) fun hq => ?_; apply w_nil; apply wx_next; refine Z18 ?_; apply wc_seq; apply wc_region; refine Z2 ?_; apply w_nil; apply wx_next; apply wc_ret; apply wx_ret_then; rotate_left; apply w_nil; apply wx_next; refine Z19 ?_; apply wc_skip; apply wx_next; apply wc_seq; apply wc_region; refine Z39 HA fun vx HA => ?_; rotate_left))
  · obtain ⟨a, ha⟩ := getq (xs := x.tests) (k := k) (by omega)
    (refine Z34 HA fun vx HA => ?_; refine Z38 ?_)
    (refine s_call rfl rfl H HA (ref02_CheckTest a _) ?_; intro vx c H HP; have hvx := HP.h.1; have HA := HP.cut; subst hvx)
    by_cases he : a.check = 0
    · (refine Z2 ?_; apply w_nil; apply wx_next; apply wc_seq; apply wc_region; refine Z0 ?_; refine Z82 ?_; apply w_nil; apply wx_next; refine Z19 ?_; apply wc_skip; apply wx_norm_block; apply wx_next; apply wc_region; refine Z0 ?_; refine Z46 ?_; refine Z2 ?_; apply w_nil)
      exact wx_loopN (k + 1) H Cu Ks (by omega) (by rw [hp, orI_get ha, if_pos he])
    · (refine Z2 ?_; apply w_nil; apply wx_next; apply wc_seq; apply wc_region; refine Z0 ?_; refine Z82 ?_; apply w_nil; apply wx_next; refine Z18 ?_; apply wc_seq; apply wc_region; refine Z0 ?_; refine Z2 ?_; apply w_nil; apply wx_next; apply wc_ret; apply wx_ret_block; apply wx_ret_then; apply wx_ret_then; apply wx_ret_block; apply wx_ret_then)
      exact ret_fn H hm (outs1 Tryz.results30 Wh) (by rw [hck, orI_two, if_pos hA0, hp, orI_get ha, if_neg he, orI_two, if_neg he])
  · have hT0 : orI (x.tests.map Ts.check) = 0 := by rw [hp, List.drop_eq_nil_of_le (by omega)]; rfl
    exact ret_fn H hm (outs1 Tryz.results30 Wh) (by rw [hck, orI_two, if_pos hA0, orI_two, if_pos hT0, if_pos hq]; rfl)
  have hT0 : orI (x.tests.map Ts.check) = 0 := by rw [hp, List.drop_eq_nil_of_le (by omega)]; rfl
  have hq33 : ¬ x.head.by_.k = 3 := by assumption
  have hck2 : x.check = orI [if (varsOf (x.head.terms ++ x.testTerms)).any (fun t => !decide (t ∈ x.bodyTerms)) then 34 else 0, if misnum (varsOf x.terms) 0 then 35 else 0] := by rw [hck, orI_two, if_pos hA0, orI_two, if_pos hT0, if_neg hq33]; rfl
  clear hp hk
  (refine s_call rfl rfl H HA (ref03_bodyTerms x _ _ Lk hfb) ?_; intro vx c H HA)
  (obtain ⟨vb, rfl⟩ : ∃ x, x = vx := ⟨_, rfl⟩)
  (refine Z2 ?_; apply w_nil; apply wx_next; apply wc_seq)
  (refine dw_start H HA ?_)
  (repeat (refine Dc ?_))
  (apply dw_cons; (focus ((intro B _ Lx c H HA; (repeat (first | (intro vx hx; have hx2 : vx = _ := hx; clear hx; subst hx2) | (intro vx hx; have HA := HA.addSF hx; clear hx) | (intro vx hx; have HA := HA.add hx; clear hx) | intro vx)); change W _ _ _ _ _ _ _); refine s_callRD rfl rfl H HA (ref03_atomTermsO x.head _ _ Lk (by omega)) ?_; intro vx c H HA; exact w_nil (pq_row H (Cu)))); exact inferInstance)
  (repeat (refine Dc ?_))
  (apply dw_cons; (focus ((intro B _ Lx c H HA; (repeat (first | (intro vx hx; have hx2 : vx = _ := hx; clear hx; subst hx2) | (intro vx hx; have HA := HA.addSF hx; clear hx) | (intro vx hx; have HA := HA.add hx; clear hx) | intro vx)); change W _ _ _ _ _ _ _); refine s_call rfl rfl H HA (ref03_testTerms x _ _ Lk hft) ?_; intro vx c H HP; exact w_nil (pq_rel H (Cp) HP.h.1))); exact inferInstance)
  ((refine dw_doneO mixed H HA (by kernel_rfl) (by kernel_rfl) ?_; clear H HA; intro c HA; (repeat (first | (intro bx; have hbx : bx + 0 = bx := rfl; clear hbx) | (intro vx hx; have hx2 : vx = _ := hx; clear hx; subst hx2) | (intro vx hx; have HA := HA.addSF hx; clear hx) | (intro vx hx; skip; have HA := HA.add hx; clear hx) | (intro vx; have hvx2 : Go.Value := vx; clear hvx2))); (first | intro H | (have H := HA.h.1; have HA := HA.cut)); change W _ _ _ _ _ _ _); have H : Owns _ ([.row _ _ _ _ _]) _ := H)
  have HA := HA.add (vals_map (P := Tryz.prog) (e := 23) x.head.terms _)
  (refine Z59 fun vx c valsx H HA => ?_; refine Z2 ?_; apply w_nil; apply wx_next; apply wc_seq; apply wc_region; refine Z0 ?_)
  (refine w_freezeRow H HA Lk rfl rfl Lt ?_; intro c H HA)
  (skip)
  (refine s_call rfl rfl H HA (ref03_variables (x.head.terms ++ x.testTerms) _ _ Lk) ?_; intro vx c H HA)
  (obtain ⟨vn, rfl⟩ : ∃ x, x = vx := ⟨_, rfl⟩)
  (refine Z2 ?_; apply w_nil; apply wx_next; apply wc_seq; apply wc_seq; apply wc_region; refine Z2 ?_; apply w_nil; apply wx_next; apply wc_block)
  have hvl := varsOf_len (x.head.terms ++ x.testTerms)
  simp only [List.length_append] at hvl
  refine wc_loopN (varsOf (x.head.terms ++ x.testTerms)).length (fun k => [(1, p), (8, vb), (10, vn), (11, .int .i64 k)]) (fun k => (varsOf (x.head.terms ++ x.testTerms)).any (fun t => !decide (t ∈ x.bodyTerms)) = ((varsOf (x.head.terms ++ x.testTerms)).drop k).any (fun t => !decide (t ∈ x.bodyTerms))) 0 H HA Ks (Nat.zero_le _) rfl ?_
  intro k g c hk hp H HA
  (focus (apply wc_seq; apply wc_seq; apply wc_region; refine Z0 ?_; refine Z0 ?_; refine Z45 ?_; refine Z93 (fun hq => ?_) fun hq => ?_; apply w_nil; apply wx_next; refine Z18 ?_; apply wc_skip; apply wx_next; apply wc_seq; apply wc_block; apply wc_seq; apply wc_region; refine Z0 ?_; refine Z0 ?_; refine Z0 ?_; rotate_left; apply w_nil; apply wx_next; refine Z19 ?_; apply wc_exit; apply wx_exit_then; apply wx_exit_then; apply wx_exit_same; apply wx_next; apply wc_seq; apply wc_region; refine Z39 HA fun vx HA => ?_; rotate_left))
  · obtain ⟨t, ht⟩ := getq (xs := varsOf (x.head.terms ++ x.testTerms)) (k := k) (by omega)
    (refine Z34 HA fun vx HA => ?_; refine Z38 ?_)
    (refine s_call rfl rfl H HA (ref03_within x.bodyTerms _ t _ Lk) ?_; intro vx c H HP; have hvx := HP.h.1; have HA := HP.cut; subst hvx)
    by_cases hin : t ∈ x.bodyTerms
    · rw [show decide (t ∈ x.bodyTerms) = true by simpa using hin]
      (refine Z33 ?_; apply w_nil; apply wx_next; refine Z19 ?_; apply wc_skip; apply wx_norm_block; apply wx_next; apply wc_region; refine Z0 ?_; refine Z46 ?_; refine Z2 ?_; apply w_nil)
      exact wx_loopN (k + 1) H Cu Ks (by omega) (by rw [hp, drop_get ht]; simp [hin])
    · rw [show decide (t ∈ x.bodyTerms) = false by simpa using hin]
      (refine Z33 ?_; apply w_nil; apply wx_next; refine Z18 ?_; apply wc_seq; apply wc_region; refine Z2 ?_; apply w_nil; apply wx_next; apply wc_ret; apply wx_ret_block; apply wx_ret_then; apply wx_ret_then; apply wx_ret_block; apply wx_ret_then)
      exact ret_fn H hm (outs1 Tryz.results30 Wh) (by rw [hck2, hp, drop_get ht]; simp [hin, orI])
  have hsafe : (varsOf (x.head.terms ++ x.testTerms)).any (fun t => !decide (t ∈ x.bodyTerms)) = false := by rw [hp, List.drop_eq_nil_of_le (by omega)]; rfl
  have hck3 : x.check = if misnum (varsOf x.terms) 0 then 35 else 0 := by rw [hck2, hsafe]; simp [orI]
  clear hp hk
  (refine s_call rfl rfl H HA (ref03_Terms x _ _ Lk hf2) ?_; intro vx c H HA)
  (skip)
  (refine s_call rfl rfl H HA (ref03_variables x.terms _ _ Lk) ?_; intro vx c H HA)
  (obtain ⟨vn2, rfl⟩ : ∃ x, x = vx := ⟨_, rfl⟩)
  (refine Z2 ?_; apply w_nil; apply wx_next; apply wc_seq; apply wc_seq; apply wc_region; refine Z2 ?_; apply w_nil; apply wx_next; apply wc_block)
  have hvl := varsOf_len x.terms
  refine wc_loopN (varsOf x.terms).length (fun k => [(12, vn2), (13, .int .i64 k)]) (fun k => misnum (varsOf x.terms) 0 = misnum ((varsOf x.terms).drop k) k) 0 H HA Ks (Nat.zero_le _) rfl ?_
  intro k g c hk hp H HA
  (focus (apply wc_seq; apply wc_seq; apply wc_region; refine Z0 ?_; refine Z0 ?_; refine Z45 ?_; refine Z93 (fun hq => ?_) fun hq => ?_; apply w_nil; apply wx_next; refine Z18 ?_; apply wc_skip; apply wx_next; apply wc_seq; apply wc_block; apply wc_seq; apply wc_region; refine Z0 ?_; refine Z0 ?_; rotate_left; apply w_nil; apply wx_next; refine Z19 ?_; apply wc_exit; apply wx_exit_then; apply wx_exit_then; apply wx_exit_same; apply wx_next; apply wc_seq; apply wc_region; refine Z2 ?_; apply w_nil; apply wx_next; apply wc_ret; rotate_left))
  · obtain ⟨t, ht⟩ := getq (xs := varsOf x.terms) (k := k) (by omega)
    (focus (refine Z34 HA fun vx HA => ?_; refine Z35 HA fun vx HA => ?_; refine Z36 ?_; refine Z0 ?_; refine Z94 (fun hq => ?_) fun hq => ?_; apply w_nil; apply wx_next; refine Z18 ?_; apply wc_seq; apply wc_region; refine Z2 ?_; apply w_nil; apply wx_next; apply wc_ret; apply wx_ret_block; apply wx_ret_then; apply wx_ret_then; apply wx_ret_block; apply wx_ret_then; rotate_left; apply w_nil; apply wx_next; refine Z19 ?_; apply wc_skip; apply wx_norm_block; apply wx_next; apply wc_region; refine Z0 ?_; refine Z46 ?_; refine Z2 ?_; apply w_nil; rotate_left))
    · exact ret_fn H hm (outs1 Tryz.results30 Wh) (by rw [hck3, hp, drop_get ht]; simp [misnum]; intros; omega)
    · exact wx_loopN (k + 1) H Cu Ks (by omega) (by rw [hp, drop_get ht]; simp [misnum, *])
  · exact ret_fn H hm (outs1 Tryz.results30 Wh) (by rw [hck3, hp, List.drop_eq_nil_of_le (by omega)]; rfl)
end Go.Proofs.YthkdggoohpgnnaaGreatDoor
/- Contracts: clauses compared, the set of clauses, of the document's answer. -/
namespace Go.Wk
open Go
section
variable {P : Program} {ops : Array Oper} {Q : Exit → Act → World → Prop} {n : Nat} {f : Nat → Value} {rest : List Oper} {ty : TypeId} {ps : String} {af : Array Edge} {d : Tmp} {w : World}
theorem s_half {T T' : TypeId} {x y : Operand} {m : Nat} (hn : Nat.blt d n = true) (hx : opd f x = .int .i64 m) (hy : opd f y = .int .i64 2) (hm : m < 4611686018427387904) (k : W P ops Q rest n (upd f d (.int .i64 ((m / 2 : Nat) : Int))) w) : W P ops Q (⟨some d, .binOp .quo T x y T', ty, ps, af, none⟩ :: rest) n f w := by
  have e : (m : Int).tdiv 2 = ((m / 2 : Nat) : Int) := by rw [Int.tdiv_eq_ediv_of_nonneg (by omega)]; omega
  refine st_val hn ?_ k
  simp [execOp, hx, hy, eqGuard_at_int, binOp_quo, Op.intDiv, e]
  exact wrapI (by omega) (by omega)
end
end Go.Wk
namespace Go.Proofs.YthkdggoohpgnnaaGreatDoor
open Go Go.Wk
theorem ref03_compareTests (a b : Ts) (c : Cx) (hl : a.l.sm) (hr : a.r.sm) : Cn Tryz.prog 81 [.agg a.cs.toArray, .agg b.cs.toArray] c (fun v _ => v = .int .i64 (cmpTs a b)) := by
  refine Cn.of Tryz.func81 Tryz.ntmps81 rfl rfl fun hm H HA => ?_
  (apply wc_seq; apply wc_region; refine Z31 fun bx c H HA => ?_; refine Z31 fun bx c H HA => ?_; refine Z2 ?_; apply w_nil; apply wx_next; apply wc_seq; apply wc_region; refine Z3 ?_; refine Z1 ?_; refine Z3 ?_; refine Z1 ?_)
  (refine s_call rfl rfl H HA (ref03_number a.op b.op _) ?_; intro vx c H HP; have hvx := HP.h.1; have HA := HP.cut; subst hvx)
  by_cases h1 : cmpI a.op b.op = 0
  · (refine Z2 ?_; apply w_nil; apply wx_next; apply wc_seq; apply wc_seq; apply wc_region; refine Z0 ?_; refine Z80 ?_; apply w_nil; apply wx_next; refine Z18 ?_; apply wc_region; refine Z3 ?_; refine Z7 ?_; refine Z3 ?_; refine Z7 ?_)
    (refine s_call rfl rfl H HA (ref02_Compare a.l b.l _ hl) ?_; intro vx c H HP; have hvx := HP.h.1; have HA := HP.cut; subst hvx)
    by_cases h2 : cmpTm a.l b.l = 0
    · (refine Z2 ?_; apply w_nil; apply wx_next; apply wc_seq; apply wc_seq; apply wc_region; refine Z0 ?_; refine Z80 ?_; apply w_nil; apply wx_next; refine Z18 ?_; apply wc_region; refine Z3 ?_; refine Z7 ?_; refine Z3 ?_; refine Z7 ?_)
      (refine s_call rfl rfl H HA (ref02_Compare a.r b.r _ hr) ?_; intro vx c H HP; have hvx := HP.h.1; have HA := HP.cut; subst hvx)
      (refine Z2 ?_; apply w_nil; apply wx_next; apply wc_seq; apply wc_region; refine Z0 ?_; refine Z2 ?_; apply w_nil; apply wx_next; apply wc_ret)
      exact ret_fn H hm (outs1 Tryz.results81 Wh) (by rw [cmpTs, if_pos h1, if_pos h2])
    · (refine Z2 ?_; apply w_nil; apply wx_next; apply wc_seq; apply wc_seq; apply wc_region; refine Z0 ?_; refine Z80 ?_; apply w_nil; apply wx_next; refine Z19 ?_; apply wc_skip; apply wx_next; apply wc_seq; apply wc_region; refine Z0 ?_; refine Z2 ?_; apply w_nil; apply wx_next; apply wc_ret)
      exact ret_fn H hm (outs1 Tryz.results81 Wh) (by rw [cmpTs, if_pos h1, if_neg h2])
  · (refine Z2 ?_; apply w_nil; apply wx_next; apply wc_seq; apply wc_seq; apply wc_region; refine Z0 ?_; refine Z80 ?_; apply w_nil; apply wx_next; refine Z19 ?_; apply wc_skip; apply wx_next; apply wc_seq; apply wc_seq; apply wc_region; refine Z0 ?_; refine Z80 ?_; apply w_nil; apply wx_next; refine Z19 ?_; apply wc_skip; apply wx_next; apply wc_seq; apply wc_region; refine Z0 ?_; refine Z2 ?_; apply w_nil; apply wx_next; apply wc_ret)
    exact ret_fn H hm (outs1 Tryz.results81 Wh) (by rw [cmpTs, if_neg h1])
theorem ref03_Compare (a b : Cl) (u1 u2 : Value) (c : Cx) (h1 : Ag a u1 c) (h2 : Ag b u2 c) (hs : a.sm) : Cn Tryz.prog 32 [u1, u2] c (fun v _ => v = .int .i64 (cmpCl a b)) := by
  refine Cn.of Tryz.func32 Tryz.ntmps32 rfl rfl fun hm H HA => ?_
  have hlb : a.body.length < 1099511627776 := by obtain ⟨cs, rfl, v, v1, v2, rfl, h⟩ := h1; exact h.2.1.lim
  have hlt : a.tests.length < 1099511627776 := by obtain ⟨cs, rfl, v, v1, v2, rfl, h⟩ := h1; exact h.2.2.lim
  have HA := (HA.add h1).add h2
  have hst := cmpCl_stage a b
  (apply wc_seq; apply wc_region)
  (refine s_boxG rfl rfl Lk H HA ?_; intro p c H HA)
  (refine s_boxG rfl rfl Lk H HA ?_; intro q c H HA)
  (refine Z2 ?_; apply w_nil; apply wx_next; apply wc_seq; apply wc_region; refine Z35 HA fun vx HA => ?_; refine Z39 HA fun vx HA => ?_; refine Z35 HA fun vx HA => ?_; refine Z39 HA fun vx HA => ?_)
  (refine s_call rfl rfl H HA (ref02_CompareAtoms a.head b.head _ _ _ Lk Lk hs.1) ?_; intro vx c H HP; have hvx := HP.h.1; have HA := HP.cut; subst hvx)
  generalize hh : cmpAt a.head b.head = h0 at hst ⊢
  by_cases hh0 : h0 = 0
  · (refine Z2 ?_; apply w_nil; apply wx_next; apply wc_seq; apply wc_seq; apply wc_region; refine Z0 ?_; refine Z80 ?_; apply w_nil; apply wx_next; refine Z18 ?_; apply wc_region; refine Z35 HA fun vx HA => ?_; refine Z37 HA fun vx HA => ?_; refine Z45 ?_; refine Z35 HA fun vx HA => ?_; refine Z37 HA fun vx HA => ?_; refine Z45 ?_)
    (refine s_call rfl rfl H HA (ref03_number a.body.length b.body.length _) ?_; intro vx c H HP; have hvx := HP.h.1; have HA := HP.cut; subst hvx)
    generalize hX : cmpI a.body.length b.body.length = X at hst ⊢
    have hX1 : X = 0 → a.body.length = b.body.length := fun e => by rw [e] at hX; exact cmpI_nat0.1 hX
    have hC : cmpCl a b = let y3 := if (if X = 0 then lexL cmpAt a.body b.body else X) = 0 then cmpI a.tests.length b.tests.length else (if X = 0 then lexL cmpAt a.body b.body else X); if y3 = 0 then lexL cmpTs a.tests b.tests else y3 := by rw [hst, hh0]; rfl
    (refine Z2 ?_; apply w_nil; apply wx_next; apply wc_seq; apply wc_seq; apply wc_region; refine Z2 ?_; apply w_nil; apply wx_next; apply wc_block)
    refine wc_loopM (σ := Nat × Int) (fun s => a.body.length - s.1) (fun s => [(2, p), (3, q), (5, .int .i64 s.2), (6, .int .i64 s.1)]) (fun s => s.1 ≤ a.body.length ∧ (s.2 = 0 → a.body.length = b.body.length) ∧ (if X = 0 then lexL cmpAt a.body b.body else X) = if s.2 = 0 then lexL cmpAt (a.body.drop s.1) (b.body.drop s.1) else s.2) (0, X) H HA Ks ⟨Nat.zero_le _, hX1, rfl⟩ ?_
    intro s g c hp H HA
    obtain ⟨k, cur⟩ := s
    obtain ⟨hk, hl, hc⟩ := hp
    dsimp only at hk hl hc ⊢
    by_cases h0 : cur = 0
    · have hl := hl h0
      rw [if_pos h0] at hc
      (focus (apply wc_seq; apply wc_seq; apply wc_region; refine Z0 ?_; refine Z80 ?_; refine Z0 ?_; refine Z4 ?_; refine Z0 ?_; refine Z4 ?_; refine Z35 HA fun vx HA => ?_; refine Z4 ?_; refine Z37 HA fun vx HA => ?_; refine Z4 ?_; refine Z45 ?_; refine Z4 ?_; refine Z93 (fun hq => ?_) fun hq => ?_; refine Z8 ?_; apply w_nil; apply wx_next; refine Z18 ?_; apply wc_skip; apply wx_next; apply wc_seq; apply wc_block; rotate_left; refine Z8 ?_; apply w_nil; apply wx_next; refine Z19 ?_; apply wc_exit; apply wx_exit_then; apply wx_exit_then; apply wx_exit_same; apply wx_next; apply wc_seq; apply wc_seq; apply wc_region; refine Z0 ?_; refine Z80 ?_; apply w_nil; apply wx_next; refine Z18 ?_; apply wc_region; refine Z35 HA fun vx HA => ?_; refine Z37 HA fun vx HA => ?_; refine Z45 ?_; refine Z35 HA fun vx HA => ?_; refine Z37 HA fun vx HA => ?_; refine Z45 ?_; rotate_left))
      · obtain ⟨t, ht⟩ := getq (xs := a.body) (k := k) (by omega)
        obtain ⟨t', ht'⟩ := getq (xs := b.body) (k := k) (by omega)
        (refine dw_start H HA ?_)
        (repeat (refine Dc ?_))
        (apply dw_cons; (focus ((intro B _ Lx c H HA; (repeat (first | (intro vx hx; have hx2 : vx = _ := hx; clear hx; subst hx2) | (intro vx hx; have HA := HA.addSF hx; clear hx) | (intro vx hx; have HA := HA.add hx; clear hx) | intro vx)); change W _ _ _ _ _ _ _); (refine s_call rfl rfl H HA (ref02_CompareAtoms t t' _ _ _ Lk Lk (hs.2.1 t (List.mem_of_getElem? ht))) ?_; intro vx c H HP; have hvx := HP.h.1; have HA := HP.cut; subst hvx); exact Dx)); exact inferInstance)
        (repeat (refine Dc ?_))
        (refine dw_done mixed H HA rfl (by kernel_rfl) ?_; clear H HA; intro c H HA; (repeat (first | (intro vx hx; have hx2 : vx = _ := hx; clear hx; subst hx2) | (intro vx hx; have HA := HA.addSF hx; clear hx) | (intro vx hx; have HA := HA.add hx; clear hx) | intro vx)); change W _ _ _ _ _ _ _)
        (apply w_nil; apply wx_norm_block; apply wx_next; apply wc_region; refine Z0 ?_; refine Z46 ?_; refine Z2 ?_; apply w_nil)
        exact wx_loopM ((k + 1, cmpAt t t')) H Cu Ks (by simp; omega) ⟨by simp; omega, fun _ => hl, by rw [hc, lexL_get ht ht']⟩
      · have hY : cmpCl a b = let y3 := if cur = 0 then cmpI a.tests.length b.tests.length else cur; if y3 = 0 then lexL cmpTs a.tests b.tests else y3 := by
          rw [hC, hc, List.drop_eq_nil_of_le (by omega), List.drop_eq_nil_of_le (by omega), h0]; rfl
        (refine s_call rfl rfl H HA (ref03_number a.tests.length b.tests.length _) ?_; intro vx c H HP; have hvx := HP.h.1; have HA := HP.cut; subst hvx)
        generalize hZ : cmpI a.tests.length b.tests.length = Z
        have hZ1 : Z = 0 → a.tests.length = b.tests.length := fun e => by rw [e] at hZ; exact cmpI_nat0.1 hZ
        have hZ2 : cmpCl a b = if Z = 0 then lexL cmpTs a.tests b.tests else Z := by rw [hY, h0, hZ]; rfl
        (refine Z2 ?_; apply w_nil; apply wx_next; apply wc_seq; apply wc_seq; apply wc_region; refine Z2 ?_; apply w_nil; apply wx_next; apply wc_block)
        refine wc_loopM (σ := Nat × Int) (fun s => a.tests.length - s.1) (fun s => [(2, p), (3, q), (5, .int .i64 s.2), (7, .int .i64 s.1)]) (fun s => s.1 ≤ a.tests.length ∧ (s.2 = 0 → a.tests.length = b.tests.length) ∧ cmpCl a b = if s.2 = 0 then lexL cmpTs (a.tests.drop s.1) (b.tests.drop s.1) else s.2) (0, Z) H HA Ks ⟨Nat.zero_le _, hZ1, by simpa using hZ2⟩ ?_
        intro s g c hp H HA
        obtain ⟨k, cur⟩ := s
        obtain ⟨hk, hl, hc⟩ := hp
        dsimp only at hk hl hc ⊢
        by_cases h0 : cur = 0
        · have hl := hl h0
          rw [if_pos h0] at hc
          (focus (apply wc_seq; apply wc_seq; apply wc_region; refine Z0 ?_; refine Z80 ?_; refine Z0 ?_; refine Z4 ?_; refine Z0 ?_; refine Z4 ?_; refine Z35 HA fun vx HA => ?_; refine Z4 ?_; refine Z37 HA fun vx HA => ?_; refine Z4 ?_; refine Z45 ?_; refine Z4 ?_; refine Z93 (fun hq => ?_) fun hq => ?_; refine Z8 ?_; apply w_nil; apply wx_next; refine Z18 ?_; apply wc_skip; apply wx_next; apply wc_seq; apply wc_block; rotate_left; refine Z8 ?_; apply w_nil; apply wx_next; refine Z19 ?_; apply wc_exit; apply wx_exit_then; apply wx_exit_then; apply wx_exit_same; apply wx_next; apply wc_seq; apply wc_region; refine Z0 ?_; refine Z2 ?_; apply w_nil; apply wx_next; apply wc_ret; rotate_left))
          · obtain ⟨t, ht⟩ := getq (xs := a.tests) (k := k) (by omega)
            obtain ⟨t', ht'⟩ := getq (xs := b.tests) (k := k) (by omega)
            have hts := hs.2.2 t (List.mem_of_getElem? ht)
            (refine dw_start H HA ?_)
            (repeat (refine Dc ?_))
            (apply dw_cons; (focus ((intro B _ Lx c H HA; (repeat (first | (intro vx hx; have hx2 : vx = _ := hx; clear hx; subst hx2) | (intro vx hx; have HA := HA.addSF hx; clear hx) | (intro vx hx; have HA := HA.add hx; clear hx) | intro vx)); change W _ _ _ _ _ _ _); (refine s_call rfl rfl H HA (ref03_compareTests t t' _ hts.1 hts.2) ?_; intro vx c H HP; have hvx := HP.h.1; have HA := HP.cut; subst hvx); exact Dx)); exact inferInstance)
            (repeat (refine Dc ?_))
            (refine dw_done mixed H HA rfl (by kernel_rfl) ?_; clear H HA; intro c H HA; (repeat (first | (intro vx hx; have hx2 : vx = _ := hx; clear hx; subst hx2) | (intro vx hx; have HA := HA.addSF hx; clear hx) | (intro vx hx; have HA := HA.add hx; clear hx) | intro vx)); change W _ _ _ _ _ _ _)
            (apply w_nil; apply wx_norm_block; apply wx_next; apply wc_region; refine Z0 ?_; refine Z46 ?_; refine Z2 ?_; apply w_nil)
            exact wx_loopM ((k + 1, cmpTs t t')) H Cu Ks (by simp; omega) ⟨by simp; omega, fun _ => hl, by rw [hc, lexL_get ht ht']⟩
          · exact ret_fn H hm (outs1 Tryz.results32 Wh) (by rw [hc, h0, List.drop_eq_nil_of_le (by omega), List.drop_eq_nil_of_le (by omega)]; rfl)
        · rw [if_neg h0] at hc
          (apply wc_seq; apply wc_seq; apply wc_region; refine Z0 ?_; refine Z80 ?_; refine Z0 ?_; refine Z5 ?_; refine Z5 ?_; refine Z5 ?_; refine Z5 ?_; refine Z5 ?_; refine Z30 ?_; apply w_nil; apply wx_next; refine Z19 ?_; apply wc_exit; apply wx_exit_then; apply wx_exit_then; apply wx_exit_same; apply wx_next; apply wc_seq; apply wc_region; refine Z0 ?_; refine Z2 ?_; apply w_nil; apply wx_next; apply wc_ret)
          exact ret_fn H hm (outs1 Tryz.results32 Wh) (by rw [hc])
    · rw [if_neg h0] at hc
      have hZ1 : cur = 0 → a.tests.length = b.tests.length := fun e => absurd e h0
      have hZ2 : cmpCl a b = if cur = 0 then lexL cmpTs a.tests b.tests else cur := by rw [hC, hc]; simp [h0]
      (apply wc_seq; apply wc_seq; apply wc_region; refine Z0 ?_; refine Z80 ?_; refine Z0 ?_; refine Z5 ?_; refine Z5 ?_; refine Z5 ?_; refine Z5 ?_; refine Z5 ?_; refine Z30 ?_; apply w_nil; apply wx_next; refine Z19 ?_; apply wc_exit; apply wx_exit_then; apply wx_exit_then; apply wx_exit_same; apply wx_next; apply wc_seq; apply wc_seq; apply wc_region; refine Z0 ?_; refine Z80 ?_; apply w_nil; apply wx_next; refine Z19 ?_; apply wc_skip; apply wx_next; apply wc_seq; apply wc_seq; apply wc_region; refine Z2 ?_; apply w_nil; apply wx_next; apply wc_block)
      (obtain ⟨Z, rfl⟩ : ∃ x, x = cur := ⟨_, rfl⟩)
      refine wc_loopM (σ := Nat × Int) (fun s => a.tests.length - s.1) (fun s => [(2, p), (3, q), (5, .int .i64 s.2), (7, .int .i64 s.1)]) (fun s => s.1 ≤ a.tests.length ∧ (s.2 = 0 → a.tests.length = b.tests.length) ∧ cmpCl a b = if s.2 = 0 then lexL cmpTs (a.tests.drop s.1) (b.tests.drop s.1) else s.2) (0, Z) H HA Ks ⟨Nat.zero_le _, hZ1, by simpa using hZ2⟩ ?_
      intro s g c hp H HA
      obtain ⟨k, cur⟩ := s
      obtain ⟨hk, hl, hc⟩ := hp
      dsimp only at hk hl hc ⊢
      by_cases h0 : cur = 0
      · have hl := hl h0
        rw [if_pos h0] at hc
        (focus (apply wc_seq; apply wc_seq; apply wc_region; refine Z0 ?_; refine Z80 ?_; refine Z0 ?_; refine Z4 ?_; refine Z0 ?_; refine Z4 ?_; refine Z35 HA fun vx HA => ?_; refine Z4 ?_; refine Z37 HA fun vx HA => ?_; refine Z4 ?_; refine Z45 ?_; refine Z4 ?_; refine Z93 (fun hq => ?_) fun hq => ?_; refine Z8 ?_; apply w_nil; apply wx_next; refine Z18 ?_; apply wc_skip; apply wx_next; apply wc_seq; apply wc_block; rotate_left; refine Z8 ?_; apply w_nil; apply wx_next; refine Z19 ?_; apply wc_exit; apply wx_exit_then; apply wx_exit_then; apply wx_exit_same; apply wx_next; apply wc_seq; apply wc_region; refine Z0 ?_; refine Z2 ?_; apply w_nil; apply wx_next; apply wc_ret; rotate_left))
        · obtain ⟨t, ht⟩ := getq (xs := a.tests) (k := k) (by omega)
          obtain ⟨t', ht'⟩ := getq (xs := b.tests) (k := k) (by omega)
          have hts := hs.2.2 t (List.mem_of_getElem? ht)
          (refine dw_start H HA ?_)
          (repeat (refine Dc ?_))
          (apply dw_cons; (focus ((intro B _ Lx c H HA; (repeat (first | (intro vx hx; have hx2 : vx = _ := hx; clear hx; subst hx2) | (intro vx hx; have HA := HA.addSF hx; clear hx) | (intro vx hx; have HA := HA.add hx; clear hx) | intro vx)); change W _ _ _ _ _ _ _); (refine s_call rfl rfl H HA (ref03_compareTests t t' _ hts.1 hts.2) ?_; intro vx c H HP; have hvx := HP.h.1; have HA := HP.cut; subst hvx); exact Dx)); exact inferInstance)
          (repeat (refine Dc ?_))
          (refine dw_done mixed H HA rfl (by kernel_rfl) ?_; clear H HA; intro c H HA; (repeat (first | (intro vx hx; have hx2 : vx = _ := hx; clear hx; subst hx2) | (intro vx hx; have HA := HA.addSF hx; clear hx) | (intro vx hx; have HA := HA.add hx; clear hx) | intro vx)); change W _ _ _ _ _ _ _)
          (apply w_nil; apply wx_norm_block; apply wx_next; apply wc_region; refine Z0 ?_; refine Z46 ?_; refine Z2 ?_; apply w_nil)
          exact wx_loopM ((k + 1, cmpTs t t')) H Cu Ks (by simp; omega) ⟨by simp; omega, fun _ => hl, by rw [hc, lexL_get ht ht']⟩
        · exact ret_fn H hm (outs1 Tryz.results32 Wh) (by rw [hc, h0, List.drop_eq_nil_of_le (by omega), List.drop_eq_nil_of_le (by omega)]; rfl)
      · rw [if_neg h0] at hc
        (apply wc_seq; apply wc_seq; apply wc_region; refine Z0 ?_; refine Z80 ?_; refine Z0 ?_; refine Z5 ?_; refine Z5 ?_; refine Z5 ?_; refine Z5 ?_; refine Z5 ?_; refine Z30 ?_; apply w_nil; apply wx_next; refine Z19 ?_; apply wc_exit; apply wx_exit_then; apply wx_exit_then; apply wx_exit_same; apply wx_next; apply wc_seq; apply wc_region; refine Z0 ?_; refine Z2 ?_; apply w_nil; apply wx_next; apply wc_ret)
        exact ret_fn H hm (outs1 Tryz.results32 Wh) (by rw [hc])
  · have hX1 : h0 = 0 → a.body.length = b.body.length := fun e => absurd e hh0
    have hC : cmpCl a b = let y3 := if (if h0 = 0 then lexL cmpAt a.body b.body else h0) = 0 then cmpI a.tests.length b.tests.length else (if h0 = 0 then lexL cmpAt a.body b.body else h0); if y3 = 0 then lexL cmpTs a.tests b.tests else y3 := by rw [hst]; simp [hh0]
    (obtain ⟨X, rfl⟩ : ∃ x, x = h0 := ⟨_, rfl⟩)
    (refine Z2 ?_; apply w_nil; apply wx_next; apply wc_seq; apply wc_seq; apply wc_region; refine Z0 ?_; refine Z80 ?_; apply w_nil; apply wx_next; refine Z19 ?_; apply wc_skip; apply wx_next; apply wc_seq; apply wc_seq; apply wc_region; refine Z2 ?_; apply w_nil; apply wx_next; apply wc_block)
    refine wc_loopM (σ := Nat × Int) (fun s => a.body.length - s.1) (fun s => [(2, p), (3, q), (5, .int .i64 s.2), (6, .int .i64 s.1)]) (fun s => s.1 ≤ a.body.length ∧ (s.2 = 0 → a.body.length = b.body.length) ∧ (if X = 0 then lexL cmpAt a.body b.body else X) = if s.2 = 0 then lexL cmpAt (a.body.drop s.1) (b.body.drop s.1) else s.2) (0, X) H HA Ks ⟨Nat.zero_le _, hX1, rfl⟩ ?_
    intro s g c hp H HA
    obtain ⟨k, cur⟩ := s
    obtain ⟨hk, hl, hc⟩ := hp
    dsimp only at hk hl hc ⊢
    by_cases h0 : cur = 0
    · have hl := hl h0
      rw [if_pos h0] at hc
      (focus (apply wc_seq; apply wc_seq; apply wc_region; refine Z0 ?_; refine Z80 ?_; refine Z0 ?_; refine Z4 ?_; refine Z0 ?_; refine Z4 ?_; refine Z35 HA fun vx HA => ?_; refine Z4 ?_; refine Z37 HA fun vx HA => ?_; refine Z4 ?_; refine Z45 ?_; refine Z4 ?_; refine Z93 (fun hq => ?_) fun hq => ?_; refine Z8 ?_; apply w_nil; apply wx_next; refine Z18 ?_; apply wc_skip; apply wx_next; apply wc_seq; apply wc_block; rotate_left; refine Z8 ?_; apply w_nil; apply wx_next; refine Z19 ?_; apply wc_exit; apply wx_exit_then; apply wx_exit_then; apply wx_exit_same; apply wx_next; apply wc_seq; apply wc_seq; apply wc_region; refine Z0 ?_; refine Z80 ?_; apply w_nil; apply wx_next; refine Z18 ?_; apply wc_region; refine Z35 HA fun vx HA => ?_; refine Z37 HA fun vx HA => ?_; refine Z45 ?_; refine Z35 HA fun vx HA => ?_; refine Z37 HA fun vx HA => ?_; refine Z45 ?_; rotate_left))
      · obtain ⟨t, ht⟩ := getq (xs := a.body) (k := k) (by omega)
        obtain ⟨t', ht'⟩ := getq (xs := b.body) (k := k) (by omega)
        (refine dw_start H HA ?_)
        (repeat (refine Dc ?_))
        (apply dw_cons; (focus ((intro B _ Lx c H HA; (repeat (first | (intro vx hx; have hx2 : vx = _ := hx; clear hx; subst hx2) | (intro vx hx; have HA := HA.addSF hx; clear hx) | (intro vx hx; have HA := HA.add hx; clear hx) | intro vx)); change W _ _ _ _ _ _ _); (refine s_call rfl rfl H HA (ref02_CompareAtoms t t' _ _ _ Lk Lk (hs.2.1 t (List.mem_of_getElem? ht))) ?_; intro vx c H HP; have hvx := HP.h.1; have HA := HP.cut; subst hvx); exact Dx)); exact inferInstance)
        (repeat (refine Dc ?_))
        (refine dw_done mixed H HA rfl (by kernel_rfl) ?_; clear H HA; intro c H HA; (repeat (first | (intro vx hx; have hx2 : vx = _ := hx; clear hx; subst hx2) | (intro vx hx; have HA := HA.addSF hx; clear hx) | (intro vx hx; have HA := HA.add hx; clear hx) | intro vx)); change W _ _ _ _ _ _ _)
        (apply w_nil; apply wx_norm_block; apply wx_next; apply wc_region; refine Z0 ?_; refine Z46 ?_; refine Z2 ?_; apply w_nil)
        exact wx_loopM ((k + 1, cmpAt t t')) H Cu Ks (by simp; omega) ⟨by simp; omega, fun _ => hl, by rw [hc, lexL_get ht ht']⟩
      · have hY : cmpCl a b = let y3 := if cur = 0 then cmpI a.tests.length b.tests.length else cur; if y3 = 0 then lexL cmpTs a.tests b.tests else y3 := by
          rw [hC, hc, List.drop_eq_nil_of_le (by omega), List.drop_eq_nil_of_le (by omega), h0]; rfl
        (refine s_call rfl rfl H HA (ref03_number a.tests.length b.tests.length _) ?_; intro vx c H HP; have hvx := HP.h.1; have HA := HP.cut; subst hvx)
        generalize hZ : cmpI a.tests.length b.tests.length = Z
        have hZ1 : Z = 0 → a.tests.length = b.tests.length := fun e => by rw [e] at hZ; exact cmpI_nat0.1 hZ
        have hZ2 : cmpCl a b = if Z = 0 then lexL cmpTs a.tests b.tests else Z := by rw [hY, h0, hZ]; rfl
        (refine Z2 ?_; apply w_nil; apply wx_next; apply wc_seq; apply wc_seq; apply wc_region; refine Z2 ?_; apply w_nil; apply wx_next; apply wc_block)
        refine wc_loopM (σ := Nat × Int) (fun s => a.tests.length - s.1) (fun s => [(2, p), (3, q), (5, .int .i64 s.2), (7, .int .i64 s.1)]) (fun s => s.1 ≤ a.tests.length ∧ (s.2 = 0 → a.tests.length = b.tests.length) ∧ cmpCl a b = if s.2 = 0 then lexL cmpTs (a.tests.drop s.1) (b.tests.drop s.1) else s.2) (0, Z) H HA Ks ⟨Nat.zero_le _, hZ1, by simpa using hZ2⟩ ?_
        intro s g c hp H HA
        obtain ⟨k, cur⟩ := s
        obtain ⟨hk, hl, hc⟩ := hp
        dsimp only at hk hl hc ⊢
        by_cases h0 : cur = 0
        · have hl := hl h0
          rw [if_pos h0] at hc
          (focus (apply wc_seq; apply wc_seq; apply wc_region; refine Z0 ?_; refine Z80 ?_; refine Z0 ?_; refine Z4 ?_; refine Z0 ?_; refine Z4 ?_; refine Z35 HA fun vx HA => ?_; refine Z4 ?_; refine Z37 HA fun vx HA => ?_; refine Z4 ?_; refine Z45 ?_; refine Z4 ?_; refine Z93 (fun hq => ?_) fun hq => ?_; refine Z8 ?_; apply w_nil; apply wx_next; refine Z18 ?_; apply wc_skip; apply wx_next; apply wc_seq; apply wc_block; rotate_left; refine Z8 ?_; apply w_nil; apply wx_next; refine Z19 ?_; apply wc_exit; apply wx_exit_then; apply wx_exit_then; apply wx_exit_same; apply wx_next; apply wc_seq; apply wc_region; refine Z0 ?_; refine Z2 ?_; apply w_nil; apply wx_next; apply wc_ret; rotate_left))
          · obtain ⟨t, ht⟩ := getq (xs := a.tests) (k := k) (by omega)
            obtain ⟨t', ht'⟩ := getq (xs := b.tests) (k := k) (by omega)
            have hts := hs.2.2 t (List.mem_of_getElem? ht)
            (refine dw_start H HA ?_)
            (repeat (refine Dc ?_))
            (apply dw_cons; (focus ((intro B _ Lx c H HA; (repeat (first | (intro vx hx; have hx2 : vx = _ := hx; clear hx; subst hx2) | (intro vx hx; have HA := HA.addSF hx; clear hx) | (intro vx hx; have HA := HA.add hx; clear hx) | intro vx)); change W _ _ _ _ _ _ _); (refine s_call rfl rfl H HA (ref03_compareTests t t' _ hts.1 hts.2) ?_; intro vx c H HP; have hvx := HP.h.1; have HA := HP.cut; subst hvx); exact Dx)); exact inferInstance)
            (repeat (refine Dc ?_))
            (refine dw_done mixed H HA rfl (by kernel_rfl) ?_; clear H HA; intro c H HA; (repeat (first | (intro vx hx; have hx2 : vx = _ := hx; clear hx; subst hx2) | (intro vx hx; have HA := HA.addSF hx; clear hx) | (intro vx hx; have HA := HA.add hx; clear hx) | intro vx)); change W _ _ _ _ _ _ _)
            (apply w_nil; apply wx_norm_block; apply wx_next; apply wc_region; refine Z0 ?_; refine Z46 ?_; refine Z2 ?_; apply w_nil)
            exact wx_loopM ((k + 1, cmpTs t t')) H Cu Ks (by simp; omega) ⟨by simp; omega, fun _ => hl, by rw [hc, lexL_get ht ht']⟩
          · exact ret_fn H hm (outs1 Tryz.results32 Wh) (by rw [hc, h0, List.drop_eq_nil_of_le (by omega), List.drop_eq_nil_of_le (by omega)]; rfl)
        · rw [if_neg h0] at hc
          (apply wc_seq; apply wc_seq; apply wc_region; refine Z0 ?_; refine Z80 ?_; refine Z0 ?_; refine Z5 ?_; refine Z5 ?_; refine Z5 ?_; refine Z5 ?_; refine Z5 ?_; refine Z30 ?_; apply w_nil; apply wx_next; refine Z19 ?_; apply wc_exit; apply wx_exit_then; apply wx_exit_then; apply wx_exit_same; apply wx_next; apply wc_seq; apply wc_region; refine Z0 ?_; refine Z2 ?_; apply w_nil; apply wx_next; apply wc_ret)
          exact ret_fn H hm (outs1 Tryz.results32 Wh) (by rw [hc])
    · rw [if_neg h0] at hc
      have hZ1 : cur = 0 → a.tests.length = b.tests.length := fun e => absurd e h0
      have hZ2 : cmpCl a b = if cur = 0 then lexL cmpTs a.tests b.tests else cur := by rw [hC, hc]; simp [h0]
      (apply wc_seq; apply wc_seq; apply wc_region; refine Z0 ?_; refine Z80 ?_; refine Z0 ?_; refine Z5 ?_; refine Z5 ?_; refine Z5 ?_; refine Z5 ?_; refine Z5 ?_; refine Z30 ?_; apply w_nil; apply wx_next; refine Z19 ?_; apply wc_exit; apply wx_exit_then; apply wx_exit_then; apply wx_exit_same; apply wx_next; apply wc_seq; apply wc_seq; apply wc_region; refine Z0 ?_; refine Z80 ?_; apply w_nil; apply wx_next; refine Z19 ?_; apply wc_skip; apply wx_next; apply wc_seq; apply wc_seq; apply wc_region; refine Z2 ?_; apply w_nil; apply wx_next; apply wc_block)
      (obtain ⟨Z, rfl⟩ : ∃ x, x = cur := ⟨_, rfl⟩)
      refine wc_loopM (σ := Nat × Int) (fun s => a.tests.length - s.1) (fun s => [(2, p), (3, q), (5, .int .i64 s.2), (7, .int .i64 s.1)]) (fun s => s.1 ≤ a.tests.length ∧ (s.2 = 0 → a.tests.length = b.tests.length) ∧ cmpCl a b = if s.2 = 0 then lexL cmpTs (a.tests.drop s.1) (b.tests.drop s.1) else s.2) (0, Z) H HA Ks ⟨Nat.zero_le _, hZ1, by simpa using hZ2⟩ ?_
      intro s g c hp H HA
      obtain ⟨k, cur⟩ := s
      obtain ⟨hk, hl, hc⟩ := hp
      dsimp only at hk hl hc ⊢
      by_cases h0 : cur = 0
      · have hl := hl h0
        rw [if_pos h0] at hc
        (focus (apply wc_seq; apply wc_seq; apply wc_region; refine Z0 ?_; refine Z80 ?_; refine Z0 ?_; refine Z4 ?_; refine Z0 ?_; refine Z4 ?_; refine Z35 HA fun vx HA => ?_; refine Z4 ?_; refine Z37 HA fun vx HA => ?_; refine Z4 ?_; refine Z45 ?_; refine Z4 ?_; refine Z93 (fun hq => ?_) fun hq => ?_; refine Z8 ?_; apply w_nil; apply wx_next; refine Z18 ?_; apply wc_skip; apply wx_next; apply wc_seq; apply wc_block; rotate_left; refine Z8 ?_; apply w_nil; apply wx_next; refine Z19 ?_; apply wc_exit; apply wx_exit_then; apply wx_exit_then; apply wx_exit_same; apply wx_next; apply wc_seq; apply wc_region; refine Z0 ?_; refine Z2 ?_; apply w_nil; apply wx_next; apply wc_ret; rotate_left))
        · obtain ⟨t, ht⟩ := getq (xs := a.tests) (k := k) (by omega)
          obtain ⟨t', ht'⟩ := getq (xs := b.tests) (k := k) (by omega)
          have hts := hs.2.2 t (List.mem_of_getElem? ht)
          (refine dw_start H HA ?_)
          (repeat (refine Dc ?_))
          (apply dw_cons; (focus ((intro B _ Lx c H HA; (repeat (first | (intro vx hx; have hx2 : vx = _ := hx; clear hx; subst hx2) | (intro vx hx; have HA := HA.addSF hx; clear hx) | (intro vx hx; have HA := HA.add hx; clear hx) | intro vx)); change W _ _ _ _ _ _ _); (refine s_call rfl rfl H HA (ref03_compareTests t t' _ hts.1 hts.2) ?_; intro vx c H HP; have hvx := HP.h.1; have HA := HP.cut; subst hvx); exact Dx)); exact inferInstance)
          (repeat (refine Dc ?_))
          (refine dw_done mixed H HA rfl (by kernel_rfl) ?_; clear H HA; intro c H HA; (repeat (first | (intro vx hx; have hx2 : vx = _ := hx; clear hx; subst hx2) | (intro vx hx; have HA := HA.addSF hx; clear hx) | (intro vx hx; have HA := HA.add hx; clear hx) | intro vx)); change W _ _ _ _ _ _ _)
          (apply w_nil; apply wx_norm_block; apply wx_next; apply wc_region; refine Z0 ?_; refine Z46 ?_; refine Z2 ?_; apply w_nil)
          exact wx_loopM ((k + 1, cmpTs t t')) H Cu Ks (by simp; omega) ⟨by simp; omega, fun _ => hl, by rw [hc, lexL_get ht ht']⟩
        · exact ret_fn H hm (outs1 Tryz.results32 Wh) (by rw [hc, h0, List.drop_eq_nil_of_le (by omega), List.drop_eq_nil_of_le (by omega)]; rfl)
      · rw [if_neg h0] at hc
        (apply wc_seq; apply wc_seq; apply wc_region; refine Z0 ?_; refine Z80 ?_; refine Z0 ?_; refine Z5 ?_; refine Z5 ?_; refine Z5 ?_; refine Z5 ?_; refine Z5 ?_; refine Z30 ?_; apply w_nil; apply wx_next; refine Z19 ?_; apply wc_exit; apply wx_exit_then; apply wx_exit_then; apply wx_exit_same; apply wx_next; apply wc_seq; apply wc_region; refine Z0 ?_; refine Z2 ?_; apply w_nil; apply wx_next; apply wc_ret)
        exact ret_fn H hm (outs1 Tryz.results32 Wh) (by rw [hc])
end Go.Proofs.YthkdggoohpgnnaaGreatDoor
/- Contracts: the set of clauses, the first that is refused, of the document's answer. -/
namespace Go.Proofs.YthkdggoohpgnnaaGreatDoor
open Go Go.Wk
theorem ref10_Invalid (cs : List Cl) (v : Value) (c : Cx) (h : Sl v cs c) (hf : ∀ x ∈ cs, x.fit) : Cn Tryz.prog 58 [v] c (fun r _ => r = .int .i64 (firstBad cs)) := by
  refine Cn.of Tryz.func58 Tryz.ntmps58 rfl rfl fun hm H HA => ?_
  have hlim := h.lim
  have HA := HA.add h
  (apply wc_seq; apply wc_region; refine Z2 ?_; apply w_nil; apply wx_next; apply wc_seq; apply wc_seq; apply wc_region; refine Z2 ?_; apply w_nil; apply wx_next; apply wc_block)
  refine wc_loopN cs.length (fun k => [(0, v), (3, .int .i64 k)]) (fun k => firstBad cs = orI ((cs.drop k).map Cl.check)) 0 H HA Ks (Nat.zero_le _) rfl ?_
  intro k g c hk hp H HA
  (focus (apply wc_seq; apply wc_seq; apply wc_region; refine Z0 ?_; refine Z0 ?_; refine Z45 ?_; refine Z93 (fun hq => ?_) fun hq => ?_; apply w_nil; apply wx_next; refine Z18 ?_; apply wc_skip; apply wx_next; apply wc_seq; apply wc_block; apply wc_seq; apply wc_region; refine Z0 ?_; refine Z0 ?_; rotate_left; apply w_nil; apply wx_next; refine Z19 ?_; apply wc_exit; apply wx_exit_then; apply wx_exit_then; apply wx_exit_same; apply wx_next; apply wc_seq; apply wc_region; refine Z2 ?_; apply w_nil; apply wx_next; apply wc_ret; rotate_left))
  · obtain ⟨x, hx⟩ := getq (xs := cs) (k := k) (by omega)
    (refine Z34 HA fun vx HA => ?_; refine Z39 HA fun vx HA => ?_)
    (refine s_call rfl rfl H HA (ref03_Check x _ _ Lk (hf x (List.mem_of_getElem? hx))) ?_; intro vx c H HP; have hvx := HP.h.1; have HA := HP.cut; subst hvx)
    by_cases he : x.check = 0
    · (refine Z2 ?_; apply w_nil; apply wx_next; apply wc_seq; apply wc_region; refine Z0 ?_; refine Z82 ?_; apply w_nil; apply wx_next; refine Z19 ?_; apply wc_skip; apply wx_norm_block; apply wx_next; apply wc_region; refine Z0 ?_; refine Z46 ?_; refine Z2 ?_; apply w_nil)
      exact wx_loopN (k + 1) H Cu Ks (by omega) (by rw [hp, orI_get hx, if_pos he])
    · (refine Z2 ?_; apply w_nil; apply wx_next; apply wc_seq; apply wc_region; refine Z0 ?_; refine Z82 ?_; apply w_nil; apply wx_next; refine Z18 ?_; apply wc_seq; apply wc_region; refine Z0 ?_; refine Z2 ?_; apply w_nil; apply wx_next; apply wc_ret; apply wx_ret_block; apply wx_ret_then; apply wx_ret_then; apply wx_ret_block; apply wx_ret_then)
      exact ret_fn H hm (outs1 Tryz.results58 Wh) (by rw [hp, orI_get hx, if_neg he])
  · exact ret_fn H hm (outs1 Tryz.results58 Wh) (by rw [hp, List.drop_eq_nil_of_le (by omega)]; rfl)
theorem ref03_Set (n : Nat) : ∀ (cs : List Cl), cs.length ≤ n → ∀ (v : Value) (c : Cx), Sl v cs c → (∀ x ∈ cs, x.fit) → Cn Tryz.prog 57 [v] c (fun r c => Sl r (setU cmpCl cs) c) := by
  induction n with
  | zero =>
    intro cs hn v c h hf
    have hcs : cs = [] := List.eq_nil_of_length_eq_zero (by omega)
    subst hcs
    refine Cn.of Tryz.func57 Tryz.ntmps57 rfl rfl fun hm H HA => ?_
    have HA := HA.add h
    have h0 : (([] : List Cl).length : Int) = 0 := rfl
    (apply wc_seq; apply wc_region; refine Z2 ?_; apply w_nil; apply wx_next; apply wc_seq; apply wc_seq; apply wc_region; refine Z0 ?_; refine Z45 ?_; refine Z80 ?_; apply w_nil; apply wx_next; refine Z18 ?_; apply wc_seq; apply wc_region; refine Z2 ?_; apply w_nil; apply wx_next; apply wc_ret; apply wx_ret_then)
    exact ret_fn H hm (outs1 Tryz.results57 Wh) (Sl.nil _)
  | succ n ih =>
    intro cs hn v c h hf
    by_cases h0 : (cs.length : Int) = 0
    · have hcs : cs = [] := List.eq_nil_of_length_eq_zero (by omega)
      subst hcs
      refine Cn.of Tryz.func57 Tryz.ntmps57 rfl rfl fun hm H HA => ?_
      have HA := HA.add h
      (apply wc_seq; apply wc_region; refine Z2 ?_; apply w_nil; apply wx_next; apply wc_seq; apply wc_seq; apply wc_region; refine Z0 ?_; refine Z45 ?_; refine Z80 ?_; apply w_nil; apply wx_next; refine Z18 ?_; apply wc_seq; apply wc_region; refine Z2 ?_; apply w_nil; apply wx_next; apply wc_ret; apply wx_ret_then)
      exact ret_fn H hm (outs1 Tryz.results57 Wh) (Sl.nil _)
    by_cases h1 : (cs.length : Int) = 1
    · obtain ⟨x, rfl⟩ : ∃ x, cs = [x] := List.length_eq_one_iff.1 (by omega)
      refine Cn.of Tryz.func57 Tryz.ntmps57 rfl rfl fun hm H HA => ?_
      have HA := HA.add h
      have hfx := hf x (List.mem_cons_self ..)
      (apply wc_seq; apply wc_region; refine Z2 ?_; apply w_nil; apply wx_next; apply wc_seq; apply wc_seq; apply wc_region; refine Z0 ?_; refine Z45 ?_; refine Z80 ?_; apply w_nil; apply wx_next; refine Z19 ?_; apply wc_skip; apply wx_next; apply wc_seq; apply wc_seq; apply wc_region; refine Z0 ?_; refine Z45 ?_; refine Z80 ?_; apply w_nil; apply wx_next; refine Z18 ?_; apply wc_seq; apply wc_region; refine Z0 ?_)
      (refine s_ixP (α := Cl) (i := 0) rfl rfl rfl Lk rfl rfl rfl ?_; intro vx hx; have HA := HA.add hx; clear hx)
      (refine Z39 HA fun vx HA => ?_)
      (refine s_call rfl rfl H HA (ref03_Own x _ _ Lk hfx.2) ?_; intro vx c H HA)
      (refine Z55 fun vx c H HA => ?_; refine Z2 ?_; apply w_nil; apply wx_next; apply wc_ret; apply wx_ret_then)
      exact ret_fn H hm (outs1 Tryz.results57 Wh) Lk
    refine Cn.of Tryz.func57 Tryz.ntmps57 rfl rfl fun hm H HA => ?_
    have HA := HA.add h
    have hlim := h.lim
    (apply wc_seq; apply wc_region; refine Z2 ?_; apply w_nil; apply wx_next; apply wc_seq; apply wc_seq; apply wc_region; refine Z0 ?_; refine Z45 ?_; refine Z80 ?_; apply w_nil; apply wx_next; refine Z19 ?_; apply wc_skip; apply wx_next; apply wc_seq; apply wc_seq; apply wc_region; refine Z0 ?_; refine Z45 ?_; refine Z80 ?_; apply w_nil; apply wx_next; refine Z19 ?_; apply wc_skip; apply wx_next; apply wc_seq; apply wc_region; refine Z0 ?_; refine Z0 ?_; refine Z45 ?_)
    apply s_half rfl rfl rfl (by omega)
    (refine s_slL (α := Cl) (lo := 0) (hi := cs.length / 2) rfl rfl (.inr ⟨rfl, rfl⟩) (.inl rfl) Lk rfl (by omega) (by omega) ?_; intro vx hx; have HA := HA.add hx; clear hx)
    have e1 : ((cs.drop 0).take (cs.length / 2 - 0)) = cs.take (cs.length / 2) := by simp
    rw [e1] at HA
    (refine s_call rfl rfl H HA (ih (cs.take (cs.length / 2)) (by simp; omega) _ _ Lk (fun x hx => hf x (List.mem_of_mem_take hx))) ?_; intro vx c H HA)
    (obtain ⟨va, rfl⟩ : ∃ x, x = vx := ⟨_, rfl⟩)
    (refine Z2 ?_; apply w_nil; apply wx_next; apply wc_seq; apply wc_region; refine Z0 ?_; refine Z0 ?_; refine Z45 ?_)
    apply s_half rfl rfl rfl (by omega)
    (refine s_slL (α := Cl) (lo := cs.length / 2) (hi := cs.length) rfl rfl (.inl rfl) (.inr ⟨rfl, rfl⟩) Lk rfl (by omega) (by omega) ?_; intro vx hx; have HA := HA.add hx; clear hx)
    have e2 : ((cs.drop (cs.length / 2)).take (cs.length - cs.length / 2)) = cs.drop (cs.length / 2) := List.take_of_length_le (by simp)
    rw [e2] at HA
    (refine s_call rfl rfl H HA (ih (cs.drop (cs.length / 2)) (by simp; omega) _ _ Lk (fun x hx => hf x (List.mem_of_mem_drop hx))) ?_; intro vx c H HA)
    (obtain ⟨vb, rfl⟩ : ∃ x, x = vx := ⟨_, rfl⟩)
    (refine Z2 ?_; apply w_nil; apply wx_next; apply wc_seq; apply wc_region; refine Z2 ?_; apply w_nil; apply wx_next; apply wc_seq; apply wc_region; refine Z2 ?_; apply w_nil; apply wx_next; apply wc_seq; apply wc_region; refine Z2 ?_; apply w_nil; apply wx_next; apply wc_seq; apply wc_block)
    have hM : mergeU cmpCl (setU cmpCl (cs.take (cs.length / 2))) (setU cmpCl (cs.drop (cs.length / 2))) = setU cmpCl cs := by rw [mergeU_set cmpCl_t3, List.take_append_drop]
    have hfA : ∀ x ∈ setU cmpCl (cs.take (cs.length / 2)), x.fit := fun x hx => hf x (List.mem_of_mem_take (mem_setU' hx))
    have hlA := setU_length (f := cmpCl) (cs.take (cs.length / 2))
    have hlB := setU_length (f := cmpCl) (cs.drop (cs.length / 2))
    simp only [List.length_take, List.length_drop] at hlA hlB
    generalize setU cmpCl (cs.take (cs.length / 2)) = A at *
    generalize setU cmpCl (cs.drop (cs.length / 2)) = B at *
    have H := H.nilR Cl 30 7
    refine wc_loopG (σ := Nat × Nat × List Cl × Value × List (List Value)) (fun s => (A.length - s.1) + (B.length - s.2.1)) (fun s => [(3, va), (4, vb), (5, s.2.2.2.1), (6, .int .i64 s.1), (7, .int .i64 s.2.1)])
      (fun s => s.1 ≤ A.length ∧ s.2.1 ≤ B.length ∧ s.2.2.1 ++ mergeU cmpCl (A.drop s.1) (B.drop s.2.1) = setU cmpCl cs ∧ s.2.2.1.length ≤ s.1 + s.2.1)
      (fun s => [.row s.2.2.2.1 30 7 s.2.2.1.length s.2.2.2.2.flatten]) (fun s c => Vals s.2.2.2.2 s.2.2.1 c) (0, 0, [], .slice none 0 0, []) H HA (Vals.nil _) Ks ⟨Nat.zero_le _, Nat.zero_le _, hM, Nat.zero_le _⟩ ?_
    intro s g c hp H HA
    obtain ⟨i, k, acc, vr, vals⟩ := s
    obtain ⟨hi, hk, hmg, hlen⟩ := hp
    dsimp only at hi hk hmg hlen H HA ⊢
    have g1 : (-1 : Int) ≤ 0 := by omega
    have g2 : ¬ (1 : Int) ≤ 0 := by omega
    have g3 : ¬ (0 : Int) ≤ -1 := by omega
    have g4 : (0 : Int) ≤ 1 := by omega
    by_cases hi1 : (i : Int) < A.length
    · have hi2 : ¬ (i : Int) = A.length := by omega
      obtain ⟨x, hx⟩ := getq (xs := A) (k := i) (by omega)
      by_cases hk1 : (k : Int) < B.length
      · have hk2 : ¬ (k : Int) = B.length := by omega
        obtain ⟨y, hy⟩ := getq (xs := B) (k := k) (by omega)
        (apply wc_seq; apply wc_seq; apply wc_region; refine Z0 ?_; refine Z0 ?_; refine Z45 ?_; refine Z81 ?_; refine Z0 ?_; refine Z5 ?_; refine Z5 ?_; refine Z5 ?_; refine Z5 ?_; refine Z8 ?_; apply w_nil; apply wx_next; refine Z18 ?_; apply wc_skip; apply wx_next; apply wc_block; apply wc_seq; apply wc_region; refine Z2 ?_; apply w_nil; apply wx_next; apply wc_seq; apply wc_block; apply wc_seq; apply wc_region; refine Z0 ?_; refine Z0 ?_; refine Z45 ?_; refine Z80 ?_; refine Z2 ?_; apply w_nil; apply wx_next; refine Z19 ?_; apply wc_seq; apply wc_region; refine Z0 ?_; refine Z0 ?_; refine Z45 ?_; refine Z80 ?_; refine Z2 ?_; apply w_nil; apply wx_next; refine Z19 ?_)
        (refine dw_start H HA ?_)
        (repeat (refine Dc ?_))
        (apply dw_cons; (focus ((intro B _ Lx c H HA; (repeat (first | (intro vx hx; have hx2 : vx = _ := hx; clear hx; subst hx2) | (intro vx hx; have HA := HA.addSF hx; clear hx) | (intro vx hx; have HA := HA.add hx; clear hx) | intro vx)); change W _ _ _ _ _ _ _); (refine s_call rfl rfl H HA (ref03_Compare x y _ _ _ Lk Lk (hfA x (List.mem_of_getElem? hx)).1) ?_; intro vx c H HP; have hvx := HP.h.1; have HA := HP.cut; subst hvx); exact Dx)); exact inferInstance)
        (repeat (refine Dc ?_))
        (refine dw_done mixed H HA rfl (by kernel_rfl) ?_; clear H HA; intro c H HA; (repeat (first | (intro vx hx; have hx2 : vx = _ := hx; clear hx; subst hx2) | (intro vx hx; have HA := HA.addSF hx; clear hx) | (intro vx hx; have HA := HA.add hx; clear hx) | intro vx)); change W _ _ _ _ _ _ _)
        by_cases hc1 : cmpCl x y ≤ 0
        · by_cases hc2 : (0 : Int) ≤ cmpCl x y
          · have hc3 : cmpCl x y = 0 := by omega
            (apply w_nil; apply wx_norm_block; apply wx_next; apply wc_seq; apply wc_seq; apply wc_region; refine Z0 ?_; refine Z83 ?_; apply w_nil; apply wx_next; refine Z18 ?_; apply wc_seq; apply wc_region; refine Z0 ?_; refine Z0 ?_; refine Z0 ?_; refine Z34 HA fun vx HA => ?_; refine Z39 HA fun vx HA => ?_; refine Z55 fun vx c H HA => ?_; refine Z59 fun vx c valsx H HA => ?_; refine Z2 ?_; apply w_nil; apply wx_next; apply wc_region; refine Z0 ?_; refine Z46 ?_; refine Z2 ?_; apply w_nil; apply wx_next; apply wc_seq; apply wc_region; refine Z0 ?_; refine Z85 ?_; apply w_nil; apply wx_next; refine Z18 ?_; apply wc_region; refine Z0 ?_; refine Z46 ?_; refine Z2 ?_; apply w_nil; apply wx_norm_block)
            exact wx_loopG ((i + 1, k + 1, acc ++ [x], vx, valsx)) H Cu Lk Ks (by simp; omega) ⟨by simp; omega, by simp; omega, by rw [← hmg, drop_get hx, drop_get hy, mergeU, if_neg (by omega), if_pos hc3]; simp, by simp; omega⟩
          · (apply w_nil; apply wx_norm_block; apply wx_next; apply wc_seq; apply wc_seq; apply wc_region; refine Z0 ?_; refine Z83 ?_; apply w_nil; apply wx_next; refine Z18 ?_; apply wc_seq; apply wc_region; refine Z0 ?_; refine Z0 ?_; refine Z0 ?_; refine Z34 HA fun vx HA => ?_; refine Z39 HA fun vx HA => ?_; refine Z55 fun vx c H HA => ?_; refine Z59 fun vx c valsx H HA => ?_; refine Z2 ?_; apply w_nil; apply wx_next; apply wc_region; refine Z0 ?_; refine Z46 ?_; refine Z2 ?_; apply w_nil; apply wx_next; apply wc_seq; apply wc_region; refine Z0 ?_; refine Z85 ?_; apply w_nil; apply wx_next; refine Z19 ?_; apply wc_skip; apply wx_norm_block)
            exact wx_loopG ((i + 1, k, acc ++ [x], vx, valsx)) H Cu Lk Ks (by simp; omega) ⟨by simp; omega, by simp; omega, by rw [← hmg, drop_get hx, drop_get hy, mergeU, if_pos (by omega)]; simp, by simp; omega⟩
        · have hc2 : (0 : Int) ≤ cmpCl x y := by omega
          (apply w_nil; apply wx_norm_block; apply wx_next; apply wc_seq; apply wc_seq; apply wc_region; refine Z0 ?_; refine Z83 ?_; apply w_nil; apply wx_next; refine Z19 ?_; apply wc_region; refine Z0 ?_; refine Z0 ?_; refine Z0 ?_; refine Z34 HA fun vx HA => ?_; refine Z39 HA fun vx HA => ?_; refine Z55 fun vx c H HA => ?_; refine Z59 fun vx c valsx H HA => ?_; refine Z2 ?_; apply w_nil; apply wx_next; apply wc_seq; apply wc_region; refine Z0 ?_; refine Z85 ?_; apply w_nil; apply wx_next; refine Z18 ?_; apply wc_region; refine Z0 ?_; refine Z46 ?_; refine Z2 ?_; apply w_nil; apply wx_norm_block)
          exact wx_loopG ((i, k + 1, acc ++ [y], vx, valsx)) H Cu Lk Ks (by simp; omega) ⟨by simp; omega, by simp; omega, by rw [← hmg, drop_get hx, drop_get hy, mergeU, if_neg (by omega), if_neg (by omega)]; simp, by simp; omega⟩
      · have hk2 : (k : Int) = B.length := by omega
        (apply wc_seq; apply wc_seq; apply wc_region; refine Z0 ?_; refine Z0 ?_; refine Z45 ?_; refine Z81 ?_; refine Z0 ?_; refine Z5 ?_; refine Z5 ?_; refine Z5 ?_; refine Z5 ?_; refine Z8 ?_; apply w_nil; apply wx_next; refine Z18 ?_; apply wc_skip; apply wx_next; apply wc_block; apply wc_seq; apply wc_region; refine Z2 ?_; apply w_nil; apply wx_next; apply wc_seq; apply wc_block; apply wc_seq; apply wc_region; refine Z0 ?_; refine Z0 ?_; refine Z45 ?_; refine Z80 ?_; refine Z2 ?_; apply w_nil; apply wx_next; refine Z19 ?_; apply wc_seq; apply wc_region; refine Z0 ?_; refine Z0 ?_; refine Z45 ?_; refine Z80 ?_; refine Z2 ?_; apply w_nil; apply wx_next; refine Z18 ?_; apply wc_region; refine Z2 ?_; apply w_nil; apply wx_norm_block; apply wx_next; apply wc_seq; apply wc_seq; apply wc_region; refine Z0 ?_; refine Z83 ?_; apply w_nil; apply wx_next; refine Z18 ?_; apply wc_seq; apply wc_region; refine Z0 ?_; refine Z0 ?_; refine Z0 ?_; refine Z34 HA fun vx HA => ?_; refine Z39 HA fun vx HA => ?_; refine Z55 fun vx c H HA => ?_; refine Z59 fun vx c valsx H HA => ?_; refine Z2 ?_; apply w_nil; apply wx_next; apply wc_region; refine Z0 ?_; refine Z46 ?_; refine Z2 ?_; apply w_nil; apply wx_next; apply wc_seq; apply wc_region; refine Z0 ?_; refine Z85 ?_; apply w_nil; apply wx_next; refine Z19 ?_; apply wc_skip; apply wx_norm_block)
        exact wx_loopG ((i + 1, k, acc ++ [x], vx, valsx)) H Cu Lk Ks (by simp; omega) ⟨by simp; omega, by simp; omega, by rw [← hmg, drop_get hx, List.drop_eq_nil_of_le (show B.length ≤ k by omega), mergeU_nil, mergeU_nil]; simp, by simp; omega⟩
    · have hi2 : (i : Int) = A.length := by omega
      by_cases hk1 : (k : Int) < B.length
      · obtain ⟨y, hy⟩ := getq (xs := B) (k := k) (by omega)
        (apply wc_seq; apply wc_seq; apply wc_region; refine Z0 ?_; refine Z0 ?_; refine Z45 ?_; refine Z81 ?_; refine Z0 ?_; refine Z4 ?_; refine Z0 ?_; refine Z4 ?_; refine Z0 ?_; refine Z4 ?_; refine Z45 ?_; refine Z4 ?_; refine Z81 ?_; refine Z30 ?_; apply w_nil; apply wx_next; refine Z18 ?_; apply wc_skip; apply wx_next; apply wc_block; apply wc_seq; apply wc_region; refine Z2 ?_; apply w_nil; apply wx_next; apply wc_seq; apply wc_block; apply wc_seq; apply wc_region; refine Z0 ?_; refine Z0 ?_; refine Z45 ?_; refine Z80 ?_; refine Z2 ?_; apply w_nil; apply wx_next; refine Z18 ?_; apply wc_region; refine Z2 ?_; apply w_nil; apply wx_norm_block; apply wx_next; apply wc_seq; apply wc_seq; apply wc_region; refine Z0 ?_; refine Z83 ?_; apply w_nil; apply wx_next; refine Z19 ?_; apply wc_region; refine Z0 ?_; refine Z0 ?_; refine Z0 ?_; refine Z34 HA fun vx HA => ?_; refine Z39 HA fun vx HA => ?_; refine Z55 fun vx c H HA => ?_; refine Z59 fun vx c valsx H HA => ?_; refine Z2 ?_; apply w_nil; apply wx_next; apply wc_seq; apply wc_region; refine Z0 ?_; refine Z85 ?_; apply w_nil; apply wx_next; refine Z18 ?_; apply wc_region; refine Z0 ?_; refine Z46 ?_; refine Z2 ?_; apply w_nil; apply wx_norm_block)
        exact wx_loopG ((i, k + 1, acc ++ [y], vx, valsx)) H Cu Lk Ks (by simp; omega) ⟨by simp; omega, by simp; omega, by rw [← hmg, drop_get hy, List.drop_eq_nil_of_le (show A.length ≤ i by omega), mergeU, mergeU]; simp, by simp; omega⟩
      · (apply wc_seq; apply wc_seq; apply wc_region; refine Z0 ?_; refine Z0 ?_; refine Z45 ?_; refine Z81 ?_; refine Z0 ?_; refine Z4 ?_; refine Z0 ?_; refine Z4 ?_; refine Z0 ?_; refine Z4 ?_; refine Z45 ?_; refine Z4 ?_; refine Z81 ?_; refine Z30 ?_; apply w_nil; apply wx_next; refine Z19 ?_; apply wc_exit; apply wx_exit_then; apply wx_exit_then; apply wx_exit_same; apply wx_next; apply wc_seq; apply wc_region; refine Z0 ?_; refine Z2 ?_; apply w_nil; apply wx_next; apply wc_ret)
        (refine wx_freezeRow H HA Lk rfl rfl Lt ?_; intro c H HA)
        exact ret_fn H hm (outs1 Tryz.results57 Wh) (by rw [← hmg, List.drop_eq_nil_of_le (show A.length ≤ i by omega), List.drop_eq_nil_of_le (show B.length ≤ k by omega), mergeU]; simpa using Lk)
end Go.Proofs.YthkdggoohpgnnaaGreatDoor
/- Contracts: when one clause becomes part of another, all ways, of the document's answer. -/
namespace Go.Wk
open Go
theorem instT_sm {vs : List Tm} {t : Tm} (h : ∀ u ∈ vs, u.sm) (ht : t.sm) : (instT vs t).sm := by
  unfold instT
  split
  · cases hv : vs[t.n.toNat]? with
    | none => exact Tn_sm
    | some u => exact h u (List.mem_of_getElem? hv)
  · exact ht
theorem any_get {α : Type} {p : α → Bool} {xs : List α} {k : Nat} {u : α} (h : xs[k]? = some u) : (xs.drop k).any p = (p u || (xs.drop (k + 1)).any p) := by rw [drop_get h]; rfl
theorem all_get {α : Type} {p : α → Bool} {xs : List α} {k : Nat} {u : α} (h : xs[k]? = some u) : (xs.drop k).all p = (p u && (xs.drop (k + 1)).all p) := by rw [drop_get h]; rfl
theorem any_eq_mem {α : Type} [DecidableEq α] (xs : List α) (a : α) : xs.any (fun x => decide (a = x)) = decide (a ∈ xs) := by
  induction xs with
  | nil => rfl
  | cons x xs ih => simp only [List.any_cons, ih, List.mem_cons]; by_cases h : a = x <;> simp [h]
end Go.Wk
namespace Go.Proofs.YthkdggoohpgnnaaGreatDoor
open Go Go.Wk
theorem ref14_ahead (a b : List Tm) (v1 v2 : Value) (c : Cx) (h1 : Sl v1 a c) (h2 : Sl v2 b c) (hs : ∀ t ∈ a, t.sm) : Cn Tryz.prog 44 [v1, v2] c (fun r _ => r = .bool (aheadB a b)) := by
  refine Cn.of Tryz.func44 Tryz.ntmps44 rfl rfl fun hm H HA => ?_
  have hl1 := h1.lim
  have HA := (HA.add h1).add h2
  (apply wc_seq; apply wc_region; refine Z2 ?_; apply w_nil; apply wx_next; apply wc_seq; apply wc_seq; apply wc_region; refine Z2 ?_; apply w_nil; apply wx_next; apply wc_block)
  refine wc_loopN a.length (fun k => [(0, v1), (1, v2), (5, .int .i64 k)]) (fun k => aheadB a b = aheadB (a.drop k) (b.drop k)) 0 H HA Ks (Nat.zero_le _) rfl ?_
  intro k g c hk hp H HA
  (focus (apply wc_seq; apply wc_seq; apply wc_region; refine Z0 ?_; refine Z0 ?_; refine Z45 ?_; refine Z93 (fun hq => ?_) fun hq => ?_; refine Z0 ?_; refine Z4 ?_; refine Z0 ?_; refine Z4 ?_; refine Z0 ?_; refine Z4 ?_; refine Z45 ?_; refine Z4 ?_; refine Z93 (fun hq => ?_) fun hq => ?_; refine Z8 ?_; apply w_nil; apply wx_next; refine Z18 ?_; apply wc_skip; apply wx_next; apply wc_seq; apply wc_block; apply wc_seq; rotate_left; refine Z8 ?_; apply w_nil; apply wx_next; refine Z19 ?_; apply wc_exit; apply wx_exit_then; apply wx_exit_then; apply wx_exit_same; apply wx_next; apply wc_seq; apply wc_region; refine Z2 ?_; apply w_nil; apply wx_next; apply wc_ret; rotate_left; refine Z0 ?_; refine Z5 ?_; refine Z5 ?_; refine Z5 ?_; refine Z5 ?_; refine Z30 ?_; apply w_nil; apply wx_next; refine Z19 ?_; apply wc_exit; apply wx_exit_then; apply wx_exit_then; apply wx_exit_same; apply wx_next; apply wc_seq; apply wc_region; refine Z2 ?_; apply w_nil; apply wx_next; apply wc_ret; rotate_left))
  · obtain ⟨t, ht⟩ := getq (xs := a) (k := k) (by omega)
    obtain ⟨t', ht'⟩ := getq (xs := b) (k := k) (by omega)
    (refine dw_start H HA ?_)
    (repeat (refine Dc ?_))
    (apply dw_cons; (focus ((intro B _ Lx c H HA; (repeat (first | (intro vx hx; have hx2 : vx = _ := hx; clear hx; subst hx2) | (intro vx hx; have HA := HA.addSF hx; clear hx) | (intro vx hx; have HA := HA.add hx; clear hx) | intro vx)); change W _ _ _ _ _ _ _); (refine s_call rfl rfl H HA (ref02_Compare t t' _ (hs t (List.mem_of_getElem? ht))) ?_; intro vx c H HP; have hvx := HP.h.1; have HA := HP.cut; subst hvx); exact Dx)); exact inferInstance)
    (repeat (refine Dc ?_))
    (refine dw_done mixed H HA rfl (by kernel_rfl) ?_; clear H HA; intro c H HA; (repeat (first | (intro vx hx; have hx2 : vx = _ := hx; clear hx; subst hx2) | (intro vx hx; have HA := HA.addSF hx; clear hx) | (intro vx hx; have HA := HA.add hx; clear hx) | intro vx)); change W _ _ _ _ _ _ _)
    by_cases he : cmpTm t t' = 0
    · (apply w_nil; apply wx_next; apply wc_seq; apply wc_region; refine Z0 ?_; refine Z82 ?_; apply w_nil; apply wx_next; refine Z19 ?_; apply wc_skip; apply wx_norm_block; apply wx_next; apply wc_region; refine Z0 ?_; refine Z46 ?_; refine Z2 ?_; apply w_nil)
      exact wx_loopN (k + 1) H Cu Ks (by omega) (by rw [hp, drop_get ht, drop_get ht', aheadB, if_pos he])
    · (focus (apply w_nil; apply wx_next; apply wc_seq; apply wc_region; refine Z0 ?_; refine Z82 ?_; apply w_nil; apply wx_next; refine Z18 ?_; apply wc_seq; apply wc_region; refine Z0 ?_; refine Z93 (fun hq => ?_) fun hq => ?_; refine Z2 ?_; apply w_nil; apply wx_next; apply wc_ret; apply wx_ret_block; apply wx_ret_then; apply wx_ret_then; apply wx_ret_block; apply wx_ret_then; rotate_left; refine Z2 ?_; apply w_nil; apply wx_next; apply wc_ret; apply wx_ret_block; apply wx_ret_then; apply wx_ret_then; apply wx_ret_block; apply wx_ret_then; rotate_left))
      all_goals exact ret_fn H hm (outs1 Tryz.results44 Wh) (by rw [hp, drop_get ht, drop_get ht', aheadB, if_neg he]; simp [*])
  · exact ret_fn H hm (outs1 Tryz.results44 Wh) (by
      rw [hp, List.drop_eq_nil_of_le (show b.length ≤ k by omega)]
      cases a.drop k <;> rfl)
  · exact ret_fn H hm (outs1 Tryz.results44 Wh) (by rw [hp, List.drop_eq_nil_of_le (show a.length ≤ k by omega)]; rfl)
theorem ref14_Part (x d : Cl) (u1 u2 : Value) (ts : List Tm) (v : Value) (c : Cx) (h1 : Ag x u1 c) (h2 : Ag d u2 c) (h3 : Sl v ts c) (hf : x.fit) (hts : ∀ u ∈ ts, u.sm) : Cn Tryz.prog 43 [u1, u2, v] c (fun r _ => r = .bool (partB x d ts)) := by
  refine Cn.of Tryz.func43 Tryz.ntmps43 rfl rfl fun hm H HA => ?_
  have hlb : x.body.length < 1099511627776 := by obtain ⟨cs, rfl, v, v1, v2, rfl, h⟩ := h1; exact h.2.1.lim
  have hlt : x.tests.length < 1099511627776 := by obtain ⟨cs, rfl, v, v1, v2, rfl, h⟩ := h1; exact h.2.2.lim
  have hldb : d.body.length < 1099511627776 := by obtain ⟨cs, rfl, v, v1, v2, rfl, h⟩ := h2; exact h.2.1.lim
  have hldt : d.tests.length < 1099511627776 := by obtain ⟨cs, rfl, v, v1, v2, rfl, h⟩ := h2; exact h.2.2.lim
  have HA := ((HA.add h3).add h1).add h2
  have hpb : partB x d ts = (decide ((x.map (instT ts)).head = d.head) && ((x.map (instT ts)).body.all (fun a => decide (a ∈ d.body)) && (x.map (instT ts)).tests.all (tsOk d))) := rfl
  have hyb : (x.map (instT ts)).body.length = x.body.length := by simp [Cl.map]
  have hyt : (x.map (instT ts)).tests.length = x.tests.length := by simp [Cl.map]
  have hysm : ∀ t ∈ (x.map (instT ts)).tests, t.l.sm := by
    intro t ht
    obtain ⟨t', ht', rfl⟩ := List.mem_map.1 ht
    exact instT_sm hts (hf.1.2.2 t' ht').1
  (apply wc_seq; apply wc_region)
  (refine s_boxG rfl rfl Lk H HA ?_; intro p c H HA)
  (refine s_boxG rfl rfl Lk H HA ?_; intro q c H HA)
  (refine Z2 ?_; apply w_nil; apply wx_next; apply wc_seq; apply wc_region; refine Z39 HA fun vx HA => ?_; refine Z0 ?_)
  (refine s_call rfl rfl H HA (ref03_Instance x _ ts _ _ Lk Lk hf.2) ?_; intro vx c H HA)
  obtain ⟨va, vb, vd, hr, hS⟩ := Ag.cl HA.h.1
  subst hr
  have HA := ((HA.cut.add hS.1).add hS.2.1).add hS.2.2
  generalize hy : x.map (instT ts) = y at *
  (refine Z61 fun bx c H HA => ?_; refine Z74 fun c H HA => ?_; apply w_nil; apply wx_next; apply wc_seq; apply wc_seq; apply wc_region; refine Z3 ?_; refine Z42 ?_; refine Z35 HA fun vx HA => ?_; refine Z39 HA fun vx HA => ?_)
  (obtain ⟨b0, rfl⟩ : ∃ x, x = bx := ⟨_, rfl⟩)
  (refine s_call rfl rfl H HA (ref03_SameAtom y.head d.head _ _ _ ⟨_, rfl, va, rfl, Lk⟩ Lk) ?_; intro vx c H HP; have hvx := HP.h.1; have HA := HP.cut; subst hvx)
  by_cases hh : y.head = d.head
  case neg =>
    rw [decide_eq_false hh]
    (refine Z33 ?_; apply w_nil; apply wx_next; refine Z18 ?_; apply wc_seq; apply wc_region; refine Z2 ?_; apply w_nil; apply wx_next; apply wc_ret; apply wx_ret_then)
    exact ret_fn H hm (outs1 Tryz.results43 Wh) (by rw [hpb]; simp [hh])
  rw [decide_eq_true hh]
  (refine Z33 ?_; apply w_nil; apply wx_next; refine Z19 ?_; apply wc_skip; apply wx_next; apply wc_seq; apply wc_seq; apply wc_region; refine Z2 ?_; apply w_nil; apply wx_next; apply wc_block)
  refine wc_loopN y.body.length (fun k => [(4, q), (7, .pointer (some ⟨b0, 0, none⟩)), (8, .int .i64 k)]) (fun k => y.body.all (fun a => decide (a ∈ d.body)) = (y.body.drop k).all (fun a => decide (a ∈ d.body))) 0 H HA Ks (Nat.zero_le _) rfl ?_
  intro k g c hk hp H HA
  (focus (apply wc_seq; apply wc_seq; apply wc_region; refine Z0 ?_; refine Z3 ?_; refine Z41 ?_; refine Z45 ?_; refine Z93 (fun hq => ?_) fun hq => ?_; apply w_nil; apply wx_next; refine Z18 ?_; apply wc_skip; apply wx_next; apply wc_seq; apply wc_block; apply wc_seq; apply wc_region; refine Z2 ?_; apply w_nil; apply wx_next; apply wc_seq; apply wc_seq; apply wc_region; refine Z2 ?_; apply w_nil; apply wx_next; apply wc_block; rotate_left; apply w_nil; apply wx_next; refine Z19 ?_; apply wc_exit; apply wx_exit_then; apply wx_exit_then; apply wx_exit_same; apply wx_next; apply wc_seq; apply wc_seq; apply wc_region; refine Z2 ?_; apply w_nil; apply wx_next; apply wc_block; rotate_left))
  · obtain ⟨a, ha⟩ := getq (xs := y.body) (k := k) (by omega)
    refine wc_loopM (σ := Nat × Bool) (fun s => d.body.length - s.1) (fun s => [(4, q), (7, .pointer (some ⟨b0, 0, none⟩)), (8, .int .i64 k), (9, .bool s.2), (10, .int .i64 s.1)]) (fun s => s.1 ≤ d.body.length ∧ (s.2 || (d.body.drop s.1).any (fun b => decide (a = b))) = decide (a ∈ d.body)) (0, false) H HA Ks ⟨Nat.zero_le _, by simpa using any_eq_mem d.body a⟩ ?_
    intro s g c hp2 H HA
    obtain ⟨j, th⟩ := s
    obtain ⟨hj, hth⟩ := hp2
    dsimp only at hj hth ⊢
    (focus (apply wc_seq; apply wc_seq; apply wc_region; refine Z0 ?_; refine Z35 HA fun vx HA => ?_; refine Z37 HA fun vx HA => ?_; refine Z45 ?_; refine Z93 (fun hq => ?_) fun hq => ?_; apply w_nil; apply wx_next; refine Z18 ?_; apply wc_skip; apply wx_next; apply wc_seq; apply wc_block; rotate_left; apply w_nil; apply wx_next; refine Z19 ?_; apply wc_exit; apply wx_exit_then; apply wx_exit_then; apply wx_exit_same; apply wx_next; apply wc_seq; apply wc_region; refine Z0 ?_; refine Z33 ?_; apply w_nil; apply wx_next; (focus (apply wc_cond; rfl; all_goals intro hq)); apply wc_seq; apply wc_region; refine Z2 ?_; apply w_nil; apply wx_next; apply wc_ret; apply wx_ret_block; apply wx_ret_then; apply wx_ret_then; apply wx_ret_block; apply wx_ret_then; rotate_left; apply wc_skip; apply wx_norm_block; apply wx_next; apply wc_region; refine Z0 ?_; refine Z46 ?_; refine Z2 ?_; apply w_nil; rotate_left))
    · obtain ⟨b, hb⟩ := getq (xs := d.body) (k := j) (by omega)
      rw [any_get hb] at hth
      cases th
      · (refine dw_start H HA ?_)
        (repeat (refine Dn ?_))
        (apply dw_cons; (focus ((intro B _ Lx c H HA; (repeat (first | (intro vx hx; have hx2 : vx = _ := hx; clear hx; subst hx2) | (intro vx hx; have HA := HA.addSF hx; clear hx) | (intro vx hx; have HA := HA.add hx; clear hx) | intro vx)); change W _ _ _ _ _ _ _); (apply s_go; exact rfl; exact rfl; exact rfl); (refine s_call rfl rfl H HA (ref03_SameAtom a b _ _ _ Lk Lk) ?_; intro vx c H HP; have hvx := HP.h.1; have HA := HP.cut; subst hvx); exact Dx)); exact inferInstance)
        (repeat (refine Dn ?_))
        (refine dw_done mixed H HA rfl (by kernel_rfl) ?_; clear H HA; intro c H HA; (repeat (first | (intro vx hx; have hx2 : vx = _ := hx; clear hx; subst hx2) | (intro vx hx; have HA := HA.addSF hx; clear hx) | (intro vx hx; have HA := HA.add hx; clear hx) | intro vx)); change W _ _ _ _ _ _ _)
        (refine Z2 ?_; apply w_nil; apply wx_norm_block; apply wx_next; apply wc_region; refine Z0 ?_; refine Z46 ?_; refine Z2 ?_; apply w_nil)
        exact wx_loopM ((j + 1, decide (a = b))) H Cu Ks (by simp; omega) ⟨by simp; omega, by simpa using hth⟩
      · ((refine dw_start H HA ?_); (repeat (refine Dn ?_)); (refine dw_done mixed H HA rfl (by kernel_rfl) ?_; clear H HA; intro c H HA; (repeat (first | (intro vx hx; have hx2 : vx = _ := hx; clear hx; subst hx2) | (intro vx hx; have HA := HA.addSF hx; clear hx) | (intro vx hx; have HA := HA.add hx; clear hx) | intro vx)); change W _ _ _ _ _ _ _))
        (refine Z2 ?_; apply w_nil; apply wx_norm_block; apply wx_next; apply wc_region; refine Z0 ?_; refine Z46 ?_; refine Z2 ?_; apply w_nil)
        exact wx_loopM ((j + 1, true)) H Cu Ks (by simp; omega) ⟨by simp; omega, by simpa using hth⟩
    · rw [List.drop_eq_nil_of_le (show d.body.length ≤ j by omega)] at hth
      exact ret_fn H hm (outs1 Tryz.results43 Wh) (by rw [hpb, hp, all_get ha, ← hth]; simp_all)
    · rw [List.drop_eq_nil_of_le (show d.body.length ≤ j by omega)] at hth
      exact wx_loopN (k + 1) H Cu Ks (by omega) (by rw [hp, all_get ha, ← hth]; simp_all)
  · have hbody : y.body.all (fun a => decide (a ∈ d.body)) = true := by rw [hp, List.drop_eq_nil_of_le (by omega)]; rfl
    clear hp hk
    refine wc_loopN y.tests.length (fun k => [(4, q), (7, .pointer (some ⟨b0, 0, none⟩)), (11, .int .i64 k)]) (fun k => y.tests.all (tsOk d) = (y.tests.drop k).all (tsOk d)) 0 H HA Ks (Nat.zero_le _) rfl ?_
    clear hq k
    intro k g c hk hp H HA
    (focus (apply wc_seq; apply wc_seq; apply wc_region; refine Z0 ?_; refine Z3 ?_; refine Z41 ?_; refine Z45 ?_; refine Z93 (fun hq => ?_) fun hq => ?_; apply w_nil; apply wx_next; refine Z18 ?_; apply wc_skip; apply wx_next; apply wc_seq; apply wc_block; apply wc_seq; apply wc_region; refine Z3 ?_; refine Z41 ?_; refine Z0 ?_; rotate_left; apply w_nil; apply wx_next; refine Z19 ?_; apply wc_exit; apply wx_exit_then; apply wx_exit_then; apply wx_exit_same; apply wx_next; apply wc_seq; apply wc_region; refine Z2 ?_; apply w_nil; apply wx_next; apply wc_ret; rotate_left))
    · obtain ⟨t, ht⟩ := getq (xs := y.tests) (k := k) (by omega)
      (refine Z34 HA fun vx HA => ?_; refine Z38 ?_)
      (refine s_call rfl rfl H HA (ref02_Decide t _ (hysm t (List.mem_of_getElem? ht))) ?_; intro vx c H HP; have hvx := HP.h.1; have HA := HP.cut; subst hvx)
      generalize hd1 : t.decide.1 = d1
      generalize hd2 : t.decide.2 = d2
      have hth0 : ((d1 && d2) || (d.tests.drop 0).any (fun b => decide (t = b))) = tsOk d t := by
        rw [tsOk, hd1, hd2]; congr 1; exact any_eq_mem d.tests t
      cases d1
      all_goals
        (first | (refine Z0 ?_; refine Z32 ?_; refine Z32 ?_; refine Z2 ?_; refine Z2 ?_; apply w_nil; apply wx_next; apply wc_seq; apply wc_region; refine Z0 ?_; refine Z0 ?_; refine Z4 ?_; refine Z0 ?_; refine Z8 ?_; refine Z2 ?_; apply w_nil; apply wx_next; apply wc_seq; apply wc_seq; apply wc_region; refine Z2 ?_; apply w_nil; apply wx_next; apply wc_block) | (refine Z0 ?_; refine Z32 ?_; refine Z32 ?_; refine Z2 ?_; refine Z2 ?_; apply w_nil; apply wx_next; apply wc_seq; apply wc_region; refine Z0 ?_; refine Z0 ?_; refine Z5 ?_; refine Z30 ?_; refine Z2 ?_; apply w_nil; apply wx_next; apply wc_seq; apply wc_seq; apply wc_region; refine Z2 ?_; apply w_nil; apply wx_next; apply wc_block))
        refine wc_loopM (σ := Nat × Bool) (fun s => d.tests.length - s.1) (fun s => [(4, q), (7, .pointer (some ⟨b0, 0, none⟩)), (11, .int .i64 k), (14, .bool s.2), (15, .int .i64 s.1)]) (fun s => s.1 ≤ d.tests.length ∧ (s.2 || (d.tests.drop s.1).any (fun b => decide (t = b))) = tsOk d t) (0, _) H HA Ks ⟨Nat.zero_le _, hth0⟩ ?_
        intro s g c hp2 H HA
        obtain ⟨j, th⟩ := s
        obtain ⟨hj, hth⟩ := hp2
        dsimp only at hj hth ⊢
        (focus (apply wc_seq; apply wc_seq; apply wc_region; refine Z0 ?_; refine Z35 HA fun vx HA => ?_; refine Z37 HA fun vx HA => ?_; refine Z45 ?_; refine Z93 (fun hq => ?_) fun hq => ?_; apply w_nil; apply wx_next; refine Z18 ?_; apply wc_skip; apply wx_next; apply wc_seq; apply wc_block; rotate_left; apply w_nil; apply wx_next; refine Z19 ?_; apply wc_exit; apply wx_exit_then; apply wx_exit_then; apply wx_exit_same; apply wx_next; apply wc_seq; apply wc_region; refine Z0 ?_; refine Z33 ?_; apply w_nil; apply wx_next; (focus (apply wc_cond; rfl; all_goals intro hq)); apply wc_seq; apply wc_region; refine Z2 ?_; apply w_nil; apply wx_next; apply wc_ret; apply wx_ret_block; apply wx_ret_then; apply wx_ret_then; apply wx_ret_block; apply wx_ret_then; rotate_left; apply wc_skip; apply wx_norm_block; apply wx_next; apply wc_region; refine Z0 ?_; refine Z46 ?_; refine Z2 ?_; apply w_nil; rotate_left))
        · obtain ⟨b, hb⟩ := getq (xs := d.tests) (k := j) (by omega)
          rw [any_get hb] at hth
          cases th
          · by_cases htb : t = b
            · rw [decide_eq_true htb] at hth
              ((refine dw_start H HA ?_); (repeat (refine Dn ?_)); (refine dw_done mixed H HA rfl (by kernel_rfl) ?_; clear H HA; intro c H HA; (repeat (first | (intro vx hx; have hx2 : vx = _ := hx; clear hx; subst hx2) | (intro vx hx; have HA := HA.addSF hx; clear hx) | (intro vx hx; have HA := HA.add hx; clear hx) | intro vx)); change W _ _ _ _ _ _ _))
              (refine Z2 ?_; apply w_nil; apply wx_norm_block; apply wx_next; apply wc_region; refine Z0 ?_; refine Z46 ?_; refine Z2 ?_; apply w_nil)
              exact wx_loopM ((j + 1, true)) H Cu Ks (by simp; omega) ⟨by simp; omega, by simpa using hth⟩
            · rw [decide_eq_false htb] at hth
              ((refine dw_start H HA ?_); (repeat (refine Dn ?_)); (refine dw_done mixed H HA rfl (by kernel_rfl) ?_; clear H HA; intro c H HA; (repeat (first | (intro vx hx; have hx2 : vx = _ := hx; clear hx; subst hx2) | (intro vx hx; have HA := HA.addSF hx; clear hx) | (intro vx hx; have HA := HA.add hx; clear hx) | intro vx)); change W _ _ _ _ _ _ _))
              (refine Z2 ?_; apply w_nil; apply wx_norm_block; apply wx_next; apply wc_region; refine Z0 ?_; refine Z46 ?_; refine Z2 ?_; apply w_nil)
              exact wx_loopM ((j + 1, false)) H Cu Ks (by simp; omega) ⟨by simp; omega, by simpa using hth⟩
          · ((refine dw_start H HA ?_); (repeat (refine Dn ?_)); (refine dw_done mixed H HA rfl (by kernel_rfl) ?_; clear H HA; intro c H HA; (repeat (first | (intro vx hx; have hx2 : vx = _ := hx; clear hx; subst hx2) | (intro vx hx; have HA := HA.addSF hx; clear hx) | (intro vx hx; have HA := HA.add hx; clear hx) | intro vx)); change W _ _ _ _ _ _ _))
            (refine Z2 ?_; apply w_nil; apply wx_norm_block; apply wx_next; apply wc_region; refine Z0 ?_; refine Z46 ?_; refine Z2 ?_; apply w_nil)
            exact wx_loopM ((j + 1, true)) H Cu Ks (by simp; omega) ⟨by simp; omega, by simpa using hth⟩
        · rw [List.drop_eq_nil_of_le (show d.tests.length ≤ j by omega)] at hth
          exact ret_fn H hm (outs1 Tryz.results43 Wh) (by rw [hpb, hbody, hp, all_get ht, ← hth]; simp_all)
        · rw [List.drop_eq_nil_of_le (show d.tests.length ≤ j by omega)] at hth
          exact wx_loopN (k + 1) H Cu Ks (by omega) (by rw [hp, all_get ht, ← hth]; simp_all)
    · have htests : y.tests.all (tsOk d) = true := by rw [hp, List.drop_eq_nil_of_le (by omega)]; rfl
      exact ret_fn H hm (outs1 Tryz.results43 Wh) (by rw [hpb, hbody, htests]; simp [hh])
end Go.Proofs.YthkdggoohpgnnaaGreatDoor
