/- a part of the proof: lemmas on walks, on plain data, contracts of functions. -/
import Derived.Lib.AppendStr
import Derived.Lib.UnsafeStr
import Derived.Lib.ItoaLen
import Derived.Lib.Builder
import Derived.Test.YtnppmeeibbefbaaGreatDoorA3
import Derived.Test.YtnppmeeibbefbaaGreatDoorA4
import Derived.Test.YtnppmeeibbefbaaGreatDoorA5
import Derived.Test.YtnppmeeibbefbaaGreatDoorA6
import Derived.Test.YtnppmeeibbefbaaGreatDoorA9
set_option linter.all false
namespace Go.Wk
open Go Go.RowKit
structure Jn where
 atom : Nat
def Jn.Ok (cs:List Value) (j:Jn) : Prop:=∃v,cs=[.int .i64 (j.atom:Int),v,.slice none 0 0]∧v.oneCell'=true
instance : Enc Jn where
 k:=3
 Ok cs j c:=Jn.Ok cs j
 mono cs j:=⟨fun _ h=>h⟩
 len cs j c h:=by obtain ⟨v,rfl,_⟩:=h;rfl
 one cs j c h u hu:=by
  obtain ⟨v,rfl,hv⟩:=h
  simp only [List.mem_cons,List.not_mem_nil,or_false] at hu
  rcases hu with rfl|rfl|rfl
  ·rfl
  ·exact hv
  ·rfl
 pos:=by omega
end Go.Wk
namespace Go.Proofs.YtnppmeeibbefbaaGreatDoor
open Go Go.Wk Go.RowKit
instance : Ent Tryz.prog 135:=.of Tryz.func135 (by kernel_rfl) (by kernel_rfl)
instance : Ent Tryz.prog 119:=.of Tryz.func119 (by kernel_rfl) (by kernel_rfl)
instance : Ent Tryz.prog 118:=.of Tryz.func118 (by kernel_rfl) (by kernel_rfl)
instance : Ent Tryz.prog 134:=.of Tryz.func134 (by kernel_rfl) (by kernel_rfl)
instance : Ent Tryz.prog 133:=.of Tryz.func133 (by kernel_rfl) (by kernel_rfl)
instance : Ent Tryz.prog 156:=.of Tryz.func156 (by kernel_rfl) (by kernel_rfl)
instance : Agg Tryz.prog 212 3:=.of (by kernel_rfl) (by kernel_rfl)
instance : Zer Tryz.prog 212 (.agg #[.int .i64 0,.slice none 0 0,.slice none 0 0]):=.of (by kernel_rfl)
instance : TyI Tryz.prog 212 (.agg #[.int .i64 0,.slice none 0 0,.slice none 0 0]) 3 56:=.of (by kernel_rfl)
instance : BldZ Tryz.prog 212 [[.int .i64 0],[.slice none 0 0],[.slice none 0 0]]:=⟨Bld.of (pl:=[(0,1),(1,1),(2,1)]) (by kernel_rfl) (by kernel_rfl)⟩
instance : Fld Tryz.prog 212 0 0:=.of (k:=0) (by kernel_rfl)
instance : Fld Tryz.prog 212 2 2:=.of (k:=0) (by kernel_rfl)
instance : SlT Tryz.prog 177 212:=⟨by kernel_rfl⟩
instance : Prim Tryz.prog 177:=.of (by kernel_rfl) (by kernel_rfl)
theorem plan_columns (a:At0) (u:Value) (c:Cx) (h:Ag a u c) (hb:a.args.length+1<1099511627776) : Cn Tryz.prog 135 [u] c (fun v c=>Sl v a.terms c):=by
 refine Cn.of Tryz.func135 Tryz.ntmps135 rfl rfl fun hm H HA=>?_
 have HA:=HA.add h
 (apply Y1;refine Z40 fun vx c H HA=>?_;refine Z2 ?_;apply Y2;refine Z35 HA fun vx HA=>?_;refine Z38 ?_;refine Z56 fun vx c H HA=>?_;refine Z35 HA fun vx HA=>?_;refine Z37 HA fun vx HA=>?_;refine Z58 fun vx c H HA=>?_;refine Z2 ?_;apply Y0;apply wc_ret)
 exact ret_fn H hm (outs1 Tryz.results135 Wh) Lk
theorem plan_known (a:At0) (u:Value) (mb:Nat) (es:List (Int×Value)) (c:Cx) (h:Ag a u c) (hb:a.args.length+1<1099511627776) (hes:intsM es) :
  CnT Tryz.prog 119 [u,.map (some mb)] [.obj mb (mObj es)] [.obj mb (mObj es)] c (fun v c=>∃l:List Int,Sl v l c∧l.length≤a.args.length+1):=by
 refine CnT.of Tryz.func119 Tryz.ntmps119 rfl rfl fun c0 L0 A0 _ H HA=>?_
 have HA:=HA.add h
 have H : Owns c0 (.obj mb (mObj es)::L0) c:=H
 have htl : a.terms.length=a.args.length+1:=rfl
 (apply wc_seq;apply wc_region)
 (refine s_boxG rfl rfl Lk H HA ?_;intro p c H HA)
 (refine Z2 ?_;apply Y2;refine Z2 ?_;apply Y0;apply wc_seq;apply Y1;refine Z39 HA fun vx HA=>?_)
 (refine s_call rfl rfl H HA (plan_columns a _ _ Lk hb) ?_;intro vx c H HA)
 (refine Z45 ?_;refine Z0 ?_;apply Y0;apply wc_block)
 (obtain ⟨vp,rfl⟩:∃x,x=vx:=⟨_,rfl⟩)
 (have H:=H.nilR Int  3 1;have HA:=HA.add (Vals.nil (α:=Int) _))
 refine wc_loopG (σ:=Nat×List Int×Value×List (List Value)) (fun y=>a.terms.length-y.1) (fun y=>[(1,.map (some mb)),(5,y.2.2.1),(9,vp),(10,.int .i64 a.terms.length),(11,.int .i64 y.1)])
  (fun y=>y.1≤a.terms.length∧y.2.1.length≤y.1) (fun y=>.row y.2.2.1 3 1 y.2.1.length y.2.2.2.flatten::.obj mb (mObj es)::L0) (fun y c=>Vals y.2.2.2 y.2.1 c) (0,[],.slice none 0 0,[]) H HA Lk Ks ⟨Nat.zero_le _,Nat.zero_le _⟩ ?_
 clear HA H
 intro y g c hy H HA
 obtain ⟨k,acc,vr,cl⟩:=y
 obtain ⟨hk,hal⟩:=hy
 dsimp only at hk hal H HA ⊢
 (repeat' (first|refine Z0 ?_|refine Z2 ?_|apply w_nil|apply wc_seq|apply wc_region|apply wx_next|refine Z18 ?_|refine Z19 ?_|apply wc_ret|apply wc_exit|apply wc_skip|apply wc_block|apply wx_exit_then|apply wx_exit_same|refine Z93 (fun hq=>?_) fun hq=>?_))
 ·obtain ⟨t,ht⟩:=getq (xs:=a.terms) (k:=k) (by omega)
  (refine Z34 HA fun vx HA=>?_;refine Z38 ?_;refine Z61 fun bx c H HA=>?_;refine Z2 ?_;refine Z74 fun c H HA=>?_;apply Y2;refine Z42 ?_)
  obtain ⟨m,hm⟩:=hes.get t.n
  (refine s_call rfl rfl H HA (term_Variable t _) ?_;intro vx c H HP;have hvx:=HP.h.1;have HA:=HP.cut;subst hvx)
  cases hv : t.isVar
  ·have H:=H.drop
   (repeat' (first|refine Z0 ?_|refine Z2 ?_|refine Z5 ?_|refine Z8 ?_|apply w_nil|apply wc_region|apply wx_next|refine Z18 ?_|apply wx_norm_block|refine Z33 ?_|refine Z46 ?_|refine Z56 fun vx c H HA=>?_|refine Z59 fun vx c valsx H HA=>?_))
   exact wx_loopG ((k+1,acc++[(k:Int)],_,_)) H Cu Lk Ks (by dsimp only;omega) ⟨by dsimp only;omega,by simp;omega⟩
  ·(refine Z33 ?_;refine Z0 ?_;refine Z4 ?_;refine Z0 ?_;refine Z4 ?_;refine Z3 ?_;refine Z4 ?_;refine Z41 ?_;refine Z4 ?_;refine Z67 ?_;refine Z4 ?_)
   rw [hm]
   have H:=H.drop
   (repeat' (first|refine Z0 ?_|refine Z2 ?_|apply w_nil|apply wc_region|apply wx_next|refine Z18 ?_|refine Z19 ?_|apply wc_skip|apply wx_norm_block|refine Z30 ?_|refine Z46 ?_|refine Z56 fun vx c H HA=>?_|refine Z59 fun vx c valsx H HA=>?_|refine Z96 (fun hq=>?_) fun hq=>?_))
   ·exact wx_loopG ((k+1,acc++[(k:Int)],_,_)) H Cu Lk Ks (by dsimp only;omega) ⟨by dsimp only;omega,by simp;omega⟩
   ·exact wx_loopG ((k+1,acc,_,_)) H Cu Lk Ks (by dsimp only;omega) ⟨by dsimp only;omega,by dsimp only;omega⟩
 ·(refine wx_freezeRow H HA Lk rfl rfl Lt ?_;intro c H HA)
  exact ret_fnT H (Ca) (outs1 Tryz.results119 Wh) ⟨acc,Lk,by omega⟩
theorem next_1 (b i:Nat) (j:Jn) (cs:List Value) (c:Cx) (hb:Box b [.int .i64 (i:Int)] c) (hj:Jn.Ok cs j) : Cn Tryz.prog 134 [.agg cs.toArray,ptr b] c (fun v _=>v=.bool (decide (j.atom=i))):=by
 refine Cn.of Tryz.func134 Tryz.ntmps134 rfl rfl fun hm H HA=>?_
 have HA:=HA.add hb
 obtain ⟨v,rfl,hv⟩:=hj
 (apply wc_seq;apply wc_region)
 (refine s_box (cs:=[.int .i64 (j.atom:Int),v,.slice none 0 0]) rfl rfl H HA ?_;intro b2 c H HA)
 (focus (refine Z2 ?_;apply Y2;refine Z3 ?_;refine Z1 ?_;refine Z1 ?_;refine Z92 (fun hq=>?_) fun hq=>?_;refine Z2 ?_;apply Y0;apply wc_ret;rotate_left;refine Z2 ?_;apply Y0;apply wc_ret;rotate_left))
 all_goals exact ret_fn H hm (outs1 Tryz.results134 Wh) (by simp;omega)
theorem IndexFunc_Jn (js:List Jn) (b i:Nat) (v:Value) (c:Cx) (h:Sl v js c) (hb:Box b [.int .i64 (i:Int)] c) : Cn Tryz.prog 156 [v,.func (.func 134) #[] #[ptr b]] c (fun v _=>∃r:Int,v=.int .i64 r∧decide (r≥0)=js.any fun j=>decide (j.atom=i)):=by
 refine Cn.of Tryz.func156 Tryz.ntmps156 rfl rfl fun hm H HA=>?_
 have hlim:=h.lim
 have HA:=(HA.add h).add hb
 (apply Y1;refine Z2 ?_;apply Y0;apply wc_seq;apply Y1;refine Z0 ?_;refine Z45 ?_;refine Z0 ?_;apply Y0;apply wc_block)
 refine wc_loopN js.length (fun k=>[(0,v),(1,.func (.func 134) #[] #[ptr b]),(7,.int .i64 js.length),(8,.int .i64 k)]) (fun k=>(js.any fun j=>decide (j.atom=i))=(js.drop k).any fun j=>decide (j.atom=i)) 0 H HA Ks (Nat.zero_le _) rfl ?_
 intro k g c hk hp H HA
 (repeat' (first|refine Z0 ?_|refine Z2 ?_|apply w_nil|apply wc_seq|apply wc_region|apply wx_next|refine Z18 ?_|refine Z19 ?_|apply wc_ret|apply wc_exit|apply wc_skip|apply wc_block|apply wx_exit_then|apply wx_exit_same|refine Z93 (fun hq=>?_) fun hq=>?_))
 ·obtain ⟨t,ht⟩:=getq (xs:=js) (k:=k) (by omega)
  have hd:=drop_get ht
  (refine Z34 HA fun vx HA=>?_;refine Z39 HA fun vx HA=>?_)
  obtain ⟨cs,hcs,hj⟩ : Ag t vx c:=Lk
  subst hcs
  (refine s_callV (caps:=[ptr b]) rfl rfl rfl H HA (next_1 b i t cs _ Lk hj) ?_;intro vx c H HP;have hvx:=HP.h.1;have HA:=HP.cut;subst hvx)
  cases hb : decide (t.atom=i)
  ·(apply Y0;refine Z19 ?_;apply wc_skip;apply wx_norm_block;apply wx_next;apply wc_region;refine Z46 ?_;refine Z0 ?_;apply w_nil)
   exact wx_loopN (k+1) H Cu Ks (by omega) (by rw [hp,hd];simp only [List.any_cons,hb,Bool.false_or])
  ·(apply Y0;refine Z18 ?_;apply Y1;refine Z0 ?_;refine Z2 ?_;apply Y0;apply wc_ret;apply wx_ret_block;apply wx_ret_then;apply wx_ret_then;apply wx_ret_block;apply wx_ret_then)
   exact ret_fn H hm (outs1 Tryz.results156 Wh) ⟨_,rfl,by rw [hp,hd];simp only [List.any_cons,hb,Bool.true_or];simp⟩
 ·exact ret_fn H hm (outs1 Tryz.results156 Wh) ⟨_,rfl,by rw [hp,List.drop_eq_nil_of_le (by omega)];rfl⟩
theorem ContainsFunc_Jn (js:List Jn) (b i:Nat) (v:Value) (c:Cx) (h:Sl v js c) (hb:Box b [.int .i64 (i:Int)] c) : Cn Tryz.prog 133 [v,.func (.func 134) #[] #[ptr b]] c (fun v _=>v=.bool (js.any fun j=>decide (j.atom=i))):=by
 refine Cn.of Tryz.func133 Tryz.ntmps133 rfl rfl fun hm H HA=>?_
 have HA:=(HA.add h).add hb
 (apply Y1;refine Z2 ?_;apply Y2;refine Z0 ?_;refine Z0 ?_)
 (refine s_call rfl rfl H HA (IndexFunc_Jn js b i _ _ Lk Lk) ?_;intro vx c H HA)
 obtain ⟨r,rfl,hi⟩:=HA.h.1
 (focus (refine Z97 (fun hq=>?_) fun hq=>?_;refine Z2 ?_;apply Y0;apply wc_ret;rotate_left;refine Z2 ?_;apply Y0;apply wc_ret;rotate_left))
 all_goals exact ret_fn H hm (outs1 Tryz.results133 Wh) (by rw [←hi];simp;omega)
def bestI : Option Nat→Int
 | none=>-1
 | some b=>b
theorem plan_next (x:Cl) (u:Value) (js:List Jn) (v:Value) (mb:Nat) (es:List (Int×Value)) (c:Cx) (h:Ag x u c) (hj:Sl v js c) (hes:intsM es) (hl:x.body.length≤8) (ha:∀a∈x.body,a.args.length≤8) :
  CnT Tryz.prog 118 [u,v,.map (some mb)] [.obj mb (mObj es)] [.obj mb (mObj es)] c (fun r _=>∃i:Int,r=.int .i64 i∧((∃k,k<x.body.length∧k∉js.map Jn.atom)→∃k:Nat,i=k∧k<x.body.length∧k∉js.map Jn.atom)):=by
 refine CnT.of Tryz.func118 Tryz.ntmps118 rfl rfl fun c0 L0 A0 _ H HA=>?_
 have HA:=(HA.add h).add hj
 have H : Owns c0 (.obj mb (mObj es)::L0) c:=H
 (apply wc_seq;apply wc_region)
 (refine s_boxG rfl rfl Lk H HA ?_;intro p c H HA)
 (refine Z2 ?_;apply Y2)
 refine s_bs0 rfl Prim.sz H HA ?_
 intro vz c H HA
 have HA:=HA.add (Vals.nil (α:=Int) _)
 have H : Owns c0 (.row vz 3 1 ([]:List Int).length ([]:List (List Value)).flatten::.obj mb (mObj es)::L0) c:=H
 (refine w_freezeRow H HA Lk rfl rfl Lt ?_;intro c H HA)
 (refine Z2 ?_;refine Z2 ?_;apply Y0;apply wc_seq;apply Y1;refine Z35 HA fun vx HA=>?_;refine Z37 HA fun vx HA=>?_;refine Z45 ?_;refine Z0 ?_;apply Y0;apply wc_block)
 refine wc_loopG (σ:=Nat×Option Nat×List Int×Value) (fun y=>x.body.length-y.1) (fun y=>[(1,v),(2,.map (some mb)),(3,p),(7,.int .i64 (bestI y.2.1)),(8,y.2.2.2),(16,vx),(17,.int .i64 x.body.length),(18,.int .i64 y.1)])
  (fun y=>y.1≤x.body.length∧y.2.2.1.length≤9∧(∀b,y.2.1=some b→b<x.body.length∧b∉js.map Jn.atom)∧∀i,i<y.1→i∉js.map Jn.atom→y.2.1≠none) (fun y=>.obj mb (mObj es)::L0) (fun y c=>Sl y.2.2.2 y.2.2.1 c) (0,none,[],vz) H HA Lk Ks ⟨Nat.zero_le _,Nat.zero_le _,(fun _ h=>by cases h),fun i hi=>by omega⟩ ?_
 clear HA H
 intro y g c hy H HA
 obtain ⟨k,o,lm,vm⟩:=y
 obtain ⟨hk,hlm,ho,hno⟩:=hy
 dsimp only at hk hlm ho hno H HA ⊢
 (repeat' (first|refine Z0 ?_|refine Z2 ?_|apply w_nil|apply wc_seq|apply wc_region|apply wx_next|refine Z18 ?_|refine Z19 ?_|apply wc_ret|apply wc_exit|apply wc_skip|apply wc_block|apply wx_exit_then|apply wx_exit_same|refine Z93 (fun hq=>?_) fun hq=>?_))
 ·obtain ⟨a,hat⟩:=getq (xs:=x.body) (k:=k) (by omega)
  have hal:=ha a (List.mem_of_getElem? hat)
  (refine Z34 HA fun vx HA=>?_;refine Z39 HA fun vx HA=>?_)
  (refine s_alloc rfl (by conv=>lhs;whnf) H HA ?_;intro b9 c H HA)
  (refine s_alloc rfl (by conv=>lhs;whnf) H HA ?_;intro b10 c H HA)
  (refine Z77 fun c H HA=>?_)
  (refine s_storeG (α:=At0) rfl rfl Lk rfl rfl H.swap HA ?_;intro c H HA)
  (refine w_freeze H HA ?_;intro c H HA)
  generalize hp10 : Value.pointer (some ⟨b10,0,none⟩)=p10 at HA ⊢
  (apply Y0;apply wc_seq;apply Y1;refine Z0 ?_)
  (refine s_makeFunc (vs:=[ptr b9]) rfl rfl ?_)
  (skip)
  (refine s_call rfl rfl H HA (ContainsFunc_Jn js b9 k _ _ Lk Lk) ?_;intro vx c H HP;have hvx:=HP.h.1;have HA:=HP.cut;subst hvx)
  cases hc : js.any fun j=>decide (j.atom=k)
  ·have hkn : k∉js.map Jn.atom:=by
    intro hm
    obtain ⟨j,hj,rfl⟩:=List.mem_map.1 hm
    exact absurd (List.any_eq_false.1 hc j hj) (by simp)
   (apply Y0;refine Z19 ?_;apply wc_skip;apply wx_next;apply Y1;refine Z39 HA fun vx HA=>?_;refine Z0 ?_)
   (refine s_callT (pre:=[.obj mb (mObj es)]) (post:=[.obj mb (mObj es)]) rfl rfl H HA (plan_known a _ mb es _ Lk (by omega) hes) ?_;intro vx c H HA)
   obtain ⟨l2,hl2,hll⟩:=HA.h.1
   have HA:=HA.add hl2
   cases o with
   | none =>
    (repeat' (first|refine Z0 ?_|refine Z1 ?_|refine Z2 ?_|apply w_nil|apply wc_seq|apply wc_region|apply wx_next|refine Z18 ?_|refine Z19 ?_|apply wc_skip|apply wx_norm_block|refine Z46 ?_|refine Z97 (fun hq=>?_) fun hq=>?_))
    ·exfalso
     simp [bestI] at hq
    ·have H : Owns c0 (.obj mb (mObj es)::L0) c:=H
     exact wx_loopG ((k+1,some k,l2,_)) H Cu Lk Ks (by dsimp only;omega) ⟨by dsimp only;omega,by dsimp only;omega,(fun b' h=>by cases h;exact ⟨by omega,hkn⟩),fun i hi hni=>by simp⟩
   | some b =>
    obtain ⟨hb1,hb2⟩:=ho b rfl
    obtain ⟨ab,hab⟩:=getq (xs:=x.body) (k:=b) hb1
    have hbl:=ha ab (List.mem_of_getElem? hab)
    have e0 : bestI (some b)=(b:Int):=rfl
    rw [e0]
    (repeat' (first|refine Z0 ?_|refine Z1 ?_|refine Z2 ?_|apply w_nil|apply wc_seq|apply wc_region|apply wx_next|refine Z18 ?_|refine Z19 ?_|apply wc_skip|apply wx_norm_block|refine Z46 ?_|refine Z97 (fun hq=>?_) fun hq=>?_))
    ·(refine dw_start H HA ?_)
     (repeat (first|refine Dc ?_|refine Dm ?_))
     (refine dw_done mixed H HA rfl (by kernel_rfl) ?_;clear H HA;intro c H HA;(repeat (first|rintro vx rfl|(intro vx hx;have HA:=HA.addSF hx;clear hx)|(intro vx hx;have HA:=HA.add hx;clear hx)|intro vx));change W _ _ _ _ _ _ _)
     (apply Y2;refine Z0 ?_;refine Z45 ?_;refine Z0 ?_;refine Z45 ?_)
     (refine s_call rfl rfl H HA (cmp_Compare _ _ _) ?_;intro vx c H HP;have hvx:=HP.h.1;have HA:=HP.cut;subst hvx)
     (refine Z0 ?_;refine Z0 ?_)
     (refine s_call rfl rfl H HA (cmp_Compare _ _ _) ?_;intro vx c H HP;have hvx:=HP.h.1;have HA:=HP.cut;subst hvx)
     (refine Z60 fun vx c H HA=>?_)
     (refine s_call rfl rfl H HA (cmp_Or _ _ _ Lk) ?_;intro vx c H HP;have hvx:=HP.h.1;have HA:=HP.cut;subst hvx)
     have H : Owns c0 (.obj mb (mObj es)::L0) c:=H
     (repeat' (first|refine Z0 ?_|refine Z1 ?_|refine Z2 ?_|apply w_nil|apply wc_region|apply wx_next|refine Z18 ?_|refine Z19 ?_|apply wc_exit|apply wc_skip|apply wx_exit_then|apply wx_exit_same|apply wx_norm_block|refine Z46 ?_|refine Z97 (fun hq=>?_) fun hq=>?_))
     ·exact wx_loopG ((k+1,some b,lm,vm)) H Cu Lk Ks (by dsimp only;omega) ⟨by dsimp only;omega,hlm,ho,fun i hi hni=>by simp⟩
     ·exact wx_loopG ((k+1,some k,l2,_)) H Cu Lk Ks (by dsimp only;omega) ⟨by dsimp only;omega,by dsimp only;omega,(fun b' h=>by cases h;exact ⟨by omega,hkn⟩),fun i hi hni=>by simp⟩
    ·exfalso
     omega
  ·(apply Y0;refine Z18 ?_;apply wc_exit;apply wx_exit_then;apply wx_exit_same;apply wx_next;apply wc_region;refine Z46 ?_;refine Z0 ?_;apply w_nil)
   have hkn : k∈js.map Jn.atom:=by
    obtain ⟨j,hj,hjk⟩:=List.any_eq_true.1 hc
    exact List.mem_map.2 ⟨j,hj,by simpa using hjk⟩
   exact wx_loopG ((k+1,o,lm,vm)) H Cu Lk Ks (by dsimp only;omega) ⟨by dsimp only;omega,hlm,ho,fun i hi hni=>by
    rcases Nat.lt_or_eq_of_le (Nat.le_of_lt_succ hi) with h|rfl
    ·exact hno i h hni
    ·exact absurd hkn hni⟩
 ·exact ret_fnT H (Ca) (outs1 Tryz.results118 Wh) ⟨bestI o,rfl,fun ⟨k',hk',hn⟩=>by
   have h1:=hno k' (by omega) hn
   cases o with
   | none=>exact absurd rfl h1
   | some b=>exact ⟨b,rfl,ho b rfl⟩⟩
end Go.Proofs.YtnppmeeibbefbaaGreatDoor
namespace Go.Wk
open Go Go.RowKit
section
variable {P : Program} {ops : Array Oper} {Q : Exit → Act → World → Prop} {n : Nat} {f : Nat → Value} {rest : List Oper} {ty : TypeId} {ps : String} {af : Array Edge} {d : Tmp}
variable {c0 c : Cx} {L : List Res} {A : Cx → Prop}
theorem s_callBT {α:Type} {iE:Enc α} {os:Array Operand} {aT:Array TypeId} {g:FuncId} {vs:List Value} {φ:Value→Prop} {pre:List Res} {e:TypeId} {kk:Nat} {v:Value} {acc:List α} {vals:List (List Value)} (hn:Nat.blt d n=true) [Ent P g] (hargs:os.toList.map (opd f)=vs)
  (HV:Vals vals acc c) (H:Owns c0 (.row v e kk acc.length vals.flatten::(pre++L)) c) (HA:Hd A c) [Mono A] (hk:Enc.k α=kk) (hlim:acc.length<LIM) (hc:∀c,Hd (fun c=>Sl v acc c∧A c) c→CnT P g vs pre pre c fun u _=>φ u)
  (k:∀u c',φ u→Owns c0 (.row v e kk acc.length vals.flatten::(pre++L)) c'→Hd A c'→W P ops Q rest n (upd f d u) c'.w) : W P ops Q (⟨some d,.call ⟨.value (.func g),os,aT⟩,ty,ps,af,none⟩::rest) n f c.w:=by
 obtain ⟨c1,hw,hle,H1,hS,back⟩:=H.lend HV rfl hk hlim
 rw [←hw]
 have h2:=hc c1 ⟨⟨hS,Mono.mono hle HA.h⟩⟩ c0 L (fun c=>Le c1 c) H1 ⟨Le.refl _⟩
 refine st_enter hn (g:=g) (args:=vs.toArray) (by subst hargs;simp [execOp,resolve,Deferred.ofValue,opd,invoke,Ent.h,←Array.toList_map]) h2 fun u w' ⟨c',hw',H',HA'⟩=>?_
 subst hw'
 obtain ⟨c3,hw3,hle3,H3⟩:=back c' H' HA'.h.2
 rw [←hw3]
 exact k u c3 HA'.h.1 H3 (HA.to hle3)
theorem wc_cutG {σ:Type} {x y:Code} {L0:List Res} (kf:σ→List (Nat×Value)) (p:σ→Prop) (lr:σ→List Res) (S:σ→Cx→Prop) (H:Owns c0 L0 c) (HA:Hd A c) (h:WC P x (CutI n fun f c=>∃s,KS f (kf s)∧p s∧Owns c0 (lr s) c∧Hd (fun c=>S s c∧A c) c) n f c.w)
  (k:∀s g c,p s→Owns c0 (lr s) c→Hd (fun c=>S s c∧A c) c→WC P y Q n (updA g (kf s)) c.w) : WC P (.seq x y) Q n f c.w :=
 wc_cut _ h fun f' c' ⟨s,hk,hp,H,HA⟩=>by
  obtain ⟨g,rfl⟩:=hk.ex
  exact k s g c' hp H HA
theorem wx_cutG {σ:Type} {kf:σ→List (Nat×Value)} {p:σ→Prop} {lr:σ→List Res} {S:σ→Cx→Prop} (s:σ) (H:Owns c0 (lr s) c) (HA:Hd A c) (hS:S s c) (hk:KS f (kf s)) (hp:p s) : WX (CutI n fun f c=>∃s,KS f (kf s)∧p s∧Owns c0 (lr s) c∧Hd (fun c=>S s c∧A c) c) .normal n f c.w:=wx_cut ⟨s,hk,hp,H,HA.add hS⟩
end
theorem intsM_set {es:List (Int×Value)} (h:intsM es) (k m:Int) : intsM (mSet es k (.int .i64 m)):=by
 intro p hp
 rcases mSet_mem hp with hp|rfl
 ·exact h p hp
 ·exact ⟨_,rfl⟩
theorem nodup_range {l:List Nat} {n:Nat} (h:l.Nodup) (h1:∀k∈l,k<n) (h2:n≤l.length) : l.Perm (List.range n):=by
 have h3 : ∀k,k<n→k∈l:=fun k hk=>Classical.byContradiction fun hn=>by
  have h4:=(List.nodup_cons.2 ⟨hn,h⟩).length_le_of_subset (l₂:=List.range n) (fun q hq=>by
   rcases List.mem_cons.1 hq with rfl|hq
   ·exact List.mem_range.2 hk
   ·exact List.mem_range.2 (h1 q hq))
  rw [List.length_range,List.length_cons] at h4
  omega
 refine List.perm_iff_count.2 fun a=>?_
 rw [h.count,List.nodup_range.count]
 simp only [List.mem_range]
 by_cases ha : a<n
 ·rw [if_pos (h3 a ha),if_pos ha]
 ·rw [if_neg (fun h=>ha (h1 a h)),if_neg ha]
end Go.Wk
namespace Go.Proofs.YtnppmeeibbefbaaGreatDoor
open Go Go.Wk Go.RowKit
instance : Ent Tryz.prog 116:=.of Tryz.func116 (by kernel_rfl) (by kernel_rfl)
instance : Ent Tryz.prog 93:=.of Tryz.func93 (by kernel_rfl) (by kernel_rfl)
instance : Ent Tryz.prog 141:=.of Tryz.func141 (by kernel_rfl) (by kernel_rfl)
instance : Ent Tryz.prog 123:=.of Tryz.func123 (by kernel_rfl) (by kernel_rfl)
instance : Agg Tryz.prog 179 2:=.of (by kernel_rfl) (by kernel_rfl)
instance : Zer Tryz.prog 179 (.agg #[.slice none 0 0,.slice none 0 0]):=.of (by kernel_rfl)
instance : Fld Tryz.prog 179 0 0:=.of (k:=0) (by kernel_rfl)
instance : Fld Tryz.prog 179 1 1:=.of (k:=0) (by kernel_rfl)
theorem plan_refused (x:Cl) (u:Value) (lead:Int) (c:Cx) (h:Ag x u c) (hx:x.check=0) (hf:x.fit) (hg:GlobOk c) (h1:-1≤lead) (h2:lead<x.body.length) :
  Cn Tryz.prog 116 [u,.int .i64 lead] c (fun v _=>v=.int .i64 0):=by
 refine Cn.of Tryz.func116 Tryz.ntmps116 rfl rfl fun hm H HA=>?_
 have HA:=(HA.add h).add hg
 (apply wc_seq;apply wc_region)
 (refine s_boxG rfl rfl Lk H HA ?_;intro p c H HA)
 (refine Z2 ?_;apply Y0;apply wc_seq;apply Y1;refine Z39 HA fun vx HA=>?_)
 (refine s_call rfl rfl H HA (clause_Check x _ _ Lk hf Lk) ?_;intro vx c H HP;have hvx:=HP.h.1;have HA:=HP.cut;subst hvx)
 rw [hx]
 (repeat' (first|refine Z0 ?_|refine Z2 ?_|refine Z4 ?_|refine Z5 ?_|refine Z8 ?_|apply w_nil|apply wc_seq|apply wc_region|apply wx_next|refine Z18 ?_|refine Z19 ?_|apply wc_ret|apply wc_skip|apply wx_ret_then|refine Z30 ?_|refine Z35 HA fun vx HA=>?_|refine Z37 HA fun vx HA=>?_|refine Z45 ?_|refine Z93 (fun hq=>?_) fun hq=>?_|refine Z94 (fun hq=>?_) fun hq=>?_|refine Z97 (fun hq=>?_) fun hq=>?_))
 all_goals first|(exfalso;omega)|exact ret_fn H hm (outs1 Tryz.results116 Wh) rfl
theorem plan_parts (k:Nat) (lead:Int) (c:Cx) : Cn Tryz.prog 141 [.int .i64 (k:Int),.int .i64 lead] c (fun v _=>v=.int .i64 (if lead<0∨(k:Int) > lead then 3 else if (k:Int)=lead then 2 else 1)):=by
 refine Cn.of Tryz.func141 Tryz.ntmps141 rfl rfl fun hm H HA=>?_
 (repeat' (first|refine Z0 ?_|refine Z2 ?_|refine Z4 ?_|refine Z5 ?_|refine Z8 ?_|apply w_nil|apply wc_seq|apply wc_region|apply wx_next|refine Z18 ?_|refine Z19 ?_|apply wc_ret|apply wc_skip|apply wc_block|apply wx_ret_then|apply wx_ret_block|apply wx_norm_block|refine Z30 ?_|refine Z92 (fun hq=>?_) fun hq=>?_|refine Z93 (fun hq=>?_) fun hq=>?_|refine Z96 (fun hq=>?_) fun hq=>?_))
 all_goals exact ret_fn H hm (outs1 Tryz.results141 Wh) (by first|(rw [if_pos (by omega)])|(rw [if_neg (by omega),if_pos (by omega)])|(rw [if_neg (by omega),if_neg (by omega)]))
theorem plan_Make (x:Cl) (u:Value) (lead:Int) (c:Cx) (h:Ag x u c) (hx:x.check=0) (hf:x.fit) (hg:GlobOk c) (ht:x.tests=[]) (hl:x.body.length≤8) (ha:∀a∈x.body,a.args.length≤8) (h1:-1≤lead) (h2:lead<x.body.length) :
  Cn Tryz.prog 93 [u,.int .i64 lead] c (fun v c=>∃(v2:Value) (js:List Jn),v=.tuple #[.agg #[.slice none 0 0,v2],.int .i64 0]∧Sl v2 js c∧(js.map Jn.atom).Perm (List.range x.body.length)):=by
 refine Cn.of Tryz.func93 Tryz.ntmps93 rfl rfl fun hm H HA=>?_
 have HA:=(HA.add h).add hg
 (apply wc_seq;apply wc_region)
 (refine s_boxG rfl rfl Lk H HA ?_;intro p c H HA)
 (skip)
 (refine s_alloc (cs:=[.slice none 0 0,.slice none 0 0]) rfl rfl H HA ?_;intro b4 c H HA)
 (refine Z2 ?_;apply Y0;apply wc_seq;apply Y1;refine Z39 HA fun vx HA=>?_;refine Z0 ?_)
 (refine s_call rfl rfl H HA (plan_refused x _ lead _ Lk hx hf Lk h1 h2) ?_;intro vx c H HP;have hvx:=HP.h.1;have HA:=HP.cut;subst hvx)
 (focus (refine Z2 ?_;apply Y2;refine Z0 ?_;refine Z94 (fun hq=>?_) fun hq=>?_;apply Y0;refine Z18 ?_;apply Y1;rotate_left;apply Y0;refine Z19 ?_;apply wc_skip;apply wx_next;apply Y1;rotate_left))
 ·exfalso;omega
 (refine s_alloc rfl (by conv=>lhs;whnf) H HA ?_;intro b7 c H HA)
 (apply Y2;refine Z65 fun mx c H HA=>?_;refine Z2 ?_;apply Y2;refine Z35 HA fun vx HA=>?_;refine Z37 HA fun vx HA=>?_;refine Z45 ?_)
 rw [ht] at HA ⊢
 refine s_makeF (cv:=fun n:Int=>[.int .i64 n]) (u:=(0:Int)) rfl rfl rfl rfl (fun _=>rfl) rfl rfl (by decide) H HA inferInstance ?_
 intro v9 c H HA
 have H:=H.drop
 (refine Z2 ?_;apply Y0;apply wc_seq;apply Y1;refine Z35 HA fun vx HA=>?_;refine Z37 HA fun vx HA=>?_;refine Z45 ?_;refine Z0 ?_;apply Y0;apply wc_block)
 (obtain ⟨vt,rfl⟩:∃x,x=vx:=⟨_,rfl⟩)
 have ht0 : x.tests.length=0:=by rw [ht];rfl
 refine wc_loopN x.tests.length (fun k=>[(1,.int .i64 lead),(2,p),(4,ptr b4),(5,.int .i64 0),(7,ptr b7),(8,.map (some mx)),(9,v9),(35,vt),(36,.int .i64 x.tests.length),(37,.int .i64 k)]) (fun k=>True) 0 H HA Ks (Nat.zero_le _) trivial ?_
 intro k g c hk hp H HA
 (repeat' (first|refine Z0 ?_|apply w_nil|apply wc_seq|apply wc_region|apply wx_next|refine Z18 ?_|refine Z19 ?_|apply wc_exit|apply wc_skip|apply wc_block|apply wx_exit_then|apply wx_exit_same|refine Z93 (fun hq=>?_) fun hq=>?_))
 ·exfalso;omega
 have HA:=HA.add (Vals.nil (α:=Jn) c)
 have H : Owns _ (.obj mx (mObj [])::.obj b7 (.cells #[.slice none 0 0,.slice none 0 0] 179 (0,0))::[.obj b4 (.cells #[.slice none 0 0,.slice none 0 0] 179 (0,0))]) c:=H
 have H:=H.nilR Jn 212 3
 refine wc_loopG (σ:=List Jn×Value×List (List Value)×List (Int×Value)) (fun y=>x.body.length-y.1.length) (fun y=>[(1,.int .i64 lead),(2,p),(4,ptr b4),(5,.int .i64 0),(7,ptr b7),(8,.map (some mx)),(9,v9)])
  (fun y=>(y.1.map Jn.atom).Nodup∧(∀q∈y.1,q.atom<x.body.length)∧y.1.length≤x.body.length∧intsM y.2.2.2)
  (fun y=>.row y.2.1 212 3 y.1.length y.2.2.1.flatten::.obj mx (mObj y.2.2.2)::.obj b7 (.cells #[.slice none 0 0,y.2.1] 179 (0,0))::[.obj b4 (.cells #[.slice none 0 0,.slice none 0 0] 179 (0,0))])
  (fun y c=>Vals y.2.2.1 y.1 c) ([],.slice none 0 0,[],[]) H HA Lk Ks ⟨.nil,(fun _ h=>by cases h),Nat.zero_le _,(fun _ h=>by cases h)⟩ ?_
 clear HA H
 intro y g2 c hy H HA
 obtain ⟨js,v,cl,es⟩:=y
 obtain ⟨hnd,hlt,hle,hes⟩:=hy
 dsimp only at hnd hlt hle hes H HA ⊢
 apply wc_seq
 apply wc_seq
 (focus (apply wc_region;refine Z3 ?_;refine Z41 ?_;refine Z62 ?_;refine Z35 HA fun vx HA=>?_;refine Z37 HA fun vx HA=>?_;refine Z45 ?_;refine Z93 (fun hq=>?_) fun hq=>?_;apply Y0;refine Z18 ?_;apply wc_skip;apply wx_next;apply wc_block;rotate_left;apply Y0;refine Z19 ?_;apply wc_exit;apply wx_exit_then;apply wx_exit_then;apply wx_exit_same;apply wx_next;rotate_left))
 ·apply wc_seq
  (apply wc_region;refine Z0 ?_;refine Z2 ?_;apply Y0)
  have hex : ∃k,k<x.body.length∧k∉js.map Jn.atom:=by
   refine Classical.byContradiction fun hn=>?_
   have h3 : ∀k,k<x.body.length→k∈js.map Jn.atom:=fun k hk=>Classical.byContradiction fun h=>hn ⟨k,hk,h⟩
   have h4:=(List.nodup_range (n:=x.body.length)).length_le_of_subset (l₂:=js.map Jn.atom) (fun k hk=>h3 k (List.mem_range.1 hk))
   rw [List.length_range,List.length_map] at h4
   omega
  refine wc_cutG (σ:=Nat) (fun k=>[(1,.int .i64 lead),(2,p),(4,ptr b4),(5,.int .i64 0),(7,ptr b7),(8,.map (some mx)),(9,v9),(14,.int .i64 (k:Int))]) (fun k=>k<x.body.length∧k∉js.map Jn.atom)
   (fun _=>.row v 212 3 js.length cl.flatten::.obj mx (mObj es)::.obj b7 (.cells #[.slice none 0 0,v] 179 (0,0))::[.obj b4 (.cells #[.slice none 0 0,.slice none 0 0] 179 (0,0))]) (fun _=>Tt) H HA ?_ ?_
  ·(repeat' (first|refine Z0 ?_|refine Z3 ?_|refine Z4 ?_|refine Z5 ?_|refine Z8 ?_|apply w_nil|apply wc_seq|apply wc_region|apply wx_next|refine Z18 ?_|refine Z19 ?_|apply wc_skip|refine Z30 ?_|refine Z39 HA fun vx HA=>?_|refine Z41 ?_|refine Z62 ?_|refine Z93 (fun hq=>?_) fun hq=>?_|refine Z96 (fun hq=>?_) fun hq=>?_))
   iterate 2
    refine s_callBT (α:=Jn) (pre:=[.obj mx (mObj es)]) rfl rfl Lk H HA rfl Lt (fun c HA=>plan_next x _ js v mx es c Lk Lk hes hl ha) ?_
    intro u c hu H HA
    obtain ⟨i,rfl,hi⟩:=hu
    obtain ⟨k,rfl,hk1,hk2⟩:=hi hex
    (refine Z2 ?_;apply w_nil)
    exact wx_cutG k H Cu trivial Ks ⟨hk1,hk2⟩
   ·have hjs : js=[]:=by
     cases js with
     | nil=>rfl
     | cons a l=>exfalso;simp at *
    subst hjs
    obtain ⟨k,rfl⟩:=Int.eq_ofNat_of_zero_le (show 0≤lead by omega)
    exact wx_cutG k H Cu trivial Ks ⟨by omega,List.not_mem_nil⟩
  ·intro k g3 c hk H HA
   obtain ⟨hk1,hk2⟩:=hk
   obtain ⟨a,hat⟩:=getq (xs:=x.body) (k:=k) hk1
   have hal:=ha a (List.mem_of_getElem? hat)
   (apply Y1;refine Z0 ?_;refine Z35 HA fun vx HA=>?_;refine Z37 HA fun vx HA=>?_;refine Z0 ?_;refine Z34 HA fun vx HA=>?_;refine Z39 HA fun vx HA=>?_;refine Z0 ?_)
   have H:=H.swap
   (refine s_callT (pre:=[.obj mx (mObj es)]) (post:=[.obj mx (mObj es)]) rfl rfl H HA (plan_known a _ mx es _ Lk (by omega) hes) ?_;intro vx c H HA)
   obtain ⟨lk,hlk,_⟩:=HA.h.1
   have h1k:=hlk.oneC
   have HA:=HA.add hlk
   (obtain ⟨vk,rfl⟩:∃x,x=vx:=⟨_,rfl⟩)
   (refine Z54 ?_)
   (refine s_alloc rfl (by conv=>lhs;whnf) H HA ?_;intro b15 c H HA)
   (refine Z74 fun c H HA=>?_;apply Y0;apply wc_seq;apply Y1;refine Z35 HA fun vx HA=>?_;refine Z37 HA fun vx HA=>?_;refine Z0 ?_;refine Z34 HA fun vx HA=>?_;refine Z39 HA fun vx HA=>?_)
   (refine s_call rfl rfl H HA (term_Vars a _ _ Lk (by omega)) ?_;intro vx c H HA)
   (refine Z45 ?_;refine Z0 ?_;apply Y0;apply wc_block)
   (obtain ⟨vv,rfl⟩:∃x,x=vx:=⟨_,rfl⟩)
   have H : Owns _ (.obj b15 (.cells #[.int .i64 (k:Int),vk,.slice none 0 0] 212 (0,0))::.obj mx (mObj es)::.row v 212 3 js.length cl.flatten::.obj b7 (.cells #[.slice none 0 0,v] 179 (0,0))::[.obj b4 (.cells #[.slice none 0 0,.slice none 0 0] 179 (0,0))]) c:=H
   have H:=H.swap
   obtain ⟨vs,hvs⟩ : ∃vs,vs=(varsOf a.terms).map Tm.n:=⟨_,rfl⟩
   rw [←hvs] at HA ⊢
   have hvl : Sl vv vs c:=Lk
   have hvl:=hvl.lim
   refine wc_loopG (σ:=Nat×List (Int×Value)) (fun y=>vs.length-y.1) (fun y=>[(1,.int .i64 lead),(2,p),(4,ptr b4),(5,.int .i64 0),(7,ptr b7),(8,.map (some mx)),(9,v9),(14,.int .i64 (k:Int)),(15,ptr b15),(98,vv),(99,.int .i64 vs.length),(100,.int .i64 y.1)]) (fun y=>y.1≤vs.length∧intsM y.2)
    (fun y=>.obj mx (mObj y.2)::.obj b15 (.cells #[.int .i64 (k:Int),vk,.slice none 0 0] 212 (0,0))::.row v 212 3 js.length cl.flatten::.obj b7 (.cells #[.slice none 0 0,v] 179 (0,0))::[.obj b4 (.cells #[.slice none 0 0,.slice none 0 0] 179 (0,0))])
    (fun _=>Tt) (0,es) H HA trivial Ks ⟨Nat.zero_le _,hes⟩ ?_
   clear HA H
   intro y g4 c hy H HA
   obtain ⟨i,es2⟩:=y
   obtain ⟨hi,hes2⟩:=hy
   dsimp only at hi hes2 H HA ⊢
   (repeat' (first|refine Z0 ?_|apply w_nil|apply wc_seq|apply wc_region|apply wx_next|refine Z18 ?_|refine Z19 ?_|apply wc_exit|apply wc_skip|apply wc_block|apply wx_exit_then|apply wx_exit_same|refine Z35 HA fun vx HA=>?_|refine Z37 HA fun vx HA=>?_|refine Z45 ?_|refine Z93 (fun hq=>?_) fun hq=>?_))
   ·obtain ⟨q,hq⟩:=getq (xs:=vs) (k:=i) (by omega)
    obtain ⟨m,hm⟩:=hes2.get q
    (refine Z34 HA fun vx HA=>?_;refine Z36 ?_;refine Z2 ?_;apply Y0;apply wc_region;refine Z0 ?_;refine Z0 ?_;refine Z67 ?_)
    rw [hm]
    apply s_add rfl rfl rfl rfl
    (refine Z68 fun c H HA=>?_;apply w_nil;apply wx_norm_block;apply wx_next;apply wc_region;refine Z46 ?_;refine Z0 ?_;apply w_nil)
    exact wx_loopG ((i+1,_)) H Cu trivial Ks (by dsimp only;omega) ⟨by dsimp only;omega,intsM_set hes2 _ _⟩
   ·(obtain ⟨vq,rfl⟩:∃x,x=vx:=⟨_,rfl⟩)
    refine wc_loopN x.tests.length (fun i=>[(1,.int .i64 lead),(2,p),(4,ptr b4),(5,.int .i64 0),(7,ptr b7),(8,.map (some mx)),(9,v9),(14,.int .i64 (k:Int)),(15,ptr b15),(110,vq),(111,.int .i64 x.tests.length),(112,.int .i64 i)]) (fun k=>True) 0 H HA Ks (Nat.zero_le _) trivial ?_
    intro i g5 c hi hp H HA
    (repeat' (first|refine Z0 ?_|refine Z3 ?_|apply w_nil|apply wc_seq|apply wc_region|apply wx_next|refine Z18 ?_|refine Z19 ?_|apply wc_exit|apply wc_skip|apply wc_block|apply wx_exit_then|apply wx_exit_same|refine Z41 ?_|refine Z42 ?_|refine Z93 (fun hq=>?_) fun hq=>?_))
    ·exfalso;omega
    ·have hgk : Ag (⟨k⟩:Jn) (.agg #[.int .i64 (k:Int),vk,.slice none 0 0]) c:=⟨_,rfl,vk,rfl,h1k⟩
     have HA:=HA.add hgk
     have H : Owns _ (.row v 212 3 js.length cl.flatten::.obj b15 (.cells #[.int .i64 (k:Int),vk,.slice none 0 0] 212 (0,0))::.obj b7 (.cells #[.slice none 0 0,v] 179 (0,0))::.obj mx (mObj es2)::[.obj b4 (.cells #[.slice none 0 0,.slice none 0 0] 179 (0,0))]) c:=H.perm Pm
     (refine Z55 fun vx c H HA=>?_;refine Z59 fun vx c valsx H HA=>?_;refine Z3 ?_;refine Z79 fun c H HA=>?_;apply w_nil;apply wx_norm_block)
     have H2 : Owns _ (.obj b15 (.cells #[.int .i64 (k:Int),vk,.slice none 0 0] 212 (0,0))::.row vx 212 3 (js++[(⟨k⟩:Jn)]).length valsx.flatten::.obj mx (mObj es2)::.obj b7 (.cells #[.slice none 0 0,vx] 179 (0,0))::[.obj b4 (.cells #[.slice none 0 0,.slice none 0 0] 179 (0,0))]) c:=H.perm Pm
     have H:=H2.drop
     have hln : (js++[(⟨k⟩:Jn)]).length=js.length+1:=by simp
     have hjl : js.length<x.body.length:=by
      have h4:=hnd.length_le_of_subset (l₂:=(List.range x.body.length).erase k) (fun q hq=>by
       obtain ⟨j,hj,rfl⟩:=List.mem_map.1 hq
       refine (List.mem_erase_of_ne ?_).2 (List.mem_range.2 (hlt j hj))
       rintro rfl
       exact hk2 hq)
      rw [List.length_erase_of_mem (List.mem_range.2 hk1),List.length_range,List.length_map] at h4
      omega
     refine wx_loopG ((js++[(⟨k⟩:Jn)],vx,valsx,es2)) H Cu Lk Ks (by dsimp only;omega) ⟨?_,?_,by dsimp only;omega,hes2⟩
     ·rw [List.map_append,List.nodup_append]
      refine ⟨hnd,List.nodup_cons.2 ⟨List.not_mem_nil,List.nodup_nil⟩,?_⟩
      rintro q hq q2 hq2 rfl
      have hq3 : q=k:=by simpa using hq2
      exact hk2 (hq3▸hq)
     ·intro q hq
      rcases List.mem_append.1 hq with hq|hq
      ·exact hlt q hq
      ·rw [List.mem_singleton.1 hq]
       exact hk1
 ·(refine wc_freezeRow H HA Lk rfl rfl Lt ?_;intro c H HA)
  (apply Y1;refine Z42 ?_;refine Z78 fun c H HA=>?_;refine Z2 ?_;apply Y0;apply wc_ret)
  exact ret_fn H hm (outsR2 Tryz.results93 (RV.agg rfl H Ow Rc) (RV.tmp Wh)) ⟨v,js,rfl,Lk,nodup_range hnd (fun k hk=>by
   obtain ⟨q,hq,rfl⟩:=List.mem_map.1 hk
   exact hlt q hq) (by rw [List.length_map];omega)⟩
theorem plan_holds (x:Cl) (u v:Value) (c:Cx) (h:Ag x u c) : Cn Tryz.prog 123 [u,.slice none 0 0,v] c (fun v _=>v=.bool true):=by
 refine Cn.of Tryz.func123 Tryz.ntmps123 rfl rfl fun hm H HA=>?_
 have HA:=HA.add h
 (apply wc_seq;apply wc_region)
 (refine s_boxG rfl rfl Lk H HA ?_;intro p c H HA)
 (refine Z2 ?_;apply Y0;apply wc_seq;apply Y1;refine Z0 ?_;refine Z44 ?_;refine Z0 ?_;apply Y0;apply wc_block)
 refine wc_loopN 0 (fun k=>[(12,.int .i64 (0:Nat)),(13,.int .i64 k)]) (fun k=>True) 0 H HA Ks (Nat.zero_le _) trivial ?_
 intro k g c hk hp H HA
 (repeat' (first|refine Z2 ?_|apply w_nil|apply wc_seq|apply wc_region|apply wx_next|refine Z18 ?_|refine Z19 ?_|apply wc_ret|apply wc_exit|apply wc_skip|apply wc_block|apply wx_exit_then|apply wx_exit_same|refine Z93 (fun hq=>?_) fun hq=>?_))
 ·exfalso;omega
 ·exact ret_fn H hm (outs1 Tryz.results123 Wh) rfl
end Go.Proofs.YtnppmeeibbefbaaGreatDoor
namespace Go.Wk
open Go Go.RowKit
def fa (dn:ByteArray) (t:Tm) : At0:=⟨Tn,dn,[t]⟩
theorem fa_inj {dn:ByteArray} {t t':Tm} : fa dn t=fa dn t'↔t=t':=by simp [fa]
theorem part_by {B:BaS} {l:RlS→List En0} {a:At0} (h:a∈B.part l) : a.by_=Tn:=by
 obtain ⟨q,_,e,_,rfl⟩:=mem_part.1 h
 rfl
theorem has_fa {B:BaS} {parts:Nat} {dn:ByteArray} {a:At0} (h:B.has parts dn a) : ∃t,a=fa dn t:=by
 obtain ⟨h,h1,h2⟩:=h
 have hb : a.by_=Tn:=by
  rcases h with ⟨_,h⟩|⟨_,h⟩|⟨_,h⟩
  ·exact part_by h
  ·exact part_by h
  ·exact part_by h
 obtain ⟨b,n,os⟩:=a
 simp only at h1 h2 hb
 subst h1 hb
 match os,h2 with
 | [t],_=>exact ⟨t,rfl⟩
theorem match_fa {dn:ByteArray} (j:Nat) (t:Tm) {s:List Bd} (hs:lookB s j=none) : ∃s',matchA (pat dn j) (fa dn t) s=some s'∧s'.length≤s.length+2∧∀v,lookB s' v=if v=(j:Int) then some t else lookB s v:=by
 have hv : Tm.isVar ⟨3,(j:Int),ES⟩=true:=by simp [Tm.isVar]
 have h0 : Tm.isVar Tn=false:=rfl
 have hm : matchA (pat dn j) (fa dn t) s=some (settledB (s++[⟨(j:Int),t⟩])):=by
  rw [matchA_scan]
  have h1 : matchOk (pat dn j) (fa dn t)=true:=by simp [matchOk,pat,fa,h0]
  rw [h1,if_neg (by decide)]
  simp [pat,fa,At0.terms,scan,h0,hv,hs]
 refine ⟨_,hm,?_,fun v=>?_⟩
 ·exact matchA_length hm
 ·rw [lookB_settled,lookB_append]
  by_cases e : v=(j:Int)
  ·subst e
   rw [hs]
   simp [lookB]
  ·rw [if_neg e]
   have e2 : ¬(j:Int)=v:=fun h=>e h.symm
   cases lookB s v<;>simp [lookB,e2]
structure Lv where
 facts : List At0
 tried : Nat
 ahead : List Bd
section
variable (X : Nat → Tm → Prop) (dn : ByteArray) (ps : List Nat) (m : Nat)
structure PartS (r:Nat) (s:List Bd) : Prop where
 has : ∀j∈ps.take r,∃t,lookB s (j:Int)=some t∧X j t
 no : ∀j∈ps.drop r,lookB s (j:Int)=none
 len : s.length≤2*r
def FactsS (j:Nat) (l:List At0) : Prop:=(∀t,fa dn t∈l↔X j t)∧(∀a∈l,∃t,a=fa dn t)∧l.length≤m
structure LvOk (r:Nat) (l:Lv) : Prop where
 lt : l.tried≤l.facts.length
 ah : PartS X ps r l.ahead
 fs : ∃j,ps[r]?=some j∧FactsS X dn m j l.facts
def AgrS (r:Nat) (s:List Bd) (σ:Nat→Tm) : Prop:=∀j∈ps.take r,lookB s (j:Int)=some (σ j)
def PendS (st:List Lv) (σ:Nat→Tm) : Prop:=∃r l j,st[r]?=some l∧ps[r]?=some j∧AgrS ps r l.ahead σ∧fa dn (σ j)∈l.facts.drop l.tried
def cnL : Nat→List Lv→Nat
 | _,[]=>0
 | i,l::ls=>(l.facts.length-l.tried)*m ^ (ps.length-1-i)+cnL (i+1) ls
def muL : Nat→List Lv→Nat
 | _,[]=>0
 | i,l::ls=>(l.facts.length-l.tried)*(2*(m+1) ^ (ps.length-i))+1+muL (i+1) ls
structure DfS (st:List Lv) (out:List (List Bd)) : Prop where
 ok : ∀(r:Nat) (l:Lv),st[r]?=some l→LvOk X dn ps m r l
 sound : ∀s∈out,PartS X ps ps.length s
 full : ∀σ : Nat→Tm,(∀j∈ps,X j (σ j))→(∃s∈out,AgrS ps ps.length s σ)∨PendS dn ps st σ
 cnt : out.length+cnL ps m 0 st≤m ^ ps.length
end
section
variable {X : Nat → Tm → Prop} {dn : ByteArray} {ps : List Nat} {m : Nat}
theorem cnL_app : ∀(os bs:List Lv) (i:Nat),cnL ps m i (os++bs)=cnL ps m i os+cnL ps m (i+os.length) bs
 | [],bs,i=>by simp [cnL]
 | l::os,bs,i=>by
  have:=cnL_app os bs (i+1)
  simp only [List.cons_append,cnL,List.length_cons]
  rw [this,show i+1+os.length=i+(os.length+1) by omega]
  omega
theorem muL_app : ∀(os bs:List Lv) (i:Nat),muL ps m i (os++bs)=muL ps m i os+muL ps m (i+os.length) bs
 | [],bs,i=>by simp [muL]
 | l::os,bs,i=>by
  have:=muL_app os bs (i+1)
  simp only [List.cons_append,muL,List.length_cons]
  rw [this,show i+1+os.length=i+(os.length+1) by omega]
  omega
theorem take_one {r j:Nat} (h:ps[r]?=some j) : ps.take (r+1)=ps.take r++[j]:=by
 rw [List.take_add_one,h];rfl
theorem drop_one' {r j:Nat} (h:ps[r]?=some j) : ps.drop r=j::ps.drop (r+1):=by
 obtain ⟨h1,h2⟩:=List.getElem?_eq_some_iff.1 h
 rw [List.drop_eq_getElem_cons h1,h2]
theorem DfS.start {j:Nat} {fs:List At0} (h0:ps[0]?=some j) (hf:FactsS X dn m j fs) : DfS X dn ps m [⟨fs,0,[]⟩] []:=by
 refine ⟨?_,?_,?_,?_⟩
 ·intro r l h
  cases r with
  | zero =>
   simp only [List.getElem?_cons_zero,Option.some.injEq] at h
   subst h
   exact ⟨Nat.zero_le _,⟨(by intro j hj;simp at hj),(fun _ _=>rfl),Nat.zero_le _⟩,j,h0,hf⟩
  | succ r=>simp at h
 ·intro s hs
  cases hs
 ·intro σ hσ
  refine .inr ⟨0,_,j,rfl,h0,(by intro j hj;simp at hj),?_⟩
  rw [List.drop_zero]
  exact (hf.1 _).2 (hσ j (List.mem_of_getElem? h0))
 ·have hk:=(List.getElem?_eq_some_iff.1 h0).1
  have h2:=hf.2.2
  have e : ps.length=ps.length-1-0+1:=by omega
  simp only [cnL,List.length_nil,Nat.zero_add,Nat.add_zero,Nat.sub_zero]
  calc fs.length*m ^ (ps.length-1)≤m*m ^ (ps.length-1):=Nat.mul_le_mul_right _ h2
   _=m ^ ps.length:=by rw [Nat.mul_comm,←Nat.pow_succ];congr 1;omega
theorem DfS.pop {os:List Lv} {l:Lv} {out:List (List Bd)} (h:DfS X dn ps m (os++[l]) out) (he:l.facts.length≤l.tried) : DfS X dn ps m os out:=by
 refine ⟨?_,h.sound,?_,?_⟩
 ·intro r x hx
  refine h.ok r x ?_
  rw [List.getElem?_append_left (List.getElem?_eq_some_iff.1 hx).1,hx]
 ·intro σ hσ
  rcases h.full σ hσ with h1|⟨r,x,j,hx,hj,ha,hm⟩
  ·exact .inl h1
  ·refine .inr ⟨r,x,j,?_,hj,ha,hm⟩
   rcases Nat.lt_or_ge r os.length with hr|hr
   ·rwa [List.getElem?_append_left hr] at hx
   ·exfalso
    rw [List.getElem?_append_right hr] at hx
    have : x=l:=by
     cases hq : r-os.length with
     | zero=>rw [hq] at hx;simpa using hx.symm
     | succ q=>rw [hq] at hx;simp at hx
    subst this
    rw [List.drop_eq_nil_of_le he] at hm
    cases hm
 ·have:=h.cnt
  rw [cnL_app] at this
  omega
structure StpS (X:Nat→Tm→Prop) (dn:ByteArray) (ps:List Nat) (r:Nat) (l:Lv) (j:Nat) (t:Tm) (s:List Bd) : Prop where
 at_ : ps[r]?=some j
 fact : l.facts[l.tried]?=some (fa dn t)
 hit : matchA (pat dn j) (fa dn t) l.ahead=some s
 part : PartS X ps (r+1) s
 agr : ∀σ,AgrS ps r l.ahead σ→σ j=t→AgrS ps (r+1) s σ
theorem LvOk.step {r:Nat} {l:Lv} (h:LvOk X dn ps m r l) (hnd:ps.Nodup) (hl:l.tried<l.facts.length) : ∃j t s,StpS X dn ps r l j t s:=by
 obtain ⟨j,hj,hf⟩:=h.fs
 obtain ⟨a,ha⟩:=getq (xs:=l.facts) (k:=l.tried) hl
 obtain ⟨t,rfl⟩:=hf.2.1 a (List.mem_of_getElem? ha)
 have hX : X j t:=(hf.1 t).1 (List.mem_of_getElem? ha)
 have hd:=drop_one' hj
 have hno : lookB l.ahead (j:Int)=none:=h.ah.no j (by rw [hd];exact .head _)
 obtain ⟨s,hs,hsl,hlk⟩:=match_fa (dn:=dn) j t hno
 have hnj : j∉ps.take r∧j∉ps.drop (r+1):=by
  have h1 : (ps.take r++j::ps.drop (r+1)).Nodup:=by rw [←hd,List.take_append_drop];exact hnd
  rw [List.nodup_append] at h1
  exact ⟨fun h=>h1.2.2 j h j (.head _) rfl,(List.nodup_cons.1 h1.2.1).1⟩
 refine ⟨j,t,s,hj,ha,hs,⟨?_,?_,?_⟩,?_⟩
 ·intro i hi
  rw [take_one hj] at hi
  rw [hlk]
  rcases List.mem_append.1 hi with hi2|hi2
  ·rw [if_neg (by intro e;have:i=j:=(by omega);subst this;exact hnj.1 hi2)]
   exact h.ah.has i hi2
  ·rw [List.mem_singleton.1 hi2,if_pos rfl]
   exact ⟨t,rfl,hX⟩
 ·intro i hi
  rw [hlk,if_neg (by intro e;have:i=j:=(by omega);subst this;exact hnj.2 hi)]
  exact h.ah.no i (by rw [hd];exact .tail _ hi)
 ·have:=h.ah.len
  omega
 ·intro σ hσ he i hi
  rw [take_one hj] at hi
  rw [hlk]
  rcases List.mem_append.1 hi with hi2|hi2
  ·rw [if_neg (by intro e;have:i=j:=(by omega);subst this;exact hnj.1 hi2)]
   exact hσ i hi2
  ·rw [List.mem_singleton.1 hi2,if_pos rfl,he]
theorem drop_step {l:Lv} {t:Tm} (h:l.facts[l.tried]?=some (fa dn t)) {a:At0} (ha:a∈l.facts.drop l.tried) : a=fa dn t∨a∈l.facts.drop (l.tried+1):=by
 obtain ⟨h1,h2⟩:=List.getElem?_eq_some_iff.1 h
 rw [List.drop_eq_getElem_cons h1,h2] at ha
 rcases List.mem_cons.1 ha with rfl|ha
 ·exact .inl rfl
 ·exact .inr ha
theorem last_get {os:List Lv} {l x:Lv} {r:Nat} (h:(os++[l])[r]?=some x) : (r<os.length∧os[r]?=some x)∨(r=os.length∧x=l):=by
 rcases Nat.lt_or_ge r os.length with hr|hr
 ·rw [List.getElem?_append_left hr] at h
  exact .inl ⟨hr,h⟩
 ·rw [List.getElem?_append_right hr] at h
  cases hq : r-os.length with
  | zero=>rw [hq] at h;exact .inr ⟨by omega,by simpa using h.symm⟩
  | succ q=>rw [hq] at h;simp at h
theorem sub_step {a b:Nat} (h:b<a) (w:Nat) : (a-b)*w=(a-(b+1))*w+w:=by
 rw [show a-b=a-(b+1)+1 by omega,Nat.succ_mul]
theorem DfS.emit {os:List Lv} {l:Lv} {out:List (List Bd)} {j:Nat} {t:Tm} {s:List Bd} (h:DfS X dn ps m (os++[l]) out) (hs:StpS X dn ps os.length l j t s) (hk:os.length+1=ps.length) : DfS X dn ps m (os++[⟨l.facts,l.tried+1,l.ahead⟩]) (out++[s]):=by
 have hlt:=(List.getElem?_eq_some_iff.1 hs.fact).1
 have hlast:=h.ok os.length l (by simp)
 refine ⟨?_,?_,?_,?_⟩
 ·intro r x hx
  rcases last_get hx with ⟨hr,hx⟩|⟨rfl,rfl⟩
  ·exact h.ok r x (by rw [List.getElem?_append_left hr,hx])
  ·exact ⟨hlt,hlast.ah,hlast.fs⟩
 ·intro x hx
  rcases List.mem_append.1 hx with hx|hx
  ·exact h.sound x hx
  ·rw [List.mem_singleton.1 hx,←hk]
   exact hs.part
 ·intro σ hσ
  rcases h.full σ hσ with ⟨x,hx,ha⟩|⟨r,x,i,hx,hi,ha,hm⟩
  ·exact .inl ⟨x,List.mem_append_left _ hx,ha⟩
  ·rcases last_get hx with ⟨hr,hx⟩|⟨rfl,rfl⟩
   ·exact .inr ⟨r,x,i,by rw [List.getElem?_append_left hr,hx],hi,ha,hm⟩
   ·have hij : i=j:=Option.some.inj (hi.symm.trans hs.at_)
    subst hij
    rcases drop_step hs.fact hm with e|hm
    ·refine .inl ⟨s,List.mem_append_right _ (.head _),?_⟩
     rw [←hk]
     exact hs.agr σ ha (fa_inj.1 e)
    ·exact .inr ⟨os.length,⟨x.facts,x.tried+1,x.ahead⟩,i,by simp,hi,ha,hm⟩
 ·have h1:=h.cnt
  rw [cnL_app] at h1 ⊢
  simp only [cnL,Nat.zero_add,Nat.add_zero,List.length_append,List.length_cons,List.length_nil] at h1 ⊢
  have e : ps.length-1-os.length=0:=by omega
  rw [e,Nat.pow_zero] at h1 ⊢
  rw [sub_step hlt] at h1
  omega
theorem DfS.push {os:List Lv} {l:Lv} {out:List (List Bd)} {j i:Nat} {t:Tm} {s:List Bd} {fs:List At0} (h:DfS X dn ps m (os++[l]) out) (hs:StpS X dn ps os.length l j t s) (hi:ps[os.length+1]?=some i) (hf:FactsS X dn m i fs) :
  DfS X dn ps m ((os++[⟨l.facts,l.tried+1,l.ahead⟩])++[⟨fs,0,s⟩]) out:=by
 have hlt:=(List.getElem?_eq_some_iff.1 hs.fact).1
 have hlast:=h.ok os.length l (by simp)
 have hl2 : (os++[(⟨l.facts,l.tried+1,l.ahead⟩:Lv)]).length=os.length+1:=by simp
 refine ⟨?_,h.sound,?_,?_⟩
 ·intro r x hx
  rcases last_get hx with ⟨hr,hx⟩|⟨rfl,rfl⟩
  ·rcases last_get hx with ⟨hr,hx⟩|⟨rfl,rfl⟩
   ·exact h.ok r x (by rw [List.getElem?_append_left hr,hx])
   ·exact ⟨hlt,hlast.ah,hlast.fs⟩
  ·rw [hl2]
   exact ⟨Nat.zero_le _,hs.part,i,hi,hf⟩
 ·intro σ hσ
  rcases h.full σ hσ with h1|⟨r,x,i2,hx,hi2,ha,hm⟩
  ·exact .inl h1
  ·refine .inr ?_
   rcases last_get hx with ⟨hr,hx⟩|⟨rfl,rfl⟩
   ·exact ⟨r,x,i2,by rw [List.append_assoc,List.getElem?_append_left hr,hx],hi2,ha,hm⟩
   ·have hij : i2=j:=Option.some.inj (hi2.symm.trans hs.at_)
    subst hij
    rcases drop_step hs.fact hm with e|hm
    ·refine ⟨os.length+1,⟨fs,0,s⟩,i,?_,hi,hs.agr σ ha (fa_inj.1 e),?_⟩
     ·rw [List.getElem?_append_right (by rw [hl2];omega),hl2,Nat.sub_self];rfl
     ·exact (hf.1 _).2 (hσ i (List.mem_of_getElem? hi))
    ·exact ⟨os.length,⟨x.facts,x.tried+1,x.ahead⟩,i2,by simp,hi2,ha,hm⟩
 ·have h1:=h.cnt
  have hk:=(List.getElem?_eq_some_iff.1 hi).1
  rw [cnL_app] at h1
  rw [cnL_app,cnL_app,hl2]
  simp only [cnL,Nat.zero_add,Nat.add_zero,Nat.sub_zero] at h1 ⊢
  rw [sub_step hlt] at h1
  have h3 : fs.length*m ^ (ps.length-1-(os.length+1))≤m ^ (ps.length-1-os.length):=by
   have e : ps.length-1-os.length=ps.length-1-(os.length+1)+1:=by omega
   rw [e,Nat.pow_succ,Nat.mul_comm (m ^ _) m]
   exact Nat.mul_le_mul_right _ hf.2.2
  omega
theorem mu_emit {os:List Lv} {l:Lv} (hl:l.tried<l.facts.length) : muL ps m 0 (os++[⟨l.facts,l.tried+1,l.ahead⟩])<muL ps m 0 (os++[l]):=by
 rw [muL_app,muL_app]
 simp only [muL,Nat.zero_add,Nat.add_zero]
 rw [sub_step hl]
 have : 0<(m+1) ^ (ps.length-os.length):=Nat.pow_pos (by omega)
 omega
theorem mu_pop {os:List Lv} {l:Lv} : muL ps m 0 os<muL ps m 0 (os++[l]):=by
 rw [muL_app]
 simp only [muL]
 omega
theorem mu_push {os:List Lv} {l:Lv} {s:List Bd} {fs:List At0} (hl:l.tried<l.facts.length) (hk:os.length<ps.length) (hf:fs.length≤m) : muL ps m 0 ((os++[⟨l.facts,l.tried+1,l.ahead⟩])++[⟨fs,0,s⟩])<muL ps m 0 (os++[l]):=by
 have hl2 : (os++[(⟨l.facts,l.tried+1,l.ahead⟩:Lv)]).length=os.length+1:=by simp
 rw [muL_app,muL_app,muL_app,hl2]
 simp only [muL,Nat.zero_add,Nat.add_zero,Nat.sub_zero]
 rw [sub_step hl]
 obtain ⟨q,hq⟩ : ∃q,q=(m+1) ^ (ps.length-(os.length+1)):=⟨_,rfl⟩
 have e : (m+1) ^ (ps.length-os.length)=m*q+q:=by
  rw [show ps.length-os.length=ps.length-(os.length+1)+1 by omega,Nat.pow_succ,←hq,Nat.mul_add,Nat.mul_one,Nat.mul_comm]
 have hq0 : 0<q:=by rw [hq];exact Nat.pow_pos (by omega)
 have h3 : fs.length*(2*q)≤m*(2*q):=Nat.mul_le_mul_right _ hf
 rw [←hq,e]
 have e2 : m*(2*q)=2*(m*q):=by rw [Nat.mul_left_comm]
 omega
end
end Go.Wk
namespace Go.Wk
open Go
theorem isVar_parts {t:Tm} (h:t.isVar=true) : t.k=3∧0≤t.n∧t.s=ES:=by
 simp [Tm.isVar] at h
 exact ⟨h.1,h.2.1,h.2.2⟩
theorem outS_const (φ:Tm→Tm) : ∀l : List Tm,outS (fun (_:Unit) (_:Tm)=>()) (fun _ t=>φ t) () l=l.map φ
 | []=>rfl
 | t::l=>by rw [outS,outS_const φ l];rfl
theorem repC_const (φ:Tm→Tm) (x:Cl) : repC (fun (_:Unit) (_:Tm)=>()) (fun _ t=>φ t) () x=x.map φ:=by
 have h1 : ∀a : At0,repA (fun (_:Unit) (_:Tm)=>()) (fun _ t=>φ t) () a=a.map φ:=fun a=>by rw [repA,outS_const];rfl
 have h2 : ∀l : List At0,repAs (fun (_:Unit) (_:Tm)=>()) (fun _ t=>φ t) () l=l.map fun a=>a.map φ:=fun l=>by
  induction l with
  | nil=>rfl
  | cons a l ih=>rw [repAs,h1,ih];rfl
 have h3 : ∀l : List Ts,repTs (fun (_:Unit) (_:Tm)=>()) (fun _ t=>φ t) () l=l.map fun t=>⟨t.op,φ t.l,φ t.r⟩:=fun l=>by
  induction l with
  | nil=>rfl
  | cons a l ih=>rw [repTs,ih];rfl
 rw [repC,h1,h2,h3]
 rfl
end Go.Wk
namespace Go.Proofs.YtnppmeeibbefbaaGreatDoor
open Go Go.Wk Go.RowKit
instance : Ent Tryz.prog 38:=.of Tryz.func38 (by kernel_rfl) (by kernel_rfl)
instance : Ent Tryz.prog 68:=.of Tryz.func68 (by kernel_rfl) (by kernel_rfl)
instance : Ent Tryz.prog 100:=.of Tryz.func100 (by kernel_rfl) (by kernel_rfl)
theorem term_Apply (s:List Bd) (v:Value) (a:At0) (u:Value) (c:Cx) (hs:Sl v s c) (h:Ag a u c) (hg:Box 1 Tn.cs c) : Cn Tryz.prog 38 [v,u] c (fun r c=>Ag (applyA s a) r c):=by
 refine Cn.of Tryz.func38 Tryz.ntmps38 rfl rfl fun hm H HA=>?_
 have hl : a.args.length<1099511627776:=by obtain ⟨cs,rfl,v,rfl,h⟩:=h;exact h.lim
 have hsl:=hs.lim
 have HA:=((HA.add hs).add h).add hg
 (apply wc_seq;apply wc_region)
 (refine s_boxG rfl rfl Lk H HA ?_;intro p c H HA)
 (refine s_alloc rfl (by conv=>lhs;whnf) H HA ?_;intro b4 c H HA)
 (apply Y0;apply wc_seq)
 (refine dw_start H HA ?_)
 (repeat (refine Dc ?_))
 (apply dw_cons;(focus ((intro B _ Lx c H HA;(repeat (first|rintro vx rfl|(intro vx hx;have HA:=HA.addSF hx;clear hx)|(intro vx hx;have HA:=HA.add hx;clear hx)|intro vx));change W _ _ _ _ _ _ _);(refine s_call rfl rfl H HA (term_become s v a.by_ _ Lk Lk) ?_;intro vx c H HP;have hvx:=HP.h.1;have HA:=HP.cut;subst hvx);exact Dx));exact inferInstance)
 (repeat (refine Dc ?_))
 ((refine dw_doneO mixed H HA (by kernel_rfl) (by kernel_rfl) ?_;clear H HA;intro c HA;(repeat (first|(intro bx;have hbx:bx+0=bx:=rfl;clear hbx)|rintro vx rfl|(intro vx hx;have HA:=HA.addSF hx;clear hx)|(intro vx hx;skip;have HA:=HA.add hx;clear hx)|(intro vx;have hvx2:Go.Value:=vx;clear hvx2)));(first|intro H|(have H:=HA.h.1;have HA:=HA.cut));change W _ _ _ _ _ _ _);have H:Owns _ (.obj bx (.cells (At0.cs ⟨Tn,ES,[]⟩ (.slice none 0 0)).toArray 35 (0,0))::.obj b4 (.cells (At0.cs ⟨Tn,ES,[]⟩ (.slice none 0 0)).toArray 35 (0,0))::[]) _:=H)
 (refine Z74 fun c H HA=>?_;apply Y0;apply wc_seq;apply Y1;refine Z35 HA fun vx HA=>?_;refine Z37 HA fun vx HA=>?_;refine Z45 ?_;refine Z0 ?_;apply Y0;apply wc_block)
 (obtain ⟨va,rfl⟩:∃x,x=vx:=⟨_,rfl⟩)
 (obtain ⟨b5,rfl⟩:∃x,x=bx:=⟨_,rfl⟩)
 have H:=H.nilR Tm 32 3
 refine wc_loopG (σ:=Nat×List Tm×Value) (fun y=>a.args.length-y.1) (fun y=>[(0,v),(4,.pointer (some ⟨b4,0,none⟩)),(5,.pointer (some ⟨b5,0,none⟩)),(16,va),(17,.int .i64 a.args.length),(18,.int .i64 y.1)]) (fun y=>y.1≤a.args.length∧y.2.1=(a.args.take y.1).map (becomeT s))
  (fun y=>[.row y.2.2 32 3 y.2.1.length (y.2.1.map Tm.cs).flatten,.obj b5 (.cells (At0.cs ⟨becomeT s a.by_,a.name,[]⟩ y.2.2).toArray 35 (0,0)),.obj b4 (.cells (At0.cs ⟨Tn,ES,[]⟩ (.slice none 0 0)).toArray 35 (0,0))]) (fun _=>Tt) (0,[],.slice none 0 0) H HA trivial Ks ⟨Nat.zero_le _,rfl⟩ ?_
 intro y g c hp H HA
 obtain ⟨k,acc,vr⟩:=y
 obtain ⟨hk,hacc⟩:=hp
 dsimp only at hk hacc H HA ⊢
 have hal : acc.length=k:=by rw [hacc,List.length_map,List.length_take];omega
 (repeat' (first|apply w_nil|apply wc_seq|apply wc_region|apply wx_next|refine Z18 ?_|refine Z19 ?_|apply wc_ret|apply wc_exit|apply wc_skip|apply wc_block|apply wx_exit_then|apply wx_exit_same|refine Z42 ?_|refine Z78 fun c H HA=>?_|refine Z93 (fun hq=>?_) fun hq=>?_))
 ·obtain ⟨t,ht⟩:=getq (xs:=a.args) (k:=k) (by omega)
  (refine Z34 HA fun vx HA=>?_;refine Z38 ?_;refine Z61 fun bx c H HA=>?_;refine Z74 fun c H HA=>?_;apply Y0)
  (refine wc_freeze H HA ?_;intro c H HA)
  (refine dw_start H HA ?_)
  (repeat (refine Dc ?_))
  (apply dw_cons;(focus ((intro B _ Lx c H HA;(repeat (first|rintro vx rfl|(intro vx hx;have HA:=HA.addSF hx;clear hx)|(intro vx hx;have HA:=HA.add hx;clear hx)|intro vx));change W _ _ _ _ _ _ _);(refine s_call rfl rfl H HA (term_become s v t _ Lk Lk) ?_;intro vx c H HP;have hvx:=HP.h.1;have HA:=HP.cut;subst hvx);exact Dx));exact inferInstance)
  (apply dw_cons;(focus ((intro B _ Lx c H HA;(repeat (first|rintro vx rfl|(intro vx hx;have HA:=HA.addSF hx;clear hx)|(intro vx hx;have HA:=HA.add hx;clear hx)|intro vx));change W _ _ _ _ _ _ _);(apply s_bs1D (u:=becomeT s t);exact rfl;exact rfl;exact rfl;exact rfl;exact rfl;exact rfl;exact H;exact HA;exact inferInstance;intro vx c H HA);exact Dx));exact inferInstance)
  (refine dw_done mixed H HA rfl (by kernel_rfl) ?_;clear H HA;intro c H HA;(repeat (first|rintro vx rfl|(intro vx hx;have HA:=HA.addSF hx;clear hx)|(intro vx hx;have HA:=HA.add hx;clear hx)|intro vx));change W _ _ _ _ _ _ _)
  have HA:=HA.add (vals_map (P:=Tryz.prog) (e:=32) acc c)
  (refine Z59 fun vx c valsx H HA=>?_;refine Z3 ?_;refine Z77 fun c H HA=>?_;apply w_nil;apply wx_norm_block;apply wx_next;apply wc_region;refine Z46 ?_;refine Z0 ?_;apply w_nil)
  have hvv:=vals_is (cv:=Tm.cs) (Lk:Vals valsx (acc++[becomeT s t]) c)
  subst hvv
  exact wx_loopG ((k+1,acc++[becomeT s t],vx)) H.swap Cu trivial Ks (by dsimp only;omega) ⟨by dsimp only;omega,by
   dsimp only
   rw [List.take_add_one,ht,hacc]
   simp⟩
 ·have e : acc=a.args.map (becomeT s):=by rw [hacc,List.take_of_length_le (by omega)]
  subst e
  have HA:=HA.add (vals_map (P:=Tryz.prog) (e:=32) (a.args.map (becomeT s)) c)
  have H:=H.pull 1 rfl
  (refine wx_freezeRow H HA Lk rfl rfl Lt ?_;intro c H HA)
  exact ret_fn H hm (outsR1 Tryz.results38 (RV.agg rfl H Ow Rc)) ⟨_,rfl,_,rfl,Lk⟩
theorem inst_clo (pb:Nat) (vs:List Tm) (v:Value) : CloR Tryz.prog 100 [.pointer (some ⟨pb,0,none⟩)] (fun (_:Unit)=>[]) (fun c=>Box pb [v] c∧Sl v vs c) (fun _ _=>True) (fun _ _=>()) (fun _ t=>instT vs t):=⟨by
 intro s t c hF _
 refine Cn.t ?_
 refine Cn.of Tryz.func100 Tryz.ntmps100 rfl rfl fun hm H HA=>?_
 have hl:=hF.2.lim
 have HA:=(HA.add hF.1).add hF.2
 (apply Y1;refine Z31 fun bx c H HA=>?_;refine Z61 fun bx c H HA=>?_;apply Y0;apply wc_seq;apply Y1;refine Z7 ?_)
 (refine s_call rfl rfl H HA (term_Variable t _) ?_;intro vx c H HP;have hvx:=HP.h.1;have HA:=HP.cut;subst hvx)
 cases hv : t.isVar with
 | false =>
  (refine Z0 ?_;refine Z5 ?_;refine Z5 ?_;refine Z5 ?_;refine Z5 ?_;refine Z5 ?_;refine Z30 ?_;apply Y0;refine Z19 ?_;apply wc_skip;apply wx_next;apply Y1;refine Z7 ?_;refine Z74 fun c H HA=>?_;apply Y0;apply wc_ret)
  exact ret_fn H hm (outsR1 Tryz.results100 (RV.agg rfl H Ow Rc)) (by simp [instT,hv])
 | true =>
  obtain ⟨j,hj⟩ : ∃j : Nat,t.n=(j:Int):=⟨t.n.toNat,by have:=(isVar_parts hv).2.1;omega⟩
  (repeat' (first|refine Z0 ?_|refine Z1 ?_|refine Z3 ?_|refine Z4 ?_|refine Z7 ?_|refine Z8 ?_|apply w_nil|apply wc_seq|apply wc_region|apply wx_next|refine Z18 ?_|refine Z19 ?_|apply wc_ret|apply wc_skip|refine Z45 ?_|refine Z74 fun c H HA=>?_|refine Z93 (fun hq=>?_) fun hq=>?_))
  ·obtain ⟨u,hu⟩:=getq (xs:=vs) (k:=j) (by omega)
   rw [hj]
   (refine Z34 HA fun vx HA=>?_;refine Z38 ?_;refine Z74 fun c H HA=>?_;apply Y0;apply wc_ret;apply wx_ret_then)
   exact ret_fn H hm (outsR1 Tryz.results100 (RV.agg rfl H Ow Rc)) (by
    rw [instT,if_pos (by rw [hv];simpa using ‹t.n<(vs.length:Int)›),hj,Int.toNat_natCast,hu]
    rfl)
  ·exact ret_fn H hm (outsR1 Tryz.results100 (RV.agg rfl H Ow Rc)) (by
    rw [instT,if_neg (by rw [hv];simpa using hq)])⟩
theorem clause_Instance (x:Cl) (u:Value) (vs:List Tm) (v:Value) (c:Cx) (h:Ag x u c) (hv:Sl v vs c) : Cn Tryz.prog 68 [u,v] c (fun r c=>Ag (x.map (instT vs)) r c):=by
 refine Cn.of Tryz.func68 Tryz.ntmps68 rfl rfl fun hm H HA=>?_
 have HA:=(HA.add h).add hv
 (apply wc_seq;apply wc_region)
 (refine s_boxG rfl rfl Lk H HA ?_;intro p c H HA)
 (refine s_boxO (cs:=[v]) rfl ((Lk:Sl v vs _).cellsC) H HA ?_;intro b3 c H HA)
 (refine w_freeze H HA ?_;intro c H HA)
 (refine s_alloc rfl (by conv=>lhs;whnf) H HA ?_;intro b4 c H HA)
 (apply Y2;refine Z39 HA fun vx HA=>?_)
 (refine s_makeFunc (vs:=[.pointer (some ⟨b3,0,none⟩)]) rfl rfl ?_)
 (refine s_callT (pre:=[]) (post:=[]) rfl rfl H HA (clause_turned (inst_clo b3 vs v) () x _ _ ⟨Lk,Lk⟩ Lk (same_doms _)) ?_;intro vx c H HA)
 have hfin:=HA.h.1
 rw [repC_const] at hfin
 obtain ⟨cs,hcs,v0,v1,v2,hw,g0,g1,g2⟩:=hfin
 subst hcs
 subst hw
 have HA:=((HA.cut.add g0).add g1).add g2
 (refine Z74 fun c H HA=>?_;apply Y0;apply wc_ret)
 exact ret_fn H hm (outsR1 Tryz.results68 (RV.agg rfl H Ow Rc)) (Ag.mk_cl ⟨Lk,Lk,Lk⟩)
end Go.Proofs.YtnppmeeibbefbaaGreatDoor
namespace Go.Wk
open Go Go.RowKit
def Cl.dn (x:Cl) : ByteArray:=match x.body with
 | []=>ES
 | a::_=>a.name
def Cl.hd (x:Cl) (w:List Tm) : At0:=(x.map (instT w)).head
inductive LM (cs:List Cl) : At0→Prop
 | mk (x:Cl) (hx:x∈cs) (w:List Tm) (hl:w.length=x.body.length) (h:∀t∈w,LM cs (fa x.dn t)) : LM cs (x.hd w)
def Stp (cs:List Cl) (F:At0→Prop) (b:At0) : Prop:=∃x∈cs,∃w : List Tm,w.length=x.body.length∧(∀t∈w,F (fa x.dn t))∧b=x.hd w
def Stp2 (cs:List Cl) (F N:At0→Prop) (b:At0) : Prop:=∃x∈cs,∃w : List Tm,w.length=x.body.length∧(∀t∈w,F (fa x.dn t))∧(∃t∈w,N (fa x.dn t))∧b=x.hd w
theorem LM.least {cs:List Cl} {F:At0→Prop} (h:∀b,Stp cs F b→F b) {b:At0} (hb:LM cs b) : F b:=by
 induction hb with
 | mk x hx w hl _ ih=>exact h _ ⟨x,hx,w,hl,ih,rfl⟩
theorem LM.closed {cs:List Cl} {b:At0} (h:Stp cs (LM cs) b) : LM cs b:=by
 obtain ⟨x,hx,w,hl,hw,rfl⟩:=h
 exact .mk x hx w hl hw
theorem Stp.mono {cs cs':List Cl} {F F':At0→Prop} (hc:∀x∈cs,x∈cs') (hF:∀a,F a→F' a) {b:At0} (h:Stp cs F b) : Stp cs' F' b:=by
 obtain ⟨x,hx,w,hl,hw,rfl⟩:=h
 exact ⟨x,hc x hx,w,hl,fun t ht=>hF _ (hw t ht),rfl⟩
theorem LM.mono {cs cs':List Cl} (hc:∀x∈cs,x∈cs') {b:At0} (h:LM cs b) : LM cs' b :=
 LM.least (fun _ hb=>LM.closed (hb.mono hc fun _ h=>h)) h
def partN (j:Nat) (lead:Int) : Nat:=if lead<0∨(j:Int) > lead then 3 else if (j:Int)=lead then 2 else 1
theorem partN_or (j:Nat) (lead:Int) : partN j lead=1∨partN j lead=2∨partN j lead=3:=by
 unfold partN
 split
 ·exact .inr (.inr rfl)
 ·split
  ·exact .inr (.inl rfl)
  ·exact .inl rfl
theorem has_1 {B:BaS} {dn:ByteArray} {t:Tm} : B.has 1 dn (fa dn t)↔fa dn t∈B.old:=by
 unfold BaS.has
 simp [fa]
theorem has_2 {B:BaS} {dn:ByteArray} {t:Tm} : B.has 2 dn (fa dn t)↔fa dn t∈B.new:=by
 unfold BaS.has
 simp [fa]
theorem has_3 {B:BaS} {dn:ByteArray} {t:Tm} : B.has 3 dn (fa dn t)↔fa dn t∈B.old∨fa dn t∈B.new:=by
 unfold BaS.has
 simp [fa]
def FireS (B:BaS) (x:Cl) (lead:Int) (b:At0) : Prop:=∃w : List Tm,w.length=x.body.length∧(∀(j:Nat) (t:Tm),w[j]?=some t→B.has (partN j lead) x.dn (fa x.dn t))∧b=x.hd w
theorem fire_all {B:BaS} {x:Cl} {b:At0} : FireS B x (-1) b↔Stp [x] (fun a=>a∈B.old∨a∈B.new) b:=by
 constructor
 ·rintro ⟨w,hl,hw,rfl⟩
  refine ⟨x,.head _,w,hl,fun t ht=>?_,rfl⟩
  obtain ⟨j,hj⟩:=List.getElem?_of_mem ht
  exact has_3.1 (hw j t hj)
 ·rintro ⟨y,hy,w,hl,hw,rfl⟩
  rw [List.mem_singleton.1 hy] at hl hw ⊢
  exact ⟨w,hl,fun j t hj=>has_3.2 (hw t (List.mem_of_getElem? hj)),rfl⟩
theorem fire_lead {B:BaS} {x:Cl} {b:At0} : (∃lead:Nat,lead<x.body.length∧FireS B x lead b)↔Stp2 [x] (fun a=>a∈B.old∨a∈B.new) (fun a=>a∈B.new) b:=by
 constructor
 ·rintro ⟨lead,hk,w,hl,hw,rfl⟩
  refine ⟨x,.head _,w,hl,fun t ht=>?_,?_,rfl⟩
  ·obtain ⟨j,hj⟩:=List.getElem?_of_mem ht
   have h:=hw j t hj
   rcases partN_or j lead with e|e|e<;>rw [e] at h
   ·exact .inl (has_1.1 h)
   ·exact .inr (has_2.1 h)
   ·exact has_3.1 h
  ·obtain ⟨t,ht⟩:=getq (xs:=w) (k:=lead) (by omega)
   have h:=hw lead t ht
   have e : partN lead (lead:Int)=2:=by
    unfold partN
    rw [if_neg (by omega),if_pos rfl]
   rw [e] at h
   exact ⟨t,List.mem_of_getElem? ht,has_2.1 h⟩
 ·rintro ⟨y,hy,w,hl,hw,⟨t,ht,hN⟩,rfl⟩
  rw [List.mem_singleton.1 hy] at hl hw hN ⊢
  have hex : ∃j : Nat,∃t,w[j]?=some t∧fa x.dn t∈B.new:=by
   obtain ⟨j,hj⟩:=List.getElem?_of_mem ht
   exact ⟨j,t,hj,hN⟩
  obtain ⟨lead,⟨t0,h0,hn0⟩,hmin⟩ : ∃j : Nat,(∃t,w[j]?=some t∧fa x.dn t∈B.new)∧∀i : Nat,i<j→¬∃t,w[i]?=some t∧fa x.dn t∈B.new:=by
   classical
   obtain ⟨j,hj⟩:=hex
   induction j using Nat.strongRecOn with
   | ind j ih =>
    by_cases h : ∃i,i<j∧∃t,w[i]?=some t∧fa x.dn t∈B.new
    ·obtain ⟨i,hi,h⟩:=h
     exact ih i hi h
    ·exact ⟨j,hj,fun i hi h2=>h ⟨i,hi,h2⟩⟩
  have hlt:=(List.getElem?_eq_some_iff.1 h0).1
  refine ⟨lead,by omega,w,hl,fun j t hj=>?_,rfl⟩
  have hF:=hw t (List.mem_of_getElem? hj)
  unfold partN
  rcases Nat.lt_trichotomy j lead with h|h|h
  ·rw [if_neg (by omega),if_neg (by omega)]
   refine has_1.2 ?_
   rcases hF with h1|h1
   ·exact h1
   ·exact absurd ⟨t,hj,h1⟩ (hmin j h)
  ·subst h
   rw [if_neg (by omega),if_pos rfl]
   rw [hj] at h0
   cases h0
   exact has_2.2 hn0
  ·rw [if_pos (by omega)]
   exact has_3.2 hF
/-! ### growing -/
structure GrI (cs:List Cl) (Hv:At0→Prop) (C l:List At0) : Prop where
 hv : ∀a,Hv a→LM cs a
 c1 : ∀a∈C,LM cs a∧¬Hv a
 l1 : ∀a∈l,LM cs a
 full : ∀b,Stp cs (fun a=>Hv a∨a∈C) b→Hv b∨b∈C∨b∈l
theorem GrI.start {cs first:List Cl} {Hv:At0→Prop} {l:List At0} (hv:∀a,Hv a→LM cs a) (hf:∀x∈first,x∈cs) (hc:∀x∈cs,x∈first∨∀b,Stp [x] Hv b→Hv b) (hl:∀b,b∈l↔Stp first Hv b) : GrI cs Hv [] l:=by
 refine ⟨hv,(fun a h=>by cases h),fun a ha=>LM.closed (((hl a).1 ha).mono hf hv),fun b hb=>?_⟩
 obtain ⟨x,hx,w,hlw,hw,rfl⟩:=hb
 have hw2 : ∀t∈w,Hv (fa x.dn t):=fun t ht=>by
  rcases hw t ht with h|h
  ·exact h
  ·cases h
 rcases hc x hx with h|h
 ·exact .inr (.inr ((hl _).2 ⟨x,h,w,hlw,hw2,rfl⟩))
 ·exact .inl (h _ ⟨x,.head _,w,hlw,hw2,rfl⟩)
theorem GrI.done {cs:List Cl} {Hv:At0→Prop} {C l:List At0} (h:GrI cs Hv C l) (hs:∀a∈l,Hv a∨a∈C) (b:At0) : LM cs b↔Hv b∨b∈C:=by
 constructor
 ·intro hb
  refine LM.least (F:=fun b=>Hv b∨b∈C) (fun b hb=>?_) hb
  rcases h.full b hb with h1|h1|h1
  ·exact .inl h1
  ·exact .inr h1
  ·exact hs b h1
 ·rintro (hb|hb)
  ·exact h.hv b hb
  ·exact (h.c1 b hb).1
theorem GrI.more {cs:List Cl} {Hv:At0→Prop} {C C' l l':List At0} (h:GrI cs Hv C l) (hC:∀a,a∈C'↔a∈C∨(a∈l∧¬Hv a)) (hl:∀b,b∈l'↔Stp2 cs (fun a=>Hv a∨a∈C') (fun a=>a∈C'∧a∉C) b) : GrI cs Hv C' l':=by
 have hlm : ∀a,Hv a∨a∈C'→LM cs a:=by
  rintro a (ha|ha)
  ·exact h.hv a ha
  ·rcases (hC a).1 ha with ha|ha
   ·exact (h.c1 a ha).1
   ·exact h.l1 a ha.1
 refine ⟨h.hv,fun a ha=>?_,fun a ha=>?_,fun b hb=>?_⟩
 ·refine ⟨hlm a (.inr ha),?_⟩
  rcases (hC a).1 ha with ha|ha
  ·exact (h.c1 a ha).2
  ·exact ha.2
 ·obtain ⟨x,hx,w,hlw,hw,_,rfl⟩:=(hl a).1 ha
  exact .mk x hx w hlw fun t ht=>hlm _ (hw t ht)
 ·obtain ⟨x,hx,w,hlw,hw,rfl⟩:=hb
  classical
  by_cases hn : ∃t∈w,fa x.dn t∈C'∧fa x.dn t∉C
  ·exact .inr (.inr ((hl _).2 ⟨x,hx,w,hlw,hw,hn,rfl⟩))
  ·have hw2 : ∀t∈w,Hv (fa x.dn t)∨fa x.dn t∈C:=fun t ht=>by
    rcases hw t ht with h1|h1
    ·exact .inl h1
    ·exact .inr (Classical.byContradiction fun h2=>hn ⟨t,ht,h1,h2⟩)
   rcases h.full _ ⟨x,hx,w,hlw,hw2,rfl⟩ with h1|h1|h1
   ·exact .inl h1
   ·exact .inr (.inl ((hC _).2 (.inl h1)))
   ·by_cases hh : Hv (x.hd w)
    ·exact .inl hh
    ·exact .inr (.inl ((hC _).2 (.inr ⟨h1,hh⟩)))
/-! ### doubting -/
structure DoI (cs:List Cl) (c:Cl) (All:At0→Prop) (O l:List At0) : Prop where
 sub : ∀a∈O,All a
 by_ : ∀b,Stp [c] All b→b∈O∨b∈l
 on : ∀b,Stp2 cs All (fun a=>a∈O) b→b∈O∨b∈l
theorem DoI.start {cs:List Cl} {c:Cl} {All:At0→Prop} {l:List At0} (hl:∀b,b∈l↔Stp [c] All b) : DoI cs c All [] l:=by
 refine ⟨(fun a h=>by cases h),fun b hb=>.inr ((hl b).2 hb),fun b hb=>?_⟩
 obtain ⟨x,_,w,_,_,⟨t,_,h⟩,_⟩:=hb
 cases h
theorem DoI.more {cs:List Cl} {c:Cl} {All:At0→Prop} {O O' N l l':List At0} (h:DoI cs c All O l) (hc:∀b,Stp (c::cs) All b→All b) (hN:∀a,a∈N↔a∈l∧All a∧a∉O) (hO:∀a,a∈O'↔a∈O∨a∈N) (hl:∀b,b∈l'↔Stp2 cs All (fun a=>a∈N) b) : DoI cs c All O' l':=by
 classical
 have key : ∀b,All b→(b∈O∨b∈l)→b∈O':=fun b hb h1=>by
  by_cases h2 : b∈O
  ·exact (hO b).2 (.inl h2)
  ·exact (hO b).2 (.inr ((hN b).2 ⟨h1.resolve_left h2,hb,h2⟩))
 refine ⟨fun a ha=>?_,fun b hb=>?_,fun b hb=>?_⟩
 ·rcases (hO a).1 ha with ha|ha
  ·exact h.sub a ha
  ·exact ((hN a).1 ha).2.1
 ·exact .inl (key b (hc b (hb.mono (fun x hx=>by rw [List.mem_singleton.1 hx];exact .head _) fun _ h=>h)) (h.by_ b hb))
 ·obtain ⟨x,hx,w,hlw,hw,⟨t,ht,h1⟩,rfl⟩:=hb
  rcases (hO _).1 h1 with h1|h1
  ·exact .inl (key _ (hc _ ⟨x,.tail _ hx,w,hlw,hw,rfl⟩) (h.on _ ⟨x,hx,w,hlw,hw,⟨t,ht,h1⟩,rfl⟩))
  ·exact .inr ((hl _).2 ⟨x,hx,w,hlw,hw,⟨t,ht,h1⟩,rfl⟩)
theorem DoI.done {cs cs0:List Cl} {c:Cl} {All:At0→Prop} {O l:List At0} (h:DoI cs c All O l) (hA:∀a,All a↔LM cs0 a) (h0:∀x∈cs0,x=c∨x∈cs) (hs:∀a∈l,All a→a∈O) {a:At0} (ha:All a) (hn:a∉O) : LM cs a:=by
 have key : ∀a,LM cs0 a→a∉O→LM cs a:=by
  intro a ha
  induction ha with
  | mk x hx w hl hw ih =>
   intro hn
   have hall : All (x.hd w):=(hA _).2 (.mk x hx w hl hw)
   have hwa : ∀t∈w,All (fa x.dn t):=fun t ht=>(hA _).2 (hw t ht)
   rcases h0 x hx with rfl|hxc
   ·exfalso
    rcases h.by_ _ ⟨x,.head _,w,hl,hwa,rfl⟩ with h1|h1
    ·exact hn h1
    ·exact hn (hs _ h1 hall)
   ·refine .mk x hxc w hl fun t ht=>ih t ht fun h1=>?_
    rcases h.on _ ⟨x,hxc,w,hl,hwa,⟨t,ht,h1⟩,rfl⟩ with h2|h2
    ·exact hn h2
    ·exact hn (hs _ h2 hall)
 exact key a ((hA a).1 ha) hn
def Lv.cs (l:Lv) (v1 v2:Value) : List Value:=[v1,.int .i64 (l.tried:Int),v2]
instance : Enc Lv where
 k:=3
 Ok cs l c:=∃v1 v2,cs=l.cs v1 v2∧Sl v1 l.facts c∧Sl v2 l.ahead c
 mono cs l:=inferInstance
 len cs l c h:=by obtain ⟨v1,v2,rfl,_⟩:=h;rfl
 one cs l c h u hu:=by
  obtain ⟨v1,v2,rfl,h1,h2⟩:=h
  simp only [Lv.cs,List.mem_cons,List.not_mem_nil,or_false] at hu
  rcases hu with rfl|rfl|rfl
  ·exact h1.slice1
  ·rfl
  ·exact h2.slice1
 pos:=by omega
theorem apply_pat {s:List Bd} {dn:ByteArray} {j:Nat} (h:lookB s (j:Int)=none) : applyA s (pat dn (j:Int))=pat dn (j:Int):=by
 have hv : Tm.isVar ⟨3,(j:Int),ES⟩=true:=by simp [Tm.isVar]
 have h0 : Tm.isVar Tn=false:=rfl
 simp [applyA,pat,becomeT,hv,h0,h]
theorem partN_int (j:Nat) (lead:Int) : (partN j lead:Int)=if lead<0∨(j:Int) > lead then 3 else if (j:Int)=lead then 2 else 1:=by
 unfold partN
 split
 ·rfl
 ·split<;>rfl
def bodyN (dn:ByteArray) (k:Nat) : List At0:=(List.range k).map fun (i:Nat)=>pat dn (i:Int)
theorem bodyN_get {dn:ByteArray} {k j:Nat} (h:j<k) : (bodyN dn k)[j]?=some (pat dn (j:Int)):=by simp [bodyN,h]
theorem bodyN_len (dn:ByteArray) (k:Nat) : (bodyN dn k).length=k:=by simp [bodyN]
end Go.Wk
namespace Go.Proofs.YtnppmeeibbefbaaGreatDoor
open Go Go.Wk Go.RowKit
instance : Ent Tryz.prog 124:=.of Tryz.func124 (by kernel_rfl) (by kernel_rfl)
instance : Agg Tryz.prog 218 3:=.of (by kernel_rfl) (by kernel_rfl)
instance : Zer Tryz.prog 218 (.agg #[.slice none 0 0,.int .i64 0,.slice none 0 0]):=.of (by kernel_rfl)
instance : TyI Tryz.prog 218 (.agg #[.slice none 0 0,.int .i64 0,.slice none 0 0]) 3 56:=.of (by kernel_rfl)
instance : BldZ Tryz.prog 218 [[.slice none 0 0],[.int .i64 0],[.slice none 0 0]]:=⟨Bld.of (pl:=[(0,1),(1,1),(2,1)]) (by kernel_rfl) (by kernel_rfl)⟩
instance : Fld Tryz.prog 218 0 0:=.of (k:=0) (by kernel_rfl)
instance : Fld Tryz.prog 218 1 1:=.of (k:=0) (by kernel_rfl)
instance : Fld Tryz.prog 218 2 2:=.of (k:=0) (by kernel_rfl)
instance : SlT Tryz.prog 220 218:=⟨by kernel_rfl⟩
theorem plan_partsN (k:Nat) (lead:Int) (c:Cx) : Cn Tryz.prog 141 [.int .i64 (k:Int),.int .i64 lead] c (fun v _=>v=.int .i64 (partN k lead:Int)) :=
 (plan_parts k lead c).imp fun u _ _ h=>by rw [h,partN_int]
theorem term_ApplyPat (s:List Bd) (v:Value) (dn:ByteArray) (j:Nat) (u:Value) (c:Cx) (hs:Sl v s c) (h:Ag (pat dn (j:Int)) u c) (hg:Box 1 Tn.cs c) (hn:lookB s (j:Int)=none) : Cn Tryz.prog 38 [v,u] c (fun r c=>Ag (pat dn (j:Int)) r c) :=
 (term_Apply s v _ u c hs h hg).imp fun r _ _ h=>by rwa [apply_pat hn] at h
def EnR (b11 b10:Nat) (vs:Value) (s:List At0×Value×List (List Value)) : List Res:=.row s.2.1 35 5 s.1.length s.2.2.flatten::.obj b11 (.cells [s.2.1,.int .i64 0,vs].toArray 218 (0,0))::.obj b10 (.cells [.slice none 0 0,.int .i64 0,.slice none 0 0].toArray 218 (0,0))::[]
def EnterP (D:BaS) (parts:Nat) (dn:ByteArray) (s:List Bd) (v:Value) (R:List Res) (c:Cx) : Prop:=∃B' l,R=baR B'∧SameB D B'∧BaF B' c∧Ag (⟨l,0,s⟩:Lv) v c∧(∀a,a∈l↔D.has parts dn a)∧l.length≤D.size∧l.Nodup
theorem plan_enter (D:BaS) (x:Cl) (dn:ByteArray) (k:Nat) (ux:Value) (lead:Int) (j:Jn) (uj:Value) (s:List Bd) (vs:Value) (c:Cx) (hx:Ag x ux c) (hb:x.body=bodyN dn k) (hj:Ag j uj c) (hjk:j.atom<k) (hs:Sl vs s c) (hno:lookB s (j.atom:Int)=none)
  (hB:BaOk D) (hF:BaF D c) (hg:GlobOk c) (hv:D.rels≠[]→D.vals≠[]) (hsz:D.size<1073741824) :
  CnTX Tryz.prog 124 [ptr D.b,ux,.int .i64 lead,uj,vs] (baR D) c (EnterP D (partN j.atom lead) dn s):=by
 refine CnTX.ofM Tryz.func124 Tryz.ntmps124 rfl rfl fun c0 L0 A0 _ H HA=>?_
 have HA:=((((HA.add hF).add hx).add hs).add hg).add hg.none
 have hbl : x.body.length=k:=by rw [hb,bodyN_len]
 have hat:=bodyN_get (dn:=dn) hjk
 rw [←hb] at hat
 (apply wc_seq)
 apply wc_region
 obtain ⟨csj,rfl,vj,hcj,hvj⟩:=hj
 subst hcj
 (refine s_boxG rfl rfl Lk H HA ?_;intro pb c H HA)
 (refine s_box (cs:=[.int .i64 (j.atom:Int),vj,.slice none 0 0]) rfl rfl H HA ?_;intro b8 c H HA)
 (refine s_alloc rfl (by conv=>lhs;whnf) H HA ?_;intro b10 c H HA)
 (apply Y0;apply wc_seq)
 apply wc_region
 (refine Z0 ?_;refine Z54 ?_)
 (refine s_alloc rfl (by conv=>lhs;whnf) H HA ?_;intro b11 c H HA)
 (refine Z74 fun c H HA=>?_;apply Y0;apply wc_seq;apply wc_seq)
 (refine dw_start H HA ?_)
 (repeat (first|refine Dc ?_|refine Dm ?_))
 (apply dw_cons;(focus ((intro B _ Lx c H HA;(repeat (first|rintro vx rfl|(intro vx hx;have HA:=HA.addSF hx;clear hx)|(intro vx hx;have HA:=HA.add hx;clear hx)|intro vx));change W _ _ _ _ _ _ _);(refine s_call rfl rfl H HA (plan_partsN j.atom lead _) ?_;intro vx c H HP;have hvx:=HP.h.1;have HA:=HP.cut;subst hvx);exact Dx));exact inferInstance)
 (repeat (first|refine Dc ?_|refine Dm ?_))
 (apply dw_cons;(focus ((intro B _ Lx c H HA;(repeat (first|rintro vx rfl|(intro vx hx;have HA:=HA.addSF hx;clear hx)|(intro vx hx;have HA:=HA.add hx;clear hx)|intro vx));change W _ _ _ _ _ _ _);refine s_call rfl rfl H HA (term_ApplyPat s vs dn j.atom _ _ Lk Lk Lk hno) ?_;intro vx c H HP;exact w_nil (pq_rel H (Cp) HP.h.1)));exact inferInstance)
 (apply dw_cons;(focus ((intro B _ Lx c H HA;(repeat (first|rintro vx rfl|(intro vx hx;have HA:=HA.addSF hx;clear hx)|(intro vx hx;have HA:=HA.add hx;clear hx)|intro vx));change W _ _ _ _ _ _ _);refine s_call rfl rfl H HA (base_Find D.b (partN j.atom lead) (pat dn (j.atom:Int)) _ _ Lk) ?_;intro vx c H HP;exact w_nil (pq_rel H (Cp) HP.h.1)));exact inferInstance)
 (refine dw_done mixed H HA rfl (by kernel_rfl) ?_;clear H HA;intro c H HA;(repeat (first|rintro vx rfl|(intro vx hx;have HA:=HA.addSF hx;clear hx)|(intro vx hx;have HA:=HA.add hx;clear hx)|intro vx));change W _ _ _ _ _ _ _)
 obtain ⟨z,rfl,hzI⟩:=vx
 have HA:=HA.add hzI
 (apply Y0;apply wc_block)
 have hFc : BaF D c:=Lk
 have H : Owns c0 (baR D++(EnR b11 b10 vs ([],.slice none 0 0,[])++L0)) c:=by
  have H2:=H.nilRow 35 5
  refine H2.perm ?_
  show List.Perm _ (baR D++((Res.row (.slice none 0 0) 35 5 0 []::_::_::[])++L0))
  exact Pm
 have hsv : Sl vs s c:=Lk
 generalize hgf : (upd _ 28 _)=gf
 refine wc_range (σ:=List At0×Value×List (List Value)) (ix:=fun xs i s=>s.1=xs.take i∧i≤xs.length) (s0:=([],.slice none 0 0,[]))
  (EnR b11 b10 vs) (fun s c=>Vals s.2.2 s.1 c)
  (fun xs i a st f' Xs c=>(∃v b12 va,f'=upd (upd gf 29 v) 12 (ptr b12)∧Xs=.obj b12 (.cells (a.cs va).toArray 35 (0,0))::EnR b11 b10 vs st∧Sl va a.args c)∧Vals st.2.2 st.1 c)
  rfl (by rw [←hgf];rfl) inferInstance (fun _ _ _ _ _ _=>inferInstance) (fun R=>inferInstance) (base_seq D (partN j.atom lead) dn (j.atom:Int) (by omega) z (partN_or j.atom lead) c hB hFc Lk hv hsz) (fun xs _=>⟨rfl,Nat.zero_le _⟩) H (((Ca:Hd A0 c).add hsv).add (Vals.nil _)) ?_ ?_ ?_
 ·intro l xs i a st v L A c iA hS hx hi H HA
  obtain ⟨⟨ca,hca,va,hca2,hsa⟩,hvl,hA⟩:=HA.h
  subst hca2 hca
  have HA:=((⟨hA⟩:Hd A c).add hvl).add hsa
  ((apply wg_region;focus exact rfl);refine Z61 fun bx c H HA=>?_;refine Z74 fun c H HA=>?_;apply w_nil;apply wx_qw)
  have hsa2 : Sl va a.args c:=Lk
  have hvl2 : Vals st.2.2 st.1 c:=Lk
  exact wgx_as H Ca ⟨⟨_,bx,va,rfl,rfl,hsa2⟩,hvl2⟩
 ·subst hgf
  intro l xs i a st f' Xs L A c iA hS hx hi H HA
  obtain ⟨so,vo,cl⟩:=st
  obtain ⟨⟨⟨v,b12,va,hf,hX,hsa⟩,hvl⟩,hA⟩:=HA.h
  subst hX hf
  dsimp only at hi hvl
  have hga : Ag a (.agg (a.cs va).toArray) c:=⟨_,rfl,va,rfl,hsa⟩
  have HA:=(((⟨hA⟩:Hd A c).add hvl).add hsa).add hga
  have H : Owns c0 (.row vo 35 5 so.length cl.flatten::.obj b11 (.cells [vo,.int .i64 0,vs].toArray 218 (0,0))::.obj b12 (.cells (a.cs va).toArray 35 (0,0))::.obj b10 (.cells [.slice none 0 0,.int .i64 0,.slice none 0 0].toArray 218 (0,0))::L) c:=by
   refine H.perm ?_
   rw [EnR]
   exact Pm
  have hsol : so.length<1073741824:=by
   rw [hi.1,List.length_take]
   have:=hS.2.1
   omega
  (apply wg_block;(apply wg_region;focus exact rfl);refine Z3 ?_;refine Z41 ?_;refine Z42 ?_;refine Z55 fun vx c H HA=>?_;refine Z59 fun vx c valsx H HA=>?_;refine Z3 ?_;refine Z77 fun c H HA=>?_;apply w_nil;apply wx_qw;apply wgx_norm_block)
  have hxi : i<xs.length:=(List.getElem?_eq_some_iff.1 hx).1
  have hv2 : Vals valsx (so++[a]) c:=Lk
  have H2:=H.perm (L':=.obj b12 (.cells (a.cs va).toArray 35 (0,0))::(EnR b11 b10 vs (so++[a],vx,valsx)++L)) (by rw [EnR];exact Pm)
  refine wgx_bd (so++[a],vx,valsx) ⟨?_,hxi⟩ H2.drop ((Ca:Hd A c).add hv2)
  show so++[a]=_
  rw [List.take_add_one,hx,←hi.1]
  rfl
 ·intro xs st R E c hS hix H HA
  obtain ⟨so,vo,cl⟩:=st
  obtain ⟨hso,_⟩:=hix
  dsimp only at hso
  rw [List.take_length] at hso
  subst hso
  obtain ⟨⟨B',rfl,hsame,hF'⟩,hvl,hsv,hA⟩:=HA.h
  dsimp only at hvl
  have HA:=(((⟨hA⟩:Hd A0 c).add hsv).add hF').add hvl
  subst hgf
  have H : Owns c0 (.row vo 35 5 so.length cl.flatten::.obj E (.deferred (some []))::.obj b11 (.cells [vo,.int .i64 0,vs].toArray 218 (0,0))::.obj b10 (.cells [.slice none 0 0,.int .i64 0,.slice none 0 0].toArray 218 (0,0))::(baR B'++L0)) c:=by
   refine H.perm ?_
   rw [EnR]
   exact Pm
  apply wgx_norm_block
  refine wgx_nextW ?_
  (apply wg_seq;(apply wg_region;focus exact rfl);refine Z42 ?_)
  have hsol : so.length<1073741824:=by
   have:=hS.2.1
   omega
  (refine w_freezeRow H HA Lk rfl rfl (by simp only [LIM];omega) ?_;intro c H HA)
  (refine Z78 fun c H HA=>?_;apply w_nil;apply wx_qw;apply wgx_next;apply wg_ret)
  have hso2 : Sl vo so c:=Lk
  have hsv2 : Sl vs s c:=Lk
  have hF2 : BaF B' c:=Lk
  have hag : Ag (⟨so,0,s⟩:Lv) (.agg #[vo,.int .i64 0,vs]) c:=⟨_,rfl,vo,vs,rfl,hso2,hsv2⟩
  have HA:=((Ca:Hd A0 c).add hF2).add hag
  refine wgx_retM H.swap HA ?_
  clear H HA
  intro c H HA
  exact ⟨_,outsR1 Tryz.results124 (RV.agg rfl H Ow Rc),_,rfl,c,baR B',rfl,H.drop.drop,(⟨HA.h.2.2⟩:Hd A0 c).add ⟨B',so,rfl,hsame,HA.h.2.1,HA.h.1,hS.1,hS.2.1,hS.2.2⟩⟩
end Go.Proofs.YtnppmeeibbefbaaGreatDoor
namespace Go.Wk
open Go Go.RowKit
section
variable {P : Program} {ops : Array Oper} {Q : Exit → Act → World → Prop} {n : Nat} {f : Nat → Value} {rest : List Oper} {ty : TypeId} {ps : String} {af : Array Edge} {d : Tmp}
variable {c0 c : Cx} {L : List Res} {A : Cx → Prop}
theorem s_bs1OV {α:Type} {iE:Enc α} {T e:TypeId} {z:Value} {kk bb:Nat} {x:Operand} {cs:List Value} {u:α} (hn:Nat.blt d n=true) [SlT P T e] [TyI P e z kk bb] (hx:(opd f x).cells=cs.toArray) (hu:Enc.Ok cs u c) (hk:Enc.k α=kk) (hz:z.cells.size=kk) (hkb:Nat.ble kk 64=true)
  (H:Owns c0 L c) (HA:Hd A c) (hMA:Mono A) (k:∀v c',Owns c0 (.row v e kk 1 cs::L) c'→Hd A c'→W P ops Q rest n (upd f d v) c'.w) : W P ops Q (⟨some d,.buildSlice T 1 #[(0,x)],ty,ps,af,none⟩::rest) n f c.w:=by
 have hl : cs.length=kk:=(Enc.len cs u c hu).trans hk
 have hk0 : 0<kk:=by rw [←hk];exact Enc.pos
 have hrun:=run_bslice1 (P:=P) (w:=c.w) (ty:=ty) (ps:=ps) (af:=af) (d:=d) (T:=T) (e:=e) hx hl hz hk0 (Nat.le_of_ble_eq_true hkb)
 have hO:=World.ownsRow_lit (base:=0) (e:=e) (size:=kk) c.w cs.toArray 1 (Nat.zero_le _) (by decide) (by simp [hl])
 have hN:=H.new (.cells cs.toArray e (0,0)) rfl
 have hT:=hN.2.turn (r':=.row (.slice (some ⟨c.w.heap.size,0,none⟩) 1 1) e kk 1 cs) (w':=c.w.alloc (.cells cs.toArray e (0,0))) rfl rfl rfl (Nat.le_refl _) (Nat.le_refl _) (fun _ _ _=>rfl) (by simpa [Res.holds] using hO) (fun b hb=>.inl hb)
 have hle:=hN.1.trans hT.1
 exact st_val hn hrun (k _ ⟨_,_⟩ hT.2 (HA.to hle))
theorem s_slCut {T e:TypeId} {z:Value} {kk bb g m m2 cap:Nat} {x y:Operand} {cs ds:List Value} (hn:Nat.blt d n=true) [SlT P T e] [TyI P e z kk bb] (hx:opd f x=.slice (some ⟨g,0,none⟩) m cap) (hy:opd f y=.int .i64 (m2:Int)) (hl:cs.length=m2*kk) (h2:m2≤m) (h0:0<m)
  (H:Owns c0 (.row (.slice (some ⟨g,0,none⟩) m cap) e kk m (cs++ds)::L) c) (HA:Hd A c) (hMA:Mono A) (k:∀c',Owns c0 (.row (.slice (some ⟨g,0,none⟩) m2 cap) e kk m2 cs::L) c'→Hd A c'→W P ops Q rest n (upd f d (.slice (some ⟨g,0,none⟩) m2 cap)) c'.w) :
  W P ops Q (⟨some d,.slice T x none (some y) none,ty,ps,af,none⟩::rest) n f c.w:=by
 obtain ⟨cur,hh,_,hnc,hmx,hsz,htk⟩:=row_one (H.res _ (List.mem_cons_self ..)).1 rfl
 have hb:=(H.res _ (List.mem_cons_self ..)).2
 have hmul : m2*kk≤m*kk:=Nat.mul_le_mul_right _ h2
 have hrow : c.w.ownsRow 0 e kk (.slice (some ⟨g,0,none⟩) m2 cap) m2 cs:=by
  refine ⟨hl,.inr ⟨g,cap,cur,rfl,Nat.zero_le _,hh,by omega,hmx,hsz,?_⟩⟩
  have h:=congrArg (List.take (m2*kk)) htk
  rw [List.take_take,Nat.min_eq_left hmul,←hl,List.take_left] at h
  rw [←hl]
  exact h
 have hT:=H.turn (r':=.row (.slice (some ⟨g,0,none⟩) m2 cap) e kk m2 cs) (w':=c.w) rfl rfl rfl (Nat.le_refl _) (Nat.le_refl _) (fun _ _ _=>rfl) hrow (fun b hb=>.inl hb)
 obtain ⟨c1,hw1,hle1,hO1⟩ : ∃c1 : Cx,c1.w=c.w∧Le c c1∧Owns c0 (.row (.slice (some ⟨g,0,none⟩) m2 cap) e kk m2 cs::L) c1:=⟨⟨c.w,fun x=>c.M x∨(Res.row (.slice (some ⟨g,0,none⟩) m2 cap) e kk m2 cs).blk=some x⟩,rfl,hT.1,hT.2⟩
 rw [←hw1]
 refine st_val hn (w':=c1.w) ?_ (k c1 hO1 (HA.to hle1))
 have:=run_slice (P:=P) (T:=T) (ad:=some ⟨g,0,none⟩) (len:=m) (cap:=cap) (lo:=0) (hi:=m2) none (some (.int .i64 (m2:Int))) (.inr ⟨rfl,rfl⟩) (.inl rfl) (Nat.zero_le _) (by omega) c1.w
 rw [if_neg (by omega),Nat.zero_mul] at this
 simp only [execOp,hx,Option.map_none,Option.map_some,hy]
 simp [this,Addr.add_lit]
end
theorem put3 {A:List Value} {a b c u:Value} {o:Nat} (h:A.length=o) : (A++[a,b,c]).take (o+1)++[u]++(A++[a,b,c]).drop (o+1+1)=A++[a,u,c]:=by
 subst h
 have h1 : A.length+1-A.length=1:=by omega
 have h2 : A.length+1+1-A.length=2:=by omega
 rw [List.take_append,List.drop_append,List.take_of_length_le (by omega),List.drop_eq_nil_of_le (by omega),h1,h2]
 simp
theorem Vals.unsnoc {α:Type} [Enc α] {vals:List (List Value)} {xs:List α} {x:α} {c:Cx} (h:Vals vals (xs++[x]) c) : ∃vals' cs,vals=vals'++[cs]∧Vals vals' xs c∧Enc.Ok cs x c:=by
 obtain ⟨hl,h⟩:=h
 rw [List.length_append,List.length_singleton] at hl
 have hne : vals≠[]:=by rintro rfl;simp at hl
 obtain ⟨vals',cs,rfl⟩ : ∃vals' cs,vals=vals'++[cs]:=⟨vals.dropLast,vals.getLast hne,(List.dropLast_concat_getLast hne).symm⟩
 have hl' : vals'.length=xs.length:=by simpa using hl
 refine ⟨vals',cs,rfl,⟨hl',fun i q y h1 h2=>h i q y ?_ ?_⟩,h xs.length cs x (by rw [←hl'];simp) (by simp)⟩
 ·rw [List.getElem?_append_left (List.getElem?_eq_some_iff.1 h1).1,h1]
 ·rw [List.getElem?_append_left (List.getElem?_eq_some_iff.1 h2).1,h2]
theorem Vals.flen {α:Type} [Enc α] : ∀{vals:List (List Value)} {xs:List α} {c:Cx},Vals vals xs c→vals.flatten.length=xs.length*Enc.k α:=by
 intro vals xs c h
 have h1:=h.len
 rw [←h.1]
 clear h
 induction vals with
 | nil=>simp
 | cons a l ih =>
  rw [List.flatten_cons,List.length_append,List.length_cons,ih (fun q hq=>h1 q (.tail _ hq)),h1 a (.head _),Nat.succ_mul,Nat.add_comm]
theorem SameB.trans {D B B':BaS} (h:SameB D B) (h':SameB B B') : SameB D B' :=
 ⟨h'.1,h'.2.1.trans h.2.1,h'.2.2.1.trans h.2.2.1,h'.2.2.2.1.trans h.2.2.2.1,h'.2.2.2.2.1.trans h.2.2.2.2.1,h'.2.2.2.2.2.1.trans h.2.2.2.2.2.1,h'.2.2.2.2.2.2.1.trans h.2.2.2.2.2.2.1,h'.2.2.2.2.2.2.2.trans h.2.2.2.2.2.2.2⟩
theorem SameB.refl {D:BaS} (h:BaOk D) : SameB D D:=⟨h,rfl,rfl,rfl,rfl,rfl,rfl,rfl⟩
theorem SameB.hv {D B:BaS} (h:SameB D B) (hv:D.rels≠[]→D.vals≠[]) : B.rels≠[]→B.vals≠[]:=fun h1=>by
 rw [h.2.2.2.1]
 refine hv fun h2=>h1 (List.eq_nil_of_length_eq_zero ?_)
 rw [h.2.2.2.2.2.2.2,h2]
 rfl
theorem SameB.has {D B:BaS} (h:SameB D B) {p:Nat} {nm:ByteArray} {a:At0} : B.has p nm a↔D.has p nm a:=by
 unfold BaS.has
 rw [h.2.2.2.2.1,h.2.2.2.2.2.1,h.2.2.2.2.2.2.1]
theorem has_le3 {D:BaS} {p:Nat} {nm:ByteArray} {a:At0} (hp:p=1∨p=2∨p=3) (h:D.has p nm a) : D.has 3 nm a:=by
 rcases hp with rfl|rfl|rfl
 ·obtain ⟨h,h2⟩:=h
  exact ⟨by simpa using Or.inl (by simpa using h),h2⟩
 ·obtain ⟨h,h2⟩:=h
  exact ⟨by simpa using Or.inr (by simpa using h),h2⟩
 ·exact h
def XD (D:BaS) (dn:ByteArray) (lead:Int) (j:Nat) (t:Tm) : Prop:=D.has (partN j lead) dn (fa dn t)
theorem factsS_of {D B:BaS} {dn:ByteArray} {lead:Int} {j m:Nat} {l:List At0} (hs:SameB D B) (hm:∀l:List At0,l.Nodup→(∀a∈l,D.has 3 dn a)→l.length≤m) (h1:∀a,a∈l↔B.has (partN j lead) dn a) (h2:l.Nodup) : FactsS (XD D dn lead) dn m j l:=by
 refine ⟨fun t=>(h1 _).trans hs.has,fun a ha=>has_fa ((h1 a).1 ha),hm l h2 fun a ha=>?_⟩
 exact has_le3 (partN_or j lead) (hs.has.1 ((h1 a).1 ha))
def TurnZ (c0 c1:Cx) (G:Value→List Res→Cx→Prop) (v:Value) (c:Cx) : Prop:=∃c2 R,FrZ c0 c2 R c∧Since c1 c2∧G v R c2
instance (c0 c1 : Cx) (G : Value→List Res→Cx→Prop) (v : Value) : Mono (TurnZ c0 c1 G v):=⟨fun h ⟨c2,R,k1,k2⟩=>⟨c2,R,Mono.mono h k1,k2⟩⟩
end Go.Wk
namespace Go.Proofs.YtnppmeeibbefbaaGreatDoor
open Go Go.Wk Go.RowKit
instance : Ent Tryz.prog 95:=.of Tryz.func95 (by kernel_rfl) (by kernel_rfl)
def BindP (D:BaS) (X:Nat→Tm→Prop) (ps:List Nat) (m:Nat) (v:Value) (R:List Res) (c:Cx) : Prop:=∃B' out,R=baR B'∧SameB D B'∧BaF B' c∧Sl v out c∧(∀s∈out,PartS X ps ps.length s)∧(∀σ:Nat→Tm,(∀j∈ps,X j (σ j))→∃s∈out,AgrS ps ps.length s σ)∧out.length≤m ^ ps.length
def EntS (D:BaS) (parts:Nat) (dn:ByteArray) (s:List Bd) (R:List Res) (l:List At0) (cs:List Value) (c:Cx) : Prop:=∃B',R=baR B'∧SameB D B'∧BaF B' c∧Enc.Ok cs (⟨l,0,s⟩:Lv) c∧(∀a,a∈l↔D.has parts dn a)∧l.Nodup
def PushS (c0 c1:Cx) (D:BaS) (parts:Nat) (dn:ByteArray) (s:List Bd) (u:Value) (c:Cx) : Prop:=∃c2 R l cs,FrZ c0 c2 R c∧Since c1 c2∧EntS D parts dn s R l cs c2∧SlV [(⟨l,0,s⟩:Lv)] [cs] u c
instance (c0 c1 : Cx) (D : BaS) (parts : Nat) (dn : ByteArray) (s : List Bd) (u : Value) : Mono (PushS c0 c1 D parts dn s u):=⟨fun h ⟨c2,R,l,cs,k1,k2,k3,k4⟩=>⟨c2,R,l,cs,Mono.mono h k1,k2,k3,Mono.mono h k4⟩⟩
structure BnS where
 st : List Lv
 vS : Value
 cS : List (List Value)
 out : List (List Bd)
 vO : Value
 cO : List (List Value)
 B : BaS
def BnR (y:BnS) : List Res:=.row y.vS 218 3 y.st.length y.cS.flatten::.row y.vO 126 1 y.out.length y.cO.flatten::baR y.B
set_option maxHeartbeats 4000000 in
theorem plan_bindings (D:BaS) (x:Cl) (dn:ByteArray) (k:Nat) (ux:Value) (lead:Int) (js:List Jn) (v2:Value) (m:Nat) (c:Cx) (hx:Ag x ux c) (hb:x.body=bodyN dn k) (hjs:Sl v2 js c) (hps:(js.map Jn.atom).Perm (List.range k)) (hk:k≤8)
  (hB:BaOk D) (hF:BaF D c) (hg:GlobOk c) (hv:D.rels≠[]→D.vals≠[]) (hsz:D.size<1073741824) (hm:∀l:List At0,l.Nodup→(∀a∈l,D.has 3 dn a)→l.length≤m) (hmk:m ^ k<1073741824) :
  CnTX Tryz.prog 95 [ptr D.b,ux,.int .i64 lead,.agg #[.slice none 0 0,v2]] (baR D) c (BindP D (XD D dn lead) (js.map Jn.atom) m):=by
 refine CnTX.of Tryz.func95 Tryz.ntmps95 rfl rfl fun c0 L0 A0 _ H HA=>?_
 have HA:=(((HA.add hF).add hx).add hjs).add hg
 obtain ⟨ps,hpse⟩ : ∃ps,ps=js.map Jn.atom:=⟨_,rfl⟩
 rw [←hpse] at hps ⊢
 have hpl : ps.length=js.length:=by rw [hpse,List.length_map]
 have hpk : ps.length=k:=by rw [hps.length_eq,List.length_range]
 have hnd : ps.Nodup:=hps.nodup_iff.2 List.nodup_range
 have hbl : x.body.length=k:=by rw [hb,bodyN_len]
 have hj1:=hjs.slice1
 obtain ⟨_,ad2,cp2,e2,_⟩:=id hjs
 have hv2c : (Value.agg #[.slice none 0 0,v2]).cells=#[.slice none 0 0,v2]:=by rw [e2];rfl
 (apply wc_seq)
 apply wc_region
 (refine s_boxG rfl rfl Lk H HA ?_;intro pb c H HA)
 (refine s_box (cs:=[.slice none 0 0,v2]) rfl hv2c H HA ?_;intro b7 c H HA)
 (refine Z2 ?_;apply Y0;apply wc_scope;apply wc_seq;apply Y1;refine Z39 HA fun vx HA=>?_;refine Z3 ?_;refine Z1 ?_)
 (refine s_call rfl rfl H HA (plan_holds x _ _ _ Lk) ?_;intro vx c H HP;have hvx:=HP.h.1;have HA:=HP.cut;subst hvx)
 (repeat' (first|refine Z1 ?_|refine Z2 ?_|refine Z3 ?_|apply w_nil|apply wx_ret_goto|apply wc_seq|apply wc_region|apply wx_next|refine Z18 ?_|refine Z19 ?_|apply wc_ret|apply wc_skip|apply wx_ret_then|refine Z33 ?_|refine Z45 ?_|refine Z57 fun bx c H HA=>?_|refine Z92 (fun hq=>?_) fun hq=>?_))
 ·have hbx : Box bx [.slice none 0 0] c:=HA.h.1
  have hFc : BaF D c:=Lk
  have hjs0 : js=[]:=List.eq_nil_of_length_eq_zero (by omega)
  have hps0 : ps=[]:=List.eq_nil_of_length_eq_zero (by omega)
  have hsl : Sl (.slice (some ⟨bx,0,none⟩) 1 1) [([]:List Bd)] c:=Sl.of_box hbx ⟨_,rfl,Sl.nil c⟩
  subst hps0
  refine ret_fnX H Ca (outs1 Tryz.results95 Wh) ⟨D,[[]],rfl,SameB.refl hB,hFc,hsl,?_,?_,Nat.le_of_eq rfl⟩
  ·intro s hs
   rw [List.mem_singleton.1 hs]
   exact ⟨(fun j h=>by cases h),(fun j h=>by cases h),Nat.le_refl _⟩
  ·intro σ _
   exact ⟨[],.head _,fun j h=>by cases h⟩
 ·obtain ⟨j0,hj0⟩:=getq (xs:=js) (k:=0) (by omega)
  have hps0 : ps[0]?=some j0.atom:=by rw [hpse,List.getElem?_map,hj0];rfl
  have hj0k : j0.atom<k:=List.mem_range.1 (hps.mem_iff.1 (List.mem_of_getElem? hps0))
  (refine dw_start H HA ?_)
  (repeat (first|refine Dc ?_|refine Dm ?_))
  (refine dw_done mixed H HA rfl (by kernel_rfl) ?_;clear H HA;intro c H HA;(repeat (first|rintro vx rfl|(intro vx hx;have HA:=HA.addSF hx;clear hx)|(intro vx hx;have HA:=HA.add hx;clear hx)|intro vx));change W _ _ _ _ _ _ _)
  refine s_callX rfl rfl H HA (plan_enter D x dn k _ lead j0 _ [] _ _ Lk hb Lk hj0k (Sl.nil _) rfl hB Lk Lk hv hsz) ?_
  intro v R c H HA
  obtain ⟨B1,l0,rfl,hsame,hF1,⟨cs1,rfl,v3,v4,rfl,hl0,hl1⟩,hmem,hlen,hlnd⟩:=HA.h.1
  have HA:=((HA.cut.add hF1).add hl0).add hl1
  refine s_bs1OV (α:=Lv) (cs:=Lv.cs ⟨l0,0,[]⟩ v3 v4) (u:=⟨l0,0,[]⟩) rfl rfl (show Enc.Ok (Lv.cs ⟨l0,0,[]⟩ v3 v4) (⟨l0,0,[]⟩:Lv) _ from ⟨v3,v4,rfl,Lk,Lk⟩) rfl rfl rfl H HA inferInstance ?_
  intro vS c H HA
  (refine Z2 ?_;apply Y0;apply wc_seq;apply wc_label;apply wx_next;apply wc_seq;apply wc_block)
  have hst0 : Vals [Lv.cs ⟨l0,0,[]⟩ v3 v4] [(⟨l0,0,[]⟩:Lv)] c:=vals_single ⟨v3,v4,rfl,Lk,Lk⟩
  have hF1 : BaF B1 c:=Lk
  have hD0:=DfS.start hps0 (factsS_of hsame hm (fun a=>(hmem a).trans hsame.has.symm) hlnd)
  have H : Owns c0 (BnR ⟨[⟨l0,0,[]⟩],vS,[Lv.cs ⟨l0,0,[]⟩ v3 v4],[],.slice none 0 0,[],B1⟩++L0) c:=by
   have H0 : Owns c0 (.row vS 218 3 1 (Lv.cs ⟨l0,0,[]⟩ v3 v4)::(baR B1++L0)) c:=H
   have H2 : Owns c0 (.row (.slice none 0 0) 126 1 0 []::.row vS 218 3 1 (Lv.cs ⟨l0,0,[]⟩ v3 v4)::(baR B1++L0)) c:=H0.nilRow 126 1
   exact H2.swap
  refine wc_loopG (σ:=BnS) (fun y=>muL ps m 0 y.st) (fun y=>[(0,ptr D.b),(2,.int .i64 lead),(5,pb),(7,ptr b7),(9,y.vO),(10,y.vS)]) (fun y=>DfS (XD D dn lead) dn ps m y.st y.out∧SameB D y.B)
   (fun y=>BnR y++L0) (fun y c=>Vals y.cS y.st c∧Vals y.cO y.out c∧BaF y.B c) ⟨[⟨l0,0,[]⟩],vS,[Lv.cs ⟨l0,0,[]⟩ v3 v4],[],.slice none 0 0,[],B1⟩ H HA ⟨hst0,Vals.nil _,hF1⟩ Ks ⟨hD0,hsame⟩ ?_
  clear HA H
  intro y g c hy H HA
  obtain ⟨st,vS,cS,out,vO,cO,Bq⟩:=y
  obtain ⟨hD,hsB⟩:=hy
  dsimp only at hD hsB H HA ⊢
  have hVS : Vals cS st c:=HA.h.1.1
  have hVO : Vals cO out c:=HA.h.1.2.1
  have hFB : BaF Bq c:=HA.h.1.2.2
  have HA:=((HA.cut.add hFB).add hVO).add hVS
  have H : Owns c0 (.row vS 218 3 st.length cS.flatten::.row vO 126 1 out.length cO.flatten::(baR Bq++L0)) c:=H
  rcases List.eq_nil_or_concat st with rfl|⟨os,l,hst⟩
  ·(repeat' (first|refine Z0 ?_|refine Z2 ?_|apply w_nil|apply wx_ret_goto|apply wc_seq|apply wc_region|apply wx_next|refine Z18 ?_|refine Z19 ?_|apply wc_ret|apply wc_exit|apply wc_skip|apply wc_block|apply wx_exit_then|apply wx_exit_same|refine Z62 ?_|refine Z96 (fun hq=>?_) fun hq=>?_))
   ·exfalso;simp at hq
   have hol : out.length<1073741824:=by
    have:=hD.cnt
    rw [hpk] at this
    omega
   have H:=H.drop
   (refine wx_freezeRow H HA Lk rfl rfl (by simp only [LIM];omega) ?_;intro c H HA)
   have hFc : BaF Bq c:=Lk
   have hso : Sl vO out c:=Lk
   refine ret_fnX H Ca (outs1 Tryz.results95 Wh) ⟨Bq,out,rfl,hsB,hFc,hso,hD.sound,?_,?_⟩
   ·intro σ hσ
    rcases hD.full σ hσ with h|⟨r,l,j,h,_⟩
    ·exact h
    ·simp at h
   ·have:=hD.cnt
    omega
  ·rw [List.concat_eq_append] at hst
   subst hst
   obtain ⟨cA,cs,rfl,hVA,v3,v4,rfl,hl0,hl1⟩:=hVS.unsnoc
   have hcl : cA.flatten.length=os.length*3:=hVA.flen
   have H : Owns c0 (.row vS 218 3 (os.length+1) (cA.flatten++Lv.cs l v3 v4)::.row vO 126 1 out.length cO.flatten::(baR Bq++L0)) c:=by
    rw [List.length_append,List.flatten_append] at H
    simpa using H
   have HA:=((HA.add hVA).add hl0).add hl1
   obtain ⟨gS,capS,hvS⟩ : ∃gS capS,vS=.slice (some ⟨gS,0,none⟩) (os.length+1) capS:=by
    obtain ⟨g,cap,cur,e,_⟩:=row_blk H (.head _) (by omega)
    exact ⟨g,cap,e⟩
   subst hvS
   have hlok:=hD.ok os.length l (by simp)
   obtain ⟨j,hpj,hfs⟩:=hlok.fs
   have hosk : os.length<k:=by rw [←hpk];exact (List.getElem?_eq_some_iff.1 hpj).1
   obtain ⟨jn,hjn,hjne⟩ : ∃jn,js[os.length]?=some jn∧jn.atom=j:=by
    rw [hpse,List.getElem?_map,Option.map_eq_some_iff] at hpj
    exact hpj
   (repeat' (first|refine Z0 ?_|refine Z1 ?_|refine Z2 ?_|refine Z3 ?_|apply w_nil|apply wx_ret_goto|apply wc_seq|apply wc_region|apply wx_next|refine Z18 ?_|refine Z19 ?_|apply wc_ret|apply wc_exit|apply wc_skip|apply wc_block|apply wx_exit_then|apply wx_exit_same|refine Z34 HA fun vx HA=>?_|refine Z39 HA fun vx HA=>?_|refine Z44 ?_|refine Z49 ?_|refine Z61 fun bx c H HA=>?_|refine Z63 fun rp hrp=>?_|refine Z96 (fun hq=>?_) fun hq=>?_))
   ·obtain ⟨csj,rfl,vj,hcj,hvj⟩ : Ag jn vx c:=Lk
    subst hcj
    (refine s_storeA (vs:=[.int .i64 (jn.atom:Int),vj,.slice none 0 0]) (cs':=[.int .i64 (jn.atom:Int),vj,.slice none 0 0]) rfl rfl H HA rfl (ones_cons rfl (ones_cons hvj (ones_cons rfl ones_nil))) Rc ?_;intro c H HA)
    (apply Y0;apply wc_seq;apply wc_block)
    obtain ⟨g',m',cap',e1,rfl⟩:=hrp
    cases e1
    (obtain ⟨b12,rfl⟩:∃x,x=bx:=⟨_,rfl⟩)
    have e3 : (os.length+1-1)*3=os.length*3:=by omega
    rw [e3]
    refine wc_loopG (σ:=Unit) (fun _=>0) (fun _=>[(0,ptr D.b),(2,.int .i64 lead),(5,pb),(7,ptr b7),(9,vO),(10,.slice (some ⟨gS,0,none⟩) (os.length+1) capS),(11,.pointer (some ⟨gS,os.length*3,none⟩)),(12,ptr b12)]) (fun _=>True)
     (fun _=>.obj b12 (.cells [.int .i64 (jn.atom:Int),vj,.slice none 0 0].toArray 212 (0,0))::.row (.slice (some ⟨gS,0,none⟩) (os.length+1) capS) 218 3 (os.length+1) (cA.flatten++Lv.cs l v3 v4)::.row vO 126 1 out.length cO.flatten::(baR Bq++L0)) (fun _=>Tt) () H HA trivial Ks trivial ?_
    intro _ g2 c _ H HA
    have hc0 : (cA.flatten++Lv.cs l v3 v4)[os.length*3]?=some v3:=by rw [List.getElem?_append_right (by omega),hcl,Nat.sub_self];rfl
    have hc1 : (cA.flatten++Lv.cs l v3 v4)[os.length*3+1]?=some (.int .i64 (l.tried:Int)):=by rw [List.getElem?_append_right (by omega),hcl,Nat.add_sub_cancel_left];rfl
    have hc2 : (cA.flatten++Lv.cs l v3 v4)[os.length*3+2]?=some v4:=by rw [List.getElem?_append_right (by omega),hcl,Nat.add_sub_cancel_left];rfl
    (apply wc_seq;apply wc_seq)
    (refine dw_start H HA ?_)
    (repeat (first|refine Dc ?_|refine Dm ?_))
    (apply dw_cons;(focus ((intro B _ Lx c H HA;(repeat (first|rintro vx rfl|(intro vx hx;have HA:=HA.addSF hx;clear hx)|(intro vx hx;have HA:=HA.add hx;clear hx)|intro vx));change W _ _ _ _ _ _ _);(refine s_ldCell rfl rfl rfl H (List.mem_append_right _ (.tail _ (.head _))) hc1 ?_);exact Dx));exact inferInstance)
    (repeat (first|refine Dc ?_|refine Dm ?_))
    (apply dw_cons;(focus ((intro B _ Lx c H HA;(repeat (first|rintro vx rfl|(intro vx hx;have HA:=HA.addSF hx;clear hx)|(intro vx hx;have HA:=HA.add hx;clear hx)|intro vx));change W _ _ _ _ _ _ _);(refine s_ldCell rfl rfl rfl H (List.mem_append_right _ (.tail _ (.head _))) hc0 ?_);exact Dx));exact inferInstance)
    (repeat (first|refine Dc ?_|refine Dm ?_))
    (refine dw_done mixed H HA rfl (by kernel_rfl) ?_;clear H HA;intro c H HA;(repeat (first|rintro vx rfl|(intro vx hx;have HA:=HA.addSF hx;clear hx)|(intro vx hx;have HA:=HA.add hx;clear hx)|intro vx));change W _ _ _ _ _ _ _)
    have hfl : l.facts.length<1099511627776:=hl0.lim
    (focus (apply Y0;(focus (apply wc_cond;rfl;all_goals intro hq));apply wc_skip;apply wx_next;apply wc_block;apply wc_seq;rotate_left;apply wc_exit;apply wx_exit_then;apply wx_exit_then;apply wx_exit_same;apply wx_next;rotate_left))
    ·have hlt : l.tried<l.facts.length:=by simpa using hq
     obtain ⟨j',t,s,hstp⟩:=hlok.step hnd hlt
     obtain rfl : j'=j:=Option.some.inj (hstp.at_.symm.trans hpj)
     have hfact:=hstp.fact
     (refine dw_start H HA ?_)
     (repeat (first|refine Dc ?_|refine Dm ?_))
     (apply dw_cons;(focus ((intro B _ Lx c H HA;(repeat (first|rintro vx rfl|(intro vx hx;have HA:=HA.addSF hx;clear hx)|(intro vx hx;have HA:=HA.add hx;clear hx)|intro vx));change W _ _ _ _ _ _ _);(refine s_ldCell rfl rfl rfl H (List.mem_append_right _ (.tail _ (.head _))) hc0 ?_);exact Dx));exact inferInstance)
     (repeat (first|refine Dc ?_|refine Dm ?_))
     (apply dw_cons;(focus ((intro B _ Lx c H HA;(repeat (first|rintro vx rfl|(intro vx hx;have HA:=HA.addSF hx;clear hx)|(intro vx hx;have HA:=HA.add hx;clear hx)|intro vx));change W _ _ _ _ _ _ _);(refine s_ldCell rfl rfl rfl H (List.mem_append_right _ (.tail _ (.head _))) hc1 ?_);exact Dx));exact inferInstance)
     (repeat (first|refine Dc ?_|refine Dm ?_))
     ((refine dw_doneO mixed H HA (by kernel_rfl) (by kernel_rfl) ?_;clear H HA;intro c HA;(repeat (first|(intro bx;have hbx:bx+0=bx:=rfl;clear hbx)|rintro vx rfl|(intro vx hx;have HA:=HA.addSF hx;clear hx)|(intro vx hx;skip;have HA:=HA.add hx;clear hx)|(intro vx;have hvx2:Go.Value:=vx;clear hvx2)));(first|intro H|(have H:=HA.h.1;have HA:=HA.cut));change W _ _ _ _ _ _ _);have H:Owns _ (.obj bx (.cells (At0.cs ⟨Tn,ES,[]⟩ (.slice none 0 0)).toArray 35 (0,0))::.obj b12 (.cells [.int .i64 (jn.atom:Int),vj,.slice none 0 0].toArray 212 (0,0))::.row (.slice (some ⟨gS,0,none⟩) (os.length+1) capS) 218 3 (os.length+1) (cA.flatten++Lv.cs l v3 v4)::.row vO 126 1 out.length cO.flatten::(baR Bq++L0)) _:=H)
     obtain ⟨caf,rfl,vf,hcf,hsf⟩ : Ag (fa dn t) vx c:=Lk
     subst hcf
     have HA:=HA.add hsf
     (obtain ⟨b13,rfl⟩:∃x,x=bx:=⟨_,rfl⟩)
     (refine Z74 fun c H HA=>?_;apply Y0;apply wc_seq)
     have hgf : Ag (fa dn t) (.agg ((fa dn t).cs vf).toArray) c:=⟨_,rfl,vf,rfl,Lk⟩
     have HA:=HA.add hgf
     apply wc_region
     (refine Z0 ?_;(refine s_nilCheck rfl rfl ?_);refine Z3 ?_)
     refine s_ldCell rfl rfl rfl H (.tail _ (.tail _ (.head _))) hc1 ?_
     (refine Z46 ?_;(refine s_nilCheck rfl rfl ?_);refine Z3 ?_)
     have H0 : Owns c0 (.obj b13 (.cells ((fa dn t).cs vf).toArray 35 (0,0))::.obj b12 (.cells [.int .i64 (jn.atom:Int),vj,.slice none 0 0].toArray 212 (0,0))::.row (.slice (some ⟨gS,0,none⟩) (os.length+1) capS) 218 3 (os.length+1) (cA.flatten++Lv.cs l v3 v4)::.row vO 126 1 out.length cO.flatten::(baR Bq++L0)) c:=H
     have H : Owns c0 (.row (.slice (some ⟨gS,0,none⟩) (os.length+1) capS) 218 3 (os.length+1) (cA.flatten++Lv.cs l v3 v4)::.obj b13 (.cells ((fa dn t).cs vf).toArray 35 (0,0))::.obj b12 (.cells [.int .i64 (jn.atom:Int),vj,.slice none 0 0].toArray 212 (0,0))::.row vO 126 1 out.length cO.flatten::(baR Bq++L0)) c:=H0.perm Pm
     refine s_stCell (u:=.int .i64 ((l.tried+1:Nat):Int)) (o:=os.length*3+1) rfl rfl rfl rfl (by omega) rfl H HA inferInstance ?_
     intro c H HA
     rw [show Lv.cs l v3 v4=[v3,.int .i64 (l.tried:Int),v4] from rfl,put3 hcl] at H
     (apply Y0;apply wc_seq)
     have hc2 : (cA.flatten++[v3,.int .i64 ((l.tried+1:Nat):Int),v4])[os.length*3+2]?=some v4:=by rw [List.getElem?_append_right (by omega),hcl,Nat.add_sub_cancel_left];rfl
     have hat:=bodyN_get (dn:=dn) (k:=k) (j:=jn.atom) (by rw [hjne];exact List.mem_range.1 (hps.mem_iff.1 (List.mem_of_getElem? hpj)))
     rw [←hb] at hat
     have hall:=hlok.ah.len
     (refine dw_start H HA ?_)
     (repeat (first|refine Dc ?_|refine Dm ?_))
     (apply dw_cons;(focus ((intro B _ Lx c H HA;(repeat (first|rintro vx rfl|(intro vx hx;have HA:=HA.addSF hx;clear hx)|(intro vx hx;have HA:=HA.add hx;clear hx)|intro vx));change W _ _ _ _ _ _ _);(refine s_ldCell rfl rfl rfl H (List.mem_append_right _ (.head _)) hc2 ?_);exact Dx));exact inferInstance)
     (repeat (first|refine Dc ?_|refine Dm ?_))
     (apply dw_cons;(focus ((intro B _ Lx c H HA;(repeat (first|rintro vx rfl|(intro vx hx;have HA:=HA.addSF hx;clear hx)|(intro vx hx;have HA:=HA.add hx;clear hx)|intro vx));change W _ _ _ _ _ _ _);refine s_call rfl rfl H HA (term_Match (pat dn (jn.atom:Int)) (fa dn t) l.ahead _ _ _ _ Lk Lk Lk (show l.ahead.length+1<549755813888 by omega) (show 1+1<1099511627776 by decide)) ?_;intro vx c H HP;exact w_nil (pq_rel H (Cp) HP.h.1)));exact inferInstance)
     (apply dw_cons;(focus ((intro B _ Lx c H HA;(repeat (first|rintro vx rfl|(intro vx hx;have HA:=HA.addSF hx;clear hx)|(intro vx hx;have HA:=HA.add hx;clear hx)|intro vx));change W _ _ _ _ _ _ _);(apply s_move;exact rfl;(conv=>lhs;whnf));exact w_nil (pq_rel (S:=Mt (matchA (pat dn (jn.atom:Int)) (fa dn t) l.ahead)) H (Cu) Lk)));exact inferInstance)
     (apply dw_cons;(focus ((intro B _ Lx c H HA;(repeat (first|rintro vx rfl|(intro vx hx;have HA:=HA.addSF hx;clear hx)|(intro vx hx;have HA:=HA.add hx;clear hx)|intro vx));change W _ _ _ _ _ _ _);(obtain ⟨vm,hr,hSm⟩:=HA.h.1;subst hr;have HA:=HA.cut.add hSm);(apply s_extract;exact rfl;exact rfl;exact rfl);exact Dx));exact inferInstance)
     (apply dw_cons;(focus ((intro B _ Lx c H HA;(repeat (first|rintro vx rfl|(intro vx hx;have HA:=HA.addSF hx;clear hx)|(intro vx hx;have HA:=HA.add hx;clear hx)|intro vx));change W _ _ _ _ _ _ _);(obtain ⟨vm,hr,hSm⟩:=HA.h.1;subst hr;have HA:=HA.cut.add hSm);(apply s_extract;exact rfl;exact rfl;exact rfl);exact Dx));exact inferInstance)
     (repeat (first|refine Dc ?_|refine Dm ?_))
     (refine dw_done mixed H HA rfl (by kernel_rfl) ?_;clear H HA;intro c H HA;(repeat (first|rintro vx rfl|(intro vx hx;have HA:=HA.addSF hx;clear hx)|(intro vx hx;have HA:=HA.add hx;clear hx)|intro vx));change W _ _ _ _ _ _ _)
     have hit:=hstp.hit
     rw [←hjne] at hit
     rw [hit] at HA ⊢
     (obtain ⟨vs,rfl⟩:∃x,x=vx:=⟨_,rfl⟩)
     have hss : Sl vs s c:=HA.h.1
     have HA:=HA.add hss
     (apply Y0;apply wc_seq;apply Y1;refine Z0 ?_;refine Z33 ?_;refine Z0 ?_;refine Z4 ?_;refine Z39 HA fun vx HA=>?_;refine Z4 ?_;refine Z3 ?_;refine Z4 ?_;refine Z41 ?_;refine Z4 ?_;refine Z0 ?_;refine Z4 ?_)
     (refine s_call rfl rfl H HA (plan_holds x _ _ _ Lk) ?_;intro vx c H HP;have hvx:=HP.h.1;have HA:=HP.cut;subst hvx)
     (repeat' (first|refine Z0 ?_|refine Z1 ?_|refine Z3 ?_|refine Z4 ?_|apply w_nil|apply wc_seq|apply wc_region|apply wx_next|refine Z18 ?_|refine Z19 ?_|apply wc_skip|refine Z30 ?_|refine Z33 ?_|refine Z44 ?_|refine Z45 ?_|refine Z92 (fun hq=>?_) fun hq=>?_))
     ·refine s_bs1V (α:=List Bd) (cs:=[vs]) (u:=s) rfl hss.cellsC (show Enc.Ok [vs] s _ from ⟨vs,rfl,Lk⟩) rfl rfl rfl H HA inferInstance ?_
      intro vz c H HA
      have H : Owns c0 (.row vO 126 1 out.length cO.flatten::.row (.slice (some ⟨gS,0,none⟩) (os.length+1) capS) 218 3 (os.length+1) (cA.flatten++[v3,.int .i64 ((l.tried+1:Nat):Int),v4])::.obj b13 (.cells ((fa dn t).cs vf).toArray 35 (0,0))::.obj b12 (.cells [.int .i64 (jn.atom:Int),vj,.slice none 0 0].toArray 212 (0,0))::(baR Bq++L0)) c:=H.perm Pm
      have hemit:=hD.emit hstp (by omega)
      have hol : out.length<1073741824:=by
       have:=hD.cnt
       rw [hpk] at this
       omega
      refine s_appV (α:=List Bd) rfl rfl rfl (Lk:SlV [s] [[vs]] vz _) rfl rfl rfl (by simp only [List.length_cons,List.length_nil,LIM];omega) H HA inferInstance ?_
      intro vO2 c H HA
      (refine Z2 ?_;apply Y0;apply wc_exit;apply wx_exit_then;refine Z27 ?_;apply wx_exit_then;refine Z27 ?_;apply wx_exit_then;apply wx_exit_same)
      have H : Owns c0 (.row vO2 126 1 (out.length + [s].length) (cO.flatten++[[vs]].flatten)::.row (.slice (some ⟨gS,0,none⟩) (os.length+1) capS) 218 3 (os.length+1) (cA.flatten++[v3,.int .i64 ((l.tried+1:Nat):Int),v4])::.obj b13 (.cells ((fa dn t).cs vf).toArray 35 (0,0))::.obj b12 (.cells [.int .i64 (jn.atom:Int),vj,.slice none 0 0].toArray 212 (0,0))::(baR Bq++L0)) c:=H
      have hF3 : BaF Bq c:=Lk
      have hl0' : Sl v3 l.facts c:=Lk
      have hl1' : Sl v4 l.ahead c:=Lk
      have hVA3 : Vals (cA++[[v3,.int .i64 ((l.tried+1:Nat):Int),v4]]) (os++[(⟨l.facts,l.tried+1,l.ahead⟩:Lv)]) c:=Vals.snoc Lk ⟨v3,v4,rfl,hl0',hl1'⟩
      have hVO3 : Vals (cO++[[vs]]) (out++[s]) c:=Vals.snoc Lk ⟨vs,rfl,Lk⟩
      have H : Owns c0 (BnR ⟨os++[⟨l.facts,l.tried+1,l.ahead⟩],.slice (some ⟨gS,0,none⟩) (os.length+1) capS,cA++[[v3,.int .i64 ((l.tried+1:Nat):Int),v4]],out++[s],vO2,cO++[[vs]],Bq⟩++L0) c:=by
       have H2:=H.perm (L':=.obj b13 (.cells ((fa dn t).cs vf).toArray 35 (0,0))::.obj b12 (.cells [.int .i64 (jn.atom:Int),vj,.slice none 0 0].toArray 212 (0,0))::.row (.slice (some ⟨gS,0,none⟩) (os.length+1) capS) 218 3 (os.length+1) (cA.flatten++[v3,.int .i64 ((l.tried+1:Nat):Int),v4])::.row vO2 126 1 (out.length + [s].length) (cO.flatten++[[vs]].flatten)::(baR Bq++L0)) Pm
       have H3:=H2.drop.drop
       rw [BnR]
       simpa using H3
      exact wx_loopG ((⟨os++[⟨l.facts,l.tried+1,l.ahead⟩],.slice (some ⟨gS,0,none⟩) (os.length+1) capS,cA++[[v3,.int .i64 ((l.tried+1:Nat):Int),v4]],out++[s],vO2,cO++[[vs]],Bq⟩:BnS)) H Cu ⟨hVA3,hVO3,hF3⟩ Ks (mu_emit hlt) ⟨hemit,hsB⟩
     ·obtain ⟨jn2,hjn2⟩:=getq (xs:=js) (k:=os.length+1) (by omega)
      have hpj2 : ps[os.length+1]?=some jn2.atom:=by rw [hpse,List.getElem?_map,hjn2];rfl
      have hjn2k : jn2.atom<k:=List.mem_range.1 (hps.mem_iff.1 (List.mem_of_getElem? hpj2))
      have hno2 : lookB s (jn2.atom:Int)=none:=hstp.part.no _ (by rw [drop_one' hpj2];exact .head _)
      have H : Owns c0 ((baR Bq++[])++(.row (.slice (some ⟨gS,0,none⟩) (os.length+1) capS) 218 3 (os.length+1) (cA.flatten++[v3,.int .i64 ((l.tried+1:Nat):Int),v4])::.row vO 126 1 out.length cO.flatten::.obj b13 (.cells ((fa dn t).cs vf).toArray 35 (0,0))::.obj b12 (.cells [.int .i64 (jn.atom:Int),vj,.slice none 0 0].toArray 212 (0,0))::L0)) c:=by
       rw [List.append_nil]
       exact H.perm Pm
      obtain ⟨c1,hc1⟩ : ∃c1,c1=c:=⟨c,rfl⟩
      have HS : Since c1 c:=by rw [hc1];exact Le.refl c
      have HA:=HA.add HS
      have HA1:=HA
      rw [←hc1] at HA1
      rw [←hsB.2.1]
      refine dw_startE (I:=baR Bq++[]) H HA ?_
      (repeat (first|refine Dc ?_|refine Dm ?_))
      refine dw_consT (pr:=baR Bq) (po:=[]) (S:=TurnZ c0 c1 (EnterP Bq (partN jn2.atom lead) dn s)) ?_ inferInstance ?_
      ·(intro B _ Lx c HA;(repeat (first|rintro vx rfl|(intro vx hx;have HA:=HA.addSF hx;clear hx)|(intro vx hx;skip;have HA:=HA.add hx;clear hx)|(intro vx;have hvx2:Go.Value:=vx;clear hvx2)));(first|intro H|(have H:=HA.h.1;have HA:=HA.cut));change W _ _ _ _ _ _ _)
       refine s_callX rfl rfl H HA (plan_enter Bq x dn k _ lead jn2 _ s vs _ Lk hb Lk hjn2k Lk hno2 hsB.1 Lk Lk (hsB.hv hv) (by rw [hsB.2.2.1];exact hsz)) ?_
       intro v R c H HA
       have hE:=HA.h.1
       have HA:=HA.cut
       have hsc : Since c1 c:=Lk
       obtain ⟨c',hw,hle,H',hz⟩:=H.freezeZ (c1:=c) (Le.refl c)
       rw [←hw]
       have HA2:=HA.to hle
       clear HA
       have HA:=HA2
       exact w_nil (pq_turn H' Cu ⟨c,R,hz,hsc,hE⟩)
      refine dw_cons (s:=.rel fun u c=>PushS c0 c1 Bq (partN jn2.atom lead) dn s u c) ?_ inferInstance ?_
      ·(intro B _ Lx c H HA;(repeat (first|rintro vx rfl|(intro vx hx;have HA:=HA.addSF hx;clear hx)|(intro vx hx;have HA:=HA.add hx;clear hx)|intro vx));change W _ _ _ _ _ _ _)
       obtain ⟨c2,R,hz,hsc,Bq',l2,hR,hsm,hF2,⟨cs2,rfl,hok⟩,hmm,hll,hln⟩:=HA.h.1
       have hok2 : Enc.Ok cs2 (⟨l2,0,s⟩:Lv) c:=Mono.mono hz.2.2 hok
       refine s_bs1V (α:=Lv) (cs:=cs2) (u:=⟨l2,0,s⟩) rfl rfl hok2 rfl rfl rfl H (HA.add hz) inferInstance ?_
       intro vx c H HA
       have hz2 : FrZ c0 c2 R c:=Lk
       exact w_nil (pq_rel H Cu ⟨c2,R,l2,cs2,hz2,hsc,⟨Bq',hR,hsm,hF2,hok,hmm,hln⟩,HA.h.1⟩)
      refine dw_doneT mixed (I:=baR Bq++[]) (by kernel_rfl) H HA (by kernel_rfl) ?_
      clear H HA
      intro c HA v114 h114 v120 h120 v121 h121 v123 h123 v124 h124 H
      change W _ _ _ _ _ _ _
      obtain ⟨c2,R,l2,cs2,hz,hsc,⟨B',rfl,hsm,hF2,⟨v5,v6,rfl,h5,h6⟩,hmm,hln⟩,hsl⟩:=h124
      have HA:=(HA.add hz).add hsl
      have H : Owns c0 (.row (.slice (some ⟨gS,0,none⟩) (os.length+1) capS) 218 3 (os.length+1) (cA.flatten++[v3,.int .i64 ((l.tried+1:Nat):Int),v4])::.row vO 126 1 out.length cO.flatten::.obj b13 (.cells ((fa dn t).cs vf).toArray 35 (0,0))::.obj b12 (.cells [.int .i64 (jn.atom:Int),vj,.slice none 0 0].toArray 212 (0,0))::L0) c:=H
      refine s_appV (α:=Lv) rfl rfl rfl (Lk:SlV [(⟨l2,0,s⟩:Lv)] [Lv.cs ⟨l2,0,s⟩ v5 v6] v124 _) rfl rfl rfl (by simp only [List.length_cons,List.length_nil,LIM];omega) H HA inferInstance ?_
      intro vS2 c H HA
      (refine Z2 ?_;apply Y0;apply wc_exit;refine Z27 ?_;apply wx_exit_then;refine Z27 ?_;apply wx_exit_then;apply wx_exit_same)
      have H : Owns c0 (.row vS2 218 3 (os.length+1+1) (cA.flatten++[v3,.int .i64 ((l.tried+1:Nat):Int),v4]++[Lv.cs ⟨l2,0,s⟩ v5 v6].flatten)::.row vO 126 1 out.length cO.flatten::.obj b13 (.cells ((fa dn t).cs vf).toArray 35 (0,0))::.obj b12 (.cells [.int .i64 (jn.atom:Int),vj,.slice none 0 0].toArray 212 (0,0))::L0) c:=H
      have hz3 : FrZ c0 c2 (baR B') c:=Lk
      have HA2:=(((HA1.to hsc).add h5).add h6).add hF2
      refine wx_thawZ H hz3 HA2 ?_
      clear H HA
      intro c H HA
      have hF3 : BaF B' c:=Lk
      have h5' : Sl v5 l2 c:=Lk
      have h6' : Sl v6 s c:=Lk
      have hl0' : Sl v3 l.facts c:=Lk
      have hl1' : Sl v4 l.ahead c:=Lk
      have hVO3 : Vals cO out c:=Lk
      have hVa : Vals (cA++[[v3,.int .i64 ((l.tried+1:Nat):Int),v4]]) (os++[(⟨l.facts,l.tried+1,l.ahead⟩:Lv)]) c:=Vals.snoc Lk ⟨v3,v4,rfl,hl0',hl1'⟩
      have hVA3 : Vals ((cA++[[v3,.int .i64 ((l.tried+1:Nat):Int),v4]])++[Lv.cs ⟨l2,0,s⟩ v5 v6]) ((os++[(⟨l.facts,l.tried+1,l.ahead⟩:Lv)])++[(⟨l2,0,s⟩:Lv)]) c:=Vals.snoc hVa ⟨v5,v6,rfl,h5',h6'⟩
      have hfs2:=factsS_of hsB hm hmm hln
      have H : Owns c0 (BnR ⟨(os++[⟨l.facts,l.tried+1,l.ahead⟩])++[⟨l2,0,s⟩],vS2,(cA++[[v3,.int .i64 ((l.tried+1:Nat):Int),v4]])++[Lv.cs ⟨l2,0,s⟩ v5 v6],out,vO,cO,B'⟩++L0) c:=by
       have H2:=H.perm (L':=.obj b13 (.cells ((fa dn t).cs vf).toArray 35 (0,0))::.obj b12 (.cells [.int .i64 (jn.atom:Int),vj,.slice none 0 0].toArray 212 (0,0))::.row vS2 218 3 (os.length+1+1) (cA.flatten++[v3,.int .i64 ((l.tried+1:Nat):Int),v4]++[Lv.cs ⟨l2,0,s⟩ v5 v6].flatten)::.row vO 126 1 out.length cO.flatten::(baR B'++L0)) Pm
       have H3:=H2.drop.drop
       rw [BnR]
       simpa using H3
      exact wx_loopG ((⟨(os++[⟨l.facts,l.tried+1,l.ahead⟩])++[⟨l2,0,s⟩],vS2,(cA++[[v3,.int .i64 ((l.tried+1:Nat):Int),v4]])++[Lv.cs ⟨l2,0,s⟩ v5 v6],out,vO,cO,B'⟩:BnS)) H Cu ⟨hVA3,hVO3,hF3⟩ Ks (mu_push hlt (by omega) hfs2.2.2) ⟨hD.push hstp hpj2 hfs2,hsB.trans hsm⟩
    ·(apply wc_region;refine Z0 ?_;refine Z0 ?_;refine Z44 ?_;refine Z49 ?_)
     refine s_slCut (m2:=os.length) (cs:=cA.flatten) (ds:=Lv.cs l v3 v4) rfl rfl rfl hcl (by omega) (by omega) H.drop HA inferInstance ?_
     intro c H HA
     (refine Z2 ?_;apply w_nil;apply wx_norm_block)
     have hltf : l.facts.length≤l.tried:=by simpa using hq
     have hF3 : BaF Bq c:=Lk
     have hVA3 : Vals cA os c:=Lk
     have hVO3 : Vals cO out c:=Lk
     exact wx_loopG ((⟨os,.slice (some ⟨gS,0,none⟩) os.length capS,cA,out,vO,cO,Bq⟩:BnS)) H Cu ⟨hVA3,hVO3,hF3⟩ Ks mu_pop ⟨hD.pop hltf,hsB⟩
   ·exfalso;omega
end Go.Proofs.YtnppmeeibbefbaaGreatDoor
namespace Go.Proofs
open Go.Shelf
end Go.Proofs
namespace Go.Proofs.YtnppmeeibbefbaaGreatDoor
open Go Go.Wk Go.RowKit Go.Shelf
instance : Ent Tryz.prog 97:=.of Tryz.func97 (by kernel_rfl) (by kernel_rfl)
instance : Ent Tryz.prog 99:=.of Tryz.func99 (by kernel_rfl) (by kernel_rfl)
instance : Ent Tryz.prog 70:=.of Tryz.func70 (by kernel_rfl) (by kernel_rfl)
instance : Ent Tryz.prog 69:=.of Tryz.func69 (by kernel_rfl) (by kernel_rfl)
instance : Ent Tryz.prog 98:=.of Tryz.func98 (by kernel_rfl) (by kernel_rfl)
instance : Ent Tryz.prog 96:=.of Tryz.func96 (by kernel_rfl) (by kernel_rfl)
instance : Ent Tryz.prog 66:=.of Tryz.func66 (by kernel_rfl) (by kernel_rfl)
instance : SlT Tryz.prog 133 33:=⟨by kernel_rfl⟩
theorem plan_order (xs ys:List Tm) (v1 v2:Value) (c:Cx) (h1:Sl v1 xs c) (h2:Sl v2 ys c) (hs:∀t∈xs,t.sm) : Cn Tryz.prog 97 [v1,v2] c (fun v _=>v=.int .i64 (lexL cmpTm xs ys)):=by
 refine Cn.of Tryz.func97 Tryz.ntmps97 rfl rfl fun hm H HA=>?_
 have HA:=(HA.add h1).add h2
 (apply Y1;refine Z2 ?_;apply Y2;refine Z0 ?_;refine Z0 ?_)
 (refine s_call rfl rfl H HA (CompareFunc_Tm xs ys _ _ _ Lk Lk hs) ?_;intro vx c H HP;have hvx:=HP.h.1;have HA:=HP.cut;subst hvx)
 (refine Z2 ?_;apply Y0;apply wc_ret)
 exact ret_fn H hm (outs1 Tryz.results97 Wh) rfl
theorem plan_Solve1 (xs ys:List Tm) (v1 v2:Value) (c:Cx) (h1:Sl v1 xs c) (h2:Sl v2 ys c) (hs:∀t∈xs,t.sm) : Cn Tryz.prog 99 [v1,v2] c (fun v _=>v=.bool (decide (xs=ys))):=by
 refine Cn.of Tryz.func99 Tryz.ntmps99 rfl rfl fun hm H HA=>?_
 have HA:=(HA.add h1).add h2
 have hT:=(lexL_t3 cmpTm_t3).eq0 (a:=xs) (b:=ys)
 (apply Y1;refine Z2 ?_;apply Y2;refine Z0 ?_;refine Z0 ?_)
 (refine s_call rfl rfl H HA (plan_order xs ys _ _ _ Lk Lk hs) ?_;intro vx c H HP;have hvx:=HP.h.1;have HA:=HP.cut;subst hvx)
 (focus (refine Z92 (fun hq=>?_) fun hq=>?_;refine Z2 ?_;apply Y0;apply wc_ret;rotate_left;refine Z2 ?_;apply Y0;apply wc_ret;rotate_left))
 all_goals exact ret_fn H hm (outs1 Tryz.results99 Wh) (by first|(rw [decide_eq_true (hT.1 (by assumption))])|(rw [decide_eq_false fun e=>absurd (hT.2 e) (by assumption)]))
theorem plan_Fire1 (a b:At0) (u1 u2:Value) (c:Cx) (h1:Ag a u1 c) (h2:Ag b u2 c) (hs:a.sm) : Cn Tryz.prog 70 [u1,u2] c (fun v _=>v=.bool (decide (a=b))):=by
 refine Cn.of Tryz.func70 Tryz.ntmps70 rfl rfl fun hm H HA=>?_
 have HA:=(HA.add h1).add h2
 have hT:=cmpAt_t3.eq0 (a:=a) (b:=b)
 (apply wc_seq;apply wc_region)
 (refine s_boxG rfl rfl Lk H HA ?_;intro p c H HA)
 (refine s_boxG rfl rfl Lk H HA ?_;intro q c H HA)
 (refine Z2 ?_;apply Y2;refine Z39 HA fun vx HA=>?_;refine Z39 HA fun vx HA=>?_)
 (refine s_call rfl rfl H HA (term_CompareAtoms a b _ _ _ Lk Lk hs) ?_;intro vx c H HP;have hvx:=HP.h.1;have HA:=HP.cut;subst hvx)
 (focus (refine Z92 (fun hq=>?_) fun hq=>?_;refine Z2 ?_;apply Y0;apply wc_ret;rotate_left;refine Z2 ?_;apply Y0;apply wc_ret;rotate_left))
 all_goals exact ret_fn H hm (outs1 Tryz.results70 Wh) (by first|(rw [decide_eq_true (hT.1 (by assumption))])|(rw [decide_eq_false fun e=>absurd (hT.2 e) (by assumption)]))
theorem at_zero (c:Cx) : Enc.Ok (At0.cs ⟨Tn,ES,[]⟩ (.slice none 0 0)) (⟨Tn,ES,[]⟩:At0) c:=⟨_,rfl,Sl.nil c⟩
theorem tt_zero (c:Cx) : Enc.Ok [.slice none 0 0] ([]:List Tm) c:=⟨_,rfl,Sl.nil c⟩
theorem sortTT_q : SortsQ1 Tryz.prog 96 97:=by
 have hf : Tryz.sortTT_ren.f 6=96:=by kernel_rfl
 refine ⟨fun T _ enc cf blk cap d w hO h1 hc hH hb hl=>?_⟩
 have h:=Any.slices_SortFunc Tryz.sortTT enc h1 cf hO 97 #[] blk 0 cap d w Ent.h hc hH hb hl
 rwa [hf] at h
theorem sortTT_0 (p:Option Addr) (cap:Nat) (c:Cx) : Cn Tryz.prog 96 [.slice p 0 cap,.func (.func 97) #[] #[]] c (fun v _=>v=.tuple #[]):=by
 have hf : Tryz.sortTTn_ren.f 6=96:=by kernel_rfl
 intro hm
 have h:=AnyF.slices_SortFunc_none Tryz.sortTTn p cap (.func (.func 97) #[] #[]) c.w
 rw [hf] at h
 exact h.mono fun _ w' ⟨he,hw⟩=>⟨_,he,by rw [hw];exact Ext0.refl _,rfl⟩
theorem CompactFunc_At (xs:List At0) (v:Value) (vals:List (List Value)) (c:Cx) (HV:Vals vals xs c) (hlim:xs.length<1099511627776) (hsm:∀x∈xs,x.sm) : CnT Tryz.prog 69 [v,.func (.func 70) #[] #[]] [.row v 35 5 xs.length vals.flatten] [] c (fun p c=>Sl p (adjL xs) c):=by
 refine CnT.of Tryz.func69 Tryz.ntmps69 rfl rfl fun c0 L0 A0 _ H HA=>?_
 have hvl:=HV.1
 have HA:=HA.add HV
 have H : Owns c0 (.row v 35 5 xs.length vals.flatten::L0) c:=H
 (repeat' (first|refine Z0 ?_|refine Z2 ?_|apply w_nil|apply wc_seq|apply wc_region|apply wx_next|refine Z18 ?_|refine Z19 ?_|apply wc_ret|apply wc_skip|apply wc_block|apply wx_ret_then|refine Z62 ?_|refine Z93 (fun hq=>?_) fun hq=>?_))
 ·have he : adjL xs=xs:=by
   match xs,hq with
   | [],_=>rfl
   | [x],_=>rfl
   | x::y::l,hq=>simp at hq;omega
  (refine wx_freezeRow H HA Lk rfl rfl (by simp only [LIM];omega) ?_;intro c H HA)
  rw [he]
  exact ret_fnT (post:=[]) H Ca (outs1 Tryz.results69 Wh) Lk
 have h2 : 2≤xs.length:=by omega
 refine wc_loopN xs.length (fun k=>[(0,v),(1,.func (.func 70) #[] #[]),(5,.int .i64 k)]) (fun k=>1≤k∧adjL (xs.take k)=xs.take k) 1 H HA Ks (by omega) ⟨Nat.le_refl _,by
  cases xs with
  | nil=>rfl
  | cons x l=>rfl⟩ ?_
 intro k g c hk hp H HA
 obtain ⟨hk1,hadj⟩:=hp
 (repeat' (first|refine Z0 ?_|refine Z2 ?_|apply w_nil|apply wc_seq|apply wc_region|apply wx_next|refine Z18 ?_|refine Z19 ?_|apply wc_ret|apply wc_exit|apply wc_skip|apply wc_block|apply wx_exit_then|apply wx_exit_same|refine Z62 ?_|refine Z93 (fun hq=>?_) fun hq=>?_))
 ·obtain ⟨b,hb⟩:=getq (xs:=xs) (k:=k) (by omega)
  obtain ⟨a,ha⟩:=getq (xs:=xs) (k:=k-1) (by omega)
  have hat:=adjL_take (xs:=xs) (k:=k-1) ha (by rw [show k-1+1=k by omega];exact hb)
  rw [show k-1+2=k+1 by omega,show k-1+1=k by omega] at hat
  have htk : xs.take (k+1)=xs.take k++[b]:=by rw [List.take_add_one,hb];rfl
  have ek : ((k:Int)-1)=((k-1:Nat):Int):=by omega
  by_cases he : b=a
  ·have hde : decide (b=a)=true:=by simpa using he
   refine wc_lendX (fun f=>KS f [(0,v),(1,.func (.func 70) #[] #[]),(5,.int .i64 k),(28,.bool true)]) H HA Lk rfl rfl (by simp only [LIM];omega) ?_ ?_
   ·intro c1 c H HA
    (refine dw_start H HA ?_)
    (repeat (refine Dc ?_))
    (apply dw_cons;(focus ((intro B _ Lx c H HA;(repeat (first|rintro vx rfl|(intro vx hx;have HA:=HA.addSF hx;clear hx)|(intro vx hx;have HA:=HA.add hx;clear hx)|intro vx));change W _ _ _ _ _ _ _);(refine s_callV (caps:=[]) rfl rfl rfl H HA (plan_Fire1 b a _ _ _ Lk Lk (hsm b (List.mem_of_getElem? hb))) ?_;intro vx c H HP;have hvx:=HP.h.1;have HA:=HP.cut;subst hvx);exact Dx));exact inferInstance)
    (repeat (refine Dc ?_))
    (refine dw_done mixed H HA rfl (by kernel_rfl) ?_;clear H HA;intro c H HA;(repeat (first|rintro vx rfl|(intro vx hx;have HA:=HA.addSF hx;clear hx)|(intro vx hx;have HA:=HA.add hx;clear hx)|intro vx));change W _ _ _ _ _ _ _)
    rw [hde]
    exact w_nil (wx_cut ⟨Ks,H,Lk⟩)
   intro f c hR H HA
   obtain ⟨g2,rfl⟩:=hR.ex
   rw [if_pos he.symm,List.append_nil] at hat
   (apply wx_next;refine Z18 ?_;apply Y1;refine Z0 ?_;refine Z0 ?_)
   refine s_slR (lo:=k) (hi:=xs.length) rfl rfl (.inl rfl) (.inr ⟨rfl,rfl⟩) H (List.Mem.head _) (by omega) (Nat.le_refl _) ?_
   intro s2 hs2
   (refine Z2 ?_;apply Y0;apply wc_seq;apply Y1;refine Z2 ?_;apply Y0;apply wc_block)
   have hwf : (xs.length-k:Nat)=((xs.length-k:Nat):Int):=rfl
   refine wc_loopG (σ:=Nat×Nat×List At0×List (List Value)) (fun y=>xs.length-k-y.2.1) (fun y=>[(0,v),(1,.func (.func 70) #[] #[]),(5,.int .i64 y.1),(6,s2),(7,.int .i64 y.2.1)])
    (fun y=>1≤y.2.1∧k+y.2.1≤xs.length∧y.1+1≤k+y.2.1∧y.2.2.1.length=xs.length∧y.2.2.1.take y.1=adjL (xs.take (k+y.2.1))∧y.2.2.1.drop (k+y.2.1-1)=xs.drop (k+y.2.1-1)∧y.2.2.2.length=xs.length)
    (fun y=>.row v 35 5 y.2.2.1.length y.2.2.2.flatten::L0) (fun y c=>Vals y.2.2.2 y.2.2.1 c) (k,1,xs,vals) H HA Lk Ks ⟨Nat.le_refl _,by dsimp only;omega,Nat.le_refl _,rfl,by dsimp only;rw [hat,hadj],rfl,hvl⟩ ?_
   intro y g c hp H HA
   obtain ⟨k2,i,acc,vals2⟩:=y
   obtain ⟨hi1,hi2,hk2,hal,hat2,hdr,hv2l⟩:=hp
   dsimp only at hi1 hi2 hk2 hal hat2 hdr hv2l H HA ⊢
   (apply wc_seq;apply Y1;refine Z0 ?_;refine Z0 ?_)
   (refine s_lenRS rfl rfl hs2 ?_)
   rw [←hal] at hs2
   (repeat' (first|refine Z0 ?_|apply w_nil|apply wc_seq|apply wc_region|apply wx_next|refine Z18 ?_|refine Z19 ?_|apply wc_exit|apply wc_skip|apply wc_block|apply wx_exit_then|apply wx_exit_same|refine Z93 (fun hq=>?_) fun hq=>?_))
   ·have hgd : ∀q,k+i-1≤q→acc[q]?=xs[q]?:=fun q hq=>by
     have h:=congrArg (·[q-(k+i-1)]?) hdr
     simp only [List.getElem?_drop] at h
     rwa [show k+i-1+(q-(k+i-1))=q by omega] at h
    obtain ⟨b2,hb2⟩:=getq (xs:=xs) (k:=k+i) (by omega)
    obtain ⟨a2,ha2⟩:=getq (xs:=xs) (k:=k+i-1) (by omega)
    have hb3 : acc[k+i]?=some b2:=(hgd _ (by omega)).trans hb2
    have ha3 : acc[k+i-1]?=some a2:=(hgd _ (Nat.le_refl _)).trans ha2
    have hat3:=adjL_take (xs:=xs) (k:=k+i-1) ha2 (by rw [show k+i-1+1=k+i by omega];exact hb2)
    rw [show k+i-1+2=k+i+1 by omega,show k+i-1+1=k+i by omega] at hat3
    have hdr2 : acc.drop (k+i)=xs.drop (k+i):=by
     have h:=congrArg (List.drop 1) hdr
     simp only [List.drop_drop] at h
     rwa [show k+i-1+1=k+i by omega] at h
    have hl1 : ((acc.drop k).take (acc.length-k))[i]?=some b2:=by rw [List.getElem?_take,if_pos (by omega),List.getElem?_drop];exact hb3
    have hl2 : ((acc.drop k).take (acc.length-k))[i-1]?=some a2:=by rw [List.getElem?_take,if_pos (by omega),List.getElem?_drop,show k+(i-1)=k+i-1 by omega];exact ha3
    by_cases he2 : b2=a2
    ·have hde : decide (b2=a2)=true:=by simpa using he2
     refine wc_lendX (fun f=>KS f [(0,v),(1,.func (.func 70) #[] #[]),(5,.int .i64 k2),(6,s2),(7,.int .i64 i),(49,.bool false)]) H HA Lk rfl rfl (by simp only [LIM];omega) ?_ ?_
     ·intro c1 c H HA
      have hsl:=hs2.sl (xs:=acc) (c:=c) Lk rfl (by omega) (Nat.le_refl _)
      generalize (acc.drop k).take (acc.length-k)=L2 at hl1 hl2 hsl
      have HA:=HA.add hsl
      (refine dw_start H HA ?_)
      (repeat (refine Dc ?_))
      (apply dw_cons;(focus ((intro B _ Lx c H HA;(repeat (first|rintro vx rfl|(intro vx hx;have HA:=HA.addSF hx;clear hx)|(intro vx hx;have HA:=HA.add hx;clear hx)|intro vx));change W _ _ _ _ _ _ _);(refine s_callV (caps:=[]) rfl rfl rfl H HA (plan_Fire1 b2 a2 _ _ _ Lk Lk (hsm b2 (List.mem_of_getElem? hb2))) ?_;intro vx c H HP;have hvx:=HP.h.1;have HA:=HP.cut;subst hvx);exact Dx));exact inferInstance)
      (repeat (refine Dc ?_))
      (refine dw_done mixed H HA rfl (by kernel_rfl) ?_;clear H HA;intro c H HA;(repeat (first|rintro vx rfl|(intro vx hx;have HA:=HA.addSF hx;clear hx)|(intro vx hx;have HA:=HA.add hx;clear hx)|intro vx));change W _ _ _ _ _ _ _)
      rw [hde]
      exact w_nil (wx_cut ⟨Ks,H,Lk⟩)
     intro f c hR2 H HA
     obtain ⟨g3,rfl⟩:=hR2.ex
     rw [if_pos he2.symm,List.append_nil] at hat3
     (apply wx_next;refine Z19 ?_;apply wc_skip;apply wx_norm_block;apply wx_next;apply wc_region;refine Z0 ?_;refine Z46 ?_;refine Z2 ?_;apply w_nil)
     exact wx_loopG ((k2,i+1,acc,vals2)) H Cu Lk Ks (by dsimp only;omega) ⟨by dsimp only;omega,by dsimp only;omega,by dsimp only;omega,hal,by dsimp only;rw [hat2,←hat3];rfl,hdr2,hv2l⟩
    ·have hde : decide (b2=a2)=false:=by simpa using he2
     refine wc_lendX (fun f=>KS f [(0,v),(1,.func (.func 70) #[] #[]),(5,.int .i64 k2),(6,s2),(7,.int .i64 i),(49,.bool true)]) H HA Lk rfl rfl (by simp only [LIM];omega) ?_ ?_
     ·intro c1 c H HA
      have hsl:=hs2.sl (xs:=acc) (c:=c) Lk rfl (by omega) (Nat.le_refl _)
      generalize (acc.drop k).take (acc.length-k)=L2 at hl1 hl2 hsl
      have HA:=HA.add hsl
      (refine dw_start H HA ?_)
      (repeat (refine Dc ?_))
      (apply dw_cons;(focus ((intro B _ Lx c H HA;(repeat (first|rintro vx rfl|(intro vx hx;have HA:=HA.addSF hx;clear hx)|(intro vx hx;have HA:=HA.add hx;clear hx)|intro vx));change W _ _ _ _ _ _ _);(refine s_callV (caps:=[]) rfl rfl rfl H HA (plan_Fire1 b2 a2 _ _ _ Lk Lk (hsm b2 (List.mem_of_getElem? hb2))) ?_;intro vx c H HP;have hvx:=HP.h.1;have HA:=HP.cut;subst hvx);exact Dx));exact inferInstance)
      (repeat (refine Dc ?_))
      (refine dw_done mixed H HA rfl (by kernel_rfl) ?_;clear H HA;intro c H HA;(repeat (first|rintro vx rfl|(intro vx hx;have HA:=HA.addSF hx;clear hx)|(intro vx hx;have HA:=HA.add hx;clear hx)|intro vx));change W _ _ _ _ _ _ _)
      rw [hde]
      exact w_nil (wx_cut ⟨Ks,H,Lk⟩)
     intro f c hR2 H HA
     obtain ⟨g3,rfl⟩:=hR2.ex
     rw [if_neg (fun e=>he2 e.symm)] at hat3
     (apply wx_next;refine Z18 ?_;apply Y1;refine Z0 ?_;refine Z0 ?_;refine Z0 ?_;refine Z0 ?_)
     refine s_ixRS rfl rfl rfl hs2 H (List.Mem.head _) rfl (by omega) ?_
     intro q hq3
     refine s_ldRX rfl rfl hq3 H (List.Mem.head _) Lk rfl hb3 ?_
     intro cs4 hcs4 hok4
     (refine Z63 fun rp hrp=>?_)
     (refine s_stRA (u:=b2) rfl rfl hrp H Lk (by omega) rfl hok4 HA inferInstance ?_;intro c H HA)
     (apply Y0;apply wc_region;refine Z0 ?_;refine Z46 ?_;refine Z2 ?_;apply w_nil;apply wx_norm_block;apply wx_next;apply wc_region;refine Z0 ?_;refine Z46 ?_;refine Z2 ?_;apply w_nil)
     exact wx_loopG ((k2+1,i+1,acc.set k2 b2,vals2.set k2 cs4)) H Cu Lk Ks (by dsimp only;omega) ⟨by dsimp only;omega,by dsimp only;omega,by dsimp only;omega,by simpa using hal,by
      dsimp only
      rw [take_set_succ (by omega),hat2,←hat3]
      rfl,by
      dsimp only
      rw [List.drop_set_of_lt (by omega)]
      exact hdr2,by simpa using hv2l⟩
   ·have hki : k+i=xs.length:=by omega
    rw [hki,List.take_of_length_le (Nat.le_refl _)] at hat2
    refine s_slR (lo:=k2) (hi:=acc.length) rfl rfl (.inl rfl) (.inr ⟨rfl,rfl⟩) H (List.Mem.head _) (by omega) (Nat.le_refl _) ?_
    intro q hq3
    refine s_clearZ (α:=At0) (u:=(⟨Tn,ES,[]⟩:At0)) (zs:=At0.cs ⟨Tn,ES,[]⟩ (.slice none 0 0)) rfl at_zero rfl rfl hq3 (by omega) H Lk HA ?_
    intro c vals3 acc3 hl3 ht3 hv3 H HA
    (apply Y2;refine Z0 ?_;refine Z0 ?_)
    refine s_slR (lo:=0) (hi:=k2) rfl rfl (.inr ⟨rfl,rfl⟩) (.inl rfl) H (List.Mem.head _) (by omega) (by omega) ?_
    intro q4 hq4
    (refine Z2 ?_;apply Y0;apply wc_ret;apply wx_ret_block;apply wx_ret_then;apply wx_ret_then;apply wx_ret_block;apply wx_ret_then)
    (refine wx_freezeRow H HA Lk rfl rfl (by simp only [LIM];omega) ?_;intro c H HA)
    have hsl:=hq4.sl (xs:=acc3) (c:=c) Lk rfl (by omega) (by omega)
    rw [List.drop_zero,Nat.sub_zero,ht3,hat2] at hsl
    exact ret_fnT (post:=[]) H Ca (outs1 Tryz.results69 Wh) hsl
  ·have hde : decide (b=a)=false:=by simpa using he
   refine wc_lendX (fun f=>KS f [(0,v),(1,.func (.func 70) #[] #[]),(5,.int .i64 k),(28,.bool false)]) H HA Lk rfl rfl (by simp only [LIM];omega) ?_ ?_
   ·intro c1 c H HA
    (refine dw_start H HA ?_)
    (repeat (refine Dc ?_))
    (apply dw_cons;(focus ((intro B _ Lx c H HA;(repeat (first|rintro vx rfl|(intro vx hx;have HA:=HA.addSF hx;clear hx)|(intro vx hx;have HA:=HA.add hx;clear hx)|intro vx));change W _ _ _ _ _ _ _);(refine s_callV (caps:=[]) rfl rfl rfl H HA (plan_Fire1 b a _ _ _ Lk Lk (hsm b (List.mem_of_getElem? hb))) ?_;intro vx c H HP;have hvx:=HP.h.1;have HA:=HP.cut;subst hvx);exact Dx));exact inferInstance)
    (repeat (refine Dc ?_))
    (refine dw_done mixed H HA rfl (by kernel_rfl) ?_;clear H HA;intro c H HA;(repeat (first|rintro vx rfl|(intro vx hx;have HA:=HA.addSF hx;clear hx)|(intro vx hx;have HA:=HA.add hx;clear hx)|intro vx));change W _ _ _ _ _ _ _)
    rw [hde]
    exact w_nil (wx_cut ⟨Ks,H,Lk⟩)
   intro f c hR H HA
   obtain ⟨g2,rfl⟩:=hR.ex
   rw [if_neg (fun e=>he e.symm),hadj] at hat
   (apply wx_next;refine Z19 ?_;apply wc_skip;apply wx_norm_block;apply wx_next;apply wc_region;refine Z0 ?_;refine Z46 ?_;refine Z2 ?_;apply w_nil)
   exact wx_loopN (k+1) H Cu Ks (by omega) ⟨by omega,by rw [hat,htk]⟩
 ·have hka : adjL xs=xs:=by rw [List.take_of_length_le (by omega)] at hadj;exact hadj
  (refine wx_freezeRow H HA Lk rfl rfl (by simp only [LIM];omega) ?_;intro c H HA)
  rw [hka]
  exact ret_fnT (post:=[]) H Ca (outs1 Tryz.results69 Wh) Lk
theorem CompactFunc_TT (xs:List (List Tm)) (v:Value) (vals:List (List Value)) (c:Cx) (HV:Vals vals xs c) (hlim:xs.length<1099511627776) (hsm:∀x∈xs,(∀t∈x,t.sm)) : CnT Tryz.prog 98 [v,.func (.func 99) #[] #[]] [.row v 33 1 xs.length vals.flatten] [] c (fun p c=>Sl p (adjL xs) c):=by
 refine CnT.of Tryz.func98 Tryz.ntmps98 rfl rfl fun c0 L0 A0 _ H HA=>?_
 have hvl:=HV.1
 have HA:=HA.add HV
 have H : Owns c0 (.row v 33 1 xs.length vals.flatten::L0) c:=H
 (repeat' (first|refine Z0 ?_|refine Z2 ?_|apply w_nil|apply wc_seq|apply wc_region|apply wx_next|refine Z18 ?_|refine Z19 ?_|apply wc_ret|apply wc_skip|apply wc_block|apply wx_ret_then|refine Z62 ?_|refine Z93 (fun hq=>?_) fun hq=>?_))
 ·have he : adjL xs=xs:=by
   match xs,hq with
   | [],_=>rfl
   | [x],_=>rfl
   | x::y::l,hq=>simp at hq;omega
  (refine wx_freezeRow H HA Lk rfl rfl (by simp only [LIM];omega) ?_;intro c H HA)
  rw [he]
  exact ret_fnT (post:=[]) H Ca (outs1 Tryz.results98 Wh) Lk
 have h2 : 2≤xs.length:=by omega
 refine wc_loopN xs.length (fun k=>[(0,v),(1,.func (.func 99) #[] #[]),(5,.int .i64 k)]) (fun k=>1≤k∧adjL (xs.take k)=xs.take k) 1 H HA Ks (by omega) ⟨Nat.le_refl _,by
  cases xs with
  | nil=>rfl
  | cons x l=>rfl⟩ ?_
 intro k g c hk hp H HA
 obtain ⟨hk1,hadj⟩:=hp
 (repeat' (first|refine Z0 ?_|refine Z2 ?_|apply w_nil|apply wc_seq|apply wc_region|apply wx_next|refine Z18 ?_|refine Z19 ?_|apply wc_ret|apply wc_exit|apply wc_skip|apply wc_block|apply wx_exit_then|apply wx_exit_same|refine Z62 ?_|refine Z93 (fun hq=>?_) fun hq=>?_))
 ·obtain ⟨b,hb⟩:=getq (xs:=xs) (k:=k) (by omega)
  obtain ⟨a,ha⟩:=getq (xs:=xs) (k:=k-1) (by omega)
  have hat:=adjL_take (xs:=xs) (k:=k-1) ha (by rw [show k-1+1=k by omega];exact hb)
  rw [show k-1+2=k+1 by omega,show k-1+1=k by omega] at hat
  have htk : xs.take (k+1)=xs.take k++[b]:=by rw [List.take_add_one,hb];rfl
  have ek : ((k:Int)-1)=((k-1:Nat):Int):=by omega
  by_cases he : b=a
  ·have hde : decide (b=a)=true:=by simpa using he
   refine wc_lendX (fun f=>KS f [(0,v),(1,.func (.func 99) #[] #[]),(5,.int .i64 k),(28,.bool true)]) H HA Lk rfl rfl (by simp only [LIM];omega) ?_ ?_
   ·intro c1 c H HA
    (refine dw_start H HA ?_)
    (repeat (refine Dc ?_))
    (apply dw_cons;(focus ((intro B _ Lx c H HA;(repeat (first|rintro vx rfl|(intro vx hx;have HA:=HA.addSF hx;clear hx)|(intro vx hx;have HA:=HA.add hx;clear hx)|intro vx));change W _ _ _ _ _ _ _);(refine s_callV (caps:=[]) rfl rfl rfl H HA (plan_Solve1 b a _ _ _ Lk Lk (hsm b (List.mem_of_getElem? hb))) ?_;intro vx c H HP;have hvx:=HP.h.1;have HA:=HP.cut;subst hvx);exact Dx));exact inferInstance)
    (repeat (refine Dc ?_))
    (refine dw_done mixed H HA rfl (by kernel_rfl) ?_;clear H HA;intro c H HA;(repeat (first|rintro vx rfl|(intro vx hx;have HA:=HA.addSF hx;clear hx)|(intro vx hx;have HA:=HA.add hx;clear hx)|intro vx));change W _ _ _ _ _ _ _)
    rw [hde]
    exact w_nil (wx_cut ⟨Ks,H,Lk⟩)
   intro f c hR H HA
   obtain ⟨g2,rfl⟩:=hR.ex
   rw [if_pos he.symm,List.append_nil] at hat
   (apply wx_next;refine Z18 ?_;apply Y1;refine Z0 ?_;refine Z0 ?_)
   refine s_slR (lo:=k) (hi:=xs.length) rfl rfl (.inl rfl) (.inr ⟨rfl,rfl⟩) H (List.Mem.head _) (by omega) (Nat.le_refl _) ?_
   intro s2 hs2
   (refine Z2 ?_;apply Y0;apply wc_seq;apply Y1;refine Z2 ?_;apply Y0;apply wc_block)
   have hwf : (xs.length-k:Nat)=((xs.length-k:Nat):Int):=rfl
   refine wc_loopG (σ:=Nat×Nat×List (List Tm)×List (List Value)) (fun y=>xs.length-k-y.2.1) (fun y=>[(0,v),(1,.func (.func 99) #[] #[]),(5,.int .i64 y.1),(6,s2),(7,.int .i64 y.2.1)])
    (fun y=>1≤y.2.1∧k+y.2.1≤xs.length∧y.1+1≤k+y.2.1∧y.2.2.1.length=xs.length∧y.2.2.1.take y.1=adjL (xs.take (k+y.2.1))∧y.2.2.1.drop (k+y.2.1-1)=xs.drop (k+y.2.1-1)∧y.2.2.2.length=xs.length)
    (fun y=>.row v 33 1 y.2.2.1.length y.2.2.2.flatten::L0) (fun y c=>Vals y.2.2.2 y.2.2.1 c) (k,1,xs,vals) H HA Lk Ks ⟨Nat.le_refl _,by dsimp only;omega,Nat.le_refl _,rfl,by dsimp only;rw [hat,hadj],rfl,hvl⟩ ?_
   intro y g c hp H HA
   obtain ⟨k2,i,acc,vals2⟩:=y
   obtain ⟨hi1,hi2,hk2,hal,hat2,hdr,hv2l⟩:=hp
   dsimp only at hi1 hi2 hk2 hal hat2 hdr hv2l H HA ⊢
   (apply wc_seq;apply Y1;refine Z0 ?_;refine Z0 ?_)
   (refine s_lenRS rfl rfl hs2 ?_)
   rw [←hal] at hs2
   (repeat' (first|refine Z0 ?_|apply w_nil|apply wc_seq|apply wc_region|apply wx_next|refine Z18 ?_|refine Z19 ?_|apply wc_exit|apply wc_skip|apply wc_block|apply wx_exit_then|apply wx_exit_same|refine Z93 (fun hq=>?_) fun hq=>?_))
   ·have hgd : ∀q,k+i-1≤q→acc[q]?=xs[q]?:=fun q hq=>by
     have h:=congrArg (·[q-(k+i-1)]?) hdr
     simp only [List.getElem?_drop] at h
     rwa [show k+i-1+(q-(k+i-1))=q by omega] at h
    obtain ⟨b2,hb2⟩:=getq (xs:=xs) (k:=k+i) (by omega)
    obtain ⟨a2,ha2⟩:=getq (xs:=xs) (k:=k+i-1) (by omega)
    have hb3 : acc[k+i]?=some b2:=(hgd _ (by omega)).trans hb2
    have ha3 : acc[k+i-1]?=some a2:=(hgd _ (Nat.le_refl _)).trans ha2
    have hat3:=adjL_take (xs:=xs) (k:=k+i-1) ha2 (by rw [show k+i-1+1=k+i by omega];exact hb2)
    rw [show k+i-1+2=k+i+1 by omega,show k+i-1+1=k+i by omega] at hat3
    have hdr2 : acc.drop (k+i)=xs.drop (k+i):=by
     have h:=congrArg (List.drop 1) hdr
     simp only [List.drop_drop] at h
     rwa [show k+i-1+1=k+i by omega] at h
    have hl1 : ((acc.drop k).take (acc.length-k))[i]?=some b2:=by rw [List.getElem?_take,if_pos (by omega),List.getElem?_drop];exact hb3
    have hl2 : ((acc.drop k).take (acc.length-k))[i-1]?=some a2:=by rw [List.getElem?_take,if_pos (by omega),List.getElem?_drop,show k+(i-1)=k+i-1 by omega];exact ha3
    by_cases he2 : b2=a2
    ·have hde : decide (b2=a2)=true:=by simpa using he2
     refine wc_lendX (fun f=>KS f [(0,v),(1,.func (.func 99) #[] #[]),(5,.int .i64 k2),(6,s2),(7,.int .i64 i),(49,.bool false)]) H HA Lk rfl rfl (by simp only [LIM];omega) ?_ ?_
     ·intro c1 c H HA
      have hsl:=hs2.sl (xs:=acc) (c:=c) Lk rfl (by omega) (Nat.le_refl _)
      generalize (acc.drop k).take (acc.length-k)=L2 at hl1 hl2 hsl
      have HA:=HA.add hsl
      (refine dw_start H HA ?_)
      (repeat (refine Dc ?_))
      (apply dw_cons;(focus ((intro B _ Lx c H HA;(repeat (first|rintro vx rfl|(intro vx hx;have HA:=HA.addSF hx;clear hx)|(intro vx hx;have HA:=HA.add hx;clear hx)|intro vx));change W _ _ _ _ _ _ _);(refine s_callV (caps:=[]) rfl rfl rfl H HA (plan_Solve1 b2 a2 _ _ _ Lk Lk (hsm b2 (List.mem_of_getElem? hb2))) ?_;intro vx c H HP;have hvx:=HP.h.1;have HA:=HP.cut;subst hvx);exact Dx));exact inferInstance)
      (repeat (refine Dc ?_))
      (refine dw_done mixed H HA rfl (by kernel_rfl) ?_;clear H HA;intro c H HA;(repeat (first|rintro vx rfl|(intro vx hx;have HA:=HA.addSF hx;clear hx)|(intro vx hx;have HA:=HA.add hx;clear hx)|intro vx));change W _ _ _ _ _ _ _)
      rw [hde]
      exact w_nil (wx_cut ⟨Ks,H,Lk⟩)
     intro f c hR2 H HA
     obtain ⟨g3,rfl⟩:=hR2.ex
     rw [if_pos he2.symm,List.append_nil] at hat3
     (apply wx_next;refine Z19 ?_;apply wc_skip;apply wx_norm_block;apply wx_next;apply wc_region;refine Z0 ?_;refine Z46 ?_;refine Z2 ?_;apply w_nil)
     exact wx_loopG ((k2,i+1,acc,vals2)) H Cu Lk Ks (by dsimp only;omega) ⟨by dsimp only;omega,by dsimp only;omega,by dsimp only;omega,hal,by dsimp only;rw [hat2,←hat3];rfl,hdr2,hv2l⟩
    ·have hde : decide (b2=a2)=false:=by simpa using he2
     refine wc_lendX (fun f=>KS f [(0,v),(1,.func (.func 99) #[] #[]),(5,.int .i64 k2),(6,s2),(7,.int .i64 i),(49,.bool true)]) H HA Lk rfl rfl (by simp only [LIM];omega) ?_ ?_
     ·intro c1 c H HA
      have hsl:=hs2.sl (xs:=acc) (c:=c) Lk rfl (by omega) (Nat.le_refl _)
      generalize (acc.drop k).take (acc.length-k)=L2 at hl1 hl2 hsl
      have HA:=HA.add hsl
      (refine dw_start H HA ?_)
      (repeat (refine Dc ?_))
      (apply dw_cons;(focus ((intro B _ Lx c H HA;(repeat (first|rintro vx rfl|(intro vx hx;have HA:=HA.addSF hx;clear hx)|(intro vx hx;have HA:=HA.add hx;clear hx)|intro vx));change W _ _ _ _ _ _ _);(refine s_callV (caps:=[]) rfl rfl rfl H HA (plan_Solve1 b2 a2 _ _ _ Lk Lk (hsm b2 (List.mem_of_getElem? hb2))) ?_;intro vx c H HP;have hvx:=HP.h.1;have HA:=HP.cut;subst hvx);exact Dx));exact inferInstance)
      (repeat (refine Dc ?_))
      (refine dw_done mixed H HA rfl (by kernel_rfl) ?_;clear H HA;intro c H HA;(repeat (first|rintro vx rfl|(intro vx hx;have HA:=HA.addSF hx;clear hx)|(intro vx hx;have HA:=HA.add hx;clear hx)|intro vx));change W _ _ _ _ _ _ _)
      rw [hde]
      exact w_nil (wx_cut ⟨Ks,H,Lk⟩)
     intro f c hR2 H HA
     obtain ⟨g3,rfl⟩:=hR2.ex
     rw [if_neg (fun e=>he2 e.symm)] at hat3
     (apply wx_next;refine Z18 ?_;apply Y1;refine Z0 ?_;refine Z0 ?_;refine Z0 ?_;refine Z0 ?_)
     refine s_ixRS rfl rfl rfl hs2 H (List.Mem.head _) rfl (by omega) ?_
     intro q hq3
     refine s_ldRP rfl rfl hq3 H (List.Mem.head _) Lk hb3 rfl ?_
     intro y4 hok4
     obtain ⟨cs4,hcs4⟩ : ∃cs4,cs4=[y4]:=⟨_,rfl⟩
     obtain ⟨w4,e4,hs4⟩:=id hok4
     cases e4
     (refine Z63 fun rp hrp=>?_)
     (refine s_stRP (u:=b2) (val:=y4) (v:=v) rfl rfl hs4.cellsC hrp H Lk (by omega) rfl hok4 HA inferInstance ?_;intro c H HA)
     rw [←hcs4] at H HA
     (apply Y0;apply wc_region;refine Z0 ?_;refine Z46 ?_;refine Z2 ?_;apply w_nil;apply wx_norm_block;apply wx_next;apply wc_region;refine Z0 ?_;refine Z46 ?_;refine Z2 ?_;apply w_nil)
     exact wx_loopG ((k2+1,i+1,acc.set k2 b2,vals2.set k2 cs4)) H Cu Lk Ks (by dsimp only;omega) ⟨by dsimp only;omega,by dsimp only;omega,by dsimp only;omega,by simpa using hal,by
      dsimp only
      rw [take_set_succ (by omega),hat2,←hat3]
      rfl,by
      dsimp only
      rw [List.drop_set_of_lt (by omega)]
      exact hdr2,by simpa using hv2l⟩
   ·have hki : k+i=xs.length:=by omega
    rw [hki,List.take_of_length_le (Nat.le_refl _)] at hat2
    refine s_slR (lo:=k2) (hi:=acc.length) rfl rfl (.inl rfl) (.inr ⟨rfl,rfl⟩) H (List.Mem.head _) (by omega) (Nat.le_refl _) ?_
    intro q hq3
    refine s_clearZ (α:=List Tm) (u:=([]:(List Tm))) (zs:=[.slice none 0 0]) rfl tt_zero rfl rfl hq3 (by omega) H Lk HA ?_
    intro c vals3 acc3 hl3 ht3 hv3 H HA
    (apply Y2;refine Z0 ?_;refine Z0 ?_)
    refine s_slR (lo:=0) (hi:=k2) rfl rfl (.inr ⟨rfl,rfl⟩) (.inl rfl) H (List.Mem.head _) (by omega) (by omega) ?_
    intro q4 hq4
    (refine Z2 ?_;apply Y0;apply wc_ret;apply wx_ret_block;apply wx_ret_then;apply wx_ret_then;apply wx_ret_block;apply wx_ret_then)
    (refine wx_freezeRow H HA Lk rfl rfl (by simp only [LIM];omega) ?_;intro c H HA)
    have hsl:=hq4.sl (xs:=acc3) (c:=c) Lk rfl (by omega) (by omega)
    rw [List.drop_zero,Nat.sub_zero,ht3,hat2] at hsl
    exact ret_fnT (post:=[]) H Ca (outs1 Tryz.results98 Wh) hsl
  ·have hde : decide (b=a)=false:=by simpa using he
   refine wc_lendX (fun f=>KS f [(0,v),(1,.func (.func 99) #[] #[]),(5,.int .i64 k),(28,.bool false)]) H HA Lk rfl rfl (by simp only [LIM];omega) ?_ ?_
   ·intro c1 c H HA
    (refine dw_start H HA ?_)
    (repeat (refine Dc ?_))
    (apply dw_cons;(focus ((intro B _ Lx c H HA;(repeat (first|rintro vx rfl|(intro vx hx;have HA:=HA.addSF hx;clear hx)|(intro vx hx;have HA:=HA.add hx;clear hx)|intro vx));change W _ _ _ _ _ _ _);(refine s_callV (caps:=[]) rfl rfl rfl H HA (plan_Solve1 b a _ _ _ Lk Lk (hsm b (List.mem_of_getElem? hb))) ?_;intro vx c H HP;have hvx:=HP.h.1;have HA:=HP.cut;subst hvx);exact Dx));exact inferInstance)
    (repeat (refine Dc ?_))
    (refine dw_done mixed H HA rfl (by kernel_rfl) ?_;clear H HA;intro c H HA;(repeat (first|rintro vx rfl|(intro vx hx;have HA:=HA.addSF hx;clear hx)|(intro vx hx;have HA:=HA.add hx;clear hx)|intro vx));change W _ _ _ _ _ _ _)
    rw [hde]
    exact w_nil (wx_cut ⟨Ks,H,Lk⟩)
   intro f c hR H HA
   obtain ⟨g2,rfl⟩:=hR.ex
   rw [if_neg (fun e=>he e.symm),hadj] at hat
   (apply wx_next;refine Z19 ?_;apply wc_skip;apply wx_norm_block;apply wx_next;apply wc_region;refine Z0 ?_;refine Z46 ?_;refine Z2 ?_;apply w_nil)
   exact wx_loopN (k+1) H Cu Ks (by omega) ⟨by omega,by rw [hat,htk]⟩
 ·have hka : adjL xs=xs:=by rw [List.take_of_length_le (by omega)] at hadj;exact hadj
  (refine wx_freezeRow H HA Lk rfl rfl (by simp only [LIM];omega) ?_;intro c H HA)
  rw [hka]
  exact ret_fnT (post:=[]) H Ca (outs1 Tryz.results98 Wh) Lk
end Go.Proofs.YtnppmeeibbefbaaGreatDoor
namespace Go.Wk
open Go Go.RowKit
theorem vals_to1 {α:Type} [Enc α] {c:Cx} : ∀{vals:List (List Value)} {xs:List α},Vals vals xs c→Enc.k α=1→∃us : List Value,vals=us.map (fun u=>[u])∧Vals1 us xs c:=by
 intro vals xs h hk
 have h1:=h.len
 have : ∃us : List Value,vals=us.map (fun u=>[u]):=by
  have h2 : ∀cs∈vals,cs.length=1:=fun cs hc=>(h1 cs hc).trans hk
  clear h h1
  induction vals with
  | nil=>exact ⟨[],rfl⟩
  | cons a l ih =>
   obtain ⟨us,e⟩:=ih fun cs hc=>h2 cs (.tail _ hc)
   have:=h2 a (.head _)
   match a,this with
   | [u],_=>exact ⟨u::us,by rw [e];rfl⟩
 obtain ⟨us,rfl⟩:=this
 refine ⟨us,rfl,by simpa using h.1,fun i u x h1 h2=>h.2 i [u] x (by rw [List.getElem?_map,h1];rfl) h2⟩
theorem has_sm {B:BaS} (hB:BaOk B) {p:Nat} {nm:ByteArray} {t:Tm} (h:B.has p nm (fa nm t)) : t.sm:=by
 have key : ∀{l:RlS→List En0},(∀r e,e∈l r→e∈r.all)→fa nm t∈B.part l→t.sm:=fun {l} hl hm=>by
  obtain ⟨q,hq,e,he,h⟩:=mem_part.1 hm
  have hn:=hB.num q hq e (hl _ _ he)
  have ha : (factOf B.vals q.1.name e.row).args=[t]:=by rw [h];rfl
  simp only [factOf] at ha
  match hr : e.row.tail,ha with
  | [i],ha =>
   simp only [List.map_cons,List.map_nil,List.cons.injEq,and_true] at ha
   have hi:=hn i (List.mem_of_mem_tail (by rw [hr];exact .head _))
   rw [←ha,List.getD_eq_getElem?_getD,List.getElem?_eq_getElem hi]
   exact hB.sm.1 _ (List.getElem_mem _)
  | [],ha=>cases ha
  | _::_::_,ha=>simp at ha
 obtain ⟨h,_⟩:=h
 rcases h with ⟨_,h⟩|⟨_,h⟩|⟨_,h⟩
 ·exact key eo_all h
 ·exact key en_all h
 ·exact key ex_all h
def wOf (k:Nat) (s:List Bd) : List Tm:=(List.range k).map fun (j:Nat)=>(lookB s (j:Int)).getD Tn
theorem wOf_len (k:Nat) (s:List Bd) : (wOf k s).length=k:=by simp [wOf]
theorem wOf_get {k j:Nat} {s:List Bd} (h:j<k) : (wOf k s)[j]?=some ((lookB s (j:Int)).getD Tn):=by simp [wOf,h]
theorem sols_mem {X:Nat→Tm→Prop} {ps:List Nat} {k:Nat} {out:List (List Bd)} (hps:ps.Perm (List.range k)) (h1:∀s∈out,PartS X ps ps.length s) (h2:∀σ:Nat→Tm,(∀j∈ps,X j (σ j))→∃s∈out,AgrS ps ps.length s σ) (w:List Tm) :
  w∈out.map (wOf k)↔w.length=k∧∀(j:Nat) (t:Tm),w[j]?=some t→X j t:=by
 have hm : ∀j,j∈ps↔j<k:=fun j=>by rw [hps.mem_iff,List.mem_range]
 constructor
 ·intro hw
  obtain ⟨s,hs,rfl⟩:=List.mem_map.1 hw
  refine ⟨wOf_len k s,fun j t hj=>?_⟩
  have hjk : j<k:=by have:=(List.getElem?_eq_some_iff.1 hj).1;rwa [wOf_len] at this
  obtain ⟨u,hu,hX⟩:=(h1 s hs).has j (by rw [List.take_length];exact (hm j).2 hjk)
  rw [wOf_get hjk,hu] at hj
  cases hj
  exact hX
 ·rintro ⟨hl,hw⟩
  obtain ⟨s,hs,ha⟩:=h2 (fun j=>w.getD j Tn) fun j hj=>by
   obtain ⟨t,ht⟩:=getq (xs:=w) (k:=j) (by rw [hl];exact (hm j).1 hj)
   refine hw j _ ?_
   rw [List.getD_eq_getElem?_getD,ht]
   rfl
  refine List.mem_map.2 ⟨s,hs,?_⟩
  apply List.ext_getElem?
  intro j
  rcases Nat.lt_or_ge j k with hj|hj
  ·rw [wOf_get hj,ha j (by rw [List.take_length];exact (hm j).2 hj)]
   obtain ⟨t,ht⟩:=getq (xs:=w) (k:=j) (by omega)
   show some (w.getD j Tn)=_
   rw [List.getD_eq_getElem?_getD,ht]
   rfl
  ·rw [List.getElem?_eq_none (by rw [wOf_len];exact hj),List.getElem?_eq_none (by omega)]
end Go.Wk
namespace Go.Proofs.YtnppmeeibbefbaaGreatDoor
open Go Go.Wk Go.RowKit
instance : Ent Tryz.prog 67:=.of Tryz.func67 (by kernel_rfl) (by kernel_rfl)
structure PlOk (D:BaS) (x:Cl) (dn:ByteArray) (k m:Nat) : Prop where
 body : x.body=bodyN dn k
 check : x.check=0
 fit : x.fit
 nv : x.nv=k
 tests : x.tests=[]
 k8 : k≤8
 ok : BaOk D
 vals : D.rels≠[]→D.vals≠[]
 size : D.size<1073741824
 many : ∀l : List At0,l.Nodup→(∀a∈l,D.has 3 dn a)→l.length≤m
 pow : m ^ k<1073741824
def SolveP (D:BaS) (dn:ByteArray) (k m:Nat) (lead:Int) (v:Value) (R:List Res) (c:Cx) : Prop:=∃B' ls w,v=.tuple #[w,.int .i64 0]∧R=baR B'∧SameB D B'∧BaF B' c∧Sl w ls c∧(∀w:List Tm,w∈ls↔w.length=k∧∀(j:Nat) (t:Tm),w[j]?=some t→XD D dn lead j t)∧ls.length≤m ^ k
set_option maxHeartbeats 4000000 in
theorem plan_Solve (D:BaS) (x:Cl) (dn:ByteArray) (k m:Nat) (ux:Value) (lead:Int) (c:Cx) (hx:Ag x ux c) (hP:PlOk D x dn k m) (hF:BaF D c) (hg:GlobOk c) (h1:-1≤lead) (h2:lead<k) :
  CnTX Tryz.prog 67 [ptr D.b,ux,.int .i64 lead] (baR D) c (SolveP D dn k m lead):=by
 refine CnTX.of Tryz.func67 Tryz.ntmps67 rfl rfl fun c0 L0 A0 _ H HA=>?_
 have HA:=((((HA.add hF).add hx).add hg).add hg.none)
 have hbl : x.body.length=k:=by rw [hP.body,bodyN_len]
 have hk8:=hP.k8
 (apply wc_seq)
 apply wc_region
 (refine s_boxG rfl rfl Lk H HA ?_;intro pb c H HA)
 (refine Z2 ?_;refine Z2 ?_;apply Y2;refine Z39 HA fun vx HA=>?_;refine Z0 ?_)
 (refine s_call rfl rfl H HA (plan_Make x _ lead _ Lk hP.check hP.fit Lk hP.tests (by omega) (fun a ha=>by
  rw [hP.body] at ha
  obtain ⟨i,_,rfl⟩:=List.mem_map.1 ha
  exact Nat.le_of_ble_eq_true rfl) h1 (by omega)) ?_;intro vx c H HA)
 obtain ⟨v2,js,rfl,hjs,hperm⟩:=HA.h.1
 rw [hbl] at hperm
 have HA:=HA.cut.add hjs
 (repeat' (first|refine Z0 ?_|refine Z2 ?_|apply w_nil|apply wc_seq|apply wc_region|apply wx_next|refine Z18 ?_|refine Z19 ?_|apply wc_ret|apply wc_skip|apply wx_ret_then|refine Z32 ?_|refine Z39 HA fun vx HA=>?_|refine Z61 fun bx c H HA=>?_|refine Z74 fun c H HA=>?_|refine Z94 (fun hq=>?_) fun hq=>?_))
 ·exfalso;omega
 (refine s_call rfl rfl H HA (clause_Vars x _ _ Lk) ?_;intro vx c H HP;have hvx:=HP.h.1;have HA:=HP.cut;subst hvx)
 rw [hP.nv]
 (obtain ⟨b8,rfl⟩:∃x,x=bx:=⟨_,rfl⟩)
 (refine Z2 ?_;apply Y2;refine Z2 ?_;apply Y0;apply wc_seq;apply Y1;refine Z0 ?_;refine Z39 HA fun vx HA=>?_;refine Z0 ?_;refine Z42 ?_)
 have H : Owns c0 (baR D++(.obj b8 (.cells [.slice none 0 0,v2].toArray 179 (0,0))::L0)) c:=H.perm Pm
 refine s_callX rfl rfl H HA (plan_bindings D x dn k _ lead js v2 m _ Lk hP.body Lk hperm hk8 hP.ok Lk Lk hP.vals hP.size hP.many hP.pow) ?_
 intro vo R c H HA
 obtain ⟨B1,out,rfl,hsame,hF1,hso,hpart,hfull,hlen⟩:=HA.h.1
 have HA:=(HA.cut.add hF1).add hso
 have hpl : (js.map Jn.atom).length=k:=by rw [hperm.length_eq,List.length_range]
 rw [hpl] at hlen
 have hsols:=sols_mem hperm hpart hfull
 have hpow:=hP.pow
 (refine Z45 ?_;refine Z0 ?_;apply Y0;apply wc_block)
 have H : Owns c0 (.row (.slice none 0 0) 33 1 0 []::.obj b8 (.cells [.slice none 0 0,v2].toArray 179 (0,0))::(baR B1++L0)) c:=by
  have H2 : Owns c0 (.row (.slice none 0 0) 33 1 0 []::(baR B1++(.obj b8 (.cells [.slice none 0 0,v2].toArray 179 (0,0))::L0))) c:=H.nilRow 33 1
  exact H2.perm Pm
 refine wc_loopG (σ:=Nat×Value×List (List Value)) (fun y=>out.length-y.1) (fun y=>[(0,ptr D.b),(2,.int .i64 lead),(4,pb),(6,.slice none 0 0),(7,.int .i64 0),(8,ptr b8),(10,.int .i64 k),(11,y.2.1),(31,vo),(32,.int .i64 out.length),(33,.int .i64 y.1)])
  (fun y=>y.1≤out.length) (fun y=>.row y.2.1 33 1 ((out.take y.1).map (wOf k)).length y.2.2.flatten::.obj b8 (.cells [.slice none 0 0,v2].toArray 179 (0,0))::(baR B1++L0)) (fun y c=>Vals y.2.2 ((out.take y.1).map (wOf k)) c) (0,.slice none 0 0,[]) H HA (Vals.nil _) Ks (Nat.zero_le _) ?_
 clear HA H
 intro y g c hi H HA
 obtain ⟨i,vr,cl⟩:=y
 dsimp only at hi H HA ⊢
 have hil : ((out.take i).map (wOf k)).length=i:=by rw [List.length_map,List.length_take];omega
 (repeat' (first|refine Z0 ?_|apply w_nil|apply wc_seq|apply wc_region|apply wx_next|refine Z18 ?_|refine Z19 ?_|apply wc_exit|apply wc_skip|apply wc_block|apply wx_exit_then|apply wx_exit_same|refine Z93 (fun hq=>?_) fun hq=>?_))
 ·obtain ⟨s,hs⟩:=getq (xs:=out) (k:=i) (by omega)
  (refine Z34 HA fun vx HA=>?_;refine Z37 HA fun vx HA=>?_;refine Z2 ?_;apply Y2;refine Z0 ?_)
  refine s_makeF (α:=Tm) (u:=Tn) (cv:=Tm.cs) rfl rfl rfl rfl (fun _=>rfl) rfl rfl (by simp only [LIM];omega) H HA inferInstance ?_
  intro va c H HA
  (obtain ⟨vs,rfl⟩:∃x,x=vx:=⟨_,rfl⟩)
  have hss : Sl vs s c:=Lk
  (refine Z2 ?_;apply Y0;apply wc_seq;apply Y1;refine Z0 ?_;refine Z0 ?_;apply Y0;apply wc_block)
  rw [show List.replicate k (Tm.cs Tn)=(List.replicate k Tn).map Tm.cs from List.map_replicate.symm] at H
  refine wc_loopG (σ:=Nat×List Tm) (fun y=>k-y.1) (fun y=>[(0,ptr D.b),(2,.int .i64 lead),(4,pb),(6,.slice none 0 0),(7,.int .i64 0),(8,ptr b8),(10,.int .i64 k),(11,vr),(31,vo),(32,.int .i64 out.length),(33,.int .i64 i),(13,vs),(14,va),(39,.int .i64 k),(40,.int .i64 y.1)])
   (fun y=>y.1≤k∧y.2.length=k∧y.2.take y.1=(wOf k s).take y.1)
   (fun y=>.row va 32 3 y.2.length (y.2.map Tm.cs).flatten::.row vr 33 1 ((out.take i).map (wOf k)).length cl.flatten::.obj b8 (.cells [.slice none 0 0,v2].toArray 179 (0,0))::(baR B1++L0)) (fun _=>Tt) (0,List.replicate k Tn) H HA trivial Ks ⟨Nat.zero_le _,by simp,rfl⟩ ?_
  clear H HA
  intro y g c hy H HA
  obtain ⟨j,acc⟩:=y
  obtain ⟨hj,hal,hat⟩:=hy
  dsimp only at hj hal hat H HA ⊢
  (repeat' (first|refine Z0 ?_|refine Z2 ?_|apply w_nil|apply wc_seq|apply wc_region|apply wx_next|refine Z18 ?_|refine Z19 ?_|apply wc_exit|apply wc_skip|apply wc_block|apply wx_exit_then|apply wx_exit_same|refine Z93 (fun hq=>?_) fun hq=>?_))
  ·(refine s_call rfl rfl H HA (term_Look s vs (j:Int) _ Lk Lk) ?_;intro vx c H HP;have hvx:=HP.h.1;have HA:=HP.cut;subst hvx)
   (refine Z0 ?_;refine Z32 ?_;refine Z32 ?_;refine Z63 fun rp hrp=>?_)
   have HA:=HA.add (vals_cs acc c)
   refine s_stRA (u:=(lookB s (j:Int)).getD Tn) (v:=va) rfl rfl hrp H Lk (by omega) rfl rfl HA inferInstance ?_
   intro c H HA
   rw [←List.map_set] at H
   (apply w_nil;apply wx_norm_block;apply wx_next;apply wc_region;refine Z46 ?_;refine Z0 ?_;apply w_nil)
   have hjk : j<k:=by omega
   exact wx_loopG ((j+1,acc.set j ((lookB s (j:Int)).getD Tn))) H Cu trivial Ks (by dsimp only;omega) ⟨by dsimp only;omega,by simpa using hal,by
    dsimp only
    rw [take_set_succ (by omega),hat,List.take_add_one,wOf_get hjk]
    rfl⟩
  ·have hae : acc=wOf k s:=by
    rw [List.take_of_length_le (by omega),List.take_of_length_le (by rw [wOf_len];omega)] at hat
    exact hat
   subst hae
   have HA:=HA.add (vals_cs (wOf k s) c)
   (refine w_freezeRow H HA Lk rfl rfl (by rw [wOf_len];simp only [LIM];omega) ?_;intro c H HA)
   have hsw : Sl va (wOf k s) c:=HA.h.1
   refine s_bs1V (α:=List Tm) (cs:=[va]) (u:=wOf k s) rfl hsw.cellsC (show Enc.Ok [va] (wOf k s) _ from ⟨va,rfl,Lk⟩) rfl rfl rfl H HA inferInstance ?_
   intro vz c H HA
   refine s_appV (α:=List Tm) rfl rfl rfl (Lk:SlV [wOf k s] [[va]] vz _) rfl rfl rfl (by simp only [List.length_cons,List.length_nil,LIM];omega) H HA inferInstance ?_
   intro vr2 c H HA
   (refine Z2 ?_;apply w_nil;apply wx_norm_block;apply wx_next;apply wc_region;refine Z46 ?_;refine Z0 ?_;apply w_nil)
   have e1 : (out.take (i+1)).map (wOf k)=(out.take i).map (wOf k)++[wOf k s]:=by rw [List.take_add_one,hs,List.map_append];rfl
   have hV2 : Vals (cl++[[va]]) ((out.take (i+1)).map (wOf k)) c:=by
    rw [e1]
    exact Vals.snoc Lk ⟨va,rfl,Lk⟩
   have H : Owns c0 (.row vr2 33 1 ((out.take (i+1)).map (wOf k)).length (cl++[[va]]).flatten::.obj b8 (.cells [.slice none 0 0,v2].toArray 179 (0,0))::(baR B1++L0)) c:=by
    rw [e1,List.length_append,List.flatten_append]
    exact H
   exact wx_loopG ((i+1,vr2,cl++[[va]])) H Cu hV2 Ks (by dsimp only;omega) (by dsimp only;omega)
 ·have e0 : out.take i=out:=List.take_of_length_le (by omega)
  rw [e0] at H HA
  obtain ⟨us,rfl,hV1⟩:=vals_to1 (Lk:Vals cl (out.map (wOf k)) c) rfl
  rw [flat1] at H
  have hgood : ∀w∈out.map (wOf k),∀t∈w,t.sm:=by
   intro w hw t ht
   obtain ⟨j,hj⟩:=List.getElem?_of_mem ht
   exact has_sm hP.ok (((hsols w).1 hw).2 j t hj)
  have hol : (out.map (wOf k)).length<1073741824:=by rw [List.length_map];omega
  refine s_sort1 (α:=List Tm) (good:=fun w=>∀t∈w,t.sm) (cmp:=lexL cmpTm) sortTT_q sortTT_0 (lexL_p3 cmpTm_t3.toP3) rfl rfl H hV1 HA hgood ?_ (by omega) ?_
  ·intro a b u1 u2 c' ha _ h1 h2 _
   obtain ⟨w1,e1,s1⟩:=h1
   obtain ⟨w2,e2,s2⟩:=h2
   cases e1
   cases e2
   exact plan_order _ _ _ _ _ s1 s2 ha
  intro c us' ls _ hpm _ H HA
  have hll : ls.length<1073741824:=by rw [hpm.length_eq];exact hol
  have hV2:=(HA.h.1:Vals1 us' ls c).vals
  have HA:=HA.add hV2
  rw [←flat1 us'] at H
  (apply Y2;refine Z0 ?_)
  refine s_callT (pre:=[.row vr 33 1 ls.length (us'.map fun u=>[u]).flatten]) (post:=[]) rfl rfl H HA (CompactFunc_TT ls vr (us'.map fun u=>[u]) _ Lk (by omega) (fun w hw=>hgood w (hpm.mem_iff.1 hw))) ?_
  intro vw c H HA
  (refine Z2 ?_;refine Z2 ?_;apply Y0;apply wc_ret)
  have hF3 : BaF B1 c:=Lk
  have hsw : Sl vw (adjL ls) c:=Lk
  have H : Owns c0 (.obj b8 (.cells [.slice none 0 0,v2].toArray 179 (0,0))::(baR B1++L0)) c:=H
  refine ret_fnX H.drop Ca (outs2 Tryz.results67 Wh Wh) ⟨B1,adjL ls,vw,rfl,rfl,hsame,hF3,hsw,?_,?_⟩
  ·intro w
   rw [mem_adjL,hpm.mem_iff]
   exact hsols w
  ·have h3:=adjL_len ls
   have h4:=hpm.length_eq
   rw [List.length_map] at h4
   omega
end Go.Proofs.YtnppmeeibbefbaaGreatDoor
namespace Go.Wk
open Go Go.RowKit
def fldT (P:Program) (T:TypeId) (i:Nat) : Option (TypeId×Nat) :=
 match P.underlying T with
 | some (.struct fs)=>(fs[i]?).map fun fd=>(fd.type,fd.offset)
 | _=>none
section
variable {P : Program} {ops : Array Oper} {Q : Exit → Act → World → Prop} {n : Nat} {f : Nat → Value} {rest : List Oper} {ty : TypeId} {ps : String} {af : Array Edge} {d : Tmp} {w : World}
theorem s_fieldA {T Te:TypeId} {i off k:Nat} {x:Operand} {cs:Array Value} (hn:Nat.blt d n=true) (hT:fldT P T i=some (Te,off)) [Agg P Te k] (hx:opd f x=.agg cs) (kk:W P ops Q rest n (upd f d (.agg (cs.extract off (off+k)))) w) :
  W P ops Q (⟨some d,.field T x i,ty,ps,af,none⟩::rest) n f w:=by
 refine st_val hn (w':=w) ?_ kk
 unfold fldT at hT
 split at hT
 ·rename_i fs hu
  cases hf : fs[i]? with
  | none=>simp [hf] at hT
  | some fd =>
   simp only [hf,Option.map_some,Option.some.injEq,Prod.mk.injEq] at hT
   obtain ⟨rfl,rfl⟩:=hT
   simp [execOp,Instr.field,run_underlying hu,hf,hx,asAgg,part,Agg.ag (P:=P) (T:=fd.type),Agg.sz (P:=P) (T:=fd.type)]
 ·cases hT
end
theorem dn_body {x:Cl} {dn:ByteArray} {k:Nat} (hb:x.body=bodyN dn k) (h:0<k) : x.dn=dn:=by
 unfold Cl.dn
 rw [hb]
 cases k with
 | zero=>omega
 | succ k=>simp [bodyN,List.range_succ_eq_map,pat]
theorem xd_dn {D:BaS} {x:Cl} {dn:ByteArray} {k:Nat} (hb:x.body=bodyN dn k) {lead:Int} {w:List Tm} : (w.length=k∧∀(j:Nat) (t:Tm),w[j]?=some t→XD D dn lead j t)↔(w.length=x.body.length∧∀(j:Nat) (t:Tm),w[j]?=some t→D.has (partN j lead) x.dn (fa x.dn t)):=by
 rw [hb,bodyN_len]
 refine and_congr_right fun hl=>?_
 rcases Nat.eq_zero_or_pos k with h|h
 ·subst h
  rw [List.eq_nil_of_length_eq_zero hl]
  simp
 ·rw [dn_body hb h]
  rfl
theorem fires_mem {D:BaS} {x:Cl} {dn:ByteArray} {k:Nat} (hb:x.body=bodyN dn k) {lead:Int} {ls:List (List Tm)} (h:∀w:List Tm,w∈ls↔w.length=k∧∀(j:Nat) (t:Tm),w[j]?=some t→XD D dn lead j t) (b:At0) : b∈ls.map x.hd↔FireS D x lead b:=by
 rw [List.mem_map]
 constructor
 ·rintro ⟨w,hw,rfl⟩
  obtain ⟨h1,h2⟩:=(xd_dn hb).1 ((h w).1 hw)
  exact ⟨w,h1,h2,rfl⟩
 ·rintro ⟨w,h1,h2,rfl⟩
  exact ⟨w,(h w).2 ((xd_dn hb).2 ⟨h1,h2⟩),rfl⟩
end Go.Wk
namespace Go.Proofs.YtnppmeeibbefbaaGreatDoor
open Go Go.Wk Go.RowKit
instance : Ent Tryz.prog 41:=.of Tryz.func41 (by kernel_rfl) (by kernel_rfl)
def FireP (D:BaS) (x:Cl) (k m:Nat) (lead:Int) (v:Value) (R:List Res) (c:Cx) : Prop:=∃B' hs w,v=.tuple #[w,.int .i64 0]∧R=baR B'∧SameB D B'∧BaF B' c∧Sl w hs c∧(∀b,b∈hs↔FireS D x lead b)∧hs.length≤m ^ k
set_option maxHeartbeats 4000000 in
theorem plan_Fire (D:BaS) (x:Cl) (dn:ByteArray) (k m:Nat) (ux:Value) (lead:Int) (c:Cx) (hx:Ag x ux c) (hP:PlOk D x dn k m) (hF:BaF D c) (hg:GlobOk c) (h1:-1≤lead) (h2:lead<k) (hsm:∀b,FireS D x lead b→b.sm) :
  CnTX Tryz.prog 41 [ptr D.b,ux,.int .i64 lead] (baR D) c (FireP D x k m lead):=by
 refine CnTX.of Tryz.func41 Tryz.ntmps41 rfl rfl fun c0 L0 A0 _ H HA=>?_
 have HA:=((((HA.add hF).add hx).add hg).add hg.none)
 (apply wc_seq)
 apply wc_region
 (refine s_boxG rfl rfl Lk H HA ?_;intro pb c H HA)
 (refine Z2 ?_;refine Z2 ?_;apply Y2;refine Z0 ?_;refine Z39 HA fun vx HA=>?_;refine Z0 ?_)
 refine s_callX rfl rfl H HA (plan_Solve D x dn k m _ lead _ Lk hP Lk Lk h1 h2) ?_
 intro vo R c H HA
 obtain ⟨B1,ls,w0,rfl,rfl,hsame,hF1,hsl,hls,hlen⟩:=HA.h.1
 have HA:=(HA.cut.add hF1).add hsl
 have hfm:=fires_mem hP.body hls
 have hpow:=hP.pow
 (repeat' (first|refine Z0 ?_|refine Z2 ?_|apply w_nil|apply wc_seq|apply wc_region|apply wx_next|refine Z18 ?_|refine Z19 ?_|apply wc_ret|apply wc_skip|apply wc_block|apply wx_ret_then|refine Z32 ?_|refine Z45 ?_|refine Z94 (fun hq=>?_) fun hq=>?_))
 ·exfalso;omega
 have H:=H.nilRow 35 5
 refine wc_loopG (σ:=Nat×Value×List (List Value)) (fun y=>ls.length-y.1) (fun y=>[(4,pb),(6,.slice none 0 0),(7,.int .i64 0),(10,y.2.1),(23,w0),(24,.int .i64 ls.length),(25,.int .i64 y.1)])
  (fun y=>y.1≤ls.length) (fun y=>.row y.2.1 35 5 ((ls.take y.1).map x.hd).length y.2.2.flatten::(baR B1++L0)) (fun y c=>Vals y.2.2 ((ls.take y.1).map x.hd) c) (0,.slice none 0 0,[]) H HA (Vals.nil _) Ks (Nat.zero_le _) ?_
 clear HA H
 intro y g c hi H HA
 obtain ⟨i,vr,cl⟩:=y
 dsimp only at hi H HA ⊢
 have hil : ((ls.take i).map x.hd).length=i:=by rw [List.length_map,List.length_take];omega
 (repeat' (first|refine Z0 ?_|apply w_nil|apply wc_seq|apply wc_region|apply wx_next|refine Z18 ?_|refine Z19 ?_|apply wc_exit|apply wc_skip|apply wc_block|apply wx_exit_then|apply wx_exit_same|refine Z93 (fun hq=>?_) fun hq=>?_))
 ·obtain ⟨w,hw⟩:=getq (xs:=ls) (k:=i) (by omega)
  (refine Z34 HA fun vx HA=>?_;refine Z37 HA fun vx HA=>?_;refine Z2 ?_;apply Y0;apply wc_region;refine Z0 ?_;refine Z39 HA fun vx HA=>?_;refine Z0 ?_)
  (refine s_call rfl rfl H HA (clause_Instance x _ w _ _ Lk Lk) ?_;intro vx c H HA)
  obtain ⟨cs,rfl,v,v1,v2,rfl,g0,g1,g2⟩:=HA.h.1
  have HA:=HA.cut.add g0
  refine s_fieldA (Te:=35) (off:=0) (k:=5) rfl (by kernel_rfl) rfl ?_
  refine s_bs1V (α:=At0) (cs:=(x.hd w).cs v) (u:=x.hd w) rfl rfl (show Enc.Ok ((x.hd w).cs v) (x.hd w) _ from ⟨v,rfl,Lk⟩) rfl rfl rfl H HA inferInstance ?_
  intro vz c H HA
  refine s_appV (α:=At0) rfl rfl rfl (Lk:SlV [x.hd w] [(x.hd w).cs v] vz _) rfl rfl rfl (by simp only [List.length_cons,List.length_nil,LIM];omega) H HA inferInstance ?_
  intro vr2 c H HA
  (refine Z2 ?_;apply w_nil;apply wx_norm_block;apply wx_next;apply wc_region;refine Z46 ?_;refine Z0 ?_;apply w_nil)
  have e1 : (ls.take (i+1)).map x.hd=(ls.take i).map x.hd++[x.hd w]:=by rw [List.take_add_one,hw,List.map_append];rfl
  have hV2 : Vals (cl++[(x.hd w).cs v]) ((ls.take (i+1)).map x.hd) c:=by
   rw [e1]
   exact Vals.snoc Lk ⟨v,rfl,Lk⟩
  have H : Owns c0 (.row vr2 35 5 ((ls.take (i+1)).map x.hd).length (cl++[(x.hd w).cs v]).flatten::(baR B1++L0)) c:=by
   rw [e1,List.length_append,List.flatten_append]
   exact H
  exact wx_loopG ((i+1,vr2,cl++[(x.hd w).cs v])) H Cu hV2 Ks (by dsimp only;omega) (by dsimp only;omega)
 ·have e0 : ls.take i=ls:=List.take_of_length_le (by omega)
  rw [e0] at H HA
  have hgood : ∀b∈ls.map x.hd,b.sm:=fun b hb=>hsm b ((hfm b).1 hb)
  have hol : (ls.map x.hd).length<1073741824:=by rw [List.length_map];omega
  refine s_sort (P:=Tryz.prog) (xs:=ls.map x.hd) (vals:=cl) (good:=At0.sm) (cmp:=cmpAt) (kk:=5) sortAt_q sortAt_0 rfl cmpAt_t3.toP3 rfl rfl H Lk HA hgood ?_ (by omega) ?_
  ·intro a b u1 u2 c' ha _ h1 h2 _
   exact term_CompareAtoms a b u1 u2 c' h1 h2 ha
  intro c cl' hs hpm _ H HA
  have hll : hs.length<1073741824:=by rw [hpm.length_eq];exact hol
  (apply Y2;refine Z0 ?_)
  refine s_callT (pre:=[.row vr 35 5 hs.length cl'.flatten]) (post:=[]) rfl rfl H HA (CompactFunc_At hs vr cl' _ Lk (by omega) (fun w hw=>hgood w (hpm.mem_iff.1 hw))) ?_
  intro vw c H HA
  (refine Z2 ?_;refine Z2 ?_;apply Y0;apply wc_ret)
  have hF3 : BaF B1 c:=Lk
  have hsw : Sl vw (adjL hs) c:=Lk
  have H : Owns c0 (baR B1++L0) c:=H
  refine ret_fnX H Ca (outs2 Tryz.results41 Wh Wh) ⟨B1,adjL hs,vw,rfl,rfl,hsame,hF3,hsw,?_,?_⟩
  ·intro b
   rw [mem_adjL,hpm.mem_iff]
   exact hfm b
  ·have h3:=adjL_len hs
   have h4:=hpm.length_eq
   rw [List.length_map] at h4
   omega
end Go.Proofs.YtnppmeeibbefbaaGreatDoor
namespace Go.Wk
open Go Go.RowKit
section
variable {P : Program} {ops : Array Oper} {Q : Exit → Act → World → Prop} {n : Nat} {f : Nat → Value} {rest : List Oper} {ty : TypeId} {ps : String} {af : Array Edge} {d : Tmp}
variable {c0 c : Cx} {L : List Res} {A : Cx → Prop}
theorem s_appStr {T U e:TypeId} {i:TypeInfo} {m:Nat} {x y:Operand} {v:Value} {s:ByteArray} {xs:List Value} (hn:Nat.blt d n=true) [SlT P T e] (hu:P.underlying U=some .string) (hi:P.info? e=some i) (hz:i.zero=some (.int .u8 0)) (hs1:i.size=1) (hb1:i.bytes=1)
  (hx:opd f x=v) (hy:opd f y=.string s) (hlim:m+s.size<LIM) (H:Owns c0 (.row v e 1 m xs::L) c) (HA:Hd A c) [Mono A]
  (k:∀v' c',Owns c0 (.row v' e 1 (m+s.size) (xs++Lib.strCells s)::L) c'→Hd A c'→W P ops Q rest n (upd f d v') c'.w) :
  W P ops Q (⟨some d,.call ⟨.builtin .append,#[x,y],#[T,U]⟩,ty,ps,af,none⟩::rest) n f c.w:=by
 have hown:=(H.res _ (List.mem_cons_self ..)).1
 have hbytes : m+s.size≤140737488355328:=by unfold LIM at hlim;omega
 have h63 : m+s.size≤maxLen:=by simp only [maxLen];omega
 obtain ⟨v',w',hr,ho,hg,hnil⟩:=Lib.run_append_own_string (P:=P) c.w 0 T U ty e i (SlT.h (P:=P)) hu hi hz hs1 hb1 v m xs hown s h63 hbytes (Nat.zero_le _)
 have hbk : ∀b,v'.ownBlock=some b→v.ownBlock=some b∨c.w.heap.size≤b:=fun b hb=>by
  rcases hown.2 with ⟨rfl,rfl⟩|⟨g,cap,cur,rfl,_,hh,hnc,hcm,hcs,_⟩
  ·by_cases hm : s.size=0
   ·rw [hnil.2 ⟨rfl,hm⟩] at hb
    simp [Value.ownBlock] at hb
   ·have hr2:=run_append_nil_string (P:=P) c.w T U ty e i (.int .u8 0) (SlT.h (P:=P)) hu hi hz s (by omega) (by omega) (by rw [hb1];omega)
    rw [hr2] at hr
    cases hr
    simp [Value.ownBlock] at hb
    omega
  ·by_cases hroom : m+s.size≤cap
   ·have hr2:=Lib.run_append_room_string (P:=P) c.w T U ty e i (SlT.h (P:=P)) hu hi hs1 g m cap cur hh s hroom (by omega)
    rw [hr2] at hr
    cases hr
    exact .inl hb
   ·have hxl : xs.length=m:=by simpa using hown.1
    have holds : ∀j u,xs[j]?=some u→c.w.cell? ((⟨g,0,none⟩:Addr).add j)=some u:=hown.cells (g:=g) rfl
    have hr2:=Lib.run_append_grow_string (P:=P) c.w T U ty e i (.int .u8 0) (SlT.h (P:=P)) hu hi hz ⟨g,0,none⟩ m cap xs (by rw [hs1];simpa using hxl) holds s (by omega) (by omega) (by rw [hb1];exact growslice_fits (by omega) (by omega))
    rw [hr2] at hr
    cases hr
    simp [Value.ownBlock] at hb
    omega
 obtain ⟨M',hle,hO⟩:=H.appended (run_ok_drawn hr) ho hg hbk
 refine st_val hn (w':=w') ?_ (k v' ⟨w',M'⟩ hO (HA.to hle))
 simp [execOp,resolve,invoke,builtin,hx,hy,hr]
end
section
variable {P : Program} {ops : Array Oper} {Q : Exit → Act → World → Prop} {n : Nat} {f : Nat → Value} {rest : List Oper} {ty : TypeId} {ps : String} {af : Array Edge} {d : Tmp}
variable {c0 c : Cx} {L : List Res} {A : Cx → Prop}
theorem s_unsafeData {T:TypeId} {x:Operand} {b cap m:Nat} {w:World} (hn:Nat.blt d n=true) (hx:opd f x=.slice (some ⟨b,0,none⟩) m cap) (hc:cap≠0) (k:W P ops Q rest n (upd f d (.pointer (some ⟨b,0,none⟩))) w) :
  W P ops Q (⟨some d,.call ⟨.builtin .unsafeSliceData,#[x],#[T]⟩,ty,ps,af,none⟩::rest) n f w :=
 st_val hn (by simp [execOp,resolve,invoke,builtin,hx,Lib.run_unsafeSliceData_row w #[T] ty ⟨b,0,none⟩ m cap hc]) k
theorem freeze_obj {w:World} {g m:Nat} {cur:Array Value} {e:TypeId} (h:w.heap[g]?=some (.cells cur e (0,0))) (hm:m≠0) : (w.freeze ⟨g,0,none⟩ m).heap[g]?=some (.cells cur e (0,m))∧(∀b,b≠g→(w.freeze ⟨g,0,none⟩ m).heap[b]?=w.heap[b]?)∧(w.freeze ⟨g,0,none⟩ m).heap.size=w.heap.size:=by
 unfold World.freeze
 rw [if_neg hm]
 refine ⟨?_,fun b hb=>?_,by simp⟩
 ·simp [Array.getElem?_modify,h]
 ·simp [Array.getElem?_modify,Ne.symm hb]
theorem s_unsafeStr {T U e:TypeId} {x y:Operand} {g cap:Nat} {l:List UInt8} {v:Value} (hn:Nat.blt d n=true) (hp:P.underlying T=some (.pointer e)) (hc:P.cellsOf e=1) (hx:opd f x=.pointer (some ⟨g,0,none⟩)) (hy:opd f y=.int .i64 l.length) (hv:v=.slice (some ⟨g,0,none⟩) l.length cap) (h0:l≠[]) (hlim:l.length<LIM)
  (H:Owns c0 (.row v e 1 l.length (Lib.byteCells l)::L) c) (HA:Hd A c) [Mono A] (k:∀c',Owns c0 L c'→Hd A c'→W P ops Q rest n (upd f d (.string ⟨l.toArray⟩)) c'.w) :
  W P ops Q (⟨some d,.call ⟨.builtin .unsafeString,#[x,y],#[T,U]⟩,ty,ps,af,none⟩::rest) n f c.w:=by
 subst hv
 have hl0 : l.length≠0:=by simpa using h0
 obtain ⟨g',cap',cur,hv',hh,hmc,hcs,htk⟩:=row_blk H (List.Mem.head _) (by omega)
 simp only [Value.slice.injEq,Option.some.injEq,Addr.mk.injEq] at hv'
 obtain ⟨⟨rfl,_,_⟩,_,rfl⟩:=hv'
 have hown:=(H.res _ (List.mem_cons_self ..)).1
 have hcell:=World.ownsRow.cells hown (g:=g) rfl
 have hsh : c.w.shape? g=some (e,cur.size):=by simp [World.shape?,hh]
 have hr:=Lib.run_unsafeString_row (P:=P) c.w T U ty e hp hc g cur.size hsh l h0 (by omega) (by unfold LIM at hlim;omega) (fun j x hj=>hcell j _ (by simp [Lib.byteCells,List.getElem?_map,hj]))
 obtain ⟨e1,e2,e3⟩:=freeze_obj hh hl0
 have hd : (c.w.freeze ⟨g,0,none⟩ l.length).drawn=c.w.drawn:=by unfold World.freeze;rw [if_neg hl0]
 have ho : (c.w.freeze ⟨g,0,none⟩ l.length).os=c.w.os:=by unfold World.freeze;rw [if_neg hl0]
 have ht : (c.w.freeze ⟨g,0,none⟩ l.length).tape=c.w.tape:=by unfold World.freeze;rw [if_neg hl0]
 have hu : (c.w.freeze ⟨g,0,none⟩ l.length).output=c.w.output:=by unfold World.freeze;rw [if_neg hl0]
 have h2:=H.turn (r':=.obj g (.cells cur e (0,l.length))) (w':=c.w.freeze ⟨g,0,none⟩ l.length) ho ht hu (Nat.le_of_eq hd.symm) (Nat.le_of_eq e3.symm) (fun b _ hne=>e2 b (fun h=>hne (by rw [h];rfl))) e1 (fun b hb=>.inl (by simpa [Res.blk,Value.ownBlock] using hb))
 refine st_val hn (w':=c.w.freeze ⟨g,0,none⟩ l.length) ?_ (k ⟨_,_⟩ h2.2.drop (HA.to h2.1))
 simp [execOp,resolve,invoke,builtin,hx,hy,hr]
theorem s_eqNil {T T' tt:TypeId} {x:Operand} {p:Option Addr} {w:World} (hn:Nat.blt d n=true) (hp:P.underlying T=some (.pointer tt)) (hx:opd f x=.pointer p) (k:W P ops Q rest n (upd f d (.bool p.isNone)) w) : W P ops Q (⟨some d,.binOp .eql T x (.const (.pointer none)) T',ty,ps,af,none⟩::rest) n f w:=by
 have hpt : P.underlying T=some (.pointer (P.pointee T)):=by rw [hp,Program.pointee,hp]
 have h1:=run_equal_pointer_nil (P:=P) w T p hpt
 have h2 : opd f (.const (.pointer none))=.pointer none:=rfl
 exact st_val hn (by simp [execOp,hx,h2,eqGuard_at_pointer,binOp,h1]) k
theorem s_neSame {T T' tt:TypeId} {j:TypeInfo} {x y:Operand} {a:Addr} {w:World} (hn:Nat.blt d n=true) (hp:P.underlying T=some (.pointer tt)) (hi:P.info? tt=some j) (hx:opd f x=.pointer (some a)) (hy:opd f y=.pointer (some a)) (k:W P ops Q rest n (upd f d (.bool false)) w) : W P ops Q (⟨some d,.binOp .neq T x y T',ty,ps,af,none⟩::rest) n f w :=
 st_val hn (by simp [execOp,hx,hy,eqGuard_at_pointer,Lib.run_neq_ptr_same w a hp hi]) k
theorem s_toUnsafe {src dst t e:TypeId} {j:TypeInfo} {cells:Nat} {x:Operand} {a:Addr} {w:World} (hn:Nat.blt d n=true) (hs:P.underlying src=some (.pointer t)) (hd:P.underlying dst=some .unsafePointer) (ht:P.info? t=some j) (hj:j.size≠0)
  (hx:opd f x=.pointer (some a)) (hsh:w.shape? a.block=some (e,cells)) (hoff:a.off<cells) (k:W P ops Q rest n (upd f d (.pointer (some a))) w) : W P ops Q (⟨some d,.convert src dst x,ty,ps,af,none⟩::rest) n f w :=
 st_val hn (by simp [execOp,hx,Lib.run_to_unsafe w a hs hd ht hj hsh hoff]) k
theorem s_fromUnsafe {src dst u e:TypeId} {j:TypeInfo} {cells:Nat} {x:Operand} {a:Addr} {w:World} (hn:Nat.blt d n=true) (hs:P.underlying src=some .unsafePointer) (hd:P.underlying dst=some (.pointer u)) (hu:P.info? u=some j)
  (hx:opd f x=.pointer (some a)) (hsh:w.shape? a.block=some (e,cells)) (hl:liesAt P P.depth e (cells / P.cellsOf e) a.off u 1=true) (k:W P ops Q rest n (upd f d (.pointer (some a))) w) : W P ops Q (⟨some d,.convert src dst x,ty,ps,af,none⟩::rest) n f w :=
 st_val hn (by simp [execOp,hx,Lib.run_from_unsafe w a hs hd hu hsh hl]) k
theorem s_noEscape {g:FuncId} {fn:Func} {x:Operand} {aT:Array TypeId} {w:World} (hn:Nat.blt d n=true) (hf:P.funcs[g]?=some fn) (hname:(fn.name == "runtime.NumGoroutine")=false) (hb:fn.body.isNone=true) (hnx:Extern.findNext fn=none) (he:Extern.find fn=some Extern.AbiNoEscape.same)
  (k:W P ops Q rest n (upd f d (opd f x)) w) : W P ops Q (⟨some d,.call ⟨.value (.func g),#[x],aT⟩,ty,ps,af,none⟩::rest) n f w :=
 st_val hn (by
  have:=run_callFunc_extern hf hname hb hnx he #[opd f x] w
  rw [Lib.run_noEscape] at this
  simp [execOp,resolve,Deferred.ofValue,show opd f (.func g)=.func (.func g) #[] #[] from rfl,invoke,this,Result.andThen]) k
end
end Go.Wk
namespace Go.Wk
open Go Go.RowKit Go.Lib Go.Sort
structure By8 where
 u : UInt8
instance : Enc By8 where
 k:=1
 Ok cs x c:=cs=[.int .u8 x.u.toNat]
 mono cs x:=⟨fun _ h=>h⟩
 len cs x c h:=by rw [h];rfl
 one cs x c h v hv:=by
  rw [h,List.mem_singleton] at hv
  rw [hv]
  rfl
 pos:=Nat.one_pos
section
variable {P : Program} {ops : Array Oper} {Q : Exit → Act → World → Prop} {n : Nat} {f : Nat → Value} {rest : List Oper} {ty : TypeId} {ps : String} {af : Array Edge} {d : Tmp}
variable {c0 c : Cx} {L : List Res} {A : Cx → Prop}
theorem s_callVX {os:Array Operand} {aT:Array TypeId} {t:Operand} {g:FuncId} {caps vs:List Value} {pre:List Res} {Post:Value→List Res→Cx→Prop} (hn:Nat.blt d n=true) (ht:opd f t=.func (.func g) #[] caps.toArray) [Ent P g] (hargs:os.toList.map (opd f)++caps=vs) (H:Owns c0 (pre++L) c) (HA:Hd A c) [Mono A] (hc:CnTX P g vs pre c Post)
  (k:∀v R c',Owns c0 (R++L) c'→Hd (fun c=>Post v R c∧A c) c'→W P ops Q rest n (upd f d v) c'.w) : W P ops Q (⟨some d,.call ⟨.value t,os,aT⟩,ty,ps,af,none⟩::rest) n f c.w :=
 st_enter hn (g:=g) (args:=vs.toArray) (by subst hargs;simp [execOp,resolve,Deferred.ofValue,ht,invoke,Ent.h,←Array.toList_map]) (hc c0 L A H HA)
  fun v w' ⟨c',R,hw,H',HA'⟩=>by subst hw;exact k v R c' H' HA'
end
theorem ext_grow (w:World) (k:Nat) (os:Array Obj) : Ext0 w (grow (w.drewN k) os):=by
 refine ⟨rfl,rfl,rfl,?_,?_,fun b hb=>?_⟩
 ·simp [grow,World.drewN]
 ·simp [grow,World.drewN]
 ·simp only [grow,World.drewN]
  exact Array.getElem?_append_left hb
def rgI (n:Int) : Prop:=-9223372036854775808≤n∧n≤9223372036854775807
def P10c : List Value:=pow10Tab.map fun z=>Value.int .u64 z
structure KeyOk (a:At0) : Prop where
 name : a.name.size<1048576
 args : a.args.length≤8
 tm : ∀t∈a.terms,rgI t.k∧rgI t.n∧t.s.size<1048576
theorem partL_len (s:ByteArray) (h:s.size<1048576) : (partL s).length≤1048600:=by
 have h1:=itoa_length_le (s.size:Int) (by omega) (by omega)
 have h2 : s.data.toList.length=s.size:=Array.length_toList
 simp only [partL,List.length_append,List.length_cons]
 omega
theorem tmU_len {t:Tm} (h:rgI t.k∧rgI t.n∧t.s.size<1048576) : (tmU t).length≤1048700:=by
 have h1:=itoa_length_le t.k h.1.1 h.1.2
 have h2:=itoa_length_le t.n h.2.1.1 h.2.1.2
 have h3:=partL_len t.s h.2.2
 simp only [tmU,List.length_append,List.length_cons]
 omega
end Go.Wk
namespace Go.Proofs.YtnppmeeibbefbaaGreatDoor
open Go Go.Wk Go.RowKit
instance : Prim Tryz.prog 90:=.of (by kernel_rfl) (by kernel_rfl)
instance : Prim Tryz.prog 91:=.of (by kernel_rfl) (by kernel_rfl)
instance : Fld Tryz.prog 93 0 0:=.of (k:=0) (by kernel_rfl)
instance : Fld Tryz.prog 93 1 1:=.of (k:=0) (by kernel_rfl)
instance : TyI Tryz.prog 5 (.int .u8 0) 1 1:=.of (by kernel_rfl)
instance : SlT Tryz.prog 91 5:=⟨by kernel_rfl⟩
instance : Ent Tryz.prog 71:=.of Tryz.func71 (by kernel_rfl) (by kernel_rfl)
instance : Ent Tryz.prog 44:=.of Tryz.func44 (by kernel_rfl) (by kernel_rfl)
instance : Ent Tryz.prog 47:=.of Tryz.func47 (by kernel_rfl) (by kernel_rfl)
def BB (b:Nat) (p v:Value) : Res:=.obj b (.cells [p,v].toArray 93 (0,0))
theorem builder_copyCheck (b:Nat) (p v:Value) (c:Cx) (hp:p=.pointer none∨p=.pointer (some ⟨b,0,none⟩)) : CnT Tryz.prog 71 [.pointer (some ⟨b,0,none⟩)] [BB b p v] [BB b (.pointer (some ⟨b,0,none⟩)) v] c (fun _ _=>True):=by
 refine CnT.of Tryz.func71 Tryz.ntmps71 rfl rfl fun c0 L0 A0 _ H HA=>?_
 have H : Owns c0 (.obj b (.cells [p,v].toArray 93 (0,0))::L0) c:=H
 obtain ⟨i1,hi1,hi2⟩:=Option.map_eq_some_iff.1 (show (Tryz.prog.info? 93).map (·.size)=some 2 by kernel_rfl)
 have hb : c.w.heap[b]?=some (.cells [p,v].toArray 93 (0,0)):=(H.res _ (List.mem_cons_self ..)).1
 have hsh : c.w.shape? b=some (93,2):=by simp [World.shape?,hb]
 rcases hp with rfl|rfl
 ·(apply Y1;refine Z0 ?_;(refine s_nilCheck rfl rfl ?_);refine Z3 ?_;refine Z41 ?_)
  refine s_eqNil (tt:=93) (p:=none) rfl (by kernel_rfl) rfl ?_
  (apply Y0;refine Z18 ?_;apply wc_region;refine Z0 ?_;refine Z0 ?_)
  refine s_toUnsafe (t:=93) (a:=⟨b,0,none⟩) rfl (by kernel_rfl) (by kernel_rfl) hi1 (by rw [hi2];decide) rfl hsh (show 0<2 by decide) ?_
  refine s_noEscape rfl Tryz.func101 (by kernel_rfl) (by kernel_rfl) (by kernel_rfl) (by kernel_rfl) ?_
  refine s_fromUnsafe (u:=93) (a:=⟨b,0,none⟩) rfl (by kernel_rfl) (by kernel_rfl) hi1 rfl hsh (by kernel_rfl) ?_
  ((refine s_nilCheck rfl rfl ?_);refine Z3 ?_;refine Z75 fun c H HA=>?_;apply w_nil)
  exact norm_fnT H Ca (outs0 rfl) trivial
 ·(apply Y1;refine Z0 ?_;(refine s_nilCheck rfl rfl ?_);refine Z3 ?_;refine Z41 ?_)
  refine s_eqNil (tt:=93) (p:=some ⟨b,0,none⟩) rfl (by kernel_rfl) rfl ?_
  (apply Y0;refine Z19 ?_;apply Y1;refine Z0 ?_;(refine s_nilCheck rfl rfl ?_);refine Z3 ?_;refine Z41 ?_;refine Z0 ?_)
  refine s_neSame (tt:=93) (a:=⟨b,0,none⟩) rfl (by kernel_rfl) hi1 rfl rfl ?_
  (apply Y0;refine Z19 ?_;apply wc_skip)
  exact norm_fnT H Ca (outs0 rfl) trivial
theorem builder_WriteString (b:Nat) (p v:Value) (m:Nat) (xs:List Value) (s:ByteArray) (c:Cx) (hp:p=.pointer none∨p=.pointer (some ⟨b,0,none⟩)) (hl:m+s.size<LIM) :
  CnTX Tryz.prog 44 [.pointer (some ⟨b,0,none⟩),.string s] [BB b p v,.row v 5 1 m xs] c (fun _ R _=>∃v',R=[BB b (.pointer (some ⟨b,0,none⟩)) v',.row v' 5 1 (m+s.size) (xs++Lib.strCells s)]):=by
 refine CnTX.of Tryz.func44 Tryz.ntmps44 rfl rfl fun c0 L0 A0 _ H HA=>?_
 (apply Y1;refine Z2 ?_;refine Z2 ?_;apply Y2;refine Z0 ?_)
 refine s_callT (pre:=[BB b p v]) (post:=[BB b (.pointer (some ⟨b,0,none⟩)) v]) rfl rfl H HA (builder_copyCheck b p v _ hp) ?_
 intro vx c H HA
 have H : Owns c0 (.obj b (.cells [.pointer (some ⟨b,0,none⟩),v].toArray 93 (0,0))::.row v 5 1 m xs::L0) c:=H
 (apply Y2;refine Z0 ?_;refine Z0 ?_;(refine s_nilCheck rfl rfl ?_);refine Z3 ?_;refine Z41 ?_;refine Z0 ?_)
 obtain ⟨i,hi,hiz,his,hib⟩:=TyI.h (P:=Tryz.prog) (e:=5)
 refine s_appStr (U:=9) rfl (by kernel_rfl) hi hiz his hib rfl rfl hl H.swap HA ?_
 intro v' c H HA
 ((refine s_nilCheck rfl rfl ?_);refine Z3 ?_;refine Z77 fun c H HA=>?_;apply Y2;refine Z0 ?_;refine Z43 ?_;refine Z2 ?_;refine Z2 ?_;apply Y0;apply wc_ret)
 exact ret_fnX (R:=[BB b (.pointer (some ⟨b,0,none⟩)) v',.row v' 5 1 (m+s.size) (xs++Lib.strCells s)]) H Ca (outs2 Tryz.results44 Wh Wh) ⟨v',rfl⟩
theorem builder_String (b:Nat) (p v:Value) (l:List UInt8) (c:Cx) (h0:l≠[]) (hl:l.length<LIM) :
  CnT Tryz.prog 47 [.pointer (some ⟨b,0,none⟩)] [BB b p v,.row v 5 1 l.length (Lib.byteCells l)] [] c (fun r _=>r=.string ⟨l.toArray⟩):=by
 refine CnT.of Tryz.func47 Tryz.ntmps47 rfl rfl fun c0 L0 A0 _ H HA=>?_
 have hl0 : 0<l.length:=List.length_pos_iff.2 h0
 have H : Owns c0 (.obj b (.cells [p,v].toArray 93 (0,0))::.row v 5 1 l.length (Lib.byteCells l)::L0) c:=H
 obtain ⟨g,cap,cur,hvl,_,hcap,_⟩:=row_blk H (List.Mem.tail _ (List.Mem.head _)) hl0
 subst hvl
 (apply Y1;refine Z2 ?_;apply Y0;apply wc_seq)
 (refine dw_start H HA ?_)
 (repeat (refine Dc ?_))
 (refine Dm ?_)
 (repeat (refine Dc ?_))
 (apply dw_cons;(focus ((intro B _ Lx c H HA;(repeat (first|rintro vx rfl|(intro vx hx;have HA:=HA.addSF hx;clear hx)|(intro vx hx;have HA:=HA.add hx;clear hx)|intro vx));change W _ _ _ _ _ _ _);(refine s_unsafeData rfl rfl (by omega) ?_);exact Dx));exact inferInstance)
 (repeat (refine Dc ?_))
 (refine Dm ?_)
 (repeat (refine Dc ?_))
 (refine dw_done mixed H HA rfl (by kernel_rfl) ?_;clear H HA;intro c H HA;(repeat (first|rintro vx rfl|(intro vx hx;have HA:=HA.addSF hx;clear hx)|(intro vx hx;have HA:=HA.add hx;clear hx)|intro vx));change W _ _ _ _ _ _ _)
 refine s_unsafeStr (e:=5) (cap:=cap) rfl (by kernel_rfl) (by kernel_rfl) rfl rfl rfl h0 hl H.swap HA ?_
 intro c H HA
 (refine Z2 ?_;apply Y0;apply wc_ret)
 exact ret_fnT H.drop Ca (outs1 Tryz.results47 Wh) rfl
instance : Ent Tryz.prog 46:=.of Tryz.func46 (by kernel_rfl) (by kernel_rfl)
theorem builder_WriteByte (b:Nat) (p v:Value) (m:Nat) (xs:List Value) (u:UInt8) (c:Cx) (hp:p=.pointer none∨p=.pointer (some ⟨b,0,none⟩)) (hl:m+1<LIM) :
  CnTX Tryz.prog 46 [.pointer (some ⟨b,0,none⟩),.int .u8 u.toNat] [BB b p v,.row v 5 1 m xs] c (fun _ R _=>∃v',R=[BB b (.pointer (some ⟨b,0,none⟩)) v',.row v' 5 1 (m+1) (xs++[.int .u8 u.toNat])]):=by
 refine CnTX.of Tryz.func46 Tryz.ntmps46 rfl rfl fun c0 L0 A0 _ H HA=>?_
 (apply Y1;refine Z2 ?_;apply Y2;refine Z0 ?_)
 refine s_callT (pre:=[BB b p v]) (post:=[BB b (.pointer (some ⟨b,0,none⟩)) v]) rfl rfl H HA (builder_copyCheck b p v _ hp) ?_
 intro vx c H HA
 have H : Owns c0 (.obj b (.cells [.pointer (some ⟨b,0,none⟩),v].toArray 93 (0,0))::.row v 5 1 m xs::L0) c:=H
 (apply Y2;refine Z0 ?_;refine Z0 ?_;(refine s_nilCheck rfl rfl ?_);refine Z3 ?_;refine Z41 ?_;refine Z0 ?_)
 refine s_bs1V (α:=By8) (cs:=[.int .u8 u.toNat]) (u:=⟨u⟩) rfl rfl (show Enc.Ok [Value.int .u8 u.toNat] (⟨u⟩:By8) _ from rfl) rfl rfl rfl H HA inferInstance ?_
 intro vz c H HA
 refine s_appV (α:=By8) rfl rfl rfl (Lk:SlV [(⟨u⟩:By8)] [[.int .u8 u.toNat]] vz _) rfl rfl rfl (by simpa using hl) H.swap HA inferInstance ?_
 intro v' c H HA
 ((refine s_nilCheck rfl rfl ?_);refine Z3 ?_;refine Z77 fun c H HA=>?_;apply Y2;refine Z2 ?_;apply Y0;apply wc_ret)
 have H : Owns c0 ([BB b (.pointer (some ⟨b,0,none⟩)) v',.row v' 5 1 (m+1) (xs++[.int .u8 u.toNat])]++L0) c:=H
 exact ret_fnX H Ca (outs1 Tryz.results46 Wh) ⟨v',rfl⟩
instance : Ent Tryz.prog 45:=.of Tryz.func45 (by kernel_rfl) (by kernel_rfl)
instance : Ent Tryz.prog 43:=.of Tryz.func43 (by kernel_rfl) (by kernel_rfl)
instance : Ent Tryz.prog 27:=.of Tryz.func27 (by kernel_rfl) (by kernel_rfl)
theorem strconv_Itoa (n:Int) (hn:rgI n) (c:Cx) (h:Box 3 P10c c) : Cn Tryz.prog 45 [.int .i64 n] c (fun v _=>v=.string ⟨(Lib.itoa n).toArray⟩):=by
 intro hm
 have htab : Lib.TabIs Tryz.prog c.w "internal/strconv.uint64pow10" .u64 Lib.pow10Tab:=by
  obtain ⟨⟨T,fr,h⟩,_⟩:=h
  have hg : Tryz.prog.globalNamed "internal/strconv.uint64pow10" = some 3:=by kernel_rfl
  unfold Lib.TabIs World.var?
  rw [hg]
  simp only [Option.bind_some,h]
  rfl
 exact (Tryz.strconv_Itoa n hn.1 hn.2 c.w htab).mono fun _ w' ⟨he,k,os,hw⟩=>⟨_,he,by rw [hw];exact ext_grow ..,rfl⟩
def BdR (b:Nat) (p v:Value) (l:List UInt8) : List Res:=[BB b p v,.row v 5 1 l.length (Lib.byteCells l)]
theorem bytes_app (l l':List UInt8) : Lib.byteCells l++Lib.byteCells l'=Lib.byteCells (l++l'):=by simp [Lib.byteCells]
theorem upkeep_part (b:Nat) (p v:Value) (l:List UInt8) (s:ByteArray) (c:Cx) (hp:p=.pointer none∨p=.pointer (some ⟨b,0,none⟩)) (hl:l.length<1073741824) (hs:s.size<1048576) (h:Box 3 P10c c) :
  CnTX Tryz.prog 43 [.string s,ptr b] (BdR b p v l) c (fun _ R _=>∃v',R=BdR b (ptr b) v' (l++partL s)):=by
 refine CnTX.of Tryz.func43 Tryz.ntmps43 rfl rfl fun c0 L0 A0 _ H HA=>?_
 have HA:=HA.add h
 have hit:=Lib.itoa_length_le (s.size:Int) (by omega) (by omega)
 (apply Y1;refine Z0 ?_;refine Z43 ?_)
 (refine s_call rfl rfl H HA (strconv_Itoa (s.size:Int) ⟨by omega,by omega⟩ _ Lk) ?_;intro vx c H HP;have hvx:=HP.h.1;have HA:=HP.cut;subst hvx)
 have H : Owns c0 ([BB b p v,.row v 5 1 l.length (Lib.byteCells l)]++L0) c:=H
 refine s_callX rfl rfl H HA (builder_WriteString b p v l.length (Lib.byteCells l) ⟨(Lib.itoa (s.size:Int)).toArray⟩ _ hp (by show l.length+(Lib.itoa (s.size:Int)).toArray.size<LIM;simp only [List.size_toArray,LIM];omega)) ?_
 intro _ R c H HA
 obtain ⟨v1,rfl⟩:=HA.h.1
 have HA:=HA.cut
 (apply Y2)
 have e1 : ByteArray.size ⟨(Lib.itoa (s.size:Int)).toArray⟩=(Lib.itoa (s.size:Int)).length:=by show Array.size _=_;simp
 refine s_callX rfl rfl H HA (builder_WriteByte b _ v1 _ _ 58 _ (.inr rfl) (by rw [e1];simp only [LIM];omega)) ?_
 intro _ R c H HA
 obtain ⟨v2,rfl⟩:=HA.h.1
 have HA:=HA.cut
 (apply Y0;apply wc_region;refine Z0 ?_)
 refine s_callX rfl rfl H HA (builder_WriteString b _ v2 _ _ s _ (.inr rfl) (by rw [e1];simp only [LIM];omega)) ?_
 intro _ R c H HA
 obtain ⟨v3,rfl⟩:=HA.h.1
 have HA:=HA.cut
 (apply w_nil)
 refine norm_fnX (R:=[BB b (ptr b) v3,_]) H Ca (outs0 rfl) ⟨v3,?_⟩
 have h2 : s.data.toList.length=s.size:=Array.length_toList
 have e2 : Lib.strCells ⟨(Lib.itoa (s.size:Int)).toArray⟩=Lib.byteCells (Lib.itoa (s.size:Int)):=by simp [Lib.strCells,Lib.byteCells]
 have e3 : Lib.strCells s=Lib.byteCells s.data.toList:=rfl
 have e4 : [Value.int .u8 (58:UInt8).toNat]=Lib.byteCells [58]:=rfl
 rw [BdR,e1,e2,e3,e4,bytes_app,bytes_app,bytes_app]
 have e5 : l++partL s=l++Lib.itoa (s.size:Int)++[58]++s.data.toList:=by simp [partL]
 rw [e5]
 congr 3
 simp only [List.length_append,List.length_cons,List.length_nil]
 omega
end Go.Proofs.YtnppmeeibbefbaaGreatDoor
namespace Go.Wk
open Go Go.RowKit Go.Lib
section
variable {P : Program} {ops : Array Oper} {Q : Exit → Act → World → Prop} {n : Nat} {f : Nat → Value} {rest : List Oper} {ty : TypeId} {ps : String} {af : Array Edge} {d : Tmp} {w : World}
theorem s_catS {T T':TypeId} {x y:Operand} {a b:List UInt8} (hn:Nat.blt d n=true) (hx:opd f x=.string ⟨a.toArray⟩) (hy:opd f y=.string ⟨b.toArray⟩) (hl:a.length+b.length<4611686018427387904) (k:W P ops Q rest n (upd f d (.string ⟨(a++b).toArray⟩)) w) : W P ops Q (⟨some d,.binOp .add T x y T',ty,ps,af,none⟩::rest) n f w:=by
 have e : (⟨a.toArray⟩++⟨b.toArray⟩:ByteArray)=⟨(a++b).toArray⟩:=by
  apply ByteArray.ext
  rw [ByteArray.data_append]
  simp
 have hs : (((⟨a.toArray⟩:ByteArray).size+(⟨b.toArray⟩:ByteArray).size:Nat):Int)=((a.length+b.length:Nat):Int):=by
  show ((Array.size _+Array.size _:Nat):Int)=_
  simp
 have h2 : ¬(((⟨a.toArray⟩:ByteArray).size+(⟨b.toArray⟩:ByteArray).size:Nat):Int) > IntKind.i64.max:=by
  rw [hs]
  have : IntKind.i64.max=9223372036854775807:=rfl
  omega
 refine st_val hn (w':=w) ?_ k
 simp only [execOp,hx,hy,eqGuard_at_string,binOp,Op.stringOp]
 rw [if_neg h2,e]
 simp
end
theorem keys_snoc (ts:List Tm) (t:Tm) : ((ts++[t]).map tmU).flatten=(ts.map tmU).flatten++tmU t:=by simp
theorem keys_len : ∀(ts:List Tm),(∀t∈ts,(tmU t).length≤1048700)→((ts.map tmU).flatten).length≤ts.length*1048700
 | [],_=>by simp
 | t::ts,h=>by
  have h1:=h t (.head _)
  have h2:=keys_len ts fun x hx=>h x (.tail _ hx)
  simp only [List.map_cons,List.flatten_cons,List.length_append,List.length_cons]
  omega
end Go.Wk
namespace Go.Proofs.YtnppmeeibbefbaaGreatDoor
open Go Go.Wk Go.RowKit
instance : Zer Tryz.prog 93 (.agg #[.pointer none,.slice none 0 0]):=.of (by kernel_rfl)
theorem upkeep_key (a:At0) (u:Value) (c:Cx) (h:Ag a u c) (hk:KeyOk a) (hp:Box 3 P10c c) : Cn Tryz.prog 27 [u] c (fun v _=>v=.string (keyS a)):=by
 refine Cn.of Tryz.func27 Tryz.ntmps27 rfl rfl fun hm H HA=>?_
 have HA:=(HA.add h).add hp
 have hka:=hk.args
 have hna:=hk.name
 have hpl:=partL_len a.name hk.name
 have htl : a.terms.length=a.args.length+1:=rfl
 (apply wc_seq;apply wc_region)
 (refine s_boxG rfl rfl Lk H HA ?_;intro p c H HA)
 (refine Z2 ?_;apply Y2)
 (refine s_alloc rfl (by conv=>lhs;whnf) H HA ?_;intro b3 c H HA)
 (apply Y2)
 (refine s_makeFunc (vs:=[ptr b3]) rfl rfl ?_)
 (refine Z2 ?_;apply Y2;refine Z0 ?_;refine Z35 HA fun vx HA=>?_;refine Z36 ?_)
 have H:=H.nilRow 5 1
 have H0:=H.swap
 refine s_callVX (caps:=[ptr b3]) (pre:=BdR b3 (.pointer none) (.slice none 0 0) []) rfl rfl rfl H0 HA (upkeep_part b3 (.pointer none) (.slice none 0 0) [] a.name _ (.inl rfl) (by decide) hna Lk) ?_
 intro _ R c H HA
 obtain ⟨v1,rfl⟩:=HA.h.1
 have HA:=HA.cut
 (apply Y0;apply wc_seq;apply Y1;refine Z35 HA fun vx HA=>?_;refine Z38 ?_;refine Z56 fun vx c H HA=>?_;refine Z35 HA fun vx HA=>?_;refine Z37 HA fun vx HA=>?_;refine Z58 fun vx c H HA=>?_;refine Z45 ?_;refine Z0 ?_;apply Y0;apply wc_block)
 (obtain ⟨vt,rfl⟩:∃x,x=vx:=⟨_,rfl⟩)
 have hvt : Sl vt a.terms c:=Lk
 have hlen : ∀i,(partL a.name++((a.terms.take i).map tmU).flatten).length<100000000:=fun i=>by
  have h1:=keys_len (a.terms.take i) fun t ht=>tmU_len (hk.tm t (List.mem_of_mem_take ht))
  have h2 : (a.terms.take i).length≤a.terms.length:=by rw [List.length_take];omega
  have h3 : (a.terms.take i).length*1048700≤9*1048700:=Nat.mul_le_mul_right _ (by omega)
  rw [List.length_append]
  omega
 have e0 : []++partL a.name=partL a.name++((a.terms.take 0).map tmU).flatten:=by simp
 rw [e0,List.append_nil] at H
 refine wc_loopG (σ:=Nat×Value) (fun y=>a.terms.length-y.1) (fun y=>[(3,ptr b3),(4,.func (.func 43) #[] #[ptr b3]),(17,vt),(18,.int .i64 a.terms.length),(19,.int .i64 y.1)]) (fun y=>y.1≤a.terms.length)
  (fun y=>BdR b3 (ptr b3) y.2 (partL a.name++((a.terms.take y.1).map tmU).flatten)) (fun _=>Tt) (0,v1) H HA trivial Ks (Nat.zero_le _) ?_
 clear H HA
 intro y g c hi H HA
 obtain ⟨i,v⟩:=y
 dsimp only at hi H HA ⊢
 (repeat' (first|apply w_nil|apply wc_seq|apply wc_region|apply wx_next|refine Z18 ?_|refine Z19 ?_|apply wc_exit|apply wc_skip|apply wc_block|apply wx_exit_then|apply wx_exit_same|refine Z93 (fun hq=>?_) fun hq=>?_))
 ·obtain ⟨t,ht⟩:=getq (xs:=a.terms) (k:=i) (by omega)
  (refine Z34 HA fun vx HA=>?_;refine Z38 ?_;refine Z61 fun bx c H HA=>?_;refine Z74 fun c H HA=>?_;apply Y0;apply wc_seq)
  (obtain ⟨b6,rfl⟩:∃x,x=bx:=⟨_,rfl⟩)
  have htk:=hk.tm t (List.mem_of_getElem? ht)
  have hl1:=Lib.itoa_length_le t.k htk.1.1 htk.1.2
  have hl2:=Lib.itoa_length_le t.n htk.2.1.1 htk.2.1.2
  (refine dw_start H HA ?_)
  (repeat (first|refine Dc ?_|refine Dm ?_))
  (apply dw_cons;(focus ((intro B _ Lx c H HA;(repeat (first|rintro vx rfl|(intro vx hx;have HA:=HA.addSF hx;clear hx)|(intro vx hx;have HA:=HA.add hx;clear hx)|intro vx));change W _ _ _ _ _ _ _);(refine s_call rfl rfl H HA (strconv_Itoa t.k htk.1 _ Lk) ?_;intro vx c H HP;have hvx:=HP.h.1;have HA:=HP.cut;subst hvx);exact Dx));exact inferInstance)
  (apply dw_cons;(focus ((intro B _ Lx c H HA;(repeat (first|rintro vx rfl|(intro vx hx;have HA:=HA.addSF hx;clear hx)|(intro vx hx;have HA:=HA.add hx;clear hx)|intro vx));change W _ _ _ _ _ _ _);(refine s_catS (a:=Lib.itoa t.k) (b:=[32]) rfl rfl rfl (by simp only [List.length_cons,List.length_nil];omega) ?_);exact Dx));exact inferInstance)
  (repeat (first|refine Dc ?_|refine Dm ?_))
  (apply dw_cons;(focus ((intro B _ Lx c H HA;(repeat (first|rintro vx rfl|(intro vx hx;have HA:=HA.addSF hx;clear hx)|(intro vx hx;have HA:=HA.add hx;clear hx)|intro vx));change W _ _ _ _ _ _ _);(refine s_call rfl rfl H HA (strconv_Itoa t.n htk.2.1 _ Lk) ?_;intro vx c H HP;have hvx:=HP.h.1;have HA:=HP.cut;subst hvx);exact Dx));exact inferInstance)
  (apply dw_cons;(focus ((intro B _ Lx c H HA;(repeat (first|rintro vx rfl|(intro vx hx;have HA:=HA.addSF hx;clear hx)|(intro vx hx;have HA:=HA.add hx;clear hx)|intro vx));change W _ _ _ _ _ _ _);(refine s_catS (a:=Lib.itoa t.k++[32]) (b:=Lib.itoa t.n) rfl rfl rfl (by simp only [List.length_append,List.length_cons,List.length_nil];omega) ?_);exact Dx));exact inferInstance)
  (apply dw_cons;(focus ((intro B _ Lx c H HA;(repeat (first|rintro vx rfl|(intro vx hx;have HA:=HA.addSF hx;clear hx)|(intro vx hx;have HA:=HA.add hx;clear hx)|intro vx));change W _ _ _ _ _ _ _);(refine s_catS (a:=Lib.itoa t.k++[32]++Lib.itoa t.n) (b:=[32]) rfl rfl rfl (by simp only [List.length_append,List.length_cons,List.length_nil];omega) ?_);exact Dx));exact inferInstance)
  (refine dw_done mixed H HA rfl (by kernel_rfl) ?_;clear H HA;intro c H HA;(repeat (first|rintro vx rfl|(intro vx hx;have HA:=HA.addSF hx;clear hx)|(intro vx hx;have HA:=HA.add hx;clear hx)|intro vx));change W _ _ _ _ _ _ _)
  obtain ⟨l0,hl0⟩ : ∃l0,l0=partL a.name++((a.terms.take i).map tmU).flatten:=⟨_,rfl⟩
  have hl0l:=hlen i
  rw [←hl0] at H hl0l
  have H0 : Owns _ (.obj b6 (.cells t.cs.toArray 32 (0,0))::BdR b3 (ptr b3) v l0) c:=H
  have H:=H0.perm (L':=[BB b3 (ptr b3) v,.row v 5 1 l0.length (Lib.byteCells l0)]++[.obj b6 (.cells t.cs.toArray 32 (0,0))]) (by rw [BdR];exact Pm)
  obtain ⟨sk,hsk⟩ : ∃sk,sk=Lib.itoa t.k++[32]++Lib.itoa t.n++[32]:=⟨_,rfl⟩
  have hskl : sk.length≤44:=by rw [hsk];simp only [List.length_append,List.length_cons,List.length_nil];omega
  rw [←hsk]
  have e1 : ByteArray.size ⟨sk.toArray⟩=sk.length:=by show Array.size _=_;simp
  have e2 : Lib.strCells ⟨sk.toArray⟩=Lib.byteCells sk:=by simp [Lib.strCells,Lib.byteCells]
  refine s_callX rfl rfl H HA (builder_WriteString b3 (ptr b3) v l0.length (Lib.byteCells l0) ⟨sk.toArray⟩ _ (.inr rfl) (by rw [e1];simp only [LIM];omega)) ?_
  intro _ R c H HA
  obtain ⟨v2,rfl⟩:=HA.h.1
  have HA:=HA.cut
  rw [e1,e2,bytes_app,←List.length_append] at H
  have H : Owns _ ([BB b3 (ptr b3) v2,.row v2 5 1 (l0++sk).length (Lib.byteCells (l0++sk))]++[.obj b6 (.cells t.cs.toArray 32 (0,0))]) c:=H
  have H0:=H.perm (L':=.obj b6 (.cells t.cs.toArray 32 (0,0))::(BdR b3 (ptr b3) v2 (l0++sk)++[])) (by rw [BdR];exact Pm)
  have H:=H0
  (apply Y0;apply wc_region;refine Z0 ?_;refine Z3 ?_;refine Z41 ?_)
  have H:=H.perm (L':=BdR b3 (ptr b3) v2 (l0++sk)++[.obj b6 (.cells t.cs.toArray 32 (0,0))]) Pm
  refine s_callVX (caps:=[ptr b3]) (pre:=BdR b3 (ptr b3) v2 (l0++sk)) rfl rfl rfl H HA (upkeep_part b3 (ptr b3) v2 (l0++sk) t.s _ (.inr rfl) (by rw [List.length_append];omega) htk.2.2 Lk) ?_
  intro _ R c H HA
  obtain ⟨v3,rfl⟩:=HA.h.1
  have HA:=HA.cut
  (apply w_nil;apply wx_norm_block;apply wx_next;apply wc_region;refine Z46 ?_;refine Z0 ?_;apply w_nil)
  have H:=H.perm (L':=.obj b6 (.cells t.cs.toArray 32 (0,0))::BdR b3 (ptr b3) v3 (l0++sk++partL t.s)) Pm
  have e5 : l0++sk++partL t.s=partL a.name++((a.terms.take (i+1)).map tmU).flatten:=by
   rw [List.take_add_one,ht,hl0,hsk,Option.toList_some,keys_snoc]
   simp [tmU]
  rw [e5] at H
  exact wx_loopG ((i+1,v3)) H.drop Cu trivial Ks (by dsimp only;omega) (by dsimp only;omega)
 ·have e6 : partL a.name++((a.terms.take i).map tmU).flatten=keyU a:=by rw [List.take_of_length_le (by omega)];rfl
  have hl7:=hlen i
  rw [e6] at H hl7
  have hne : keyU a≠[]:=by
   unfold keyU partL
   simp
  have H : Owns _ ([BB b3 (ptr b3) v,.row v 5 1 (keyU a).length (Lib.byteCells (keyU a))]++[]) c:=H
  refine s_callT (pre:=[BB b3 (ptr b3) v,.row v 5 1 (keyU a).length (Lib.byteCells (keyU a))]) (post:=[]) rfl rfl H HA (builder_String b3 (ptr b3) v (keyU a) _ hne (by simp only [LIM];omega)) ?_
  intro vr c H HA
  have hvr:=HA.h.1
  subst hvr
  (refine Z2 ?_;apply Y0;apply wc_ret)
  exact ret_fn H hm (outs1 (v:=.string ⟨(keyU a).toArray⟩) Tryz.results27 rfl) rfl
end Go.Proofs.YtnppmeeibbefbaaGreatDoor
namespace Go.Wk
open Go Go.RowKit
set_option linter.unusedSectionVars false
structure GE where
 key : ByteArray
 val : Value
 born : Nat
def GE.en (q:GE) : MapEntry:={ key:=.string q.key,val:=q.val,born:=q.born }
def gObj (es:List GE) (ck:Nat) : Obj:=.map (es.map GE.en).toArray ck
def gFind (es:List GE) (k:ByteArray) : Option GE:=es.find? fun q=>decide (q.key=k)
class MapG (P:Program) (T:TypeId) (e:outParam TypeId) : Prop where
 h : ∃kt,P.underlying T=some (.map kt e)∧P.underlying kt=some .string
theorem gfind_now (k:ByteArray) : ∀(es:List GE) (i:Nat),Instr.findNow .string (.string k) (es.map GE.en) i=some ((es.findIdx? fun q=>decide (q.key=k)).bind fun j=>(es[j]?).map fun q=>(i+j,q.val)):=by
 intro es
 induction es with
 | nil=>intro i;rfl
 | cons p es ih =>
  intro i
  simp only [List.map_cons,Instr.findNow,GE.en,Instr.sameNow,ba_beq2]
  by_cases e : p.key=k
  ·have e2 : k=p.key:=e.symm
   simp [e,List.findIdx?_cons]
  ·have e2 : ¬k=p.key:=fun x=>e x.symm
   have ih:=ih (i+1)
   simp only [e2,decide_false,List.findIdx?_cons,e]
   rw [ih]
   cases es.findIdx? fun q=>decide (q.key=k) with
   | none=>rfl
   | some j=>simp [Nat.add_assoc,Nat.add_comm 1 j]
theorem eraseIdx_map' {α β:Type} (g:α→β) : ∀(l:List α) (j:Nat),(l.map g).eraseIdx j=(l.eraseIdx j).map g
 | [],_=>rfl
 | _::_,0=>rfl
 | a::l,j+1=>by simp only [List.map_cons,List.eraseIdx_cons_succ,eraseIdx_map' g l j]
theorem gfind_idx (k:ByteArray) (es:List GE) : ((es.findIdx? fun q=>decide (q.key=k)).bind fun j=>es[j]?)=gFind es k:=by
 unfold gFind
 induction es with
 | nil=>rfl
 | cons p es ih =>
  rw [List.findIdx?_cons,List.find?_cons]
  cases h : decide (p.key=k) with
  | true=>rfl
  | false =>
   simp only
   rw [←ih]
   cases es.findIdx? fun q=>decide (q.key=k) with
   | none=>rfl
   | some j=>rfl
section
variable {P : Program}
theorem grun_find {kt:TypeId} {w:World} (hs:P.underlying kt=some .string) (k:ByteArray) (es:List GE) : (Instr.findKey kt (.string k) (es.map GE.en)).run P w=.ok ((es.findIdx? fun q=>decide (q.key=k)).bind fun j=>(es[j]?).map fun q=>(j,q.val)) w:=by
 have:=gfind_now k es 0
 simp only [Nat.zero_add] at this
 simp only [Instr.findKey,Sem.run_bind,run_underlying hs,Result.andThen_ok,this]
 rfl
theorem grun_get {w:World} {b:Nat} {es:List GE} {ck:Nat} (h:w.heap[b]?=some (gObj es ck)) : (getObj b).run P w=.ok (.map (es.map GE.en).toArray ck) w:=by
 simp [getObj,Sem.run,h,gObj]
theorem grun_set {w:World} {b:Nat} {es:List GE} {ck:Nat} (h:w.heap[b]?=some (gObj es ck)) (o:Obj) : (setObj b o).run P w=.ok () (ChangeMaps.setBlock w b o):=by
 simp [setObj,Sem.run,h,gObj,ChangeMaps.setBlock]
theorem grun_look {T e:TypeId} {z:Value} {w:World} {b:Nat} {k:ByteArray} {es:List GE} {ck:Nat} [MapG P T e] [Zer P e z] (hb:w.heap[b]?=some (gObj es ck)) :
  (Instr.lookup T (.map (some b)) (.string k) true).run P w=.ok (.tuple #[((gFind es k).map GE.val).getD z,.bool (gFind es k).isSome]) w:=by
 obtain ⟨kt,h1,h2⟩:=MapG.h (P:=P) (T:=T) (e:=e)
 simp only [Instr.lookup,Sem.run_bind,run_underlying h1,Result.andThen_ok,grun_get hb,run_checkKeyS (m:=9999) h2,Sem.run_pure]
 rw [grun_find h2,←gfind_idx]
 simp only [Result.andThen_ok]
 cases hx : (es.findIdx? fun q=>decide (q.key=k)) with
 | none=>simp [(Zer.z (P:=P) (T:=e):_)]
 | some j =>
  have hj : j<es.length:=(List.findIdx?_eq_some_iff_findIdx_eq.1 hx).1
  simp [List.getElem?_eq_getElem hj]
theorem grun_upd {T e:TypeId} {w:World} {b:Nat} {k:ByteArray} {v:Value} {es:List GE} {ck:Nat} [MapG P T e] (hb:w.heap[b]?=some (gObj es ck)) (hn:gFind es k=none) :
  (Instr.mapUpdate T (.map (some b)) (.string k) v).run P w=.ok () (ChangeMaps.setBlock w b (gObj (es++[⟨k,v,ck⟩]) (ck+1))):=by
 obtain ⟨kt,h1,h2⟩:=MapG.h (P:=P) (T:=T) (e:=e)
 simp only [Instr.mapUpdate,Sem.run_bind,run_underlying h1,Result.andThen_ok,grun_get hb,run_checkKeyS (m:=9999) h2,Sem.run_pure]
 rw [grun_find h2]
 have hx : (es.findIdx? fun q=>decide (q.key=k))=none:=by
  rw [←gfind_idx] at hn
  cases hx : (es.findIdx? fun q=>decide (q.key=k)) with
  | none=>rfl
  | some j =>
   have hj : j<es.length:=(List.findIdx?_eq_some_iff_findIdx_eq.1 hx).1
   rw [hx] at hn
   simp [List.getElem?_eq_getElem hj] at hn
 simp only [Result.andThen_ok,hx,Option.bind_none]
 rw [grun_set hb,gObj]
 simp [GE.en]
theorem grun_del {T e ty:TypeId} {w:World} {b:Nat} {k:ByteArray} {es:List GE} {ck:Nat} [MapG P T e] {kt2:TypeId} (hb:w.heap[b]?=some (gObj es ck)) :
  (Builtin.delete_ #[T,kt2] ty #[.map (some b),.string k]).run P w=.ok (.tuple #[]) (ChangeMaps.setBlock w b (gObj (es.eraseP fun q=>decide (q.key=k)) ck)):=by
 obtain ⟨kt,h1,h2⟩:=MapG.h (P:=P) (T:=T) (e:=e)
 simp only [Builtin.delete_,List.getElem?_toArray,List.getElem?_cons_zero,List.getElem?_cons_succ,Sem.run_bind,run_underlying h1,Result.andThen_ok,grun_get hb,run_checkKeyS (m:=9999) h2]
 rw [grun_find h2,List.eraseP_eq_eraseIdx]
 simp only [Result.andThen_ok]
 cases hx : (es.findIdx? fun q=>decide (q.key=k)) with
 | none =>
  simp only [Option.bind_none,Sem.run_bind,grun_set hb,Result.andThen_ok]
  rfl
 | some j =>
  have hj : j<es.length:=(List.findIdx?_eq_some_iff_findIdx_eq.1 hx).1
  have e2 : (es.map GE.en).toArray.eraseIdxIfInBounds j=((es.eraseIdx j).map GE.en).toArray:=by
   simp [Array.eraseIdxIfInBounds,hj,eraseIdx_map']
  simp only [List.getElem?_eq_getElem hj,Option.bind_some,Option.map_some,Sem.run_bind,e2,grun_set hb,Result.andThen_ok]
  rfl
end
section
variable {P : Program} {ops : Array Oper} {Q : Exit → Act → World → Prop} {n : Nat} {f : Nat → Value} {rest : List Oper} {ty : TypeId} {ps : String} {af : Array Edge} {d : Tmp}
variable {c0 c : Cx} {L : List Res} {A : Cx → Prop}
theorem s_makeG {T:TypeId} (hn:Nat.blt d n=true) (H:Owns c0 L c) (HA:Hd A c) [Mono A] (k:∀b c',Owns c0 (.obj b (gObj [] 0)::L) c'→Hd A c'→W P ops Q rest n (upd f d (.map (some b))) c'.w) :
  W P ops Q (⟨some d,.makeMap T none,ty,ps,af,none⟩::rest) n f c.w :=
 have h:=H.new (gObj [] 0) rfl
 st_val hn (w':=c.w.alloc (gObj [] 0)) (by simp [execOp,Instr.makeMap,gObj]) (k c.w.heap.size ⟨c.w.alloc (gObj [] 0),_⟩ h.2 (HA.to h.1))
theorem s_lookG {T e:TypeId} {z:Value} {x y:Operand} {b:Nat} {q:ByteArray} {es:List GE} {ck:Nat} (hn:Nat.blt d n=true) [MapG P T e] [Zer P e z] (hx:opd f x=.map (some b)) (hy:opd f y=.string q) (H:Owns c0 L c) (hm:Res.obj b (gObj es ck)∈L)
  (k:W P ops Q rest n (upd f d (.tuple #[((gFind es q).map GE.val).getD z,.bool (gFind es q).isSome])) c.w) : W P ops Q (⟨some d,.lookup T x y true,ty,ps,af,none⟩::rest) n f c.w :=
 st_val hn (by simp [execOp,hx,hy,grun_look (H.res _ hm).1]) k
theorem Owns.reobj {b:Nat} {o o':Obj} (H:Owns c0 (.obj b o::L) c) : ∃c1 : Cx,c1.w=ChangeMaps.setBlock c.w b o'∧Le c c1∧Owns c0 (.obj b o'::L) c1:=by
 have hb : c.w.heap[b]?=some o:=(H.res _ (List.mem_cons_self ..)).1
 have hbl : b<c.w.heap.size:=(Array.getElem?_eq_some_iff.1 hb).1
 have h2:=H.turn (r':=.obj b o') (w':=ChangeMaps.setBlock c.w b o') rfl rfl rfl (Nat.le_refl _) (by simp [ChangeMaps.setBlock]) (fun x hx hne=>by
  have : b≠x:=fun e=>hne (by subst e;rfl)
  simp [ChangeMaps.setBlock,Array.getElem?_setIfInBounds_ne this]) (by simp [Res.holds,ChangeMaps.setBlock,hbl]) (fun x hx=>.inl hx)
 exact ⟨_,rfl,h2.1,h2.2⟩
theorem s_updG {T e:TypeId} {x y z:Operand} {b:Nat} {q:ByteArray} {v:Value} {es:List GE} {ck:Nat} [MapG P T e] (hx:opd f x=.map (some b)) (hy:opd f y=.string q) (hz:opd f z=v) (hno:gFind es q=none) (H:Owns c0 (.obj b (gObj es ck)::L) c) (HA:Hd A c) [Mono A]
  (k:∀c',Owns c0 (.obj b (gObj (es++[⟨q,v,ck⟩]) (ck+1))::L) c'→Hd A c'→W P ops Q rest n f c'.w) : W P ops Q (⟨none,.mapUpdate T x y z,ty,ps,af,none⟩::rest) n f c.w:=by
 have hb : c.w.heap[b]?=some (gObj es ck):=(H.res _ (List.mem_cons_self ..)).1
 obtain ⟨c1,hw,hle,H1⟩:=H.reobj (o':=gObj (es++[⟨q,v,ck⟩]) (ck+1))
 refine st_skip (w':=c1.w) ?_ (k c1 H1 (HA.to hle))
 rw [hw]
 simp [execOp,hx,hy,hz,grun_upd hb hno]
theorem s_delG {T e kt2:TypeId} {x y:Operand} {b:Nat} {q:ByteArray} {es:List GE} {ck:Nat} [MapG P T e] (hx:opd f x=.map (some b)) (hy:opd f y=.string q) (H:Owns c0 (.obj b (gObj es ck)::L) c) (HA:Hd A c) [Mono A]
  (k:∀c',Owns c0 (.obj b (gObj (es.eraseP fun p=>decide (p.key=q)) ck)::L) c'→Hd A c'→W P ops Q rest n f c'.w) : W P ops Q (⟨none,.call ⟨.builtin .delete,#[x,y],#[T,kt2]⟩,ty,ps,af,none⟩::rest) n f c.w:=by
 have hb : c.w.heap[b]?=some (gObj es ck):=(H.res _ (List.mem_cons_self ..)).1
 obtain ⟨c1,hw,hle,H1⟩:=H.reobj (o':=gObj (es.eraseP fun p=>decide (p.key=q)) ck)
 refine st_drop (v:=.tuple #[]) (w':=c1.w) ?_ (k c1 H1 (HA.to hle))
 rw [hw]
 simp [execOp,resolve,invoke,builtin,hx,hy,grun_del hb]
theorem s_lenG {T e:TypeId} {x:Operand} {b:Nat} {es:List GE} {ck:Nat} (hn:Nat.blt d n=true) [MapG P T e] (hx:opd f x=.map (some b)) (H:Owns c0 L c) (hm:Res.obj b (gObj es ck)∈L)
  (k:W P ops Q rest n (upd f d (.int .i64 es.length)) c.w) : W P ops Q (⟨some d,.call ⟨.builtin .len,#[x],#[T]⟩,ty,ps,af,none⟩::rest) n f c.w:=by
 obtain ⟨kt,h1,h2⟩:=MapG.h (P:=P) (T:=T) (e:=e)
 have hb:=grun_get (P:=P) (H.res _ hm).1
 exact st_val hn (by simp [execOp,resolve,invoke,builtin,Builtin.len_,run_underlying h1,hx,hb,goInt]) k
theorem s_rangeG {T e:TypeId} {x:Operand} {b:Nat} {es:List GE} {ck:Nat} (hn:Nat.blt d n=true) [MapG P T e] (hx:opd f x=.map (some b)) (H:Owns c0 L c) (hm:Res.obj b (gObj es ck)∈L) (HA:Hd A c) [Mono A]
  (k:∀r c',Owns c0 (.obj r (itObj b ck [])::L) c'→Hd A c'→W P ops Q rest n (upd f d (.pointer (some ⟨r,0,none⟩))) c'.w) : W P ops Q (⟨some d,.range T x,ty,ps,af,none⟩::rest) n f c.w:=by
 obtain ⟨kt,h1,h2⟩:=MapG.h (P:=P) (T:=T) (e:=e)
 have hb:=grun_get (P:=P) (H.res _ hm).1
 have h:=H.new (itObj b ck []) rfl
 exact st_val hn (w':=c.w.alloc (itObj b ck [])) (by simp [execOp,Instr.range,run_underlying h1,hx,hb,itObj]) (k c.w.heap.size ⟨c.w.alloc (itObj b ck []),_⟩ h.2 (HA.to h.1))
theorem mem_leftG {es:List GE} {seen:List Nat} {e:MapEntry} : e∈(leftOf (es.map GE.en).toArray seen.toArray).toList↔∃q∈es,q.born∉seen∧e=q.en:=by
 simp only [leftOf,Array.toList_filter,List.mem_filter,List.mem_map,List.contains_toArray,Bool.not_eq_true',List.contains_eq_mem,decide_eq_false_iff_not]
 constructor
 ·rintro ⟨⟨q,hq,rfl⟩,h⟩
  exact ⟨q,hq,h,rfl⟩
 ·rintro ⟨q,hq,h,rfl⟩
  exact ⟨⟨q,hq,rfl⟩,h⟩
theorem s_nextG {x:Operand} {r b:Nat} {es:List GE} {ck:Nat} {seen:List Nat} (hn:Nat.blt d n=true) (hx:opd f x=.pointer (some ⟨r,0,none⟩)) (hck:∀q∈es,q.born<ck) (H:Owns c0 (.obj r (itObj b ck seen)::L) c) (HA:Hd A c) [Mono A] (hm:Res.obj b (gObj es ck)∈L)
  (k1:(∀q∈es,q.born∈seen)→W P ops Q rest n (upd f d (.tuple #[.bool false])) c.w)
  (k2:∀q c',q∈es→q.born∉seen→Owns c0 (.obj r (itObj b ck (seen++[q.born]))::L) c'→Hd A c'→W P ops Q rest n (upd f d (.tuple #[.bool true,.string q.key,q.val])) c'.w) :
  W P ops Q (⟨some d,.next x false,ty,ps,af,none⟩::rest) n f c.w:=by
 have hr : c.w.heap[r]?=some (itObj b ck seen):=(H.res _ (List.mem_cons_self ..)).1
 have hold : ∀x∈(es.map GE.en).toArray.toList,x.born<ck:=by
  intro x hx
  obtain ⟨q,hq,rfl⟩:=List.mem_map.1 hx
  exact hck q hq
 rcases run_next_at (P:=P) c.w ty r b ck ck seen.toArray (es.map GE.en).toArray ck hr (H.res _ (.tail _ hm)).1 hold (Nat.le_refl _) with ⟨h1,h2⟩|⟨e,he,w1,hw1,h2⟩
 ·refine st_val hn (w':=c.w) (by simp [execOp,hx,h2]) (k1 fun q hq=>?_)
  by_cases hs : q.born∈seen
  ·exact hs
  ·have hmem:=mem_leftG (es:=es) (seen:=seen).2 ⟨q,hq,hs,rfl⟩
   have : (leftOf (es.map GE.en).toArray seen.toArray).toList=[]:=List.eq_nil_of_length_eq_zero (by simpa using h1)
   rw [this] at hmem
   cases hmem
 ·obtain ⟨q,h3,h4,rfl⟩:=mem_leftG.1 he
  have hrl : r<c.w.heap.size:=(Array.getElem?_eq_some_iff.1 hr).1
  have hh : w1.heap=c.w.heap:=by rcases hw1 with rfl|rfl<;>rfl
  have h5:=H.turn (r':=.obj r (itObj b ck (seen++[q.born]))) (w':=ChangeMaps.setBlock w1 r (itObj b ck (seen++[q.born]))) (by rcases hw1 with rfl|rfl<;>rfl) (by rcases hw1 with rfl|rfl<;>rfl) (by rcases hw1 with rfl|rfl<;>rfl)
   (by rcases hw1 with rfl|rfl<;>first|exact Nat.le_refl _|exact Nat.le_succ _) (by simp [ChangeMaps.setBlock,hh]) (fun x hx hne=>by
   have : r≠x:=fun e=>hne (by subst e;rfl)
   simp [ChangeMaps.setBlock,hh,Array.getElem?_setIfInBounds_ne this]) (by simp [Res.holds,ChangeMaps.setBlock,hh,hrl]) (fun x hx=>.inl hx)
  refine st_val hn (w':=ChangeMaps.setBlock w1 r (itObj b ck (seen++[q.born]))) ?_ (k2 q ⟨_,_⟩ h3 h4 h5.2 (HA.to h5.1))
  simp [execOp,hx,h2,itObj,GE.en]
theorem s_entryG {x:Operand} {r b:Nat} {q:GE} {es:List GE} {ck:Nat} {seen:List Nat} (hn:Nat.blt d n=true) (hx:opd f x=.pointer (some ⟨r,0,none⟩)) (hnd:(es.map GE.born).Nodup) (H:Owns c0 L c) (hm:Res.obj b (gObj es ck)∈L) (hr:Res.obj r (itObj b ck (seen++[q.born]))∈L) (hq:q∈es)
  (k:W P ops Q rest n (upd f d (.tuple #[.string q.key,q.val])) c.w) : W P ops Q (⟨some d,.entry x,ty,ps,af,none⟩::rest) n f c.w:=by
 have hr' : c.w.heap[r]?=some (.mapIter (some b) ck (seen.toArray.push q.born) ck):=by
  have:=(H.res _ hr).1
  simpa [Res.holds,itObj] using this
 have:=run_entry_at (P:=P) c.w r b ck seen.toArray (es.map GE.en).toArray ck q.en hr' (H.res _ hm).1 (List.mem_map.2 ⟨q,hq,rfl⟩) (by
  rw [List.map_map]
  exact hnd)
 exact st_val hn (by simp [execOp,hx,this,GE.en]) k
/-! a range over no map -/
def itN : Obj:=.mapIter none 0 #[] 0
theorem s_rangeN {T e:TypeId} {x:Operand} (hn:Nat.blt d n=true) [MapG P T e] (hx:opd f x=.map none) (H:Owns c0 L c) (HA:Hd A c) [Mono A]
  (k:∀r c',Owns c0 (.obj r itN::L) c'→Hd A c'→W P ops Q rest n (upd f d (.pointer (some ⟨r,0,none⟩))) c'.w) : W P ops Q (⟨some d,.range T x,ty,ps,af,none⟩::rest) n f c.w:=by
 obtain ⟨kt,h1,h2⟩:=MapG.h (P:=P) (T:=T) (e:=e)
 have h:=H.new itN rfl
 exact st_val hn (w':=c.w.alloc itN) (by simp [execOp,Instr.range,run_underlying h1,hx,itN]) (k c.w.heap.size ⟨c.w.alloc itN,_⟩ h.2 (HA.to h.1))
theorem s_nextN {x:Operand} {r:Nat} (hn:Nat.blt d n=true) (hx:opd f x=.pointer (some ⟨r,0,none⟩)) (H:Owns c0 L c) (hm:Res.obj r itN∈L) (k:W P ops Q rest n (upd f d (.tuple #[.bool false])) c.w) :
  W P ops Q (⟨some d,.next x false,ty,ps,af,none⟩::rest) n f c.w:=by
 have hr : c.w.heap[r]?=some itN:=(H.res _ hm).1
 refine st_val hn (w':=c.w) ?_ k
 simp [execOp,hx,Instr.next,getObj,Sem.run,hr,itN]
end
end Go.Wk
namespace Go.Proofs.YtnppmeeibbefbaaGreatDoor
open Go Go.Wk Go.RowKit
structure Fct (a:At0) : Prop where
 fact : isFact a
 rg : ∀t∈a.terms,rgI t.k∧rgI t.n
theorem fact_const {a:At0} (h:isFact a) {t:Tm} (ht:t∈a.args) : t.isConst=true:=by
 obtain ⟨h1,_,h3,_,_⟩:=h
 have h4 : (a.args.any fun t=>!t.isConst && !t.isVar)=false:=by
  cases h5 : (a.args.any fun t=>!t.isConst && !t.isVar) with
  | false=>rfl
  | true =>
   exfalso
   refine absurd h1 ?_
   unfold At0.check
   rw [h5,if_pos rfl]
   repeat' split
   all_goals decide
 have h6:=List.any_eq_false.1 h4 t ht
 have h7:=List.any_eq_false.1 h3 t ht
 simp only [Bool.and_eq_true,Bool.not_eq_true',not_and,Bool.not_eq_false] at h6
 cases hb : t.isConst with
 | true=>rfl
 | false=>exact absurd (h6 hb) h7
theorem const_size {t:Tm} (h:t.isConst=true) : t.s.size≤64:=by
 unfold Tm.isConst at h
 simp only [Bool.or_eq_true,Bool.and_eq_true,beq_iff_eq,decide_eq_true_eq] at h
 rcases h with ⟨_,hs⟩|⟨_,_,hs⟩
 ·rw [hs]
  decide
 ·omega
theorem fact_name {a:At0} (h:isFact a) : a.name.size≤32:=by
 have h1:=h.1
 unfold At0.check at h1
 split at h1
 ·cases h1
 ·rename_i hn
  have hn : nameB a.name=true:=by simpa using hn
  unfold nameB at hn
  simp only [Bool.and_eq_true,decide_eq_true_eq] at hn
  exact hn.2.1
theorem Fct.key {a:At0} (h:Fct a) : KeyOk a:=by
 refine ⟨by have:=fact_name h.fact;omega,h.fact.2.2.2.2,fun t ht=>⟨(h.rg t ht).1,(h.rg t ht).2,?_⟩⟩
 rcases List.mem_cons.1 ht with rfl|ht
 ·rw [h.fact.2.1]
  decide
 ·have:=const_size (fact_const h.fact ht)
  omega
theorem Fct.sm {a:At0} (h:Fct a) : a.sm:=by
 refine ⟨h.fact.2.2.2.1,?_,isFact_sm h.fact⟩
 rw [h.fact.2.1]
 exact (show ES.size<4611686018427387904 by decide)
theorem perm_nodup {α:Type} [DecidableEq α] {l l':List α} (h:l.Nodup) (h':l'.Nodup) (he:∀a,a∈l↔a∈l') : l.Perm l':=by
 refine List.perm_iff_count.2 fun a=>?_
 rw [h.count,h'.count]
 by_cases ha : a∈l
 ·rw [if_pos ha,if_pos ((he a).1 ha)]
 ·rw [if_neg ha,if_neg fun h=>ha ((he a).2 h)]
theorem inj_of_nodup {α β:Type} {g:α→β} : ∀{l:List α},(l.map g).Nodup→∀{a b:α},a∈l→b∈l→g a=g b→a=b
 | [],_,_,_,h,_,_=>by cases h
 | x::l,h,a,b,ha,hb,e=>by
  rw [List.map_cons,List.nodup_cons] at h
  rcases List.mem_cons.1 ha with ea|ha<;>rcases List.mem_cons.1 hb with eb|hb
  ·rw [ea,eb]
  ·exact absurd (List.mem_map.2 ⟨b,hb,by rw [←ea,e]⟩) h.1
  ·exact absurd (List.mem_map.2 ⟨a,ha,by rw [←eb,e]⟩) h.1
  ·exact inj_of_nodup h.2 ha hb e
structure FE where
 at_ : At0
 va : Value
 bn : Nat
def FE.ge (q:FE) : GE:=⟨keyS q.at_,.agg (q.at_.cs q.va).toArray,q.bn⟩
def fM (l:List FE) (ck:Nat) : Obj:=gObj (l.map FE.ge) ck
def FkF (l:List FE) (c:Cx) : Prop:=∀q,q∈l→Sl q.va q.at_.args c
instance (l : List FE) : Mono (FkF l):=inferInstanceAs (Mono fun c=>∀q,q∈l→Sl q.va q.at_.args c)
structure FkOk (l:List FE) (ck:Nat) : Prop where
 nd : (l.map FE.at_).Nodup
 bn : (l.map FE.bn).Nodup
 lt : ∀q∈l,q.bn<ck
 ok : ∀q∈l,Fct q.at_
def ats (l:List FE) : List At0:=l.map FE.at_
theorem fFind_none {l:List FE} {a:At0} : gFind (l.map FE.ge) (keyS a)=none↔a∉ats l:=by
 unfold gFind
 rw [List.find?_eq_none]
 constructor
 ·intro h hm
  obtain ⟨q,hq,rfl⟩:=List.mem_map.1 hm
  have:=h q.ge (List.mem_map.2 ⟨q,hq,rfl⟩)
  simp [FE.ge] at this
 ·intro h p hp
  obtain ⟨q,hq,rfl⟩:=List.mem_map.1 hp
  intro e
  have e : keyS q.at_=keyS a:=of_decide_eq_true e
  exact h (List.mem_map.2 ⟨q,hq,keyS_inj e⟩)
theorem fFind_some {l:List FE} {a:At0} : (gFind (l.map FE.ge) (keyS a)).isSome=decide (a∈ats l):=by
 cases h : gFind (l.map FE.ge) (keyS a) with
 | none=>rw [decide_eq_false (fFind_none.1 h)];rfl
 | some g =>
  rw [decide_eq_true (Classical.byContradiction fun hn=>by rw [fFind_none.2 hn] at h;cases h)]
  rfl
theorem all_met {l d:List FE} (hb:(l.map FE.bn).Nodup) (hn:(l.map FE.at_).Nodup) (hd:(d.map FE.bn).Nodup) (hs:∀q∈d,q∈l) (ha:∀q∈l,q.bn∈d.map FE.bn) : (ats d).Perm (ats l):=by
 have hm : ∀q,q∈d↔q∈l:=fun q=>⟨hs q,fun h=>by
  obtain ⟨q',h1,h2⟩:=List.mem_map.1 (ha q h)
  have:=inj_of_nodup hb (hs q' h1) h h2
  rwa [←this]⟩
 refine perm_nodup ?_ hn fun a=>?_
 ·have : ∀{d:List FE},(d.map FE.bn).Nodup→(∀q∈d,q∈l)→(ats d).Nodup:=by
   intro d
   induction d with
   | nil=>intro _ _;exact List.nodup_nil
   | cons q d ih =>
    intro h1 h2
    rw [List.map_cons,List.nodup_cons] at h1
    refine List.nodup_cons.2 ⟨fun hq=>?_,ih h1.2 fun x hx=>h2 x (.tail _ hx)⟩
    obtain ⟨q',h3,h4⟩:=List.mem_map.1 hq
    have:=inj_of_nodup hn (h2 q' (.tail _ h3)) (h2 q (.head _)) h4
    subst this
    exact h1.1 (List.mem_map.2 ⟨q',h3,rfl⟩)
  exact this hd hs
 ·simp only [ats,List.mem_map]
  exact ⟨fun ⟨q,h1,h2⟩=>⟨q,(hm q).1 h1,h2⟩,fun ⟨q,h1,h2⟩=>⟨q,(hm q).2 h1,h2⟩⟩
theorem FkOk.nil (ck:Nat) : FkOk [] ck:=⟨List.nodup_nil,List.nodup_nil,(fun _ h=>by cases h),(fun _ h=>by cases h)⟩
theorem FkOk.add {l:List FE} {ck:Nat} {a:At0} {va:Value} (h:FkOk l ck) (ha:Fct a) (hn:a∉ats l) : FkOk (l++[⟨a,va,ck⟩]) (ck+1):=by
 refine ⟨?_,?_,fun q hq=>?_,fun q hq=>?_⟩
 ·rw [List.map_append,List.nodup_append]
  refine ⟨h.nd,List.nodup_cons.2 ⟨List.not_mem_nil,List.nodup_nil⟩,?_⟩
  rintro x hx y hy rfl
  simp only [List.map_cons,List.map_nil,List.mem_singleton] at hy
  subst hy
  exact hn hx
 ·rw [List.map_append,List.nodup_append]
  refine ⟨h.bn,List.nodup_cons.2 ⟨List.not_mem_nil,List.nodup_nil⟩,?_⟩
  rintro x hx y hy rfl
  simp only [List.map_cons,List.map_nil,List.mem_singleton] at hy
  subst hy
  obtain ⟨q,hq,e⟩:=List.mem_map.1 hx
  have:=h.lt q hq
  omega
 ·rcases List.mem_append.1 hq with hq|hq
  ·have:=h.lt q hq
   omega
  ·rw [List.mem_singleton.1 hq]
   exact Nat.lt_succ_self _
 ·rcases List.mem_append.1 hq with hq|hq
  ·exact h.ok q hq
  ·rw [List.mem_singleton.1 hq]
   exact ha
theorem fM_add (l:List FE) (a:At0) (va:Value) (ck:Nat) : gObj (l.map FE.ge++[⟨keyS a,.agg (a.cs va).toArray,ck⟩]) (ck+1)=fM (l++[⟨a,va,ck⟩]) (ck+1):=by
 rw [fM,List.map_append]
 rfl
theorem FkF.add {l:List FE} {ck:Nat} {a:At0} {va:Value} {c:Cx} (h:FkF l c) (ha:Sl va a.args c) : FkF (l++[⟨a,va,ck⟩]) c:=fun q hq=>by
 rcases List.mem_append.1 hq with hq|hq
 ·exact h q hq
 ·rw [List.mem_singleton.1 hq]
  exact ha
theorem ats_add (l:List FE) (a:At0) (va:Value) (ck:Nat) : ats (l++[⟨a,va,ck⟩])=ats l++[a]:=by simp [ats]
theorem apply_nil (a:At0) : applyA [] a=a:=by
 have h : ∀t,becomeT [] t=t:=fun t=>by
  unfold becomeT
  split<;>simp [lookB]
 obtain ⟨b,n,as'⟩:=a
 simp only [applyA,h,At0.mk.injEq,true_and]
 have e : becomeT []=id:=funext h
 rw [e,List.map_id]
instance : MapG Tryz.prog 49 35:=⟨⟨9,by kernel_rfl,by kernel_rfl⟩⟩
instance : Ent Tryz.prog 22:=.of Tryz.func22 (by kernel_rfl) (by kernel_rfl)
theorem upkeep_told (l:List FE) (ck m:Nat) (c:Cx) (hF:FkF l c) (hO:FkOk l ck) (hl:l.length<1073741824) (hg:GlobOk c) :
  CnT Tryz.prog 22 [.map (some m)] [.obj m (fM l ck)] [.obj m (fM l ck)] c (fun v c=>∃out,Sl v out c∧out.Perm (ats l)∧out.Pairwise fun a b=>cmpAt a b≤0):=by
 refine CnT.of Tryz.func22 Tryz.ntmps22 rfl rfl fun c0 L0 A0 _ H HA=>?_
 have HA:=(HA.add hF).add hg.none
 have H : Owns c0 (.obj m (gObj (l.map FE.ge) ck)::L0) c:=H
 (apply Y1;refine Z2 ?_;apply Y2;refine Z0 ?_)
 refine s_lenG rfl rfl H (.head _) ?_
 rw [List.length_map]
 refine s_makeC (m:=l.length) rfl rfl rfl rfl (by simp only [LIM];omega) H HA inferInstance ?_
 intro v3 c H HA
 (refine Z2 ?_;apply Y0;apply wc_seq;apply Y1;refine Z0 ?_)
 refine s_rangeG rfl rfl H (.tail _ (.head _)) HA ?_
 intro rx c H HA
 (apply Y0;apply wc_block)
 have H : Owns c0 (.obj rx (itObj m ck [])::.row v3 35 5 0 []::.obj m (gObj (l.map FE.ge) ck)::L0) c:=H
 refine wc_loopG (σ:=List FE×Value×List (List Value)) (fun y=>l.length-y.1.length) (fun y=>[(3,y.2.1),(10,.pointer (some ⟨rx,0,none⟩))])
  (fun y=>(y.1.map FE.bn).Nodup∧∀q∈y.1,q∈l) (fun y=>.obj rx (itObj m ck (y.1.map FE.bn))::.row y.2.1 35 5 (ats y.1).length y.2.2.flatten::.obj m (gObj (l.map FE.ge) ck)::L0) (fun y c=>Vals y.2.2 (ats y.1) c) ([],v3,[]) H HA (Vals.nil _) Ks ⟨List.nodup_nil,(fun _ h=>by cases h)⟩ ?_
 clear H HA
 intro y g c hy H HA
 obtain ⟨done_,vr,cl⟩:=y
 obtain ⟨hdn,hdl⟩:=hy
 dsimp only at hdn hdl H HA ⊢
 have hlen : done_.length≤l.length:=by
  have h1:=hdn.length_le_of_subset (l₂:=l.map FE.bn) (fun b hb=>by
   obtain ⟨q,hq,rfl⟩:=List.mem_map.1 hb
   exact List.mem_map.2 ⟨q,hdl q hq,rfl⟩)
  simpa using h1
 have hal : (ats done_).length=done_.length:=by simp [ats]
 (apply Y1)
 refine s_nextG rfl rfl (fun q hq=>by
  obtain ⟨e,he,rfl⟩:=List.mem_map.1 hq
  exact hO.lt e he) H HA (.tail _ (.head _)) ?_ ?_
 ·intro hall
  have hperm:=all_met hO.bn hO.nd hdn hdl fun q hq=>hall q.ge (List.mem_map.2 ⟨q,hq,rfl⟩)
  have H:=H.drop
  have hgood : ∀a∈ats done_,a.sm:=fun a ha=>by
   obtain ⟨q,hq,rfl⟩:=List.mem_map.1 ha
   exact (hO.ok q (hdl q hq)).sm
  (refine Z32 ?_;apply Y0;apply wc_seq;refine Z19 ?_;apply wc_exit;apply wx_exit_then;apply wx_exit_then;apply wx_exit_same;apply wx_next;apply Y1;refine Z0 ?_)
  refine s_sort (P:=Tryz.prog) (xs:=ats done_) (vals:=cl) (good:=At0.sm) (cmp:=cmpAt) (kk:=5) sortAt_q sortAt_0 rfl cmpAt_t3.toP3 rfl rfl H Lk HA hgood ?_ (by omega) ?_
  ·intro a b u1 u2 c' ha _ h1 h2 _
   exact term_CompareAtoms a b u1 u2 c' h1 h2 ha
  intro c cl' out hpm hsrt H HA
  have hll : out.length<1073741824:=by rw [hpm.length_eq,hal];omega
  (apply Y2;refine Z0 ?_;refine Z2 ?_;apply Y0;apply wc_ret)
  (refine wx_freezeRow H HA Lk rfl rfl (by simp only [LIM];omega) ?_;intro c H HA)
  have hso : Sl vr out c:=Lk
  exact ret_fnT H Ca (outs1 Tryz.results22 Wh) ⟨out,hso,hpm.trans hperm,hsrt⟩
 ·intro q c hq hnq H HA
  obtain ⟨e,he,rfl⟩:=List.mem_map.1 hq
  (refine Z32 ?_;apply Y0;apply wc_seq;refine Z18 ?_;apply wc_skip;apply wx_next;apply wc_block;apply Y1)
  refine s_entryG (q:=e.ge) rfl rfl (by rw [List.map_map];exact hO.bn) H (.tail _ (.tail _ (.head _))) (.head _) hq ?_
  have hse : Sl e.va e.at_.args c:=(Lk:FkF l c) e he
  have HA:=HA.add hse
  have hag : Ag e.at_ (.agg (e.at_.cs e.va).toArray) c:=⟨_,rfl,e.va,rfl,hse⟩
  have HA:=HA.add hag
  (refine Z32 ?_)
  (refine s_alloc rfl (by conv=>lhs;whnf) H HA ?_;intro b5 c H HA)
  refine s_storeA (vs:=e.at_.cs e.va) (cs':=e.at_.cs e.va) rfl rfl H HA rfl (ones_cons rfl (ones_cons rfl (ones_cons rfl (ones_cons rfl (ones_cons hse.oneC ones_nil))))) Rc ?_
  intro c H HA
  (apply Y0;apply wc_region;refine Z0 ?_;refine Z42 ?_)
  (refine s_call rfl rfl H HA (term_Apply [] (.slice none 0 0) e.at_ _ _ (Sl.nil _) Lk Lk) ?_;intro vx c H HA)
  obtain ⟨csa,rfl,wa,hca,hsa⟩:=HA.h.1
  rw [apply_nil] at hca hsa
  subst hca
  have HA:=HA.cut.add hsa
  refine s_bs1V (α:=At0) (cs:=e.at_.cs wa) (u:=e.at_) rfl rfl (show Enc.Ok (e.at_.cs wa) e.at_ _ from ⟨wa,rfl,Lk⟩) rfl rfl rfl H HA inferInstance ?_
  intro vz c H HA
  have H0 : Owns c0 (.obj b5 (.cells (e.at_.cs e.va).toArray 35 (0,0))::.obj rx (itObj m ck (done_.map FE.bn++[e.bn]))::.row vr 35 5 (ats done_).length cl.flatten::.obj m (gObj (l.map FE.ge) ck)::L0) c:=H
  have H:=H0.perm (L':=.row vr 35 5 (ats done_).length cl.flatten::.obj b5 (.cells (e.at_.cs e.va).toArray 35 (0,0))::.obj rx (itObj m ck (done_.map FE.bn++[e.bn]))::.obj m (gObj (l.map FE.ge) ck)::L0) Pm
  refine s_appV (α:=At0) rfl rfl rfl (Lk:SlV [e.at_] [e.at_.cs wa] vz _) rfl rfl rfl (by simp only [List.length_cons,List.length_nil,LIM];omega) H HA inferInstance ?_
  intro vr2 c H HA
  (refine Z2 ?_;apply w_nil;apply wx_norm_block)
  have hnb : e.bn∉done_.map FE.bn:=hnq
  have hdn2 : ((done_++[e]).map FE.bn).Nodup:=by
   rw [List.map_append,List.nodup_append]
   refine ⟨hdn,List.nodup_cons.2 ⟨List.not_mem_nil,List.nodup_nil⟩,?_⟩
   rintro x hx y hy rfl
   simp only [List.map_cons,List.map_nil,List.mem_singleton] at hy
   subst hy
   exact hnb hx
  have hdl2 : ∀q∈done_++[e],q∈l:=fun q hq=>by
   rcases List.mem_append.1 hq with hq|hq
   ·exact hdl q hq
   ·rw [List.mem_singleton.1 hq]
    exact he
  have hlen2 : (done_++[e]).length≤l.length:=by
   have h1:=hdn2.length_le_of_subset (l₂:=l.map FE.bn) (fun b hb=>by
    obtain ⟨q,hq,rfl⟩:=List.mem_map.1 hb
    exact List.mem_map.2 ⟨q,hdl2 q hq,rfl⟩)
   simpa using h1
  have ea : ats (done_++[e])=ats done_++[e.at_]:=by simp [ats]
  have hV2 : Vals (cl++[e.at_.cs wa]) (ats (done_++[e])) c:=by
   rw [ea]
   exact Vals.snoc Lk ⟨wa,rfl,Lk⟩
  have H : Owns c0 (.row vr2 35 5 (ats (done_++[e])).length (cl++[e.at_.cs wa]).flatten::.obj b5 (.cells (e.at_.cs e.va).toArray 35 (0,0))::.obj rx (itObj m ck ((done_++[e]).map FE.bn))::.obj m (gObj (l.map FE.ge) ck)::L0) c:=by
   rw [ea,List.length_append,List.flatten_append,List.map_append]
   exact H
  have H:=H.perm (L':=.obj b5 (.cells (e.at_.cs e.va).toArray 35 (0,0))::.obj rx (itObj m ck ((done_++[e]).map FE.bn))::.row vr2 35 5 (ats (done_++[e])).length (cl++[e.at_.cs wa]).flatten::.obj m (gObj (l.map FE.ge) ck)::L0) Pm
  exact wx_loopG ((done_++[e],vr2,cl++[e.at_.cs wa])) H.drop Cu hV2 Ks (by dsimp only;rw [List.length_append,List.length_singleton] at hlen2 ⊢;omega) ⟨hdn2,hdl2⟩
structure MpV where
 m : Option Nat
instance : Enc MpV where
 k:=1
 Ok cs x c:=cs=[.map x.m]
 mono cs x:=⟨fun _ h=>h⟩
 len cs x c h:=by rw [h];rfl
 one cs x c h v hv:=by
  rw [h,List.mem_singleton] at hv
  rw [hv]
  rfl
 pos:=Nat.one_pos
instance : RdV MpV (fun x=>.map x.m):=⟨rfl,fun h=>by simpa [Enc.Ok] using h⟩
instance : SlT Tryz.prog 89 49:=⟨by kernel_rfl⟩
instance : Prim Tryz.prog 49:=.of (by kernel_rfl) (by kernel_rfl)
instance : TyI Tryz.prog 49 (.map none) 1 8:=.of (by kernel_rfl)
instance : TyD Tryz.prog 49 MpV (fun x=>[.map x.m]):=⟨fun _ _=>rfl⟩
instance : Ent Tryz.prog 26:=.of Tryz.func26 (by kernel_rfl) (by kernel_rfl)
structure BsI (B:BaS) (O N X:At0→Prop) (s:Nat) : Prop where
 ok : BaOk B
 old : ∀a,a∈B.old↔O a
 new : ∀a,a∈B.new↔N a
 next : ∀a,a∈B.next↔X a
 size : B.size≤s
 vals : B.vals.length≤9*s
 rv : B.rels≠[]→B.vals≠[]
theorem BsI.turn {B:BaS} {O N X:At0→Prop} {s:Nat} (h:BsI B O N X s) {l:List (Pr×RlS)} (ht:TurnL B.rels l) : BsI (B.with_ l) (fun a=>O a∨N a) X (fun _=>False) s:=by
 refine ⟨h.ok.turn ht,fun a=>?_,fun a=>?_,fun a=>⟨turn_next ht a,fun h=>h.elim⟩,?_,h.vals,fun hr=>h.rv ?_⟩
 ·rw [turn_old ht,h.old,h.new]
 ·rw [turn_new ht,h.next]
 ·have e : (B.with_ l).size=B.size:=by
   show (l.map _).sum=_
   rw [ht.map (fun q:Pr×RlS=>q.2.all.length) fun q cnt=>by rw [turn_all]]
   rfl
  rw [e]
  exact h.size
 ·intro h0
  apply hr
  have:=ht.1
  rw [h0] at this
  exact List.eq_nil_of_length_eq_zero this
theorem BsI.add {B B':BaS} {O N X:At0→Prop} {s:Nat} {f:At0} (h:BsI B O N X s) (h1:¬O f) (h2:¬N f) (h3:BaOk B') (hv:B'.vals≠[]) (hs:B'.size≤B.size+1) (hl:B'.vals.length≤B.vals.length+9) (ho:∀a,a∈B'.old↔a∈B.old) (hn:∀a,a∈B'.new↔a∈B.new) (hx:∀a,a∈B'.next↔a∈B.next∨(a=f∧a∉B.old∧a∉B.new)) : BsI B' O N (fun a=>X a∨a=f) (s+1):=by
 refine ⟨h3,fun a=>(ho a).trans (h.old a),fun a=>(hn a).trans (h.new a),fun a=>?_,?_,?_,fun _=>hv⟩
 ·rw [hx,h.next]
  constructor
  ·rintro (h|h)
   ·exact .inl h
   ·exact .inr h.1
  ·rintro (h4|rfl)
   ·exact .inl h4
   ·exact .inr ⟨rfl,fun h5=>h1 ((h.old _).1 h5),fun h5=>h2 ((h.new _).1 h5)⟩
 ·have:=h.size
  omega
 ·have:=h.vals
  omega
theorem BsI.imp {B:BaS} {O N X O' N' X':At0→Prop} {s s':Nat} (h:BsI B O N X s) (h1:∀a,O a↔O' a) (h2:∀a,N a↔N' a) (h3:∀a,X a↔X' a) (hs:s≤s') : BsI B O' N' X' s' :=
 ⟨h.ok,fun a=>(h.old a).trans (h1 a),fun a=>(h.new a).trans (h2 a),fun a=>(h.next a).trans (h3 a),Nat.le_trans h.size hs,Nat.le_trans h.vals (Nat.mul_le_mul_left _ hs),h.rv⟩
def mpR (m:Option Nat) (l:List FE) (ck:Nat) : List Res:=match m with
 | none=>[]
 | some b=>[.obj b (fM l ck)]
def Oo (lo:List FE) (i:Nat) (a:At0) : Prop:=2≤i∧a∈ats lo
def Nn (lo lf:List FE) (i:Nat) (a:At0) : Prop:=(i=1∧a∈ats lo)∨(i=3∧a∈ats lf)
def szL (lo lf:List FE) (i:Nat) : Nat:=(if 1≤i then lo.length else 0)+(if 3≤i then lf.length else 0)
theorem laid_sel {mo mf:Option Nat} {lo lf:List FE} {co cf:Nat} (h0:mo=none→lo=[]) (h1:mf=none→lf=[]) (hOo:FkOk lo co) (hOf:FkOk lf cf) (hd:∀a∈ats lf,a∉ats lo) {i:Nat} (hi:i<3) :
  ∃m l ck Lr,[(⟨mo⟩:MpV),⟨none⟩,⟨mf⟩][i]?=some ⟨m⟩∧(mpR mo lo co++mpR mf lf cf).Perm (mpR m l ck++Lr)∧(m=none→l=[])∧FkOk l ck∧(∀c,FkF lo c→FkF lf c→FkF l c)∧(∀a,Nn lo lf (i+1) a↔a∈ats l)∧(∀a∈ats l,¬Oo lo i a∧¬Nn lo lf i a)∧szL lo lf i+l.length=szL lo lf (i+1):=by
 match i,hi with
 | 0,_=>exact ⟨mo,lo,co,mpR mf lf cf,rfl,.refl _,h0,hOo,fun _ h _=>h,fun a=>by simp [Nn],fun a _=>⟨fun h=>by have:=h.1;omega,fun h=>by rcases h with ⟨h,_⟩|⟨h,_⟩<;>omega⟩,by simp [szL]⟩
 | 1,_=>exact ⟨none,[],0,mpR mo lo co++mpR mf lf cf,rfl,.refl _,fun _=>rfl,FkOk.nil 0,fun _ _ _ q h=>(by cases h),fun a=>by simp [Nn,ats],(fun a h=>by cases h),by simp [szL]⟩
 | 2,_=>exact ⟨mf,lf,cf,mpR mo lo co,rfl,List.perm_append_comm,h1,hOf,fun _ _ h=>h,fun a=>by simp [Nn],fun a ha=>⟨fun h=>hd a ha h.2,fun h=>by rcases h with ⟨h,_⟩|⟨h,_⟩<;>omega⟩,by simp [szL]⟩
set_option maxHeartbeats 2000000 in
theorem upkeep_laid (mo mf:Option Nat) (lo lf:List FE) (co cf:Nat) (c:Cx) (h0:mo=none→lo=[]) (h1:mf=none→lf=[]) (hFo:FkF lo c) (hFf:FkF lf c) (hOo:FkOk lo co) (hOf:FkOk lf cf) (hd:∀a∈ats lf,a∉ats lo) (hl:lo.length+lf.length<1000000) (hg:GlobOk c) :
  CnTX Tryz.prog 26 [.map mo,.map mf] (mpR mo lo co++mpR mf lf cf) c (fun v R c=>∃B,v=ptr B.b∧R=baR B++(mpR mo lo co++mpR mf lf cf)∧BaF B c∧BsI B (fun a=>a∈ats lo) (fun a=>a∈ats lf) (fun _=>False) (lo.length+lf.length)):=by
 refine CnTX.of Tryz.func26 Tryz.ntmps26 rfl rfl fun c0 L0 A0 _ H HA=>?_
 have HA:=((HA.add hFo).add hFf).add hg.none
 (apply Y1;refine Z2 ?_;apply Y2)
 refine s_callX (pre:=[]) rfl rfl H HA (base_New _) ?_
 intro v R c H HA
 obtain ⟨b,mr,rfl,rfl⟩:=HA.h.1
 have HA:=HA.cut
 obtain ⟨R0,hR0⟩ : ∃R0,R0=mpR mo lo co++mpR mf lf cf:=⟨_,rfl⟩
 rw [←hR0] at H ⊢
 (refine Z2 ?_;apply Y0;apply wc_seq;apply Y1;refine Z0 ?_;refine Z0 ?_;refine Z60 fun vx c H HA=>?_;refine Z45 ?_;refine Z0 ?_;apply Y0;apply wc_block)
 (obtain ⟨vm,rfl⟩:∃x,x=vx:=⟨_,rfl⟩)
 have hF1 : BaF ⟨b,mr,none,.slice none 0 0,[],[]⟩ c:=fun q hq=>by cases hq
 have hI1 : BsI ⟨b,mr,none,.slice none 0 0,[],[]⟩ (Oo lo 0) (Nn lo lf 0) (fun _=>False) (szL lo lf 0):=by
  refine ⟨⟨fun _=>rfl,List.nodup_nil,fun h=>absurd rfl h,List.nodup_nil,(fun q h=>by cases h),(fun q h=>by cases h),(fun t h=>by cases h),(fun q h=>by cases h)⟩,fun a=>⟨(fun h=>by cases h),fun h=>by have:=h.1;omega⟩,fun a=>⟨(fun h=>by cases h),fun h=>by rcases h with ⟨h,_⟩|⟨h,_⟩<;>omega⟩,fun a=>⟨(fun h=>by cases h),fun h=>h.elim⟩,Nat.zero_le _,Nat.zero_le _,fun h=>absurd rfl h⟩
 have H : Owns c0 (baR ⟨b,mr,none,.slice none 0 0,[],[]⟩++(R0++L0)) c:=by
  have H2 : Owns c0 (.row (.slice none 0 0) 32 3 0 []::.obj b (.cells (baseC none (.slice none 0 0) mr).toArray 116 (0,0))::.obj mr (kObj prK [])::(R0++L0)) c:=H.nilRow 32 3
  exact H2.swap
 refine wc_loopG (σ:=Nat×BaS) (fun y=>3-y.1) (fun y=>[(5,ptr y.2.b),(13,vm),(14,.int .i64 3),(15,.int .i64 y.1)]) (fun y=>y.1≤3∧BsI y.2 (Oo lo y.1) (Nn lo lf y.1) (fun _=>False) (szL lo lf y.1))
  (fun y=>baR y.2++(R0++L0)) (fun y c=>BaF y.2 c) (0,⟨b,mr,none,.slice none 0 0,[],[]⟩) H HA hF1 Ks ⟨Nat.zero_le _,hI1⟩ ?_
 clear H HA hF1 hI1
 intro y g c hy H HA
 obtain ⟨i,B1⟩:=y
 obtain ⟨hi,hI⟩:=hy
 dsimp only at hi hI H HA ⊢
 apply wc_seq
 (focus (apply wc_region;refine Z93 (fun hq=>?_) fun hq=>?_;apply Y0;rotate_left;apply Y0;rotate_left))
 ·obtain ⟨m,l,ck,Lr,hget,hprm,hnil,hOk,hFk,hN,hdis,hsz⟩:=laid_sel h0 h1 hOo hOf hd (i:=i) (by omega)
  rw [←hR0] at hprm
  apply wc_seq
  (refine Z18 ?_;apply wc_skip;apply wx_next)
  apply wc_seq
  apply wc_block
  apply wc_seq
  (apply wc_region;refine Z34 HA fun vx HA=>?_;refine Z36 ?_;refine Z2 ?_;apply Y0)
  refine wc_cutG (σ:=BaS) (fun B2=>[(5,ptr B2.b),(13,vm),(14,.int .i64 3),(15,.int .i64 i)]) (fun B2=>BsI B2 (Oo lo i) (Nn lo lf i) (fun a=>a∈ats l) (szL lo lf (i+1))) (fun B2=>baR B2++(R0++L0)) (fun B2 c=>BaF B2 c) H HA ?_ ?_
  ·cases m with
   | none =>
    have hl0:=hnil rfl
    subst hl0
    (apply Y1;refine Z0 ?_)
    refine s_rangeN rfl rfl H HA ?_
    intro rx c H HA
    (apply Y0;apply wc_block)
    refine wc_loopG (σ:=Unit) (fun _=>0) (fun _=>[(5,ptr B1.b),(13,vm),(14,.int .i64 3),(15,.int .i64 i),(20,.pointer (some ⟨rx,0,none⟩))]) (fun _=>True) (fun _=>.obj rx itN::(baR B1++(R0++L0))) (fun _=>Tt) () H HA trivial Ks trivial ?_
    intro _ g2 c _ H HA
    (apply Y1)
    refine s_nextN rfl rfl H (.head _) ?_
    (refine Z32 ?_;apply Y0;apply wc_seq;refine Z19 ?_;apply wc_exit;apply wx_exit_then;apply wx_exit_then;apply wx_exit_same)
    have hFB : BaF B1 c:=Lk
    exact wx_cutG B1 H.drop Cu hFB Ks (hI.imp (fun _=>Iff.rfl) (fun _=>Iff.rfl) (fun a=>by simp [ats]) (by simpa using Nat.le_of_eq hsz))
   | some bm =>
    have hPm : (baR B1++(R0++L0)).Perm (.obj bm (gObj (l.map FE.ge) ck)::(baR B1++(Lr++L0))):=by
     have h5 : (R0++L0).Perm (.obj bm (gObj (l.map FE.ge) ck)::(Lr++L0)):=hprm.append_right L0
     exact (List.Perm.append_left _ h5).trans List.perm_middle
    have H:=H.perm hPm
    have hFo2 : FkF lo c:=Lk
    have hFf2 : FkF lf c:=Lk
    have hFl:=hFk c hFo2 hFf2
    have HA:=HA.add hFl
    (apply Y1;refine Z0 ?_)
    refine s_rangeG rfl rfl H (.head _) HA ?_
    intro rx c H HA
    (apply Y0;apply wc_block)
    have hFB : BaF B1 c:=Lk
    refine wc_loopG (σ:=List FE×BaS) (fun y=>l.length-y.1.length) (fun y=>[(5,ptr y.2.b),(13,vm),(14,.int .i64 3),(15,.int .i64 i),(20,.pointer (some ⟨rx,0,none⟩))])
     (fun y=>(y.1.map FE.bn).Nodup∧(∀q∈y.1,q∈l)∧(ats y.1).Nodup∧BsI y.2 (Oo lo i) (Nn lo lf i) (fun a=>a∈ats y.1) (szL lo lf i+y.1.length))
     (fun y=>.obj rx (itObj bm ck (y.1.map FE.bn))::.obj bm (gObj (l.map FE.ge) ck)::(baR y.2++(Lr++L0))) (fun y c=>BaF y.2 c) ([],B1) H HA hFB Ks ⟨List.nodup_nil,(fun _ h=>by cases h),List.nodup_nil,hI.imp (fun _=>Iff.rfl) (fun _=>Iff.rfl) (fun a=>by simp [ats]) (Nat.le_refl _)⟩ ?_
    clear H HA
    intro y g2 c hy H HA
    obtain ⟨d,B2⟩:=y
    obtain ⟨hdn,hdl,hda,hI2⟩:=hy
    dsimp only at hdn hdl hda hI2 H HA ⊢
    have hdlen : d.length≤l.length:=by
     have h1:=hdn.length_le_of_subset (l₂:=l.map FE.bn) (fun b hb=>by
      obtain ⟨q,hq,rfl⟩:=List.mem_map.1 hb
      exact List.mem_map.2 ⟨q,hdl q hq,rfl⟩)
     simpa using h1
    (apply Y1)
    refine s_nextG rfl rfl (fun q hq=>by
     obtain ⟨e,he,rfl⟩:=List.mem_map.1 hq
     exact hOk.lt e he) H HA (.head _) ?_ ?_
    ·intro hall
     have hperm:=all_met hOk.bn hOk.nd hdn hdl fun q hq=>hall q.ge (List.mem_map.2 ⟨q,hq,rfl⟩)
     (refine Z32 ?_;apply Y0;apply wc_seq;refine Z19 ?_;apply wc_exit;apply wx_exit_then;apply wx_exit_then;apply wx_exit_same)
     have hFB3 : BaF B2 c:=Lk
     have hPm2 : (.obj bm (gObj (l.map FE.ge) ck)::(baR B2++(Lr++L0))).Perm (baR B2++(R0++L0)):=by
      have h5 : (.obj bm (gObj (l.map FE.ge) ck)::(Lr++L0)).Perm (R0++L0):=(hprm.append_right L0).symm
      exact List.perm_middle.symm.trans (List.Perm.append_left _ h5)
     exact wx_cutG B2 (H.drop.perm hPm2) Cu hFB3 Ks (hI2.imp (fun _=>Iff.rfl) (fun _=>Iff.rfl) (fun a=>hperm.mem_iff) (by omega))
    ·intro q c hq hnq H HA
     obtain ⟨e,he,rfl⟩:=List.mem_map.1 hq
     (refine Z32 ?_;apply Y0;apply wc_seq;refine Z18 ?_;apply wc_skip;apply wx_next;apply wc_block;apply Y1)
     refine s_entryG (q:=e.ge) rfl rfl (by rw [List.map_map];exact hOk.bn) H (.tail _ (.head _)) (.head _) hq ?_
     have hse : Sl e.va e.at_.args c:=(Lk:FkF l c) e he
     have HA:=HA.add hse
     have hag : Ag e.at_ (.agg (e.at_.cs e.va).toArray) c:=⟨_,rfl,e.va,rfl,hse⟩
     have HA:=HA.add hag
     (refine Z32 ?_)
     (refine s_alloc rfl (by conv=>lhs;whnf) H HA ?_;intro b9 c H HA)
     refine s_storeA (vs:=e.at_.cs e.va) (cs':=e.at_.cs e.va) rfl rfl H HA rfl (ones_cons rfl (ones_cons rfl (ones_cons rfl (ones_cons rfl (ones_cons hse.oneC ones_nil))))) Rc ?_
     intro c H HA
     (apply Y0;apply wc_region;refine Z0 ?_;refine Z42 ?_)
     have hnb : e.bn∉d.map FE.bn:=hnq
     have hdn2 : ((d++[e]).map FE.bn).Nodup:=by
      rw [List.map_append,List.nodup_append]
      refine ⟨hdn,List.nodup_cons.2 ⟨List.not_mem_nil,List.nodup_nil⟩,?_⟩
      rintro x hx y hy rfl
      simp only [List.map_cons,List.map_nil,List.mem_singleton] at hy
      subst hy
      exact hnb hx
     have hdl2 : ∀q∈d++[e],q∈l:=fun q hq=>by
      rcases List.mem_append.1 hq with hq|hq
      ·exact hdl q hq
      ·rw [List.mem_singleton.1 hq]
       exact he
     have hea : e.at_∉ats d:=fun hm=>by
      obtain ⟨q,hq4,h2⟩:=List.mem_map.1 hm
      have hqe:=inj_of_nodup hOk.nd (hdl q hq4) he h2
      exact hnb (List.mem_map.2 ⟨q,hq4,by rw [hqe]⟩)
     have hda2 : (ats (d++[e])).Nodup:=by
      rw [ats,List.map_append,List.nodup_append]
      refine ⟨hda,List.nodup_cons.2 ⟨List.not_mem_nil,List.nodup_nil⟩,?_⟩
      rintro x hx y hy rfl
      simp only [List.map_cons,List.map_nil,List.mem_singleton] at hy
      subst hy
      exact hea hx
     have hlen2 : (d++[e]).length≤l.length:=by
      have h1:=hdn2.length_le_of_subset (l₂:=l.map FE.bn) (fun b hb=>by
       obtain ⟨q,hq,rfl⟩:=List.mem_map.1 hb
       exact List.mem_map.2 ⟨q,hdl2 q hq,rfl⟩)
      simpa using h1
     have hlen3 : d.length+1≤l.length:=by simpa using hlen2
     have hszb : szL lo lf (i+1)≤lo.length+lf.length:=by
      simp only [szL]
      split<;>split<;>omega
     have hv:=hI2.vals
     have hs2:=hI2.size
     have hd2:=hdis e.at_ (List.mem_map.2 ⟨e,he,rfl⟩)
     have H0 : Owns c0 (.obj b9 (.cells (e.at_.cs e.va).toArray 35 (0,0))::.obj rx (itObj bm ck (d.map FE.bn++[e.bn]))::.obj bm (gObj (l.map FE.ge) ck)::(baR B2++(Lr++L0))) c:=H
     have H:=H0.perm (L':=baR B2++(.obj b9 (.cells (e.at_.cs e.va).toArray 35 (0,0))::.obj rx (itObj bm ck (d.map FE.bn++[e.bn]))::.obj bm (gObj (l.map FE.ge) ck)::(Lr++L0))) Pm
     refine s_callX rfl rfl H HA (base_Add B2 e.at_ _ _ hI2.ok Lk Lk (hOk.ok e he).fact Lk (by omega) (by omega)) ?_
     intro v R c H HA
     obtain ⟨B3,rfl,hok3,hF3,hb3,hv3,hs3,hl3,ho3,hn3,hx3⟩:=HA.h.1
     have HA:=HA.cut.add hF3
     (apply w_nil;apply wx_norm_block)
     have hF4 : BaF B3 c:=Lk
     have hI3:=hI2.add hd2.1 hd2.2 hok3 hv3 hs3 hl3 ho3 hn3 hx3
     have H:=H.perm (L':=.obj b9 (.cells (e.at_.cs e.va).toArray 35 (0,0))::.obj rx (itObj bm ck (d.map FE.bn++[e.bn]))::.obj bm (gObj (l.map FE.ge) ck)::(baR B3++(Lr++L0))) Pm
     have em : (d++[e]).map FE.bn=d.map FE.bn++[e.bn]:=by simp
     have H : Owns c0 (.obj rx (itObj bm ck ((d++[e]).map FE.bn))::.obj bm (gObj (l.map FE.ge) ck)::(baR B3++(Lr++L0))) c:=by
      rw [em]
      exact H.drop
     rw [←hb3]
     exact wx_loopG ((d++[e],B3)) H Cu hF4 Ks (by dsimp only;rw [List.length_append,List.length_singleton];omega) ⟨hdn2,hdl2,hda2,hI3.imp (fun _=>Iff.rfl) (fun _=>Iff.rfl) (fun a=>by simp [ats]) (by dsimp only;rw [List.length_append,List.length_singleton];omega)⟩
  ·clear H HA
   intro B2 g2 c hI2 H HA
   have hFB2 : BaF B2 c:=HA.h.1
   (apply wc_region;refine Z0 ?_)
   refine s_callX rfl rfl H HA (base_Turn B2 _ hI2.ok Lk) ?_
   intro v R c H HA
   obtain ⟨l',rfl,hF3,hT⟩:=HA.h.1
   have HA:=HA.cut.add hF3
   (apply w_nil;apply wx_norm_block;apply wx_next;apply wc_region;refine Z46 ?_;refine Z0 ?_;apply w_nil)
   have hI3:=hI2.turn hT
   have hF4 : BaF (B2.with_ l') c:=Lk
   exact wx_loopG ((i+1,B2.with_ l')) H Cu hF4 Ks (by dsimp only;omega) ⟨by dsimp only;omega,hI3.imp (fun a=>by
    simp only [Oo,Nn]
    constructor
    ·rintro (⟨h,h2⟩|⟨h,h2⟩|⟨h,h2⟩)
     ·exact ⟨by omega,h2⟩
     ·exact ⟨by omega,h2⟩
     ·omega
    ·rintro ⟨h,h2⟩
     rcases Nat.lt_or_ge i 2 with h3|h3
     ·exact .inr (.inl ⟨by omega,h2⟩)
     ·exact .inl ⟨h3,h2⟩) (fun a=>(hN a).symm) (fun _=>Iff.rfl) (Nat.le_refl _)⟩
 ·(apply wc_seq;refine Z19 ?_;apply wc_exit;apply wx_exit_then;apply wx_exit_then;apply wx_exit_same;apply wx_next;apply Y1;refine Z0 ?_;refine Z2 ?_;apply Y0;apply wc_ret)
  have h3 : i=3:=by omega
  have hFB : BaF B1 c:=Lk
  subst h3
  refine ret_fnX (v:=ptr B1.b) (R:=baR B1++R0) (H.perm (by rw [List.append_assoc])) Ca (outs1 Tryz.results26 rfl) ⟨B1,rfl,rfl,hFB,hI.imp (fun a=>by simp [Oo]) (fun a=>by simp [Nn]) (fun _=>Iff.rfl) (Nat.le_of_eq (by simp [szL]))⟩
structure ClOk (x:Cl) : Prop where
 body : x.body=bodyN x.dn x.body.length
 check : x.check=0
 fit : x.fit
 nv : x.nv=x.body.length
 tests : x.tests=[]
 k4 : x.body.length≤4
def CapOk (F:At0→Prop) (x:Cl) : Prop:=0<x.body.length→∃m,(∀l:List At0,l.Nodup→(∀a∈l,F a∧a.name=x.dn)→l.length≤m)∧m ^ x.body.length<1048576
def InB (B:BaS) (a:At0) : Prop:=a∈B.old∨a∈B.new
theorem InB.same {D B:BaS} (h:SameB D B) (a:At0) : InB B a↔InB D a:=by
 unfold InB
 rw [h.2.2.2.2.1,h.2.2.2.2.2.1]
theorem fire_same {D B:BaS} (h:SameB D B) {x:Cl} {lead:Int} {b:At0} : FireS B x lead b↔FireS D x lead b:=by
 unfold FireS
 constructor
 ·rintro ⟨w,h1,h2,h3⟩
  exact ⟨w,h1,fun j t hj=>h.has.1 (h2 j t hj),h3⟩
 ·rintro ⟨w,h1,h2,h3⟩
  exact ⟨w,h1,fun j t hj=>h.has.2 (h2 j t hj),h3⟩
theorem nodup_len {B:BaS} {l:List At0} (h:l.Nodup) (hs:∀a∈l,InB B a) : l.length≤(B.old++B.new).length :=
 h.length_le_of_subset fun a ha=>List.mem_append.2 (hs a ha)
theorem plOk_of {D:BaS} {x:Cl} {O N X:At0→Prop} {s:Nat} (hI:BsI D O N X s) (hs:s<1073741824) (hx:ClOk x) (hc:CapOk (InB D) x) : ∃m,PlOk D x x.dn x.body.length m∧m ^ x.body.length<1048576:=by
 have hk:=hx.k4
 have hsz:=hI.size
 have hh : ∀{a},D.has 3 x.dn a→InB D a∧a.name=x.dn:=fun {a} h=>by
  obtain ⟨t,rfl⟩:=has_fa h
  exact ⟨has_3.1 h,rfl⟩
 rcases Nat.eq_zero_or_pos x.body.length with h0|h0
 ·refine ⟨(D.old++D.new).length,⟨hx.body,hx.check,hx.fit,hx.nv,hx.tests,by omega,hI.ok,hI.rv,by omega,fun l hl ha=>nodup_len hl fun a h=>(hh (ha a h)).1,?_⟩,?_⟩
  ·rw [h0,Nat.pow_zero]
   omega
  ·rw [h0,Nat.pow_zero]
   omega
 ·obtain ⟨m,h1,h2⟩:=hc h0
  exact ⟨m,⟨hx.body,hx.check,hx.fit,hx.nv,hx.tests,by omega,hI.ok,hI.rv,by omega,fun l hl ha=>h1 l hl fun a h=>hh (ha a h),by omega⟩,h2⟩
theorem BsI.same {D B:BaS} {O N X:At0→Prop} {s:Nat} (h:BsI D O N X s) (hs:SameB D B) : BsI B O N X s :=
 ⟨hs.1,fun a=>by rw [hs.2.2.2.2.1];exact h.old a,fun a=>by rw [hs.2.2.2.2.2.1];exact h.new a,fun a=>by rw [hs.2.2.2.2.2.2.1];exact h.next a,by rw [hs.2.2.1];exact h.size,by rw [hs.2.2.2.1];exact h.vals,hs.hv h.rv⟩
theorem Stp.one {cs:List Cl} {F:At0→Prop} {b:At0} : Stp cs F b↔∃x∈cs,Stp [x] F b:=by
 constructor
 ·rintro ⟨x,hx,w,h1,h2,h3⟩
  exact ⟨x,hx,x,.head _,w,h1,h2,h3⟩
 ·rintro ⟨x,hx,y,hy,w,h1,h2,h3⟩
  rw [List.mem_singleton.1 hy] at h1 h2 h3
  exact ⟨x,hx,w,h1,h2,h3⟩
theorem Stp2.one {cs:List Cl} {F N:At0→Prop} {b:At0} : Stp2 cs F N b↔∃x∈cs,Stp2 [x] F N b:=by
 constructor
 ·rintro ⟨x,hx,w,h1,h2,h3⟩
  exact ⟨x,hx,x,.head _,w,h1,h2,h3⟩
 ·rintro ⟨x,hx,y,hy,w,h1,h2,h3⟩
  rw [List.mem_singleton.1 hy] at h1 h2 h3
  exact ⟨x,hx,w,h1,h2,h3⟩
instance : Ent Tryz.prog 25:=.of Tryz.func25 (by kernel_rfl) (by kernel_rfl)
def HdS (D:BaS) (whole:Bool) (x:Cl) (b:At0) : Prop:=if whole=true then FireS D x (-1) b else ∃lead : Nat,lead<x.body.length∧FireS D x lead b
def HeadsP (D:BaS) (whole:Bool) (cs:List Cl) (v:Value) (R:List Res) (c:Cx) : Prop:=∃B' out,R=baR B'∧SameB D B'∧BaF B' c∧Sl v out c∧(∀b,b∈out↔∃x∈cs,HdS D whole x b)
set_option maxHeartbeats 2000000 in
theorem upkeep_heads (D:BaS) (cs:List Cl) (whole:Bool) (vc:Value) (c:Cx) (O N X:At0→Prop) (s:Nat) (hI:BsI D O N X s) (hs:s<1073741824) (hF:BaF D c) (hc:Sl vc cs c) (hk:∀x∈cs,ClOk x) (hcap:∀x∈cs,CapOk (InB D) x) (hsm:∀x∈cs,∀lead b,FireS D x lead b→b.sm) (hl:cs.length≤1001) (hg:GlobOk c) :
  CnTX Tryz.prog 25 [ptr D.b,vc,.bool whole] (baR D) c (HeadsP D whole cs):=by
 refine CnTX.of Tryz.func25 Tryz.ntmps25 rfl rfl fun c0 L0 A0 _ H HA=>?_
 have HA:=((HA.add hF).add hc).add hg
 (apply Y1;refine Z2 ?_;apply Y2;refine Z2 ?_;apply Y0;apply wc_seq;apply Y1;refine Z0 ?_;refine Z45 ?_;refine Z0 ?_;apply Y0;apply wc_block)
 have H:=H.nilRow 35 5
 refine wc_loopG (σ:=Nat×BaS×List At0×Value×List (List Value)) (fun y=>cs.length-y.1) (fun y=>[(0,ptr D.b),(2,.bool whole),(7,y.2.2.2.1),(15,vc),(16,.int .i64 cs.length),(17,.int .i64 y.1)])
  (fun y=>y.1≤cs.length∧SameB D y.2.1∧(∀b,b∈y.2.2.1↔∃x∈cs.take y.1,HdS D whole x b)∧y.2.2.1.length≤y.1*4194304) (fun y=>.row y.2.2.2.1 35 5 y.2.2.1.length y.2.2.2.2.flatten::(baR y.2.1++L0)) (fun y c=>Vals y.2.2.2.2 y.2.2.1 c∧BaF y.2.1 c)
  (0,D,[],.slice none 0 0,[]) H HA ⟨Vals.nil _,hF⟩ Ks ⟨Nat.zero_le _,SameB.refl hI.ok,fun b=>by simp,Nat.zero_le _⟩ ?_
 clear H HA
 intro y g c hy H HA
 obtain ⟨i,B1,acc,vr,cl⟩:=y
 obtain ⟨hi,hsB,hacc,hal⟩:=hy
 dsimp only at hi hsB hacc hal H HA ⊢
 have hV : Vals cl acc c:=HA.h.1.1
 have hFB : BaF B1 c:=HA.h.1.2
 have HA:=(HA.cut.add hFB).add hV
 (repeat' (first|refine Z0 ?_|refine Z2 ?_|apply w_nil|apply wc_seq|apply wc_region|apply wx_next|refine Z18 ?_|refine Z19 ?_|apply wc_ret|apply wc_exit|apply wc_skip|apply wc_block|apply wx_exit_then|apply wx_exit_same|refine Z93 (fun hq=>?_) fun hq=>?_))
 ·obtain ⟨x,hx⟩:=getq (xs:=cs) (k:=i) (by omega)
  have hxm : x∈cs:=List.mem_of_getElem? hx
  have hxk:=hk x hxm
  have hk4:=hxk.k4
  have hI1:=hI.same hsB
  have hcap1 : CapOk (InB B1) x:=fun h=>by
   obtain ⟨m,h1,h2⟩:=hcap x hxm h
   exact ⟨m,fun l hl ha=>h1 l hl fun a h=>⟨(InB.same hsB a).1 (ha a h).1,(ha a h).2⟩,h2⟩
  (refine Z34 HA fun vx HA=>?_;refine Z39 HA fun vx HA=>?_;refine Z61 fun bx c H HA=>?_)
  (obtain ⟨b9,rfl⟩:∃x,x=bx:=⟨_,rfl⟩)
  (refine s_storeG (α:=Cl) rfl rfl Lk rfl rfl H HA ?_;intro c H HA)
  generalize hp : Value.pointer (some ⟨b9,0,none⟩)=p9 at HA ⊢
  cases whole with
  | true =>
   (apply Y0;apply wc_seq;apply Y1;refine Z0 ?_;apply Y0;refine Z18 ?_;apply Y1;refine Z0 ?_;refine Z39 HA fun vx HA=>?_)
   obtain ⟨m,hP,hpw⟩:=plOk_of hI1 hs hxk hcap1
   have H:=H.perm (L':=baR B1++(.row vr 35 5 acc.length cl.flatten::L0)) Pm
   rw [←hsB.2.1]
   refine s_callX rfl rfl H HA (plan_Fire B1 x x.dn x.body.length m _ (-1) _ Lk hP Lk Lk (by omega) (by omega) fun b hb=>hsm x hxm (-1) b ((fire_same hsB).1 hb)) ?_
   intro v R c H HA
   obtain ⟨B2,hs2,w,rfl,rfl,hsame,hF2,hsl,hmem,hlen⟩:=HA.h.1
   have HA:=(HA.cut.add hF2).add hsl
   have H:=H.perm (L':=.row vr 35 5 acc.length cl.flatten::(baR B2++L0)) Pm
   (repeat' (first|refine Z0 ?_|refine Z2 ?_|apply w_nil|apply wc_seq|apply wc_region|apply wx_next|apply wc_exit|apply wx_exit_then|apply wx_exit_same|refine Z32 ?_|refine Z46 ?_|refine Z59 fun vx c valsx H HA=>?_))
   have hF3 : BaF B2 c:=Lk
   have hV3 : Vals valsx (acc++hs2) c:=Lk
   have hmem2 : ∀b,b∈acc++hs2↔∃y∈cs.take (i+1),HdS D true y b:=fun b=>by
    rw [List.mem_append,hacc,hmem,fire_same hsB,List.take_add_one,hx]
    simp only [Option.toList_some,List.mem_append,List.mem_singleton]
    constructor
    ·rintro (⟨y,h1,h2⟩|h)
     ·exact ⟨y,.inl h1,h2⟩
     ·exact ⟨x,.inr rfl,h⟩
    ·rintro ⟨y,h1|rfl,h2⟩
     ·exact .inl ⟨y,h1,h2⟩
     ·exact .inr h2
   rw [hsB.2.1]
   exact wx_loopG ((i+1,B2,acc++hs2,vx,valsx)) H Cu ⟨hV3,hF3⟩ Ks (by dsimp only;omega) ⟨by dsimp only;omega,hsB.trans hsame,hmem2,by dsimp only;rw [List.length_append];omega⟩
  | false =>
   (apply Y0;apply wc_seq;apply Y1;refine Z0 ?_;apply Y0;refine Z19 ?_;apply wc_skip;apply wx_next;apply Y1;refine Z35 HA fun vx HA=>?_;refine Z37 HA fun vx HA=>?_;refine Z45 ?_;refine Z0 ?_;apply Y0;apply wc_block)
   have hFB : BaF B1 c:=Lk
   have hV : Vals cl acc c:=Lk
   refine wc_loopG (σ:=Nat×BaS×List At0×Value×List (List Value)) (fun y=>x.body.length-y.1) (fun y=>[(0,ptr D.b),(2,.bool false),(7,y.2.2.2.1),(15,vc),(16,.int .i64 cs.length),(17,.int .i64 i),(9,p9),(33,.int .i64 x.body.length),(34,.int .i64 y.1)])
    (fun y=>y.1≤x.body.length∧SameB D y.2.1∧(∀b,b∈y.2.2.1↔(∃y∈cs.take i,HdS D false y b)∨∃lead:Nat,lead<y.1∧FireS D x lead b)∧y.2.2.1.length≤i*4194304+y.1*1048576) (fun y=>.row y.2.2.2.1 35 5 y.2.2.1.length y.2.2.2.2.flatten::(baR y.2.1++L0)) (fun y c=>Vals y.2.2.2.2 y.2.2.1 c∧BaF y.2.1 c)
    (0,B1,acc,vr,cl) H HA ⟨hV,hFB⟩ Ks ⟨Nat.zero_le _,hsB,fun b=>by rw [hacc];exact ⟨.inl,fun h=>h.elim id fun ⟨l,h,_⟩=>absurd h (Nat.not_lt_zero l)⟩,Nat.le_trans hal (Nat.le_add_right _ _)⟩ ?_
   clear H HA hV hFB hal
   intro y g2 c hy H HA
   obtain ⟨j,B2,acc2,vr2,cl2⟩:=y
   obtain ⟨hj,hsB2,hacc2,hal2⟩:=hy
   dsimp only at hj hsB2 hacc2 hal2 H HA ⊢
   have hV : Vals cl2 acc2 c:=HA.h.1.1
   have hFB : BaF B2 c:=HA.h.1.2
   have HA:=(HA.cut.add hFB).add hV
   have hI2:=hI.same hsB2
   have hcap2 : CapOk (InB B2) x:=fun h=>by
    obtain ⟨m,h1,h2⟩:=hcap x hxm h
    exact ⟨m,fun l hl ha=>h1 l hl fun a h=>⟨(InB.same hsB2 a).1 (ha a h).1,(ha a h).2⟩,h2⟩
   (repeat' (first|refine Z0 ?_|refine Z2 ?_|apply w_nil|apply wc_seq|apply wc_region|apply wx_next|refine Z18 ?_|refine Z19 ?_|apply wc_exit|apply wc_skip|apply wc_block|apply wx_exit_then|apply wx_exit_same|apply wx_norm_block|refine Z39 HA fun vx HA=>?_|refine Z46 ?_|refine Z93 (fun hq=>?_) fun hq=>?_))
   ·obtain ⟨m,hP,hpw⟩:=plOk_of hI2 hs hxk hcap2
    have H:=H.perm (L':=baR B2++(.row vr2 35 5 acc2.length cl2.flatten::L0)) Pm
    rw [←hsB2.2.1]
    refine s_callX rfl rfl H HA (plan_Fire B2 x x.dn x.body.length m _ (j:Int) _ Lk hP Lk Lk (by omega) (by omega) fun b hb=>hsm x hxm (j:Int) b ((fire_same hsB2).1 hb)) ?_
    intro v R c H HA
    obtain ⟨B3,hs3,w,rfl,rfl,hsame,hF2,hsl,hmem,hlen⟩:=HA.h.1
    have HA:=(HA.cut.add hF2).add hsl
    have H:=H.perm (L':=.row vr2 35 5 acc2.length cl2.flatten::(baR B3++L0)) Pm
    (repeat' (first|refine Z0 ?_|refine Z2 ?_|apply w_nil|apply wc_region|apply wx_next|apply wx_norm_block|refine Z32 ?_|refine Z46 ?_|refine Z59 fun vx c valsx H HA=>?_))
    have hF3 : BaF B3 c:=Lk
    have hV3 : Vals valsx (acc2++hs3) c:=Lk
    have hmem2 : ∀b,b∈acc2++hs3↔(∃y∈cs.take i,HdS D false y b)∨∃lead : Nat,lead<j+1∧FireS D x lead b:=fun b=>by
     rw [List.mem_append,hacc2,hmem,fire_same hsB2,or_assoc]
     refine or_congr_right ?_
     constructor
     ·rintro (⟨l,h1,h2⟩|h)
      ·exact ⟨l,by omega,h2⟩
      ·exact ⟨j,by omega,h⟩
     ·rintro ⟨l,h1,h2⟩
      rcases Nat.lt_or_ge l j with h3|h3
      ·exact .inl ⟨l,h3,h2⟩
      ·have : l=j:=by omega
       subst this
       exact .inr h2
    rw [hsB2.2.1]
    exact wx_loopG ((j+1,B3,acc2++hs3,vx,valsx)) H Cu ⟨hV3,hF3⟩ Ks (by dsimp only;omega) ⟨by dsimp only;omega,hsB2.trans hsame,hmem2,by dsimp only;rw [List.length_append];omega⟩
   ·have hjk : j=x.body.length:=by omega
    have hF3 : BaF B2 c:=Lk
    have hV3 : Vals cl2 acc2 c:=Lk
    have hmem2 : ∀b,b∈acc2↔∃y∈cs.take (i+1),HdS D false y b:=fun b=>by
     rw [hacc2,hjk,List.take_add_one,hx]
     simp only [Option.toList_some,List.mem_append,List.mem_singleton]
     constructor
     ·rintro (⟨y,h1,h2⟩|h)
      ·exact ⟨y,.inl h1,h2⟩
      ·exact ⟨x,.inr rfl,h⟩
     ·rintro ⟨y,h1|rfl,h2⟩
      ·exact .inl ⟨y,h1,h2⟩
      ·exact .inr h2
    exact wx_loopG ((i+1,B2,acc2,vr2,cl2)) H Cu ⟨hV3,hF3⟩ Ks (by dsimp only;omega) ⟨by dsimp only;omega,hsB2,hmem2,by dsimp only;omega⟩
 ·(refine wx_freezeRow H HA Lk rfl rfl (by simp only [LIM];omega) ?_;intro c H HA)
  have hso : Sl vr acc c:=Lk
  have hFB : BaF B1 c:=Lk
  have e0 : cs.take i=cs:=List.take_of_length_le (by omega)
  rw [e0] at hacc
  exact ret_fnX H Ca (outs1 Tryz.results25 Wh) ⟨B1,acc,rfl,hsB,hFB,hso,hacc⟩
end Go.Proofs.YtnppmeeibbefbaaGreatDoor
