/- a part of the proof: lemmas on walks, on plain data, contracts of functions. -/
import Derived.Ground.SlsfProg
import Derived.Test.YtnppmeeibbefbaaGreatDoorA1
import Derived.Test.YtnppmeeibbefbaaGreatDoorA2
import Derived.Test.YtnppmeeibbefbaaGreatDoorA3
import Derived.Test.YtnppmeeibbefbaaGreatDoorA4
import Derived.Test.YtnppmeeibbefbaaGreatDoorA5
import Derived.Test.YtnppmeeibbefbaaGreatDoorA6
set_option linter.all false
namespace Go.Wk
open Go
theorem Cn.same {P:Program} {g:FuncId} {args:List Value} {c:Cx} {v:Value} (h:Calls P g args.toArray c.w fun e w'=>e=.returned v∧w'=c.w) : Cn P g args c (fun u _=>u=v) :=
 fun _=>h.mono fun _ _ ⟨he,hw⟩=>⟨v,he,hw▸Ext0.refl _,rfl⟩
end Go.Wk
namespace Go.Proofs.YtnppmeeibbefbaaGreatDoor
open Go Go.Wk
theorem mixed : Tryz.prog.follows .mixedOrders=true:=by kernel_rfl
theorem term_Variable (t:Tm) (c:Cx) : Cn Tryz.prog 33 [.agg t.cs.toArray] c (fun v _=>v=.bool t.isVar):=by
 refine Cn.of Tryz.func33 Tryz.ntmps33 rfl rfl fun hm H HA=>?_
 (repeat' (first|refine Z0 ?_|refine Z1 ?_|refine Z2 ?_|refine Z3 ?_|refine Z4 ?_|refine Z5 ?_|refine Z8 ?_|apply w_nil|apply wc_seq|apply wc_region|apply wx_next|apply wc_ret|refine Z30 ?_|refine Z31 fun bx c H HA=>?_|refine Z92 (fun hq=>?_) fun hq=>?_|refine Z97 (fun hq=>?_) fun hq=>?_|refine Z98 (fun hq=>?_) fun hq=>?_))
 all_goals exact ret_fn H hm (outs1 Tryz.results33 Wh) (by simp [Tm.isVar, *])
theorem term_Const (t:Tm) (c:Cx) : Cn Tryz.prog 106 [.agg t.cs.toArray] c (fun v _=>v=.bool t.isConst):=by
 refine Cn.of Tryz.func106 Tryz.ntmps106 rfl rfl fun hm H HA=>?_
 (repeat' (first|refine Z0 ?_|refine Z1 ?_|refine Z2 ?_|refine Z3 ?_|refine Z4 ?_|refine Z5 ?_|refine Z8 ?_|apply w_nil|apply wc_seq|apply wc_region|apply wx_next|refine Z18 ?_|refine Z19 ?_|apply wc_ret|apply wc_skip|apply wc_block|apply wx_ret_then|apply wx_ret_block|apply wx_norm_block|refine Z30 ?_|refine Z31 fun bx c H HA=>?_|refine Z43 ?_|refine Z92 (fun hq=>?_) fun hq=>?_|refine Z95 (fun hq=>?_) fun hq=>?_|refine Z98 (fun hq=>?_) fun hq=>?_))
 all_goals exact ret_fn H hm (outs1 Tryz.results106 Wh) (by simp_all [Tm.isConst])
theorem cmp_isNaN (a:Int) (c:Cx) : Cn Tryz.prog 73 [.int .i64 a] c (fun v _=>v=.bool false):=by
 refine Cn.of Tryz.func73 Tryz.ntmps73 rfl rfl fun hm H HA=>?_
 (focus (apply Y1;refine Z2 ?_;apply Y2;refine Z0 ?_;refine Z0 ?_;refine Z94 (fun hq=>?_) fun hq=>?_;refine Z2 ?_;apply Y0;apply wc_ret;rotate_left;refine Z2 ?_;apply Y0;apply wc_ret;rotate_left))
 ·exact absurd rfl hq
 ·exact ret_fn H hm (outs1 Tryz.results73 Wh) rfl
theorem cmp_Compare (a b:Int) (c:Cx) : Cn Tryz.prog 49 [.int .i64 a,.int .i64 b] c (fun v _=>v=.int .i64 (cmpI a b)):=by
 refine Cn.of Tryz.func49 Tryz.ntmps49 rfl rfl fun hm H HA=>?_
 (apply Y1;refine Z2 ?_;apply Y2;refine Z0 ?_)
 (refine s_call rfl rfl H HA (cmp_isNaN _ _) ?_;intro vx c H HP;have hvx:=HP.h.1;have HA:=HP.cut;subst hvx)
 (refine Z2 ?_;apply Y2;refine Z0 ?_)
 (refine s_call rfl rfl H HA (cmp_isNaN _ _) ?_;intro vx c H HP;have hvx:=HP.h.1;have HA:=HP.cut;subst hvx)
 (repeat' (first|refine Z0 ?_|refine Z2 ?_|apply w_nil|apply wc_seq|apply wc_region|apply wx_next|refine Z18 ?_|refine Z19 ?_|apply wc_ret|apply wc_skip|apply wx_ret_then|refine Z93 (fun hq=>?_) fun hq=>?_|refine Z96 (fun hq=>?_) fun hq=>?_))
 all_goals exact ret_fn H hm (outs1 Tryz.results49 Wh) (by simp [cmpI, *])
theorem strings_Compare (a b:ByteArray) (c:Cx) : Cn Tryz.prog 64 [.string a,.string b] c (fun v _=>v=.int .i64 (cmpS a b)):=Cn.same (Tryz.strings_Compare a b c.w)
theorem term_Principal (t:Tm) (c:Cx) : Cn Tryz.prog 104 [.agg t.cs.toArray] c (fun v _=>v=.bool t.isPrinc):=by
 refine Cn.of Tryz.func104 Tryz.ntmps104 rfl rfl fun hm H HA=>?_
 (apply Y1;refine Z31 fun bx c H HA=>?_;refine Z2 ?_;apply Y2;refine Z7 ?_)
 (refine s_call rfl rfl H HA (term_Const t _) ?_;intro vx c H HP;have hvx:=HP.h.1;have HA:=HP.cut;subst hvx)
 cases hc : t.isConst
 all_goals (repeat' (first|refine Z0 ?_|refine Z1 ?_|refine Z2 ?_|refine Z3 ?_|refine Z4 ?_|refine Z5 ?_|refine Z8 ?_|apply w_nil|apply wx_next|apply wc_ret|refine Z30 ?_|refine Z92 (fun hq=>?_) fun hq=>?_|refine Z99 (fun hq=>?_) fun hq=>?_))
 all_goals exact ret_fn H hm (outs1 Tryz.results104 Wh) (by simp [Tm.isPrinc, *])
theorem ref03_SameTerms (xs ys:List Tm) (v1 v2:Value) (c:Cx) (h1:Sl v1 xs c) (h2:Sl v2 ys c) : Cn Tryz.prog 28 [v1,v2] c (fun v _=>v=.bool (decide (xs=ys))):=by
 refine Cn.of Tryz.func28 Tryz.ntmps28 rfl rfl fun hm H HA=>?_
 have HA:=(HA.add h1).add h2
 have hlim:=h1.lim
 (repeat' (first|refine Z0 ?_|refine Z2 ?_|apply w_nil|apply wc_seq|apply wc_region|apply wx_next|refine Z18 ?_|refine Z19 ?_|apply wc_ret|apply wc_skip|apply wc_block|apply wx_ret_then|refine Z45 ?_|refine Z94 (fun hq=>?_) fun hq=>?_))
 ·exact ret_fn H hm (outs1 Tryz.results28 Wh) (by simp;intro e;subst e;omega)
 refine wc_loopN xs.length (fun k=>[(0,v1),(1,v2),(5,.int .i64 k)]) (fun k=>decide (xs=ys)=decide (xs.drop k=ys.drop k)) 0 H HA Ks (Nat.zero_le _) (by simp) ?_
 intro k g c hk hno H HA
 (repeat' (first|refine Z0 ?_|refine Z2 ?_|apply w_nil|apply wc_seq|apply wc_region|apply wx_next|refine Z18 ?_|refine Z19 ?_|apply wc_ret|apply wc_exit|apply wc_skip|apply wc_block|apply wx_exit_then|apply wx_exit_same|refine Z45 ?_|refine Z93 (fun hq=>?_) fun hq=>?_))
 ·obtain ⟨u,hu⟩:=getq (xs:=xs) (k:=k) (by omega)
  obtain ⟨u',hu'⟩:=getq (xs:=ys) (k:=k) (by omega)
  have hd:=drop_get hu
  have hd':=drop_get hu'
  ((refine dw_start H HA ?_);(repeat (refine Dc ?_));(refine dw_done mixed H HA rfl (by kernel_rfl) ?_;clear H HA;intro c H HA;(repeat (first|rintro vx rfl|(intro vx hx;have HA:=HA.addSF hx;clear hx)|(intro vx hx;have HA:=HA.add hx;clear hx)|intro vx));change W _ _ _ _ _ _ _))
  (repeat' (first|refine Z0 ?_|refine Z2 ?_|apply w_nil|apply wc_seq|apply wc_region|apply wx_next|apply wc_ret|apply wc_skip|apply wx_ret_then|apply wx_ret_block|apply wx_norm_block|refine Z46 ?_|(focus (apply wc_cond;rfl;all_goals intro hq))))
  ·exact ret_fn H hm (outs1 Tryz.results28 Wh) (by simp_all)
  ·exact wx_loopN (k+1) H Cu Ks (by omega) (by simp_all)
 ·exact ret_fn H hm (outs1 Tryz.results28 Wh) (by rename_i hq0 _;rw [hno,drop_end hq,drop_end (xs:=ys) (k:=k) (by omega)];simp)
theorem ref03_SameAtom (a b:At0) (u1 u2:Value) (c:Cx) (h1:Ag a u1 c) (h2:Ag b u2 c) : Cn Tryz.prog 15 [u1,u2] c (fun v _=>v=.bool (decide (a=b))):=by
 refine Cn.of Tryz.func15 Tryz.ntmps15 rfl rfl fun hm H HA=>?_
 have HA:=(HA.add h1).add h2
 (repeat' (first|refine Z0 ?_|refine Z2 ?_|refine Z4 ?_|refine Z5 ?_|refine Z8 ?_|apply w_nil|apply wc_seq|apply wc_region|apply wx_next|apply wc_ret|refine Z30 ?_|refine Z35 HA fun vx HA=>?_|refine Z36 ?_|refine Z37 HA fun vx HA=>?_|refine Z38 ?_|refine Z40 fun vx c H HA=>?_|refine Z98 (fun hq=>?_) fun hq=>?_|refine Z100 (fun hq=>?_) fun hq=>?_))
 ·(refine s_call rfl rfl H HA (ref03_SameTerms a.args b.args _ _ _ Lk Lk) ?_;intro vx c H HP;have hvx:=HP.h.1;have HA:=HP.cut;subst hvx)
  (refine Z8 ?_;refine Z2 ?_;apply Y0;apply wc_ret)
  exact ret_fn H hm (outs1 Tryz.results15 Wh) (by simp [At0.eq, *])
 all_goals exact ret_fn H hm (outs1 Tryz.results15 Wh) (by simp [At0.eq, *])
theorem term_places (a:At0) (u:Value) (c:Cx) (h:Ag a u c) (hb:a.args.length+1<1099511627776) : Cn Tryz.prog 136 [u] c (fun v c=>Sl v a.terms c):=by
 refine Cn.of Tryz.func136 Tryz.ntmps136 rfl rfl fun hm H HA=>?_
 have HA:=HA.add h
 (apply Y1;refine Z40 fun vx c H HA=>?_;refine Z2 ?_;apply Y2;refine Z35 HA fun vx HA=>?_;refine Z38 ?_;refine Z56 fun vx c H HA=>?_;refine Z35 HA fun vx HA=>?_;refine Z37 HA fun vx HA=>?_;refine Z58 fun vx c H HA=>?_;refine Z2 ?_;apply Y0;apply wc_ret)
 exact ret_fn H hm (outs1 Tryz.results136 Wh) Lk
end Go.Proofs.YtnppmeeibbefbaaGreatDoor
namespace Go.Wk
open Go
def looked (s:List Bd) (x:Int) : Value:=.tuple #[.agg ((lookB s x).getD Tn).cs.toArray,.bool (lookB s x).isSome]
end Go.Wk
namespace Go.Proofs.YtnppmeeibbefbaaGreatDoor
open Go Go.Wk
end Go.Proofs.YtnppmeeibbefbaaGreatDoor
namespace Go.Wk
open Go
theorem Ag.mk_cl {x:Cl} {a b d:Value} {c:Cx} (h:ClAt x a b d c) : Ag x (.agg (x.cs a b d).toArray) c:=⟨_,rfl,a,b,d,rfl,h⟩
end Go.Wk
namespace Go.Proofs.YtnppmeeibbefbaaGreatDoor
open Go Go.Wk
end Go.Proofs.YtnppmeeibbefbaaGreatDoor
namespace Go.Wk
open Go
def Mt (r:Option (List Bd)) (v:Value) (c:Cx) : Prop:=∃v',v=.tuple #[v',.bool r.isSome]∧Sl v' (r.getD []) c
instance (r : Option (List Bd)) (v : Value) : Mono (Mt r v):=⟨fun h ⟨v',e,k⟩=>⟨v',e,Mono.mono h k⟩⟩
theorem Mt.no {r:Option (List Bd)} {c:Cx} (h:r=none) : Mt r (.tuple #[.slice none 0 0,.bool false]) c:=by subst h;exact ⟨_,rfl,Sl.nil _⟩
theorem Mt.yes {r:Option (List Bd)} {l:List Bd} {v:Value} {c:Cx} (h:r=some l) (k:Sl v l c) : Mt r (.tuple #[v,.bool true]) c:=by subst h;exact ⟨_,rfl,k⟩
end Go.Wk
namespace Go.Proofs.YtnppmeeibbefbaaGreatDoor
open Go Go.Wk
end Go.Proofs.YtnppmeeibbefbaaGreatDoor
namespace Go.Wk
open Go
def Cl.fit (x:Cl) : Prop:=x.sm∧x.terms.length<1099511627776
theorem orI_get {α:Type} {f:α→Int} {l:List α} {k:Nat} {a:α} (h:l[k]?=some a) : orI ((l.drop k).map f)=if f a=0 then orI ((l.drop (k+1)).map f) else f a:=by
 rw [drop_get h]
 rfl
end Go.Wk
namespace Go.Proofs.YtnppmeeibbefbaaGreatDoor
open Go Go.Wk
end Go.Proofs.YtnppmeeibbefbaaGreatDoor
namespace Go.Wk
open Go
section
variable {P : Program} {ops : Array Oper} {Q : Exit → Act → World → Prop} {n : Nat} {f : Nat → Value} {rest : List Oper} {ty : TypeId} {ps : String} {af : Array Edge} {d : Tmp} {w : World}
end
end Go.Wk
namespace Go.Proofs.YtnppmeeibbefbaaGreatDoor
open Go Go.Wk
end Go.Proofs.YtnppmeeibbefbaaGreatDoor
namespace Go.Wk
open Go
end Go.Wk
namespace Go.Proofs.YtnppmeeibbefbaaGreatDoor
open Go Go.Wk
end Go.Proofs.YtnppmeeibbefbaaGreatDoor
namespace Go.Wk
open Go
section
variable {P : Program} {ops : Array Oper} {Q : Exit → Act → World → Prop} {n : Nat} {f : Nat → Value} {rest : List Oper} {ty : TypeId} {ps : String} {af : Array Edge} {d : Tmp}
variable {c0 c : Cx} {L : List Res} {A : Cx → Prop}
end
end Go.Wk
namespace Go.Proofs.YtnppmeeibbefbaaGreatDoor
open Go Go.Wk
end Go.Proofs.YtnppmeeibbefbaaGreatDoor
namespace Go.Wk
open Go
end Go.Wk
namespace Go.Proofs.YtnppmeeibbefbaaGreatDoor
open Go Go.Wk
end Go.Proofs.YtnppmeeibbefbaaGreatDoor
namespace Go.Wk
open Go
section
variable {P : Program} {ops : Array Oper} {Q : Exit → Act → World → Prop} {n : Nat} {f : Nat → Value} {rest : List Oper} {ty : TypeId} {ps : String} {af : Array Edge} {d : Tmp}
variable {c0 c : Cx} {L : List Res} {A : Cx → Prop}
theorem LPut.all {cs vs:List Value} (h:cs.length=vs.length) : LPut cs 0 vs vs:=by
 induction cs generalizing vs with
 | nil =>
  have : vs=[]:=List.eq_nil_of_length_eq_zero h.symm
  subst this
  exact .nil
 | cons c cs ih =>
  cases vs with
  | nil=>simp at h
  | cons v vs=>exact .here (ih (by simpa using h))
theorem s_storeG {α:Type} {iE:Enc α} {T T':TypeId} {kk b:Nat} {x y:Operand} {cs:List Value} {v:Value} {u:α} (hx:opd f x=.pointer (some ⟨b,0,none⟩)) (hy:opd f y=v) (h:Ag u v c) [Agg P T' kk] (hk:Enc.k α=kk) (hl:cs.length=kk) (H:Owns c0 (.obj b (.cells cs.toArray T (0,0))::L) c) (HA:Hd A c) [Mono A]
  (k:∀c',Owns c0 L c'→Hd (fun c=>Pt u (.pointer (some ⟨b,0,none⟩)) c∧A c) c'→W P ops Q rest n f c'.w) : W P ops Q (⟨none,.store T' x y,ty,ps,af,none⟩::rest) n f c.w:=by
 obtain ⟨us,rfl,hO⟩:=h
 have hlu:=Enc.len us u c hO
 refine s_storeA (T:=T) hx hy H (HA.add hO) (hlu.trans hk) (fun v hv=>Enc.one us u c hO v hv) (LPut.all (by rw [hl,hlu,hk])) fun c' H HA=>?_
 refine w_freeze H HA fun c' H HA=>k c' H ⟨⟨b,0,rfl,us,HA.h.2.1,fun j v hj=>?_⟩,HA.h.2.2⟩
 rw [Nat.zero_add]
 exact HA.h.1.at_ hj
end
end Go.Wk
namespace Go.Proofs.YtnppmeeibbefbaaGreatDoor
open Go Go.Wk
instance : TyD Tryz.prog 3 Int (fun x=>[.int .i64 x]):=⟨fun _ _=>rfl⟩
theorem cmp_Or (xs:List Int) (v:Value) (c:Cx) (h:Sl v xs c) : Cn Tryz.prog 48 [v] c (fun v _=>v=.int .i64 (orI xs)):=by
 refine Cn.of Tryz.func48 Tryz.ntmps48 rfl rfl fun hm H HA=>?_
 have hlim:=h.lim
 have HA:=HA.add h
 (apply Y1;refine Z2 ?_;apply Y2;refine Z2 ?_;apply Y0;apply wc_seq;apply Y1;refine Z0 ?_;refine Z45 ?_;refine Z0 ?_;apply Y0;apply wc_block)
 refine wc_loopN xs.length (fun k=>[(3,.int .i64 0),(6,v),(7,.int .i64 xs.length),(8,.int .i64 k)]) (fun k=>orI (xs.drop k)=orI xs) 0 H HA Ks (Nat.zero_le _) rfl ?_
 intro k g c hk hp H HA
 (repeat' (first|refine Z0 ?_|refine Z2 ?_|apply w_nil|apply wc_seq|apply wc_region|apply wx_next|refine Z18 ?_|refine Z19 ?_|apply wc_ret|apply wc_exit|apply wc_skip|apply wc_block|apply wx_exit_then|apply wx_exit_same|refine Z93 (fun hq=>?_) fun hq=>?_))
 ·obtain ⟨a,ha⟩:=getq (xs:=xs) (k:=k) (by omega)
  have hd:=drop_get ha
  (repeat' (first|refine Z0 ?_|refine Z2 ?_|apply w_nil|apply wc_seq|apply wc_region|apply wx_next|refine Z18 ?_|refine Z19 ?_|apply wc_ret|apply wc_skip|apply wx_ret_then|apply wx_ret_block|apply wx_norm_block|refine Z34 HA fun vx HA=>?_|refine Z36 ?_|refine Z46 ?_|refine Z94 (fun hq=>?_) fun hq=>?_))
  ·exact ret_fn H hm (outs1 Tryz.results48 Wh) (by rw [←hp,hd,orI,if_neg hq])
  ·exact wx_loopN (k+1) H Cu Ks (by omega) (by rw [←hp,hd,orI,if_pos hq])
 ·exact ret_fn H hm (outs1 Tryz.results48 Wh) (by rw [←hp,drop_end hq];rfl)
theorem term_Compare (t u:Tm) (c:Cx) (ha:t.s.size<4611686018427387904) : Cn Tryz.prog 65 [.agg t.cs.toArray,.agg u.cs.toArray] c (fun v _=>v=.int .i64 (cmpTm t u)):=by
 refine Cn.of Tryz.func65 Tryz.ntmps65 rfl rfl fun hm H HA=>?_
 (apply Y1;refine Z31 fun bx c H HA=>?_;refine Z31 fun bx c H HA=>?_;refine Z2 ?_;apply Y0;apply wc_seq)
 (refine dw_start H HA ?_)
 (repeat (refine Dc ?_))
 (apply dw_cons;(focus ((intro B _ Lx c H HA;(repeat (first|rintro vx rfl|(intro vx hx;have HA:=HA.addSF hx;clear hx)|(intro vx hx;have HA:=HA.add hx;clear hx)|intro vx));change W _ _ _ _ _ _ _);(refine s_call rfl rfl H HA (cmp_Compare _ _ _) ?_;intro vx c H HP;have hvx:=HP.h.1;have HA:=HP.cut;subst hvx);exact Dx));exact inferInstance)
 (repeat (refine Dc ?_))
 (apply dw_cons;(focus ((intro B _ Lx c H HA;(repeat (first|rintro vx rfl|(intro vx hx;have HA:=HA.addSF hx;clear hx)|(intro vx hx;have HA:=HA.add hx;clear hx)|intro vx));change W _ _ _ _ _ _ _);(refine s_call rfl rfl H HA (cmp_Compare _ _ _) ?_;intro vx c H HP;have hvx:=HP.h.1;have HA:=HP.cut;subst hvx);exact Dx));exact inferInstance)
 (repeat (refine Dc ?_))
 (apply dw_cons;(focus ((intro B _ Lx c H HA;(repeat (first|rintro vx rfl|(intro vx hx;have HA:=HA.addSF hx;clear hx)|(intro vx hx;have HA:=HA.add hx;clear hx)|intro vx));change W _ _ _ _ _ _ _);(refine s_call rfl rfl H HA (strings_Compare _ _ _) ?_;intro vx c H HP;have hvx:=HP.h.1;have HA:=HP.cut;subst hvx);exact Dx));exact inferInstance)
 (repeat (refine Dc ?_))
 (apply dw_cons;(focus ((intro B _ Lx c H HA;(repeat (first|rintro vx rfl|(intro vx hx;have HA:=HA.addSF hx;clear hx)|(intro vx hx;have HA:=HA.add hx;clear hx)|intro vx));change W _ _ _ _ _ _ _);(refine s_call rfl rfl H HA (cmp_Or _ _ _ Lk) ?_;intro vx c H HP;have hvx:=HP.h.1;have HA:=HP.cut;subst hvx);exact Dx));exact inferInstance)
 (repeat (refine Dc ?_))
 (refine dw_done mixed H HA rfl (by kernel_rfl) ?_;clear H HA;intro c H HA;(repeat (first|rintro vx rfl|(intro vx hx;have HA:=HA.addSF hx;clear hx)|(intro vx hx;have HA:=HA.add hx;clear hx)|intro vx));change W _ _ _ _ _ _ _)
 (apply Y0;apply wc_ret)
 exact ret_fn H hm (outs1 Tryz.results65 Wh) (by rw [cmpTm])
theorem term_CheckTest (t:Ts) (c:Cx) : Cn Tryz.prog 157 [.agg t.cs.toArray] c (fun v _=>v=.int .i64 t.check):=by
 refine Cn.of Tryz.func157 Tryz.ntmps157 rfl rfl fun hm H HA=>?_
 (repeat' (first|refine Z0 ?_|refine Z1 ?_|refine Z2 ?_|refine Z3 ?_|refine Z4 ?_|refine Z5 ?_|refine Z6 ?_|refine Z7 ?_|refine Z8 ?_|apply w_nil|apply wc_seq|apply wc_region|apply wx_next|refine Z18 ?_|apply wc_ret|apply wx_ret_then|refine Z30 ?_|refine Z31 fun bx c H HA=>?_|refine Z93 (fun hq=>?_) fun hq=>?_|refine Z96 (fun hq=>?_) fun hq=>?_))
 all_goals first|exact ret_fn H hm (outs1 Tryz.results157 Wh) (by simp_all [Ts.check];try omega)|skip
 (refine s_call rfl rfl H HA (term_Const t.l _) ?_;intro vx c H HP;have hvx:=HP.h.1;have HA:=HP.cut;subst hvx)
 cases h1 : t.l.isConst
 ·(refine Z4 ?_;refine Z33 ?_;refine Z4 ?_;refine Z0 ?_;refine Z4 ?_;refine Z3 ?_;refine Z4 ?_;refine Z7 ?_;refine Z4 ?_)
  (refine s_call rfl rfl H HA (term_Variable t.l _) ?_;intro vx c H HP;have hvx:=HP.h.1;have HA:=HP.cut;subst hvx)
  cases h2 : t.l.isVar
  ·(repeat' (first|refine Z0 ?_|refine Z2 ?_|refine Z4 ?_|refine Z5 ?_|refine Z6 ?_|refine Z8 ?_|apply w_nil|apply wc_seq|apply wc_region|apply wx_next|refine Z18 ?_|apply wc_ret|apply wx_ret_then|refine Z30 ?_|refine Z33 ?_))
   exact ret_fn H hm (outs1 Tryz.results157 Wh) (by simp_all [Ts.check])
  ·(refine Z4 ?_;refine Z33 ?_;refine Z4 ?_;refine Z8 ?_;refine Z30 ?_;refine Z0 ?_;refine Z4 ?_;refine Z3 ?_;refine Z4 ?_;refine Z7 ?_;refine Z4 ?_)
   (refine s_call rfl rfl H HA (term_Const t.r _) ?_;intro vx c H HP;have hvx:=HP.h.1;have HA:=HP.cut;subst hvx)
   cases h3 : t.r.isConst
   ·(refine Z4 ?_;refine Z33 ?_;refine Z4 ?_;refine Z0 ?_;refine Z4 ?_;refine Z3 ?_;refine Z4 ?_;refine Z7 ?_;refine Z4 ?_)
    (refine s_call rfl rfl H HA (term_Variable t.r _) ?_;intro vx c H HP;have hvx:=HP.h.1;have HA:=HP.cut;subst hvx)
    cases h4 : t.r.isVar
    ·(refine Z4 ?_;refine Z33 ?_;refine Z4 ?_;refine Z8 ?_;refine Z30 ?_;apply Y0;refine Z18 ?_;apply Y1;refine Z2 ?_;apply Y0;apply wc_ret;apply wx_ret_then)
     exact ret_fn H hm (outs1 Tryz.results157 Wh) (by simp_all [Ts.check])
    ·(refine Z4 ?_;refine Z33 ?_;refine Z4 ?_;refine Z8 ?_;refine Z30 ?_;apply Y0;refine Z19 ?_;apply wc_skip;apply wx_next;apply Y1;refine Z2 ?_;apply Y0;apply wc_ret)
     exact ret_fn H hm (outs1 Tryz.results157 Wh) (by simp_all [Ts.check];try omega)
   ·(refine Z4 ?_;refine Z33 ?_;refine Z4 ?_;refine Z0 ?_;refine Z5 ?_;refine Z5 ?_;refine Z5 ?_;refine Z5 ?_;refine Z4 ?_;refine Z30 ?_;refine Z30 ?_;apply Y0;refine Z19 ?_;apply wc_skip;apply wx_next;apply Y1;refine Z2 ?_;apply Y0;apply wc_ret)
    exact ret_fn H hm (outs1 Tryz.results157 Wh) (by simp_all [Ts.check];try omega)
 ·(repeat' (first|refine Z0 ?_|refine Z3 ?_|refine Z4 ?_|refine Z5 ?_|refine Z7 ?_|refine Z30 ?_|refine Z33 ?_))
  (refine s_call rfl rfl H HA (term_Const t.r _) ?_;intro vx c H HP;have hvx:=HP.h.1;have HA:=HP.cut;subst hvx)
  cases h3 : t.r.isConst
  ·(refine Z4 ?_;refine Z33 ?_;refine Z4 ?_;refine Z0 ?_;refine Z4 ?_;refine Z3 ?_;refine Z4 ?_;refine Z7 ?_;refine Z4 ?_)
   (refine s_call rfl rfl H HA (term_Variable t.r _) ?_;intro vx c H HP;have hvx:=HP.h.1;have HA:=HP.cut;subst hvx)
   cases h4 : t.r.isVar
   ·(refine Z4 ?_;refine Z33 ?_;refine Z4 ?_;refine Z8 ?_;refine Z30 ?_;apply Y0;refine Z18 ?_;apply Y1;refine Z2 ?_;apply Y0;apply wc_ret;apply wx_ret_then)
    exact ret_fn H hm (outs1 Tryz.results157 Wh) (by simp_all [Ts.check])
   ·(refine Z4 ?_;refine Z33 ?_;refine Z4 ?_;refine Z8 ?_;refine Z30 ?_;apply Y0;refine Z19 ?_;apply wc_skip;apply wx_next;apply Y1;refine Z2 ?_;apply Y0;apply wc_ret)
    exact ret_fn H hm (outs1 Tryz.results157 Wh) (by simp_all [Ts.check];try omega)
  ·(refine Z4 ?_;refine Z33 ?_;refine Z4 ?_;refine Z0 ?_;refine Z5 ?_;refine Z5 ?_;refine Z5 ?_;refine Z5 ?_;refine Z4 ?_;refine Z30 ?_;refine Z30 ?_;apply Y0;refine Z19 ?_;apply wc_skip;apply wx_next;apply Y1;refine Z2 ?_;apply Y0;apply wc_ret)
   exact ret_fn H hm (outs1 Tryz.results157 Wh) (by simp_all [Ts.check];try omega)
theorem term_Look (s:List Bd) (v:Value) (x:Int) (c:Cx) (h:Sl v s c) (hg:Box 1 Tn.cs c) : Cn Tryz.prog 81 [v,.int .i64 x] c (fun u _=>u=looked s x):=by
 refine Cn.of Tryz.func81 Tryz.ntmps81 rfl rfl fun hm H HA=>?_
 have hlim:=h.lim
 have HA:=(HA.add h).add hg
 (apply Y1;refine Z61 fun bx c H HA=>?_;refine Z2 ?_;apply Y0;apply wc_seq;apply Y1;refine Z0 ?_;refine Z45 ?_;refine Z0 ?_;apply Y0;apply wc_block)
 (obtain ⟨b0,rfl⟩:∃x,x=bx:=⟨_,rfl⟩)
 refine wc_loopN s.length (fun k=>[(1,.int .i64 x),(4,.pointer (some ⟨b0,0,none⟩)),(8,v),(9,.int .i64 s.length),(10,.int .i64 k)]) (fun k=>lookB s x=lookB (s.drop k) x) 0 H HA Ks (Nat.zero_le _) rfl ?_
 intro k g c hk hp H HA
 (repeat' (first|refine Z2 ?_|refine Z7 ?_|apply w_nil|apply wc_seq|apply wc_region|apply wx_next|refine Z18 ?_|refine Z19 ?_|apply wc_ret|apply wc_exit|apply wc_skip|apply wc_block|apply wx_exit_then|apply wx_exit_same|refine Z74 fun c H HA=>?_|refine Z93 (fun hq=>?_) fun hq=>?_))
 ·obtain ⟨e,he⟩:=getq (xs:=s) (k:=k) (by omega)
  have hd:=drop_get he
  (repeat' (first|refine Z0 ?_|refine Z2 ?_|refine Z3 ?_|apply w_nil|apply wc_seq|apply wc_region|apply wx_next|refine Z18 ?_|refine Z19 ?_|apply wc_ret|apply wc_skip|apply wx_ret_then|apply wx_ret_block|apply wx_norm_block|refine Z34 HA fun vx HA=>?_|refine Z38 ?_|refine Z41 ?_|refine Z42 ?_|refine Z46 ?_|refine Z61 fun bx c H HA=>?_|refine Z74 fun c H HA=>?_|refine Z76 fun c H HA=>?_|refine Z92 (fun hq=>?_) fun hq=>?_))
  ·exact ret_fn H hm (outsR2 Tryz.results81 (RV.agg rfl H Ow Rc) (RV.tmp Wh)) (by simp [looked,hp,hd,lookB,hq])
  ·have H:=H.drop
   exact wx_loopN (k+1) H Cu Ks (by omega) (by simp [hp,hd,lookB,hq])
 ·exact ret_fn H hm (outsR2 Tryz.results81 (RV.agg rfl H Ow Rc) (RV.tmp Wh)) (by simp [looked,hp,drop_end hq,lookB])
theorem term_become (s:List Bd) (v:Value) (t:Tm) (c:Cx) (h:Sl v s c) (hg:Box 1 Tn.cs c) : Cn Tryz.prog 61 [v,.agg t.cs.toArray] c (fun u _=>u=.agg (becomeT s t).cs.toArray):=by
 refine Cn.of Tryz.func61 Tryz.ntmps61 rfl rfl fun hm H HA=>?_
 have HA:=(HA.add h).add hg
 (apply Y1;refine Z31 fun bx c H HA=>?_;refine Z61 fun bx c H HA=>?_;apply Y0;apply wc_seq;apply Y1;refine Z7 ?_)
 (refine s_call rfl rfl H HA (term_Variable t _) ?_;intro vx c H HP;have hvx:=HP.h.1;have HA:=HP.cut;subst hvx)
 cases hv : t.isVar
 ·(apply Y0;refine Z19 ?_;apply wc_skip;apply wx_next;apply Y1;refine Z7 ?_;refine Z74 fun c H HA=>?_;apply Y0;apply wc_ret)
  exact ret_fn H hm (outsR1 Tryz.results61 (RV.agg rfl H Ow Rc)) (by simp [becomeT,hv])
 ·(apply Y0;refine Z18 ?_;apply Y1;refine Z0 ?_;refine Z3 ?_;refine Z1 ?_)
  (refine s_call rfl rfl H HA (term_Look s v t.n _ Lk Lk) ?_;intro vx c H HP;have hvx:=HP.h.1;have HA:=HP.cut;subst hvx)
  cases hl : lookB s t.n
  ·rw [looked,hl]
   (refine Z0 ?_;refine Z32 ?_;refine Z32 ?_;refine Z61 fun bx c H HA=>?_;refine Z74 fun c H HA=>?_;refine Z2 ?_;apply Y2;refine Z0 ?_;apply Y0;refine Z19 ?_;apply wc_skip;apply wx_next;apply Y1;refine Z7 ?_;refine Z76 fun c H HA=>?_;apply Y0;apply wc_ret)
   exact ret_fn H hm (outsR1 Tryz.results61 (RV.agg rfl H Ow Rc)) (by simp [becomeT,hv,hl])
  ·rw [looked,hl]
   (refine Z0 ?_;refine Z32 ?_;refine Z32 ?_;refine Z61 fun bx c H HA=>?_;refine Z74 fun c H HA=>?_;refine Z2 ?_;apply Y2;refine Z0 ?_;apply Y0;refine Z18 ?_;apply Y1;refine Z42 ?_;refine Z76 fun c H HA=>?_;apply Y0;apply wc_ret;apply wx_ret_then)
   exact ret_fn H hm (outsR1 Tryz.results61 (RV.agg rfl H Ow Rc)) (by simp [becomeT,hv,hl])
end Go.Proofs.YtnppmeeibbefbaaGreatDoor
namespace Go.Wk
theorem lexL_tms : ∀(xs ys:List Tm),xs.length=ys.length→lexL cmpTm xs ys=cmpTms xs ys
 | [],[],_=>rfl
 | x::xs,y::ys,h=>by
  have ih:=lexL_tms xs ys (by simpa using h)
  simp only [lexL,cmpTms,ih]
 | [],_::_,h=>by simp at h
 | _::_,[],h=>by simp at h
end Go.Wk
namespace Go.Proofs.YtnppmeeibbefbaaGreatDoor
open Go Go.Wk
theorem CompareFunc_Tm (xs ys:List Tm) (v1 v2:Value) (c:Cx) (h1:Sl v1 xs c) (h2:Sl v2 ys c) (hs:∀x∈xs,x.sm) : Cn Tryz.prog 66 [v1,v2,.func (.func 65) #[] #[]] c (fun v _=>v=.int .i64 (lexL cmpTm xs ys)):=by
 refine Cn.of Tryz.func66 Tryz.ntmps66 rfl rfl fun hm H HA=>?_
 have hl1:=h1.lim
 have hl2:=h2.lim
 have HA:=(HA.add h1).add h2
 (apply Y1;refine Z2 ?_;apply Y0;apply wc_seq;apply Y1;refine Z0 ?_;refine Z45 ?_;refine Z0 ?_;apply Y0;apply wc_block)
 refine wc_loopN xs.length (fun k=>[(0,v1),(1,v2),(2,.func (.func 65) #[] #[]),(11,v1),(12,.int .i64 xs.length),(13,.int .i64 k)]) (fun k=>k≤ys.length∧lexL cmpTm xs ys=lexL cmpTm (xs.drop k) (ys.drop k)) 0 H HA Ks (Nat.zero_le _) ⟨Nat.zero_le _,rfl⟩ ?_
 intro k g c hk hp H HA
 obtain ⟨hk2,hp⟩:=hp
 (repeat' (first|refine Z0 ?_|refine Z2 ?_|apply w_nil|apply wc_seq|apply wc_region|apply wx_next|refine Z18 ?_|refine Z19 ?_|apply wc_ret|apply wc_exit|apply wc_skip|apply wc_block|apply wx_ret_then|apply wx_exit_then|apply wx_exit_same|refine Z45 ?_|refine Z93 (fun hq=>?_) fun hq=>?_))
 ·obtain ⟨x,hx⟩:=getq (xs:=xs) (k:=k) (by omega)
  (repeat' (first|refine Z0 ?_|refine Z2 ?_|apply w_nil|apply wc_seq|apply wc_region|apply wx_next|refine Z18 ?_|refine Z19 ?_|apply wc_ret|apply wc_skip|apply wx_ret_then|apply wx_ret_block|refine Z34 HA fun vx HA=>?_|refine Z38 ?_|refine Z45 ?_|refine Z61 fun bx c H HA=>?_|refine Z74 fun c H HA=>?_|refine Z97 (fun hq=>?_) fun hq=>?_))
  ·have e0 : ys.drop k=[]:=List.drop_eq_nil_of_le (by omega)
   exact ret_fn H hm (outs1 Tryz.results66 Wh) (by rw [hp,drop_get hx,e0];rfl)
  ·obtain ⟨y,hy⟩:=getq (xs:=ys) (k:=k) (by omega)
   (refine Z34 HA fun vx HA=>?_;refine Z38 ?_;refine Z61 fun bx c H HA=>?_;refine Z74 fun c H HA=>?_;apply Y2;refine Z0 ?_;refine Z42 ?_;refine Z42 ?_)
   (refine s_callV (caps:=[]) rfl rfl rfl H HA (term_Compare x y _ (hs x (List.mem_of_getElem? hx))) ?_;intro vx c H HP;have hvx:=HP.h.1;have HA:=HP.cut;subst hvx)
   have hl:=lexL_get (f:=cmpTm) hx hy
   (repeat' (first|refine Z0 ?_|refine Z2 ?_|apply w_nil|apply wc_seq|apply wc_region|apply wx_next|refine Z18 ?_|refine Z19 ?_|apply wc_ret|apply wc_skip|apply wx_ret_then|apply wx_ret_block|apply wx_norm_block|refine Z46 ?_|refine Z94 (fun hq=>?_) fun hq=>?_))
   ·exact ret_fn H hm (outs1 Tryz.results66 Wh) (by rw [hp,hl,if_neg (by assumption)])
   ·have H:=H.drop.drop
    exact wx_loopN (k+1) H Cu Ks (by omega) ⟨by omega,by rw [hp,hl,if_pos (by assumption)]⟩
 ·have e0 : xs.drop k=[]:=List.drop_eq_nil_of_le (by omega)
  obtain ⟨y,hy⟩:=getq (xs:=ys) (k:=k) (by omega)
  exact ret_fn H hm (outs1 Tryz.results66 Wh) (by rw [hp,e0,drop_get hy];rfl)
 ·have e0 : xs.drop k=[]:=List.drop_eq_nil_of_le (by omega)
  have e1 : ys.drop k=[]:=List.drop_eq_nil_of_le (by omega)
  exact ret_fn H hm (outs1 Tryz.results66 Wh) (by rw [hp,e0,e1];rfl)
theorem term_CompareAtoms (a b:At0) (u1 u2:Value) (c:Cx) (h1:Ag a u1 c) (h2:Ag b u2 c) (hs:a.sm) : Cn Tryz.prog 40 [u1,u2] c (fun v _=>v=.int .i64 (cmpAt a b)):=by
 refine Cn.of Tryz.func40 Tryz.ntmps40 rfl rfl fun hm H HA=>?_
 have HA:=(HA.add h1).add h2
 (apply wc_seq;apply wc_region)
 (refine s_boxG rfl rfl Lk H HA ?_;intro p c H HA)
 (refine s_boxG rfl rfl Lk H HA ?_;intro q c H HA)
 (refine Z2 ?_;apply Y0;apply wc_seq;apply wc_seq)
 (refine dw_start H HA ?_)
 (repeat (refine Dc ?_))
 (apply dw_cons;(focus ((intro B _ Lx c H HA;(repeat (first|rintro vx rfl|(intro vx hx;have HA:=HA.addSF hx;clear hx)|(intro vx hx;have HA:=HA.add hx;clear hx)|intro vx));change W _ _ _ _ _ _ _);(refine s_call rfl rfl H HA (strings_Compare _ _ _) ?_;intro vx c H HP;have hvx:=HP.h.1;have HA:=HP.cut;subst hvx);exact Dx));exact inferInstance)
 (repeat (refine Dc ?_))
 (apply dw_cons;(focus ((intro B _ Lx c H HA;(repeat (first|rintro vx rfl|(intro vx hx;have HA:=HA.addSF hx;clear hx)|(intro vx hx;have HA:=HA.add hx;clear hx)|intro vx));change W _ _ _ _ _ _ _);(refine s_call rfl rfl H HA (cmp_Compare _ _ _) ?_;intro vx c H HP;have hvx:=HP.h.1;have HA:=HP.cut;subst hvx);exact Dx));exact inferInstance)
 (repeat (refine Dc ?_))
 (apply dw_cons;(focus ((intro B _ Lx c H HA;(repeat (first|rintro vx rfl|(intro vx hx;have HA:=HA.addSF hx;clear hx)|(intro vx hx;have HA:=HA.add hx;clear hx)|intro vx));change W _ _ _ _ _ _ _);(refine s_call rfl rfl H HA (term_Compare a.by_ b.by_ _ hs.2.1) ?_;intro vx c H HP;have hvx:=HP.h.1;have HA:=HP.cut;subst hvx);exact Dx));exact inferInstance)
 (repeat (refine Dc ?_))
 (apply dw_cons;(focus ((intro B _ Lx c H HA;(repeat (first|rintro vx rfl|(intro vx hx;have HA:=HA.addSF hx;clear hx)|(intro vx hx;have HA:=HA.add hx;clear hx)|intro vx));change W _ _ _ _ _ _ _);(refine s_call rfl rfl H HA (cmp_Or _ _ _ Lk) ?_;intro vx c H HP;have hvx:=HP.h.1;have HA:=HP.cut;subst hvx);exact Dx));exact inferInstance)
 (repeat (refine Dc ?_))
 (refine dw_done mixed H HA rfl (by kernel_rfl) ?_;clear H HA;intro c H HA;(repeat (first|rintro vx rfl|(intro vx hx;have HA:=HA.addSF hx;clear hx)|(intro vx hx;have HA:=HA.add hx;clear hx)|intro vx));change W _ _ _ _ _ _ _)
 have he : cmpAt a b=if orI [cmpS a.name b.name,cmpI a.args.length b.args.length,cmpTm a.by_ b.by_]=0 then cmpTms a.args b.args else orI [cmpS a.name b.name,cmpI a.args.length b.args.length,cmpTm a.by_ b.by_]:=by
  simp only [cmpAt,orI]
  repeat' split
  all_goals simp_all
 have hlen : orI [cmpS a.name b.name,cmpI a.args.length b.args.length,cmpTm a.by_ b.by_]=0→a.args.length=b.args.length:=by
  intro h
  simp only [orI] at h
  repeat' split at h
  all_goals simp_all [cmpI_nat0]
 generalize orI [cmpS a.name b.name,cmpI a.args.length b.args.length,cmpTm a.by_ b.by_]=z at he hlen ⊢
 (repeat' (first|refine Z0 ?_|refine Z2 ?_|apply w_nil|apply wc_seq|apply wc_region|apply wx_next|refine Z18 ?_|refine Z19 ?_|apply wc_ret|apply wc_skip|apply wx_ret_then|refine Z35 HA fun vx HA=>?_|refine Z37 HA fun vx HA=>?_|refine Z94 (fun hq=>?_) fun hq=>?_))
 ·exact ret_fn H hm (outs1 Tryz.results40 Wh) (by rw [he,if_neg (by assumption)])
 ·(refine s_call rfl rfl H HA (CompareFunc_Tm a.args b.args _ _ _ Lk Lk hs.2.2) ?_;intro vx c H HP;have hvx:=HP.h.1;have HA:=HP.cut;subst hvx)
  (refine Z2 ?_;apply Y0;apply wc_ret)
  exact ret_fn H hm (outs1 Tryz.results40 Wh) (by rw [he,if_pos (by assumption),lexL_tms _ _ (hlen (by assumption))])
theorem clause_compareTests (a b:Ts) (c:Cx) (hl:a.l.sm) (hr:a.r.sm) : Cn Tryz.prog 52 [.agg a.cs.toArray,.agg b.cs.toArray] c (fun v _=>v=.int .i64 (cmpTs a b)):=by
 refine Cn.of Tryz.func52 Tryz.ntmps52 rfl rfl fun hm H HA=>?_
 (apply Y1;refine Z31 fun bx c H HA=>?_;refine Z31 fun bx c H HA=>?_;refine Z2 ?_;apply Y0;apply wc_seq)
 (refine dw_start H HA ?_)
 (repeat (refine Dc ?_))
 (apply dw_cons;(focus ((intro B _ Lx c H HA;(repeat (first|rintro vx rfl|(intro vx hx;have HA:=HA.addSF hx;clear hx)|(intro vx hx;have HA:=HA.add hx;clear hx)|intro vx));change W _ _ _ _ _ _ _);(refine s_call rfl rfl H HA (cmp_Compare _ _ _) ?_;intro vx c H HP;have hvx:=HP.h.1;have HA:=HP.cut;subst hvx);exact Dx));exact inferInstance)
 (repeat (refine Dc ?_))
 (apply dw_cons;(focus ((intro B _ Lx c H HA;(repeat (first|rintro vx rfl|(intro vx hx;have HA:=HA.addSF hx;clear hx)|(intro vx hx;have HA:=HA.add hx;clear hx)|intro vx));change W _ _ _ _ _ _ _);(refine s_call rfl rfl H HA (term_Compare a.l b.l _ hl) ?_;intro vx c H HP;have hvx:=HP.h.1;have HA:=HP.cut;subst hvx);exact Dx));exact inferInstance)
 (repeat (refine Dc ?_))
 (apply dw_cons;(focus ((intro B _ Lx c H HA;(repeat (first|rintro vx rfl|(intro vx hx;have HA:=HA.addSF hx;clear hx)|(intro vx hx;have HA:=HA.add hx;clear hx)|intro vx));change W _ _ _ _ _ _ _);(refine s_call rfl rfl H HA (term_Compare a.r b.r _ hr) ?_;intro vx c H HP;have hvx:=HP.h.1;have HA:=HP.cut;subst hvx);exact Dx));exact inferInstance)
 (repeat (refine Dc ?_))
 (apply dw_cons;(focus ((intro B _ Lx c H HA;(repeat (first|rintro vx rfl|(intro vx hx;have HA:=HA.addSF hx;clear hx)|(intro vx hx;have HA:=HA.add hx;clear hx)|intro vx));change W _ _ _ _ _ _ _);(refine s_call rfl rfl H HA (cmp_Or _ _ _ Lk) ?_;intro vx c H HP;have hvx:=HP.h.1;have HA:=HP.cut;subst hvx);exact Dx));exact inferInstance)
 (repeat (refine Dc ?_))
 (refine dw_done mixed H HA rfl (by kernel_rfl) ?_;clear H HA;intro c H HA;(repeat (first|rintro vx rfl|(intro vx hx;have HA:=HA.addSF hx;clear hx)|(intro vx hx;have HA:=HA.add hx;clear hx)|intro vx));change W _ _ _ _ _ _ _)
 (apply Y0;apply wc_ret)
 exact ret_fn H hm (outs1 Tryz.results52 Wh) (by
  simp only [cmpTs,orI]
  repeat' split
  all_goals simp_all)
theorem CompareFunc_At (xs ys:List At0) (v1 v2:Value) (c:Cx) (h1:Sl v1 xs c) (h2:Sl v2 ys c) (hs:∀x∈xs,x.sm) : Cn Tryz.prog 50 [v1,v2,.func (.func 40) #[] #[]] c (fun v _=>v=.int .i64 (lexL cmpAt xs ys)):=by
 refine Cn.of Tryz.func50 Tryz.ntmps50 rfl rfl fun hm H HA=>?_
 have hl1:=h1.lim
 have hl2:=h2.lim
 have HA:=(HA.add h1).add h2
 (apply Y1;refine Z2 ?_;apply Y0;apply wc_seq;apply Y1;refine Z0 ?_;refine Z45 ?_;refine Z0 ?_;apply Y0;apply wc_block)
 refine wc_loopN xs.length (fun k=>[(0,v1),(1,v2),(2,.func (.func 40) #[] #[]),(11,v1),(12,.int .i64 xs.length),(13,.int .i64 k)]) (fun k=>k≤ys.length∧lexL cmpAt xs ys=lexL cmpAt (xs.drop k) (ys.drop k)) 0 H HA Ks (Nat.zero_le _) ⟨Nat.zero_le _,rfl⟩ ?_
 intro k g c hk hp H HA
 obtain ⟨hk2,hp⟩:=hp
 (repeat' (first|refine Z0 ?_|refine Z2 ?_|apply w_nil|apply wc_seq|apply wc_region|apply wx_next|refine Z18 ?_|refine Z19 ?_|apply wc_ret|apply wc_exit|apply wc_skip|apply wc_block|apply wx_ret_then|apply wx_exit_then|apply wx_exit_same|refine Z45 ?_|refine Z93 (fun hq=>?_) fun hq=>?_))
 ·obtain ⟨x,hx⟩:=getq (xs:=xs) (k:=k) (by omega)
  (refine Z34 HA fun vx HA=>?_;refine Z39 HA fun vx HA=>?_;refine Z61 fun bx c H HA=>?_;refine Z2 ?_)
  (refine s_storeG (α:=At0) rfl rfl Lk rfl rfl H HA ?_;intro c H HA)
  (repeat' (first|refine Z0 ?_|refine Z2 ?_|apply w_nil|apply wc_seq|apply wc_region|apply wx_next|refine Z18 ?_|refine Z19 ?_|apply wc_ret|apply wc_skip|apply wx_ret_then|apply wx_ret_block|refine Z45 ?_|refine Z97 (fun hq=>?_) fun hq=>?_))
  ·have e0 : ys.drop k=[]:=List.drop_eq_nil_of_le (by omega)
   exact ret_fn H hm (outs1 Tryz.results50 Wh) (by rw [hp,drop_get hx,e0];rfl)
  ·obtain ⟨y,hy⟩:=getq (xs:=ys) (k:=k) (by omega)
   (refine Z34 HA fun vx HA=>?_;refine Z39 HA fun vx HA=>?_;refine Z61 fun bx c H HA=>?_)
   (refine s_storeG (α:=At0) rfl rfl Lk rfl rfl H HA ?_;intro c H HA)
   (apply Y2;refine Z0 ?_;refine Z39 HA fun vx HA=>?_;refine Z39 HA fun vx HA=>?_)
   (refine s_callV (caps:=[]) rfl rfl rfl H HA (term_CompareAtoms x y _ _ _ Lk Lk (hs x (List.mem_of_getElem? hx))) ?_;intro vx c H HP;have hvx:=HP.h.1;have HA:=HP.cut;subst hvx)
   have hl:=lexL_get (f:=cmpAt) hx hy
   (repeat' (first|refine Z0 ?_|refine Z2 ?_|apply w_nil|apply wc_seq|apply wc_region|apply wx_next|refine Z18 ?_|refine Z19 ?_|apply wc_ret|apply wc_skip|apply wx_ret_then|apply wx_ret_block|apply wx_norm_block|refine Z46 ?_|refine Z94 (fun hq=>?_) fun hq=>?_))
   ·exact ret_fn H hm (outs1 Tryz.results50 Wh) (by rw [hp,hl,if_neg (by assumption)])
   ·skip
    exact wx_loopN (k+1) H Cu Ks (by omega) ⟨by omega,by rw [hp,hl,if_pos (by assumption)]⟩
 ·have e0 : xs.drop k=[]:=List.drop_eq_nil_of_le (by omega)
  obtain ⟨y,hy⟩:=getq (xs:=ys) (k:=k) (by omega)
  exact ret_fn H hm (outs1 Tryz.results50 Wh) (by rw [hp,e0,drop_get hy];rfl)
 ·have e0 : xs.drop k=[]:=List.drop_eq_nil_of_le (by omega)
  have e1 : ys.drop k=[]:=List.drop_eq_nil_of_le (by omega)
  exact ret_fn H hm (outs1 Tryz.results50 Wh) (by rw [hp,e0,e1];rfl)
theorem CompareFunc_Ts (xs ys:List Ts) (v1 v2:Value) (c:Cx) (h1:Sl v1 xs c) (h2:Sl v2 ys c) (hs:∀x∈xs,x.l.sm∧x.r.sm) : Cn Tryz.prog 51 [v1,v2,.func (.func 52) #[] #[]] c (fun v _=>v=.int .i64 (lexL cmpTs xs ys)):=by
 refine Cn.of Tryz.func51 Tryz.ntmps51 rfl rfl fun hm H HA=>?_
 have hl1:=h1.lim
 have hl2:=h2.lim
 have HA:=(HA.add h1).add h2
 (apply Y1;refine Z2 ?_;apply Y0;apply wc_seq;apply Y1;refine Z0 ?_;refine Z45 ?_;refine Z0 ?_;apply Y0;apply wc_block)
 refine wc_loopN xs.length (fun k=>[(0,v1),(1,v2),(2,.func (.func 52) #[] #[]),(11,v1),(12,.int .i64 xs.length),(13,.int .i64 k)]) (fun k=>k≤ys.length∧lexL cmpTs xs ys=lexL cmpTs (xs.drop k) (ys.drop k)) 0 H HA Ks (Nat.zero_le _) ⟨Nat.zero_le _,rfl⟩ ?_
 intro k g c hk hp H HA
 obtain ⟨hk2,hp⟩:=hp
 (repeat' (first|refine Z0 ?_|refine Z2 ?_|apply w_nil|apply wc_seq|apply wc_region|apply wx_next|refine Z18 ?_|refine Z19 ?_|apply wc_ret|apply wc_exit|apply wc_skip|apply wc_block|apply wx_ret_then|apply wx_exit_then|apply wx_exit_same|refine Z45 ?_|refine Z93 (fun hq=>?_) fun hq=>?_))
 ·obtain ⟨x,hx⟩:=getq (xs:=xs) (k:=k) (by omega)
  (repeat' (first|refine Z0 ?_|refine Z2 ?_|apply w_nil|apply wc_seq|apply wc_region|apply wx_next|refine Z18 ?_|refine Z19 ?_|apply wc_ret|apply wc_skip|apply wx_ret_then|apply wx_ret_block|refine Z34 HA fun vx HA=>?_|refine Z38 ?_|refine Z45 ?_|refine Z61 fun bx c H HA=>?_|refine Z74 fun c H HA=>?_|refine Z97 (fun hq=>?_) fun hq=>?_))
  ·have e0 : ys.drop k=[]:=List.drop_eq_nil_of_le (by omega)
   exact ret_fn H hm (outs1 Tryz.results51 Wh) (by rw [hp,drop_get hx,e0];rfl)
  ·obtain ⟨y,hy⟩:=getq (xs:=ys) (k:=k) (by omega)
   (refine Z34 HA fun vx HA=>?_;refine Z38 ?_;refine Z61 fun bx c H HA=>?_;refine Z74 fun c H HA=>?_;apply Y2;refine Z0 ?_;refine Z42 ?_;refine Z42 ?_)
   (refine s_callV (caps:=[]) rfl rfl rfl H HA (clause_compareTests x y _ (hs x (List.mem_of_getElem? hx)).1 (hs x (List.mem_of_getElem? hx)).2) ?_;intro vx c H HP;have hvx:=HP.h.1;have HA:=HP.cut;subst hvx)
   have hl:=lexL_get (f:=cmpTs) hx hy
   (repeat' (first|refine Z0 ?_|refine Z2 ?_|apply w_nil|apply wc_seq|apply wc_region|apply wx_next|refine Z18 ?_|refine Z19 ?_|apply wc_ret|apply wc_skip|apply wx_ret_then|apply wx_ret_block|apply wx_norm_block|refine Z46 ?_|refine Z94 (fun hq=>?_) fun hq=>?_))
   ·exact ret_fn H hm (outs1 Tryz.results51 Wh) (by rw [hp,hl,if_neg (by assumption)])
   ·have H:=H.drop.drop
    exact wx_loopN (k+1) H Cu Ks (by omega) ⟨by omega,by rw [hp,hl,if_pos (by assumption)]⟩
 ·have e0 : xs.drop k=[]:=List.drop_eq_nil_of_le (by omega)
  obtain ⟨y,hy⟩:=getq (xs:=ys) (k:=k) (by omega)
  exact ret_fn H hm (outs1 Tryz.results51 Wh) (by rw [hp,e0,drop_get hy];rfl)
 ·have e0 : xs.drop k=[]:=List.drop_eq_nil_of_le (by omega)
  have e1 : ys.drop k=[]:=List.drop_eq_nil_of_le (by omega)
  exact ret_fn H hm (outs1 Tryz.results51 Wh) (by rw [hp,e0,e1];rfl)
theorem clause_Compare (a b:Cl) (u1 u2:Value) (c:Cx) (h1:Ag a u1 c) (h2:Ag b u2 c) (hs:a.sm) : Cn Tryz.prog 30 [u1,u2] c (fun v _=>v=.int .i64 (cmpCl a b)):=by
 refine Cn.of Tryz.func30 Tryz.ntmps30 rfl rfl fun hm H HA=>?_
 have HA:=(HA.add h1).add h2
 (apply wc_seq;apply wc_region)
 (refine s_boxG rfl rfl Lk H HA ?_;intro p c H HA)
 (refine s_boxG rfl rfl Lk H HA ?_;intro q c H HA)
 (refine Z2 ?_;apply Y0;apply wc_seq;apply wc_seq)
 (refine dw_start H HA ?_)
 (repeat (refine Dc ?_))
 (apply dw_cons;(focus ((intro B _ Lx c H HA;(repeat (first|rintro vx rfl|(intro vx hx;have HA:=HA.addSF hx;clear hx)|(intro vx hx;have HA:=HA.add hx;clear hx)|intro vx));change W _ _ _ _ _ _ _);(refine s_call rfl rfl H HA (term_CompareAtoms a.head b.head _ _ _ Lk Lk hs.1) ?_;intro vx c H HP;have hvx:=HP.h.1;have HA:=HP.cut;subst hvx);exact Dx));exact inferInstance)
 (repeat (refine Dc ?_))
 (apply dw_cons;(focus ((intro B _ Lx c H HA;(repeat (first|rintro vx rfl|(intro vx hx;have HA:=HA.addSF hx;clear hx)|(intro vx hx;have HA:=HA.add hx;clear hx)|intro vx));change W _ _ _ _ _ _ _);(refine s_call rfl rfl H HA (cmp_Compare _ _ _) ?_;intro vx c H HP;have hvx:=HP.h.1;have HA:=HP.cut;subst hvx);exact Dx));exact inferInstance)
 (repeat (refine Dc ?_))
 (apply dw_cons;(focus ((intro B _ Lx c H HA;(repeat (first|rintro vx rfl|(intro vx hx;have HA:=HA.addSF hx;clear hx)|(intro vx hx;have HA:=HA.add hx;clear hx)|intro vx));change W _ _ _ _ _ _ _);(refine s_call rfl rfl H HA (cmp_Or _ _ _ Lk) ?_;intro vx c H HP;have hvx:=HP.h.1;have HA:=HP.cut;subst hvx);exact Dx));exact inferInstance)
 (repeat (refine Dc ?_))
 (refine dw_done mixed H HA rfl (by kernel_rfl) ?_;clear H HA;intro c H HA;(repeat (first|rintro vx rfl|(intro vx hx;have HA:=HA.addSF hx;clear hx)|(intro vx hx;have HA:=HA.add hx;clear hx)|intro vx));change W _ _ _ _ _ _ _)
 have he : cmpCl a b=if orI [cmpAt a.head b.head,cmpI a.body.length b.body.length]=0 then (if lexL cmpAt a.body b.body=0 then (if cmpI a.tests.length b.tests.length=0 then lexL cmpTs a.tests b.tests else cmpI a.tests.length b.tests.length) else lexL cmpAt a.body b.body) else orI [cmpAt a.head b.head,cmpI a.body.length b.body.length]:=by
  simp only [cmpCl,orI]
  repeat' split
  all_goals simp_all
 generalize orI [cmpAt a.head b.head,cmpI a.body.length b.body.length]=z at he ⊢
 (repeat' (first|refine Z0 ?_|refine Z2 ?_|apply w_nil|apply wc_seq|apply wc_region|apply wx_next|refine Z18 ?_|refine Z19 ?_|apply wc_ret|apply wc_skip|apply wx_ret_then|refine Z35 HA fun vx HA=>?_|refine Z37 HA fun vx HA=>?_|refine Z94 (fun hq=>?_) fun hq=>?_))
 ·exact ret_fn H hm (outs1 Tryz.results30 Wh) (by rw [he,if_neg (by assumption)])
 ·rw [if_pos (by assumption)] at he
  (refine s_call rfl rfl H HA (CompareFunc_At a.body b.body _ _ _ Lk Lk hs.2.1) ?_;intro vx c H HP;have hvx:=HP.h.1;have HA:=HP.cut;subst hvx)
  by_cases h3 : lexL cmpAt a.body b.body=0
  ·rw [if_pos h3] at he
   (refine Z2 ?_;apply Y2;refine Z0 ?_;refine Z82 ?_;apply Y0;refine Z19 ?_;apply wc_skip;apply wx_next;apply wc_seq;apply Y1;refine Z35 HA fun vx HA=>?_;refine Z37 HA fun vx HA=>?_;refine Z45 ?_;refine Z35 HA fun vx HA=>?_;refine Z37 HA fun vx HA=>?_;refine Z45 ?_)
   (refine s_call rfl rfl H HA (cmp_Compare _ _ _) ?_;intro vx c H HP;have hvx:=HP.h.1;have HA:=HP.cut;subst hvx)
   by_cases h4 : cmpI a.tests.length b.tests.length=0
   ·rw [if_pos h4] at he
    (refine Z2 ?_;apply Y2;refine Z0 ?_;refine Z82 ?_;apply Y0;refine Z19 ?_;apply wc_skip;apply wx_next;apply Y1;refine Z35 HA fun vx HA=>?_;refine Z37 HA fun vx HA=>?_;refine Z35 HA fun vx HA=>?_;refine Z37 HA fun vx HA=>?_)
    (refine s_call rfl rfl H HA (CompareFunc_Ts a.tests b.tests _ _ _ Lk Lk hs.2.2) ?_;intro vx c H HP;have hvx:=HP.h.1;have HA:=HP.cut;subst hvx)
    (refine Z2 ?_;apply Y0;apply wc_ret)
    exact ret_fn H hm (outs1 Tryz.results30 Wh) (by rw [he])
   ·rw [if_neg h4] at he
    (refine Z2 ?_;apply Y2;refine Z0 ?_;refine Z82 ?_;apply Y0;refine Z18 ?_;apply Y1;refine Z0 ?_;refine Z2 ?_;apply Y0;apply wc_ret;apply wx_ret_then)
    exact ret_fn H hm (outs1 Tryz.results30 Wh) (by rw [he])
  ·rw [if_neg h3] at he
   (refine Z2 ?_;apply Y2;refine Z0 ?_;refine Z82 ?_;apply Y0;refine Z18 ?_;apply Y1;refine Z0 ?_;refine Z2 ?_;apply Y0;apply wc_ret;apply wx_ret_then)
   exact ret_fn H hm (outs1 Tryz.results30 Wh) (by rw [he])
theorem clause_when (b:Bool) (e:Int) (c:Cx) : Cn Tryz.prog 263 [.bool b,.int .i64 e] c (fun v _=>v=.int .i64 (if b then e else 0)):=by
 refine Cn.of Tryz.func263 Tryz.ntmps263 rfl rfl fun hm H HA=>?_
 cases b
 ·(apply Y1;refine Z2 ?_;apply Y0;apply wc_seq;apply Y1;refine Z0 ?_;apply Y0;refine Z19 ?_;apply wc_skip;apply wx_next;apply Y1;refine Z2 ?_;apply Y0;apply wc_ret)
  exact ret_fn H hm (outs1 Tryz.results263 Wh) (by simp)
 ·(apply Y1;refine Z2 ?_;apply Y0;apply wc_seq;apply Y1;refine Z0 ?_;apply Y0;refine Z18 ?_;apply Y1;refine Z0 ?_;refine Z2 ?_;apply Y0;apply wc_ret;apply wx_ret_then)
  exact ret_fn H hm (outs1 Tryz.results263 Wh) (by simp)
theorem clause_tooLong (x:Cl) (u:Value) (c:Cx) (h:Ag x u c) : Cn Tryz.prog 257 [u] c (fun v _=>v=.int .i64 (if 8<x.body.length∨8<x.tests.length then 31 else 0)):=by
 refine Cn.of Tryz.func257 Tryz.ntmps257 rfl rfl fun hm H HA=>?_
 have HA:=HA.add h
 have hlb : x.body.length<1099511627776:=by obtain ⟨cs,rfl,v,v1,v2,rfl,h⟩:=h;exact h.2.1.lim
 have hlt : x.tests.length<1099511627776:=by obtain ⟨cs,rfl,v,v1,v2,rfl,h⟩:=h;exact h.2.2.lim
 (apply wc_seq;apply wc_region)
 (refine s_boxG rfl rfl Lk H HA ?_;intro p c H HA)
 (repeat' (first|refine Z0 ?_|refine Z2 ?_|refine Z4 ?_|refine Z5 ?_|refine Z8 ?_|apply w_nil|apply wc_seq|apply wc_region|apply wx_next|refine Z30 ?_|refine Z35 HA fun vx HA=>?_|refine Z37 HA fun vx HA=>?_|refine Z45 ?_|refine Z96 (fun hq=>?_) fun hq=>?_))
 all_goals
  (refine s_call rfl rfl H HA (clause_when _ _ _) ?_;intro vx c H HP;have hvx:=HP.h.1;have HA:=HP.cut;subst hvx)
  (refine Z2 ?_;apply Y0;apply wc_ret)
  exact ret_fn H hm (outs1 Tryz.results257 Wh) (by simp;intros;omega)
theorem clause_openHead (x:Cl) (u:Value) (c:Cx) (h:Ag x u c) : Cn Tryz.prog 260 [u] c (fun v _=>v=.int .i64 (if x.head.by_.isVar then 33 else 0)):=by
 refine Cn.of Tryz.func260 Tryz.ntmps260 rfl rfl fun hm H HA=>?_
 have HA:=HA.add h
 (apply wc_seq;apply wc_region)
 (refine s_boxG rfl rfl Lk H HA ?_;intro p c H HA)
 (refine Z2 ?_;apply Y2;refine Z35 HA fun vx HA=>?_;refine Z35 HA fun vx HA=>?_;refine Z38 ?_)
 (refine s_call rfl rfl H HA (term_Variable x.head.by_ _) ?_;intro vx c H HP;have hvx:=HP.h.1;have HA:=HP.cut;subst hvx)
 (skip)
 (refine s_call rfl rfl H HA (clause_when _ _ _) ?_;intro vx c H HP;have hvx:=HP.h.1;have HA:=HP.cut;subst hvx)
 (refine Z2 ?_;apply Y0;apply wc_ret)
 exact ret_fn H hm (outs1 Tryz.results260 Wh) rfl
theorem clause_badTest (x:Cl) (u:Value) (c:Cx) (h:Ag x u c) : Cn Tryz.prog 259 [u] c (fun v _=>v=.int .i64 (orI (x.tests.map Ts.check))):=by
 refine Cn.of Tryz.func259 Tryz.ntmps259 rfl rfl fun hm H HA=>?_
 have hlt : x.tests.length<1099511627776:=by obtain ⟨cs,rfl,v,v1,v2,rfl,h⟩:=h;exact h.2.2.lim
 have HA:=HA.add h
 (apply wc_seq;apply wc_region)
 (refine s_boxG rfl rfl Lk H HA ?_;intro p c H HA)
 (refine Z2 ?_;apply Y0;apply wc_seq;apply Y1;refine Z35 HA fun vx HA=>?_;refine Z37 HA fun vx HA=>?_;refine Z45 ?_;refine Z0 ?_;apply Y0;apply wc_block)
 (obtain ⟨vl,rfl⟩:∃x,x=vx:=⟨_,rfl⟩)
 refine wc_loopN x.tests.length (fun k=>[(7,vl),(8,.int .i64 x.tests.length),(9,.int .i64 k)]) (fun k=>orI (x.tests.map Ts.check)=orI ((x.tests.drop k).map Ts.check)) 0 H HA Ks (Nat.zero_le _) rfl ?_
 intro k g c hk hp H HA
 (repeat' (first|refine Z2 ?_|apply w_nil|apply wc_seq|apply wc_region|apply wx_next|refine Z18 ?_|refine Z19 ?_|apply wc_ret|apply wc_exit|apply wc_skip|apply wc_block|apply wx_exit_then|apply wx_exit_same|refine Z93 (fun hq=>?_) fun hq=>?_))
 ·obtain ⟨t,ht⟩:=getq (xs:=x.tests) (k:=k) (by omega)
  (refine Z34 HA fun vx HA=>?_;refine Z38 ?_;refine Z61 fun bx c H HA=>?_;refine Z74 fun c H HA=>?_;apply Y2;refine Z42 ?_)
  (refine s_call rfl rfl H HA (term_CheckTest t _) ?_;intro vx c H HP;have hvx:=HP.h.1;have HA:=HP.cut;subst hvx)
  by_cases he : t.check=0
  ·(refine Z2 ?_;apply Y2;refine Z0 ?_;refine Z82 ?_;apply Y0;refine Z19 ?_;apply wc_skip;apply wx_norm_block;apply wx_next;apply wc_region;refine Z46 ?_;refine Z0 ?_;apply w_nil)
   have H:=H.drop
   exact wx_loopN (k+1) H Cu Ks (by omega) (by rw [hp,orI_get ht,if_pos he])
  ·(refine Z2 ?_;apply Y2;refine Z0 ?_;refine Z82 ?_;apply Y0;refine Z18 ?_;apply Y1;refine Z0 ?_;refine Z2 ?_;apply Y0;apply wc_ret;apply wx_ret_block;apply wx_ret_then;apply wx_ret_then;apply wx_ret_block;apply wx_ret_then)
   exact ret_fn H hm (outs1 Tryz.results259 Wh) (by rw [hp,orI_get ht,if_neg he])
 ·exact ret_fn H hm (outs1 Tryz.results259 Wh) (by rw [hp,List.drop_eq_nil_of_le (by omega)];rfl)
theorem term_name (s:ByteArray) (c:Cx) (ha:s.size<4611686018427387904) : Cn Tryz.prog 103 [.string s] c (fun v _=>v=.bool (nameB s)):=by
 refine Cn.of Tryz.func103 Tryz.ntmps103 rfl rfl fun hm H HA=>?_
 by_cases he : s=ES
 ·subst he
  (repeat' (first|refine Z0 ?_|refine Z2 ?_|refine Z4 ?_|refine Z5 ?_|refine Z8 ?_|apply w_nil|apply wc_seq|apply wc_region|apply wx_next|refine Z18 ?_|apply wc_ret|apply wx_ret_then|refine Z30 ?_|refine Z43 ?_|refine Z96 (fun hq=>?_) fun hq=>?_|refine Z98 (fun hq=>?_) fun hq=>?_))
  all_goals first|(exact ret_fn H hm (outs1 Tryz.results103 Wh) (by simp [nameB]))|(exfalso;simp_all;done)
 have hpos : ((0:Nat):Int)<(s.size:Int):=by
  have : s.size≠0:=fun h=>he (by
   obtain ⟨⟨l⟩⟩:=s
   simpa [ByteArray.size] using h)
  omega
 obtain ⟨u,hu,hul⟩:=byte_get hpos
 have hcons : ∃l,s.data.toList=u::l:=by
  cases hl : s.data.toList with
  | nil=>rw [hl] at hul;simp at hul
  | cons x l=>rw [hl] at hul;simp at hul;exact ⟨l,by rw [hul]⟩
 obtain ⟨l,hl⟩:=hcons
 have hsz : s.data.toList.length=s.size:=by simp
 (repeat' (first|refine Z0 ?_|refine Z2 ?_|refine Z4 ?_|refine Z5 ?_|refine Z8 ?_|apply w_nil|apply wc_seq|apply wc_region|apply wx_next|refine Z18 ?_|refine Z19 ?_|apply wc_ret|apply wc_skip|apply wc_block|apply wx_ret_then|refine Z30 ?_|refine Z43 ?_|refine Z52 ?_|refine Z86 ?_|refine Z93 (fun hq=>?_) fun hq=>?_|refine Z96 (fun hq=>?_) fun hq=>?_|refine Z98 (fun hq=>?_) fun hq=>?_))
 iterate 4 first|(exact ret_fn H hm (outs1 Tryz.results103 Wh) (by first|(simp_all [nameB];done)|(simp [nameB,hl];intros;omega)))
 have hname : nameB s=s.data.toList.all (fun u=>letterB u.toNat):=by
  have h1 : decide (s.size≤32)=true:=by simp;omega
  have h2 : decide (97≤u.toNat)=true:=by simp;omega
  have h3 : decide (u.toNat≤122)=true:=by simp;omega
  have h4 : decide (s=says)=false:=by simp;assumption
  simp only [nameB,hl,h1,h2,h3,h4,decide_eq_false he]
  simp
 refine wc_loopN s.size (fun k=>[(0,.string s),(27,.int .i64 s.size),(28,.int .i64 k)]) (fun k=>nameB s=(s.data.toList.drop k).all (fun u=>letterB u.toNat)) 0 H HA Ks (Nat.zero_le _) (by simpa using hname) ?_
 intro k g c hk hp H HA
 (repeat' (first|refine Z0 ?_|refine Z2 ?_|apply w_nil|apply wc_seq|apply wc_region|apply wx_next|refine Z18 ?_|refine Z19 ?_|apply wc_ret|apply wc_exit|apply wc_skip|apply wc_block|apply wx_exit_then|apply wx_exit_same|refine Z93 (fun hq=>?_) fun hq=>?_))
 ·obtain ⟨u,hu,hul⟩:=byte_get (s:=s) (k:=k) (by omega)
  have hd:=drop_get hul
  (repeat' (first|refine Z0 ?_|refine Z2 ?_|refine Z4 ?_|refine Z5 ?_|refine Z6 ?_|refine Z8 ?_|apply w_nil|apply wc_seq|apply wc_region|apply wx_next|refine Z18 ?_|refine Z19 ?_|apply wc_ret|apply wc_skip|apply wx_ret_then|apply wx_ret_block|apply wx_norm_block|refine Z30 ?_|refine Z33 ?_|refine Z46 ?_|refine Z52 ?_|refine Z92 (fun hq=>?_) fun hq=>?_|refine Z95 (fun hq=>?_) fun hq=>?_|refine Z97 (fun hq=>?_) fun hq=>?_))
  all_goals first
   | (exact ret_fn H hm (outs1 Tryz.results103 Wh) (by
     have hlb : letterB u.toNat=false:=by simp only [letterB];simp;omega
     rw [hp,hd];simp [hlb]))
   | (exact wx_loopN (k+1) H Cu Ks (by omega) (by
     have hlb : letterB u.toNat=true:=by simp only [letterB];simp;omega
     rw [hp,hd];simp [hlb]))
 ·exact ret_fn H hm (outs1 Tryz.results103 Wh) (by rw [hp,List.drop_eq_nil_of_le (by omega)];rfl)
theorem term_CheckAtom1 (t:Tm) (c:Cx) : Cn Tryz.prog 105 [.agg t.cs.toArray] c (fun v _=>v=.bool (!t.isConst && !t.isVar)):=by
 refine Cn.of Tryz.func105 Tryz.ntmps105 rfl rfl fun hm H HA=>?_
 (apply Y1;refine Z31 fun bx c H HA=>?_;refine Z2 ?_;apply Y2;refine Z7 ?_)
 (refine s_call rfl rfl H HA (term_Const t _) ?_;intro vx c H HP;have hvx:=HP.h.1;have HA:=HP.cut;subst hvx)
 cases h1 : t.isConst
 ·(refine Z33 ?_;refine Z0 ?_;refine Z4 ?_;refine Z7 ?_;refine Z4 ?_)
  (refine s_call rfl rfl H HA (term_Variable t _) ?_;intro vx c H HP;have hvx:=HP.h.1;have HA:=HP.cut;subst hvx)
  (refine Z4 ?_;refine Z33 ?_;refine Z8 ?_;refine Z2 ?_;apply Y0;apply wc_ret)
  exact ret_fn H hm (outs1 Tryz.results105 Wh) (by simp)
 ·(refine Z33 ?_;refine Z0 ?_;refine Z5 ?_;refine Z5 ?_;refine Z5 ?_;refine Z30 ?_;refine Z2 ?_;apply Y0;apply wc_ret)
  exact ret_fn H hm (outs1 Tryz.results105 Wh) (by simp)
theorem IndexFunc_Tm (xs:List Tm) (v:Value) (c:Cx) (h:Sl v xs c) : Cn Tryz.prog 107 [v,.func (.func 105) #[] #[]] c (fun v _=>∃i:Int,v=.int .i64 i∧decide (i≥0)=xs.any fun t=>!t.isConst && !t.isVar):=by
 refine Cn.of Tryz.func107 Tryz.ntmps107 rfl rfl fun hm H HA=>?_
 have hlim:=h.lim
 have HA:=HA.add h
 (apply Y1;refine Z2 ?_;apply Y0;apply wc_seq;apply Y1;refine Z0 ?_;refine Z45 ?_;refine Z0 ?_;apply Y0;apply wc_block)
 refine wc_loopN xs.length (fun k=>[(0,v),(1,.func (.func 105) #[] #[]),(7,.int .i64 xs.length),(8,.int .i64 k)]) (fun k=>(xs.any fun t=>!t.isConst && !t.isVar)=(xs.drop k).any fun t=>!t.isConst && !t.isVar) 0 H HA Ks (Nat.zero_le _) rfl ?_
 intro k g c hk hp H HA
 (repeat' (first|refine Z0 ?_|refine Z2 ?_|apply w_nil|apply wc_seq|apply wc_region|apply wx_next|refine Z18 ?_|refine Z19 ?_|apply wc_ret|apply wc_exit|apply wc_skip|apply wc_block|apply wx_exit_then|apply wx_exit_same|refine Z93 (fun hq=>?_) fun hq=>?_))
 ·obtain ⟨t,ht⟩:=getq (xs:=xs) (k:=k) (by omega)
  have hd:=drop_get ht
  (refine Z34 HA fun vx HA=>?_;refine Z38 ?_)
  (refine s_callV (caps:=[]) rfl rfl rfl H HA (term_CheckAtom1 t _) ?_;intro vx c H HP;have hvx:=HP.h.1;have HA:=HP.cut;subst hvx)
  cases hb : (!t.isConst && !t.isVar)
  ·(apply Y0;refine Z19 ?_;apply wc_skip;apply wx_norm_block;apply wx_next;apply wc_region;refine Z46 ?_;refine Z0 ?_;apply w_nil)
   exact wx_loopN (k+1) H Cu Ks (by omega) (by rw [hp,hd];simp only [List.any_cons,hb,Bool.false_or])
  ·(apply Y0;refine Z18 ?_;apply Y1;refine Z0 ?_;refine Z2 ?_;apply Y0;apply wc_ret;apply wx_ret_block;apply wx_ret_then;apply wx_ret_then;apply wx_ret_block;apply wx_ret_then)
   exact ret_fn H hm (outs1 Tryz.results107 Wh) ⟨_,rfl,by rw [hp,hd];simp only [List.any_cons,hb,Bool.true_or];simp⟩
 ·exact ret_fn H hm (outs1 Tryz.results107 Wh) ⟨_,rfl,by rw [hp,List.drop_eq_nil_of_le (by omega)];rfl⟩
theorem ContainsFunc_Tm (xs:List Tm) (v:Value) (c:Cx) (h:Sl v xs c) : Cn Tryz.prog 76 [v,.func (.func 105) #[] #[]] c (fun v _=>v=.bool (xs.any fun t=>!t.isConst && !t.isVar)):=by
 refine Cn.of Tryz.func76 Tryz.ntmps76 rfl rfl fun hm H HA=>?_
 have HA:=HA.add h
 (apply Y1;refine Z2 ?_;apply Y2;refine Z0 ?_;refine Z0 ?_)
 (refine s_call rfl rfl H HA (IndexFunc_Tm xs _ _ Lk) ?_;intro vx c H HA)
 obtain ⟨i,rfl,hi⟩:=HA.h.1
 (focus (refine Z97 (fun hq=>?_) fun hq=>?_;refine Z2 ?_;apply Y0;apply wc_ret;rotate_left;refine Z2 ?_;apply Y0;apply wc_ret;rotate_left))
 all_goals exact ret_fn H hm (outs1 Tryz.results76 Wh) (by rw [←hi];simp;omega)
theorem term_CheckAtom (a:At0) (u:Value) (c:Cx) (h:Ag a u c) (hs:a.name.size<4611686018427387904) (hg:Box 1 Tn.cs c) : Cn Tryz.prog 75 [u] c (fun v _=>v=.int .i64 a.check):=by
 refine Cn.of Tryz.func75 Tryz.ntmps75 rfl rfl fun hm H HA=>?_
 have hlim : a.args.length<1099511627776:=by obtain ⟨cs,rfl,v,rfl,h⟩:=h;exact h.lim
 have HA:=(HA.add h).add hg
 (apply wc_seq;apply wc_region)
 (refine s_boxG rfl rfl Lk H HA ?_;intro p c H HA)
 (refine Z2 ?_;apply Y0;apply wc_seq;apply wc_block;apply Y1;refine Z35 HA fun vx HA=>?_;refine Z36 ?_)
 (refine s_call rfl rfl H HA (term_name a.name _ hs) ?_;intro vx c H HP;have hvx:=HP.h.1;have HA:=HP.cut;subst hvx)
 cases hn : nameB a.name
 ·(refine Z33 ?_;refine Z2 ?_;apply Y0;refine Z18 ?_;apply Y1;refine Z2 ?_;apply Y0;apply wc_ret;apply wx_ret_block;apply wx_ret_then)
  exact ret_fn H hm (outs1 Tryz.results75 Wh) (by simp [At0.check,hn])
 (repeat' (first|refine Z0 ?_|refine Z2 ?_|refine Z4 ?_|refine Z5 ?_|refine Z7 ?_|apply w_nil|apply wc_seq|apply wc_region|apply wx_next|refine Z18 ?_|refine Z19 ?_|apply wc_ret|apply wx_ret_then|apply wx_ret_block|refine Z30 ?_|refine Z33 ?_|refine Z35 HA fun vx HA=>?_|refine Z37 HA fun vx HA=>?_|refine Z38 ?_|refine Z45 ?_|refine Z96 (fun hq=>?_) fun hq=>?_|refine Z101 (fun hq=>?_) fun hq=>?_))
 ·exact ret_fn H hm (outs1 Tryz.results75 Wh) (by simp [At0.check,hn];intros;omega)
 ·(refine s_call rfl rfl H HA (term_Principal a.by_ _) ?_;intro vx c H HP;have hvx:=HP.h.1;have HA:=HP.cut;subst hvx)
  cases hp : a.by_.isPrinc
  ·(refine Z4 ?_;refine Z33 ?_;refine Z8 ?_;refine Z0 ?_;refine Z4 ?_;refine Z35 HA fun vx HA=>?_;refine Z4 ?_;refine Z38 ?_;refine Z4 ?_)
   (refine s_call rfl rfl H HA (term_Variable a.by_ _) ?_;intro vx c H HP;have hvx:=HP.h.1;have HA:=HP.cut;subst hvx)
   cases hv : a.by_.isVar
   ·(refine Z4 ?_;refine Z33 ?_;refine Z8 ?_;refine Z2 ?_;apply Y0;refine Z18 ?_;apply Y1;refine Z2 ?_;apply Y0;apply wc_ret;apply wx_ret_block;apply wx_ret_then)
    exact ret_fn H hm (outs1 Tryz.results75 Wh) (by simp_all [At0.check];intros;omega)
   ·(refine Z4 ?_;refine Z33 ?_;refine Z8 ?_;refine Z2 ?_;apply Y0;refine Z19 ?_;apply Y1;refine Z35 HA fun vx HA=>?_;refine Z37 HA fun vx HA=>?_)
    (refine s_call rfl rfl H HA (ContainsFunc_Tm a.args _ _ Lk) ?_;intro vx c H HP;have hvx:=HP.h.1;have HA:=HP.cut;subst hvx)
    cases hc : (a.args.any fun t=>!t.isConst && !t.isVar)
    ·(refine Z2 ?_;apply Y0;refine Z19 ?_;apply wc_skip;apply wx_norm_block;apply wx_next;apply Y1;refine Z2 ?_;apply Y0;apply wc_ret)
     exact ret_fn H hm (outs1 Tryz.results75 Wh) (by
      have h8 : ¬8<a.args.length:=by omega
      rw [At0.check,hc];simp [*])
    ·(refine Z2 ?_;apply Y0;refine Z18 ?_;apply Y1;refine Z2 ?_;apply Y0;apply wc_ret;apply wx_ret_block;apply wx_ret_then)
     exact ret_fn H hm (outs1 Tryz.results75 Wh) (by
      have h8 : ¬8<a.args.length:=by omega
      rw [At0.check,hc];simp [*])
  ·(refine Z4 ?_;refine Z33 ?_;refine Z8 ?_;refine Z0 ?_;refine Z5 ?_;refine Z5 ?_;refine Z5 ?_;refine Z5 ?_;refine Z30 ?_;refine Z2 ?_;apply Y0;refine Z19 ?_;apply Y1;refine Z35 HA fun vx HA=>?_;refine Z37 HA fun vx HA=>?_)
   (refine s_call rfl rfl H HA (ContainsFunc_Tm a.args _ _ Lk) ?_;intro vx c H HP;have hvx:=HP.h.1;have HA:=HP.cut;subst hvx)
   cases hc : (a.args.any fun t=>!t.isConst && !t.isVar)
   ·(refine Z2 ?_;apply Y0;refine Z19 ?_;apply wc_skip;apply wx_norm_block;apply wx_next;apply Y1;refine Z2 ?_;apply Y0;apply wc_ret)
    exact ret_fn H hm (outs1 Tryz.results75 Wh) (by
     have h8 : ¬8<a.args.length:=by omega
     rw [At0.check,hc];simp [*])
   ·(refine Z2 ?_;apply Y0;refine Z18 ?_;apply Y1;refine Z2 ?_;apply Y0;apply wc_ret;apply wx_ret_block;apply wx_ret_then)
    exact ret_fn H hm (outs1 Tryz.results75 Wh) (by
     have h8 : ¬8<a.args.length:=by omega
     rw [At0.check,hc];simp [*])
 ·(refine s_call rfl rfl H HA (ContainsFunc_Tm a.args _ _ Lk) ?_;intro vx c H HP;have hvx:=HP.h.1;have HA:=HP.cut;subst hvx)
  cases hc : (a.args.any fun t=>!t.isConst && !t.isVar)
  ·(refine Z2 ?_;apply Y0;refine Z19 ?_;apply wc_skip;apply wx_norm_block;apply wx_next;apply Y1;refine Z2 ?_;apply Y0;apply wc_ret)
   exact ret_fn H hm (outs1 Tryz.results75 Wh) (by
    have h8 : ¬8<a.args.length:=by omega
    rw [At0.check,hc];simp [*])
  ·(refine Z2 ?_;apply Y0;refine Z18 ?_;apply Y1;refine Z2 ?_;apply Y0;apply wc_ret;apply wx_ret_block;apply wx_ret_then)
   exact ret_fn H hm (outs1 Tryz.results75 Wh) (by
    have h8 : ¬8<a.args.length:=by omega
    rw [At0.check,hc];simp [*])
theorem clause_badAtom (x:Cl) (u:Value) (c:Cx) (h:Ag x u c) (hs:x.sm) (hg:Box 1 Tn.cs c) : Cn Tryz.prog 258 [u] c (fun v _=>v=.int .i64 (orI ((x.head::x.body).map At0.check))):=by
 refine Cn.of Tryz.func258 Tryz.ntmps258 rfl rfl fun hm H HA=>?_
 have hlt : x.body.length<1099511627776:=by obtain ⟨cs,rfl,v,v1,v2,rfl,h⟩:=h;exact h.2.1.lim
 have HA:=(HA.add h).add hg
 (apply wc_seq;apply wc_region)
 (refine s_boxG rfl rfl Lk H HA ?_;intro p c H HA)
 (refine Z2 ?_;apply Y0;apply wc_seq;apply Y1;refine Z35 HA fun vx HA=>?_;refine Z39 HA fun vx HA=>?_)
 (refine s_call rfl rfl H HA (term_CheckAtom x.head _ _ Lk hs.1.1 Lk) ?_;intro vx c H HP;have hvx:=HP.h.1;have HA:=HP.cut;subst hvx)
 by_cases he : x.head.check=0
 ·(refine Z2 ?_;apply Y2;refine Z0 ?_;refine Z82 ?_;apply Y0;refine Z19 ?_;apply wc_skip;apply wx_next;apply wc_seq;apply Y1;refine Z35 HA fun vx HA=>?_;refine Z37 HA fun vx HA=>?_;refine Z45 ?_;refine Z0 ?_;apply Y0;apply wc_block)
  (obtain ⟨vl,rfl⟩:∃x,x=vx:=⟨_,rfl⟩)
  refine wc_loopN x.body.length (fun k=>[(14,vl),(15,.int .i64 x.body.length),(16,.int .i64 k)]) (fun k=>orI ((x.head::x.body).map At0.check)=orI ((x.body.drop k).map At0.check)) 0 H HA Ks (Nat.zero_le _) (by simp [orI,he]) ?_
  intro k g c hk hp H HA
  (repeat' (first|refine Z2 ?_|apply w_nil|apply wc_seq|apply wc_region|apply wx_next|refine Z18 ?_|refine Z19 ?_|apply wc_ret|apply wc_exit|apply wc_skip|apply wc_block|apply wx_exit_then|apply wx_exit_same|refine Z93 (fun hq=>?_) fun hq=>?_))
  ·obtain ⟨t,ht⟩:=getq (xs:=x.body) (k:=k) (by omega)
   (refine Z34 HA fun vx HA=>?_;refine Z39 HA fun vx HA=>?_;refine Z61 fun bx c H HA=>?_)
   (refine s_storeG (α:=At0) rfl rfl Lk rfl rfl H HA ?_;intro c H HA)
   (apply Y2;refine Z39 HA fun vx HA=>?_)
   (refine s_call rfl rfl H HA (term_CheckAtom t _ _ Lk (hs.2.1 t (List.mem_of_getElem? ht)).1 Lk) ?_;intro vx c H HP;have hvx:=HP.h.1;have HA:=HP.cut;subst hvx)
   by_cases he : t.check=0
   ·(refine Z2 ?_;apply Y2;refine Z0 ?_;refine Z82 ?_;apply Y0;refine Z19 ?_;apply wc_skip;apply wx_norm_block;apply wx_next;apply wc_region;refine Z46 ?_;refine Z0 ?_;apply w_nil)
    exact wx_loopN (k+1) H Cu Ks (by omega) (by rw [hp,orI_get ht,if_pos he])
   ·(refine Z2 ?_;apply Y2;refine Z0 ?_;refine Z82 ?_;apply Y0;refine Z18 ?_;apply Y1;refine Z0 ?_;refine Z2 ?_;apply Y0;apply wc_ret;apply wx_ret_block;apply wx_ret_then;apply wx_ret_then;apply wx_ret_block;apply wx_ret_then)
    exact ret_fn H hm (outs1 Tryz.results258 Wh) (by rw [hp,orI_get ht,if_neg he])
  ·exact ret_fn H hm (outs1 Tryz.results258 Wh) (by rw [hp,List.drop_eq_nil_of_le (by omega)];rfl)
 ·(refine Z2 ?_;apply Y2;refine Z0 ?_;refine Z82 ?_;apply Y0;refine Z18 ?_;apply Y1;refine Z0 ?_;refine Z2 ?_;apply Y0;apply wc_ret;apply wx_ret_then)
  exact ret_fn H hm (outs1 Tryz.results258 Wh) (by simp [orI,he])
end Go.Proofs.YtnppmeeibbefbaaGreatDoor
namespace Go.Wk
open Go
def Doms {σ:Type} (dom:σ→Tm→Prop) (step:σ→Tm→σ) : σ→List Tm→Prop
 | _,[]=>True
 | s,t::ts=>dom s t∧Doms dom step (step s t) ts
theorem Doms.app {σ:Type} {dom:σ→Tm→Prop} {step:σ→Tm→σ} : ∀{l1 l2:List Tm} {s:σ},Doms dom step s (l1++l2)→Doms dom step s l1∧Doms dom step (l1.foldl step s) l2
 | [],_,_,h=>⟨trivial,h⟩
 | _::l1,_,_,h=>⟨⟨h.1,(Doms.app h.2).1⟩,(Doms.app (l1:=l1) h.2).2⟩
structure CloU (P:Program) (gf:FuncId) (caps:List Value) {σ:Type} (R:σ→List Res) (F:Cx→Prop) (dom:σ→Tm→Prop) (step:σ→Tm→σ) : Prop where
 call : ∀s t c,F c→dom s t→CnT P gf (.agg t.cs.toArray::caps) (R s) (R (step s t)) c (fun _ _=>True)
end Go.Wk
namespace Go.Proofs.YtnppmeeibbefbaaGreatDoor
open Go Go.Wk
section
variable {σ : Type} {gf : FuncId} {caps : List Value} {R : σ → List Res} {F : Cx → Prop} [Mono F] {dom : σ → Tm → Prop} {step : σ → Tm → σ} [Ent Tryz.prog gf]
theorem clause_atomTerms (K:CloU Tryz.prog gf caps R F dom step) (s:σ) (a:At0) (u:Value) (c:Cx) (hF:F c) (h:Ag a u c) (hd:Doms dom step s a.terms) : CnT Tryz.prog 137 [u,.func (.func gf) #[] caps.toArray] (R s) (R (a.terms.foldl step s)) c (fun _ _=>True):=by
 refine CnT.of Tryz.func137 Tryz.ntmps137 rfl rfl fun c0 L0 A0 _ H HA=>?_
 have hlim : a.args.length<1099511627776:=by obtain ⟨cs,rfl,v,rfl,h⟩:=h;exact h.lim
 have HA:=(HA.add h).add hF
 (apply wc_seq;apply wc_region)
 (refine s_boxG rfl rfl Lk H HA ?_;intro p c H HA)
 (apply Y2;refine Z0 ?_;refine Z35 HA fun vx HA=>?_;refine Z38 ?_)
 (refine s_callVT (pre:=_) (post:=_) rfl rfl rfl H HA (K.call s a.by_ _ Lk hd.1) ?_;intro vx c H HA)
 (apply Y2;refine Z35 HA fun vx HA=>?_;refine Z37 HA fun vx HA=>?_;refine Z45 ?_;refine Z0 ?_;apply Y0;apply wc_block)
 (obtain ⟨vl,rfl⟩:∃x,x=vx:=⟨_,rfl⟩)
 refine wc_loopG (σ:=Nat×σ) (fun x=>a.args.length-x.1) (fun x=>[(1,.func (.func gf) #[] caps.toArray),(11,vl),(12,.int .i64 a.args.length),(13,.int .i64 x.1)]) (fun x=>x.1≤a.args.length∧(a.args.drop x.1).foldl step x.2=a.terms.foldl step s∧Doms dom step x.2 (a.args.drop x.1)) (fun x=>R x.2++L0) (fun _=>Tt) (0,step s a.by_) H HA trivial Ks ⟨Nat.zero_le _,rfl,hd.2⟩ ?_
 intro x g c hp H HA
 obtain ⟨k,z⟩:=x
 obtain ⟨hk,hp,hd⟩:=hp
 dsimp only at hk hp hd H HA ⊢
 (repeat' (first|apply w_nil|apply wc_seq|apply wc_region|apply wx_next|refine Z18 ?_|refine Z19 ?_|apply wc_exit|apply wc_skip|apply wc_block|apply wx_exit_then|apply wx_exit_same|refine Z93 (fun hq=>?_) fun hq=>?_))
 ·obtain ⟨t,ht⟩:=getq (xs:=a.args) (k:=k) (by omega)
  have hdr:=drop_get ht
  rw [hdr] at hd hp
  (refine Z34 HA fun vx HA=>?_;refine Z38 ?_;refine Z61 fun bx c H HA=>?_;refine Z74 fun c H HA=>?_;apply Y0;apply wc_region;refine Z0 ?_;refine Z42 ?_)
  have H:=H.drop
  (refine s_callVT (pre:=_) (post:=_) rfl rfl rfl H HA (K.call z t _ Lk hd.1) ?_;intro vx c H HA)
  (apply w_nil;apply wx_norm_block;apply wx_next;apply wc_region;refine Z46 ?_;refine Z0 ?_;apply w_nil)
  exact wx_loopG ((k+1,step z t)) H Cu trivial Ks (by simp;omega) ⟨by simp;omega,hp,hd.2⟩
 ·have e0 : a.args.drop k=[]:=List.drop_eq_nil_of_le (by omega)
  rw [e0] at hp
  have hz : z=a.terms.foldl step s:=hp
  subst hz
  exact norm_fnT H Ca (outs0 rfl) trivial
theorem clause_terms (K:CloU Tryz.prog gf caps R F dom step) (s:σ) (x:Cl) (u:Value) (c:Cx) (hF:F c) (h:Ag x u c) (hd:Doms dom step s x.terms) : CnT Tryz.prog 121 [u,.func (.func gf) #[] caps.toArray] (R s) (R (x.terms.foldl step s)) c (fun _ _=>True):=by
 refine CnT.of Tryz.func121 Tryz.ntmps121 rfl rfl fun c0 L0 A0 _ H HA=>?_
 have hlb : x.body.length<1099511627776:=by obtain ⟨cs,rfl,v,v1,v2,rfl,h⟩:=h;exact h.2.1.lim
 have hlt : x.tests.length<1099511627776:=by obtain ⟨cs,rfl,v,v1,v2,rfl,h⟩:=h;exact h.2.2.lim
 have hd1:=Doms.app (l1:=x.head.terms++x.bodyTerms) (l2:=x.testTerms) hd
 have hd2:=Doms.app hd1.1
 have hfo : x.testTerms.foldl step (x.bodyTerms.foldl step (x.head.terms.foldl step s))=x.terms.foldl step s:=by
  show _=((x.head.terms++x.bodyTerms)++x.testTerms).foldl step s
  rw [List.foldl_append,List.foldl_append]
 have HA:=(HA.add h).add hF
 (apply wc_seq;apply wc_region)
 (refine s_boxG rfl rfl Lk H HA ?_;intro p c H HA)
 (apply Y2;refine Z35 HA fun vx HA=>?_;refine Z39 HA fun vx HA=>?_;refine Z0 ?_)
 (refine s_callT (pre:=_) (post:=_) rfl rfl H HA (clause_atomTerms K s x.head _ _ Lk Lk hd2.1) ?_;intro vx c H HA)
 (apply Y0;apply wc_seq;apply Y1;refine Z35 HA fun vx HA=>?_;refine Z37 HA fun vx HA=>?_;refine Z45 ?_;refine Z0 ?_;apply Y0;apply wc_block)
 (obtain ⟨vl,rfl⟩:∃x,x=vx:=⟨_,rfl⟩)
 have hd3:=hd1.2
 rw [List.foldl_append] at hd3
 generalize x.head.terms.foldl step s=s1 at H hd2 hd3 hfo
 refine wc_loopG (σ:=Nat×σ) (fun y=>x.body.length-y.1) (fun y=>[(1,.func (.func gf) #[] caps.toArray),(2,p),(13,vl),(14,.int .i64 x.body.length),(15,.int .i64 y.1)]) (fun y=>y.1≤x.body.length∧((x.body.drop y.1).flatMap At0.terms).foldl step y.2=x.bodyTerms.foldl step s1∧Doms dom step y.2 ((x.body.drop y.1).flatMap At0.terms)) (fun y=>R y.2++L0) (fun _=>Tt) (0,s1) H HA trivial Ks ⟨Nat.zero_le _,rfl,hd2.2⟩ ?_
 intro y g c hp H HA
 obtain ⟨k,z⟩:=y
 obtain ⟨hk,hp,hd⟩:=hp
 dsimp only at hk hp hd H HA ⊢
 (repeat' (first|refine Z0 ?_|apply w_nil|apply wc_seq|apply wc_region|apply wx_next|refine Z18 ?_|refine Z19 ?_|apply wc_exit|apply wc_skip|apply wc_block|apply wx_exit_then|apply wx_exit_same|refine Z35 HA fun vx HA=>?_|refine Z37 HA fun vx HA=>?_|refine Z45 ?_|refine Z93 (fun hq=>?_) fun hq=>?_))
 ·obtain ⟨t,ht⟩:=getq (xs:=x.body) (k:=k) (by omega)
  have hdr:=drop_get ht
  rw [hdr,List.flatMap_cons] at hd hp
  have hda:=Doms.app hd
  rw [List.foldl_append] at hp
  (refine Z34 HA fun vx HA=>?_;refine Z39 HA fun vx HA=>?_;refine Z61 fun bx c H HA=>?_)
  (refine s_storeG (α:=At0) rfl rfl Lk rfl rfl H HA ?_;intro c H HA)
  (apply Y0;apply wc_region;refine Z39 HA fun vx HA=>?_;refine Z0 ?_)
  (refine s_callT (pre:=_) (post:=_) rfl rfl H HA (clause_atomTerms K z t _ _ Lk Lk hda.1) ?_;intro vx c H HA)
  (apply w_nil;apply wx_norm_block;apply wx_next;apply wc_region;refine Z46 ?_;refine Z0 ?_;apply w_nil)
  exact wx_loopG ((k+1,t.terms.foldl step z)) H Cu trivial Ks (by simp;omega) ⟨by simp;omega,hp,hda.2⟩
 ·have e0 : x.body.drop k=[]:=List.drop_eq_nil_of_le (by omega)
  rw [e0] at hp
  have hz : z=x.bodyTerms.foldl step s1:=hp
  rw [←hz] at hd3 hfo
  clear hp hd hz
  (obtain ⟨vl,rfl⟩:∃x,x=vx:=⟨_,rfl⟩)
  refine wc_loopG (σ:=Nat×σ) (fun y=>x.tests.length-y.1) (fun y=>[(1,.func (.func gf) #[] caps.toArray),(24,vl),(25,.int .i64 x.tests.length),(26,.int .i64 y.1)]) (fun y=>y.1≤x.tests.length∧((x.tests.drop y.1).flatMap fun t=>[t.l,t.r]).foldl step y.2=x.testTerms.foldl step z∧Doms dom step y.2 ((x.tests.drop y.1).flatMap fun t=>[t.l,t.r])) (fun y=>R y.2++L0) (fun _=>Tt) (0,z) H HA trivial Ks ⟨Nat.zero_le _,rfl,hd3⟩ ?_
  intro y g c hp H HA
  obtain ⟨k,z⟩:=y
  obtain ⟨hk,hp,hd⟩:=hp
  dsimp only at hk hp hd H HA ⊢
  (repeat' (first|apply w_nil|apply wc_seq|apply wc_region|apply wx_next|refine Z18 ?_|refine Z19 ?_|apply wc_exit|apply wc_skip|apply wc_block|apply wx_exit_then|apply wx_exit_same|refine Z93 (fun hq=>?_) fun hq=>?_))
  ·obtain ⟨t,ht⟩:=getq (xs:=x.tests) (k:=k) (by omega)
   have hdr:=drop_get ht
   rw [hdr,List.flatMap_cons] at hd hp
   (refine Z34 HA fun vx HA=>?_;refine Z38 ?_;refine Z61 fun bx c H HA=>?_;refine Z74 fun c H HA=>?_;apply Y2;refine Z0 ?_;refine Z3 ?_;refine Z42 ?_)
   (refine w_freeze H HA ?_;intro c H HA)
   (refine s_callVT (pre:=_) (post:=_) rfl rfl rfl H HA (K.call z t.l _ Lk hd.1) ?_;intro vx c H HA)
   (apply Y0;apply wc_region;refine Z0 ?_;refine Z3 ?_;refine Z7 ?_)
   (refine s_callVT (pre:=_) (post:=_) rfl rfl rfl H HA (K.call (step z t.l) t.r _ Lk hd.2.1) ?_;intro vx c H HA)
   (apply w_nil;apply wx_norm_block;apply wx_next;apply wc_region;refine Z46 ?_;refine Z0 ?_;apply w_nil)
   exact wx_loopG ((k+1,step (step z t.l) t.r)) H Cu trivial Ks (by simp;omega) ⟨by simp;omega,hp,hd.2.2⟩
  ·have e0 : x.tests.drop k=[]:=List.drop_eq_nil_of_le (by omega)
   rw [e0] at hp
   have hz : z=x.terms.foldl step s:=hp.trans hfo
   subst hz
   exact norm_fnT H Ca (outs0 rfl) trivial
end
end Go.Proofs.YtnppmeeibbefbaaGreatDoor
namespace Go.Wk
open Go
def toI : Value→Int
 | .int _ i=>i
 | _=>0
def cntS (es:List (Int×Value)) (t:Tm) : List (Int×Value):=if t.isVar then mSet es t.n (.int .i64 (IntKind.i64.wrap (toI ((mLook es t.n).getD (.int .i64 0))+1))) else es
def intsM (es:List (Int×Value)) : Prop:=∀p∈es,∃m : Int,p.2=.int .i64 m
theorem mLook_mem {es:List (Int×Value)} {k:Int} {v:Value} (h:mLook es k=some v) : (k,v)∈es:=by
 unfold mLook at h
 cases hf : es.find? fun p=>p.1 == k with
 | none=>rw [hf] at h;cases h
 | some p =>
  rw [hf] at h
  have h1:=List.mem_of_find?_eq_some hf
  have h2:=List.find?_some hf
  simp only [Option.map_some,Option.some.injEq,beq_iff_eq] at h h2
  obtain ⟨a,b⟩:=p
  simp only at h h2
  subst h h2
  exact h1
theorem intsM.get {es:List (Int×Value)} (h:intsM es) (k:Int) : ∃m : Int,(mLook es k).getD (.int .i64 0)=.int .i64 m:=by
 cases hl : mLook es k with
 | none=>exact ⟨0,rfl⟩
 | some v=>obtain ⟨m,hm⟩:=h _ (mLook_mem hl);exact ⟨m,hm⟩
theorem mSet_mem {es:List (Int×Value)} {k:Int} {v:Value} {p:Int×Value} (h:p∈mSet es k v) : p∈es∨p=(k,v):=by
 unfold mSet at h
 split at h
 ·rcases List.mem_or_eq_of_mem_set h with h|h
  ·exact .inl h
  ·exact .inr h
 ·simpa using h
theorem cntS_ints {es:List (Int×Value)} (h:intsM es) (t:Tm) : intsM (cntS es t):=by
 unfold cntS
 split
 ·intro p hp
  rcases mSet_mem hp with hp|rfl
  ·exact h p hp
  ·exact ⟨_,rfl⟩
 ·exact h
theorem cnt_doms : ∀(ts:List Tm) (es:List (Int×Value)),intsM es→Doms (fun es _=>intsM es) cntS es ts
 | [],_,_=>trivial
 | t::ts,es,h=>⟨h,cnt_doms ts _ (cntS_ints h t)⟩
theorem mSet_keys (es:List (Int×Value)) (k:Int) (v:Value) : (mSet es k v).map Prod.fst=if k∈es.map Prod.fst then es.map Prod.fst else es.map Prod.fst++[k]:=by
 unfold mSet
 cases hf : es.findIdx? fun p=>p.1 == k with
 | none =>
  have : k∉es.map Prod.fst:=by
   rw [List.findIdx?_eq_none_iff] at hf
   intro h
   obtain ⟨p,hp,he⟩:=List.mem_map.1 h
   have:=hf p hp
   simp [he] at this
  rw [if_neg this]
  simp
 | some i =>
  obtain ⟨hi,he⟩:=List.findIdx?_eq_some_iff_findIdx_eq.1 hf
  have h3:=List.findIdx_getElem (xs:=es) (p:=fun p=>p.1 == k) (w:=by omega)
  simp only [he] at h3
  have hk : es[i].1=k:=by simpa using h3
  have : k∈es.map Prod.fst:=List.mem_map.2 ⟨es[i],List.getElem_mem hi,hk⟩
  rw [if_pos this]
  refine List.ext_getElem? fun j=>?_
  simp only [List.getElem?_map,List.getElem?_set]
  by_cases e : i=j
  ·subst e;simp [hi,hk]
  ·simp [e]
theorem var_n {t u:Tm} (h:t.isVar=true) (h':u.isVar=true) : t.n=u.n↔t=u:=by
 constructor
 ·intro e
  obtain ⟨k,n,s⟩:=t
  obtain ⟨k',n',s'⟩:=u
  simp [Tm.isVar] at h h' e
  simp [h,h',e]
 ·rintro rfl;rfl
theorem cnt_keys : ∀(ts:List Tm) (es:List (Int×Value)) (acc:List Tm),es.map Prod.fst=acc.map Tm.n→(∀t∈acc,t.isVar=true)→(ts.foldl cntS es).map Prod.fst=(ts.foldl varsOn acc).map Tm.n∧∀t∈ts.foldl varsOn acc,t.isVar=true
 | [],_,_,h,h2=>⟨h,h2⟩
 | t::ts,es,acc,h,h2=>by
  refine cnt_keys ts _ _ ?_ ?_
  ·unfold cntS varsOn
   cases hv : t.isVar with
   | false=>simpa using h
   | true =>
    simp only [if_true,mSet_keys,Bool.true_and,h]
    have : t.n∈acc.map Tm.n↔t∈acc:=by
     rw [List.mem_map]
     exact ⟨fun ⟨u,hu,e⟩=>(var_n (h2 u hu) hv).1 e▸hu,fun hu=>⟨t,hu,rfl⟩⟩
    by_cases hm : t∈acc
    ·simp [hm,this.2 hm]
    ·have h4 : t.n∉acc.map Tm.n:=fun h=>hm (this.1 h)
     rw [if_neg h4]
     simp [hm]
  ·intro u hu
   unfold varsOn at hu
   split at hu
   ·rename_i hc
    simp only [List.mem_append,List.mem_singleton] at hu
    rcases hu with hu|rfl
    ·exact h2 u hu
    ·simp at hc;exact hc.1
   ·exact h2 u hu
end Go.Wk
namespace Go.Proofs.YtnppmeeibbefbaaGreatDoor
open Go Go.Wk
instance : MapT Tryz.prog 74 3:=⟨3,.i64,by kernel_rfl,by kernel_rfl⟩
instance : Zer Tryz.prog 74 (.map none):=.of (by kernel_rfl)
theorem vars_clo (pb mb:Nat) : CloU Tryz.prog 122 [.pointer (some ⟨pb,0,none⟩)] (fun es=>[.obj mb (mObj es)]) (Box pb [.map (some mb)]) (fun es _=>intsM es) cntS:=⟨by
 intro es t c hF hd
 refine CnT.of Tryz.func122 Tryz.ntmps122 rfl rfl fun c0 L0 A0 _ H HA=>?_
 have HA:=HA.add hF
 have H : Owns c0 (.obj mb (mObj es)::L0) c:=H
 (apply Y1;refine Z31 fun bx c H HA=>?_;apply Y2;refine Z7 ?_)
 (refine s_call rfl rfl H HA (term_Variable t _) ?_;intro vx c H HP;have hvx:=HP.h.1;have HA:=HP.cut;subst hvx)
 obtain ⟨m,hm⟩:=hd.get t.n
 cases hv : t.isVar
 ·(apply Y0;refine Z19 ?_;apply wc_skip)
  have he : cntS es t=es:=by simp [cntS,hv]
  rw [he]
  exact norm_fnT H Ca (outs0 rfl) trivial
 ·(apply Y0;refine Z18 ?_;apply wc_region;refine Z1 ?_;refine Z3 ?_;refine Z1 ?_;refine Z67 ?_)
  rw [hm]
  apply s_add rfl rfl rfl rfl
  (refine Z68 fun c H HA=>?_;apply w_nil)
  have he : cntS es t=mSet es t.n (.int .i64 (IntKind.i64.wrap (m+1))):=by simp [cntS,hv,hm,toI]
  rw [he]
  exact norm_fnT H Ca (outs0 rfl) trivial⟩
theorem clause_Vars (x:Cl) (u:Value) (c:Cx) (h:Ag x u c) : Cn Tryz.prog 94 [u] c (fun v _=>v=.int .i64 x.nv):=by
 refine Cn.of Tryz.func94 Tryz.ntmps94 rfl rfl fun hm H HA=>?_
 have HA:=HA.add h
 (apply wc_seq;apply wc_region)
 (refine s_boxG rfl rfl Lk H HA ?_;intro p c H HA)
 (refine Z2 ?_;apply Y2;refine Z65 fun mx c H HA=>?_;refine Z61 fun bx c H HA=>?_;refine Z75 fun c H HA=>?_;apply Y2;refine Z39 HA fun vx HA=>?_)
 (refine w_freeze H HA ?_;intro c H HA)
 (skip)
 (refine s_makeFunc (vs:=[.pointer (some ⟨bx,0,none⟩)]) rfl rfl ?_)
 (refine s_callT (pre:=[.obj mx (mObj [])]) (post:=[.obj mx (mObj (x.terms.foldl cntS []))]) rfl rfl H HA (clause_terms (vars_clo bx mx) [] x _ _ Lk Lk (cnt_doms _ _ (fun _ h=>by cases h))) ?_;intro vx c H HA)
 have H : Owns _ [.obj mx (mObj (x.terms.foldl cntS []))] _:=H
 (apply Y2;refine Z1 ?_;refine Z72 ?_;refine Z2 ?_;apply Y0;apply wc_ret)
 exact ret_fn H hm (outs1 Tryz.results94 Wh) (by
  have:=(cnt_keys x.terms [] [] rfl (fun _ h=>by cases h)).1
  have h2:=congrArg List.length this
  simp only [List.length_map] at h2
  rw [h2]
  rfl)
theorem Index_int (xs:List Int) (v:Value) (t:Int) (c:Cx) (h:Sl v xs c) : Cn Tryz.prog 267 [v,.int .i64 t] c (fun v _=>∃i:Int,v=.int .i64 i∧decide (i≥0)=decide (t∈xs)):=by
 refine Cn.of Tryz.func267 Tryz.ntmps267 rfl rfl fun hm H HA=>?_
 have hlim:=h.lim
 have HA:=HA.add h
 (apply Y1;refine Z2 ?_;apply Y0;apply wc_seq;apply Y1;refine Z0 ?_;refine Z45 ?_;refine Z0 ?_;apply Y0;apply wc_block)
 refine wc_loopN xs.length (fun k=>[(0,v),(1,.int .i64 t),(7,.int .i64 xs.length),(8,.int .i64 k)]) (fun k=>(t∈xs)=(t∈xs.drop k)) 0 H HA Ks (Nat.zero_le _) rfl ?_
 intro k g c hk hp H HA
 (repeat' (first|refine Z0 ?_|refine Z2 ?_|apply w_nil|apply wc_seq|apply wc_region|apply wx_next|refine Z18 ?_|refine Z19 ?_|apply wc_ret|apply wc_exit|apply wc_skip|apply wc_block|apply wx_exit_then|apply wx_exit_same|refine Z93 (fun hq=>?_) fun hq=>?_))
 ·obtain ⟨a,ha⟩:=getq (xs:=xs) (k:=k) (by omega)
  have hd:=drop_get ha
  (repeat' (first|refine Z0 ?_|refine Z2 ?_|apply w_nil|apply wc_seq|apply wc_region|apply wx_next|refine Z18 ?_|refine Z19 ?_|apply wc_ret|apply wc_skip|apply wx_ret_then|apply wx_ret_block|apply wx_norm_block|refine Z34 HA fun vx HA=>?_|refine Z36 ?_|refine Z46 ?_|refine Z92 (fun hq=>?_) fun hq=>?_))
  ·exact ret_fn H hm (outs1 Tryz.results267 Wh) ⟨_,rfl,by simp only [hp,hd];simp_all⟩
  ·exact wx_loopN (k+1) H Cu Ks (by omega) (by rw [hp,hd];simp [*])
 ·exact ret_fn H hm (outs1 Tryz.results267 Wh) ⟨_,rfl,by simp only [hp];rw [List.drop_eq_nil_of_le (by omega)];simp⟩
theorem Contains_int (xs:List Int) (v:Value) (t:Int) (c:Cx) (h:Sl v xs c) : Cn Tryz.prog 265 [v,.int .i64 t] c (fun v _=>v=.bool (decide (t∈xs))):=by
 refine Cn.of Tryz.func265 Tryz.ntmps265 rfl rfl fun hm H HA=>?_
 have HA:=HA.add h
 (apply Y1;refine Z2 ?_;apply Y2;refine Z0 ?_;refine Z0 ?_)
 (refine s_call rfl rfl H HA (Index_int xs _ t _ Lk) ?_;intro vx c H HA)
 obtain ⟨i,rfl,hi⟩:=HA.h.1
 (focus (refine Z97 (fun hq=>?_) fun hq=>?_;refine Z2 ?_;apply Y0;apply wc_ret;rotate_left;refine Z2 ?_;apply Y0;apply wc_ret;rotate_left))
 all_goals exact ret_fn H hm (outs1 Tryz.results265 Wh) (by rw [←hi];simp;omega)
end Go.Proofs.YtnppmeeibbefbaaGreatDoor
namespace Go.Wk
theorem varsOn_isVar : ∀(ts acc:List Tm),(∀t∈acc,t.isVar=true)→∀t∈ts.foldl varsOn acc,t.isVar=true
 | [],_,h=>h
 | t::ts,acc,h=>varsOn_isVar ts _ (by
  intro u hu
  unfold varsOn at hu
  split at hu
  ·rename_i hc
   simp only [List.mem_append,List.mem_singleton] at hu
   rcases hu with hu|rfl
   ·exact h u hu
   ·simp at hc;exact hc.1
  ·exact h u hu)
theorem mem_nums {acc:List Tm} (h:∀t∈acc,t.isVar=true) {t:Tm} (hv:t.isVar=true) : t.n∈acc.map Tm.n↔t∈acc:=by
 rw [List.mem_map]
 exact ⟨fun ⟨u,hu,e⟩=>(var_n (h u hu) hv).1 e▸hu,fun hu=>⟨t,hu,rfl⟩⟩
end Go.Wk
namespace Go.Proofs.YtnppmeeibbefbaaGreatDoor
open Go Go.Wk
theorem term_Vars (a:At0) (u:Value) (c:Cx) (h:Ag a u c) (hb:a.args.length+1<1099511627776) : Cn Tryz.prog 120 [u] c (fun v c=>Sl v ((varsOf a.terms).map Tm.n) c):=by
 refine Cn.of Tryz.func120 Tryz.ntmps120 rfl rfl fun hm H HA=>?_
 have HA:=HA.add h
 have hvl:=varsOf_len a.terms
 have htl : a.terms.length=a.args.length+1:=rfl
 (apply wc_seq;apply wc_region)
 (refine s_boxG rfl rfl Lk H HA ?_;intro p c H HA)
 (refine Z2 ?_;apply Y0;apply wc_scope;apply Y1;refine Z2 ?_;apply Y0;apply wc_seq;apply wc_label;apply wx_next;apply wc_seq;apply Y1;refine Z39 HA fun vx HA=>?_)
 (refine s_call rfl rfl H HA (term_places a _ _ Lk hb) ?_;intro vx c H HA)
 (refine Z45 ?_;refine Z0 ?_;apply Y0;apply wc_block)
 (obtain ⟨vp,rfl⟩:∃x,x=vx:=⟨_,rfl⟩)
 (have H:=H.nilR Int  3 1;have HA:=HA.add (Vals.nil (α:=Int) _))
 refine wc_loopR (α:=Int) a.terms.length (fun k v'=>[(3,v'),(9,vp),(10,.int .i64 a.terms.length),(11,.int .i64 k)]) (fun k acc=>acc=((a.terms.take k).foldl varsOn []).map Tm.n) 0 [] H Lk Cu Ks (Nat.zero_le _) rfl ?_
 intro k acc vr vals g c hk hp H HA
 have hal : acc.length≤k:=by
  have h1:=varsOf_len (a.terms.take k)
  rw [hp,List.length_map]
  refine Nat.le_trans h1 ?_
  simp
  try omega
 (repeat' (first|refine Z0 ?_|refine Z2 ?_|apply w_nil|apply wx_ret_goto|apply wc_seq|apply wc_region|apply wx_next|refine Z18 ?_|refine Z19 ?_|apply wc_ret|apply wc_exit|apply wc_skip|apply wc_block|apply wx_exit_then|apply wx_exit_same|refine Z93 (fun hq=>?_) fun hq=>?_))
 ·obtain ⟨t,ht⟩:=getq (xs:=a.terms) (k:=k) (by omega)
  have hstep : (a.terms.take (k+1)).foldl varsOn []=varsOn ((a.terms.take k).foldl varsOn []) t:=by
   rw [List.take_add_one,ht,List.foldl_append]
   rfl
  (refine Z34 HA fun vx HA=>?_;refine Z38 ?_;refine Z61 fun bx c H HA=>?_;refine Z74 fun c H HA=>?_;apply Y0;apply wc_seq;apply Y1;refine Z42 ?_)
  (refine w_freeze H HA ?_;intro c H HA)
  (skip)
  (refine s_call rfl rfl H HA (term_Variable t _) ?_;intro vx c H HP;have hvx:=HP.h.1;have HA:=HP.cut;subst hvx)
  cases hv : t.isVar
  ·(refine Z33 ?_;apply Y0;refine Z18 ?_;apply wc_exit;apply wx_exit_then;apply wx_exit_same;apply wx_next;apply wc_region;refine Z46 ?_;refine Z0 ?_;apply w_nil)
   exact wx_loopR (k+1) H Lk Cu Ks (by omega) (by rw [hstep,hp];simp [varsOn,hv])
  ·(refine Z33 ?_;apply Y0;refine Z19 ?_;apply wc_skip;apply wx_next;apply wc_seq;apply Y1;refine Z0 ?_;refine Z62 ?_;refine Z0 ?_;apply Y0;apply wc_block)
   have hallv:=varsOn_isVar (a.terms.take k) [] (fun _ h=>by cases h)
   have hmem:=mem_nums hallv hv
   rw [←hp] at hmem
   refine wc_loopN acc.length (fun j=>[(3,vr),(5,.pointer (some ⟨bx,0,none⟩)),(9,vp),(10,.int .i64 a.terms.length),(11,.int .i64 k),(18,vr),(19,.int .i64 acc.length),(20,.int .i64 j)]) (fun j=>t.n∈acc↔t.n∈acc.drop j) 0 H HA Ks (Nat.zero_le _) Iff.rfl ?_
   intro j g c hj hpj H HA
   (repeat' (first|refine Z0 ?_|refine Z1 ?_|refine Z2 ?_|refine Z3 ?_|apply w_nil|apply wc_seq|apply wc_region|apply wx_next|refine Z18 ?_|refine Z19 ?_|apply wc_exit|apply wc_skip|apply wc_block|apply wx_exit_then|apply wx_exit_same|apply wx_norm_block|refine Z46 ?_|refine Z56 fun vx c H HA=>?_|refine Z59 fun vx c valsx H HA=>?_|refine Z63 fun rp hrp=>?_|refine Z93 (fun hq=>?_) fun hq=>?_))
   ·obtain ⟨y,hy⟩:=getq (xs:=acc) (k:=j) (by omega)
    have hdj:=drop_get hy
    (repeat' (first|refine Z0 ?_|refine Z1 ?_|refine Z2 ?_|refine Z3 ?_|apply w_nil|apply wc_seq|apply wc_region|apply wx_next|refine Z18 ?_|refine Z19 ?_|apply wc_exit|apply wc_skip|apply wx_exit_then|apply wx_exit_same|refine Z27 ?_|apply wx_norm_block|refine Z46 ?_|refine Z64 ?_|refine Z92 (fun hq=>?_) fun hq=>?_))
    ·exact wx_loopR (k+1) H Lk Cu Ks (by omega) (by
      have : t∈(a.terms.take k).foldl varsOn []:=hmem.1 (hpj.2 (by rw [hdj];simp [*]))
      rw [hstep,hp];simp [varsOn,hv,this])
    ·exact wx_loopN (j+1) H Cu Ks (by omega) (by rw [hpj,hdj];simp;intro e;simp_all)
   ·have hnm : ¬t.n∈acc:=by rw [hpj,List.drop_eq_nil_of_le (by omega)];simp
    (skip)
    exact wx_loopR (k+1) H Lk Cu Ks (by omega) (by
     have : ¬t∈(a.terms.take k).foldl varsOn []:=fun h=>hnm (hmem.2 h)
     rw [hstep,hp];simp [varsOn,hv,this])
 ·have hp : acc=(varsOf a.terms).map Tm.n:=by rw [hp,List.take_of_length_le (by omega)];rfl
  (refine wx_freezeRow H HA Lk rfl rfl Lt ?_;intro c H HA)
  exact ret_fn H hm (outs1 Tryz.results120 Wh) (by rw [←hp];exact Lk)
end Go.Proofs.YtnppmeeibbefbaaGreatDoor
namespace Go.Wk
open Go
def misS (s:Bool×Int) (t:Tm) : Bool×Int:=if t.isVar then (s.1 || decide (t.n > s.2),if t.n=s.2 then s.2+1 else s.2) else s
theorem misnum_app (l:List Tm) (t:Tm) : ∀i,misnum (l++[t]) i=(misnum l i || !decide (t.n=((i+l.length:Nat):Int))):=by
 induction l with
 | nil=>intro i;simp [misnum]
 | cons u l ih =>
  intro i
  simp only [List.cons_append,misnum,ih,List.length_cons,Bool.or_assoc]
  rw [show i+1+l.length=i+(l.length+1) by omega]
theorem misS_inv : ∀(ts acc:List Tm) (s:Bool×Int),(∀t∈acc,t.isVar=true)→s.1=misnum acc 0→(s.1=false→s.2=acc.length)→(ts.foldl misS s).1=misnum (ts.foldl varsOn acc) 0
 | [],acc,s,_,h1,_=>h1
 | t::ts,acc,s,hv,h1,h2=>by
  simp only [List.foldl_cons]
  cases ht : t.isVar with
  | false =>
   have e1 : misS s t=s:=by simp [misS,ht]
   have e2 : varsOn acc t=acc:=by simp [varsOn,ht]
   rw [e1,e2]
   exact misS_inv ts acc s hv h1 h2
  | true =>
   have ht0 : 0≤t.n:=by simp [Tm.isVar] at ht;omega
   by_cases hm : t∈acc
   ·have e2 : varsOn acc t=acc:=by simp [varsOn,ht,hm]
    rw [e2]
    cases hs : s.1 with
    | true=>exact misS_inv ts acc _ hv (by simp [misS,ht,hs,←h1]) (by simp [misS,ht,hs])
    | false =>
     have hl:=h2 hs
     obtain ⟨j,hj⟩:=List.getElem?_of_mem hm
     have hjl:=(List.getElem?_eq_some_iff.1 hj).1
     have hn:=(misnum_false acc 0).1 (by rw [←h1,hs]) j t hj
     have hlt : t.n<s.2:=by rw [hl,hn];simp;omega
     exact misS_inv ts acc _ hv (by simp [misS,ht,hs,←h1];omega) (by simp [misS,ht,hs];intro _;rw [if_neg (by omega)];exact hl)
   ·have e2 : varsOn acc t=acc++[t]:=by simp [varsOn,ht,hm]
    rw [e2]
    have hv' : ∀u∈acc++[t],u.isVar=true:=by
     intro u hu
     simp only [List.mem_append,List.mem_singleton] at hu
     rcases hu with hu|rfl
     ·exact hv u hu
     ·exact ht
    cases hs : s.1 with
    | true=>exact misS_inv ts _ _ hv' (by rw [misnum_app,←h1,hs];simp [misS,ht,hs]) (by simp [misS,ht,hs])
    | false =>
     have hl:=h2 hs
     have h0 : misnum acc 0=false:=by rw [←h1,hs]
     have hge : ¬t.n<s.2:=by
      intro hlt
      rw [hl] at hlt
      have hj : t.n.toNat<acc.length:=by omega
      have hg : acc[t.n.toNat]?=some (acc[t.n.toNat]'hj):=List.getElem?_eq_getElem hj
      have hn:=(misnum_false acc 0).1 h0 _ _ hg
      have hmem:=List.mem_of_getElem? hg
      have : acc[t.n.toNat]'hj=t:=(var_n (hv _ hmem) ht).1 (by rw [hn];simp;omega)
      rw [this] at hmem
      exact hm hmem
     refine misS_inv ts _ _ hv' ?_ ?_
     ·rw [misnum_app,h0]
      simp only [misS,ht,hs,if_true,Bool.false_or,Nat.zero_add,←hl]
      rw [Bool.eq_iff_iff]
      simp
      omega
     ·intro hf
      simp only [misS,ht,hs,if_true,Bool.false_or,decide_eq_false_iff_not] at hf ⊢
      have he : t.n=s.2:=by omega
      rw [if_pos he,hl]
      simp
def misD (s:Bool×Int) (_:Tm) : Prop:=0≤s.2∧s.2<4611686018427387904
theorem mis_doms : ∀(ts:List Tm) (s:Bool×Int),0≤s.2→s.2+ts.length<4611686018427387904→Doms misD misS s ts
 | [],_,_,_=>trivial
 | t::ts,s,h0,h=>by
  simp only [List.length_cons] at h
  refine ⟨⟨h0,by omega⟩,mis_doms ts _ ?_ ?_⟩
  ·unfold misS;split
   ·dsimp only;split<;>omega
   ·exact h0
  ·unfold misS;split
   ·dsimp only;split<;>omega
   ·omega
end Go.Wk
namespace Go.Proofs.YtnppmeeibbefbaaGreatDoor
open Go Go.Wk
theorem mis_clo (pb pn:Nat) : CloU Tryz.prog 266 [.pointer (some ⟨pb,0,none⟩),.pointer (some ⟨pn,0,none⟩)] (fun s=>[.obj pb (.cells #[.bool s.1] 4 (0,0)),.obj pn (.cells #[.int .i64 s.2] 3 (0,0))]) Tt misD misS:=⟨by
 intro s t c hF hd
 refine CnT.of Tryz.func266 Tryz.ntmps266 rfl rfl fun c0 L0 A0 _ H HA=>?_
 obtain ⟨b,m⟩:=s
 obtain ⟨hd0,hd1⟩:=hd
 dsimp only at hd0 hd1
 have H : Owns c0 (.obj pb (.cells [.bool b].toArray 4 (0,0))::.obj pn (.cells [.int .i64 m].toArray 3 (0,0))::L0) c:=H
 (apply Y1;refine Z31 fun bx c H HA=>?_;apply Y0;apply wc_seq;apply Y1;refine Z7 ?_)
 (refine s_call rfl rfl H HA (term_Variable t _) ?_;intro vx c H HP;have hvx:=HP.h.1;have HA:=HP.cut;subst hvx)
 cases hv : t.isVar
 ·(refine Z33 ?_;apply Y0;refine Z18 ?_;apply wc_ret;apply wx_ret_then)
  have he : misS (b,m) t=(b,m):=by simp [misS,hv]
  rw [he]
  exact ret_fnT H Ca (outs0 rfl) trivial
 ·cases b
  ·(repeat' (first|refine Z0 ?_|refine Z1 ?_|refine Z3 ?_|refine Z4 ?_|apply w_nil|apply wc_seq|apply wc_region|apply wx_next|refine Z18 ?_|refine Z19 ?_|apply wc_skip|refine Z30 ?_|refine Z33 ?_|refine Z41 ?_|refine Z48 ?_|refine Z75 fun c H HA=>?_|refine Z77 fun c H HA=>?_|refine Z92 (fun hq=>?_) fun hq=>?_|refine Z96 (fun hq=>?_) fun hq=>?_))
   all_goals
    refine norm_fnT ?_ Ca (outs0 rfl) trivial
    simp only [misS,hv,if_true, *,Bool.false_or,decide_true,decide_false]
    first|exact H|exact H.swap|(exfalso;omega)|(rw [show decide (m > m)=false by simp];exact H.swap)
  ·(repeat' (first|refine Z0 ?_|refine Z1 ?_|refine Z3 ?_|refine Z5 ?_|refine Z8 ?_|apply w_nil|apply wc_seq|apply wc_region|apply wx_next|refine Z18 ?_|refine Z19 ?_|apply wc_skip|refine Z33 ?_|refine Z41 ?_|refine Z48 ?_|refine Z75 fun c H HA=>?_|refine Z77 fun c H HA=>?_|refine Z92 (fun hq=>?_) fun hq=>?_))
   all_goals
    refine norm_fnT ?_ Ca (outs0 rfl) trivial
    simp only [misS,hv,if_true, *,Bool.true_or]
    first|exact H|exact H.swap⟩
theorem clause_misnumbered (x:Cl) (u:Value) (c:Cx) (h:Ag x u c) (hl:x.terms.length<1099511627776) : Cn Tryz.prog 262 [u] c (fun v _=>v=.int .i64 (if misnum (varsOf x.terms) 0 then 35 else 0)):=by
 refine Cn.of Tryz.func262 Tryz.ntmps262 rfl rfl fun hm H HA=>?_
 have HA:=HA.add h
 (apply wc_seq;apply wc_region)
 (refine s_boxG rfl rfl Lk H HA ?_;intro p c H HA)
 (refine Z2 ?_;apply Y2)
 (refine s_alloc rfl (by conv=>lhs;whnf) H HA ?_;intro b3 c H HA)
 (refine s_alloc rfl (by conv=>lhs;whnf) H HA ?_;intro b4 c H HA)
 (refine Z77 fun c H HA=>?_;refine Z77 fun c H HA=>?_;apply Y2;refine Z39 HA fun vx HA=>?_)
 have hd:=mis_doms x.terms (false,0) (Int.le_refl _) (by simp;omega)
 (refine s_makeFunc (vs:=[.pointer (some ⟨b4,0,none⟩),.pointer (some ⟨b3,0,none⟩)]) rfl rfl ?_)
 (refine s_callT (pre:=[.obj b4 (.cells #[.bool false] 4 (0,0)),.obj b3 (.cells #[.int .i64 0] 3 (0,0))]) (post:=[.obj b4 (.cells #[.bool (x.terms.foldl misS (false,0)).1] 4 (0,0)),.obj b3 (.cells #[.int .i64 (x.terms.foldl misS (false,0)).2] 3 (0,0))]) rfl rfl H HA (clause_terms (mis_clo b4 b3) (false,0) x _ _ trivial Lk hd) ?_;intro vx c H HA)
 have H : Owns _ [.obj b4 (.cells [.bool (x.terms.foldl misS (false,0)).1].toArray 4 (0,0)),.obj b3 (.cells [.int .i64 (x.terms.foldl misS (false,0)).2].toArray 3 (0,0))] _:=H
 (apply Y2;refine Z41 ?_)
 (refine s_call rfl rfl H HA (clause_when _ _ _) ?_;intro vx c H HP;have hvx:=HP.h.1;have HA:=HP.cut;subst hvx)
 (refine Z2 ?_;apply Y0;apply wc_ret)
 exact ret_fn H hm (outs1 Tryz.results262 Wh) (by
  have:=misS_inv x.terms [] (false,0) (fun _ h=>by cases h) rfl (fun _=>rfl)
  rw [this]
  rfl)
end Go.Proofs.YtnppmeeibbefbaaGreatDoor
namespace Go.Wk
open Go
def unsS (ns:List Int) (b:Bool) (t:Tm) : Bool:=b || (t.isVar && !decide (t.n∈ns))
def Cl.bodyNs (x:Cl) : List Int:=x.body.flatMap fun a=>(varsOf a.terms).map Tm.n
theorem flatMap_len {α β γ:Type} {f:α→List β} {g:α→List γ} (h:∀a,(f a).length≤(g a).length) : ∀l : List α,(l.flatMap f).length≤(l.flatMap g).length
 | []=>Nat.le_refl _
 | a::l=>by
  have:=flatMap_len h l
  have h2:=h a
  simp only [List.flatMap_cons,List.length_append]
  omega
theorem bodyNs_take (x:Cl) (k:Nat) : ((x.body.take k).flatMap fun a=>(varsOf a.terms).map Tm.n).length≤x.bodyTerms.length:=by
 refine Nat.le_trans (flatMap_len (g:=At0.terms) (fun a=>by rw [List.length_map];exact varsOf_len _) _) ?_
 have : x.bodyTerms=(x.body.take k).flatMap At0.terms++(x.body.drop k).flatMap At0.terms:=by
  rw [←List.flatMap_append,List.take_append_drop]
  rfl
 rw [this,List.length_append]
 omega
theorem flatMap_mem_len {α β:Type} {f:α→List β} : ∀{l:List α} {a:α},a∈l→(f a).length≤(l.flatMap f).length
 | b::l,a,h=>by
  simp only [List.flatMap_cons,List.length_append]
  rcases List.mem_cons.1 h with rfl|h
  ·omega
  ·have:=flatMap_mem_len (f:=f) h
   omega
theorem uns_doms (ns:List Int) : ∀(ts:List Tm) (b:Bool),Doms (fun _ _=>True) (unsS ns) b ts
 | [],_=>trivial
 | _::ts,b=>⟨trivial,uns_doms ns ts _⟩
theorem uns_any (ns:List Int) : ∀(ts:List Tm) (b:Bool),ts.foldl (unsS ns) b=(b || ts.any fun t=>t.isVar && !decide (t.n∈ns))
 | [],b=>by simp
 | t::ts,b=>by
  simp only [List.foldl_cons,uns_any ns ts,List.any_cons,unsS,Bool.or_assoc]
theorem mem_varsOf' : ∀(ts acc:List Tm) (t:Tm),t∈ts.foldl varsOn acc↔t∈acc∨(t∈ts∧t.isVar=true)
 | [],acc,t=>by simp
 | u::ts,acc,t=>by
  rw [List.foldl_cons,mem_varsOf' ts]
  unfold varsOn
  split
  ·rename_i hc
   simp only [Bool.and_eq_true,Bool.not_eq_true',decide_eq_false_iff_not] at hc
   simp only [List.mem_append,List.mem_cons,List.not_mem_nil,or_false]
   constructor
   ·rintro ((h|rfl)|h)
    ·exact .inl h
    ·exact .inr ⟨.inl rfl,hc.1⟩
    ·exact .inr ⟨.inr h.1,h.2⟩
   ·rintro (h|⟨rfl|h,hv⟩)
    ·exact .inl (.inl h)
    ·exact .inl (.inr rfl)
    ·exact .inr ⟨h,hv⟩
  ·rename_i hc
   simp only [Bool.and_eq_true,Bool.not_eq_true',decide_eq_false_iff_not,not_and,Classical.not_not] at hc
   simp only [List.mem_cons]
   constructor
   ·rintro (h|h)
    ·exact .inl h
    ·exact .inr ⟨.inr h.1,h.2⟩
   ·rintro (h|⟨rfl|h,hv⟩)
    ·exact .inl h
    ·exact .inl (hc hv)
    ·exact .inr ⟨h,hv⟩
theorem mem_bodyNs {x:Cl} {t:Tm} (hv:t.isVar=true) : t.n∈x.bodyNs↔t∈x.bodyTerms:=by
 unfold Cl.bodyNs Cl.bodyTerms
 simp only [List.mem_flatMap,List.mem_map]
 constructor
 ·rintro ⟨a,ha,u,hu,e⟩
  have:=(mem_varsOf' a.terms [] u).1 hu
  simp at this
  exact ⟨a,ha,(var_n this.2 hv).1 e▸this.1⟩
 ·rintro ⟨a,ha,ht⟩
  exact ⟨a,ha,t,(mem_varsOf' a.terms [] t).2 (.inr ⟨ht,hv⟩),rfl⟩
theorem uns_eq (x:Cl) : ((x.head.terms++x.testTerms).foldl (unsS x.bodyNs) false)=(varsOf (x.head.terms++x.testTerms)).any fun t=>!decide (t∈x.bodyTerms):=by
 rw [uns_any,Bool.false_or,Bool.eq_iff_iff,List.any_eq_true,List.any_eq_true]
 constructor
 ·rintro ⟨t,ht,h⟩
  simp only [Bool.and_eq_true,Bool.not_eq_true',decide_eq_false_iff_not] at h
  exact ⟨t,(mem_varsOf' _ [] t).2 (.inr ⟨ht,h.1⟩),by simpa using fun hm=>h.2 ((mem_bodyNs h.1).2 hm)⟩
 ·rintro ⟨t,ht,h⟩
  have:=(mem_varsOf' _ [] t).1 ht
  simp only [List.not_mem_nil,false_or] at this
  exact ⟨t,this.1,by simp only [Bool.and_eq_true,this.2,true_and];simpa using fun hm=>(by simpa using h:¬t∈x.bodyTerms) ((mem_bodyNs this.2).1 hm)⟩
end Go.Wk
namespace Go.Proofs.YtnppmeeibbefbaaGreatDoor
open Go Go.Wk
theorem uns_clo (pb ps:Nat) (ns:List Int) (v:Value) : CloU Tryz.prog 264 [.pointer (some ⟨pb,0,none⟩),.pointer (some ⟨ps,0,none⟩)] (fun b=>[.obj pb (.cells #[.bool b] 4 (0,0))]) (fun c=>Box ps [v] c∧Sl v ns c) (fun _ _=>True) (unsS ns):=⟨by
 intro b t c hF hd
 refine CnT.of Tryz.func264 Tryz.ntmps264 rfl rfl fun c0 L0 A0 _ H HA=>?_
 have HA:=(HA.add hF.1).add hF.2
 have H : Owns c0 (.obj pb (.cells [.bool b].toArray 4 (0,0))::L0) c:=H
 cases b
 ·(apply Y1;refine Z31 fun bx c H HA=>?_;apply Y0;apply wc_region;refine Z41 ?_;refine Z0 ?_;refine Z4 ?_;refine Z7 ?_;refine Z4 ?_)
  (refine s_call rfl rfl H HA (term_Variable t _) ?_;intro vx c H HP;have hvx:=HP.h.1;have HA:=HP.cut;subst hvx)
  cases hv : t.isVar
  ·(repeat' (first|refine Z0 ?_|refine Z4 ?_|refine Z5 ?_|apply w_nil|refine Z30 ?_|refine Z75 fun c H HA=>?_))
   refine norm_fnT ?_ Ca (outs0 rfl) trivial
   simp only [unsS,hv,Bool.false_and,Bool.false_or]
   exact H
  ·(refine Z4 ?_;refine Z0 ?_;refine Z4 ?_;refine Z1 ?_;refine Z4 ?_;refine Z3 ?_;refine Z4 ?_;refine Z1 ?_;refine Z4 ?_)
   (refine s_call rfl rfl H HA (Contains_int ns _ _ _ Lk) ?_;intro vx c H HP;have hvx:=HP.h.1;have HA:=HP.cut;subst hvx)
   (refine Z4 ?_;refine Z33 ?_;refine Z4 ?_;refine Z8 ?_;refine Z30 ?_;refine Z75 fun c H HA=>?_;apply w_nil)
   refine norm_fnT ?_ Ca (outs0 rfl) trivial
   simp only [unsS,hv,Bool.true_and,Bool.false_or]
   exact H
 ·(repeat' (first|refine Z0 ?_|refine Z5 ?_|refine Z6 ?_|refine Z8 ?_|apply w_nil|apply wc_seq|apply wc_region|apply wx_next|refine Z31 fun bx c H HA=>?_|refine Z41 ?_|refine Z75 fun c H HA=>?_))
  refine norm_fnT ?_ Ca (outs0 rfl) trivial
  simp only [unsS,Bool.true_or]
  exact H⟩
theorem clause_unsafe (x:Cl) (u:Value) (c:Cx) (h:Ag x u c) (hb:x.terms.length<1099511627776) : Cn Tryz.prog 261 [u] c (fun v _=>v=.int .i64 (if (varsOf (x.head.terms++x.testTerms)).any (fun t=>!decide (t∈x.bodyTerms)) then 34 else 0)):=by
 refine Cn.of Tryz.func261 Tryz.ntmps261 rfl rfl fun hm H HA=>?_
 have hlb : x.body.length<1099511627776:=by obtain ⟨cs,rfl,v,v1,v2,rfl,h⟩:=h;exact h.2.1.lim
 have hlt : x.tests.length<1099511627776:=by obtain ⟨cs,rfl,v,v1,v2,rfl,h⟩:=h;exact h.2.2.lim
 have hbt : x.bodyTerms.length<1099511627776:=by simp only [Cl.terms,List.length_append] at hb;omega
 have HA:=HA.add h
 (apply wc_seq;apply wc_region)
 (refine s_boxG rfl rfl Lk H HA ?_;intro p c H HA)
 (refine Z2 ?_;apply Y2)
 (refine s_alloc rfl (by conv=>lhs;whnf) H HA ?_;intro b3 c H HA)
 (apply Y0;apply wc_seq;apply Y1;refine Z35 HA fun vx HA=>?_;refine Z37 HA fun vx HA=>?_;refine Z45 ?_;refine Z0 ?_;apply Y0;apply wc_block)
 (obtain ⟨vl,rfl⟩:∃x,x=vx:=⟨_,rfl⟩)
 have H:=H.nilR Int 3 1
 refine wc_loopG (σ:=Nat×List Int×Value×List (List Value)) (fun y=>x.body.length-y.1) (fun y=>[(1,p),(3,.pointer (some ⟨b3,0,none⟩)),(11,vl),(12,.int .i64 x.body.length),(13,.int .i64 y.1)]) (fun y=>y.1≤x.body.length∧y.2.1=(x.body.take y.1).flatMap fun a=>(varsOf a.terms).map Tm.n)
  (fun y=>[.row y.2.2.1 3 1 y.2.1.length y.2.2.2.flatten,.obj b3 (.cells [y.2.2.1].toArray 123 (0,0))]) (fun y c=>Vals y.2.2.2 y.2.1 c) (0,[],.slice none 0 0,[]) H HA (Vals.nil _) Ks ⟨Nat.zero_le _,rfl⟩ ?_
 intro y g c hp H HA
 obtain ⟨k,acc,vr,vals⟩:=y
 obtain ⟨hk,hacc⟩:=hp
 dsimp only at hk hacc H HA ⊢
 (repeat' (first|apply w_nil|apply wc_seq|apply wc_region|apply wx_next|refine Z18 ?_|refine Z19 ?_|apply wc_exit|apply wc_skip|apply wc_block|apply wx_exit_then|apply wx_exit_same|refine Z61 fun bx c H HA=>?_|refine Z75 fun c H HA=>?_|refine Z93 (fun hq=>?_) fun hq=>?_))
 ·obtain ⟨t,ht⟩:=getq (xs:=x.body) (k:=k) (by omega)
  have hta : t.args.length+1≤x.bodyTerms.length:=flatMap_mem_len (f:=At0.terms) (List.mem_of_getElem? ht)
  have hnx:=bodyNs_take x (k+1)
  rw [List.take_add_one,ht] at hnx
  simp only [Option.toList_some,List.flatMap_append,List.flatMap_cons,List.flatMap_nil,List.append_nil,←hacc,List.length_append] at hnx
  (refine Z34 HA fun vx HA=>?_;refine Z39 HA fun vx HA=>?_;refine Z61 fun bx c H HA=>?_)
  (refine s_storeG (α:=At0) rfl rfl Lk rfl rfl H HA ?_;intro c H HA)
  (apply Y0)
  (refine dw_start H HA ?_)
  (repeat (refine Dc ?_))
  (apply dw_cons;(focus ((intro B _ Lx c H HA;(repeat (first|rintro vx rfl|(intro vx hx;have HA:=HA.addSF hx;clear hx)|(intro vx hx;have HA:=HA.add hx;clear hx)|intro vx));change W _ _ _ _ _ _ _);refine s_call rfl rfl H HA (term_Vars t _ _ Lk (by omega)) ?_;intro vx c H HP;exact w_nil (pq_rel H (Cp) HP.h.1)));exact inferInstance)
  (repeat (refine Dc ?_))
  (refine dw_done mixed H HA rfl (by kernel_rfl) ?_;clear H HA;intro c H HA;(repeat (first|rintro vx rfl|(intro vx hx;have HA:=HA.addSF hx;clear hx)|(intro vx hx;have HA:=HA.add hx;clear hx)|intro vx));change W _ _ _ _ _ _ _)
  (refine Z59 fun vx c valsx H HA=>?_;refine Z77 fun c H HA=>?_;apply w_nil;apply wx_norm_block;apply wx_next;apply wc_region;refine Z46 ?_;refine Z0 ?_;apply w_nil)
  exact wx_loopG ((k+1,acc++(varsOf t.terms).map Tm.n,vx,valsx)) H.swap Cu Lk Ks (by simp;omega) ⟨by simp;omega,by
   rw [List.take_add_one,ht]
   simp [hacc]⟩
 ·have hacc : acc=x.bodyNs:=by rw [hacc,List.take_of_length_le (by omega)];rfl
  have hnl : acc.length≤x.bodyTerms.length:=by rw [hacc];have:=bodyNs_take x x.body.length;rwa [List.take_of_length_le (Nat.le_refl _)] at this
  (refine w_freezeRow H.swap HA Lk rfl rfl (by simp only [LIM];omega) ?_;intro c H HA)
  (refine w_freeze H.swap HA ?_;intro c H HA)
  rw [hacc] at HA
  (obtain ⟨b6,rfl⟩:∃x,x=bx:=⟨_,rfl⟩)
  (refine s_makeFunc (vs:=[.pointer (some ⟨b6,0,none⟩),.pointer (some ⟨b3,0,none⟩)]) rfl rfl ?_)
  (refine Z2 ?_;apply Y2;refine Z35 HA fun vx HA=>?_;refine Z39 HA fun vx HA=>?_;refine Z0 ?_)
  have hF : (fun c=>Box b3 [vr] c∧Sl vr x.bodyNs c) _:=⟨Lk,Lk⟩
  (refine s_callT (pre:=[.obj b6 (.cells #[.bool false] 4 (0,0))]) (post:=[.obj b6 (.cells #[.bool (x.head.terms.foldl (unsS x.bodyNs) false)] 4 (0,0))]) rfl rfl H HA (clause_atomTerms (uns_clo b6 b3 x.bodyNs vr) false x.head _ _ hF Lk (uns_doms _ _ _)) ?_;intro vx c H HA)
  have H : Owns _ [.obj b6 (.cells [.bool (x.head.terms.foldl (unsS x.bodyNs) false)].toArray 4 (0,0))] _:=H
  have huq:=uns_eq x
  rw [List.foldl_append] at huq
  generalize x.head.terms.foldl (unsS x.bodyNs) false=z0 at H huq
  (apply Y0;apply wc_seq;apply Y1;refine Z35 HA fun vx HA=>?_;refine Z37 HA fun vx HA=>?_;refine Z45 ?_;refine Z0 ?_;apply Y0;apply wc_block)
  (obtain ⟨vt,rfl⟩:∃x,x=vx:=⟨_,rfl⟩)
  refine wc_loopG (σ:=Nat×Bool) (fun y=>x.tests.length-y.1) (fun y=>[(6,.pointer (some ⟨b6,0,none⟩)),(7,.func (.func 264) #[] [.pointer (some ⟨b6,0,none⟩),.pointer (some ⟨b3,0,none⟩)].toArray),(28,vt),(29,.int .i64 x.tests.length),(30,.int .i64 y.1)]) (fun y=>y.1≤x.tests.length∧((x.tests.drop y.1).flatMap fun t=>[t.l,t.r]).foldl (unsS x.bodyNs) y.2=x.testTerms.foldl (unsS x.bodyNs) z0)
   (fun y=>[.obj b6 (.cells [.bool y.2].toArray 4 (0,0))]) (fun _=>Tt) (0,z0) H HA trivial Ks ⟨Nat.zero_le _,rfl⟩ ?_
  intro y g c hp H HA
  obtain ⟨k,z⟩:=y
  obtain ⟨hk,hp⟩:=hp
  dsimp only at hk hp H HA ⊢
  (repeat' (first|apply w_nil|apply wc_seq|apply wc_region|apply wx_next|refine Z18 ?_|refine Z19 ?_|apply wc_exit|apply wc_skip|apply wc_block|apply wx_exit_then|apply wx_exit_same|refine Z41 ?_|refine Z93 (fun hq=>?_) fun hq=>?_))
  ·obtain ⟨t,ht⟩:=getq (xs:=x.tests) (k:=k) (by omega)
   have hdr:=drop_get ht
   rw [hdr,List.flatMap_cons] at hp
   (refine Z34 HA fun vx HA=>?_;refine Z38 ?_;refine Z61 fun bx c H HA=>?_;refine Z74 fun c H HA=>?_;apply Y2;refine Z0 ?_;refine Z3 ?_;refine Z42 ?_)
   (refine w_freeze H HA ?_;intro c H HA)
   have hF : (fun c=>Box b3 [vr] c∧Sl vr x.bodyNs c) _:=⟨Lk,Lk⟩
   (refine s_callVT (pre:=[.obj b6 (.cells #[.bool z] 4 (0,0))]) (post:=[.obj b6 (.cells #[.bool (unsS x.bodyNs z t.l)] 4 (0,0))]) rfl rfl rfl H HA ((uns_clo b6 b3 x.bodyNs vr).call z t.l _ hF trivial) ?_;intro vx c H HA)
   (apply Y0;apply wc_region;refine Z0 ?_;refine Z3 ?_;refine Z7 ?_)
   have hF : (fun c=>Box b3 [vr] c∧Sl vr x.bodyNs c) _:=⟨Lk,Lk⟩
   (refine s_callVT (pre:=[.obj b6 (.cells #[.bool (unsS x.bodyNs z t.l)] 4 (0,0))]) (post:=[.obj b6 (.cells #[.bool (unsS x.bodyNs (unsS x.bodyNs z t.l) t.r)] 4 (0,0))]) rfl rfl rfl H HA ((uns_clo b6 b3 x.bodyNs vr).call (unsS x.bodyNs z t.l) t.r _ hF trivial) ?_;intro vx c H HA)
   (apply w_nil;apply wx_norm_block;apply wx_next;apply wc_region;refine Z46 ?_;refine Z0 ?_;apply w_nil)
   exact wx_loopG ((k+1,unsS x.bodyNs (unsS x.bodyNs z t.l) t.r)) H Cu trivial Ks (by simp;omega) ⟨by simp;omega,hp⟩
  ·have e0 : x.tests.drop k=[]:=List.drop_eq_nil_of_le (by omega)
   rw [e0] at hp
   have hz : z=x.testTerms.foldl (unsS x.bodyNs) z0:=hp
   rw [←hz] at huq
   (skip)
   (refine s_call rfl rfl H HA (clause_when _ _ _) ?_;intro vx c H HP;have hvx:=HP.h.1;have HA:=HP.cut;subst hvx)
   (refine Z2 ?_;apply Y0;apply wc_ret)
   exact ret_fn H hm (outs1 Tryz.results261 Wh) (by rw [huq])
end Go.Proofs.YtnppmeeibbefbaaGreatDoor
namespace Go.Wk
open Go
class ArrT (P:Program) (T:TypeId) (len e:outParam Nat) : Prop where
 h : P.underlying T=some (.array len e)
section
variable {P : Program} {ops : Array Oper} {Q : Exit → Act → World → Prop} {n : Nat} {f : Nat → Value} {rest : List Oper} {ty : TypeId} {ps : String} {af : Array Edge} {d : Tmp} {w : World}
theorem s_indexA {T e len i:Nat} {x y:Operand} {cs:List Value} {v:Value} (hn:Nat.blt d n=true) [ArrT P T len e] [Agg P e 1] (hx:opd f x=.agg cs.toArray) (hy:opd f y=.int .i64 (i:Nat)) (hi:i<len) (hv:cs[i]?=some v) (k:W P ops Q rest n (upd f d (.agg [v].toArray)) w) :
  W P ops Q (⟨some d,.index T x y,ty,ps,af,none⟩::rest) n f w:=by
 have he : (cs.drop i).take 1=[v]:=by rw [drop_get hv];rfl
 refine st_val hn ?_ k
 have h2 : (i:Int)<len:=by omega
 simp [execOp,Instr.index,hx,hy,asIntOf,run_underlying (ArrT.h (P:=P) (T:=T)),part,Agg.ag (P:=P) (T:=e),Agg.sz (P:=P) (T:=e),hi,he]
end
end Go.Wk
namespace Go.Proofs.YtnppmeeibbefbaaGreatDoor
open Go Go.Wk
instance : ArrT Tryz.prog 71 6 70:=⟨by kernel_rfl⟩
instance : Agg Tryz.prog 70 1:=.of (by kernel_rfl) (by kernel_rfl)
instance : Agg Tryz.prog 71 6:=.of (by kernel_rfl) (by kernel_rfl)
instance : Prim Tryz.prog 53:=.of (by kernel_rfl) (by kernel_rfl)
instance : Zer Tryz.prog 70 (.agg #[.nilFunc]):=.of (by kernel_rfl)
instance : Fld Tryz.prog 70 0 0:=.of (k:=0) (by kernel_rfl)
def chkFs : List Value:=[.func (.func 257) #[] #[],.func (.func 258) #[] #[],.func (.func 259) #[] #[],.func (.func 260) #[] #[],.func (.func 261) #[] #[],.func (.func 262) #[] #[]]
def Cl.looks (x:Cl) : List Int:=[if 8<x.body.length∨8<x.tests.length then 31 else 0,orI ((x.head::x.body).map At0.check),orI (x.tests.map Ts.check),if x.head.by_.isVar then 33 else 0,if (varsOf (x.head.terms++x.testTerms)).any (fun t=>!decide (t∈x.bodyTerms)) then 34 else 0,if misnum (varsOf x.terms) 0 then 35 else 0]
theorem looks_check (x:Cl) : orI (Cl.looks x)=x.check:=by
 unfold Cl.looks Cl.check
 by_cases h1 : 8<x.body.length∨8<x.tests.length
 ·simp [h1,orI]
 ·rw [if_neg h1,if_neg h1]
  simp only [orI,if_true]
  by_cases h2 : orI ((x.head::x.body).map At0.check)=0
  ·have h3 : x.head.check=0:=orI_zero.1 h2 _ (by simp)
   have h4:=(check_parts h3).2.2.1
   have h5 : x.head.by_.isVar=true↔x.head.by_.k=3:=by
    rcases h4 with h4|h4|h4
    ·rw [h4];decide
    ·simp [Tm.isPrinc,Tm.isConst,Tm.isVar] at h4 ⊢
     omega
    ·simp [h4]
     simp [Tm.isVar] at h4
     exact h4.1
   by_cases h6 : x.head.by_.k=3
   ·simp [h5.2 h6,h6]
   ·have : x.head.by_.isVar=false:=by cases hv : x.head.by_.isVar with|false=>rfl|true=>exact absurd (h5.1 hv) h6
    simp [this,h6]
  ·simp only [List.map_cons,orI] at h2 ⊢
   simp only [h2,if_false]
structure GlobOk (c:Cx) : Prop where
 none : Box 1 Tn.cs c
 checks : Box 0 chkFs c
instance : Mono GlobOk:=⟨fun h k=>⟨Mono.mono h k.none,Mono.mono h k.checks⟩⟩
theorem clause_Check (x:Cl) (u:Value) (c:Cx) (h:Ag x u c) (hf:x.fit) (hg:GlobOk c) : Cn Tryz.prog 16 [u] c (fun v _=>v=.int .i64 x.check):=by
 refine Cn.of Tryz.func16 Tryz.ntmps16 rfl rfl fun hm H HA=>?_
 have HA:=((HA.add h).add hg.none).add hg.checks
 (apply wc_seq;apply wc_region)
 (refine s_boxG rfl rfl Lk H HA ?_;intro p c H HA)
 (refine Z2 ?_;apply Y0;apply wc_seq;apply Y1;refine Z7 ?_;refine Z0 ?_;apply Y0;apply wc_block)
 refine wc_loopN 6 (fun k=>[(1,p),(6,.agg chkFs.toArray),(7,.int .i64 k)]) (fun k=>orI (Cl.looks x)=orI ((Cl.looks x).drop k)) 0 H HA Ks (Nat.zero_le _) rfl ?_
 intro k g c hk hp H HA
 (repeat' (first|refine Z2 ?_|apply w_nil|apply wc_seq|apply wc_region|apply wx_next|refine Z18 ?_|refine Z19 ?_|apply wc_ret|apply wc_exit|apply wc_skip|apply wc_block|apply wx_exit_then|apply wx_exit_same|refine Z93 (fun hq=>?_) fun hq=>?_))
 ·have hcs : k=0∨k=1∨k=2∨k=3∨k=4∨k=5:=by omega
  rcases hcs with rfl|rfl|rfl|rfl|rfl|rfl
  ·(refine s_indexA (cs:=chkFs) (i:=0) rfl rfl rfl (by decide) rfl ?_)
   (refine Z61 fun bx c H HA=>?_;refine Z74 fun c H HA=>?_;apply Y2;refine Z3 ?_;refine Z41 ?_;refine Z39 HA fun vx HA=>?_)
   (refine s_callV (caps:=[]) rfl rfl rfl H HA (clause_tooLong x _ _ Lk) ?_;intro vx c H HP;have hvx:=HP.h.1;have HA:=HP.cut;subst hvx)
   generalize hE : (if 8<x.body.length∨8<x.tests.length then (31:Int) else 0)=e at HP ⊢
   by_cases he : e=0
   ·(refine Z2 ?_;apply Y2;refine Z0 ?_;refine Z82 ?_;apply Y0;refine Z19 ?_;apply wc_skip;apply wx_norm_block;apply wx_next;apply wc_region;refine Z46 ?_;refine Z0 ?_;apply w_nil)
    have H:=H.drop
    exact wx_loopN (0+1) H Cu Ks (by omega) (by rw [hp];simp only [Cl.looks,List.drop_succ_cons,List.drop_zero,orI];rw [hE,if_pos he])
   ·(refine Z2 ?_;apply Y2;refine Z0 ?_;refine Z82 ?_;apply Y0;refine Z18 ?_;apply Y1;refine Z0 ?_;refine Z2 ?_;apply Y0;apply wc_ret;apply wx_ret_block;apply wx_ret_then;apply wx_ret_then;apply wx_ret_block;apply wx_ret_then)
    exact ret_fn H hm (outs1 Tryz.results16 Wh) (by rw [←looks_check,hp];simp only [Cl.looks,List.drop_succ_cons,List.drop_zero,orI];rw [hE,if_neg he])
  ·(refine s_indexA (cs:=chkFs) (i:=1) rfl rfl rfl (by decide) rfl ?_)
   (refine Z61 fun bx c H HA=>?_;refine Z74 fun c H HA=>?_;apply Y2;refine Z3 ?_;refine Z41 ?_;refine Z39 HA fun vx HA=>?_)
   (refine s_callV (caps:=[]) rfl rfl rfl H HA (clause_badAtom x _ _ Lk hf.1 Lk) ?_;intro vx c H HP;have hvx:=HP.h.1;have HA:=HP.cut;subst hvx)
   generalize hE : orI ((x.head::x.body).map At0.check)=e at HP ⊢
   by_cases he : e=0
   ·(refine Z2 ?_;apply Y2;refine Z0 ?_;refine Z82 ?_;apply Y0;refine Z19 ?_;apply wc_skip;apply wx_norm_block;apply wx_next;apply wc_region;refine Z46 ?_;refine Z0 ?_;apply w_nil)
    have H:=H.drop
    exact wx_loopN (1+1) H Cu Ks (by omega) (by rw [hp];simp only [Cl.looks,List.drop_succ_cons,List.drop_zero,orI];rw [hE,if_pos he])
   ·(refine Z2 ?_;apply Y2;refine Z0 ?_;refine Z82 ?_;apply Y0;refine Z18 ?_;apply Y1;refine Z0 ?_;refine Z2 ?_;apply Y0;apply wc_ret;apply wx_ret_block;apply wx_ret_then;apply wx_ret_then;apply wx_ret_block;apply wx_ret_then)
    exact ret_fn H hm (outs1 Tryz.results16 Wh) (by rw [←looks_check,hp];simp only [Cl.looks,List.drop_succ_cons,List.drop_zero,orI];rw [hE,if_neg he])
  ·(refine s_indexA (cs:=chkFs) (i:=2) rfl rfl rfl (by decide) rfl ?_)
   (refine Z61 fun bx c H HA=>?_;refine Z74 fun c H HA=>?_;apply Y2;refine Z3 ?_;refine Z41 ?_;refine Z39 HA fun vx HA=>?_)
   (refine s_callV (caps:=[]) rfl rfl rfl H HA (clause_badTest x _ _ Lk) ?_;intro vx c H HP;have hvx:=HP.h.1;have HA:=HP.cut;subst hvx)
   generalize hE : orI (x.tests.map Ts.check)=e at HP ⊢
   by_cases he : e=0
   ·(refine Z2 ?_;apply Y2;refine Z0 ?_;refine Z82 ?_;apply Y0;refine Z19 ?_;apply wc_skip;apply wx_norm_block;apply wx_next;apply wc_region;refine Z46 ?_;refine Z0 ?_;apply w_nil)
    have H:=H.drop
    exact wx_loopN (2+1) H Cu Ks (by omega) (by rw [hp];simp only [Cl.looks,List.drop_succ_cons,List.drop_zero,orI];rw [hE,if_pos he])
   ·(refine Z2 ?_;apply Y2;refine Z0 ?_;refine Z82 ?_;apply Y0;refine Z18 ?_;apply Y1;refine Z0 ?_;refine Z2 ?_;apply Y0;apply wc_ret;apply wx_ret_block;apply wx_ret_then;apply wx_ret_then;apply wx_ret_block;apply wx_ret_then)
    exact ret_fn H hm (outs1 Tryz.results16 Wh) (by rw [←looks_check,hp];simp only [Cl.looks,List.drop_succ_cons,List.drop_zero,orI];rw [hE,if_neg he])
  ·(refine s_indexA (cs:=chkFs) (i:=3) rfl rfl rfl (by decide) rfl ?_)
   (refine Z61 fun bx c H HA=>?_;refine Z74 fun c H HA=>?_;apply Y2;refine Z3 ?_;refine Z41 ?_;refine Z39 HA fun vx HA=>?_)
   (refine s_callV (caps:=[]) rfl rfl rfl H HA (clause_openHead x _ _ Lk) ?_;intro vx c H HP;have hvx:=HP.h.1;have HA:=HP.cut;subst hvx)
   generalize hE : (if x.head.by_.isVar then (33:Int) else 0)=e at HP ⊢
   by_cases he : e=0
   ·(refine Z2 ?_;apply Y2;refine Z0 ?_;refine Z82 ?_;apply Y0;refine Z19 ?_;apply wc_skip;apply wx_norm_block;apply wx_next;apply wc_region;refine Z46 ?_;refine Z0 ?_;apply w_nil)
    have H:=H.drop
    exact wx_loopN (3+1) H Cu Ks (by omega) (by rw [hp];simp only [Cl.looks,List.drop_succ_cons,List.drop_zero,orI];rw [hE,if_pos he])
   ·(refine Z2 ?_;apply Y2;refine Z0 ?_;refine Z82 ?_;apply Y0;refine Z18 ?_;apply Y1;refine Z0 ?_;refine Z2 ?_;apply Y0;apply wc_ret;apply wx_ret_block;apply wx_ret_then;apply wx_ret_then;apply wx_ret_block;apply wx_ret_then)
    exact ret_fn H hm (outs1 Tryz.results16 Wh) (by rw [←looks_check,hp];simp only [Cl.looks,List.drop_succ_cons,List.drop_zero,orI];rw [hE,if_neg he])
  ·(refine s_indexA (cs:=chkFs) (i:=4) rfl rfl rfl (by decide) rfl ?_)
   (refine Z61 fun bx c H HA=>?_;refine Z74 fun c H HA=>?_;apply Y2;refine Z3 ?_;refine Z41 ?_;refine Z39 HA fun vx HA=>?_)
   (refine s_callV (caps:=[]) rfl rfl rfl H HA (clause_unsafe x _ _ Lk hf.2) ?_;intro vx c H HP;have hvx:=HP.h.1;have HA:=HP.cut;subst hvx)
   generalize hE : (if (varsOf (x.head.terms++x.testTerms)).any (fun t=>!decide (t∈x.bodyTerms)) then (34:Int) else 0)=e at HP ⊢
   by_cases he : e=0
   ·(refine Z2 ?_;apply Y2;refine Z0 ?_;refine Z82 ?_;apply Y0;refine Z19 ?_;apply wc_skip;apply wx_norm_block;apply wx_next;apply wc_region;refine Z46 ?_;refine Z0 ?_;apply w_nil)
    have H:=H.drop
    exact wx_loopN (4+1) H Cu Ks (by omega) (by rw [hp];simp only [Cl.looks,List.drop_succ_cons,List.drop_zero,orI];rw [hE,if_pos he])
   ·(refine Z2 ?_;apply Y2;refine Z0 ?_;refine Z82 ?_;apply Y0;refine Z18 ?_;apply Y1;refine Z0 ?_;refine Z2 ?_;apply Y0;apply wc_ret;apply wx_ret_block;apply wx_ret_then;apply wx_ret_then;apply wx_ret_block;apply wx_ret_then)
    exact ret_fn H hm (outs1 Tryz.results16 Wh) (by rw [←looks_check,hp];simp only [Cl.looks,List.drop_succ_cons,List.drop_zero,orI];rw [hE,if_neg he])
  ·(refine s_indexA (cs:=chkFs) (i:=5) rfl rfl rfl (by decide) rfl ?_)
   (refine Z61 fun bx c H HA=>?_;refine Z74 fun c H HA=>?_;apply Y2;refine Z3 ?_;refine Z41 ?_;refine Z39 HA fun vx HA=>?_)
   (refine s_callV (caps:=[]) rfl rfl rfl H HA (clause_misnumbered x _ _ Lk hf.2) ?_;intro vx c H HP;have hvx:=HP.h.1;have HA:=HP.cut;subst hvx)
   generalize hE : (if misnum (varsOf x.terms) 0 then (35:Int) else 0)=e at HP ⊢
   by_cases he : e=0
   ·(refine Z2 ?_;apply Y2;refine Z0 ?_;refine Z82 ?_;apply Y0;refine Z19 ?_;apply wc_skip;apply wx_norm_block;apply wx_next;apply wc_region;refine Z46 ?_;refine Z0 ?_;apply w_nil)
    have H:=H.drop
    exact wx_loopN (5+1) H Cu Ks (by omega) (by rw [hp];simp only [Cl.looks,List.drop_succ_cons,List.drop_zero,orI];rw [hE,if_pos he])
   ·(refine Z2 ?_;apply Y2;refine Z0 ?_;refine Z82 ?_;apply Y0;refine Z18 ?_;apply Y1;refine Z0 ?_;refine Z2 ?_;apply Y0;apply wc_ret;apply wx_ret_block;apply wx_ret_then;apply wx_ret_then;apply wx_ret_block;apply wx_ret_then)
    exact ret_fn H hm (outs1 Tryz.results16 Wh) (by rw [←looks_check,hp];simp only [Cl.looks,List.drop_succ_cons,List.drop_zero,orI];rw [hE,if_neg he])
 ·have h6 : k=6:=by omega
  subst h6
  exact ret_fn H hm (outs1 Tryz.results16 Wh) (by rw [←looks_check,hp];rfl)
end Go.Proofs.YtnppmeeibbefbaaGreatDoor
namespace Go.Wk
open Go
structure CloR (P:Program) (gf:FuncId) (caps:List Value) {σ:Type} (R:σ→List Res) (F:Cx→Prop) (dom:σ→Tm→Prop) (step:σ→Tm→σ) (ret:σ→Tm→Tm) : Prop where
 call : ∀s t c,F c→dom s t→CnT P gf (.agg t.cs.toArray::caps) (R s) (R (step s t)) c (fun v _=>v=.agg (ret s t).cs.toArray)
theorem Vals.rep (m:Nat) (t:Tm) (c:Cx) : Vals (List.replicate m t.cs) (List.replicate m t) c :=
 ⟨by simp,fun i cs x h1 h2=>by
  simp only [List.getElem?_replicate] at h1 h2
  split at h1
  ·simp_all [Enc.Ok]
  ·cases h1⟩
theorem take_set_succ {α:Type} {acc:List α} {k:Nat} {x:α} (h:k<acc.length) : (acc.set k x).take (k+1)=acc.take k++[x]:=by
 rw [List.take_add_one,List.take_set_of_le (Nat.le_refl _)]
 simp [h]
section
variable {P : Program} {Q : Exit → Act → World → Prop} {n : Nat} {f : Nat → Value} {c0 c : Cx} {L : List Res} {A : Cx → Prop}
theorem wc_freeze {x:Code} {b:Nat} {cs:List Value} {T:TypeId} (H:Owns c0 (.obj b (.cells cs.toArray T (0,0))::L) c) (HA:Hd A c) [Mono A]
  (k:∀c',Owns c0 L c'→Hd (fun c=>Box b cs c∧A c) c'→WC P x Q n f c'.w) : WC P x Q n f c.w :=
 have h:=H.freeze
 k ⟨c.w,fun x=>c.M x∧(Res.obj b (.cells cs.toArray T (0,0))).blk≠some x⟩ h.2 ⟨⟨⟨⟨T,(0,0),(H.res _ (List.mem_cons_self ..)).1⟩,fun h=>h.2 rfl⟩,Mono.mono h.1 HA.h⟩⟩
end
def argRow (e:TypeId) (a:At0) (w:Value) : Res:=.row w e 3 a.args.length (a.args.map Tm.cs).flatten
def AtF (e:TypeId) (base:Nat) (R:List Res) (a:At0) (v:Value) (c:Cx) : Prop:=∃w,v=.agg (At0.cs a w).toArray∧Sl w a.args c∧FrL base (argRow e a w::R) c
instance (e : TypeId) (base : Nat) (R : List Res) (a : At0) (v : Value) : Mono (AtF e base R a v):=⟨fun h ⟨w,e,k,k2⟩=>⟨w,e,Mono.mono h k,Mono.mono h k2⟩⟩
def argV : Value→Value
 | .agg cs=>cs.getD 4 undef
 | _=>undef
end Go.Wk
namespace Go.Proofs.YtnppmeeibbefbaaGreatDoor
open Go Go.Wk
section
variable {σ : Type} {gf : FuncId} {caps : List Value} {R : σ → List Res} {F : Cx → Prop} [Mono F] {dom : σ → Tm → Prop} {step : σ → Tm → σ} {ret : σ → Tm → Tm} [Ent Tryz.prog gf]
theorem clause_replacedF (K:CloR Tryz.prog gf caps R F dom step ret) (s:σ) (a:At0) (u:Value) (c:Cx) (base:Nat) (RF:List Res) (hR:FrL base RF c) (hF:F c) (h:Ag a u c) (hd:Doms dom step s a.terms) : CnTF base Tryz.prog 53 [u,.func (.func gf) #[] caps.toArray] (R s) (R (a.terms.foldl step s)) c (fun v c=>AtF 32 base RF (repA step ret s a) v c):=by
 refine CnTF.of Tryz.func53 Tryz.ntmps53 rfl rfl fun c0 L0 A0 _ hb0 H HA=>?_
 have hlim : a.args.length<1099511627776:=by obtain ⟨cs,rfl,v,rfl,h⟩:=h;exact h.lim
 have HA:=((HA.add h).add hF).add hR
 (apply wc_seq;apply wc_region)
 (refine s_boxG rfl rfl Lk H HA ?_;intro p c H HA)
 (refine s_alloc rfl (by conv=>lhs;whnf) H HA ?_;intro b4 c H HA)
 (apply Y0;apply wc_seq)
 have H:=H.perm (List.perm_middle (l₁:=R s)).symm
 have H : Owns c0 ((R s++[])++(.obj b4 (.cells (At0.cs ⟨Tn,ES,[]⟩ (.slice none 0 0)).toArray 35 (0,0))::L0)) c:=by rw [List.append_nil];exact H
 refine dw_startE (I:=R s++[]) H HA ?_
 (repeat (refine Dc ?_))
 refine dw_consT (pr:=R s) (po:=R (step s a.by_)) (S:=fun v _=>v=.agg (ret s a.by_).cs.toArray) ?_ (by intro v;infer_instance) ?_
 ·(intro B _ Lx c HA;(repeat (first|rintro vx rfl|(intro vx hx;have HA:=HA.addSF hx;clear hx)|(intro vx hx;skip;have HA:=HA.add hx;clear hx)|(intro vx;have hvx2:Go.Value:=vx;clear hvx2)));(first|intro H|(have H:=HA.h.1;have HA:=HA.cut));change W _ _ _ _ _ _ _)
  refine s_callVT (pre:=R s) (post:=R (step s a.by_)) rfl rfl rfl H HA (K.call s a.by_ _ Lk hd.1) ?_
  intro vx c H HA
  exact w_nil (pq_turn H Cu HA.h.1)
 (repeat (refine Dc ?_))
 refine dw_cons (s:=.row 32 3 (List.replicate a.args.length Tn).length (List.replicate a.args.length Tn.cs).flatten) ?_ inferInstance ?_
 ·(intro B _ Lx c H HA;(repeat (first|rintro vx rfl|(intro vx hx;have HA:=HA.addSF hx;clear hx)|(intro vx hx;have HA:=HA.add hx;clear hx)|intro vx));change W _ _ _ _ _ _ _)
  refine s_makeF (α:=Tm) (u:=Tn) (cv:=Tm.cs) rfl rfl rfl rfl (fun _=>rfl) rfl rfl hlim H HA inferInstance ?_
  intro vx c H HA
  exact w_nil (pq_row H Cu)
 refine dw_consE (pv:=some 9) (r:=.row undef 0 0 0 []) (sel:=argV) (S:=fun v _=>∃w,v=.agg (At0.cs ⟨ret s a.by_,a.name,[]⟩ w).toArray) (e:=32) (kk:=3) (m:=(List.replicate a.args.length Tn).length) (xs:=(List.replicate a.args.length Tn.cs).flatten) ?_ (by intro v;infer_instance) ?_
 ·(intro B _ Lx c HA;(repeat (first|rintro vx rfl|(intro vx hx;have HA:=HA.addSF hx;clear hx)|(intro vx hx;skip;have HA:=HA.add hx;clear hx)|(intro vx;have hvx2:Go.Value:=vx;clear hvx2)));(first|intro H|(have H:=HA.h.1;have HA:=HA.cut));change W _ _ _ _ _ _ _)
  have H : Owns c0 (.row vx 32 3 (List.replicate a.args.length Tn).length (List.replicate a.args.length Tn.cs).flatten::(Lx++(.obj b4 (.cells (At0.cs ⟨Tn,ES,[]⟩ (.slice none 0 0)).toArray 35 (0,0))::L0))) c:=H
  have hvc:=H.rowCells (List.Mem.head _)
  apply s_build
  exact rfl
  focus ((repeat (first|exact bld_nil|(apply bld_cons;(conv=>lhs;whnf))));done)
  focus ((repeat' (first|exact Fil.nil|apply Fil.take|apply Fil.skip|exact App.nil|apply App.cons|exact hvc|exact Cells.lit rfl|exact rfl));done)
  exact w_nil (pq_eff H Cu ⟨_,rfl⟩)
 (repeat (refine Dc ?_))
 refine dw_doneT mixed (I:=R s++[]) (by kernel_rfl) H HA (by kernel_rfl) ?_
 clear H HA
 intro c HA
 intro v1 h1 v3 h3 v4 h4 v6 h6 v7 h7 v9 v10 h10 b5 H
 obtain ⟨w,rfl⟩:=h10
 subst h3
 have H : Owns c0 ((R (step s a.by_)++([.row w 32 3 (List.replicate a.args.length Tn).length (List.replicate a.args.length Tn.cs).flatten,.obj b5 (.cells (At0.cs ⟨Tn,ES,[]⟩ (.slice none 0 0)).toArray 35 (0,0))]++[]))++(.obj b4 (.cells (At0.cs ⟨Tn,ES,[]⟩ (.slice none 0 0)).toArray 35 (0,0))::L0)) c:=H
 rw [List.append_nil,List.append_assoc] at H
 have H:=H.perm (List.perm_append_comm_assoc ..)
 have H:=H.perm (((List.perm_middle (l₁:=R (step s a.by_))).cons _).cons _)
 have HA:=HA.add (Vals.rep a.args.length Tn c)
 change W _ _ _ _ _ _ _
 (refine Z76 fun c H HA=>?_;apply Y0;apply wc_seq;apply Y1;refine Z35 HA fun vx HA=>?_;refine Z37 HA fun vx HA=>?_;refine Z45 ?_;refine Z0 ?_;apply Y0;apply wc_block)
 have hd2:=hd.2
 change Doms dom step (step s a.by_) a.args at hd2
 have hrp : repA step ret s a=⟨ret s a.by_,a.name,outS step ret (step s a.by_) a.args⟩:=rfl
 have hfo : a.terms.foldl step s=a.args.foldl step (step s a.by_):=rfl
 rw [hrp,hfo]
 generalize step s a.by_=s1 at H hd2 ⊢
 (obtain ⟨va,rfl⟩:∃x,x=vx:=⟨_,rfl⟩)
 refine wc_loopG (σ:=Nat×σ×List Tm×List (List Value)) (fun y=>a.args.length-y.1) (fun y=>[(1,.func (.func gf) #[] caps.toArray),(2,p),(4,.pointer (some ⟨b4,0,none⟩)),(5,.pointer (some ⟨b5,0,none⟩)),(20,va),(21,.int .i64 a.args.length),(22,.int .i64 y.1)])
  (fun y=>y.1≤a.args.length∧y.2.2.1.length=a.args.length∧y.2.2.1.take y.1++outS step ret y.2.1 (a.args.drop y.1)=outS step ret s1 a.args∧(a.args.drop y.1).foldl step y.2.1=a.args.foldl step s1∧Doms dom step y.2.1 (a.args.drop y.1))
  (fun y=>.row w 32 3 y.2.2.1.length y.2.2.2.flatten::.obj b5 (.cells (At0.cs ⟨ret s a.by_,a.name,[]⟩ w).toArray 35 (0,0))::.obj b4 (.cells (At0.cs ⟨Tn,ES,[]⟩ (.slice none 0 0)).toArray 35 (0,0))::(R y.2.1++L0))
  (fun y c=>Vals y.2.2.2 y.2.2.1 c) (0,s1,List.replicate a.args.length Tn,List.replicate a.args.length Tn.cs) H.swap HA Lk Ks ⟨Nat.zero_le _,by simp,rfl,rfl,hd2⟩ ?_
 intro y g c hp H HA
 obtain ⟨k,z,acc,vals⟩:=y
 obtain ⟨hk,hlen,hacc,hfo,hd⟩:=hp
 dsimp only at hk hlen hacc hfo hd H HA ⊢
 (repeat' (first|refine Z0 ?_|apply w_nil|apply wc_seq|apply wc_region|apply wx_next|refine Z18 ?_|refine Z19 ?_|apply wc_ret|apply wc_exit|apply wc_skip|apply wc_block|apply wx_exit_then|apply wx_exit_same|refine Z42 ?_|refine Z78 fun c H HA=>?_|refine Z93 (fun hq=>?_) fun hq=>?_))
 ·obtain ⟨t,ht⟩:=getq (xs:=a.args) (k:=k) (by omega)
  have hdr:=drop_get ht
  rw [hdr] at hacc hfo hd
  (refine Z34 HA fun vx HA=>?_;refine Z38 ?_;refine Z61 fun bx c H HA=>?_;refine Z2 ?_;refine Z74 fun c H HA=>?_;apply Y0)
  (refine wc_freeze H HA ?_;intro c H HA)
  have H : Owns c0 ([.row w 32 3 acc.length vals.flatten,.obj b5 (.cells (At0.cs ⟨ret s a.by_,a.name,[]⟩ w).toArray 35 (0,0)),.obj b4 (.cells (At0.cs ⟨Tn,ES,[]⟩ (.slice none 0 0)).toArray 35 (0,0))]++(R z++L0)) c:=H
  have H:=H.perm (List.perm_append_comm_assoc ..)
  rw [←List.append_nil (R z)] at H
  refine dw_startE (I:=R z++[]) H HA ?_
  (repeat (refine Dc ?_))
  refine dw_consT (pr:=R z) (po:=R (step z t)) (S:=fun v _=>v=.agg (ret z t).cs.toArray) ?_ (by intro v;infer_instance) ?_
  ·(intro B _ Lx c HA;(repeat (first|rintro vx rfl|(intro vx hx;have HA:=HA.addSF hx;clear hx)|(intro vx hx;skip;have HA:=HA.add hx;clear hx)|(intro vx;have hvx2:Go.Value:=vx;clear hvx2)));(first|intro H|(have H:=HA.h.1;have HA:=HA.cut));change W _ _ _ _ _ _ _)
   refine s_callVT (pre:=R z) (post:=R (step z t)) rfl rfl rfl H HA (K.call z t _ Lk hd.1) ?_
   intro vx c H HA
   exact w_nil (pq_turn H Cu HA.h.1)
  refine dw_doneT mixed (I:=R z++[]) (by kernel_rfl) H HA (by kernel_rfl) ?_
  clear H HA
  intro c HA
  intro v5 h5 H
  subst h5
  have H : Owns c0 ((R (step z t)++[])++([.row w 32 3 acc.length vals.flatten,.obj b5 (.cells (At0.cs ⟨ret s a.by_,a.name,[]⟩ w).toArray 35 (0,0)),.obj b4 (.cells (At0.cs ⟨Tn,ES,[]⟩ (.slice none 0 0)).toArray 35 (0,0))]++L0)) c:=H
  rw [List.append_nil] at H
  have H:=H.perm (List.perm_append_comm_assoc ..)
  change W _ _ _ _ _ _ _
  (refine Z63 fun rp hrp=>?_)
  (refine s_stRA (u:=ret z t) rfl rfl hrp H Lk (by omega) rfl rfl HA inferInstance ?_;intro c H HA)
  (apply w_nil;apply wx_norm_block;apply wx_next;apply wc_region;refine Z46 ?_;refine Z0 ?_;apply w_nil)
  exact wx_loopG ((k+1,step z t,acc.set k (ret z t),vals.set k (ret z t).cs)) H Cu Lk Ks (by simp;omega) ⟨by simp;omega,by simpa using hlen,by
   rw [take_set_succ (by omega),List.append_assoc]
   exact hacc,hfo,hd.2⟩
 ·have e0 : a.args.drop k=[]:=List.drop_eq_nil_of_le (by omega)
  rw [e0] at hacc hfo
  have hz : z=a.args.foldl step s1:=hfo
  have hacc : acc=outS step ret s1 a.args:=by
   rw [←hacc,List.take_of_length_le (by omega)]
   simp [outS]
  have hvv:=vals_is (cv:=Tm.cs) (Lk:Vals vals acc c)
  subst hvv
  (refine wx_freezeF H.swap HA Lk hb0 Lk rfl rfl (by simp only [LIM];omega) ?_;intro c H HA)
  rw [←hz,←hacc]
  exact ret_fnT H.drop.drop Ca (outsR1 Tryz.results53 (RV.agg rfl H Ow Rc)) ⟨w,rfl,Lk,Lk⟩
end
end Go.Proofs.YtnppmeeibbefbaaGreatDoor
namespace Go.Wk
open Go
def argRows (e:TypeId) (xs:List At0) (ws:List Value) : List Res:=List.zipWith (argRow e) xs ws
def atCells (xs:List At0) (ws:List Value) : List (List Value):=List.zipWith At0.cs xs ws
theorem argRows_snoc {e:TypeId} {xs:List At0} {ws:List Value} {a:At0} {w:Value} (h:ws.length=xs.length) : argRows e (xs++[a]) (ws++[w])=argRows e xs ws++[argRow e a w]:=by
 unfold argRows
 rw [List.zipWith_append h.symm]
 rfl
theorem atCells_snoc {xs:List At0} {ws:List Value} {a:At0} {w:Value} (h:ws.length=xs.length) : atCells (xs++[a]) (ws++[w])=atCells xs ws++[At0.cs a w]:=by
 unfold atCells
 rw [List.zipWith_append h.symm]
 rfl
def BsF (e:TypeId) (base:Nat) (R:List Res) (a:At0) (v:Value) (c:Cx) : Prop:=∃w,SlV [a] [At0.cs a w] v c∧FrL base (argRow e a w::R) c
instance (e : TypeId) (base : Nat) (R : List Res) (a : At0) (v : Value) : Mono (BsF e base R a v):=⟨fun h ⟨w,k,k2⟩=>⟨w,Mono.mono h k,Mono.mono h k2⟩⟩
def clRows (eT eA eS:TypeId) (x:Cl) (v0 v1 v2:Value) (ws:List Value) : List Res :=
 .row v2 eS 7 x.tests.length (x.tests.map Ts.cs).flatten::.row v1 eA 5 x.body.length (atCells x.body ws).flatten::(argRows eT x.body ws++[argRow eT x.head v0])
def ClF (eT eA eS:TypeId) (base:Nat) (R:List Res) (x:Cl) (v:Value) (c:Cx) : Prop:=∃v0 v1 v2 ws,v=.agg (Cl.cs x v0 v1 v2).toArray∧ws.length=x.body.length∧Sl v0 x.head.args c∧Sl v1 x.body c∧Sl v2 x.tests c∧Vals (atCells x.body ws) x.body c∧FrL base (clRows eT eA eS x v0 v1 v2 ws++R) c
instance (eT eA eS : TypeId) (base : Nat) (R : List Res) (x : Cl) (v : Value) : Mono (ClF eT eA eS base R x v):=⟨fun h ⟨v0,v1,v2,ws,e,l,k0,k1,k2,k3,k4⟩=>⟨v0,v1,v2,ws,e,l,Mono.mono h k0,Mono.mono h k1,Mono.mono h k2,Mono.mono h k3,Mono.mono h k4⟩⟩
theorem ClF.ag {eT eA eS:TypeId} {base:Nat} {R:List Res} {x:Cl} {v:Value} {c:Cx} (h:ClF eT eA eS base R x v c) : Ag x v c:=by
 obtain ⟨v0,v1,v2,ws,rfl,_,k0,k1,k2,_⟩:=h
 exact ⟨_,rfl,v0,v1,v2,rfl,k0,k1,k2⟩
end Go.Wk
namespace Go.Proofs.YtnppmeeibbefbaaGreatDoor
open Go Go.Wk
section
variable {σ : Type} {gf : FuncId} {caps : List Value} {R : σ → List Res} {F : Cx → Prop} [Mono F] {dom : σ → Tm → Prop} {step : σ → Tm → σ} {ret : σ → Tm → Tm} [Ent Tryz.prog gf]
theorem clause_turnedF (K:CloR Tryz.prog gf caps R F dom step ret) (s:σ) (x:Cl) (u:Value) (c:Cx) (base:Nat) (RF:List Res) (hR:FrL base RF c) (hF:F c) (h:Ag x u c) (hd:Doms dom step s x.terms) : CnTF base Tryz.prog 31 [u,.func (.func gf) #[] caps.toArray] (R s) (R (x.terms.foldl step s)) c (fun v c=>ClF 32 35 107 base RF (repC step ret s x) v c):=by
 refine CnTF.of Tryz.func31 Tryz.ntmps31 rfl rfl fun c0 L0 A0 _ hb0 H HA=>?_
 have hlb : x.body.length<1099511627776:=by obtain ⟨cs,rfl,v,v1,v2,rfl,h⟩:=h;exact h.2.1.lim
 have hlt : x.tests.length<1099511627776:=by obtain ⟨cs,rfl,v,v1,v2,rfl,h⟩:=h;exact h.2.2.lim
 have hd1:=Doms.app (l1:=x.head.terms++x.bodyTerms) (l2:=x.testTerms) hd
 have hd2:=Doms.app hd1.1
 have hfo : x.terms.foldl step s=x.testTerms.foldl step (x.bodyTerms.foldl step (x.head.terms.foldl step s)):=by
  show ((x.head.terms++x.bodyTerms)++x.testTerms).foldl step s=_
  rw [List.foldl_append,List.foldl_append]
 have hd3:=hd1.2
 rw [List.foldl_append] at hd3
 have HA:=((HA.add h).add hF).add hR
 (apply wc_seq;apply wc_region)
 (refine s_boxG rfl rfl Lk H HA ?_;intro p c H HA)
 (refine s_alloc rfl (by conv=>lhs;whnf) H HA ?_;intro b4 c H HA)
 (apply Y2;refine Z35 HA fun vx HA=>?_;refine Z39 HA fun vx HA=>?_;refine Z0 ?_)
 have H:=H.perm (List.perm_middle (l₁:=R s)).symm
 (refine s_callTF (pre:=R s) (post:=R (x.head.terms.foldl step s)) rfl rfl H HA hb0 (clause_replacedF K s x.head _ _ base RF Lk Lk Lk hd2.1) ?_;intro vx c H HA)
 have H:=H.perm (List.perm_middle (l₁:=R (x.head.terms.foldl step s)))
 obtain ⟨w0,rfl,hw0,hf0⟩:=HA.h.1
 have HA:=(HA.cut.add hw0).add hf0
 (refine Z54 ?_)
 (refine s_alloc rfl (by conv=>lhs;whnf) H HA ?_;intro b5 c H HA)
 (refine Z74 fun c H HA=>?_;apply Y0;apply wc_seq;apply Y1;refine Z35 HA fun vx HA=>?_;refine Z37 HA fun vx HA=>?_;refine Z45 ?_;refine Z0 ?_;apply Y0;apply wc_block)
 have H:=H.nilR At0 35 5
 have hrc : repC step ret s x=⟨repA step ret s x.head,repAs step ret (x.head.terms.foldl step s) x.body,repTs step ret (x.bodyTerms.foldl step (x.head.terms.foldl step s)) x.tests⟩:=rfl
 rw [hrc,hfo]
 have hd22:=hd2.2
 generalize x.head.terms.foldl step s=s1 at H hd22 hd3 ⊢
 (obtain ⟨va,rfl⟩:∃x,x=vx:=⟨_,rfl⟩)
 have hf0' : FrL base (argRows 32 [] []++(argRow 32 (repA step ret s x.head) w0::RF)) c:=Lk
 refine wc_loopG (σ:=Nat×σ×List At0×Value×List Value) (fun y=>x.body.length-y.1) (fun y=>[(1,.func (.func gf) #[] caps.toArray),(2,p),(4,.pointer (some ⟨b4,0,none⟩)),(5,.pointer (some ⟨b5,0,none⟩)),(17,va),(18,.int .i64 x.body.length),(19,.int .i64 y.1)])
  (fun y=>y.1≤x.body.length∧y.2.2.1.length=y.1∧y.2.2.2.2.length=y.2.2.1.length∧y.2.2.1++repAs step ret y.2.1 (x.body.drop y.1)=repAs step ret s1 x.body∧((x.body.drop y.1).flatMap At0.terms).foldl step y.2.1=x.bodyTerms.foldl step s1∧Doms dom step y.2.1 ((x.body.drop y.1).flatMap At0.terms))
  (fun y=>.row y.2.2.2.1 35 5 y.2.2.1.length (atCells y.2.2.1 y.2.2.2.2).flatten::.obj b5 (.cells (Cl.cs ⟨repA step ret s x.head,[],[]⟩ w0 (y.2.2.2.1) (.slice none 0 0)).toArray 39 (0,0))::.obj b4 (.cells (Cl.cs ⟨⟨Tn,ES,[]⟩,[],[]⟩ (.slice none 0 0) (.slice none 0 0) (.slice none 0 0)).toArray 39 (0,0))::(R y.2.1++L0))
  (fun y c=>Vals (atCells y.2.2.1 y.2.2.2.2) y.2.2.1 c∧FrL base (argRows 32 y.2.2.1 y.2.2.2.2++(argRow 32 (repA step ret s x.head) w0::RF)) c) (0,s1,[],.slice none 0 0,[]) H HA ⟨Vals.nil _,hf0'⟩ Ks ⟨Nat.zero_le _,rfl,rfl,rfl,rfl,hd22⟩ ?_
 intro y g c hp H HA
 obtain ⟨k,z,acc,vb,ws⟩:=y
 obtain ⟨hk,hlen,hwl,hacc,hfo,hd⟩:=hp
 dsimp only at hk hlen hwl hacc hfo hd H HA ⊢
 have HA:=(HA.cut.add HA.h.1.2).add HA.h.1.1
 (repeat' (first|refine Z0 ?_|apply w_nil|apply wc_seq|apply wc_region|apply wx_next|refine Z18 ?_|refine Z19 ?_|apply wc_exit|apply wc_skip|apply wc_block|apply wx_exit_then|apply wx_exit_same|refine Z35 HA fun vx HA=>?_|refine Z37 HA fun vx HA=>?_|refine Z45 ?_|refine Z93 (fun hq=>?_) fun hq=>?_))
 ·obtain ⟨t,ht⟩:=getq (xs:=x.body) (k:=k) (by omega)
  have hdr:=drop_get ht
  rw [hdr,List.flatMap_cons] at hfo hd
  rw [hdr] at hacc
  rw [List.foldl_append] at hfo
  have hdd:=Doms.app hd
  (refine Z34 HA fun vx HA=>?_;refine Z39 HA fun vx HA=>?_;refine Z61 fun bx c H HA=>?_)
  (refine s_storeG (α:=At0) rfl rfl Lk rfl rfl H HA ?_;intro c H HA)
  (apply Y0)
  have H : Owns c0 ([.row vb 35 5 acc.length (atCells acc ws).flatten,.obj b5 (.cells (Cl.cs ⟨repA step ret s x.head,[],[]⟩ w0 (vb) (.slice none 0 0)).toArray 39 (0,0)),.obj b4 (.cells (Cl.cs ⟨⟨Tn,ES,[]⟩,[],[]⟩ (.slice none 0 0) (.slice none 0 0) (.slice none 0 0)).toArray 39 (0,0))]++(R z++L0)) c:=H
  have H:=H.perm (List.perm_append_comm_assoc ..)
  rw [←List.append_nil (R z)] at H
  refine dw_startE (I:=R z++[]) H HA ?_
  (repeat (refine Dc ?_))
  refine dw_consT (pr:=R z) (po:=R (t.terms.foldl step z)) (S:=fun v c=>AtF 32 base (argRows 32 acc ws++(argRow 32 (repA step ret s x.head) w0::RF)) (repA step ret z t) v c) ?_ (by intro v;infer_instance) ?_
  ·(intro B _ Lx c HA;(repeat (first|rintro vx rfl|(intro vx hx;have HA:=HA.addSF hx;clear hx)|(intro vx hx;skip;have HA:=HA.add hx;clear hx)|(intro vx;have hvx2:Go.Value:=vx;clear hvx2)));(first|intro H|(have H:=HA.h.1;have HA:=HA.cut));change W _ _ _ _ _ _ _)
   refine s_callTF (pre:=R z) (post:=R (t.terms.foldl step z)) rfl rfl H HA hb0 (clause_replacedF K z t _ _ base (argRows 32 acc ws++(argRow 32 (repA step ret s x.head) w0::RF)) Lk Lk Lk hdd.1) ?_
   intro vx c H HA
   exact w_nil (pq_turn H Cu HA.h.1)
  refine dw_cons (s:=.rel (BsF 32 base (argRows 32 acc ws++(argRow 32 (repA step ret s x.head) w0::RF)) (repA step ret z t))) ?_ inferInstance ?_
  ·(intro B _ Lx c H HA;(repeat (first|rintro vx rfl|(intro vx hx;have HA:=HA.addSF hx;clear hx)|(intro vx hx;have HA:=HA.add hx;clear hx)|intro vx));change W _ _ _ _ _ _ _)
   obtain ⟨w,rfl,k1,k2⟩:=HA.h.1
   have HA:=HA.cut.add k2
   refine s_bs1V (α:=At0) (cs:=At0.cs (repA step ret z t) w) (u:=repA step ret z t) rfl rfl (show Enc.Ok (At0.cs (repA step ret z t) w) (repA step ret z t) _ from ⟨w,rfl,k1⟩) rfl rfl rfl H HA inferInstance ?_
   intro vx c H HA
   exact w_nil (pq_rel H Cu ⟨w,HA.h.1,Lk⟩)
  refine dw_doneT mixed (I:=R z++[]) (by kernel_rfl) H HA (by kernel_rfl) ?_
  clear H HA
  intro c HA v2 h2 v4 h4 v5 h5 H
  obtain ⟨w,h5,h6⟩:=h5
  have HA:=(HA.add h6).add h5
  have H : Owns c0 ((R (t.terms.foldl step z)++[])++([.row vb 35 5 acc.length (atCells acc ws).flatten,.obj b5 (.cells (Cl.cs ⟨repA step ret s x.head,[],[]⟩ w0 (vb) (.slice none 0 0)).toArray 39 (0,0)),.obj b4 (.cells (Cl.cs ⟨⟨Tn,ES,[]⟩,[],[]⟩ (.slice none 0 0) (.slice none 0 0) (.slice none 0 0)).toArray 39 (0,0))]++L0)) c:=H
  rw [List.append_nil] at H
  have H:=H.perm (List.perm_append_comm_assoc ..)
  change W _ _ _ _ _ _ _
  (skip)
  (refine s_appV rfl rfl rfl (Lk:SlV [repA step ret z t] [At0.cs (repA step ret z t) w] v5 _) rfl rfl rfl Lt H HA inferInstance ?_;intro vx c H HA)
  have eV : Vals (atCells (acc++[repA step ret z t]) (ws++[w])) (acc++[repA step ret z t]) c:=by
   rw [atCells_snoc hwl]
   exact (Lk:Vals (atCells acc ws) acc c).append (Lk:SlV [repA step ret z t] [At0.cs (repA step ret z t) w] v5 c).1
  have eF : FrL base (argRows 32 (acc++[repA step ret z t]) (ws++[w])++(argRow 32 (repA step ret s x.head) w0::RF)) c:=by
   rw [argRows_snoc hwl,List.append_assoc]
   exact FrL.perm (Lk:FrL base (argRow 32 (repA step ret z t) w::(argRows 32 acc ws++(argRow 32 (repA step ret s x.head) w0::RF))) c) List.perm_middle.symm
  rw [show (atCells acc ws).flatten++[At0.cs (repA step ret z t) w].flatten=(atCells (acc++[repA step ret z t]) (ws++[w])).flatten by rw [atCells_snoc hwl,List.flatten_append],show acc.length + [repA step ret z t].length=(acc++[repA step ret z t]).length by simp] at H
  have HA:=(HA.add eF).add eV
  (refine Z3 ?_;refine Z77 fun c H HA=>?_;apply w_nil;apply wx_norm_block;apply wx_next;apply wc_region;refine Z46 ?_;refine Z0 ?_;apply w_nil)
  exact wx_loopG ((k+1,t.terms.foldl step z,acc++[repA step ret z t],vx,ws++[w])) H.swap Cu ⟨Lk,Lk⟩ Ks (by simp;omega) ⟨by simp;omega,by simp;omega,by simp [hwl],by
   rw [List.append_assoc]
   exact hacc,hfo,hdd.2⟩
 ·have e0 : x.body.drop k=[]:=List.drop_eq_nil_of_le (by omega)
  rw [e0] at hacc hfo
  have hz : z=x.bodyTerms.foldl step s1:=hfo
  have hacc : acc=repAs step ret s1 x.body:=by
   rw [←hacc]
   simp [repAs]
  rw [←hz] at hd3 ⊢
  (refine wc_freezeF H HA Lk hb0 Lk rfl rfl (by simp only [LIM];omega) ?_;intro c H HA)
  have hwl2 : ws.length=(repAs step ret s1 x.body).length:=by rw [hwl,hacc]
  rw [hacc] at HA
  clear hacc hz hfo hd
  have H:=H.nilR Ts 107 7
  (obtain ⟨va2,rfl⟩:∃x,x=vx:=⟨_,rfl⟩)
  refine wc_loopG (σ:=Nat×σ×List Ts×Value×List (List Value)) (fun y=>x.tests.length-y.1) (fun y=>[(1,.func (.func gf) #[] caps.toArray),(2,p),(4,.pointer (some ⟨b4,0,none⟩)),(5,.pointer (some ⟨b5,0,none⟩)),(33,va2),(34,.int .i64 x.tests.length),(35,.int .i64 y.1)])
   (fun y=>y.1≤x.tests.length∧y.2.2.1.length=y.1∧y.2.2.1++repTs step ret y.2.1 (x.tests.drop y.1)=repTs step ret z x.tests∧((x.tests.drop y.1).flatMap fun t=>[t.l,t.r]).foldl step y.2.1=x.testTerms.foldl step z∧Doms dom step y.2.1 ((x.tests.drop y.1).flatMap fun t=>[t.l,t.r]))
   (fun y=>.row y.2.2.2.1 107 7 y.2.2.1.length y.2.2.2.2.flatten::.obj b5 (.cells (Cl.cs ⟨repA step ret s x.head,[],[]⟩ w0 (vb) (y.2.2.2.1)).toArray 39 (0,0))::.obj b4 (.cells (Cl.cs ⟨⟨Tn,ES,[]⟩,[],[]⟩ (.slice none 0 0) (.slice none 0 0) (.slice none 0 0)).toArray 39 (0,0))::(R y.2.1++L0))
   (fun y c=>Vals y.2.2.2.2 y.2.2.1 c) (0,z,[],.slice none 0 0,[]) H HA (Vals.nil _) Ks ⟨Nat.zero_le _,rfl,rfl,rfl,hd3⟩ ?_
  intro y g c hp H HA
  obtain ⟨k,z2,acc,vt,vals⟩:=y
  obtain ⟨hk,hlen,hacc,hfo,hd⟩:=hp
  dsimp only at hk hlen hacc hfo hd H HA ⊢
  (repeat' (first|apply w_nil|apply wc_seq|apply wc_region|apply wx_next|refine Z18 ?_|refine Z19 ?_|apply wc_ret|apply wc_exit|apply wc_skip|apply wc_block|apply wx_exit_then|apply wx_exit_same|refine Z42 ?_|refine Z78 fun c H HA=>?_|refine Z93 (fun hq=>?_) fun hq=>?_))
  ·obtain ⟨t,ht⟩:=getq (xs:=x.tests) (k:=k) (by omega)
   have hdr:=drop_get ht
   rw [hdr,List.flatMap_cons] at hfo hd
   rw [hdr] at hacc
   (refine Z34 HA fun vx HA=>?_;refine Z38 ?_;refine Z61 fun bx c H HA=>?_;refine Z74 fun c H HA=>?_;apply Y2;refine Z0 ?_;refine Z3 ?_;refine Z42 ?_)
   (refine w_freeze H HA ?_;intro c H HA)
   have H : Owns c0 ([.row vt 107 7 acc.length vals.flatten,.obj b5 (.cells (Cl.cs ⟨repA step ret s x.head,[],[]⟩ w0 (vb) (vt)).toArray 39 (0,0)),.obj b4 (.cells (Cl.cs ⟨⟨Tn,ES,[]⟩,[],[]⟩ (.slice none 0 0) (.slice none 0 0) (.slice none 0 0)).toArray 39 (0,0))]++(R z2++L0)) c:=H
   have H:=H.perm (List.perm_append_comm_assoc ..)
   (refine s_callVT (pre:=R z2) (post:=R (step z2 t.l)) rfl rfl rfl H HA (K.call z2 t.l _ Lk hd.1) ?_;intro vx c H HA)
   have hvx:=HA.h.1
   have HA:=HA.cut
   subst hvx
   have H:=H.perm (List.perm_append_comm_assoc ..)
   (refine Z61 fun bx c H HA=>?_;refine Z74 fun c H HA=>?_;apply Y0)
   (refine wc_freeze H HA ?_;intro c H HA)
   have H : Owns c0 ([.row vt 107 7 acc.length vals.flatten,.obj b5 (.cells (Cl.cs ⟨repA step ret s x.head,[],[]⟩ w0 (vb) (vt)).toArray 39 (0,0)),.obj b4 (.cells (Cl.cs ⟨⟨Tn,ES,[]⟩,[],[]⟩ (.slice none 0 0) (.slice none 0 0) (.slice none 0 0)).toArray 39 (0,0))]++(R (step z2 t.l)++L0)) c:=H
   have H:=H.perm (List.perm_append_comm_assoc ..)
   rw [←List.append_nil (R (step z2 t.l))] at H
   refine dw_startE (I:=R (step z2 t.l)++[]) H HA ?_
   (repeat (refine Dc ?_))
   refine dw_consT (pr:=R (step z2 t.l)) (po:=R (step (step z2 t.l) t.r)) (S:=fun v _=>v=.agg (ret (step z2 t.l) t.r).cs.toArray) ?_ (by intro v;infer_instance) ?_
   ·(intro B _ Lx c HA;(repeat (first|rintro vx rfl|(intro vx hx;have HA:=HA.addSF hx;clear hx)|(intro vx hx;skip;have HA:=HA.add hx;clear hx)|(intro vx;have hvx2:Go.Value:=vx;clear hvx2)));(first|intro H|(have H:=HA.h.1;have HA:=HA.cut));change W _ _ _ _ _ _ _)
    refine s_callVT (pre:=R (step z2 t.l)) (post:=R (step (step z2 t.l) t.r)) rfl rfl rfl H HA (K.call (step z2 t.l) t.r _ Lk hd.2.1) ?_
    intro vx c H HA
    exact w_nil (pq_turn H Cu HA.h.1)
   (refine Dc ?_)
   (apply dw_cons;(focus ((intro B _ Lx c H HA;(repeat (first|rintro vx rfl|(intro vx hx;have HA:=HA.addSF hx;clear hx)|(intro vx hx;have HA:=HA.add hx;clear hx)|intro vx));change W _ _ _ _ _ _ _);(apply s_bs1D (u:=(⟨t.op,ret z2 t.l,ret (step z2 t.l) t.r⟩:Ts));exact rfl;exact rfl;exact rfl;exact rfl;exact rfl;exact rfl;exact H;exact HA;exact inferInstance;intro vx c H HA);exact Dx));exact inferInstance)
   refine dw_doneT mixed (I:=R (step z2 t.l)++[]) (by kernel_rfl) H HA (by kernel_rfl) ?_
   clear H HA
   intro c HA v8 h8 v10 h10 H
   subst h8
   have HA:=HA.addSF h10
   have H : Owns c0 ((R (step (step z2 t.l) t.r)++[])++([.row vt 107 7 acc.length vals.flatten,.obj b5 (.cells (Cl.cs ⟨repA step ret s x.head,[],[]⟩ w0 (vb) (vt)).toArray 39 (0,0)),.obj b4 (.cells (Cl.cs ⟨⟨Tn,ES,[]⟩,[],[]⟩ (.slice none 0 0) (.slice none 0 0) (.slice none 0 0)).toArray 39 (0,0))]++L0)) c:=H
   rw [List.append_nil] at H
   have H:=H.perm (List.perm_append_comm_assoc ..)
   change W _ _ _ _ _ _ _
   (refine Z59 fun vx c valsx H HA=>?_;refine Z3 ?_;refine Z77 fun c H HA=>?_;apply w_nil;apply wx_norm_block;apply wx_next;apply wc_region;refine Z46 ?_;refine Z0 ?_;apply w_nil)
   exact wx_loopG ((k+1,step (step z2 t.l) t.r,acc++[⟨t.op,ret z2 t.l,ret (step z2 t.l) t.r⟩],vx,valsx)) H.swap Cu Lk Ks (by simp;omega) ⟨by simp;omega,by simp;omega,by
    rw [List.append_assoc]
    exact hacc,hfo,hd.2.2⟩
  ·have e0 : x.tests.drop k=[]:=List.drop_eq_nil_of_le (by omega)
   rw [e0] at hacc hfo
   have hz : z2=x.testTerms.foldl step z:=hfo
   have hacc : acc=repTs step ret z x.tests:=by
    rw [←hacc]
    simp [repTs]
   rw [←hz]
   have hvv:=vals_is (cv:=Ts.cs) (Lk:Vals vals acc c)
   subst hvv
   (refine wx_freezeF H.swap HA Lk hb0 Lk rfl rfl (by simp only [LIM];omega) ?_;intro c H HA)
   rw [hacc] at HA
   refine ret_fnT H.drop.drop Ca (outsR1 Tryz.results31 (RV.agg rfl H Ow Rc)) ⟨w0,vb,vt,ws,rfl,hwl2,Lk,Lk,Lk,Lk,?_⟩
   have hfr:=(Lk:FrL base (.row vt 107 7 _ _::.row vb 35 5 _ _::(argRows 32 (repAs step ret s1 x.body) ws++(argRow 32 (repA step ret s x.head) w0::RF))) c)
   rw [clRows]
   simp only [List.cons_append,List.append_assoc,List.nil_append]
   exact hfr
theorem clause_turned (K:CloR Tryz.prog gf caps R F dom step ret) (s:σ) (x:Cl) (u:Value) (c:Cx) (hF:F c) (h:Ag x u c) (hd:Doms dom step s x.terms) : CnT Tryz.prog 31 [u,.func (.func gf) #[] caps.toArray] (R s) (R (x.terms.foldl step s)) c (fun v c=>Ag (repC step ret s x) v c) :=
 (clause_turnedF K s x u c 0 [] (FrL.nil 0 c) hF h hd).t0 fun _ _ h=>h.ag
end
end Go.Proofs.YtnppmeeibbefbaaGreatDoor
namespace Go.Wk
open Go
def entN (V:List Int) : List (Int×Value):=V.zipIdx.map fun p=>(p.1,.int .i64 p.2)
theorem entN_look (k:Int) : ∀(V:List Int) (i:Nat),mLook ((V.zipIdx i).map fun p=>(p.1,Value.int .i64 p.2)) k=if k∈V then some (.int .i64 (posI V k i)) else none
 | [],i=>rfl
 | v::V,i=>by
  simp only [List.zipIdx_cons,List.map_cons,mLook,List.find?_cons,posI]
  by_cases h : v=k
  ·subst h;simp
  ·have h2 : (v == k)=false:=by simpa using h
   have ih:=entN_look k V (i+1)
   unfold mLook at ih
   simp only [h2,ih,if_neg h,List.mem_cons]
   by_cases hm : k∈V
   ·rw [if_pos hm,if_pos (.inr hm)]
   ·rw [if_neg hm,if_neg (by rintro (e|e);exact h e.symm;exact hm e)]
theorem entN_lk (V:List Int) (k:Int) : mLook (entN V) k=if k∈V then some (.int .i64 (posI V k 0)) else none:=entN_look k V 0
theorem entN_len (V:List Int) : (entN V).length=V.length:=by simp [entN]
theorem entN_add {V:List Int} {k:Int} (h:k∉V) : mSet (entN V) k (.int .i64 V.length)=entN (V++[k]):=by
 unfold mSet
 have : (entN V).findIdx? (fun p=>p.1 == k)=none:=by
  rw [List.findIdx?_eq_none_iff]
  intro p hp
  simp only [entN,List.mem_map] at hp
  obtain ⟨q,hq,rfl⟩:=hp
  have:=List.mem_zipIdx_iff_getElem?.1 hq
  have h3 : q.1∈V:=List.mem_of_getElem? this
  simp
  rintro rfl
  exact h h3
 rw [this]
 simp [entN,List.zipIdx_append]
theorem posI_last : ∀(V:List Int) (k:Int) (i:Nat),k∉V→posI (V++[k]) k i=((i+V.length:Nat):Int)
 | [],k,i,_=>by simp [posI]
 | v::V,k,i,h=>by
  simp only [List.mem_cons,not_or] at h
  simp only [List.cons_append,posI]
  rw [if_neg (fun e=>h.1 e.symm),posI_last V k (i+1) h.2]
  simp
  omega
theorem nr_doms : ∀(ts:List Tm) (V:List Int),Doms (fun _ _=>True) nrS V ts
 | [],_=>trivial
 | _::ts,V=>⟨trivial,nr_doms ts _⟩
theorem same_doms : ∀(ts:List Tm),Doms (fun _ _=>True) (fun (_:Unit) (_:Tm)=>()) () ts
 | []=>trivial
 | _::ts=>⟨trivial,same_doms ts⟩
end Go.Wk
namespace Go.Proofs.YtnppmeeibbefbaaGreatDoor
open Go Go.Wk
theorem nr_clo (pb mb:Nat) : CloR Tryz.prog 32 [.pointer (some ⟨pb,0,none⟩)] (fun V=>[.obj mb (mObj (entN V))]) (Box pb [.map (some mb)]) (fun _ _=>True) nrS nrR:=⟨by
 intro V t c hF hd
 refine CnT.of Tryz.func32 Tryz.ntmps32 rfl rfl fun c0 L0 A0 _ H HA=>?_
 have HA:=HA.add hF
 have H : Owns c0 (.obj mb (mObj (entN V))::L0) c:=H
 (apply Y1;refine Z31 fun bx c H HA=>?_;refine Z61 fun bx c H HA=>?_;apply Y0;apply wc_seq;apply Y1;refine Z7 ?_)
 (refine s_call rfl rfl H HA (term_Variable t _) ?_;intro vx c H HP;have hvx:=HP.h.1;have HA:=HP.cut;subst hvx)
 cases hv : t.isVar
 ·(refine Z33 ?_;apply Y0;refine Z18 ?_;apply Y1;refine Z7 ?_;refine Z74 fun c H HA=>?_;apply Y0;apply wc_ret;apply wx_ret_then)
  have e1 : nrS V t=V:=by simp [nrS,hv]
  have e2 : nrR V t=t:=by simp [nrR,hv]
  rw [e1,e2]
  exact ret_fnT H.drop Ca (outsR1 Tryz.results32 (RV.agg rfl H Ow Rc)) rfl
 ·(repeat' (first|refine Z0 ?_|refine Z1 ?_|refine Z2 ?_|refine Z3 ?_|apply w_nil|apply wc_seq|apply wc_region|apply wx_next|refine Z19 ?_|apply wc_skip|refine Z32 ?_|refine Z33 ?_|refine Z66 ?_))
  rw [entN_lk]
  by_cases hm : t.n∈V
  ·rw [if_pos hm]
   (refine Z19 ?_;apply wc_skip;apply wx_next;apply Y1;refine Z0 ?_;refine Z54 ?_;refine Z74 fun c H HA=>?_;apply Y0;apply wc_ret)
   have e1 : nrS V t=V:=by simp [nrS,hm]
   have e2 : nrR V t=varT (posI V t.n 0):=by simp [nrR,hv,e1]
   rw [e1,e2]
   exact ret_fnT H.drop Ca (outsR1 Tryz.results32 (RV.agg rfl H Ow Rc)) rfl
  ·rw [if_neg hm]
   (refine Z18 ?_;apply Y1;refine Z1 ?_;refine Z72 ?_;refine Z2 ?_;apply Y0;apply wc_region;refine Z1 ?_;refine Z3 ?_;refine Z1 ?_;refine Z0 ?_;refine Z69 fun c H HA=>?_;apply Y2;refine Z0 ?_;refine Z54 ?_;refine Z76 fun c H HA=>?_;apply Y0;apply wc_ret)
   have e1 : nrS V t=V++[t.n]:=by simp [nrS,hv,hm]
   have e2 : nrR V t=varT V.length:=by simp [nrR,hv,e1,posI_last V t.n 0 hm]
   rw [e1,e2,←entN_add hm,←entN_len V]
   exact ret_fnT H.drop Ca (outsR1 Tryz.results32 (RV.agg rfl H Ow Rc)) rfl⟩
theorem clause_NormalF (x:Cl) (u:Value) (c:Cx) (base:Nat) (RF:List Res) (hR:FrL base RF c) (hb0:base≤c.w.heap.size) (h:Ag x u c) : Cn Tryz.prog 18 [u] c (fun v c=>ClF 32 35 107 base RF x.normal v c):=by
 refine Cn.of Tryz.func18 Tryz.ntmps18 rfl rfl fun hm H HA=>?_
 have HA:=(HA.add h).add hR
 (apply wc_seq;apply wc_region)
 (refine s_boxG rfl rfl Lk H HA ?_;intro p c H HA)
 (refine s_alloc rfl (by conv=>lhs;whnf) H HA ?_;intro b2 c H HA)
 (apply Y2;refine Z65 fun mx c H HA=>?_;refine Z61 fun bx c H HA=>?_;refine Z75 fun c H HA=>?_;apply Y2;refine Z39 HA fun vx HA=>?_)
 (refine w_freeze H HA ?_;intro c H HA)
 (skip)
 (refine s_makeFunc (vs:=[.pointer (some ⟨bx,0,none⟩)]) rfl rfl ?_)
 (refine s_callTF (pre:=[.obj mx (mObj (entN []))]) (post:=[.obj mx (mObj (entN (x.terms.foldl nrS [])))]) rfl rfl H HA hb0 (clause_turnedF (nr_clo bx mx) [] x _ _ base RF Lk Lk Lk (nr_doms _ _)) ?_;intro vx c H HA)
 have hfin:=HA.h.1
 rw [nr_repC] at hfin
 have HA:=HA.cut.add hfin
 obtain ⟨v,v1,v2,ws,rfl,_,g0,g1,g2,_⟩:=hfin
 have HA:=((HA.add g0).add g1).add g2
 have H : Owns _ [.obj mx (mObj (entN (x.terms.foldl nrS []))),.obj b2 (.cells (Cl.cs ⟨⟨Tn,ES,[]⟩,[],[]⟩ (.slice none 0 0) (.slice none 0 0) (.slice none 0 0)).toArray 39 (0,0))] _:=H
 (refine Z76 fun c H HA=>?_;apply Y0;apply wc_ret)
 exact ret_fn H hm (outsR1 Tryz.results18 (RV.agg rfl H Ow Rc)) Lk
theorem clause_Normal (x:Cl) (u:Value) (c:Cx) (h:Ag x u c) : Cn Tryz.prog 18 [u] c (fun v c=>Ag x.normal v c) :=
 Cn.imp (clause_NormalF x u c 0 [] (FrL.nil 0 c) (Nat.zero_le _) h) fun _ _ _ h=>h.ag
end Go.Proofs.YtnppmeeibbefbaaGreatDoor
namespace Go.Proofs
open Go.Shelf
end Go.Proofs
namespace Go.Wk
open Go
def SortR {α:Type} [Enc α] (c0:Cx) (L:List Res) (A:Cx→Prop) (v:Value) (e:TypeId) (kk:Nat) (cmp:α→α→Int) (xs:List α) : Ending→World→Prop:=fun en w'=>en=.returned (.tuple #[])∧∃c' vals' xs',c'.w=w'∧xs'.Perm xs∧xs'.Pairwise (fun a b=>cmp a b≤0)∧Owns c0 (.row v e kk xs'.length vals'.flatten::L) c'∧Hd A c'∧Vals vals' xs' c'
section
variable {P : Program} {ops : Array Oper} {Q : Exit → Act → World → Prop} {n : Nat} {f : Nat → Value} {rest : List Oper} {ty : TypeId} {ps : String} {af : Array Edge} {d : Tmp}
variable {c0 c : Cx} {L : List Res} {A : Cx → Prop}
theorem s_sortC {α:Type} [Enc α] {gs:FuncId} {cmp:α→α→Int} {os:Array Operand} {aT:Array TypeId} {vs:List Value} {v:Value} {e:TypeId} {kk:Nat} {xs:List α} (hn:Nat.blt d n=true) [Ent P gs] (hx:os.toList.map (opd f)=vs) (hc:Calls P gs vs.toArray c.w (SortR c0 L A v e kk cmp xs))
  (k:∀c' vals' xs',xs'.Perm xs→xs'.Pairwise (fun a b=>cmp a b≤0)→Owns c0 (.row v e kk xs'.length vals'.flatten::L) c'→Hd (fun c=>Vals vals' xs' c∧A c) c'→W P ops Q rest n (upd f d (.tuple #[])) c'.w) :
  W P ops Q (⟨some d,.call ⟨.value (.func gs),os,aT⟩,ty,ps,af,none⟩::rest) n f c.w:=by
 rw [←hx] at hc
 refine st_enter hn (g:=gs) (args:=(os.toList.map (opd f)).toArray) (by simp [execOp,resolve,Deferred.ofValue,show opd f (.func gs)=.func (.func gs) #[] #[] from rfl,invoke,Ent.h,←Array.toList_map]) (R:=fun r w'=>SortR c0 L A v e kk cmp xs (.returned r) w') (hc.mono fun en w' h=>⟨_,h.1,by have:=h.1;subst this;exact h⟩) ?_
 rintro r w' ⟨he,c',vals',xs',rfl,h1,h2,h3,h4,h5⟩
 cases he
 exact k c' vals' xs' h1 h2 h3 (h4.add h5)
theorem Calls.of {g:FuncId} {fn:Func} {x:Code} {args:List Value} {w:World} {R:Ending→World→Prop} (hf:P.funcs[g]?=some fn) (hn:fn.ntmps=n) (hb:fn.body=some x) (hl:Nat.ble args.length n=true)
  (h:WC P x (bodyPost P fn R) n (frame0 args) w) : Calls P g args.toArray w R:=calls_of_wp hf hb (by subst hn;exact h.go _ (frIs0 (Nat.le_of_ble_eq_true hl)))
theorem norm_any {fn:Func} {R:Ending→World→Prop} {v:Value} {w:World} (ho:Outs P fn f w v) (hR:R (.returned v) w) : WX (bodyPost P fn R) .normal n f w:=⟨fun a ha=>⟨ha.defers,v,ho _ ha.at_,hR⟩⟩
end
end Go.Wk
namespace Go.Proofs.YtnppmeeibbefbaaGreatDoor
open Go Go.Wk Go.Lib
instance : CvI Tryz.prog 3 102 .u64:=.of (by kernel_rfl) (by kernel_rfl)
theorem bits_Len (m:Nat) (c:Cx) (h:m<4611686018427387904) : Cn Tryz.prog 63 [.int .u64 m] c (fun v _=>v=.int .i64 (Lib.bitLen m:Nat)):=Cn.same (by
 have h:=Tryz.bits_Len (m:Int) c.w (by omega) (by omega)
 rwa [Int.toNat_natCast] at h)
theorem term_sorted1 (a b:Bd) (c:Cx) : Cn Tryz.prog 162 [.agg a.cs.toArray,.agg b.cs.toArray] c (fun v _=>v=.int .i64 (cmpB a b)):=by
 refine Cn.of Tryz.func162 Tryz.ntmps162 rfl rfl fun hm H HA=>?_
 (apply Y1;refine Z31 fun bx c H HA=>?_;refine Z31 fun bx c H HA=>?_;refine Z2 ?_;apply Y2;refine Z3 ?_;refine Z1 ?_;refine Z3 ?_;refine Z1 ?_)
 (refine s_call rfl rfl H HA (cmp_Compare _ _ _) ?_;intro vx c H HP;have hvx:=HP.h.1;have HA:=HP.cut;subst hvx)
 (refine Z2 ?_;apply Y0;apply wc_ret)
 exact ret_fn H hm (outs1 Tryz.results162 Wh) (by rw [cmpB])
theorem insBd_0 (p:Option Addr) (cap:Nat) (fv:Value) (c:Cx) : Cn Tryz.prog 180 [.slice p 0 cap,.int .i64 0,.int .i64 0,fv] c (fun v _=>v=.tuple #[]):=by
 refine Cn.of Tryz.func180 Tryz.ntmps180 rfl rfl fun hm H HA=>?_
 (apply Y1;refine Z0 ?_;refine Z48 ?_;refine Z2 ?_;apply Y0;apply wc_block)
 refine wc_loopN 0 (fun _=>[(2,.int .i64 0),(8,.int .i64 (0+1))]) (fun _=>True) 0 H HA Ks (Nat.zero_le _) trivial ?_
 intro k g c hk hp H HA
 (repeat' (first|refine Z0 ?_|refine Z2 ?_|apply w_nil|apply wc_seq|apply wc_region|apply wx_next|refine Z18 ?_|refine Z19 ?_|apply wc_exit|apply wc_skip|apply wc_block|apply wx_exit_then|apply wx_exit_same|refine Z93 (fun hq=>?_) fun hq=>?_))
 ·exfalso;omega
 ·exact norm_fn H hm (outs0 rfl) rfl
theorem pdqBd_0 (p:Option Addr) (cap:Nat) (c:Cx) : Cn Tryz.prog 171 [.slice p 0 cap,.int .i64 0,.int .i64 (0:Nat),.int .i64 (Lib.bitLen 0:Nat),.func (.func 162) #[] #[]] c (fun v _=>v=.tuple #[]):=by
 refine Cn.of Tryz.func171 Tryz.ntmps171 rfl rfl fun hm H HA=>?_
 (apply Y1;refine Z2 ?_;apply Y2;refine Z2 ?_;apply Y0;apply wc_block)
 refine wc_loopN 0 (fun _=>[(0,.slice p 0 cap),(1,.int .i64 0),(2,.int .i64 (0:Nat)),(4,.func (.func 162) #[] #[])]) (fun _=>True) 0 H HA Ks (Nat.zero_le _) trivial ?_
 intro k g c hk hp H HA
 (repeat' (first|refine Z0 ?_|refine Z2 ?_|apply w_nil|apply wc_seq|apply wc_region|apply wx_next|refine Z18 ?_|refine Z19 ?_|apply wc_skip|apply wc_block|refine Z50 ?_|refine Z95 (fun hq=>?_) fun hq=>?_))
 ·(refine s_call rfl rfl H HA (insBd_0 _ _ _ _) ?_;intro vx c H HP;have hvx:=HP.h.1;have HA:=HP.cut;subst hvx)
  (apply Y0;apply wc_ret;apply wx_ret_then;apply wx_ret_block;apply wx_ret_then;apply wx_ret_block)
  exact ret_fn H hm (outs0 rfl) rfl
 all_goals (exfalso;omega)
theorem pdqBd_q : SortsQ Tryz.prog 171 (fun v m=>[v,.int .i64 0,.int .i64 m,.int .i64 (Lib.bitLen m:Nat),.func (.func 162) #[] #[]]) 4 162:=by
 have hf : Tryz.pdqBd_ren.f 14=171:=by kernel_rfl
 have ht : Tryz.pdqBd_ren.t 24=199:=by kernel_rfl
 have h:=pdq_q Tryz.pdqBd (kk:=4) (g:=162) (by rw [ht];exact Agg.ag) (by rw [ht];exact Agg.sz) Ent.h
 rw [hf] at h
 exact h
theorem sortBd (xs:List Bd) {c0 c:Cx} {L:List Res} {A:Cx→Prop} [Mono A] {v:Value} {vals:List (List Value)} (H:Owns c0 (.row v 199 4 xs.length vals.flatten::L) c) (HA:Hd A c) (HV:Vals vals xs c) (hlim:xs.length<1099511627776) :
  Calls Tryz.prog 161 [v,.func (.func 162) #[] #[]].toArray c.w (SortR c0 L A v 199 4 cmpB xs):=by
 refine Calls.of Tryz.func161 Tryz.ntmps161 rfl rfl ?_
 have HA:=HA.add HV
 (apply Y1;refine Z0 ?_;refine Z62 ?_;refine Z2 ?_;apply Y0;apply wc_region;refine Z0 ?_;refine Z0 ?_;refine Z0 ?_)
 refine s_conv rfl rfl (show IntKind.u64.wrap (xs.length:Int)=xs.length by simp [IntKind.wrap,IntKind.bits,IntKind.signed];omega) ?_
 (refine s_call rfl rfl H HA (bits_Len _ _ (by omega)) ?_;intro vx c H HP;have hvx:=HP.h.1;have HA:=HP.cut;subst hvx)
 (refine Z0 ?_)
 refine s_sort (P:=Tryz.prog) (xs:=xs) (good:=fun _=>True) (cmp:=cmpB) (kk:=4) pdqBd_q pdqBd_0 rfl cmpB_p3 rfl rfl H Lk HA (fun _ _=>trivial) ?_ (by omega) ?_
 ·rintro x y u1 u2 c' _ _ ⟨_,rfl,rfl⟩ ⟨_,rfl,rfl⟩ _
  exact term_sorted1 x y c'
 intro c' vals' xs' h1 h2 H HA
 (apply w_nil)
 exact norm_any (outs0 rfl) ⟨rfl,c',vals',xs',rfl,h1,h2,H,HA.cut.cut,HA.h.1⟩
end Go.Proofs.YtnppmeeibbefbaaGreatDoor
namespace Go.Wk
open Go
def bMap (l:List Bd) : List (Int×Value):=l.map fun b=>(b.var,.agg b.to.cs.toArray)
theorem bMap_get {l:List Bd} {i:Nat} {q:Int×Value} (h:(bMap l)[i]?=some q) : ∃b,l[i]?=some b∧q=(b.var,.agg b.to.cs.toArray):=by
 simp only [bMap,List.getElem?_map,Option.map_eq_some_iff] at h
 obtain ⟨b,hb,e⟩:=h
 exact ⟨b,hb,e.symm⟩
theorem nodup_lt : ∀(n:Nat) (l:List Nat),l.Nodup→(∀i∈l,i<n)→l.length≤n
 | 0,l,_,h=>by
  cases l with
  | nil=>simp
  | cons a l=>exact absurd (h a (List.mem_cons_self ..)) (by omega)
 | n+1,l,hn,h=>by
  have h2:=nodup_lt n (l.erase n) (hn.erase n) (fun i hi=>by
   have h3:=(hn.mem_erase_iff).1 hi
   have:=h i h3.2
   omega)
  rw [List.length_erase] at h2
  split at h2<;>omega
theorem perm_of_seen {α:Type} {l acc:List α} {seen:List Nat} (h1:acc.map some=seen.map (l[·]?)) (h2:seen.Nodup) (h3:∀i,i<l.length→i∈seen) (h4:∀i∈seen,i<l.length) : acc.Perm l:=by
 have hp : seen.Perm (List.range l.length):=(List.perm_ext_iff_of_nodup h2 List.nodup_range).2 fun i=>⟨fun h=>List.mem_range.2 (h4 i h),fun h=>h3 i (List.mem_range.1 h)⟩
 have h5:=hp.map (l[·]?)
 rw [←h1] at h5
 have h6 : (List.range l.length).map (l[·]?)=l.map some:=by
  apply List.ext_getElem?
  intro i
  by_cases hi : i<l.length
  ·simp [hi]
  ·simp [hi]
 rw [h6] at h5
 have h7:=h5.filterMap id
 simpa using h7
end Go.Wk
namespace Go.Proofs.YtnppmeeibbefbaaGreatDoor
open Go Go.Wk
instance : MapT Tryz.prog 241 32:=⟨3,.i64,by kernel_rfl,by kernel_rfl⟩
theorem term_sorted (l:List Bd) (mb:Nat) (c:Cx) (h:MapAt mb (bMap l) c) (hlim:l.length<1099511627776) : Cn Tryz.prog 142 [.map (some mb)] c (fun v c=>∃out:List Bd,Sl v out c∧out.Perm l∧out.Pairwise (fun a b=>cmpB a b≤0)):=by
 refine Cn.of Tryz.func142 Tryz.ntmps142 rfl rfl fun hm H HA=>?_
 have HA:=HA.add h
 have hml : (bMap l).length=l.length:=by simp [bMap]
 (apply Y1;refine Z2 ?_;apply Y2;refine Z0 ?_;refine Z71 ?_)
 (refine s_makeC rfl rfl rfl rfl (by simp only [LIM];omega) H HA inferInstance ?_;intro vx c H HA)
 have H : Owns _ [.row vx 199 4 ([]:List Bd).length ([]:List (List Value)).flatten] _:=H
 have HA:=HA.add (Vals.nil (α:=Bd) c)
 (refine Z2 ?_;apply Y0;apply wc_seq;apply Y1;refine Z0 ?_;refine Z73 fun rx c H HA=>?_;apply Y0;apply wc_block)
 (obtain ⟨r0,rfl⟩:∃x,x=rx:=⟨_,rfl⟩)
 rw [hml] at H
 refine wc_loopG (σ:=List Nat×List Bd×Value×List (List Value)) (fun y=>l.length-y.1.length) (fun y=>[(3,y.2.2.1),(10,.pointer (some ⟨r0,0,none⟩))])
  (fun y=>y.2.1.map some=y.1.map (l[·]?)∧y.1.Nodup∧(∀i∈y.1,i<l.length)∧y.2.1.length=y.1.length)
  (fun y=>[.obj r0 (itObj mb l.length y.1),.row y.2.2.1 199 4 y.2.1.length y.2.2.2.flatten])
  (fun y c=>Vals y.2.2.2 y.2.1 c) ([],[],vx,[]) H HA Lk Ks ⟨rfl,List.nodup_nil,(fun _ h=>by cases h),rfl⟩ ?_
 intro y g c hp H HA
 obtain ⟨seen,acc,vr,vals⟩:=y
 obtain ⟨hacc,hnd,hsl,hlen⟩:=hp
 dsimp only at hacc hnd hsl hlen H HA ⊢
 (apply Y1)
 rw [←hml] at H
 refine s_next rfl rfl Lk H HA ?_ ?_
 ·intro hall
  rw [hml] at hall H
  (refine Z32 ?_;apply Y0;apply wc_seq;refine Z19 ?_;apply wc_exit;apply wx_exit_then;apply wx_exit_then;apply wx_exit_same;apply wx_next;apply Y1;refine Z0 ?_)
  have hpm:=perm_of_seen hacc hnd hall hsl
  have hll:=hpm.length_eq
  have H:=H.drop
  refine s_sortC rfl rfl (sortBd acc H HA Lk (by omega)) ?_
  intro c' vals' out hp hs H HA
  have hol:=hp.length_eq
  (apply Y2;refine Z0 ?_;refine Z2 ?_;apply Y0;apply wc_ret)
  (refine wx_freezeRow H HA Lk rfl rfl (by simp only [LIM];omega) ?_;intro c H HA)
  exact ret_fn H hm (outs1 Tryz.results142 Wh) ⟨out,Lk,hp.trans hpm,hs⟩
 ·intro i q c hi hn H HA
  obtain ⟨b,hb,rfl⟩:=bMap_get hi
  have hil : i<l.length:=(List.getElem?_eq_some_iff.1 hb).1
  (refine Z32 ?_;apply Y0;apply wc_seq;refine Z18 ?_;apply wc_skip;apply wx_next;apply wc_block;apply Y1)
  refine s_entry rfl rfl Lk H (List.Mem.head _) hi ?_
  rw [hml] at H
  (refine Z32 ?_;refine Z32 ?_;refine Z61 fun bx c H HA=>?_;refine Z2 ?_;refine Z74 fun c H HA=>?_;apply Y0;apply wc_region;refine Z0 ?_;refine Z0 ?_;refine Z42 ?_;refine Z54 ?_;refine Z56 fun vx c H HA=>?_)
  have H:=H.drop.swap
  have hsn : (seen++[i]).Nodup:=by
   rw [List.nodup_append]
   exact ⟨hnd,by simp,by rintro a ha _ (⟨⟩|⟨_,⟨⟩⟩) rfl;exact hn ha⟩
  have hsl2 : ∀j∈seen++[i],j<l.length:=fun j hj=>by
   simp only [List.mem_append,List.mem_singleton] at hj
   rcases hj with hj|rfl
   ·exact hsl j hj
   ·exact hil
  have hlt:=nodup_lt l.length _ hsn hsl2
  rw [List.length_append,List.length_singleton] at hlt
  (refine Z59 fun vx c valsx H HA=>?_;refine Z2 ?_;apply w_nil;apply wx_norm_block)
  exact wx_loopG ((seen++[i],acc++[b],vx,valsx)) H.swap Cu Lk Ks (by simp;omega) ⟨by simp [hacc,hb],hsn,hsl2,by simp [hlen]⟩
end Go.Proofs.YtnppmeeibbefbaaGreatDoor
namespace Go.Wk
open Go
theorem bMap_look (v:Int) : ∀l : List Bd,mLook (bMap l) v=(lookB l v).map fun t=>.agg t.cs.toArray
 | []=>rfl
 | b::l=>by
  have ih:=bMap_look v l
  unfold mLook bMap at *
  simp only [List.map_cons,List.find?_cons,lookB]
  by_cases h : b.var=v
  ·subst h;simp
  ·have h2 : (b.var == v)=false:=by simpa using h
   simp only [h2,if_neg h]
   exact ih
theorem bMap_add {l:List Bd} {v:Int} {t:Tm} (h:lookB l v=none) : mSet (bMap l) v (.agg t.cs.toArray)=bMap (l++[⟨v,t⟩]):=by
 have : (bMap l).findIdx? (fun p=>p.1 == v)=none:=by
  rw [List.findIdx?_eq_none_iff]
  intro p hp
  simp only [bMap,List.mem_map] at hp
  obtain ⟨b,hb,rfl⟩:=hp
  have:=lookB_none.1 h
  simp
  rintro rfl
  exact this (List.mem_map.2 ⟨b,hb,rfl⟩)
 unfold mSet
 rw [this]
 simp [bMap]
theorem bMap_same {l:List Bd} {v:Int} {t:Tm} (h:lookB l v=some t) : mSet (bMap l) v (.agg t.cs.toArray)=bMap l:=by
 have : ∀l : List Bd,lookB l v=some t→∃i,(bMap l).findIdx? (fun p=>p.1 == v)=some i∧(bMap l)[i]?=some (v,.agg t.cs.toArray):=by
  intro l
  induction l with
  | nil=>intro h;cases h
  | cons b l ih =>
   intro h
   simp only [lookB] at h
   simp only [bMap,List.map_cons,List.findIdx?_cons]
   by_cases e : b.var=v
   ·rw [if_pos e] at h
    cases h
    subst e
    exact ⟨0,by simp,by simp⟩
   ·rw [if_neg e] at h
    obtain ⟨i,h1,h2⟩:=ih h
    have h3 : (b.var == v)=false:=by simpa using e
    unfold bMap at h1 h2
    simp only [h3,h1]
    exact ⟨i+1,rfl,by simpa using h2⟩
 obtain ⟨i,h1,h2⟩:=this l h
 unfold mSet
 rw [h1]
 apply List.ext_getElem?
 intro j
 rw [List.getElem?_set]
 by_cases e : i=j
 ·subst e
  rw [h2]
  have:=(List.getElem?_eq_some_iff.1 h2).1
  simp [this]
 ·simp [e]
end Go.Wk
namespace Go.Proofs.YtnppmeeibbefbaaGreatDoor
open Go Go.Wk
theorem term_Match (p a:At0) (s:List Bd) (u1 u2 v:Value) (c:Cx) (h1:Ag p u1 c) (h2:Ag a u2 c) (h3:Sl v s c) (hl:s.length+p.args.length<549755813888) (hla:a.args.length+1<1099511627776) : Cn Tryz.prog 125 [u1,u2,v] c (fun r c=>Mt (matchA p a s) r c):=by
 refine Cn.of Tryz.func125 Tryz.ntmps125 rfl rfl fun hm H HA=>?_
 have hm1:=matchA_scan p a s
 have hpl : p.args.length+1<1099511627776:=by omega
 have hsl:=h3.lim
 have HA:=((HA.add h1).add h2).add h3
 (apply wc_seq;apply wc_region)
 (refine s_boxG rfl rfl Lk H HA ?_;intro p1 c H HA)
 (refine s_boxG rfl rfl Lk H HA ?_;intro p2 c H HA)
 (repeat' (first|refine Z0 ?_|refine Z2 ?_|refine Z4 ?_|refine Z5 ?_|refine Z6 ?_|refine Z8 ?_|apply w_nil|apply wc_seq|apply wc_region|apply wx_next|refine Z18 ?_|apply wc_ret|apply wx_ret_then|refine Z30 ?_|refine Z35 HA fun vx HA=>?_|refine Z36 ?_|refine Z37 HA fun vx HA=>?_|refine Z38 ?_|refine Z45 ?_|refine Z94 (fun hq=>?_) fun hq=>?_|refine Z99 (fun hq=>?_) fun hq=>?_))
 ·exact ret_fn H hm (outs2 Tryz.results125 Wh Wh) (Mt.no (by rw [hm1,if_pos (by simp [matchOk, *])]))
 ·exact ret_fn H hm (outs2 Tryz.results125 Wh Wh) (Mt.no (by rw [hm1,if_pos (by simp [matchOk];intros;omega)]))
 (refine s_call rfl rfl H HA (term_Variable p.by_ _) ?_;intro vx c H HP;have hvx:=HP.h.1;have HA:=HP.cut;subst hvx)
 cases hv : p.by_.isVar
 ·have hok : matchOk p a=true:=by simp [matchOk,hv, *];omega
  rw [hok,if_neg (by simp)] at hm1
  (repeat' (first|refine Z0 ?_|refine Z2 ?_|refine Z4 ?_|refine Z5 ?_|apply w_nil|apply wc_seq|apply wc_region|apply wx_next|refine Z19 ?_|apply wc_skip|apply wc_block|refine Z30 ?_|refine Z45 ?_|refine Z65 fun mx c H HA=>?_))
  (obtain ⟨mb,rfl⟩:∃x,x=mx:=⟨_,rfl⟩)
  have H : Owns _ [.obj mb (mObj (bMap []))] _:=H
  refine wc_loopG (σ:=Nat×List Bd) (fun y=>s.length-y.1) (fun y=>[(3,p1),(4,p2),(8,.map (some mb)),(44,v),(45,.int .i64 s.length),(46,.int .i64 y.1)]) (fun y=>y.1≤s.length∧nodV y.2∧(∀q,lookB y.2 q=lookB (s.take y.1) q)∧y.2.length≤y.1)
   (fun y=>[.obj mb (mObj (bMap y.2))]) (fun _=>Tt) (0,[]) H HA trivial Ks ⟨Nat.zero_le _,List.nodup_nil,fun _=>rfl,Nat.le_refl _⟩ ?_
  intro y g c hpp H HA
  obtain ⟨k,l⟩:=y
  obtain ⟨hk,hnd,hlk,hll⟩:=hpp
  dsimp only at hk hnd hlk hll H HA ⊢
  (repeat' (first|apply w_nil|apply wc_seq|apply wc_region|apply wx_next|refine Z18 ?_|refine Z19 ?_|apply wc_exit|apply wc_skip|apply wc_block|apply wx_exit_then|apply wx_exit_same|refine Z39 HA fun vx HA=>?_|refine Z93 (fun hq=>?_) fun hq=>?_))
  ·obtain ⟨b,hb⟩:=getq (xs:=s) (k:=k) (by omega)
   have htk : s.take (k+1)=s.take k++[b]:=by rw [List.take_add_one,hb];rfl
   (refine Z34 HA fun vx HA=>?_;refine Z38 ?_;refine Z61 fun bx c H HA=>?_;refine Z74 fun c H HA=>?_;apply Y2;refine Z0 ?_;refine Z3 ?_;refine Z41 ?_;refine Z66 ?_;refine Z0 ?_;refine Z32 ?_;refine Z32 ?_;refine Z61 fun bx c H HA=>?_)
   rw [bMap_look]
   have hins : ∀q,lookB (insL l b) q=lookB (s.take (k+1)) q:=fun q=>by rw [htk,insL_look];exact look_snoc hlk q
   have hil:=insL_len l b
   cases hq : lookB l b.var
   ·(refine Z74 fun c H HA=>?_;refine Z2 ?_;apply Y2;refine Z0 ?_;refine Z33 ?_;apply Y0;refine Z18 ?_;apply wc_region;refine Z0 ?_;refine Z3 ?_;refine Z41 ?_;refine Z3 ?_;refine Z42 ?_;refine Z70 fun c H HA=>?_;apply w_nil;apply wx_norm_block;apply wx_next;apply wc_region;refine Z46 ?_;refine Z0 ?_;apply w_nil)
    have hadd:=bMap_add (t:=b.to) hq
    have e1 : insL l b=l++[b]:=by simp [insL,hq]
    rw [hadd] at H
    have H:=H.sub (List.Sublist.cons_cons _ (List.nil_sublist _))
    exact wx_loopG ((k+1,insL l b)) (by rw [e1];exact H) Cu trivial Ks (by simp;omega) ⟨by simp;omega,insL_nod hnd b,hins,by simp;omega⟩
   ·(refine Z74 fun c H HA=>?_;refine Z2 ?_;apply Y2;refine Z0 ?_;refine Z33 ?_;apply Y0;refine Z19 ?_;apply wc_skip;apply wx_norm_block;apply wx_next;apply wc_region;refine Z46 ?_;refine Z0 ?_;apply w_nil)
    have e1 : insL l b=l:=by simp [insL,hq]
    have H:=H.drop.drop
    exact wx_loopG ((k+1,insL l b)) (by rw [e1];exact H) Cu trivial Ks (by simp;omega) ⟨by simp;omega,insL_nod hnd b,hins,by simp;omega⟩
  ·rw [List.take_of_length_le (by omega)] at hlk
   (refine s_call rfl rfl H HA (term_places a _ _ Lk (by omega)) ?_;intro vx c H HA)
   (obtain ⟨va,rfl⟩:∃x,x=vx:=⟨_,rfl⟩)
   (refine Z2 ?_;apply Y0;apply wc_seq;apply Y1;refine Z39 HA fun vx HA=>?_)
   (refine s_call rfl rfl H HA (term_places p _ _ Lk (by omega)) ?_;intro vx c H HA)
   (obtain ⟨vp,rfl⟩:∃x,x=vx:=⟨_,rfl⟩)
   (refine Z45 ?_;refine Z0 ?_;apply Y0;apply wc_block)
   have hptl : p.terms.length=p.args.length+1:=rfl
   have hatl : a.terms.length=a.args.length+1:=rfl
   refine wc_loopG (σ:=Nat×List Bd×List Bd) (fun y=>p.terms.length-y.1) (fun y=>[(3,p1),(4,p2),(8,.map (some mb)),(13,va),(68,vp),(69,.int .i64 p.terms.length),(70,.int .i64 y.1)]) (fun y=>y.1≤p.terms.length∧nodV y.2.1∧(∀q,lookB y.2.1 q=lookB y.2.2 q)∧y.2.1.length≤s.length+y.1∧scan y.2.2 (p.terms.drop y.1) (a.terms.drop y.1)=scan s p.terms a.terms)
    (fun y=>[.obj mb (mObj (bMap y.2.1))]) (fun _=>Tt) (0,l,s) H HA trivial Ks ⟨Nat.zero_le _,hnd,hlk,by simp;omega,rfl⟩ ?_
   clear hlk hnd hll
   intro y g c hpp H HA
   obtain ⟨k,l,all⟩:=y
   obtain ⟨hk,hnd,hlk,hll,hsc⟩:=hpp
   dsimp only at hk hnd hlk hll hsc H HA ⊢
   (repeat' (first|refine Z0 ?_|apply w_nil|apply wc_seq|apply wc_region|apply wx_next|refine Z18 ?_|refine Z19 ?_|apply wc_exit|apply wc_skip|apply wc_block|apply wx_exit_then|apply wx_exit_same|refine Z93 (fun hq=>?_) fun hq=>?_))
   ·obtain ⟨x,hx⟩:=getq (xs:=p.terms) (k:=k) (by omega)
    obtain ⟨y,hy⟩:=getq (xs:=a.terms) (k:=k) (by omega)
    rw [drop_get hx,drop_get hy] at hsc
    (refine Z34 HA fun vx HA=>?_;refine Z38 ?_;refine Z61 fun bx c H HA=>?_;refine Z2 ?_;refine Z74 fun c H HA=>?_;apply Y0;apply wc_seq;apply Y1;refine Z42 ?_)
    (refine s_call rfl rfl H HA (term_Variable x _) ?_;intro vx c H HP;have hvx:=HP.h.1;have HA:=HP.cut;subst hvx)
    cases hxv : x.isVar
    ·(refine Z33 ?_;apply Y0;refine Z18 ?_;apply wc_seq;apply wc_seq)
     (refine dw_start H HA ?_)
     (repeat (refine Dc ?_))
     (refine dw_done mixed H HA rfl (by kernel_rfl) ?_;clear H HA;intro c H HA;(repeat (first|rintro vx rfl|(intro vx hx;have HA:=HA.addSF hx;clear hx)|(intro vx hx;have HA:=HA.add hx;clear hx)|intro vx));change W _ _ _ _ _ _ _)
     (repeat' (first|refine Z0 ?_|refine Z2 ?_|apply w_nil|apply wc_seq|apply wc_region|apply wx_next|apply wc_ret|apply wc_exit|apply wc_skip|apply wx_ret_then|apply wx_exit_then|apply wx_exit_same|apply wx_ret_block|refine Z46 ?_|(focus (apply wc_cond;rfl;all_goals intro hq))))
     ·simp only [Bool.not_eq_true',decide_eq_false_iff_not] at hq
      exact ret_fn H hm (outs2 Tryz.results125 Wh Wh) (Mt.no (by rw [hm1,←hsc];simp [scan,hxv,hq]))
     ·simp only [Bool.not_eq_false',decide_eq_true_eq] at hq
      have H:=H.drop
      exact wx_loopG ((k+1,l,all)) H Cu trivial Ks (by simp;omega) ⟨by simp;omega,hnd,hlk,by simp;omega,by rw [←hsc,scan,if_neg (by simp [hxv]),if_pos hq]⟩
    ·(refine Z33 ?_;apply Y0;refine Z19 ?_;apply wc_skip;apply wx_next;apply wc_seq;apply Y1;refine Z0 ?_;refine Z3 ?_;refine Z41 ?_;refine Z66 ?_;refine Z0 ?_;refine Z32 ?_;refine Z32 ?_;refine Z61 fun bx c H HA=>?_)
     rw [bMap_look]
     cases hqq : lookB l x.n
     ·(refine Z74 fun c H HA=>?_;refine Z2 ?_;apply Y0;apply wc_seq)
      (refine dw_start H HA ?_)
      (repeat (refine Dc ?_))
      (refine dw_done mixed H HA rfl (by kernel_rfl) ?_;clear H HA;intro c H HA;(repeat (first|rintro vx rfl|(intro vx hx;have HA:=HA.addSF hx;clear hx)|(intro vx hx;have HA:=HA.add hx;clear hx)|intro vx));change W _ _ _ _ _ _ _)
      (apply Y0;refine Z19 ?_;apply wc_skip;apply wx_next)
      (refine dw_start H HA ?_)
      (repeat (refine Dc ?_))
      (refine dw_done mixed H HA rfl (by kernel_rfl) ?_;clear H HA;intro c H HA;(repeat (first|rintro vx rfl|(intro vx hx;have HA:=HA.addSF hx;clear hx)|(intro vx hx;have HA:=HA.add hx;clear hx)|intro vx));change W _ _ _ _ _ _ _)
      (refine Z70 fun c H HA=>?_;apply w_nil;apply wx_norm_block;apply wx_next;apply wc_region;refine Z46 ?_;refine Z0 ?_;apply w_nil)
      have hadd:=bMap_add (t:=y) hqq
      have H:=H.sub (List.Sublist.cons_cons _ (List.nil_sublist _))
      have hqa : lookB all x.n=none:=by rw [←hlk];exact hqq
      exact wx_loopG ((k+1,l++[⟨x.n,y⟩],all++[⟨x.n,y⟩])) (by rw [←hadd];exact H) Cu trivial Ks (by simp;omega) ⟨by simp;omega,nodV_snoc hnd hqq,look_snoc hlk,by simp;omega,by rw [←hsc];simp [scan,hxv,hqa]⟩
     ·rename_i was
      have hqa : lookB all x.n=some was:=by rw [←hlk];exact hqq
      (refine Z74 fun c H HA=>?_;refine Z2 ?_;apply Y0;apply wc_seq)
      (refine dw_start H HA ?_)
      (repeat (refine Dc ?_))
      (refine dw_done mixed H HA rfl (by kernel_rfl) ?_;clear H HA;intro c H HA;(repeat (first|rintro vx rfl|(intro vx hx;have HA:=HA.addSF hx;clear hx)|(intro vx hx;have HA:=HA.add hx;clear hx)|intro vx));change W _ _ _ _ _ _ _)
      (repeat' (first|refine Z2 ?_|apply w_nil|apply wc_seq|apply wc_region|apply wx_next|apply wc_ret|apply wc_skip|apply wx_ret_then|apply wx_ret_block|(focus (apply wc_cond;rfl;all_goals intro hq))))
      ·simp only [Bool.not_eq_true',decide_eq_false_iff_not] at hq
       exact ret_fn H hm (outs2 Tryz.results125 Wh Wh) (Mt.no (by rw [hm1,←hsc];simp [scan,hxv,hqa,hq]))
      ·simp only [Bool.not_eq_false',decide_eq_true_eq] at hq
       subst hq
       (refine dw_start H HA ?_)
       (repeat (refine Dc ?_))
       (refine dw_done mixed H HA rfl (by kernel_rfl) ?_;clear H HA;intro c H HA;(repeat (first|rintro vx rfl|(intro vx hx;have HA:=HA.addSF hx;clear hx)|(intro vx hx;have HA:=HA.add hx;clear hx)|intro vx));change W _ _ _ _ _ _ _)
       (refine Z70 fun c H HA=>?_;apply w_nil;apply wx_norm_block;apply wx_next;apply wc_region;refine Z46 ?_;refine Z0 ?_;apply w_nil)
       have hadd:=bMap_same hqq
       have H:=H.sub (List.Sublist.cons_cons _ (List.nil_sublist _))
       exact wx_loopG ((k+1,l,all)) (by rw [←hadd];exact H) Cu trivial Ks (by simp;omega) ⟨by simp;omega,hnd,hlk,by simp;omega,by rw [←hsc];simp [scan,hxv,hqa]⟩
   ·rw [List.drop_eq_nil_of_le (by omega),List.drop_eq_nil_of_le (by omega)] at hsc
    have hsc : scan s p.terms a.terms=some all:=by rw [←hsc];rfl
    (refine w_freezeMap H HA ?_;intro c H HA)
    (refine s_call rfl rfl H HA (term_sorted l mb _ Lk (by omega)) ?_;intro vx c H HA)
    obtain ⟨out,ho,hop,hos⟩:=HA.h.1
    have heq:=settled_sorted hop hos hnd hlk
    rw [heq] at ho
    have HA:=HA.add ho
    (refine Z2 ?_;refine Z2 ?_;apply Y0;apply wc_ret)
    exact ret_fn H hm (outs2 Tryz.results125 Wh Wh) (Mt.yes (by rw [hm1,hsc];rfl) Lk)
 ·(repeat' (first|refine Z0 ?_|refine Z2 ?_|refine Z4 ?_|refine Z8 ?_|apply w_nil|apply wc_seq|apply wc_region|apply wx_next|refine Z18 ?_|refine Z19 ?_|apply wc_ret|apply wc_skip|apply wc_block|apply wx_ret_then|refine Z30 ?_|refine Z35 HA fun vx HA=>?_|refine Z36 ?_|refine Z45 ?_|refine Z65 fun mx c H HA=>?_|refine Z92 (fun hq=>?_) fun hq=>?_))
  ·exact ret_fn H hm (outs2 Tryz.results125 Wh Wh) (Mt.no (by rw [hm1,if_pos (by simp [matchOk,hv, *])]))
  ·have hok : matchOk p a=true:=by simp [matchOk,hv, *];omega
   rw [hok,if_neg (by simp)] at hm1
   (obtain ⟨mb,rfl⟩:∃x,x=mx:=⟨_,rfl⟩)
   have H : Owns _ [.obj mb (mObj (bMap []))] _:=H
   refine wc_loopG (σ:=Nat×List Bd) (fun y=>s.length-y.1) (fun y=>[(3,p1),(4,p2),(8,.map (some mb)),(44,v),(45,.int .i64 s.length),(46,.int .i64 y.1)]) (fun y=>y.1≤s.length∧nodV y.2∧(∀q,lookB y.2 q=lookB (s.take y.1) q)∧y.2.length≤y.1)
    (fun y=>[.obj mb (mObj (bMap y.2))]) (fun _=>Tt) (0,[]) H HA trivial Ks ⟨Nat.zero_le _,List.nodup_nil,fun _=>rfl,Nat.le_refl _⟩ ?_
   intro y g c hpp H HA
   obtain ⟨k,l⟩:=y
   obtain ⟨hk,hnd,hlk,hll⟩:=hpp
   dsimp only at hk hnd hlk hll H HA ⊢
   (repeat' (first|apply w_nil|apply wc_seq|apply wc_region|apply wx_next|refine Z18 ?_|refine Z19 ?_|apply wc_exit|apply wc_skip|apply wc_block|apply wx_exit_then|apply wx_exit_same|refine Z39 HA fun vx HA=>?_|refine Z93 (fun hq=>?_) fun hq=>?_))
   ·obtain ⟨b,hb⟩:=getq (xs:=s) (k:=k) (by omega)
    have htk : s.take (k+1)=s.take k++[b]:=by rw [List.take_add_one,hb];rfl
    (refine Z34 HA fun vx HA=>?_;refine Z38 ?_;refine Z61 fun bx c H HA=>?_;refine Z74 fun c H HA=>?_;apply Y2;refine Z0 ?_;refine Z3 ?_;refine Z41 ?_;refine Z66 ?_;refine Z0 ?_;refine Z32 ?_;refine Z32 ?_;refine Z61 fun bx c H HA=>?_)
    rw [bMap_look]
    have hins : ∀q,lookB (insL l b) q=lookB (s.take (k+1)) q:=fun q=>by rw [htk,insL_look];exact look_snoc hlk q
    have hil:=insL_len l b
    cases hq : lookB l b.var
    ·(refine Z74 fun c H HA=>?_;refine Z2 ?_;apply Y2;refine Z0 ?_;refine Z33 ?_;apply Y0;refine Z18 ?_;apply wc_region;refine Z0 ?_;refine Z3 ?_;refine Z41 ?_;refine Z3 ?_;refine Z42 ?_;refine Z70 fun c H HA=>?_;apply w_nil;apply wx_norm_block;apply wx_next;apply wc_region;refine Z46 ?_;refine Z0 ?_;apply w_nil)
     have hadd:=bMap_add (t:=b.to) hq
     have e1 : insL l b=l++[b]:=by simp [insL,hq]
     rw [hadd] at H
     have H:=H.sub (List.Sublist.cons_cons _ (List.nil_sublist _))
     exact wx_loopG ((k+1,insL l b)) (by rw [e1];exact H) Cu trivial Ks (by simp;omega) ⟨by simp;omega,insL_nod hnd b,hins,by simp;omega⟩
    ·(refine Z74 fun c H HA=>?_;refine Z2 ?_;apply Y2;refine Z0 ?_;refine Z33 ?_;apply Y0;refine Z19 ?_;apply wc_skip;apply wx_norm_block;apply wx_next;apply wc_region;refine Z46 ?_;refine Z0 ?_;apply w_nil)
     have e1 : insL l b=l:=by simp [insL,hq]
     have H:=H.drop.drop
     exact wx_loopG ((k+1,insL l b)) (by rw [e1];exact H) Cu trivial Ks (by simp;omega) ⟨by simp;omega,insL_nod hnd b,hins,by simp;omega⟩
   ·rw [List.take_of_length_le (by omega)] at hlk
    (refine s_call rfl rfl H HA (term_places a _ _ Lk (by omega)) ?_;intro vx c H HA)
    (obtain ⟨va,rfl⟩:∃x,x=vx:=⟨_,rfl⟩)
    (refine Z2 ?_;apply Y0;apply wc_seq;apply Y1;refine Z39 HA fun vx HA=>?_)
    (refine s_call rfl rfl H HA (term_places p _ _ Lk (by omega)) ?_;intro vx c H HA)
    (obtain ⟨vp,rfl⟩:∃x,x=vx:=⟨_,rfl⟩)
    (refine Z45 ?_;refine Z0 ?_;apply Y0;apply wc_block)
    have hptl : p.terms.length=p.args.length+1:=rfl
    have hatl : a.terms.length=a.args.length+1:=rfl
    refine wc_loopG (σ:=Nat×List Bd×List Bd) (fun y=>p.terms.length-y.1) (fun y=>[(3,p1),(4,p2),(8,.map (some mb)),(13,va),(68,vp),(69,.int .i64 p.terms.length),(70,.int .i64 y.1)]) (fun y=>y.1≤p.terms.length∧nodV y.2.1∧(∀q,lookB y.2.1 q=lookB y.2.2 q)∧y.2.1.length≤s.length+y.1∧scan y.2.2 (p.terms.drop y.1) (a.terms.drop y.1)=scan s p.terms a.terms)
     (fun y=>[.obj mb (mObj (bMap y.2.1))]) (fun _=>Tt) (0,l,s) H HA trivial Ks ⟨Nat.zero_le _,hnd,hlk,by simp;omega,rfl⟩ ?_
    clear hlk hnd hll
    intro y g c hpp H HA
    obtain ⟨k,l,all⟩:=y
    obtain ⟨hk,hnd,hlk,hll,hsc⟩:=hpp
    dsimp only at hk hnd hlk hll hsc H HA ⊢
    (repeat' (first|refine Z0 ?_|apply w_nil|apply wc_seq|apply wc_region|apply wx_next|refine Z18 ?_|refine Z19 ?_|apply wc_exit|apply wc_skip|apply wc_block|apply wx_exit_then|apply wx_exit_same|refine Z93 (fun hq=>?_) fun hq=>?_))
    ·obtain ⟨x,hx⟩:=getq (xs:=p.terms) (k:=k) (by omega)
     obtain ⟨y,hy⟩:=getq (xs:=a.terms) (k:=k) (by omega)
     rw [drop_get hx,drop_get hy] at hsc
     (refine Z34 HA fun vx HA=>?_;refine Z38 ?_;refine Z61 fun bx c H HA=>?_;refine Z2 ?_;refine Z74 fun c H HA=>?_;apply Y0;apply wc_seq;apply Y1;refine Z42 ?_)
     (refine s_call rfl rfl H HA (term_Variable x _) ?_;intro vx c H HP;have hvx:=HP.h.1;have HA:=HP.cut;subst hvx)
     cases hxv : x.isVar
     ·(refine Z33 ?_;apply Y0;refine Z18 ?_;apply wc_seq;apply wc_seq)
      (refine dw_start H HA ?_)
      (repeat (refine Dc ?_))
      (refine dw_done mixed H HA rfl (by kernel_rfl) ?_;clear H HA;intro c H HA;(repeat (first|rintro vx rfl|(intro vx hx;have HA:=HA.addSF hx;clear hx)|(intro vx hx;have HA:=HA.add hx;clear hx)|intro vx));change W _ _ _ _ _ _ _)
      (repeat' (first|refine Z0 ?_|refine Z2 ?_|apply w_nil|apply wc_seq|apply wc_region|apply wx_next|apply wc_ret|apply wc_exit|apply wc_skip|apply wx_ret_then|apply wx_exit_then|apply wx_exit_same|apply wx_ret_block|refine Z46 ?_|(focus (apply wc_cond;rfl;all_goals intro hq))))
      ·simp only [Bool.not_eq_true',decide_eq_false_iff_not] at hq
       exact ret_fn H hm (outs2 Tryz.results125 Wh Wh) (Mt.no (by rw [hm1,←hsc];simp [scan,hxv,hq]))
      ·simp only [Bool.not_eq_false',decide_eq_true_eq] at hq
       have H:=H.drop
       exact wx_loopG ((k+1,l,all)) H Cu trivial Ks (by simp;omega) ⟨by simp;omega,hnd,hlk,by simp;omega,by rw [←hsc,scan,if_neg (by simp [hxv]),if_pos hq]⟩
     ·(refine Z33 ?_;apply Y0;refine Z19 ?_;apply wc_skip;apply wx_next;apply wc_seq;apply Y1;refine Z0 ?_;refine Z3 ?_;refine Z41 ?_;refine Z66 ?_;refine Z0 ?_;refine Z32 ?_;refine Z32 ?_;refine Z61 fun bx c H HA=>?_)
      rw [bMap_look]
      cases hqq : lookB l x.n
      ·(refine Z74 fun c H HA=>?_;refine Z2 ?_;apply Y0;apply wc_seq)
       (refine dw_start H HA ?_)
       (repeat (refine Dc ?_))
       (refine dw_done mixed H HA rfl (by kernel_rfl) ?_;clear H HA;intro c H HA;(repeat (first|rintro vx rfl|(intro vx hx;have HA:=HA.addSF hx;clear hx)|(intro vx hx;have HA:=HA.add hx;clear hx)|intro vx));change W _ _ _ _ _ _ _)
       (apply Y0;refine Z19 ?_;apply wc_skip;apply wx_next)
       (refine dw_start H HA ?_)
       (repeat (refine Dc ?_))
       (refine dw_done mixed H HA rfl (by kernel_rfl) ?_;clear H HA;intro c H HA;(repeat (first|rintro vx rfl|(intro vx hx;have HA:=HA.addSF hx;clear hx)|(intro vx hx;have HA:=HA.add hx;clear hx)|intro vx));change W _ _ _ _ _ _ _)
       (refine Z70 fun c H HA=>?_;apply w_nil;apply wx_norm_block;apply wx_next;apply wc_region;refine Z46 ?_;refine Z0 ?_;apply w_nil)
       have hadd:=bMap_add (t:=y) hqq
       have H:=H.sub (List.Sublist.cons_cons _ (List.nil_sublist _))
       have hqa : lookB all x.n=none:=by rw [←hlk];exact hqq
       exact wx_loopG ((k+1,l++[⟨x.n,y⟩],all++[⟨x.n,y⟩])) (by rw [←hadd];exact H) Cu trivial Ks (by simp;omega) ⟨by simp;omega,nodV_snoc hnd hqq,look_snoc hlk,by simp;omega,by rw [←hsc];simp [scan,hxv,hqa]⟩
      ·rename_i was
       have hqa : lookB all x.n=some was:=by rw [←hlk];exact hqq
       (refine Z74 fun c H HA=>?_;refine Z2 ?_;apply Y0;apply wc_seq)
       (refine dw_start H HA ?_)
       (repeat (refine Dc ?_))
       (refine dw_done mixed H HA rfl (by kernel_rfl) ?_;clear H HA;intro c H HA;(repeat (first|rintro vx rfl|(intro vx hx;have HA:=HA.addSF hx;clear hx)|(intro vx hx;have HA:=HA.add hx;clear hx)|intro vx));change W _ _ _ _ _ _ _)
       (repeat' (first|refine Z2 ?_|apply w_nil|apply wc_seq|apply wc_region|apply wx_next|apply wc_ret|apply wc_skip|apply wx_ret_then|apply wx_ret_block|(focus (apply wc_cond;rfl;all_goals intro hq))))
       ·simp only [Bool.not_eq_true',decide_eq_false_iff_not] at hq
        exact ret_fn H hm (outs2 Tryz.results125 Wh Wh) (Mt.no (by rw [hm1,←hsc];simp [scan,hxv,hqa,hq]))
       ·simp only [Bool.not_eq_false',decide_eq_true_eq] at hq
        subst hq
        (refine dw_start H HA ?_)
        (repeat (refine Dc ?_))
        (refine dw_done mixed H HA rfl (by kernel_rfl) ?_;clear H HA;intro c H HA;(repeat (first|rintro vx rfl|(intro vx hx;have HA:=HA.addSF hx;clear hx)|(intro vx hx;have HA:=HA.add hx;clear hx)|intro vx));change W _ _ _ _ _ _ _)
        (refine Z70 fun c H HA=>?_;apply w_nil;apply wx_norm_block;apply wx_next;apply wc_region;refine Z46 ?_;refine Z0 ?_;apply w_nil)
        have hadd:=bMap_same hqq
        have H:=H.sub (List.Sublist.cons_cons _ (List.nil_sublist _))
        exact wx_loopG ((k+1,l,all)) (by rw [←hadd];exact H) Cu trivial Ks (by simp;omega) ⟨by simp;omega,hnd,hlk,by simp;omega,by rw [←hsc];simp [scan,hxv,hqa]⟩
    ·rw [List.drop_eq_nil_of_le (by omega),List.drop_eq_nil_of_le (by omega)] at hsc
     have hsc : scan s p.terms a.terms=some all:=by rw [←hsc];rfl
     (refine w_freezeMap H HA ?_;intro c H HA)
     (refine s_call rfl rfl H HA (term_sorted l mb _ Lk (by omega)) ?_;intro vx c H HA)
     obtain ⟨out,ho,hop,hos⟩:=HA.h.1
     have heq:=settled_sorted hop hos hnd hlk
     rw [heq] at ho
     have HA:=HA.add ho
     (refine Z2 ?_;refine Z2 ?_;apply Y0;apply wc_ret)
     exact ret_fn H hm (outs2 Tryz.results125 Wh Wh) (Mt.yes (by rw [hm1,hsc];rfl) Lk)
end Go.Proofs.YtnppmeeibbefbaaGreatDoor
