/- a part of the proof: lemmas on walks, on plain data, contracts of functions. -/
import Derived.Lib.Overlaps
import Derived.Lib.AppendZerosOnto
import Derived.Laws.Small
import Derived.Test.YtnppmeeibbefbaaGreatDoorA5
import Derived.Test.YtnppmeeibbefbaaGreatDoorA10
set_option linter.all false
namespace Go.Proofs.YtnppmeeibbefbaaGreatDoor
open Go Go.Wk Go.RowKit
theorem fire_in {D:BaS} {x:Cl} {lead:Int} {b:At0} (h:FireS D x lead b) : Stp [x] (InB D) b:=by
 obtain ⟨w,h1,h2,rfl⟩:=h
 refine ⟨x,.head _,w,h1,fun t ht=>?_,rfl⟩
 obtain ⟨j,hj⟩:=List.getElem?_of_mem ht
 exact has_3.1 (has_le3 (partN_or j lead) (h2 j t hj))
theorem hdS_whole {D:BaS} {cs:List Cl} {b:At0} : (∃x∈cs,HdS D true x b)↔Stp cs (InB D) b:=by
 rw [Stp.one]
 refine exists_congr fun x=>and_congr_right fun _=>?_
 unfold HdS
 rw [if_pos rfl]
 exact fire_all
theorem hdS_new {D:BaS} {cs:List Cl} {b:At0} : (∃x∈cs,HdS D false x b)↔Stp2 cs (InB D) (fun a=>a∈D.new) b:=by
 rw [Stp2.one]
 refine exists_congr fun x=>and_congr_right fun _=>?_
 unfold HdS
 rw [if_neg (by decide)]
 exact fire_lead
theorem Stp.iff {cs:List Cl} {F F':At0→Prop} (h:∀a,F a↔F' a) {b:At0} : Stp cs F b↔Stp cs F' b :=
 ⟨Stp.mono (fun _ h=>h) fun a=>(h a).1,Stp.mono (fun _ h=>h) fun a=>(h a).2⟩
theorem Stp2.iff {cs:List Cl} {F F' N N':At0→Prop} (h:∀a,F a↔F' a) (h':∀a,N a↔N' a) {b:At0} : Stp2 cs F N b↔Stp2 cs F' N' b:=by
 constructor
 ·rintro ⟨x,hx,w,h1,h2,⟨t,ht,h3⟩,h4⟩
  exact ⟨x,hx,w,h1,fun t ht=>(h _).1 (h2 t ht),⟨t,ht,(h' _).1 h3⟩,h4⟩
 ·rintro ⟨x,hx,w,h1,h2,⟨t,ht,h3⟩,h4⟩
  exact ⟨x,hx,w,h1,fun t ht=>(h _).2 (h2 t ht),⟨t,ht,(h' _).2 h3⟩,h4⟩
structure LmOk (cs:List Cl) : Prop where
 cl : ∀x∈cs,ClOk x
 len : cs.length≤1001
 cap : ∀x∈cs,CapOk (LM cs) x
 fct : ∀b,LM cs b→Fct b
 big : ∀l : List At0,l.Nodup→(∀a∈l,LM cs a)→l.length≤100000
theorem CapOk.mono {F F':At0→Prop} {x:Cl} (h:CapOk F x) (hs:∀a,F' a→F a) : CapOk F' x:=fun h0=>by
 obtain ⟨m,h1,h2⟩:=h h0
 exact ⟨m,fun l hl ha=>h1 l hl fun a h=>⟨hs a (ha a h).1,(ha a h).2⟩,h2⟩
theorem LmOk.fire {cs:List Cl} (h:LmOk cs) {D:BaS} (hD:∀a,InB D a→LM cs a) {x:Cl} (hx:x∈cs) {lead:Int} {b:At0} (hf:FireS D x lead b) : LM cs b :=
 LM.closed ((fire_in hf).mono (fun y hy=>by rw [List.mem_singleton.1 hy];exact hx) hD)
theorem heads_both {H C:List FE} {ck ck2:Nat} (h1:FkOk H ck) (h2:FkOk C ck2) (hd:∀a∈ats C,a∉ats H) : (ats H++ats C).Nodup:=by
 rw [List.nodup_append]
 refine ⟨h1.nd,h2.nd,?_⟩
 rintro a ha b hb rfl
 exact hd a hb ha
theorem fFind_get {l:List FE} {a:At0} (h:a∈ats l) : ∃q∈l,q.at_=a∧gFind (l.map FE.ge) (keyS a)=some q.ge:=by
 cases hg : gFind (l.map FE.ge) (keyS a) with
 | none=>exact absurd h (fFind_none.1 hg)
 | some g =>
  have h1:=List.mem_of_find?_eq_some hg
  have h2:=List.find?_some hg
  obtain ⟨q,hq,rfl⟩:=List.mem_map.1 h1
  exact ⟨q,hq,keyS_inj (of_decide_eq_true h2),rfl⟩
theorem owns_dropL {c0 c:Cx} : ∀(A:List Res) {L:List Res},Owns c0 (A++L) c→Owns c0 L c
 | [],_,h=>h
 | _::A,_,h=>owns_dropL A h.drop
instance : Ent Tryz.prog 21:=.of Tryz.func21 (by kernel_rfl) (by kernel_rfl)
def GrownP (cs:List Cl) (mh:Nat) (H:List FE) (ckh M:Nat) (v:Value) (R:List Res) (c:Cx) : Prop :=
 (∃m2 C ck2,v=.tuple #[.map (some m2),.bool true]∧R=[.obj m2 (fM C ck2),.obj mh (fM H ckh)]∧FkF C c∧FkOk C ck2∧(∀a,LM cs a↔a∈ats H∨a∈ats C)∧(∀a∈ats C,a∉ats H)∧H.length+C.length≤M) ∨
 (∃l:List At0,v=.tuple #[.map none,.bool false]∧R=[.obj mh (fM H ckh)]∧l.Nodup∧M<l.length∧∀a∈l,LM cs a)
instance (cs : List Cl) (mh : Nat) (H : List FE) (ckh M : Nat) (v : Value) (R : List Res) : Mono (GrownP cs mh H ckh M v R):=⟨fun h k=>k.imp (fun ⟨m2,C,ck2,h1,h2,h3,h4⟩=>⟨m2,C,ck2,h1,h2,Mono.mono h h3,h4⟩) id⟩
structure GrS where
 C : List FE
 ck : Nat
 B : BaS
 l : List At0
 vl : Value
set_option maxHeartbeats 4000000 in
theorem upkeep_grown (cs first:List Cl) (vc vf:Value) (mh:Nat) (H0:List FE) (ckh M:Nat) (c:Cx) (hF:FkF H0 c) (hO:FkOk H0 ckh) (hc:Sl vc cs c) (hf:Sl vf first c) (hL:LmOk cs) (hfs:∀x∈first,x∈cs) (hfl:first.length≤1001) (hv:∀a∈ats H0,LM cs a) (hcl:∀x∈cs,x∈first∨∀b,Stp [x] (fun a=>a∈ats H0) b→b∈ats H0) (hM:M≤100000) (hg:GlobOk c) (hp:Box 3 P10c c) :
  CnTX Tryz.prog 21 [.map (some mh),vc,vf,.int .i64 M] [.obj mh (fM H0 ckh)] c (GrownP cs mh H0 ckh M):=by
 refine CnTX.of Tryz.func21 Tryz.ntmps21 rfl rfl fun c0 L0 A0 _ H HA=>?_
 have HA:=(((((HA.add hF).add hc).add hf).add hg).add hg.none).add hp
 have hHl : H0.length≤100000:=by
  have:=hL.big (ats H0) hO.nd hv
  rwa [ats,List.length_map] at this
 (apply Y1;refine Z2 ?_;refine Z2 ?_;apply Y2)
 refine s_makeG rfl H HA ?_
 intro mc c H HA
 (refine Z2 ?_;apply Y2;refine Z0 ?_)
 have H : Owns c0 ((mpR (some mh) H0 ckh++mpR none [] 0)++(.obj mc (gObj [] 0)::L0)) c:=by
  have H2 : Owns c0 (.obj mc (gObj [] 0)::.obj mh (fM H0 ckh)::L0) c:=H
  exact H2.swap
 refine s_callX rfl rfl H HA (upkeep_laid (some mh) none H0 [] ckh 0 _ (fun h=>by cases h) (fun _=>rfl) Lk (fun q h=>by cases h) hO (FkOk.nil 0) (fun a h=>by cases h) (by simp only [List.length_nil];omega) Lk) ?_
 intro v R c H HA
 obtain ⟨B0,rfl,rfl,hFB0,hI0⟩:=HA.h.1
 have HA:=HA.cut.add hFB0
 (refine Z2 ?_;apply Y2;refine Z0 ?_;refine Z0 ?_)
 have hB0 : ∀a,InB B0 a↔a∈ats H0:=fun a=>by
  unfold InB
  rw [hI0.old,hI0.new]
  simp [ats]
 have hB0L : ∀a,InB B0 a→LM cs a:=fun a ha=>hv a ((hB0 a).1 ha)
 have H : Owns c0 (baR B0++(.obj mc (gObj [] 0)::.obj mh (fM H0 ckh)::L0)) c:=by
  have H2 : Owns c0 (baR B0++[.obj mh (fM H0 ckh)]++(.obj mc (gObj [] 0)::L0)) c:=H
  exact H2.perm Pm
 refine s_callX rfl rfl H HA (upkeep_heads B0 first true vf _ _ _ _ _ hI0 (by simp only [List.length_nil];omega) Lk Lk (fun x hx=>hL.cl x (hfs x hx)) (fun x hx=>(hL.cap x (hfs x hx)).mono hB0L) (fun x hx lead b hb=>(hL.fct b (hL.fire hB0L (hfs x hx) hb)).sm) hfl Lk) ?_
 intro v R c H HA
 obtain ⟨B1,l1,rfl,hsame1,hF1,hsl1,hmem1⟩:=HA.h.1
 have HA:=(HA.cut.add hF1).add hsl1
 rw [←hsame1.2.1]
 have hG1 : GrI cs (fun a=>a∈ats H0) (ats []) l1:=GrI.start hv hfs hcl fun b=>(hmem1 b).trans (hdS_whole.trans (Stp.iff hB0))
 have hI1 : ∃O N : At0→Prop,BsI B1 O N (fun _=>False) (H0.length+([]:List FE).length)∧∀a,(O a∨N a)↔a∈ats H0∨a∈ats []:=⟨_,_,hI0.same hsame1,fun a=>Iff.rfl⟩
 have H3 : Owns c0 (baR B1++(.obj mc (fM [] 0)::.obj mh (fM H0 ckh)::L0)) c:=H
 have H:=H3.perm (L':=.obj mc (fM [] 0)::.obj mh (fM H0 ckh)::(baR B1++L0)) Pm
 (refine Z2 ?_;apply Y0;apply wc_block)
 have hFB1 : BaF B1 c:=Lk
 have hsl2 : Sl v l1 c:=Lk
 refine wc_loopG (σ:=GrS) (fun y=>100001-(H0.length+y.C.length)) (fun y=>[(0,.map (some mh)),(1,vc),(3,.int .i64 M),(10,.map (some mc)),(11,ptr y.B.b),(12,y.vl)])
  (fun y=>FkOk y.C y.ck∧GrI cs (fun a=>a∈ats H0) (ats y.C) y.l∧∃O N:At0→Prop,BsI y.B O N (fun _=>False) (H0.length+y.C.length)∧∀a,(O a∨N a)↔a∈ats H0∨a∈ats y.C)
  (fun y=>.obj mc (fM y.C y.ck)::.obj mh (fM H0 ckh)::(baR y.B++L0)) (fun y c=>FkF y.C c∧BaF y.B c∧Sl y.vl y.l c) ⟨[],0,B1,l1,v⟩ H HA ⟨(fun q h=>by cases h),hFB1,hsl2⟩ Ks ⟨FkOk.nil 0,hG1,hI1⟩ ?_
 clear H HA hFB1 hsl2 hF1 hsl1 hG1 hI1
 intro y g c hy H HA
 obtain ⟨C,ck,B,l,vl⟩:=y
 obtain ⟨hOC,hG,O,N,hI,hON⟩:=hy
 dsimp only at hOC hG hI hON H HA ⊢
 have hFC : FkF C c:=HA.h.1.1
 have hFB : BaF B c:=HA.h.1.2.1
 have hsl : Sl vl l c:=HA.h.1.2.2
 have hlim:=hsl.lim
 have HA:=((HA.cut.add hFC).add hFB).add hsl
 (apply wc_block;apply Y1;refine Z2 ?_;apply Y0;apply wc_seq;apply Y1;refine Z0 ?_;refine Z45 ?_;refine Z0 ?_;apply Y0;apply wc_block)
 refine wc_loopG (σ:=Nat×List FE×Nat×BaS) (fun y=>l.length-y.1) (fun y=>[(0,.map (some mh)),(1,vc),(3,.int .i64 M),(10,.map (some mc)),(11,ptr y.2.2.2.b),(13,.bool (!y.2.1.isEmpty)),(27,vl),(28,.int .i64 l.length),(29,.int .i64 y.1)])
  (fun y=>y.1≤l.length∧FkOk (C++y.2.1) y.2.2.1∧(∀a,a∈ats (C++y.2.1)↔a∈ats C∨(a∈l.take y.1∧a∉ats H0))∧BsI y.2.2.2 O N (fun a=>a∈ats y.2.1) (H0.length+(C++y.2.1).length))
  (fun y=>.obj mc (fM (C++y.2.1) y.2.2.1)::.obj mh (fM H0 ckh)::(baR y.2.2.2++L0)) (fun y c=>FkF (C++y.2.1) c∧BaF y.2.2.2 c) (0,[],ck,B) (by simpa using H) HA ⟨by simpa using hFC,hFB⟩ Ks ⟨Nat.zero_le _,by simpa using hOC,fun a=>by simp,by simpa [ats] using hI⟩ ?_
 clear H HA hFC hFB hsl
 intro y g2 c hy H HA
 obtain ⟨i,A,ck2,B2⟩:=y
 obtain ⟨hi,hOA,hmA,hI2⟩:=hy
 dsimp only at hi hOA hmA hI2 H HA ⊢
 have hFA : FkF (C++A) c:=HA.h.1.1
 have hFB2 : BaF B2 c:=HA.h.1.2
 have HA:=(HA.cut.add hFA).add hFB2
 have hdA : ∀a∈ats (C++A),LM cs a∧a∉ats H0:=fun a ha=>by
  rcases (hmA a).1 ha with h|⟨h,h2⟩
  ·exact hG.c1 a h
  ·exact ⟨hG.l1 a (List.mem_of_mem_take h),h2⟩
 have hnd2:=heads_both hO hOA fun a ha=>(hdA a ha).2
 have hbig:=hL.big _ hnd2 fun a ha=>by
  rcases List.mem_append.1 ha with h|h
  ·exact hv a h
  ·exact (hdA a h).1
 have hbig2 : H0.length+(C++A).length≤100000:=by simpa [ats] using hbig
 (repeat' (first|refine Z0 ?_|apply w_nil|apply wc_seq|apply wc_region|apply wx_next|refine Z18 ?_|refine Z19 ?_|apply wc_exit|apply wc_skip|apply wc_block|apply wx_exit_then|apply wx_exit_same|refine Z93 (fun hq=>?_) fun hq=>?_))
 ·obtain ⟨f,hf⟩:=getq (xs:=l) (k:=i) (by omega)
  have hfl : f∈l:=List.mem_of_getElem? hf
  have hfct:=hL.fct f (hG.l1 f hfl)
  (refine Z34 HA fun vx HA=>?_;refine Z39 HA fun vx HA=>?_)
  obtain ⟨caf,rfl,vf',hcf,hsf⟩ : Ag f vx c:=Lk
  subst hcf
  have HA:=HA.add hsf
  have hgf : Ag f (.agg (f.cs vf').toArray) c:=⟨_,rfl,vf',rfl,hsf⟩
  have HA:=HA.add hgf
  (refine s_alloc rfl (by conv=>lhs;whnf) H HA ?_;intro b15 c H HA)
  refine s_storeA (vs:=f.cs vf') (cs':=f.cs vf') rfl rfl H HA rfl (ones_cons rfl (ones_cons rfl (ones_cons rfl (ones_cons rfl (ones_cons hsf.oneC ones_nil))))) Rc ?_
  intro c H HA
  (apply Y2;refine Z42 ?_)
  (refine s_call rfl rfl H HA (upkeep_key f _ _ Lk hfct.key Lk) ?_;intro vx c H HP;have hvx:=HP.h.1;have HA:=HP.cut;subst hvx)
  (refine Z2 ?_;apply Y0;apply wc_seq;apply Y1;refine Z0 ?_;refine Z0 ?_)
  have H : Owns c0 (.obj b15 (.cells (f.cs vf').toArray 35 (0,0))::.obj mc (gObj ((C++A).map FE.ge) ck2)::.obj mh (gObj (H0.map FE.ge) ckh)::(baR B2++L0)) c:=H
  refine s_lookG rfl rfl rfl H (.tail _ (.tail _ (.head _))) ?_
  have hi1 : i+1≤l.length:=by
   have:=(List.getElem?_eq_some_iff.1 hf).1
   omega
  have htk : ∀a,(a∈l.take (i+1)∧a∉ats H0)↔(a∈l.take i∧a∉ats H0)∨(a=f∧a∉ats H0):=fun a=>by
   rw [List.take_add_one,hf]
   simp only [Option.toList_some,List.mem_append,List.mem_singleton]
   exact ⟨fun ⟨h,h2⟩=>h.elim (fun h=>.inl ⟨h,h2⟩) fun h=>.inr ⟨h,h2⟩,fun h=>h.elim (fun ⟨h,h2⟩=>⟨.inl h,h2⟩) fun ⟨h,h2⟩=>⟨.inr h,h2⟩⟩
  by_cases hfH : f∈ats H0
  ·obtain ⟨q,hq1,hq2,hq3⟩:=fFind_get hfH
   rw [hq3]
   have hsq : Sl q.va q.at_.args c:=(Lk:FkF H0 c) q hq1
   (refine Z0 ?_;refine Z32 ?_;refine Z32 ?_)
   (refine s_alloc rfl (by conv=>lhs;whnf) H HA ?_;intro b17 c H HA)
   refine s_storeA (vs:=q.at_.cs q.va) (cs':=q.at_.cs q.va) rfl rfl H HA rfl (ones_cons rfl (ones_cons rfl (ones_cons rfl (ones_cons rfl (ones_cons hsq.oneC ones_nil))))) Rc ?_
   intro c H HA
   (refine Z2 ?_;apply Y2;refine Z0 ?_;apply Y0;refine Z18 ?_;apply wc_exit;apply wx_exit_then;apply wx_exit_same;apply wx_next;apply wc_region;refine Z46 ?_;refine Z0 ?_;apply w_nil)
   have hFA2 : FkF (C++A) c:=Lk
   have hFB3 : BaF B2 c:=Lk
   exact wx_loopG ((i+1,A,ck2,B2)) H.drop.drop Cu ⟨hFA2,hFB3⟩ Ks (by dsimp only;omega) ⟨hi1,hOA,fun a=>by
    rw [hmA,htk]
    exact ⟨fun h=>h.elim .inl fun h=>.inr (.inl h),fun h=>h.elim .inl fun h=>h.elim .inr fun ⟨h,h2⟩=>absurd (h▸hfH) h2⟩,hI2⟩
  ·rw [fFind_none.2 hfH]
   simp only [Option.map_none,Option.getD_none,Option.isSome_none]
   (refine Z0 ?_;refine Z32 ?_;refine Z32 ?_)
   (refine s_alloc rfl (by conv=>lhs;whnf) H HA ?_;intro b17 c H HA)
   (refine Z74 fun c H HA=>?_;refine Z2 ?_;apply Y2;refine Z0 ?_;apply Y0;refine Z19 ?_;apply wc_skip;apply wx_next;apply wc_seq;apply Y1;refine Z0 ?_;refine Z0 ?_)
   have H : Owns c0 (.obj b17 (.cells (At0.cs ⟨Tn,ES,[]⟩ (.slice none 0 0)).toArray 35 (0,0))::.obj b15 (.cells (f.cs vf').toArray 35 (0,0))::.obj mc (gObj ((C++A).map FE.ge) ck2)::.obj mh (gObj (H0.map FE.ge) ckh)::(baR B2++L0)) c:=H
   refine s_lookG rfl rfl rfl H (.tail _ (.tail _ (.head _))) ?_
   by_cases hfC : f∈ats (C++A)
   ·obtain ⟨q,hq1,hq2,hq3⟩:=fFind_get hfC
    rw [hq3]
    have hsq : Sl q.va q.at_.args c:=(Lk:FkF (C++A) c) q hq1
    (refine Z0 ?_;refine Z32 ?_;refine Z32 ?_)
    (refine s_alloc rfl (by conv=>lhs;whnf) H HA ?_;intro b19 c H HA)
    refine s_storeA (vs:=q.at_.cs q.va) (cs':=q.at_.cs q.va) rfl rfl H HA rfl (ones_cons rfl (ones_cons rfl (ones_cons rfl (ones_cons rfl (ones_cons hsq.oneC ones_nil))))) Rc ?_
    intro c H HA
    (refine Z2 ?_;apply Y2;refine Z0 ?_;apply Y0;refine Z18 ?_;apply wc_exit;apply wx_exit_then;apply wx_exit_same;apply wx_next;apply wc_region;refine Z46 ?_;refine Z0 ?_;apply w_nil)
    have hFA2 : FkF (C++A) c:=Lk
    have hFB3 : BaF B2 c:=Lk
    exact wx_loopG ((i+1,A,ck2,B2)) H.drop.drop.drop Cu ⟨hFA2,hFB3⟩ Ks (by dsimp only;omega) ⟨hi1,hOA,fun a=>by
     rw [htk]
     constructor
     ·intro h
      exact ((hmA a).1 h).elim .inl fun h=>.inr (.inl h)
     ·rintro (h|h|⟨rfl,_⟩)
      ·exact (hmA a).2 (.inl h)
      ·exact (hmA a).2 (.inr h)
      ·exact hfC,hI2⟩
   ·rw [fFind_none.2 hfC]
    simp only [Option.map_none,Option.getD_none,Option.isSome_none]
    (refine Z0 ?_;refine Z32 ?_;refine Z32 ?_)
    (refine s_alloc rfl (by conv=>lhs;whnf) H HA ?_;intro b19 c H HA)
    (refine Z74 fun c H HA=>?_;refine Z2 ?_;apply Y2;refine Z0 ?_;apply Y0;refine Z19 ?_;apply wc_skip;apply wx_next;apply Y1;refine Z0 ?_;refine Z0 ?_;refine Z42 ?_)
    have H0' : Owns c0 (.obj b19 (.cells (At0.cs ⟨Tn,ES,[]⟩ (.slice none 0 0)).toArray 35 (0,0))::.obj b17 (.cells (At0.cs ⟨Tn,ES,[]⟩ (.slice none 0 0)).toArray 35 (0,0))::.obj b15 (.cells (f.cs vf').toArray 35 (0,0))::.obj mc (gObj ((C++A).map FE.ge) ck2)::.obj mh (gObj (H0.map FE.ge) ckh)::(baR B2++L0)) c:=H
    have H:=H0'.drop.drop.swap
    refine s_updG (v:=.agg (f.cs vf').toArray) rfl rfl rfl (fFind_none.2 hfC) H HA ?_
    intro c H HA
    rw [fM_add,List.append_assoc] at H
    (apply Y2;refine Z0 ?_;refine Z42 ?_)
    have hne : ¬O f∧¬N f:=by
     have h1:=(hON f)
     refine ⟨fun h=>?_,fun h=>?_⟩
     ·rcases h1.1 (.inl h) with h2|h2
      ·exact hfH h2
      ·exact hfC (by rw [ats,List.map_append];exact List.mem_append_left _ h2)
     ·rcases h1.1 (.inr h) with h2|h2
      ·exact hfH h2
      ·exact hfC (by rw [ats,List.map_append];exact List.mem_append_left _ h2)
    have hv2:=hI2.vals
    have hs2:=hI2.size
    have H:=H.perm (L':=baR B2++(.obj mc (fM (C++(A++[⟨f,vf',ck2⟩])) (ck2+1))::.obj b15 (.cells (f.cs vf').toArray 35 (0,0))::.obj mh (gObj (H0.map FE.ge) ckh)::L0)) Pm
    refine s_callX rfl rfl H HA (base_Add B2 f _ _ hI2.ok Lk Lk hfct.fact Lk (by omega) (by omega)) ?_
    intro v3 R c H HA
    obtain ⟨B3,rfl,hok3,hF3,hb3,hv3,hs3,hl3,ho3,hn3,hx3⟩:=HA.h.1
    have HA:=HA.cut.add hF3
    (apply Y0;apply wc_region;refine Z2 ?_;apply w_nil;apply wx_norm_block;apply wx_next;apply wc_region;refine Z46 ?_;refine Z0 ?_;apply w_nil)
    have hFB4 : BaF B3 c:=Lk
    have hFA4 : FkF (C++A) c:=Lk
    have hsf4 : Sl vf' f.args c:=Lk
    have hFA5 : FkF (C++(A++[⟨f,vf',ck2⟩])) c:=by
     rw [←List.append_assoc]
     exact hFA4.add hsf4
    have hI3:=hI2.add hne.1 hne.2 hok3 hv3 hs3 hl3 ho3 hn3 hx3
    have H:=H.perm (L':=.obj b15 (.cells (f.cs vf').toArray 35 (0,0))::.obj mc (fM (C++(A++[⟨f,vf',ck2⟩])) (ck2+1))::.obj mh (gObj (H0.map FE.ge) ckh)::(baR B3++L0)) Pm
    rw [←hb3]
    have hem : (!(A++[(⟨f,vf',ck2⟩:FE)]).isEmpty)=true:=by simp
    refine wx_loopG (i+1,A++[⟨f,vf',ck2⟩],ck2+1,B3) H.drop Cu ⟨hFA5,hFB4⟩ (by rw [hem];exact Ks) (by dsimp only;omega) ⟨hi1,by rw [←List.append_assoc];exact hOA.add hfct hfC,fun a=>?_,?_⟩
    ·rw [←List.append_assoc,ats_add,List.mem_append,hmA,htk,List.mem_singleton]
     constructor
     ·rintro ((h|h)|rfl)
      ·exact .inl h
      ·exact .inr (.inl h)
      ·exact .inr (.inr ⟨rfl,hfH⟩)
     ·rintro (h|h|⟨rfl,_⟩)
      ·exact .inl (.inl h)
      ·exact .inl (.inr h)
      ·exact .inr rfl
    ·refine hI3.imp (fun _=>Iff.rfl) (fun _=>Iff.rfl) (fun a=>?_) ?_
     ·rw [ats_add]
      simp
     ·dsimp only
      have e9 : (C++(A++[(⟨f,vf',ck2⟩:FE)])).length=(C++A).length+1:=by simp;omega
      rw [e9]
      omega
 ·have hli : l.take i=l:=List.take_of_length_le (by omega)
  rw [hli] at hmA
  have H : Owns c0 (.obj mc (gObj ((C++A).map FE.ge) ck2)::.obj mh (gObj (H0.map FE.ge) ckh)::(baR B2++L0)) c:=H
  refine s_lenG rfl rfl H (.tail _ (.head _)) ?_
  rw [List.length_map]
  (refine Z0 ?_)
  refine s_lenG rfl rfl H (.head _) ?_
  rw [List.length_map]
  (repeat' (first|refine Z0 ?_|refine Z2 ?_|apply w_nil|apply wc_seq|apply wc_region|apply wx_next|refine Z18 ?_|refine Z19 ?_|apply wc_ret|apply wc_skip|apply wx_ret_then|apply wx_ret_block|refine Z33 ?_|refine Z48 ?_|refine Z96 (fun hq=>?_) fun hq=>?_|(focus (apply wc_cond;rfl;all_goals intro hq))))
  ·have H2:=owns_dropL (baR B2) (H.perm (L':=baR B2++(.obj mc (gObj ((C++A).map FE.ge) ck2)::.obj mh (gObj (H0.map FE.ge) ckh)::L0)) Pm)
   exact ret_fnX (R:=[.obj mh (fM H0 ckh)]) H2.drop Ca (outs2 Tryz.results21 Wh Wh) (.inr ⟨ats H0++ats (C++A),rfl,rfl,hnd2,by simp only [ats,List.length_append,List.length_map] at *;omega,fun a ha=>by
    rcases List.mem_append.1 ha with h|h
    ·exact hv a h
    ·exact (hdA a h).1⟩)
  ·have hA : A=[]:=by
    rw [Bool.not_not] at hq
    exact List.isEmpty_iff.1 hq
   subst hA
   have hFA2 : FkF (C++[]) c:=Lk
   rw [List.append_nil] at hFA2 hOA hmA hbig2 hdA
   have H2:=owns_dropL (baR B2) (H.perm (L':=baR B2++(.obj mc (gObj ((C++[]).map FE.ge) ck2)::.obj mh (gObj (H0.map FE.ge) ckh)::L0)) Pm)
   rw [List.append_nil] at H2
   have hdone:=hG.done fun a ha=>by
    by_cases h : a∈ats H0
    ·exact .inl h
    ·exact .inr ((hmA a).2 (.inr ⟨ha,h⟩))
   exact ret_fnX (R:=[.obj mc (fM C ck2),.obj mh (fM H0 ckh)]) H2 Ca (outs2 Tryz.results21 Wh Wh) (.inl ⟨mc,C,ck2,rfl,rfl,hFA2,hOA,hdone,fun a ha=>(hdA a ha).2,by rename_i hle;simp only [List.append_nil] at hle;omega⟩)
  ·have hA : A≠[]:=by
    intro h
    rw [h] at hq
    simp at hq
   have H:=H.perm (L':=baR B2++(.obj mc (gObj ((C++A).map FE.ge) ck2)::.obj mh (gObj (H0.map FE.ge) ckh)::L0)) Pm
   refine s_callX rfl rfl H HA (base_Turn B2 _ hI2.ok Lk) ?_
   intro v3 R c H HA
   obtain ⟨l',rfl,hF3,hT⟩:=HA.h.1
   have HA:=HA.cut.add hF3
   have hI3:=hI2.turn hT
   obtain ⟨B3,hB3⟩ : ∃B3,B3=B2.with_ l':=⟨_,rfl⟩
   have eb : B2.b=B3.b:=by rw [hB3];rfl
   rw [←hB3] at H HA hI3
   rw [eb]
   (apply Y0;apply wc_region;refine Z0 ?_;refine Z0 ?_)
   have hin : ∀a,InB B3 a↔a∈ats H0∨a∈ats (C++A):=fun a=>by
    unfold InB
    rw [hI3.old,hI3.new,hON,ats,ats,ats,ats,List.map_append,List.mem_append,or_assoc]
   have hinL : ∀a,InB B3 a→LM cs a:=fun a ha=>by
    rcases (hin a).1 ha with h|h
    ·exact hv a h
    ·exact (hdA a h).1
   refine s_callX rfl rfl H HA (upkeep_heads B3 cs false vc _ _ _ _ _ hI3 (by omega) Lk Lk hL.cl (fun x hx=>(hL.cap x hx).mono hinL) (fun x hx lead b hb=>(hL.fct b (hL.fire hinL hx hb)).sm) hL.len Lk) ?_
   intro v4 R c H HA
   obtain ⟨B4,l4,rfl,hsame4,hF4,hsl4,hmem4⟩:=HA.h.1
   have HA:=(HA.cut.add hF4).add hsl4
   rw [←hsame4.2.1]
   have hAn : ∀a,a∈ats A↔a∈ats (C++A)∧a∉ats C:=fun a=>by
    have h1:=hOA.nd
    rw [List.map_append,List.nodup_append] at h1
    rw [ats,ats,ats,List.map_append,List.mem_append]
    exact ⟨fun h=>⟨.inr h,fun h2=>h1.2.2 a h2 a h rfl⟩,fun ⟨h,h2⟩=>h.resolve_left h2⟩
   have hG4 : GrI cs (fun a=>a∈ats H0) (ats (C++A)) l4:=hG.more hmA fun b=>(hmem4 b).trans (hdS_new.trans (Stp2.iff hin fun a=>(hI3.new a).trans (hAn a)))
   have H:=H.perm (L':=.obj mc (gObj ((C++A).map FE.ge) ck2)::.obj mh (gObj (H0.map FE.ge) ckh)::(baR B4++L0)) Pm
   (refine Z2 ?_;apply w_nil;apply wx_norm_block)
   have hFA5 : FkF (C++A) c:=Lk
   have hFB5 : BaF B4 c:=Lk
   have hsl5 : Sl v4 l4 c:=Lk
   have hAl : 0<A.length:=List.length_pos_iff.2 hA
   exact wx_loopG ((⟨C++A,ck2,B4,l4,v4⟩:GrS)) H Cu ⟨hFA5,hFB5,hsl5⟩ Ks (by dsimp only;rw [List.length_append] at hbig2 ⊢;omega) ⟨hOA,hG4,_,_,hI3.same hsame4,fun a=>by
    rw [hON,ats,ats,ats,ats,List.map_append,List.mem_append,or_assoc]⟩
end Go.Proofs.YtnppmeeibbefbaaGreatDoor
namespace Go.Wk
open Go Go.RowKit Go.Lib
section
variable {P : Program} {ops : Array Oper} {Q : Exit → Act → World → Prop} {n : Nat} {f : Nat → Value} {rest : List Oper} {ty : TypeId} {ps : String} {af : Array Edge} {d : Tmp}
variable {c0 c : Cx} {L : List Res} {A : Cx → Prop}
theorem s_capL {T e:TypeId} {x:Operand} {a:Option Addr} {m cap:Nat} {w:World} (hn:Nat.blt d n=true) [SlT P T e] (hx:opd f x=.slice a m cap) (k:W P ops Q rest n (upd f d (.int .i64 cap)) w) : W P ops Q (⟨some d,.call ⟨.builtin .cap,#[x],#[T]⟩,ty,ps,af,none⟩::rest) n f w :=
 st_val hn (by simp [execOp,resolve,invoke,builtin,Builtin.cap_,run_underlying (SlT.h (P:=P) (T:=T)),hx,goInt]) k
theorem s_slSub {T e:TypeId} {z:Value} {kk bb g m lo hi cap:Nat} {x:Operand} {lo' hi':Option Operand} {w:World} (hn:Nat.blt d n=true) [SlT P T e] [TyI P e z kk bb] (hx:opd f x=.slice (some ⟨g,0,none⟩) m cap) (hlo:lo'.map (opd f)=some (.int .i64 (lo:Int))∨lo'.map (opd f)=none∧lo=0) (hhi:hi'.map (opd f)=some (.int .i64 (hi:Int))∨hi'.map (opd f)=none∧hi=m) (h1:lo≤hi) (h2:hi≤cap) (h3:lo<cap)
  (k:W P ops Q rest n (upd f d (.slice (some ⟨g,lo*kk,none⟩) (hi-lo) (cap-lo))) w) : W P ops Q (⟨some d,.slice T x lo' hi' none,ty,ps,af,none⟩::rest) n f w:=by
 have:=run_slice (P:=P) (T:=T) (ad:=some ⟨g,0,none⟩) (len:=m) (cap:=cap) (lo:=lo) (hi:=hi) (lo'.map (opd f)) (hi'.map (opd f)) hlo hhi h1 h2 w
 rw [if_neg (by omega)] at this
 simp only [Option.map_some,Addr.add_lit,Nat.zero_add] at this
 refine st_val hn (w':=w) ?_ k
 simp only [execOp,hx,Option.map_none]
 simp [this]
theorem s_slEnd {T e:TypeId} {z:Value} {kk bb m lo cap:Nat} {a:Option Addr} {x y:Operand} {w:World} (hn:Nat.blt d n=true) [SlT P T e] [TyI P e z kk bb] (hx:opd f x=.slice a m cap) (hy:opd f y=.int .i64 (lo:Int)) (h1:lo≤m) (h2:m≤cap)
  (k:∀v,W P ops Q rest n (upd f d v) w) : W P ops Q (⟨some d,.slice T x (some y) none none,ty,ps,af,none⟩::rest) n f w:=by
 have:=run_slice (P:=P) (T:=T) (ad:=a) (len:=m) (cap:=cap) (lo:=lo) (hi:=m) (some (.int .i64 (lo:Int))) none (.inl rfl) (.inr ⟨rfl,rfl⟩) h1 h2 w
 refine st_val hn (w':=w) ?_ (k (.slice (if cap=lo then a else a.map (·.add (lo*kk))) (m-lo) (cap-lo)))
 simp only [execOp,hx,Option.map_none,Option.map_some,hy]
 simp [this]
theorem s_slMore {T e:TypeId} {z:Value} {kk bb g m m2 cap:Nat} {x y:Operand} {cells:List Value} (hn:Nat.blt d n=true) [SlT P T e] [TyI P e z kk bb] (hx:opd f x=.slice (some ⟨g,0,none⟩) m cap) (hy:opd f y=.int .i64 (m2:Int)) (h1:m≤m2) (h2:m2≤cap) (h0:0<cap)
  (H:Owns c0 (.row (.slice (some ⟨g,0,none⟩) m cap) e kk m cells::L) c) (HA:Hd A c) [Mono A] (k:∀junk c',junk.length=(m2-m)*kk→Owns c0 (.row (.slice (some ⟨g,0,none⟩) m2 cap) e kk m2 (cells++junk)::L) c'→Hd A c'→W P ops Q rest n (upd f d (.slice (some ⟨g,0,none⟩) m2 cap)) c'.w) :
  W P ops Q (⟨some d,.slice T x none (some y) none,ty,ps,af,none⟩::rest) n f c.w:=by
 have hown:=(H.res _ (List.mem_cons_self ..)).1
 obtain ⟨cur,hh,_,hnc,hmx,hsz,htk⟩:=row_one hown rfl
 have hcl : cells.length=m*kk:=hown.1
 have hmul : m2*kk≤cap*kk:=Nat.mul_le_mul_right _ h2
 have hmul2 : m*kk≤m2*kk:=Nat.mul_le_mul_right _ h1
 obtain ⟨junk,hj⟩ : ∃junk,junk=(cur.toList.take (m2*kk)).drop (m*kk):=⟨_,rfl⟩
 have hjl : junk.length=(m2-m)*kk:=by
  rw [hj,List.length_drop,List.length_take,Array.length_toList,Nat.mul_comm (m2-m),Nat.mul_sub,Nat.mul_comm kk,Nat.mul_comm kk]
  omega
 have hall : cells++junk=cur.toList.take (m2*kk):=by
  rw [hj,←htk]
  have e : cur.toList.take (m*kk)=(cur.toList.take (m2*kk)).take (m*kk):=by rw [List.take_take,Nat.min_eq_left hmul2]
  rw [e,List.take_append_drop]
 have hrow : c.w.ownsRow 0 e kk (.slice (some ⟨g,0,none⟩) m2 cap) m2 (cells++junk):=by
  refine ⟨?_,.inr ⟨g,cap,cur,rfl,Nat.zero_le _,hh,h2,hmx,hsz,hall.symm⟩⟩
  rw [hall,List.length_take,Array.length_toList]
  omega
 have hT:=H.turn (r':=.row (.slice (some ⟨g,0,none⟩) m2 cap) e kk m2 (cells++junk)) (w':=c.w) rfl rfl rfl (Nat.le_refl _) (Nat.le_refl _) (fun _ _ _=>rfl) hrow (fun b hb=>.inl hb)
 obtain ⟨c1,hw1,hle1,hO1⟩ : ∃c1 : Cx,c1.w=c.w∧Le c c1∧Owns c0 (.row (.slice (some ⟨g,0,none⟩) m2 cap) e kk m2 (cells++junk)::L) c1:=⟨⟨c.w,fun x=>c.M x∨(Res.row (.slice (some ⟨g,0,none⟩) m2 cap) e kk m2 (cells++junk)).blk=some x⟩,rfl,hT.1,hT.2⟩
 rw [←hw1]
 refine st_val hn (w':=c1.w) ?_ (k junk c1 hjl hO1 (HA.to hle1))
 have:=run_slice (P:=P) (T:=T) (ad:=some ⟨g,0,none⟩) (len:=m) (cap:=cap) (lo:=0) (hi:=m2) none (some (.int .i64 (m2:Int))) (.inr ⟨rfl,rfl⟩) (.inl rfl) (Nat.zero_le _) (by omega) c1.w
 rw [if_neg (by omega),Nat.zero_mul] at this
 simp only [execOp,hx,Option.map_none,Option.map_some,hy]
 simp [this,Addr.add_lit]
theorem s_copyG {T e:TypeId} {z:Value} {kk bb g m cap o ld cd ls cs2:Nat} {a:Addr} {x y:Operand} {cells news:List Value} (hn:Nat.blt d n=true) [SlT P T e] [TyI P e z kk bb] (hx:opd f x=.slice (some ⟨g,o,none⟩) ld cd) (hy:opd f y=.slice (some a) ls cs2)
  (hsrc:∀j u,news[j]?=some u→c.w.cell? (a.add j)=some u) (hnl:news.length=Nat.min ls ld*kk) (hfit:o+news.length≤m*kk) (h1:∀u∈news,u.oneCell'=true)
  (H:Owns c0 (.row (.slice (some ⟨g,0,none⟩) m cap) e kk m cells::L) c) (HA:Hd A c) [Mono A] (k:∀c',Owns c0 (.row (.slice (some ⟨g,0,none⟩) m cap) e kk m (cells.take o++news++cells.drop (o+news.length))::L) c'→Hd A c'→W P ops Q rest n (upd f d (.int .i64 (Nat.min ls ld))) c'.w) :
  W P ops Q (⟨some d,.call ⟨.builtin .copy,#[x,y],#[T,T]⟩,ty,ps,af,none⟩::rest) n f c.w:=by
 have hres:=H.res _ (List.mem_cons_self ..)
 obtain ⟨cur,hh,_,hnc,hmx,hsz,htk⟩:=row_one hres.1 rfl
 have hmul : m*kk≤cap*kk:=Nat.mul_le_mul_right _ hnc
 obtain ⟨w',hrun,hw,e1,e2,e3,e4,e5,e6⟩:=stores_row (P:=P) g e news o 0 cur.toList c.w (by simpa using hh) (by simp;omega) h1
 rw [Nat.add_zero] at hw
 have hl : (cells.take o++news++cells.drop (o+news.length)).length=m*kk:=by
  rw [←htk];simp;omega
 have hrow : w'.ownsRow 0 e kk (.slice (some ⟨g,0,none⟩) m cap) m (cells.take o++news++cells.drop (o+news.length)):=by
  refine ⟨hl,.inr ⟨g,cap,_,rfl,Nat.zero_le _,hw,hnc,hmx,by simp;omega,?_⟩⟩
  rw [←htk]
  apply List.ext_getElem?
  intro j
  simp only [List.toList_toArray,List.getElem?_take,List.getElem?_append,List.getElem?_drop,List.length_take,List.length_append]
  simp only [Array.length_toList]
  repeat' split
  all_goals first|rfl|omega|(congr 1;omega)|skip
 have h2:=H.turn (r':=.row (.slice (some ⟨g,0,none⟩) m cap) e kk m (cells.take o++news++cells.drop (o+news.length))) (w':=w') e1 e2 e3 (by omega) (by omega) (fun q hq hne=>e6 q (fun e'=>hne (by subst e';simp [Res.blk,Value.ownBlock]))) hrow (fun q hq=>.inl hq)
 refine st_val hn (w':=w') ?_ (k ⟨w',_⟩ h2.2 (HA.to h2.1))
 obtain ⟨i,hi,hiz,his,hib⟩:=TyI.h (P:=P) (e:=e)
 have hld:=run_loadCells_list (P:=P) c.w a news hsrc
 rw [hnl] at hld
 simp [execOp,resolve,invoke,builtin,hx,hy,Builtin.copy_,run_underlying (SlT.h (P:=P) (T:=T)),Builtin.lenOf,Builtin.firstCells,sizeOf,typeInfo,hi,his,hld,hrun,goInt]
theorem s_appZ {T Tn e:TypeId} {z:Value} {kk bb g m i cap k:Nat} {kn kq:IntKind} {x y:Operand} {cells:List Value} (hn:Nat.blt d n=true) [SlT P T e] [TyI P e z kk bb] (hTn:P.underlying Tn=some (.int kn)) (hx:opd f x=.slice (some ⟨g,0,none⟩) i cap) (hy:opd f y=.int kq (k:Int)) (hz:z.cells.size=kk) (hk0:0<kk) (hbb:bb≤128) (h0:0<k) (hcap:cap<i+k) (hlim:i+k<LIM) (him:i≤m)
  (H:Owns c0 (.row (.slice (some ⟨g,0,none⟩) m cap) e kk m cells::L) c) (HA:Hd A c) [Mono A]
  (kont:∀g2 cap2 junk c',g2≠g→junk.length=k*kk→Owns c0 (.row (.slice (some ⟨g2,0,none⟩) (i+k) cap2) e kk (i+k) (cells.take (i*kk)++junk)::.row (.slice (some ⟨g,0,none⟩) m cap) e kk m cells::L) c'→Hd A c'→W P ops Q rest n (upd f d (.slice (some ⟨g2,0,none⟩) (i+k) cap2)) c'.w) :
  W P ops Q (⟨some d,.call ⟨.builtin .append,#[x,y],#[T,Tn]⟩,ty,ps,af,none⟩::rest) n f c.w:=by
 have hown:=(H.res _ (List.mem_cons_self ..)).1
 obtain ⟨cur,hh,_,hnc,hmx,hsz,htk⟩:=row_one hown rfl
 have hcl : cells.length=m*kk:=hown.1
 have hmul : i*kk≤m*kk:=Nat.mul_le_mul_right _ him
 obtain ⟨ti,hi,hiz,his,hib⟩:=TyI.h (P:=P) (e:=e)
 have holdl : (cells.take (i*kk)).length=i*kk:=by rw [List.length_take];omega
 have hold : (Builtin.firstCells ti.size i (.slice (some ⟨g,0,none⟩) i cap)).run P c.w.drew=.ok (cells.take (i*kk)).toArray c.w.drew:=by
  have h:=run_loadCells_list (P:=P) c.w.drew ⟨g,0,none⟩ (cells.take (i*kk)) (fun j u hj=>by
   rw [List.getElem?_take] at hj
   split at hj
   ·exact World.ownsRow.cells hown (g:=g) rfl j u hj
   ·cases hj)
  rw [holdl] at h
  simpa [Builtin.firstCells,his] using h
 have hbytes : (i+k)*ti.bytes≤140737488355328:=by
  rw [hib]
  exact Nat.le_trans (Nat.mul_le_mul (Nat.le_of_lt hlim) hbb) (by unfold LIM;omega)
 have hkb : k*ti.bytes≤(i+k)*ti.bytes:=Nat.mul_le_mul_right _ (by omega)
 have hr:=run_append_grow_zeros (P:=P) c.w T Tn ty e ti z kq kn (SlT.h (P:=P)) hTn hi hiz (some ⟨g,0,none⟩) i cap (cells.take (i*kk)) hold k h0 (by omega) hcap (by unfold LIM at hlim;omega) (by omega) (growslice_fits hcap hbytes)
 obtain ⟨cp,hcp⟩ : ∃cp,cp=grownCap c.w (i+k) cap e:=⟨_,rfl⟩
 have hcp1 : i+k≤cp:=by rw [hcp];exact grownCap_ge ..
 have hcp2 : cp≤maxLen:=by rw [hcp];exact grownCap_le_maxLen _ _ _ _ (by unfold LIM at hlim;simp only [maxLen];omega)
 rw [←hcp] at hr
 obtain ⟨arr,harr⟩ : ∃arr,arr=(cells.take (i*kk)).toArray++Builtin.zeroCells z.cells k++Builtin.zeroCells z.cells (cp-(i+k)):=⟨_,rfl⟩
 rw [←harr] at hr
 have hzl : ∀q,(Builtin.zeroCells z.cells q).toList.length=q*kk:=fun q=>by simp [Builtin.zeroCells,hz]
 have hal : arr.toList=cells.take (i*kk)++((Builtin.zeroCells z.cells k).toList++(Builtin.zeroCells z.cells (cp-(i+k))).toList):=by rw [harr];simp
 have hsum : i*kk+k*kk=(i+k)*kk:=(Nat.add_mul ..).symm
 have hsum2 : (i+k)*kk+(cp-(i+k))*kk=cp*kk:=by rw [←Nat.add_mul];congr 1;omega
 obtain ⟨w',hw'⟩ : ∃w',w'=c.w.drew.alloc (.cells arr e (0,0)):=⟨_,rfl⟩
 have hh1 : w'.heap=c.w.heap.push (.cells arr e (0,0)):=by rw [hw'];rfl
 have hrow : w'.ownsRow 0 e kk (.slice (some ⟨c.w.heap.size,0,none⟩) (i+k) cp) (i+k) (cells.take (i*kk)++(Builtin.zeroCells z.cells k).toList):=by
  refine ⟨by rw [List.length_append,holdl,hzl,hsum],.inr ⟨c.w.heap.size,cp,arr,rfl,Nat.zero_le _,by rw [hh1];simp,hcp1,hcp2,?_,?_⟩⟩
  ·rw [←Array.length_toList,hal,List.length_append,List.length_append,holdl,hzl,hzl]
   omega
  ·rw [hal,←List.append_assoc]
   exact List.take_left' (by rw [List.length_append,holdl,hzl,hsum])
 have H2:=H.nilRow e kk
 have hd1 : c.w.drawn≤w'.drawn:=by rw [hw'];exact Nat.le_succ _
 have hT:=H2.turn (r':=.row (.slice (some ⟨c.w.heap.size,0,none⟩) (i+k) cp) e kk (i+k) (cells.take (i*kk)++(Builtin.zeroCells z.cells k).toList)) (w':=w') (by rw [hw'];rfl) (by rw [hw'];rfl) (by rw [hw'];rfl) hd1 (by rw [hh1];simp) (fun b hb _=>by
  rw [hh1,Array.getElem?_push,if_neg (by omega)]) hrow (fun b hb=>.inr (by
   simp only [Res.blk,Value.ownBlock,Option.some.injEq] at hb
   omega))
 have hgl : g<c.w.heap.size:=(Array.getElem?_eq_some_iff.1 hh).1
 refine st_val hn (w':=w') ?_ (kont c.w.heap.size cp _ ⟨_,_⟩ (by omega) (by rw [hzl]) hT.2 (HA.to hT.1))
 rw [←hw'] at hr
 simp [execOp,resolve,invoke,builtin,hx,hy,hr]
end
end Go.Wk
namespace Go.Proofs.YtnppmeeibbefbaaGreatDoor
open Go Go.Wk Go.RowKit
instance : Ent Tryz.prog 19:=.of Tryz.func19 (by kernel_rfl) (by kernel_rfl)
theorem row_val {c0 c:Cx} {L:List Res} {v:Value} {e:TypeId} {kk m:Nat} {xs:List Value} (H:Owns c0 L c) (hm:Res.row v e kk m xs∈L) : ∃a cap,v=.slice a m cap∧m≤cap∧xs.length=m*kk∧(0<m→∃g,a=some ⟨g,0,none⟩):=by
 have h:=(H.res _ hm).1
 rcases h.2 with ⟨rfl,h0⟩|⟨g,cap,cur,h1,_,_,h2,_⟩
 ·exact ⟨none,0,by rw [h0],by omega,h.1,fun hp=>by omega⟩
 ·exact ⟨_,cap,h1,h2,h.1,fun _=>⟨g,rfl⟩⟩
theorem own_cells {c0 c:Cx} {L:List Res} {e:TypeId} {kk m g cap:Nat} {xs:List Value} (H:Owns c0 L c) (hm:Res.row (.slice (some ⟨g,0,none⟩) m cap) e kk m xs∈L) (o:Nat) : ∀j u,(xs.drop o)[j]?=some u→c.w.cell? ((⟨g,o,none⟩:Addr).add j)=some u:=fun j u hj=>by
 rw [List.getElem?_drop] at hj
 have:=World.ownsRow.cells (H.res _ hm).1 (g:=g) rfl (o+j) u hj
 rw [Addr.add_lit,Nat.zero_add] at this
 rwa [Addr.add_lit]
theorem ins2 {A J D cx:List Value} {i n:Nat} (hA:A.length=i*7) (hx:cx.length=7) (hJ:J.length=(n+1-i)*7) (hD:D.length=(n-i)*7) (hi:i<n) :
  ((((A++J).take (i*7)++cx++(A++J).drop (i*7+cx.length)).take ((i+1)*7))++D++(((A++J).take (i*7)++cx++(A++J).drop (i*7+cx.length)).drop ((i+1)*7+D.length)))=A++cx++D:=by
 have e1 : (A++J).take (i*7)=A:=List.take_left' hA
 have l1 : ((A++J).drop (i*7+cx.length)).length=(n-i)*7:=by rw [List.length_drop,List.length_append];omega
 rw [e1,List.take_left' (by rw [List.length_append];omega),List.drop_eq_nil_of_le (by rw [List.length_append,List.length_append,l1];omega),List.append_nil]
theorem ins3 {C J cx:List Value} {i n:Nat} (hC:C.length=n*7) (hx:cx.length=7) (hJ:J.length=(n+1-n)*7) (hi:i<n) :
  ((((C++J).take ((i+1)*7)++C.drop (i*7)++(C++J).drop ((i+1)*7+(C.drop (i*7)).length)).take (i*7))++cx++(((C++J).take ((i+1)*7)++C.drop (i*7)++(C++J).drop ((i+1)*7+(C.drop (i*7)).length)).drop (i*7+cx.length)))=C.take (i*7)++cx++C.drop (i*7):=by
 have l0 : (C++J).length=(n+1)*7:=by rw [List.length_append];omega
 have l1 : ((C++J).take ((i+1)*7)).length=(i+1)*7:=by rw [List.length_take];omega
 have lD : (C.drop (i*7)).length=(n-i)*7:=by rw [List.length_drop];omega
 rw [List.drop_eq_nil_of_le («as»:=C++J) (by omega),List.append_nil]
 have e1 : (((C++J).take ((i+1)*7))++C.drop (i*7)).take (i*7)=C.take (i*7):=by
  rw [List.take_append_of_le_length (by omega),List.take_take,Nat.min_eq_left (by omega),List.take_append_of_le_length (by omega)]
 have e2 : (((C++J).take ((i+1)*7))++C.drop (i*7)).drop (i*7+cx.length)=C.drop (i*7):=by
  rw [hx]
  exact List.drop_left' (by omega)
 rw [e1,e2]
theorem s_overlaps {ops:Array Oper} {Q:Exit→Act→World→Prop} {n:Nat} {f:Nat→Value} {rest:List Oper} {ty:TypeId} {ps:String} {af:Array Edge} {d:Tmp} {c0 c:Cx} {L:List Res} {x y:Operand} {aT:Array TypeId} {e e2:TypeId} {kk k2 g g2 m m2 cap cap2 o la ca lb cb:Nat} {xs ys:List Value} (hn:Nat.blt d n=true) (H:Owns c0 L c) (h1:Res.row (.slice (some ⟨g2,0,none⟩) m2 cap2) e2 k2 m2 ys∈L) (h2:Res.row (.slice (some ⟨g,0,none⟩) m cap) e kk m xs∈L) (hg:g2≠g) (hm:0<m) (hk:0<kk)
  (hx:opd f x=.slice (some ⟨g2,0,none⟩) la ca) (hy:opd f y=.slice (some ⟨g,o,none⟩) lb cb) (k:W Tryz.prog ops Q rest n (upd f d (.bool false)) c.w) : W Tryz.prog ops Q (⟨some d,.call ⟨.value (.func 34),#[x,y],aT⟩,ty,ps,af,none⟩::rest) n f c.w:=by
 obtain ⟨cur2,hh2,_,_,_,hs2,_⟩:=row_one (H.res _ h1).1 rfl
 obtain ⟨cur,hh,_,hmc,_,hs,_⟩:=row_one (H.res _ h2).1 rfl
 have hpos : 0<cap*kk:=Nat.mul_pos (by omega) hk
 have hsa : c.w.shape? g2=some (e2,cur2.size):=by simp [World.shape?,hh2]
 have hsb : c.w.shape? g=some (e,cur.size):=by simp [World.shape?,hh]
 have hfa : c.w.frozen? ⟨g2,0,none⟩=false:=by simp [World.frozen?,hh2]
 have hfe : c.w.frozen? { block:=g2,off:=cur2.size }=false:=by simp [World.frozen?,hh2]
 have hr:=Lib.run_overlaps_apart (P:=Tryz.prog) c.w 50 4 39 (SlT.h (P:=Tryz.prog) (T:=50)) 7 Agg.sz ⟨g2,0,none⟩ ⟨g,o,none⟩ la ca lb cb hg e2 e cur2.size cur.size hsa hsb (by omega) hfa hfe
 refine st_val hn (w':=c.w) ?_ k
 have:=run_callFunc_extern (P:=Tryz.prog) Tryz.func34 (by kernel_rfl) (by kernel_rfl) (by kernel_rfl) (e:=Extern.SlicesOverlaps.overlaps #[50,50] #[4]) (by kernel_rfl) #[.slice (some ⟨g2,0,none⟩) la ca,.slice (some ⟨g,o,none⟩) lb cb] c.w
 rw [hr] at this
 simp [execOp,resolve,Deferred.ofValue,hx,hy,show opd f (.func 34)=.func (.func 34) #[] #[] from rfl,invoke,this,Result.andThen]
set_option maxHeartbeats 2000000 in
theorem Insert_C (n i:Nat) (v vv:Value) (cells cx:List Value) (c:Cx) (hi:i≤n) (hn:n<1073741824) (h1:∀u∈cells,u.oneCell'=true) (h2:∀u∈cx,u.oneCell'=true) :
  CnTX Tryz.prog 19 [v,.int .i64 i,vv] [.row v 39 7 n cells,.row vv 39 7 1 cx] c
   (fun r R _=>R=[.row r 39 7 (n+1) (cells.take (i*7)++cx++cells.drop (i*7))]):=by
 refine CnTX.of Tryz.func19 Tryz.ntmps19 rfl rfl fun c0 L0 A0 _ H HA=>?_
 have H : Owns c0 (.row v 39 7 n cells::.row vv 39 7 1 cx::L0) c:=H
 obtain ⟨a,cap,rfl,hcap,hcl,hga⟩:=row_val H (.head _)
 obtain ⟨a2,cap2,rfl,hcap2,hcxl,hga2⟩:=row_val H (.tail _ (.head _))
 obtain ⟨g2,rfl⟩:=hga2 (by omega)
 (apply Y1;refine Z2 ?_;apply Y2;refine Z0 ?_;refine Z0 ?_)
 refine s_slEnd (lo:=i) rfl rfl rfl (by omega) hcap ?_
 intro v12
 (repeat' (first|refine Z0 ?_|refine Z2 ?_|apply w_nil|apply wc_seq|apply wc_region|apply wx_next|refine Z18 ?_|refine Z19 ?_|apply wc_ret|apply wc_skip|apply wx_ret_then|refine Z44 ?_|refine Z46 ?_|refine Z92 (fun hq=>?_) fun hq=>?_))
 ·exfalso;omega
 ·have hin : i=n:=by omega
  refine s_appOR (kk:=7) rfl rfl rfl (.head _) rfl (by decide) rfl h2 (by simp only [LIM];omega) H HA inferInstance ?_
  intro v25 c H HA
  (refine Z2 ?_;apply Y0;apply wc_ret;apply wx_ret_then)
  refine ret_fnX (R:=[.row v25 39 7 (n+1) (cells++cx)]) H.swap.drop Ca (outs1 Tryz.results19 Wh) ?_
  rw [hin,List.take_of_length_le (by omega),List.drop_eq_nil_of_le (by omega),List.append_nil]
 ·obtain ⟨g,rfl⟩:=hga (by omega)
  have hgg : g≠g2:=by
   have h:=(List.pairwise_cons.1 H.dis).1 _ (.head _) g rfl
   rintro rfl
   exact h rfl
  refine s_capL rfl rfl ?_
  (focus (refine Z96 (fun hq=>?_) fun hq=>?_;apply Y0;refine Z18 ?_;apply Y1;refine Z0 ?_;refine Z0 ?_;rotate_left;apply Y0;refine Z19 ?_;apply wc_skip;apply wx_next;apply Y1;refine Z0 ?_;refine Z0 ?_;refine Z0 ?_;refine Z46 ?_;rotate_left))
  ·refine s_slSub (lo:=0) (hi:=i) rfl rfl (.inr ⟨rfl,rfl⟩) (.inl rfl) (by omega) (by omega) (by omega) ?_
   rw [Nat.zero_mul,Nat.sub_zero,Nat.sub_zero]
   (refine Z0 ?_;refine Z0 ?_;refine Z46 ?_;refine Z0 ?_;refine Z50 ?_)
   rw [show ((n+1:Nat):Int)-(i:Int)=((n+1-i:Nat):Int) by omega]
   refine s_appZ (kk:=7) (k:=n+1-i) (kn:=.i64) (Tn:=3) rfl (by kernel_rfl) rfl rfl rfl (by decide) (by decide) (by omega) (by omega) (by simp only [LIM];omega) (by omega) H HA ?_
   intro g3 cap3 junk c hg3 hjl H HA
   rw [show i+(n+1-i)=n+1 by omega] at H ⊢
   obtain ⟨_,_,e3,hcap3,hl3,_⟩:=row_val H (.head _)
   cases e3
   have hAl : (cells.take (i*7)).length=i*7:=by rw [List.length_take];omega
   (refine Z2 ?_;apply Y2;refine Z0 ?_;refine Z0 ?_)
   refine s_slSub (lo:=i) (hi:=n+1) rfl rfl (.inl rfl) (.inr ⟨rfl,rfl⟩) (by omega) (by omega) (by omega) ?_
   (refine Z0 ?_)
   have hmin : Nat.min 1 (n+1-i)=1:=Nat.min_eq_left (by omega)
   refine s_copyG (kk:=7) (news:=cx) rfl rfl rfl (fun j u hj=>own_cells H (.tail _ (.tail _ (.head _))) 0 j u (by simpa using hj)) (by rw [hmin];omega) (by omega) h2 H HA ?_
   intro c H HA
   rw [hmin]
   (apply Y0;apply wc_seq)
   (refine dw_start H HA ?_)
   (repeat (first|refine Dc ?_|refine Dm ?_))
   (apply dw_cons;(focus ((intro B _ Lx c H HA;(repeat (first|rintro vx rfl|(intro vx hx;have HA:=HA.addSF hx;clear hx)|(intro vx hx;have HA:=HA.add hx;clear hx)|intro vx));change W _ _ _ _ _ _ _);(refine s_slSub (lo:=i+1) (hi:=n+1) rfl rfl (.inl rfl) (.inr ⟨rfl,rfl⟩) (by omega) (by omega) (by omega) ?_);exact Dx));exact inferInstance)
   (repeat (first|refine Dc ?_|refine Dm ?_))
   (apply dw_cons;(focus ((intro B _ Lx c H HA;(repeat (first|rintro vx rfl|(intro vx hx;have HA:=HA.addSF hx;clear hx)|(intro vx hx;have HA:=HA.add hx;clear hx)|intro vx));change W _ _ _ _ _ _ _);(refine s_slSub (lo:=i) (hi:=n) rfl rfl (.inl rfl) (.inr ⟨rfl,rfl⟩) (by omega) (by omega) (by omega) ?_);exact Dx));exact inferInstance)
   (refine dw_done mixed H HA rfl (by kernel_rfl) ?_;clear H HA;intro c H HA;(repeat (first|rintro vx rfl|(intro vx hx;have HA:=HA.addSF hx;clear hx)|(intro vx hx;have HA:=HA.add hx;clear hx)|intro vx));change W _ _ _ _ _ _ _)
   have hDl : (cells.drop (i*7)).length=(n-i)*7:=by rw [List.length_drop];omega
   have hmin2 : Nat.min (n-i) (n+1-(i+1))=n-i:=Nat.min_eq_left (by omega)
   refine s_copyG (kk:=7) (news:=cells.drop (i*7)) rfl rfl rfl (own_cells H (.tail _ (.head _)) (i*7)) (by rw [hmin2];exact hDl) (by omega) (fun u hu=>h1 u (List.mem_of_mem_drop hu)) H HA ?_
   intro c H HA
   (apply Y2;refine Z0 ?_;refine Z2 ?_;apply Y0;apply wc_ret;apply wx_ret_then)
   rw [ins2 (A:=cells.take (i*7)) (J:=junk) (n:=n) hAl (by omega) hjl hDl (by omega)] at H
   exact ret_fnX (R:=[.row (.slice (some ⟨g3,0,none⟩) (n+1) cap3) 39 7 (n+1) (cells.take (i*7)++cx++cells.drop (i*7))]) (H.perm (L':=.row (.slice (some ⟨g,0,none⟩) n cap) 39 7 n cells::.row (.slice (some ⟨g2,0,none⟩) 1 cap2) 39 7 1 cx::.row (.slice (some ⟨g3,0,none⟩) (n+1) cap3) 39 7 (n+1) (cells.take (i*7)++cx++cells.drop (i*7))::L0) Pm).drop.drop Ca (outs1 Tryz.results19 Wh) rfl
  ·refine s_slMore (m2:=n+1) rfl rfl rfl (by omega) (by omega) (by omega) H HA ?_
   intro junk c hjl H HA
   (refine Z2 ?_;apply Y0;apply wc_seq;apply Y1;refine Z0 ?_;refine Z0 ?_;refine Z0 ?_;refine Z0 ?_;refine Z46 ?_)
   refine s_slSub (lo:=i+1) (hi:=n+1) rfl rfl (.inl rfl) (.inr ⟨rfl,rfl⟩) (by omega) (by omega) (by omega) ?_
   (skip)
   refine s_overlaps rfl H (.tail _ (.head _)) (.head _) (fun h=>hgg h.symm) (by omega) (by decide) rfl rfl ?_
   (refine Z33 ?_;apply Y0;refine Z18 ?_;apply wc_seq)
   (refine dw_start H HA ?_)
   (repeat (first|refine Dc ?_|refine Dm ?_))
   (apply dw_cons;(focus ((intro B _ Lx c H HA;(repeat (first|rintro vx rfl|(intro vx hx;have HA:=HA.addSF hx;clear hx)|(intro vx hx;have HA:=HA.add hx;clear hx)|intro vx));change W _ _ _ _ _ _ _);(refine s_slSub (lo:=i+1) (hi:=n+1) rfl rfl (.inl rfl) (.inr ⟨rfl,rfl⟩) (by omega) (by omega) (by omega) ?_);exact Dx));exact inferInstance)
   (repeat (first|refine Dc ?_|refine Dm ?_))
   (apply dw_cons;(focus ((intro B _ Lx c H HA;(repeat (first|rintro vx rfl|(intro vx hx;have HA:=HA.addSF hx;clear hx)|(intro vx hx;have HA:=HA.add hx;clear hx)|intro vx));change W _ _ _ _ _ _ _);(refine s_slSub (lo:=i) (hi:=n+1) rfl rfl (.inl rfl) (.inr ⟨rfl,rfl⟩) (by omega) (by omega) (by omega) ?_);exact Dx));exact inferInstance)
   (refine dw_done mixed H HA rfl (by kernel_rfl) ?_;clear H HA;intro c H HA;(repeat (first|rintro vx rfl|(intro vx hx;have HA:=HA.addSF hx;clear hx)|(intro vx hx;have HA:=HA.add hx;clear hx)|intro vx));change W _ _ _ _ _ _ _)
   have hDl : (cells.drop (i*7)).length=(n-i)*7:=by rw [List.length_drop];omega
   have hmin2 : Nat.min (n+1-i) (n+1-(i+1))=n-i:=by rw [show n+1-(i+1)=n-i by omega];exact Nat.min_eq_right (by omega)
   refine s_copyG (kk:=7) (news:=cells.drop (i*7)) rfl rfl rfl (fun j u hj=>own_cells H (.head _) (i*7) j u (by
    rw [List.drop_append_of_le_length (by omega),List.getElem?_append_left (List.getElem?_eq_some_iff.1 hj).1]
    exact hj)) (by rw [hmin2];exact hDl) (by omega) (fun u hu=>h1 u (List.mem_of_mem_drop hu)) H HA ?_
   intro c H HA
   (apply Y2;refine Z0 ?_;refine Z0 ?_)
   refine s_slSub (lo:=i) (hi:=n+1) rfl rfl (.inl rfl) (.inr ⟨rfl,rfl⟩) (by omega) (by omega) (by omega) ?_
   (refine Z0 ?_)
   have hmin : Nat.min 1 (n+1-i)=1:=Nat.min_eq_left (by omega)
   refine s_copyG (kk:=7) (news:=cx) rfl rfl rfl (fun j u hj=>own_cells H (.tail _ (.head _)) 0 j u (by simpa using hj)) (by rw [hmin];omega) (by omega) h2 H HA ?_
   intro c H HA
   (apply Y2;refine Z0 ?_;refine Z2 ?_;apply Y0;apply wc_ret;apply wx_ret_then)
   rw [ins3 (C:=cells) (J:=junk) (n:=n) hcl (by omega) (by omega) (by omega)] at H
   exact ret_fnX (R:=[.row (.slice (some ⟨g,0,none⟩) (n+1) cap) 39 7 (n+1) (cells.take (i*7)++cx++cells.drop (i*7))]) H.swap.drop Ca (outs1 Tryz.results19 Wh) rfl
end Go.Proofs.YtnppmeeibbefbaaGreatDoor
namespace Go.Wk
open Go Go.RowKit Go.Lib
section
variable {P : Program} {ops : Array Oper} {Q : Exit → Act → World → Prop} {n : Nat} {f : Nat → Value} {rest : List Oper} {ty : TypeId} {ps : String} {af : Array Edge} {d : Tmp}
variable {c0 c : Cx} {L : List Res} {A : Cx → Prop}
theorem s_shr64 {T T':TypeId} {x y:Operand} {k:IntKind} {a r:Int} {w:World} (hn:Nat.blt d n=true) (hx:opd f x=.int .u64 a) (hy:opd f y=.int k 1) (hr:a / 2=r) (kk:W P ops Q rest n (upd f d (.int .u64 r)) w) : W P ops Q (⟨some d,.binOp .shr T x y T',ty,ps,af,none⟩::rest) n f w :=
 st_val hn (by subst hr;simp [execOp,hx,hy,eqGuard_shr,binOp_shr,shift_shr_u64]) kk
theorem s_sl3 {T e:TypeId} {z:Value} {kk bb m lo hi cap:Nat} {a:Option Addr} {x y1 y2 y3:Operand} {w:World} (hn:Nat.blt d n=true) [SlT P T e] [TyI P e z kk bb] (hx:opd f x=.slice a m cap) (h1:opd f y1=.int .i64 (lo:Int)) (h2:opd f y2=.int .i64 (hi:Int)) (h3:opd f y3=.int .i64 (m:Int)) (hlo:lo≤hi) (hhi:hi≤m) (hm:m≤cap)
  (k:∀v,W P ops Q rest n (upd f d v) w) : W P ops Q (⟨some d,.slice T x (some y1) (some y2) (some y3),ty,ps,af,none⟩::rest) n f w:=by
 obtain ⟨ti,hi0,_,his,_⟩:=TyI.h (P:=P) (e:=e)
 have hb : (Instr.sliceBounds true m cap (some (.int .i64 (lo:Int))) (some (.int .i64 (hi:Int))) (some (.int .i64 (m:Int)))).run P w=.ok (lo,hi,m) w:=by
  simp [Instr.sliceBounds,Instr.sliceBound,asIntOf,hlo,hhi,hm]
 refine st_val hn (w':=w) ?_ (k (.slice (if m=lo then a else a.map (·.add (lo*kk))) (hi-lo) (m-lo)))
 simp only [execOp,hx,h1,h2,h3,Option.map_some]
 have hs : (Instr.slice T (.slice a m cap) (some (.int .i64 (lo:Int))) (some (.int .i64 (hi:Int))) (some (.int .i64 (m:Int)))).run P w=.ok (.slice (if m=lo then a else a.map (·.add (lo*kk))) (hi-lo) (m-lo)) w:=by
  simp only [Instr.slice,Sem.run_bind,run_underlying (SlT.h (P:=P) (T:=T)),Result.andThen_ok,hb,sizeOf,typeInfo]
  simp [hi0,his]
 simp only [Instr.sliceAt,Sem.run_bind,run_underlying (SlT.h (P:=P) (T:=T)),Result.andThen_ok]
 simp [hs]
theorem s_slJ {T e:TypeId} {z:Value} {kk bb g m lo cap:Nat} {x y:Operand} {w:World} (hn:Nat.blt d n=true) [SlT P T e] [TyI P e z kk bb] (hx:opd f x=.slice (some ⟨g,0,none⟩) m cap) (hy:opd f y=.int .i64 (lo:Int)) (h1:lo≤m) (h2:m≤cap)
  (k:W P ops Q rest n (upd f d (.slice (some ⟨g,if cap=lo then 0 else lo*kk,none⟩) (m-lo) (cap-lo))) w) : W P ops Q (⟨some d,.slice T x (some y) none none,ty,ps,af,none⟩::rest) n f w:=by
 have:=run_slice (P:=P) (T:=T) (ad:=some ⟨g,0,none⟩) (len:=m) (cap:=cap) (lo:=lo) (hi:=m) (some (.int .i64 (lo:Int))) none (.inl rfl) (.inr ⟨rfl,rfl⟩) h1 h2 w
 refine st_val hn (w':=w) ?_ k
 simp only [execOp,hx,Option.map_none,Option.map_some,hy]
 by_cases hc : cap=lo
 ·rw [if_pos hc] at this ⊢
  simp [this]
 ·rw [if_neg hc] at this ⊢
  simp [this,Addr.add_lit]
theorem s_appSelf {T e:TypeId} {z:Value} {kk bb g m i cap ls cs2:Nat} {a:Addr} {x y:Operand} {cells news:List Value} (hn:Nat.blt d n=true) [SlT P T e] [TyI P e z kk bb] (hx:opd f x=.slice (some ⟨g,0,none⟩) i cap) (hy:opd f y=.slice (some a) ls cs2)
  (hsrc:∀j u,news[j]?=some u→c.w.cell? (a.add j)=some u) (hnl:news.length=ls*kk) (hfit:i+ls≤m) (h1:∀u∈news,u.oneCell'=true)
  (H:Owns c0 (.row (.slice (some ⟨g,0,none⟩) m cap) e kk m cells::L) c) (HA:Hd A c) [Mono A] (k:∀c',Owns c0 (.row (.slice (some ⟨g,0,none⟩) m cap) e kk m (cells.take (i*kk)++news++cells.drop (i*kk+news.length))::L) c'→Hd A c'→W P ops Q rest n (upd f d (.slice (some ⟨g,0,none⟩) (i+ls) cap)) c'.w) :
  W P ops Q (⟨some d,.call ⟨.builtin .append,#[x,y],#[T,T]⟩,ty,ps,af,none⟩::rest) n f c.w:=by
 have hres:=H.res _ (List.mem_cons_self ..)
 obtain ⟨cur,hh,_,hnc,hmx,hsz,htk⟩:=row_one hres.1 rfl
 have hmul : m*kk≤cap*kk:=Nat.mul_le_mul_right _ hnc
 have hmul2 : (i+ls)*kk≤m*kk:=Nat.mul_le_mul_right _ hfit
 rw [Nat.add_mul] at hmul2
 obtain ⟨w',hrun,hw,e1,e2,e3,e4,e5,e6⟩:=stores_row (P:=P) g e news (i*kk) 0 cur.toList c.w (by simpa using hh) (by simp;omega) h1
 rw [Nat.add_zero] at hw
 have hl : (cells.take (i*kk)++news++cells.drop (i*kk+news.length)).length=m*kk:=by
  rw [←htk];simp;omega
 have hrow : w'.ownsRow 0 e kk (.slice (some ⟨g,0,none⟩) m cap) m (cells.take (i*kk)++news++cells.drop (i*kk+news.length)):=by
  refine ⟨hl,.inr ⟨g,cap,_,rfl,Nat.zero_le _,hw,hnc,hmx,by simp;omega,?_⟩⟩
  rw [←htk]
  apply List.ext_getElem?
  intro j
  simp only [List.toList_toArray,List.getElem?_take,List.getElem?_append,List.getElem?_drop,List.length_take,List.length_append]
  simp only [Array.length_toList]
  repeat' split
  all_goals first|rfl|omega|(congr 1;omega)|skip
 have h2:=H.turn (r':=.row (.slice (some ⟨g,0,none⟩) m cap) e kk m (cells.take (i*kk)++news++cells.drop (i*kk+news.length))) (w':=w') e1 e2 e3 (by omega) (by omega) (fun q hq hne=>e6 q (fun e'=>hne (by subst e';simp [Res.blk,Value.ownBlock]))) hrow (fun q hq=>.inl hq)
 refine st_val hn (w':=w') ?_ (k ⟨w',_⟩ h2.2 (HA.to h2.1))
 obtain ⟨ti,hi,hiz,his,hib⟩:=TyI.h (P:=P) (e:=e)
 have hfc:=run_firstCells_some (P:=P) c.w kk ls a ls cs2 news hnl hsrc
 have hroom : i+ls≤cap:=by omega
 simp [execOp,resolve,invoke,builtin,hx,hy,Builtin.append_,run_underlying (SlT.h (P:=P) (T:=T)),Builtin.lenOf,sizeOf,typeInfo,hi,his,hroom,hfc,Addr.add_lit,hrun]
theorem s_clearG {T e:TypeId} {z:Value} {kk bb g m o cap cq:Nat} {x:Operand} {cells zs:List Value} [SlT P T e] [TyI P e z kk bb] [Zer P e z] (hz:z.cells=zs.toArray) (hzl:zs.length=kk) (hz1:∀u∈zs,u.oneCell'=true) (hx:opd f x=.slice (some ⟨g,o,none⟩) 1 cq) (hfit:o+kk≤m*kk)
  (H:Owns c0 (.row (.slice (some ⟨g,0,none⟩) m cap) e kk m cells::L) c) (HA:Hd A c) [Mono A] (k:∀c',Owns c0 (.row (.slice (some ⟨g,0,none⟩) m cap) e kk m (cells.take o++zs++cells.drop (o+zs.length))::L) c'→Hd A c'→W P ops Q rest n f c'.w) :
  W P ops Q (⟨none,.call ⟨.builtin .clear,#[x],#[T]⟩,ty,ps,af,none⟩::rest) n f c.w:=by
 have hres:=H.res _ (List.mem_cons_self ..)
 obtain ⟨cur,hh,_,hnc,hmx,hsz,htk⟩:=row_one hres.1 rfl
 have hmul : m*kk≤cap*kk:=Nat.mul_le_mul_right _ hnc
 obtain ⟨w',hrun,hw,e1,e2,e3,e4,e5,e6⟩:=stores_row (P:=P) g e zs o 0 cur.toList c.w (by simpa using hh) (by simp;omega) hz1
 rw [Nat.add_zero] at hw
 have hl : (cells.take o++zs++cells.drop (o+zs.length)).length=m*kk:=by
  rw [←htk];simp;omega
 have hrow : w'.ownsRow 0 e kk (.slice (some ⟨g,0,none⟩) m cap) m (cells.take o++zs++cells.drop (o+zs.length)):=by
  refine ⟨hl,.inr ⟨g,cap,_,rfl,Nat.zero_le _,hw,hnc,hmx,by simp;omega,?_⟩⟩
  rw [←htk]
  apply List.ext_getElem?
  intro j
  simp only [List.toList_toArray,List.getElem?_take,List.getElem?_append,List.getElem?_drop,List.length_take,List.length_append]
  simp only [Array.length_toList]
  repeat' split
  all_goals first|rfl|omega|(congr 1;omega)|skip
 have h2:=H.turn (r':=.row (.slice (some ⟨g,0,none⟩) m cap) e kk m (cells.take o++zs++cells.drop (o+zs.length))) (w':=w') e1 e2 e3 (by omega) (by omega) (fun q hq hne=>e6 q (fun e'=>hne (by subst e';simp [Res.blk,Value.ownBlock]))) hrow (fun q hq=>.inl hq)
 refine st_drop (w':=w') (v:=.tuple #[]) ?_ (k ⟨w',_⟩ h2.2 (HA.to h2.1))
 have hzc : (Builtin.zeroCells z.cells 1).toList=zs:=by
  rw [hz]
  simp only [Builtin.zeroCells,List.size_toArray,Nat.one_mul]
  apply List.ext_getElem
  ·simp
  ·intro j h1 h2
   simp [Nat.mod_eq_of_lt h2,h2]
 simp [execOp,resolve,invoke,builtin,Builtin.clear_,run_underlying (SlT.h (P:=P) (T:=T)),hx,Zer.z (P:=P) (T:=e),hzc,hrun]
theorem Owns.cutRow {e:TypeId} {kk g m m2 cap:Nat} {cells:List Value} (H:Owns c0 (.row (.slice (some ⟨g,0,none⟩) m cap) e kk m cells::L) c) (h:m2≤m) (HA:Hd A c) [Mono A] : ∃c' : Cx,c'.w=c.w∧Owns c0 (.row (.slice (some ⟨g,0,none⟩) m2 cap) e kk m2 (cells.take (m2*kk))::L) c'∧Hd A c':=by
 have hown:=(H.res _ (List.mem_cons_self ..)).1
 obtain ⟨cur,hh,_,hnc,hmx,hsz,htk⟩:=row_one hown rfl
 have hcl : cells.length=m*kk:=hown.1
 have hmul2 : m2*kk≤m*kk:=Nat.mul_le_mul_right _ h
 have hrow : c.w.ownsRow 0 e kk (.slice (some ⟨g,0,none⟩) m2 cap) m2 (cells.take (m2*kk)):=by
  refine ⟨by rw [List.length_take];omega,.inr ⟨g,cap,cur,rfl,Nat.zero_le _,hh,by omega,hmx,hsz,?_⟩⟩
  rw [←htk,List.take_take,Nat.min_eq_left hmul2]
 have hT:=H.turn (r':=.row (.slice (some ⟨g,0,none⟩) m2 cap) e kk m2 (cells.take (m2*kk))) (w':=c.w) rfl rfl rfl (Nat.le_refl _) (Nat.le_refl _) (fun _ _ _=>rfl) hrow (fun b hb=>.inl hb)
 exact ⟨⟨c.w,fun x=>c.M x∨(Res.row (.slice (some ⟨g,0,none⟩) m2 cap) e kk m2 (cells.take (m2*kk))).blk=some x⟩,rfl,hT.2,HA.to hT.1⟩
end
def PosAt (cs:List Cl) (x:Cl) (i:Nat) : Prop:=i≤cs.length∧∀(j:Nat) (u:Cl),cs[j]?=some u→(j<i↔cmpCl u x<0)
theorem Rise.at_ {cs:List Cl} (h:Rise cmpCl cs) {i j:Nat} {a b:Cl} (hi:cs[i]?=some a) (hj:cs[j]?=some b) (hij:i<j) : cmpCl a b<0:=by
 obtain ⟨hi1,rfl⟩:=List.getElem?_eq_some_iff.1 hi
 obtain ⟨hj1,rfl⟩:=List.getElem?_eq_some_iff.1 hj
 exact List.pairwise_iff_getElem.1 h i j hi1 hj1 hij
theorem PosAt.uniq {cs:List Cl} {x:Cl} {i i':Nat} (h:PosAt cs x i) (h':PosAt cs x i') : i=i':=by
 have key : ∀{a b:Nat},PosAt cs x a→PosAt cs x b→¬a<b:=fun {a b} h h' hl=>by
  have hb:=h'.1
  obtain ⟨u,hu⟩ : ∃u,cs[a]?=some u:=⟨_,List.getElem?_eq_getElem (by omega)⟩
  have:=(h.2 a u hu).2 ((h'.2 a u hu).1 hl)
  omega
 have h1:=key h h'
 have h2:=key h' h
 omega
theorem posAt_ex (x:Cl) : ∀{cs:List Cl},Rise cmpCl cs→∃i,PosAt cs x i
 | [],_=>⟨0,Nat.le_refl _,fun j u h=>by simp at h⟩
 | a::cs,h=>by
  have hp:=List.pairwise_cons.1 h
  obtain ⟨i,h1,h2⟩:=posAt_ex x (cs:=cs) hp.2
  by_cases ha : cmpCl a x<0
  ·refine ⟨i+1,by simp;omega,fun j u hj=>?_⟩
   cases j with
   | zero=>simp at hj;subst hj;exact ⟨fun _=>ha,fun _=>by omega⟩
   | succ j=>rw [List.getElem?_cons_succ] at hj;have:=h2 j u hj;exact ⟨fun hl=>this.1 (by omega),fun hl=>by have:=this.2 hl;omega⟩
  ·refine ⟨0,Nat.zero_le _,fun j u hj=>⟨fun hl=>absurd hl (Nat.not_lt_zero _),fun hl=>?_⟩⟩
   cases j with
   | zero=>simp at hj;subst hj;exact absurd hl ha
   | succ j=>rw [List.getElem?_cons_succ] at hj;exact absurd (cmpCl_t3.toP3.lt_tr (hp.1 u (List.mem_of_getElem? hj)) hl) ha
theorem del_cells {C zs:List Value} {i n:Nat} (hC:C.length=n*7) (hi:i<n) :
  (((C.take (i*7)++C.drop ((i+1)*7)++C.drop (i*7+(C.drop ((i+1)*7)).length)).take ((n-1)*7)++zs++(C.take (i*7)++C.drop ((i+1)*7)++C.drop (i*7+(C.drop ((i+1)*7)).length)).drop ((n-1)*7+zs.length)).take ((n-1)*7))=C.take (i*7)++C.drop ((i+1)*7):=by
 have l1 : (C.take (i*7)).length=i*7:=by rw [List.length_take];omega
 have l2 : (C.drop ((i+1)*7)).length=(n-1-i)*7:=by rw [List.length_drop];omega
 have l3 : (C.take (i*7)++C.drop ((i+1)*7)).length=(n-1)*7:=by rw [List.length_append];omega
 rw [List.take_left' l3,List.append_assoc,List.take_left' l3]
end Go.Wk
namespace Go.Proofs.YtnppmeeibbefbaaGreatDoor
open Go Go.Wk Go.Lib Go.RowKit
instance : CvI Tryz.prog 102 3 .i64:=.of (by kernel_rfl) (by kernel_rfl)
theorem BinSearch_C (cs:List Cl) (x:Cl) (v u:Value) (c:Cx) (h1:Sl v cs c) (h2:Ag x u c) (hs:∀y∈cs,y.sm) (hr:Rise cmpCl cs) (hn:cs.length<1073741824) (pos:Nat) (hpx:PosAt cs x pos) :
  Cn Tryz.prog 29 [v,u,.func (.func 30) #[] #[]] c (fun r _=>r=.tuple #[.int .i64 pos,.bool (decide (cs[pos]?=some x))]):=by
 refine Cn.of Tryz.func29 Tryz.ntmps29 rfl rfl fun hm H HA=>?_
 have HA:=(HA.add h1).add h2
 (apply wc_seq;apply wc_region)
 (refine s_boxG rfl rfl Lk H HA ?_;intro p c H HA)
 (refine Z2 ?_;refine Z2 ?_;apply Y2;refine Z0 ?_;refine Z45 ?_;refine Z2 ?_;apply Y2;refine Z0 ?_;refine Z2 ?_;refine Z2 ?_;apply Y0;apply wc_seq;apply wc_block)
 refine wc_loopM (σ:=Nat×Nat) (fun s=>s.2-s.1) (fun s=>[(0,v),(2,.func (.func 30) #[] #[]),(4,p),(8,.int .i64 cs.length),(9,.int .i64 s.1),(10,.int .i64 s.2)]) (fun s=>s.1≤s.2∧s.2≤cs.length∧(∀(j:Nat) (u:Cl),cs[j]?=some u→j<s.1→cmpCl u x<0)∧(∀(j:Nat) (u:Cl),cs[j]?=some u→s.2≤j→¬cmpCl u x<0)) (0,cs.length) H HA Ks ⟨Nat.zero_le _,Nat.le_refl _,fun j u _ h=>absurd h (Nat.not_lt_zero _),fun j u hj h=>absurd (List.getElem?_eq_some_iff.1 hj).1 (by dsimp only at h;omega)⟩ ?_
 rintro ⟨i,j⟩ g c ⟨hij,hjn,hlo,hhi⟩ H HA
 dsimp only at hij hjn hlo hhi ⊢
 (repeat' (first|refine Z0 ?_|apply w_nil|apply wc_seq|apply wc_region|apply wx_next|refine Z18 ?_|refine Z19 ?_|apply wc_exit|apply wc_skip|apply wc_block|apply wx_exit_then|apply wx_exit_same|refine Z48 ?_|refine Z93 (fun hq=>?_) fun hq=>?_))
 ·(skip)
  refine s_conv rfl rfl (r:=((i+j:Nat):Int)) (by rw [←Int.natCast_add];exact wrapU (by omega)) ?_
  refine s_shr64 rfl rfl rfl (r:=(((i+j) / 2:Nat):Int)) (by omega) ?_
  refine s_conv rfl rfl (r:=(((i+j) / 2:Nat):Int)) (wrapI (by omega) (by omega)) ?_
  obtain ⟨h,hh⟩ : ∃h,h=(i+j) / 2:=⟨_,rfl⟩
  rw [←hh]
  obtain ⟨t,ht⟩:=getq (xs:=cs) (k:=h) (by omega)
  (refine Z2 ?_;apply Y0;apply wc_seq)
  (refine dw_start H HA ?_)
  (repeat (refine Dc ?_))
  (refine dw_done mixed H HA rfl (by kernel_rfl) ?_;clear H HA;intro c H HA;(repeat (first|rintro vx rfl|(intro vx hx;have HA:=HA.addSF hx;clear hx)|(intro vx hx;have HA:=HA.add hx;clear hx)|intro vx));change W _ _ _ _ _ _ _)
  (refine s_callV (caps:=[]) rfl rfl rfl H HA (clause_Compare t x _ _ _ Lk Lk (hs t (List.mem_of_getElem? ht))) ?_;intro vx c H HP;have hvx:=HP.h.1;have HA:=HP.cut;subst hvx)
  (repeat' (first|refine Z0 ?_|refine Z2 ?_|apply w_nil|apply wc_region|apply wx_next|refine Z18 ?_|refine Z19 ?_|apply wx_norm_block|refine Z46 ?_|refine Z93 (fun hq=>?_) fun hq=>?_))
  ·have hc:=hq
   exact wx_loopM ((h+1,j)) H Cu Ks (by dsimp only;omega) ⟨by dsimp only;omega,hjn,fun q u' hq hlt=>by
    dsimp only at hlt
    rcases Nat.lt_or_eq_of_le (Nat.le_of_lt_succ hlt) with hl|rfl
    ·exact cmpCl_t3.toP3.lt_tr (hr.at_ hq ht hl) hc
    ·rw [ht] at hq;cases hq;exact hc,hhi⟩
  ·have hc:=hq
   exact wx_loopM ((i,h)) H Cu Ks (by dsimp only;omega) ⟨by dsimp only;omega,by dsimp only;omega,hlo,fun q u' hq hlt=>by
    dsimp only at hlt
    rcases Nat.lt_or_eq_of_le hlt with hl|rfl
    ·intro hu
     exact hc (cmpCl_t3.toP3.lt_tr (hr.at_ ht hq hl) hu)
    ·rw [ht] at hq;cases hq;exact hc⟩
 ·have hpos : PosAt cs x i:=⟨by omega,fun q u' hq=>⟨hlo q u' hq,fun h=>by
   rcases Nat.lt_or_ge q i with h1|h1
   ·exact h1
   ·exact absurd h (hhi q u' hq (by omega))⟩⟩
  obtain rfl:=hpx.uniq hpos
  by_cases hin : (pos:Int)<(cs.length:Int)
  ·obtain ⟨t,ht⟩:=getq (xs:=cs) (k:=pos) (by omega)
   by_cases he : cmpCl t x=0
   ·have hte : t=x:=cmpCl_t3.eq _ _ he
    (refine dw_start H HA ?_)
    (repeat (refine Dc ?_))
    (apply dw_cons;(focus ((intro B _ Lx c H HA;(repeat (first|rintro vx rfl|(intro vx hx;have HA:=HA.addSF hx;clear hx)|(intro vx hx;have HA:=HA.add hx;clear hx)|intro vx));change W _ _ _ _ _ _ _);(apply s_go;exact rfl;exact rfl;exact rfl);(refine s_callV (caps:=[]) rfl rfl rfl H HA (clause_Compare t x _ _ _ Lk Lk (hs t (List.mem_of_getElem? ht))) ?_;intro vx c H HP;have hvx:=HP.h.1;have HA:=HP.cut;subst hvx);exact Dx));exact inferInstance)
    (repeat (refine Dc ?_))
    (refine dw_done mixed H HA rfl (by kernel_rfl) ?_;clear H HA;intro c H HA;(repeat (first|rintro vx rfl|(intro vx hx;have HA:=HA.addSF hx;clear hx)|(intro vx hx;have HA:=HA.add hx;clear hx)|intro vx));change W _ _ _ _ _ _ _)
    (apply Y0;apply wc_ret)
    exact ret_fn H hm (outs2 Tryz.results29 Wh Wh) (by rw [decide_eq_true (by rw [ht,hte])])
   ·have hte : ¬cs[pos]?=some x:=fun e=>by rw [ht] at e;cases e;exact he (cmpCl_t3.refl _)
    (refine dw_start H HA ?_)
    (repeat (refine Dc ?_))
    (apply dw_cons;(focus ((intro B _ Lx c H HA;(repeat (first|rintro vx rfl|(intro vx hx;have HA:=HA.addSF hx;clear hx)|(intro vx hx;have HA:=HA.add hx;clear hx)|intro vx));change W _ _ _ _ _ _ _);(apply s_go;exact rfl;exact rfl;exact rfl);(refine s_callV (caps:=[]) rfl rfl rfl H HA (clause_Compare t x _ _ _ Lk Lk (hs t (List.mem_of_getElem? ht))) ?_;intro vx c H HP;have hvx:=HP.h.1;have HA:=HP.cut;subst hvx);exact Dx));exact inferInstance)
    (repeat (refine Dc ?_))
    (refine dw_done mixed H HA rfl (by kernel_rfl) ?_;clear H HA;intro c H HA;(repeat (first|rintro vx rfl|(intro vx hx;have HA:=HA.addSF hx;clear hx)|(intro vx hx;have HA:=HA.add hx;clear hx)|intro vx));change W _ _ _ _ _ _ _)
    (apply Y0;apply wc_ret)
    exact ret_fn H hm (outs2 Tryz.results29 Wh Wh) (by rw [decide_eq_false hte])
  ·have hte : ¬cs[pos]?=some x:=fun e=>by rw [List.getElem?_eq_none (by omega)] at e;cases e
   (refine dw_start H HA ?_)
   (repeat (refine Dc ?_))
   (refine dw_done mixed H HA rfl (by kernel_rfl) ?_;clear H HA;intro c H HA;(repeat (first|rintro vx rfl|(intro vx hx;have HA:=HA.addSF hx;clear hx)|(intro vx hx;have HA:=HA.add hx;clear hx)|intro vx));change W _ _ _ _ _ _ _)
   (apply Y0;apply wc_ret)
   exact ret_fn H hm (outs2 Tryz.results29 Wh Wh) (by rw [decide_eq_false hte])
set_option maxHeartbeats 1000000 in
theorem Delete_C (n i:Nat) (v:Value) (cells:List Value) (c:Cx) (hi:i<n) (hn:n<1073741824) (h1:∀u∈cells,u.oneCell'=true) :
  CnTX Tryz.prog 23 [v,.int .i64 i,.int .i64 ((i+1:Nat):Int)] [.row v 39 7 n cells] c
   (fun r R _=>R=[.row r 39 7 (n-1) (cells.take (i*7)++cells.drop ((i+1)*7))]):=by
 refine CnTX.of Tryz.func23 Tryz.ntmps23 rfl rfl fun c0 L0 A0 _ H HA=>?_
 have H : Owns c0 (.row v 39 7 n cells::L0) c:=H
 obtain ⟨a,cap,rfl,hcap,hcl,hga⟩:=row_val H (.head _)
 obtain ⟨g,rfl⟩:=hga (by omega)
 (apply Y1;refine Z2 ?_;apply Y2;refine Z0 ?_;refine Z0 ?_;refine Z0 ?_;refine Z0 ?_;refine Z44 ?_)
 refine s_sl3 rfl rfl rfl rfl rfl (by omega) (by omega) hcap ?_
 intro v13
 (repeat' (first|refine Z0 ?_|refine Z2 ?_|apply w_nil|apply wc_seq|apply wc_region|apply wx_next|refine Z18 ?_|refine Z19 ?_|apply wc_ret|apply wc_skip|apply wx_ret_then|refine Z44 ?_|refine Z92 (fun hq=>?_) fun hq=>?_))
 ·exfalso;omega
 ·(skip)
  (refine dw_start H HA ?_)
  (repeat (first|refine Dc ?_|refine Dm ?_))
  (apply dw_cons;(focus ((intro B _ Lx c H HA;(repeat (first|rintro vx rfl|(intro vx hx;have HA:=HA.addSF hx;clear hx)|(intro vx hx;have HA:=HA.add hx;clear hx)|intro vx));change W _ _ _ _ _ _ _);(refine s_slSub (lo:=0) (hi:=i) rfl rfl (.inr ⟨rfl,rfl⟩) (.inl rfl) (by omega) (by omega) (by omega) ?_);exact Dx));exact inferInstance)
  (repeat (first|refine Dc ?_|refine Dm ?_))
  (apply dw_cons;(focus ((intro B _ Lx c H HA;(repeat (first|rintro vx rfl|(intro vx hx;have HA:=HA.addSF hx;clear hx)|(intro vx hx;have HA:=HA.add hx;clear hx)|intro vx));change W _ _ _ _ _ _ _);(refine s_slJ (lo:=i+1) rfl rfl rfl (by omega) hcap ?_);exact Dx));exact inferInstance)
  (refine dw_done mixed H HA rfl (by kernel_rfl) ?_;clear H HA;intro c H HA;(repeat (first|rintro vx rfl|(intro vx hx;have HA:=HA.addSF hx;clear hx)|(intro vx hx;have HA:=HA.add hx;clear hx)|intro vx));change W _ _ _ _ _ _ _)
  have hl2 : (cells.drop ((i+1)*7)).length=(n-(i+1))*7:=by rw [List.length_drop,hcl];omega
  refine s_appSelf (kk:=7) (i:=i) (ls:=n-(i+1)) (news:=cells.drop ((i+1)*7)) rfl rfl rfl (fun j u hj=>?_) hl2 (by omega) (fun u hu=>h1 u (List.mem_of_mem_drop hu)) H HA ?_
  ·rw [if_neg (fun e=>by
    have:=(List.getElem?_eq_some_iff.1 hj).1
    omega)]
   exact own_cells H (.head _) _ j u hj
  intro c H HA
  (refine Z2 ?_;apply Y2;refine Z0 ?_;refine Z0 ?_;refine Z44 ?_;refine Z0 ?_)
  refine s_slSub (lo:=i+(n-(i+1))) (hi:=n) rfl rfl (.inl rfl) (.inl rfl) (by omega) (by omega) (by omega) ?_
  rw [show i+(n-(i+1))=n-1 by omega,show n-(n-1)=1 by omega]
  (skip)
  refine s_clearG (kk:=7) (m:=n) (o:=(n-1)*7) (zs:=Cl.cs ⟨⟨Tn,ES,[]⟩,[],[]⟩ (.slice none 0 0) (.slice none 0 0) (.slice none 0 0)) rfl rfl (by decide) rfl (by omega) H HA ?_
  intro c H HA
  have H:=H
  obtain ⟨c2,hw,H,HA⟩:=H.cutRow (m2:=n-1) (by omega) HA
  rw [del_cells hcl hi] at H
  rw [←hw]
  (apply Y2;refine Z0 ?_;refine Z2 ?_;apply Y0;apply wc_ret)
  exact ret_fnX (R:=[.row (.slice (some ⟨g,0,none⟩) (n-1) (cap-0)) 39 7 (n-1) (cells.take (i*7)++cells.drop ((i+1)*7))]) H Ca (outs1 Tryz.results23 Wh) rfl
instance : Fld Tryz.prog 52 0 0:=.of (k:=0) (by kernel_rfl)
instance : Fld Tryz.prog 52 1 1:=.of (k:=0) (by kernel_rfl)
theorem Kept_place (cs:List Cl) (x:Cl) (k:Nat) (v u m:Value) (c:Cx) (h1:Sl v cs c) (h2:Ag x u c) (hs:∀y∈cs,y.sm) (hr:Rise cmpCl cs) (hn:cs.length<1073741824) (pos:Nat) (hpx:PosAt cs x pos) :
  CnT Tryz.prog 17 [.pointer (some ⟨k,0,none⟩),u] [.obj k (.cells [v,m].toArray 52 (0,0))] [.obj k (.cells [v,m].toArray 52 (0,0))] c (fun r _=>r=.tuple #[.int .i64 pos,.bool (decide (cs[pos]?=some x))]):=by
 refine CnT.of Tryz.func17 Tryz.ntmps17 rfl rfl fun c0 L0 A0 _ H HA=>?_
 have HA:=(HA.add h1).add h2
 (apply wc_seq;apply wc_region)
 (refine s_boxG rfl rfl Lk H HA ?_;intro p c H HA)
 (refine Z2 ?_;refine Z2 ?_;apply Y0;apply wc_seq)
 have H : Owns c0 (.obj k (.cells [v,m].toArray 52 (0,0))::L0) c:=H
 (refine dw_start H HA ?_)
 (repeat (first|refine Dc ?_|refine Dm ?_))
 (apply dw_cons;(focus ((intro B _ Lx c H HA;(repeat (first|rintro vx rfl|(intro vx hx;have HA:=HA.addSF hx;clear hx)|(intro vx hx;have HA:=HA.add hx;clear hx)|intro vx));change W _ _ _ _ _ _ _);(refine s_call rfl rfl H HA (BinSearch_C cs x v _ _ Lk Lk hs hr hn pos hpx) ?_;intro vx c H HP;have hvx:=HP.h.1;have HA:=HP.cut;subst hvx);exact Dx));exact inferInstance)
 (repeat (first|refine Dc ?_|refine Dm ?_))
 (refine dw_done mixed H HA rfl (by kernel_rfl) ?_;clear H HA;intro c H HA;(repeat (first|rintro vx rfl|(intro vx hx;have HA:=HA.addSF hx;clear hx)|(intro vx hx;have HA:=HA.add hx;clear hx)|intro vx));change W _ _ _ _ _ _ _)
 (apply Y0;apply wc_ret)
 exact ret_fnT H (Ca) (outs2 Tryz.results17 Wh Wh) rfl
end Go.Proofs.YtnppmeeibbefbaaGreatDoor
namespace Go.Wk
open Go Go.RowKit Go.Lib
theorem mem_pos {cs:List Cl} {x:Cl} {i:Nat} (hr:Rise cmpCl cs) (hp:PosAt cs x i) : x∈cs↔cs[i]?=some x:=by
 refine ⟨fun h=>?_,List.mem_of_getElem?⟩
 obtain ⟨j,hj⟩:=List.mem_iff_getElem?.1 h
 have h1 : ¬j<i:=fun h=>by have:=(hp.2 j x hj).1 h;have:=cmpCl_t3.toP3.refl x;omega
 have h2 : ¬i<j:=fun h=>by
  obtain ⟨u,hu⟩ : ∃u,cs[i]?=some u:=⟨_,List.getElem?_eq_getElem (by have:=(List.getElem?_eq_some_iff.1 hj).1;omega)⟩
  have:=(hp.2 i u hu).2 (hr.at_ hu hj h)
  omega
 rw [show i=j by omega]
 exact hj
theorem Vals.takeN {α:Type} [Enc α] {vals:List (List Value)} {xs:List α} {c:Cx} (h:Vals vals xs c) (i:Nat) : Vals (vals.take i) (xs.take i) c:=by
 refine ⟨by simp [h.1],fun j cs x h1 h2=>?_⟩
 rw [List.getElem?_take] at h1 h2
 split at h1
 ·rename_i hj
  rw [if_pos hj] at h2
  exact h.2 j cs x h1 h2
 ·cases h1
theorem Vals.dropN {α:Type} [Enc α] {vals:List (List Value)} {xs:List α} {c:Cx} (h:Vals vals xs c) (i:Nat) : Vals (vals.drop i) (xs.drop i) c:=by
 refine ⟨by simp [h.1],fun j cs x h1 h2=>?_⟩
 rw [List.getElem?_drop] at h1 h2
 exact h.2 (i+j) cs x h1 h2
theorem flatten_dropN {kk:Nat} {vals:List (List Value)} (h:∀cs∈vals,cs.length=kk) (i:Nat) : (vals.drop i).flatten=vals.flatten.drop (i*kk):=by
 rcases Nat.lt_or_ge i vals.length with hi|hi
 ·have e : vals.flatten=(vals.take i).flatten++(vals.drop i).flatten:=by rw [←List.flatten_append,List.take_append_drop]
  have l : ((vals.take i).flatten).length=i*kk:=by
   rw [List.length_flatten,List.map_congr_left (g:=fun _=>kk) (fun a ha=>h a (List.mem_of_mem_take ha)),List.map_const',List.sum_replicate_nat,List.length_take,Nat.min_eq_left (by omega)]
  rw [e,List.drop_left' l]
 ·have l : vals.flatten.length=vals.length*kk:=by rw [List.length_flatten,List.map_congr_left (g:=fun _=>kk) h,List.map_const',List.sum_replicate_nat]
  rw [List.drop_eq_nil_of_le hi,List.drop_eq_nil_of_le (by rw [l];exact Nat.mul_le_mul_right _ hi)]
  rfl
theorem vals_ins {α:Type} [Enc α] {vals:List (List Value)} {xs:List α} {c:Cx} {cx:List Value} {x:α} {i kk:Nat} (hk:Enc.k α=kk) (h:Vals vals xs c) (hx:Enc.Ok cx x c) : vals.flatten.take (i*kk)++cx++vals.flatten.drop (i*kk)=(vals.take i++([cx]++vals.drop i)).flatten∧Vals (vals.take i++([cx]++vals.drop i)) (xs.take i++x::xs.drop i) c:=by
 subst hk
 refine ⟨by rw [List.flatten_append,List.flatten_append,flatten_take vals h.len,flatten_dropN h.len];simp,(h.takeN i).append (Vals.append (ys:=xs.drop i) (xs:=[x]) ⟨rfl,fun j cs y h1 h2=>?_⟩ (h.dropN i))⟩
 cases j with
 | zero=>simp at h1 h2;subst h1 h2;exact hx
 | succ j=>simp at h1
theorem vals_del {α:Type} [Enc α] {vals:List (List Value)} {xs:List α} {c:Cx} {i kk:Nat} (hk:Enc.k α=kk) (h:Vals vals xs c) : vals.flatten.take (i*kk)++vals.flatten.drop ((i+1)*kk)=(vals.take i++vals.drop (i+1)).flatten∧Vals (vals.take i++vals.drop (i+1)) (xs.take i++xs.drop (i+1)) c:=by
 subst hk
 exact ⟨by rw [List.flatten_append,flatten_take vals h.len,flatten_dropN h.len],(h.takeN i).append (h.dropN (i+1))⟩
theorem pt_box {α:Type} [Enc α] {b:Nat} {cs:List Value} {x:α} {c:Cx} (h:Box b cs c) (hx:Enc.Ok cs x c) : Pt x (.pointer (some ⟨b,0,none⟩)) c:=by
 exact ⟨b,0,rfl,cs,hx,fun j v hj=>by have:=h.at_ hj;rwa [Nat.zero_add]⟩
theorem rise_ins {cs:List Cl} {x:Cl} {i:Nat} (hr:Rise cmpCl cs) (hp:PosAt cs x i) (hn:x∉cs) : Rise cmpCl (cs.take i++x::cs.drop i):=by
 have hlt : ∀y∈cs.take i,cmpCl y x<0:=fun y hy=>by
  obtain ⟨j,hj⟩:=List.mem_iff_getElem?.1 hy
  rw [List.getElem?_take] at hj
  split at hj
  ·rename_i h;exact (hp.2 j y hj).1 h
  ·cases hj
 have hgt : ∀y∈cs.drop i,cmpCl x y<0:=fun y hy=>by
  obtain ⟨j,hj⟩:=List.mem_iff_getElem?.1 hy
  rw [List.getElem?_drop] at hj
  have h1 : ¬cmpCl y x<0:=fun h=>by have:=(hp.2 (i+j) y hj).2 h;omega
  have h2 : cmpCl y x≠0:=fun h=>hn (cmpCl_t3.eq _ _ h▸List.mem_of_getElem? hj)
  have:=cmpCl_t3.neg x y
  omega
 have hs : Rise cmpCl (cs.take i++cs.drop i):=by rw [List.take_append_drop];exact hr
 have hA:=List.pairwise_append.1 hs
 refine List.pairwise_append.2 ⟨hA.1,List.pairwise_cons.2 ⟨hgt,hA.2.1⟩,fun a ha b hb=>?_⟩
 rcases List.mem_cons.1 hb with rfl|hb
 ·exact hlt a ha
 ·exact hA.2.2 a ha b hb
theorem mem_ins {cs:List Cl} {x y:Cl} {i:Nat} : y∈cs.take i++x::cs.drop i↔y=x∨y∈cs:=by
 have h : y∈cs↔y∈cs.take i∨y∈cs.drop i:=by rw [←List.mem_append,List.take_append_drop]
 rw [List.mem_append,List.mem_cons,h]
 exact ⟨fun h=>h.elim (fun h=>.inr (.inl h)) fun h=>h.elim .inl fun h=>.inr (.inr h),fun h=>h.elim (fun h=>.inr (.inl h)) fun h=>h.elim .inl fun h=>.inr (.inr h)⟩
end Go.Wk
namespace Go.Proofs.YtnppmeeibbefbaaGreatDoor
open Go Go.Wk Go.Lib Go.RowKit
structure KpS where
 k : Nat
 m : Nat
 v : Value
 cs : List Cl
 F : List FE
 ck : Nat
structure KpOk (S:KpS) : Prop where
 rise : Rise cmpCl S.cs
 len : S.cs.length≤1000
 fk : FkOk S.F S.ck
 lm : LmOk S.cs
 all : ∀a,a∈ats S.F↔LM S.cs a
 big : S.F.length≤5000
def KpF (S:KpS) (c:Cx) : Prop:=Sl S.v S.cs c∧FkF S.F c
instance (S : KpS) : Mono (KpF S):=⟨fun h k=>⟨Mono.mono h k.1,Mono.mono h k.2⟩⟩
theorem LmOk.same {cs cs':List Cl} (h:LmOk cs) (hm:∀x,x∈cs'↔x∈cs) (hl:cs'.length≤1001) : LmOk cs':=by
 have e : ∀a,LM cs' a↔LM cs a:=fun a=>⟨LM.mono fun x hx=>(hm x).1 hx,LM.mono fun x hx=>(hm x).2 hx⟩
 exact ⟨fun x hx=>h.cl x ((hm x).1 hx),hl,fun x hx=>(h.cap x ((hm x).1 hx)).mono fun a ha=>(e a).1 ha,fun b hb=>h.fct b ((e b).1 hb),fun l hn hl=>h.big l hn fun a ha=>(e a).1 (hl a ha)⟩
theorem ClOk.sm {x:Cl} (h:ClOk x) : x.sm:=h.fit.1
def KpS.kO (S:KpS) : Obj:=.cells [S.v,.map (some S.m)].toArray 52 (0,0)
def KpS.res (S:KpS) : List Res:=[.obj S.k S.kO,.obj S.m (fM S.F S.ck)]
instance : Agg Tryz.prog 27 2:=.of (by kernel_rfl) (by kernel_rfl)
instance : Zer Tryz.prog 27 (.agg #[.slice none 0 0,.slice none 0 0]):=.of (by kernel_rfl)
instance : BldZ Tryz.prog 27 [[.slice none 0 0],[.slice none 0 0]]:=⟨Bld.of (pl:=[(0,1),(1,1)]) (by kernel_rfl) (by kernel_rfl)⟩
instance : Fld Tryz.prog 27 0 0:=.of (k:=0) (by kernel_rfl)
instance : Fld Tryz.prog 27 1 1:=.of (k:=0) (by kernel_rfl)
def AdP (S:KpS) (x:Cl) (v:Value) (R:List Res) (c:Cx) : Prop:=∃S' vl l e,v=.tuple #[.agg #[vl,.slice none 0 0],.int .i64 e]∧R=S'.res∧KpF S' c∧Sl vl l c ∧
 ((x∈S.cs∧S'=S∧l=[]∧e=0)∨(x∉S.cs∧1000≤S.cs.length∧S'=S∧l=[]∧e=101) ∨
  (x∉S.cs∧S.cs.length<1000∧S'=S∧l=[]∧e=102∧∃q:List At0,q.Nodup∧5000<q.length∧∀a∈q,LM (x::S.cs) a) ∨
  (x∉S.cs∧S.cs.length<1000∧e=0∧S'.k=S.k∧S'.m=S.m∧KpOk S'∧S'.cs.length=S.cs.length+1∧(∀y,y∈S'.cs↔y=x∨y∈S.cs)∧S'.F.length≤5000∧S.F.length+l.length=S'.F.length∧(∀a,a∈l↔a∈ats S'.F∧a∉ats S.F)∧l.Pairwise fun a b=>cmpAt a b≤0))
instance (S : KpS) (x : Cl) (v : Value) (R : List Res) : Mono (AdP S x v R):=⟨fun h ⟨S',vl,l,e,h1,h2,h3,h4,h5⟩=>⟨S',vl,l,e,h1,h2,Mono.mono h h3,Mono.mono h h4,h5⟩⟩
def GrQ (W:Nat→Value) (c0 c1:Cx) (cs:List Cl) (mh:Nat) (H:List FE) (ckh M:Nat) (u:Value) (c:Cx) : Prop:=∃m2 C ck2 c2,u=W m2∧FrZ c0 c2 [.obj m2 (fM C ck2),.obj mh (fM H ckh)] c∧Since c1 c2∧FkF C c2∧FkOk C ck2∧(∀a,LM cs a↔a∈ats H∨a∈ats C)∧(∀a∈ats C,a∉ats H)∧H.length+C.length≤M
instance (W : Nat→Value) (c0 c1 : Cx) (cs : List Cl) (mh : Nat) (H : List FE) (ckh M : Nat) (u : Value) : Mono (GrQ W c0 c1 cs mh H ckh M u):=⟨fun h ⟨m2,C,ck2,c2,k1,k2,k3⟩=>⟨m2,C,ck2,c2,k1,Mono.mono h k2,k3⟩⟩
theorem nodup_cover {H C l:List At0} (hl:l.Nodup) (h:∀a∈l,a∈H∨a∈C) : l.length≤H.length+C.length:=by
 rw [←List.length_append]
 exact hl.length_le_of_subset fun a ha=>List.mem_append.2 (h a ha)
structure FillI (F C:List FE) (y:List FE×List FE×Nat) : Prop where
 dn : (y.1.map FE.bn).Nodup
 dl : ∀q∈y.1,q∈C
 fk : FkOk y.2.1 y.2.2
 eq : ats y.2.1=ats F++ats y.1
theorem FillI.len {F C:List FE} {y:List FE×List FE×Nat} (h:FillI F C y) : y.1.length≤C.length:=by
 have h1:=h.dn.length_le_of_subset (l₂:=C.map FE.bn) (fun b hb=>by
  obtain ⟨q,hq,rfl⟩:=List.mem_map.1 hb
  exact List.mem_map.2 ⟨q,h.dl q hq,rfl⟩)
 simpa using h1
theorem FillI.step {F C:List FE} {y:List FE×List FE×Nat} {ckc:Nat} {e:FE} (h:FillI F C y) (hC:FkOk C ckc) (hd:∀a∈ats C,a∉ats F) (he:e∈C) (hn:e.bn∉y.1.map FE.bn) : e.at_∉ats y.2.1∧FillI F C (y.1++[e],y.2.1++[⟨e.at_,e.va,y.2.2⟩],y.2.2+1):=by
 have hnew : e.at_∉ats y.2.1:=fun hin=>by
  rw [h.eq,List.mem_append] at hin
  rcases hin with hin|hin
  ·exact hd _ (List.mem_map.2 ⟨e,he,rfl⟩) hin
  ·obtain ⟨q,hq,hqe⟩:=List.mem_map.1 hin
   have : q=e:=inj_of_nodup hC.nd (h.dl q hq) he hqe
   subst this
   exact hn (List.mem_map.2 ⟨q,hq,rfl⟩)
 refine ⟨hnew,⟨?_,fun q hq=>(List.mem_append.1 hq).elim (h.dl q) fun hq=>by rw [List.mem_singleton.1 hq];exact he,h.fk.add (hC.ok e he) hnew,?_⟩⟩
 ·rw [List.map_append,List.nodup_append]
  refine ⟨h.dn,List.nodup_cons.2 ⟨List.not_mem_nil,List.nodup_nil⟩,?_⟩
  rintro x hx y hy rfl
  simp only [List.map_cons,List.map_nil,List.mem_singleton] at hy
  subst hy
  exact hn hx
 ·rw [ats_add]
  show ats y.2.1++[e.at_]=ats F++ats (y.1++[e])
  rw [h.eq,List.append_assoc]
  simp [ats]
theorem FillI.start (F C:List FE) (ck:Nat) (h:FkOk F ck) : FillI F C ([],F,ck):=⟨List.nodup_nil,(fun _ h=>by cases h),h,by simp [ats]⟩
set_option maxHeartbeats 4000000 in
theorem Kept_Add (S:KpS) (x:Cl) (u:Value) (c:Cx) (hS:KpOk S) (hF:KpF S c) (hx:Ag x u c) (hk:ClOk x) (hn:x.normal=x) (hL:S.cs.length<1000→x∉S.cs→LmOk (x::S.cs)) (hg:GlobOk c) (hp:Box 3 P10c c) :
  CnTX Tryz.prog 7 [.pointer (some ⟨S.k,0,none⟩),u] S.res c (AdP S x):=by
 refine CnTX.of Tryz.func7 Tryz.ntmps7 rfl rfl fun c0 L0 A0 _ H HA=>?_
 have HA:=(((((HA.add hF.1).add hF.2).add hx).add hg).add hg.none).add hp
 have H : Owns c0 (.obj S.k (.cells [S.v,.map (some S.m)].toArray 52 (0,0))::.obj S.m (fM S.F S.ck)::L0) c:=H
 have hlen:=hS.len
 (apply wc_seq;apply wc_region)
 (refine s_boxG rfl rfl Lk H HA ?_;intro p c H HA)
 (skip)
 (refine s_alloc rfl (by conv=>lhs;whnf) H HA ?_;intro b4 c H HA)
 (refine Z2 ?_;apply Y0;apply wc_seq;apply Y1;refine Z39 HA fun vx HA=>?_)
 (refine s_call rfl rfl H HA (clause_Check x _ _ Lk hk.fit Lk) ?_;intro vx c H HP;have hvx:=HP.h.1;have HA:=HP.cut;subst hvx)
 rw [hk.check]
 (focus (refine Z2 ?_;apply Y2;refine Z0 ?_;refine Z94 (fun hq=>?_) fun hq=>?_;apply Y0;refine Z18 ?_;apply Y1;refine Z54 ?_;refine Z0 ?_;refine Z74 fun c H HA=>?_;refine Z2 ?_;apply Y0;apply wc_ret;apply wx_ret_then;rotate_left;apply Y0;refine Z19 ?_;apply wc_skip;apply wx_next;apply Y1;refine Z0 ?_;refine Z39 HA fun vx HA=>?_;rotate_left))
 ·exact absurd rfl hq
 obtain ⟨pos,hpos⟩:=posAt_ex x hS.rise
 have H : Owns c0 (.obj S.k (.cells [S.v,.map (some S.m)].toArray 52 (0,0))::(.obj b4 (.cells [.slice none 0 0,.slice none 0 0].toArray 27 (0,0))::.obj S.m (fM S.F S.ck)::L0)) c:=H.swap
 refine s_callT (pre:=[.obj S.k (.cells [S.v,.map (some S.m)].toArray 52 (0,0))]) (post:=[.obj S.k (.cells [S.v,.map (some S.m)].toArray 52 (0,0))]) rfl rfl H HA (Kept_place S.cs x S.k S.v _ (.map (some S.m)) _ Lk Lk (fun y hy=>(hS.lm.cl y hy).sm) hS.rise (by omega) pos hpos) ?_
 intro v24 c H HA
 have h24:=HA.h.1
 subst h24
 have HA:=HA.cut
 have H : Owns c0 (.obj b4 (.cells [.slice none 0 0,.slice none 0 0].toArray 27 (0,0))::.obj S.k (.cells [S.v,.map (some S.m)].toArray 52 (0,0))::.obj S.m (fM S.F S.ck)::L0) c:=H.swap
 by_cases hmem : x∈S.cs
 ·rw [decide_eq_true ((mem_pos hS.rise hpos).1 hmem)]
  (refine Z0 ?_;refine Z32 ?_;refine Z32 ?_;refine Z2 ?_;refine Z2 ?_;apply Y0;apply wc_seq;apply Y1;refine Z0 ?_;apply Y0;refine Z18 ?_;apply Y1;refine Z54 ?_;refine Z74 fun c H HA=>?_;refine Z2 ?_;apply Y0;apply wc_ret;apply wx_ret_then)
  refine ret_fnX (R:=S.res) H.drop Ca (outsR2 Tryz.results7 (RV.agg rfl H Ow Rc) (RV.tmp Wh)) ?_
  exact ⟨S,_,[],0,rfl,rfl,⟨Lk,Lk⟩,Sl.nil _,.inl ⟨hmem,rfl,rfl,rfl⟩⟩
 ·rw [decide_eq_false fun h=>hmem ((mem_pos hS.rise hpos).2 h)]
  (repeat' (first|refine Z0 ?_|refine Z2 ?_|refine Z3 ?_|apply w_nil|apply wc_seq|apply wc_region|apply wx_next|refine Z18 ?_|refine Z19 ?_|apply wc_ret|apply wc_skip|apply wx_ret_then|refine Z32 ?_|refine Z39 HA fun vx HA=>?_|refine Z41 ?_|refine Z45 ?_|refine Z54 ?_|refine Z74 fun c H HA=>?_|refine Z97 (fun hq=>?_) fun hq=>?_|(refine s_nilCheck rfl rfl ?_)))
  ·refine ret_fnX (R:=S.res) H.drop Ca (outsR2 Tryz.results7 (RV.agg rfl H Ow Rc) (RV.tmp Wh)) ?_
   exact ⟨S,_,[],101,rfl,rfl,⟨Lk,Lk⟩,Sl.nil _,.inr (.inl ⟨hmem,by omega,rfl,rfl,rfl⟩)⟩
  ·have hL2:=hL (by omega) hmem
   refine s_call rfl rfl H HA (clause_Normal x _ _ Lk) ?_
   intro v37 c H HA
   rw [hn] at HA
   obtain ⟨cx0,rfl,va,vb,vt,rfl,h5,h6,h7⟩:=HA.h.1
   have HA:=((HA.cut.add h5).add h6).add h7
   (refine s_alloc rfl (by conv=>lhs;whnf) H HA ?_;intro b9 c H HA)
   refine s_storeA (vs:=x.cs va vb vt) (cs':=x.cs va vb vt) rfl rfl H HA rfl (ones_cons rfl (ones_cons rfl (ones_cons rfl (ones_cons rfl (ones_cons h5.oneC (ones_cons h6.oneC (ones_cons h7.oneC ones_nil))))))) Rc ?_
   intro c H HA
   (apply Y0;apply wc_seq)
   have H : Owns c0 (.obj b9 (.cells (x.cs va vb vt).toArray 39 (0,0))::.obj b4 (.cells [.slice none 0 0,.slice none 0 0].toArray 27 (0,0))::.obj S.k (.cells [S.v,.map (some S.m)].toArray 52 (0,0))::.obj S.m (fM S.F S.ck)::L0) c:=H
   obtain ⟨c1,hc1⟩ : ∃c1,c1=c:=⟨c,rfl⟩
   have HS : Since c1 c:=by rw [hc1];exact Le.refl c
   have HA:=HA.add HS
   have HA1:=HA
   rw [←hc1] at HA1
   (refine dw_start H HA ?_)
   (repeat (first|refine Dc ?_|refine Dm ?_))
   refine dw_cons (s:=.rel (TurnZ c0 c1 (RowP 39 7 S.cs))) ?_ inferInstance ?_
   ·(intro B _ Lx c H HA;(repeat (first|rintro vx rfl|(intro vx hx;have HA:=HA.addSF hx;clear hx)|(intro vx hx;have HA:=HA.add hx;clear hx)|intro vx));change W _ _ _ _ _ _ _)
    refine s_callO rfl rfl H HA (Clone_Cl S.cs S.v _ Lk) ?_
    intro v R c H HA
    have hE:=HA.h.1
    have HA:=HA.cut
    have hsc : Since c1 c:=Lk
    obtain ⟨c',hw,hle,H',hz⟩:=H.freezeZ (c1:=c) (Le.refl c)
    rw [←hw]
    have HA2:=HA.to hle
    clear HA
    have HA:=HA2
    exact w_nil (pq_rel H' Cu ⟨c,R,hz,hsc,hE⟩)
   (refine Dc ?_)
   (refine Dc ?_)
   refine dw_cons (s:=.row 39 7 1 (x.cs va vb vt)) ?_ inferInstance ?_
   ·(intro B _ Lx c H HA;(repeat (first|rintro vx rfl|(intro vx hx;have HA:=HA.addSF hx;clear hx)|(intro vx hx;have HA:=HA.add hx;clear hx)|intro vx));change W _ _ _ _ _ _ _)
    refine s_bs1OV (cs:=x.cs va vb vt) (u:=x) rfl rfl (⟨va,vb,vt,rfl,Lk,Lk,Lk⟩:Enc.Ok (x.cs va vb vt) x _) rfl rfl rfl H HA inferInstance ?_
    intro v c H HA
    exact w_nil (pq_row H Cu)
   refine dw_doneO mixed H HA rfl (by kernel_rfl) ?_
   clear H HA
   intro c HA v42 h42 v45 H
   change W _ _ _ _ _ _ _
   obtain ⟨c2,R,hz,hsc,vals,rfl,hV⟩:=h42
   have H : Owns c0 (.row v45 39 7 1 (x.cs va vb vt)::.obj b9 (.cells (x.cs va vb vt).toArray 39 (0,0))::.obj b4 (.cells [.slice none 0 0,.slice none 0 0].toArray 27 (0,0))::.obj S.k (.cells [S.v,.map (some S.m)].toArray 52 (0,0))::.obj S.m (fM S.F S.ck)::L0) c:=H
   have HA2:=(HA1.to hsc).add hV
   refine w_thawZ H hz HA2 ?_
   clear H HA
   intro c H HA
   have hV : Vals vals S.cs c:=Lk
   have H : Owns c0 ([.row v42 39 7 S.cs.length vals.flatten,.row v45 39 7 1 (x.cs va vb vt)]++(.obj b9 (.cells (x.cs va vb vt).toArray 39 (0,0))::.obj b4 (.cells [.slice none 0 0,.slice none 0 0].toArray 27 (0,0))::.obj S.k (.cells [S.v,.map (some S.m)].toArray 52 (0,0))::.obj S.m (fM S.F S.ck)::L0)) c:=H
   have hxo : Enc.Ok (x.cs va vb vt) x c:=⟨va,vb,vt,rfl,Lk,Lk,Lk⟩
   have hvl:=hV.len
   refine s_callX rfl rfl H HA (Insert_C S.cs.length pos v42 v45 vals.flatten (x.cs va vb vt) _ hpos.1 (by omega) hV.one (Enc.one _ _ _ hxo)) ?_
   intro v46 R c H HA
   have hR:=HA.h.1
   subst hR
   have HA:=HA.cut
   have hV : Vals vals S.cs c:=Lk
   have hxo : Enc.Ok (x.cs va vb vt) x c:=⟨va,vb,vt,rfl,Lk,Lk,Lk⟩
   obtain ⟨cs',hcs'⟩ : ∃cs',cs'=S.cs.take pos++x::S.cs.drop pos:=⟨_,rfl⟩
   have hcl : cs'.length=S.cs.length+1:=by
    have:=hpos.1
    rw [hcs',List.length_append,List.length_cons,List.length_take,List.length_drop]
    omega
   have hcm : ∀y,y∈cs'↔y=x∨y∈S.cs:=fun y=>by rw [hcs'];exact mem_ins
   have hcr : Rise cmpCl cs':=by rw [hcs'];exact rise_ins hS.rise hpos hmem
   have hLc : LmOk cs':=hL2.same (fun y=>by rw [hcm,List.mem_cons]) (by omega)
   obtain ⟨e1,hV2⟩:=vals_ins (i:=pos) (kk:=7) rfl hV hxo
   rw [←hcs'] at hV2
   have H : Owns c0 (.row v46 39 7 (S.cs.length+1) (vals.take pos++([x.cs va vb vt]++vals.drop pos)).flatten::.obj b9 (.cells (x.cs va vb vt).toArray 39 (0,0))::.obj b4 (.cells [.slice none 0 0,.slice none 0 0].toArray 27 (0,0))::.obj S.k (.cells [S.v,.map (some S.m)].toArray 52 (0,0))::.obj S.m (fM S.F S.ck)::L0) c:=by
    rw [←e1];exact H
   refine w_freezeRow H HA hV2 hcl.symm rfl (by simp only [LIM];omega) ?_
   intro c H HA
   refine w_freeze H HA ?_
   intro c H HA
   have hxo : Enc.Ok (x.cs va vb vt) x c:=⟨va,vb,vt,rfl,Lk,Lk,Lk⟩
   have HA:=HA.cut.add (pt_box HA.h.1 hxo)
   (refine Z2 ?_;apply Y0;apply wc_seq)
   have hgrw:=fun c (h1:FkF S.F c) (h2:Sl v46 cs' c) (vf:Value) (h3:Sl vf [x] c) (h4:GlobOk c) (h5:Box 3 P10c c)=>upkeep_grown cs' [x] v46 vf S.m S.F S.ck 5000 c h1 hS.fk h2 h3 hLc (fun y hy=>by rw [List.mem_singleton.1 hy];exact (hcm x).2 (.inl rfl)) (by simp) (fun a ha=>LM.mono (fun y hy=>(hcm y).2 (.inr hy)) ((hS.all a).1 ha)) (fun y hy=>((hcm y).1 hy).elim (fun h=>.inl (by rw [h];exact .head _)) fun h=>.inr fun b hb=>(hS.all b).2 (LM.closed (Stp.mono (fun z hz=>by rw [List.mem_singleton.1 hz];exact h) (fun a ha=>(hS.all a).1 ha) hb))) (by omega) h4 h5
   obtain ⟨c3,hc3⟩ : ∃c3,c3=c:=⟨c,rfl⟩
   have HS3 : Since c3 c:=by rw [hc3];exact Le.refl c
   have HA:=HA.add HS3
   have HA1:=HA
   rw [←hc3] at HA1
   have H : Owns c0 (([.obj S.m (fM S.F S.ck)]++[])++(.obj b4 (.cells [.slice none 0 0,.slice none 0 0].toArray 27 (0,0))::.obj S.k (.cells [S.v,.map (some S.m)].toArray 52 (0,0))::L0)) c:=H.perm Pm
   by_cases hbig : ∃q : List At0,q.Nodup∧5000<q.length∧∀a∈q,LM cs' a
   ·refine dw_startE (I:=[.obj S.m (fM S.F S.ck)]++[]) H HA ?_
    (repeat (first|refine Dc ?_|refine Dm ?_))
    refine dw_consT (pr:=[.obj S.m (fM S.F S.ck)]) (po:=[.obj S.m (fM S.F S.ck)]) (S:=fun v _=>v=.tuple #[.map none,.bool false]) ?_ (by intro v;infer_instance) ?_
    ·(intro B _ Lx c HA;(repeat (first|rintro vx rfl|(intro vx hx;have HA:=HA.addSF hx;clear hx)|(intro vx hx;skip;have HA:=HA.add hx;clear hx)|(intro vx;have hvx2:Go.Value:=vx;clear hvx2)));(first|intro H|(have H:=HA.h.1;have HA:=HA.cut));change W _ _ _ _ _ _ _)
     refine s_callX rfl rfl H HA (hgrw _ Lk Lk _ Lk Lk Lk) ?_
     intro v R c H HA
     rcases HA.h.1 with ⟨m2,C,ck2,_,_,_,_,hall,_,hcnt⟩|⟨l,rfl,rfl,_⟩
     ·exfalso
      obtain ⟨q,hq1,hq2,hq3⟩:=hbig
      have:=nodup_cover hq1 fun a ha=>(hall a).1 (hq3 a ha)
      simp only [ats,List.length_map] at this
      omega
     ·exact w_nil (pq_turn H Cu rfl)
    (repeat (first|refine Dc ?_|refine Dm ?_))
    refine dw_doneT mixed (I:=[.obj S.m (fM S.F S.ck)]++[]) (by kernel_rfl) H HA (by kernel_rfl) ?_
    clear H HA
    intro c HA v53 h53 v54 h54 v55 h55 H
    change W _ _ _ _ _ _ _
    subst h55
    have H : Owns c0 (.obj S.m (fM S.F S.ck)::.obj b4 (.cells [.slice none 0 0,.slice none 0 0].toArray 27 (0,0))::.obj S.k (.cells [S.v,.map (some S.m)].toArray 52 (0,0))::L0) c:=H
    have H : Owns c0 (.obj b4 (.cells [.slice none 0 0,.slice none 0 0].toArray 27 (0,0))::.obj S.k (.cells [S.v,.map (some S.m)].toArray 52 (0,0))::.obj S.m (fM S.F S.ck)::L0) c:=H.perm Pm
    (apply Y0;apply wc_seq;apply Y1;refine Z0 ?_;refine Z33 ?_;apply Y0;refine Z18 ?_;apply Y1;refine Z54 ?_;refine Z74 fun c H HA=>?_;refine Z2 ?_;apply Y0;apply wc_ret;apply wx_ret_then)
    obtain ⟨q,hq1,hq2,hq3⟩:=hbig
    refine ret_fnX (R:=S.res) H.drop Ca (outsR2 Tryz.results7 (RV.agg rfl H Ow Rc) (RV.tmp Wh)) ?_
    exact ⟨S,_,[],102,rfl,rfl,⟨Lk,Lk⟩,Sl.nil _,.inr (.inr (.inl ⟨hmem,by omega,rfl,rfl,rfl,q,hq1,hq2,fun a ha=>LM.mono (fun y hy=>List.mem_cons.2 ((hcm y).1 hy)) (hq3 a ha)⟩))⟩
   ·refine dw_startE (I:=[.obj S.m (fM S.F S.ck)]++[]) H HA ?_
    (repeat (first|refine Dc ?_|refine Dm ?_))
    refine dw_consT (pr:=[.obj S.m (fM S.F S.ck)]) (po:=[]) (S:=GrQ (fun m2=>.tuple #[.map (some m2),.bool true]) c0 c3 cs' S.m S.F S.ck 5000) ?_ inferInstance ?_
    ·(intro B _ Lx c HA;(repeat (first|rintro vx rfl|(intro vx hx;have HA:=HA.addSF hx;clear hx)|(intro vx hx;skip;have HA:=HA.add hx;clear hx)|(intro vx;have hvx2:Go.Value:=vx;clear hvx2)));(first|intro H|(have H:=HA.h.1;have HA:=HA.cut));change W _ _ _ _ _ _ _)
     refine s_callX rfl rfl H HA (hgrw _ Lk Lk _ Lk Lk Lk) ?_
     intro v R c H HA
     have hE:=HA.h.1
     have HA:=HA.cut
     rcases hE with ⟨m2,C,ck2,rfl,rfl,h3,h4,h5,h6,h7⟩|⟨l,_,_,hl⟩
     ·have hsc : Since c3 c:=Lk
      obtain ⟨c',hw,hle,H',hz⟩:=H.freezeZ (c1:=c) (Le.refl c)
      rw [←hw]
      have HA2:=HA.to hle
      clear HA
      have HA:=HA2
      exact w_nil (pq_turn H' Cu ⟨m2,C,ck2,c,rfl,hz,hsc,h3,h4,h5,h6,h7⟩)
     ·exact absurd ⟨l,hl⟩ hbig
    refine dw_cons (s:=.rel (GrQ (fun m2=>.tuple #[.map (some m2),.bool true]) c0 c3 cs' S.m S.F S.ck 5000)) ?_ inferInstance ?_
    ·(intro B _ Lx c H HA;(repeat (first|rintro vx rfl|(intro vx hx;have HA:=HA.addSF hx;clear hx)|(intro vx hx;have HA:=HA.add hx;clear hx)|intro vx));change W _ _ _ _ _ _ _)
     (apply s_move;exact rfl;(conv=>lhs;whnf))
     exact w_nil (pq_rel H Cu Lk)
    refine dw_cons (s:=.rel (GrQ (fun m2=>.map (some m2)) c0 c3 cs' S.m S.F S.ck 5000)) ?_ inferInstance ?_
    ·(intro B _ Lx c H HA;(repeat (first|rintro vx rfl|(intro vx hx;have HA:=HA.addSF hx;clear hx)|(intro vx hx;have HA:=HA.add hx;clear hx)|intro vx));change W _ _ _ _ _ _ _)
     obtain ⟨m2,C,ck2,c2,rfl,hz,hsc,hk⟩:=HA.h.1
     (apply s_extract;exact rfl;exact rfl;exact rfl)
     exact w_nil (pq_rel H Cu ⟨m2,C,ck2,c2,rfl,hz,hsc,hk⟩)
    refine dw_cons (s:=.val (.bool true)) ?_ inferInstance ?_
    ·(intro B _ Lx c H HA;(repeat (first|rintro vx rfl|(intro vx hx;have HA:=HA.addSF hx;clear hx)|(intro vx hx;have HA:=HA.add hx;clear hx)|intro vx));change W _ _ _ _ _ _ _)
     obtain ⟨m2,C,ck2,c2,rfl,hz,hsc,hk⟩:=HA.h.1
     (apply s_extract;exact rfl;exact rfl;exact rfl)
     exact Dx
    refine dw_cons (s:=.rel (GrQ (fun m2=>.map (some m2)) c0 c3 cs' S.m S.F S.ck 5000)) ?_ inferInstance ?_
    ·(intro B _ Lx c H HA;(repeat (first|rintro vx rfl|(intro vx hx;have HA:=HA.addSF hx;clear hx)|(intro vx hx;have HA:=HA.add hx;clear hx)|intro vx));change W _ _ _ _ _ _ _)
     (apply s_assign;exact rfl;(conv=>lhs;whnf))
     exact w_nil (pq_rel H Cu Lk)
    (repeat (first|refine Dc ?_|refine Dm ?_))
    refine dw_doneT mixed (I:=[.obj S.m (fM S.F S.ck)]++[]) (by kernel_rfl) H HA (by kernel_rfl) ?_
    clear H HA
    intro c HA v53 h53 v54 h54 v55 h55 v47 h47 v56 h56 v11 h11 H
    change W _ _ _ _ _ _ _
    obtain ⟨m2,C,ck2,c4,rfl,hz,hsc2,hFC,hOC,hall,hdis,hcnt⟩:=h11
    have H : Owns c0 (.obj b4 (.cells [.slice none 0 0,.slice none 0 0].toArray 27 (0,0))::.obj S.k (.cells [S.v,.map (some S.m)].toArray 52 (0,0))::L0) c:=H
    have HA2:=(HA1.to hsc2).add hFC
    refine w_thawZ H hz HA2 ?_
    clear H HA
    intro c H HA
    have H : Owns c0 (.obj m2 (gObj (C.map FE.ge) ck2)::.obj S.m (fM S.F S.ck)::.obj b4 (.cells [.slice none 0 0,.slice none 0 0].toArray 27 (0,0))::.obj S.k (.cells [S.v,.map (some S.m)].toArray 52 (0,0))::L0) c:=H
    have H : Owns c0 (.obj S.k (.cells [S.v,.map (some S.m)].toArray 52 (0,0))::.obj S.m (fM S.F S.ck)::.obj m2 (gObj (C.map FE.ge) ck2)::.obj b4 (.cells [.slice none 0 0,.slice none 0 0].toArray 27 (0,0))::L0) c:=H.perm Pm
    (apply Y0;apply wc_seq;apply Y1;refine Z0 ?_;refine Z33 ?_;apply Y0;refine Z19 ?_;apply wc_skip;apply wx_next;apply Y1;refine Z0 ?_;refine Z0 ?_;(refine s_nilCheck rfl rfl ?_);refine Z3 ?_;refine Z75 fun c H HA=>?_;apply Y0;apply wc_seq;apply Y1;refine Z0 ?_)
    refine s_rangeG rfl rfl H (.tail _ (.tail _ (.head _))) HA ?_
    intro rx c H HA
    (apply Y0;apply wc_block)
    have hF2 : FkF S.F c:=Lk
    refine wc_loopG (σ:=List FE×List FE×Nat) (fun y=>C.length-y.1.length) (fun y=>[(0,.pointer (some ⟨S.k,0,none⟩)),(4,.pointer (some ⟨b4,0,none⟩)),(11,.map (some m2)),(66,.pointer (some ⟨rx,0,none⟩))])
     (FillI S.F C) (fun y=>.obj rx (itObj m2 ck2 (y.1.map FE.bn))::.obj S.k (.cells [v46,.map (some S.m)].toArray 52 (0,0))::.obj S.m (fM y.2.1 y.2.2)::.obj m2 (gObj (C.map FE.ge) ck2)::.obj b4 (.cells [.slice none 0 0,.slice none 0 0].toArray 27 (0,0))::L0) (fun y c=>FkF y.2.1 c) ([],S.F,S.ck) H HA hF2 Ks (FillI.start _ _ _ hS.fk) ?_
    clear H HA
    rintro ⟨dn,F2,ckf⟩ g c hy H HA
    have hyl:=hy.len
    dsimp only at hyl H HA ⊢
    (apply Y1)
    refine s_nextG (es:=C.map FE.ge) rfl rfl (fun q hq=>by
     obtain ⟨e,he,rfl⟩:=List.mem_map.1 hq
     exact hOC.lt e he) H HA (.tail _ (.tail _ (.head _))) ?_ ?_
    ·intro hmet
     have hperm:=all_met hOC.bn hOC.nd hy.dn hy.dl fun q hq=>hmet q.ge (List.mem_map.2 ⟨q,hq,rfl⟩)
     (refine Z32 ?_;apply Y0;apply wc_seq;refine Z19 ?_;apply wc_exit;apply wx_exit_then;apply wx_exit_then;apply wx_exit_same;apply wx_next;apply Y1;refine Z0 ?_)
     have H : Owns c0 ([.obj m2 (fM C ck2)]++(.obj rx (itObj m2 ck2 (dn.map FE.bn))::.obj S.k (.cells [v46,.map (some S.m)].toArray 52 (0,0))::.obj S.m (fM F2 ckf)::.obj b4 (.cells [.slice none 0 0,.slice none 0 0].toArray 27 (0,0))::L0)) c:=by
      have H : Owns c0 (.obj rx (itObj m2 ck2 (dn.map FE.bn))::.obj S.k (.cells [v46,.map (some S.m)].toArray 52 (0,0))::.obj S.m (fM F2 ckf)::.obj m2 (fM C ck2)::.obj b4 (.cells [.slice none 0 0,.slice none 0 0].toArray 27 (0,0))::L0) c:=H
      exact H.perm Pm
     refine s_callT (pre:=[.obj m2 (fM C ck2)]) (post:=[.obj m2 (fM C ck2)]) rfl rfl H HA (upkeep_told C ck2 m2 _ Lk hOC (by omega) Lk) ?_
     intro v79 c H HA
     obtain ⟨out,hso,hop,hor⟩:=HA.h.1
     have HA:=HA.cut.add hso
     have H : Owns c0 (.obj m2 (fM C ck2)::.obj rx (itObj m2 ck2 (dn.map FE.bn))::.obj S.k (.cells [v46,.map (some S.m)].toArray 52 (0,0))::.obj S.m (fM F2 ckf)::.obj b4 (.cells [.slice none 0 0,.slice none 0 0].toArray 27 (0,0))::L0) c:=H
     have H : Owns c0 (.obj b4 (.cells [.slice none 0 0,.slice none 0 0].toArray 27 (0,0))::.obj m2 (fM C ck2)::.obj rx (itObj m2 ck2 (dn.map FE.bn))::.obj S.k (.cells [v46,.map (some S.m)].toArray 52 (0,0))::.obj S.m (fM F2 ckf)::L0) c:=H.perm Pm
     (refine Z54 ?_;refine Z74 fun c H HA=>?_;refine Z2 ?_;apply Y0;apply wc_ret)
     have hat : ∀a,a∈ats F2↔a∈ats S.F∨a∈ats C:=fun a=>by
      rw [hy.eq,List.mem_append]
      exact or_congr Iff.rfl hperm.mem_iff
     have hln : F2.length=S.F.length+C.length:=by
      have h1:=congrArg List.length hy.eq
      have h2:=hperm.length_eq
      simp only [ats,List.length_map,List.length_append] at h1 h2
      omega
     have hol : out.length=C.length:=by rw [hop.length_eq];simp [ats]
     refine ret_fnX (R:=(⟨S.k,S.m,v46,cs',F2,ckf⟩:KpS).res) H.drop.drop.drop Ca (outsR2 Tryz.results7 (RV.agg rfl H Ow Rc) (RV.tmp Wh)) ?_
     exact ⟨⟨S.k,S.m,v46,cs',F2,ckf⟩,_,out,0,rfl,rfl,⟨Lk,Lk⟩,Lk,.inr (.inr (.inr ⟨hmem,by omega,rfl,rfl,rfl,⟨hcr,by dsimp only;omega,hy.fk,hLc,fun a=>by rw [hat,hall],by dsimp only;omega⟩,hcl,hcm,by dsimp only;omega,by dsimp only;omega,fun a=>by
      rw [hop.mem_iff,hat]
      exact ⟨fun h=>⟨.inr h,hdis a h⟩,fun h=>h.1.elim (fun h1=>absurd h1 h.2) id⟩,hor⟩))⟩
    ·intro q c hq hnq H HA
     obtain ⟨e,he,rfl⟩:=List.mem_map.1 hq
     (refine Z32 ?_;apply Y0;apply wc_seq;refine Z18 ?_;apply wc_skip;apply wx_next;apply wc_block;apply Y1)
     refine s_entryG (q:=e.ge) rfl rfl (by rw [List.map_map];exact hOC.bn) H (.tail _ (.tail _ (.tail _ (.head _)))) (.head _) hq ?_
     have hse : Sl e.va e.at_.args c:=(Lk:FkF C c) e he
     have HA:=HA.add hse
     obtain ⟨hnew,hy2⟩:=hy.step hOC hdis he hnq
     (refine Z32 ?_;refine Z32 ?_)
     (refine s_alloc rfl (by conv=>lhs;whnf) H HA ?_;intro b14 c H HA)
     (refine Z2 ?_;refine Z74 fun c H HA=>?_;apply Y0)
     have H : Owns c0 (.obj b14 (.cells (e.at_.cs e.va).toArray 35 (0,0))::.obj rx (itObj m2 ck2 (dn.map FE.bn++[e.bn]))::.obj S.k (.cells [v46,.map (some S.m)].toArray 52 (0,0))::.obj S.m (gObj (F2.map FE.ge) ckf)::.obj m2 (gObj (C.map FE.ge) ck2)::.obj b4 (.cells [.slice none 0 0,.slice none 0 0].toArray 27 (0,0))::L0) c:=H
     have H : Owns c0 (.obj S.m (gObj (F2.map FE.ge) ckf)::.obj b14 (.cells (e.at_.cs e.va).toArray 35 (0,0))::.obj rx (itObj m2 ck2 (dn.map FE.bn++[e.bn]))::.obj S.k (.cells [v46,.map (some S.m)].toArray 52 (0,0))::.obj m2 (gObj (C.map FE.ge) ck2)::.obj b4 (.cells [.slice none 0 0,.slice none 0 0].toArray 27 (0,0))::L0) c:=H.perm Pm
     (refine dw_start H HA ?_)
     (repeat (first|refine Dc ?_|refine Dm ?_))
     (refine dw_done mixed H HA rfl (by kernel_rfl) ?_;clear H HA;intro c H HA;(repeat (first|rintro vx rfl|(intro vx hx;have HA:=HA.addSF hx;clear hx)|(intro vx hx;have HA:=HA.add hx;clear hx)|intro vx));change W _ _ _ _ _ _ _)
     refine s_updG (v:=.agg (e.at_.cs e.va).toArray) rfl rfl rfl (fFind_none.2 hnew) H HA ?_
     intro c H HA
     have H : Owns c0 (.obj S.m (gObj (F2.map FE.ge++[⟨keyS e.at_,.agg (e.at_.cs e.va).toArray,ckf⟩]) (ckf+1))::.obj b14 (.cells (e.at_.cs e.va).toArray 35 (0,0))::.obj rx (itObj m2 ck2 (dn.map FE.bn++[e.bn]))::.obj S.k (.cells [v46,.map (some S.m)].toArray 52 (0,0))::.obj m2 (gObj (C.map FE.ge) ck2)::.obj b4 (.cells [.slice none 0 0,.slice none 0 0].toArray 27 (0,0))::L0) c:=H
     rw [fM_add] at H
     (apply w_nil;apply wx_norm_block)
     have hF3 : FkF (F2++[⟨e.at_,e.va,ckf⟩]) c:=FkF.add Lk Lk
     have H : Owns c0 (.obj b14 (.cells (e.at_.cs e.va).toArray 35 (0,0))::.obj rx (itObj m2 ck2 ((dn++[e]).map FE.bn))::.obj S.k (.cells [v46,.map (some S.m)].toArray 52 (0,0))::.obj S.m (fM (F2++[⟨e.at_,e.va,ckf⟩]) (ckf+1))::.obj m2 (gObj (C.map FE.ge) ck2)::.obj b4 (.cells [.slice none 0 0,.slice none 0 0].toArray 27 (0,0))::L0) c:=by
      rw [List.map_append]
      exact H.perm Pm
     have hyl2:=hy2.len
     exact wx_loopG ((dn++[e],F2++[⟨e.at_,e.va,ckf⟩],ckf+1)) H.drop Cu hF3 Ks (by dsimp only at hyl2 ⊢;rw [List.length_append,List.length_singleton] at hyl2 ⊢;omega) hy2
end Go.Proofs.YtnppmeeibbefbaaGreatDoor
namespace Go.Wk
open Go Go.RowKit
section
variable {P : Program} {ops : Array Oper} {Q : Exit → Act → World → Prop} {n : Nat} {f0 : Nat → Value}
theorem ks_upd {d:Nat} {v:Value} {g:Nat→Value} : ∀{kf:List (Nat×Value)},(kf.map Prod.fst).all (fun t=>!(Nat.beq t d))=true→KS g kf→KS (upd g d v) kf
 | [],_,_=>trivial
 | (a,u)::l,h,hk=>by
  simp only [List.map_cons,List.all_cons,Bool.and_eq_true,Bool.not_eq_true'] at h
  have hne : a≠d:=fun e=>by
   subst e
   have:=h.1
   simp at this
  exact ⟨by rw [upd_ne _ _ hne];exact hk.1,ks_upd h.2 hk.2⟩
def AnyS (P:Program) (ops:Array Oper) (n:Nat) (St:(Nat→Bool)→(Nat→Value)→Cx→Prop) : List Oper→Nat→Prop
 | [],_=>True
 | o::os,i=>(∀(ls:Nat→Bool) (g:Nat→Value) (c:Cx),ls i=false→(∀j∈afters o,ls j=true)→St ls g c→W P ops (CutI n fun g' c'=>St (fun j=>j == i || ls j) g' c') [o] n g c.w)∧AnyS P ops n St os (i+1)
theorem AnyS.get {St:(Nat→Bool)→(Nat→Value)→Cx→Prop} : ∀{os:List Oper} {k:Nat},AnyS P ops n St os k→∀{i:Nat} {o:Oper},os[i]?=some o→∀(ls:Nat→Bool) (g:Nat→Value) (c:Cx),ls (k+i)=false→(∀j∈afters o,ls j=true)→St ls g c→W P ops (CutI n fun g' c'=>St (fun j=>j == (k+i) || ls j) g' c') [o] n g c.w
 | [],_,_,i,o,h=>by simp at h
 | o'::os,k,hs,i,o,h=>by
  cases i with
  | zero=>simp at h;subst h;exact hs.1
  | succ i =>
   rw [List.getElem?_cons_succ] at h
   have:=AnyS.get hs.2 h
   rw [show k+1+i=k+(i+1) by omega] at this
   exact this
def anyOk (ops:Array Oper) : Bool:=(List.range ops.size).all fun i=>match ops[i]? with
 | none=>false
 | some o=>(o.after.all fun e=>!(Region.binds .any e) || Nat.blt e.on i) && (match o.op with | .select ..=>false | .defer _=>false|_=>true)
theorem wc_any {id:Nat} {c:Cx} (hmix:P.follows .mixedOrders=true) (hok:anyOk ops=true) (St:(Nat→Bool)→(Nat→Value)→Cx→Prop) (h0:St (fun _=>false) f0 ⟨c.w.drew,c.M⟩)
  (step:AnyS P ops n St ops.toList 0) (fin:∀ls g c,(∀i,i<ops.size→ls i=true)→St ls g c→WX Q .normal n g c.w) : WC P (.region id ops true) Q n f0 c.w:=by
 refine ⟨fun a0 ha0=>wp_region_any hmix ?_⟩
 simp only [anyOk,List.all_eq_true,List.mem_range] at hok
 have hsh : ∀(i:Nat) (o:Oper),ops[i]?=some o→∀e∈o.after,Region.binds .any e=true→e.on<i:=by
  intro i o ho e he heb
  have h1:=hok i (Array.getElem?_eq_some_iff.1 ho).1
  rw [ho] at h1
  simp only [Bool.and_eq_true] at h1
  have:=Array.all_eq_true_iff_forall_mem.1 h1.1 e he
  rw [heb] at this
  simpa [Nat.blt_eq] using this
 have hop : ∀(i:Nat) (o:Oper),ops[i]?=some o→∀x,o.op≠.defer x:=by
  intro i o ho x e
  have h1:=hok i (Array.getElem?_eq_some_iff.1 ho).1
  rw [ho] at h1
  simp only [Bool.and_eq_true] at h1
  have:=h1.2
  rw [e] at this
  cases this
 have hmin : ∀(listed:Array Bool),listed.size=ops.size→Region.ready .any ops listed=[]→∀i,i<ops.size→listed.getD i false=true:=by
  intro listed hsz hr
  intro i
  induction i using Nat.strongRecOn with
  | _ i ih =>
   intro hi
   cases hb : listed.getD i false with
   | true=>rfl
   | false =>
    have hm : i∈Region.ready .any ops listed:=mem_ready.2 ⟨by
     have hi' : i<listed.size:=by omega
     simpa [Array.getD_eq_getD_getElem?,hi'] using hb,_,Array.getElem?_eq_getElem hi,fun e he heb=>ih _ (hsh i _ (Array.getElem?_eq_getElem hi) e he heb) (by have:=hsh i _ (Array.getElem?_eq_getElem hi) e he heb;omega)⟩
    rw [hr] at hm
    cases hm
 have key : ∀(fuel:Nat) (listed:Array Bool) (g:Nat→Value) (c:Cx) (a:Act),listed.size=ops.size→unl ops.size listed≤fuel→FrIs n g a→St (fun j=>listed.getD j false) g c→wpAny P .any ops Q fuel listed a c.w:=by
  intro fuel
  induction fuel with
  | zero =>
   intro listed g c a hsz hU ha hSt
   have hl : ∀j,j<ops.size→listed.getD j false=true:=by
    intro j hj
    have h0 : unl ops.size listed=0:=by omega
    have:=List.countP_eq_zero.1 h0 j (by simpa using hj)
    simpa using this
   refine ⟨?_,(fin _ g c hl hSt).go a ha⟩
   cases hr : Region.ready .any ops listed with
   | nil=>rfl
   | cons i l =>
    have hm : i∈Region.ready .any ops listed:=by rw [hr];exact .head _
    obtain ⟨hun,o,ho,_⟩:=mem_ready.1 hm
    have hio:=(Array.getElem?_eq_some_iff.1 ho).1
    have h1:=hl i hio
    have hi' : i<listed.size:=by omega
    simp [Array.getD_eq_getD_getElem?,hi'] at h1 hun
    rw [h1] at hun
    cases hun
  | succ fuel ih =>
   intro listed g c a hsz hU ha hSt
   refine ⟨fun hr=>(fin _ g c (hmin listed hsz hr) hSt).go a ha,fun i hi=>?_⟩
   obtain ⟨hun,o,ho,hafter⟩:=mem_ready.1 hi
   have hio : i<ops.size:=(Array.getElem?_eq_some_iff.1 ho).1
   have hi' : i<listed.size:=by omega
   have hiun : listed.getD i false=false:=by simpa [Array.getD_eq_getD_getElem?,hi'] using hun
   have hW:=AnyS.get step (i:=i) (o:=o) (by simpa using ho) (fun j=>listed.getD j false) g c (by simpa using hiun) (fun j hj=>by
    obtain ⟨e,he,heb,rfl⟩:=mem_afters.1 hj
    exact hafter e he heb) hSt
   rw [Nat.zero_add] at hW
   have hset : (fun j=>(listed.setIfInBounds i true).getD j false)=fun j=>j == i || listed.getD j false:=by
    funext j
    by_cases hji : j=i
    ·subst hji
     simp [Array.getD_eq_getD_getElem?,hsz,hio]
    ·simp only [Array.getD_eq_getD_getElem?,Array.getElem?_setIfInBounds_ne (Ne.symm hji)]
     simp [hji]
   have hnext : ∀a' w',CutI n (fun g' c'=>St (fun j=>j == i || listed.getD j false) g' c') .normal a' w'→wpAny P .any ops Q fuel (listed.setIfInBounds i true) a' w':=by
    rintro a' w' ⟨g',c',hf',rfl,hS'⟩
    refine ih (listed.setIfInBounds i true) g' c' a' (by simp [hsz]) ?_ hf' (by rw [hset];exact hS')
    have:=unl_set hsz hio hiun
    omega
   have hgo:=hW.go a ha
   unfold wpOp
   rw [ho]
   unfold wpList at hgo
   simp only
   split
   ·rename_i hwan
    rw [if_pos hwan] at hgo
    rcases hgo with hgo|⟨_,a',w',hq⟩
    ·refine .inl (wp_transfer rfl (hop i o ho) hgo (fun v w' h=>hnext _ w' h) (fun _ _ _ h=>h) (fun _ _ h=>h) fun d w h=>?_)
     obtain ⟨f',c',hf',_⟩:=h
     have:=hf'.defers
     cases hd : o.dst with
     | none=>rw [hd] at this;simp [Act.put] at this
     | some d'=>rw [hd] at this;simp [Act.put] at this
    ·exact hq.elim
   ·rename_i hwan
    rw [if_neg hwan] at hgo
    exact hnext _ c.w hgo
 have hU0 : unl ops.size (Array.replicate ops.size false)≤ops.size:=by
  unfold unl
  refine Nat.le_trans List.countP_le_length ?_
  simp
 have hrep : (fun j=>(Array.replicate ops.size false).getD j false)=fun _=>false:=by
  funext j
  simp only [Array.getD_eq_getD_getElem?,Array.getElem?_replicate]
  split<;>rfl
 exact key ops.size (Array.replicate ops.size false) f0 ⟨c.w.drew,c.M⟩ a0 (by simp) hU0 ha0 (by rw [hrep];exact h0)
end
end Go.Wk
namespace Go.Proofs.YtnppmeeibbefbaaGreatDoor
open Go Go.Wk Go.RowKit
def DbtP (cs:List Cl) (x:Cl) (m:Nat) (F:List FE) (ck:Nat) (v:Value) (R:List Res) (c:Cx) : Prop:=∃mo O co l',v=.map (some mo)∧R=[.obj mo (fM O co),.obj m (fM F ck)]∧FkF O c∧FkOk O co∧DoI cs x (fun a=>a∈ats F) (ats O) l'∧∀a∈l',a∈ats F→a∈ats O
instance (cs : List Cl) (x : Cl) (m : Nat) (F : List FE) (ck : Nat) (v : Value) (R : List Res) : Mono (DbtP cs x m F ck v R):=⟨fun h ⟨mo,O,co,l',h1,h2,h3,h4⟩=>⟨mo,O,co,l',h1,h2,Mono.mono h h3,h4⟩⟩
theorem ats_sub_len {l F:List FE} {ck:Nat} (h:FkOk l ck) (hs:∀a∈ats l,a∈ats F) : l.length≤F.length:=by
 have:=h.nd.length_le_of_subset (l₂:=ats F) hs
 simpa [ats] using this
set_option maxHeartbeats 4000000 in
theorem upkeep_doubted (cs cs0:List Cl) (x:Cl) (m:Nat) (F:List FE) (ck:Nat) (vcs vl0:Value) (l0:List At0) (c:Cx) (hF:FkF F c) (hO:FkOk F ck) (hc:Sl vcs cs c) (hl:Sl vl0 l0 c) (hL:LmOk cs0) (hsub:∀y∈cs,y∈cs0) (hx:x∈cs0) (hall:∀a,a∈ats F↔LM cs0 a) (hcl:cs.length≤1001) (hls:∀b,b∈l0↔Stp [x] (fun a=>a∈ats F) b) (hg:GlobOk c) (hp:Box 3 P10c c) :
  CnTX Tryz.prog 24 [.map (some m),vcs,vl0] [.obj m (fM F ck)] c (DbtP cs x m F ck):=by
 refine CnTX.of Tryz.func24 Tryz.ntmps24 rfl rfl fun c0 L0 A0 _ H HA=>?_
 have hstp : ∀b,Stp (x::cs) (fun a=>a∈ats F) b→b∈ats F:=fun b hb=>(hall b).2 (LM.closed (hb.mono (fun y hy=>(List.mem_cons.1 hy).elim (fun e=>e▸hx) (hsub y)) fun a ha=>(hall a).1 ha))
 have hFl : F.length≤100000:=by
  have:=hL.big (ats F) hO.nd fun a ha=>(hall a).1 ha
  rwa [ats,List.length_map] at this
 have HA:=(((((HA.add hF).add hc).add hg).add hg.none).add hp).add hl
 (apply Y1;refine Z2 ?_;apply Y2)
 refine s_makeG rfl H HA ?_
 intro mo c H HA
 (refine Z2 ?_;apply Y0;apply wc_block)
 have H : Owns c0 (.obj mo (fM [] 0)::.obj m (fM F ck)::L0) c:=H
 have hl : Sl vl0 l0 c:=Lk
 have HA:=HA.cut
 refine wc_loopG (σ:=List FE×Nat×List At0×Value) (fun y=>100001-y.1.length) (fun y=>[(0,.map (some m)),(1,vcs),(2,y.2.2.2),(7,.map (some mo))])
  (fun y=>FkOk y.1 y.2.1∧DoI cs x (fun a=>a∈ats F) (ats y.1) y.2.2.1∧∀b∈y.2.2.1,b∈ats F)
  (fun y=>.obj mo (fM y.1 y.2.1)::.obj m (fM F ck)::L0) (fun y c=>FkF y.1 c∧Sl y.2.2.2 y.2.2.1 c) ([],0,l0,vl0) H HA ⟨(fun q h=>by cases h),hl⟩ Ks ⟨FkOk.nil 0,DoI.start hls,fun b hb=>hstp b (((hls b).1 hb).mono (fun y hy=>by rw [List.mem_singleton.1 hy];exact .head _) fun a ha=>ha)⟩ ?_
 clear H HA hl
 rintro ⟨O,co,l,vl⟩ g c hy H HA
 obtain ⟨hOO,hD,hlF⟩:=hy
 dsimp only at hOO hD hlF H HA ⊢
 have hFO : FkF O c:=HA.h.1.1
 have hl : Sl vl l c:=HA.h.1.2
 have hlim:=hl.lim
 have HA:=(HA.cut.add hFO).add hl
 (apply wc_block;apply Y1)
 refine s_makeG rfl H HA ?_
 intro mf c H HA
 (refine Z2 ?_;apply Y0;apply wc_seq;apply Y1;refine Z0 ?_;refine Z45 ?_;refine Z0 ?_;apply Y0;apply wc_block)
 have H : Owns c0 (.obj mf (fM [] 0)::.obj mo (fM (O++[]) co)::.obj m (fM F ck)::L0) c:=by rw [List.append_nil];exact H
 have hFO : FkF (O++[]) c:=by rw [List.append_nil];exact Lk
 refine wc_loopG (σ:=Nat×List FE×Nat×List FE×Nat) (fun y=>l.length-y.1) (fun y=>[(0,.map (some m)),(1,vcs),(2,vl),(7,.map (some mo)),(8,.map (some mf)),(23,vl),(24,.int .i64 l.length),(25,.int .i64 y.1)])
  (fun y=>y.1≤l.length∧FkOk (O++y.2.1) y.2.2.1∧FkOk y.2.2.2.1 y.2.2.2.2∧ats y.2.1=ats y.2.2.2.1∧∀a,a∈ats y.2.2.2.1↔a∈l.take y.1∧a∉ats O)
  (fun y=>.obj mf (fM y.2.2.2.1 y.2.2.2.2)::.obj mo (fM (O++y.2.1) y.2.2.1)::.obj m (fM F ck)::L0) (fun y c=>FkF (O++y.2.1) c∧FkF y.2.2.2.1 c) (0,[],co,[],0) H HA ⟨hFO,(fun q h=>by cases h)⟩ Ks ⟨Nat.zero_le _,by simpa using hOO,FkOk.nil 0,rfl,fun a=>by simp [ats]⟩ ?_
 clear H HA hFO hl
 rintro ⟨i,O2,co2,N,cn⟩ g2 c hy H HA
 obtain ⟨hi,hO2,hN,hoe,hmm⟩:=hy
 dsimp only at hi hO2 hN hoe hmm H HA ⊢
 have hF2 : FkF (O++O2) c:=HA.h.1.1
 have hFN : FkF N c:=HA.h.1.2
 have HA:=(HA.cut.add hF2).add hFN
 (repeat' (first|refine Z0 ?_|apply w_nil|apply wc_seq|apply wc_region|apply wx_next|refine Z18 ?_|refine Z19 ?_|apply wc_exit|apply wc_skip|apply wc_block|apply wx_exit_then|apply wx_exit_same|refine Z93 (fun hq=>?_) fun hq=>?_))
 ·obtain ⟨f,hf⟩:=getq (xs:=l) (k:=i) (by omega)
  have hfl : f∈l:=List.mem_of_getElem? hf
  have hfF:=hlF f hfl
  have hfct:=hL.fct f ((hall f).1 hfF)
  (refine Z34 HA fun vx HA=>?_;refine Z39 HA fun vx HA=>?_)
  obtain ⟨caf,rfl,vf',hcf,hsf⟩ : Ag f vx c:=Lk
  subst hcf
  have HA:=HA.add hsf
  have hgf : Ag f (.agg (f.cs vf').toArray) c:=⟨_,rfl,vf',rfl,hsf⟩
  have HA:=HA.add hgf
  (refine s_alloc rfl (by conv=>lhs;whnf) H HA ?_;intro b10 c H HA)
  refine s_storeA (vs:=f.cs vf') (cs':=f.cs vf') rfl rfl H HA rfl (ones_cons rfl (ones_cons rfl (ones_cons rfl (ones_cons rfl (ones_cons hsf.oneC ones_nil))))) Rc ?_
  intro c H HA
  (apply Y2;refine Z42 ?_)
  (refine s_call rfl rfl H HA (upkeep_key f _ _ Lk hfct.key Lk) ?_;intro vx c H HP;have hvx:=HP.h.1;have HA:=HP.cut;subst hvx)
  (refine Z2 ?_;apply Y0;apply wc_seq;apply Y1;refine Z0 ?_;refine Z0 ?_)
  have H : Owns c0 (.obj b10 (.cells (f.cs vf').toArray 35 (0,0))::.obj mf (gObj (N.map FE.ge) cn)::.obj mo (gObj ((O++O2).map FE.ge) co2)::.obj m (gObj (F.map FE.ge) ck)::L0) c:=H
  refine s_lookG rfl rfl rfl H (.tail _ (.tail _ (.tail _ (.head _)))) ?_
  obtain ⟨q,hq1,hq2,hq3⟩:=fFind_get hfF
  rw [hq3]
  have hsq : Sl q.va q.at_.args c:=(Lk:FkF F c) q hq1
  have hi1 : i+1≤l.length:=by
   have:=(List.getElem?_eq_some_iff.1 hf).1
   omega
  (refine Z0 ?_;refine Z32 ?_;refine Z32 ?_)
  (refine s_alloc rfl (by conv=>lhs;whnf) H HA ?_;intro b12 c H HA)
  refine s_storeA (vs:=q.at_.cs q.va) (cs':=q.at_.cs q.va) rfl rfl H HA rfl (ones_cons rfl (ones_cons rfl (ones_cons rfl (ones_cons rfl (ones_cons hsq.oneC ones_nil))))) Rc ?_
  intro c H HA
  (refine Z2 ?_;apply Y2;refine Z0 ?_;refine Z33 ?_;apply Y0;refine Z19 ?_;apply wc_skip;apply wx_next;apply Y1;refine Z0 ?_;refine Z0 ?_)
  have htk : ∀a,(a∈l.take (i+1)∧a∉ats O)↔(a∈l.take i∧a∉ats O)∨(a=f∧a∉ats O):=fun a=>by
   rw [List.take_add_one,hf]
   simp only [Option.toList_some,List.mem_append,List.mem_singleton]
   exact ⟨fun ⟨h,h2⟩=>h.elim (fun h=>.inl ⟨h,h2⟩) fun h=>.inr ⟨h,h2⟩,fun h=>h.elim (fun ⟨h,h2⟩=>⟨.inl h,h2⟩) fun ⟨h,h2⟩=>⟨.inr h,h2⟩⟩
  refine s_lookG rfl rfl rfl H (.tail _ (.tail _ (.tail _ (.head _)))) ?_
  by_cases hfO : f∈ats (O++O2)
  ·obtain ⟨q',hq1',hq2',hq3'⟩:=fFind_get hfO
   rw [hq3']
   have hsq' : Sl q'.va q'.at_.args c:=(Lk:FkF (O++O2) c) q' hq1'
   (refine Z0 ?_;refine Z32 ?_;refine Z32 ?_)
   (refine s_alloc rfl (by conv=>lhs;whnf) H HA ?_;intro b14 c H HA)
   refine s_storeA (vs:=q'.at_.cs q'.va) (cs':=q'.at_.cs q'.va) rfl rfl H HA rfl (ones_cons rfl (ones_cons rfl (ones_cons rfl (ones_cons rfl (ones_cons hsq'.oneC ones_nil))))) Rc ?_
   intro c H HA
   (refine Z2 ?_;apply Y2;refine Z0 ?_;refine Z33 ?_;apply Y0;refine Z19 ?_;apply wc_skip;apply wx_norm_block;apply wx_next;apply wc_region;refine Z46 ?_;refine Z0 ?_;apply w_nil)
   have hF2' : FkF (O++O2) c:=Lk
   have hFN' : FkF N c:=Lk
   exact wx_loopG ((i+1,O2,co2,N,cn)) H.drop.drop.drop Cu ⟨hF2',hFN'⟩ Ks (by dsimp only;omega) ⟨hi1,hO2,hN,hoe,fun a=>by
    rw [hmm,htk]
    refine ⟨.inl,fun h=>h.elim id fun ⟨h,h2⟩=>?_⟩
    subst h
    have : a∈ats O∨a∈ats O2:=by simpa [ats] using hfO
    exact this.elim (fun h=>absurd h h2) fun h=>(hmm a).1 (hoe▸h)⟩
  ·rw [fFind_none.2 hfO]
   simp only [Option.map_none,Option.getD_none,Option.isSome_none]
   (refine Z0 ?_;refine Z32 ?_;refine Z32 ?_)
   (refine s_alloc rfl (by conv=>lhs;whnf) H HA ?_;intro b14 c H HA)
   (refine Z74 fun c H HA=>?_;refine Z2 ?_;apply Y0;apply wc_seq)
   apply wc_region
   (refine Z0 ?_;refine Z33 ?_;apply Y0;refine Z18 ?_)
   have H : Owns c0 (.obj b10 (.cells (f.cs vf').toArray 35 (0,0))::.obj mo (fM (O++O2) co2)::.obj mf (fM N cn)::.obj m (fM F ck)::L0) c:=by
    have H : Owns c0 (.obj b10 (.cells (f.cs vf').toArray 35 (0,0))::.obj mf (fM N cn)::.obj mo (fM (O++O2) co2)::.obj m (fM F ck)::L0) c:=H.drop.drop
    exact H.perm Pm
   have hfO0 : f∉ats O:=fun h=>hfO (by simp only [ats,List.map_append,List.mem_append];exact .inl h)
   have hnN : f∉ats N:=fun h=>hfO (by rw [←hoe] at h;simp only [ats,List.map_append,List.mem_append];exact .inr h)
   have hsf2 : Sl vf' f.args c:=Lk
   have HB:=(HA.cut.cut.cut.cut).add hsf2
   refine wc_any mixed (by kernel_rfl) (fun ls g c=>KS g [(7,.map (some mo)),(11,.string (keyS f)),(8,.map (some mf)),(10,.pointer (some ⟨b10,0,none⟩)),(0,.map (some m)),(1,vcs),(2,vl),(23,vl),(24,.int .i64 l.length),(25,.int .i64 i)]∧(ls 0=true→g 47=.map (some mo))∧(ls 1=true→g 48=.string (keyS f))∧(ls 2=true→g 49=.map (some mf))∧(ls 3=true→g 50=.string (keyS f))∧(ls 4=true→g 51=.agg (f.cs vf').toArray)∧(ls 5=true→g 52=.agg (f.cs vf').toArray) ∧
    Owns c0 (.obj b10 (.cells (f.cs vf').toArray 35 (0,0))::.obj mo (bif ls 6 then fM (O++O2++[⟨f,vf',co2⟩]) (co2+1) else fM (O++O2) co2)::.obj mf (bif ls 7 then fM (N++[⟨f,vf',cn⟩]) (cn+1) else fM N cn)::.obj m (fM F ck)::L0) c∧Hd (fun c=>Sl vf' f.args c∧FkF N c∧FkF (O++O2) c∧Sl vl l c∧FkF O c∧Box 3 P10c c∧Box 1 Tn.cs c∧GlobOk c∧Sl vcs cs c∧FkF F c∧A0 c) c)
    ⟨Ks,(fun h=>by cases h),(fun h=>by cases h),(fun h=>by cases h),(fun h=>by cases h),(fun h=>by cases h),(fun h=>by cases h),H.of_ext (Ext0.draw c.w),HB.to (Le.of_ext (Ext0.draw c.w))⟩ ⟨?_,?_,?_,?_,?_,?_,?_,?_,trivial⟩ ?_
   ·intro ls g c hli haf hS
    obtain ⟨hk,h0,h1,h2,h3,h4,h5,HO,HA⟩:=hS
    refine s_move rfl (show opd g (.tmp 7)=_ from hk.1) ?_
    exact w_nil (wx_cut ⟨ks_upd rfl hk,(fun _=>upd_same ..),(fun h=>(upd_ne _ _ (by decide)).trans (h1 h)),(fun h=>(upd_ne _ _ (by decide)).trans (h2 h)),(fun h=>(upd_ne _ _ (by decide)).trans (h3 h)),(fun h=>(upd_ne _ _ (by decide)).trans (h4 h)),(fun h=>(upd_ne _ _ (by decide)).trans (h5 h)),HO,HA⟩)
   ·intro ls g c hli haf hS
    obtain ⟨hk,h0,h1,h2,h3,h4,h5,HO,HA⟩:=hS
    refine s_move rfl (show opd g (.tmp 11)=_ from hk.2.1) ?_
    exact w_nil (wx_cut ⟨ks_upd rfl hk,(fun h=>(upd_ne _ _ (by decide)).trans (h0 h)),(fun _=>upd_same ..),(fun h=>(upd_ne _ _ (by decide)).trans (h2 h)),(fun h=>(upd_ne _ _ (by decide)).trans (h3 h)),(fun h=>(upd_ne _ _ (by decide)).trans (h4 h)),(fun h=>(upd_ne _ _ (by decide)).trans (h5 h)),HO,HA⟩)
   ·intro ls g c hli haf hS
    obtain ⟨hk,h0,h1,h2,h3,h4,h5,HO,HA⟩:=hS
    refine s_move rfl (show opd g (.tmp 8)=_ from hk.2.2.1) ?_
    exact w_nil (wx_cut ⟨ks_upd rfl hk,(fun h=>(upd_ne _ _ (by decide)).trans (h0 h)),(fun h=>(upd_ne _ _ (by decide)).trans (h1 h)),(fun _=>upd_same ..),(fun h=>(upd_ne _ _ (by decide)).trans (h3 h)),(fun h=>(upd_ne _ _ (by decide)).trans (h4 h)),(fun h=>(upd_ne _ _ (by decide)).trans (h5 h)),HO,HA⟩)
   ·intro ls g c hli haf hS
    obtain ⟨hk,h0,h1,h2,h3,h4,h5,HO,HA⟩:=hS
    refine s_move rfl (show opd g (.tmp 11)=_ from hk.2.1) ?_
    exact w_nil (wx_cut ⟨ks_upd rfl hk,(fun h=>(upd_ne _ _ (by decide)).trans (h0 h)),(fun h=>(upd_ne _ _ (by decide)).trans (h1 h)),(fun h=>(upd_ne _ _ (by decide)).trans (h2 h)),(fun _=>upd_same ..),(fun h=>(upd_ne _ _ (by decide)).trans (h4 h)),(fun h=>(upd_ne _ _ (by decide)).trans (h5 h)),HO,HA⟩)
   ·intro ls g c hli haf hS
    obtain ⟨hk,h0,h1,h2,h3,h4,h5,HO,HA⟩:=hS
    refine s_loadOA rfl (show opd g (.tmp 10)=_ from hk.2.2.2.1) HO (.head _) Rc ?_
    exact w_nil (wx_cut ⟨ks_upd rfl hk,(fun h=>(upd_ne _ _ (by decide)).trans (h0 h)),(fun h=>(upd_ne _ _ (by decide)).trans (h1 h)),(fun h=>(upd_ne _ _ (by decide)).trans (h2 h)),(fun h=>(upd_ne _ _ (by decide)).trans (h3 h)),(fun _=>upd_same ..),(fun h=>(upd_ne _ _ (by decide)).trans (h5 h)),HO,HA⟩)
   ·intro ls g c hli haf hS
    obtain ⟨hk,h0,h1,h2,h3,h4,h5,HO,HA⟩:=hS
    refine s_loadOA rfl (show opd g (.tmp 10)=_ from hk.2.2.2.1) HO (.head _) Rc ?_
    exact w_nil (wx_cut ⟨ks_upd rfl hk,(fun h=>(upd_ne _ _ (by decide)).trans (h0 h)),(fun h=>(upd_ne _ _ (by decide)).trans (h1 h)),(fun h=>(upd_ne _ _ (by decide)).trans (h2 h)),(fun h=>(upd_ne _ _ (by decide)).trans (h3 h)),(fun h=>(upd_ne _ _ (by decide)).trans (h4 h)),(fun _=>upd_same ..),HO,HA⟩)
   ·intro ls g c hli haf hS
    obtain ⟨hk,h0,h1,h2,h3,h4,h5,HO,HA⟩:=hS
    have hli : ls 6=false:=hli
    rw [hli] at HO
    have HO : Owns c0 (.obj mo (gObj ((O++O2).map FE.ge) co2)::.obj b10 (.cells (f.cs vf').toArray 35 (0,0))::.obj mf (bif ls 7 then fM (N++[⟨f,vf',cn⟩]) (cn+1) else fM N cn)::.obj m (fM F ck)::L0) c:=HO.swap
    refine s_updG (v:=.agg (f.cs vf').toArray) (show opd g (.tmp 47)=_ from h0 (haf 0 (by decide))) (show opd g (.tmp 48)=_ from h1 (haf 1 (by decide))) (show opd g (.tmp 51)=_ from h4 (haf 4 (by decide))) (fFind_none.2 hfO) HO HA ?_
    intro c HO HA
    rw [fM_add] at HO
    exact w_nil (wx_cut ⟨hk,h0,h1,h2,h3,h4,h5,HO.swap,HA⟩)
   ·intro ls g c hli haf hS
    obtain ⟨hk,h0,h1,h2,h3,h4,h5,HO,HA⟩:=hS
    have hli : ls 7=false:=hli
    rw [hli,haf 6 (by decide)] at HO
    have HO : Owns c0 (.obj b10 (.cells (f.cs vf').toArray 35 (0,0))::.obj mo (fM (O++O2++[⟨f,vf',co2⟩]) (co2+1))::.obj mf (gObj (N.map FE.ge) cn)::.obj m (fM F ck)::L0) c:=HO
    have HO : Owns c0 (.obj mf (gObj (N.map FE.ge) cn)::.obj b10 (.cells (f.cs vf').toArray 35 (0,0))::.obj mo (fM (O++O2++[⟨f,vf',co2⟩]) (co2+1))::.obj m (fM F ck)::L0) c:=HO.perm Pm
    refine s_updG (v:=.agg (f.cs vf').toArray) (show opd g (.tmp 49)=_ from h2 (haf 2 (by decide))) (show opd g (.tmp 50)=_ from h3 (haf 3 (by decide))) (show opd g (.tmp 52)=_ from h5 (haf 5 (by decide))) (fFind_none.2 hnN) HO HA ?_
    intro c HO HA
    rw [fM_add] at HO
    have HO : Owns c0 (.obj b10 (.cells (f.cs vf').toArray 35 (0,0))::.obj mo (fM (O++O2++[⟨f,vf',co2⟩]) (co2+1))::.obj mf (fM (N++[⟨f,vf',cn⟩]) (cn+1))::.obj m (fM F ck)::L0) c:=HO.perm Pm
    exact w_nil (wx_cut ⟨hk,h0,h1,h2,h3,h4,h5,by
     show Owns c0 (.obj b10 _::.obj mo (bif ls 6 then _ else _)::_) c
     rw [haf 6 (by decide)]
     exact HO,HA⟩)
   ·intro ls g c hls hS
    obtain ⟨hk,_,_,_,_,_,_,HO,HA⟩:=hS
    rw [hls 6 (by decide),hls 7 (by decide)] at HO
    have H : Owns c0 (.obj b10 (.cells (f.cs vf').toArray 35 (0,0))::.obj mo (fM (O++O2++[⟨f,vf',co2⟩]) (co2+1))::.obj mf (fM (N++[⟨f,vf',cn⟩]) (cn+1))::.obj m (fM F ck)::L0) c:=HO
    have H : Owns c0 (.obj mf (fM (N++[⟨f,vf',cn⟩]) (cn+1))::.obj mo (fM (O++(O2++[⟨f,vf',co2⟩])) (co2+1))::.obj m (fM F ck)::L0) c:=by
     rw [←List.append_assoc]
     exact (H.drop).swap
    obtain ⟨g,rfl⟩:=hk.ex
    (apply wx_norm_block;apply wx_next;apply wc_region;refine Z46 ?_;refine Z0 ?_;apply w_nil)
    have hF2' : FkF (O++(O2++[⟨f,vf',co2⟩])) c:=by rw [←List.append_assoc];exact FkF.add Lk Lk
    have hFN' : FkF (N++[⟨f,vf',cn⟩]) c:=FkF.add Lk Lk
    exact wx_loopG ((i+1,O2++[⟨f,vf',co2⟩],co2+1,N++[⟨f,vf',cn⟩],cn+1)) H Cu ⟨hF2',hFN'⟩ Ks (by dsimp only;omega) ⟨hi1,by rw [←List.append_assoc];exact hO2.add hfct hfO,hN.add hfct hnN,by simp only [ats_add];rw [hoe],fun a=>by
     dsimp only
     rw [htk,ats_add,List.mem_append,List.mem_singleton,hmm]
     exact or_congr Iff.rfl ⟨fun h=>⟨h,h▸hfO0⟩,fun h=>h.1⟩⟩
 ·have hil : i=l.length:=by omega
  subst hil
  rw [List.take_length] at hmm
  have H : Owns c0 (.obj mf (gObj (N.map FE.ge) cn)::.obj mo (fM (O++O2) co2)::.obj m (gObj (F.map FE.ge) ck)::L0) c:=H
  refine s_lenG rfl rfl H (.head _) ?_
  rw [List.length_map]
  have hlN : O2.length=N.length:=by simpa [ats] using congrArg List.length hoe
  have hO2F : ∀a∈ats (O++O2),a∈ats F:=fun a ha=>by
   have : a∈ats O∨a∈ats O2:=by simpa [ats] using ha
   exact this.elim (hD.sub a) fun h=>hlF a ((hmm a).1 (hoe▸h)).1
  have hOl:=ats_sub_len hO2 hO2F
  rw [List.length_append] at hOl
  (focus (refine Z92 (fun hq=>?_) fun hq=>?_;apply Y0;refine Z18 ?_;apply Y1;refine Z0 ?_;refine Z2 ?_;apply Y0;apply wc_ret;apply wx_ret_then;apply wx_ret_block;apply wx_ret_then;apply wx_ret_block;rotate_left;apply Y0;refine Z19 ?_;apply wc_skip;apply wx_next;apply Y1;rotate_left))
  ·have hN0 : N=[]:=List.eq_nil_of_length_eq_zero (by omega)
   subst hN0
   have hO20 : O2=[]:=List.eq_nil_of_length_eq_zero (by simpa using hlN)
   subst hO20
   rw [List.append_nil] at hO2 hF2
   rw [List.append_nil] at H
   have H : Owns c0 (.obj mf (fM [] cn)::.obj mo (fM O co2)::.obj m (fM F ck)::L0) c:=H
   have hFO : FkF O c:=Lk
   refine ret_fnX (R:=[.obj mo (fM O co2),.obj m (fM F ck)]) H.drop Ca (outs1 Tryz.results24 Wh) ?_
   exact ⟨mo,O,co2,l,rfl,rfl,hFO,hO2,hD,fun a ha _=>Classical.byContradiction fun h=>by
    have:=(hmm a).2 ⟨ha,h⟩
    simp [ats] at this⟩
  ·refine s_makeG rfl H HA ?_
   intro mr c H HA
   (refine Z2 ?_;apply Y0;apply wc_seq;apply Y1;refine Z0 ?_)
   refine s_rangeG rfl rfl H (.tail _ (.tail _ (.tail _ (.head _)))) HA ?_
   intro rx c H HA
   (apply Y0;apply wc_block)
   have H : Owns c0 (.obj rx (itObj m ck [])::.obj mr (fM [] 0)::.obj mf (fM N cn)::.obj mo (fM (O++O2) co2)::.obj m (gObj (F.map FE.ge) ck)::L0) c:=H
   refine wc_loopG (σ:=List FE×List FE×Nat) (fun y=>F.length-y.1.length) (fun y=>[(0,.map (some m)),(1,vcs),(7,.map (some mo)),(8,.map (some mf)),(16,.map (some mr)),(60,.pointer (some ⟨rx,0,none⟩))])
    (fun y=>(y.1.map FE.bn).Nodup∧(∀q∈y.1,q∈F)∧FkOk y.2.1 y.2.2∧∀a,a∈ats y.2.1↔a∈ats y.1∧a∉ats N)
    (fun y=>.obj rx (itObj m ck (y.1.map FE.bn))::.obj mr (fM y.2.1 y.2.2)::.obj mf (fM N cn)::.obj mo (fM (O++O2) co2)::.obj m (gObj (F.map FE.ge) ck)::L0) (fun y c=>FkF y.2.1 c) ([],[],0) H HA (fun q h=>by cases h) Ks ⟨List.nodup_nil,(fun _ h=>by cases h),FkOk.nil 0,fun a=>by simp [ats]⟩ ?_
   clear H HA
   rintro ⟨dn,Rr,cr⟩ g3 c hy H HA
   obtain ⟨hdn,hdl,hRo,hRm⟩:=hy
   dsimp only at hdn hdl hRo hRm H HA ⊢
   have hdlen : ∀d : List FE,(d.map FE.bn).Nodup→(∀q∈d,q∈F)→d.length≤F.length:=fun d h1 h2=>by
    have h1:=h1.length_le_of_subset (l₂:=F.map FE.bn) (fun b hb=>by
     obtain ⟨q,hq,rfl⟩:=List.mem_map.1 hb
     exact List.mem_map.2 ⟨q,h2 q hq,rfl⟩)
    simpa using h1
   (apply Y1)
   refine s_nextG (es:=F.map FE.ge) rfl rfl (fun q hq=>by
    obtain ⟨e,he,rfl⟩:=List.mem_map.1 hq
    exact hO.lt e he) H HA (.tail _ (.tail _ (.tail _ (.head _)))) ?_ ?_
   ·intro hmet
    have hperm:=all_met hO.bn hO.nd hdn hdl fun q hq=>hmet q.ge (List.mem_map.2 ⟨q,hq,rfl⟩)
    (refine Z32 ?_;apply Y0;apply wc_seq;refine Z19 ?_;apply wc_exit;apply wx_exit_then;apply wx_exit_then;apply wx_exit_same;apply wx_next;apply wc_region;refine Z0 ?_;refine Z0 ?_)
    have hNF : ∀a∈ats N,a∈ats F:=fun a ha=>hlF a ((hmm a).1 ha).1
    have hRF : ∀a,a∈ats Rr↔a∈ats F∧a∉ats N:=fun a=>by rw [hRm,hperm.mem_iff]
    have hNl:=ats_sub_len hN hNF
    have hRl:=ats_sub_len hRo fun a ha=>((hRF a).1 ha).1
    have H : Owns c0 (.obj rx (itObj m ck (dn.map FE.bn))::.obj mr (fM Rr cr)::.obj mf (fM N cn)::.obj mo (fM (O++O2) co2)::.obj m (fM F ck)::L0) c:=H
    have H : Owns c0 ((mpR (some mr) Rr cr++mpR (some mf) N cn)++(.obj rx (itObj m ck (dn.map FE.bn))::.obj mo (fM (O++O2) co2)::.obj m (fM F ck)::L0)) c:=by
     have H2 : Owns c0 (.obj mr (fM Rr cr)::.obj mf (fM N cn)::.obj rx (itObj m ck (dn.map FE.bn))::.obj mo (fM (O++O2) co2)::.obj m (fM F ck)::L0) c:=H.perm Pm
     exact H2
    refine s_callX rfl rfl H HA (upkeep_laid (some mr) (some mf) Rr N cr cn _ (fun h=>by cases h) (fun h=>by cases h) Lk Lk hRo hN (fun a ha h=>((hRF a).1 h).2 ha) (by omega) Lk) ?_
    intro v R c H HA
    obtain ⟨B0,rfl,rfl,hFB0,hI0⟩:=HA.h.1
    have HA:=HA.cut.add hFB0
    (refine Z0 ?_)
    have hB0 : ∀a,InB B0 a↔a∈ats F:=fun a=>by
     unfold InB
     rw [hI0.old,hI0.new,hRF]
     exact ⟨fun h=>h.elim (fun h=>h.1) (hNF a),fun h=>Classical.byCases (fun h2:a∈ats N=>.inr h2) fun h2=>.inl ⟨h,h2⟩⟩
    have hinL : ∀a,InB B0 a→LM cs0 a:=fun a ha=>(hall a).1 ((hB0 a).1 ha)
    have H : Owns c0 (baR B0++((mpR (some mr) Rr cr++mpR (some mf) N cn)++(.obj rx (itObj m ck (dn.map FE.bn))::.obj mo (fM (O++O2) co2)::.obj m (fM F ck)::L0))) c:=by
     rw [←List.append_assoc]
     exact H
    refine s_callX rfl rfl H HA (upkeep_heads B0 cs false vcs _ _ _ _ _ hI0 (by omega) Lk Lk (fun y hy=>hL.cl y (hsub y hy)) (fun y hy=>(hL.cap y (hsub y hy)).mono hinL) (fun y hy lead b hb=>(hL.fct b (hL.fire hinL (hsub y hy) hb)).sm) hcl Lk) ?_
    intro v81 R c H HA
    obtain ⟨B1,out,rfl,hsm1,_,hso,hom⟩:=HA.h.1
    have HA:=HA.cut.add hso
    have H:=owns_dropL _ H
    have H : Owns c0 (.obj mr (fM Rr cr)::.obj mf (fM N cn)::.obj rx (itObj m ck (dn.map FE.bn))::.obj mo (fM (O++O2) co2)::.obj m (fM F ck)::L0) c:=H
    have H:=H.drop.drop.drop
    (refine Z2 ?_;apply w_nil;apply wx_norm_block)
    have hout : ∀b,b∈out↔Stp2 cs (fun a=>a∈ats F) (fun a=>a∈ats N) b:=fun b=>by
     rw [hom,hdS_new]
     exact Stp2.iff hB0 fun a=>hI0.new a
    have hF3 : FkF (O++O2) c:=Lk
    have hso2 : Sl v81 out c:=Lk
    have hat : ∀a,a∈ats (O++O2)↔a∈ats O∨a∈ats N:=fun a=>by
     rw [←hoe]
     simp [ats]
    exact wx_loopG ((O++O2,co2,out,v81)) H Cu ⟨hF3,hso2⟩ Ks (by dsimp only;rw [List.length_append];omega) ⟨hO2,hD.more hstp (fun a=>by rw [hmm];exact ⟨fun h=>⟨h.1,hlF a h.1,h.2⟩,fun h=>⟨h.1,h.2.2⟩⟩) hat hout,fun b hb=>hstp b (by
     obtain ⟨y,hy,w,hw,hww,_,hb2⟩:=(hout b).1 hb
     exact ⟨y,.tail _ hy,w,hw,hww,hb2⟩)⟩
   ·intro q c hq hnq H HA
    obtain ⟨e,he,rfl⟩:=List.mem_map.1 hq
    (refine Z32 ?_;apply Y0;apply wc_seq;refine Z18 ?_;apply wc_skip;apply wx_next;apply wc_block;apply Y1)
    refine s_entryG (q:=e.ge) rfl rfl (by rw [List.map_map];exact hO.bn) H (.tail _ (.tail _ (.tail _ (.tail _ (.head _))))) (.head _) hq ?_
    have hse : Sl e.va e.at_.args c:=(Lk:FkF F c) e he
    have HA:=HA.add hse
    have hnb : e.bn∉dn.map FE.bn:=hnq
    have hdn2 : ((dn++[e]).map FE.bn).Nodup:=by
     rw [List.map_append,List.nodup_append]
     refine ⟨hdn,List.nodup_cons.2 ⟨List.not_mem_nil,List.nodup_nil⟩,?_⟩
     rintro x hx y hy rfl
     simp only [List.map_cons,List.map_nil,List.mem_singleton] at hy
     subst hy
     exact hnb hx
    have hdl2 : ∀q∈dn++[e],q∈F:=fun q hq=>by
     rcases List.mem_append.1 hq with hq|hq
     ·exact hdl q hq
     ·rw [List.mem_singleton.1 hq]
      exact he
    have hlen2:=hdlen _ hdn2 hdl2
    rw [List.length_append,List.length_singleton] at hlen2
    have hed : e.at_∉ats dn:=fun h=>by
     obtain ⟨q,hq3,hqe⟩:=List.mem_map.1 h
     have : q=e:=inj_of_nodup hO.nd (hdl q hq3) he hqe
     exact hnb (this▸List.mem_map.2 ⟨q,hq3,rfl⟩)
    have hadd : ∀a,a∈ats (dn++[e])↔a∈ats dn∨a=e.at_:=fun a=>by simp [ats]
    (refine Z32 ?_;refine Z32 ?_)
    (refine s_alloc rfl (by conv=>lhs;whnf) H HA ?_;intro b18 c H HA)
    (refine Z2 ?_;refine Z74 fun c H HA=>?_;apply Y2;refine Z0 ?_;refine Z0 ?_)
    have H : Owns c0 (.obj b18 (.cells (e.at_.cs e.va).toArray 35 (0,0))::.obj rx (itObj m ck (dn.map FE.bn++[e.bn]))::.obj mr (gObj (Rr.map FE.ge) cr)::.obj mf (gObj (N.map FE.ge) cn)::.obj mo (fM (O++O2) co2)::.obj m (gObj (F.map FE.ge) ck)::L0) c:=H
    refine s_lookG (q:=keyS e.at_) rfl rfl rfl H (.tail _ (.tail _ (.tail _ (.head _)))) ?_
    by_cases hfN : e.at_∈ats N
    ·obtain ⟨q',hq1',hq2',hq3'⟩:=fFind_get hfN
     rw [hq3']
     have hsq' : Sl q'.va q'.at_.args c:=(Lk:FkF N c) q' hq1'
     (refine Z0 ?_;refine Z32 ?_;refine Z32 ?_)
     (refine s_alloc rfl (by conv=>lhs;whnf) H HA ?_;intro b19 c H HA)
     refine s_storeA (vs:=q'.at_.cs q'.va) (cs':=q'.at_.cs q'.va) rfl rfl H HA rfl (ones_cons rfl (ones_cons rfl (ones_cons rfl (ones_cons rfl (ones_cons hsq'.oneC ones_nil))))) Rc ?_
     intro c H HA
     (refine Z2 ?_;apply Y2;refine Z0 ?_;refine Z33 ?_;apply Y0;refine Z19 ?_;apply wc_skip;apply wx_norm_block)
     have hFR : FkF Rr c:=Lk
     have H : Owns c0 (.obj rx (itObj m ck ((dn++[e]).map FE.bn))::.obj mr (fM Rr cr)::.obj mf (fM N cn)::.obj mo (fM (O++O2) co2)::.obj m (gObj (F.map FE.ge) ck)::L0) c:=by
      rw [List.map_append]
      exact H.drop.drop
     exact wx_loopG ((dn++[e],Rr,cr)) H Cu hFR Ks (by dsimp only;rw [List.length_append,List.length_singleton];omega) ⟨hdn2,hdl2,hRo,fun a=>by
      dsimp only
      rw [hRm,hadd]
      exact ⟨fun h=>⟨.inl h.1,h.2⟩,fun h=>⟨h.1.elim id fun h2=>absurd (h2▸hfN) h.2,h.2⟩⟩⟩
    ·rw [fFind_none.2 hfN]
     simp only [Option.map_none,Option.getD_none,Option.isSome_none]
     have heR : e.at_∉ats Rr:=fun h=>hed ((hRm _).1 h).1
     (refine Z0 ?_;refine Z32 ?_;refine Z32 ?_)
     (refine s_alloc rfl (by conv=>lhs;whnf) H HA ?_;intro b19 c H HA)
     (refine Z74 fun c H HA=>?_;refine Z2 ?_;apply Y2;refine Z0 ?_;refine Z33 ?_;apply Y0;refine Z18 ?_;apply wc_region;refine Z0 ?_;refine Z0 ?_;refine Z42 ?_)
     have H : Owns c0 (.obj b18 (.cells (e.at_.cs e.va).toArray 35 (0,0))::.obj rx (itObj m ck (dn.map FE.bn++[e.bn]))::.obj mr (gObj (Rr.map FE.ge) cr)::.obj mf (fM N cn)::.obj mo (fM (O++O2) co2)::.obj m (gObj (F.map FE.ge) ck)::L0) c:=H.drop
     have H : Owns c0 (.obj mr (gObj (Rr.map FE.ge) cr)::.obj b18 (.cells (e.at_.cs e.va).toArray 35 (0,0))::.obj rx (itObj m ck (dn.map FE.bn++[e.bn]))::.obj mf (fM N cn)::.obj mo (fM (O++O2) co2)::.obj m (gObj (F.map FE.ge) ck)::L0) c:=H.perm Pm
     refine s_updG (q:=keyS e.at_) (v:=.agg (e.at_.cs e.va).toArray) rfl rfl rfl (fFind_none.2 heR) H HA ?_
     intro c H HA
     have H : Owns c0 (.obj mr (gObj (Rr.map FE.ge++[⟨keyS e.at_,.agg (e.at_.cs e.va).toArray,cr⟩]) (cr+1))::.obj b18 (.cells (e.at_.cs e.va).toArray 35 (0,0))::.obj rx (itObj m ck (dn.map FE.bn++[e.bn]))::.obj mf (fM N cn)::.obj mo (fM (O++O2) co2)::.obj m (gObj (F.map FE.ge) ck)::L0) c:=H
     rw [fM_add] at H
     (apply w_nil;apply wx_norm_block)
     have hFR : FkF (Rr++[⟨e.at_,e.va,cr⟩]) c:=FkF.add Lk Lk
     have H : Owns c0 (.obj rx (itObj m ck ((dn++[e]).map FE.bn))::.obj mr (fM (Rr++[⟨e.at_,e.va,cr⟩]) (cr+1))::.obj mf (fM N cn)::.obj mo (fM (O++O2) co2)::.obj m (gObj (F.map FE.ge) ck)::L0) c:=by
      rw [List.map_append]
      have H2 : Owns c0 (.obj b18 (.cells (e.at_.cs e.va).toArray 35 (0,0))::.obj rx (itObj m ck (dn.map FE.bn++[e].map FE.bn))::.obj mr (fM (Rr++[⟨e.at_,e.va,cr⟩]) (cr+1))::.obj mf (fM N cn)::.obj mo (fM (O++O2) co2)::.obj m (gObj (F.map FE.ge) ck)::L0) c:=H.perm Pm
      exact H2.drop
     exact wx_loopG ((dn++[e],Rr++[⟨e.at_,e.va,cr⟩],cr+1)) H Cu hFR Ks (by dsimp only;rw [List.length_append,List.length_singleton];omega) ⟨hdn2,hdl2,hRo.add (hO.ok e he) heR,fun a=>by
      dsimp only
      rw [ats_add,List.mem_append,List.mem_singleton,hRm,hadd]
      exact ⟨fun h=>h.elim (fun h=>⟨.inl h.1,h.2⟩) fun h=>⟨.inr h,h▸hfN⟩,fun h=>h.1.elim (fun h1=>.inl ⟨h1,h.2⟩) .inr⟩⟩
end Go.Proofs.YtnppmeeibbefbaaGreatDoor
namespace Go.Wk
open Go Go.RowKit
theorem del_mem {cs:List Cl} {x y:Cl} {i:Nat} (hr:Rise cmpCl cs) (hx:cs[i]?=some x) : y∈cs.take i++cs.drop (i+1)↔y∈cs∧y≠x:=by
 have hnx : ∀{j:Nat} {u:Cl},cs[j]?=some u→j≠i→u≠x:=fun {j u} hj hne e=>by
  subst e
  have h0:=cmpCl_t3.toP3.refl u
  rcases Nat.lt_or_gt_of_ne hne with h|h
  ·have:=hr.at_ hj hx h;omega
  ·have:=hr.at_ hx hj h;omega
 constructor
 ·intro h
  rcases List.mem_append.1 h with h|h
  ·obtain ⟨j,hj⟩:=List.mem_iff_getElem?.1 h
   rw [List.getElem?_take] at hj
   split at hj
   ·exact ⟨List.mem_of_getElem? hj,hnx hj (by omega)⟩
   ·cases hj
  ·obtain ⟨j,hj⟩:=List.mem_iff_getElem?.1 h
   rw [List.getElem?_drop] at hj
   exact ⟨List.mem_of_getElem? hj,hnx hj (by omega)⟩
 ·rintro ⟨h,hne⟩
  obtain ⟨j,hj⟩:=List.mem_iff_getElem?.1 h
  have hji : j≠i:=fun e=>by subst e;rw [hx] at hj;cases hj;exact hne rfl
  rcases Nat.lt_or_gt_of_ne hji with h|h
  ·exact List.mem_append_left _ (List.mem_iff_getElem?.2 ⟨j,by rw [List.getElem?_take,if_pos h];exact hj⟩)
  ·exact List.mem_append_right _ (List.mem_iff_getElem?.2 ⟨j-(i+1),by rw [List.getElem?_drop,show i+1+(j-(i+1))=j by omega];exact hj⟩)
theorem rise_del {cs:List Cl} {i:Nat} (hr:Rise cmpCl cs) : Rise cmpCl (cs.take i++cs.drop (i+1)):=by
 rw [←List.eraseIdx_eq_take_drop_succ]
 exact hr.sublist (List.eraseIdx_sublist _ _)
end Go.Wk
namespace Go.Proofs.YtnppmeeibbefbaaGreatDoor
open Go Go.Wk Go.RowKit
def fDel (l:List FE) (a:At0) : List FE:=l.eraseP fun q=>decide (q.at_=a)
theorem fM_del (l:List FE) (ck:Nat) (a:At0) : gObj ((l.map FE.ge).eraseP fun p=>decide (p.key=keyS a)) ck=fM (fDel l a) ck:=by
 unfold fM fDel
 rw [List.eraseP_map]
 have e : ((fun p:GE=>decide (p.key=keyS a))∘FE.ge)=fun q : FE=>decide (q.at_=a):=by
  funext q
  show decide (keyS q.at_=keyS a)=decide (q.at_=a)
  exact decide_eq_decide.2 ⟨keyS_inj,fun h=>by rw [h]⟩
 rw [e]
theorem fDel_sub {l:List FE} {a:At0} {q:FE} (h:q∈fDel l a) : q∈l:=(List.eraseP_sublist ..).subset h
theorem FkOk.del {l:List FE} {ck:Nat} (h:FkOk l ck) (a:At0) : FkOk (fDel l a) ck :=
 ⟨h.nd.sublist ((List.eraseP_sublist ..).map _),h.bn.sublist ((List.eraseP_sublist ..).map _),fun q hq=>h.lt q (fDel_sub hq),fun q hq=>h.ok q (fDel_sub hq)⟩
theorem ats_del {l:List FE} {ck:Nat} (h:FkOk l ck) {a b:At0} : b∈ats (fDel l a)↔b∈ats l∧b≠a:=by
 have e : ats (fDel l a)=(ats l).erase a:=by
  unfold ats fDel
  rw [List.erase_eq_eraseP,List.eraseP_map]
  congr 1
  congr 1
  funext q
  show decide (q.at_=a)=(a == q.at_)
  rw [Bool.eq_iff_iff,decide_eq_true_eq,beq_iff_eq]
  exact ⟨fun h=>h.symm,fun h=>h.symm⟩
 rw [e,List.Nodup.mem_erase_iff (show (ats l).Nodup from h.nd)]
 exact ⟨fun h=>⟨h.2,h.1⟩,fun h=>⟨h.2,h.1⟩⟩
theorem LmOk.sub {cs cs':List Cl} (h:LmOk cs) (hm:∀x∈cs',x∈cs) (hl:cs'.length≤1001) : LmOk cs':=by
 have e : ∀a,LM cs' a→LM cs a:=fun a=>LM.mono hm
 exact ⟨fun x hx=>h.cl x (hm x hx),hl,fun x hx=>(h.cap x (hm x hx)).mono e,fun b hb=>h.fct b (e b hb),fun l hn hl=>h.big l hn fun a ha=>e a (hl a ha)⟩
def RmP (S:KpS) (x:Cl) (v:Value) (R:List Res) (c:Cx) : Prop:=∃S' vl l e,v=.tuple #[.agg #[.slice none 0 0,vl],.int .i64 e]∧R=S'.res∧KpF S' c∧Sl vl l c ∧
 ((x∉S.cs∧S'=S∧l=[]∧e=171) ∨
  (x∈S.cs∧e=0∧S'.k=S.k∧S'.m=S.m∧KpOk S'∧S'.cs.length+1=S.cs.length∧(∀y,y∈S'.cs↔y∈S.cs∧y≠x)∧l.Nodup∧∀a,a∈l↔a∈ats S.F∧a∉ats S'.F))
structure RmPh (cs:List Cl) (x:Cl) (m:Nat) (F:List FE) (ck:Nat) (l9 l10 l11 l12 l13:Bool) (v49 v50 v51 v52 v53:Value) (R:List Res) (c:Cx) : Prop where
 a1 : l12=true→l9=true
 a2 : l13=true→l12=true
 p10 : l10=true→Ag x v50 c
 p11 : l11=true→Sl v51 [x] c
 p0 : l9=false→R=[.obj m (fM F ck)]
 p9 : l9=true→l12=false→∃B,v49=ptr B.b∧R=baR B++[.obj m (fM F ck)]∧BaF B c∧BsI B (fun a=>a∈ats F) (fun a=>a∈ats ([]:List FE)) (fun _=>False) (F.length+([]:List FE).length)
 p12 : l12=true→l13=false→R=[.obj m (fM F ck)]∧∃out,Sl v52 out c∧∀b,b∈out↔Stp [x] (fun a=>a∈ats F) b
 p13 : l13=true→DbtP cs x m F ck v53 R c
instance (cs : List Cl) (x : Cl) (m : Nat) (F : List FE) (ck : Nat) (l9 l10 l11 l12 l13 : Bool) (v49 v50 v51 v52 v53 : Value) (R : List Res) : Mono (RmPh cs x m F ck l9 l10 l11 l12 l13 v49 v50 v51 v52 v53 R):=⟨fun h k=>⟨k.a1,k.a2,fun e=>Mono.mono h (k.p10 e),fun e=>Mono.mono h (k.p11 e),k.p0,fun e e2=>by obtain ⟨B,h1,h2,h3,h4⟩:=k.p9 e e2;exact ⟨B,h1,h2,Mono.mono h h3,h4⟩,fun e e2=>by obtain ⟨h1,out,h2,h3⟩:=k.p12 e e2;exact ⟨h1,out,Mono.mono h h2,h3⟩,fun e=>Mono.mono h (k.p13 e)⟩⟩
set_option maxHeartbeats 8000000 in
theorem Kept_Remove (S:KpS) (x:Cl) (u:Value) (c:Cx) (hS:KpOk S) (hF:KpF S c) (hx:Ag x u c) (hk0:ClOk x) (hg:GlobOk c) (hp:Box 3 P10c c) :
  CnTX Tryz.prog 10 [.pointer (some ⟨S.k,0,none⟩),u] S.res c (RmP S x):=by
 refine CnTX.of Tryz.func10 Tryz.ntmps10 rfl rfl fun c0 L0 A0 _ H HA=>?_
 have HA:=(((((HA.add hF.1).add hF.2).add hx).add hg).add hg.none).add hp
 have H : Owns c0 (.obj S.k (.cells [S.v,.map (some S.m)].toArray 52 (0,0))::.obj S.m (fM S.F S.ck)::L0) c:=H
 have hlen:=hS.len
 (apply wc_seq;apply wc_region)
 (refine s_boxG rfl rfl Lk H HA ?_;intro p c H HA)
 (skip)
 (refine s_alloc rfl (by conv=>lhs;whnf) H HA ?_;intro b4 c H HA)
 (refine Z2 ?_;apply Y0;apply wc_seq;apply Y1;refine Z39 HA fun vx HA=>?_)
 (refine s_call rfl rfl H HA (clause_Check x _ _ Lk hk0.fit Lk) ?_;intro vx c H HP;have hvx:=HP.h.1;have HA:=HP.cut;subst hvx)
 rw [hk0.check]
 (focus (refine Z2 ?_;apply Y2;refine Z0 ?_;refine Z94 (fun hq=>?_) fun hq=>?_;apply Y0;refine Z18 ?_;apply Y1;refine Z54 ?_;refine Z0 ?_;refine Z74 fun c H HA=>?_;refine Z2 ?_;apply Y0;apply wc_ret;apply wx_ret_then;rotate_left;apply Y0;refine Z19 ?_;apply wc_skip;apply wx_next;apply Y1;refine Z0 ?_;refine Z39 HA fun vx HA=>?_;rotate_left))
 ·exact absurd rfl hq
 obtain ⟨pos,hpos⟩:=posAt_ex x hS.rise
 have H : Owns c0 (.obj S.k (.cells [S.v,.map (some S.m)].toArray 52 (0,0))::(.obj b4 (.cells [.slice none 0 0,.slice none 0 0].toArray 27 (0,0))::.obj S.m (fM S.F S.ck)::L0)) c:=H.swap
 refine s_callT (pre:=[.obj S.k (.cells [S.v,.map (some S.m)].toArray 52 (0,0))]) (post:=[.obj S.k (.cells [S.v,.map (some S.m)].toArray 52 (0,0))]) rfl rfl H HA (Kept_place S.cs x S.k S.v _ (.map (some S.m)) _ Lk Lk (fun y hy=>(hS.lm.cl y hy).sm) hS.rise (by omega) pos hpos) ?_
 intro v24 c H HA
 have h24:=HA.h.1
 subst h24
 have HA:=HA.cut
 have H : Owns c0 (.obj b4 (.cells [.slice none 0 0,.slice none 0 0].toArray 27 (0,0))::.obj S.k (.cells [S.v,.map (some S.m)].toArray 52 (0,0))::.obj S.m (fM S.F S.ck)::L0) c:=H.swap
 by_cases hmem : x∈S.cs
 ·have hpx:=(mem_pos hS.rise hpos).1 hmem
  have hpl:=(List.getElem?_eq_some_iff.1 hpx).1
  rw [decide_eq_true hpx]
  (refine Z0 ?_;refine Z32 ?_;refine Z32 ?_;refine Z2 ?_;refine Z2 ?_;apply Y0;apply wc_seq;apply Y1;refine Z0 ?_;refine Z33 ?_;apply Y0;refine Z19 ?_;apply wc_skip;apply wx_next;apply Y1;refine Z0 ?_;(refine s_nilCheck rfl rfl ?_);refine Z3 ?_;refine Z41 ?_)
  refine s_callO rfl rfl H HA (Clone_Cl S.cs S.v _ Lk) ?_
  intro v42 R c H HA
  obtain ⟨vals,rfl,hV⟩:=HA.h.1
  have HA:=HA.cut.add hV
  (refine Z0 ?_;refine Z0 ?_;refine Z46 ?_)
  have hV : Vals vals S.cs c:=Lk
  refine s_callX rfl rfl H HA (Delete_C S.cs.length pos v42 vals.flatten _ hpl (by omega) hV.one) ?_
  intro v39 R c H HA
  have hR:=HA.h.1
  subst hR
  have HA:=HA.cut
  have hV : Vals vals S.cs c:=Lk
  obtain ⟨cs',hcs'⟩ : ∃cs',cs'=S.cs.take pos++S.cs.drop (pos+1):=⟨_,rfl⟩
  have hcl : cs'.length+1=S.cs.length:=by
   rw [hcs',List.length_append,List.length_take,List.length_drop]
   omega
  have hcm : ∀y,y∈cs'↔y∈S.cs∧y≠x:=fun y=>by rw [hcs'];exact del_mem hS.rise hpx
  have hcr : Rise cmpCl cs':=by rw [hcs'];exact rise_del hS.rise
  have hLc : LmOk cs':=hS.lm.sub (fun y hy=>((hcm y).1 hy).1) (by omega)
  obtain ⟨e1,hV2⟩:=vals_del (i:=pos) (kk:=7) rfl hV
  rw [←hcs'] at hV2
  have H : Owns c0 (.row v39 39 7 (S.cs.length-1) (vals.take pos++vals.drop (pos+1)).flatten::.obj b4 (.cells [.slice none 0 0,.slice none 0 0].toArray 27 (0,0))::.obj S.k (.cells [S.v,.map (some S.m)].toArray 52 (0,0))::.obj S.m (fM S.F S.ck)::L0) c:=by
   rw [←e1];exact H
  refine w_freezeRow H HA hV2 (by omega) rfl (by simp only [LIM];omega) ?_
  intro c H HA
  (refine Z2 ?_;apply Y0;apply wc_seq)
  have H : Owns c0 (.obj S.m (fM S.F S.ck)::.obj S.k (.cells [S.v,.map (some S.m)].toArray 52 (0,0))::.obj b4 (.cells [.slice none 0 0,.slice none 0 0].toArray 27 (0,0))::L0) c:=H.perm Pm
  have hsl9 : Sl v39 cs' c:=Lk
  have hpt : Pt x p c:=Lk
  have hph0 : RmPh cs' x S.m S.F S.ck false false false false false undef undef undef undef undef [.obj S.m (fM S.F S.ck)] c:=⟨fun h=>h,fun h=>h,(fun h=>by cases h),(fun h=>by cases h),fun _=>rfl,(fun h=>by cases h),(fun h=>by cases h),fun h=>by cases h⟩
  have hHB : Hd (fun c=>RmPh cs' x S.m S.F S.ck false false false false false undef undef undef undef undef [.obj S.m (fM S.F S.ck)] c∧Sl v39 cs' c∧Pt x p c∧Box 3 P10c c∧Box 1 Tn.cs c∧GlobOk c∧FkF S.F c∧A0 c) c:=⟨⟨hph0,Lk,Lk,Lk,Lk,Lk,Lk,Lk⟩⟩
  have hsubc : ∀y∈cs',y∈S.cs:=fun y hy=>((hcm y).1 hy).1
  refine wc_any mixed (by kernel_rfl) (fun ls g c=>KS g [(0,.pointer (some ⟨S.k,0,none⟩)),(9,v39),(3,p),(4,.pointer (some ⟨b4,0,none⟩))]∧(ls 0=true→g 40=.pointer (some ⟨S.k,0,none⟩))∧(ls 1=true→g 41=.pointer (some ⟨S.k,0,none⟩))∧(ls 2=true→g 42=.pointer (some ⟨S.k,0+1,none⟩))∧(ls 3=true→g 43=.map (some S.m))∧(ls 4=true→g 44=v39)∧(ls 5=true→g 45=.pointer (some ⟨S.k,0,none⟩))∧(ls 6=true→g 46=.pointer (some ⟨S.k,0,none⟩))∧(ls 7=true→g 47=.pointer (some ⟨S.k,0+1,none⟩))∧(ls 8=true→g 48=.map (some S.m))∧(ls 14=true→ls 13=true∧g 10=g 53)∧∃R,Owns c0 (R++(.obj S.k (.cells [S.v,.map (some S.m)].toArray 52 (0,0))::.obj b4 (.cells [.slice none 0 0,.slice none 0 0].toArray 27 (0,0))::L0)) c∧Hd (fun c=>RmPh cs' x S.m S.F S.ck (ls 9) (ls 10) (ls 11) (ls 12) (ls 13) (g 49) (g 50) (g 51) (g 52) (g 53) R c∧Sl v39 cs' c∧Pt x p c∧Box 3 P10c c∧Box 1 Tn.cs c∧GlobOk c∧FkF S.F c∧A0 c) c)
   ⟨Ks,(fun h=>by cases h),(fun h=>by cases h),(fun h=>by cases h),(fun h=>by cases h),(fun h=>by cases h),(fun h=>by cases h),(fun h=>by cases h),(fun h=>by cases h),(fun h=>by cases h),(fun h=>by cases h),[.obj S.m (fM S.F S.ck)],H.of_ext (Ext0.draw c.w),hHB.to (Le.of_ext (Ext0.draw c.w))⟩ ⟨?_,?_,?_,?_,?_,?_,?_,?_,?_,?_,?_,?_,?_,?_,?_,trivial⟩ ?_
  ·intro ls g c hli haf hS
   obtain ⟨hk,h0,h1,h2,h3,h4,h5,h6,h7,h8,h14,R,HO,HA⟩:=hS
   refine s_move rfl (show opd g (.tmp 0)=_ from hk.1) ?_
   exact w_nil (wx_cut ⟨ks_upd rfl hk,(fun _=>rfl),h1,h2,h3,h4,h5,h6,h7,h8,h14,R,HO,HA⟩)
  ·intro ls g c hli haf hS
   obtain ⟨hk,h0,h1,h2,h3,h4,h5,h6,h7,h8,h14,R,HO,HA⟩:=hS
   refine s_nilCheck rfl (show opd g (.tmp 40)=_ from h0 (haf 0 (by decide))) ?_
   exact w_nil (wx_cut ⟨ks_upd rfl hk,h0,(fun _=>rfl),h2,h3,h4,h5,h6,h7,h8,h14,R,HO,HA⟩)
  ·intro ls g c hli haf hS
   obtain ⟨hk,h0,h1,h2,h3,h4,h5,h6,h7,h8,h14,R,HO,HA⟩:=hS
   refine s_fieldAddr rfl (show opd g (.tmp 41)=_ from h1 (haf 1 (by decide))) ?_
   exact w_nil (wx_cut ⟨ks_upd rfl hk,h0,h1,(fun _=>rfl),h3,h4,h5,h6,h7,h8,h14,R,HO,HA⟩)
  ·intro ls g c hli haf hS
   obtain ⟨hk,h0,h1,h2,h3,h4,h5,h6,h7,h8,h14,R,HO,HA⟩:=hS
   refine s_loadOP rfl (show opd g (.tmp 42)=_ from h2 (haf 2 (by decide))) HO (List.mem_append_right _ (.head _)) rfl ?_
   exact w_nil (wx_cut ⟨ks_upd rfl hk,h0,h1,h2,(fun _=>rfl),h4,h5,h6,h7,h8,h14,R,HO,HA⟩)
  ·intro ls g c hli haf hS
   obtain ⟨hk,h0,h1,h2,h3,h4,h5,h6,h7,h8,h14,R,HO,HA⟩:=hS
   refine s_move rfl (show opd g (.tmp 9)=_ from hk.2.1) ?_
   exact w_nil (wx_cut ⟨ks_upd rfl hk,h0,h1,h2,h3,(fun _=>rfl),h5,h6,h7,h8,h14,R,HO,HA⟩)
  ·intro ls g c hli haf hS
   obtain ⟨hk,h0,h1,h2,h3,h4,h5,h6,h7,h8,h14,R,HO,HA⟩:=hS
   refine s_move rfl (show opd g (.tmp 0)=_ from hk.1) ?_
   exact w_nil (wx_cut ⟨ks_upd rfl hk,h0,h1,h2,h3,h4,(fun _=>rfl),h6,h7,h8,h14,R,HO,HA⟩)
  ·intro ls g c hli haf hS
   obtain ⟨hk,h0,h1,h2,h3,h4,h5,h6,h7,h8,h14,R,HO,HA⟩:=hS
   refine s_nilCheck rfl (show opd g (.tmp 45)=_ from h5 (haf 5 (by decide))) ?_
   exact w_nil (wx_cut ⟨ks_upd rfl hk,h0,h1,h2,h3,h4,h5,(fun _=>rfl),h7,h8,h14,R,HO,HA⟩)
  ·intro ls g c hli haf hS
   obtain ⟨hk,h0,h1,h2,h3,h4,h5,h6,h7,h8,h14,R,HO,HA⟩:=hS
   refine s_fieldAddr rfl (show opd g (.tmp 46)=_ from h6 (haf 6 (by decide))) ?_
   exact w_nil (wx_cut ⟨ks_upd rfl hk,h0,h1,h2,h3,h4,h5,h6,(fun _=>rfl),h8,h14,R,HO,HA⟩)
  ·intro ls g c hli haf hS
   obtain ⟨hk,h0,h1,h2,h3,h4,h5,h6,h7,h8,h14,R,HO,HA⟩:=hS
   refine s_loadOP rfl (show opd g (.tmp 47)=_ from h7 (haf 7 (by decide))) HO (List.mem_append_right _ (.head _)) rfl ?_
   exact w_nil (wx_cut ⟨ks_upd rfl hk,h0,h1,h2,h3,h4,h5,h6,h7,(fun _=>rfl),h14,R,HO,HA⟩)
  ·intro ls g c hli haf hS
   obtain ⟨hk,h0,h1,h2,h3,h4,h5,h6,h7,h8,h14,R,HO,HA⟩:=hS
   have hl9 : ls 9=false:=hli
   have hR:=HA.h.1.p0 hl9
   subst hR
   have HO : Owns c0 ((mpR (some S.m) S.F S.ck++mpR none [] 0)++(.obj S.k (.cells [S.v,.map (some S.m)].toArray 52 (0,0))::.obj b4 (.cells [.slice none 0 0,.slice none 0 0].toArray 27 (0,0))::L0)) c:=HO
   refine s_callX (vs:=[.map (some S.m),.map none]) rfl (show [opd g (.tmp 48),.map none]=_ by rw [show opd g (.tmp 48)=_ from h8 (haf 8 (by decide))]) HO HA (upkeep_laid (some S.m) none S.F [] S.ck 0 _ (fun h=>by cases h) (fun _=>rfl) Lk (fun q h=>by cases h) hS.fk (FkOk.nil 0) (fun a h=>by cases h) (by have:=hS.big;simp only [List.length_nil];omega) Lk) ?_
   intro v R c HO HA
   obtain ⟨B0,rfl,rfl,hFB0,hI0⟩:=HA.h.1
   have hph:=HA.h.2.1
   have hN : RmPh cs' x S.m S.F S.ck true (ls 10) (ls 11) (ls 12) (ls 13) (ptr B0.b) (g 50) (g 51) (g 52) (g 53) (baR B0++[.obj S.m (fM S.F S.ck)]) c:=⟨fun _=>rfl,hph.a2,hph.p10,hph.p11,(fun h=>by cases h),fun _ _=>⟨B0,rfl,rfl,hFB0,hI0⟩,fun h _=>absurd (hph.a1 h) (by rw [hl9];decide),fun h=>absurd (hph.a1 (hph.a2 h)) (by rw [hl9];decide)⟩
   have HA:=HA.cut.cut.add hN
   exact w_nil (wx_cut ⟨ks_upd rfl hk,h0,h1,h2,h3,h4,h5,h6,h7,h8,h14,_,HO,HA⟩)
  ·intro ls g c hli haf hS
   obtain ⟨hk,h0,h1,h2,h3,h4,h5,h6,h7,h8,h14,R,HO,HA⟩:=hS
   refine s_ldG rfl (show opd g (.tmp 3)=_ from hk.2.2.1) (Lk:Pt x p c) rfl ?_
   intro v hag
   have hph:=HA.h.1
   have hN : RmPh cs' x S.m S.F S.ck (ls 9) true (ls 11) (ls 12) (ls 13) (g 49) v (g 51) (g 52) (g 53) R c:=⟨hph.a1,hph.a2,fun _=>hag,hph.p11,hph.p0,hph.p9,hph.p12,hph.p13⟩
   have HA:=HA.cut.add hN
   exact w_nil (wx_cut ⟨ks_upd rfl hk,h0,h1,h2,h3,h4,h5,h6,h7,h8,h14,R,HO,HA⟩)
  ·intro ls g c hli haf hS
   obtain ⟨hk,h0,h1,h2,h3,h4,h5,h6,h7,h8,h14,R,HO,HA⟩:=hS
   refine s_bs1G rfl (show opd g (.tmp 50)=g 50 from rfl) (HA.h.1.p10 (haf 10 (by decide))) rfl rfl rfl rfl HO HA inferInstance ?_
   intro v c HO HA
   have hph:=HA.h.2.2.1
   have hN : RmPh cs' x S.m S.F S.ck (ls 9) (ls 10) true (ls 12) (ls 13) (g 49) (g 50) v (g 52) (g 53) R c:=⟨hph.a1,hph.a2,hph.p10,fun _=>HA.h.1,hph.p0,hph.p9,hph.p12,hph.p13⟩
   have HA:=HA.cut.cut.cut.add hN
   exact w_nil (wx_cut ⟨ks_upd rfl hk,h0,h1,h2,h3,h4,h5,h6,h7,h8,h14,R,HO,HA⟩)
  ·intro ls g c hli haf hS
   obtain ⟨hk,h0,h1,h2,h3,h4,h5,h6,h7,h8,h14,R,HO,HA⟩:=hS
   have hl12 : ls 12=false:=hli
   have hl9:=haf 9 (by decide)
   obtain ⟨B,hv,rfl,hFB,hI⟩:=HA.h.1.p9 hl9 hl12
   have hB : ∀a,InB B a↔a∈ats S.F:=fun a=>by
    unfold InB
    rw [hI.old,hI.new]
    simp [ats]
   have hinL : ∀a,InB B a→LM S.cs a:=fun a ha=>(hS.all a).1 ((hB a).1 ha)
   have HO : Owns c0 (baR B++(.obj S.m (fM S.F S.ck)::.obj S.k (.cells [S.v,.map (some S.m)].toArray 52 (0,0))::.obj b4 (.cells [.slice none 0 0,.slice none 0 0].toArray 27 (0,0))::L0)) c:=by rw [List.append_assoc] at HO;exact HO
   have HA:=HA.add hFB
   refine s_callX (vs:=[ptr B.b,g 51,.bool true]) rfl (show [opd g (.tmp 49),opd g (.tmp 51),.bool true]=_ by rw [show opd g (.tmp 49)=_ from hv];rfl) HO HA (upkeep_heads B [x] true (g 51) _ _ _ _ _ hI (by have:=hS.big;simp only [List.length_nil];omega) hFB (HA.h.2.1.p11 (haf 11 (by decide))) (fun y hy=>by rw [List.mem_singleton.1 hy];exact hk0) (fun y hy=>by rw [List.mem_singleton.1 hy];exact (hS.lm.cap x hmem).mono hinL) (fun y hy lead b hb=>(hS.lm.fct b (hS.lm.fire hinL (by rw [List.mem_singleton.1 hy];exact hmem) hb)).sm) (by simp) Lk) ?_
   intro v R c HO HA
   obtain ⟨B1,out,rfl,hsm1,_,hso,hom⟩:=HA.h.1
   have HO:=owns_dropL _ HO
   have hph:=HA.h.2.2.1
   have hout : ∀b,b∈out↔Stp [x] (fun a=>a∈ats S.F) b:=fun b=>by
    rw [hom,hdS_whole]
    exact Stp.iff hB
   have hN : RmPh cs' x S.m S.F S.ck (ls 9) (ls 10) (ls 11) true (ls 13) (g 49) (g 50) (g 51) v (g 53) [.obj S.m (fM S.F S.ck)] c:=⟨fun _=>hl9,fun _=>rfl,hph.p10,hph.p11,fun _=>rfl,(fun _ h=>by cases h),fun _ _=>⟨rfl,out,hso,hout⟩,fun h=>absurd (hph.a2 h) (by rw [hl12];decide)⟩
   have HA:=HA.cut.cut.cut.add hN
   exact w_nil (wx_cut ⟨ks_upd rfl hk,h0,h1,h2,h3,h4,h5,h6,h7,h8,h14,[.obj S.m (fM S.F S.ck)],HO,HA⟩)
  ·intro ls g c hli haf hS
   obtain ⟨hk,h0,h1,h2,h3,h4,h5,h6,h7,h8,h14,R,HO,HA⟩:=hS
   have hl13 : ls 13=false:=hli
   have hl12:=haf 12 (by decide)
   obtain ⟨rfl,out,hso,hout⟩:=HA.h.1.p12 hl12 hl13
   refine s_callX (vs:=[.map (some S.m),v39,g 52]) rfl (show [opd g (.tmp 43),opd g (.tmp 44),opd g (.tmp 52)]=_ by rw [show opd g (.tmp 43)=_ from h3 (haf 3 (by decide)),show opd g (.tmp 44)=_ from h4 (haf 4 (by decide))];rfl) HO HA (upkeep_doubted cs' S.cs x S.m S.F S.ck v39 (g 52) out _ Lk hS.fk Lk hso hS.lm hsubc hmem hS.all (by omega) hout Lk Lk) ?_
   intro v R c HO HA
   have hD:=HA.h.1
   have hph:=HA.h.2.1
   have hN : RmPh cs' x S.m S.F S.ck (ls 9) (ls 10) (ls 11) (ls 12) true (g 49) (g 50) (g 51) (g 52) v R c:=⟨hph.a1,fun _=>hl12,hph.p10,hph.p11,fun h=>absurd (hph.a1 hl12) (by rw [h];decide),fun _ h=>absurd hl12 (by rw [h];decide),(fun _ h=>by cases h),fun _=>hD⟩
   have HA:=HA.cut.cut.add hN
   exact w_nil (wx_cut ⟨ks_upd rfl hk,h0,h1,h2,h3,h4,h5,h6,h7,h8,(fun h=>absurd (h14 h).1 (by rw [hl13];decide)),R,HO,HA⟩)
  ·intro ls g c hli haf hS
   obtain ⟨hk,h0,h1,h2,h3,h4,h5,h6,h7,h8,h14,R,HO,HA⟩:=hS
   refine s_assign rfl (show opd g (.tmp 53)=g 53 from rfl) ?_
   exact w_nil (wx_cut ⟨ks_upd rfl hk,h0,h1,h2,h3,h4,h5,h6,h7,h8,(fun _=>⟨haf 13 (by decide),rfl⟩),R,HO,HA⟩)
  ·intro ls g c hls hS
   obtain ⟨hk,h0,h1,h2,h3,h4,h5,h6,h7,h8,h14,R,HO,HA⟩:=hS
   obtain ⟨mo,O,co,l',hv53,rfl,hFO,hOO,hDI,hlO⟩:=HA.h.1.p13 (hls 13 (by decide))
   have hk2 : KS g [(10,.map (some mo)),(0,.pointer (some ⟨S.k,0,none⟩)),(9,v39),(3,p),(4,.pointer (some ⟨b4,0,none⟩))]:=⟨(h14 (hls 14 (by decide))).2.trans hv53,hk⟩
   obtain ⟨g,rfl⟩:=hk2.ex
   have HA:=HA.cut.add hFO
   have H : Owns c0 (.obj mo (gObj (O.map FE.ge) co)::.obj S.m (fM S.F S.ck)::.obj S.k (.cells [S.v,.map (some S.m)].toArray 52 (0,0))::.obj b4 (.cells [.slice none 0 0,.slice none 0 0].toArray 27 (0,0))::L0) c:=HO
   clear HO h0 h1 h2 h3 h4 h5 h6 h7 h8 h14 hv53 hls hk hk2
   (apply wx_next;apply wc_seq;apply Y1;refine Z0 ?_)
   refine s_rangeG rfl rfl H (.head _) HA ?_
   intro rx c H HA
   (apply Y0;apply wc_block)
   have hF2 : FkF S.F c:=Lk
   have H : Owns c0 (.obj rx (itObj mo co [])::.obj S.m (fM S.F S.ck)::.obj S.k (.cells [S.v,.map (some S.m)].toArray 52 (0,0))::.obj b4 (.cells [.slice none 0 0,.slice none 0 0].toArray 27 (0,0))::.obj mo (gObj (O.map FE.ge) co)::L0) c:=by
    have H : Owns c0 (.obj rx (itObj mo co [])::.obj mo (gObj (O.map FE.ge) co)::.obj S.m (fM S.F S.ck)::.obj S.k (.cells [S.v,.map (some S.m)].toArray 52 (0,0))::.obj b4 (.cells [.slice none 0 0,.slice none 0 0].toArray 27 (0,0))::L0) c:=H
    exact H.perm Pm
   refine wc_loopG (σ:=List FE×List FE) (fun y=>O.length-y.1.length) (fun y=>[(0,.pointer (some ⟨S.k,0,none⟩)),(9,v39),(10,.map (some mo)),(4,.pointer (some ⟨b4,0,none⟩)),(55,.pointer (some ⟨rx,0,none⟩))])
    (fun y=>(y.1.map FE.bn).Nodup∧(∀q∈y.1,q∈O)∧FkOk y.2 S.ck∧(∀q∈y.2,q∈S.F)∧∀a,a∈ats y.2↔a∈ats S.F∧a∉ats y.1)
    (fun y=>.obj rx (itObj mo co (y.1.map FE.bn))::.obj S.m (fM y.2 S.ck)::.obj S.k (.cells [S.v,.map (some S.m)].toArray 52 (0,0))::.obj b4 (.cells [.slice none 0 0,.slice none 0 0].toArray 27 (0,0))::.obj mo (gObj (O.map FE.ge) co)::L0) (fun y=>Tt) ([],S.F) H HA trivial Ks ⟨List.nodup_nil,(fun _ h=>by cases h),hS.fk,fun q hq=>hq,fun a=>by simp [ats]⟩ ?_
   clear H HA
   rintro ⟨dn,F1⟩ g3 c hy H HA
   obtain ⟨hdn,hdl,hF1o,hF1s,hF1m⟩:=hy
   dsimp only at hdn hdl hF1o hF1s hF1m H HA ⊢
   have hdlen : ∀(l d:List FE),(d.map FE.bn).Nodup→(∀q∈d,q∈l)→d.length≤l.length:=fun l d h1 h2=>by
    have h1:=h1.length_le_of_subset (l₂:=l.map FE.bn) (fun b hb=>by
     obtain ⟨q,hq,rfl⟩:=List.mem_map.1 hb
     exact List.mem_map.2 ⟨q,h2 q hq,rfl⟩)
    simpa using h1
   (apply Y1)
   refine s_nextG (es:=O.map FE.ge) rfl rfl (fun q hq=>by
    obtain ⟨e,he,rfl⟩:=List.mem_map.1 hq
    exact hOO.lt e he) H HA (.tail _ (.tail _ (.tail _ (.head _)))) ?_ ?_
   ·intro hmet
    have hperm:=all_met hOO.bn hOO.nd hdn hdl fun q hq=>hmet q.ge (List.mem_map.2 ⟨q,hq,rfl⟩)
    (refine Z32 ?_;apply Y0;apply wc_seq;refine Z19 ?_;apply wc_exit;apply wx_exit_then;apply wx_exit_then;apply wx_exit_same;apply wx_next;apply Y1;refine Z0 ?_;(refine s_nilCheck rfl rfl ?_);refine Z3 ?_;refine Z41 ?_;refine Z0 ?_;refine Z0 ?_)
    have hF1 : ∀a,a∈ats F1↔a∈ats S.F∧a∉ats O:=fun a=>by rw [hF1m,hperm.mem_iff]
    have hFF : FkF S.F c:=Lk
    have hFF1 : FkF F1 c:=fun q hq=>hFF q (hF1s q hq)
    have HA:=HA.cut.add hFF1
    have hcs0 : ∀y∈S.cs,y=x∨y∈cs':=fun y hy=>Classical.byCases (fun h:y=x=>.inl h) fun h=>.inr ((hcm y).2 ⟨hy,h⟩)
    have hv1 : ∀a∈ats F1,LM cs' a:=fun a ha=>hDI.done hS.all hcs0 hlO ((hF1 a).1 ha).1 ((hF1 a).1 ha).2
    have H : Owns c0 ([.obj S.m (fM F1 S.ck)]++(.obj S.k (.cells [S.v,.map (some S.m)].toArray 52 (0,0))::.obj b4 (.cells [.slice none 0 0,.slice none 0 0].toArray 27 (0,0))::.obj mo (fM O co)::L0)) c:=H.drop
    refine s_callX rfl rfl H HA (upkeep_grown cs' cs' v39 v39 S.m F1 S.ck 5000 _ hFF1 hF1o Lk Lk hLc (fun y hy=>hy) (by omega) hv1 (fun y hy=>.inl hy) (by omega) Lk Lk) ?_
    intro v72 R c H HA
    have hno : ¬∃l : List At0,l.Nodup∧5000<l.length∧∀a∈l,LM cs' a:=by
     rintro ⟨l,hl1,hl2,hl3⟩
     have h1:=hl1.length_le_of_subset (l₂:=ats S.F) fun a ha=>(hS.all a).2 (LM.mono hsubc (hl3 a ha))
     have h2:=hS.big
     simp only [ats,List.length_map] at h1
     omega
    obtain ⟨m2,C,ck2,rfl,rfl,hFC,hOC,hall,hdis,hcnt⟩:=Or.resolve_right HA.h.1 fun ⟨l,_,_,hl⟩=>hno ⟨l,hl⟩
    have HA:=HA.cut.add hFC
    (refine Z0 ?_;refine Z32 ?_;refine Z32 ?_;refine Z2 ?_;refine Z2 ?_;apply Y0;apply wc_seq;apply Y1;refine Z0 ?_)
    have H : Owns c0 (.obj m2 (gObj (C.map FE.ge) ck2)::.obj S.m (fM F1 S.ck)::.obj S.k (.cells [S.v,.map (some S.m)].toArray 52 (0,0))::.obj b4 (.cells [.slice none 0 0,.slice none 0 0].toArray 27 (0,0))::.obj mo (fM O co)::L0) c:=H
    refine s_rangeG rfl rfl H (.head _) HA ?_
    intro ry c H HA
    (apply Y0;apply wc_block)
    have hFF2 : FkF F1 c:=Lk
    have H : Owns c0 (.obj ry (itObj m2 ck2 [])::.obj m2 (gObj (C.map FE.ge) ck2)::.obj S.m (fM F1 S.ck)::.obj S.k (.cells [S.v,.map (some S.m)].toArray 52 (0,0))::.obj b4 (.cells [.slice none 0 0,.slice none 0 0].toArray 27 (0,0))::.obj mo (fM O co)::L0) c:=H
    refine wc_loopG (σ:=(List FE×List FE×Nat)×List FE) (fun y=>C.length-y.1.1.length) (fun y=>[(0,.pointer (some ⟨S.k,0,none⟩)),(9,v39),(10,.map (some mo)),(4,.pointer (some ⟨b4,0,none⟩)),(12,.map (some m2)),(76,.pointer (some ⟨ry,0,none⟩))])
     (fun y=>FillI F1 C y.1∧FkOk y.2 co∧(∀q∈y.2,q∈O)∧∀a,a∈ats y.2↔a∈ats O∧a∉ats y.1.1)
     (fun y=>.obj ry (itObj m2 ck2 (y.1.1.map FE.bn))::.obj m2 (gObj (C.map FE.ge) ck2)::.obj S.m (fM y.1.2.1 y.1.2.2)::.obj S.k (.cells [S.v,.map (some S.m)].toArray 52 (0,0))::.obj b4 (.cells [.slice none 0 0,.slice none 0 0].toArray 27 (0,0))::.obj mo (fM y.2 co)::L0) (fun y c=>FkF y.1.2.1 c) (([],F1,S.ck),O) H HA hFF2 Ks ⟨FillI.start _ _ _ hF1o,hOO,fun q hq=>hq,fun a=>by simp [ats]⟩ ?_
    clear H HA
    rintro ⟨⟨d2,F2,ckf⟩,O2⟩ g4 c hy H HA
    obtain ⟨hfi,hO2o,hO2s,hO2m⟩:=hy
    have hyl:=hfi.len
    dsimp only at hyl hO2o hO2s hO2m H HA ⊢
    (apply Y1)
    refine s_nextG (es:=C.map FE.ge) rfl rfl (fun q hq=>by
     obtain ⟨e,he,rfl⟩:=List.mem_map.1 hq
     exact hOC.lt e he) H HA (.head _) ?_ ?_
    ·intro hmet2
     have hperm2:=all_met hOC.bn hOC.nd hfi.dn hfi.dl fun q hq=>hmet2 q.ge (List.mem_map.2 ⟨q,hq,rfl⟩)
     have H : Owns c0 (.obj ry (itObj m2 ck2 (d2.map FE.bn))::.obj m2 (gObj (C.map FE.ge) ck2)::.obj S.m (fM F2 ckf)::.obj S.k (.cells [S.v,.map (some S.m)].toArray 52 (0,0))::.obj b4 (.cells [.slice none 0 0,.slice none 0 0].toArray 27 (0,0))::.obj mo (fM O2 co)::L0) c:=H
     have H:=H.drop.drop
     have H:=H.swap
     (refine Z32 ?_;apply Y0;apply wc_seq;refine Z19 ?_;apply wc_exit;apply wx_exit_then;apply wx_exit_then;apply wx_exit_same;apply wx_next;apply Y1;refine Z0 ?_;refine Z0 ?_;(refine s_nilCheck rfl rfl ?_);refine Z3 ?_;refine Z75 fun c H HA=>?_;apply Y2;refine Z0 ?_)
     have H : Owns c0 (.obj S.k (.cells [v39,.map (some S.m)].toArray 52 (0,0))::.obj S.m (fM F2 ckf)::.obj b4 (.cells [.slice none 0 0,.slice none 0 0].toArray 27 (0,0))::.obj mo (fM O2 co)::L0) c:=H
     have H : Owns c0 ([.obj mo (fM O2 co)]++(.obj S.k (.cells [v39,.map (some S.m)].toArray 52 (0,0))::.obj S.m (fM F2 ckf)::.obj b4 (.cells [.slice none 0 0,.slice none 0 0].toArray 27 (0,0))::L0)) c:=H.perm Pm
     have hFO2 : FkF O c:=Lk
     refine s_callT (pre:=[.obj mo (fM O2 co)]) (post:=[.obj mo (fM O2 co)]) rfl rfl H HA (upkeep_told O2 co mo _ (fun q hq=>hFO2 q (hO2s q hq)) hO2o (by have h1:=ats_sub_len hO2o (F:=S.F) (fun a ha=>hDI.sub a ((hO2m a).1 ha).1);have h2:=hS.big;omega) Lk) ?_
     intro v95 c H HA
     obtain ⟨out,hso,hop,hor⟩:=HA.h.1
     have HA:=HA.cut.add hso
     have H : Owns c0 (.obj mo (fM O2 co)::.obj S.k (.cells [v39,.map (some S.m)].toArray 52 (0,0))::.obj S.m (fM F2 ckf)::.obj b4 (.cells [.slice none 0 0,.slice none 0 0].toArray 27 (0,0))::L0) c:=H
     have H : Owns c0 (.obj b4 (.cells [.slice none 0 0,.slice none 0 0].toArray 27 (0,0))::.obj mo (fM O2 co)::.obj S.k (.cells [v39,.map (some S.m)].toArray 52 (0,0))::.obj S.m (fM F2 ckf)::L0) c:=H.perm Pm
     (refine Z54 ?_;refine Z74 fun c H HA=>?_;refine Z2 ?_;apply Y0;apply wc_ret)
     have hat : ∀a,a∈ats F2↔a∈ats F1∨a∈ats C:=fun a=>by
      rw [hfi.eq,List.mem_append]
      exact or_congr Iff.rfl hperm2.mem_iff
     have hln : F2.length=F1.length+C.length:=by
      have h1:=congrArg List.length hfi.eq
      have h2:=hperm2.length_eq
      simp only [ats,List.length_map,List.length_append] at h1 h2
      omega
     refine ret_fnX (R:=(⟨S.k,S.m,v39,cs',F2,ckf⟩:KpS).res) H.drop.drop Ca (outsR2 Tryz.results10 (RV.agg rfl H Ow Rc) (RV.tmp Wh)) ?_
     exact ⟨⟨S.k,S.m,v39,cs',F2,ckf⟩,_,out,0,rfl,rfl,⟨Lk,Lk⟩,Lk,.inr ⟨hmem,rfl,rfl,rfl,⟨hcr,by dsimp only;omega,hfi.fk,hLc,fun a=>by rw [hat,hall],by dsimp only;omega⟩,hcl,hcm,hop.nodup_iff.2 hO2o.nd,fun a=>by
      rw [hop.mem_iff,hO2m,hperm2.mem_iff,hat,hF1]
      exact ⟨fun h=>⟨hDI.sub a h.1,fun h2=>h2.elim (fun h3=>h3.2 h.1) h.2⟩,fun h=>⟨Classical.byContradiction fun h3=>h.2 (.inl ⟨h.1,h3⟩),fun h3=>h.2 (.inr h3)⟩⟩⟩⟩
    ·intro q c hq hnq H HA
     obtain ⟨e,he,rfl⟩:=List.mem_map.1 hq
     (refine Z32 ?_;apply Y0;apply wc_seq;refine Z18 ?_;apply wc_skip;apply wx_next;apply wc_block;apply Y1)
     refine s_entryG (q:=e.ge) rfl rfl (by rw [List.map_map];exact hOC.bn) H (.tail _ (.head _)) (.head _) hq ?_
     have hse : Sl e.va e.at_.args c:=(Lk:FkF C c) e he
     have HA:=HA.add hse
     obtain ⟨hnew,hy2⟩:=hfi.step hOC hdis he hnq
     (refine Z32 ?_;refine Z32 ?_)
     (refine s_alloc rfl (by conv=>lhs;whnf) H HA ?_;intro b15 c H HA)
     (refine Z2 ?_;refine Z74 fun c H HA=>?_;apply Y0;apply wc_seq)
     have H : Owns c0 (.obj b15 (.cells (e.at_.cs e.va).toArray 35 (0,0))::.obj ry (itObj m2 ck2 (d2.map FE.bn++[e.bn]))::.obj m2 (gObj (C.map FE.ge) ck2)::.obj S.m (gObj (F2.map FE.ge) ckf)::.obj S.k (.cells [S.v,.map (some S.m)].toArray 52 (0,0))::.obj b4 (.cells [.slice none 0 0,.slice none 0 0].toArray 27 (0,0))::.obj mo (gObj (O2.map FE.ge) co)::L0) c:=H
     have H : Owns c0 (.obj S.m (gObj (F2.map FE.ge) ckf)::.obj b15 (.cells (e.at_.cs e.va).toArray 35 (0,0))::.obj ry (itObj m2 ck2 (d2.map FE.bn++[e.bn]))::.obj m2 (gObj (C.map FE.ge) ck2)::.obj S.k (.cells [S.v,.map (some S.m)].toArray 52 (0,0))::.obj b4 (.cells [.slice none 0 0,.slice none 0 0].toArray 27 (0,0))::.obj mo (gObj (O2.map FE.ge) co)::L0) c:=H.perm Pm
     (refine dw_start H HA ?_)
     (repeat (first|refine Dc ?_|refine Dm ?_))
     (refine dw_done mixed H HA rfl (by kernel_rfl) ?_;clear H HA;intro c H HA;(repeat (first|rintro vx rfl|(intro vx hx;have HA:=HA.addSF hx;clear hx)|(intro vx hx;have HA:=HA.add hx;clear hx)|intro vx));change W _ _ _ _ _ _ _)
     refine s_updG (q:=keyS e.at_) (v:=.agg (e.at_.cs e.va).toArray) rfl rfl rfl (fFind_none.2 hnew) H HA ?_
     intro c H HA
     have H : Owns c0 (.obj S.m (gObj (F2.map FE.ge++[⟨keyS e.at_,.agg (e.at_.cs e.va).toArray,ckf⟩]) (ckf+1))::.obj b15 (.cells (e.at_.cs e.va).toArray 35 (0,0))::.obj ry (itObj m2 ck2 (d2.map FE.bn++[e.bn]))::.obj m2 (gObj (C.map FE.ge) ck2)::.obj S.k (.cells [S.v,.map (some S.m)].toArray 52 (0,0))::.obj b4 (.cells [.slice none 0 0,.slice none 0 0].toArray 27 (0,0))::.obj mo (gObj (O2.map FE.ge) co)::L0) c:=H
     rw [fM_add] at H
     have H : Owns c0 (.obj mo (gObj (O2.map FE.ge) co)::.obj b15 (.cells (e.at_.cs e.va).toArray 35 (0,0))::.obj ry (itObj m2 ck2 (d2.map FE.bn++[e.bn]))::.obj m2 (gObj (C.map FE.ge) ck2)::.obj S.m (fM (F2++[⟨e.at_,e.va,ckf⟩]) (ckf+1))::.obj S.k (.cells [S.v,.map (some S.m)].toArray 52 (0,0))::.obj b4 (.cells [.slice none 0 0,.slice none 0 0].toArray 27 (0,0))::L0) c:=H.perm Pm
     (apply Y0;apply wc_region;refine Z0 ?_;refine Z0 ?_)
     refine s_delG (q:=keyS e.at_) rfl rfl H HA ?_
     intro c H HA
     rw [fM_del] at H
     (apply w_nil;apply wx_norm_block)
     have hF3 : FkF (F2++[⟨e.at_,e.va,ckf⟩]) c:=FkF.add Lk Lk
     have H : Owns c0 (.obj b15 (.cells (e.at_.cs e.va).toArray 35 (0,0))::.obj ry (itObj m2 ck2 ((d2++[e]).map FE.bn))::.obj m2 (gObj (C.map FE.ge) ck2)::.obj S.m (fM (F2++[⟨e.at_,e.va,ckf⟩]) (ckf+1))::.obj S.k (.cells [S.v,.map (some S.m)].toArray 52 (0,0))::.obj b4 (.cells [.slice none 0 0,.slice none 0 0].toArray 27 (0,0))::.obj mo (fM (fDel O2 e.at_) co)::L0) c:=by
      rw [List.map_append]
      exact H.perm Pm
     have hyl2:=hy2.len
     exact wx_loopG (((d2++[e],F2++[⟨e.at_,e.va,ckf⟩],ckf+1),fDel O2 e.at_)) H.drop Cu hF3 Ks (by dsimp only at hyl2 ⊢;rw [List.length_append,List.length_singleton] at hyl2 ⊢;omega) ⟨hy2,hO2o.del _,fun q hq=>hO2s q (fDel_sub hq),fun a=>by
      dsimp only
      rw [ats_del hO2o,hO2m,show a∈ats (d2++[e])↔a∈ats d2∨a=e.at_ by simp [ats],not_or,and_assoc]⟩
   ·intro q c hq hnq H HA
    obtain ⟨e,he,rfl⟩:=List.mem_map.1 hq
    (refine Z32 ?_;apply Y0;apply wc_seq;refine Z18 ?_;apply wc_skip;apply wx_next;apply wc_block;apply Y1)
    refine s_entryG (q:=e.ge) rfl rfl (by rw [List.map_map];exact hOO.bn) H (.tail _ (.tail _ (.tail _ (.tail _ (.head _))))) (.head _) hq ?_
    have hnb : e.bn∉dn.map FE.bn:=hnq
    have hdn2 : ((dn++[e]).map FE.bn).Nodup:=by
     rw [List.map_append,List.nodup_append]
     refine ⟨hdn,List.nodup_cons.2 ⟨List.not_mem_nil,List.nodup_nil⟩,?_⟩
     rintro x hx y hy rfl
     simp only [List.map_cons,List.map_nil,List.mem_singleton] at hy
     subst hy
     exact hnb hx
    have hdl2 : ∀q∈dn++[e],q∈O:=fun q hq=>by
     rcases List.mem_append.1 hq with hq|hq
     ·exact hdl q hq
     ·rw [List.mem_singleton.1 hq]
      exact he
    have hlen2:=hdlen O _ hdn2 hdl2
    rw [List.length_append,List.length_singleton] at hlen2
    (refine Z32 ?_;refine Z2 ?_;apply Y0;apply wc_region;refine Z0 ?_;(refine s_nilCheck rfl rfl ?_);refine Z3 ?_;refine Z41 ?_;refine Z0 ?_)
    have H : Owns c0 (.obj rx (itObj mo co (dn.map FE.bn++[e.bn]))::.obj S.m (gObj (F1.map FE.ge) S.ck)::.obj S.k (.cells [S.v,.map (some S.m)].toArray 52 (0,0))::.obj b4 (.cells [.slice none 0 0,.slice none 0 0].toArray 27 (0,0))::.obj mo (gObj (O.map FE.ge) co)::L0) c:=H
    have H:=H.swap
    refine s_delG (q:=keyS e.at_) rfl rfl H HA ?_
    intro c H HA
    rw [fM_del] at H
    (apply w_nil;apply wx_norm_block)
    have H : Owns c0 (.obj rx (itObj mo co ((dn++[e]).map FE.bn))::.obj S.m (fM (fDel F1 e.at_) S.ck)::.obj S.k (.cells [S.v,.map (some S.m)].toArray 52 (0,0))::.obj b4 (.cells [.slice none 0 0,.slice none 0 0].toArray 27 (0,0))::.obj mo (gObj (O.map FE.ge) co)::L0) c:=by
     rw [List.map_append]
     exact H.swap
    exact wx_loopG ((dn++[e],fDel F1 e.at_)) H Cu trivial Ks (by dsimp only;rw [List.length_append,List.length_singleton];omega) ⟨hdn2,hdl2,hF1o.del _,fun q hq=>hF1s q (fDel_sub hq),fun a=>by
     dsimp only
     rw [ats_del hF1o,hF1m,show a∈ats (dn++[e])↔a∈ats dn∨a=e.at_ by simp [ats],not_or,and_assoc]⟩
 ·rw [decide_eq_false fun h=>hmem ((mem_pos hS.rise hpos).2 h)]
  (refine Z0 ?_;refine Z32 ?_;refine Z32 ?_;refine Z2 ?_;refine Z2 ?_;apply Y0;apply wc_seq;apply Y1;refine Z0 ?_;refine Z33 ?_;apply Y0;refine Z18 ?_;apply Y1;refine Z54 ?_;refine Z74 fun c H HA=>?_;refine Z2 ?_;apply Y0;apply wc_ret;apply wx_ret_then)
  refine ret_fnX (R:=S.res) H.drop Ca (outsR2 Tryz.results10 (RV.agg rfl H Ow Rc) (RV.tmp Wh)) ?_
  exact ⟨S,_,[],171,rfl,rfl,⟨Lk,Lk⟩,Sl.nil _,.inl ⟨hmem,rfl,rfl,rfl⟩⟩
instance : BldZ Tryz.prog 52 [[.slice none 0 0],[.map none]]:=⟨Bld.of (pl:=[(0,1),(1,1)]) (by kernel_rfl) (by kernel_rfl)⟩
theorem lmOk_nil : LmOk []:=by
 have hno : ∀b,¬LM [] b:=fun b h=>by cases h with|mk x hx=>cases hx
 exact ⟨(fun x h=>by cases h),(by simp),(fun x h=>by cases h),(fun b h=>absurd h (hno b)),fun l _ h=>by cases l with
  | nil=>simp
  | cons a l=>exact absurd (h a (.head _)) (hno a)⟩
theorem upkeep_New (c:Cx) : CnTX Tryz.prog 6 [] [] c (fun v R c=>∃S:KpS,v=.pointer (some ⟨S.k,0,none⟩)∧R=S.res∧KpF S c∧KpOk S∧S.cs=[]∧S.F=[]):=by
 refine CnTX.of Tryz.func6 Tryz.ntmps6 rfl rfl fun c0 L0 A0 _ H HA=>?_
 have H : Owns c0 L0 c:=H
 (apply Y1;refine Z2 ?_;apply Y2)
 refine s_makeG rfl H HA ?_
 intro m c H HA
 (refine Z54 ?_)
 refine s_boxO (cs:=[.slice none 0 0,.map (some m)]) rfl rfl H HA ?_
 intro k c H HA
 (refine Z2 ?_;apply Y0;apply wc_ret)
 refine ret_fnX (R:=(⟨k,m,.slice none 0 0,[],[],0⟩:KpS).res) H Ca (outs1 Tryz.results6 Wh) ?_
 exact ⟨⟨k,m,.slice none 0 0,[],[],0⟩,rfl,rfl,⟨Sl.nil _,fun q h=>(by cases h)⟩,⟨List.Pairwise.nil,by simp,FkOk.nil 0,lmOk_nil,fun a=>⟨fun h=>by simp [ats] at h,fun h=>by cases h with|mk x hx=>cases hx⟩,by simp⟩,rfl,rfl⟩
theorem Kept_Facts (S:KpS) (c:Cx) (hS:KpOk S) (hF:KpF S c) (hg:GlobOk c) :
  CnT Tryz.prog 9 [.pointer (some ⟨S.k,0,none⟩)] S.res S.res c (fun v c=>∃out:List At0,Sl v out c∧out.length=S.F.length):=by
 refine CnT.of Tryz.func9 Tryz.ntmps9 rfl rfl fun c0 L0 A0 _ H HA=>?_
 have HA:=(HA.add hF.2).add hg
 have H : Owns c0 (.obj S.k (.cells [S.v,.map (some S.m)].toArray 52 (0,0))::.obj S.m (fM S.F S.ck)::L0) c:=H
 (apply Y1;refine Z2 ?_;apply Y2;refine Z0 ?_;(refine s_nilCheck rfl rfl ?_);refine Z3 ?_;refine Z41 ?_)
 have H : Owns c0 ([.obj S.m (fM S.F S.ck)]++(.obj S.k (.cells [S.v,.map (some S.m)].toArray 52 (0,0))::L0)) c:=H.swap
 refine s_callT (pre:=[.obj S.m (fM S.F S.ck)]) (post:=[.obj S.m (fM S.F S.ck)]) rfl rfl H HA (upkeep_told S.F S.ck S.m _ Lk hS.fk (by have:=hS.big;omega) Lk) ?_
 intro v7 c H HA
 obtain ⟨out,hso,hop,hor⟩:=HA.h.1
 have HA:=HA.cut.add hso
 have H : Owns c0 (.obj S.m (fM S.F S.ck)::.obj S.k (.cells [S.v,.map (some S.m)].toArray 52 (0,0))::L0) c:=H
 (refine Z2 ?_;apply Y0;apply wc_ret)
 exact ret_fnT (post:=S.res) H.swap Ca (outs1 Tryz.results9 Wh) ⟨out,Lk,by rw [hop.length_eq];simp [ats]⟩
structure HasPh (a:At0) (l4 l10 l11:Bool) (v12 v5:Value) (R:List Res) (c:Cx) : Prop where
 p4 : l4=true→Ag a v12 c
 p0 : l10=false→R=[]
 p10 : l10=true→l11=false→∃b5,v5=.pointer (some ⟨b5,0,none⟩)∧R=[.obj b5 (.cells (At0.cs ⟨Tn,ES,[]⟩ (.slice none 0 0)).toArray 35 (0,0))]
 a1 : l11=true→l10=true
instance (a : At0) (l4 l10 l11 : Bool) (v12 v5 : Value) (R : List Res) : Mono (HasPh a l4 l10 l11 v12 v5 R):=⟨fun h k=>⟨fun e=>Mono.mono h (k.p4 e),k.p0,k.p10,k.a1⟩⟩
theorem Kept_Has (S:KpS) (a:At0) (u:Value) (c:Cx) (hS:KpOk S) (hF:KpF S c) (ha:Ag a u c) (hk0:KeyOk a) (hp:Box 3 P10c c) :
  CnT Tryz.prog 11 [.pointer (some ⟨S.k,0,none⟩),u] S.res S.res c (fun v c=>v=.bool (decide (a∈ats S.F))):=by
 refine CnT.of Tryz.func11 Tryz.ntmps11 rfl rfl fun c0 L0 A0 _ H HA=>?_
 have HA:=((HA.add hF.2).add ha).add hp
 have H : Owns c0 (.obj S.k (.cells [S.v,.map (some S.m)].toArray 52 (0,0))::.obj S.m (fM S.F S.ck)::L0) c:=H
 (apply wc_seq;apply wc_region)
 (refine s_boxG rfl rfl Lk H HA ?_;intro p c H HA)
 (refine Z2 ?_;apply Y0;apply wc_seq)
 obtain ⟨a2,va2,hlook,hva2⟩ : ∃(a2:At0) (va2:Value),((gFind (S.F.map FE.ge) (keyS a)).map GE.val).getD (.agg (At0.cs ⟨Tn,ES,[]⟩ (.slice none 0 0)).toArray)=.agg (a2.cs va2).toArray∧va2.oneCell'=true:=by
  by_cases hin : a∈ats S.F
  ·obtain ⟨q,hq1,hq2,hq3⟩:=fFind_get hin
   rw [hq3]
   exact ⟨q.at_,q.va,rfl,(hF.2 q hq1).oneC⟩
  ·rw [fFind_none.2 hin]
   exact ⟨⟨Tn,ES,[]⟩,.slice none 0 0,rfl,rfl⟩
 have hpt : Pt a p c:=Lk
 have hHB : Hd (fun c=>HasPh a false false false undef undef [] c∧Pt a p c∧Box 3 P10c c∧A0 c) c:=⟨⟨⟨fun h=>(by cases h),fun _=>rfl,fun h=>(by cases h),fun h=>h⟩,Lk,Lk,Lk⟩⟩
 refine wc_any mixed (by kernel_rfl) (fun ls g c=>KS g [(0,.pointer (some ⟨S.k,0,none⟩)),(3,p)]∧(ls 0=true→g 8=.pointer (some ⟨S.k,0,none⟩))∧(ls 1=true→g 9=.pointer (some ⟨S.k,0,none⟩))∧(ls 2=true→g 10=.pointer (some ⟨S.k,0+1,none⟩))∧(ls 3=true→g 11=.map (some S.m))∧(ls 5=true→g 13=.string (keyS a))∧(ls 6=true→g 14=.tuple #[.agg (a2.cs va2).toArray,.bool (decide (a∈ats S.F))])∧(ls 7=true→g 7=.tuple #[.agg (a2.cs va2).toArray,.bool (decide (a∈ats S.F))])∧(ls 8=true→g 15=.agg (a2.cs va2).toArray)∧(ls 9=true→g 16=.bool (decide (a∈ats S.F)))∧(ls 12=true→g 6=.bool (decide (a∈ats S.F)))∧∃R,Owns c0 (R++(.obj S.k (.cells [S.v,.map (some S.m)].toArray 52 (0,0))::.obj S.m (fM S.F S.ck)::L0)) c∧Hd (fun c=>HasPh a (ls 4) (ls 10) (ls 11) (g 12) (g 5) R c∧Pt a p c∧Box 3 P10c c∧A0 c) c)
  ⟨Ks,(fun h=>by cases h),(fun h=>by cases h),(fun h=>by cases h),(fun h=>by cases h),(fun h=>by cases h),(fun h=>by cases h),(fun h=>by cases h),(fun h=>by cases h),(fun h=>by cases h),(fun h=>by cases h),[],H.of_ext (Ext0.draw c.w),hHB.to (Le.of_ext (Ext0.draw c.w))⟩ ⟨?_,?_,?_,?_,?_,?_,?_,?_,?_,?_,?_,?_,?_,trivial⟩ ?_
 ·intro ls g c hli haf hS0
  obtain ⟨hk,h0,h1,h2,h3,h5,h6,h7,h8,h9,h12,R,HO,HA⟩:=hS0
  refine s_move rfl (show opd g (.tmp 0)=_ from hk.1) ?_
  exact w_nil (wx_cut ⟨ks_upd rfl hk,(fun _=>rfl),h1,h2,h3,h5,h6,h7,h8,h9,h12,R,HO,HA⟩)
 ·intro ls g c hli haf hS0
  obtain ⟨hk,h0,h1,h2,h3,h5,h6,h7,h8,h9,h12,R,HO,HA⟩:=hS0
  refine s_nilCheck rfl (show opd g (.tmp 8)=_ from h0 (haf 0 (by decide))) ?_
  exact w_nil (wx_cut ⟨ks_upd rfl hk,h0,(fun _=>rfl),h2,h3,h5,h6,h7,h8,h9,h12,R,HO,HA⟩)
 ·intro ls g c hli haf hS0
  obtain ⟨hk,h0,h1,h2,h3,h5,h6,h7,h8,h9,h12,R,HO,HA⟩:=hS0
  refine s_fieldAddr rfl (show opd g (.tmp 9)=_ from h1 (haf 1 (by decide))) ?_
  exact w_nil (wx_cut ⟨ks_upd rfl hk,h0,h1,(fun _=>rfl),h3,h5,h6,h7,h8,h9,h12,R,HO,HA⟩)
 ·intro ls g c hli haf hS0
  obtain ⟨hk,h0,h1,h2,h3,h5,h6,h7,h8,h9,h12,R,HO,HA⟩:=hS0
  refine s_loadOP rfl (show opd g (.tmp 10)=_ from h2 (haf 2 (by decide))) HO (List.mem_append_right _ (.head _)) rfl ?_
  exact w_nil (wx_cut ⟨ks_upd rfl hk,h0,h1,h2,(fun _=>rfl),h5,h6,h7,h8,h9,h12,R,HO,HA⟩)
 ·intro ls g c hli haf hS0
  obtain ⟨hk,h0,h1,h2,h3,h5,h6,h7,h8,h9,h12,R,HO,HA⟩:=hS0
  refine s_ldG rfl (show opd g (.tmp 3)=_ from hk.2.1) (Lk:Pt a p c) rfl ?_
  intro v hag
  have hph:=HA.h.1
  have hN : HasPh a true (ls 10) (ls 11) v (g 5) R c:=⟨fun _=>hag,hph.p0,hph.p10,hph.a1⟩
  have HA:=HA.cut.add hN
  exact w_nil (wx_cut ⟨ks_upd rfl hk,h0,h1,h2,h3,h5,h6,h7,h8,h9,h12,R,HO,HA⟩)
 ·intro ls g c hli haf hS0
  obtain ⟨hk,h0,h1,h2,h3,h5,h6,h7,h8,h9,h12,R,HO,HA⟩:=hS0
  refine s_call (vs:=[g 12]) rfl rfl HO HA (upkeep_key a _ _ (HA.h.1.p4 (haf 4 (by decide))) hk0 Lk) ?_
  intro v13 c HO HA
  have hv:=HA.h.1
  subst hv
  have HA:=HA.cut
  exact w_nil (wx_cut ⟨ks_upd rfl hk,h0,h1,h2,h3,(fun _=>rfl),h6,h7,h8,h9,h12,R,HO,HA⟩)
 ·intro ls g c hli haf hS0
  obtain ⟨hk,h0,h1,h2,h3,h5,h6,h7,h8,h9,h12,R,HO,HA⟩:=hS0
  refine s_lookG rfl (show opd g (.tmp 11)=_ from h3 (haf 3 (by decide))) (show opd g (.tmp 13)=_ from h5 (haf 5 (by decide))) HO (List.mem_append_right _ (.tail _ (.head _))) ?_
  rw [hlook,fFind_some]
  exact w_nil (wx_cut ⟨ks_upd rfl hk,h0,h1,h2,h3,h5,(fun _=>rfl),h7,h8,h9,h12,R,HO,HA⟩)
 ·intro ls g c hli haf hS0
  obtain ⟨hk,h0,h1,h2,h3,h5,h6,h7,h8,h9,h12,R,HO,HA⟩:=hS0
  refine s_move rfl (show opd g (.tmp 14)=_ from h6 (haf 6 (by decide))) ?_
  exact w_nil (wx_cut ⟨ks_upd rfl hk,h0,h1,h2,h3,h5,h6,(fun _=>rfl),h8,h9,h12,R,HO,HA⟩)
 ·intro ls g c hli haf hS0
  obtain ⟨hk,h0,h1,h2,h3,h5,h6,h7,h8,h9,h12,R,HO,HA⟩:=hS0
  refine s_extract rfl (show opd g (.tmp 7)=_ from h7 (haf 7 (by decide))) rfl ?_
  exact w_nil (wx_cut ⟨ks_upd rfl hk,h0,h1,h2,h3,h5,h6,h7,(fun _=>rfl),h9,h12,R,HO,HA⟩)
 ·intro ls g c hli haf hS0
  obtain ⟨hk,h0,h1,h2,h3,h5,h6,h7,h8,h9,h12,R,HO,HA⟩:=hS0
  refine s_extract rfl (show opd g (.tmp 7)=_ from h7 (haf 7 (by decide))) rfl ?_
  exact w_nil (wx_cut ⟨ks_upd rfl hk,h0,h1,h2,h3,h5,h6,h7,h8,(fun _=>rfl),h12,R,HO,HA⟩)
 ·intro ls g c hli haf hS0
  obtain ⟨hk,h0,h1,h2,h3,h5,h6,h7,h8,h9,h12,R,HO,HA⟩:=hS0
  have hl10 : ls 10=false:=hli
  have hR:=HA.h.1.p0 hl10
  subst hR
  refine s_alloc rfl (by conv=>lhs;whnf) HO HA ?_
  intro b5 c HO HA
  have hph:=HA.h.1
  have hN : HasPh a (ls 4) true (ls 11) (g 12) (.pointer (some ⟨b5,0,none⟩)) [.obj b5 (.cells (At0.cs ⟨Tn,ES,[]⟩ (.slice none 0 0)).toArray 35 (0,0))] c:=⟨hph.p4,(fun h=>by cases h),fun _ _=>⟨b5,rfl,rfl⟩,fun _=>rfl⟩
  have HA:=HA.cut.add hN
  exact w_nil (wx_cut ⟨ks_upd rfl hk,h0,h1,h2,h3,h5,h6,h7,h8,h9,h12,[.obj b5 (.cells (At0.cs ⟨Tn,ES,[]⟩ (.slice none 0 0)).toArray 35 (0,0))],HO,HA⟩)
 ·intro ls g c hli haf hS0
  obtain ⟨hk,h0,h1,h2,h3,h5,h6,h7,h8,h9,h12,R,HO,HA⟩:=hS0
  have hl11 : ls 11=false:=hli
  obtain ⟨b5,hv5,rfl⟩:=HA.h.1.p10 (haf 10 (by decide)) hl11
  have HO : Owns c0 (.obj b5 (.cells (At0.cs ⟨Tn,ES,[]⟩ (.slice none 0 0)).toArray 35 (0,0))::.obj S.k (.cells [S.v,.map (some S.m)].toArray 52 (0,0))::.obj S.m (fM S.F S.ck)::L0) c:=HO
  refine s_storeA (vs:=a2.cs va2) (cs':=a2.cs va2) (show opd g (.tmp 5)=_ from hv5) (show opd g (.tmp 15)=_ from h8 (haf 8 (by decide))) HO HA rfl (ones_cons rfl (ones_cons rfl (ones_cons rfl (ones_cons rfl (ones_cons hva2 ones_nil))))) Rc ?_
  intro c HO HA
  have hph:=HA.h.1
  have hN : HasPh a (ls 4) (ls 10) true (g 12) (g 5) [.obj b5 (.cells (a2.cs va2).toArray 35 (0,0))] c:=⟨hph.p4,fun h=>absurd (haf 10 (by decide)) (by rw [h];decide),(fun _ h=>by cases h),fun _=>haf 10 (by decide)⟩
  have HA:=HA.cut.add hN
  exact w_nil (wx_cut ⟨hk,h0,h1,h2,h3,h5,h6,h7,h8,h9,h12,_,HO,HA⟩)
 ·intro ls g c hli haf hS0
  obtain ⟨hk,h0,h1,h2,h3,h5,h6,h7,h8,h9,h12,R,HO,HA⟩:=hS0
  refine s_assign rfl (show opd g (.tmp 16)=_ from h9 (haf 9 (by decide))) ?_
  exact w_nil (wx_cut ⟨ks_upd rfl hk,h0,h1,h2,h3,h5,h6,h7,h8,h9,(fun _=>rfl),R,HO,HA⟩)
 ·intro ls g c hls hS0
  obtain ⟨hk,h0,h1,h2,h3,h5,h6,h7,h8,h9,h12,R,HO,HA⟩:=hS0
  have hk2 : KS g [(6,.bool (decide (a∈ats S.F))),(0,.pointer (some ⟨S.k,0,none⟩)),(3,p)]:=⟨h12 (hls 12 (by decide)),hk⟩
  obtain ⟨g,rfl⟩:=hk2.ex
  have H : Owns c0 (.obj S.k (.cells [S.v,.map (some S.m)].toArray 52 (0,0))::.obj S.m (fM S.F S.ck)::L0) c:=owns_dropL _ HO
  (apply wx_next;apply Y1;refine Z0 ?_;refine Z2 ?_;apply Y0;apply wc_ret)
  exact ret_fnT (post:=S.res) H Ca (outs1 Tryz.results11 Wh) rfl
def vT (i:Nat) : Tm:=⟨3,i,ES⟩
def nT (n:Int) : Tm:=⟨1,n,ES⟩
def numA (s:ByteArray) (n:Int) : At0:=⟨Tn,s,[nT n]⟩
def stP : ByteArray:=⟨#[112]⟩
def stQ : ByteArray:=⟨#[113]⟩
def stD : ByteArray:=⟨#[100]⟩
def ruleC : Cl:=⟨⟨Tn,stQ,[vT 0]⟩,[⟨Tn,stP,[vT 0]⟩],[]⟩
def prodC (k:Nat) : Cl:=⟨⟨Tn,stP,(List.range k).map vT⟩,(List.range k).map fun i=>⟨Tn,stD,[vT i]⟩,[]⟩
theorem law_num (s:ByteArray) (n:Int) (c:Cx) : Cn Tryz.prog 8 [.string s,.int .i64 n] c (fun v c=>Ag (numA s n) v c):=by
 refine Cn.of Tryz.func8 Tryz.ntmps8 rfl rfl fun hm H HA=>?_
 (apply Y1;refine Z61 fun bx c H HA=>?_;apply Y2;refine Z0 ?_;refine Z0 ?_;refine Z54 ?_)
 (apply s_bs1D (u:=nT n);exact rfl;exact rfl;exact rfl;exact rfl;exact rfl;exact rfl;exact H;exact HA;exact inferInstance;intro vx c H HA)
 (refine Z54 ?_;refine Z74 fun c H HA=>?_;apply Y0;apply wc_ret)
 exact ret_fn H hm (outsR1 Tryz.results8 (RV.agg rfl H Ow Rc)) ⟨_,rfl,_,rfl,Lk⟩
theorem law_power (n k:Nat) (c:Cx) (hb:∀i,i≤k→n ^ i<4611686018427387904) (hk:k<1000) : Cn Tryz.prog 12 [.int .i64 n,.int .i64 k] c (fun v c=>v=.int .i64 ((n ^ k:Nat):Int)):=by
 refine Cn.of Tryz.func12 Tryz.ntmps12 rfl rfl fun hm H HA=>?_
 (apply Y1;refine Z2 ?_;apply Y2;refine Z2 ?_;apply Y0;apply wc_seq;apply Y1;refine Z2 ?_;apply Y0;apply wc_block)
 refine wc_loopN k (fun j=>[(0,.int .i64 n),(1,.int .i64 k),(5,.int .i64 ((n ^ j:Nat):Int)),(6,.int .i64 j)]) (fun _=>True) 0 H HA Ks (Nat.zero_le _) trivial ?_
 intro j g c hj _ H HA
 (repeat' (first|refine Z0 ?_|refine Z2 ?_|apply w_nil|apply wc_seq|apply wc_region|apply wx_next|refine Z18 ?_|refine Z19 ?_|apply wc_ret|apply wc_exit|apply wc_skip|apply wc_block|apply wx_exit_then|apply wx_exit_same|refine Z93 (fun hq=>?_) fun hq=>?_))
 ·have hb1:=hb (j+1) (by omega)
  refine s_mul rfl rfl rfl (r:=((n ^ (j+1):Nat):Int)) (by rw [←Int.natCast_mul,←Nat.pow_succ];exact wrapI (x:=((n ^ (j+1):Nat):Int)) (by omega) (by omega)) ?_
  (refine Z2 ?_;apply w_nil;apply wx_norm_block;apply wx_next;apply wc_region;refine Z0 ?_;refine Z46 ?_;refine Z2 ?_;apply w_nil)
  exact wx_loopN (j+1) H Cu Ks (by omega) trivial
 ·have hjk : j=k:=by omega
  subst hjk
  exact ret_fn H hm (outs1 Tryz.results12 Wh) rfl
theorem law_rule (c:Cx) : Cn Tryz.prog 14 [] c (fun v c=>Ag ruleC v c):=by
 refine Cn.of Tryz.func14 Tryz.ntmps14 rfl rfl fun hm H HA=>?_
 (apply Y1;refine Z61 fun bx c H HA=>?_;apply Y2;refine Z54 ?_)
 (apply s_bs1D (u:=vT 0);exact rfl;exact rfl;exact rfl;exact rfl;exact rfl;exact rfl;exact H;exact HA;exact inferInstance;intro vx c H HA)
 (obtain ⟨wA,rfl⟩:∃x,x=vx:=⟨_,rfl⟩)
 (refine Z2 ?_;apply Y2;refine Z54 ?_)
 (apply s_bs1D (u:=vT 0);exact rfl;exact rfl;exact rfl;exact rfl;exact rfl;exact rfl;exact H;exact HA;exact inferInstance;intro vx c H HA)
 (obtain ⟨wB,rfl⟩:∃x,x=vx:=⟨_,rfl⟩)
 (refine Z2 ?_;apply Y2;refine Z0 ?_;refine Z54 ?_;refine Z0 ?_;refine Z54 ?_)
 have hag : Ag (⟨Tn,stP,[vT 0]⟩:At0) (.agg (At0.cs ⟨Tn,stP,[vT 0]⟩ wB).toArray) c:=⟨_,rfl,wB,rfl,Lk⟩
 refine s_bs1G (u:=(⟨Tn,stP,[vT 0]⟩:At0)) rfl rfl hag rfl rfl rfl rfl H HA inferInstance ?_
 intro vz c H HA
 (refine Z54 ?_;refine Z74 fun c H HA=>?_;apply Y0;apply wc_ret)
 exact ret_fn H hm (outsR1 Tryz.results14 (RV.agg rfl H Ow Rc)) ⟨_,rfl,_,_,_,rfl,Lk,Lk,Sl.nil _⟩
theorem law_product (k:Nat) (c:Cx) (hk:k≤4) : Cn Tryz.prog 13 [.int .i64 k] c (fun v c=>Ag (prodC k) v c):=by
 refine Cn.of Tryz.func13 Tryz.ntmps13 rfl rfl fun hm H HA=>?_
 (apply Y1)
 (refine s_alloc rfl (by conv=>lhs;whnf) H HA ?_;intro b2 c H HA)
 (apply Y2;refine Z54 ?_;refine Z54 ?_)
 (refine s_alloc rfl (by conv=>lhs;whnf) H HA ?_;intro b3 c H HA)
 (refine Z74 fun c H HA=>?_;apply Y0;apply wc_seq;apply Y1;refine Z2 ?_;apply Y0;apply wc_block)
 have H : Owns _ [.obj b3 (.cells (Cl.cs ⟨⟨Tn,stP,[]⟩,[],[]⟩ (.slice none 0 0) (.slice none 0 0) (.slice none 0 0)).toArray 39 (0,0)),.obj b2 (.cells (Cl.cs ⟨⟨Tn,ES,[]⟩,[],[]⟩ (.slice none 0 0) (.slice none 0 0) (.slice none 0 0)).toArray 39 (0,0))] c:=H
 have H:=(H.nilR At0 35 5).nilR Tm 32 3
 refine wc_loopG (σ:=Nat×Value×List (List Value)×Value×List (List Value)) (fun y=>k-y.1) (fun y=>[(0,.int .i64 k),(2,.pointer (some ⟨b2,0,none⟩)),(3,.pointer (some ⟨b3,0,none⟩)),(4,.int .i64 y.1)]) (fun y=>y.1≤k)
  (fun y=>[.row y.2.1 32 3 ((List.range y.1).map vT).length y.2.2.1.flatten,.row y.2.2.2.1 35 5 ((List.range y.1).map fun i=>(⟨Tn,stD,[vT i]⟩:At0)).length y.2.2.2.2.flatten,.obj b3 (.cells (Cl.cs ⟨⟨Tn,stP,[]⟩,[],[]⟩ y.2.1 y.2.2.2.1 (.slice none 0 0)).toArray 39 (0,0)),.obj b2 (.cells (Cl.cs ⟨⟨Tn,ES,[]⟩,[],[]⟩ (.slice none 0 0) (.slice none 0 0) (.slice none 0 0)).toArray 39 (0,0))])
  (fun y c=>Vals y.2.2.1 ((List.range y.1).map vT) c∧Vals y.2.2.2.2 ((List.range y.1).map fun i=>(⟨Tn,stD,[vT i]⟩:At0)) c) (0,.slice none 0 0,[],.slice none 0 0,[]) H HA ⟨Vals.nil _,Vals.nil _⟩ Ks (Nat.zero_le _) ?_
 clear H HA
 rintro ⟨i,vA,cA,vB,cB⟩ g c hi H HA
 dsimp only at hi H HA ⊢
 have hVA : Vals cA ((List.range i).map vT) c:=HA.h.1.1
 have hVB : Vals cB ((List.range i).map fun i=>(⟨Tn,stD,[vT i]⟩:At0)) c:=HA.h.1.2
 have HA:=(HA.cut.add hVA).add hVB
 have hlA : ((List.range i).map vT).length=i:=by simp
 have hlB : ((List.range i).map fun i=>(⟨Tn,stD,[vT i]⟩:At0)).length=i:=by simp
 (repeat' (first|refine Z0 ?_|refine Z3 ?_|apply w_nil|apply wc_seq|apply wc_region|apply wx_next|refine Z18 ?_|refine Z19 ?_|apply wc_exit|apply wc_skip|apply wc_block|apply wx_exit_then|apply wx_exit_same|refine Z41 ?_|refine Z42 ?_|refine Z54 ?_|refine Z93 (fun hq=>?_) fun hq=>?_))
 ·(apply s_bs1D (u:=vT i);exact rfl;exact rfl;exact rfl;exact rfl;exact rfl;exact rfl;exact H;exact HA;exact inferInstance;intro vx c H HA)
  refine s_appR (α:=Tm) (acc:=(List.range i).map vT) (ys:=[vT i]) rfl rfl rfl H Lk Lk rfl rfl rfl (by rw [hlA];simp only [List.length_singleton];omega) HA inferInstance ?_
  intro vA2 c cA2 H HA
  (refine Z3 ?_;refine Z3 ?_;refine Z79 fun c H HA=>?_;apply Y0;apply wc_region;refine Z3 ?_;refine Z41 ?_;refine Z0 ?_;refine Z54 ?_)
  (apply s_bs1D (u:=vT i);exact rfl;exact rfl;exact rfl;exact rfl;exact rfl;exact rfl;exact H;exact HA;exact inferInstance;intro vx c H HA)
  (obtain ⟨wB,rfl⟩:∃x,x=vx:=⟨_,rfl⟩)
  (refine Z54 ?_)
  have hag : Ag (⟨Tn,stD,[vT i]⟩:At0) (.agg (At0.cs ⟨Tn,stD,[vT i]⟩ wB).toArray) c:=⟨_,rfl,wB,rfl,Lk⟩
  refine s_bs1G (u:=(⟨Tn,stD,[vT i]⟩:At0)) rfl rfl hag rfl rfl rfl rfl H HA inferInstance ?_
  intro vz c H HA
  have H : Owns _ [.obj b3 (.cells (Cl.cs ⟨⟨Tn,stP,[]⟩,[],[]⟩ vA2 vB (.slice none 0 0)).toArray 39 (0,0)),.row vA2 32 3 ((List.range i).map vT++[vT i]).length cA2.flatten,.row vB 35 5 ((List.range i).map fun i=>(⟨Tn,stD,[vT i]⟩:At0)).length cB.flatten,.obj b2 (.cells (Cl.cs ⟨⟨Tn,ES,[]⟩,[],[]⟩ (.slice none 0 0) (.slice none 0 0) (.slice none 0 0)).toArray 39 (0,0))] c:=H
  have H : Owns _ [.row vB 35 5 ((List.range i).map fun i=>(⟨Tn,stD,[vT i]⟩:At0)).length cB.flatten,.row vA2 32 3 ((List.range i).map vT++[vT i]).length cA2.flatten,.obj b3 (.cells (Cl.cs ⟨⟨Tn,stP,[]⟩,[],[]⟩ vA2 vB (.slice none 0 0)).toArray 39 (0,0)),.obj b2 (.cells (Cl.cs ⟨⟨Tn,ES,[]⟩,[],[]⟩ (.slice none 0 0) (.slice none 0 0) (.slice none 0 0)).toArray 39 (0,0))] c:=H.perm Pm
  refine s_appR (α:=At0) (acc:=(List.range i).map fun i=>(⟨Tn,stD,[vT i]⟩:At0)) (ys:=[(⟨Tn,stD,[vT i]⟩:At0)]) rfl rfl rfl H Lk Lk rfl rfl rfl (by rw [hlB];simp only [List.length_singleton];omega) HA inferInstance ?_
  intro vB2 c cB2 H HA
  (refine Z3 ?_;refine Z79 fun c H HA=>?_;apply w_nil;apply wx_norm_block;apply wx_next;apply wc_region;refine Z0 ?_;refine Z46 ?_;refine Z2 ?_;apply w_nil)
  have H : Owns _ [.obj b3 (.cells (Cl.cs ⟨⟨Tn,stP,[]⟩,[],[]⟩ vA2 vB2 (.slice none 0 0)).toArray 39 (0,0)),.row vB2 35 5 (((List.range i).map fun i=>(⟨Tn,stD,[vT i]⟩:At0))++[(⟨Tn,stD,[vT i]⟩:At0)]).length cB2.flatten,.row vA2 32 3 ((List.range i).map vT++[vT i]).length cA2.flatten,.obj b2 (.cells (Cl.cs ⟨⟨Tn,ES,[]⟩,[],[]⟩ (.slice none 0 0) (.slice none 0 0) (.slice none 0 0)).toArray 39 (0,0))] c:=H
  have H : Owns _ [.row vA2 32 3 ((List.range i).map vT++[vT i]).length cA2.flatten,.row vB2 35 5 (((List.range i).map fun i=>(⟨Tn,stD,[vT i]⟩:At0))++[(⟨Tn,stD,[vT i]⟩:At0)]).length cB2.flatten,.obj b3 (.cells (Cl.cs ⟨⟨Tn,stP,[]⟩,[],[]⟩ vA2 vB2 (.slice none 0 0)).toArray 39 (0,0)),.obj b2 (.cells (Cl.cs ⟨⟨Tn,ES,[]⟩,[],[]⟩ (.slice none 0 0) (.slice none 0 0) (.slice none 0 0)).toArray 39 (0,0))] c:=H.perm Pm
  have hrA : (List.range (i+1)).map vT=(List.range i).map vT++[vT i]:=by rw [List.range_succ,List.map_append];rfl
  have hrB : ((List.range (i+1)).map fun i=>(⟨Tn,stD,[vT i]⟩:At0))=((List.range i).map fun i=>(⟨Tn,stD,[vT i]⟩:At0))++[⟨Tn,stD,[vT i]⟩]:=by rw [List.range_succ,List.map_append];rfl
  rw [←hrA,←hrB] at H
  have h1 : Vals cA2 ((List.range (i+1)).map vT) c:=by rw [hrA];exact Lk
  have h2 : Vals cB2 ((List.range (i+1)).map fun i=>(⟨Tn,stD,[vT i]⟩:At0)) c:=by rw [hrB];exact Lk
  exact wx_loopG ((i+1,vA2,cA2,vB2,cB2)) H Cu ⟨h1,h2⟩ Ks (by dsimp only;omega) (by dsimp only;omega)
 ·have hik : i=k:=by omega
  subst hik
  refine w_freezeRow H HA hVA rfl rfl (by rw [hlA];simp only [LIM];omega) ?_
  intro c H HA
  refine w_freezeRow H HA Lk rfl rfl (by rw [hlB];simp only [LIM];omega) ?_
  intro c H HA
  have hsA : Sl vA ((List.range i).map vT) c:=Lk
  have hsB : Sl vB ((List.range i).map fun i=>(⟨Tn,stD,[vT i]⟩:At0)) c:=Lk
  have H:=H.swap
  refine s_storeA (vs:=Cl.cs ⟨⟨Tn,stP,[]⟩,[],[]⟩ vA vB (.slice none 0 0)) (cs':=Cl.cs ⟨⟨Tn,stP,[]⟩,[],[]⟩ vA vB (.slice none 0 0)) rfl rfl H HA rfl (ones_cons rfl (ones_cons rfl (ones_cons rfl (ones_cons rfl (ones_cons hsA.oneC (ones_cons hsB.oneC (ones_cons rfl ones_nil))))))) Rc ?_
  intro c H HA
  (apply Y0;apply wc_ret)
  exact ret_fn H hm (outsR1 Tryz.results13 (RV.agg rfl H Ow Rc)) ⟨_,rfl,_,_,_,rfl,Lk,Lk,Sl.nil _⟩
def fctC (a:At0) : Cl:=⟨a,[],[]⟩
structure NumF (a:At0) : Prop where
 ex : ∃(s:ByteArray) (n:Int),a=numA s n∧(s=stP∨s=stD)∧0≤n∧n≤100000
theorem NumF.P {n:Int} (h0:0≤n) (h1:n≤100000) : NumF (numA stP n):=⟨_,n,rfl,.inl rfl,h0,h1⟩
theorem NumF.D {n:Int} (h0:0≤n) (h1:n≤100000) : NumF (numA stD n):=⟨_,n,rfl,.inr rfl,h0,h1⟩
theorem nameP : nameB stP=true:=by decide
theorem nameD : nameB stD=true:=by decide
theorem nameQ : nameB stQ=true:=by decide
theorem check_args {s:ByteArray} {w:List Tm} (hs:nameB s=true) (hw:w.length≤8) (hc:∀t∈w,t.isConst=true∨t.isVar=true) : (⟨Tn,s,w⟩:At0).check=0:=by
 unfold At0.check
 rw [if_neg (by rw [hs];decide),if_neg (by show ¬8<w.length;omega),if_neg (by simp),if_neg]
 rw [List.any_eq_true]
 rintro ⟨t,ht,h⟩
 rcases hc t ht with h1|h1<;>simp [h1] at h
theorem fct_args {s:ByteArray} {w:List Tm} (hs:nameB s=true) (hz:s.size≤32) (hw:w.length≤8) (hc:∀t∈w,∃n:Int,t=nT n∧0≤n∧n≤100000) : Fct ⟨Tn,s,w⟩:=by
 refine ⟨⟨check_args hs hw fun t ht=>?_,rfl,?_,by show s.size<_;omega,hw⟩,fun t ht=>?_⟩
 ·obtain ⟨n,rfl,_⟩:=hc t ht
  exact .inl rfl
 ·rw [List.any_eq_false]
  intro t ht
  obtain ⟨n,rfl,_⟩:=hc t ht
  exact (by decide:¬(false:Bool)=true)
 ·rcases List.mem_cons.1 ht with rfl|ht
  ·exact ⟨⟨by show (-9223372036854775808:Int)≤0;decide,by show (0:Int)≤9223372036854775807;decide⟩,⟨by show (-9223372036854775808:Int)≤0;decide,by show (0:Int)≤9223372036854775807;decide⟩⟩
  ·obtain ⟨n,rfl,h0,h1⟩:=hc t ht
   exact ⟨⟨by show (-9223372036854775808:Int)≤1;decide,by show (1:Int)≤9223372036854775807;decide⟩,⟨by show -9223372036854775808≤n;omega,by show n≤9223372036854775807;omega⟩⟩
theorem NumF.fct {a:At0} (h:NumF a) : Fct a:=by
 obtain ⟨s,n,rfl,hs,h0,h1⟩:=h.ex
 refine fct_args ?_ ?_ (by simp) fun t ht=>⟨n,List.mem_singleton.1 ht,h0,h1⟩
 ·rcases hs with rfl|rfl
  ·exact nameP
  ·exact nameD
 ·rcases hs with rfl|rfl<;>decide
theorem NumF.hd {a:At0} (h:NumF a) : (fctC a).hd []=a:=by
 obtain ⟨s,n,rfl,_⟩:=h.ex
 rfl
theorem NumF.clOk {a:At0} (h:NumF a) : ClOk (fctC a):=by
 have hf:=h.fct
 obtain ⟨s,n,rfl,hs,h0,h1⟩:=h.ex
 refine ⟨rfl,Cl.check_ok.2 ⟨by simp [fctC],by simp [fctC],fun a ha=>?_,(fun t ht=>by simp [fctC] at ht),(show (0:Int)≠3 by decide),fun t ht hv=>?_,fun j t ht=>?_⟩,⟨⟨hf.sm,(fun a ha=>by simp [fctC] at ha),fun t ht=>by simp [fctC] at ht⟩,?_⟩,rfl,rfl,by simp [fctC]⟩
 ·rw [List.mem_singleton.1 ha]
  exact hf.fact.1
 ·simp [fctC,numA,At0.terms,Cl.testTerms] at ht
  rcases ht with rfl|rfl
  ·exact absurd hv (by decide)
  ·exact absurd hv (by simp [Tm.isVar,nT])
 ·have e : varsOf (fctC (numA s n)).terms=[]:=rfl
  rw [e] at ht
  cases ht
 ·show (fctC (numA s n)).terms.length<_
  simp [fctC,numA,Cl.terms,At0.terms,Cl.bodyTerms,Cl.testTerms]
theorem NumF.normal {a:At0} (h:NumF a) : (fctC a).normal=fctC a:=by
 obtain ⟨s,n,rfl,_⟩:=h.ex
 rfl
theorem fctC_inj {a b:At0} (h:fctC a=fctC b) : a=b:=congrArg Cl.head h
theorem numA_inj {s:ByteArray} {n n':Int} (h:numA s n=numA s n') : n=n':=by
 have:=congrArg At0.args h
 simp only [numA,List.cons.injEq,and_true] at this
 exact congrArg Tm.n this
theorem var_sm {s:ByteArray} {w:List Nat} (hs:s.size≤32) : (⟨Tn,s,w.map vT⟩:At0).sm:=by
 refine ⟨by show s.size<_;omega,(show (0:Nat)<4611686018427387904 by decide),fun t ht=>?_⟩
 obtain ⟨i,_,rfl⟩:=List.mem_map.1 ht
 exact (show (0:Nat)<4611686018427387904 by decide)
theorem pv_sm {s t:ByteArray} {h:List Nat} {b:List Nat} (hs:s.size≤32) (ht:t.size≤32) : (⟨⟨Tn,s,h.map vT⟩,b.map fun i=>⟨Tn,t,[vT i]⟩,[]⟩:Cl).sm:=by
 refine ⟨var_sm hs,fun a ha=>?_,fun t ht=>(by cases ht)⟩
 obtain ⟨i,_,rfl⟩:=List.mem_map.1 ha
 exact var_sm (w:=[i]) ht
theorem rule_ok : ClOk ruleC:=⟨by decide,by decide,⟨pv_sm (h:=[0]) (b:=[0]) (by decide) (by decide),by decide⟩,by decide,rfl,by decide⟩
theorem rule_normal : ruleC.normal=ruleC:=by decide
theorem prod_ok {k:Nat} (h0:1≤k) (h1:k≤4) : ClOk (prodC k)∧(prodC k).normal=prodC k:=by
 rcases (by omega:k=1∨k=2∨k=3∨k=4) with rfl|rfl|rfl|rfl
 all_goals exact ⟨⟨by decide,by decide,⟨pv_sm (by decide) (by decide),by decide⟩,by decide,rfl,by decide⟩,by decide⟩
def GS (A:List At0) (r:Cl) (b:Bool) (cs:List Cl) : Prop:=∀x,x∈cs↔(∃a∈A,x=fctC a)∨(b=true∧x=r)
theorem GS.lm {A:List At0} {r:Cl} {b:Bool} {cs:List Cl} (h:GS A r b cs) (hA:∀a∈A,NumF a) (hn:r.head.name≠r.dn) (a:At0) : LM cs a↔a∈A∨(b=true∧∃w:List Tm,w.length=r.body.length∧(∀t∈w,fa r.dn t∈A)∧a=r.hd w):=by
 constructor
 ·refine LM.least (F:=fun a=>a∈A∨(b=true∧∃w:List Tm,w.length=r.body.length∧(∀t∈w,fa r.dn t∈A)∧a=r.hd w)) fun b' hb=>?_
  obtain ⟨x,hx,w,hl,hw,rfl⟩:=hb
  rcases (h x).1 hx with ⟨a,ha,rfl⟩|⟨hb,rfl⟩
  ·have hw0 : w=[]:=List.eq_nil_of_length_eq_zero hl
   subst hw0
   exact .inl (by rw [(hA a ha).hd];exact ha)
  ·refine .inr ⟨hb,w,hl,fun t ht=>?_,rfl⟩
   rcases hw t ht with h1|⟨_,w',_,_,h2⟩
   ·exact h1
   ·exact absurd (congrArg At0.name h2).symm hn
 ·rintro (ha|⟨hb,w,hl,hw,rfl⟩)
  ·have:=LM.mk (cs:=cs) (fctC a) ((h _).2 (.inl ⟨a,ha,rfl⟩)) [] rfl (fun t ht=>by cases ht)
   rwa [(hA a ha).hd] at this
  ·refine .mk r ((h _).2 (.inr ⟨hb,rfl⟩)) w hl fun t ht=>?_
   have:=LM.mk (cs:=cs) (fctC (fa r.dn t)) ((h _).2 (.inl ⟨_,hw t ht,rfl⟩)) [] rfl (fun t ht=>by cases ht)
   rwa [(hA _ (hw t ht)).hd] at this
theorem fa_inj {s:ByteArray} {t u:Tm} (h:fa s t=fa s u) : t=u:=by
 have:=congrArg At0.args h
 simpa [fa] using this
theorem GS.lmOk {A T:List At0} {r:Cl} {b:Bool} {cs:List Cl} (h:GS A r b cs) (hA:∀a∈A,NumF a) (hr:b=true→ClOk r) (hn:r.head.name≠r.dn) (hT:∀w:List Tm,w.length=r.body.length→(∀t∈w,fa r.dn t∈A)→r.hd w∈T∧Fct (r.hd w)) (hbig:A.length+T.length≤100000) (hcap:b=true→A.length ^ r.body.length<1048576) (hl:cs.length≤1001) : LmOk cs:=by
 have hlm:=h.lm hA hn
 refine ⟨fun x hx=>?_,hl,fun x hx h0=>?_,fun a ha=>?_,fun l hnd hs=>?_⟩
 ·rcases (h x).1 hx with ⟨a,ha,rfl⟩|⟨hb,rfl⟩
  ·exact (hA a ha).clOk
  ·exact hr hb
 ·rcases (h x).1 hx with ⟨a,ha,rfl⟩|⟨hb,rfl⟩
  ·exact absurd h0 (Nat.lt_irrefl 0)
  ·refine ⟨A.length,fun l hnd hs=>hnd.length_le_of_subset fun a ha=>?_,hcap hb⟩
   obtain ⟨h1,h2⟩:=hs a ha
   rcases (hlm a).1 h1 with h3|⟨_,w,_,_,rfl⟩
   ·exact h3
   ·exact absurd h2 hn
 ·rcases (hlm a).1 ha with h1|⟨_,w,hw,hw2,rfl⟩
  ·exact (hA a h1).fct
  ·exact (hT w hw hw2).2
 ·refine Nat.le_trans (hnd.length_le_of_subset (l₂:=A++T) fun a ha=>?_) (by rw [List.length_append];exact hbig)
  rcases (hlm a).1 (hs a ha) with h1|⟨_,w,hw,hw2,rfl⟩
  ·exact List.mem_append_left _ h1
  ·exact List.mem_append_right _ (hT w hw hw2).1
def tupL (l:List Tm) : Nat→List (List Tm)
 | 0=>[[]]
 | k+1=>(tupL l k).flatMap fun w=>l.map fun t=>t::w
theorem tupL_len (l:List Tm) : ∀k,(tupL l k).length=l.length ^ k
 | 0=>rfl
 | k+1=>by
  rw [tupL,List.length_flatMap,List.map_congr_left (g:=fun _=>l.length) (fun w _=>by simp),List.map_const',List.sum_replicate_nat,tupL_len l k,Nat.pow_succ]
theorem tupL_mem {l:List Tm} : ∀{k:Nat} {w:List Tm},w∈tupL l k↔w.length=k∧∀t∈w,t∈l
 | 0,w=>by
  simp only [tupL,List.mem_singleton]
  exact ⟨fun h=>by subst h;exact ⟨rfl,fun t h=>by cases h⟩,fun h=>List.eq_nil_of_length_eq_zero h.1⟩
 | k+1,w=>by
  simp only [tupL,List.mem_flatMap,List.mem_map]
  constructor
  ·rintro ⟨w',hw',t,ht,rfl⟩
   obtain ⟨h1,h2⟩:=tupL_mem.1 hw'
   exact ⟨by simp [h1],fun u hu=>(List.mem_cons.1 hu).elim (fun e=>e▸ht) (h2 u)⟩
  ·rintro ⟨h1,h2⟩
   cases w with
   | nil=>cases h1
   | cons t w=>exact ⟨w,tupL_mem.2 ⟨by simpa using h1,fun u hu=>h2 u (.tail _ hu)⟩,t,h2 t (.head _),rfl⟩
theorem tupL_nodup {l:List Tm} (h:l.Nodup) : ∀k,(tupL l k).Nodup
 | 0=>by simp [tupL]
 | k+1=>by
  rw [tupL]
  have hk:=tupL_nodup h k
  generalize tupL l k=ws at hk
  induction ws with
  | nil=>exact List.nodup_nil
  | cons w ws ih =>
   have hp:=List.nodup_cons.1 hk
   rw [List.flatMap_cons,List.nodup_append]
   refine ⟨?_,ih hp.2,?_⟩
   ·exact List.Pairwise.map _ (fun a b hab e=>hab (List.cons.inj e).1) h
   ·intro a ha b hb e
    subst e
    obtain ⟨t,_,rfl⟩:=List.mem_map.1 ha
    obtain ⟨w',hw',ht'⟩:=List.mem_flatMap.1 hb
    obtain ⟨t',_,e⟩:=List.mem_map.1 ht'
    have:=(List.cons.inj e).2
    subst this
    exact hp.1 hw'
theorem prod_hd {k:Nat} {w:List Tm} (h:w.length=k) : (prodC k).hd w=⟨Tn,stP,w⟩:=by
 have e : ((List.range k).map vT).map (instT w)=w:=by
  apply List.ext_getElem
  ·simp [h]
  ·intro i h1 h2
   simp only [List.getElem_map,List.getElem_range]
   have hv : (vT i).isVar=true:=by simp [vT,Tm.isVar]
   unfold instT
   rw [if_pos (by rw [hv];simp [vT];exact h2)]
   simp [vT,List.getElem?_eq_getElem h2]
 show (⟨instT w Tn,stP,((List.range k).map vT).map (instT w)⟩:At0)=_
 rw [e]
 rfl
theorem rule_hd {w:List Tm} (h:w.length=1) : ∃t,w=[t]∧ruleC.hd w=⟨Tn,stQ,[t]⟩:=by
 cases w with
 | nil=>cases h
 | cons t w =>
  have hw : w=[]:=List.eq_nil_of_length_eq_zero (by simpa using h)
  subst hw
  exact ⟨t,rfl,rfl⟩
theorem kp_len {S:KpS} (hS:KpOk S) {l:List At0} (hn:l.Nodup) (hl:∀a,LM S.cs a↔a∈l) : S.F.length=l.length:=by
 have h1:=hS.fk.nd.length_le_of_subset (l₂:=l) fun a ha=>(hl a).1 ((hS.all a).1 ha)
 have h2:=hn.length_le_of_subset (l₂:=ats S.F) fun a ha=>(hS.all a).2 ((hl a).2 ha)
 simp only [ats,List.length_map] at h1 h2
 omega
theorem lm_cons {cs cs':List Cl} {x:Cl} (h:∀y,y∈cs'↔y=x∨y∈cs) (a:At0) : LM cs' a↔LM (x::cs) a :=
 ⟨LM.mono fun y hy=>List.mem_cons.2 ((h y).1 hy),LM.mono fun y hy=>(h y).2 (List.mem_cons.1 hy)⟩
theorem AdP.ok {S:KpS} {x:Cl} {v:Value} {R:List Res} {c:Cx} (h:AdP S x v R c) (hS:KpOk S) (hx:x∉S.cs) (hlt:S.cs.length<1000) {l':List At0} (hn:l'.Nodup) (hl:∀a,LM (x::S.cs) a↔a∈l') (h5:l'.length≤5000) :
  ∃S' vl l,v=.tuple #[.agg #[vl,.slice none 0 0],.int .i64 0]∧R=S'.res∧KpF S' c∧Sl vl l c∧S'.k=S.k∧KpOk S'∧S'.cs.length=S.cs.length+1∧(∀y,y∈S'.cs↔y=x∨y∈S.cs)∧S'.F.length=l'.length∧S.F.length+l.length=l'.length∧(∀a,a∈l↔a∈l'∧¬LM S.cs a)∧l.Pairwise fun a b=>cmpAt a b≤0:=by
 obtain ⟨S',vl,l,e,rfl,rfl,hF,hs,hh⟩:=h
 rcases hh with ⟨h1,_⟩|⟨_,h2,_⟩|⟨_,_,_,_,_,q,hq1,hq2,hq3⟩|⟨_,_,rfl,hk,hm,hS',hcl,hcm,hb,hln,hmem,hso⟩
 ·exact absurd h1 hx
 ·omega
 ·have:=hq1.length_le_of_subset (l₂:=l') fun a ha=>(hl a).1 (hq3 a ha)
  omega
 ·have hl2 : ∀a,LM S'.cs a↔a∈l':=fun a=>(lm_cons hcm a).trans (hl a)
  have hlen:=kp_len hS' hn hl2
  exact ⟨S',vl,l,rfl,rfl,hF,hs,hk,hS',hcl,hcm,hlen,by omega,fun a=>by rw [hmem,hS'.all,hl2,hS.all],hso⟩
theorem AdP.full {S:KpS} {x:Cl} {v:Value} {R:List Res} {c:Cx} (h:AdP S x v R c) (hS:KpOk S) (hx:x∉S.cs) (hlt:S.cs.length<1000) {l':List At0} (hn:l'.Nodup) (hl:∀a,LM (x::S.cs) a↔a∈l') (h5:5000<l'.length) :
  ∃vl,v=.tuple #[.agg #[vl,.slice none 0 0],.int .i64 102]∧R=S.res∧KpF S c∧Sl vl ([]:List At0) c:=by
 obtain ⟨S',vl,l,e,rfl,rfl,hF,hs,hh⟩:=h
 rcases hh with ⟨h1,_⟩|⟨_,h2,_⟩|⟨_,_,rfl,rfl,rfl,_⟩|⟨_,_,rfl,hk,hm,hS',hcl,hcm,hb,hln,hmem,hso⟩
 ·exact absurd h1 hx
 ·omega
 ·exact ⟨vl,rfl,rfl,hF,hs⟩
 ·have:=kp_len hS' hn fun a=>(lm_cons hcm a).trans (hl a)
  omega
theorem RmP.ok {S:KpS} {x:Cl} {v:Value} {R:List Res} {c:Cx} (h:RmP S x v R c) (hS:KpOk S) (hx:x∈S.cs) :
  ∃S' vl l,v=.tuple #[.agg #[.slice none 0 0,vl],.int .i64 0]∧R=S'.res∧KpF S' c∧Sl vl l c∧S'.k=S.k∧KpOk S'∧S'.cs.length+1=S.cs.length∧(∀y,y∈S'.cs↔y∈S.cs∧y≠x)∧l.Nodup∧∀a,a∈l↔LM S.cs a∧¬LM S'.cs a:=by
 obtain ⟨S',vl,l,e,rfl,rfl,hF,hs,hh⟩:=h
 rcases hh with ⟨h1,_⟩|⟨_,rfl,hk,_,hS',hcl,hcm,hn,hm⟩
 ·exact absurd hx h1
 ·exact ⟨S',vl,l,rfl,rfl,hF,hs,hk,hS',hcl,hcm,hn,fun a=>by rw [hm,hS'.all,hS.all]⟩
theorem same_q5 (u1 u2:Value) (c:Cx) (h1:Ag (numA stQ 5) u1 c) (h2:Ag (numA stQ 5) u2 c) : Cn Tryz.prog 15 [u1,u2] c (fun v _=>v=.bool true) :=
 Cn.imp (ref03_SameAtom _ _ _ _ _ h1 h2) fun _ _ _ h=>by rw [h];simp
instance : PtrU Tryz.prog 23:=.of (by kernel_rfl)
theorem rule_T {A:List At0} (hA:∀a∈A,a=numA stP 5) {w:List Tm} (hw:w.length=ruleC.body.length) (h:∀t∈w,fa ruleC.dn t∈A) : ruleC.hd w=numA stQ 5:=by
 obtain ⟨t,rfl,e⟩:=rule_hd hw
 have h1:=hA _ (h t (.head _))
 have h2 : t=nT 5:=fa_inj (s:=stP) h1
 rw [e,h2]
 rfl
theorem q5_fct : Fct (numA stQ 5):=fct_args nameQ (by decide) (by decide) fun t ht=>⟨5,List.mem_singleton.1 ht,by decide,by decide⟩
theorem rule_lmOk {A:List At0} {b:Bool} {cs:List Cl} (h:GS A ruleC b cs) (hA:∀a∈A,a=numA stP 5) (hl:A.length≤1) (hc:cs.length≤1001) : LmOk cs :=
 h.lmOk (T:=[numA stQ 5]) (fun a ha=>by rw [hA a ha];exact NumF.P (by decide) (by decide)) (fun _=>rule_ok) (by decide) (fun w hw h=>by rw [rule_T hA hw h];exact ⟨.head _,q5_fct⟩) (by simp only [List.length_singleton];omega) (fun _=>by show A.length ^ 1<_;rw [Nat.pow_one];omega) hc
theorem rule_lm {A:List At0} {b:Bool} {cs:List Cl} (h:GS A ruleC b cs) (hA:∀a∈A,a=numA stP 5) (a:At0) : LM cs a↔a∈A∨(b=true∧A≠[]∧a=numA stQ 5):=by
 rw [h.lm (fun a ha=>by rw [hA a ha];exact NumF.P (by decide) (by decide)) (by decide)]
 refine or_congr Iff.rfl (and_congr Iff.rfl ⟨?_,?_⟩)
 ·rintro ⟨w,hw,hh,rfl⟩
  refine ⟨fun e=>?_,rule_T hA hw hh⟩
  obtain ⟨t,rfl,_⟩:=rule_hd hw
  have:=hh t (.head _)
  rw [e] at this
  cases this
 ·rintro ⟨h1,rfl⟩
  refine ⟨[nT 5],rfl,fun t ht=>?_,rfl⟩
  rw [List.mem_singleton.1 ht]
  cases A with
  | nil=>exact absurd rfl h1
  | cons x A =>
   have:=hA x (.head _)
   subst this
   exact .head _
theorem two_sorted {l:List At0} (hl:l.length=2) (hm:∀a,a∈l↔a=numA stP 5∨a=numA stQ 5) (hs:l.Pairwise fun a b=>cmpAt a b≤0) : l=[numA stP 5,numA stQ 5]:=by
 obtain ⟨x,y,rfl⟩ : ∃x y,l=[x,y]:=by
  match l,hl with
  | [x,y],_=>exact ⟨x,y,rfl⟩
 have hc : ¬cmpAt (numA stQ 5) (numA stP 5)≤0:=by decide
 have hne : numA stP 5≠numA stQ 5:=by decide
 have hp:=(hm (numA stP 5)).2 (.inl rfl)
 have hq:=(hm (numA stQ 5)).2 (.inr rfl)
 have hs1 : cmpAt x y≤0:=by simpa using hs
 simp only [List.mem_cons,List.not_mem_nil,or_false] at hp hq
 rcases hp with rfl|rfl
 ·rcases hq with h|h
  ·exact absurd h.symm hne
  ·rw [h]
 ·rcases hq with rfl|h
  ·exact absurd hs1 hc
  ·exact absurd h.symm hne
theorem one_list {l:List At0} (hn:l.Nodup) {x:At0} (hm:∀a,a∈l↔a=x) : l=[x]:=by
 have h1:=hn.length_le_of_subset (l₂:=[x]) fun a ha=>by rw [(hm a).1 ha];exact .head _
 match l with
 | []=>exact absurd ((hm x).2 rfl) (by simp)
 | [y]=>rw [(hm y).1 (.head _)]
 | y::z::l=>simp at h1
theorem law_first (c:Cx) (hg:GlobOk c) (hp:Box 3 P10c c) : Cn Tryz.prog 5 [] c (fun v c=>v=.bool true):=by
 refine Cn.of Tryz.func5 Tryz.ntmps5 rfl rfl fun hm H HA=>?_
 have HA:=(HA.add hg).add hp
 (apply Y1;refine Z2 ?_;apply Y2)
 refine s_callX (pre:=[]) rfl rfl H HA (upkeep_New _) ?_
 intro v8 R c H HA
 obtain ⟨S0,rfl,rfl,hF0,hS0,hc0,hf0⟩:=HA.h.1
 have HA:=HA.cut.add hF0
 (refine Z2 ?_;apply Y0;apply wc_seq;apply Y1;refine Z0 ?_;(refine s_nilP rfl rfl ?_);apply Y0;refine Z19 ?_;apply wc_skip;apply wx_next;apply Y1;refine Z0 ?_)
 (refine s_call rfl rfl H HA (law_rule _) ?_;intro v13 c H HA)
 have H : Owns _ (S0.res++[]) c:=H
 (skip)
 have hG1 : GS [] ruleC true (ruleC::S0.cs):=fun x=>by rw [hc0];simp
 refine s_callX rfl rfl H HA (Kept_Add S0 ruleC _ _ hS0 Lk Lk rule_ok rule_normal (fun _ _=>rule_lmOk hG1 (fun a h=>by cases h) (by simp) (by rw [hc0];simp)) Lk Lk) ?_
 intro v14 R c H HA
 obtain ⟨S1,vl1,l1,rfl,rfl,hF1,hs1,hk1,hS1,hn1,hc1,hf1,hl1,_,_⟩:=AdP.ok HA.h.1 hS0 (by rw [hc0];simp) (by rw [hc0];simp) (l':=[]) List.nodup_nil (fun a=>by rw [rule_lm hG1 (fun a h=>by cases h)];simp) (by simp)
 have hl10 : l1=[]:=List.eq_nil_of_length_eq_zero (by rw [List.length_nil] at hl1;omega)
 subst hl10
 have HA:=(HA.cut.add hF1).add hs1
 (refine Z0 ?_;refine Z32 ?_;refine Z32 ?_)
 (refine s_alloc rfl (by conv=>lhs;whnf) H HA ?_;intro b2 c H HA)
 (refine Z74 fun c H HA=>?_;refine Z2 ?_;apply Y2;refine Z0 ?_)
 (refine w_freeze H HA ?_;intro c H HA)
 (skip)
 (refine s_call rfl rfl H HA (law_num stP 5 _) ?_;intro v19 c H HA)
 obtain ⟨_,rfl,va,rfl,hva⟩:=HA.h.1
 have HA:=HA.cut.add hva
 (refine Z54 ?_)
 have hag : Ag (fctC (numA stP 5)) (.agg (Cl.cs (fctC (numA stP 5)) va (.slice none 0 0) (.slice none 0 0)).toArray) c:=⟨_,rfl,va,_,_,rfl,hva,Sl.nil _,Sl.nil _⟩
 have HA:=HA.add hag
 have hP5 : NumF (numA stP 5):=NumF.P (by decide) (by decide)
 have hc1' : ∀y,y∈S1.cs↔y=ruleC:=fun y=>by rw [hc1,hc0];simp
 have hn1' : S1.cs.length=1:=by rw [hn1,hc0];rfl
 have hne1 : fctC (numA stP 5)∉S1.cs:=fun h=>by
  have:=congrArg Cl.body ((hc1' _).1 h)
  exact absurd this (by decide)
 have hno1 : ∀a,¬LM S1.cs a:=fun a h=>by
  have h2:=(hS1.all a).2 h
  have e : S1.F=[]:=List.eq_nil_of_length_eq_zero (by rw [hf1];rfl)
  rw [e] at h2
  simp [ats] at h2
 have hG2 : GS [numA stP 5] ruleC true (fctC (numA stP 5)::S1.cs):=fun x=>by rw [List.mem_cons,hc1'];simp
 have hA5 : ∀a∈[numA stP 5],a=numA stP 5:=fun a h=>List.mem_singleton.1 h
 have hL2 : ∀a,LM (fctC (numA stP 5)::S1.cs) a↔a∈[numA stP 5,numA stQ 5]:=fun a=>by rw [rule_lm hG2 hA5];simp
 rw [←hk1]
 refine s_callX rfl rfl H HA (Kept_Add S1 (fctC (numA stP 5)) _ _ hS1 Lk Lk hP5.clOk hP5.normal (fun _ _=>rule_lmOk hG2 hA5 (by simp) (by rw [List.length_cons,hn1'];decide)) Lk Lk) ?_
 intro v21 R c H HA
 obtain ⟨S2,vl2,l2,rfl,rfl,hF2,hs2,hk2,hS2,hn2,hc2,hf2,hl2,hm2,hso2⟩:=AdP.ok HA.h.1 hS1 hne1 (by omega) (l':=[numA stP 5,numA stQ 5]) (by decide) hL2 (by simp)
 have hl2e : l2=[numA stP 5,numA stQ 5]:=two_sorted (by rw [hf1] at hl2;simpa using hl2) (fun a=>by
  rw [hm2]
  simp [hno1]) hso2
 subst hl2e
 have HA:=(HA.cut.add hF2).add hs2
 (refine Z0 ?_;refine Z32 ?_;refine Z32 ?_)
 (refine s_alloc rfl (by conv=>lhs;whnf) H HA ?_;intro b4 c H HA)
 (refine Z74 fun c H HA=>?_;refine Z2 ?_;apply Y2;refine Z0 ?_)
 (refine w_freeze H HA ?_;intro c H HA)
 (skip)
 (refine s_call rfl rfl H HA (law_rule _) ?_;intro v26 c H HA)
 (skip)
 rw [←hk2]
 have hc2' : ∀y,y∈S2.cs↔y=fctC (numA stP 5)∨y=ruleC:=fun y=>by rw [hc2,hc1']
 refine s_callX rfl rfl H HA (Kept_Remove S2 ruleC _ _ hS2 Lk Lk rule_ok Lk Lk) ?_
 intro v27 R c H HA
 obtain ⟨S3,vl3,l3,rfl,rfl,hF3,hs3,hk3,hS3,hn3,hc3,hnd3,hm3⟩:=RmP.ok HA.h.1 hS2 ((hc2' _).2 (.inr rfl))
 have hG3 : GS [numA stP 5] ruleC false S3.cs:=fun x=>by
  rw [hc3,hc2']
  constructor
  ·rintro ⟨h1,h2⟩
   exact .inl ⟨_,.head _,h1.resolve_right h2⟩
  ·rintro (⟨a,ha,rfl⟩|⟨h,_⟩)
   ·rw [List.mem_singleton.1 ha]
    exact ⟨.inl rfl,by decide⟩
   ·cases h
 have hL3 : ∀a,LM S3.cs a↔a=numA stP 5:=fun a=>by rw [rule_lm hG3 hA5];simp
 have hL2' : ∀a,LM S2.cs a↔a=numA stP 5∨a=numA stQ 5:=fun a=>by rw [lm_cons hc2,hL2];simp
 have hl3e : l3=[numA stQ 5]:=one_list hnd3 fun a=>by
  rw [hm3,hL2',hL3]
  constructor
  ·rintro ⟨h1|h1,h2⟩
   ·exact absurd h1 h2
   ·exact h1
  ·rintro rfl
   exact ⟨.inr rfl,by decide⟩
 subst hl3e
 have HA:=(HA.cut.add hF3).add hs3
 (refine Z0 ?_;refine Z32 ?_;refine Z32 ?_)
 (refine s_alloc rfl (by conv=>lhs;whnf) H HA ?_;intro b6 c H HA)
 (repeat' (first|refine Z0 ?_|refine Z1 ?_|refine Z2 ?_|refine Z3 ?_|refine Z4 ?_|refine Z5 ?_|refine Z8 ?_|apply w_nil|apply wc_seq|apply wc_region|apply wx_next|refine Z18 ?_|refine Z19 ?_|apply wc_ret|apply wc_skip|apply wx_ret_then|refine Z30 ?_|refine Z41 ?_|refine Z44 ?_|refine Z45 ?_|refine Z74 fun c H HA=>?_|refine Z82 ?_|refine Z94 (fun hq=>?_) fun hq=>?_))
 ·exact absurd rfl hq
 ·exact absurd rfl hq
 ·exact absurd rfl hq
 rw [←hk3]
 have hP : numA stP 5∈ats S3.F:=(hS3.all _).2 ((hL3 _).2 rfl)
 have hu1 : [numA stP 5,numA stQ 5][1]?=some (numA stQ 5):=rfl
 have hu0 : [numA stQ 5][0]?=some (numA stQ 5):=rfl
 have H:=H.perm (L':=(S3.res++[])++[.obj b6 (.cells [.slice none 0 0,vl3].toArray 27 (0,0))]) (by
  simp only [List.append_nil]
  exact List.perm_append_comm (l₁:=[_]))
 refine dw_startE (I:=S3.res++[]) H HA ?_
 (repeat (first|refine Dc ?_|refine Dm ?_))
 (apply dw_cons;(focus ((intro B _ Lx c H HA;(repeat (first|rintro vx rfl|(intro vx hx;have HA:=HA.addSF hx;clear hx)|(intro vx hx;have HA:=HA.add hx;clear hx)|intro vx));change W _ _ _ _ _ _ _);refine s_call rfl rfl H HA (law_num stQ 5 _) ?_;intro vx c H HP;exact w_nil (pq_rel H (Cp) HP.h.1)));exact inferInstance)
 (apply dw_cons;(focus ((intro B _ Lx c H HA;(repeat (first|rintro vx rfl|(intro vx hx;have HA:=HA.addSF hx;clear hx)|(intro vx hx;have HA:=HA.add hx;clear hx)|intro vx));change W _ _ _ _ _ _ _);(refine s_call rfl rfl H HA (same_q5 _ _ _ Lk Lk) ?_;intro vx c H HP;have hvx:=HP.h.1;have HA:=HP.cut;subst hvx);exact Dx));exact inferInstance)
 (repeat (first|refine Dc ?_|refine Dm ?_))
 (apply dw_cons;(focus ((intro B _ Lx c H HA;(repeat (first|rintro vx rfl|(intro vx hx;have HA:=HA.addSF hx;clear hx)|(intro vx hx;have HA:=HA.add hx;clear hx)|intro vx));change W _ _ _ _ _ _ _);(apply s_go;exact rfl;exact rfl;exact rfl);(refine s_call rfl rfl H HA (law_num stQ 5 _) ?_;intro vx c H HP;exact w_nil (pq_rel H (Cp) HP.h.1))));exact inferInstance)
 (apply dw_cons;(focus ((intro B _ Lx c H HA;(repeat (first|rintro vx rfl|(intro vx hx;have HA:=HA.addSF hx;clear hx)|(intro vx hx;have HA:=HA.add hx;clear hx)|intro vx));change W _ _ _ _ _ _ _);(apply s_go;exact rfl;exact rfl;exact rfl);(refine s_call rfl rfl H HA (same_q5 _ _ _ Lk Lk) ?_;intro vx c H HP;have hvx:=HP.h.1;have HA:=HP.cut;subst hvx);exact Dx));exact inferInstance)
 (repeat (first|refine Dc ?_|refine Dm ?_))
 (apply dw_cons;(focus ((intro B _ Lx c H HA;(repeat (first|rintro vx rfl|(intro vx hx;have HA:=HA.addSF hx;clear hx)|(intro vx hx;have HA:=HA.add hx;clear hx)|intro vx));change W _ _ _ _ _ _ _);(apply s_go;exact rfl;exact rfl;exact rfl);(refine s_call rfl rfl H HA (law_num stP 5 _) ?_;intro vx c H HP;exact w_nil (pq_rel H (Cp) HP.h.1))));exact inferInstance)
 refine dw_consT (pr:=S3.res) (po:=S3.res) (S:=fun v _=>v=.bool true) ?_ (by intro v;infer_instance) ?_
 ·(intro B _ Lx c HA;(repeat (first|rintro vx rfl|(intro vx hx;have HA:=HA.addSF hx;clear hx)|(intro vx hx;skip;have HA:=HA.add hx;clear hx)|(intro vx;have hvx2:Go.Value:=vx;clear hvx2)));(first|intro H|(have H:=HA.h.1;have HA:=HA.cut));change W _ _ _ _ _ _ _)
  (apply s_go;exact rfl;exact rfl;exact rfl)
  refine s_callT (pre:=S3.res) (post:=S3.res) rfl rfl H HA (Kept_Has S3 (numA stP 5) _ _ hS3 Lk Lk hP5.fct.key Lk) ?_
  intro v c H HA
  exact w_nil (pq_turn H Cu (HA.h.1.trans (by rw [decide_eq_true hP])))
 (repeat (first|refine Dc ?_|refine Dm ?_))
 refine dw_doneT mixed (I:=S3.res++[]) (by kernel_rfl) H HA (by kernel_rfl) ?_
 clear H HA
 intro c HA v72 h72 v73 h73 v74 h74 v79 h79 v80 h80 v81 h81 v86 h86 v87 h87 H
 change W _ _ _ _ _ _ _
 (apply Y0;apply wc_ret)
 exact ret_fn H hm (outs1 Tryz.results5 Wh) rfl
def jA (s:ByteArray) (J:List Int) : List At0:=J.map (numA s)
theorem jA_nodup {s:ByteArray} {J:List Int} (h:J.Nodup) : (jA s J).Nodup:=List.Pairwise.map _ (fun a b hab e=>hab (numA_inj e)) h
theorem jA_mem {s:ByteArray} {J:List Int} {n:Int} : numA s n∈jA s J↔n∈J:=by
 constructor
 ·intro h
  obtain ⟨i,hi,e⟩:=List.mem_map.1 h
  rwa [←numA_inj e]
 ·exact fun h=>List.mem_map_of_mem h
theorem jA_len {s:ByteArray} {J:List Int} : (jA s J).length=J.length:=List.length_map ..
theorem jA_num {s:ByteArray} {J:List Int} (hs:s=stP∨s=stD) (h:∀j∈J,0≤j∧j≤100000) : ∀a∈jA s J,NumF a:=fun a ha=>by
 obtain ⟨i,hi,rfl⟩:=List.mem_map.1 ha
 exact ⟨s,i,rfl,hs,(h i hi).1,(h i hi).2⟩
theorem jA_add (s:ByteArray) (J:List Int) (n:Int) : jA s (J++[n])=jA s J++[numA s n]:=by simp [jA]
theorem GS.put {A:List At0} {r:Cl} {b:Bool} {cs cs':List Cl} {a:At0} (h:GS A r b cs) (hc:∀y,y∈cs'↔y=fctC a∨y∈cs) : GS (A++[a]) r b cs':=fun x=>by
 rw [hc,h x]
 simp only [List.mem_append,List.mem_singleton]
 constructor
 ·rintro (rfl|⟨a',ha,rfl⟩|h)
  ·exact .inl ⟨a,.inr rfl,rfl⟩
  ·exact .inl ⟨a',.inl ha,rfl⟩
  ·exact .inr h
 ·rintro (⟨a',ha|rfl,rfl⟩|h)
  ·exact .inr (.inl ⟨a',ha,rfl⟩)
  ·exact .inl rfl
  ·exact .inr (.inr h)
theorem GS.rule {A:List At0} {r:Cl} {cs cs':List Cl} (h:GS A r false cs) (hc:∀y,y∈cs'↔y=r∨y∈cs) : GS A r true cs':=fun x=>by
 rw [hc,h x]
 constructor
 ·rintro (rfl|h|⟨h,_⟩)
  ·exact .inr ⟨rfl,rfl⟩
  ·exact .inl h
  ·cases h
 ·rintro (h|⟨_,rfl⟩)
  ·exact .inr (.inl h)
  ·exact .inl rfl
theorem GS.notF {s:ByteArray} {J:List Int} {r:Cl} {b:Bool} {cs:List Cl} {n:Int} (h:GS (jA s J) r b cs) (hr:r.body≠[]) (hn:n∉J) : fctC (numA s n)∉cs:=fun hx=>by
 rcases (h _).1 hx with ⟨a,ha,e⟩|⟨_,e⟩
 ·have:=fctC_inj e
  subst this
  exact hn (jA_mem.1 ha)
 ·exact hr (congrArg Cl.body e).symm
theorem GS.notR {A:List At0} {r:Cl} {cs:List Cl} (h:GS A r false cs) (hr:r.body≠[]) : r∉cs:=fun hx=>by
 rcases (h _).1 hx with ⟨a,ha,e⟩|⟨e,_⟩
 ·exact hr (congrArg Cl.body e)
 ·cases e
def prT (J:List Int) (k:Nat) (b:Bool) : List At0:=if b then (tupL (J.map nT) k).map (fun w=>(⟨Tn,stP,w⟩:At0)) else []
def fl (J:List Int) (k:Nat) (b:Bool) : List At0:=jA stD J++prT J k b
theorem nT_inj {a b:Int} (h:nT a=nT b) : a=b:=congrArg Tm.n h
theorem fl_len {J:List Int} {k:Nat} {b:Bool} : (fl J k b).length=J.length+if b then J.length ^ k else 0:=by
 rw [fl,List.length_append,jA_len,prT]
 cases b
 ·rfl
 ·rw [if_pos rfl,if_pos rfl,List.length_map,tupL_len,List.length_map]
theorem fl_nodup {J:List Int} {k:Nat} {b:Bool} (hJ:J.Nodup) : (fl J k b).Nodup:=by
 rw [fl,List.nodup_append]
 refine ⟨jA_nodup hJ,?_,?_⟩
 ·cases b
  ·exact List.nodup_nil
  ·exact List.Pairwise.map _ (fun a b hab e=>hab (congrArg At0.args e)) (tupL_nodup (List.Pairwise.map _ (fun a b hab e=>hab (nT_inj e)) hJ) k)
 ·intro a ha b' hb e
  subst e
  obtain ⟨i,_,rfl⟩:=List.mem_map.1 ha
  cases b
  ·cases hb
  ·obtain ⟨w,_,e⟩:=List.mem_map.1 hb
   exact absurd (congrArg At0.name e) (by show stP≠stD;decide)
theorem prod_dn {k:Nat} (h0:1≤k) (h1:k≤4) : (prodC k).dn=stD:=by
 rcases (by omega:k=1∨k=2∨k=3∨k=4) with rfl|rfl|rfl|rfl<;>rfl
theorem prod_bl (k:Nat) : (prodC k).body.length=k:=by simp [prodC]
theorem prod_body {k:Nat} (h0:1≤k) : (prodC k).body≠[]:=fun e=>by
 have:=prod_bl k
 rw [e] at this
 simp at this
 omega
theorem fa_jA {J:List Int} {t:Tm} : fa stD t∈jA stD J↔t∈J.map nT:=by
 constructor
 ·intro h
  obtain ⟨i,hi,e⟩:=List.mem_map.1 h
  have:=congrArg At0.args e
  simp only [numA,fa,List.cons.injEq,and_true] at this
  exact this▸List.mem_map_of_mem hi
 ·intro h
  obtain ⟨i,hi,rfl⟩:=List.mem_map.1 h
  exact List.mem_map_of_mem (f:=numA stD) hi
theorem prod_in {J:List Int} {k:Nat} (h0:1≤k) (h1:k≤4) (w:List Tm) : (∀t∈w,fa (prodC k).dn t∈jA stD J)↔∀t∈w,t∈J.map nT:=by
 rw [prod_dn h0 h1]
 exact ⟨fun h t ht=>fa_jA.1 (h t ht),fun h t ht=>fa_jA.2 (h t ht)⟩
theorem prod_hn {k:Nat} (h0:1≤k) (h1:k≤4) : (prodC k).head.name≠(prodC k).dn:=by
 rw [prod_dn h0 h1]
 show stP≠stD
 decide
theorem fl_lm {J:List Int} {k:Nat} {b:Bool} {cs:List Cl} (h:GS (jA stD J) (prodC k) b cs) (hJ:∀j∈J,0≤j∧j≤100000) (h0:1≤k) (h1:k≤4) (a:At0) : LM cs a↔a∈fl J k b:=by
 rw [h.lm (jA_num (.inr rfl) hJ) (prod_hn h0 h1),fl,List.mem_append]
 refine or_congr Iff.rfl ?_
 cases b
 ·simp [prT]
 ·constructor
  ·rintro ⟨_,w,hw,hh,rfl⟩
   rw [prod_bl] at hw
   exact List.mem_map.2 ⟨w,tupL_mem.2 ⟨hw,(prod_in h0 h1 w).1 hh⟩,(prod_hd hw).symm⟩
  ·intro h
   obtain ⟨w,hw,rfl⟩:=List.mem_map.1 h
   obtain ⟨h2,h3⟩:=tupL_mem.1 hw
   exact ⟨rfl,w,by rw [prod_bl,h2],(prod_in h0 h1 w).2 h3,(prod_hd h2).symm⟩
theorem fl_ok {J:List Int} {k:Nat} {b:Bool} {cs:List Cl} (h:GS (jA stD J) (prodC k) b cs) (hJ:∀j∈J,0≤j∧j≤100000) (h0:1≤k) (h1:k≤4) (hp:J.length+J.length ^ k≤100000) (hc:cs.length≤1001) : LmOk cs:=by
 refine h.lmOk (T:=prT J k true) (jA_num (.inr rfl) hJ) (fun _=>(prod_ok h0 h1).1) (prod_hn h0 h1) (fun w hw hh=>?_) ?_ (fun _=>?_) hc
 ·rw [prod_bl] at hw
  rw [prod_hd hw]
  have h2:=(prod_in h0 h1 w).1 hh
  refine ⟨List.mem_map.2 ⟨w,tupL_mem.2 ⟨hw,h2⟩,rfl⟩,fct_args nameP (by decide) (by omega) fun t ht=>?_⟩
  obtain ⟨i,hi,rfl⟩:=List.mem_map.1 (h2 t ht)
  exact ⟨i,rfl,(hJ i hi).1,(hJ i hi).2⟩
 ·rw [jA_len,prT,if_pos rfl,List.length_map,tupL_len,List.length_map]
  exact hp
 ·rw [jA_len,prod_bl]
  omega
theorem pow_small {n k i:Nat} (hn:n≤73) (hk:k≤4) (hi:i≤k) : n ^ i<4611686018427387904:=by
 have h1 : n ^ i≤73 ^ i:=Nat.pow_le_pow_left hn i
 have h2 : 73 ^ i≤73 ^ 4:=Nat.pow_le_pow_right (by decide) (by omega)
 have h3 : (73:Nat) ^ 4=28398241:=by decide
 omega
theorem nodup_snoc {J:List Int} {i:Int} (h:J.Nodup) (hn:i∉J) : (J++[i]).Nodup :=
 List.nodup_append.2 ⟨h,(by simp),fun a ha b hb e=>hn (List.mem_singleton.1 hb▸e▸ha)⟩
structure FlI (k:Nat) (b:Bool) (i:Nat) (J:List Int) (S:KpS) : Prop where
 ok : KpOk S
 nd : J.Nodup
 mem : ∀j∈J,0≤j∧j<(i:Int)
 le : J.length≤i
 gs : GS (jA stD J) (prodC k) b S.cs
 cl : S.cs.length=J.length+if b then 1 else 0
theorem FlI.facts {k:Nat} {b:Bool} {i:Nat} {J:List Int} {S:KpS} (h:FlI k b i J S) (hi:i≤72) (h0:1≤k) (h1:k≤4) : S.F.length=J.length+if b then J.length ^ k else 0 :=
 (kp_len h.ok (fl_nodup h.nd) (fl_lm h.gs (fun j hj=>by have:=h.mem j hj;omega) h0 h1)).trans fl_len
theorem FlI.no {k:Nat} {b:Bool} {i:Nat} {J:List Int} {S:KpS} (h:FlI k b i J S) : (i:Int)∉J:=fun hj=>by
 have:=h.mem _ hj
 omega
theorem FlI.rg2 {k:Nat} {b:Bool} {i:Nat} {J:List Int} {S:KpS} (h:FlI k b i J S) (hi:i<72) : ∀j∈J++[(i:Int)],0≤j∧j≤100000:=fun j hj=>by
 rcases List.mem_append.1 hj with h2|h2
 ·have:=h.mem j h2
  omega
 ·rw [List.mem_singleton.1 h2]
  omega
theorem FlI.gs2 {k:Nat} {b:Bool} {i:Nat} {J:List Int} {S:KpS} (h:FlI k b i J S) : GS (jA stD (J++[(i:Int)])) (prodC k) b (fctC (numA stD (i:Int))::S.cs):=by
 rw [jA_add]
 exact h.gs.put fun y=>List.mem_cons
theorem ite_le1 (b:Bool) : (if b then 1 else 0)≤1:=by cases b<;>decide
theorem FlI.okF {k:Nat} {b:Bool} {i:Nat} {J:List Int} {S:KpS} (h:FlI k b i J S) (hi:i<72) (h0:1≤k) (h1:k≤4) (hp:(J.length+1) ^ k≤7000) : S.cs.length<1000→fctC (numA stD (i:Int))∉S.cs→LmOk (fctC (numA stD (i:Int))::S.cs):=fun hlt _=>by
 have hle:=h.le
 exact fl_ok h.gs2 (h.rg2 hi) h0 h1 (by rw [List.length_append,List.length_singleton];omega) (by rw [List.length_cons];omega)
theorem FlI.add {k:Nat} {b:Bool} {i:Nat} {J:List Int} {S:KpS} {v:Value} {R:List Res} {c:Cx} (h:FlI k b i J S) (hi:i<72) (h0:1≤k) (h1:k≤4) (hA:AdP S (fctC (numA stD (i:Int))) v R c) (hfit:b=false∨J.length+1+(J.length+1) ^ k≤5000) :
  ∃S' vl l,v=.tuple #[.agg #[vl,.slice none 0 0],.int .i64 0]∧R=S'.res∧KpF S' c∧Sl vl (l:List At0) c∧S'.k=S.k∧FlI k b (i+1) (J++[(i:Int)]) S':=by
 have hle:=h.le
 have hcl:=h.cl
 have h2:=ite_le1 b
 obtain ⟨S',vl,l,rfl,rfl,hF,hs,hk,hS',hc',hm',hf',hl',_,_⟩:=hA.ok h.ok (h.gs.notF (prod_body h0) h.no) (by omega) (fl_nodup (k:=k) (b:=b) (nodup_snoc h.nd h.no)) (fl_lm h.gs2 (h.rg2 hi) h0 h1) (by
  rw [fl_len,List.length_append,List.length_singleton]
  rcases hfit with rfl|hfit
  ·rw [if_neg (by decide)]
   omega
  ·split<;>omega)
 refine ⟨S',vl,l,rfl,rfl,hF,hs,hk,hS',nodup_snoc h.nd h.no,fun j hj=>?_,?_,?_,?_⟩
 ·rcases List.mem_append.1 hj with h3|h3
  ·have:=h.mem j h3
   omega
  ·rw [List.mem_singleton.1 h3]
   omega
 ·rw [List.length_append,List.length_singleton]
  omega
 ·rw [jA_add]
  exact h.gs.put hm'
 ·rw [List.length_append,List.length_singleton]
  omega
theorem FlI.full {k:Nat} {i:Nat} {J:List Int} {S:KpS} {v:Value} {R:List Res} {c:Cx} (h:FlI k true i J S) (hi:i<72) (h0:1≤k) (h1:k≤4) (hA:AdP S (fctC (numA stD (i:Int))) v R c) (hfit:5000<J.length+1+(J.length+1) ^ k) :
  ∃vl,v=.tuple #[.agg #[vl,.slice none 0 0],.int .i64 102]∧R=S.res∧KpF S c∧Sl vl ([]:List At0) c∧FlI k true (i+1) J S:=by
 have hle:=h.le
 have hcl:=h.cl
 rw [if_pos rfl] at hcl
 obtain ⟨vl,h2,h3,h4,h5⟩:=hA.full h.ok (h.gs.notF (prod_body h0) h.no) (by omega) (fl_nodup (k:=k) (b:=true) (nodup_snoc h.nd h.no)) (fl_lm h.gs2 (h.rg2 hi) h0 h1) (by
  rw [fl_len,List.length_append,List.length_singleton,if_pos rfl]
  exact hfit)
 exact ⟨vl,h2,h3,h4,h5,h.ok,h.nd,fun j hj=>by have:=h.mem j hj;omega,by omega,h.gs,by rw [if_pos rfl];exact hcl⟩
theorem FlI.okP {k:Nat} {i:Nat} {J:List Int} {S:KpS} (h:FlI k false i J S) (hi:i≤72) (h0:1≤k) (h1:k≤4) (hp:J.length ^ k≤7000) : S.cs.length<1000→prodC k∉S.cs→LmOk (prodC k::S.cs):=fun hlt _=>by
 have hle:=h.le
 exact fl_ok (h.gs.rule fun y=>List.mem_cons) (fun j hj=>by have:=h.mem j hj;omega) h0 h1 (by omega) (by rw [List.length_cons];omega)
theorem FlI.prod {k:Nat} {i:Nat} {J:List Int} {S:KpS} {v:Value} {R:List Res} {c:Cx} (h:FlI k false i J S) (hi:i≤72) (h0:1≤k) (h1:k≤4) (hA:AdP S (prodC k) v R c) (hfit:J.length+J.length ^ k≤5000) :
  ∃S' vl l,v=.tuple #[.agg #[vl,.slice none 0 0],.int .i64 0]∧R=S'.res∧KpF S' c∧Sl vl (l:List At0) c∧l.length=J.length ^ k∧S'.k=S.k∧FlI k true i J S':=by
 have hle:=h.le
 have hcl:=h.cl
 have hrg : ∀j∈J,0≤j∧j≤100000:=fun j hj=>by have:=h.mem j hj;omega
 rw [if_neg (by decide)] at hcl
 have hF0:=h.facts hi h0 h1
 rw [if_neg (by decide)] at hF0
 obtain ⟨S',vl,l,rfl,rfl,hF,hs,hk,hS',hc',hm',hf',hl',_,_⟩:=hA.ok h.ok (h.gs.notR (prod_body h0)) (by omega) (fl_nodup (k:=k) (b:=true) h.nd) (fl_lm (h.gs.rule fun y=>List.mem_cons) hrg h0 h1) (by rw [fl_len,if_pos rfl];exact hfit)
 rw [fl_len,if_pos rfl] at hl'
 exact ⟨S',vl,l,rfl,rfl,hF,hs,by omega,hk,hS',h.nd,h.mem,h.le,h.gs.rule hm',by rw [if_pos rfl];omega⟩
theorem FlI.prodFull {k:Nat} {i:Nat} {J:List Int} {S:KpS} {v:Value} {R:List Res} {c:Cx} (h:FlI k false i J S) (hi:i≤72) (h0:1≤k) (h1:k≤4) (hA:AdP S (prodC k) v R c) (hfit:5000<J.length+J.length ^ k) :
  ∃vl,v=.tuple #[.agg #[vl,.slice none 0 0],.int .i64 102]∧R=S.res∧KpF S c∧Sl vl ([]:List At0) c:=by
 have hle:=h.le
 have hcl:=h.cl
 have hrg : ∀j∈J,0≤j∧j≤100000:=fun j hj=>by have:=h.mem j hj;omega
 rw [if_neg (by decide)] at hcl
 exact hA.full h.ok (h.gs.notR (prod_body h0)) (by omega) (fl_nodup (k:=k) (b:=true) h.nd) (fl_lm (h.gs.rule fun y=>List.mem_cons) hrg h0 h1) (by rw [fl_len,if_pos rfl];exact hfit)
theorem FlI.zero {k:Nat} {S:KpS} (h:KpOk S) (h0:S.cs=[]) : FlI k false 0 [] S :=
 ⟨h,List.nodup_nil,(fun j h=>by cases h),Nat.le_refl _,fun x=>by rw [h0];simp [jA],by rw [h0];rfl⟩
theorem ag_fct {a:At0} {va:Value} {c:Cx} (h:Sl va a.args c) (hb:a.by_=Tn) : Ag (fctC a) (.agg #[.int .i64 a.by_.k,.int .i64 a.by_.n,.string a.by_.s,.string a.name,va,.slice none 0 0,.slice none 0 0]) c:=⟨_,rfl,va,_,_,rfl,h,Sl.nil _,Sl.nil _⟩
theorem Kept_AddK (S:KpS) (x:Cl) (u:Value) (c:Cx) {k:Nat} (hk:S.k=k) (hS:KpOk S) (hF:KpF S c) (hx:Ag x u c) (hx2:ClOk x) (hn:x.normal=x) (hL:S.cs.length<1000→x∉S.cs→LmOk (x::S.cs)) (hg:GlobOk c) (hp:Box 3 P10c c) :
  CnTX Tryz.prog 7 [.pointer (some ⟨k,0,none⟩),u] S.res c (AdP S x):=by
 subst hk
 exact Kept_Add S x u c hS hF hx hx2 hn hL hg hp
end Go.Proofs.YtnppmeeibbefbaaGreatDoor
namespace Go.Wk
open Go
class BoolU (P:Program) (T:TypeId) : Prop where
 h : P.underlying T=some .bool
section
variable {P : Program} {ops : Array Oper} {Q : Exit → Act → World → Prop} {n : Nat} {f : Nat → Value} {rest : List Oper} {ty : TypeId} {ps : String} {af : Array Edge} {d : Tmp} {w : World}
theorem s_neB {T T':TypeId} {x y:Operand} {a b:Bool} (hn:Nat.blt d n=true) [BoolU P T] (hx:opd f x=.bool a) (hy:opd f y=.bool b) {r:Bool} (hr:(!(a == b))=r) (k:W P ops Q rest n (upd f d (.bool r)) w) : W P ops Q (⟨some d,.binOp .neq T x y T',ty,ps,af,none⟩::rest) n f w :=
 st_val hn (by subst hr;simp [execOp,hx,hy,eqGuard_at_bool,binOp,run_equal_bool w T a b (BoolU.h (P:=P) (T:=T))]) k
end
end Go.Wk
namespace Go.Proofs.YtnppmeeibbefbaaGreatDoor
open Go Go.Wk Go.RowKit
instance : BoolU Tryz.prog 4:=⟨by kernel_rfl⟩
theorem law_pow (n k p:Nat) (c:Cx) (hp:n ^ k=p) (hn:n≤73) (hk:k≤4) : Cn Tryz.prog 12 [.int .i64 n,.int .i64 k] c (fun v c=>v=.int .i64 (p:Int)):=by
 subst hp
 exact law_power n k c (fun i hi=>pow_small hn hk hi) (by omega)
set_option maxHeartbeats 4000000 in
theorem law_FullF (n k p0:Nat) (c:Cx) (hn1:1≤n) (hn2:n≤72) (hk1:1≤k) (hk2:k≤4) (hp0:n ^ k=p0) (hp1:p0≤7000) (hg:GlobOk c) (hp:Box 3 P10c c) : Cn Tryz.prog 4 [.int .i64 n,.int .i64 k,.bool false] c (fun v c=>v=.bool true):=by
 refine Cn.of Tryz.func4 Tryz.ntmps4 rfl rfl fun hm H HA=>?_
 have HA:=(HA.add hg).add hp
 have e0 : (0:Int)=0:=rfl
 have e102 : (102:Int)=102:=rfl
 have e103 : ¬(102:Int)=0:=by decide
 have a1 : ¬(n:Int)<1:=by omega
 have a2 : ¬(n:Int) > 72:=by omega
 have a3 : ¬(k:Int)<1:=by omega
 have a4 : ¬(k:Int) > 4:=by omega
 have a5 : ¬(p0:Int) > 7000:=by omega
 (repeat' (first|refine Z0 ?_|refine Z2 ?_|refine Z4 ?_|apply w_nil|apply wc_seq|apply wc_region|apply wx_next|refine Z30 ?_|refine Z81 ?_|refine Z84 ?_))
 (refine s_call rfl rfl H HA (law_pow n k p0 _ hp0 (by omega) hk2) ?_;intro vx c H HP;have hvx:=HP.h.1;have HA:=HP.cut;subst hvx)
 (refine Z4 ?_;refine Z84 ?_;refine Z30 ?_;apply Y0;refine Z19 ?_;apply wc_skip;apply wx_next;apply Y1)
 refine s_callX (pre:=[]) rfl rfl H HA (upkeep_New _) ?_
 intro v39 R c H HA
 obtain ⟨S0,rfl,rfl,hF0,hS0,hc0,hf0⟩:=HA.h.1
 have HA:=HA.cut.add hF0
 (repeat' (first|refine Z0 ?_|refine Z2 ?_|apply w_nil|apply wc_seq|apply wc_region|apply wx_next|refine Z18 ?_|refine Z19 ?_|apply wc_skip|refine Z33 ?_|(refine s_nilP rfl rfl ?_)))
 (refine s_call rfl rfl H HA (law_product k _ hk2) ?_;intro v46 c H HA)
 (skip)
 have hZ : FlI k false 0 [] S0:=FlI.zero hS0 hc0
 have h0k : ([]:List Int).length ^ k=0:=Nat.zero_pow (by omega)
 have H : Owns _ (S0.res++[]) c:=H
 refine s_callX rfl rfl H HA (Kept_Add S0 (prodC k) _ _ hS0 Lk Lk (prod_ok hk1 hk2).1 (prod_ok hk1 hk2).2 (hZ.okP (by omega) hk1 hk2 (by omega)) Lk Lk) ?_
 intro v47 R c H HA
 obtain ⟨S1,vl,l,rfl,rfl,hF1,hs1,_,hk1',hI1⟩:=hZ.prod (by omega) hk1 hk2 HA.h.1 (by rw [h0k];decide)
 have HA:=HA.cut.add hF1
 (apply Y2;refine Z2 ?_;apply Y0;apply wc_seq;apply Y1;refine Z2 ?_;apply Y0;apply wc_block)
 have H : Owns _ S1.res c:=H
 refine wc_loopG (σ:=KpS×List Int×Nat×Nat) (fun y=>n-y.2.2.2) (fun y=>[(0,.int .i64 n),(1,.int .i64 k),(2,.bool false),(7,.pointer (some ⟨S0.k,0,none⟩)),(8,.int .i64 y.2.2.1),(9,.int .i64 y.2.2.2)]) (fun y=>y.1.k=S0.k∧FlI k true y.2.2.2 y.2.1 y.1∧y.2.1.length=y.2.2.1∧y.2.2.2≤n)
  (fun y=>y.1.res) (fun y c=>KpF y.1 c) (S1,[],0,0) H HA Lk Ks ⟨hk1',hI1,rfl,Nat.zero_le _⟩ ?_
 clear H HA
 rintro ⟨S,J,m,i⟩ g c ⟨hk,hI,hJ,hin⟩ H HA
 dsimp only at hk hI hJ hin H HA ⊢
 have hFS : KpF S c:=HA.h.1
 have HA:=HA.cut.add hFS
 have hmi:=hI.le
 by_cases hlt : (i:Int)<(n:Int)
 ·(apply wc_seq;apply Y1;refine Z0 ?_;refine Z0 ?_;refine Z81 ?_;apply Y0;refine Z18 ?_;apply wc_skip;apply wx_next;apply wc_seq;apply wc_block;apply Y1;refine Z0 ?_;refine Z0 ?_)
  (refine s_call rfl rfl H HA (law_num stD (i:Int) _) ?_;intro v40 c H HA)
  obtain ⟨_,rfl,va,rfl,hva⟩:=HA.h.1
  have HA:=HA.cut.add hva
  (refine Z54 ?_)
  have HA:=HA.add (ag_fct (a:=numA stD (i:Int)) HA.h.1 rfl)
  have hPi : NumF (numA stD (i:Int)):=NumF.D (by omega) (by omega)
  have H : Owns _ (S.res++[]) c:=H
  obtain ⟨p,hpe⟩ : ∃p,(m+1) ^ k=p:=⟨_,rfl⟩
  have hp7 : p≤7000:=by
   have h1 : (m+1) ^ k≤n ^ k:=Nat.pow_le_pow_left (by omega) k
   omega
  refine s_callX rfl rfl H HA (Kept_AddK S (fctC (numA stD (i:Int))) _ _ hk hI.ok Lk Lk hPi.clOk hPi.normal (hI.okF (by omega) hk1 hk2 (by rw [hJ,hpe];exact hp7)) Lk Lk) ?_
  intro v42 R c H HA
  have hadp:=HA.h.1
  have HA:=HA.cut
  by_cases hf : m+1+p≤5000
  ·obtain ⟨S',vl,l,rfl,rfl,hF',hs',hk',hI'⟩:=hI.add (by omega) hk1 hk2 hadp (.inr (by rw [hJ,hpe];exact hf))
   have HA:=(HA.add hF').add hs'
   have hf1 : (m:Int)+1+(p:Int)≤5000:=by omega
   (refine Z0 ?_;refine Z32 ?_;refine Z32 ?_)
   (refine s_alloc rfl (by conv=>lhs;whnf) H HA ?_;intro b7 c H HA)
   (repeat' (first|refine Z0 ?_|refine Z2 ?_|refine Z4 ?_|apply w_nil|apply wc_seq|apply wc_region|apply wx_next|refine Z46 ?_|refine Z74 fun c H HA=>?_))
   (refine w_freeze H HA ?_;intro c H HA)
   (refine s_call rfl rfl H HA (law_pow (m+1) k p _ hpe (by omega) hk2) ?_;intro vx c H HP;have hvx:=HP.h.1;have HA:=HP.cut;subst hvx)
   (refine Z4 ?_;refine Z48 ?_;refine Z4 ?_;refine Z83 ?_;refine Z30 ?_;refine Z2 ?_;apply Y0;apply wc_seq;apply Y1;refine Z0 ?_;refine Z0 ?_;refine Z80 ?_)
   (apply s_neB;exact rfl;exact rfl;exact rfl;exact rfl)
   (repeat' (first|refine Z0 ?_|refine Z2 ?_|refine Z4 ?_|refine Z5 ?_|apply w_nil|apply wc_seq|apply wc_region|apply wx_next|refine Z18 ?_|refine Z19 ?_|apply wc_skip|apply wx_norm_block|refine Z30 ?_|refine Z33 ?_|refine Z46 ?_))
   exact wx_loopG ((S',J++[(i:Int)],m+1,i+1)) H Cu Lk Ks (by dsimp only;omega) ⟨hk'.trans hk,hI',by rw [List.length_append,List.length_singleton,hJ],by dsimp only;omega⟩
  ·obtain ⟨vl,rfl,rfl,hF',hs',hI'⟩:=hI.full (by omega) hk1 hk2 hadp (by rw [hJ,hpe];omega)
   have HA:=(HA.add hF').add hs'
   (refine Z0 ?_;refine Z32 ?_;refine Z32 ?_)
   (refine s_alloc rfl (by conv=>lhs;whnf) H HA ?_;intro b7 c H HA)
   (repeat' (first|refine Z0 ?_|refine Z2 ?_|refine Z4 ?_|apply w_nil|apply wc_seq|apply wc_region|apply wx_next|refine Z46 ?_|refine Z74 fun c H HA=>?_))
   (refine w_freeze H HA ?_;intro c H HA)
   (refine s_call rfl rfl H HA (law_pow (m+1) k p _ hpe (by omega) hk2) ?_;intro vx c H HP;have hvx:=HP.h.1;have HA:=HP.cut;subst hvx)
   have hf1 : ¬(m:Int)+1+(p:Int)≤5000:=by omega
   (refine Z4 ?_;refine Z48 ?_;refine Z4 ?_;refine Z83 ?_;refine Z30 ?_;refine Z2 ?_;apply Y0;apply wc_seq;apply Y1;refine Z0 ?_;refine Z0 ?_;refine Z80 ?_)
   (apply s_neB;exact rfl;exact rfl;exact rfl;exact rfl)
   (repeat' (first|refine Z0 ?_|refine Z2 ?_|refine Z4 ?_|refine Z8 ?_|apply w_nil|apply wc_seq|apply wc_region|apply wx_next|refine Z19 ?_|apply wc_skip|apply wx_norm_block|refine Z30 ?_|refine Z33 ?_|refine Z46 ?_|refine Z82 ?_))
   exact wx_loopG ((S,J,m,i+1)) H Cu Lk Ks (by dsimp only;omega) ⟨hk,hI',hJ,by dsimp only;omega⟩
 obtain rfl : i=n:=by omega
 (apply wc_seq;apply Y1;refine Z0 ?_;refine Z0 ?_;refine Z81 ?_;apply Y0;refine Z19 ?_;apply wc_exit;apply wx_exit_then;apply wx_exit_then;apply wx_exit_same;apply wx_next;apply Y1;refine Z0 ?_;refine Z0 ?_;refine Z0 ?_)
 obtain ⟨p,hpe⟩ : ∃p,m ^ k=p:=⟨_,rfl⟩
 have hp7 : p≤7000:=by
  have h1 : m ^ k≤i ^ k:=Nat.pow_le_pow_left (by omega) k
  omega
 have hfl:=hI.facts hn2 hk1 hk2
 rw [if_pos rfl,hJ,hpe] at hfl
 (refine s_call rfl rfl H HA (law_pow m k p _ hpe (by omega) hk2) ?_;intro vx c H HP;have hvx:=HP.h.1;have HA:=HP.cut;subst hvx)
 (refine Z48 ?_;refine Z2 ?_;apply Y0;apply wc_seq;apply Y1;refine Z0 ?_;apply Y0;refine Z19 ?_;apply wc_skip;apply wx_next;apply Y1;refine Z0 ?_)
 have H : Owns _ (S.res++[]) c:=H
 rw [←hk]
 refine s_callT (pre:=S.res) (post:=S.res) rfl rfl H HA (Kept_Facts S _ hI.ok Lk Lk) ?_
 intro v80 c H HA
 obtain ⟨out,hso,hlen⟩:=HA.h.1
 have HA:=HA.cut.add hso
 have hlen2 : ((out.length:Nat):Int)=(m:Int)+(p:Int):=by omega
 (refine Z2 ?_;apply Y2;refine Z0 ?_;refine Z45 ?_;refine Z0 ?_;refine Z80 ?_;refine Z0 ?_;refine Z4 ?_)
 (refine s_call rfl rfl H HA (law_first _ Lk Lk) ?_;intro vx c H HP;have hvx:=HP.h.1;have HA:=HP.cut;subst hvx)
 (refine Z8 ?_;refine Z2 ?_;apply Y0;apply wc_ret)
 exact ret_fn H hm (outs1 Tryz.results4 Wh) rfl
set_option maxHeartbeats 4000000 in
theorem law_FullT (n k p0:Nat) (c:Cx) (hn1:1≤n) (hn2:n≤72) (hk1:1≤k) (hk2:k≤4) (hp0:n ^ k=p0) (hp1:p0≤7000) (hg:GlobOk c) (hp:Box 3 P10c c) : Cn Tryz.prog 4 [.int .i64 n,.int .i64 k,.bool true] c (fun v c=>v=.bool true):=by
 refine Cn.of Tryz.func4 Tryz.ntmps4 rfl rfl fun hm H HA=>?_
 have HA:=(HA.add hg).add hp
 have e0 : (0:Int)=0:=rfl
 have e102 : (102:Int)=102:=rfl
 have e103 : ¬(102:Int)=0:=by decide
 have a1 : ¬(n:Int)<1:=by omega
 have a2 : ¬(n:Int) > 72:=by omega
 have a3 : ¬(k:Int)<1:=by omega
 have a4 : ¬(k:Int) > 4:=by omega
 have a5 : ¬(p0:Int) > 7000:=by omega
 (repeat' (first|refine Z0 ?_|refine Z2 ?_|refine Z4 ?_|apply w_nil|apply wc_seq|apply wc_region|apply wx_next|refine Z30 ?_|refine Z81 ?_|refine Z84 ?_))
 (refine s_call rfl rfl H HA (law_pow n k p0 _ hp0 (by omega) hk2) ?_;intro vx c H HP;have hvx:=HP.h.1;have HA:=HP.cut;subst hvx)
 (refine Z4 ?_;refine Z84 ?_;refine Z30 ?_;apply Y0;refine Z19 ?_;apply wc_skip;apply wx_next;apply Y1)
 refine s_callX (pre:=[]) rfl rfl H HA (upkeep_New _) ?_
 intro v39 R c H HA
 obtain ⟨S0,rfl,rfl,hF0,hS0,hc0,hf0⟩:=HA.h.1
 have HA:=HA.cut.add hF0
 (repeat' (first|refine Z0 ?_|refine Z2 ?_|apply w_nil|apply wc_seq|apply wc_region|apply wx_next|refine Z19 ?_|apply wc_skip|apply wc_block|refine Z33 ?_|(refine s_nilP rfl rfl ?_)))
 have H : Owns _ S0.res c:=H
 refine wc_loopG (σ:=KpS×List Int×Nat) (fun y=>n-y.2.2) (fun y=>[(0,.int .i64 n),(1,.int .i64 k),(2,.bool true),(7,.pointer (some ⟨S0.k,0,none⟩)),(8,.int .i64 y.2.2),(9,.int .i64 y.2.2)]) (fun y=>y.1.k=S0.k∧FlI k false y.2.2 y.2.1 y.1∧y.2.1.length=y.2.2∧y.2.2≤n)
  (fun y=>y.1.res) (fun y c=>KpF y.1 c) (S0,[],0) H HA Lk Ks ⟨rfl,FlI.zero hS0 hc0,rfl,Nat.zero_le _⟩ ?_
 clear H HA
 rintro ⟨S,J,i⟩ g c ⟨hk,hI,hJ,hin⟩ H HA
 dsimp only at hk hI hJ hin H HA ⊢
 have hFS : KpF S c:=HA.h.1
 have HA:=HA.cut.add hFS
 by_cases hlt : (i:Int)<(n:Int)
 ·(apply wc_seq;apply Y1;refine Z0 ?_;refine Z0 ?_;refine Z81 ?_;apply Y0;refine Z18 ?_;apply wc_skip;apply wx_next;apply wc_seq;apply wc_block;apply Y1;refine Z0 ?_;refine Z0 ?_)
  (refine s_call rfl rfl H HA (law_num stD (i:Int) _) ?_;intro v40 c H HA)
  obtain ⟨_,rfl,va,rfl,hva⟩:=HA.h.1
  have HA:=HA.cut.add hva
  (refine Z54 ?_)
  have HA:=HA.add (ag_fct (a:=numA stD (i:Int)) HA.h.1 rfl)
  have hPi : NumF (numA stD (i:Int)):=NumF.D (by omega) (by omega)
  have H : Owns _ (S.res++[]) c:=H
  have hp7 : (i+1) ^ k≤7000:=by
   have h1 : (i+1) ^ k≤n ^ k:=Nat.pow_le_pow_left (by omega) k
   omega
  refine s_callX rfl rfl H HA (Kept_AddK S (fctC (numA stD (i:Int))) _ _ hk hI.ok Lk Lk hPi.clOk hPi.normal (hI.okF (by omega) hk1 hk2 (by rw [hJ];exact hp7)) Lk Lk) ?_
  intro v42 R c H HA
  obtain ⟨S',vl,l,rfl,rfl,hF',hs',hk',hI'⟩:=hI.add (by omega) hk1 hk2 HA.h.1 (.inl rfl)
  have HA:=(HA.cut.add hF').add hs'
  (refine Z0 ?_;refine Z32 ?_;refine Z32 ?_)
  (refine s_alloc rfl (by conv=>lhs;whnf) H HA ?_;intro b7 c H HA)
  (repeat' (first|refine Z0 ?_|refine Z2 ?_|refine Z5 ?_|refine Z8 ?_|apply w_nil|apply wc_seq|apply wc_region|apply wx_next|refine Z74 fun c H HA=>?_|refine Z80 ?_))
  (apply s_neB;exact rfl;exact rfl;exact rfl;exact rfl)
  (repeat' (first|refine Z0 ?_|refine Z2 ?_|refine Z4 ?_|refine Z5 ?_|apply w_nil|apply wc_seq|apply wc_region|apply wx_next|refine Z18 ?_|refine Z19 ?_|apply wc_skip|apply wx_norm_block|refine Z30 ?_|refine Z33 ?_|refine Z46 ?_))
  have H:=H.drop
  exact wx_loopG ((S',J++[(i:Int)],i+1)) H Cu Lk Ks (by dsimp only;omega) ⟨hk'.trans hk,hI',by rw [List.length_append,List.length_singleton,hJ],by dsimp only;omega⟩
 obtain rfl : i=n:=by omega
 (apply wc_seq;apply Y1;refine Z0 ?_;refine Z0 ?_;refine Z81 ?_;apply Y0;refine Z19 ?_;apply wc_exit;apply wx_exit_then;apply wx_exit_then;apply wx_exit_same;apply wx_next;apply Y1;refine Z0 ?_;refine Z0 ?_;refine Z0 ?_)
 (refine s_call rfl rfl H HA (law_pow i k p0 _ hp0 (by omega) hk2) ?_;intro vx c H HP;have hvx:=HP.h.1;have HA:=HP.cut;subst hvx)
 (refine Z48 ?_;refine Z2 ?_;apply Y0;apply wc_seq;apply Y1;refine Z0 ?_;apply Y0;refine Z18 ?_;apply Y1;refine Z0 ?_;refine Z0 ?_)
 (refine s_call rfl rfl H HA (law_product k _ hk2) ?_;intro v46 c H HA)
 (skip)
 have H : Owns _ (S.res++[]) c:=H
 rw [←hk]
 refine s_callX rfl rfl H HA (Kept_Add S (prodC k) _ _ hI.ok Lk Lk (prod_ok hk1 hk2).1 (prod_ok hk1 hk2).2 (hI.okP hn2 hk1 hk2 (by rw [hJ];omega)) Lk Lk) ?_
 intro v97 R c H HA
 have hadp:=HA.h.1
 have HA:=HA.cut
 by_cases hw : i+p0 > 5000
 ·obtain ⟨vl,rfl,rfl,hF',hs'⟩:=hI.prodFull hn2 hk1 hk2 hadp (by rw [hJ,hp0];omega)
  have HA:=(HA.add hF').add hs'
  have hw1 : (5000:Int)<(i:Int)+(p0:Int):=by omega
  (refine Z0 ?_;refine Z32 ?_;refine Z32 ?_)
  (refine s_alloc rfl (by conv=>lhs;whnf) H HA ?_;intro b14 c H HA)
  (refine Z74 fun c H HA=>?_;refine Z2 ?_;apply Y0;apply wc_seq;apply Y1;refine Z0 ?_;refine Z84 ?_;apply Y0;refine Z18 ?_;apply Y1;refine Z0 ?_)
  (refine w_freeze H HA ?_;intro c H HA)
  have hfl:=hI.facts hn2 hk1 hk2
  rw [if_neg (by decide),hJ] at hfl
  have H : Owns _ (S.res++[]) c:=H
  refine s_callT (pre:=S.res) (post:=S.res) rfl rfl H HA (Kept_Facts S _ hI.ok Lk Lk) ?_
  intro v80 c H HA
  obtain ⟨out,hso,hlen⟩:=HA.h.1
  have HA:=HA.cut.add hso
  have hlen2 : ((out.length:Nat):Int)=(i:Int):=by omega
  (repeat' (first|refine Z0 ?_|refine Z1 ?_|refine Z2 ?_|refine Z3 ?_|refine Z4 ?_|refine Z8 ?_|apply w_nil|apply wc_seq|apply wc_region|apply wx_next|refine Z45 ?_|refine Z80 ?_))
  (refine s_call rfl rfl H HA (law_first _ Lk Lk) ?_;intro vx c H HP;have hvx:=HP.h.1;have HA:=HP.cut;subst hvx)
  (refine Z8 ?_;refine Z2 ?_;apply Y0;apply wc_ret;apply wx_ret_then;apply wx_ret_then)
  exact ret_fn H hm (outs1 Tryz.results4 Wh) rfl
 ·obtain ⟨S',vl,l,rfl,rfl,hF',hs',hll,hk',hI'⟩:=hI.prod hn2 hk1 hk2 hadp (by rw [hJ,hp0];omega)
  have HA:=(HA.add hF').add hs'
  rw [hJ,hp0] at hll
  have hw1 : ¬(5000:Int)<(i:Int)+(p0:Int):=by omega
  have hll1 : ((l.length:Nat):Int)=(p0:Int):=by omega
  (refine Z0 ?_;refine Z32 ?_;refine Z32 ?_)
  (refine s_alloc rfl (by conv=>lhs;whnf) H HA ?_;intro b14 c H HA)
  (refine Z74 fun c H HA=>?_;refine Z2 ?_;apply Y0;apply wc_seq;apply Y1;refine Z0 ?_;refine Z84 ?_;apply Y0;refine Z19 ?_;apply wc_skip;apply wx_next;apply wc_seq)
  (refine dw_start H HA ?_)
  (repeat (first|refine Dc ?_|refine Dm ?_))
  (apply dw_cons;(focus ((intro B _ Lx c H HA;(repeat (first|rintro vx rfl|(intro vx hx;have HA:=HA.addSF hx;clear hx)|(intro vx hx;have HA:=HA.add hx;clear hx)|intro vx));change W _ _ _ _ _ _ _);(apply s_go;exact rfl;exact rfl;exact rfl);(refine s_call rfl rfl H HA (law_pow i k p0 _ hp0 (by omega) hk2) ?_;intro vx c H HP;have hvx:=HP.h.1;have HA:=HP.cut;subst hvx);exact Dx));exact inferInstance)
  (repeat (first|refine Dc ?_|refine Dm ?_))
  (refine dw_done mixed H HA rfl (by kernel_rfl) ?_;clear H HA;intro c H HA;(repeat (first|rintro vx rfl|(intro vx hx;have HA:=HA.addSF hx;clear hx)|(intro vx hx;have HA:=HA.add hx;clear hx)|intro vx));change W _ _ _ _ _ _ _)
  (apply Y0;refine Z19 ?_;apply wc_skip;apply wx_next;apply Y1;refine Z0 ?_)
  have hfl:=hI'.facts hn2 hk1 hk2
  rw [if_pos rfl,hJ,hp0] at hfl
  have H : Owns _ (S'.res++[]) c:=H.drop
  rw [←hk']
  refine s_callT (pre:=S'.res) (post:=S'.res) rfl rfl H HA (Kept_Facts S' _ hI'.ok Lk Lk) ?_
  intro v80 c H HA
  obtain ⟨out,hso,hlen⟩:=HA.h.1
  have HA:=HA.cut.add hso
  have hlen2 : ((out.length:Nat):Int)=(i:Int)+(p0:Int):=by omega
  (refine Z2 ?_;apply Y2;refine Z0 ?_;refine Z45 ?_;refine Z0 ?_;refine Z80 ?_;refine Z0 ?_;refine Z4 ?_)
  (refine s_call rfl rfl H HA (law_first _ Lk Lk) ?_;intro vx c H HP;have hvx:=HP.h.1;have HA:=HP.cut;subst hvx)
  (refine Z8 ?_;refine Z2 ?_;apply Y0;apply wc_ret)
  exact ret_fn H hm (outs1 Tryz.results4 Wh) rfl
set_option maxHeartbeats 4000000 in
theorem law_Full (n k:Int) (late:Bool) (c:Cx) (hg:GlobOk c) (hp:Box 3 P10c c) : Cn Tryz.prog 4 [.int .i64 n,.int .i64 k,.bool late] c (fun v c=>v=.bool true):=by
 by_cases hw : 1≤n∧n≤72∧1≤k∧k≤4∧n.toNat ^ k.toNat≤7000
 ·obtain ⟨h1,h2,h3,h4,h5⟩:=hw
  obtain ⟨n,rfl⟩ : ∃m : Nat,n=(m:Int):=⟨n.toNat,by omega⟩
  obtain ⟨k,rfl⟩ : ∃m : Nat,k=(m:Int):=⟨k.toNat,by omega⟩
  rw [Int.toNat_natCast,Int.toNat_natCast] at h5
  cases late
  ·exact law_FullF n k _ c (by omega) (by omega) (by omega) (by omega) rfl h5 hg hp
  ·exact law_FullT n k _ c (by omega) (by omega) (by omega) (by omega) rfl h5 hg hp
 refine Cn.of Tryz.func4 Tryz.ntmps4 rfl rfl fun hm H HA=>?_
 have HA:=(HA.add hg).add hp
 have e0 : (0:Int)=0:=rfl
 have e102 : (102:Int)=102:=rfl
 have e103 : ¬(102:Int)=0:=by decide
 by_cases a1 : n<1
 ·(repeat' (first|refine Z0 ?_|refine Z2 ?_|refine Z5 ?_|refine Z8 ?_|apply w_nil|apply wc_seq|apply wc_region|apply wx_next|refine Z18 ?_|refine Z81 ?_))
  (refine s_call rfl rfl H HA (law_first _ Lk Lk) ?_;intro vx c H HP;have hvx:=HP.h.1;have HA:=HP.cut;subst hvx)
  (refine Z2 ?_;apply Y0;apply wc_ret;apply wx_ret_then)
  exact ret_fn H hm (outs1 Tryz.results4 Wh) rfl
 by_cases a2 : n > 72
 ·(repeat' (first|refine Z0 ?_|refine Z2 ?_|refine Z4 ?_|refine Z5 ?_|refine Z8 ?_|apply w_nil|apply wc_seq|apply wc_region|apply wx_next|refine Z18 ?_|refine Z30 ?_|refine Z81 ?_|refine Z84 ?_))
  (refine s_call rfl rfl H HA (law_first _ Lk Lk) ?_;intro vx c H HP;have hvx:=HP.h.1;have HA:=HP.cut;subst hvx)
  (refine Z2 ?_;apply Y0;apply wc_ret;apply wx_ret_then)
  exact ret_fn H hm (outs1 Tryz.results4 Wh) rfl
 by_cases a3 : k<1
 ·(repeat' (first|refine Z0 ?_|refine Z2 ?_|refine Z4 ?_|refine Z5 ?_|refine Z8 ?_|apply w_nil|apply wc_seq|apply wc_region|apply wx_next|refine Z18 ?_|refine Z30 ?_|refine Z81 ?_|refine Z84 ?_))
  (refine s_call rfl rfl H HA (law_first _ Lk Lk) ?_;intro vx c H HP;have hvx:=HP.h.1;have HA:=HP.cut;subst hvx)
  (refine Z2 ?_;apply Y0;apply wc_ret;apply wx_ret_then)
  exact ret_fn H hm (outs1 Tryz.results4 Wh) rfl
 by_cases a4 : k > 4
 ·(repeat' (first|refine Z0 ?_|refine Z2 ?_|refine Z4 ?_|refine Z5 ?_|refine Z8 ?_|apply w_nil|apply wc_seq|apply wc_region|apply wx_next|refine Z18 ?_|refine Z30 ?_|refine Z81 ?_|refine Z84 ?_))
  (refine s_call rfl rfl H HA (law_first _ Lk Lk) ?_;intro vx c H HP;have hvx:=HP.h.1;have HA:=HP.cut;subst hvx)
  (refine Z2 ?_;apply Y0;apply wc_ret;apply wx_ret_then)
  exact ret_fn H hm (outs1 Tryz.results4 Wh) rfl
 obtain ⟨n,rfl⟩ : ∃m : Nat,n=(m:Int):=⟨n.toNat,by omega⟩
 obtain ⟨k,rfl⟩ : ∃m : Nat,k=(m:Int):=⟨k.toNat,by omega⟩
 rw [Int.toNat_natCast,Int.toNat_natCast] at hw
 obtain ⟨p,hpe⟩ : ∃p,n ^ k=p:=⟨_,rfl⟩
 rw [hpe] at hw
 have a5 : (p:Int) > 7000:=by omega
 (repeat' (first|refine Z0 ?_|refine Z2 ?_|refine Z4 ?_|apply w_nil|apply wc_seq|apply wc_region|apply wx_next|refine Z30 ?_|refine Z81 ?_|refine Z84 ?_))
 (refine s_call rfl rfl H HA (law_pow n k p _ hpe (by omega) (by omega)) ?_;intro vx c H HP;have hvx:=HP.h.1;have HA:=HP.cut;subst hvx)
 (refine Z4 ?_;refine Z84 ?_;refine Z30 ?_;apply Y0;refine Z18 ?_;apply Y1)
 (refine s_call rfl rfl H HA (law_first _ Lk Lk) ?_;intro vx c H HP;have hvx:=HP.h.1;have HA:=HP.cut;subst hvx)
 (refine Z2 ?_;apply Y0;apply wc_ret;apply wx_ret_then)
 exact ret_fn H hm (outs1 Tryz.results4 Wh) rfl
end Go.Proofs.YtnppmeeibbefbaaGreatDoor
