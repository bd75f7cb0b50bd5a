/- a part of the proof: lemmas on walks, on plain data, contracts of functions. -/
import Derived.Test.YtnppmeeibbefbaaGreatDoorA5
import Derived.Test.YtnppmeeibbefbaaGreatDoorA8
set_option linter.all false
namespace Go.Wk
open Go Go.RowKit
theorem getq_none {κ:Type} [DecidableEq κ] {l:List (κ×RlS)} {p:κ} (h:kLook (l.map fun q=>(q.1,ptr q.2.b)) p=none) : ∀q∈l,q.1≠p:=fun q hq e=>by
 unfold kLook at h
 rw [Option.map_eq_none_iff] at h
 have:=List.find?_eq_none.1 h (q.1,ptr q.2.b) (List.mem_map.2 ⟨q,hq,rfl⟩)
 simp [e] at this
theorem getq_some {κ:Type} [DecidableEq κ] {l:List (κ×RlS)} {p:κ} {v:Value} (h:kLook (l.map fun q=>(q.1,ptr q.2.b)) p=some v) : ∃(j:Nat) (r:RlS),l[j]?=some (p,r)∧v=ptr r.b:=by
 unfold kLook at h
 rw [Option.map_eq_some_iff] at h
 obtain ⟨x,hx,rfl⟩:=h
 have h1:=List.mem_of_find?_eq_some hx
 have h2:=List.find?_some hx
 obtain ⟨q,hq,rfl⟩:=List.mem_map.1 h1
 obtain ⟨j,hj⟩:=List.getElem?_of_mem hq
 have h3 : q.1=p:=by simpa using h2
 exact ⟨j,q.2,by rw [hj,←h3],rfl⟩
theorem wx_thawZ {c0 c1 c:Cx} {R L:List Res} {Q:Exit→Act→World→Prop} {e:Exit} {n:Nat} {f:Nat→Value} {A1:Cx→Prop} (H:Owns c0 L c) (hF:FrZ c0 c1 R c) (HA1:Hd A1 c1) [Mono A1] (k:∀c',Owns c0 (R++L) c'→Hd A1 c'→WX Q e n f c'.w) : WX Q e n f c.w:=by
 obtain ⟨c',hw,hle,H'⟩:=H.thawZ hF
 rw [←hw]
 exact k c' H' (HA1.to hle)
def rkc (l:List Nat) : List Value:=(l.map fun (n:Nat)=>[Value.int .i64 (n:Int)]).flatten
theorem rkc_snoc (l:List Nat) (n:Nat) : rkc (l++[n])=rkc l++[.int .i64 (n:Int)]:=by simp [rkc]
theorem rkc_vals (l:List Nat) (c:Cx) : Vals (l.map fun (n:Nat)=>[Value.int .i64 (n:Int)]) (ints l) c:=⟨by simp [ints],fun i cs x h1 h2=>by
 simp only [ints,List.getElem?_map,Option.map_eq_some_iff] at h1 h2
 obtain ⟨a,ha,rfl⟩:=h1
 obtain ⟨b,hb,rfl⟩:=h2
 rw [ha] at hb
 cases hb
 rfl⟩
def BaS.more (B:BaS) (p:Pr) (r:RlS) : BaS:={ B with rels:=B.rels++[(p,r)] }
theorem BaS.more_part (B:BaS) (p:Pr) (r:RlS) (l:RlS→List En0) (h:l r=[]) : (B.more p r).part l=B.part l:=by
 simp only [BaS.part,BaS.more,List.flatMap_append,List.flatMap_cons,List.flatMap_nil,h,List.map_nil,List.append_nil]
theorem BaOk.more {B:BaS} {p:Pr} {b mr mi:Nat} (h:BaOk B) (hn:∀q∈B.rels,q.1≠p) (hw:p.ar+1<1073741824) (hs:p.name.size<4611686018427387904) : BaOk (B.more p (RlS.none_ b mr mi (p.ar+1))):=by
 refine ⟨h.nil,h.nd,h.tn,?_,?_,?_,h.sm.1,?_⟩
 ·show ((B.rels++[(p,_)]).map Prod.fst).Nodup
  rw [List.map_append,List.nodup_append]
  refine ⟨h.key,by simp,?_⟩
  intro a ha b hb
  simp only [List.map_cons,List.map_nil,List.mem_singleton] at hb
  subst hb
  obtain ⟨q,hq,rfl⟩:=List.mem_map.1 ha
  exact hn q hq
 ·intro q hq
  rcases List.mem_append.1 (show q∈B.rels++[(p,_)] from hq) with hq|hq
  ·exact h.rok q hq
  ·rw [List.mem_singleton.1 hq]
   exact ⟨RlOk.none_ hw,rfl⟩
 ·intro q hq
  rcases List.mem_append.1 (show q∈B.rels++[(p,_)] from hq) with hq|hq
  ·exact h.num q hq
  ·rw [List.mem_singleton.1 hq]
   intro e he
   cases he
 ·intro q hq
  rcases List.mem_append.1 (show q∈B.rels++[(p,_)] from hq) with hq|hq
  ·exact h.sm.2 q hq
  ·rw [List.mem_singleton.1 hq]
   exact hs
end Go.Wk
namespace Go.Proofs.YtnppmeeibbefbaaGreatDoor
open Go Go.Wk Go.RowKit
instance : Ent Tryz.prog 36:=.of Tryz.func36 (by kernel_rfl) (by kernel_rfl)
instance : TyD Tryz.prog 3 Int (fun q=>[Value.int .i64 q]):=⟨fun _ _=>rfl⟩
instance : TyI Tryz.prog 3 (.int .i64 0) 1 8:=.of (by kernel_rfl)
def relsR (l:List (Pr×RlS)) : List Res:=l.flatMap fun q=>q.2.res 155 161 158 197
def NumS (c0 c1:Cx) (b mr:Nat) (vals:List Tm) (t:Tm) (v:Value) (c:Cx) : Prop:=v=.int .i64 (numV vals t:Int)∧∃z : Nat×Value,FrZ c0 c1 (tbR b mr (some z.1) z.2 (addV vals t)) c
instance (c0 c1 : Cx) (b mr : Nat) (vals : List Tm) (t : Tm) (v : Value) : Mono (NumS c0 c1 b mr vals t v):=inferInstanceAs (Mono fun c=>v=.int .i64 (numV vals t:Int)∧∃z : Nat×Value,FrZ c0 c1 (tbR b mr (some z.1) z.2 (addV vals t)) c)
def baR (B:BaS) : List Res:=tbR B.b B.mr B.mn B.vv B.vals++(.obj B.mr (kObj prK B.rm)::relsR B.rels)
theorem relsR_pull {l:List (Pr×RlS)} {j:Nat} {q:Pr×RlS} (h:l[j]?=some q) : (relsR l).Perm (q.2.res 155 161 158 197++relsR (l.eraseIdx j)):=by
 have:=(perm_pull h).flatMap_right fun q=>q.2.res 155 161 158 197
 rwa [List.flatMap_cons] at this
def AddI (B B1:BaS) (j:Nat) (p:Pr) (r:RlS) : Prop:=BaOk B1∧B1.rels[j]?=some (p,r)∧B1.b=B.b∧B1.mr=B.mr∧B1.vals=B.vals∧B1.size=B.size∧B1.old=B.old∧B1.new=B.new∧B1.next=B.next
def BAddP (B:BaS) (f:At0) (R:List Res) (c:Cx) : Prop:=∃B',R=baR B'∧BaOk B'∧BaF B' c∧B'.b=B.b∧B'.vals≠[]∧B'.size≤B.size+1∧B'.vals.length≤B.vals.length+9 ∧
 (∀a,a∈B'.old↔a∈B.old)∧(∀a,a∈B'.new↔a∈B.new)∧(∀a,a∈B'.next↔a∈B.next∨(a=f∧a∉B.old∧a∉B.new))
theorem addV_sm {vals:List Tm} {t:Tm} (h:∀x∈vals,x.sm) (ht:t.sm) : ∀x∈addV vals t,x.sm:=by
 unfold addV
 cases posV vals t with
 | some i=>exact h
 | none =>
  intro x hx
  rcases List.mem_append.1 hx with hx|hx
  ·exact h x hx
  ·rw [List.mem_singleton.1 hx];exact ht
theorem numsV_sm : ∀(vals ts:List Tm),(∀x∈vals,x.sm)→(∀x∈ts,x.sm)→∀x∈(numsV vals ts).2,x.sm
 | vals,[],h,_=>h
 | vals,s::ts,h,h2=>numsV_sm (addV vals s) ts (addV_sm h (h2 s (.head _))) fun x hx=>h2 x (.tail _ hx)
theorem base_Add (B:BaS) (f:At0) (u:Value) (c:Cx) (hB:BaOk B) (hF:BaF B c) (h:Ag f u c) (hf:isFact f) (hg:Box 1 Tn.cs c) (hl:B.vals.length+9<1073741824) (hs:B.size+1<1073741824) :
  CnTX Tryz.prog 36 [ptr B.b,u] (baR B) c (fun _ R c=>BAddP B f R c):=by
 refine CnTX.of Tryz.func36 Tryz.ntmps36 rfl rfl fun c0 L0 A0 _ H HA=>?_
 have HA:=((HA.add hF).add h).add hg
 obtain ⟨p,hp⟩ : ∃p : Pr,p=⟨f.name,f.args.length⟩:=⟨_,rfl⟩
 (apply wc_seq;apply wc_region)
 (refine s_boxG rfl rfl Lk H HA ?_;intro pb c H HA)
 (refine Z2 ?_;refine Z2 ?_;apply Y0;apply wc_seq;apply Y1;refine Z39 HA fun vx HA=>?_)
 (refine s_call rfl rfl H HA (term_Fact f _ _ Lk hf Lk) ?_;intro vx c H HP;have hvx:=HP.h.1;have HA:=HP.cut;subst hvx)
 (refine Z33 ?_;apply Y0;refine Z19 ?_;apply wc_skip;apply wx_next;apply wc_seq)
 have H : Owns c0 (.obj B.b (.cells (baseC B.mn B.vv B.mr).toArray 116 (0,0))::.row B.vv 32 3 B.vals.length (B.vals.map Tm.cs).flatten::.obj B.mr (kObj prK B.rm)::(tbM B.mn B.vals++(relsR B.rels++L0))) c:=by
  refine H.perm ?_
  rw [baR,tbR]
  exact Pm
 (refine dw_start H HA ?_)
 (repeat (first|refine Dc ?_|refine Dm ?_))
 (apply dw_cons;(focus ((intro B _ Lx c H HA;(repeat (first|rintro vx rfl|(intro vx hx;have HA:=HA.addSF hx;clear hx)|(intro vx hx;have HA:=HA.add hx;clear hx)|intro vx));change W _ _ _ _ _ _ _);(refine s_call rfl rfl H HA (base_pred f _ _ Lk) ?_;intro vx c H HP;have hvx:=HP.h.1;have HA:=HP.cut;subst hvx);exact Dx));exact inferInstance)
 (apply dw_cons;(focus ((intro B _ Lx c H HA;(repeat (first|rintro vx rfl|(intro vx hx;have HA:=HA.addSF hx;clear hx)|(intro vx hx;have HA:=HA.add hx;clear hx)|intro vx));change W _ _ _ _ _ _ _);(refine s_lookKF (q:=p) rfl rfl (by rw [hp];rfl) H (List.mem_append_right _ (.tail _ (.tail _ (.head _)))) ?_);exact Dx));exact inferInstance)
 (repeat (refine Dc ?_))
 (refine dw_done mixed H HA rfl (by kernel_rfl) ?_;clear H HA;intro c H HA;(repeat (first|rintro vx rfl|(intro vx hx;have HA:=HA.addSF hx;clear hx)|(intro vx hx;have HA:=HA.add hx;clear hx)|intro vx));change W _ _ _ _ _ _ _)
 apply w_nil
 apply wx_next
 refine wc_cut (fun f' c=>∃B1 j r,KS f' [(0,ptr B.b),(3,pb),(6,ptr r.b)]∧AddI B B1 j p r∧Owns c0 (baR B1++L0) c∧Hd (fun c=>BaF B1 c∧Pt f pb c∧Box 1 Tn.cs c∧A0 c) c) ?_ ?_
 ·cases hlk : kLook B.rm p with
  | some v =>
   obtain ⟨j,r,hj,rfl⟩:=getq_some hlk
   (apply Y1;refine Z0 ?_;(refine s_nilP rfl rfl ?_);apply Y0;refine Z19 ?_;apply wc_skip)
   have hFc : BaF B c:=Lk
   have hpc : Pt f pb c:=Lk
   have hgc : Box 1 Tn.cs c:=Lk
   have H : Owns c0 (baR B++L0) c:=by
    refine H.perm ?_
    rw [baR,tbR]
    exact Pm
   exact wx_cut ⟨B,j,r,Ks,⟨hB,hj,rfl,rfl,rfl,rfl,rfl,rfl,rfl⟩,H,(((Ca:Hd A0 c).add hgc).add hpc).add hFc⟩
  | none =>
   have h8:=hf.2.2.2.2
   (apply Y1;refine Z0 ?_;(refine s_nilP rfl rfl ?_);apply Y0;refine Z18 ?_;apply Y1;refine Z35 HA fun vx HA=>?_;refine Z37 HA fun vx HA=>?_;refine Z45 ?_;refine Z46 ?_)
   refine s_callX rfl rfl H HA (rel_New (f.args.length+1) (by omega) _) ?_
   intro v R c H HA
   obtain ⟨rb,rmr,rmi,rfl,rfl⟩:=HA.h.1
   have HA:=HA.cut
   (repeat' (first|refine Z0 ?_|refine Z2 ?_|apply w_nil|apply wc_seq|apply wc_region|apply wx_next|refine Z18 ?_|refine Z19 ?_|apply wc_ret|apply wc_skip|apply wx_ret_then|refine Z32 ?_|refine Z94 (fun hq=>?_) fun hq=>?_))
   ·exact absurd rfl hq
   have H : Owns c0 (.obj B.mr (kObj prK B.rm)::.obj B.b (.cells (baseC B.mn B.vv B.mr).toArray 116 (0,0))::.row B.vv 32 3 B.vals.length (B.vals.map Tm.cs).flatten::((RlS.none_ rb rmr rmi (f.args.length+1)).res 155 161 158 197++(tbM B.mn B.vals++(relsR B.rels++L0)))) c:=H.perm Pm
   (refine dw_start H HA ?_)
   (repeat (first|refine Dc ?_|refine Dm ?_))
   (apply dw_cons;(focus ((intro B _ Lx c H HA;(repeat (first|rintro vx rfl|(intro vx hx;have HA:=HA.addSF hx;clear hx)|(intro vx hx;have HA:=HA.add hx;clear hx)|intro vx));change W _ _ _ _ _ _ _);(refine s_call rfl rfl H HA (base_pred f _ _ Lk) ?_;intro vx c H HP;have hvx:=HP.h.1;have HA:=HP.cut;subst hvx);exact Dx));exact inferInstance)
   (repeat (refine Dc ?_))
   (refine dw_done mixed H HA rfl (by kernel_rfl) ?_;clear H HA;intro c H HA;(repeat (first|rintro vx rfl|(intro vx hx;have HA:=HA.addSF hx;clear hx)|(intro vx hx;have HA:=HA.add hx;clear hx)|intro vx));change W _ _ _ _ _ _ _)
   (refine s_updK (q:=p) (v:=ptr rb) rfl (by rw [hp];rfl) rfl H HA ?_;intro c H HA)
   rw [kSet_new hlk] at H
   (apply w_nil)
   have hFc : BaF B c:=Lk
   have hpc : Pt f pb c:=Lk
   have hgc : Box 1 Tn.cs c:=Lk
   have har : p.ar=f.args.length:=by rw [hp]
   obtain ⟨rn,hrn⟩ : ∃rn,rn=RlS.none_ rb rmr rmi (p.ar+1):=⟨_,rfl⟩
   have hok : BaOk (B.more p rn):=by rw [hrn];exact hB.more (getq_none hlk) (by omega) (by rw [hp];exact hf.2.2.2.1)
   have e0 : rn.all=[]:=by rw [hrn];rfl
   have H : Owns c0 (baR (B.more p rn)++L0) c:=by
    have e1 : (B.more p rn).rm=B.rm++[(p,ptr rb)]:=by
     show (B.rels++[(p,rn)]).map _=_
     rw [List.map_append,hrn]
     rfl
    have e2 : relsR (B.more p rn).rels=relsR B.rels++rn.res 155 161 158 197:=by
     show relsR (B.rels++[(p,rn)])=_
     simp [relsR]
    rw [←har,←hrn] at H
    refine H.perm ?_
    rw [baR,e1,e2]
    show List.Perm _ ((.obj B.b (.cells (baseC B.mn B.vv B.mr).toArray 116 (0,0))::.row B.vv 32 3 B.vals.length (B.vals.map Tm.cs).flatten::tbM B.mn B.vals)++(.obj B.mr (kObj prK (B.rm++[(p,ptr rb)]))::(relsR B.rels++rn.res 155 161 158 197))++L0)
    exact Pm
   have hF2 : BaF (B.more p rn) c:=by
    intro q hq
    rcases List.mem_append.1 (show q∈B.rels++[(p,rn)] from hq) with hq|hq
    ·exact hFc q hq
    ·rw [List.mem_singleton.1 hq,hrn]
     exact RlF.none_ ..
   have hsz : (B.more p rn).size=B.size:=by
    show ((B.rels++[(p,rn)]).map _).sum=_
    rw [List.map_append,List.sum_append,List.map_cons,e0]
    simp [BaS.size]
   have e3 : rn.b=rb:=by rw [hrn];rfl
   exact wx_cut ⟨B.more p rn,B.rels.length,rn,by rw [e3];exact Ks,⟨hok,by show (B.rels++[(p,rn)])[B.rels.length]?=_;simp,rfl,rfl,rfl,hsz,B.more_part p rn RlS.eo (by rw [hrn];rfl),B.more_part p rn RlS.en (by rw [hrn];rfl),B.more_part p rn RlS.ex (by rw [hrn];rfl)⟩,H,(((Ca:Hd A0 c).add hgc).add hpc).add hF2⟩
 ·rintro f' c ⟨B1,j,r,hk,hI,H,HA⟩
  obtain ⟨g,rfl⟩:=hk.ex
  clear hk
  obtain ⟨hok,hj,hb,hmr,hvals,hsz,ho,hnw,hx⟩:=hI
  have hprm : (baR B1++L0).Perm (.obj B1.b (.cells (baseC B1.mn B1.vv B1.mr).toArray 116 (0,0))::.row B1.vv 32 3 B1.vals.length (B1.vals.map Tm.cs).flatten::(tbM B1.mn B1.vals++(.obj B1.mr (kObj prK B1.rm)::(relsR B1.rels++L0)))):=by
   rw [baR,tbR]
   exact Pm
  have H:=H.perm hprm
  (apply wc_seq)
  (refine dw_start H HA ?_)
  (repeat (first|refine Dc ?_|refine Dm ?_))
  (refine dw_done mixed H HA rfl (by kernel_rfl) ?_;clear H HA;intro c H HA;(repeat (first|rintro vx rfl|(intro vx hx;have HA:=HA.addSF hx;clear hx)|(intro vx hx;have HA:=HA.add hx;clear hx)|intro vx));change W _ _ _ _ _ _ _)
  have hby:=hf.2.1
  rw [hby]
  have hvl : B1.vals.length+9<1073741824:=by rw [hvals];exact hl
  obtain ⟨hz1,hz2⟩:=posV_zero hok.tn
  have H : Owns c0 (tbR B1.b B1.mr B1.mn B1.vv B1.vals++(.obj B1.mr (kObj prK B1.rm)::(relsR B1.rels++L0))) c:=H
  rw [←hb]
  refine s_callX rfl rfl H HA (base_number B1.b B1.mr B1.mn B1.vv B1.vals Tn hok.nil (by omega) _) ?_
  intro v R c H HA
  obtain ⟨rfl,m1,vv1,rfl⟩:=HA.h.1
  have HA:=HA.cut
  rw [hz1]
  obtain ⟨v1,hv1⟩ : ∃v1,v1=addV B1.vals Tn:=⟨_,rfl⟩
  have hv1l:=addV_len B1.vals Tn
  rw [←hv1] at H hv1l hz2
  (refine s_bs1O (α:=Int) (cv:=fun q=>[Value.int .i64 q]) (u:=((0:Nat):Int)) rfl rfl rfl rfl rfl rfl H HA inferInstance ?_;intro vr c H HA)
  (refine Z2 ?_;apply Y0;apply wc_seq;apply Y1;refine Z35 HA fun vx HA=>?_;refine Z37 HA fun vx HA=>?_;refine Z45 ?_;refine Z0 ?_;apply Y0;apply wc_block)
  (obtain ⟨va,rfl⟩:∃x,x=vx:=⟨_,rfl⟩)
  have hSa : Sl va f.args c:=Lk
  have hal:=hf.2.2.2.2
  have H : Owns c0 (.row vr 3 1 (rowV v1 (f.args.take 0)).length (rkc (rowV v1 (f.args.take 0)))::(tbR B1.b B1.mr (some m1) vv1 (numsV v1 (f.args.take 0)).2++(.obj B1.mr (kObj prK B1.rm)::(relsR B1.rels++L0)))) c:=H
  refine wc_loopG (σ:=Nat×Value×Nat×Value) (fun y=>f.args.length-y.1) (fun y=>[(0,ptr B1.b),(3,pb),(6,ptr r.b),(9,y.2.1),(51,va),(52,.int .i64 f.args.length),(53,.int .i64 y.1)]) (fun y=>y.1≤f.args.length)
   (fun y=>.row y.2.1 3 1 (rowV v1 (f.args.take y.1)).length (rkc (rowV v1 (f.args.take y.1)))::(tbR B1.b B1.mr (some y.2.2.1) y.2.2.2 (numsV v1 (f.args.take y.1)).2++(.obj B1.mr (kObj prK B1.rm)::(relsR B1.rels++L0)))) (fun _=>Tt) (0,vr,m1,vv1) H HA trivial Ks (Nat.zero_le _) ?_
  clear H HA
  intro y g c hk H HA
  obtain ⟨k,vr,m,vv⟩:=y
  dsimp only at hk H HA ⊢
  (repeat' (first|refine Z0 ?_|apply w_nil|apply wc_seq|apply wc_region|apply wx_next|refine Z18 ?_|refine Z19 ?_|apply wc_exit|apply wc_skip|apply wc_block|apply wx_exit_then|apply wx_exit_same|refine Z93 (fun hq=>?_) fun hq=>?_))
  ·obtain ⟨t,ht⟩:=getq (xs:=f.args) (k:=k) (by omega)
   (refine Z34 HA fun vx HA=>?_;refine Z38 ?_)
   (refine s_alloc (cs:=Tn.cs) rfl rfl H HA ?_;intro b11 c H HA)
   (refine Z74 fun c H HA=>?_;apply Y0)
   have H : Owns c0 ((tbR B1.b B1.mr (some m) vv (numsV v1 (f.args.take k)).2++[])++(.obj b11 (.cells t.cs.toArray 32 (0,0))::.row vr 3 1 (rowV v1 (f.args.take k)).length (rkc (rowV v1 (f.args.take k)))::(.obj B1.mr (kObj prK B1.rm)::(relsR B1.rels++L0)))) c:=by
    have H0 : Owns c0 (.obj b11 (.cells t.cs.toArray 32 (0,0))::.row vr 3 1 (rowV v1 (f.args.take k)).length (rkc (rowV v1 (f.args.take k)))::(tbR B1.b B1.mr (some m) vv (numsV v1 (f.args.take k)).2++(.obj B1.mr (kObj prK B1.rm)::(relsR B1.rels++L0)))) c:=H
    rw [List.append_nil]
    exact H0.perm Pm
   have hnl:=numsV_le v1 (f.args.take k)
   rw [List.length_take] at hnl
   obtain ⟨c1,hc1⟩ : ∃c1,c1=c:=⟨c,rfl⟩
   have HS : Since c1 c:=by rw [hc1];exact Le.refl c
   have HA:=HA.add HS
   have HA1:=HA
   rw [←hc1] at HA1
   refine dw_startE (I:=tbR B1.b B1.mr (some m) vv (numsV v1 (f.args.take k)).2++[]) H HA ?_
   (repeat (first|refine Dc ?_|refine Dm ?_))
   refine dw_consT (pr:=tbR B1.b B1.mr (some m) vv (numsV v1 (f.args.take k)).2) (po:=[]) (S:=NumS c0 c1 B1.b B1.mr (numsV v1 (f.args.take k)).2 t) ?_ inferInstance ?_
   ·(intro B _ Lx c HA;(repeat (first|rintro vx rfl|(intro vx hx;have HA:=HA.addSF hx;clear hx)|(intro vx hx;skip;have HA:=HA.add hx;clear hx)|(intro vx;have hvx2:Go.Value:=vx;clear hvx2)));(first|intro H|(have H:=HA.h.1;have HA:=HA.cut));change W _ _ _ _ _ _ _)
    refine s_callX rfl rfl H HA (base_number B1.b B1.mr (some m) vv (numsV v1 (f.args.take k)).2 t (fun h=>by cases h) (by omega) _) ?_
    intro v R c H HA
    obtain ⟨rfl,m',vv',rfl⟩:=HA.h.1
    have HA:=HA.cut
    obtain ⟨c',hw,hle,H',hz⟩:=H.freezeZ (c1:=c1) Lk
    rw [←hw]
    exact w_nil (pq_turn H' (HA.to hle) ⟨rfl,(m',vv'),hz⟩)
   refine dw_cons (s:=.rel fun u c=>SlV [(numV (numsV v1 (f.args.take k)).2 t:Int)] [[Value.int .i64 (numV (numsV v1 (f.args.take k)).2 t:Int)]] u c) ?_ inferInstance ?_
   ·(intro B _ Lx c H HA;(repeat (first|rintro vx rfl|(intro vx hx;have HA:=HA.addSF hx;clear hx)|(intro vx hx;have HA:=HA.add hx;clear hx)|intro vx));change W _ _ _ _ _ _ _)
    obtain ⟨hx,_⟩ : NumS c0 c1 B1.b B1.mr (numsV v1 (f.args.take k)).2 t _ c:=Lk
    subst hx
    refine s_bs1V (α:=Int) (cs:=[Value.int .i64 (numV (numsV v1 (f.args.take k)).2 t:Int)]) (u:=(numV (numsV v1 (f.args.take k)).2 t:Int)) rfl rfl rfl rfl rfl rfl H HA inferInstance ?_
    intro vx c H HA
    exact w_nil (pq_rel H Cu HA.h.1)
   refine dw_doneT mixed (I:=tbR B1.b B1.mr (some m) vv (numsV v1 (f.args.take k)).2++[]) (by kernel_rfl) H HA (by kernel_rfl) ?_
   clear H HA
   intro c HA v62 h62 v63 h63 H
   change W _ _ _ _ _ _ _
   have HA:=(HA.add h62).add h63
   have H : Owns c0 (.obj b11 (.cells t.cs.toArray 32 (0,0))::.row vr 3 1 (rowV v1 (f.args.take k)).length (rkc (rowV v1 (f.args.take k)))::(.obj B1.mr (kObj prK B1.rm)::(relsR B1.rels++L0))) c:=H
   have hrl : (rowV v1 (f.args.take k)).length=k+1:=by rw [rowV,List.length_cons,numsV_len,List.length_take];omega
   refine s_appV rfl rfl rfl (Lk:SlV [(numV (numsV v1 (f.args.take k)).2 t:Int)] [[Value.int .i64 (numV (numsV v1 (f.args.take k)).2 t:Int)]] _ _) rfl rfl rfl (by simp only [List.length_cons,List.length_nil,LIM];omega) H.drop HA inferInstance ?_
   intro v64 c H HA
   (refine Z2 ?_;apply w_nil;apply wx_norm_block;apply wx_next;apply wc_region;refine Z46 ?_;refine Z0 ?_;apply w_nil)
   obtain ⟨_,z,hz⟩ : NumS c0 c1 B1.b B1.mr (numsV v1 (f.args.take k)).2 t v62 c:=Lk
   refine wx_thawZ H hz HA1 ?_
   clear H HA
   intro c H HA
   have e1 : f.args.take (k+1)=f.args.take k++[t]:=by rw [List.take_add_one,ht];rfl
   have e2:=numsV_snoc v1 (f.args.take k) t
   rw [←e1] at e2
   have e3 : rowV v1 (f.args.take (k+1))=rowV v1 (f.args.take k)++[numV (numsV v1 (f.args.take k)).2 t]:=by rw [rowV,e2];rfl
   have e4 : (numsV v1 (f.args.take (k+1))).2=addV (numsV v1 (f.args.take k)).2 t:=by rw [e2]
   have H : Owns c0 (.row v64 3 1 (rowV v1 (f.args.take (k+1))).length (rkc (rowV v1 (f.args.take (k+1))))::(tbR B1.b B1.mr (some z.1) z.2 (numsV v1 (f.args.take (k+1))).2++(.obj B1.mr (kObj prK B1.rm)::(relsR B1.rels++L0)))) c:=by
    rw [e3,e4,List.length_append,rkc_snoc]
    refine H.perm ?_
    exact List.perm_middle
   exact wx_loopG ((k+1,v64,z.1,z.2)) H Cu trivial Ks (by dsimp only;omega) (by dsimp only;omega)
  ·have e0 : f.args.take k=f.args:=List.take_of_length_le (by omega)
   rw [e0] at H
   obtain ⟨row,hrow⟩ : ∃row,row=rowV v1 f.args:=⟨_,rfl⟩
   obtain ⟨vs2,hvs2⟩ : ∃vs2,vs2=(numsV v1 f.args).2:=⟨_,rfl⟩
   have hnl:=numsV_le v1 f.args
   have hvl2 : B1.vals.length=B.vals.length:=by rw [hvals]
   rw [←hvs2] at H hnl
   rw [←hrow] at H
   have hrl : row.length=f.args.length+1:=by rw [hrow,rowV,List.length_cons,numsV_len]
   have hr0 : row[0]?=some 0:=by rw [hrow];rfl
   have hpre : ∀(i:Nat) (x:Tm),B1.vals[i]?=some x→vs2[i]?=some x:=fun i x hx=>by
    rw [hvs2]
    exact numsV_pre _ _ (by rw [hv1];exact addV_pre hx)
   have hz3 : vs2[0]?=some Tn:=by rw [hvs2];exact numsV_pre _ _ hz2
   have hnd2 : vs2.Nodup:=by rw [hvs2];exact numsV_nd _ _ (by rw [hv1];exact addV_nd hok.nd)
   have hvsm : ∀t∈vs2,t.sm:=by
    rw [hvs2]
    refine numsV_sm _ _ ?_ (isFact_sm hf)
    rw [hv1]
    exact addV_sm hok.sm.1 (show ES.size<4611686018427387904 by decide)
   have hrn : ∀n∈row,n<vs2.length:=by
    intro n hn
    rw [hrow,rowV] at hn
    rcases List.mem_cons.1 hn with rfl|hn
    ·exact (List.getElem?_eq_some_iff.1 hz3).1
    ·obtain ⟨i,hi⟩:=List.getElem?_of_mem hn
     obtain ⟨t,ht⟩:=getq (xs:=f.args) (k:=i) (by rw [←numsV_len v1 f.args];exact (List.getElem?_eq_some_iff.1 hi).1)
     rw [hvs2]
     exact (List.getElem?_eq_some_iff.1 (numsV_get _ _ hi ht)).1
   have hsm : smN row:=fun n hn=>by have:=hrn n hn;omega
   have hfr : factOf vs2 f.name row=f:=by rw [hvs2,hrow];exact factOf_row hby
   obtain ⟨B2,hB2⟩ : ∃B2,B2=B1.ext m vv vs2:=⟨_,rfl⟩
   have hok2 : BaOk B2:=by rw [hB2];exact hok.ext hpre hnd2 hz3 hvsm
   have hj2 : B2.rels[j]?=some (p,r):=by rw [hB2];exact hj
   have ho2 : B2.old=B.old:=by rw [←ho,hB2];exact ext_part hok hpre eo_all
   have hn2 : B2.new=B.new:=by rw [←hnw,hB2];exact ext_part hok hpre en_all
   have hx2 : B2.next=B.next:=by rw [←hx,hB2];exact ext_part hok hpre ex_all
   have hthere:=row_there hok2 hj2 hp (by rw [hB2];exact hfr) hrl hr0 (by rw [hB2];exact hrn)
   obtain ⟨hrok,hrw⟩:=hok.rok (p,r) (List.mem_of_getElem? hj)
   have hrw : r.width=f.args.length+1:=by rw [hrw,hp]
   have hsz1:=size_get hj
   have HA:=HA.add (rkc_vals row c)
   (refine w_freezeRow (xs:=ints row) H HA Lk (ints_len row).symm rfl (by simp only [LIM];omega) ?_;intro c H HA)
   have hFc : BaF B1 c:=Lk
   have H : Owns c0 (r.res 155 161 158 197++(tbR B1.b B1.mr (some m) vv vs2++(.obj B1.mr (kObj prK B1.rm)::(relsR (B1.rels.eraseIdx j)++L0)))) c:=by
    refine H.perm ((List.Perm.append_left _ (List.Perm.cons _ ((relsR_pull hj).append_right _))).trans ?_)
    exact Pm
   refine s_callX rfl rfl H HA (rel_Add r row vr _ hrok (hFc (p,r) (List.mem_of_getElem? hj)) Lk (by omega) hr0 hsm (by have:r.all.length≤B1.size:=hsz1;omega)) ?_
   intro v R c H HA
   have hadd : AddP r row v R c:=HA.h.1
   have HA:=HA.cut
   have hFc : BaF B1 c:=Lk
   rcases hadd with ⟨hex,rfl,rfl⟩|⟨hnx,rfl,e,nv,cnt,ix,he,hrok',hrF,rfl⟩
   ·(refine Z32 ?_;refine Z32 ?_;refine Z2 ?_;refine Z2 ?_;apply Y0;apply wc_ret)
    have H : Owns c0 (baR B2++L0) c:=by
     refine H.perm (List.Perm.trans ?_ (List.Perm.append_right L0 (List.Perm.append_left (tbR B1.b B1.mr (some m) vv vs2) (List.Perm.cons (Res.obj B1.mr (kObj prK B1.rm)) (relsR_pull hj).symm))) |>.trans (by rw [hB2];exact List.Perm.refl _))
     exact Pm
    refine ret_fnX H Ca (outs2 Tryz.results36 Wh Wh) ⟨B2,rfl,hok2,by rw [hB2];exact hFc,by rw [hB2];exact hb,(by rw [hB2];intro h;rw [show vs2=[] from h] at hz3;cases hz3),by rw [hB2];show B1.size≤_;omega,by rw [hB2];show vs2.length≤_;omega,?_,?_,?_⟩
    ·intro a;rw [ho2]
    ·intro a;rw [hn2]
    ·intro a
     rw [hx2]
     refine ⟨.inl,?_⟩
     rintro (ha|⟨rfl,h1,h2⟩)
     ·exact ha
     ·rcases hthere.1 hex with h|h|h
      ·exact absurd (ho2▸h) h1
      ·exact absurd (hn2▸h) h2
      ·exact hx2▸h
   ·(refine Z32 ?_;refine Z32 ?_;refine Z2 ?_;refine Z2 ?_;apply Y0;apply wc_ret)
    obtain ⟨r',hr'⟩ : ∃r',r'=r.put e nv cnt ix:=⟨_,rfl⟩
    rw [←hr'] at H hrok' hrF
    have hb' : r'.b=r.b:=by rw [hr'];rfl
    have hall : r'.all=r.all++[e]:=by rw [hr'];exact RlS.put_all ..
    have hjl:=(List.getElem?_eq_some_iff.1 hj).1
    have hsj : (B1.rels.set j (p,r'))[j]?=some (p,r'):=by simp [hjl]
    have hpl:=relsR_pull hsj
    rw [List.eraseIdx_set_eq] at hpl
    obtain ⟨B3,hB3⟩ : ∃B3,B3=B2.setR j (p,r'):=⟨_,rfl⟩
    have hok3 : BaOk B3:=by
     rw [hB3]
     refine hok2.setR hj2 hrok' ?_ ?_
     ·have : r'.width=r.width:=by rw [hr'];rfl
      rw [this,hrw,hp]
     ·intro x hx n hn
      rw [hall,List.mem_append,List.mem_singleton] at hx
      rcases hx with hx|rfl
      ·exact hok2.num (p,r) (List.mem_of_getElem? hj2) x hx n hn
      ·rw [he] at hn
       rw [hB2]
       exact hrn n hn
    have hF3 : BaF B3 c:=by
     rw [hB3,hB2]
     intro q hq
     rcases List.mem_or_eq_of_mem_set (show q∈B1.rels.set j (p,r') from hq) with hq|rfl
     ·exact hFc q hq
     ·exact hrF
    have hrm3 : B3.rm=B1.rm:=by
     rw [hB3,hB2]
     exact map_set_same (g:=fun q:Pr×RlS=>(q.1,ptr q.2.b)) (b:=(p,r')) hj (by simp only [hb'])
    have H : Owns c0 (baR B3++L0) c:=by
     have e5 : baR B3=tbR B1.b B1.mr (some m) vv vs2++(.obj B1.mr (kObj prK B3.rm)::relsR (B1.rels.set j (p,r'))):=by rw [hB3,hB2];rfl
     rw [e5,hrm3]
     refine H.perm (List.Perm.trans ?_ (List.Perm.append_right L0 (List.Perm.append_left (tbR B1.b B1.mr (some m) vv vs2) (List.Perm.cons (Res.obj B1.mr (kObj prK B1.rm)) hpl.symm))))
     exact Pm
    have hsz3:=setR_size (r':=r') hj2
    rw [←hB3,hall,List.length_append,List.length_singleton] at hsz3
    have hsz4 : B2.size=B1.size:=by rw [hB2];rfl
    have heo : r'.eo=r.eo:=by rw [hr'];rfl
    have hen : r'.en=r.en:=by rw [hr'];rfl
    have hfe : factOf B2.vals p.name e.row=f:=by rw [he,hp,hB2];exact hfr
    have hno : ¬(f∈B2.old∨f∈B2.new∨f∈B2.next):=fun h=>hnx (hthere.2 h)
    refine ret_fnX H Ca (outs2 Tryz.results36 Wh Wh) ⟨B3,rfl,hok3,hF3,by rw [hB3,hB2];exact hb,(by rw [hB3,hB2];intro h;rw [show vs2=[] from h] at hz3;cases hz3),by omega,by rw [hB3,hB2];show vs2.length≤_;omega,?_,?_,?_⟩
    ·intro a
     have : B3.old=B2.old:=by rw [hB3];exact setR_part hj2 heo
     rw [this,ho2]
    ·intro a
     have : B3.new=B2.new:=by rw [hB3];exact setR_part hj2 hen
     rw [this,hn2]
    ·intro a
     have h9:=setR_next (e:=e) (nv:=nv) (cnt:=cnt) (ix:=ix) hj2 a
     rw [←hr',←hB3,hfe,hx2] at h9
     rw [h9]
     rw [ho2,hn2] at hno
     constructor
     ·rintro (h|rfl)
      ·exact .inl h
      ·exact .inr ⟨rfl,fun h=>hno (.inl h),fun h=>hno (.inr (.inl h))⟩
     ·rintro (h|⟨h,_⟩)
      ·exact .inl h
      ·exact .inr h
end Go.Proofs.YtnppmeeibbefbaaGreatDoor
namespace Go.Wk
open Go Go.RowKit
theorem turn_all (r:RlS) (cnt:List Int) : (r.turn cnt).all=r.all:=by simp [RlS.turn,RlS.all]
theorem RlOk.turn {r:RlS} {cnt:List Int} (h:RlOk r) (hc:cnt.length=8) : RlOk (r.turn cnt) :=
 ⟨hc,by rw [turn_all];exact h.wd,by rw [turn_all];exact h.hd,by rw [turn_all];exact h.sm,by rw [turn_all];exact h.nd,by rw [turn_all];exact h.lim,h.wl,h.one,by rw [turn_all];exact h.ixo⟩
theorem RlF.turn {r:RlS} {cnt:List Int} {c:Cx} (h:RlF r c) : RlF (r.turn cnt) c:=⟨by rw [turn_all];exact h.1,h.2⟩
def TurnL (l l':List (Pr×RlS)) : Prop:=l'.length=l.length∧∀(i:Nat) (q:Pr×RlS),l[i]?=some q→∃cnt : List Int,cnt.length=8∧l'[i]?=some (q.1,q.2.turn cnt)
theorem TurnL.get {l l':List (Pr×RlS)} (h:TurnL l l') {q':Pr×RlS} (hq:q'∈l') : ∃q∈l,∃cnt : List Int,cnt.length=8∧q'=(q.1,q.2.turn cnt):=by
 obtain ⟨i,hi⟩:=List.getElem?_of_mem hq
 obtain ⟨q,hq2⟩:=getq (xs:=l) (k:=i) (by rw [←h.1];exact (List.getElem?_eq_some_iff.1 hi).1)
 obtain ⟨cnt,h1,h2⟩:=h.2 i q hq2
 rw [hi] at h2
 exact ⟨q,List.mem_of_getElem? hq2,cnt,h1,Option.some.inj h2⟩
theorem TurnL.put {l l':List (Pr×RlS)} (h:TurnL l l') {q:Pr×RlS} (hq:q∈l) : ∃cnt : List Int,(q.1,q.2.turn cnt)∈l':=by
 obtain ⟨i,hi⟩:=List.getElem?_of_mem hq
 obtain ⟨cnt,_,h2⟩:=h.2 i q hi
 exact ⟨cnt,List.mem_of_getElem? h2⟩
theorem TurnL.map {α:Type} {l l':List (Pr×RlS)} (h:TurnL l l') (g:Pr×RlS→α) (hg:∀(q:Pr×RlS) cnt,g (q.1,q.2.turn cnt)=g q) : l'.map g=l.map g:=by
 apply List.ext_getElem?
 intro i
 rw [List.getElem?_map,List.getElem?_map]
 cases hi : l[i]? with
 | none =>
  have : l'[i]?=none:=by
   rw [List.getElem?_eq_none_iff] at hi ⊢
   rw [h.1];exact hi
  rw [this,Option.map_none]
 | some q =>
  obtain ⟨cnt,_,h2⟩:=h.2 i q hi
  rw [h2,Option.map_some,Option.map_some,hg]
def BaS.with_ (B:BaS) (l:List (Pr×RlS)) : BaS:={ B with rels:=l }
theorem BaOk.turn {B:BaS} {l:List (Pr×RlS)} (h:BaOk B) (ht:TurnL B.rels l) : BaOk (B.with_ l):=by
 refine ⟨h.nil,h.nd,h.tn,?_,?_,?_,h.sm.1,?_⟩
 ·show (l.map Prod.fst).Nodup
  rw [ht.map Prod.fst fun _ _=>rfl]
  exact h.key
 ·intro q' hq'
  obtain ⟨q,hq,cnt,hc,rfl⟩:=ht.get hq'
  exact ⟨(h.rok q hq).1.turn hc,(h.rok q hq).2⟩
 ·intro q' hq' e he
  obtain ⟨q,hq,cnt,hc,rfl⟩:=ht.get hq'
  rw [turn_all] at he
  exact h.num q hq e he
 ·intro q' hq'
  obtain ⟨q,hq,cnt,hc,rfl⟩:=ht.get hq'
  exact h.sm.2 q hq
theorem turn_old {B:BaS} {l:List (Pr×RlS)} (ht:TurnL B.rels l) (a:At0) : a∈(B.with_ l).old↔a∈B.old∨a∈B.new:=by
 unfold BaS.old BaS.new
 rw [mem_part,mem_part,mem_part]
 constructor
 ·rintro ⟨q',hq',e,he,rfl⟩
  obtain ⟨q,hq,cnt,hc,rfl⟩:=ht.get hq'
  have he : e∈q.2.eo++q.2.en:=he
  rcases List.mem_append.1 he with he|he
  ·exact .inl ⟨q,hq,e,he,rfl⟩
  ·exact .inr ⟨q,hq,e,he,rfl⟩
 ·rintro (⟨q,hq,e,he,rfl⟩|⟨q,hq,e,he,rfl⟩)
  ·obtain ⟨cnt,h⟩:=ht.put hq
   exact ⟨_,h,e,List.mem_append_left _ he,rfl⟩
  ·obtain ⟨cnt,h⟩:=ht.put hq
   exact ⟨_,h,e,List.mem_append_right _ he,rfl⟩
theorem turn_new {B:BaS} {l:List (Pr×RlS)} (ht:TurnL B.rels l) (a:At0) : a∈(B.with_ l).new↔a∈B.next:=by
 unfold BaS.new BaS.next
 rw [mem_part,mem_part]
 constructor
 ·rintro ⟨q',hq',e,he,rfl⟩
  obtain ⟨q,hq,cnt,hc,rfl⟩:=ht.get hq'
  exact ⟨q,hq,e,he,rfl⟩
 ·rintro ⟨q,hq,e,he,rfl⟩
  obtain ⟨cnt,h⟩:=ht.put hq
  exact ⟨_,h,e,he,rfl⟩
theorem turn_next {B:BaS} {l:List (Pr×RlS)} (ht:TurnL B.rels l) (a:At0) : a∉(B.with_ l).next:=by
 unfold BaS.next
 rw [mem_part]
 rintro ⟨q',hq',e,he,rfl⟩
 obtain ⟨q,hq,cnt,hc,rfl⟩:=ht.get hq'
 cases he
def TurnS (l l':List (Pr×RlS)) (seen:List Nat) : Prop:=l'.length=l.length∧∀(i:Nat) (q:Pr×RlS),l[i]?=some q→(i∈seen→∃cnt:List Int,cnt.length=8∧l'[i]?=some (q.1,q.2.turn cnt))∧(i∉seen→l'[i]?=some q)
theorem TurnS.set {l l':List (Pr×RlS)} {seen:List Nat} (h:TurnS l l' seen) {i:Nat} {q:Pr×RlS} {cnt:List Int} (hq:l[i]?=some q) (hc:cnt.length=8) : TurnS l (l'.set i (q.1,q.2.turn cnt)) (seen++[i]):=by
 refine ⟨by rw [List.length_set];exact h.1,fun k q' hk=>?_⟩
 have hl : i<l'.length:=by rw [h.1];exact (List.getElem?_eq_some_iff.1 hq).1
 by_cases e : k=i
 ·subst e
  rw [hq] at hk
  cases hk
  refine ⟨fun _=>⟨cnt,hc,by simp [hl]⟩,fun hn=>absurd (by simp) hn⟩
 ·have e2 : (l'.set i (q.1,q.2.turn cnt))[k]?=l'[k]?:=by rw [List.getElem?_set];simp [Ne.symm e]
  rw [e2]
  refine ⟨fun hs=>(h.2 k q' hk).1 ?_,fun hn=>(h.2 k q' hk).2 fun hs=>hn (List.mem_append_left _ hs)⟩
  rcases List.mem_append.1 hs with hs|hs
  ·exact hs
  ·exact absurd (List.mem_singleton.1 hs) e
theorem TurnS.all {l l':List (Pr×RlS)} {seen:List Nat} (h:TurnS l l' seen) (ha:∀i,i<l.length→i∈seen) : TurnL l l':=⟨h.1,fun i q hq=>(h.2 i q hq).1 (ha i (List.getElem?_eq_some_iff.1 hq).1)⟩
end Go.Wk
namespace Go.Proofs.YtnppmeeibbefbaaGreatDoor
open Go Go.Wk Go.RowKit
instance : Ent Tryz.prog 37:=.of Tryz.func37 (by kernel_rfl) (by kernel_rfl)
def BTurnP (B:BaS) (R:List Res) (c:Cx) : Prop:=∃l,R=baR (B.with_ l)∧BaF (B.with_ l) c∧TurnL B.rels l
theorem base_Turn (B:BaS) (c:Cx) (hB:BaOk B) (hF:BaF B c) : CnTX Tryz.prog 37 [ptr B.b] (baR B) c (fun _ R c=>BTurnP B R c):=by
 refine CnTX.of Tryz.func37 Tryz.ntmps37 rfl rfl fun c0 L0 A0 _ H HA=>?_
 have HA:=HA.add hF
 have H : Owns c0 (.obj B.b (.cells (baseC B.mn B.vv B.mr).toArray 116 (0,0))::.row B.vv 32 3 B.vals.length (B.vals.map Tm.cs).flatten::.obj B.mr (kObj prK B.rm)::(relsR B.rels++(tbM B.mn B.vals++L0))) c:=by
  refine H.perm ?_
  rw [baR,tbR]
  exact Pm
 (apply Y1;refine Z2 ?_;apply Y2;refine Z2 ?_;apply Y0;apply wc_seq;apply Y1;refine Z0 ?_;(refine s_nilCheck rfl rfl ?_);refine Z3 ?_;refine Z41 ?_)
 have hrml : B.rm.length=B.rels.length:=by simp [BaS.rm]
 refine s_rangeKO (es:=B.rm) rfl rfl H (.tail _ (.tail _ (.head _))) HA ?_
 intro rx c H HA
 (apply Y0;apply wc_block)
 have H : Owns c0 (.obj rx (itObj B.mr B.rm.length [])::.obj B.mr (kObj prK B.rm)::(relsR B.rels++(tbR B.b B.mr B.mn B.vv B.vals++L0))) c:=by
  refine H.perm ?_
  rw [tbR]
  exact Pm
 refine wc_loopG (σ:=List Nat×List (Pr×RlS)×Int) (fun y=>B.rm.length-y.1.length) (fun y=>[(0,ptr B.b),(3,.int .i64 y.2.2),(10,.pointer (some ⟨rx,0,none⟩))])
  (fun y=>TurnS B.rels y.2.1 y.1∧y.1.Nodup∧(∀i∈y.1,i<B.rm.length))
  (fun y=>.obj rx (itObj B.mr B.rm.length y.1)::.obj B.mr (kObj prK B.rm)::(relsR y.2.1++(tbR B.b B.mr B.mn B.vv B.vals++L0))) (fun _=>Tt) ([],B.rels,0) H HA trivial Ks
  ⟨⟨rfl,fun i q hq=>⟨(fun h=>by cases h),fun _=>hq⟩⟩,List.nodup_nil,(fun _ h=>by cases h)⟩ ?_
 intro y g c hy H HA
 obtain ⟨seen,l,nn⟩:=y
 obtain ⟨hts,hnd,hsl⟩:=hy
 dsimp only at hts hnd hsl H HA ⊢
 (apply Y1)
 refine s_nextKO rfl rfl H HA (.head _) ?_ ?_
 ·intro hall
  (refine Z32 ?_;apply Y0;apply wc_seq;refine Z19 ?_;apply wc_exit;apply wx_exit_then;apply wx_exit_then;apply wx_exit_same;apply wx_next;apply Y1;refine Z0 ?_;refine Z2 ?_;apply Y0;apply wc_ret)
  have htl:=hts.all (by rw [←hrml];exact hall)
  have hFc : BaF B c:=Lk
  have H : Owns c0 (baR (B.with_ l)++L0) c:=by
   have e : (B.with_ l).rm=B.rm:=htl.map (fun q=>(q.1,ptr q.2.b)) fun _ _=>rfl
   have e2 : baR (B.with_ l)=tbR B.b B.mr B.mn B.vv B.vals++(.obj B.mr (kObj prK (B.with_ l).rm)::relsR l):=rfl
   rw [e2,e]
   exact H.drop.perm Pm
  exact ret_fnX H Ca (outs1 Tryz.results37 Wh) ⟨l,rfl,fun q' hq'=>by
   obtain ⟨q,hq,cnt,_,rfl⟩:=htl.get hq'
   exact (hFc q hq).turn,htl⟩
 ·intro i pv c hi hni H HA
  have hil : i<B.rm.length:=(List.getElem?_eq_some_iff.1 hi).1
  obtain ⟨q,hq⟩:=getq (xs:=B.rels) (k:=i) (by omega)
  have hpv : pv=(q.1,ptr q.2.b):=by
   rw [BaS.rm,List.getElem?_map,hq] at hi
   simpa using hi.symm
  subst hpv
  (refine Z32 ?_;apply Y0;apply wc_seq;refine Z18 ?_;apply wc_skip;apply wx_next;apply wc_block;apply Y1)
  refine s_entryKO rfl rfl H (.tail _ (.head _)) (.head _) hi ?_
  (refine Z32 ?_;refine Z2 ?_;apply Y0;apply wc_region;refine Z0 ?_;refine Z0 ?_)
  have hlq:=(hts.2 i q hq).2 hni
  have hrok:=(hB.rok q (List.mem_of_getElem? hq)).1
  have hlim:=hrok.lim
  simp only [RlS.all,List.length_append] at hlim
  have H : Owns c0 (q.2.res 155 161 158 197++(.obj rx (itObj B.mr B.rm.length (seen++[i]))::.obj B.mr (kObj prK B.rm)::(relsR (l.eraseIdx i)++(tbR B.b B.mr B.mn B.vv B.vals++L0)))) c:=by
   refine H.perm ((List.Perm.cons _ (List.Perm.cons _ ((relsR_pull hlq).append_right _))).trans ?_)
   exact Pm
  refine s_callX rfl rfl H HA (rel_Turn q.2 hrok.cnt (by omega) (by omega) _) ?_
  intro v R c H HA
  obtain ⟨cnt,hcnt,rfl,rfl⟩:=HA.h.1
  have HA:=HA.cut
  refine s_add rfl rfl rfl rfl ?_
  (refine Z2 ?_;apply w_nil;apply wx_norm_block)
  obtain ⟨g1,g2,g3⟩:=seen_add hnd hsl hil hni
  have hil2 : i<l.length:=(List.getElem?_eq_some_iff.1 hlq).1
  have hpl:=relsR_pull (l:=l.set i (q.1,q.2.turn cnt)) (j:=i) (q:=(q.1,q.2.turn cnt)) (by simp [hil2])
  rw [List.eraseIdx_set_eq] at hpl
  have H : Owns c0 (.obj rx (itObj B.mr B.rm.length (seen++[i]))::.obj B.mr (kObj prK B.rm)::(relsR (l.set i (q.1,q.2.turn cnt))++(tbR B.b B.mr B.mn B.vv B.vals++L0))) c:=by
   refine H.perm (List.Perm.trans ?_ (List.Perm.cons _ (List.Perm.cons _ (hpl.symm.append_right _))))
   exact Pm
  exact wx_loopG ((seen++[i],l.set i (q.1,q.2.turn cnt),_)) H Cu trivial Ks g3 ⟨hts.set hq hcnt,g1,g2⟩
instance : Ent Tryz.prog 170:=.of Tryz.func170 (by kernel_rfl) (by kernel_rfl)
instance : Fld Tryz.prog 118 0 0:=.of (k:=0) (by kernel_rfl)
def Cs0 (b:Nat) (name:ByteArray) (va:Value) : Res:=.obj b (.cells (At0.cs ⟨Tn,name,[]⟩ va).toArray 35 (0,0))
def vtR (b mr:Nat) (mn:Option Nat) (vv:Value) (vals:List Tm) : List Res:=[.obj b (.cells (baseC mn vv mr).toArray 116 (0,0)),.row vv 32 3 vals.length (vals.map Tm.cs).flatten]
theorem base_fact (b mr:Nat) (mn:Option Nat) (vv:Value) (vals:List Tm) (p:Pr) (row:List Nat) (rv:Value) (c:Cx) (h:Sl rv (ints row) c) (h0:row[0]?=some 0) (hz:vals[0]?=some Tn) (hn:∀n∈row,n<vals.length) (hl:row.length<1073741824) :
  CnT Tryz.prog 170 [ptr b,prK p,rv] (vtR b mr mn vv vals) (vtR b mr mn vv vals) c (fun v c=>Ag (factOf vals p.name row) v c):=by
 refine CnT.of Tryz.func170 Tryz.ntmps170 rfl rfl fun c0 L0 A0 _ H HA=>?_
 have HA:=HA.add h
 have hil:=ints_len row
 have h00 : (ints row)[0]?=some 0:=by rw [ints,List.getElem?_map,h0];rfl
 (apply Y1;refine Z31 fun bx c H HA=>?_;refine Z61 fun bx c H HA=>?_;apply Y0;apply wc_seq)
 (obtain ⟨b6,rfl⟩:∃x,x=bx:=⟨_,rfl⟩)
 have H : Owns c0 ((vtR b mr mn vv vals++[])++(.obj b6 (.cells (At0.cs ⟨Tn,ES,[]⟩ (.slice none 0 0)).toArray 35 (0,0))::L0)) c:=by
  have H0 : Owns c0 (.obj b6 (.cells (At0.cs ⟨Tn,ES,[]⟩ (.slice none 0 0)).toArray 35 (0,0))::(vtR b mr mn vv vals++L0)) c:=H
  rw [List.append_nil]
  exact H0.perm Pm
 refine dw_startE (I:=vtR b mr mn vv vals++[]) H HA ?_
 (repeat (first|refine Dc ?_|refine Dm ?_))
 refine dw_consT (pr:=vtR b mr mn vv vals) (po:=vtR b mr mn vv vals) (S:=fun v _=>v=.agg Tn.cs.toArray) ?_ (by intro v;infer_instance) ?_
 ·(intro B _ Lx c HA;(repeat (first|rintro vx rfl|(intro vx hx;have HA:=HA.addSF hx;clear hx)|(intro vx hx;skip;have HA:=HA.add hx;clear hx)|(intro vx;have hvx2:Go.Value:=vx;clear hvx2)));(first|intro H|(have H:=HA.h.1;have HA:=HA.cut));change W _ _ _ _ _ _ _)
  refine s_callT (pre:=vtR b mr mn vv vals) (post:=vtR b mr mn vv vals) rfl rfl H HA (base_value b mr 0 mn vv vals Tn hz _) ?_
  intro vx c H HA
  exact w_nil (pq_turn H Cu HA.h.1)
 (repeat (first|refine Dc ?_|refine Dm ?_))
 refine dw_doneT mixed (I:=vtR b mr mn vv vals++[]) (by kernel_rfl) H HA (by kernel_rfl) ?_
 clear H HA
 intro c HA v14 h14 v16 h16 b7 H
 change W _ _ _ _ _ _ _
 have H : Owns c0 ((vtR b mr mn vv vals++[.obj b7 (.cells (At0.cs ⟨Tn,ES,[]⟩ (.slice none 0 0)).toArray 35 (0,0))])++(.obj b6 (.cells (At0.cs ⟨Tn,ES,[]⟩ (.slice none 0 0)).toArray 35 (0,0))::L0)) c:=H
 have H : Owns c0 (.obj b7 (.cells (At0.cs ⟨Tn,ES,[]⟩ (.slice none 0 0)).toArray 35 (0,0))::.obj b6 (.cells (At0.cs ⟨Tn,ES,[]⟩ (.slice none 0 0)).toArray 35 (0,0))::(vtR b mr mn vv vals++L0)) c:=H.perm Pm
 (refine Z74 fun c H HA=>?_;apply Y0;apply wc_seq;apply Y1;refine Z0 ?_)
 have hpos : 1≤(ints row).length:=(List.getElem?_eq_some_iff.1 h00).1
 (apply s_slL (α:=Int) (lo:=1) (hi:=(ints row).length);exact rfl;exact rfl;(first|exact .inl rfl|exact .inr ⟨rfl,rfl⟩);(first|exact .inl rfl|exact .inr ⟨rfl,rfl⟩);exact Lk;exact rfl;(first|omega|(simp;omega));(first|omega|(simp;omega));intro vx hx;have HA:=HA.add hx;clear hx)
 (refine Z45 ?_;refine Z0 ?_;apply Y0;apply wc_block)
 (obtain ⟨vt,rfl⟩:∃x,x=vx:=⟨_,rfl⟩)
 have et : List.take ((ints row).length-1) (List.drop 1 (ints row))=ints row.tail:=by
  rw [←List.length_drop,List.take_length,ints,ints,←List.map_drop,List.drop_one]
 rw [et] at HA ⊢
 have htl : row.tail.length=row.length-1:=List.length_tail
 have hil2:=ints_len row.tail
 have H:=H.nilRow 32 3
 obtain ⟨gv,hgv⟩ : ∃gv : Nat→Tm,gv=fun n=>vals.getD n Tn:=⟨_,rfl⟩
 refine wc_loopG (σ:=Nat×Value) (fun y=>row.tail.length-y.1) (fun y=>[(0,ptr b),(6,ptr b6),(7,ptr b7),(21,vt),(22,.int .i64 (ints row.tail).length),(23,.int .i64 y.1)]) (fun y=>y.1≤row.tail.length)
  (fun y=>.row y.2 32 3 ((row.tail.take y.1).map gv).length (((row.tail.take y.1).map gv).map Tm.cs).flatten::Cs0 b7 p.name y.2::Cs0 b6 ES (.slice none 0 0)::(vtR b mr mn vv vals++L0)) (fun _=>Tt) (0,.slice none 0 0) H HA trivial Ks (Nat.zero_le _) ?_
 clear H HA
 intro y g c hk H HA
 obtain ⟨k,va⟩:=y
 dsimp only at hk H HA ⊢
 (repeat' (first|apply w_nil|apply wc_seq|apply wc_region|apply wx_next|refine Z18 ?_|refine Z19 ?_|apply wc_ret|apply wc_exit|apply wc_skip|apply wc_block|apply wx_exit_then|apply wx_exit_same|refine Z42 ?_|refine Z78 fun c H HA=>?_|refine Z93 (fun hq=>?_) fun hq=>?_))
 ·obtain ⟨n,hnk⟩:=getq (xs:=row.tail) (k:=k) (by omega)
  have hnr : n∈row:=List.mem_of_mem_tail (List.mem_of_getElem? hnk)
  obtain ⟨t,ht⟩:=getq (xs:=vals) (k:=n) (hn n hnr)
  have hgt : gv n=t:=by rw [hgv];simp only [List.getD_eq_getElem?_getD,ht];rfl
  have hni:=ints_get hnk
  (refine Z34 HA fun vx HA=>?_;refine Z36 ?_;refine Z2 ?_;apply Y0)
  have H : Owns c0 ((vtR b mr mn vv vals++[])++(.row va 32 3 ((row.tail.take k).map gv).length (((row.tail.take k).map gv).map Tm.cs).flatten::Cs0 b7 p.name va::Cs0 b6 ES (.slice none 0 0)::L0)) c:=by
   rw [List.append_nil]
   exact H.perm Pm
  refine dw_startE (I:=vtR b mr mn vv vals++[]) H HA ?_
  (repeat (first|refine Dc ?_|refine Dm ?_))
  refine dw_consT (pr:=vtR b mr mn vv vals) (po:=vtR b mr mn vv vals) (S:=fun v _=>v=.agg t.cs.toArray) ?_ (by intro v;infer_instance) ?_
  ·(intro B _ Lx c HA;(repeat (first|rintro vx rfl|(intro vx hx;have HA:=HA.addSF hx;clear hx)|(intro vx hx;skip;have HA:=HA.add hx;clear hx)|(intro vx;have hvx2:Go.Value:=vx;clear hvx2)));(first|intro H|(have H:=HA.h.1;have HA:=HA.cut));change W _ _ _ _ _ _ _)
   refine s_callT (pre:=vtR b mr mn vv vals) (post:=vtR b mr mn vv vals) rfl rfl H HA (base_value b mr n mn vv vals t ht _) ?_
   intro vx c H HA
   exact w_nil (pq_turn H Cu HA.h.1)
  refine dw_cons (s:=.rel fun u c=>SlV [t] [t.cs] u c) ?_ inferInstance ?_
  ·(intro B _ Lx c H HA;(repeat (first|rintro vx rfl|(intro vx hx;have HA:=HA.addSF hx;clear hx)|(intro vx hx;have HA:=HA.add hx;clear hx)|intro vx));change W _ _ _ _ _ _ _)
   refine s_bs1V (α:=Tm) (cs:=t.cs) (u:=t) rfl rfl rfl rfl rfl rfl H HA inferInstance ?_
   intro vx c H HA
   exact w_nil (pq_rel H Cu HA.h.1)
  refine dw_doneT mixed (I:=vtR b mr mn vv vals++[]) (by kernel_rfl) H HA (by kernel_rfl) ?_
  clear H HA
  intro c HA v33 h33 v34 h34 H
  change W _ _ _ _ _ _ _
  have HA:=HA.add h34
  have H : Owns c0 (vtR b mr mn vv vals++(.row va 32 3 ((row.tail.take k).map gv).length (((row.tail.take k).map gv).map Tm.cs).flatten::Cs0 b7 p.name va::Cs0 b6 ES (.slice none 0 0)::L0)) c:=H
  have H : Owns c0 (.row va 32 3 ((row.tail.take k).map gv).length (((row.tail.take k).map gv).map Tm.cs).flatten::Cs0 b7 p.name va::Cs0 b6 ES (.slice none 0 0)::(vtR b mr mn vv vals++L0)) c:=H.perm Pm
  have hkl : ((row.tail.take k).map gv).length=k:=by rw [List.length_map,List.length_take];omega
  refine s_appV rfl rfl rfl (Lk:SlV [t] [t.cs] _ _) rfl rfl rfl (by simp only [List.length_cons,List.length_nil,LIM];omega) H HA inferInstance ?_
  intro v2 c H HA
  have H : Owns c0 (.obj b7 (.cells (At0.cs ⟨Tn,p.name,[]⟩ va).toArray 35 (0,0))::.row v2 32 3 (((row.tail.take k).map gv).length+1) ((((row.tail.take k).map gv).map Tm.cs).flatten++t.cs)::Cs0 b6 ES (.slice none 0 0)::(vtR b mr mn vv vals++L0)) c:=H.swap
  (refine Z3 ?_;refine Z75 fun c H HA=>?_;apply w_nil;apply wx_norm_block;apply wx_next;apply wc_region;refine Z46 ?_;refine Z0 ?_;apply w_nil)
  have e1 : (row.tail.take (k+1)).map gv=(row.tail.take k).map gv++[t]:=by
   rw [List.take_add_one,hnk,List.map_append]
   show _++[gv n]=_
   rw [hgt]
  have H : Owns c0 (.row v2 32 3 ((row.tail.take (k+1)).map gv).length (((row.tail.take (k+1)).map gv).map Tm.cs).flatten::Cs0 b7 p.name v2::Cs0 b6 ES (.slice none 0 0)::(vtR b mr mn vv vals++L0)) c:=by
   rw [e1,List.length_append,List.map_append,List.flatten_append]
   have e2 : (List.map Tm.cs [t]).flatten=t.cs:=by simp
   rw [e2]
   exact H.swap
  exact wx_loopG ((k+1,v2)) H Cu trivial Ks (by dsimp only;omega) (by dsimp only;omega)
 ·have e0 : row.tail.take k=row.tail:=List.take_of_length_le (by omega)
  rw [e0] at H
  obtain ⟨gs,hgs⟩ : ∃gs,gs=row.tail.map gv:=⟨_,rfl⟩
  rw [←hgs] at H
  have hgl : gs.length<LIM:=by rw [hgs,List.length_map];simp only [LIM];omega
  have H : Owns c0 (.row va 32 3 gs.length (gs.map Tm.cs).flatten::Cs0 b6 p.name va::Cs0 b7 p.name va::(vtR b mr mn vv vals++L0)) c:=H.swap
  have HA:=HA.add (vals_cs gs c)
  (refine wx_freezeRow H HA Lk rfl rfl hgl ?_;intro c H HA)
  have H2 : Owns c0 (vtR b mr mn vv vals++L0) c:=H.drop.drop
  have hsv : Sl va gs c:=Lk
  refine ret_fnT H2 Ca (outsR1 Tryz.results170 (RV.agg (T:=35) (cs:=At0.cs ⟨Tn,p.name,[]⟩ va) (T':=35) (fr:=(0,0)) (o:=0) (b:=b6) rfl H (.head _) Rc)) ?_
  refine ⟨At0.cs ⟨Tn,p.name,[]⟩ va,rfl,va,?_,?_⟩
  ·rfl
  ·rw [factOf,←hgv,←hgs]
   exact hsv
end Go.Proofs.YtnppmeeibbefbaaGreatDoor
namespace Go.Proofs
open Go.Shelf
end Go.Proofs
namespace Go.Wk
open Go Go.RowKit
def pat (nm:ByteArray) (n:Int) : At0:=⟨Tn,nm,[⟨3,n,ES⟩]⟩
theorem match_one (nm:ByteArray) (n:Int) (hn:0≤n) (t:Tm) : (matchA (pat nm n) ⟨Tn,nm,[t]⟩ []).isSome=true:=by
 have hv : Tm.isVar ⟨3,n,ES⟩=true:=by simp [Tm.isVar,hn]
 have h0 : Tm.isVar Tn=false:=rfl
 simp [pat,matchA,matchOk,extAll,extB,applyA,At0.terms,hv,h0,lookB,becomeT]
def BaS.has (B:BaS) (parts:Nat) (nm:ByteArray) (a:At0) : Prop:=((parts &&& 1≠0∧a∈B.old)∨(parts &&& 2≠0∧a∈B.new)∨(parts &&& 4≠0∧a∈B.next))∧a.name=nm∧a.args.length=1
def SameB (B B':BaS) : Prop:=BaOk B'∧B'.b=B.b∧B'.size=B.size∧B'.vals=B.vals∧B'.old=B.old∧B'.new=B.new∧B'.next=B.next∧B'.rels.length=B.rels.length
theorem part_pred {B:BaS} (hB:BaOk B) {l:RlS→List En0} (hl:∀r e,e∈l r→e∈r.all) {nm:ByteArray} {a:At0} (h:a∈B.part l) (h1:a.name=nm) (h2:a.args.length=1) : ∃q∈B.rels,q.1=⟨nm,1⟩∧∃e∈l q.2,factOf B.vals nm e.row=a:=by
 obtain ⟨q,hq,e,he,rfl⟩:=mem_part.1 h
 have hr:=hB.rok q hq
 have hw:=hr.1.wd e (hl _ _ he)
 simp only [factOf] at h1 h2
 rw [List.length_map,List.length_tail,hw,hr.2] at h2
 refine ⟨q,hq,?_,e,he,by rw [h1]⟩
 obtain ⟨⟨qn,qa⟩,qr⟩:=q
 simp only [Pr.mk.injEq]
 exact ⟨h1,by simpa using h2⟩
theorem key_one {B:BaS} (hB:BaOk B) {j:Nat} {p:Pr} {r:RlS} (hj:B.rels[j]?=some (p,r)) {q:Pr×RlS} (hq:q∈B.rels) (e:q.1=p) : q=(p,r):=by
 obtain ⟨i,hi⟩:=List.getElem?_of_mem hq
 have e1 : (B.rels.map Prod.fst)[i]?=some p:=by rw [List.getElem?_map,hi,Option.map_some,e]
 have e2 : (B.rels.map Prod.fst)[j]?=some p:=by rw [List.getElem?_map,hj];rfl
 have e3 : i=j:=(List.getElem?_inj (List.getElem?_eq_some_iff.1 e1).1 hB.key).1 (e1.trans e2.symm)
 subst e3
 rw [hi] at hj
 exact Option.some.inj hj
theorem mem_sel {r:RlS} {parts:Nat} {row:List Nat} : row∈r.sel parts↔(parts &&& 1≠0∧∃e∈r.eo,e.row=row)∨(parts &&& 2≠0∧∃e∈r.en,e.row=row)∨(parts &&& 4≠0∧∃e∈r.ex,e.row=row):=by
 simp only [RlS.sel,List.mem_map,List.mem_filter,inP,decide_eq_true_eq,RlS.pall,List.mem_append]
 constructor
 ·rintro ⟨q,⟨(⟨e,he,rfl⟩|⟨e,he,rfl⟩|⟨e,he,rfl⟩),h2⟩,rfl⟩
  ·exact .inl ⟨h2,e,he,rfl⟩
  ·exact .inr (.inl ⟨h2,e,he,rfl⟩)
  ·exact .inr (.inr ⟨h2,e,he,rfl⟩)
 ·rintro (⟨h2,e,he,rfl⟩|⟨h2,e,he,rfl⟩|⟨h2,e,he,rfl⟩)
  ·exact ⟨(e,1),⟨.inl ⟨e,he,rfl⟩,h2⟩,rfl⟩
  ·exact ⟨(e,2),⟨.inr (.inl ⟨e,he,rfl⟩),h2⟩,rfl⟩
  ·exact ⟨(e,4),⟨.inr (.inr ⟨e,he,rfl⟩),h2⟩,rfl⟩
theorem sel_nd {r:RlS} (h:RlOk r) {parts:Nat} : (r.sel parts).Nodup:=by
 have h1 : (r.pall.map fun q=>q.1.row).Nodup:=by
  have h2:=h.nd
  rw [←pall_all,List.map_map] at h2
  exact h2
 exact h1.sublist ((List.filter_sublist (l:=r.pall) (p:=inP parts)).map _)
theorem has_iff {B:BaS} (hB:BaOk B) {j:Nat} {nm:ByteArray} {r:RlS} (hj:B.rels[j]?=some (⟨nm,1⟩,r)) {parts:Nat} {a:At0} : B.has parts nm a↔∃row∈r.sel parts,factOf B.vals nm row=a:=by
 have hm : ((⟨nm,1⟩,r):Pr×RlS)∈B.rels:=List.mem_of_getElem? hj
 constructor
 ·rintro ⟨h,h1,h2⟩
  rcases h with ⟨hb,h⟩|⟨hb,h⟩|⟨hb,h⟩
  ·obtain ⟨q,hq,e1,e,he,rfl⟩:=part_pred hB eo_all h h1 h2
   have:=key_one hB hj hq e1
   subst this
   exact ⟨e.row,mem_sel.2 (.inl ⟨hb,e,he,rfl⟩),rfl⟩
  ·obtain ⟨q,hq,e1,e,he,rfl⟩:=part_pred hB en_all h h1 h2
   have:=key_one hB hj hq e1
   subst this
   exact ⟨e.row,mem_sel.2 (.inr (.inl ⟨hb,e,he,rfl⟩)),rfl⟩
  ·obtain ⟨q,hq,e1,e,he,rfl⟩:=part_pred hB ex_all h h1 h2
   have:=key_one hB hj hq e1
   subst this
   exact ⟨e.row,mem_sel.2 (.inr (.inr ⟨hb,e,he,rfl⟩)),rfl⟩
 ·rintro ⟨row,hr,rfl⟩
  have hlen : ∀e∈r.all,(factOf B.vals nm e.row).args.length=1:=fun e he=>by
   have h1:=hB.rok _ hm
   have h2:=h1.1.wd e he
   have h3 : r.width=2:=h1.2
   simp only [factOf,List.length_map,List.length_tail,h2,h3]
  rcases mem_sel.1 hr with ⟨hb,e,he,rfl⟩|⟨hb,e,he,rfl⟩|⟨hb,e,he,rfl⟩
  ·exact ⟨.inl ⟨hb,mem_part.2 ⟨_,hm,e,he,rfl⟩⟩,rfl,hlen e (eo_all _ _ he)⟩
  ·exact ⟨.inr (.inl ⟨hb,mem_part.2 ⟨_,hm,e,he,rfl⟩⟩),rfl,hlen e (en_all _ _ he)⟩
  ·exact ⟨.inr (.inr ⟨hb,mem_part.2 ⟨_,hm,e,he,rfl⟩⟩),rfl,hlen e (ex_all _ _ he)⟩
theorem has_none {B:BaS} (hB:BaOk B) {parts:Nat} {nm:ByteArray} (hn:∀q∈B.rels,q.1≠⟨nm,1⟩) (a:At0) : ¬B.has parts nm a:=by
 rintro ⟨h,h1,h2⟩
 rcases h with ⟨hb,h⟩|⟨hb,h⟩|⟨hb,h⟩
 ·obtain ⟨q,hq,e1,_⟩:=part_pred hB eo_all h h1 h2
  exact hn q hq e1
 ·obtain ⟨q,hq,e1,_⟩:=part_pred hB en_all h h1 h2
  exact hn q hq e1
 ·obtain ⟨q,hq,e1,_⟩:=part_pred hB ex_all h h1 h2
  exact hn q hq e1
end Go.Wk
namespace Go.Proofs.YtnppmeeibbefbaaGreatDoor
open Go Go.Wk Go.RowKit
instance : Ent Tryz.prog 160:=.of Tryz.func160 (by kernel_rfl) (by kernel_rfl)
instance : Ent Tryz.prog 39:=.of Tryz.func39 (by kernel_rfl) (by kernel_rfl)
theorem sortAt_q : SortsQ Tryz.prog 39 (fun v _=>[v,.func (.func 40) #[] #[]]) 5 40:=by
 have hf : Tryz.sortAt_ren.f 6=39:=by kernel_rfl
 have ht : Tryz.sortAt_ren.t 24=35:=by kernel_rfl
 have h:=sortFunc_q Tryz.sortAt (kk:=5) (g:=40) (by rw [ht];exact Agg.ag) (by rw [ht];exact Agg.sz) Ent.h
 rwa [hf] at h
theorem sortAt_0 (p:Option Addr) (cap:Nat) (c:Cx) : Cn Tryz.prog 39 [.slice p 0 cap,.func (.func 40) #[] #[]] c (fun v _=>v=.tuple #[]):=by
 have hf : Tryz.sortAt_ren.f 6=39:=by kernel_rfl
 have h:=sortFunc_0 Tryz.sortAt (g:=40) p cap c
 rwa [hf] at h
def FoR (b15 b7:Nat) (nm:ByteArray) (D:BaS) (m:Nat) (s:List At0×Value×List (List Value)) : List Res:=.row s.2.1 35 5 s.1.length s.2.2.flatten::.obj b15 (.cells [s.2.1].toArray 25 (0,0))::.obj b7 (.cells (Pr.cs ⟨nm,1⟩).toArray 118 (0,0))::(vtR D.b D.mr (some m) D.vv D.vals++tbM (some m) D.vals)
instance (r : RlS) (R : List Res) : Mono (FindP r R):=inferInstanceAs (Mono fun c=>∃x,RlOk (r.at_ [x])∧RlF (r.at_ [x]) c∧R=(r.at_ [x]).res 155 161 158 197)
def FoundP (B:BaS) (parts:Nat) (nm:ByteArray) (v:Value) (R:List Res) (c:Cx) : Prop:=∃B' out,R=baR B'∧SameB B B'∧BaF B' c∧Sl v out c∧(∀a,a∈out↔B.has parts nm a)∧out.length≤B.size∧out.Nodup
theorem base_found (D:BaS) (parts:Nat) (nm:ByteArray) (n:Int) (hn:0≤n) (u:Value) (c:Cx) (hp:parts=1∨parts=2∨parts=3) (hB:BaOk D) (hF:BaF D c) (h:Ag (pat nm n) u c) (hv:D.rels≠[]→D.vals≠[]) (hs:D.size<1073741824) :
  CnTX Tryz.prog 160 [ptr D.b,.int .i64 (parts:Int),u] (baR D) c (FoundP D parts nm):=by
 refine CnTX.ofM Tryz.func160 Tryz.ntmps160 rfl rfl fun c0 L0 A0 _ H HA=>?_
 have HA:=(HA.add hF).add h
 (apply wc_seq)
 apply wc_region
 (refine s_box (cs:=[ptr D.b]) rfl rfl H HA ?_;intro b3 c H HA)
 (refine s_boxG rfl rfl Lk H HA ?_;intro pb c H HA)
 (refine Z2 ?_;apply Y2;refine Z39 HA fun vx HA=>?_)
 (refine s_call rfl rfl H HA (base_pred (pat nm n) _ _ Lk) ?_;intro vx c H HP;have hvx:=HP.h.1;have HA:=HP.cut;subst hvx)
 (refine s_alloc (cs:=[.string ⟨#[]⟩,.int .i64 0]) rfl rfl H HA ?_;intro b7 c H HA)
 (refine Z74 fun c H HA=>?_;apply Y0;apply wc_seq)
 have H : Owns c0 (.obj b7 (.cells (Pr.cs ⟨nm,1⟩).toArray 118 (0,0))::.obj D.b (.cells (baseC D.mn D.vv D.mr).toArray 116 (0,0))::.row D.vv 32 3 D.vals.length (D.vals.map Tm.cs).flatten::.obj D.mr (kObj prK D.rm)::(tbM D.mn D.vals++(relsR D.rels++L0))) c:=by
  have H0 : Owns c0 (.obj b7 (.cells (Pr.cs ⟨nm,1⟩).toArray 118 (0,0))::(baR D++L0)) c:=H
  refine H0.perm ?_
  rw [baR,tbR]
  exact Pm
 (refine dw_start H HA ?_)
 (repeat (first|refine Dc ?_|refine Dm ?_))
 (apply dw_cons;(focus ((intro B _ Lx c H HA;(repeat (first|rintro vx rfl|(intro vx hx;have HA:=HA.addSF hx;clear hx)|(intro vx hx;have HA:=HA.add hx;clear hx)|intro vx));change W _ _ _ _ _ _ _);(refine s_lookKF (q:=⟨nm,1⟩) rfl rfl rfl H (List.mem_append_right _ (.tail _ (.tail _ (.tail _ (.head _))))) ?_);exact Dx));exact inferInstance)
 (repeat (refine Dc ?_))
 (refine dw_done mixed H HA rfl (by kernel_rfl) ?_;clear H HA;intro c H HA;(repeat (first|rintro vx rfl|(intro vx hx;have HA:=HA.addSF hx;clear hx)|(intro vx hx;have HA:=HA.add hx;clear hx)|intro vx));change W _ _ _ _ _ _ _)
 cases hlk : kLook D.rm ⟨nm,1⟩ with
 | none =>
  (apply Y0;apply wc_seq;apply Y1;refine Z0 ?_;(refine s_nilP rfl rfl ?_);apply Y0;refine Z18 ?_;apply Y1;refine Z2 ?_;apply Y0;apply wc_ret;apply wx_ret_then)
  have hFc : BaF D c:=Lk
  have H : Owns c0 (baR D++L0) c:=by
   refine H.drop.perm ?_
   rw [baR,tbR]
   exact Pm
  exact wx_retM0 (outs1 Tryz.results160 Wh) ⟨_,rfl,c,baR D,rfl,H,(Ca:Hd A0 c).add ⟨D,[],rfl,⟨hB,rfl,rfl,rfl,rfl,rfl,rfl,rfl⟩,hFc,Sl.nil _,fun a=>⟨(fun h=>by cases h),fun h=>absurd h (has_none hB (getq_none hlk) a)⟩,Nat.zero_le _,.nil⟩⟩
 | some v =>
  obtain ⟨j,r,hj,rfl⟩:=getq_some hlk
  have hvn : D.vals≠[]:=hv (fun h=>by rw [h] at hj;simp at hj)
  obtain ⟨m,hmn⟩ : ∃m,D.mn=some m:=by
   cases hm : D.mn with
   | none=>exact absurd (hB.nil hm) hvn
   | some m=>exact ⟨m,rfl⟩
  have hz:=hB.tn hvn
  have hpos : posV D.vals Tn=some 0:=by
   cases hvv : D.vals with
   | nil=>exact absurd hvv hvn
   | cons x l =>
    rw [hvv] at hz
    have : x=Tn:=by simpa using hz
    subst this
    simp [posV,List.findIdx?_cons]
  rw [hmn] at H
  (apply Y0;apply wc_seq;apply Y1;refine Z0 ?_;(refine s_nilP rfl rfl ?_);apply Y0;refine Z19 ?_;apply wc_skip;apply wx_next;apply Y1;refine Z2 ?_;refine Z2 ?_;apply Y0;apply wc_seq;apply Y1;refine Z35 HA fun vx HA=>?_;refine Z38 ?_)
  (refine s_bs1O (α:=Tm) (cv:=Tm.cs) (u:=Tn) rfl rfl rfl rfl rfl rfl H HA inferInstance ?_;intro vr c H HA)
  (refine Z35 HA fun vx HA=>?_;refine Z37 HA fun vx HA=>?_)
  have hsa : Sl vx [(⟨3,n,ES⟩:Tm)] c:=Lk
  have HA:=HA.add hsa
  have H : Owns c0 (.row vr 32 3 [Tn].length [Tn.cs].flatten::.obj b7 (.cells (Pr.cs ⟨nm,1⟩).toArray 118 (0,0))::.obj D.b (.cells (baseC (some m) D.vv D.mr).toArray 116 (0,0))::.row D.vv 32 3 D.vals.length (D.vals.map Tm.cs).flatten::.obj D.mr (kObj prK D.rm)::(tbM (some m) D.vals++(relsR D.rels++L0))) c:=H
  (refine Z59 fun vx c valsx H HA=>?_;refine Z62 ?_;refine Z0 ?_;apply Y0;apply wc_block)
  (obtain ⟨vt,rfl⟩:∃x,x=vx:=⟨_,rfl⟩)
  (refine wc_freezeRow H HA Lk rfl rfl (by simp only [LIM,List.length_append,List.length_cons,List.length_nil];omega) ?_;intro c H HA)
  have hst : Sl vt [Tn,(⟨3,n,ES⟩:Tm)] c:=Lk
  have HA:=HA.add hst
  obtain ⟨ck,hck⟩ : ∃ck : Nat→List Nat,ck=fun k=>if k=0 then [] else [0]:=⟨_,rfl⟩
  have hck0 : ck 0=[]:=by rw [hck];rfl
  have hck1 : ck 1=[0]:=by rw [hck];rfl
  have hck2 : ck 2=[0]:=by rw [hck];rfl
  have H:=(H.nilRow 3 1).nilRow 3 1
  have H : Owns c0 (.row (.slice none 0 0) 3 1 (ck 0).length (rkc (ck 0))::.row (.slice none 0 0) 3 1 (ck 0).length (rkc (ck 0))::(.obj b7 (.cells (Pr.cs ⟨nm,1⟩).toArray 118 (0,0))::(tbR D.b D.mr (some m) D.vv D.vals++(.obj D.mr (kObj prK D.rm)::(relsR D.rels++L0))))) c:=by
   rw [hck0]
   show Owns c0 (.row (.slice none 0 0) 3 1 0 []::.row (.slice none 0 0) 3 1 0 []::(.obj b7 (.cells (Pr.cs ⟨nm,1⟩).toArray 118 (0,0))::(tbR D.b D.mr (some m) D.vv D.vals++(.obj D.mr (kObj prK D.rm)::(relsR D.rels++L0))))) c
   refine H.perm ?_
   rw [tbR]
   exact Pm
  refine wc_loopG (σ:=Nat×Value×Value) (fun y=>2-y.1) (fun y=>[(1,.int .i64 (parts:Int)),(3,ptr b3),(5,pb),(7,ptr b7),(8,ptr r.b),(9,y.2.1),(10,y.2.2),(35,vt),(36,.int .i64 2),(37,.int .i64 y.1)]) (fun y=>y.1≤2)
   (fun y=>.row y.2.1 3 1 (ck y.1).length (rkc (ck y.1))::.row y.2.2 3 1 (ck y.1).length (rkc (ck y.1))::(.obj b7 (.cells (Pr.cs ⟨nm,1⟩).toArray 118 (0,0))::(tbR D.b D.mr (some m) D.vv D.vals++(.obj D.mr (kObj prK D.rm)::(relsR D.rels++L0))))) (fun _=>Tt) (0,.slice none 0 0,.slice none 0 0) H HA trivial Ks (by omega) ?_
  clear H HA hst
  intro y g c hk H HA
  obtain ⟨k,vc,vk⟩:=y
  dsimp only at hk H HA ⊢
  have hk3 : k=0∨k=1∨k=2:=by omega
  rcases hk3 with rfl|rfl|rfl
  ·have hi0 : ([Tn,(⟨3,n,ES⟩:Tm)])[0]?=some Tn:=rfl
   rw [hck0] at H
   have H : Owns c0 (.row vc 3 1 0 []::.row vk 3 1 0 []::(.obj b7 (.cells (Pr.cs ⟨nm,1⟩).toArray 118 (0,0))::(tbR D.b D.mr (some m) D.vv D.vals++(.obj D.mr (kObj prK D.rm)::(relsR D.rels++L0))))) c:=H
   (repeat' (first|refine Z0 ?_|apply w_nil|apply wc_seq|apply wc_region|apply wx_next|refine Z18 ?_|refine Z19 ?_|apply wc_exit|apply wc_skip|apply wc_block|apply wx_exit_then|apply wx_exit_same|refine Z34 HA fun vx HA=>?_|refine Z38 ?_|refine Z93 (fun hq=>?_) fun hq=>?_))
   ·(refine s_alloc (cs:=Tn.cs) rfl rfl H HA ?_;intro b12 c H HA)
    (refine Z2 ?_;refine Z74 fun c H HA=>?_;apply Y0;apply wc_seq;apply Y1;refine Z42 ?_)
    (refine s_call rfl rfl H HA (term_Variable Tn _) ?_;intro vx c H HP;have hvx:=HP.h.1;have HA:=HP.cut;subst hvx)
    rw [show Tn.isVar=false from rfl]
    (apply Y0;refine Z19 ?_;apply wc_skip;apply wx_next;apply wc_seq)
    have H : Owns c0 (.obj b12 (.cells Tn.cs.toArray 32 (0,0))::.row vc 3 1 0 []::.row vk 3 1 0 []::(.obj b7 (.cells (Pr.cs ⟨nm,1⟩).toArray 118 (0,0))::(tbR D.b D.mr (some m) D.vv D.vals++(.obj D.mr (kObj prK D.rm)::(relsR D.rels++L0))))) c:=H
    have H : Owns c0 ((tbR D.b D.mr (some m) D.vv D.vals++[])++(.obj b12 (.cells Tn.cs.toArray 32 (0,0))::.row vc 3 1 0 []::.row vk 3 1 0 []::.obj b7 (.cells (Pr.cs ⟨nm,1⟩).toArray 118 (0,0))::(.obj D.mr (kObj prK D.rm)::(relsR D.rels++L0)))) c:=by
     rw [List.append_nil]
     exact H.perm Pm
    refine dw_startE (I:=tbR D.b D.mr (some m) D.vv D.vals++[]) H HA ?_
    (repeat (first|refine Dc ?_|refine Dm ?_))
    refine dw_consT (pr:=tbR D.b D.mr (some m) D.vv D.vals) (po:=tbR D.b D.mr (some m) D.vv D.vals) (S:=fun v _=>v=.tuple #[.int .i64 ((0:Nat):Int),.bool true]) ?_ (by intro v;infer_instance) ?_
    ·(intro B _ Lx c HA;(repeat (first|rintro vx rfl|(intro vx hx;have HA:=HA.addSF hx;clear hx)|(intro vx hx;skip;have HA:=HA.add hx;clear hx)|(intro vx;have hvx2:Go.Value:=vx;clear hvx2)));(first|intro H|(have H:=HA.h.1;have HA:=HA.cut));change W _ _ _ _ _ _ _)
     refine s_callT (pre:=tbR D.b D.mr (some m) D.vv D.vals) (post:=tbR D.b D.mr (some m) D.vv D.vals) rfl rfl H HA (base_known D.b D.mr m D.vv D.vals Tn _) ?_
     intro vx c H HA
     exact w_nil (pq_turn H Cu (HA.h.1 0 hpos))
    (repeat (refine Dc ?_))
    refine dw_doneT mixed (I:=tbR D.b D.mr (some m) D.vv D.vals++[]) (by kernel_rfl) H HA (by kernel_rfl) ?_
    clear H HA
    intro c HA v49 h49 H
    change W _ _ _ _ _ _ _
    have H : Owns c0 (tbR D.b D.mr (some m) D.vv D.vals++(.obj b12 (.cells Tn.cs.toArray 32 (0,0))::.row vc 3 1 0 []::.row vk 3 1 0 []::.obj b7 (.cells (Pr.cs ⟨nm,1⟩).toArray 118 (0,0))::(.obj D.mr (kObj prK D.rm)::(relsR D.rels++L0)))) c:=H
    have H : Owns c0 (.row vc 3 1 0 []::.row vk 3 1 0 []::.obj b12 (.cells Tn.cs.toArray 32 (0,0))::.obj b7 (.cells (Pr.cs ⟨nm,1⟩).toArray 118 (0,0))::(tbR D.b D.mr (some m) D.vv D.vals++(.obj D.mr (kObj prK D.rm)::(relsR D.rels++L0)))) c:=H.perm Pm
    (apply Y0;apply wc_seq;apply Y1;refine Z0 ?_;refine Z33 ?_;apply Y0;refine Z19 ?_;apply wc_skip;apply wx_next;apply wc_region;refine Z0 ?_;refine Z0 ?_)
    (refine s_bs1 (cs:=[.int .i64 ((0:Nat):Int)]) rfl rfl rfl rfl rfl rfl H HA ?_;intro b1 c H HA)
    refine s_appB (cs:=[.int .i64 ((0:Nat):Int)]) rfl rfl rfl Lk rfl rfl rfl rfl (by intro u hu;rw [List.mem_singleton.1 hu];rfl) (by simp only [LIM];omega) H HA ?_
    intro vc2 c H HA
    (refine Z0 ?_;refine Z0 ?_)
    (refine s_bs1 (cs:=[.int .i64 ((0:Nat):Int)]) rfl rfl rfl rfl rfl rfl H HA ?_;intro b1 c H HA)
    refine s_appB (cs:=[.int .i64 ((0:Nat):Int)]) rfl rfl rfl Lk rfl rfl rfl rfl (by intro u hu;rw [List.mem_singleton.1 hu];rfl) (by simp only [LIM];omega) H.swap HA ?_
    intro vk2 c H HA
    (refine Z2 ?_;refine Z2 ?_;apply w_nil;apply wx_norm_block;apply wx_next;apply wc_region;refine Z46 ?_;refine Z0 ?_;apply w_nil)
    have H : Owns c0 (.row vk2 3 1 1 [.int .i64 ((0:Nat):Int)]::.row vc2 3 1 1 [.int .i64 ((0:Nat):Int)]::.obj b12 (.cells Tn.cs.toArray 32 (0,0))::.obj b7 (.cells (Pr.cs ⟨nm,1⟩).toArray 118 (0,0))::(tbR D.b D.mr (some m) D.vv D.vals++(.obj D.mr (kObj prK D.rm)::(relsR D.rels++L0)))) c:=H
    have H : Owns c0 (.row vc2 3 1 (ck 1).length (rkc (ck 1))::.row vk2 3 1 (ck 1).length (rkc (ck 1))::.obj b7 (.cells (Pr.cs ⟨nm,1⟩).toArray 118 (0,0))::(tbR D.b D.mr (some m) D.vv D.vals++(.obj D.mr (kObj prK D.rm)::(relsR D.rels++L0)))) c:=by
     rw [hck1]
     have H2 : Owns c0 (.obj b12 (.cells Tn.cs.toArray 32 (0,0))::.row vc2 3 1 1 [.int .i64 ((0:Nat):Int)]::.row vk2 3 1 1 [.int .i64 ((0:Nat):Int)]::.obj b7 (.cells (Pr.cs ⟨nm,1⟩).toArray 118 (0,0))::(tbR D.b D.mr (some m) D.vv D.vals++(.obj D.mr (kObj prK D.rm)::(relsR D.rels++L0)))) c:=H.perm Pm
     exact H2.drop
    exact wx_loopG ((1,vc2,vk2)) H Cu trivial Ks (show (1:Nat)<2 by omega) (by dsimp only;omega)
   ·exfalso;omega
  ·have hi1 : ([Tn,(⟨3,n,ES⟩:Tm)])[1]?=some ⟨3,n,ES⟩:=rfl
   rw [hck1] at H
   (repeat' (first|refine Z0 ?_|apply w_nil|apply wc_seq|apply wc_region|apply wx_next|refine Z18 ?_|refine Z19 ?_|apply wc_exit|apply wc_skip|apply wc_block|apply wx_exit_then|apply wx_exit_same|refine Z34 HA fun vx HA=>?_|refine Z38 ?_|refine Z93 (fun hq=>?_) fun hq=>?_))
   ·(refine s_alloc (cs:=Tn.cs) rfl rfl H HA ?_;intro b12 c H HA)
    (refine Z2 ?_;refine Z74 fun c H HA=>?_;apply Y0;apply wc_seq;apply Y1;refine Z42 ?_)
    (refine s_call rfl rfl H HA (term_Variable ⟨3,n,ES⟩ _) ?_;intro vx c H HP;have hvx:=HP.h.1;have HA:=HP.cut;subst hvx)
    rw [show Tm.isVar ⟨3,n,ES⟩=true from by simp [Tm.isVar,hn]]
    (apply Y0;refine Z18 ?_;apply wc_exit;apply wx_exit_then;apply wx_exit_same;apply wx_next;apply wc_region;refine Z46 ?_;refine Z0 ?_;apply w_nil)
    have H:=H.drop
    rw [←hck1,hck1,←hck2] at H
    exact wx_loopG ((2,vc,vk)) H Cu trivial Ks (show (0:Nat)<1 by omega) (by dsimp only;omega)
   ·exfalso;omega
  ·rw [hck2] at H
   (repeat' (first|refine Z0 ?_|apply w_nil|apply wc_seq|apply wc_region|apply wx_next|refine Z18 ?_|refine Z19 ?_|apply wc_exit|apply wc_skip|apply wc_block|apply wx_exit_then|apply wx_exit_same|refine Z93 (fun hq=>?_) fun hq=>?_))
   ·exfalso;omega
   ·(refine s_alloc (cs:=[.slice none 0 0]) rfl rfl H HA ?_;intro b15 c H HA)
    (apply Y0;apply wc_seq;apply Y1;refine Z0 ?_;refine Z0 ?_)
    have H : Owns c0 (.row vc 3 1 ([(0:Int)]).length ([[Value.int .i64 0]]:List (List Value)).flatten::.obj b15 (.cells [Value.slice none 0 0].toArray 25 (0,0))::.row vk 3 1 ([(0:Int)]).length ([[Value.int .i64 0]]:List (List Value)).flatten::.obj b7 (.cells (Pr.cs ⟨nm,1⟩).toArray 118 (0,0))::(tbR D.b D.mr (some m) D.vv D.vals++(.obj D.mr (kObj prK D.rm)::(relsR D.rels++L0)))) c:=H.swap
    have HA:=HA.add (vals_single (cs:=[Value.int .i64 0]) (y:=(0:Int)) (c:=c) rfl)
    (refine w_freezeRow H HA Lk rfl rfl (by decide) ?_;intro c H HA)
    have H:=H.swap
    (refine w_freezeRow H HA Lk rfl rfl (by decide) ?_;intro c H HA)
    refine s_and rfl rfl rfl (r:=(parts:Int)) (by rcases hp with rfl|rfl|rfl<;>decide) ?_
    (refine Z0 ?_;refine Z0 ?_)
    have hm:=List.mem_of_getElem? hj
    have hrk:=(hB.rok _ hm)
    have hw2 : r.width=2:=hrk.2
    have H : Owns c0 (r.res 155 161 158 197++(.obj b15 (.cells [Value.slice none 0 0].toArray 25 (0,0))::.obj b7 (.cells (Pr.cs ⟨nm,1⟩).toArray 118 (0,0))::(tbR D.b D.mr (some m) D.vv D.vals++(.obj D.mr (kObj prK D.rm)::(relsR (D.rels.eraseIdx j)++L0))))) c:=by
     refine H.perm ((List.Perm.cons _ (List.Perm.cons _ (List.Perm.append_left _ (List.Perm.cons _ ((relsR_pull hj).append_right _))))).trans ?_)
     exact Pm
    refine s_callX rfl rfl H HA (rel_Find r parts vc vk (by omega) (by omega) _ Lk Lk) ?_
    intro v R c H HA
    obtain ⟨rfl,z,rfl,hzI⟩:=HA.h.1
    have HA:=HA.cut.add hzI
    (apply Y0;apply wc_block)
    have hFc : BaF D c:=Lk
    have hb3 : Box b3 [ptr D.b] c:=Lk
    have hpb : Pt (pat nm n) pb c:=Lk
    have H : Owns c0 (r.res 155 161 158 197++(FoR b15 b7 nm D m ([],.slice none 0 0,[])++(.obj D.mr (kObj prK D.rm)::(relsR (D.rels.eraseIdx j)++L0)))) c:=by
     have H2:=H.nilRow 35 5
     refine H2.perm ?_
     rw [FoR,tbR,vtR,tbM]
     show List.Perm _ (_++((Res.row (.slice none 0 0) 35 5 0 []::_::_::(_++_))++_))
     exact Pm
    have hsel : ∀x∈r.sel parts,x[0]?=some 0∧(∀q∈x,q<D.vals.length)∧x.length=2:=by
     intro x hx
     have hall : ∃e∈r.all,e.row=x:=by
      rcases mem_sel.1 hx with ⟨_,e,he,h⟩|⟨_,e,he,h⟩|⟨_,e,he,h⟩
      ·exact ⟨e,eo_all _ _ he,h⟩
      ·exact ⟨e,en_all _ _ he,h⟩
      ·exact ⟨e,ex_all _ _ he,h⟩
     obtain ⟨e,he,rfl⟩:=hall
     exact ⟨hrk.1.hd e he,hB.num _ hm e he,by rw [hrk.1.wd e he,hw2]⟩
    have hsell : (r.sel parts).length<1073741824:=by
     have h1 : (r.sel parts).length≤r.pall.length:=by
      rw [RlS.sel,List.length_map]
      exact List.length_filter_le ..
     have h2 : r.pall.length=r.all.length:=by rw [←pall_all,List.length_map]
     have h3 : r.all.length<1073741824:=hrk.1.lim
     omega
    generalize hgf : (upd _ 68 _)=gf
    refine wc_range (σ:=List At0×Value×List (List Value)) (ix:=fun xs i s=>s.1=(xs.take i).map (factOf D.vals nm)∧i≤xs.length) (s0:=([],.slice none 0 0,[]))
     (FoR b15 b7 nm D m) (fun s c=>Vals s.2.2 s.1 c∧Box b3 [ptr D.b] c∧Pt (pat nm n) pb c)
     (fun xs i x s f' Xs c=>Xs=FoR b15 b7 nm D m s∧(∃v,f'=upd (upd gf 69 v) 16 v∧Sl v (ints x) c)∧(Vals s.2.2 s.1 c∧Box b3 [ptr D.b] c∧Pt (pat nm n) pb c))
     rfl (by rw [←hgf];rfl) inferInstance (fun _ _ _ _ _ _=>inferInstance) (fun R=>inferInstance) (rel_seq r parts z hp c hrk.1 (hFc _ hm) Lk) (fun xs _=>⟨rfl,Nat.zero_le _⟩) H (((Ca:Hd A0 c).add hFc).add ⟨Vals.nil _,hb3,hpb⟩) ?_ ?_ ?_
    ·intro l xs i x s v L A c iA hS hx hi H HA
     ((apply wg_region;focus exact rfl);refine Z2 ?_;apply w_nil;apply wx_qw)
     exact wgx_as H ⟨HA.h.2.2⟩ ⟨rfl,⟨v,rfl,HA.h.1⟩,HA.h.2.1⟩
    ·subst hgf
     intro l xs i x s f' Xs L A c iA hS hx hi H HA
     obtain ⟨so,vo,cl⟩:=s
     obtain ⟨⟨hX,⟨v,hf,hsv⟩,hv,hb3,hpb⟩,hA⟩:=HA.h
     subst hX hf
     dsimp only at hi hv
     have HA : Hd A c:=⟨hA⟩
     have HA:=(((HA.add hv).add hb3).add hpb).add hsv
     obtain ⟨hx0,hxn,hxl⟩:=hsel x (hS.mem_iff.1 (List.mem_of_getElem? hx))
     have H : Owns c0 (.row vo 35 5 so.length cl.flatten::.obj b15 (.cells [vo].toArray 25 (0,0))::.obj b7 (.cells (Pr.cs ⟨nm,1⟩).toArray 118 (0,0))::(vtR D.b D.mr (some m) D.vv D.vals++(tbM (some m) D.vals++L))) c:=by
      refine H.perm ?_
      rw [FoR]
      exact Pm
     (apply wg_block;apply wg_seq;(apply wg_region;focus exact rfl);refine Z1 ?_;refine Z42 ?_;refine Z0 ?_)
     obtain ⟨a,hae⟩ : ∃a,a=factOf D.vals nm x:=⟨_,rfl⟩
     have H : Owns c0 (vtR D.b D.mr (some m) D.vv D.vals++(.row vo 35 5 so.length cl.flatten::.obj b15 (.cells [vo].toArray 25 (0,0))::.obj b7 (.cells (Pr.cs ⟨nm,1⟩).toArray 118 (0,0))::(tbM (some m) D.vals++L))) c:=H.perm Pm
     (refine s_callT (pre:=vtR D.b D.mr (some m) D.vv D.vals) (post:=vtR D.b D.mr (some m) D.vv D.vals) rfl rfl H HA (base_fact D.b D.mr (some m) D.vv D.vals ⟨nm,1⟩ x v _ Lk hx0 hz hxn (by omega)) ?_;intro vx c H HA)
     obtain ⟨ca,hca,va,hca2,hsa⟩:=HA.h.1
     subst hca2 hca
     have HA:=HA.add hsa
     (refine s_alloc (cs:=At0.cs ⟨Tn,ES,[]⟩ (.slice none 0 0)) rfl rfl H HA ?_;intro b17 c H HA)
     (refine Z74 fun c H HA=>?_;apply w_nil;apply wx_qw;apply wgx_next;apply wg_seq;(apply wg_region;focus exact rfl);refine Z39 HA fun vx HA=>?_;refine Z42 ?_)
     have hms : (matchA (pat nm n) (factOf D.vals (⟨nm,1⟩:Pr).name x) []).isSome=true:=by
      match x,hxl with
      | [q0,q],_=>exact match_one nm n hn _
     have hal : (factOf D.vals (⟨nm,1⟩:Pr).name x).args.length=1:=by simp [factOf,hxl]
     (refine s_call rfl rfl H HA (term_Match (pat nm n) (factOf D.vals (⟨nm,1⟩:Pr).name x) [] _ _ _ _ Lk Lk (Sl.nil _) (show 0+1<549755813888 by decide) (by rw [hal];decide)) ?_;intro vx c H HA)
     obtain ⟨v',hv',_⟩:=HA.h.1
     rw [hms] at hv'
     subst hv'
     have HA:=HA.cut
     (repeat' (first|refine Z0 ?_|refine Z2 ?_|apply w_nil|refine Z32 ?_|refine Z41 ?_|refine Z42 ?_|apply wg_seq|(apply wg_region;focus exact rfl)|apply wx_qw|apply wgx_next|(apply wg_condT;exact rfl)))
     have hsl : so.length<1073741824:=by
      rw [hi.1,List.length_map,List.length_take]
      have:=hS.length_eq
      omega
     have H : Owns c0 (.row vo 35 5 so.length cl.flatten::.obj b15 (.cells [vo].toArray 25 (0,0))::.obj b7 (.cells (Pr.cs ⟨nm,1⟩).toArray 118 (0,0))::(vtR D.b D.mr (some m) D.vv D.vals++(tbM (some m) D.vals++L))) c:=H.drop.perm Pm
     (refine Z55 fun vx c H HA=>?_;refine Z59 fun vx c valsx H HA=>?_;refine Z77 fun c H HA=>?_;apply w_nil;apply wx_qw;apply wgx_norm_block)
     have hxi : i<xs.length:=(List.getElem?_eq_some_iff.1 hx).1
     have hv2 : Vals valsx (so++[factOf D.vals nm x]) c:=Lk
     have H : Owns c0 (FoR b15 b7 nm D m (so++[factOf D.vals nm x],vx,valsx)++L) c:=by
      have H2 : Owns c0 (.obj b15 (.cells [vx].toArray 25 (0,0))::.row vx 35 5 (so++[factOf D.vals nm x]).length valsx.flatten::.obj b7 (.cells (Pr.cs ⟨nm,1⟩).toArray 118 (0,0))::(vtR D.b D.mr (some m) D.vv D.vals++(tbM (some m) D.vals++L))) c:=H
      refine H2.perm ?_
      rw [FoR]
      exact Pm
     have hb3' : Box b3 [ptr D.b] c:=Lk
     have hpb' : Pt (pat nm n) pb c:=Lk
     refine wgx_bd (so++[factOf D.vals nm x],vx,valsx) ⟨?_,hxi⟩ H ((Ca:Hd A c).add ⟨hv2,hb3',hpb'⟩)
     show so++[factOf D.vals nm x]=_
     rw [List.take_add_one,hx,List.map_append,←hi.1]
     rfl
    ·intro xs s' R E c hS hix H HA
     obtain ⟨so,vo,cl⟩:=s'
     obtain ⟨hso,_⟩:=hix
     dsimp only at hso
     rw [List.take_length] at hso
     subst hso
     obtain ⟨⟨x,hrx,hfx,rfl⟩,⟨hv,hb3,hpb⟩,hFd,hA⟩:=HA.h
     dsimp only at hv
     have HA:=((((⟨hA⟩:Hd A0 c).add hFd).add hv).add hfx)
     subst hgf
     apply wgx_norm_block
     refine wgx_nextW ?_
     (apply wg_seq;(apply wg_region;focus exact rfl);refine Z41 ?_)
     obtain ⟨so,hso⟩ : ∃so,so=xs.map (factOf D.vals nm):=⟨_,rfl⟩
     have hsol : so.length<1073741824:=by
      rw [hso,List.length_map]
      have:=hS.length_eq
      omega
     have hsm : ∀a∈so,a.sm:=by
      intro a ha
      rw [hso] at ha
      obtain ⟨row,hrow,rfl⟩:=List.mem_map.1 ha
      refine ⟨hB.sm.2 _ hm,(show ES.size<4611686018427387904 by decide),?_⟩
      intro t ht
      obtain ⟨q,hq,rfl⟩:=List.mem_map.1 ht
      have hql:=(hsel row (hS.mem_iff.1 hrow)).2.1 q (List.mem_of_mem_tail hq)
      rw [List.getD_eq_getElem?_getD,List.getElem?_eq_getElem hql]
      exact hB.sm.1 _ (List.getElem_mem _)
     have H : Owns c0 (.row vo 35 5 so.length cl.flatten::.obj E (.deferred (some []))::.obj b15 (.cells [vo].toArray 25 (0,0))::.obj b7 (.cells (Pr.cs ⟨nm,1⟩).toArray 118 (0,0))::((r.at_ [x]).res 155 161 158 197++(tbR D.b D.mr (some m) D.vv D.vals++(.obj D.mr (kObj prK D.rm)::(relsR (D.rels.eraseIdx j)++L0))))) c:=by
      rw [hso]
      refine H.perm ?_
      rw [FoR,tbR,vtR]
      exact Pm
     rw [←hso] at HA
     refine s_sort (P:=Tryz.prog) (xs:=so) (vals:=cl) (good:=At0.sm) (cmp:=cmpAt) (kk:=5) sortAt_q sortAt_0 rfl cmpAt_t3.toP3 rfl rfl H Lk HA hsm ?_ (by omega) ?_
     ·intro a b u1 u2 c' ha _ h1 h2 _
      exact term_CompareAtoms a b u1 u2 c' h1 h2 ha
     intro c cl' out hpm _ H HA
     have hol:=hpm.length_eq
     (refine w_freezeRow H HA Lk rfl rfl (by simp only [LIM];omega) ?_;intro c H HA)
     have hso2 : Sl vo out c:=HA.h.1
     (apply w_nil;apply wx_qw;apply wgx_next;apply wg_seq;(apply wg_region;focus exact rfl);refine Z41 ?_;refine Z2 ?_;apply w_nil;apply wx_qw;apply wgx_next;apply wg_ret)
     obtain ⟨B2,hB2⟩ : ∃B2,B2=D.setR j (⟨nm,1⟩,r.at_ [x]):=⟨_,rfl⟩
     have hall : (r.at_ [x]).all=r.all:=rfl
     have hok2 : BaOk B2:=by rw [hB2];exact hB.setR hj hrx hrk.2 (by rw [hall];exact hB.num _ hm)
     have hsz2:=setR_size (B:=D) (r':=r.at_ [x]) hj
     rw [←hB2,hall] at hsz2
     have hF2 : BaF B2 c:=by
      have hFd2 : BaF D c:=Lk
      have hFx : RlF (r.at_ [x]) c:=Lk
      rw [hB2]
      intro q hq
      rcases List.mem_or_eq_of_mem_set (show q∈D.rels.set j (⟨nm,1⟩,r.at_ [x]) from hq) with hq|rfl
      ·exact hFd2 q hq
      ·exact hFx
     have hjl:=(List.getElem?_eq_some_iff.1 hj).1
     have hpl:=relsR_pull (l:=D.rels.set j (⟨nm,1⟩,r.at_ [x])) (j:=j) (q:=(⟨nm,1⟩,r.at_ [x])) (by simp [hjl])
     rw [List.eraseIdx_set_eq] at hpl
     have hrm2 : B2.rm=D.rm:=by
      rw [hB2]
      exact map_set_same (g:=fun q:Pr×RlS=>(q.1,ptr q.2.b)) (b:=(⟨nm,1⟩,r.at_ [x])) hj rfl
     have H : Owns c0 (.obj E (.deferred (some []))::(baR B2++L0)) c:=by
      have e5 : baR B2=tbR D.b D.mr (some m) D.vv D.vals++(.obj D.mr (kObj prK B2.rm)::relsR (D.rels.set j (⟨nm,1⟩,r.at_ [x]))):=by rw [hB2,←hmn];rfl
      rw [e5,hrm2]
      have H2:=(H.swap.drop).swap.drop
      refine H2.perm (List.Perm.trans ?_ (List.Perm.cons _ (List.Perm.append_right L0 (List.Perm.append_left (tbR D.b D.mr (some m) D.vv D.vals) (List.Perm.cons (Res.obj D.mr (kObj prK D.rm)) hpl.symm)))))
      exact Pm
     have HA:=((Ca:Hd A0 c).add hF2).add hso2
     refine wgx_retM H HA ?_
     clear H HA
     intro c H HA
     have hsz3:=size_get hj
     have hsl4 : (r.sel parts).length≤r.all.length:=by
      have h1 : (r.sel parts).length≤r.pall.length:=by
       rw [RlS.sel,List.length_map]
       exact List.length_filter_le ..
      rwa [←pall_all,List.length_map]
     refine ⟨vo,outs1 Tryz.results160 rfl,vo,rfl,c,baR B2,rfl,H,(⟨HA.h.2.2⟩:Hd A0 c).add ⟨B2,out,rfl,⟨hok2,by rw [hB2];rfl,by omega,by rw [hB2];rfl,by rw [hB2];exact setR_part hj rfl,by rw [hB2];exact setR_part hj rfl,by rw [hB2];exact setR_part hj rfl,by rw [hB2];simp [BaS.setR]⟩,HA.h.2.1,HA.h.1,?_,?_,?_⟩⟩
     ·intro a
      rw [hpm.mem_iff,hso,has_iff hB hj]
      constructor
      ·intro ha
       obtain ⟨row,hrow,rfl⟩:=List.mem_map.1 ha
       exact ⟨row,hS.mem_iff.1 hrow,rfl⟩
      ·rintro ⟨row,hrow,rfl⟩
       exact List.mem_map.2 ⟨row,hS.mem_iff.2 hrow,rfl⟩
     ·have h1:=hS.length_eq
      have h2 : so.length=xs.length:=by rw [hso,List.length_map]
      have h3 : r.all.length≤D.size:=hsz3
      omega
     ·refine hpm.nodup_iff.2 ?_
      rw [hso,List.Nodup,List.pairwise_map]
      refine List.Pairwise.imp_of_mem ?_ (hS.nodup_iff.2 (sel_nd hrk.1))
      intro r1 r2 h1 h2 hne he
      have s1:=hsel r1 (hS.mem_iff.1 h1)
      have s2:=hsel r2 (hS.mem_iff.1 h2)
      exact hne (factOf_inj hB.nd s1.1 s2.1 s1.2.1 s2.2.1 he).2
end Go.Proofs.YtnppmeeibbefbaaGreatDoor
namespace Go.Wk
open Go Go.RowKit
structure BFC where
 b1 : Nat
 b2 : Nat
 b3 : Nat
 va : Value
def BFC.caps (z:BFC) : List Value:=[ptr z.b1,ptr z.b2,ptr z.b3]
def BFC.Is (b parts:Nat) (p:At0) (z:BFC) (c:Cx) : Prop:=Box z.b1 [ptr b] c∧Box z.b2 [.int .i64 (parts:Int)] c∧Box z.b3 (p.cs z.va) c∧Sl z.va p.args c
instance (b parts : Nat) (p : At0) (z : BFC) : Mono (z.Is b parts p):=inferInstanceAs (Mono fun c=>Box z.b1 [ptr b] c∧Box z.b2 [.int .i64 (parts:Int)] c∧Box z.b3 (p.cs z.va) c∧Sl z.va p.args c)
end Go.Wk
namespace Go.Proofs.YtnppmeeibbefbaaGreatDoor
open Go Go.Wk Go.RowKit
instance : Ent Tryz.prog 159:=.of Tryz.func159 (by kernel_rfl) (by kernel_rfl)
instance : Ent Tryz.prog 140:=.of Tryz.func140 (by kernel_rfl) (by kernel_rfl)
def BFindP (D:BaS) (R:List Res) (c:Cx) : Prop:=∃B',R=baR B'∧SameB D B'∧BaF B' c
instance (D : BaS) (R : List Res) : Mono (BFindP D R):=inferInstanceAs (Mono fun c=>∃B',R=baR B'∧SameB D B'∧BaF B' c)
theorem base_seq (D:BaS) (parts:Nat) (nm:ByteArray) (n:Int) (hn:0≤n) (z:BFC) (hp:parts=1∨parts=2∨parts=3) (c:Cx) (hB:BaOk D) (hF:BaF D c) (hC:z.Is D.b parts (pat nm n) c) (hv:D.rels≠[]→D.vals≠[]) (hs:D.size<1073741824) :
  SeqK Tryz.prog 159 z.caps (fun xs=>(∀a,a∈xs↔D.has parts nm a)∧xs.length≤D.size∧xs.Nodup) (fun v x c=>Ag x v c) (baR D) (BFindP D) c:=by
 intro σ l lr bf ix c0 hbf hyl c s0 L0 A0 _ hle0 h0 H HA
 have HA:=(HA.add (Mono.mono hle0 hF)).add (Mono.mono hle0 hC)
 refine Calls.of Tryz.func159 Tryz.ntmps159 rfl rfl ?_
 obtain ⟨b1,b2,b3,b4⟩ : z.Is D.b parts (pat nm n) c:=Lk
 have hag : Ag (pat nm n) (.agg ((pat nm n).cs z.va).toArray) c:=⟨_,rfl,z.va,rfl,b4⟩
 have HA:=((((HA.add b1).add b2).add b3).add b4).add hag
 (apply Y1;refine Z1 ?_;refine Z1 ?_;refine Z7 ?_)
 refine s_callX rfl rfl H HA (base_found D parts nm n hn _ _ hp hB Lk Lk hv hs) ?_
 intro v R c H HA
 obtain ⟨B',out,rfl,hsame,hF',hso,hmem,hlen⟩:=HA.h.1
 have HA:=(HA.cut.add hF').add hso
 (refine Z45 ?_;refine Z0 ?_;apply Y0;apply wc_block)
 have hixs:=h0 out ⟨hmem,hlen⟩
 refine wc_loopG (σ:=Nat×σ) (fun y=>out.length-y.1) (fun y=>[(0,Value.func (Fn.yield l) #[] #[]),(10,v),(11,.int .i64 out.length),(12,.int .i64 y.1)])
  (fun y=>y.1≤out.length∧ix out y.1 y.2)
  (fun y=>baR B'++(lr y.2++L0)) (fun y c=>bf y.2 c) (0,s0) H HA Lk Ks ⟨Nat.zero_le _,hixs⟩ ?_
 clear HA H
 intro y g c hy H HA
 obtain ⟨j,s⟩:=y
 obtain ⟨hj,hxs⟩:=hy
 dsimp only at hj hxs H HA ⊢
 (repeat' (first|apply w_nil|apply wc_seq|apply wc_region|apply wx_next|refine Z18 ?_|refine Z19 ?_|apply wc_exit|apply wc_skip|apply wc_block|apply wx_exit_then|apply wx_exit_same|refine Z93 (fun hq=>?_) fun hq=>?_))
 ·obtain ⟨a,ha⟩:=getq (xs:=out) (k:=j) (by omega)
  (refine Z34 HA fun vx HA=>?_;refine Z39 HA fun vx HA=>?_;refine Z61 fun bx c H HA=>?_)
  obtain ⟨ca,hca,va2,hca2,hsa⟩ : Ag a vx c:=Lk
  subst hca2 hca
  have HA:=HA.add hsa
  (refine Z74 fun c H HA=>?_;apply Y0;apply wc_seq)
  apply wc_of_wg
  apply wg_regionL
  refine wl_cut 2 rfl ?_
  (refine Z0 ?_;refine Z42 ?_;apply w_nil)
  have hgo : Ag a (.agg (a.cs va2).toArray) c:=Lk
  have hbs : bf s c:=Lk
  have H : Owns c0 (lr s++(baR B'++L0)) c:=H.drop.perm Pm
  apply wx_qn
  refine wl_yield (x:=.tmp 17) rfl rfl rfl (hyl _ j a s (.agg (a.cs va2).toArray) ⟨hmem,hlen⟩ ha hxs) H ((HA.add hbs).add hgo) ?_
  intro s' c hxs' H HA
  refine wl_cut 1 rfl ?_
  (refine Z33 ?_;apply w_nil)
  apply wx_qn
  apply wl_nil
  apply wx_of_wg
  (apply wx_next;refine Z19 ?_;apply wc_skip;apply wx_norm_block;apply wx_next;apply wc_region;refine Z46 ?_;refine Z0 ?_;apply w_nil)
  have hbs' : bf s' c:=Lk
  have H : Owns c0 (baR B'++(lr s'++L0)) c:=H.perm Pm
  exact wx_loopG ((j+1,s')) H Cu hbs' Ks (by dsimp only;omega) ⟨by dsimp only;omega,hxs'⟩
 ·have hj2 : j=out.length:=by omega
  have H : Owns c0 (baR B'++(lr s++L0)) c:=H
  have hF3 : BaF B' c:=Lk
  have hbs : bf s c:=Lk
  exact norm_any (v:=.tuple #[]) (outs0 rfl) ⟨_,rfl,baR B',s,c,rfl,⟨out,⟨hmem,hlen⟩,by rw [←hj2];exact hxs⟩,H,((Ca:Hd A0 c).add hbs).add ⟨B',rfl,hsame,hF3⟩⟩
theorem base_Find (b parts:Nat) (p:At0) (u:Value) (c:Cx) (h:Ag p u c) :
  Cn Tryz.prog 140 [ptr b,.int .i64 (parts:Int),u] c (fun v c=>∃z:BFC,v=.func (.func 159) #[] z.caps.toArray∧z.Is b parts p c):=by
 refine Cn.of Tryz.func140 Tryz.ntmps140 rfl rfl fun hm H HA=>?_
 have hlz : p.args.length<1099511627776:=by obtain ⟨cs,rfl,v,rfl,h⟩:=h;exact h.lim
 have HA:=HA.add h
 (apply wc_seq)
 apply wc_region
 (refine s_box (cs:=[ptr b]) rfl rfl H HA ?_;intro b3 c H HA)
 (refine s_box (cs:=[.int .i64 (parts:Int)]) rfl rfl H HA ?_;intro b4 c H HA)
 (refine s_boxG rfl rfl Lk H HA ?_;intro pb c H HA)
 (refine Z2 ?_;apply Y0;apply wc_seq)
 (refine dw_start H HA ?_)
 (repeat (first|refine Dc ?_|refine Dm ?_))
 refine dw_cons (s:=.rel fun u c=>Sl u p.args c) ?_ inferInstance ?_
 ·(intro B _ Lx c H HA;(repeat (first|rintro vx rfl|(intro vx hx;have HA:=HA.addSF hx;clear hx)|(intro vx hx;have HA:=HA.add hx;clear hx)|intro vx));change W _ _ _ _ _ _ _)
  (refine s_callR rfl rfl H HA (Clone_Tm p.args _ _ Lk) ?_;intro vx valsx c H HA)
  (refine w_freezeRow H HA Lk rfl rfl hlz ?_;intro c H HA)
  exact w_nil (pq_rel H Cu Lk)
 refine dw_cons (s:=.rel fun u c=>∃w,u=.agg (p.cs w).toArray∧Sl w p.args c) ?_ inferInstance ?_
 ·(intro B _ Lx c H HA;(repeat (first|rintro vx rfl|(intro vx hx;have HA:=HA.addSF hx;clear hx)|(intro vx hx;have HA:=HA.add hx;clear hx)|intro vx));change W _ _ _ _ _ _ _)
  (refine Z54 ?_;apply w_nil)
  exact pq_rel H Cu ⟨_,rfl,Lk⟩
 (refine Dc ?_)
 refine dw_doneT mixed (I:=[]) (by kernel_rfl) H HA (by kernel_rfl) ?_
 clear H HA
 intro c HA v8 h8 v10 h10 v12 h12 v13 h13 v14 h14 v15 h15 b7 H
 change W _ _ _ _ _ _ _
 obtain ⟨w,rfl,hsw⟩:=h15
 have HA:=HA.add hsw
 have H : Owns _ (.obj b7 (.cells (At0.cs ⟨Tn,ES,[]⟩ (.slice none 0 0)).toArray 35 (0,0))::[]) c:=H
 (refine Z74 fun c H HA=>?_;apply Y2)
 (refine w_freeze H HA ?_;intro c H HA)
 (refine s_makeFunc (vs:=BFC.caps ⟨b3,b4,b7,w⟩) rfl (by rfl) ?_)
 (refine Z2 ?_;apply Y0;apply wc_ret)
 exact ret_fn H hm (outs1 Tryz.results140 Wh) ⟨⟨b3,b4,b7,w⟩,rfl,Lk,Lk,Lk,Lk⟩
end Go.Proofs.YtnppmeeibbefbaaGreatDoor
