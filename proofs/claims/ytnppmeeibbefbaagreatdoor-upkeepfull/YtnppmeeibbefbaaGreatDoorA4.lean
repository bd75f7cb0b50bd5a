/- a part of the proof: lemmas on walks, on plain data, contracts of functions. -/
import Derived.Shelf.SlSortCmp.WholeK
import Derived.Shelf.SlSortCmp.NoneTotal
import Derived.Test.YtnppmeeibbefbaaGreatDoorA1
import Derived.Test.YtnppmeeibbefbaaGreatDoorA3
set_option linter.all false
namespace Go.Wk
open Go Go.RowKit Go.Proofs Go.Shelf Go.Lib Go.Sort
theorem ext0_grow {w w':World} (h:Ext0 w w') : ∃q os,w'=grow (w.drewN q) os:=by
 refine ⟨w'.drawn-w.drawn,w'.heap.extract w.heap.size w'.heap.size,?_⟩
 obtain ⟨hp,tp,dr,os,out⟩:=w'
 have h1:=h.os
 have h2:=h.tape
 have h3:=h.output
 have h4:=h.drawn
 have h5:=h.size
 have h6:=h.blk
 dsimp only at *
 subst h1 h2 h3
 simp only [grow,World.drewN,World.mk.injEq,and_true,true_and]
 refine ⟨?_,by omega⟩
 apply Array.ext_getElem?
 intro i
 simp only [Array.getElem?_append,Array.getElem?_extract]
 split
 ·rename_i hi;exact h6 i hi
 ·rename_i hi
  simp only [Nat.min_self]
  split
  ·congr 1;omega
  ·rw [Array.getElem?_eq_none];omega
theorem flat_get {k:Nat} (hk:0<k) : ∀(l:List (List Value)),(∀x∈l,x.length=k)→∀j,l.flatten[j]?=(l[j / k]?).bind (·[j % k]?)
 | [],_,j=>by simp
 | x::l,h,j=>by
  have hx:=h x (List.mem_cons_self ..)
  rw [List.flatten_cons]
  by_cases hj : j<k
  ·rw [List.getElem?_append_left (by omega),Nat.div_eq_of_lt hj,Nat.mod_eq_of_lt hj]
   rfl
  ·have e1 : j / k=(j-k) / k+1:=by
    rw [Nat.div_eq_sub_div hk (by omega)]
   have e2 : j % k=(j-k) % k:=by rw [Nat.mod_eq_sub_mod (by omega)]
   rw [List.getElem?_append_right (by omega),hx,flat_get hk l (fun y hy=>h y (List.mem_cons_of_mem _ hy)),e1,e2]
   simp
theorem flatK_list {α:Type} [Inhabited α] (enc:α→List Value) (k:Nat) (hk0:0<k) (hk:∀x,(enc x).length=k) (d:Array α) : (flatK enc k d).toList=(d.toList.map enc).flatten:=by
 have hl : ∀x∈d.toList.map enc,x.length=k:=by
  intro x hx
  obtain ⟨y,_,rfl⟩:=List.mem_map.1 hx
  exact hk y
 apply List.ext_getElem?
 intro j
 rw [flat_get hk0 _ hl]
 by_cases hj : j<d.size*k
 ·have hd : j / k<d.size:=Nat.div_lt_of_lt_mul (by rw [Nat.mul_comm];exact hj)
  have hm : j % k<k:=Nat.mod_lt _ hk0
  have hs : (flatK enc k d)[j]?=some (flatK enc k d)[j]!:=by
   rw [getElem!_pos _ _ (by simpa using hj)]
   exact Array.getElem?_eq_getElem (by simpa using hj)
  rw [Array.getElem?_toList,hs,get_flatK _ _ _ _ hj,List.getElem?_map,Array.getElem?_toList,Array.getElem?_eq_getElem hd]
  simp only [Option.map_some,Option.bind_some]
  rw [getElem!_pos d (j / k) hd]
  have hm' : j % k<(enc d[j / k]).length:=by rw [hk];exact hm
  rw [List.getElem?_eq_getElem hm',getElem!_pos (enc d[j / k]) (j % k) hm']
 ·rw [List.getElem?_eq_none (by simp;omega)]
  have hd : ¬j / k<d.size:=fun h=>hj (by
   have:=(Nat.div_lt_iff_lt_mul hk0).1 h
   exact this)
  rw [List.getElem?_eq_none (by simpa using hd)]
  rfl
theorem swo_p3 {α β:Type} {f:α→α→Int} (h:P3 f) (p:β→α) : SWO (ltOf fun a b=>f (p a) (p b)) where
 irrefl x:=by simp [ltOf,h.refl]
 trans x y z h1 h2:=by
  simp only [ltOf,decide_eq_true_eq] at *
  exact h.lt_tr h1 h2
 ntrans x y z h1 h2:=by
  simp only [ltOf,decide_eq_false_iff_not] at *
  have a1:=h.neg (p x) (p y)
  have a2:=h.neg (p y) (p z)
  have a3:=h.neg (p x) (p z)
  have:=h.tr (p z) (p y) (p x) (by omega) (by omega)
  omega
structure SortsQ (P:Program) (gs:FuncId) (args:Value→Nat→List Value) (kk:Nat) (g:FuncId) : Prop where
 h : ∀(T:Type) [Inhabited T] (enc:T→List Value) (cf:T→T→Int) (blk cap:Nat) (d:Array T) (w:World),SWO (ltOf cf)→(∀x,(enc x).length=kk)→(∀x,∀v∈enc x,v.oneCell'=true)→CmpLays P g #[] enc kk cf blk 0 d.size w→HoldsK enc kk w blk 0 d→blk<w.heap.size→d.size<4611686018427387904 →
  Calls P gs (args (.slice (some ⟨blk,0,none⟩) d.size cap) d.size).toArray w fun e w'=>e=.returned (.tuple #[])∧∃d' n os,PermIn 0 d.size d d'∧SortedIn (ltOf cf) 0 d.size d'∧w'=sortWorldK enc kk w blk 0 n d' os
theorem sort_any {α:Type} [Enc α] {P:Program} {gs:FuncId} {args:Value→Nat→List Value} {kk:Nat} {g:FuncId} (hS:SortsQ P gs args kk g) (h00:∀p cap c,Cn P gs (args (.slice p 0 cap) 0) c (fun v _=>v=.tuple #[])) (hk:Enc.k α=kk) {cmp:α→α→Int} (h3:P3 cmp)
  {c0 c:Cx} {L:List Res} {A:Cx→Prop} [Mono A] {v:Value} {e:TypeId} {vals:List (List Value)} {xs:List α} {good:α→Prop} (H:Owns c0 (.row v e kk xs.length vals.flatten::L) c) (HA:Hd A c) (HV:Vals vals xs c) (hgood:∀x∈xs,good x)
  (hcmp:∀x y u1 u2 c',good x→good y→Ag x u1 c'→Ag y u2 c'→Hd A c'→Cn P g [u1,u2] c' (fun v _=>v=.int .i64 (cmp x y))) (hlim:xs.length<4611686018427387904) :
  Calls P gs (args v xs.length).toArray c.w fun en w'=>en=.returned (.tuple #[])∧∃c' vals' xs',c'.w=w'∧xs'.Perm xs∧xs'.Pairwise (fun a b=>cmp a b≤0)∧Owns c0 (.row v e kk xs'.length vals'.flatten::L) c'∧Hd A c'∧Vals vals' xs' c'∧(xs'.zip vals').Perm (xs.zip vals):=by
 rcases Nat.eq_zero_or_pos xs.length with h0|hpos
 ·have hx : xs=[]:=List.eq_nil_of_length_eq_zero h0
  subst hx
  have hv : ∃p cap,v=.slice p 0 cap:=by
   rcases (H.res _ (List.mem_cons_self ..)).1.2 with ⟨rfl,_⟩|⟨g1,cap,cur,rfl,_⟩
   ·exact ⟨_,_,rfl⟩
   ·exact ⟨_,_,rfl⟩
  obtain ⟨p,cap,hv⟩:=hv
  have:=h00 p cap c H.mbd
  rw [←hv] at this
  refine this.mono ?_
  rintro en w' ⟨r,he,hx,hr⟩
  subst hr
  have hle:=Le.of_ext hx
  exact ⟨he,⟨w',c.M⟩,vals,[],rfl,List.Perm.refl _,List.Pairwise.nil,H.of_ext hx,HA.to hle,Mono.mono hle HV,List.Perm.refl _⟩
 obtain ⟨g0,cap,cur,hv,hb,hmc,hsz,htk⟩:=row_blk H (List.mem_cons_self ..) hpos
 have hres:=H.res _ (List.mem_cons_self ..)
 have hM : c.M g0:=(hres.2 g0 (by rw [hv];rfl)).1
 have hlt : g0<c.w.heap.size:=(Array.getElem?_eq_some_iff.1 hb).1
 have hmax : cap≤maxLen:=by
  rcases hres.1.2 with ⟨h0,_⟩|⟨g3,cap3,cur3,h1,_,_,_,h4,_⟩
  ·rw [hv] at h0;simp at h0
  ·rw [hv] at h1;simp at h1;omega
 have hk0 : 0<kk:=by rw [←hk];exact Enc.pos
 have hvl : vals.length=xs.length:=HV.1
 let T:={p:α×List Value // Enc.Ok p.2 p.1 c∧good p.1}
 have mk : ∀i : Fin xs.length,Enc.Ok (vals[i.1]'(by omega)) xs[i.1] c∧good xs[i.1]:=fun i =>
  ⟨HV.2 i.1 _ _ (List.getElem?_eq_getElem (by omega)) (List.getElem?_eq_getElem i.2),hgood _ (List.getElem_mem _)⟩
 let d : Array T:=Array.ofFn fun i : Fin xs.length=>⟨(xs[i.1],vals[i.1]'(by omega)),mk i⟩
 have hds : d.size=xs.length:=by simp [d]
 haveI : Inhabited T:=⟨d[0]'(by omega)⟩
 let enc : T→List Value:=fun p=>p.1.2
 have henc : ∀p : T,(enc p).length=kk:=fun p=>(Enc.len _ _ c p.2.1).trans hk
 have h1 : ∀p : T,∀u∈enc p,u.oneCell'=true:=fun p u hu=>Enc.one _ _ c p.2.1 u hu
 have hdl : d.toList.map enc=vals:=by
  apply List.ext_getElem?
  intro i
  by_cases hi : i<xs.length
  ·simp [d,enc,hi,hvl]
  ·rw [List.getElem?_eq_none (by simp [d];omega),List.getElem?_eq_none (by omega)]
 have hdx : d.toList.map (fun p=>p.1.1)=xs:=by
  apply List.ext_getElem?
  intro i
  by_cases hi : i<xs.length
  ·simp [d,hi]
  ·rw [List.getElem?_eq_none (by simp [d];omega),List.getElem?_eq_none (by omega)]
 have hcs : xs.length*kk≤cur.size:=by rw [hsz];exact Nat.mul_le_mul_right _ hmc
 have hH : HoldsK enc kk c.w g0 0 d:=by
  intro j hj
  rw [size_flatK,hds] at hj
  refine ⟨?_,?_⟩
  ·have e1 : (flatK enc kk d)[j]?=some (flatK enc kk d)[j]!:=by
    rw [getElem!_pos _ _ (by simpa [hds] using hj)]
    exact Array.getElem?_eq_getElem (by simpa [hds] using hj)
   have e2 : (flatK enc kk d).toList[j]?=cur.toList[j]?:=by
    rw [flatK_list enc kk hk0 henc,hdl,←htk,List.getElem?_take,if_pos hj]
   simp only [Array.getElem?_toList] at e2
   simp only [World.cell?,hb,Nat.zero_add,Option.isSome_none,Bool.false_eq_true,if_false]
   rw [←e2,e1]
   rfl
  ·simp [World.frozen?,hb]
 have hle : ∀(n:Nat) (dk:Array T) (os:Array Obj),Le c ⟨sortWorldK enc kk c.w g0 0 n dk os,c.M⟩:=by
  intro n dk os
  refine ⟨rfl,rfl,rfl,?_,?_,fun b hb' hm=>⟨?_,hm⟩⟩
  ·simp [sortWorldK,grow,putRowK,putRow,mapBlock,Sort.ahead]
  ·simp [sortWorldK,grow,putRowK,putRow,mapBlock,Sort.ahead]
  ·have hne : g0≠b:=fun e=>hm (e▸hM)
   simp only [sortWorldK,grow,putRowK,putRow,mapBlock,Sort.ahead]
   rw [Array.getElem?_append_left (by simpa using hb'),Array.getElem?_modify,if_neg hne]
 have hcl : CmpLays P g #[] enc kk (fun p q:T=>cmp p.1.1 q.1.1) g0 0 d.size c.w:=by
  intro n os dk _ x y
  have hL:=hle n dk os
  have:=hcmp x.1.1 y.1.1 (.agg (enc x).toArray) (.agg (enc y).toArray) ⟨sortWorldK enc kk c.w g0 0 n dk os,c.M⟩ x.2.2 y.2.2 ⟨_,rfl,Mono.mono hL x.2.1⟩ ⟨_,rfl,Mono.mono hL y.2.1⟩ (HA.to hL) (fun b hb'=>Nat.lt_of_lt_of_le (H.mbd b hb') hL.size)
  have h9 : #[Value.agg (enc x).toArray,Value.agg (enc y).toArray] ++ #[]=[Value.agg (enc x).toArray,Value.agg (enc y).toArray].toArray:=by simp
  rw [h9]
  refine this.mono ?_
  rintro en w' ⟨r,he,hx,hr⟩
  subst hr
  exact ⟨he,ext0_grow hx⟩
 have hcon:=hS.h T enc (fun p q:T=>cmp p.1.1 q.1.1) g0 cap d c.w (swo_p3 h3 fun p:T=>p.1.1) henc h1 hcl hH hlt (by rw [hds];exact hlim)
 rw [hds,←hv] at hcon
 refine hcon.mono fun en w' ⟨he,d',n,os,hp,hs,hw⟩=>⟨he,?_⟩
 let pr : T→α:=fun p=>p.1.1
 have hds' : d'.size=xs.length:=hp.1.trans hds
 have hL:=hle n d' os
 rw [←hw] at hL
 have hvl' : (d'.toList.map enc).flatten=(flatK enc kk d').toList:=(flatK_list enc kk hk0 henc d').symm
 have hxl : (d'.toList.map pr).length=xs.length:=by simp [hds']
 have hw2 : w'.heap[g0]?=some (.cells (putCells id 0 (flatK enc kk d') cur) e (0,0)):=by
  rw [hw]
  simp only [sortWorldK,grow,putRowK,putRow,mapBlock,Sort.ahead]
  rw [Array.getElem?_append_left (by simpa using hlt),Array.getElem?_modify,if_pos rfl,hb]
  rfl
 have hrow : w'.ownsRow 0 e kk v (d'.toList.map pr).length (d'.toList.map enc).flatten:=by
  refine ⟨?_,.inr ⟨g0,cap,_,?_,Nat.zero_le _,hw2,?_,hmax,?_,?_⟩⟩
  ·rw [hvl',hxl];simp [hds']
  ·rw [hxl];exact hv
  ·rw [hxl];exact hmc
  ·simp [putCells,hsz]
  ·rw [hxl,hvl']
   apply List.ext_getElem?
   intro j
   rw [List.getElem?_take]
   by_cases hj : j<xs.length*kk
   ·rw [if_pos hj]
    have e1 : (flatK enc kk d')[j]?=some (flatK enc kk d')[j]!:=by
     rw [getElem!_pos _ _ (by simpa [hds'] using hj)]
     exact Array.getElem?_eq_getElem (by simpa [hds'] using hj)
    have hjc : j<cur.size:=by omega
    simp only [Array.getElem?_toList,putCells,Array.getElem?_mapIdx,Array.getElem?_eq_getElem hjc,Option.map_some,Nat.zero_le,true_and,Nat.zero_add,size_flatK,hds',hj,if_true,Nat.sub_zero]
    rw [e1]
    rfl
   ·rw [if_neg hj,List.getElem?_eq_none (by simp [hds'];omega)]
 have hturn:=H.turn (r':=.row v e kk (d'.toList.map pr).length (d'.toList.map enc).flatten) (w':=w') hL.os hL.tape hL.output hL.drawn hL.size (fun b hb' hne=>by
  have hne2 : g0≠b:=fun e=>hne (by subst e;rw [Res.blk,hv];rfl)
  rw [hw]
  simp only [sortWorldK,grow,putRowK,putRow,mapBlock,Sort.ahead]
  rw [Array.getElem?_append_left (by simpa using hb'),Array.getElem?_modify,if_neg hne2]) hrow (fun b hb'=>.inl hb')
 refine ⟨_,d'.toList.map enc,d'.toList.map pr,rfl,?_,?_,hturn.2,HA.to hturn.1,?_,?_⟩
 ·have h2:=hp.2.2
  have e1 : (d'.extract 0 xs.length)=d':=by rw [←hds'];simp
  have e2 : (d.extract 0 xs.length)=d:=by rw [←hds];simp
  rw [e1,e2] at h2
  rw [←hdx]
  exact h2.map _
 ·rw [List.pairwise_iff_getElem]
  intro i j hi hj hij
  simp only [List.length_map,Array.length_toList] at hi hj
  have:=hs i j (Nat.zero_le _) hij (by rw [←hds'];exact hj)
  simp only [ltOf,decide_eq_false_iff_not] at this
  rw [getElem!_pos d' i hi,getElem!_pos d' j hj] at this
  simp only [List.getElem_map,Array.getElem_toList]
  have h8:=h3.neg (pr d'[i]) (pr d'[j])
  have h9 : ¬cmp (pr d'[j]) (pr d'[i])<0:=this
  omega
 ·refine ⟨by simp,fun i cs x hc hx=>?_⟩
  simp only [List.getElem?_map,Option.map_eq_some_iff] at hc hx
  obtain ⟨p,hp1,rfl⟩:=hc
  obtain ⟨q,hq1,rfl⟩:=hx
  rw [hp1] at hq1
  cases hq1
  exact Mono.mono hturn.1 p.2.1
 ·have h2:=hp.2.2
  have e1 : (d'.extract 0 xs.length)=d':=by rw [←hds'];simp
  have e2 : (d.extract 0 xs.length)=d:=by rw [←hds];simp
  rw [e1,e2] at h2
  have z1 : (d'.toList.map pr).zip (d'.toList.map enc)=d'.toList.map fun p=>p.1:=List.zip_map' ..
  have z2 : xs.zip vals=d.toList.map fun p=>p.1:=by
   rw [←hdx,←hdl]
   exact List.zip_map' ..
  rw [z1,z2]
  exact h2.map _
theorem sortFunc_q {P:Program} {ρ:Ren} (Ls:SlLaysF0.n6 P ρ) {kk:Nat} (aE:∀w,(isAgg (ρ.t 24)).run P w=.ok true w) (zE:∀w,(Go.sizeOf (ρ.t 24)).run P w=.ok kk w) {g:FuncId} (eg:∀args w,(callFunc g args).run P w=.ok (.enter g args) w) : SortsQ P (ρ.f 6) (fun v _=>[v,.func (.func g) #[] #[]]) kk g :=
 ⟨fun T _ enc cf blk cap d w hO hk h1 hc hH hb hl=>AnyQ.slices_SortFunc Ls kk aE zE enc hk h1 cf hO g #[] blk 0 cap d w eg hc hH hb hl⟩
theorem sortFunc_0 {P:Program} {ρ:Ren} (Ls:SlLaysF0.n6 P ρ) {g:FuncId} (p:Option Addr) (cap:Nat) (c:Cx) : Cn P (ρ.f 6) [.slice p 0 cap,.func (.func g) #[] #[]] c (fun v _=>v=.tuple #[]) :=
 fun hm=>(AnyF.slices_SortFunc_none Ls p cap (.func (.func g) #[] #[]) c.w).mono fun _ w' ⟨he,hw⟩=>⟨_,he,by rw [hw];exact Ext0.refl _,rfl⟩
theorem pdq_q {P:Program} {ρ:Ren} (Ls:SlLaysF0.n14 P ρ) {kk:Nat} (aE:∀w,(isAgg (ρ.t 24)).run P w=.ok true w) (zE:∀w,(Go.sizeOf (ρ.t 24)).run P w=.ok kk w) {g:FuncId} (eg:∀args w,(callFunc g args).run P w=.ok (.enter g args) w) : SortsQ P (ρ.f 14) (fun v m=>[v,.int .i64 0,.int .i64 m,.int .i64 (Lib.bitLen m:Nat),.func (.func g) #[] #[]]) kk g :=
 ⟨fun T _ enc cf blk cap d w hO hk h1 hc hH hb hl=>by
  have hlim : Lib.bitLen d.size<4611686018427387904:=Nat.lt_of_le_of_lt (Lib.bitLen_le d.size 62 (by omega) (by omega)) (by omega)
  have hp:=AnyQ.pdqsortCmpFunc_all Ls kk aE zE enc cf g #[] hO blk 0 cap d w eg hc ⟨hk,h1,hH,hb⟩ (d.size+1) 0 d.size (Lib.bitLen d.size) d w (by omega) rfl (SWK.start hH) (Nat.zero_le _) (Nat.le_refl _) hl hlim (Or.inl rfl)
  refine hp.mono fun e w' ⟨he,n,os,hw⟩=>?_
  have h:=pdq_sorts (ltOf cf) hO d 0 d.size (Lib.bitLen d.size) true true (Nat.zero_le _) (Nat.le_refl _) (Or.inl rfl)
  exact ⟨he,_,n,os,h.1,h.2,hw⟩⟩
section
variable {P : Program} {ops : Array Oper} {Q : Exit → Act → World → Prop} {n : Nat} {f : Nat → Value} {rest : List Oper} {ty : TypeId} {ps : String} {af : Array Edge} {d : Tmp}
variable {c0 c : Cx} {L : List Res} {A : Cx → Prop}
theorem s_sortZ {α:Type} [Enc α] {kk:Nat} {gs:FuncId} {args:Value→Nat→List Value} {g:FuncId} (hS:SortsQ P gs args kk g) (h00:∀p cap c,Cn P gs (args (.slice p 0 cap) 0) c (fun v _=>v=.tuple #[])) [Ent P gs] (hk:Enc.k α=kk) {cmp:α→α→Int} (h3:P3 cmp) {os:Array Operand} {aT:Array TypeId}
  {v:Value} {e:TypeId} {vals:List (List Value)} {xs:List α} {good:α→Prop} (hn:Nat.blt d n=true) (hx:os.toList.map (opd f)=args v xs.length) (H:Owns c0 (.row v e kk xs.length vals.flatten::L) c) (HV:Vals vals xs c) (HA:Hd A c) [Mono A] (hgood:∀x∈xs,good x)
  (hcmp:∀x y u1 u2 c',good x→good y→Ag x u1 c'→Ag y u2 c'→Hd A c'→Cn P g [u1,u2] c' (fun v _=>v=.int .i64 (cmp x y))) (hlim:xs.length<4611686018427387904)
  (k:∀c' vals' xs',(xs'.zip vals').Perm (xs.zip vals)→xs'.Perm xs→xs'.Pairwise (fun a b=>cmp a b≤0)→Owns c0 (.row v e kk xs'.length vals'.flatten::L) c'→Hd (fun c=>Vals vals' xs' c∧A c) c'→W P ops Q rest n (upd f d (.tuple #[])) c'.w) :
  W P ops Q (⟨some d,.call ⟨.value (.func gs),os,aT⟩,ty,ps,af,none⟩::rest) n f c.w:=by
 have hc:=sort_any hS h00 hk h3 H HA HV hgood hcmp hlim
 rw [←hx] at hc
 refine st_enter hn (g:=gs) (args:=(os.toList.map (opd f)).toArray) (by simp [execOp,resolve,Deferred.ofValue,show opd f (.func gs)=.func (.func gs) #[] #[] from rfl,invoke,Ent.h,←Array.toList_map]) (R:=fun r w'=>r=.tuple #[]∧∃c' vals' xs',c'.w=w'∧xs'.Perm xs∧xs'.Pairwise (fun a b=>cmp a b≤0)∧Owns c0 (.row v e kk xs'.length vals'.flatten::L) c'∧Hd A c'∧Vals vals' xs' c'∧(xs'.zip vals').Perm (xs.zip vals)) (hc.mono fun en w' ⟨he,h⟩=>⟨_,he,rfl,h⟩) ?_
 rintro r w' ⟨rfl,c',vals',xs',rfl,h1,h2,h3,h4,h5,h6⟩
 exact k c' vals' xs' h6 h1 h2 h3 (h4.add h5)
theorem s_sort {α:Type} [Enc α] {kk:Nat} {gs:FuncId} {args:Value→Nat→List Value} {g:FuncId} (hS:SortsQ P gs args kk g) (h00:∀p cap c,Cn P gs (args (.slice p 0 cap) 0) c (fun v _=>v=.tuple #[])) [Ent P gs] (hk:Enc.k α=kk) {cmp:α→α→Int} (h3:P3 cmp) {os:Array Operand} {aT:Array TypeId}
  {v:Value} {e:TypeId} {vals:List (List Value)} {xs:List α} {good:α→Prop} (hn:Nat.blt d n=true) (hx:os.toList.map (opd f)=args v xs.length) (H:Owns c0 (.row v e kk xs.length vals.flatten::L) c) (HV:Vals vals xs c) (HA:Hd A c) [Mono A] (hgood:∀x∈xs,good x)
  (hcmp:∀x y u1 u2 c',good x→good y→Ag x u1 c'→Ag y u2 c'→Hd A c'→Cn P g [u1,u2] c' (fun v _=>v=.int .i64 (cmp x y))) (hlim:xs.length<4611686018427387904)
  (k:∀c' vals' xs',xs'.Perm xs→xs'.Pairwise (fun a b=>cmp a b≤0)→Owns c0 (.row v e kk xs'.length vals'.flatten::L) c'→Hd (fun c=>Vals vals' xs' c∧A c) c'→W P ops Q rest n (upd f d (.tuple #[])) c'.w) :
  W P ops Q (⟨some d,.call ⟨.value (.func gs),os,aT⟩,ty,ps,af,none⟩::rest) n f c.w :=
 s_sortZ hS h00 hk h3 hn hx H HV HA hgood hcmp hlim fun c' vals' xs' _ h1 h2 h3 h4=>k c' vals' xs' h1 h2 h3 h4
end
end Go.Wk
namespace Go.Wk
open Go Go.RowKit
section
variable {P : Program} {ops : Array Oper} {Q : Exit → Act → World → Prop} {n : Nat} {f : Nat → Value} {rest : List Oper} {ty : TypeId} {ps : String} {af : Array Edge} {d : Tmp}
variable {c0 c : Cx} {L : List Res} {A : Cx → Prop}
theorem flatten_take {kk:Nat} : ∀(vals:List (List Value)),(∀cs∈vals,cs.length=kk)→∀i,(vals.take i).flatten=vals.flatten.take (i*kk)
 | [],_,i=>by simp
 | v::vals,h,i=>by
  cases i with
  | zero=>simp
  | succ i =>
   have hv:=h v (List.mem_cons_self ..)
   rw [List.take_succ_cons,List.flatten_cons,List.flatten_cons,flatten_take vals (fun c hc=>h c (List.mem_cons_of_mem _ hc)) i,List.take_append,hv]
   have e : (i+1)*kk=kk+i*kk:=by rw [Nat.add_mul];omega
   rw [e,List.take_of_length_le (l:=v) (by omega),Nat.add_sub_cancel_left]
theorem st_drop {op:Op} {v:Value} {w w':World} (hr:(execOp (opd f) ⟨none,op,ty,ps,af,none⟩).run P w=.ok (.value v) w') (k:W P ops Q rest n f w') : W P ops Q (⟨none,op,ty,ps,af,none⟩::rest) n f w:=⟨fun a ha=>by
 refine wpList_plain rfl fun K hK=>?_
 unfold Oper.wp
 rw [ha.eval,hr]
 exact hK _ _ (k.go _ ha)⟩
theorem s_lenRS {t' e:TypeId} {x:Operand} {v p:Value} {kk lo hi:Nat} (hn:Nat.blt d n=true) [SlT P t' e] (hx:opd f x=p) (h:RSl v kk lo hi p) (k:W P ops Q rest n (upd f d (.int .i64 ((hi-lo:Nat):Int))) c.w) :
  W P ops Q (⟨some d,.call ⟨.builtin .len,#[x],#[t']⟩,ty,ps,af,none⟩::rest) n f c.w:=by
 obtain ⟨ad,m,cap,rfl,e⟩:=h
 exact s_lenL hn (hx.trans e) k
theorem s_ixRS {T e:TypeId} {z:Value} {kk by_:Nat} {x y:Operand} {v p:Value} {lo i m:Nat} {q:Int} {xs:List Value} (hn:Nat.blt d n=true) [SlT P T e] [TyI P e z kk by_] (hx:opd f x=p) (hy:opd f y=.int .i64 q) (hp:RSl v kk lo m p) (H:Owns c0 L c) (hm:Res.row v e kk m xs∈L)
  (hq:q=(i:Int)) (hi:lo+i<m) (k:∀v',RPt v kk (lo+i) v'→W P ops Q rest n (upd f d v') c.w) : W P ops Q (⟨some d,.indexAddr T x y,ty,ps,af,none⟩::rest) n f c.w:=by
 subst hq
 obtain ⟨g,cap,cur,rfl,_,hmc,_⟩:=row_blk H hm (by omega)
 obtain ⟨inf,hinf,_,hs,_⟩:=TyI.h (P:=P) (e:=e)
 obtain ⟨ad,m',cap',hv,rfl⟩:=hp
 simp only [Value.slice.injEq] at hv
 obtain ⟨rfl,rfl,rfl⟩:=hv
 have hne : ¬cap=lo:=by omega
 refine st_val hn (w':=c.w) ?_ (k (.pointer (some ⟨g,(lo+i)*kk,none⟩)) ⟨g,m,cap,rfl,rfl⟩)
 have hlt : (i:Int)<((m-lo:Nat):Int):=by omega
 have hlt2 : i<m-lo:=by omega
 rw [if_neg hne] at hx
 simp only [Option.map_some,Addr.add_lit,Nat.zero_add] at hx
 simp [execOp,Instr.indexAt,asIntOf,hx,hy,run_underlying (SlT.h (P:=P) (T:=T)),sizeOf,typeInfo,hinf,hlt2,Addr.add_lit,hs,Nat.add_mul]
theorem s_clearZ {α:Type} {iE:Enc α} {T e:TypeId} {z:Value} {kk bb:Nat} {x:Operand} {v p:Value} {lo:Nat} {acc:List α} {vals:List (List Value)} {u:α} {zs:List Value} [SlT P T e] [TyI P e z kk bb] [Zer P e z] (hz:z.cells=zs.toArray) (hzo:∀c,Enc.Ok zs u c) (hk:Enc.k α=kk) (hx:opd f x=p) (hp:RSl v kk lo acc.length p) (hlo:lo≤acc.length)
  (H:Owns c0 (.row v e kk acc.length vals.flatten::L) c) (HV:Vals vals acc c) (HA:Hd A c) [Mono A]
  (k:∀c' vals' acc',acc'.length=acc.length→acc'.take lo=acc.take lo→vals'.take lo=vals.take lo→Owns c0 (.row v e kk acc'.length vals'.flatten::L) c'→Hd (fun c=>Vals vals' acc' c∧A c) c'→W P ops Q rest n f c'.w) :
  W P ops Q (⟨none,.call ⟨.builtin .clear,#[x],#[T]⟩,ty,ps,af,none⟩::rest) n f c.w:=by
 rcases Nat.lt_or_ge lo acc.length with hlt|hge
 ·obtain ⟨g,cap,cur,rfl,hb,hmc,hsz,htk⟩:=row_blk H (List.mem_cons_self ..) (by omega)
  obtain ⟨ad,m',cap',hv,rfl⟩:=hp
  simp only [Value.slice.injEq] at hv
  obtain ⟨rfl,rfl,rfl⟩:=hv
  have hne : ¬cap=lo:=by omega
  rw [if_neg hne] at hx
  simp only [Option.map_some,Addr.add_lit,Nat.zero_add] at hx
  have hkp : 0<kk:=hk▸Enc.pos
  have hzl : zs.length=kk:=(Enc.len zs u c (hzo c)).trans hk
  have hzs : z.cells.size=kk:=by rw [hz];simpa using hzl
  have hvl:=HV.len
  rw [hk] at hvl
  have hmul : acc.length*kk≤cap*kk:=Nat.mul_le_mul_right _ hmc
  have hml : (acc.length-lo)*kk+lo*kk=acc.length*kk:=by rw [←Nat.add_mul];congr 1;omega
  have hzc : (Builtin.zeroCells z.cells (acc.length-lo)).toList=(List.replicate (acc.length-lo) zs).flatten:=by
   have:=madeCells_eq (z:=z.cells) hzs hkp (acc.length-lo)
   rw [hz] at this ⊢
   simpa [Builtin.zeroCells,madeCells,hzl] using this
  have hzfl : (List.replicate (acc.length-lo) zs).flatten.length=(acc.length-lo)*kk:=by simp [hzl]
  have hbl : c.w.heap[g]?=some (.cells (cur.toList.toArray) e (0,0)):=by simpa using hb
  obtain ⟨w',hrun,hh,e1,e2,e3,e4,e5,e6⟩:=stores_row (P:=P) g e (List.replicate (acc.length-lo) zs).flatten (lo*kk) 0 cur.toList c.w hbl (by rw [hzfl];simp;omega) (fun y hy=>by
   obtain ⟨q,hq,hyq⟩:=List.mem_flatten.1 hy
   have:=(List.mem_replicate.1 hq).2
   subst this
   exact Enc.one q u c (hzo c) y hyq)
  rw [Nat.add_zero] at hh
  have hown:=(H.res _ (List.mem_cons_self ..)).1
  have hmax : cap≤maxLen:=by
   rcases hown.2 with ⟨h0,_⟩|⟨g3,cap3,cur3,h1,_,_,_,h4,_⟩
   ·simp at h0
   ·simp at h1;omega
  let vals':=vals.take lo++List.replicate (acc.length-lo) zs
  let acc':=acc.take lo++List.replicate (acc.length-lo) u
  have hal : acc'.length=acc.length:=by simp [acc'];omega
  have hvf : vals'.flatten=(cur.toList.take (lo*kk))++(List.replicate (acc.length-lo) zs).flatten:=by
   show (vals.take lo++List.replicate (acc.length-lo) zs).flatten=_
   rw [List.flatten_append,flatten_take vals hvl lo,←htk,List.take_take,Nat.min_eq_left (by omega)]
  have hrow : w'.ownsRow 0 e kk (.slice (some ⟨g,0,none⟩) acc.length cap) acc'.length vals'.flatten:=by
   rw [hal]
   refine ⟨?_,.inr ⟨g,cap,_,rfl,Nat.zero_le _,hh,hmc,hmax,?_,?_⟩⟩
   ·rw [hvf,List.length_append,hzfl,List.length_take]
    simp
    omega
   ·simp only [List.size_toArray,List.length_append,List.length_take,List.length_drop,Array.length_toList,hzfl]
    omega
   ·rw [hvf]
    simp only [List.toList_toArray]
    have l1 : (cur.toList.take (lo*kk)++(List.replicate (acc.length-lo) zs).flatten).length=acc.length*kk:=by
     rw [List.length_append,hzfl,List.length_take];simp;omega
    rw [List.take_append,l1,List.take_of_length_le (by omega)]
    simp
  have hT:=H.turn (r':=.row (.slice (some ⟨g,0,none⟩) acc.length cap) e kk acc'.length vals'.flatten) (w':=w') e1 e2 e3 (by omega) (by omega) (fun x hx hne=>e6 x (fun e=>hne (by subst e;rfl))) hrow (fun b hb=>.inl hb)
  refine st_drop (w':=w') (v:=.tuple #[]) ?_ (k ⟨_,_⟩ vals' acc' hal (List.take_left' (by simp;omega)) (List.take_left' (by rw [List.length_take,HV.1];omega)) hT.2 ((HA.to hT.1).add ?_))
  ·obtain ⟨q,hq⟩ : ∃q,acc.length-lo=q+1:=⟨acc.length-lo-1,by omega⟩
   rw [hq] at hx hzc hrun
   simp [execOp,resolve,invoke,builtin,Builtin.clear_,run_underlying (SlT.h (P:=P) (T:=T)),hx,Zer.z (P:=P) (T:=e),hzc,hrun]
  ·refine ⟨by simp [vals',acc',HV.1],fun i cs x h1 h2=>?_⟩
   have hvt : (vals.take lo).length=lo:=by rw [List.length_take,HV.1];omega
   have hat : (acc.take lo).length=lo:=by rw [List.length_take];omega
   have HV':=Mono.mono (A:=Vals vals acc) hT.1 HV
   rcases Nat.lt_or_ge i lo with hi|hi
   ·rw [List.getElem?_append_left (by omega),List.getElem?_take,if_pos hi] at h1
    rw [List.getElem?_append_left (by omega),List.getElem?_take,if_pos hi] at h2
    exact HV'.2 i cs x h1 h2
   ·rw [List.getElem?_append_right (by omega),List.getElem?_replicate] at h1
    rw [List.getElem?_append_right (by omega),List.getElem?_replicate] at h2
    split at h1
    ·split at h2
     ·simp only [Option.some.injEq] at h1 h2
      subst h1 h2
      exact hzo _
     ·cases h2
    ·cases h1
 ·have hl : lo=acc.length:=by omega
  subst hl
  obtain ⟨ad,m',cap',rfl,rfl⟩:=hp
  refine st_drop (w':=c.w) (v:=.tuple #[]) ?_ (k c vals acc rfl rfl rfl H (HA.add HV))
  simp only [Nat.sub_self] at hx
  cases hq : (if cap'=acc.length then ad else Option.map (fun x=>x.add (acc.length*kk)) ad) with
  | none=>rw [hq] at hx;simp [execOp,resolve,invoke,builtin,Builtin.clear_,run_underlying (SlT.h (P:=P) (T:=T)),hx]
  | some b=>rw [hq] at hx;simp [execOp,resolve,invoke,builtin,Builtin.clear_,run_underlying (SlT.h (P:=P) (T:=T)),hx]
theorem s_ldRX {α:Type} {iE:Enc α} {T e:TypeId} {kk m i:Nat} {x:Operand} {v p:Value} {u:α} {acc:List α} {vals:List (List Value)} (hn:Nat.blt d n=true) [Agg P T kk] (hx:opd f x=p) (hr:RPt v kk i p) (H:Owns c0 L c) (hm:Res.row v e kk m vals.flatten∈L)
  (HV:Vals vals acc c) (hk:Enc.k α=kk) (hu:acc[i]?=some u) (k:∀cs',vals[i]?=some cs'→Enc.Ok cs' u c→W P ops Q rest n (upd f d (.agg cs'.toArray)) c.w) : W P ops Q (⟨some d,.load T x,ty,ps,af,none⟩::rest) n f c.w:=by
 subst hk
 have hil : i<vals.length:=by rw [HV.1];exact (List.getElem?_eq_some_iff.1 hu).1
 have hvi : vals[i]?=some vals[i]:=List.getElem?_eq_getElem hil
 have hok:=HV.2 i _ u hvi hu
 obtain ⟨b,rfl,hc⟩:=row_cell H hm HV.len hvi hr
 exact st_val hn (by simp [execOp,Instr.loadAt,Instr.sureAddr,hx,run_loadk (P:=P) (T:=T) (Enc.len _ u c hok) hc]) (k _ hvi hok)
theorem wc_lendX {α:Type} [Enc α] {x:Code} {e:TypeId} {kk m:Nat} {v:Value} {vals:List (List Value)} {xs:List α} (R:(Nat→Value)→Prop) (H:Owns c0 (.row v e kk m vals.flatten::L) c) (HA:Hd A c) [Mono A] (HV:Vals vals xs c) (hm:m=xs.length) (hk:Enc.k α=kk) (hlim:m<LIM)
  (h:∀c1 c',Owns c0 L c'→Hd (fun c=>Sl v xs c∧Le c1 c∧A c) c'→WC P x (CutI n fun f c2=>R f∧Owns c0 L c2∧Le c1 c2) n f c'.w)
  (k:∀f c',R f→Owns c0 (.row v e kk m vals.flatten::L) c'→Hd A c'→WX Q .normal n f c'.w) : WC P x Q n f c.w:=by
 obtain ⟨c1,hw,hle,H1,hS,back⟩:=H.lend HV hm hk hlim
 rw [←hw]
 have h0:=h c1 c1 H1 ⟨⟨hS,Le.refl _,Mono.mono hle HA.h⟩⟩
 refine ⟨fun a ha=>Go.wp_mono (h0.go a ha) fun e a' w' hq=>?_⟩
 cases e with
 | normal =>
  obtain ⟨f',c2,ha',rfl,hR,H2,hle2⟩:=hq
  obtain ⟨c3,hw3,hle3,H3⟩:=back c2 H2 hle2
  rw [←hw3]
  exact (k f' c3 hR H3 (HA.to hle3)).go a' ha'
 | _=>exact hq.elim
end
end Go.Wk
