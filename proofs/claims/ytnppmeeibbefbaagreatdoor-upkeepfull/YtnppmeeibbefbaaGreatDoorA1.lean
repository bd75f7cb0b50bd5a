/- a part of the proof: lemmas on walks, on plain data, contracts of functions. -/
import Derived.WalkKit
import Derived.Deep.AppendSrc
import Derived.Laws.MakeOwn
import Derived.Scope
import Derived.Deep.Upon
import Derived.Laws.OwnMore
import Derived.Maps.RangeRun
set_option linter.all false
namespace Go.Wk
open Go Go.RowKit

/-! ### frames -/
def upd (f:Nat→Value) (d:Nat) (v:Value) : Nat→Value:=fun t=>bif Nat.beq t d then v else f t
def opd (f:Nat→Value) : Operand→Value
 | .tmp t=>f t
 | .const v=>v
 | .global g=>.pointer (some ⟨g,0,none⟩)
 | .func g=>.func (.func g) #[] #[]
structure FrIs (n:Nat) (f:Nat→Value) (a:Act) : Prop where
 size : a.tmps.size=n
 defers : a.defers=[]
 at_ : ∀t,a.tmps.getD t undef=f t
theorem upd_same (f:Nat→Value) (d:Nat) (v:Value) : upd f d v d=v:=by simp [upd]
theorem upd_ne (f:Nat→Value) {d t:Nat} (v:Value) (h:t≠d) : upd f d v t=f t:=by
 have : Nat.beq t d=false:=by
  cases hb : Nat.beq t d with
  | false=>rfl
  | true=>exact absurd (Nat.eq_of_beq_eq_true hb) h
 simp [upd,this]
theorem FrIs.eval {n:Nat} {f:Nat→Value} {a:Act} (h:FrIs n f a) : a.eval=opd f:=by
 funext x
 cases x with
 | tmp t=>exact h.at_ t
 | _=>rfl
theorem FrIs.put {n:Nat} {f:Nat→Value} {a:Act} (h:FrIs n f a) {d:Nat} (hd:Nat.blt d n=true) (v:Value) : FrIs n (upd f d v) (a.put (some d) v):=by
 have hdn : d<n:=Nat.blt_eq▸hd
 refine ⟨by simp [Act.put,h.size],by simp [Act.put,h.defers],fun t=>?_⟩
 by_cases e : t=d
 ·subst e
  rw [upd_same]
  simp [Act.put,Array.getD_eq_getD_getElem?,h.size,hdn]
 ·rw [upd_ne _ _ e,←h.at_ t]
  simp [Act.put,Array.getD_eq_getD_getElem?,Array.getElem?_setIfInBounds_ne (Ne.symm e)]
theorem FrIs.yields {n:Nat} {f:Nat→Value} {a:Act} (h:FrIs n f a) {ops:Array Oper} {j d:Nat} {b:Bool} (hj:(ops[j]?).bind (·.dst)=some d) (hf:f d=.bool b) : yielded ops a.tmps j=some b:=by
 unfold yielded
 rw [hj]
 have h1:=h.at_ d
 rw [hf] at h1
 have : a.tmps[d]?=some (.bool b):=by
  rw [Array.getD_eq_getD_getElem?] at h1
  cases hx : a.tmps[d]? with
  | none=>rw [hx] at h1;simp [undef] at h1
  | some u=>rw [hx] at h1;simpa using h1
 simp [this]

/-! ### what a world keeps -/
structure Ext0 (w w':World) : Prop where
 os : w'.os=w.os
 tape : w'.tape=w.tape
 output : w'.output=w.output
 drawn : w.drawn≤w'.drawn
 size : w.heap.size≤w'.heap.size
 blk : ∀b,b<w.heap.size→w'.heap[b]?=w.heap[b]?
theorem Ext0.refl (w:World) : Ext0 w w:=⟨rfl,rfl,rfl,Nat.le_refl _,Nat.le_refl _,fun _ _=>rfl⟩
theorem Ext0.trans {a b c:World} (h:Ext0 a b) (k:Ext0 b c) : Ext0 a c :=
 ⟨k.os.trans h.os,k.tape.trans h.tape,k.output.trans h.output,Nat.le_trans h.drawn k.drawn,Nat.le_trans h.size k.size,fun b hb=>(k.blk b (Nat.lt_of_lt_of_le hb h.size)).trans (h.blk b hb)⟩
theorem Ext0.below {w w':World} (h:Ext0 w w') : Below w.heap.size w w':=⟨h.os,h.tape,h.output,h.size,h.blk⟩
theorem Ext0.drew {w w':World} (h:Ext0 w w') : Ext0 w w'.drew:=⟨h.os,h.tape,h.output,Nat.le_trans h.drawn (Nat.le_succ _),h.size,h.blk⟩
theorem Ext0.alloc (w:World) (o:Obj) : Ext0 w (w.alloc o):=⟨rfl,rfl,rfl,Nat.le_refl _,by simp,fun _ hb=>heap_alloc_old w o hb⟩
theorem Ext0.draw (w:World) : Ext0 w w.drew:=(Ext0.refl w).drew

structure Cx where
 w : World
 M : Nat→Prop
structure Le (c c':Cx) : Prop where
 os : c'.w.os=c.w.os
 tape : c'.w.tape=c.w.tape
 output : c'.w.output=c.w.output
 drawn : c.w.drawn≤c'.w.drawn
 size : c.w.heap.size≤c'.w.heap.size
 blk : ∀b,b<c.w.heap.size→¬c.M b→c'.w.heap[b]?=c.w.heap[b]?∧¬c'.M b
theorem Le.refl (c:Cx) : Le c c:=⟨rfl,rfl,rfl,Nat.le_refl _,Nat.le_refl _,fun _ _ h=>⟨rfl,h⟩⟩
theorem Le.trans {a b c:Cx} (h:Le a b) (k:Le b c) : Le a c :=
 ⟨k.os.trans h.os,k.tape.trans h.tape,k.output.trans h.output,Nat.le_trans h.drawn k.drawn,Nat.le_trans h.size k.size,fun x hx hm =>
  have h1:=h.blk x hx hm
  have h2:=k.blk x (Nat.lt_of_lt_of_le hx h.size) h1.2
  ⟨h2.1.trans h1.1,h2.2⟩⟩
class Mono (A:Cx→Prop) : Prop where
 mono : ∀{c c':Cx},Le c c'→A c→A c'
instance Mono.pure (p:Prop) : Mono (fun _=>p):=⟨fun _ h=>h⟩
def Tt (_:Cx) : Prop:=True
instance : Mono Tt:=⟨fun _ h=>h⟩
theorem Tt.intro (c:Cx) : Tt c:=trivial
instance Mono.and (A B:Cx→Prop) [Mono A] [Mono B] : Mono (fun c=>A c∧B c):=⟨fun h k=>⟨Mono.mono h k.1,Mono.mono h k.2⟩⟩
instance Mono.ex {α:Type} (A:α→Cx→Prop) [∀x,Mono (A x)] : Mono (fun c=>∃x,A x c):=⟨fun h ⟨x,k⟩=>⟨x,Mono.mono h k⟩⟩
instance Mono.all {α:Sort _} (A:α→Cx→Prop) [∀x,Mono (A x)] : Mono (fun c=>∀x,A x c):=⟨fun h k x=>Mono.mono h (k x)⟩
structure Hd (A:Cx→Prop) (c:Cx) : Prop where
 h : A c
theorem Hd.to {A:Cx→Prop} [Mono A] {c c':Cx} (h:Hd A c) (k:Le c c') : Hd A c':=⟨Mono.mono k h.h⟩
theorem Hd.add {A B:Cx→Prop} {c:Cx} (h:Hd A c) (k:B c) : Hd (fun c=>B c∧A c) c:=⟨⟨k,h.h⟩⟩
theorem Hd.cut {A B:Cx→Prop} {c:Cx} (h:Hd (fun c=>B c∧A c) c) : Hd A c:=⟨h.h.2⟩
def At (p:Addr) (v:Value) (c:Cx) : Prop:=c.w.cell? p=some v∧¬c.M p.block
theorem At.lt {p:Addr} {v:Value} {c:Cx} (h:At p v c) : p.block<c.w.heap.size:=block_lt_of_cell h.1
instance At.mono (p:Addr) (v:Value) : Mono (At p v):=⟨fun {c c'} h k=>by
 have hb:=h.blk p.block k.lt k.2
 exact ⟨(World.cell?_of_block hb.1).trans k.1,hb.2⟩⟩
def Box (b:Nat) (cs:List Value) (c:Cx) : Prop:=(∃T fr,c.w.heap[b]?=some (.cells cs.toArray T fr))∧¬c.M b
theorem Box.lt {b:Nat} {cs:List Value} {c:Cx} (h:Box b cs c) : b<c.w.heap.size:=by
 obtain ⟨⟨T,fr,h⟩,_⟩:=h
 exact (Array.getElem?_eq_some_iff.1 h).1
instance Box.mono (b:Nat) (cs:List Value) : Mono (Box b cs):=⟨fun {c c'} h k=>by
 have hb:=h.blk b k.lt k.2
 obtain ⟨⟨T,fr,e⟩,hm⟩:=k
 exact ⟨⟨T,fr,hb.1.trans e⟩,hb.2⟩⟩
theorem Box.at_ {b:Nat} {cs:List Value} {c:Cx} (h:Box b cs c) {j:Nat} {v:Value} (hj:cs[j]?=some v) : At ⟨b,j,none⟩ v c:=by
 obtain ⟨⟨T,fr,e⟩,hm⟩:=h
 refine ⟨?_,hm⟩
 rw [cell_of_row _ _ _ _ _ _ e]
 simpa using hj

/-! ### what a call owns -/
inductive Res where
 | obj (b:Nat) (o:Obj)
 | row (v:Value) (e:TypeId) (k n:Nat) (xs:List Value)
def Res.holds (r:Res) (w:World) : Prop :=
 match r with
 | .obj b o=>w.heap[b]?=some o
 | .row v e k n xs=>w.ownsRow 0 e k v n xs
def Res.blk : Res→Option Nat
 | .obj b _=>some b
 | .row v _ _ _ _=>v.ownBlock
theorem Res.lt {r:Res} {w:World} (h:r.holds w) {b:Nat} (hb:r.blk=some b) : b<w.heap.size:=by
 cases r with
 | obj b' o =>
  simp only [Res.blk,Option.some.injEq] at hb
  subst hb
  exact (Array.getElem?_eq_some_iff.1 h).1
 | row v e k n xs=>exact (World.ownsRow.lt h b hb).2
theorem Res.kept {r:Res} {w w':World} (h:r.holds w) (hs:w.heap.size≤w'.heap.size) (hk:∀b,r.blk=some b→w'.heap[b]?=w.heap[b]?) : r.holds w':=by
 cases r with
 | obj b o=>exact (hk b rfl).trans h
 | row v e k n xs =>
  obtain ⟨h1,h2⟩:=h
  refine ⟨h1,?_⟩
  rcases h2 with h2|⟨g,cap,cur,hv,hg,hh,r⟩
  ·exact .inl h2
  ·exact .inr ⟨g,cap,cur,hv,hg,(hk g (by simp [Res.blk,hv,Value.ownBlock])).trans hh,r⟩
structure Owns (c0:Cx) (L:List Res) (c:Cx) : Prop where
 ext : Ext0 c0.w c.w
 keep : ∀b,b<c0.w.heap.size→c0.M b→c.M b
 mbd : ∀b,c.M b→b<c.w.heap.size
 res : ∀r∈L,r.holds c.w∧∀b,r.blk=some b→c.M b∧c0.w.heap.size≤b
 dis : L.Pairwise (fun r r'=>∀b,r.blk=some b→r'.blk≠some b)
theorem Owns.start {c:Cx} (h:∀b,c.M b→b<c.w.heap.size) : Owns c [] c:=⟨Ext0.refl _,fun _ _ h=>h,h,(fun _ h=>by cases h),List.Pairwise.nil⟩
theorem Le.of_ext {c:Cx} {w':World} (h:Ext0 c.w w') : Le c ⟨w',c.M⟩:=⟨h.os,h.tape,h.output,h.drawn,h.size,fun b hb hm=>⟨h.blk b hb,hm⟩⟩
theorem Owns.of_ext {c0 c:Cx} {L:List Res} {w':World} (H:Owns c0 L c) (h:Ext0 c.w w') : Owns c0 L ⟨w',c.M⟩ :=
 ⟨H.ext.trans h,H.keep,fun b hb=>Nat.lt_of_lt_of_le (H.mbd b hb) h.size,fun r hr=>⟨Res.kept (H.res r hr).1 h.size fun b hb=>h.blk b (Res.lt (H.res r hr).1 hb),(H.res r hr).2⟩,H.dis⟩
theorem Owns.fin {c0 c:Cx} {L:List Res} (H:Owns c0 L c) (h0:∀b,c0.M b→b<c0.w.heap.size) : Le c ⟨c.w,c0.M⟩ :=
 ⟨rfl,rfl,rfl,Nat.le_refl _,Nat.le_refl _,fun b _ hm=>⟨rfl,fun h=>hm (H.keep b (h0 b h) h)⟩⟩
theorem Owns.drop {c0 c:Cx} {r:Res} {L:List Res} (H:Owns c0 (r::L) c) : Owns c0 L c:=⟨H.ext,H.keep,H.mbd,fun r hr=>H.res r (List.mem_cons_of_mem _ hr),(List.pairwise_cons.1 H.dis).2⟩
theorem Owns.sub {c0 c:Cx} {L L':List Res} (H:Owns c0 L c) (h:L'.Sublist L) : Owns c0 L' c:=⟨H.ext,H.keep,H.mbd,fun r hr=>H.res r (h.subset hr),H.dis.sublist h⟩
theorem Owns.swap {c0 c:Cx} {r s:Res} {L:List Res} (H:Owns c0 (r::s::L) c) : Owns c0 (s::r::L) c:=by
 refine ⟨H.ext,H.keep,H.mbd,fun x hx=>H.res x ?_,?_⟩
 ·simp only [List.mem_cons] at hx ⊢
  rcases hx with h|h|h<;>simp [h]
 ·have h:=H.dis
  simp only [List.pairwise_cons,List.mem_cons,forall_eq_or_imp] at h ⊢
  refine ⟨⟨fun b hb hb'=>h.1.1 b hb' hb,h.2.1⟩,h.1.2,h.2.2⟩
theorem Owns.swap2 {c0 c:Cx} {r s t:Res} {L:List Res} (H:Owns c0 (r::s::t::L) c) : Owns c0 (t::r::s::L) c:=by
 refine ⟨H.ext,H.keep,H.mbd,fun x hx=>H.res x ?_,?_⟩
 ·simp only [List.mem_cons] at hx ⊢
  rcases hx with h|h|h|h<;>simp [h]
 ·have h:=H.dis
  simp only [List.pairwise_cons,List.mem_cons,forall_eq_or_imp] at h ⊢
  refine ⟨⟨fun b hb hb'=>h.1.2.1 b hb' hb,fun b hb hb'=>h.2.1.1 b hb' hb,h.2.2.1⟩,⟨h.1.1,h.1.2.2⟩,h.2.1.2,h.2.2.2⟩
theorem Owns.new {c0 c:Cx} {L:List Res} (H:Owns c0 L c) (o:Obj) {b:Nat} (hb:b=c.w.heap.size) :
  Le c ⟨c.w.alloc o,fun x=>c.M x∨x=b⟩∧Owns c0 (.obj b o::L) ⟨c.w.alloc o,fun x=>c.M x∨x=b⟩:=by
 subst hb
 have hx:=Ext0.alloc c.w o
 refine ⟨⟨rfl,rfl,rfl,Nat.le_refl _,hx.size,fun b hb hm=>⟨hx.blk b hb,fun h=>h.elim hm (fun e=>by omega)⟩⟩,?_⟩
 refine ⟨H.ext.trans hx,fun b hb h=>.inl (H.keep b hb h),fun b hb=>?_,fun r hr=>?_,?_⟩
 ·rcases hb with hb|rfl
  ·exact Nat.lt_of_lt_of_le (H.mbd b hb) hx.size
  ·simp
 ·rcases List.mem_cons.1 hr with rfl|hr
  ·exact ⟨heap_alloc_new c.w o,fun b hb=>by simp only [Res.blk,Option.some.injEq] at hb;subst hb;exact ⟨.inr rfl,H.ext.size⟩⟩
  ·have h1:=H.res r hr
   exact ⟨Res.kept h1.1 hx.size fun b hb=>hx.blk b (Res.lt h1.1 hb),fun b hb=>⟨.inl (h1.2 b hb).1,(h1.2 b hb).2⟩⟩
 ·refine List.pairwise_cons.2 ⟨fun r hr b hb hb'=>?_,H.dis⟩
  simp only [Res.blk,Option.some.injEq] at hb
  subst hb
  have:=Res.lt (H.res r hr).1 hb'
  omega
theorem Owns.turn {c0 c:Cx} {r r':Res} {L:List Res} {w':World} (H:Owns c0 (r::L) c) (hos:w'.os=c.w.os) (htape:w'.tape=c.w.tape) (hout:w'.output=c.w.output) (hdr:c.w.drawn≤w'.drawn)
  (hsz:c.w.heap.size≤w'.heap.size) (hblk:∀b,b<c.w.heap.size→r.blk≠some b→w'.heap[b]?=c.w.heap[b]?) (hr:r'.holds w') (hb':∀b,r'.blk=some b→r.blk=some b∨c.w.heap.size≤b) :
  Le c ⟨w',fun x=>c.M x∨r'.blk=some x⟩∧Owns c0 (r'::L) ⟨w',fun x=>c.M x∨r'.blk=some x⟩:=by
 have hhd:=H.res r (List.mem_cons_self ..)
 have hin : ∀b,r'.blk=some b→c.M b∨c.w.heap.size≤b:=fun b hb=>(hb' b hb).imp (fun h=>(hhd.2 b h).1) id
 refine ⟨⟨hos,htape,hout,hdr,hsz,fun b hb hm=>⟨hblk b hb fun e=>hm (hhd.2 b e).1,fun h=>h.elim hm fun e=>(hin b e).elim hm (by omega)⟩⟩,?_⟩
 refine ⟨⟨hos.trans H.ext.os,htape.trans H.ext.tape,hout.trans H.ext.output,Nat.le_trans H.ext.drawn hdr,Nat.le_trans H.ext.size hsz,fun b hb=>?_⟩,fun b hb h=>.inl (H.keep b hb h),fun b hb=>?_,fun x hx=>?_,?_⟩
 ·refine (hblk b (Nat.lt_of_lt_of_le hb H.ext.size) fun e=>?_).trans (H.ext.blk b hb)
  have:=(hhd.2 b e).2
  omega
 ·rcases hb with hb|hb
  ·exact Nat.lt_of_lt_of_le (H.mbd b hb) hsz
  ·exact Res.lt hr hb
 ·rcases List.mem_cons.1 hx with rfl|hx
  ·exact ⟨hr,fun b hb=>⟨.inr hb,(hb' b hb).elim (fun h=>(hhd.2 b h).2) fun h=>Nat.le_trans H.ext.size h⟩⟩
  ·have h1:=H.res x (List.mem_cons_of_mem _ hx)
   refine ⟨Res.kept h1.1 hsz fun b hb=>hblk b (Res.lt h1.1 hb) fun e=>?_,fun b hb=>⟨.inl (h1.2 b hb).1,(h1.2 b hb).2⟩⟩
   exact (List.pairwise_cons.1 H.dis).1 x hx b e hb
 ·refine List.pairwise_cons.2 ⟨fun x hx b hb hb2=>?_,(List.pairwise_cons.1 H.dis).2⟩
  have h1:=H.res x (List.mem_cons_of_mem _ hx)
  rcases hb' b hb with h|h
  ·exact (List.pairwise_cons.1 H.dis).1 x hx b h hb2
  ·have:=Res.lt h1.1 hb2
   omega
theorem Owns.freeze {c0 c:Cx} {r:Res} {L:List Res} (H:Owns c0 (r::L) c) :
  Le c ⟨c.w,fun x=>c.M x∧r.blk≠some x⟩∧Owns c0 L ⟨c.w,fun x=>c.M x∧r.blk≠some x⟩:=by
 have hhd:=H.res r (List.mem_cons_self ..)
 refine ⟨⟨rfl,rfl,rfl,Nat.le_refl _,Nat.le_refl _,fun b _ hm=>⟨rfl,fun h=>hm h.1⟩⟩,⟨H.ext,fun b hb h=>⟨H.keep b hb h,fun e=>?_⟩,fun b hb=>H.mbd b hb.1,fun x hx=>?_,(List.pairwise_cons.1 H.dis).2⟩⟩
 ·have:=(hhd.2 b e).2
  omega
 ·have h1:=H.res x (List.mem_cons_of_mem _ hx)
  exact ⟨h1.1,fun b hb=>⟨⟨(h1.2 b hb).1,fun e=>(List.pairwise_cons.1 H.dis).1 x hx b e hb⟩,(h1.2 b hb).2⟩⟩

/-! ### contracts -/
def Cn (P:Program) (g:FuncId) (args:List Value) (c:Cx) (Post:Value→Cx→Prop) : Prop :=
 (∀b,c.M b→b<c.w.heap.size)→Calls P g args.toArray c.w fun e w'=>∃v,e=.returned v∧Ext0 c.w w'∧Post v ⟨w',c.M⟩
theorem Cn.imp {P:Program} {g:FuncId} {args:List Value} {c:Cx} {Post Post':Value→Cx→Prop} (h:Cn P g args c Post) (hp:∀v c',Le c c'→Post v c'→Post' v c') : Cn P g args c Post' :=
 fun hm=>(h hm).mono fun _ _ ⟨v,he,hx,p⟩=>⟨v,he,hx,hp v _ (Le.of_ext hx) p⟩
def CnO (P:Program) (g:FuncId) (args:List Value) (c:Cx) (Post:Value→List Res→Cx→Prop) : Prop :=
 (∀b,c.M b→b<c.w.heap.size)→Calls P g args.toArray c.w fun e w'=>∃v R M',e=.returned v∧Owns c R ⟨w',M'⟩∧Le c ⟨w',M'⟩∧Post v R ⟨w',M'⟩

structure W (P:Program) (ops:Array Oper) (Q:Exit→Act→World→Prop) (l:List Oper) (n:Nat) (f:Nat→Value) (w:World) : Prop where
 go : ∀a,FrIs n f a→wpList P ops Q l a w
structure WC (P:Program) (x:Code) (Q:Exit→Act→World→Prop) (n:Nat) (f:Nat→Value) (w:World) : Prop where
 go : ∀a,FrIs n f a→x.wp P Q a w
structure WX (Q:Exit→Act→World→Prop) (e:Exit) (n:Nat) (f:Nat→Value) (w:World) : Prop where
 go : ∀a,FrIs n f a→Q e a w

section
variable {P : Program} {Q : Exit → Act → World → Prop} {n : Nat} {f : Nat → Value} {w : World}
theorem wc_seq {x y:Code} (h:WC P x (Exit.then (y.wp P Q) Q) n f w) : WC P (.seq x y) Q n f w:=⟨fun a ha=>wp_seq (h.go a ha)⟩
theorem wc_skip (h:WX Q .normal n f w) : WC P .skip Q n f w:=⟨fun a ha=>wp_skip (h.go a ha)⟩
theorem wc_exit {i:Nat} (h:WX Q (.exit i) n f w) : WC P (.exit i) Q n f w:=⟨fun a ha=>wp_exit (h.go a ha)⟩
theorem wc_ret (h:WX Q .ret n f w) : WC P .ret Q n f w:=⟨fun a ha=>wp_ret (h.go a ha)⟩
theorem wc_block {i:Nat} {x:Code} (h:WC P x (Exit.inBlock i Q) n f w) : WC P (.block i x) Q n f w:=⟨fun a ha=>wp_block (h.go a ha)⟩
theorem wc_scope {x:Code} (h:WC P x (Exit.noGoto Q) n f w) : WC P (.scope x) Q n f w:=⟨fun a ha=>wp_scope_straight (h.go a ha)⟩
theorem wc_label {i:Nat} (h:WX Q .normal n f w) : WC P (.label i) Q n f w:=⟨fun a ha=>wp_label (h.go a ha)⟩
theorem wc_cond {o:Operand} {x y:Code} {b:Bool} (hb:opd f o=.bool b) (ht:b=true→WC P x Q n f w) (hf:b=false→WC P y Q n f w) : WC P (.cond o x y) Q n f w :=
 ⟨fun a ha=>wp_cond_split (t:=b) (by rw [ha.eval];exact hb) (fun h=>(ht h).go a ha) (fun h=>(hf h).go a ha)⟩
theorem wc_condT {o:Operand} {x y:Code} (hb:opd f o=.bool true) (ht:WC P x Q n f w) : WC P (.cond o x y) Q n f w:=wc_cond hb (fun _=>ht) (fun h=>by cases h)
theorem wc_condF {o:Operand} {x y:Code} (hb:opd f o=.bool false) (ht:WC P y Q n f w) : WC P (.cond o x y) Q n f w:=wc_cond hb (fun h=>by cases h) (fun _=>ht)
theorem wc_region {id:Nat} {ops:Array Oper} (h:W P ops Q ops.toList n f w) : WC P (.region id ops false) Q n f w:=⟨fun a ha=>wp_region_list (h.go a ha)⟩
theorem w_nil {ops:Array Oper} (h:WX Q .normal n f w) : W P ops Q [] n f w:=⟨fun a ha=>wpList_nil (h.go a ha)⟩

theorem wx_next {y:Code} (h:WC P y Q n f w) : WX (Exit.then (y.wp P Q) Q) .normal n f w:=⟨fun a ha=>h.go a ha⟩
theorem wx_exit_then {K:Act→World→Prop} {i:Nat} (h:WX Q (.exit i) n f w) : WX (Exit.then K Q) (.exit i) n f w:=⟨fun a ha=>h.go a ha⟩
theorem wx_ret_then {K:Act→World→Prop} (h:WX Q .ret n f w) : WX (Exit.then K Q) .ret n f w:=⟨fun a ha=>h.go a ha⟩
theorem wx_norm_block {i:Nat} (h:WX Q .normal n f w) : WX (Exit.inBlock i Q) .normal n f w:=⟨fun a ha=>h.go a ha⟩
theorem wx_ret_block {i:Nat} (h:WX Q .ret n f w) : WX (Exit.inBlock i Q) .ret n f w:=⟨fun a ha=>h.go a ha⟩
theorem wx_exit_same {i:Nat} (h:WX Q .normal n f w) : WX (Exit.inBlock i Q) (.exit i) n f w:=⟨fun a ha=>by simpa [Exit.inBlock] using h.go a ha⟩
theorem wx_exit_other {i j:Nat} (hij:Nat.beq j i=false) (h:WX Q (.exit j) n f w) : WX (Exit.inBlock i Q) (.exit j) n f w:=⟨fun a ha=>by
 have hne : j≠i:=fun e=>by subst e;simp at hij
 simpa [Exit.inBlock,hne] using h.go a ha⟩
theorem wx_ret_goto (h:WX Q .ret n f w) : WX (Exit.noGoto Q) .ret n f w:=⟨fun a ha=>h.go a ha⟩
end

/-! ### loops -/
def LoopI (n:Nat) (I:Nat→(Nat→Value)→Cx→Prop) (m:Nat) : Act→World→Prop:=fun a w=>∃m' f' c',m'<m∧FrIs n f' a∧c'.w=w∧I m' f' c'
section
variable {P : Program} {Q : Exit → Act → World → Prop} {n : Nat} {f : Nat → Value}
theorem wx_loop {I:Nat→(Nat→Value)→Cx→Prop} {m m':Nat} {c:Cx} (hm:m'<m) (h:I m' f c) : WX (Exit.then (LoopI n I m) Q) .normal n f c.w:=⟨fun a ha=>⟨m',f,c,hm,ha,rfl,h⟩⟩
theorem wc_loop {x:Code} {c:Cx} (I:Nat→(Nat→Value)→Cx→Prop) (m:Nat) (h0:I m f c) (round:∀m f c,I m f c→WC P x (Exit.then (LoopI n I m) Q) n f c.w) : WC P (.loop x) Q n f c.w:=by
 refine ⟨fun a ha=>?_⟩
 intro b k cs
 have key : ∀m,∀f (c:Cx) a,FrIs n f a→I m f c →
   ∃e a' w',Q e a' w'∧Arrives P (lone (b.at a (.code x::.inLoop x::k)) cs c.w) b k cs e a' w':=by
  intro m
  induction m using Nat.strongRecOn with
  | _ m ih =>
   intro f c a ha hI
   obtain ⟨e,a₁,w₁,hq,harr⟩:=(round m f c hI).go a ha b (.inLoop x::k) cs
   cases e with
   | normal =>
    obtain ⟨m',f',c',hlt,ha',rfl,hI'⟩:=hq
    obtain ⟨e₂,a₂,w₂,hq₂,harr₂⟩:=ih m' hlt f' c' a₁ ha' hI'
    exact ⟨e₂,a₂,w₂,hq₂,.of_steps (Steps.trans harr (.one step_inLoop)) harr₂⟩
   | exit id=>exact ⟨_,a₁,w₁,hq,.pass (x:=.inLoop x) rfl (fun _ _=>.inl (by simp)) harr⟩
   | goto l=>exact ⟨_,a₁,w₁,hq,.pass (x:=.inLoop x) rfl (fun _ _=>.inl (by simp)) harr⟩
   | ret=>exact ⟨_,a₁,w₁,hq,.pass (x:=.inLoop x) rfl (fun _ _=>.inl (by simp)) harr⟩
   | panic ch=>exact ⟨_,a₁,w₁,hq,.pass (x:=.inLoop x) rfl (fun _ _=>.inl (by simp)) harr⟩
   | outgrown=>exact ⟨_,a₁,w₁,hq,.pass (x:=.inLoop x) rfl (fun _ _=>.inl (by simp)) harr⟩
 obtain ⟨e,a',w',hq,harr⟩:=key m f c a ha h0
 exact ⟨e,a',w',hq,.of_steps (.one step_loop) harr⟩
def CutI (n:Nat) (R:(Nat→Value)→Cx→Prop) : Exit→Act→World→Prop
 | .normal,a,w=>∃f' c',FrIs n f' a∧c'.w=w∧R f' c'
 | _,_,_=>False
theorem wx_cut {R:(Nat→Value)→Cx→Prop} {c:Cx} (h:R f c) : WX (CutI n R) .normal n f c.w:=⟨fun a ha=>⟨f,c,ha,rfl,h⟩⟩
theorem wc_cut {x y:Code} {c:Cx} (R:(Nat→Value)→Cx→Prop) (h:WC P x (CutI n R) n f c.w) (k:∀f c,R f c→WC P y Q n f c.w) : WC P (.seq x y) Q n f c.w :=
 wc_seq ⟨fun a ha=>Go.wp_mono (h.go a ha) fun e a' w' hq=>by
  cases e with
  | normal =>
   obtain ⟨f',c',ha',rfl,hR⟩:=hq
   exact (k f' c' hR).go a' ha'
  | _=>exact hq.elim⟩
end

/-! ### a function's head and end -/
def CnR (c:Cx) (Post:Value→Cx→Prop) : Ending→World→Prop:=fun e w'=>∃v,e=.returned v∧Ext0 c.w w'∧Post v ⟨w',c.M⟩
def CnOR (c:Cx) (Post:Value→List Res→Cx→Prop) : Ending→World→Prop:=fun e w'=>∃v R M',e=.returned v∧Owns c R ⟨w',M'⟩∧Le c ⟨w',M'⟩∧Post v R ⟨w',M'⟩
def frame0 (args:List Value) : Nat→Value:=fun t=>args.getD t undef
theorem frIs0 {args:List Value} {n:Nat} (h:args.length≤n) : FrIs n (frame0 args) { tmps:=args.toArray++Array.replicate (n-args.toArray.size) undef,defers:=[] }:=by
 refine ⟨by simp;omega,rfl,fun t=>?_⟩
 simp only [frame0,Array.getD_eq_getD_getElem?,Array.getElem?_append,List.size_toArray,List.getElem?_toArray,List.getD_eq_getElem?_getD]
 split
 ·rfl
 ·rename_i hlt
  rw [List.getElem?_eq_none (by omega)]
  simp only [Array.getElem?_replicate,Option.getD_none]
  split<;>rfl
section
variable {P : Program} {g : FuncId} {fn : Func} {x : Code} {args : List Value} {c : Cx}
theorem Cn.of {Post:Value→Cx→Prop} {n:Nat} (hf:P.funcs[g]?=some fn) (hn:fn.ntmps=n) (hb:fn.body=some x) (hl:Nat.ble args.length n=true)
  (h:(∀b,c.M b→b<c.w.heap.size)→Owns c [] c→Hd Tt c→WC P x (bodyPost P fn (CnR c Post)) n (frame0 args) c.w) : Cn P g args c Post :=
 fun hm=>calls_of_wp hf hb (by subst hn;exact (h hm (Owns.start hm) ⟨trivial⟩).go _ (frIs0 (Nat.le_of_ble_eq_true hl)))
theorem CnO.of {Post:Value→List Res→Cx→Prop} {n:Nat} (hf:P.funcs[g]?=some fn) (hn:fn.ntmps=n) (hb:fn.body=some x) (hl:Nat.ble args.length n=true)
  (h:(∀b,c.M b→b<c.w.heap.size)→Owns c [] c→Hd Tt c→WC P x (bodyPost P fn (CnOR c Post)) n (frame0 args) c.w) : CnO P g args c Post :=
 fun hm=>calls_of_wp hf hb (by subst hn;exact (h hm (Owns.start hm) ⟨trivial⟩).go _ (frIs0 (Nat.le_of_ble_eq_true hl)))
def Outs (P:Program) (fn:Func) (f:Nat→Value) (w:World) (v:Value) : Prop:=∀tmps : Array Value,(∀t,tmps.getD t undef=f t)→(results fn tmps).run P w=.ok v w
theorem outs1 {f:Nat→Value} {w:World} {v:Value} {t:Tmp} (h:fn.results=#[.tmp t]) (hv:f t=v) : Outs P fn f w v:=fun tmps ht=>by
 subst hv
 simp [results,h,ht]
theorem outs2 {f:Nat→Value} {w:World} {v v':Value} {t t':Tmp} (h:fn.results=#[.tmp t,.tmp t']) (hv:f t=v) (hv':f t'=v') : Outs P fn f w (.tuple #[v,v']):=fun tmps ht=>by
 subst hv hv'
 simp [results,h,ht]
theorem ret_fn {Post:Value→Cx→Prop} {c0 c:Cx} {L:List Res} {n:Nat} {f:Nat→Value} {v:Value} (H:Owns c0 L c) (h0:∀b,c0.M b→b<c0.w.heap.size) [Mono (Post v)] (ho:Outs P fn f c.w v) (hp:Post v c) :
  WX (bodyPost P fn (CnR c0 Post)) .ret n f c.w :=
 ⟨fun a ha=>⟨ha.defers,v,ho _ ha.at_,v,rfl,H.ext,Mono.mono (H.fin h0) hp⟩⟩
theorem norm_fn {Post:Value→Cx→Prop} {c0 c:Cx} {L:List Res} {n:Nat} {f:Nat→Value} {v:Value} (H:Owns c0 L c) (h0:∀b,c0.M b→b<c0.w.heap.size) [Mono (Post v)] (ho:Outs P fn f c.w v) (hp:Post v c) :
  WX (bodyPost P fn (CnR c0 Post)) .normal n f c.w :=
 ⟨fun a ha=>⟨ha.defers,v,ho _ ha.at_,v,rfl,H.ext,Mono.mono (H.fin h0) hp⟩⟩
end

/-! ### what is known of types -/
class Prim (P:Program) (T:TypeId) : Prop where
 ag : ∀w,(isAgg T).run P w=.ok false w
 sz : ∀w,(sizeOf T).run P w=.ok 1 w
class Agg (P:Program) (T:TypeId) (k:outParam Nat) : Prop where
 ag : ∀w,(isAgg T).run P w=.ok true w
 sz : ∀w,(sizeOf T).run P w=.ok k w
class Zer (P:Program) (T:TypeId) (z:outParam Value) : Prop where
 z : ∀w,(zeroValue T).run P w=.ok z w
class Fld (P:Program) (T:TypeId) (i:Nat) (off:outParam Nat) : Prop where
 h : ∀b o w,(Instr.fieldAt T (.pointer (some ⟨b,o,none⟩)) i).run P w=.ok (.pointer (some ⟨b,o+off,none⟩)) w
class SlT (P:Program) (T:TypeId) (e:outParam TypeId) : Prop where
 h : P.underlying T=some (.slice e)
class TyI (P:Program) (e:TypeId) (z:outParam Value) (k b:outParam Nat) : Prop where
 h : ∃i,P.info? e=some i∧i.zero=some z∧i.size=k∧i.bytes=b
class StrT (P:Program) (T:TypeId) : Prop where
 h : P.underlying T=some .string
class Ent (P:Program) (g:FuncId) : Prop where
 h : ∀args w,(callFunc g args).run P w=.ok (.enter g args) w
theorem Ent.of {P:Program} {g:FuncId} {fn:Func} (hf:P.funcs[g]?=some fn) (hname:(fn.name == "runtime.NumGoroutine")=false) (hb:fn.body.isSome=true) : Ent P g:=by
 refine ⟨fun args w=>?_⟩
 unfold callFunc
 have hn : ¬fn.name = "runtime.NumGoroutine":=by simpa using hname
 cases hbb : fn.body with
 | none=>simp [hbb] at hb
 | some x=>simp [hf,hn,hbb]

section
variable {P : Program} {ops : Array Oper} {Q : Exit → Act → World → Prop} {n : Nat} {f : Nat → Value} {w : World} {rest : List Oper} {ty : TypeId} {ps : String} {af : Array Edge} {d : Tmp}

theorem st_val {op:Op} {v:Value} {w':World} (hn:Nat.blt d n=true) (hr:(execOp (opd f) ⟨some d,op,ty,ps,af,none⟩).run P w=.ok (.value v) w') (k:W P ops Q rest n (upd f d v) w') :
  W P ops Q (⟨some d,op,ty,ps,af,none⟩::rest) n f w:=⟨fun a ha=>by
 refine wpList_plain rfl fun K hK=>?_
 unfold Oper.wp
 rw [ha.eval,hr]
 exact hK _ _ ((k).go _ (ha.put hn v))⟩
theorem st_skip {op:Op} {w':World} (hr:(execOp (opd f) ⟨none,op,ty,ps,af,none⟩).run P w=.ok .skip w') (k:W P ops Q rest n f w') :
  W P ops Q (⟨none,op,ty,ps,af,none⟩::rest) n f w:=⟨fun a ha=>by
 refine wpList_plain rfl fun K hK=>?_
 unfold Oper.wp
 rw [ha.eval,hr]
 exact hK _ _ (k.go _ ha)⟩
theorem st_enter {op:Op} {g:FuncId} {args:Array Value} {R:Value→World→Prop} (hn:Nat.blt d n=true) (hr:(execOp (opd f) ⟨some d,op,ty,ps,af,none⟩).run P w=.ok (.enter g args) w)
  (hc:Calls P g args w fun e w'=>∃v,e=.returned v∧R v w') (k:∀v w',R v w'→W P ops Q rest n (upd f d v) w') :
  W P ops Q (⟨some d,op,ty,ps,af,none⟩::rest) n f w:=⟨fun a ha=>by
 refine wpList_plain rfl fun K hK=>?_
 unfold Oper.wp
 rw [ha.eval,hr]
 refine hc.mono ?_
 rintro e w' ⟨v,rfl,hR⟩
 exact hK _ _ ((k v w' hR).go _ (ha.put hn v))⟩
theorem s_guard {op:Op} {j d':Nat} {want b:Bool} (hn:Nat.blt d n=true) (hj:(ops[j]?).bind (·.dst)=some d') (hf:f d'=.bool b)
  (go:b=want→W P ops Q (⟨some d,op,ty,ps,af,none⟩::rest) n f w) (sk:b = !want→W P ops Q rest n (upd f d undef) w) : W P ops Q (⟨some d,op,ty,ps,af,some (j,want)⟩::rest) n f w:=⟨fun a ha=>by
 have hy:=ha.yields (ops:=ops) hj hf
 unfold wpList
 by_cases e : b=want
 ·subst e
  have h:=(go rfl).go a ha
  unfold wpList at h
  rw [if_pos (by simp [Region.wanted])] at h
  rw [if_pos (by simp [Region.wanted,hy])]
  exact h
 ·have : Region.wanted ⟨some d,op,ty,ps,af,some (j,want)⟩ (yielded ops a.tmps)=false:=by
   simp [Region.wanted,hy,e]
  rw [if_neg (by simp [this])]
  exact (sk (by cases b<;>cases want<;>simp_all)).go _ (ha.put hn undef)⟩
theorem s_go {op:Op} {j d':Nat} {want:Bool} (hn:Nat.blt d n=true) (hj:(ops[j]?).bind (·.dst)=some d') (hf:f d'=.bool want)
  (go:W P ops Q (⟨some d,op,ty,ps,af,none⟩::rest) n f w) : W P ops Q (⟨some d,op,ty,ps,af,some (j,want)⟩::rest) n f w:=s_guard hn hj hf (fun _=>go) (fun h=>by cases want<;>cases h)
theorem s_no {op:Op} {j d':Nat} {want:Bool} (hn:Nat.blt d n=true) (hj:(ops[j]?).bind (·.dst)=some d') (hf:f d'=.bool (!want))
  (sk:W P ops Q rest n (upd f d undef) w) : W P ops Q (⟨some d,op,ty,ps,af,some (j,want)⟩::rest) n f w:=s_guard hn hj hf (fun h=>by cases want<;>cases h) (fun _=>sk)
theorem FrIs.yieldsU {n:Nat} {f:Nat→Value} {a:Act} (h:FrIs n f a) {ops:Array Oper} {j d:Nat} (hj:(ops[j]?).bind (·.dst)=some d) (hf:f d=undef) : yielded ops a.tmps j=none:=by
 unfold yielded
 rw [hj]
 have h1:=h.at_ d
 rw [hf] at h1
 simp only [Option.bind_some]
 cases hx : a.tmps[d]? with
 | none=>rfl
 | some u =>
  rw [Array.getD_eq_getD_getElem?,hx] at h1
  simp at h1
  subst h1
  rfl
theorem s_noU {op:Op} {j d':Nat} {want:Bool} (hn:Nat.blt d n=true) (hj:(ops[j]?).bind (·.dst)=some d') (hf:f d'=undef)
  (sk:W P ops Q rest n (upd f d undef) w) : W P ops Q (⟨some d,op,ty,ps,af,some (j,want)⟩::rest) n f w:=⟨fun a ha=>by
 have hy:=ha.yieldsU (ops:=ops) hj hf
 have : Region.wanted ⟨some d,op,ty,ps,af,some (j,want)⟩ (yielded ops a.tmps)=false:=by simp [Region.wanted,hy]
 unfold wpList
 rw [if_neg (by simp [this])]
 exact sk.go _ (ha.put hn undef)⟩
/-! ### values -/
theorem s_move {x:Operand} {v:Value} (hn:Nat.blt d n=true) (hx:opd f x=v) (k:W P ops Q rest n (upd f d v) w) : W P ops Q (⟨some d,.move x,ty,ps,af,none⟩::rest) n f w :=
 st_val hn (by subst hx;rfl) k
theorem s_assign {x:Operand} {v:Value} (hn:Nat.blt d n=true) (hx:opd f x=v) (k:W P ops Q rest n (upd f d v) w) : W P ops Q (⟨some d,.assign x,ty,ps,af,none⟩::rest) n f w :=
 st_val hn (by subst hx;rfl) k
theorem s_pick {x y z:Operand} {b:Bool} {v:Value} (hn:Nat.blt d n=true) (hx:opd f x=.bool b) (hv:(if b then opd f y else opd f z)=v) (k:W P ops Q rest n (upd f d v) w) :
  W P ops Q (⟨some d,.pick x y z,ty,ps,af,none⟩::rest) n f w :=
 st_val hn (by subst hv;simp [execOp,hx,asBool]) k
theorem s_pickT {x y z:Operand} {v:Value} (hn:Nat.blt d n=true) (hx:opd f x=.bool true) (hv:opd f y=v) (k:W P ops Q rest n (upd f d v) w) :
  W P ops Q (⟨some d,.pick x y z,ty,ps,af,none⟩::rest) n f w:=s_pick hn hx (by simpa using hv) k
theorem s_pickF {x y z:Operand} {v:Value} (hn:Nat.blt d n=true) (hx:opd f x=.bool false) (hv:opd f z=v) (k:W P ops Q rest n (upd f d v) w) :
  W P ops Q (⟨some d,.pick x y z,ty,ps,af,none⟩::rest) n f w:=s_pick hn hx (by simpa using hv) k
theorem s_fieldAddr {T:TypeId} {i off b o:Nat} {x:Operand} (hn:Nat.blt d n=true) [Fld P T i off] (hx:opd f x=.pointer (some ⟨b,o,none⟩)) (k:W P ops Q rest n (upd f d (.pointer (some ⟨b,o+off,none⟩))) w) :
  W P ops Q (⟨some d,.fieldAddr T x i,ty,ps,af,none⟩::rest) n f w :=
 st_val hn (by simp [execOp,hx,Fld.h]) k
theorem s_extract {x:Operand} {vs:List Value} {i:Nat} {v:Value} (hn:Nat.blt d n=true) (hx:opd f x=.tuple vs.toArray) (hv:vs[i]?=some v) (k:W P ops Q rest n (upd f d v) w) :
  W P ops Q (⟨some d,.extract x i,ty,ps,af,none⟩::rest) n f w :=
 st_val hn (by simp [execOp,hx,Instr.extract,hv]) k
theorem s_not {T:TypeId} {x:Operand} {b:Bool} (hn:Nat.blt d n=true) (hx:opd f x=.bool b) (k:W P ops Q rest n (upd f d (.bool !b)) w) :
  W P ops Q (⟨some d,.unOp .not T x,ty,ps,af,none⟩::rest) n f w :=
 st_val hn (by simp [execOp,hx,Op.unary]) k
theorem s_makeFunc {fn:Go.Fn} {xs:Array Operand} {vs:List Value} (hn:Nat.blt d n=true) (hx:xs.toList.map (opd f)=vs) (k:W P ops Q rest n (upd f d (.func fn #[] vs.toArray)) w) :
  W P ops Q (⟨some d,.makeFunc fn #[] xs,ty,ps,af,none⟩::rest) n f w :=
 st_val hn (by subst hx;simp [execOp,Instr.makeFunc,←Array.toList_map]) k

/-! ### whole numbers, strings -/
section
variable {T T' : TypeId} {x y : Operand} {kd : IntKind} {a b : Int} (hn : Nat.blt d n = true) (hx : opd f x = .int kd a) (hy : opd f y = .int kd b)
theorem s_eqI (hn:Nat.blt d n=true) (hx:opd f x=.int kd a) (hy:opd f y=.int kd b) {r:Bool} (hr:(a == b)=r) (k:W P ops Q rest n (upd f d (.bool r)) w) : W P ops Q (⟨some d,.binOp .eql T x y T',ty,ps,af,none⟩::rest) n f w :=
 st_val hn (by subst hr;simp [execOp,hx,hy,eqGuard_at_int,binOp_eql]) k
theorem s_neI (hn:Nat.blt d n=true) (hx:opd f x=.int kd a) (hy:opd f y=.int kd b) {r:Bool} (hr:(!(a == b))=r) (k:W P ops Q rest n (upd f d (.bool r)) w) : W P ops Q (⟨some d,.binOp .neq T x y T',ty,ps,af,none⟩::rest) n f w :=
 st_val hn (by subst hr;simp [execOp,hx,hy,eqGuard_at_int,binOp_neq,bne]) k
theorem s_ltI (hn:Nat.blt d n=true) (hx:opd f x=.int kd a) (hy:opd f y=.int kd b) {r:Bool} (hr:decide (a<b)=r) (k:W P ops Q rest n (upd f d (.bool r)) w) : W P ops Q (⟨some d,.binOp .lss T x y T',ty,ps,af,none⟩::rest) n f w :=
 st_val hn (by subst hr;simp [execOp,hx,hy,eqGuard_at_int,binOp_lss]) k
theorem s_leI (hn:Nat.blt d n=true) (hx:opd f x=.int kd a) (hy:opd f y=.int kd b) {r:Bool} (hr:decide (a≤b)=r) (k:W P ops Q rest n (upd f d (.bool r)) w) : W P ops Q (⟨some d,.binOp .leq T x y T',ty,ps,af,none⟩::rest) n f w :=
 st_val hn (by subst hr;simp [execOp,hx,hy,eqGuard_at_int,binOp_leq]) k
theorem s_gtI (hn:Nat.blt d n=true) (hx:opd f x=.int kd a) (hy:opd f y=.int kd b) {r:Bool} (hr:decide (b<a)=r) (k:W P ops Q rest n (upd f d (.bool r)) w) : W P ops Q (⟨some d,.binOp .gtr T x y T',ty,ps,af,none⟩::rest) n f w :=
 st_val hn (by subst hr;simp [execOp,hx,hy,eqGuard_at_int,binOp_gtr]) k
theorem s_geI (hn:Nat.blt d n=true) (hx:opd f x=.int kd a) (hy:opd f y=.int kd b) {r:Bool} (hr:decide (b≤a)=r) (k:W P ops Q rest n (upd f d (.bool r)) w) : W P ops Q (⟨some d,.binOp .geq T x y T',ty,ps,af,none⟩::rest) n f w :=
 st_val hn (by subst hr;simp [execOp,hx,hy,eqGuard_at_int,binOp_geq]) k
theorem c_eq (hn:Nat.blt d n=true) (hx:opd f x=.int kd a) (hy:opd f y=.int kd b) (kt:a=b→W P ops Q rest n (upd f d (.bool true)) w) (kf:¬a=b→W P ops Q rest n (upd f d (.bool false)) w) : W P ops Q (⟨some d,.binOp .eql T x y T',ty,ps,af,none⟩::rest) n f w:=by
 by_cases h : a=b
 ·exact s_eqI hn hx hy (by simpa using h) (kt h)
 ·exact s_eqI hn hx hy (by simpa using h) (kf h)
theorem c_lt (hn:Nat.blt d n=true) (hx:opd f x=.int kd a) (hy:opd f y=.int kd b) (kt:a<b→W P ops Q rest n (upd f d (.bool true)) w) (kf:¬a<b→W P ops Q rest n (upd f d (.bool false)) w) : W P ops Q (⟨some d,.binOp .lss T x y T',ty,ps,af,none⟩::rest) n f w:=by
 by_cases h : a<b
 ·exact s_ltI hn hx hy (by simpa using h) (kt h)
 ·exact s_ltI hn hx hy (by simpa using h) (kf h)
theorem c_le (hn:Nat.blt d n=true) (hx:opd f x=.int kd a) (hy:opd f y=.int kd b) (kt:a≤b→W P ops Q rest n (upd f d (.bool true)) w) (kf:¬a≤b→W P ops Q rest n (upd f d (.bool false)) w) : W P ops Q (⟨some d,.binOp .leq T x y T',ty,ps,af,none⟩::rest) n f w:=by
 by_cases h : a≤b
 ·exact s_leI hn hx hy (by simpa using h) (kt h)
 ·exact s_leI hn hx hy (by simpa using h) (kf h)
theorem c_gt (hn:Nat.blt d n=true) (hx:opd f x=.int kd a) (hy:opd f y=.int kd b) (kt:b<a→W P ops Q rest n (upd f d (.bool true)) w) (kf:¬b<a→W P ops Q rest n (upd f d (.bool false)) w) : W P ops Q (⟨some d,.binOp .gtr T x y T',ty,ps,af,none⟩::rest) n f w:=by
 by_cases h : b<a
 ·exact s_gtI hn hx hy (by simpa using h) (kt h)
 ·exact s_gtI hn hx hy (by simpa using h) (kf h)
theorem c_ge (hn:Nat.blt d n=true) (hx:opd f x=.int kd a) (hy:opd f y=.int kd b) (kt:b≤a→W P ops Q rest n (upd f d (.bool true)) w) (kf:¬b≤a→W P ops Q rest n (upd f d (.bool false)) w) : W P ops Q (⟨some d,.binOp .geq T x y T',ty,ps,af,none⟩::rest) n f w:=by
 by_cases h : b≤a
 ·exact s_geI hn hx hy (by simpa using h) (kt h)
 ·exact s_geI hn hx hy (by simpa using h) (kf h)
theorem c_ne (hn:Nat.blt d n=true) (hx:opd f x=.int kd a) (hy:opd f y=.int kd b) (kt:¬a=b→W P ops Q rest n (upd f d (.bool true)) w) (kf:a=b→W P ops Q rest n (upd f d (.bool false)) w) : W P ops Q (⟨some d,.binOp .neq T x y T',ty,ps,af,none⟩::rest) n f w:=by
 by_cases h : a=b
 ·exact s_neI hn hx hy (by simpa using h) (kf h)
 ·exact s_neI hn hx hy (by simpa using h) (kt h)
theorem s_add (hn:Nat.blt d n=true) (hx:opd f x=.int kd a) (hy:opd f y=.int kd b) {r:Int} (hr:kd.wrap (a+b)=r) (k:W P ops Q rest n (upd f d (.int kd r)) w) : W P ops Q (⟨some d,.binOp .add T x y T',ty,ps,af,none⟩::rest) n f w :=
 st_val hn (by subst hr;simp [execOp,hx,hy,eqGuard_at_int,binOp_add,Op.intArith]) k
theorem s_sub (hn:Nat.blt d n=true) (hx:opd f x=.int kd a) (hy:opd f y=.int kd b) {r:Int} (hr:kd.wrap (a-b)=r) (k:W P ops Q rest n (upd f d (.int kd r)) w) : W P ops Q (⟨some d,.binOp .sub T x y T',ty,ps,af,none⟩::rest) n f w :=
 st_val hn (by subst hr;simp [execOp,hx,hy,eqGuard_at_int,binOp_sub,Op.intArith]) k
theorem s_mul (hn:Nat.blt d n=true) (hx:opd f x=.int kd a) (hy:opd f y=.int kd b) {r:Int} (hr:kd.wrap (a*b)=r) (k:W P ops Q rest n (upd f d (.int kd r)) w) : W P ops Q (⟨some d,.binOp .mul T x y T',ty,ps,af,none⟩::rest) n f w :=
 st_val hn (by subst hr;simp [execOp,hx,hy,eqGuard_at_int,binOp_mul,Op.intArith]) k
end
section
variable {T T' : TypeId} {x y : Operand} {s t : ByteArray}
theorem ba_beq (s t:ByteArray) : (s.toList == t.toList)=decide (s=t):=by
 by_cases h : s=t
 ·subst h;simp
 ·have : s.toList≠t.toList:=fun e=>h (by
   rw [ByteArray.toList_eq,ByteArray.toList_eq] at e
   exact WideShapes.bytes_inj e)
  simp [h,this]
theorem s_eqS (hn:Nat.blt d n=true) (hx:opd f x=.string s) (hy:opd f y=.string t) {r:Bool} (hr:decide (s=t)=r) (k:W P ops Q rest n (upd f d (.bool r)) w) : W P ops Q (⟨some d,.binOp .eql T x y T',ty,ps,af,none⟩::rest) n f w :=
 st_val hn (by subst hr;simp [execOp,hx,hy,eqGuard_at_string,binOp,Op.stringOp,ba_beq]) k
theorem s_neS (hn:Nat.blt d n=true) (hx:opd f x=.string s) (hy:opd f y=.string t) {r:Bool} (hr:(!decide (s=t))=r) (k:W P ops Q rest n (upd f d (.bool r)) w) : W P ops Q (⟨some d,.binOp .neq T x y T',ty,ps,af,none⟩::rest) n f w :=
 st_val hn (by subst hr;simp [execOp,hx,hy,eqGuard_at_string,binOp,Op.stringOp,ba_beq]) k
theorem c_eqS (hn:Nat.blt d n=true) (hx:opd f x=.string s) (hy:opd f y=.string t) (kt:s=t→W P ops Q rest n (upd f d (.bool true)) w) (kf:¬s=t→W P ops Q rest n (upd f d (.bool false)) w) : W P ops Q (⟨some d,.binOp .eql T x y T',ty,ps,af,none⟩::rest) n f w:=by
 by_cases h : s=t
 ·exact s_eqS hn hx hy (by simpa using h) (kt h)
 ·exact s_eqS hn hx hy (by simpa using h) (kf h)
theorem c_neS (hn:Nat.blt d n=true) (hx:opd f x=.string s) (hy:opd f y=.string t) (kt:¬s=t→W P ops Q rest n (upd f d (.bool true)) w) (kf:s=t→W P ops Q rest n (upd f d (.bool false)) w) : W P ops Q (⟨some d,.binOp .neq T x y T',ty,ps,af,none⟩::rest) n f w:=by
 by_cases h : s=t
 ·exact s_neS hn hx hy (by simpa using h) (kf h)
 ·exact s_neS hn hx hy (by simpa using h) (kt h)
theorem s_lenS {t':TypeId} (hn:Nat.blt d n=true) [StrT P t'] (hx:opd f x=.string s) {z:Int} (hz:(s.size:Int)=z) (k:W P ops Q rest n (upd f d (.int .i64 z)) w) :
  W P ops Q (⟨some d,.call ⟨.builtin .len,#[x],#[t']⟩,ty,ps,af,none⟩::rest) n f w :=
 st_val hn (by subst hz;simp [execOp,resolve,invoke,builtin,Builtin.len_,run_underlying (StrT.h (P:=P) (T:=t')),hx,goInt]) k
theorem s_lenL {t' e:TypeId} (hn:Nat.blt d n=true) [SlT P t' e] {ad:Option Addr} {m cp:Nat} (hx:opd f x=.slice ad m cp) (k:W P ops Q rest n (upd f d (.int .i64 m)) w) :
  W P ops Q (⟨some d,.call ⟨.builtin .len,#[x],#[t']⟩,ty,ps,af,none⟩::rest) n f w :=
 st_val hn (by simp [execOp,resolve,invoke,builtin,Builtin.len_,run_underlying (SlT.h (P:=P) (T:=t')),hx,goInt]) k
theorem s_indexS {t':TypeId} (hn:Nat.blt d n=true) [StrT P t'] (hx:opd f x=.string s) {i:Nat} (hy:opd f y=.int .i64 i) {u:UInt8} (hi:s.data[i]?=some u) (k:W P ops Q rest n (upd f d (.int .u8 u.toNat)) w) :
  W P ops Q (⟨some d,.index t' x y,ty,ps,af,none⟩::rest) n f w :=
 st_val hn (by
  have h2 : s[i]?=some u:=by
   have hlt : i<s.data.size:=(Array.getElem?_eq_some_iff.1 hi).1
   have e:=(Array.getElem?_eq_some_iff.1 hi).2
   rw [getElem?_pos s i hlt]
   exact congrArg some e
  simp [execOp,Instr.index,asIntOf,hx,hy,run_underlying (StrT.h (P:=P) (T:=t')),h2]) k
end
end

/-! ### parts of a list of cells, found by search -/
inductive Sub : Nat→Nat→List Value→List Value→Prop where
 | nil {cs:List Value} : Sub 0 0 cs []
 | take {k:Nat} {c:Value} {cs vs:List Value} : Sub 0 k cs vs→Sub 0 (k+1) (c::cs) (c::vs)
 | drop {o k:Nat} {c:Value} {cs vs:List Value} : Sub o k cs vs→Sub (o+1) k (c::cs) vs
theorem Sub.get {o k:Nat} {cs vs:List Value} (h:Sub o k cs vs) : vs.length=k∧∀j v,vs[j]?=some v→cs[o+j]?=some v:=by
 induction h with
 | nil=>exact ⟨rfl,fun j v h=>by simp at h⟩
 | take h ih =>
  refine ⟨by simp [ih.1],fun j v hj=>?_⟩
  cases j with
  | zero=>simpa using hj
  | succ j=>simpa [Nat.zero_add] using ih.2 j v (by simpa using hj)
 | @drop o k c cs vs h ih =>
  refine ⟨ih.1,fun j v hj=>?_⟩
  have:=ih.2 j v hj
  rw [show o+1+j=(o+j)+1 by omega]
  simpa using this
inductive LPut : List Value→Nat→List Value→List Value→Prop where
 | nil {cs:List Value} : LPut cs 0 [] cs
 | here {c v:Value} {cs vs cs':List Value} : LPut cs 0 vs cs'→LPut (c::cs) 0 (v::vs) (v::cs')
 | there {c:Value} {o:Nat} {cs vs cs':List Value} : LPut cs o vs cs'→LPut (c::cs) (o+1) vs (c::cs')
theorem LPut.eq {cs vs cs':List Value} {o:Nat} (h:LPut cs o vs cs') : o+vs.length≤cs.length∧cs'=cs.take o++vs++cs.drop (o+vs.length):=by
 induction h with
 | nil=>simp
 | here h ih =>
  refine ⟨by simp;omega,?_⟩
  have e:=ih.2
  simp at e
  simp [e]
 | @there c o cs vs cs' h ih =>
  refine ⟨by have:=ih.1;simp;omega,?_⟩
  have e:=ih.2
  rw [show o+1+vs.length=(o+vs.length)+1 by omega]
  simp [e]

/-! ### a run of stores into a block all of whose cells are known -/
theorem stores_row {P:Program} (b:Nat) (T:TypeId) : ∀(vs:List Value) (o i:Nat) (cs:List Value) (w:World),w.heap[b]?=some (.cells cs.toArray T (0,0))→o+i+vs.length≤cs.length→(∀v∈vs,v.oneCell'=true) →
  ∃w',(storeCells ⟨b,o,none⟩ vs i).run P w=.ok () w'∧w'.heap[b]?=some (.cells (cs.take (o+i)++vs++cs.drop (o+i+vs.length)).toArray T (0,0)) ∧
   w'.os=w.os∧w'.tape=w.tape∧w'.output=w.output∧w'.drawn=w.drawn∧w'.heap.size=w.heap.size∧∀x,x≠b→w'.heap[x]?=w.heap[x]?:=by
 intro vs
 induction vs with
 | nil =>
  intro o i cs w h _ _
  exact ⟨w,by simp [storeCells],by simpa using h,rfl,rfl,rfl,rfl,rfl,fun _ _=>rfl⟩
 | cons v vs ih =>
  intro o i cs w h hl h1
  simp only [List.length_cons] at hl
  have hv:=h1 v (List.mem_cons_self ..)
  have hadd : (⟨b,o,none⟩:Addr).add i=⟨b,o+i,none⟩:=Addr.add_lit b o i
  have hcell : w.cell? ⟨b,o+i,none⟩=some (cs[o+i]'(by omega)):=by
   rw [cell_of_row _ _ _ _ _ _ h]
   rw [List.getElem?_toArray]
   exact List.getElem?_eq_getElem (by omega)
  have hset:=heap_setCell_same w b (o+i) cs.toArray T v h
  have hset' : (w.setCell ⟨b,o+i,none⟩ v).heap[b]?=some (.cells (cs.set (o+i) v).toArray T (0,0)):=by
   rw [hset];simp
  obtain ⟨w',hr,hh,e1,e2,e3,e4,e5,e6⟩:=ih o (i+1) (cs.set (o+i) v) (w.setCell ⟨b,o+i,none⟩ v) hset' (by simp;omega) (fun u hu=>h1 u (List.mem_cons_of_mem _ hu))
  refine ⟨w',?_,?_,e1,e2,e3,e4,by rw [e5];simp,fun x hx=>(e6 x hx).trans (heap_setCell_other w _ x v hx)⟩
  ·have hst : (store ⟨b,o+i,none⟩ v).run P w=.ok () (w.setCell ⟨b,o+i,none⟩ v):=by
    rw [run_store P w _ v _ hv]
    simp [hcell,frozen_of_row w b (o+i) cs.toArray T h]
   simp only [storeCells,hadd,Sem.run_bind,hst,Result.andThen_ok]
   exact hr
  ·rw [hh]
   have hs : cs.set (o+i) v=cs.take (o+i)++v::cs.drop (o+i+1):=by rw [List.set_eq_take_append_cons_drop,if_pos (by omega)]
   have hl' : (cs.take (o+i)).length=o+i:=by simp;omega
   have h1 : (cs.set (o+i) v).take (o+(i+1))=cs.take (o+i)++[v]:=by
    rw [hs,List.take_append,hl',show o+(i+1)-(o+i)=1 by omega,List.take_of_length_le (by omega)]
    rfl
   have h2 : (cs.set (o+i) v).drop (o+(i+1)+vs.length)=cs.drop (o+i+(vs.length+1)):=by
    rw [hs,List.drop_append,hl',List.drop_eq_nil_of_le (by omega),show o+(i+1)+vs.length-(o+i)=vs.length+1 by omega,List.nil_append,List.drop_succ_cons,List.drop_drop]
    congr 1
    omega
   rw [h1,h2,List.length_cons]
   simp

/-! ### what lies in memory as data -/
def LIM : Nat:=1099511627776
class Enc (α:Type) where
 k : Nat
 Ok : List Value→α→Cx→Prop
 mono : ∀cs x,Mono (Ok cs x)
 len : ∀cs x c,Ok cs x c→cs.length=k
 one : ∀cs x c,Ok cs x c→∀u∈cs,u.oneCell'=true
 pos : 0<k
instance Enc.monoI {α:Type} [Enc α] (cs:List Value) (x:α) : Mono (Enc.Ok cs x):=Enc.mono cs x
def El {α:Type} [Enc α] (b o:Nat) (x:α) (c:Cx) : Prop:=∃cs,Enc.Ok cs x c∧∀j v,cs[j]?=some v→At ⟨b,o+j,none⟩ v c
instance El.mono {α:Type} [Enc α] (b o:Nat) (x:α) : Mono (El b o x):=⟨fun h ⟨cs,h1,h2⟩=>⟨cs,Mono.mono h h1,fun j v hj=>Mono.mono h (h2 j v hj)⟩⟩
def Sl {α:Type} [Enc α] (v:Value) (xs:List α) (c:Cx) : Prop :=
 xs.length<LIM∧∃ad cap,v=.slice ad xs.length cap∧xs.length≤cap∧(xs≠[]→∃b o,ad=some ⟨b,o,none⟩∧∀i x,xs[i]?=some x→El b (o+i*Enc.k α) x c)
instance Sl.mono {α:Type} [Enc α] (v:Value) (xs:List α) : Mono (Sl v xs) :=
 ⟨fun h ⟨h0,ad,cap,h1,h2,h3⟩=>⟨h0,ad,cap,h1,h2,fun hne=>let ⟨b,o,e,h4⟩:=h3 hne;⟨b,o,e,fun i x hx=>Mono.mono h (h4 i x hx)⟩⟩⟩
theorem Sl.nil {α:Type} [Enc α] (c:Cx) : Sl (α:=α) (.slice none 0 0) [] c:=⟨by simp [LIM],none,0,rfl,Nat.le_refl _,fun h=>absurd rfl h⟩
instance : Enc Int where
 k:=1
 Ok cs n _:=cs=[.int .i64 n]
 mono cs x:=⟨fun _ h=>h⟩
 len cs x c h:=by subst h;rfl
 one cs x c h u hu:=by subst h;simp at hu;subst hu;rfl
 pos:=Nat.one_pos

section
variable {P : Program} {ops : Array Oper} {Q : Exit → Act → World → Prop} {n : Nat} {f : Nat → Value} {rest : List Oper} {ty : TypeId} {ps : String} {af : Array Edge} {d : Tmp}
variable {c0 c : Cx} {L : List Res} {A : Cx → Prop}

/-! ### boxes -/
theorem run_box {T:TypeId} {x:Operand} {cs:List Value} {w:World} (hx:(opd f x).cells=cs.toArray) :
  (execOp (opd f) ⟨some d,.box T x,ty,ps,af,none⟩).run P w=.ok (.value (.pointer (some ⟨w.heap.size,0,none⟩))) (w.alloc (.cells cs.toArray T (0,0))):=by
 simp [execOp,Instr.box,newVar,newRow,hx]
theorem Box.fresh {cs:List Value} {T:TypeId} {c:Cx} (hm:∀b,c.M b→b<c.w.heap.size) : Box c.w.heap.size cs ⟨c.w.alloc (.cells cs.toArray T (0,0)),c.M⟩ :=
 ⟨⟨T,(0,0),heap_alloc_new c.w _⟩,fun h=>Nat.lt_irrefl _ (hm _ h)⟩
theorem s_box {T:TypeId} {x:Operand} {cs:List Value} (hn:Nat.blt d n=true) (hx:(opd f x).cells=cs.toArray) (H:Owns c0 L c) (HA:Hd A c) [Mono A]
  (k:∀b c',Owns c0 L c'→Hd (fun c=>Box b cs c∧A c) c'→W P ops Q rest n (upd f d (.pointer (some ⟨b,0,none⟩))) c'.w) : W P ops Q (⟨some d,.box T x,ty,ps,af,none⟩::rest) n f c.w :=
 st_val hn (run_box hx) (k c.w.heap.size ⟨c.w.alloc (.cells cs.toArray T (0,0)),c.M⟩ (H.of_ext (Ext0.alloc _ _)) ⟨⟨Box.fresh H.mbd,Mono.mono (Le.of_ext (Ext0.alloc _ _)) HA.h⟩⟩)
theorem s_boxA {T:TypeId} {x:Operand} {cs:List Value} (hn:Nat.blt d n=true) (hx:opd f x=.agg cs.toArray) (H:Owns c0 L c) (HA:Hd A c) [Mono A]
  (k:∀b c',Owns c0 L c'→Hd (fun c=>Box b cs c∧A c) c'→W P ops Q rest n (upd f d (.pointer (some ⟨b,0,none⟩))) c'.w) : W P ops Q (⟨some d,.box T x,ty,ps,af,none⟩::rest) n f c.w :=
 s_box hn (by rw [hx];rfl) H HA k
theorem s_boxO {T:TypeId} {x:Operand} {cs:List Value} (hn:Nat.blt d n=true) (hx:(opd f x).cells=cs.toArray) (H:Owns c0 L c) (HA:Hd A c) [Mono A]
  (k:∀b c',Owns c0 (.obj b (.cells cs.toArray T (0,0))::L) c'→Hd A c'→W P ops Q rest n (upd f d (.pointer (some ⟨b,0,none⟩))) c'.w) : W P ops Q (⟨some d,.box T x,ty,ps,af,none⟩::rest) n f c.w :=
 have h:=H.new (.cells cs.toArray T (0,0)) rfl
 st_val hn (run_box hx) (k c.w.heap.size ⟨c.w.alloc (.cells cs.toArray T (0,0)),_⟩ h.2 (HA.to h.1))
theorem s_alloc {T:TypeId} {z:Value} {cs:List Value} (hn:Nat.blt d n=true) [Zer P T z] (hz:z.cells=cs.toArray) (H:Owns c0 L c) (HA:Hd A c) [Mono A]
  (k:∀b c',Owns c0 (.obj b (.cells cs.toArray T (0,0))::L) c'→Hd A c'→W P ops Q rest n (upd f d (.pointer (some ⟨b,0,none⟩))) c'.w) : W P ops Q (⟨some d,.alloc T,ty,ps,af,none⟩::rest) n f c.w :=
 have h:=H.new (.cells cs.toArray T (0,0)) rfl
 st_val hn (w':=c.w.alloc (.cells cs.toArray T (0,0))) (by simp [execOp,Instr.alloc,Zer.z (P:=P) (T:=T),newVar,newRow,hz]) (k c.w.heap.size ⟨c.w.alloc (.cells cs.toArray T (0,0)),_⟩ h.2 (HA.to h.1))
theorem Owns.store {b:Nat} {cs cs' vs:List Value} {T:TypeId} {o:Nat} (H:Owns c0 (.obj b (.cells cs.toArray T (0,0))::L) c) (h1:∀v∈vs,v.oneCell'=true) (hp:LPut cs o vs cs') :
  ∃c',(storeCells ⟨b,o,none⟩ vs).run P c.w=.ok () c'.w∧Le c c'∧Owns c0 (.obj b (.cells cs'.toArray T (0,0))::L) c':=by
 have hb:=(H.res _ (List.mem_cons_self ..)).1
 have he:=hp.eq
 obtain ⟨w',hr,hh,e1,e2,e3,e4,e5,e6⟩:=stores_row (P:=P) b T vs o 0 cs c.w hb (by have:=he.1;omega) h1
 rw [Nat.add_zero,←he.2] at hh
 have h2:=H.turn (r':=.obj b (.cells cs'.toArray T (0,0))) e1 e2 e3 (by omega) (by omega) (fun x hx hne=>e6 x (fun e=>hne (by subst e;rfl))) hh (fun x hx=>.inl hx)
 exact ⟨_,hr,h2.1,h2.2⟩
theorem s_storeA {T T':TypeId} {kk o b:Nat} {x y:Operand} {cs cs' vs:List Value} (hx:opd f x=.pointer (some ⟨b,o,none⟩)) (hy:opd f y=.agg vs.toArray) [Agg P T' kk] (H:Owns c0 (.obj b (.cells cs.toArray T (0,0))::L) c) (HA:Hd A c) [Mono A]
  (hl:vs.length=kk) (h1:∀v∈vs,v.oneCell'=true) (hp:LPut cs o vs cs')
  (k:∀c',Owns c0 (.obj b (.cells cs'.toArray T (0,0))::L) c'→Hd A c'→W P ops Q rest n f c'.w) : W P ops Q (⟨none,.store T' x y,ty,ps,af,none⟩::rest) n f c.w:=by
 obtain ⟨c',hr,hle,ho⟩:=H.store (P:=P) h1 hp
 refine st_skip (w':=c'.w) ?_ (k c' ho (HA.to hle))
 simp [execOp,Instr.storeAt,Instr.sureAddr,storeVar,hx,hy,Agg.sz (P:=P) (T:=T'),Value.cells,hl,hr]
theorem s_storeP {T T':TypeId} {o b:Nat} {x y:Operand} {cs cs':List Value} {v:Value} (hx:opd f x=.pointer (some ⟨b,o,none⟩)) (hy:opd f y=v) (hv:v.cells=#[v]) [Prim P T'] (H:Owns c0 (.obj b (.cells cs.toArray T (0,0))::L) c) (HA:Hd A c) [Mono A]
  (h1:v.oneCell'=true) (hp:LPut cs o [v] cs')
  (k:∀c',Owns c0 (.obj b (.cells cs'.toArray T (0,0))::L) c'→Hd A c'→W P ops Q rest n f c'.w) : W P ops Q (⟨none,.store T' x y,ty,ps,af,none⟩::rest) n f c.w:=by
 obtain ⟨c',hr,hle,ho⟩:=H.store (P:=P) (vs:=[v]) (by intro u hu;simp at hu;subst hu;exact h1) hp
 refine st_skip (w':=c'.w) ?_ (k c' ho (HA.to hle))
 simp [execOp,Instr.storeAt,Instr.sureAddr,storeVar,hx,hy,Prim.sz (P:=P) (T:=T'),hv,hr]
theorem w_freeze {l:List Oper} {b:Nat} {cs:List Value} {T:TypeId} (H:Owns c0 (.obj b (.cells cs.toArray T (0,0))::L) c) (HA:Hd A c) [Mono A]
  (k:∀c',Owns c0 L c'→Hd (fun c=>Box b cs c∧A c) c'→W P ops Q l n f c'.w) : W P ops Q l n f c.w :=
 have h:=H.freeze
 k ⟨c.w,fun x=>c.M x∧(Res.obj b (.cells cs.toArray T (0,0))).blk≠some x⟩ h.2 ⟨⟨⟨⟨T,(0,0),(H.res _ (List.mem_cons_self ..)).1⟩,fun h=>h.2 rfl⟩,Mono.mono h.1 HA.h⟩⟩

/-! ### loads -/
theorem run_load1 {T:TypeId} [Prim P T] {p:Addr} {v:Value} {w:World} (h:w.cell? p=some v) : (loadVar T p).run P w=.ok v w:=by
 simp [loadVar,Prim.ag (P:=P) (T:=T),h]
theorem run_loadk {T:TypeId} {kk:Nat} [Agg P T kk] {b o:Nat} {vs:List Value} {w:World} (hl:vs.length=kk) (h:∀j v,vs[j]?=some v→w.cell? ⟨b,o+j,none⟩=some v) : (loadVar T ⟨b,o,none⟩).run P w=.ok (.agg vs.toArray) w:=by
 have:=run_loadCells_list (P:=P) (w:=w) ⟨b,o,none⟩ vs (fun j v hj=>by rw [Addr.add_lit];exact h j v hj)
 simp [loadVar,Agg.ag (P:=P) (T:=T),Agg.sz (P:=P) (T:=T),←hl,this]
theorem s_loadAt {T:TypeId} {x:Operand} {b o:Nat} {v:Value} (hn:Nat.blt d n=true) [Prim P T] (hx:opd f x=.pointer (some ⟨b,o,none⟩)) (h:At ⟨b,o,none⟩ v c) (k:W P ops Q rest n (upd f d v) c.w) :
  W P ops Q (⟨some d,.load T x,ty,ps,af,none⟩::rest) n f c.w :=
 st_val hn (by simp [execOp,Instr.loadAt,Instr.sureAddr,hx,run_load1 h.1]) k
theorem s_loadP {T:TypeId} {x:Operand} {b o:Nat} {cs:List Value} {v:Value} (hn:Nat.blt d n=true) [Prim P T] (hx:opd f x=.pointer (some ⟨b,o,none⟩)) (h:Box b cs c) (hv:cs[o]?=some v) (k:W P ops Q rest n (upd f d v) c.w) :
  W P ops Q (⟨some d,.load T x,ty,ps,af,none⟩::rest) n f c.w:=s_loadAt hn hx (h.at_ hv) k
theorem s_loadA {T:TypeId} {kk:Nat} {x:Operand} {b o:Nat} {cs vs:List Value} (hn:Nat.blt d n=true) [Agg P T kk] (hx:opd f x=.pointer (some ⟨b,o,none⟩)) (h:Box b cs c) (hv:Sub o kk cs vs) (k:W P ops Q rest n (upd f d (.agg vs.toArray)) c.w) :
  W P ops Q (⟨some d,.load T x,ty,ps,af,none⟩::rest) n f c.w :=
 st_val hn (by simp [execOp,Instr.loadAt,Instr.sureAddr,hx,run_loadk hv.get.1 fun j v hj=>(h.at_ (hv.get.2 j v hj)).1]) k
theorem s_loadOP {T T':TypeId} {x:Operand} {b o:Nat} {cs:List Value} {v:Value} {fr:Nat×Nat} (hn:Nat.blt d n=true) [Prim P T] (hx:opd f x=.pointer (some ⟨b,o,none⟩)) (H:Owns c0 L c) (hm:Res.obj b (.cells cs.toArray T' fr)∈L) (hv:cs[o]?=some v)
  (k:W P ops Q rest n (upd f d v) c.w) : W P ops Q (⟨some d,.load T x,ty,ps,af,none⟩::rest) n f c.w:=by
 have hb:=(H.res _ hm).1
 have : c.w.cell? ⟨b,o,none⟩=some v:=by rw [cell_of_row _ _ _ _ _ _ hb];simpa using hv
 exact st_val hn (by simp [execOp,Instr.loadAt,Instr.sureAddr,hx,run_load1 this]) k
theorem s_loadOA {T T':TypeId} {kk:Nat} {x:Operand} {b o:Nat} {cs vs:List Value} {fr:Nat×Nat} (hn:Nat.blt d n=true) [Agg P T kk] (hx:opd f x=.pointer (some ⟨b,o,none⟩)) (H:Owns c0 L c) (hm:Res.obj b (.cells cs.toArray T' fr)∈L) (hv:Sub o kk cs vs)
  (k:W P ops Q rest n (upd f d (.agg vs.toArray)) c.w) : W P ops Q (⟨some d,.load T x,ty,ps,af,none⟩::rest) n f c.w:=by
 have hb:=(H.res _ hm).1
 refine st_val hn (w':=c.w) ?_ k
 have h2:=run_loadk (P:=P) (T:=T) (b:=b) (o:=o) (w:=c.w) hv.get.1 fun j v hj=>by rw [cell_of_row _ _ _ _ _ _ hb];simpa using hv.get.2 j v hj
 simp [execOp,Instr.loadAt,Instr.sureAddr,hx,h2]
theorem s_loadE {α:Type} {iE:Enc α} {T:TypeId} {kk:Nat} {x:Operand} {b o:Nat} {y:α} (hn:Nat.blt d n=true) [Agg P T kk] (hx:opd f x=.pointer (some ⟨b,o,none⟩)) (hk:Enc.k α=kk) (h:El b o y c)
  (k:∀cs,Enc.Ok cs y c→W P ops Q rest n (upd f d (.agg cs.toArray)) c.w) : W P ops Q (⟨some d,.load T x,ty,ps,af,none⟩::rest) n f c.w:=by
 obtain ⟨cs,h1,h2⟩:=h
 exact st_val hn (by simp [execOp,Instr.loadAt,Instr.sureAddr,hx,run_loadk (P:=P) (T:=T) ((Enc.len cs y c h1).trans hk) fun j v hj=>(h2 j v hj).1]) (k cs h1)
theorem s_loadE1 {α:Type} {iE:Enc α} {T:TypeId} {x:Operand} {b o:Nat} {y:α} (hn:Nat.blt d n=true) [Prim P T] (hx:opd f x=.pointer (some ⟨b,o,none⟩)) (h:El b o y c) (hk:Enc.k α=1)
  (k:∀v,Enc.Ok [v] y c→W P ops Q rest n (upd f d v) c.w) : W P ops Q (⟨some d,.load T x,ty,ps,af,none⟩::rest) n f c.w:=by
 obtain ⟨cs,h1,h2⟩:=h
 have hl:=(Enc.len cs y c h1).trans hk
 match cs,hl with
 | [v],_=>exact s_loadAt hn hx (by simpa using h2 0 v rfl) (k v h1)

/-! ### slices that are read -/
theorem s_lenSl {α:Type} {iE:Enc α} {t' e:TypeId} {x:Operand} {v:Value} {xs:List α} (hn:Nat.blt d n=true) [SlT P t' e] (hx:opd f x=v) (h:Sl v xs c) (k:W P ops Q rest n (upd f d (.int .i64 xs.length)) c.w) :
  W P ops Q (⟨some d,.call ⟨.builtin .len,#[x],#[t']⟩,ty,ps,af,none⟩::rest) n f c.w:=by
 obtain ⟨_,ad,cap,e,_⟩:=h
 exact s_lenL hn (hx.trans e) k
theorem s_ix {α:Type} {iE:Enc α} {T e:TypeId} {z:Value} {kk by_:Nat} {x y:Operand} {v:Value} {xs:List α} {i:Nat} {u:α} {q:Int} (hn:Nat.blt d n=true) [SlT P T e] [TyI P e z kk by_] (hk:Enc.k α=kk) (hx:opd f x=v) (hy:opd f y=.int .i64 q) (h:Sl v xs c)
  (hq:q=(i:Int)) (hu:xs[i]?=some u) (k:∀b o,El b o u c→W P ops Q rest n (upd f d (.pointer (some ⟨b,o,none⟩))) c.w) : W P ops Q (⟨some d,.indexAddr T x y,ty,ps,af,none⟩::rest) n f c.w:=by
 subst hq
 obtain ⟨_,ad,cap,ev,_,h3⟩:=h
 have hlt : i<xs.length:=(List.getElem?_eq_some_iff.1 hu).1
 obtain ⟨b,o,ea,h4⟩:=h3 (by rintro rfl;simp at hlt)
 subst ea
 obtain ⟨inf,hi,_,hs,_⟩:=TyI.h (P:=P) (e:=e)
 refine st_val hn (w':=c.w) ?_ (k b (o+i*Enc.k α) (h4 i u hu))
 rw [ev] at hx
 simp [execOp,Instr.indexAt,asIntOf,hx,hy,run_underlying (SlT.h (P:=P) (T:=T)),sizeOf,typeInfo,hi,hlt,Addr.add_lit,hs,hk]

/-! ### calls -/
theorem s_call {as:Array Operand} {aT:Array TypeId} {g:FuncId} {vs:List Value} {Post:Value→Cx→Prop} (hn:Nat.blt d n=true) [Ent P g] (hargs:as.toList.map (opd f)=vs) (H:Owns c0 L c) (HA:Hd A c) [Mono A] (hc:Cn P g vs c Post)
  (k:∀v c',Owns c0 L c'→Hd (fun c=>Post v c∧A c) c'→W P ops Q rest n (upd f d v) c'.w) : W P ops Q (⟨some d,.call ⟨.value (.func g),as,aT⟩,ty,ps,af,none⟩::rest) n f c.w :=
 st_enter hn (g:=g) (args:=vs.toArray) (by subst hargs;simp [execOp,resolve,Deferred.ofValue,opd,invoke,Ent.h,←Array.toList_map]) (hc H.mbd)
  fun v w' ⟨hx,hp⟩=>k v ⟨w',c.M⟩ (H.of_ext hx) ⟨⟨hp,Mono.mono (Le.of_ext hx) HA.h⟩⟩
theorem s_callV {as:Array Operand} {aT:Array TypeId} {t:Operand} {g:FuncId} {caps vs:List Value} {Post:Value→Cx→Prop} (hn:Nat.blt d n=true) (ht:opd f t=.func (.func g) #[] caps.toArray) [Ent P g] (hargs:as.toList.map (opd f)++caps=vs) (H:Owns c0 L c) (HA:Hd A c) [Mono A] (hc:Cn P g vs c Post)
  (k:∀v c',Owns c0 L c'→Hd (fun c=>Post v c∧A c) c'→W P ops Q rest n (upd f d v) c'.w) : W P ops Q (⟨some d,.call ⟨.value t,as,aT⟩,ty,ps,af,none⟩::rest) n f c.w :=
 st_enter hn (g:=g) (args:=vs.toArray) (by subst hargs;simp [execOp,resolve,Deferred.ofValue,ht,invoke,Ent.h,←Array.toList_map]) (hc H.mbd)
  fun v w' ⟨hx,hp⟩=>k v ⟨w',c.M⟩ (H.of_ext hx) ⟨⟨hp,Mono.mono (Le.of_ext hx) HA.h⟩⟩
end

inductive Sp where
 | val (v:Value)
 | rel (S:Value→Cx→Prop)
 | own (o:Obj)
 | row (e:TypeId) (kk m:Nat) (xs:List Value)
 | effG (prev:Option Nat) (init:Res) (mk:Value→Res) (S:Value→Cx→Prop)
 | turn (pre post:List Res) (S:Value→Cx→Prop)
abbrev Sp.eff (prev:Option Nat) (init:Res) (sel:Value→Value) (S:Value→Cx→Prop) (e:TypeId) (kk m:Nat) (xs:List Value) : Sp:=.effG prev init (fun v=>.row (sel v) e kk m xs) S
def Sp.Is (s:Sp) (v:Value) (c:Cx) : Prop :=
 match s with
 | .val x=>v=x
 | .rel S=>S v c
 | .own _=>∃b,v=.pointer (some ⟨b,0,none⟩)
 | .row ..=>True
 | .effG _ _ _ S=>S v c
 | .turn _ _ S=>S v c
def Sp.Mono' (s:Sp) : Prop :=
 match s with
 | .val _=>True
 | .rel S=>∀v,Mono (S v)
 | .own _=>True
 | .row ..=>True
 | .effG _ _ _ S=>∀v,Mono (S v)
 | .turn _ _ S=>∀v,Mono (S v)
theorem Sp.Is.mono {s:Sp} (hs:s.Mono') {v:Value} {c c':Cx} (h:Le c c') (k:s.Is v c) : s.Is v c':=by
 cases s with
 | val x=>exact k
 | rel S=>exact (hs v).mono h k
 | own o=>exact k
 | row e kk m xs=>exact k
 | effG p r mk S=>exact (hs v).mono h k
 | turn pr po S=>exact (hs v).mono h k
def FA (c:Cx) (dep:Nat→Bool) : List Nat→List Sp→Nat→(Nat→Value)→((Nat→Value)→Prop)→Prop
 | d::ds,.val v::ss,i,f,K=>FA c dep ds ss (i+1) (upd f d v) K
 | d::ds,.rel S::ss,i,f,K=>∀v,bif dep i then (S v c→FA c dep ds ss (i+1) (upd f d v) K) else FA c dep ds ss (i+1) (upd f d v) K
 | d::ds,.own _::ss,i,f,K=>∀b,FA c dep ds ss (i+1) (upd f d (.pointer (some ⟨b,0,none⟩))) K
 | d::ds,.row .. :: ss,i,f,K=>∀v,FA c dep ds ss (i+1) (upd f d v) K
 | d::ds,.effG _ _ _ S::ss,i,f,K=>∀v,bif dep i then (S v c→FA c dep ds ss (i+1) (upd f d v) K) else FA c dep ds ss (i+1) (upd f d v) K
 | d::ds,.turn _ _ S::ss,i,f,K=>∀v,bif dep i then (S v c→FA c dep ds ss (i+1) (upd f d v) K) else FA c dep ds ss (i+1) (upd f d v) K
 | _,_,_,f,K=>K f
def Sp.resAt (s:Sp) (l k:Bool) (v:Value) : List Res :=
 match s with
 | .own o=>bif l then (match v with | .pointer (some a)=>[.obj a.block o]|_=>[]) else []
 | .row e kk m xs=>bif l && !k then [.row v e kk m xs] else []
 | .effG prev init mk _=>bif l then (bif k then [] else [mk v]) else (match prev with|none=>[init]|some _=>[])
 | .turn pre post _=>bif l then post else pre
 | _=>[]
def Sp.prv : Sp→Option Nat
 | .effG (some p) ..=>some p
 | _=>none
def Sp.isRow : Sp→Bool
 | .row ..=>true
 | .effG ..=>true
 | _=>false
def Sp.isEff : Sp→Bool
 | .effG ..=>true
 | .turn ..=>true
 | _=>false
def consB (ls:Nat→Bool) (ss:List Sp) (j:Nat) : Bool:=(List.range ss.length).any fun i=>ls i && (match ss[i]? with|some s=>s.prv == some j|none=>false)
def ownV (ls:Nat→Bool) (vs:Nat→Value) (ss:List Sp) : List Res:=(List.range ss.length).flatMap fun j=>match ss[j]? with|some s=>s.resAt (ls j) (consB ls ss j) (vs j)|none=>[]
def ownP (f:Nat→Value) (l:List (Nat×Sp)) : List Res:=(List.range l.length).flatMap fun j=>match l[j]? with|some p=>p.2.resAt true (consB (fun _=>true) (l.map Prod.snd) j) (f p.1)|none=>[]
def initP (ss:List Sp) : List Res:=ownV (fun _=>false) (fun _=>undef) ss
theorem flat_perm {g h:Nat→List Res} {j0:Nat} {rs:List Res} (h1:g j0=rs) (h2:h j0=[]) (he:∀j,j≠j0→g j=h j) : ∀N,j0<N→((List.range N).flatMap g).Perm (rs++(List.range N).flatMap h):=by
 have same : ∀N,N≤j0→(List.range N).flatMap g=(List.range N).flatMap h:=by
  intro N hN
  induction N with
  | zero=>rfl
  | succ N ih=>rw [List.range_succ,List.flatMap_append,List.flatMap_append,ih (by omega)];simp [he N (by omega)]
 intro N
 induction N with
 | zero=>intro h;omega
 | succ N ih =>
  intro hN
  rw [List.range_succ,List.flatMap_append,List.flatMap_append]
  by_cases e : j0=N
  ·subst e
   rw [same j0 (Nat.le_refl _)]
   simp only [List.flatMap_cons,List.flatMap_nil,List.append_nil,h1,h2]
   exact List.perm_append_comm
  ·have:=ih (by omega)
   have e2:=he N (fun h=>e h.symm)
   simp only [List.flatMap_cons,List.flatMap_nil,List.append_nil,e2]
   rw [←List.append_assoc]
   exact this.append_right _
theorem flat_congr {g h:Nat→List Res} {N:Nat} (he:∀j,j<N→g j=h j) : (List.range N).flatMap g=(List.range N).flatMap h:=by
 induction N with
 | zero=>rfl
 | succ N ih=>rw [List.range_succ,List.flatMap_append,List.flatMap_append,ih fun j hj=>he j (by omega)];simp [he N (by omega)]
theorem consB_congr {ls ls':Nat→Bool} {ss:List Sp} {j:Nat} (he:∀i s,ss[i]?=some s→s.prv=some j→ls i=ls' i) : consB ls ss j=consB ls' ss j:=by
 unfold consB
 rw [Bool.eq_iff_iff,List.any_eq_true,List.any_eq_true]
 have key : ∀{a b:Nat→Bool},(∀i s,ss[i]?=some s→s.prv=some j→a i=b i)→(∃x∈List.range ss.length,(a x && (match ss[x]? with|some s=>s.prv == some j|none=>false))=true)→∃x∈List.range ss.length,(b x && (match ss[x]? with|some s=>s.prv == some j|none=>false))=true:=by
  rintro a b hab ⟨i,hi,h⟩
  refine ⟨i,hi,?_⟩
  rw [Bool.and_eq_true] at h ⊢
  obtain ⟨h1,h2⟩:=h
  cases hs : ss[i]? with
  | none=>rw [hs] at h2;cases h2
  | some s =>
   rw [hs] at h2
   exact ⟨(hab i s hs (by simpa using h2))▸h1,by simpa using h2⟩
 exact ⟨key he,key fun i s h1 h2=>(he i s h1 h2).symm⟩
theorem ownV_ownP {f:Nat→Value} {ls:Nat→Bool} {vs:Nat→Value} {ds:List Nat} {ss:List Sp} (hl:ds.length=ss.length) (h:∀j d,ds[j]?=some d→ls j=true∧vs j=f d) : ownV ls vs ss=ownP f (ds.zip ss):=by
 have hm : (ds.zip ss).map Prod.snd=ss:=by
  rw [List.map_snd_zip]
  omega
 have hlen : (ds.zip ss).length=ss.length:=by simp [hl]
 unfold ownV ownP
 rw [hlen,hm]
 refine flat_congr fun j hj=>?_
 have hdj : ds[j]?=some (ds[j]'(by omega)):=List.getElem?_eq_getElem (by omega)
 have hsj : ss[j]?=some ss[j]:=List.getElem?_eq_getElem hj
 have hzj : (ds.zip ss)[j]?=some (ds[j]'(by omega),ss[j]):=by rw [List.getElem?_zip_eq_some];exact ⟨hdj,hsj⟩
 rw [hsj,hzj]
 obtain ⟨h1,h2⟩:=h j _ hdj
 dsimp only
 rw [h1,h2]
 congr 1
 refine consB_congr fun i s hi _=>?_
 have hil:=(List.getElem?_eq_some_iff.1 hi).1
 have hdi : ds[i]?=some (ds[i]'(by omega)):=List.getElem?_eq_getElem (by omega)
 exact (h i _ hdi).1
def effOk (ops:Array Oper) (aft:Oper→List Nat) (ps:List (Option Nat×Bool)) : Bool :=
 (List.range ps.length).all fun i=>match ps[i]? with
  | some (some p,_)=>(match ops[i]? with|some o=>(aft o).contains p|none=>false) && Nat.blt p i && (match ps[p]? with|some (_,b)=>b|none=>false) && ((List.range ps.length).all fun k=>Nat.beq k i || (match ps[k]? with|some (some q,_)=>!(Nat.beq q p)|_=>true))
  | _=>true
def Sp.key (s:Sp) : Option Nat×Bool:=(s.prv,s.isRow)
theorem Owns.perm {c0 c:Cx} {L L':List Res} (H:Owns c0 L c) (h:L.Perm L') : Owns c0 L' c :=
 ⟨H.ext,H.keep,H.mbd,fun r hr=>H.res r (h.mem_iff.2 hr),(h.pairwise_iff (fun {x y} hxy b hb hb'=>hxy b hb' hb)).1 H.dis⟩
def updL (vs:Nat→Value) : List Nat→Nat→(Nat→Value)→Nat→Value
 | [],_,f=>f
 | d::ds,i,f=>updL vs ds (i+1) (upd f d (vs i))
theorem FA.use {c:Cx} {dep:Nat→Bool} {vs:Nat→Value} {K:(Nat→Value)→Prop} : ∀(ds:List Nat) (ss:List Sp) (i:Nat) (f:Nat→Value),ds.length≤ss.length →
  (∀j s,j<ds.length→ss[j]?=some s→(∀x,s=.val x→vs (i+j)=x)∧(∀S,(s=.rel S∨(∃pr po,s=.turn pr po S)∨∃p r mk,s=.effG p r mk S)→dep (i+j)=true→S (vs (i+j)) c)∧(∀o,s=.own o→∃b,vs (i+j)=.pointer (some ⟨b,0,none⟩)))→FA c dep ds ss i f K→K (updL vs ds i f):=by
 intro ds
 induction ds with
 | nil=>intro ss i f _ _ h;cases ss with
  | nil=>exact h
  | cons s ss=>cases s<;>exact h
 | cons d ds ih =>
  intro ss i f hl hs h
  cases ss with
  | nil=>simp at hl
  | cons s ss =>
   have h0:=hs 0 s (by simp) rfl
   have hs' : ∀j s,j<ds.length→ss[j]?=some s→(∀x,s=.val x→vs (i+1+j)=x)∧(∀S,(s=.rel S∨(∃pr po,s=.turn pr po S)∨∃p r mk,s=.effG p r mk S)→dep (i+1+j)=true→S (vs (i+1+j)) c)∧(∀o,s=.own o→∃b,vs (i+1+j)=.pointer (some ⟨b,0,none⟩)):=by
    intro j s' hj hss
    have:=hs (j+1) s' (by simpa using hj) (by simpa using hss)
    rwa [show i+(j+1)=i+1+j by omega] at this
   have hl' : ds.length≤ss.length:=by simpa using hl
   cases s with
   | val x =>
    have hx : vs i=x:=h0.1 x rfl
    simp only [updL,hx]
    exact ih ss (i+1) (upd f d x) hl' hs' h
   | rel S =>
    have h1:=h (vs i)
    cases hd : dep i with
    | false=>rw [hd] at h1;exact ih ss (i+1) _ hl' hs' h1
    | true=>rw [hd] at h1;exact ih ss (i+1) _ hl' hs' (h1 (h0.2.1 S (.inl rfl) hd))
   | own o =>
    obtain ⟨b,hb⟩:=h0.2.2 o rfl
    have h1:=h b
    rw [←hb] at h1
    exact ih ss (i+1) _ hl' hs' h1
   | row e kk m xs=>exact ih ss (i+1) _ hl' hs' (h (vs i))
   | effG p r mk S =>
    have h1:=h (vs i)
    cases hd : dep i with
    | false=>rw [hd] at h1;exact ih ss (i+1) _ hl' hs' h1
    | true=>rw [hd] at h1;exact ih ss (i+1) _ hl' hs' (h1 (h0.2.1 S (.inr (.inr ⟨p,r,mk,rfl⟩)) hd))
   | turn pr po S =>
    have h1:=h (vs i)
    cases hd : dep i with
    | false=>rw [hd] at h1;exact ih ss (i+1) _ hl' hs' h1
    | true=>rw [hd] at h1;exact ih ss (i+1) _ hl' hs' (h1 (h0.2.1 S (.inr (.inl ⟨pr,po,rfl⟩)) hd))
theorem updL_not {vs:Nat→Value} {t:Nat} : ∀(ds:List Nat) (i:Nat) (f:Nat→Value),t∉ds→updL vs ds i f t=f t:=by
 intro ds
 induction ds with
 | nil=>intro i f _;rfl
 | cons d ds ih =>
  intro i f h
  simp only [List.mem_cons,not_or] at h
  simp only [updL]
  rw [ih (i+1) _ h.2,upd_ne _ _ h.1]
theorem updL_at {vs:Nat→Value} {t:Nat} : ∀(ds:List Nat) (i:Nat) (f:Nat→Value) (j:Nat),ds.Nodup→ds[j]?=some t→updL vs ds i f t=vs (i+j):=by
 intro ds
 induction ds with
 | nil=>intro i f j _ h;simp at h
 | cons d ds ih =>
  intro i f j hn h
  simp only [updL]
  cases j with
  | zero =>
   simp only [List.getElem?_cons_zero,Option.some.injEq] at h
   subst h
   rw [updL_not ds _ _ (List.nodup_cons.1 hn).1,upd_same,Nat.add_zero]
  | succ j =>
   rw [ih (i+1) _ j (List.nodup_cons.1 hn).2 (by simpa using h)]
   congr 1
   omega

def afters (o:Oper) : List Nat:=(o.after.toList.filter (Region.binds .any ·)).map (·.on)
theorem mem_afters {o:Oper} {j:Nat} : j∈afters o↔∃e∈o.after,Region.binds .any e=true∧e.on=j:=by
 simp only [afters,List.mem_map,List.mem_filter,Array.mem_toList_iff]
 constructor
 ·rintro ⟨e,⟨h1,h2⟩,h3⟩;exact ⟨e,h1,h2,h3⟩
 ·rintro ⟨e,h1,h2,h3⟩;exact ⟨e,⟨h1,h2⟩,h3⟩
def lookList (ops:Array Oper) (o:Oper) : List Nat:=o.looksAt ops
def reach (ops:Array Oper) : Nat→List Nat→List Nat
 | 0,A=>A
 | j+1,A=>reach ops j (if A.contains j then (match ops[j]? with|some o=>afters o|none=>[])++A else A)
theorem reach_all {ops:Array Oper} {p:Nat→Prop} (hcl:∀j o,ops[j]?=some o→p j→∀e∈o.after,Region.binds .any e=true→p e.on) : ∀(m:Nat) (A:List Nat),(∀j∈A,p j)→∀j∈reach ops m A,p j:=by
 intro m
 induction m with
 | zero=>intro A h;exact h
 | succ m ih =>
  intro A h
  simp only [reach]
  refine ih _ fun j hj=>?_
  split at hj
  ·rename_i hm
   rcases List.mem_append.1 hj with hj|hj
   ·split at hj
    ·rename_i o ho
     obtain ⟨e,he,hb,rfl⟩:=mem_afters.1 hj
     exact hcl m o ho (h m (by simpa using hm)) e he hb
    ·cases hj
   ·exact h j hj
  ·exact h j hj
def regOk (ops:Array Oper) (m n:Nat) (ds:List Nat) : Bool :=
 ((List.range ops.size).all fun i=>match ops[i]? with
  | none=>false
  | some o=>(o.after.all fun e=>!(Region.binds .any e) || Nat.blt e.on i) &&
    (match o.op with | .select ..=>false | .defer _=>false|_=>true) &&
    (if Nat.blt i m then
     o.dst == ds[i]? && ((lookList ops o).all fun t=>(List.range m).all fun j=>!(ds[j]? == some t) || (afters o).contains j)
     else if Nat.beq i m then (List.range m).all fun j=>(reach ops m (afters o)).contains j else (afters o).contains (i-1))) &&
 ds.length == m && Nat.ble m ops.size && ds.all (fun d=>Nat.blt d n) && decide ds.Nodup

def Sp.Own (s:Sp) (v:Value) (c0:Cx) (L:List Res) (c:Cx) : Prop :=
 match s with
 | .own o=>∃b,v=.pointer (some ⟨b,0,none⟩)∧Owns c0 (.obj b o::L) c
 | .row e kk m xs=>Owns c0 (.row v e kk m xs::L) c
 | .effG _ _ mk _=>Owns c0 (mk v::L) c
 | .turn _ post _=>Owns c0 (post++L) c
 | _=>Owns c0 L c
def PQ (n:Nat) (f:Nat→Value) (d:Nat) (s:Sp) (c0:Cx) (L:List Res) (A:Cx→Prop) : Exit→Act→World→Prop :=
 CutI n fun f' c'=>∃v,f'=upd f d v∧s.Is v c'∧s.Own v c0 L c'∧Hd A c'
section
variable {P : Program} {ops : Array Oper} {Q : Exit → Act → World → Prop} {n : Nat} {f0 : Nat → Value} {c0 : Cx} {L : List Res} {A : Cx → Prop}
theorem pq_val {f:Nat→Value} {d:Nat} {x:Value} {c:Cx} (H:Owns c0 L c) (HA:Hd A c) : WX (PQ n f d (.val x) c0 L A) .normal n (upd f d x) c.w:=wx_cut ⟨x,rfl,rfl,H,HA⟩
theorem pq_own {f:Nat→Value} {d b:Nat} {o:Obj} {c:Cx} (H:Owns c0 (.obj b o::L) c) (HA:Hd A c) : WX (PQ n f d (.own o) c0 L A) .normal n (upd f d (.pointer (some ⟨b,0,none⟩))) c.w:=wx_cut ⟨_,rfl,⟨b,rfl⟩,⟨b,rfl,H⟩,HA⟩
theorem pq_rel {f:Nat→Value} {d:Nat} {S:Value→Cx→Prop} {v:Value} {c:Cx} (H:Owns c0 L c) (HA:Hd A c) (h:S v c) : WX (PQ n f d (.rel S) c0 L A) .normal n (upd f d v) c.w:=wx_cut ⟨v,rfl,h,H,HA⟩

theorem pq_row {f:Nat→Value} {d:Nat} {v:Value} {e:TypeId} {kk m:Nat} {xs:List Value} {c:Cx} (H:Owns c0 (.row v e kk m xs::L) c) (HA:Hd A c) : WX (PQ n f d (.row e kk m xs) c0 L A) .normal n (upd f d v) c.w:=wx_cut ⟨v,rfl,trivial,H,HA⟩

theorem pq_eff {f:Nat→Value} {d:Nat} {v:Value} {p:Option Nat} {r:Res} {sel:Value→Value} {S:Value→Cx→Prop} {e:TypeId} {kk m:Nat} {xs:List Value} {c:Cx} (H:Owns c0 (.row (sel v) e kk m xs::L) c) (HA:Hd A c) (h:S v c) : WX (PQ n f d (.eff p r sel S e kk m xs) c0 L A) .normal n (upd f d v) c.w:=wx_cut ⟨v,rfl,h,H,HA⟩
theorem pq_turn {f:Nat→Value} {d:Nat} {v:Value} {pr po:List Res} {S:Value→Cx→Prop} {c:Cx} (H:Owns c0 (po++L) c) (HA:Hd A c) (h:S v c) : WX (PQ n f d (.turn pr po S) c0 L A) .normal n (upd f d v) c.w:=wx_cut ⟨v,rfl,h,H,HA⟩
def Sp.need (s:Sp) (ds:List Nat) (Ss:List Sp) (f:Nat→Value) : List Res :=
 match s with
 | .effG none init ..=>[init]
 | .effG (some p) ..=>(match Ss[p]?,ds[p]? with
  | some (.row e kk m xs),some d=>[.row (f d) e kk m xs]
  | some (.effG _ _ mk _),some d=>[mk (f d)]
  | _,_=>[])
 | .turn pre _ _=>pre
 | _=>[]
def Pre (P:Program) (ops:Array Oper) (n:Nat) (f0:Nat→Value) (ds:List Nat) (Ss:List Sp) (c0:Cx) (L:List Res) (A:Cx→Prop) (c1:Cx) (i:Nat) (o:Oper) (s:Sp) : Prop :=
 ∀(B:Cx→Prop) [Mono B] Lx c,Hd (fun c=>B c∧A c) c→FA c (fun j=>(afters o).contains j) (ds.take i) Ss 0 f0 fun f=>Owns c0 (s.need ds Ss f++(Lx++L)) c→W P ops (PQ n f (ds.getD i 0) s c0 (Lx++L) fun c=>B c∧A c) [o] n f c.w
def PreAll (P:Program) (ops:Array Oper) (n:Nat) (f0:Nat→Value) (ds:List Nat) (Ss:List Sp) (c0:Cx) (L:List Res) (A:Cx→Prop) (c1:Cx) : Nat→List Oper→List Sp→Prop
 | i,o::os,s::ss=>Pre P ops n f0 ds Ss c0 L A c1 i o s∧PreAll P ops n f0 ds Ss c0 L A c1 (i+1) os ss
 | _,_,_=>True
theorem PreAll.get {ds:List Nat} {Ss:List Sp} {c1:Cx} : ∀(os:List Oper) (ss:List Sp) (k:Nat),PreAll P ops n f0 ds Ss c0 L A c1 k os ss→∀i o s,os[i]?=some o→ss[i]?=some s→Pre P ops n f0 ds Ss c0 L A c1 (k+i) o s:=by
 intro os
 induction os with
 | nil=>intro ss k _ i o s h;simp at h
 | cons o os ih =>
  intro ss k h i o' s ho hs
  cases ss with
  | nil=>simp at hs
  | cons s' ss =>
   cases i with
   | zero =>
    simp only [List.getElem?_cons_zero,Option.some.injEq] at ho hs
    subst ho hs
    exact h.1
   | succ i =>
    rw [show k+(i+1)=k+1+i by omega]
    exact ih ss (k+1) h.2 i o' s (by simpa using ho) (by simpa using hs)

theorem wpList_seq_any (hsh:∀i o,ops[i]?=some o→∀e∈o.after,Region.binds .any e=true→e.on<i) : ∀(r k:Nat) (listed:Array Bool) (a:Act) (w:World),k≤ops.size→ops.size≤k+r→listed.size=ops.size →
  (∀j,j<ops.size→listed.getD j false=decide (j<k))→(∀i o,ops[i]?=some o→k<i→∃e∈o.after,Region.binds .any e=true∧e.on=i-1)→wpList P ops Q (ops.toList.drop k) a w→wpAny P .any ops Q r listed a w:=by
 intro r
 induction r with
 | zero =>
  intro k listed a w hk' hk hsz hl _ h
  have hr : Region.ready .any ops listed=[]:=by
   rw [List.eq_nil_iff_forall_not_mem]
   intro j hj
   obtain ⟨h0,o,ho,_⟩:=mem_ready.1 hj
   have hlt : j<ops.size:=(Array.getElem?_eq_some_iff.1 ho).1
   have:=hl j hlt
   have hd : decide (j<k)=true:=by simp;omega
   rw [hd] at this
   rw [Array.getD_eq_getD_getElem?] at h0 this
   cases hx : listed[j]? with
   | none=>simp [hx] at this
   | some b=>simp [hx] at h0 this;simp [h0] at this
  rw [List.drop_eq_nil_of_le (by simp;omega)] at h
  exact ⟨hr,h⟩
 | succ r ih =>
  intro k listed a w hk' hk hsz hl hall h
  by_cases hks : k<ops.size
  case neg =>
   have hr : Region.ready .any ops listed=[]:=by
    rw [List.eq_nil_iff_forall_not_mem]
    intro j hj
    obtain ⟨h0,o,ho,_⟩:=mem_ready.1 hj
    have hlt : j<ops.size:=(Array.getElem?_eq_some_iff.1 ho).1
    have:=hl j hlt
    have hd : decide (j<k)=true:=by simp;omega
    rw [hd] at this
    rw [Array.getD_eq_getD_getElem?] at h0 this
    cases hx : listed[j]? with
    | none=>simp [hx] at this
    | some b=>simp [hx] at h0 this;simp [h0] at this
   rw [List.drop_eq_nil_of_le (by simp;omega)] at h
   exact ⟨fun _=>h,fun i hi=>by rw [hr] at hi;cases hi⟩
  have hget : ∀j b,j<ops.size→listed.getD j b=decide (j<k):=by
   intro j b hj
   have:=hl j hj
   have hj' : j<listed.size:=by omega
   simpa [Array.getD_eq_getD_getElem?,hj'] using this
  have hok : ops[k]?=some ops[k]:=Array.getElem?_eq_getElem hks
  have hrk : ∀j,j∈Region.ready .any ops listed→j=k:=by
   intro j hj
   obtain ⟨h0,o,ho,he⟩:=mem_ready.1 hj
   have hlt : j<ops.size:=(Array.getElem?_eq_some_iff.1 ho).1
   rw [hget j true hlt] at h0
   have hkj : k≤j:=by simpa using h0
   rcases Nat.lt_or_ge k j with hlt'|hge
   ·obtain ⟨e,hem,heb,heo⟩:=hall j o ho hlt'
    have:=he e hem heb
    rw [heo,hget (j-1) false (by omega)] at this
    simp at this
    omega
   ·omega
  have hkr : k∈Region.ready .any ops listed:=by
   refine mem_ready.2 ⟨by rw [hget k true hks];simp,_,hok,fun e he heb=>?_⟩
   have:=hsh k _ hok e he heb
   rw [hget e.on false (by omega)]
   simpa using this
  refine ⟨(fun hnil=>by rw [hnil] at hkr;cases hkr),fun j hj=>?_⟩
  obtain rfl:=hrk j hj
  have hdrop : ops.toList.drop j=ops[j]::ops.toList.drop (j+1):=by
   rw [List.drop_eq_getElem_cons (by simpa using hks)]
   rfl
  rw [hdrop] at h
  unfold wpOp
  rw [hok]
  unfold wpList at h
  have hnext : ∀a w,wpList P ops Q (ops.toList.drop (j+1)) a w→wpAny P .any ops Q r (listed.setIfInBounds j true) a w:=fun a w hw =>
   ih (j+1) _ a w (by omega) (by omega) (by simp [hsz]) (fun i hi=>by
    by_cases hij : i=j
    ·subst hij
     simp [Array.getD_eq_getD_getElem?,hsz,hi]
    ·rw [getD_set_ne false (Ne.symm hij),hl i hi]
     simp;omega) (fun i o ho hi=>hall i o ho (by omega)) hw
  simp only
  split
  ·rename_i hw
   rw [if_pos hw] at h
   exact h.imp (Oper.wp_mono hnext) id
  ·rename_i hw
   rw [if_neg hw] at h
   exact hnext _ _ h

theorem wp_transfer {o:Oper} {a b:Act} {w:World} {K K':Act→World→Prop} {Q':Exit→Act→World→Prop} (he:execOp a.eval o=execOp b.eval o) (hnd:∀x,o.op≠.defer x) (h:o.wp P b w K' Q') (hK:∀v w',K' (b.put o.dst v) w'→K (a.put o.dst v) w') (hp:∀ch a w,¬Q' (.panic ch) a w) (ho:∀a w,¬Q' .outgrown a w)
  (hdf:∀(d:Deferred) (w:World),¬K' (({ b with defers:=d::b.defers }:Act).put o.dst undef) w) : o.wp P a w K Q:=by
 unfold Oper.wp at *
 rw [he]
 generalize (execOp b.eval o).run P w=r at *
 cases r with
 | ok x w' =>
  cases x<;>simp only [Oper.upon] at h ⊢
  case value v=>exact hK _ _ h
  case skip=>exact hK _ _ h
  case defer d=>exact (hdf d w' h).elim
  case enter f args =>
   refine Calls.mono h fun e w'' hh=>?_
   cases e with
   | returned v=>exact hK _ _ hh
   | panicked ch=>exact (hp _ _ _ hh).elim
   | outgrown=>obtain ⟨a,w,hq⟩:=hh;exact (ho _ _ hq).elim
  case row row args=>exact Rows.mono h fun v w'' hh=>hK _ _ hh
 | halt x w' =>
  cases x<;>simp only [Oper.upon] at h ⊢
  case panic v=>exact (hp _ _ _ h).elim

def unl (N:Nat) (listed:Array Bool) : Nat:=(List.range N).countP fun i=>!listed.getD i false
theorem countP_one {p q:Nat→Bool} {i:Nat} (hpq:∀j,j≠i→q j=p j) (hp:p i=true) (hq:q i=false) : ∀N,i<N→(List.range N).countP q+1=(List.range N).countP p:=by
 have same : ∀N,N≤i→(List.range N).countP q=(List.range N).countP p:=by
  intro N hN
  refine List.countP_congr fun j hj=>?_
  rw [hpq j (by simp at hj;omega)]
 intro N
 induction N with
 | zero=>intro h;omega
 | succ N ih =>
  intro h
  rw [List.range_succ,List.countP_append,List.countP_append]
  by_cases hi : i=N
  ·subst hi
   rw [same i (Nat.le_refl _)]
   simp [hp,hq]
  ·have:=ih (by omega)
   have hN:=hpq N (fun e=>hi e.symm)
   simp only [List.countP_cons,List.countP_nil,hN]
   omega
theorem unl_set {N i:Nat} {listed:Array Bool} (hsz:listed.size=N) (hi:i<N) (h:listed.getD i false=false) : unl N (listed.setIfInBounds i true)+1=unl N listed:=by
 refine countP_one (fun j hj=>?_) (by simp [h]) ?_ N hi
 ·rw [getD_set_ne false (Ne.symm hj)]
 ·simp [Array.getD_eq_getD_getElem?,hsz,hi]

def ownNeed (s:Sp) (vs:Nat→Value) (Ss:List Sp) : List Res :=
 match s with
 | .effG none init ..=>[init]
 | .effG (some p) ..=>(match Ss[p]? with
  | some (.row e kk m xs)=>[.row (vs p) e kk m xs]
  | some (.effG _ _ mk _)=>[mk (vs p)]
  | _=>[])
 | .turn pre _ _=>pre
 | _=>[]
def ownOut (s:Sp) (v:Value) : List Res :=
 match s with
 | .own o=>(match v with | .pointer (some a)=>[.obj a.block o]|_=>[])
 | .row e kk m xs=>[.row v e kk m xs]
 | .effG _ _ mk _=>[mk v]
 | .turn _ post _=>post
 | _=>[]
theorem effOk_prv {Ss:List Sp} {ks:List (Option Nat×Bool)} (hks:Ss.map Sp.key=ks) (hef:effOk ops afters ks=true) {i p:Nat} {s:Sp} {o:Oper} (hs:Ss[i]?=some s) (hp:s.prv=some p) (ho:ops[i]?=some o) : p∈afters o∧p<i:=by
 subst hks
 have hi : i<Ss.length:=(List.getElem?_eq_some_iff.1 hs).1
 unfold effOk at hef
 rw [List.all_eq_true] at hef
 have h:=hef i (by simpa using hi)
 rw [List.getElem?_map,hs] at h
 simp only [Option.map_some,Sp.key,hp,ho,Bool.and_eq_true] at h
 exact ⟨by simpa using h.1.1.1,by have:=h.1.1.2;rwa [Nat.blt_eq] at this⟩
theorem effOk_row {Ss:List Sp} {ks:List (Option Nat×Bool)} (hks:Ss.map Sp.key=ks) (hef:effOk ops afters ks=true) {i p:Nat} {s:Sp} (hs:Ss[i]?=some s) (hp:s.prv=some p) : (∃s',Ss[p]?=some s'∧s'.isRow=true)∧∀k t,Ss[k]?=some t→t.prv=some p→k=i:=by
 subst hks
 have hi : i<Ss.length:=(List.getElem?_eq_some_iff.1 hs).1
 unfold effOk at hef
 rw [List.all_eq_true] at hef
 have h:=hef i (by simpa using hi)
 rw [List.getElem?_map,hs] at h
 simp only [Option.map_some,Sp.key,hp,Bool.and_eq_true] at h
 refine ⟨?_,fun k t hk ht=>?_⟩
 ·have h2:=h.1.2
  rw [List.getElem?_map] at h2
  cases hsp : Ss[p]? with
  | none=>rw [hsp] at h2;cases h2
  | some s'=>rw [hsp] at h2;exact ⟨s',rfl,by simpa [Sp.key] using h2⟩
 ·have h3:=h.2
  rw [List.all_eq_true] at h3
  have h4:=h3 k (by simpa using (List.getElem?_eq_some_iff.1 hk).1)
  rw [List.getElem?_map,hk] at h4
  simp only [Option.map_some,Sp.key,ht,Bool.or_eq_true] at h4
  rcases h4 with h4|h4
  ·exact Nat.eq_of_beq_eq_true h4
  ·simp at h4
theorem ownV_step {Ss:List Sp} {ks:List (Option Nat×Bool)} {ls:Nat→Bool} {vs:Nat→Value} (hks:Ss.map Sp.key=ks) (hef:effOk ops afters ks=true) {i:Nat} {s:Sp} {o:Oper} (hi:i<Ss.length) (ho:ops[i]?=some o) (hs:Ss[i]?=some s) (hl:ls i=false)
  (hle:Ss.length≤ops.size) (hcl:∀(j:Nat) (o:Oper),ops[j]?=some o→ls j=true→∀e∈o.after,Region.binds .any e=true→ls e.on=true)
  (haf:∀e∈o.after,Region.binds .any e=true→ls e.on=true) : ∃X,(ownV ls vs Ss).Perm (ownNeed s vs Ss++X)∧∀v,(ownV (fun j=>if j=i then true else ls j) (fun j=>if j=i then v else vs j) Ss).Perm (ownOut s v++X):=by
 have hcons : ∀j,s.prv≠some j→consB (fun j=>if j=i then true else ls j) Ss j=consB ls Ss j:=by
  intro j hj
  refine consB_congr fun k t hk ht=>?_
  by_cases e : k=i
  ·subst e;rw [hs] at hk;cases hk;exact absurd ht hj
  ·simp [e]
 have hnc : consB ls Ss i=false:=by
  unfold consB
  rw [List.any_eq_false]
  intro k hk
  cases hsk : Ss[k]? with
  | none=>simp
  | some t =>
   rw [Bool.and_eq_true]
   rintro ⟨h1,h2⟩
   have h2 : t.prv=some i:=by simpa using h2
   have hkl : k<Ss.length:=by simpa using hk
   have hok : ops[k]?=some (ops[k]'(by omega)):=Array.getElem?_eq_getElem (by omega)
   obtain ⟨e,he,hb,hp⟩:=mem_afters.1 (effOk_prv hks hef hsk h2 hok).1
   have:=hcl k _ hok h1 e he hb
   rw [hp,hl] at this
   cases this
 cases hp : s.prv with
 | none =>
  refine ⟨(List.range Ss.length).flatMap fun j=>if j=i then [] else (match Ss[j]? with|some t=>t.resAt (ls j) (consB ls Ss j) (vs j)|none=>[]),?_,fun v=>?_⟩
  ·refine flat_perm (j0:=i) ?_ (by simp) (fun j hj=>by simp [hj]) _ hi
   rw [hs]
   dsimp only
   rw [hl]
   cases s with
   | effG p r mk S=>cases p with
    | none=>rfl
    | some p=>cases hp
   | _=>rfl
  ·refine flat_perm (j0:=i) ?_ (by simp) (fun j hj=>?_) _ hi
   ·rw [hs]
    dsimp only
    rw [hcons i (by rw [hp];simp),hnc]
    cases s with
    | effG p r mk S=>simp [Sp.resAt,ownOut]
    | own o'=>simp [Sp.resAt,ownOut]
    | row e kk m xs=>simp [Sp.resAt,ownOut]
    | val x=>simp [Sp.resAt,ownOut]
    | rel S=>simp [Sp.resAt,ownOut]
    | turn pr po S=>simp [Sp.resAt,ownOut]
   ·simp only [if_neg hj]
    rw [hcons j (by rw [hp];simp)]
 | some p =>
  obtain ⟨⟨sp,hsp,hrow⟩,huniq⟩:=effOk_row hks hef hs hp
  obtain ⟨hpa,hpi⟩:=effOk_prv hks hef hs hp ho
  obtain ⟨e,he,hb,hpe⟩:=mem_afters.1 hpa
  have hlp : ls p=true:=hpe▸haf e he hb
  have hpl : p<Ss.length:=(List.getElem?_eq_some_iff.1 hsp).1
  have hne : p≠i:=by omega
  have hcp : consB ls Ss p=false:=by
   unfold consB
   rw [List.any_eq_false]
   intro k hk
   cases hsk : Ss[k]? with
   | none=>simp
   | some t =>
    rw [Bool.and_eq_true]
    rintro ⟨h1,h2⟩
    have:=huniq k t hsk (by simpa using h2)
    subst this
    rw [hl] at h1
    cases h1
  have hcp' : consB (fun j=>if j=i then true else ls j) Ss p=true:=by
   unfold consB
   rw [List.any_eq_true]
   exact ⟨i,by simpa using hi,by simp [hs,hp]⟩
  have hso : ownNeed s vs Ss=sp.resAt true false (vs p):=by
   cases s with
   | effG p' r mk S =>
    cases p' with
    | none=>cases hp
    | some p' =>
     simp only [Sp.prv,Option.some.injEq] at hp
     subst hp
     simp only [ownNeed,hsp]
     cases sp with
     | row e kk m xs=>rfl
     | effG _ _ mk S=>rfl
     | _=>cases hrow
   | _=>cases hp
  refine ⟨(List.range Ss.length).flatMap fun j=>if j=p then [] else if j=i then [] else (match Ss[j]? with|some t=>t.resAt (ls j) (consB ls Ss j) (vs j)|none=>[]),?_,fun v=>?_⟩
  ·refine flat_perm (j0:=p) ?_ (by simp) (fun j hj=>?_) _ hpl
   ·rw [hsp]
    dsimp only
    rw [hlp,hcp,hso]
   ·simp only [if_neg hj]
    by_cases e2 : j=i
    ·subst e2
     rw [hs]
     dsimp only
     rw [hl]
     cases s with
     | effG p' r mk S=>cases p' with
      | none=>cases hp
      | some p'=>simp [Sp.resAt]
     | _=>cases hp
    ·simp [e2]
  ·refine flat_perm (j0:=i) ?_ (by simp [hne.symm]) (fun j hj=>?_) _ hi
   ·rw [hs]
    dsimp only
    rw [hcons i (by rw [hp];simpa using hne),hnc]
    cases s with
    | effG p' r mk S=>simp [Sp.resAt,ownOut]
    | _=>cases hp
   ·simp only [if_neg hj]
    by_cases e2 : j=p
    ·subst e2
     rw [hsp]
     dsimp only
     rw [hcp',hlp]
     cases sp with
     | row e kk m xs=>simp [Sp.resAt]
     | effG _ _ mk S=>simp [Sp.resAt]
     | _=>cases hrow
    ·simp only [if_neg e2]
     rw [hcons j (by rw [hp];simpa using fun h=>e2 h.symm)]
theorem wc_draw {id m:Nat} {ds:List Nat} {Ss:List Sp} {c:Cx} (hmix:P.follows .mixedOrders=true) (hok:regOk ops m n ds=true) (hss:Ss.length=m) {ks:List (Option Nat×Bool)} (hks:Ss.map Sp.key=ks) (hef:effOk ops afters ks=true) (hmono:∀s∈Ss,s.Mono') (H:Owns c0 (initP Ss++L) c) (HA:Hd A c) [Mono A]
  (pre:PreAll P ops n f0 ds Ss c0 L A c 0 (ops.toList.take m) Ss)
  (post:∀c,Hd A c→FA c (fun _=>true) ds Ss 0 f0 fun f=>Owns c0 (ownP f (ds.zip Ss)++L) c→W P ops Q (ops.toList.drop m) n f c.w) : WC P (.region id ops true) Q n f0 c.w:=by
 refine ⟨fun a0 ha0=>wp_region_any hmix ?_⟩
 simp only [regOk,Bool.and_eq_true,List.all_eq_true,List.mem_range,beq_iff_eq,Nat.ble_eq,decide_eq_true_eq] at hok
 obtain ⟨⟨⟨⟨hall,hdl⟩,hmN⟩,hdn⟩,hnd⟩:=hok
 have hdn' : ∀d∈ds,d<n:=fun d hd=>by have:=hdn d hd;rwa [Nat.blt_eq] at this
 have hf0 : ∀t,n≤t→f0 t=undef:=fun t ht=>by
  rw [←ha0.at_ t,Array.getD_eq_getD_getElem?,Array.getElem?_eq_none (by rw [ha0.size];exact ht)]
  rfl
 have hsh : ∀(i:Nat) (o:Oper),ops[i]?=some o→∀e∈o.after,Region.binds .any e=true→e.on<i:=by
  intro i o ho e he heb
  have h1:=hall i (Array.getElem?_eq_some_iff.1 ho).1
  rw [ho] at h1
  simp only [Bool.and_eq_true] at h1
  have:=Array.all_eq_true_iff_forall_mem.1 h1.1.1 e he
  rw [heb] at this
  simpa [Nat.blt_eq] using this
 have hop : ∀(i:Nat) (o:Oper),ops[i]?=some o→(∀cs b,o.op≠.select cs b)∧∀x,o.op≠.defer x:=by
  intro i o ho
  have h1:=hall i (Array.getElem?_eq_some_iff.1 ho).1
  rw [ho] at h1
  simp only [Bool.and_eq_true] at h1
  have:=h1.1.2
  constructor<;>intros<;>intro e<;>rw [e] at this<;>cases this
 have hpre : ∀(i:Nat) (o:Oper),ops[i]?=some o→i<m→o.dst=ds[i]?∧∀t∈o.looksAt ops,∀j,j<m→ds[j]?=some t→∃e∈o.after,Region.binds .any e=true∧e.on=j:=by
  intro i o ho hi
  have h1:=hall i (Array.getElem?_eq_some_iff.1 ho).1
  rw [ho] at h1
  simp only [Bool.and_eq_true] at h1
  have h2:=h1.2
  rw [if_pos (by rw [Nat.blt_eq];exact hi)] at h2
  simp only [Bool.and_eq_true,beq_iff_eq,List.all_eq_true,List.mem_range,Bool.or_eq_true,Bool.not_eq_true',lookList,List.contains_iff_mem,mem_afters] at h2
  refine ⟨h2.1,fun t ht j hj hd=>?_⟩
  rcases h2.2 t ht j hj with h3|h3
  ·simp [hd] at h3
  ·exact h3
 have hsuf : ∀(i:Nat) (o:Oper),ops[i]?=some o→m<i→∃e∈o.after,Region.binds .any e=true∧e.on=i-1:=by
  intro i o ho hi
  have h1:=hall i (Array.getElem?_eq_some_iff.1 ho).1
  rw [ho] at h1
  simp only [Bool.and_eq_true] at h1
  have h2:=h1.2
  have hb : Nat.beq i m=false:=by
   cases hb : Nat.beq i m with
   | false=>rfl
   | true=>have:=Nat.eq_of_beq_eq_true hb;omega
  rw [if_neg (by rw [Nat.blt_eq];omega),if_neg (by simp [hb])] at h2
  simpa only [List.contains_iff_mem,mem_afters] using h2
 have hfst : ∀(o:Oper),ops[m]?=some o→∀p : Nat→Prop,(∀j o,ops[j]?=some o→p j→∀e∈o.after,Region.binds .any e=true→p e.on)→(∀e∈o.after,Region.binds .any e=true→p e.on)→∀j,j<m→p j:=by
  intro o ho p hcl hA j hj
  have h1:=hall m (Array.getElem?_eq_some_iff.1 ho).1
  rw [ho] at h1
  simp only [Bool.and_eq_true] at h1
  have h2:=h1.2
  rw [if_neg (by rw [Nat.blt_eq];omega),if_pos (by simp)] at h2
  simp only [List.all_eq_true,List.mem_range,List.contains_iff_mem] at h2
  exact reach_all hcl m (afters o) (fun j hj=>by
   obtain ⟨e,he,hb,rfl⟩:=mem_afters.1 hj
   exact hA e he hb) j (h2 j hj)
 have key : ∀(fuel:Nat) (listed:Array Bool) (vs:Nat→Value) (c:Cx) (a:Act),listed.size=ops.size→unl ops.size listed≤fuel→(∀j,m≤j→j<ops.size→listed.getD j false=false)→(∀j o,ops[j]?=some o→listed.getD j false=true→∀e∈o.after,Region.binds .any e=true→listed.getD e.on false=true) →
   (∀j s,Ss[j]?=some s→listed.getD j false=true→s.Is (vs j) c)→a.tmps.size=n→a.defers=[]→(∀t,t∉ds→a.tmps.getD t undef=f0 t) →
   (∀j t,ds[j]?=some t→a.tmps.getD t undef=if listed.getD j false then vs j else f0 t)→Owns c0 (ownV (fun j=>listed.getD j false) vs Ss++L) c→A c→wpAny P .any ops Q fuel listed a c.w:=by
  intro fuel
  induction fuel with
  | zero =>
   intro listed vs c a hsz hU hsf hcl hsp has had hfr1 hfr2 Hc HAc
   have hl : ∀j,j<ops.size→listed.getD j false=true:=by
    intro j hj
    have h0 : unl ops.size listed=0:=by omega
    have:=List.countP_eq_zero.1 h0 j (by simpa using hj)
    simpa using this
   have hm : m=ops.size:=by
    rcases Nat.lt_or_ge m ops.size with h|h
    ·have h1:=hl m h
     rw [hsf m (Nat.le_refl _) h] at h1
     cases h1
    ·omega
   have hp:=(post c ⟨HAc⟩).use (vs:=vs) ds Ss 0 f0 (by omega) fun j s hj hs=>by
    have h1:=hsp j s hs (hl j (by omega))
    simp only [Nat.zero_add]
    exact ⟨fun x e=>by subst e;exact h1,fun S e _=>by rcases e with e|⟨_,_,e⟩|⟨_,_,_,e⟩<;>subst e<;>exact h1,fun o e=>by subst e;exact h1⟩
   have hp:=hp (by
    rw [←ownV_ownP (ls:=fun j=>listed.getD j false) (vs:=vs) (ds:=ds) (ss:=Ss) (by omega) fun j d hj=>⟨hl j (by have:=(List.getElem?_eq_some_iff.1 hj).1;omega),by rw [updL_at ds 0 f0 j hnd hj,Nat.zero_add]⟩]
    exact Hc)
   refine wpList_seq_any hsh 0 m listed a c.w (by omega) (by omega) hsz (fun j hj=>by rw [hl j hj];simp;omega) hsuf (hp.go a ⟨has,had,fun t=>?_⟩)
   by_cases ht : t∈ds
   ·obtain ⟨j,hj,hjt⟩:=List.mem_iff_getElem.1 ht
    have hjs : ds[j]?=some t:=by rw [List.getElem?_eq_getElem hj,hjt]
    rw [hfr2 j t hjs,hl j (by omega),updL_at ds 0 f0 j hnd hjs,Nat.zero_add]
    rfl
   ·rw [hfr1 t ht,updL_not ds 0 f0 ht]
  | succ fuel ih =>
   intro listed vs c a hsz hU hsf hcl hsp has had hfr1 hfr2 Hc HAc
   by_cases hl : ∀j,j<m→listed.getD j false=true
   ·have hp:=(post c ⟨HAc⟩).use (vs:=vs) ds Ss 0 f0 (by omega) fun j s hj hs=>by
     have h1:=hsp j s hs (hl j (by omega))
     simp only [Nat.zero_add]
     exact ⟨fun x e=>by subst e;exact h1,fun S e _=>by rcases e with e|⟨_,_,e⟩|⟨_,_,_,e⟩<;>subst e<;>exact h1,fun o e=>by subst e;exact h1⟩
    have hp:=hp (by
     rw [←ownV_ownP (ls:=fun j=>listed.getD j false) (vs:=vs) (ds:=ds) (ss:=Ss) (by omega) fun j d hj=>⟨hl j (by have:=(List.getElem?_eq_some_iff.1 hj).1;omega),by rw [updL_at ds 0 f0 j hnd hj,Nat.zero_add]⟩]
     exact Hc)
    refine wpList_seq_any hsh (fuel+1) m listed a c.w hmN ?_ hsz (fun j hj=>?_) hsuf (hp.go a ⟨has,had,fun t=>?_⟩)
    ·have : ops.size-m≤unl ops.size listed:=by
      have h1 : unl ops.size listed=(List.range ops.size).countP (fun i=>decide (m≤i)):=by
       refine List.countP_congr fun j hj=>?_
       simp only [List.mem_range] at hj
       by_cases hjm : j<m
       ·rw [hl j hjm];simp;omega
       ·rw [hsf j (by omega) hj];simp;omega
      rw [h1]
      have h2 : ∀N,N-m≤(List.range N).countP (fun i=>decide (m≤i)):=by
       intro N
       induction N with
       | zero=>simp
       | succ N ihN =>
        rw [List.range_succ,List.countP_append]
        simp only [List.countP_cons,List.countP_nil]
        split<;>rename_i hh<;>simp at hh<;>omega
      exact h2 _
     omega
    ·by_cases hjm : j<m
     ·rw [hl j hjm];simp [hjm]
     ·rw [hsf j (by omega) hj];simp [hjm]
    ·by_cases ht : t∈ds
     ·obtain ⟨j,hj,hjt⟩:=List.mem_iff_getElem.1 ht
      have hjs : ds[j]?=some t:=by rw [List.getElem?_eq_getElem hj,hjt]
      rw [hfr2 j t hjs,hl j (by omega),updL_at ds 0 f0 j hnd hjs,Nat.zero_add]
      rfl
     ·rw [hfr1 t ht,updL_not ds 0 f0 ht]
   ·have hex : ∃i,i<m∧listed.getD i false=false∧∀j,j<i→listed.getD j false=true:=by
     have hmin : ∀k,k≤m→(∀j,j<k→listed.getD j false=true)∨∃i,i<m∧listed.getD i false=false∧∀j,j<i→listed.getD j false=true:=by
      intro k
      induction k with
      | zero=>intro _;exact .inl fun j hj=>by omega
      | succ k ihk =>
       intro hk
       rcases ihk (by omega) with h|h
       ·cases hb : listed.getD k false with
        | true =>
         refine .inl fun j hj=>?_
         rcases Nat.lt_or_ge j k with h'|h'
         ·exact h j h'
         ·rw [show j=k by omega];exact hb
        | false=>exact .inr ⟨k,by omega,hb,h⟩
       ·exact .inr h
     rcases hmin m (Nat.le_refl _) with h|h
     ·exact (hl h).elim
     ·exact h
    obtain ⟨i0,hi0,hi0f,hi0l⟩:=hex
    have hgt : ∀j b,j<ops.size→listed.getD j b=listed.getD j false:=fun j b hj=>by
     have hj' : j<listed.size:=by omega
     simp [Array.getD_eq_getD_getElem?,hj']
    have hr0 : i0∈Region.ready .any ops listed:=by
     have hlt : i0<ops.size:=by omega
     refine mem_ready.2 ⟨by rw [hgt i0 true hlt];exact hi0f,_,Array.getElem?_eq_getElem hlt,fun e he heb=>hi0l _ (hsh i0 _ (Array.getElem?_eq_getElem hlt) e he heb)⟩
    refine ⟨(fun hnil=>by rw [hnil] at hr0;cases hr0),fun i hi=>?_⟩
    obtain ⟨hun,o,ho,hafter⟩:=mem_ready.1 hi
    have hio : i<ops.size:=(Array.getElem?_eq_some_iff.1 ho).1
    have hiun : listed.getD i false=false:=by rw [←hgt i true hio];exact hun
    have him : i<m:=by
     rcases Nat.lt_or_ge i m with h|h
     ·exact h
     ·rcases Nat.lt_or_ge m i with hmi|hmi
      ·obtain ⟨e,he,heb,heo⟩:=hsuf i o ho hmi
       have:=hafter e he heb
       rw [heo,hsf (i-1) (by omega) (by omega)] at this
       cases this
      ·have him' : i=m:=by omega
       subst him'
       have:=hfst o ho (fun j=>listed.getD j false=true) hcl (fun e he heb=>hafter e he heb) i0 hi0
       rw [hi0f] at this
       cases this
    obtain ⟨hdst,hlook⟩:=hpre i o ho him
    have hdi : ds[i]?=some (ds.getD i 0):=by
     rw [List.getD_eq_getElem?_getD,List.getElem?_eq_getElem (by omega)]
     rfl
    have hsi : ∃s,Ss[i]?=some s:=⟨_,List.getElem?_eq_getElem (by omega)⟩
    obtain ⟨s,hs⟩:=hsi
    have hpi:=PreAll.get (ops.toList.take m) Ss 0 pre i o s (by rw [List.getElem?_take,if_pos him];simpa using ho) hs
    rw [Nat.zero_add] at hpi
        -- the frame as far as it is known
    let vs' : Nat→Value:=fun j=>match Ss[j]? with|some (.val x)=>x|some (.own _)=>(bif listed.getD j false then vs j else .pointer (some ⟨0,0,none⟩))|_=>vs j
    let B : Cx→Prop:=fun c=>∀j s,Ss[j]?=some s→listed.getD j false=true→s.Is (vs j) c
    have hB : Mono B:=⟨fun hle hb j s hs hj=>Sp.Is.mono (hmono s (List.mem_of_getElem? hs)) hle (hb j s hs hj)⟩
    have hvs : ∀j,listed.getD j false=true→j<m→vs' j=vs j:=by
     intro j hj hjm
     have hsj : Ss[j]?=some Ss[j]:=List.getElem?_eq_getElem (by omega)
     have h1:=hsp j _ hsj hj
     show (match Ss[j]? with|some (.val x)=>x|some (.own _)=>(bif listed.getD j false then vs j else .pointer (some ⟨0,0,none⟩))|_=>vs j)=vs j
     rw [hsj]
     cases hc : Ss[j] with
     | val x=>rw [hc] at h1;exact h1.symm
     | rel S=>rfl
     | own o=>simp only [hj,cond_true]
     | row e kk m xs=>rfl
     | effG p r mk S=>rfl
     | turn pr po S=>rfl
    obtain ⟨X,hX1,hX2⟩:=ownV_step (ls:=fun j=>listed.getD j false) (vs:=vs) hks hef (by omega) ho hs hiun (by omega) hcl (fun e he heb=>hafter e he heb)
    have hw:=(hpi B X c ⟨⟨hsp,HAc⟩⟩).use (vs:=vs') (ds.take i) Ss 0 f0 (by simp;omega) fun j s' hj hs'=>by
     simp only [Nat.zero_add]
     refine ⟨fun x e=>?_,fun S e hdep=>?_,fun o e=>?_⟩
     ·subst e
      show (match Ss[j]? with|some (.val x)=>x|some (.own _)=>(bif listed.getD j false then vs j else .pointer (some ⟨0,0,none⟩))|_=>vs j)=x
      rw [hs']
     ·simp only [List.contains_iff_mem,mem_afters] at hdep
      obtain ⟨e1,he,heb,heo⟩:=hdep
      have hlj:=hafter e1 he heb
      rw [heo] at hlj
      have hji : j<m:=by simp at hj;omega
      rw [hvs j hlj hji]
      rcases e with e|⟨_,_,e⟩|⟨_,_,_,e⟩<;>subst e<;>exact hsp j _ hs' hlj
     ·subst e
      show ∃b,(match Ss[j]? with|some (.val x)=>x|some (.own _)=>(bif listed.getD j false then vs j else .pointer (some ⟨0,0,none⟩))|_=>vs j)=.pointer (some ⟨b,0,none⟩)
      rw [hs']
      cases hlj : listed.getD j false with
      | true=>exact hsp j _ hs' hlj
      | false=>exact ⟨0,rfl⟩
    let g:=updL vs' (ds.take i) 0 f0
    have hgn : ∀t,n≤t→g t=undef:=fun t ht=>by
     show updL vs' (ds.take i) 0 f0 t=undef
     rw [updL_not _ _ _ (fun hm=>by have:=hdn' t (List.mem_of_mem_take hm);omega)]
     exact hf0 t ht
    let b : Act:={ tmps:=(List.range n).toArray.map g,defers:=[] }
    have hb : FrIs n g b:=by
     refine ⟨by simp [b],rfl,fun t=>?_⟩
     simp only [b,Array.getD_eq_getD_getElem?]
     rcases Nat.lt_or_ge t n with h|h
     ·simp [h]
     ·rw [Array.getElem?_eq_none (by simpa using h)]
      simp [hgn t h]
    have hag : ∀t∈o.looksAt ops,a.tmps.getD t undef=b.tmps.getD t undef:=by
     intro t ht
     rw [hb.at_ t]
     show a.tmps.getD t undef=updL vs' (ds.take i) 0 f0 t
     by_cases htd : t∈ds
     ·obtain ⟨j,hj,hjt⟩:=List.mem_iff_getElem.1 htd
      have hjs : ds[j]?=some t:=by rw [List.getElem?_eq_getElem hj,hjt]
      obtain ⟨e,he,heb,heo⟩:=hlook t ht j (by omega) hjs
      have hlj:=hafter e he heb
      have hlt:=hsh i o ho e he heb
      rw [heo] at hlj hlt
      rw [hfr2 j t hjs,hlj,if_pos rfl,updL_at (ds.take i) 0 f0 j (hnd.sublist (List.take_sublist _ _)) (by rw [List.getElem?_take,if_pos hlt];exact hjs),Nat.zero_add,hvs j hlj (by omega)]
     ·rw [hfr1 t htd,updL_not _ _ _ (fun hm=>htd (List.mem_of_mem_take hm))]
    have hex : execOp a.eval o=execOp b.eval o:=execOp_congr o (hop i o ho).1 fun x hx=>by
     cases x with
     | tmp t=>exact hag t (List.mem_append_left _ (List.mem_filterMap.2 ⟨.tmp t,by simpa using hx,rfl⟩))
     | _=>rfl
    have hwt : Region.wanted o (yielded ops a.tmps)=Region.wanted o (yielded ops b.tmps):=by
     unfold Region.wanted
     cases hg : o.guard with
     | none=>rfl
     | some gw =>
      obtain ⟨gj,want⟩:=gw
      have hy : yielded ops a.tmps gj=yielded ops b.tmps gj:=by
       unfold yielded
       cases ht : (ops[gj]?).bind (·.dst) with
       | none=>rfl
       | some t =>
        have hmem : t∈o.looksAt ops:=by simp [Oper.looksAt,hg,ht]
        have h1:=hag t hmem
        have h2 : a.tmps[t]?=b.tmps[t]?:=by
         rw [Array.getD_eq_getD_getElem?,Array.getD_eq_getD_getElem?] at h1
         rcases Nat.lt_or_ge t n with h|h
         ·rw [Array.getElem?_eq_getElem (by rw [has];exact h),Array.getElem?_eq_getElem (by rw [hb.size];exact h)] at h1 ⊢
          simpa using h1
         ·rw [Array.getElem?_eq_none (by rw [has];exact h),Array.getElem?_eq_none (by rw [hb.size];exact h)]
        simp [h2]
      simp only [hy]
    have hneed : s.need ds Ss g=ownNeed s vs Ss:=by
     cases s with
     | effG p r mk S =>
      cases p with
      | none=>rfl
      | some p =>
       have hpo:=effOk_prv hks hef hs rfl ho
       obtain ⟨e1,he1,hb1,hp1⟩:=mem_afters.1 hpo.1
       have hlp:=hafter e1 he1 hb1
       rw [hp1] at hlp
       have hpm : p<m:=by have:=hpo.2;omega
       have hdp : ds[p]?=some (ds[p]'(by omega)):=List.getElem?_eq_getElem (by omega)
       have hgp : g (ds[p]'(by omega))=vs p:=by
        show updL vs' (ds.take i) 0 f0 (ds[p]'(by omega))=vs p
        rw [updL_at (ds.take i) 0 f0 p (hnd.sublist (List.take_sublist _ _)) (by rw [List.getElem?_take,if_pos hpo.2];exact hdp),Nat.zero_add]
        exact hvs p hlp hpm
       have hsp' : Ss[p]?=some (Ss[p]'(by omega)):=List.getElem?_eq_getElem (by omega)
       simp only [Sp.need,ownNeed,hdp,hsp']
       cases Ss[p]'(by omega)<;>simp [hgp]
     | _=>rfl
    have hw:=hw (by rw [hneed];exact (Hc.perm (hX1.append_right L)).perm (by rw [List.append_assoc]))
    have hnext : ∀v w',PQ n g (ds.getD i 0) s c0 (X++L) (fun c=>B c∧A c) .normal (b.put o.dst v) w'→wpAny P .any ops Q fuel (listed.setIfInBounds i true) (a.put o.dst v) w':=by
     intro v w' hq
     obtain ⟨f',c',hf',rfl,v',rfl,his,Hc',⟨hB',HA'⟩⟩:=hq
     have hdo : o.dst=some (ds.getD i 0):=hdst.trans hdi
     have hvv : v'=v:=by
      have h1:=hf'.at_ (ds.getD i 0)
      rw [upd_same,hdo] at h1
      have h2:=(hb.put (d:=ds.getD i 0) (by rw [Nat.blt_eq];exact hdn' _ (List.mem_of_getElem? hdi)) v).at_ (ds.getD i 0)
      rw [upd_same] at h2
      exact h1.symm.trans h2
     subst hvv
     have hset : ∀j,(listed.setIfInBounds i true).getD j false=if j=i then true else listed.getD j false:=by
      intro j
      by_cases hji : j=i
      ·subst hji
       simp [Array.getD_eq_getD_getElem?,hsz,hio]
      ·rw [getD_set_ne false (Ne.symm hji),if_neg hji]
     have hOw : Owns c0 (ownV (fun j=>(listed.setIfInBounds i true).getD j false) (fun j=>if j=i then v' else vs j) Ss++L) c':=by
      have hlsf : (fun j=>(listed.setIfInBounds i true).getD j false)=fun j=>if j=i then true else listed.getD j false:=funext hset
      rw [hlsf]
      have h2:=hX2 v'
      have hOs : Owns c0 (ownOut s v'++(X++L)) c':=by
       cases s with
       | val x=>exact Hc'
       | rel S=>exact Hc'
       | own o' =>
        obtain ⟨b',hb',HO⟩:=Hc'
        subst hb'
        exact HO
       | row e' kk' m' xs'=>exact Hc'
       | effG p' r' mk' S'=>exact Hc'
       | turn pr po S=>exact Hc'
      refine hOs.perm ?_
      rw [←List.append_assoc]
      exact (h2.symm).append_right L
     refine ih (listed.setIfInBounds i true) (fun j=>if j=i then v' else vs j) c' (a.put o.dst v') (by simp [hsz]) ?_ ?_ ?_ ?_ ?_ ?_ ?_ ?_ hOw HA'
     ·have:=unl_set hsz hio hiun
      omega
     ·intro j hj hjs
      rw [hset,if_neg (by omega)]
      exact hsf j hj hjs
     ·intro j o' ho' hj e he heb
      rw [hset] at hj ⊢
      split
      ·rfl
      ·by_cases hji : j=i
       ·subst hji
        rw [ho] at ho'
        cases ho'
        exact hafter e he heb
       ·rw [if_neg hji] at hj
        exact hcl j o' ho' hj e he heb
     ·intro j s' hs' hj
      rw [hset] at hj
      by_cases hji : j=i
      ·subst hji
       rw [hs] at hs'
       simp only [Option.some.injEq] at hs'
       subst hs'
       simpa using his
      ·rw [if_neg hji] at hj ⊢
       exact hB' j s' hs' hj
     ·rw [hdo];simp [Act.put,has]
     ·rw [hdo];simp [Act.put,had]
     ·intro t ht
      rw [hdo]
      have hne : ds.getD i 0≠t:=fun e=>ht (e▸List.mem_of_getElem? hdi)
      simp only [Act.put,Array.getD_eq_getD_getElem?,Array.getElem?_setIfInBounds_ne hne]
      rw [←Array.getD_eq_getD_getElem?]
      exact hfr1 t ht
     ·intro j t hjt
      rw [hset,hdo]
      by_cases hji : j=i
      ·subst hji
       rw [hdi] at hjt
       simp only [Option.some.injEq] at hjt
       have hlt : t<a.tmps.size:=by rw [has,←hjt];exact hdn' _ (List.mem_of_getElem? hdi)
       subst hjt
       simp only [Act.put,Array.getD_eq_getD_getElem?,Array.getElem?_setIfInBounds_self_of_lt hlt,if_true,Option.getD_some]
      ·have hne : ds.getD i 0≠t:=fun e=>hji (by
        have h1 : ds[i]?=some t:=by rw [hdi,e]
        have hjl : j<ds.length:=(List.getElem?_eq_some_iff.1 hjt).1
        exact (List.getElem?_inj hjl hnd).1 (hjt.trans h1.symm))
       have h3:=hfr2 j t hjt
       rw [if_neg hji,if_neg hji,←h3]
       simp only [Act.put,Array.getD_eq_getD_getElem?,Array.getElem?_setIfInBounds_ne hne]
    have hgo:=hw.go b hb
    unfold wpOp
    rw [ho]
    unfold wpList at hgo
    simp only
    rw [hwt]
    split
    ·rename_i hwan
     rw [if_pos hwan] at hgo
     rcases hgo with hgo|⟨_,a',w',hq⟩
     ·refine .inl (wp_transfer hex (hop i o ho).2 hgo (fun v w' h=>hnext v w' h) (fun _ _ _ h=>h) (fun _ _ h=>h) fun d w h=>?_)
      obtain ⟨f',c',hf',_⟩:=(h:PQ n g (ds.getD i 0) s c0 (X++L) (fun c=>B c∧A c) .normal _ w)
      have:=hf'.defers
      cases hd : o.dst with
      | none=>rw [hd] at this;simp [Act.put] at this
      | some d'=>rw [hd] at this;simp [Act.put] at this
     ·exact hq.elim
    ·rename_i hwan
     rw [if_neg hwan] at hgo
     exact hnext undef c.w hgo
 have hle:=Ext0.draw c.w
 have hU0 : unl ops.size (Array.replicate ops.size false)≤ops.size:=by
  unfold unl
  refine Nat.le_trans List.countP_le_length ?_
  simp
 have hrep : ∀j,(Array.replicate ops.size false).getD j false=false:=fun j=>by
  simp only [Array.getD_eq_getD_getElem?,Array.getElem?_replicate]
  split<;>rfl
 have hno : ownV (fun j=>(Array.replicate ops.size false).getD j false) (fun _=>undef) Ss=initP Ss:=by
  unfold initP
  rw [show (fun j=>(Array.replicate ops.size false).getD j false)=(fun _=>false) from funext hrep]
 exact key ops.size (Array.replicate ops.size false) (fun _=>undef) ⟨c.w.drew,c.M⟩ a0 (by simp) hU0 (fun j _ _=>hrep j) (fun j o _ h=>by rw [hrep] at h;cases h) (fun j s _ h=>by rw [hrep j] at h;cases h) ha0.size ha0.defers (fun t _=>ha0.at_ t)
  (fun j t _=>by rw [hrep j];exact ha0.at_ t) (by rw [hno];exact H.of_ext hle) (Mono.mono (Le.of_ext hle) HA.h)
end

/-! ### the tape moves on -/
def resW {α:Type} : Result α→World
 | .ok _ w=>w
 | .halt _ w=>w
theorem ask_drawn {α:Type} (x:Ask α) : ∀w : World,w.drawn≤(w.ask x).2.drawn:=by
 induction x with
 | done a=>intro w;exact Nat.le_refl _
 | ask what range k ih =>
  intro w
  simp only [World.ask]
  split
  ·exact ih _ w
  ·exact Nat.le_trans (Nat.le_succ _) (ih _ { w with drawn:=w.drawn+1 })
theorem sys_drawn (w:World) (c:Sys) : w.drawn≤(w.sys c).2.drawn:=by
 have h:=ask_drawn (Kernel.perform c w.os) w
 unfold World.sys
 generalize w.ask (Kernel.perform c w.os)=r at h
 obtain ⟨⟨r1,os⟩,w1⟩:=r
 cases r1<;>first|exact Nat.le_refl _|exact h
theorem viewStore_drawn {P:Program} {w w':World} {a:Addr} {u:TypeId} {k:Addr} {v:Value} {at_:Bool} {l:List Addr} (h:w.viewStore P a u k v at_=.ok (w',l)) : w'.drawn=w.drawn:=by
 unfold World.viewStore at h
 simp only [bind,Except.bind,pure,Except.pure,throw,throwThe,MonadExceptOf.throw] at h
 repeat' (split at h<;>try (cases h;done))
 all_goals (first|(cases h;rfl)|skip)
theorem farStore_drawn {P:Program} {w w':World} {a:Addr} {v:Value} {at_:Bool} {l:List Addr} (h:w.farStore P a v at_=.ok (w',l)) : w'.drawn=w.drawn:=by
 unfold World.farStore at h
 split at h
 ·split at h
  ·rename_i r hr
   obtain ⟨w1,l1⟩:=r
   cases h
   exact viewStore_drawn hr
  ·cases h
 ·cases h
theorem run_drawn {α:Type} {P:Program} (e:Sem α) : ∀w : World,w.drawn≤(resW (e.run P w)).drawn:=by
 induction e with
 | pure a=>intro w;exact Nat.le_refl _
 | load m a k ih =>
  intro w
  simp only [Sem.run]
  split
  ·exact ih _ w
  ·split
   ·exact ih _ w
   ·exact Nat.le_refl _
 | store m a v k ih =>
  intro w
  have main : w.drawn≤(resW (match w.cell? a with
    | some _=>if w.frozen? a then (Result.halt (.unsupported (.unsafePointer "a write to bytes that a string shares")) w) else k.run P (w.setCell a v)
    | none=>match w.farStore P a v (m == .atomic) with
     | .ok (w,_)=>k.run P w
     | .error h=>.halt h w)).drawn:=by
   split
   ·split
    ·exact Nat.le_refl _
    ·exact ih (w.setCell a v)
   ·split
    ·rename_i hf
     rw [←farStore_drawn hf]
     exact ih _
    ·exact Nat.le_refl _
  cases v<;>first|exact main|exact Nat.le_refl _
 | new o k ih=>intro w;exact ih _ { w with heap:=w.heap.push o }
 | shape r k ih=>intro w;exact ih _ w
 | freeze a n k ih =>
  intro w
  have : (w.freeze a n).drawn=w.drawn:=by unfold World.freeze;split<;>rfl
  rw [←this]
  exact ih _
 | frozen a k ih=>intro w;exact ih _ w
 | getObj r k ih =>
  intro w
  simp only [Sem.run]
  split
  ·exact Nat.le_refl _
  ·exact ih _ w
  ·exact Nat.le_refl _
 | setObj r o k ih =>
  intro w
  simp only [Sem.run]
  split
  ·exact Nat.le_refl _
  ·exact ih { w with heap:=w.heap.setIfInBounds r o }
  ·exact Nat.le_refl _
 | choose q k ih =>
  intro w
  simp only [Sem.run]
  split
  ·exact ih _ w
  ·exact Nat.le_trans (Nat.le_succ _) (ih _ { w with drawn:=w.drawn+1 })
 | sys c k ih=>intro w;exact Nat.le_trans (sys_drawn w c) (ih _ _)
 | program k ih=>intro w;exact ih _ w
 | mark m k ih=>intro w;exact ih w
 | halt h=>intro w;exact Nat.le_refl _
theorem run_ok_drawn {α:Type} {P:Program} {e:Sem α} {w w':World} {a:α} (h:e.run P w=.ok a w') : w.drawn≤w'.drawn:=by
 have:=run_drawn (P:=P) e w
 rwa [h] at this

def Vals {α:Type} [Enc α] (vals:List (List Value)) (xs:List α) (c:Cx) : Prop:=vals.length=xs.length∧∀(i:Nat) (cs:List Value) (x:α),vals[i]?=some cs→xs[i]?=some x→Enc.Ok cs x c
instance Vals.mono {α:Type} [Enc α] (vals:List (List Value)) (xs:List α) : Mono (Vals vals xs):=⟨fun h k=>⟨k.1,fun i cs x h1 h2=>Mono.mono h (k.2 i cs x h1 h2)⟩⟩
theorem Vals.nil {α:Type} [Enc α] (c:Cx) : Vals (α:=α) [] [] c:=⟨rfl,fun i cs x h _=>by simp at h⟩
theorem Vals.snoc {α:Type} [Enc α] {vals:List (List Value)} {xs:List α} {c:Cx} (h:Vals vals xs c) {cs:List Value} {x:α} (hx:Enc.Ok cs x c) : Vals (vals++[cs]) (xs++[x]) c:=by
 refine ⟨by simp [h.1],fun i cs' x' h1 h2=>?_⟩
 rcases Nat.lt_or_ge i vals.length with hl|hl
 ·rw [List.getElem?_append_left hl] at h1
  rw [List.getElem?_append_left (by rw [←h.1];exact hl)] at h2
  exact h.2 i cs' x' h1 h2
 ·have hi : i=vals.length:=by
   have:=(List.getElem?_eq_some_iff.1 h1).1
   simp at this
   omega
  subst hi
  rw [List.getElem?_append_right (Nat.le_refl _)] at h1
  rw [List.getElem?_append_right (by rw [h.1];exact Nat.le_refl _),h.1] at h2
  simp at h1 h2
  subst h1 h2
  exact hx
theorem Vals.append {α:Type} [Enc α] {vals vals':List (List Value)} {xs ys:List α} {c:Cx} (h:Vals vals xs c) (h':Vals vals' ys c) : Vals (vals++vals') (xs++ys) c:=by
 refine ⟨by simp [h.1,h'.1],fun i cs x h1 h2=>?_⟩
 rcases Nat.lt_or_ge i vals.length with hl|hl
 ·rw [List.getElem?_append_left hl] at h1
  rw [List.getElem?_append_left (by rw [←h.1];exact hl)] at h2
  exact h.2 i cs x h1 h2
 ·rw [List.getElem?_append_right hl] at h1
  rw [List.getElem?_append_right (by rw [←h.1];exact hl),←h.1] at h2
  exact h'.2 _ cs x h1 h2
theorem Vals.set {α:Type} [Enc α] {vals:List (List Value)} {xs:List α} {c:Cx} (h:Vals vals xs c) {cs:List Value} {x:α} (i:Nat) (hx:Enc.Ok cs x c) : Vals (vals.set i cs) (xs.set i x) c:=by
 refine ⟨by simp [h.1],fun j cs' x' h1 h2=>?_⟩
 by_cases hj : i=j
 ·subst hj
  have hl : i<vals.length:=by have:=(List.getElem?_eq_some_iff.1 h1).1;simpa using this
  rw [List.getElem?_set_self hl] at h1
  rw [List.getElem?_set_self (by rw [←h.1];exact hl)] at h2
  simp at h1 h2
  subst h1 h2
  exact hx
 ·rw [List.getElem?_set_ne hj] at h1 h2
  exact h.2 j cs' x' h1 h2
theorem Vals.one {α:Type} [Enc α] {vals:List (List Value)} {xs:List α} {c:Cx} (h:Vals vals xs c) : ∀u∈vals.flatten,u.oneCell'=true:=by
 intro u hu
 obtain ⟨cs,hcs,hu'⟩:=List.mem_flatten.1 hu
 obtain ⟨i,hi,rfl⟩:=List.mem_iff_getElem.1 hcs
 exact Enc.one vals[i] (xs[i]'(by rw [←h.1];exact hi)) c (h.2 i _ _ (List.getElem?_eq_getElem hi) (List.getElem?_eq_getElem _)) u hu'
theorem flatten_get {k:Nat} : ∀(vals:List (List Value)),(∀cs∈vals,cs.length=k)→∀i cs j,vals[i]?=some cs→j<k→vals.flatten[i*k+j]?=cs[j]?:=by
 intro vals
 induction vals with
 | nil=>intro _ i cs j h;simp at h
 | cons v vals ih =>
  intro hk i cs j h hj
  have hv : v.length=k:=hk v (List.mem_cons_self ..)
  cases i with
  | zero =>
   simp at h
   subst h
   rw [List.flatten_cons,Nat.zero_mul,Nat.zero_add,List.getElem?_append_left (by omega)]
  | succ i =>
   rw [List.flatten_cons,List.getElem?_append_right (by rw [hv,Nat.add_mul];omega)]
   rw [show (i+1)*k+j-v.length=i*k+j by rw [hv,Nat.add_mul];omega]
   exact ih (fun cs hcs=>hk cs (List.mem_cons_of_mem _ hcs)) i cs j (by simpa using h) hj
theorem flatten_len {k:Nat} : ∀(vals:List (List Value)),(∀cs∈vals,cs.length=k)→vals.flatten.length=vals.length*k:=by
 intro vals
 induction vals with
 | nil=>intro _;simp
 | cons v vals ih =>
  intro hk
  rw [List.flatten_cons,List.length_append,ih (fun cs hcs=>hk cs (List.mem_cons_of_mem _ hcs)),hk v (List.mem_cons_self ..),List.length_cons,Nat.add_mul]
  omega
theorem Vals.len {α:Type} [Enc α] {vals:List (List Value)} {xs:List α} {c:Cx} (h:Vals vals xs c) : ∀cs∈vals,cs.length=Enc.k α:=by
 intro cs hcs
 obtain ⟨i,hi,rfl⟩:=List.mem_iff_getElem.1 hcs
 exact Enc.len _ (xs[i]'(by rw [←h.1];exact hi)) c (h.2 i _ _ (List.getElem?_eq_getElem hi) (List.getElem?_eq_getElem _))
theorem Sl.vals {α:Type} [Enc α] {v:Value} {xs:List α} {c:Cx} (h:Sl v xs c) : ∃vals ad cap,Vals vals xs c∧v=.slice ad xs.length cap∧xs.length≤cap∧(xs≠[]→∃b o,ad=some ⟨b,o,none⟩∧∀j u,vals.flatten[j]?=some u→At ⟨b,o+j,none⟩ u c):=by
 obtain ⟨h0,ad,cap,hv,hc,hne⟩:=h
 by_cases he : xs=[]
 ·subst he
  exact ⟨[],ad,cap,Vals.nil c,hv,hc,fun h=>absurd rfl h⟩
 obtain ⟨b,o,ha,hel⟩:=hne he
 have hex : ∀i,∃cs,∀x,xs[i]?=some x→Enc.Ok cs x c∧∀j v,cs[j]?=some v→At ⟨b,o+i*Enc.k α+j,none⟩ v c:=by
  intro i
  cases hx : xs[i]? with
  | none=>exact ⟨[],fun x h=>by cases h⟩
  | some x =>
   obtain ⟨cs,h1,h2⟩:=hel i x hx
   exact ⟨cs,fun x' e=>by cases e;exact ⟨h1,h2⟩⟩
 obtain ⟨g,hg⟩:=Classical.axiomOfChoice hex
 have hvals : Vals ((List.range xs.length).map g) xs c:=by
  refine ⟨by simp,fun i cs x h1 h2=>?_⟩
  have hl : i<xs.length:=(List.getElem?_eq_some_iff.1 h2).1
  simp [hl] at h1
  subst h1
  exact (hg i x h2).1
 refine ⟨(List.range xs.length).map g,ad,cap,hvals,hv,hc,fun _=>⟨b,o,ha,fun j u hj=>?_⟩⟩
 have hlen:=hvals.len
 have hk:=Enc.pos (α:=α)
 have hjl : j<xs.length*Enc.k α:=by
  have:=(List.getElem?_eq_some_iff.1 hj).1
  rw [flatten_len _ hlen] at this
  simpa using this
 have hdiv : j / Enc.k α<xs.length:=Nat.div_lt_of_lt_mul (by rw [Nat.mul_comm];exact hjl)
 have hmod : j % Enc.k α<Enc.k α:=Nat.mod_lt _ hk
 have hdm : j / Enc.k α*Enc.k α+j % Enc.k α=j:=Nat.div_add_mod' j _
 have hf:=flatten_get _ hlen (j / Enc.k α) (g (j / Enc.k α)) (j % Enc.k α) (by simp [hdiv]) hmod
 rw [hdm,hj] at hf
 have:=(hg (j / Enc.k α) _ (List.getElem?_eq_getElem hdiv)).2 _ u hf.symm
 rwa [show o+j / Enc.k α*Enc.k α+j % Enc.k α=o+j by omega] at this

section
variable {P : Program} {ops : Array Oper} {Q : Exit → Act → World → Prop} {n : Nat} {f : Nat → Value} {rest : List Oper} {ty : TypeId} {ps : String} {af : Array Edge} {d : Tmp}
variable {c0 c : Cx} {L : List Res} {A : Cx → Prop}

/-! ### []T{x} -/
theorem run_bslice1 {T e:TypeId} {z:Value} {kk bb:Nat} {x:Operand} {cs:List Value} {w:World} [SlT P T e] [TyI P e z kk bb] (hx:(opd f x).cells=cs.toArray) (hk:cs.length=kk) (hz:z.cells.size=kk) (hk0:0<kk) (hkb:kk≤64) :
  (execOp (opd f) ⟨some d,.buildSlice T 1 #[(0,x)],ty,ps,af,none⟩).run P w=.ok (.value (.slice (some ⟨w.heap.size,0,none⟩) 1 1)) (w.alloc (.cells cs.toArray e (0,0))):=by
 obtain ⟨i,hi,hiz,his,_⟩:=TyI.h (P:=P) (e:=e)
 have hfill : Instr.fill (fun i=>some (i*kk,kk)) ((Array.range kk).map (z.cells[· % z.cells.size]!)) [(0,opd f x)]=some cs.toArray:=by
  unfold Instr.fill
  simp only [hx,Nat.zero_mul,Nat.zero_add,List.size_toArray,Array.size_map,Array.size_range,hk]
  rw [if_neg (by simp)]
  simp only [Instr.fill,Option.some.injEq]
  apply Array.ext'
  have hzip : ∀(l:List Value) (s:Nat) (A:Array Value),s+l.length≤A.size →
    ((l.zipIdx s).foldl (fun cs (p:Value×Nat)=>cs.setIfInBounds p.2 p.1) A).toList=A.toList.take s++l++A.toList.drop (s+l.length):=by
   intro l
   induction l with
   | nil=>intro s A _;simp
   | cons v l ih =>
    intro s A h
    simp only [List.length_cons] at h
    simp only [List.zipIdx_cons,List.foldl_cons]
    rw [ih (s+1) _ (by simp;omega)]
    have hs : (A.setIfInBounds s v).toList=A.toList.take s++v::A.toList.drop (s+1):=by
     rw [Array.toList_setIfInBounds,List.set_eq_take_append_cons_drop,if_pos (by simp;omega)]
    have hl' : (A.toList.take s).length=s:=by simp;omega
    have h1 : (A.setIfInBounds s v).toList.take (s+1)=A.toList.take s++[v]:=by
     rw [hs,List.take_append,hl',show s+1-s=1 by omega,List.take_of_length_le (by omega)]
     rfl
    have h2 : (A.setIfInBounds s v).toList.drop (s+1+l.length)=A.toList.drop (s+(l.length+1)):=by
     rw [hs,List.drop_append,hl',List.drop_eq_nil_of_le (by omega),show s+1+l.length-s=l.length+1 by omega,List.nil_append,List.drop_succ_cons,List.drop_drop]
     congr 1
     omega
    rw [h1,h2,List.length_cons]
    simp
  have h:=hzip cs 0 ((Array.range kk).map (z.cells[· % z.cells.size]!)) (by simp [hk])
  have e1 : cs.toArray.zipIdx=(cs.zipIdx 0).toArray:=by simp
  rw [e1]
  simp only [List.foldl_toArray]
  rw [h]
  simp [hk]
 simp [execOp,Instr.buildSlice,run_underlying (SlT.h (P:=P) (T:=T)),sizeOf,typeInfo,hi,his,zeroValue,hiz,show ¬(16777216<kk) by omega,show kk≠0 by omega,hfill,newRow]
theorem s_bs1 {T e:TypeId} {z:Value} {kk bb:Nat} {x:Operand} {cs:List Value} (hn:Nat.blt d n=true) [SlT P T e] [TyI P e z kk bb] (hx:(opd f x).cells=cs.toArray) (hk:cs.length=kk) (hz:z.cells.size=kk) (hk0:Nat.blt 0 kk=true) (hkb:Nat.ble kk 64=true)
  (H:Owns c0 L c) (HA:Hd A c) [Mono A] (k:∀b c',Owns c0 L c'→Hd (fun c=>Box b cs c∧A c) c'→W P ops Q rest n (upd f d (.slice (some ⟨b,0,none⟩) 1 1)) c'.w) : W P ops Q (⟨some d,.buildSlice T 1 #[(0,x)],ty,ps,af,none⟩::rest) n f c.w :=
 st_val hn (run_bslice1 hx hk hz (Nat.blt_eq▸hk0) (Nat.le_of_ble_eq_true hkb)) (k c.w.heap.size ⟨c.w.alloc (.cells cs.toArray e (0,0)),c.M⟩ (H.of_ext (Ext0.alloc _ _)) ⟨⟨Box.fresh H.mbd,Mono.mono (Le.of_ext (Ext0.alloc _ _)) HA.h⟩⟩)

/-! ### append -/
theorem Owns.nilRow (H:Owns c0 L c) (e:TypeId) (k:Nat) : Owns c0 (.row (.slice none 0 0) e k 0 []::L) c :=
 ⟨H.ext,H.keep,H.mbd,fun r hr=>by
  rcases List.mem_cons.1 hr with rfl|hr
  ·exact ⟨World.ownsRow_nil _ _ _ _,fun b hb=>by simp [Res.blk,Value.ownBlock] at hb⟩
  ·exact H.res r hr,List.pairwise_cons.2 ⟨fun r hr b hb=>by simp [Res.blk,Value.ownBlock] at hb,H.dis⟩⟩
theorem Owns.appended {e:TypeId} {kk m:Nat} {v v':Value} {xs ys:List Value} {w':World} {m':Nat} (H:Owns c0 (.row v e kk m xs::L) c) (hd:c.w.drawn≤w'.drawn) (h1:w'.ownsRow 0 e kk v' m' ys) (hg:c.w.grownBy w' v.ownBlock)
  (hb:∀b,v'.ownBlock=some b→v.ownBlock=some b∨c.w.heap.size≤b) : ∃M',Le c ⟨w',M'⟩∧Owns c0 (.row v' e kk m' ys::L) ⟨w',M'⟩ :=
 ⟨_,H.turn (r':=.row v' e kk m' ys) hg.os hg.tape hg.output hd hg.size (fun b hb' hne=>hg.block b hb' (fun e=>hne e.symm)) h1 hb⟩
theorem run_append_own2 {T e:TypeId} {z:Value} {kk bb:Nat} {w:World} {v:Value} {m:Nat} {xs:List Value} [SlT P T e] [TyI P e z kk bb] (hz:z.cells.size=kk) (hk0:0<kk) (hbb:bb≤128) (hown:w.ownsRow 0 e kk v m xs)
  {x:Value} {m2:Nat} {news:List Value} (hs:(∃ad cp,x=.slice (some ad) m2 cp∧∀j u,news[j]?=some u→w.cell? (ad.add j)=some u)∨(∃cp,x=.slice none 0 cp∧m2=0∧news=[])) (hl:news.length=m2*kk) (h1:∀u∈news,u.oneCell'=true) (hlim:m+m2<LIM) (tt:TypeId) :
  ∃v' w',(Builtin.append_ #[T,T] tt #[v,x]).run P w=.ok v' w'∧w'.ownsRow 0 e kk v' (m+m2) (xs++news)∧w.grownBy w' v.ownBlock∧(∀b,v'.ownBlock=some b→v.ownBlock=some b∨w.heap.size≤b):=by
 obtain ⟨i,hi,hiz,his,hib⟩:=TyI.h (P:=P) (e:=e)
 have hblk : ∀{v':Value} {w':World},w.grownBy w' v.ownBlock→w'.ownsRow 0 e kk v' (m+m2) (xs++news)→(∀b,v'.ownBlock=some b→v.ownBlock=some b∨w.heap.size≤b)→True:=fun _ _ _=>trivial
 rcases hs with ⟨ad,cp,rfl,hcell⟩|⟨cp,rfl,rfl,rfl⟩
 ·
  have hbytes : (m+m2)*bb≤140737488355328:=Nat.le_trans (Nat.mul_le_mul (Nat.le_of_lt hlim) hbb) (by unfold LIM;omega)
  have h63 : m+m2≤maxLen:=by unfold LIM at hlim;simp only [maxLen];omega
  obtain ⟨v',w',hr,ho,hg,_⟩:=run_append_own (P:=P) w 0 T tt e i z kk bb (SlT.h (P:=P)) hi hiz his hib hz hk0 v m xs hown ad m2 cp news hl hcell h1 h63 hbytes (Nat.zero_le _)
  refine ⟨v',w',hr,ho,hg,fun b hb=>?_⟩
  rcases Nat.lt_or_ge b w.heap.size with hlt|hge
  ·left
      -- an old block: only the row itself may be handed back
   rcases hown.2 with ⟨rfl,rfl⟩|⟨g,cap,cur,rfl,_,hh,hnc,hcm,hcs,_⟩
   ·by_cases hm2 : m2=0
    ·subst hm2
     have : (Builtin.append_ #[T,T] tt #[.slice none 0 0,.slice (some ad) 0 cp]).run P w=.ok (.slice none 0 0) w:=by
      simp [Builtin.append_,run_underlying (SlT.h (P:=P) (T:=T)),sizeOf,typeInfo,hi,Builtin.lenOf,Builtin.firstCells,loadCells,loadCellsFrom]
     rw [this] at hr
     cases hr
     simp [Value.ownBlock] at hb
    ·have hnil:=run_append_nil (P:=P) w T tt e i z (SlT.h (P:=P)) hi hiz ad m2 cp news (by rw [his];exact hl) hcell (by omega) (by unfold LIM at hlim;omega) (by rw [hib];have h2:=hbytes;rw [Nat.zero_add] at h2;omega)
     rw [hnil] at hr
     cases hr
     simp [Value.ownBlock] at hb
     omega
   ·by_cases hroom : m+m2≤cap
    ·have hfit : m*kk+news.length≤cur.size:=by rw [hl,hcs,←Nat.add_mul];exact Nat.mul_le_mul_right _ hroom
     have hrm:=run_append_room (P:=P) w T tt e i (SlT.h (P:=P)) hi g m cap cur hh ad m2 cp news (by rw [his];exact hl) hcell h1 hroom (by rw [his];exact hfit)
     rw [hrm] at hr
     cases hr
     exact hb
    ·have holds : ∀j u,xs[j]?=some u→w.cell? ((⟨g,0,none⟩:Addr).add j)=some u:=hown.cells (g:=g) rfl
     have hgw:=run_append_grow (P:=P) w T tt e i z (SlT.h (P:=P)) hi hiz ⟨g,0,none⟩ m cap xs (by rw [his];exact hown.1) holds ad m2 cp news (by rw [his];exact hl) hcell (by omega) (by unfold LIM at hlim;omega) (by rw [hib];exact growslice_fits (by omega) hbytes)
     rw [hgw] at hr
     cases hr
     simp [Value.ownBlock] at hb
     omega
  ·exact .inr hge
 ·refine ⟨v,w,?_,by simpa using hown,⟨rfl,rfl,rfl,Nat.le_refl _,fun _ _ _=>rfl⟩,fun b hb=>.inl hb⟩
  have hs : Src P i.size T (.slice none 0 cp) 0 [] w:=Src.ofNil w (SlT.h (P:=P)) cp
  rcases hown.2 with ⟨rfl,rfl⟩|⟨g,cap,cur,rfl,_,hh,hnc,_⟩
  ·exact run_append_nothing w T T tt e i (SlT.h (P:=P)) hi none 0 0 (Nat.le_refl _) _ hs
  ·exact run_append_nothing w T T tt e i (SlT.h (P:=P)) hi _ m cap hnc _ hs
theorem s_appL {α:Type} {iE:Enc α} {T e:TypeId} {z:Value} {kk bb m:Nat} {x y:Operand} {v v2:Value} {ys:List α} {vals:List (List Value)} (hn:Nat.blt d n=true) [SlT P T e] [TyI P e z kk bb] (hx:opd f x=v) (hy:opd f y=v2)
  (HS:Sl v2 ys c) (hk:Enc.k α=kk) (hz:z.cells.size=kk) (hbb:Nat.ble bb 128=true) (hlim:m+ys.length<LIM)
  (H:Owns c0 (.row v e kk m vals.flatten::L) c) (HA:Hd A c) [Mono A] (k:∀v' c' vals',Vals vals' ys c'→Owns c0 (.row v' e kk (m+ys.length) (vals++vals').flatten::L) c'→Hd A c'→W P ops Q rest n (upd f d v') c'.w) :
  W P ops Q (⟨some d,.call ⟨.builtin .append,#[x,y],#[T,T]⟩,ty,ps,af,none⟩::rest) n f c.w:=by
 have hown:=(H.res _ (List.mem_cons_self ..)).1
 obtain ⟨vals',ad,cap,hvals,hv2,hcap,hcell⟩:=HS.vals
 have hlen:=flatten_len _ hvals.len
 obtain ⟨v',w',hr,ho,hg,hb⟩:=run_append_own2 (P:=P) (T:=T) (x:=v2) (m2:=ys.length) (news:=vals'.flatten) hz (by rw [←hk];exact Enc.pos) (Nat.le_of_ble_eq_true hbb) hown (by
  by_cases hne : ys=[]
  ·subst hne
   have hvn : vals'=[]:=List.eq_nil_of_length_eq_zero hvals.1
   subst hvn
   cases ad with
   | none=>exact .inr ⟨cap,hv2,rfl,rfl⟩
   | some a=>exact .inl ⟨a,cap,hv2,fun j u hu=>by simp at hu⟩
  ·obtain ⟨b,o,ha,hc⟩:=hcell hne
   subst ha
   exact .inl ⟨_,cap,hv2,fun j u hu=>by rw [Addr.add_lit];exact (hc j u hu).1⟩) (by rw [hlen,hvals.1,hk]) hvals.one hlim ty
 obtain ⟨M',hle,hO⟩:=H.appended (run_ok_drawn hr) ho hg hb
 refine st_val hn (w':=w') ?_ (k v' ⟨w',M'⟩ vals' (Mono.mono hle hvals) (by simpa using hO) (HA.to hle))
 simp [execOp,resolve,invoke,builtin,hx,hy,hr]
theorem Owns.freezeRow {α:Type} [Enc α] {e:TypeId} {kk m:Nat} {v:Value} {vals:List (List Value)} {xs:List α} (H:Owns c0 (.row v e kk m vals.flatten::L) c) (hv:Vals vals xs c) (hm:m=xs.length) (hk:Enc.k α=kk) (hlim:m<LIM) :
  Le c ⟨c.w,fun x=>c.M x∧(Res.row v e kk m vals.flatten).blk≠some x⟩∧Owns c0 L ⟨c.w,fun x=>c.M x∧(Res.row v e kk m vals.flatten).blk≠some x⟩∧Sl v xs ⟨c.w,fun x=>c.M x∧(Res.row v e kk m vals.flatten).blk≠some x⟩:=by
 have h:=H.freeze
 refine ⟨h.1,h.2,?_⟩
 subst hm hk
 have hown : c.w.ownsRow 0 e (Enc.k α) v xs.length vals.flatten:=(H.res _ (List.mem_cons_self ..)).1
 rcases hown.2 with ⟨rfl,h0⟩|⟨g,cap,cur,rfl,_,hh,hnc,_,hcs,htk⟩
 ·have : xs=[]:=List.eq_nil_of_length_eq_zero h0
  subst this
  exact Sl.nil _
 ·refine ⟨hlim,some ⟨g,0,none⟩,cap,rfl,hnc,fun _=>⟨g,0,rfl,fun i x hx=>?_⟩⟩
  have hil : i<xs.length:=(List.getElem?_eq_some_iff.1 hx).1
  have hvi : vals[i]?=some (vals[i]'(by rw [hv.1];exact hil)):=List.getElem?_eq_getElem _
  refine ⟨_,Mono.mono h.1 (hv.2 i _ x hvi hx),fun j u hu=>?_⟩
  have hj : j<Enc.k α:=by
   have:=(List.getElem?_eq_some_iff.1 hu).1
   rwa [hv.len _ (List.mem_of_getElem? hvi)] at this
  have hf:=flatten_get vals hv.len i _ j hvi hj
  refine ⟨?_,fun h2=>h2.2 (by simp [Res.blk,Value.ownBlock])⟩
  have hcell:=World.ownsRow.cells hown (g:=g) rfl (i*Enc.k α+j) u (by rw [hf];exact hu)
  rw [Addr.add_lit] at hcell
  show c.w.cell? _=some u
  rw [show 0+i*Enc.k α+j=0+(i*Enc.k α+j) by omega]
  exact hcell
theorem w_freezeRow {α:Type} [Enc α] {l:List Oper} {e:TypeId} {kk m:Nat} {v:Value} {vals:List (List Value)} {xs:List α} (H:Owns c0 (.row v e kk m vals.flatten::L) c) (HA:Hd A c) [Mono A] (hv:Vals vals xs c) (hm:m=xs.length) (hk:Enc.k α=kk) (hlim:m<LIM)
  (k:∀c',Owns c0 L c'→Hd (fun c=>Sl v xs c∧A c) c'→W P ops Q l n f c'.w) : W P ops Q l n f c.w :=
 have h:=H.freezeRow hv hm hk hlim
 k ⟨c.w,fun x=>c.M x∧(Res.row v e kk m vals.flatten).blk≠some x⟩ h.2.1 ⟨⟨h.2.2,Mono.mono h.1 HA.h⟩⟩
theorem wc_freezeRow {α:Type} [Enc α] {x:Code} {e:TypeId} {kk m:Nat} {v:Value} {vals:List (List Value)} {xs:List α} (H:Owns c0 (.row v e kk m vals.flatten::L) c) (HA:Hd A c) [Mono A] (hv:Vals vals xs c) (hm:m=xs.length) (hk:Enc.k α=kk) (hlim:m<LIM)
  (k:∀c',Owns c0 L c'→Hd (fun c=>Sl v xs c∧A c) c'→WC P x Q n f c'.w) : WC P x Q n f c.w :=
 have h:=H.freezeRow hv hm hk hlim
 k ⟨c.w,fun x=>c.M x∧(Res.row v e kk m vals.flatten).blk≠some x⟩ h.2.1 ⟨⟨h.2.2,Mono.mono h.1 HA.h⟩⟩
end

def enumV : Nat→List Value→List (Nat×Value)
 | _,[]=>[]
 | i,v::vs=>(i,v)::enumV (i+1) vs
theorem zip_fold : ∀(l:List Value) (s:Nat) (A:Array Value),s+l.length≤A.size →
  ((l.zipIdx s).foldl (fun cs (p:Value×Nat)=>cs.setIfInBounds p.2 p.1) A).toList=A.toList.take s++l++A.toList.drop (s+l.length):=by
 intro l
 induction l with
 | nil=>intro s A _;simp
 | cons v l ih =>
  intro s A h
  simp only [List.length_cons] at h
  simp only [List.zipIdx_cons,List.foldl_cons]
  rw [ih (s+1) _ (by simp;omega)]
  have hs : (A.setIfInBounds s v).toList=A.toList.take s++v::A.toList.drop (s+1):=by
   rw [Array.toList_setIfInBounds,List.set_eq_take_append_cons_drop,if_pos (by simp;omega)]
  have hl' : (A.toList.take s).length=s:=by simp;omega
  have h1 : (A.setIfInBounds s v).toList.take (s+1)=A.toList.take s++[v]:=by
   rw [hs,List.take_append,hl',show s+1-s=1 by omega,List.take_of_length_le (by omega)]
   rfl
  have h2 : (A.setIfInBounds s v).toList.drop (s+1+l.length)=A.toList.drop (s+(l.length+1)):=by
   rw [hs,List.drop_append,hl',List.drop_eq_nil_of_le (by omega),show s+1+l.length-s=l.length+1 by omega,List.nil_append,List.drop_succ_cons,List.drop_drop]
   congr 1
   omega
  rw [h1,h2,List.length_cons]
  simp
theorem shift_fold (l:List Value) (off:Nat) : ∀(s:Nat) (A:Array Value),(l.zipIdx s).foldl (fun cs (p:Value×Nat)=>cs.setIfInBounds (off+p.2) p.1) A=(l.zipIdx (off+s)).foldl (fun cs (p:Value×Nat)=>cs.setIfInBounds p.2 p.1) A:=by
 induction l with
 | nil=>intro s A;rfl
 | cons v l ih=>intro s A;simp only [List.zipIdx_cons,List.foldl_cons];rw [ih (s+1)];rfl
theorem fill_run {place:Nat→Option (Nat×Nat)} : ∀(vs:List Value) (i:Nat) (A:Array Value) (offs:Nat→Nat),(∀j v,vs[j]?=some v→place (i+j)=some (offs j,v.cells.size))→(∀j v,vs[j]?=some v→offs (j+1)=offs j+v.cells.size)→offs vs.length≤A.size→offs 0≤A.size →
  Instr.fill place A (enumV i vs)=some (A.toList.take (offs 0)++vs.flatMap (fun v=>v.cells.toList)++A.toList.drop (offs vs.length)).toArray:=by
 intro vs
 induction vs with
 | nil =>
  intro i A offs _ _ _ _
  simp [enumV,Instr.fill]
 | cons v vs ih =>
  intro i A offs hp ho hA h0
  have hp0:=hp 0 v rfl
  rw [Nat.add_zero] at hp0
  have ho1:=ho 0 v rfl
  have hmono : ∀k,k≤vs.length→offs 1≤offs (1+k):=by
   intro k
   induction k with
   | zero=>intro _;exact Nat.le_refl _
   | succ k ihk =>
    intro hk
    have:=ihk (by omega)
    have h2:=ho (k+1) (vs[k]'(by omega)) (by rw [List.getElem?_cons_succ];exact List.getElem?_eq_getElem _)
    rw [show 1+(k+1)=k+1+1 by omega,h2,show k+1=1+k by omega]
    omega
  have hle : offs 0+v.cells.size≤A.size:=by
   have:=hmono vs.length (Nat.le_refl _)
   rw [show 1+vs.length=(v::vs).length by simp;omega] at this
   rw [Nat.zero_add] at ho1
   omega
  simp only [enumV,Instr.fill,hp0]
  rw [if_neg (by simp;omega)]
  have e1 : v.cells.zipIdx=(v.cells.toList.zipIdx 0).toArray:=Array.ext' (Array.toList_zipIdx)
  rw [e1]
  simp only [List.foldl_toArray]
  rw [shift_fold]
  simp only [Nat.add_zero]
  have hz:=zip_fold v.cells.toList (offs 0) A (by simpa using hle)
  generalize hB : List.foldl (fun cs (p:Value×Nat)=>cs.setIfInBounds p.2 p.1) A (v.cells.toList.zipIdx (offs 0))=B at *
  have hBs : B.size=A.size:=by
   have:=congrArg List.length hz
   simp at this
   omega
  simp only [Nat.zero_add] at ho1
  rw [ih (i+1) B (fun j=>offs (j+1)) (fun j u hu=>by rw [show i+1+j=i+(j+1) by omega];exact hp (j+1) u (by simpa using hu)) (fun j u hu=>ho (j+1) u (by simpa using hu)) (by rw [hBs];exact hA) (by rw [hBs];show offs (0+1)≤A.size;rw [Nat.zero_add];omega)]
  simp only [Nat.zero_add,List.flatMap_cons,List.length_cons]
  have hlt : (A.toList.take (offs 0)++v.cells.toList).length=offs 1:=by simp;omega
  have hoff : offs 1≤offs (vs.length+1):=by have:=hmono vs.length (Nat.le_refl _);rwa [Nat.add_comm 1] at this
  rw [hz]
  rw [List.take_append_of_le_length (by omega),List.take_of_length_le (by omega)]
  have hd : (A.toList.take (offs 0)++v.cells.toList++A.toList.drop (offs 0+v.cells.toList.length)).drop (offs (vs.length+1))=A.toList.drop (offs (vs.length+1)):=by
   rw [List.drop_append,hlt,List.drop_eq_nil_of_le (by omega),List.nil_append,List.drop_drop]
   congr 1
   simp
   omega
  rw [hd]
  simp [List.append_assoc]

section
variable {P : Program} {ops : Array Oper} {Q : Exit → Act → World → Prop} {n : Nat} {f : Nat → Value} {rest : List Oper} {ty : TypeId} {ps : String} {af : Array Edge} {d : Tmp}
variable {c0 c : Cx} {L : List Res} {A : Cx → Prop}
theorem s_bsl {T e len:Nat} {z:Value} {kk bb:Nat} {xs:Array (Nat×Operand)} {vs cs:List Value} (hn:Nat.blt d n=true) [SlT P T e] [TyI P e z kk bb] (hx:xs.toList.map (fun p=>(p.1,opd f p.2))=enumV 0 vs) (hl:vs.length=len) (hk:∀v∈vs,v.cells.size=kk) (hz:z.cells.size=kk)
  (hcs:vs.flatMap (fun v=>v.cells.toList)=cs) (hkb:Nat.ble (len*kk) 4096=true) (hkp:Nat.blt 0 (len*kk)=true) (H:Owns c0 L c) (HA:Hd A c) [Mono A] (k:∀b c',Owns c0 L c'→Hd (fun c=>Box b cs c∧A c) c'→W P ops Q rest n (upd f d (.slice (some ⟨b,0,none⟩) len len)) c'.w) :
  W P ops Q (⟨some d,.buildSlice T len xs,ty,ps,af,none⟩::rest) n f c.w:=by
 obtain ⟨i,hi,hiz,his,_⟩:=TyI.h (P:=P) (e:=e)
 have hkl:=Nat.le_of_ble_eq_true hkb
 have hcl : cs.length=len*kk:=by
  subst hcs hl
  clear hx hkb hkl k hkp
  induction vs with
  | nil=>simp
  | cons v vs ih =>
   rw [List.flatMap_cons,List.length_append,ih (fun u hu=>hk u (List.mem_cons_of_mem _ hu)),List.length_cons,Nat.add_mul]
   have:=hk v (List.mem_cons_self ..)
   simp;omega
 have hfill : Instr.fill (fun i=>some (i*kk,kk)) ((Array.range (len*kk)).map ((if len*kk=0 then #[] else z.cells)[· % (if len*kk=0 then #[] else z.cells).size]!)) (enumV 0 vs)=some cs.toArray:=by
  rw [fill_run vs 0 _ (fun j=>j*kk) (fun j v hv=>by rw [Nat.zero_add,hk v (List.mem_of_getElem? hv)]) (fun j v hv=>by rw [Nat.add_mul,hk v (List.mem_of_getElem? hv)];omega) (by simp [hl]) (by simp)]
  simp only [Nat.zero_mul,List.take_zero,List.nil_append,hcs,hl]
  rw [List.drop_eq_nil_of_le (by simp),List.append_nil]
 have hmap : xs.map (fun p=>(p.1,opd f p.2))=(enumV 0 vs).toArray:=by
  apply Array.ext'
  simpa using hx
 refine st_val hn (w':=c.w.alloc (.cells cs.toArray e (0,0))) ?_ (k c.w.heap.size ⟨c.w.alloc (.cells cs.toArray e (0,0)),c.M⟩ (H.of_ext (Ext0.alloc _ _)) ⟨⟨Box.fresh H.mbd,Mono.mono (Le.of_ext (Ext0.alloc _ _)) HA.h⟩⟩)
 have h0 : ¬len*kk=0:=by rw [Nat.blt_eq] at hkp;omega
 simp only [h0,if_false] at hfill
 have hl0 : len≠0:=fun e=>h0 (by rw [e,Nat.zero_mul])
 have hk0 : kk≠0:=fun e=>h0 (by rw [e,Nat.mul_zero])
 simp [execOp,Instr.buildSlice,run_underlying (SlT.h (P:=P) (T:=T)),sizeOf,typeInfo,hi,his,zeroValue,hiz,hmap,newRow,hfill,show ¬(16777216<len*kk) by omega]
 intro h;omega
class Bld (P:Program) (T:TypeId) (z:outParam Value) (pl:outParam (List (Nat×Nat))) : Prop where
 zr : ∀w,(zeroValue T).run P w=.ok z w
 h : ∀(parts:List (Nat×Value)) (cells:Array Value) (w:World),Instr.fill (fun i=>pl.toArray[i]?) z.cells parts=some cells→(Instr.build T parts.toArray).run P w=.ok (.agg cells) w
inductive App : List Value→List Value→List Value→Prop where
 | nil {b:List Value} : App [] b b
 | cons {x:Value} {a b c:List Value} : App a b c→App (x::a) b (x::c)
theorem App.eq {a b c:List Value} (h:App a b c) : c=a++b:=by
 induction h with
 | nil=>rfl
 | cons _ ih=>rw [ih];rfl
def Cells (v:Value) (cs:List Value) : Prop:=v.cells=cs.toArray
theorem Cells.lit {v:Value} {cs:List Value} (h:v.cells=cs.toArray) : Cells v cs:=h
theorem Cells.sl {α:Type} [Enc α] {v:Value} {xs:List α} (h:Sl v xs c) : Cells v [v]:=by
 obtain ⟨_,_,_,rfl,_⟩:=h
 rfl
inductive Fil : List (List Value)→Nat→List (Nat×Value)→List Value→Prop where
 | nil {i:Nat} : Fil [] i [] []
 | take {z cs:List Value} {zs:List (List Value)} {i:Nat} {v:Value} {ps:List (Nat×Value)} {out out':List Value} : Fil zs (i+1) ps out→Cells v cs→cs.length=z.length→App cs out out'→Fil (z::zs) i ((i,v)::ps) out'
 | skip {z:List Value} {zs:List (List Value)} {i:Nat} {ps:List (Nat×Value)} {out out':List Value} : Fil zs (i+1) ps out→App z out out'→Fil (z::zs) i ps out'
def offsZ : List (List Value)→Nat→List (Nat×Nat)
 | [],_=>[]
 | z::zs,o=>(o,z.length)::offsZ zs (o+z.length)
theorem fil_run {zs:List (List Value)} {i:Nat} {ps:List (Nat×Value)} {out:List Value} (h:Fil zs i ps out) : ∀(place:Nat→Option (Nat×Nat)) (off:Nat) (B:Array Value),(∀j,j<zs.length→place (i+j)=(offsZ zs off)[j]?)→B.toList.drop off=zs.flatten→off≤B.size →
  Instr.fill place B ps=some (B.toList.take off++out).toArray:=by
 induction h with
 | nil =>
  intro place off B _ hd hB
  have : B.toList.length≤off:=by
   have:=congrArg List.length hd
   simp at this
   simp
   omega
  simp only [Instr.fill,List.append_nil,List.take_of_length_le this]
 | @take z cs zs i v ps out out' hf hc hl ha ih =>
  intro place off B hp hd hB
  have hp0:=hp 0 (by simp)
  simp only [Nat.add_zero,offsZ,List.getElem?_cons_zero] at hp0
  have hc' : v.cells=cs.toArray:=hc
  rw [List.flatten_cons] at hd
  have hlen : off+z.length≤B.size:=by
   have:=congrArg List.length hd
   simp at this
   omega
  simp only [Instr.fill,hp0,hc']
  rw [if_neg (by simp;omega)]
  have e1 : cs.toArray.zipIdx=(cs.zipIdx 0).toArray:=Array.ext' (Array.toList_zipIdx)
  rw [e1]
  simp only [List.foldl_toArray]
  rw [shift_fold]
  simp only [Nat.add_zero]
  have hz:=zip_fold cs off B (by omega)
  generalize hC : List.foldl (fun cs (p:Value×Nat)=>cs.setIfInBounds p.2 p.1) B (cs.zipIdx off)=C at *
  have hCs : C.size=B.size:=by
   have:=congrArg List.length hz
   simp at this
   omega
  have ht : (B.toList.take off++cs).length=off+z.length:=by simp;omega
  have hdrop : C.toList.drop (off+z.length)=zs.flatten:=by
   rw [hz,List.drop_append,ht,List.drop_eq_nil_of_le (by omega),List.nil_append,Nat.sub_self,List.drop_zero,hl]
   have h3:=congrArg (List.drop z.length) hd
   rw [List.drop_drop,List.drop_append,List.drop_eq_nil_of_le (Nat.le_refl _),Nat.sub_self] at h3
   simpa using h3
  have htk : C.toList.take (off+z.length)=B.toList.take off++cs:=by
   rw [hz,List.take_append_of_le_length (by omega),List.take_of_length_le (by omega)]
  rw [ih place (off+z.length) C (fun j hj=>by
   have:=hp (j+1) (by simpa using hj)
   rw [show i+1+j=i+(j+1) by omega,this]
   simp [offsZ]) hdrop (by omega),htk,ha.eq,List.append_assoc]
 | @skip z zs i ps out out' hf ha ih =>
  intro place off B hp hd hB
  rw [List.flatten_cons] at hd
  have hlen : off+z.length≤B.size:=by
   have:=congrArg List.length hd
   simp at this
   omega
  have hdrop : B.toList.drop (off+z.length)=zs.flatten:=by
   have h3:=congrArg (List.drop z.length) hd
   rw [List.drop_drop,List.drop_append,List.drop_eq_nil_of_le (Nat.le_refl _),Nat.sub_self] at h3
   simpa using h3
  have htk : B.toList.take (off+z.length)=B.toList.take off++z:=by
   rw [List.take_add,hd,List.take_append_of_le_length (Nat.le_refl _),List.take_of_length_le (Nat.le_refl _)]
  rw [ih place (off+z.length) B (fun j hj=>by
   have:=hp (j+1) (by simpa using hj)
   rw [show i+1+j=i+(j+1) by omega,this]
   simp [offsZ]) hdrop hlen,htk,ha.eq,List.append_assoc]
class BldZ (P:Program) (T:TypeId) (zs:outParam (List (List Value))) : Prop where
 h : Bld P T (.agg zs.flatten.toArray) (offsZ zs 0)
theorem s_build {T:TypeId} {zs:List (List Value)} {xs:Array (Nat×Operand)} {ps':List (Nat×Value)} {cs:List Value} (hn:Nat.blt d n=true) [BldZ P T zs] (hx:xs.toList.map (fun p=>(p.1,opd f p.2))=ps') (hf:Fil zs 0 ps' cs) {w:World}
  (k:W P ops Q rest n (upd f d (.agg cs.toArray)) w) : W P ops Q (⟨some d,.build T xs,ty,ps,af,none⟩::rest) n f w:=by
 have hmap : xs.map (fun p=>(p.1,opd f p.2))=ps'.toArray:=by
  apply Array.ext'
  simpa using hx
 have hB:=BldZ.h (P:=P) (T:=T)
 refine st_val hn (w':=w) ?_ k
 have hr:=fil_run hf (fun i=>(offsZ zs 0).toArray[i]?) 0 zs.flatten.toArray (fun j hj=>by simp) (by simp) (Nat.zero_le _)
 simp only [List.take_zero,List.nil_append] at hr
 simp [execOp,hmap,hB.h ps' cs.toArray w hr]
end

def KS (f:Nat→Value) : List (Nat×Value)→Prop
 | []=>True
 | (a,v)::l=>f a=v∧KS f l
def updA (g:Nat→Value) : List (Nat×Value)→Nat→Value
 | []=>g
 | (a,v)::l=>upd (updA g l) a v
theorem upd_eta (g:Nat→Value) (d:Nat) : upd g d (g d)=g:=by
 funext t
 by_cases h : t=d
 ·subst h;exact upd_same g t _
 ·exact upd_ne g _ h
theorem KS.eq {f:Nat→Value} : ∀{l:List (Nat×Value)},KS f l→f=updA f l
 | [],_=>rfl
 | (a,v)::l,⟨h,k⟩=>by
  show f=upd (updA f l) a v
  rw [←KS.eq k,←h,upd_eta]
theorem KS.ex {f:Nat→Value} {l:List (Nat×Value)} (h:KS f l) : ∃g,f=updA g l:=⟨f,h.eq⟩
theorem ks_nil {f:Nat→Value} : KS f []:=trivial
theorem ks_cons {f:Nat→Value} {a:Nat} {v:Value} {l:List (Nat×Value)} (h:f a=v) (k:KS f l) : KS f ((a,v)::l):=⟨h,k⟩
theorem getq {α:Type} {xs:List α} {k:Nat} (h:k<xs.length) : ∃u,xs[k]?=some u:=⟨_,List.getElem?_eq_getElem h⟩
theorem wrapI {x:Int} (h:-9223372036854775808≤x) (h':x<9223372036854775808) : IntKind.i64.wrap x=x:=by
 unfold IntKind.wrap
 simp only [IntKind.bits,IntKind.signed]
 simp
 split<;>omega
theorem wrapK {k:Nat} (h:k<4611686018427387904) : IntKind.i64.wrap ((k:Int)+1)=((k+1:Nat):Int):=by
 rw [wrapI (by omega) (by omega)]
 omega
theorem wrapP {k:Nat} (h:0<k) (h':k<4611686018427387904) : IntKind.i64.wrap ((k:Int)-1)=((k-1:Nat):Int):=by
 rw [wrapI (by omega) (by omega)]
 omega
theorem Sl.lim {α:Type} [Enc α] {v:Value} {xs:List α} {c:Cx} (h:Sl v xs c) : xs.length<1099511627776:=h.1

def stepS (c:Cx) (b:Bool) (d:Nat) (s:Sp) (f:Nat→Value) (K:(Nat→Value)→Prop) : Prop :=
 match s with
 | .val v=>K (upd f d v)
 | .rel S=>∀v,bif b then (S v c→K (upd f d v)) else K (upd f d v)
 | .own _=>∀b,K (upd f d (.pointer (some ⟨b,0,none⟩)))
 | .row ..=>∀v,K (upd f d v)
 | .effG _ _ _ S=>∀v,bif b then (S v c→K (upd f d v)) else K (upd f d v)
 | .turn _ _ S=>∀v,bif b then (S v c→K (upd f d v)) else K (upd f d v)
def FR (c:Cx) (dep:Nat→Bool) : List (Nat×Sp)→(Nat→Value)→((Nat→Value)→Prop)→Prop
 | [],f,K=>K f
 | (d,s)::l,f,K=>FR c dep l f fun f=>stepS c (dep l.length) d s f K
theorem FA.snoc {c:Cx} {dep:Nat→Bool} {d:Nat} {s:Sp} {K:(Nat→Value)→Prop} : ∀(ds:List Nat) (ss:List Sp) (i:Nat) (f:Nat→Value),ds.length=ss.length →
  FA c dep ds ss i f (fun f=>stepS c (dep (i+ds.length)) d s f K)→FA c dep (ds++[d]) (ss++[s]) i f K:=by
 intro ds
 induction ds with
 | nil =>
  intro ss i f hl h
  have : ss=[]:=List.eq_nil_of_length_eq_zero hl.symm
  subst this
  cases s with
  | val v=>exact h
  | rel S=>exact h
  | own o=>exact h
  | row e kk m xs=>exact h
  | effG p r mk S=>exact h
  | turn pr po S=>exact h
 | cons d' ds ih =>
  intro ss i f hl h
  cases ss with
  | nil=>simp at hl
  | cons s' ss =>
   have hl' : ds.length=ss.length:=by simpa using hl
   have e : i+(d'::ds).length=i+1+ds.length:=by simp;omega
   rw [e] at h
   cases s' with
   | val v=>exact ih ss (i+1) _ hl' h
   | rel S =>
    intro v
    have h1:=h v
    cases hd : dep i with
    | false=>rw [hd] at h1;exact ih ss (i+1) _ hl' h1
    | true=>rw [hd] at h1;exact fun hS=>ih ss (i+1) _ hl' (h1 hS)
   | own o=>exact fun b=>ih ss (i+1) _ hl' (h b)
   | row e kk m xs=>exact fun b=>ih ss (i+1) _ hl' (h b)
   | effG p r mk S =>
    intro v
    have h1:=h v
    cases hd : dep i with
    | false=>rw [hd] at h1;exact ih ss (i+1) _ hl' h1
    | true=>rw [hd] at h1;exact fun hS=>ih ss (i+1) _ hl' (h1 hS)
   | turn pr po S =>
    intro v
    have h1:=h v
    cases hd : dep i with
    | false=>rw [hd] at h1;exact ih ss (i+1) _ hl' h1
    | true=>rw [hd] at h1;exact fun hS=>ih ss (i+1) _ hl' (h1 hS)
theorem FR.fa {c:Cx} {dep:Nat→Bool} : ∀(l:List (Nat×Sp)) (f:Nat→Value) (K:(Nat→Value)→Prop),FR c dep l f K→FA c dep (l.reverse.map Prod.fst) (l.reverse.map Prod.snd) 0 f K:=by
 intro l
 induction l with
 | nil=>intro f K h;exact h
 | cons p l ih =>
  obtain ⟨d,s⟩:=p
  intro f K h
  have:=ih f _ h
  simp only [List.reverse_cons,List.map_append,List.map_cons,List.map_nil]
  refine FA.snoc _ _ 0 f (by simp) ?_
  simpa using this
theorem FA.more {c:Cx} {dep:Nat→Bool} {K:(Nat→Value)→Prop} : ∀(ds:List Nat) (ss rest:List Sp) (i:Nat) (f:Nat→Value),ds.length=ss.length→FA c dep ds ss i f K→FA c dep ds (ss++rest) i f K:=by
 intro ds
 induction ds with
 | nil =>
  intro ss rest i f hl h
  have : ss=[]:=List.eq_nil_of_length_eq_zero hl.symm
  subst this
  cases rest with
  | nil=>exact h
  | cons s _=>cases s<;>exact h
 | cons d ds ih =>
  intro ss rest i f hl h
  cases ss with
  | nil=>simp at hl
  | cons s ss =>
   have hl' : ds.length=ss.length:=by simpa using hl
   cases s with
   | val v=>exact ih ss rest (i+1) _ hl' h
   | rel S =>
    intro v
    have h1:=h v
    cases hd : dep i with
    | false=>rw [hd] at h1;exact ih ss rest (i+1) _ hl' h1
    | true=>rw [hd] at h1;exact fun hS=>ih ss rest (i+1) _ hl' (h1 hS)
   | own o=>exact fun b=>ih ss rest (i+1) _ hl' (h b)
   | row e kk m xs=>exact fun b=>ih ss rest (i+1) _ hl' (h b)
   | effG p r mk S =>
    intro v
    have h1:=h v
    cases hd : dep i with
    | false=>rw [hd] at h1;exact ih ss rest (i+1) _ hl' h1
    | true=>rw [hd] at h1;exact fun hS=>ih ss rest (i+1) _ hl' (h1 hS)
   | turn pr po S =>
    intro v
    have h1:=h v
    cases hd : dep i with
    | false=>rw [hd] at h1;exact ih ss rest (i+1) _ hl' h1
    | true=>rw [hd] at h1;exact fun hS=>ih ss rest (i+1) _ hl' (h1 hS)

theorem FA.imp {c:Cx} {dep:Nat→Bool} {K K':(Nat→Value)→Prop} : ∀{ds:List Nat} {ss:List Sp} {i:Nat} {f:Nat→Value},FA c dep ds ss i f K→(∀f,K f→K' f)→FA c dep ds ss i f K':=by
 intro ds
 induction ds with
 | nil =>
  intro ss i f h hk
  cases ss with
  | nil=>exact hk f h
  | cons s _=>cases s<;>exact hk f h
 | cons d ds ih =>
  intro ss i f h hk
  cases ss with
  | nil=>exact hk f h
  | cons s ss =>
   cases s with
   | val v=>exact ih (ss:=ss) h hk
   | rel S =>
    intro v
    have h1:=h v
    cases hd : dep i with
    | false=>rw [hd] at h1;exact ih (ss:=ss) h1 hk
    | true=>rw [hd] at h1;exact fun hS=>ih (ss:=ss) (h1 hS) hk
   | own o=>exact fun b=>ih (ss:=ss) (h b) hk
   | row e kk m xs=>exact fun b=>ih (ss:=ss) (h b) hk
   | effG p r mk S =>
    intro v
    have h1:=h v
    cases hd : dep i with
    | false=>rw [hd] at h1;exact ih (ss:=ss) h1 hk
    | true=>rw [hd] at h1;exact fun hS=>ih (ss:=ss) (h1 hS) hk
   | turn pr po S =>
    intro v
    have h1:=h v
    cases hd : dep i with
    | false=>rw [hd] at h1;exact ih (ss:=ss) h1 hk
    | true=>rw [hd] at h1;exact fun hS=>ih (ss:=ss) (h1 hS) hk
theorem FR.imp {c:Cx} {dep:Nat→Bool} : ∀{l:List (Nat×Sp)} {f:Nat→Value} {K K':(Nat→Value)→Prop},FR c dep l f K→(∀f,K f→K' f)→FR c dep l f K':=by
 intro l
 induction l with
 | nil=>intro f K K' h hk;exact hk f h
 | cons p l ih =>
  obtain ⟨d,s⟩:=p
  intro f K K' h hk
  refine ih h fun f hf=>?_
  cases s with
  | val x=>exact hk _ hf
  | rel S =>
   intro v
   have h1:=hf v
   cases hd : dep l.length with
   | false=>rw [hd] at h1;exact hk _ h1
   | true=>rw [hd] at h1;exact fun hS=>hk _ (h1 hS)
  | own o=>exact fun b=>hk _ (hf b)
  | row e kk m xs=>exact fun b=>hk _ (hf b)
  | effG p r mk S =>
   intro v
   have h1:=hf v
   cases hd : dep l.length with
   | false=>rw [hd] at h1;exact hk _ h1
   | true=>rw [hd] at h1;exact fun hS=>hk _ (h1 hS)
  | turn pr po S =>
   intro v
   have h1:=hf v
   cases hd : dep l.length with
   | false=>rw [hd] at h1;exact hk _ h1
   | true=>rw [hd] at h1;exact fun hS=>hk _ (h1 hS)
theorem FR.all {c:Cx} {dep:Nat→Bool} : ∀(l:List (Nat×Sp)) (f:Nat→Value) (K:(Nat→Value)→Prop),(∀f,K f)→FR c dep l f K:=by
 intro l
 induction l with
 | nil=>intro f K h;exact h f
 | cons p l ih =>
  obtain ⟨d,s⟩:=p
  intro f K h
  refine ih f _ fun f=>?_
  cases s with
  | val x=>exact h _
  | rel S =>
   intro v
   cases dep l.length with
   | false=>exact h _
   | true=>exact fun _=>h _
  | own o=>exact fun b=>h _
  | row e kk m xs=>exact fun b=>h _
  | effG p r mk S =>
   intro v
   cases dep l.length with
   | false=>exact h _
   | true=>exact fun _=>h _
  | turn pr po S =>
   intro v
   cases dep l.length with
   | false=>exact h _
   | true=>exact fun _=>h _
def needR (l:List (Nat×Sp)) (s:Sp) (f:Nat→Value) : List Res:=s.need (l.reverse.map Prod.fst) (l.reverse.map Prod.snd) f
theorem need_plain {s:Sp} (h:s.isEff=false) {ds:List Nat} {Ss:List Sp} {f:Nat→Value} : s.need ds Ss f=[]:=by
 cases s with
 | effG p r mk S=>cases h
 | turn pr po S=>cases h
 | _=>rfl
theorem need_take {s:Sp} {ds:List Nat} {Ss:List Sp} {f:Nat→Value} {i:Nat} (h:∀p,s.prv=some p→p<i) : s.need (ds.take i) (Ss.take i) f=s.need ds Ss f:=by
 cases s with
 | effG p r mk S =>
  cases p with
  | none=>rfl
  | some p =>
   have:=h p rfl
   simp only [Sp.need,List.getElem?_take,if_pos this]
 | _=>rfl
class SpM (s:Sp) : Prop where
 h : s.Mono'
 pl : s.isEff=false
instance (v : Value) : SpM (.val v):=⟨trivial,rfl⟩
instance (o : Obj) : SpM (.own o):=⟨trivial,rfl⟩
instance (e : TypeId) (kk m : Nat) (xs : List Value) : SpM (.row e kk m xs):=⟨trivial,rfl⟩
instance (S : Value→Cx→Prop) [h : ∀v,Mono (S v)] : SpM (.rel S):=⟨h,rfl⟩

section
variable {P : Program} {ops : Array Oper} {Q : Exit → Act → World → Prop} {n : Nat} {f0 : Nat → Value} {c0 : Cx} {L : List Res} {A : Cx → Prop}
def PreR (P:Program) (ops:Array Oper) (n:Nat) (f0:Nat→Value) (c0:Cx) (L:List Res) (A:Cx→Prop) (l:List (Nat×Sp)) (o:Oper) (d:Nat) (s:Sp) : Prop :=
 ∀(B:Cx→Prop) [Mono B] Lx c,Owns c0 (Lx++L) c→Hd (fun c=>B c∧A c) c→FR c (fun j=>(afters o).contains j) l f0 fun f=>W P ops (PQ n f d s c0 (Lx++L) fun c=>B c∧A c) [o] n f c.w
def PreE (P:Program) (ops:Array Oper) (n:Nat) (f0:Nat→Value) (c0:Cx) (L:List Res) (A:Cx→Prop) (l:List (Nat×Sp)) (o:Oper) (d:Nat) (s:Sp) : Prop :=
 ∀(B:Cx→Prop) [Mono B] Lx c,Hd (fun c=>B c∧A c) c→FR c (fun j=>(afters o).contains j) l f0 fun f=>Owns c0 (needR l s f++(Lx++L)) c→W P ops (PQ n f d s c0 (Lx++L) fun c=>B c∧A c) [o] n f c.w
theorem PreR.e {l:List (Nat×Sp)} {o:Oper} {d:Nat} {s:Sp} (hs:s.isEff=false) (h:PreR P ops n f0 c0 L A l o d s) : PreE P ops n f0 c0 L A l o d s:=by
 intro B _ Lx c HA
 by_cases hO : Owns c0 (Lx++L) c
 ·exact (h B Lx c hO HA).imp fun f hf _=>hf
 ·refine FR.all l f0 _ fun f HO=>absurd ?_ hO
  unfold needR at HO
  rw [need_plain hs] at HO
  exact HO
inductive PD (P:Program) (ops:Array Oper) (n:Nat) (f0:Nat→Value) (c0:Cx) (L:List Res) (A:Cx→Prop) : List (Nat×Sp)→List Oper→Prop
 | start : PD P ops n f0 c0 L A [] ops.toList
 | step {l:List (Nat×Sp)} {o:Oper} {os:List Oper} {d:Nat} {s:Sp} (h:PD P ops n f0 c0 L A l (o::os)) (hs:s.Mono') (hp:PreE P ops n f0 c0 L A l o d s) : PD P ops n f0 c0 L A ((d,s)::l) os
theorem PreAll.of {ds:List Nat} {Ss:List Sp} {c1:Cx} : ∀(os:List Oper) (ss:List Sp) (k:Nat),os.length=ss.length→(∀i o s,os[i]?=some o→ss[i]?=some s→Pre P ops n f0 ds Ss c0 L A c1 (k+i) o s)→PreAll P ops n f0 ds Ss c0 L A c1 k os ss:=by
 intro os
 induction os with
 | nil=>intro ss k _ _;cases ss<;>trivial
 | cons o os ih =>
  intro ss k hl h
  cases ss with
  | nil=>simp at hl
  | cons s ss =>
   refine ⟨h 0 o s rfl rfl,ih ss (k+1) (by simpa using hl) fun i o' s' h1 h2=>?_⟩
   have:=h (i+1) o' s' (by simpa using h1) (by simpa using h2)
   rwa [show k+(i+1)=k+1+i by omega] at this
theorem PD.get {l:List (Nat×Sp)} {os:List Oper} (h:PD P ops n f0 c0 L A l os) : ∃pre,ops.toList=pre++os∧pre.length=l.length∧(∀p∈l,p.2.Mono') ∧
  ∀i o p,pre[i]?=some o→l.reverse[i]?=some p→PreE P ops n f0 c0 L A (l.drop (l.length-i)) o p.1 p.2:=by
 induction h with
 | start=>exact ⟨[],rfl,rfl,(fun _ h=>by cases h),fun i o p h=>by simp at h⟩
 | @step l o os d s h hs hp ih =>
  obtain ⟨pre,h1,h2,h3,h4⟩:=ih
  refine ⟨pre++[o],by rw [h1];simp,by simp [h2],fun p hp=>?_,fun i o' p ho hp'=>?_⟩
  ·rcases List.mem_cons.1 hp with rfl|hp
   ·exact hs
   ·exact h3 p hp
  ·rcases Nat.lt_or_ge i pre.length with hi|hi
   ·rw [List.getElem?_append_left hi] at ho
    rw [List.reverse_cons,List.getElem?_append_left (by simpa [←h2] using hi)] at hp'
    have h5:=h4 i o' p ho hp'
    have e : (d,s)::l=[(d,s)]++l:=rfl
    rw [show ((d,s)::l).length-i=(l.length-i)+1 by simp;omega,List.drop_succ_cons]
    exact h5
   ·have hi' : i=pre.length:=by
     have:=(List.getElem?_eq_some_iff.1 ho).1
     simp at this
     omega
    subst hi'
    rw [List.getElem?_append_right (Nat.le_refl _)] at ho
    rw [List.reverse_cons,List.getElem?_append_right (by simp [h2])] at hp'
    simp [h2] at ho hp'
    subst ho hp'
    rw [show ((d,s)::l).length-pre.length=1 by simp;omega]
    exact hp
def DW (P:Program) (id:Nat) (ops:Array Oper) (Q:Exit→Act→World→Prop) (n:Nat) (f0:Nat→Value) (c0:Cx) (L:List Res) (A:Cx→Prop) (w:World) (l:List (Nat×Sp)) (ds:List Nat) (os:List Oper) : Prop :=
 PD P ops n f0 c0 L A l os→ds=l.map Prod.fst→WC P (.region id ops true) Q n f0 w
theorem dw_start {id:Nat} {c:Cx} (H:Owns c0 L c) (HA:Hd A c) [Mono A] (h:DW P id ops Q n f0 c0 L A c.w [] [] ops.toList) : WC P (.region id ops true) Q n f0 c.w:=h .start rfl
theorem dw_cons {id:Nat} {w:World} {l:List (Nat×Sp)} {ds:List Nat} {os:List Oper} {d:Nat} {op:Op} {ty:TypeId} {ps:String} {af:Array Edge} {gd:Option (Nat×Bool)} {s:Sp}
  (hp:PreR P ops n f0 c0 L A l ⟨some d,op,ty,ps,af,gd⟩ d s) (hs:SpM s) (k:DW P id ops Q n f0 c0 L A w ((d,s)::l) (d::ds) os) : DW P id ops Q n f0 c0 L A w l ds (⟨some d,op,ty,ps,af,gd⟩::os) :=
 fun h e=>k (.step h hs.h (hp.e hs.pl)) (by rw [e];rfl)
theorem dw_consE {id:Nat} {w:World} {l:List (Nat×Sp)} {ds:List Nat} {os:List Oper} {d:Nat} {op:Op} {ty:TypeId} {ps:String} {af:Array Edge} {gd:Option (Nat×Bool)} {pv:Option Nat} {r:Res} {sel:Value→Value} {S:Value→Cx→Prop} {e:TypeId} {kk m:Nat} {xs:List Value}
  (hp:PreE P ops n f0 c0 L A l ⟨some d,op,ty,ps,af,gd⟩ d (.eff pv r sel S e kk m xs)) (hS:∀v,Mono (S v)) (k:DW P id ops Q n f0 c0 L A w ((d,.eff pv r sel S e kk m xs)::l) (d::ds) os) : DW P id ops Q n f0 c0 L A w l ds (⟨some d,op,ty,ps,af,gd⟩::os) :=
 fun h e=>k (.step h hS hp) (by rw [e];rfl)
theorem dw_consT {id:Nat} {w:World} {l:List (Nat×Sp)} {ds:List Nat} {os:List Oper} {d:Nat} {op:Op} {ty:TypeId} {ps:String} {af:Array Edge} {gd:Option (Nat×Bool)} {pr po:List Res} {S:Value→Cx→Prop}
  (hp:PreE P ops n f0 c0 L A l ⟨some d,op,ty,ps,af,gd⟩ d (.turn pr po S)) (hS:∀v,Mono (S v)) (k:DW P id ops Q n f0 c0 L A w ((d,.turn pr po S)::l) (d::ds) os) : DW P id ops Q n f0 c0 L A w l ds (⟨some d,op,ty,ps,af,gd⟩::os) :=
 fun h e=>k (.step h hS hp) (by rw [e];rfl)
theorem dw_startE {id:Nat} {c:Cx} {I:List Res} (H:Owns c0 (I++L) c) (HA:Hd A c) [Mono A] (h:DW P id ops Q n f0 c0 L A c.w [] [] ops.toList) : WC P (.region id ops true) Q n f0 c.w:=h .start rfl
theorem dw_doneE {id:Nat} {c:Cx} {l:List (Nat×Sp)} {ds:List Nat} {os:List Oper} {I:List Res} (hmix:P.follows .mixedOrders=true) (hin:initP (l.reverse.map Prod.snd)=I) (H:Owns c0 (I++L) c) (HA:Hd A c) [Mono A] (hok:(regOk ops ds.length n ds.reverse && effOk ops afters (l.reverse.map fun p=>p.2.key))=true)
  (k:∀c,Hd A c→FR c (fun _=>true) l f0 fun f=>Owns c0 ((ownP f l.reverse).reverse++L) c→W P ops Q os n f c.w) : DW P id ops Q n f0 c0 L A c.w l ds os:=by
 intro hpd hds
 subst hds
 rw [Bool.and_eq_true] at hok
 obtain ⟨hok,hef⟩:=hok
 obtain ⟨pre,h1,h2,h3,h4⟩:=hpd.get
 have hm : (l.map Prod.fst).length=pre.length:=by simp [h2]
 rw [hm] at hok
 have e1 : (List.map Prod.fst l).reverse=l.reverse.map Prod.fst:=by simp
 rw [e1] at hok
 have hks : (l.reverse.map Prod.snd).map Sp.key=l.reverse.map fun p=>p.2.key:=by rw [List.map_map];rfl
 refine wc_draw (Ss:=l.reverse.map Prod.snd) hmix hok (by simp [h2]) hks hef (fun s hs=>?_) (by rw [hin];exact H) HA ?_ fun c HA=>?_
 ·simp only [List.mem_map,List.mem_reverse] at hs
  obtain ⟨p,hp,rfl⟩:=hs
  exact h3 p hp
 ·have e2 : ops.toList.take pre.length=pre:=by rw [h1];simp
  rw [e2]
  refine PreAll.of pre _ 0 (by simp [h2]) fun i o s ho hs B _ Lx c HA=>?_
  rw [Nat.zero_add] at *
  have hil : i<l.length:=by rw [←h2];exact (List.getElem?_eq_some_iff.1 ho).1
  have hp' : l.reverse[i]?=some (l.reverse[i]'(by simpa using hil)):=List.getElem?_eq_getElem _
  have h5:=h4 i o _ ho hp' B Lx c HA
  have hs' : s=(l.reverse[i]'(by simpa using hil)).2:=by
   rw [List.getElem?_map,hp'] at hs
   simpa using hs.symm
  have hoo : ops[i]?=some o:=by
   rw [←Array.getElem?_toList,h1,List.getElem?_append_left (by omega)]
   exact ho
  have hnt : ∀p,s.prv=some p→p<i:=fun p hp=>(effOk_prv hks hef hs hp hoo).2
  subst hs'
  have hd : (l.reverse.map Prod.fst).getD i 0=(l.reverse[i]'(by simpa using hil)).1:=by
   rw [List.getD_eq_getElem?_getD,List.getElem?_map,hp']
   rfl
  rw [hd]
  have h6:=FR.fa _ _ _ h5
  have e3 : (l.drop (l.length-i)).reverse=l.reverse.take i:=by
   rw [List.reverse_drop]
   congr 1
   omega
  unfold needR at h6
  rw [e3] at h6
  simp only [List.map_take] at h6
  simp only [need_take hnt] at h6
  have e4 : List.map Prod.snd l.reverse=(List.map Prod.snd l.reverse).take i++List.map Prod.snd (List.drop i l.reverse):=by
   rw [List.map_drop,List.take_append_drop]
  have h7:=FA.more _ _ (List.map Prod.snd (List.drop i l.reverse)) 0 _ (by simp) h6
  rw [←e4] at h7
  exact h7
 ·have e2 : ops.toList.drop pre.length=os:=by rw [h1];simp
  rw [e2]
  have h7:=FR.fa _ _ _ (k c HA)
  have e5 : ∀(ps:List (Nat×Sp)),(ps.map Prod.fst).zip (ps.map Prod.snd)=ps:=fun ps=>by
   induction ps with
   | nil=>rfl
   | cons p ps ih=>simpa using ih
  rw [e5]
  refine FA.imp h7 fun f hf HO=>hf (HO.perm ((List.reverse_perm _).symm.append_right L))
theorem dw_doneT {id:Nat} {c:Cx} {l:List (Nat×Sp)} {ds:List Nat} {os:List Oper} {I:List Res} (hmix:P.follows .mixedOrders=true) (hin:initP (l.reverse.map Prod.snd)=I) (H:Owns c0 (I++L) c) (HA:Hd A c) [Mono A] (hok:(regOk ops ds.length n ds.reverse && effOk ops afters (l.reverse.map fun p=>p.2.key))=true)
  (k:∀c,Hd A c→FR c (fun _=>true) l f0 fun f=>Owns c0 (ownP f l.reverse++L) c→W P ops Q os n f c.w) : DW P id ops Q n f0 c0 L A c.w l ds os :=
 dw_doneE hmix hin H HA hok fun c HA=>(k c HA).imp fun f hf HO=>hf (HO.perm ((List.reverse_perm _).append_right L))
theorem dw_doneO {id:Nat} {c:Cx} {l:List (Nat×Sp)} {ds:List Nat} {os:List Oper} (hmix:P.follows .mixedOrders=true) (H:Owns c0 L c) (HA:Hd A c) [Mono A] (hin:(initP (l.reverse.map Prod.snd)).isEmpty=true) (hok:(regOk ops ds.length n ds.reverse && effOk ops afters (l.reverse.map fun p=>p.2.key))=true)
  (k:∀c,Hd A c→FR c (fun _=>true) l f0 fun f=>Owns c0 ((ownP f l.reverse).reverse++L) c→W P ops Q os n f c.w) : DW P id ops Q n f0 c0 L A c.w l ds os :=
 dw_doneE (I:=[]) hmix (List.isEmpty_iff.1 hin) H HA hok k
def noOwn : List (Nat×Sp)→Bool
 | (_,.own _)::_=>false
 | (_,.row ..)::_=>false
 | (_,.effG ..)::_=>false
 | (_,.turn ..)::_=>false
 | _::l=>noOwn l
 | []=>true
theorem noOwn_mem : ∀{l:List (Nat×Sp)},noOwn l=true→∀p∈l,∀lb k v,p.2.resAt lb k v=[]:=by
 intro l
 induction l with
 | nil=>intro _ p hp;cases hp
 | cons q l ih =>
  obtain ⟨d,s⟩:=q
  intro h p hp lb k v
  cases s with
  | val x=>rcases List.mem_cons.1 hp with rfl|hp<;>first|rfl|exact ih h p hp lb k v
  | rel S=>rcases List.mem_cons.1 hp with rfl|hp<;>first|rfl|exact ih h p hp lb k v
  | own o=>cases h
  | row e kk m xs=>cases h
  | effG p r mk S=>cases h
  | turn pr po S=>cases h
theorem ownP_nil {f:Nat→Value} {l:List (Nat×Sp)} (h:noOwn l=true) : ownP f l.reverse=[]:=by
 unfold ownP
 rw [List.flatMap_eq_nil_iff]
 intro j _
 cases hj : l.reverse[j]? with
 | none=>rfl
 | some p=>exact noOwn_mem h p (List.mem_reverse.1 (List.mem_of_getElem? hj)) _ _ _
theorem initP_nil {l:List (Nat×Sp)} (h:noOwn l=true) : initP (l.reverse.map Prod.snd)=[]:=by
 unfold initP ownV
 rw [List.flatMap_eq_nil_iff]
 intro j _
 cases hj : (l.reverse.map Prod.snd)[j]? with
 | none=>rfl
 | some s =>
  have:=List.mem_of_getElem? hj
  simp only [List.mem_map,List.mem_reverse] at this
  obtain ⟨p,hp,rfl⟩:=this
  exact noOwn_mem h p hp _ _ _
theorem effOk_none {l:List (Nat×Sp)} (h:noOwn l=true) : effOk ops afters (l.reverse.map fun p=>p.2.key)=true:=by
 unfold effOk
 rw [List.all_eq_true]
 intro i _
 have : ∀{l:List (Nat×Sp)},noOwn l=true→∀p∈l,p.2.prv=none:=by
  intro l
  induction l with
  | nil=>intro _ p hp;cases hp
  | cons q l ih =>
   obtain ⟨d,s⟩:=q
   intro h p hp
   cases s with
   | val x=>rcases List.mem_cons.1 hp with rfl|hp<;>first|rfl|exact ih h p hp
   | rel S=>rcases List.mem_cons.1 hp with rfl|hp<;>first|rfl|exact ih h p hp
   | own o=>cases h
   | row e kk m xs=>cases h
   | effG p r mk S=>cases h
   | turn pr po S=>cases h
 cases hj : (l.reverse.map fun p=>p.2.key)[i]? with
 | none=>rfl
 | some s =>
  have hm:=List.mem_of_getElem? hj
  simp only [List.mem_map,List.mem_reverse] at hm
  obtain ⟨p,hp,rfl⟩:=hm
  have hk : p.2.key=(none,p.2.isRow):=by unfold Sp.key;rw [this h p hp]
  rw [hk]
theorem dw_done {id:Nat} {c:Cx} {l:List (Nat×Sp)} {ds:List Nat} {os:List Oper} (hmix:P.follows .mixedOrders=true) (H:Owns c0 L c) (HA:Hd A c) [Mono A] (hno:noOwn l=true) (hok:regOk ops ds.length n ds.reverse=true)
  (k:∀c,Owns c0 L c→Hd A c→FR c (fun _=>true) l f0 fun f=>W P ops Q os n f c.w) : DW P id ops Q n f0 c0 L A c.w l ds os :=
 dw_doneO hmix H HA (by rw [initP_nil hno];rfl) (by rw [hok,effOk_none hno];rfl) fun c HA=>by
  by_cases hO : Owns c0 L c
  ·exact (k c hO HA).imp fun f hf _=>hf
  ·refine FR.imp (K:=fun _=>True) (FR.all l f0 _ fun _=>trivial) fun f _ HO=>absurd (by rw [ownP_nil hno] at HO;exact HO) hO
end

def Pt {α:Type} [Enc α] (x:α) (v:Value) (c:Cx) : Prop:=∃b o,v=.pointer (some ⟨b,o,none⟩)∧El b o x c
instance {α : Type} [Enc α] (x : α) (v : Value) : Mono (Pt x v):=⟨fun h ⟨b,o,e,k⟩=>⟨b,o,e,Mono.mono h k⟩⟩
def Ag {α:Type} [Enc α] (x:α) (v:Value) (c:Cx) : Prop:=∃cs : List Value,v=.agg cs.toArray∧Enc.Ok cs x c
instance {α : Type} [Enc α] (x : α) (v : Value) : Mono (Ag x v):=⟨fun h ⟨cs,e,k⟩=>⟨cs,e,Mono.mono h k⟩⟩
class Part (α:Type) [Enc α] (off:Nat) (β:outParam Type) [outParam (Enc β)] (pr:outParam (α→β)) : Prop where
 h : ∀{b o:Nat} {x:α} {c:Cx},El b o x c→El b (o+off) (pr x) c
class Rd (α:Type) [Enc α] (S:outParam (α→Value→Cx→Prop)) : Prop where
 one : Enc.k α=1
 h : ∀{x:α} {v:Value} {c:Cx},Enc.Ok [v] x c→S x v c
class RdV (α:Type) [Enc α] (val:outParam (α→Value)) : Prop where
 one : Enc.k α=1
 h : ∀{x:α} {v:Value} {c:Cx},Enc.Ok [v] x c→v=val x
class RdA (α:Type) [Enc α] (cs:outParam (α→List Value)) : Prop where
 h : ∀{x:α} {cs':List Value} {c:Cx},Enc.Ok cs' x c→cs'=cs x
section
variable {P : Program} {ops : Array Oper} {Q : Exit → Act → World → Prop} {n : Nat} {f : Nat → Value} {rest : List Oper} {ty : TypeId} {ps : String} {af : Array Edge} {d : Tmp}
variable {c0 c : Cx} {L : List Res} {A : Cx → Prop}
theorem s_ixP {α:Type} {iE:Enc α} {T e:TypeId} {z:Value} {kk by_:Nat} {x y:Operand} {v:Value} {xs:List α} {i:Nat} {u:α} {q:Int} (hn:Nat.blt d n=true) [SlT P T e] [TyI P e z kk by_] (hx:opd f x=v) (hy:opd f y=.int .i64 q) (h:Sl v xs c) (hk:Enc.k α=kk)
  (hq:q=(i:Int)) (hu:xs[i]?=some u) (k:∀v',Pt u v' c→W P ops Q rest n (upd f d v') c.w) : W P ops Q (⟨some d,.indexAddr T x y,ty,ps,af,none⟩::rest) n f c.w :=
 s_ix hn hk hx hy h hq hu fun b o hE=>k _ ⟨b,o,rfl,hE⟩
theorem s_fldP {α β:Type} {iE:Enc α} {iE2:Enc β} {pr:α→β} {T:TypeId} {i off:Nat} {x:Operand} {v:Value} {u:α} (hn:Nat.blt d n=true) [Fld P T i off] (hx:opd f x=v) (h:Pt u v c) (hR:Part α off β pr)
  (k:∀v',Pt (pr u) v' c→W P ops Q rest n (upd f d v') c.w) : W P ops Q (⟨some d,.fieldAddr T x i,ty,ps,af,none⟩::rest) n f c.w:=by
 obtain ⟨b,o,rfl,hE⟩:=h
 exact s_fieldAddr hn hx (k _ ⟨b,o+off,rfl,Part.h hE⟩)
theorem s_ldV {α:Type} {iE:Enc α} {val:α→Value} {T:TypeId} {x:Operand} {v:Value} {u:α} (hn:Nat.blt d n=true) [Prim P T] (hx:opd f x=v) (h:Pt u v c) (hR:RdV α val) (k:W P ops Q rest n (upd f d (val u)) c.w) :
  W P ops Q (⟨some d,.load T x,ty,ps,af,none⟩::rest) n f c.w:=by
 obtain ⟨b,o,rfl,hE⟩:=h
 refine s_loadE1 hn hx hE RdV.one fun v' h=>?_
 rw [RdV.h h]
 exact k
theorem s_ldS {α:Type} {iE:Enc α} {S:α→Value→Cx→Prop} {T:TypeId} {x:Operand} {v:Value} {u:α} (hn:Nat.blt d n=true) [Prim P T] (hx:opd f x=v) (h:Pt u v c) (hR:Rd α S) (k:∀v',S u v' c→W P ops Q rest n (upd f d v') c.w) :
  W P ops Q (⟨some d,.load T x,ty,ps,af,none⟩::rest) n f c.w:=by
 obtain ⟨b,o,rfl,hE⟩:=h
 exact s_loadE1 hn hx hE (Rd.one (S:=S)) fun v' h=>k v' (Rd.h h)
theorem s_ldD {α:Type} {iE:Enc α} {cs:α→List Value} {T:TypeId} {kk:Nat} {x:Operand} {v:Value} {u:α} (hn:Nat.blt d n=true) [Agg P T kk] (hx:opd f x=v) (h:Pt u v c) (hk:Enc.k α=kk) (hR:RdA α cs) (k:W P ops Q rest n (upd f d (.agg (cs u).toArray)) c.w) :
  W P ops Q (⟨some d,.load T x,ty,ps,af,none⟩::rest) n f c.w:=by
 obtain ⟨b,o,rfl,hE⟩:=h
 refine s_loadE hn hx hk hE fun cs' h=>?_
 rw [RdA.h h]
 exact k
theorem s_ldG {α:Type} {iE:Enc α} {T:TypeId} {kk:Nat} {x:Operand} {v:Value} {u:α} (hn:Nat.blt d n=true) [Agg P T kk] (hx:opd f x=v) (h:Pt u v c) (hk:Enc.k α=kk) (k:∀v',Ag u v' c→W P ops Q rest n (upd f d v') c.w) :
  W P ops Q (⟨some d,.load T x,ty,ps,af,none⟩::rest) n f c.w:=by
 obtain ⟨b,o,rfl,hE⟩:=h
 exact s_loadE hn hx hk hE fun cs' h=>k _ ⟨cs',rfl,h⟩
theorem s_boxG {α:Type} {iE:Enc α} {T:TypeId} {x:Operand} {v:Value} {u:α} (hn:Nat.blt d n=true) (hx:opd f x=v) (h:Ag u v c) (H:Owns c0 L c) (HA:Hd A c) [Mono A]
  (k:∀v' c',Owns c0 L c'→Hd (fun c=>Pt u v' c∧A c) c'→W P ops Q rest n (upd f d v') c'.w) : W P ops Q (⟨some d,.box T x,ty,ps,af,none⟩::rest) n f c.w:=by
 obtain ⟨cs,rfl,hO⟩:=h
 refine s_boxA hn hx H (HA.add hO) fun b c' H HA=>k _ c' H ⟨⟨b,0,rfl,cs,HA.h.2.1,fun j v hj=>?_⟩,HA.h.2.2⟩
 rw [Nat.zero_add]
 exact HA.h.1.at_ hj
end

/-! ### ends of an operation in a piece whose order is open -/
section
variable {P : Program} {ops : Array Oper} {n : Nat} {c0 : Cx} {L : List Res} {A : Cx → Prop} {f : Nat → Value} {d : Nat} {v : Value} {c : Cx}
theorem pq_pt {α:Type} {iE:Enc α} {x:α} (H:Owns c0 L c) (HA:Hd A c) (h:Pt x v c) : WX (PQ n f d (.rel (Pt x)) c0 L A) .normal n (upd f d v) c.w:=pq_rel H HA h
theorem pq_ag {α:Type} {iE:Enc α} {x:α} (H:Owns c0 L c) (HA:Hd A c) (h:Ag x v c) : WX (PQ n f d (.rel (Ag x)) c0 L A) .normal n (upd f d v) c.w:=pq_rel H HA h
theorem pq_sl {α:Type} {iE:Enc α} {x:List α} (H:Owns c0 L c) (HA:Hd A c) (h:Sl v x c) : WX (PQ n f d (.rel fun v c=>Sl v x c) c0 L A) .normal n (upd f d v) c.w:=pq_rel (S:=fun v c=>Sl v x c) H HA h
def Sb (cs:List Value) (v:Value) (c:Cx) : Prop:=∃b,v=.slice (some ⟨b,0,none⟩) 1 1∧Box b cs c
theorem pq_sb {b:Nat} {cs:List Value} (H:Owns c0 L c) (HA:Hd A c) (h:Box b cs c) : WX (PQ n f d (.rel (Sb cs)) c0 L A) .normal n (upd f d (.slice (some ⟨b,0,none⟩) 1 1)) c.w:=pq_rel H HA ⟨b,rfl,h⟩
def Pb (cs:List Value) (v:Value) (c:Cx) : Prop:=∃b,v=.pointer (some ⟨b,0,none⟩)∧Box b cs c
theorem pq_pb {b:Nat} {cs:List Value} (H:Owns c0 L c) (HA:Hd A c) (h:Box b cs c) : WX (PQ n f d (.rel (Pb cs)) c0 L A) .normal n (upd f d (.pointer (some ⟨b,0,none⟩))) c.w:=pq_rel H HA ⟨b,rfl,h⟩
end

/-! ### the parts of plain data -/
instance : Enc ByteArray where
 k:=1
 Ok cs s _:=cs=[.string s]
 mono cs x:=⟨fun _ h=>h⟩
 len cs x c h:=by subst h;rfl
 one cs x c h u hu:=by subst h;simp at hu;subst hu;rfl
 pos:=Nat.one_pos
instance : RdV Int (fun n=>.int .i64 n):=⟨rfl,fun h=>by simpa [Enc.Ok] using h⟩
instance : RdV ByteArray (fun s=>.string s):=⟨rfl,fun h=>by simpa [Enc.Ok] using h⟩
theorem El.part {α β:Type} [Enc α] [Enc β] {b o:Nat} {x:α} {y:β} {c:Cx} (off:Nat) (h:El b o x c) (hp:∀cs,Enc.Ok cs x c→Enc.Ok ((cs.drop off).take (Enc.k β)) y c) : El b (o+off) y c:=by
 obtain ⟨cs,h1,h2⟩:=h
 refine ⟨_,hp cs h1,fun j v hj=>?_⟩
 have hj' : cs[off+j]?=some v:=by
  rw [List.getElem?_take] at hj
  split at hj
  ·rw [List.getElem?_drop] at hj
   exact hj
  ·cases hj
 rw [Nat.add_assoc]
 exact h2 (off+j) v hj'

section
variable {P : Program} {Q : Exit → Act → World → Prop} {n : Nat} {f : Nat → Value} {c0 c : Cx} {A : Cx → Prop} {σ : Type}
end
structure LNI (N:Nat) (kf:Nat→List (Nat×Value)) (p:Nat→Prop) (L:List Res) (c0:Cx) (A:Cx→Prop) (m:Nat) (f:Nat→Value) (c:Cx) (k:Nat) : Prop where
 m : m=N-k
 kf : KS f (kf k)
 le : k≤N
 p : p k
 ow : Owns c0 L c
 hd : Hd A c
section
variable {P : Program} {Q : Exit → Act → World → Prop} {n : Nat} {f : Nat → Value} {c0 c : Cx} {A : Cx → Prop} {L : List Res}
def LNL (n:Nat) (N:Nat) (kf:Nat→List (Nat×Value)) (p:Nat→Prop) (L:List Res) (c0:Cx) (A:Cx→Prop) (k:Nat) : Act→World→Prop:=LoopI n (fun m f c=>∃k,LNI N kf p L c0 A m f c k) (N-k)
theorem wc_loopN {x:Code} (N:Nat) (kf:Nat→List (Nat×Value)) (p:Nat→Prop) (k0:Nat) (H:Owns c0 L c) (HA:Hd A c) (hkf:KS f (kf k0)) (hle:k0≤N) (hp:p k0)
  (round:∀k g c,k≤N→p k→Owns c0 L c→Hd A c→WC P x (Exit.then (LNL n N kf p L c0 A k) Q) n (updA g (kf k)) c.w) : WC P (.loop x) Q n f c.w:=by
 refine wc_loop (fun m f c=>∃k,LNI N kf p L c0 A m f c k) (N-k0) ⟨k0,rfl,hkf,hle,hp,H,HA⟩ ?_
 rintro m f c ⟨s,rfl,hk,hl,hp,hO,hA⟩
 obtain ⟨g,rfl⟩:=hk.ex
 exact round s g c hl hp hO hA
theorem wx_loopN {N:Nat} {kf:Nat→List (Nat×Value)} {p:Nat→Prop} {k:Nat} (k':Nat) (H:Owns c0 L c) (HA:Hd A c) (hkf:KS f (kf k')) (hle:k<k'∧k'≤N) (hp:p k') : WX (Exit.then (LNL n N kf p L c0 A k) Q) .normal n f c.w :=
 wx_loop (by omega) ⟨k',rfl,hkf,hle.2,hp,H,HA⟩
end

structure LMI {σ:Type} (ms:σ→Nat) (kf:σ→List (Nat×Value)) (p:σ→Prop) (L:List Res) (c0:Cx) (A:Cx→Prop) (m:Nat) (f:Nat→Value) (c:Cx) (s:σ) : Prop where
 m : m=ms s
 kf : KS f (kf s)
 p : p s
 ow : Owns c0 L c
 hd : Hd A c
section
variable {P : Program} {Q : Exit → Act → World → Prop} {n : Nat} {f : Nat → Value} {c0 c : Cx} {A : Cx → Prop} {L : List Res} {σ : Type}
def LML (n:Nat) (ms:σ→Nat) (kf:σ→List (Nat×Value)) (p:σ→Prop) (L:List Res) (c0:Cx) (A:Cx→Prop) (s:σ) : Act→World→Prop:=LoopI n (fun m f c=>∃s,LMI ms kf p L c0 A m f c s) (ms s)
theorem wc_loopM {x:Code} (ms:σ→Nat) (kf:σ→List (Nat×Value)) (p:σ→Prop) (s0:σ) (H:Owns c0 L c) (HA:Hd A c) (hkf:KS f (kf s0)) (hp:p s0)
  (round:∀s g c,p s→Owns c0 L c→Hd A c→WC P x (Exit.then (LML n ms kf p L c0 A s) Q) n (updA g (kf s)) c.w) : WC P (.loop x) Q n f c.w:=by
 refine wc_loop (fun m f c=>∃s,LMI ms kf p L c0 A m f c s) (ms s0) ⟨s0,rfl,hkf,hp,H,HA⟩ ?_
 rintro m f c ⟨s,rfl,hk,hp,hO,hA⟩
 obtain ⟨g,rfl⟩:=hk.ex
 exact round s g c hp hO hA
theorem wx_loopM {ms:σ→Nat} {kf:σ→List (Nat×Value)} {p:σ→Prop} {s:σ} (s':σ) (H:Owns c0 L c) (HA:Hd A c) (hkf:KS f (kf s')) (hm:ms s'<ms s) (hp:p s') : WX (Exit.then (LML n ms kf p L c0 A s) Q) .normal n f c.w :=
 wx_loop hm ⟨s',rfl,hkf,hp,H,HA⟩
end

structure LGI {σ:Type} (ms:σ→Nat) (kf:σ→List (Nat×Value)) (p:σ→Prop) (lr:σ→List Res) (bf:σ→Cx→Prop) (c0:Cx) (A:Cx→Prop) (m:Nat) (f:Nat→Value) (c:Cx) (s:σ) : Prop where
 m : m=ms s
 kf : KS f (kf s)
 p : p s
 ow : Owns c0 (lr s) c
 hd : Hd (fun c=>bf s c∧A c) c
section
variable {P : Program} {Q : Exit → Act → World → Prop} {n : Nat} {f : Nat → Value} {c0 c : Cx} {A : Cx → Prop} {σ : Type}
def LGL (n:Nat) (ms:σ→Nat) (kf:σ→List (Nat×Value)) (p:σ→Prop) (lr:σ→List Res) (bf:σ→Cx→Prop) (c0:Cx) (A:Cx→Prop) (s:σ) : Act→World→Prop:=LoopI n (fun m f c=>∃s,LGI ms kf p lr bf c0 A m f c s) (ms s)
theorem wc_loopG {x:Code} (ms:σ→Nat) (kf:σ→List (Nat×Value)) (p:σ→Prop) (lr:σ→List Res) (bf:σ→Cx→Prop) (s0:σ) (H:Owns c0 (lr s0) c) (HA:Hd A c) (hb:bf s0 c) (hkf:KS f (kf s0)) (hp:p s0)
  (round:∀s g c,p s→Owns c0 (lr s) c→Hd (fun c=>bf s c∧A c) c→WC P x (Exit.then (LGL n ms kf p lr bf c0 A s) Q) n (updA g (kf s)) c.w) : WC P (.loop x) Q n f c.w:=by
 refine wc_loop (fun m f c=>∃s,LGI ms kf p lr bf c0 A m f c s) (ms s0) ⟨s0,rfl,hkf,hp,H,HA.add hb⟩ ?_
 rintro m f c ⟨s,rfl,hk,hp,hO,hA⟩
 obtain ⟨g,rfl⟩:=hk.ex
 exact round s g c hp hO hA
theorem wx_loopG {ms:σ→Nat} {kf:σ→List (Nat×Value)} {p:σ→Prop} {lr:σ→List Res} {bf:σ→Cx→Prop} {s:σ} (s':σ) (H:Owns c0 (lr s') c) (HA:Hd A c) (hb:bf s' c) (hkf:KS f (kf s')) (hm:ms s'<ms s) (hp:p s') : WX (Exit.then (LGL n ms kf p lr bf c0 A s) Q) .normal n f c.w :=
 wx_loop hm ⟨s',rfl,hkf,hp,H,HA.add hb⟩
end

/-! ### comparisons, their outcome given or left open -/
theorem dt {p:Prop} {i:Decidable p} (h:p) : @decide p i=true:=by simpa using h
theorem df {p:Prop} {i:Decidable p} (h:¬p) : @decide p i=false:=by simpa using h
theorem nt {p:Prop} {i:Decidable p} (h:¬p) : (!@decide p i)=true:=by simpa using h
theorem nf {p:Prop} {i:Decidable p} (h:p) : (!@decide p i)=false:=by simpa using h
section
variable {P : Program} {ops : Array Oper} {Q : Exit → Act → World → Prop} {n : Nat} {f : Nat → Value} {rest : List Oper} {ty : TypeId} {ps : String} {af : Array Edge} {d : Tmp} {w : World}
variable {T T' : TypeId} {x y : Operand} {kd : IntKind} {a b : Int}
theorem z_eqI (hn:Nat.blt d n=true) (hx:opd f x=.int kd a) (hy:opd f y=.int kd b) {r:Bool} (hr:decide (a=b)=r) (k:W P ops Q rest n (upd f d (.bool r)) w) : W P ops Q (⟨some d,.binOp .eql T x y T',ty,ps,af,none⟩::rest) n f w :=
 s_eqI hn hx hy (by subst hr;by_cases h:a=b<;>simp [h]) k
theorem z_neI (hn:Nat.blt d n=true) (hx:opd f x=.int kd a) (hy:opd f y=.int kd b) {r:Bool} (hr:(!decide (a=b))=r) (k:W P ops Q rest n (upd f d (.bool r)) w) : W P ops Q (⟨some d,.binOp .neq T x y T',ty,ps,af,none⟩::rest) n f w :=
 s_neI hn hx hy (by subst hr;by_cases h:a=b<;>simp [h]) k
theorem z_ltI (hn:Nat.blt d n=true) (hx:opd f x=.int kd a) (hy:opd f y=.int kd b) {r:Bool} (hr:decide (a<b)=r) (k:W P ops Q rest n (upd f d (.bool r)) w) : W P ops Q (⟨some d,.binOp .lss T x y T',ty,ps,af,none⟩::rest) n f w :=
 s_ltI hn hx hy (by subst hr;rfl) k
theorem z_leI (hn:Nat.blt d n=true) (hx:opd f x=.int kd a) (hy:opd f y=.int kd b) {r:Bool} (hr:decide (a≤b)=r) (k:W P ops Q rest n (upd f d (.bool r)) w) : W P ops Q (⟨some d,.binOp .leq T x y T',ty,ps,af,none⟩::rest) n f w :=
 s_leI hn hx hy (by subst hr;rfl) k
theorem z_gtI (hn:Nat.blt d n=true) (hx:opd f x=.int kd a) (hy:opd f y=.int kd b) {r:Bool} (hr:decide (b<a)=r) (k:W P ops Q rest n (upd f d (.bool r)) w) : W P ops Q (⟨some d,.binOp .gtr T x y T',ty,ps,af,none⟩::rest) n f w :=
 s_gtI hn hx hy (by subst hr;rfl) k
theorem z_geI (hn:Nat.blt d n=true) (hx:opd f x=.int kd a) (hy:opd f y=.int kd b) {r:Bool} (hr:decide (b≤a)=r) (k:W P ops Q rest n (upd f d (.bool r)) w) : W P ops Q (⟨some d,.binOp .geq T x y T',ty,ps,af,none⟩::rest) n f w :=
 s_geI hn hx hy (by subst hr;rfl) k
end

class TyD (P:Program) (e:TypeId) (α:outParam Type) [outParam (Enc α)] (cs:outParam (α→List Value)) : Prop where
 ok : ∀(x:α) (c:Cx),Enc.Ok (cs x) x c
def Fu (v:Value) : Prop:=∃a n,v=.slice (some a) n n
theorem Sl.of_box {α:Type} [Enc α] {b:Nat} {cs:List Value} {x:α} {c:Cx} (h:Box b cs c) (hx:Enc.Ok cs x c) : Sl (.slice (some ⟨b,0,none⟩) 1 1) [x] c :=
 ⟨by simp [LIM],some ⟨b,0,none⟩,1,rfl,by simp,fun _=>⟨b,0,rfl,fun i y hy=>by
  cases i with
  | zero =>
   simp at hy
   subst hy
   refine ⟨cs,hx,fun j v hj=>?_⟩
   simpa using h.at_ hj
  | succ i=>simp at hy⟩⟩
section
variable {P : Program} {ops : Array Oper} {Q : Exit → Act → World → Prop} {n : Nat} {f : Nat → Value} {rest : List Oper} {ty : TypeId} {ps : String} {af : Array Edge} {d : Tmp}
variable {c0 c : Cx} {L : List Res} {A : Cx → Prop}
theorem wx_freezeRow {α:Type} [Enc α] {x:Exit} {e:TypeId} {kk m:Nat} {v:Value} {vals:List (List Value)} {xs:List α} (H:Owns c0 (.row v e kk m vals.flatten::L) c) (HA:Hd A c) [Mono A] (hv:Vals vals xs c) (hm:m=xs.length) (hk:Enc.k α=kk) (hlim:m<LIM)
  (k:∀c',Owns c0 L c'→Hd (fun c=>Sl v xs c∧A c) c'→WX Q x n f c'.w) : WX Q x n f c.w :=
 have h:=H.freezeRow hv hm hk hlim
 k ⟨c.w,fun x=>c.M x∧(Res.row v e kk m vals.flatten).blk≠some x⟩ h.2.1 ⟨⟨h.2.2,Mono.mono h.1 HA.h⟩⟩
theorem Owns.nilR (H:Owns c0 L c) (α:Type) (e:TypeId) (k:Nat) : Owns c0 (.row (.slice none 0 0) e k ([]:List α).length ([]:List (List Value)).flatten::L) c:=H.nilRow e k
theorem s_bs1D {α:Type} {iE:Enc α} {cv:α→List Value} {T e:TypeId} {z:Value} {kk bb:Nat} {x:Operand} {u:α} (hn:Nat.blt d n=true) [SlT P T e] [TyI P e z kk bb] [TyD P e α cv] (hx:(opd f x).cells=(cv u).toArray) (hk:(cv u).length=kk) (hz:z.cells.size=kk) (hk0:Nat.blt 0 kk=true) (hkb:Nat.ble kk 64=true)
  (H:Owns c0 L c) (HA:Hd A c) (hMA:Mono A) (k:∀v c',Owns c0 L c'→Hd (fun c=>Sl v [u] c∧Fu v∧A c) c'→W P ops Q rest n (upd f d v) c'.w) : W P ops Q (⟨some d,.buildSlice T 1 #[(0,x)],ty,ps,af,none⟩::rest) n f c.w :=
 s_bs1 hn hx hk hz hk0 hkb H HA fun b c' H HA=>k _ c' H ⟨⟨Sl.of_box HA.h.1 (TyD.ok (P:=P) (e:=e) u c'),⟨_,_,rfl⟩,HA.h.2⟩⟩
theorem s_bs1G {α:Type} {iE:Enc α} {T e:TypeId} {z:Value} {kk bb:Nat} {x:Operand} {v0:Value} {u:α} (hn:Nat.blt d n=true) [SlT P T e] [TyI P e z kk bb] (hx:opd f x=v0) (hA:Ag u v0 c) (hk:Enc.k α=kk) (hz:z.cells.size=kk) (hk0:Nat.blt 0 kk=true) (hkb:Nat.ble kk 64=true)
  (H:Owns c0 L c) (HA:Hd A c) (hMA:Mono A) (k:∀v c',Owns c0 L c'→Hd (fun c=>Sl v [u] c∧Fu v∧A c) c'→W P ops Q rest n (upd f d v) c'.w) : W P ops Q (⟨some d,.buildSlice T 1 #[(0,x)],ty,ps,af,none⟩::rest) n f c.w:=by
 obtain ⟨cs,rfl,hO⟩:=hA
 exact s_bs1 hn (by rw [hx];rfl) ((Enc.len cs u c hO).trans hk) hz hk0 hkb H (HA.add hO) fun b c' H HA=>k _ c' H ⟨⟨Sl.of_box HA.h.1 HA.h.2.1,⟨_,_,rfl⟩,HA.h.2.2⟩⟩
theorem s_appR {α:Type} {iE:Enc α} {T e:TypeId} {z:Value} {kk bb:Nat} {x y:Operand} {v v2:Value} {acc ys:List α} {vals:List (List Value)} (hn:Nat.blt d n=true) [SlT P T e] [TyI P e z kk bb] (hx:opd f x=v) (hy:opd f y=v2) (H:Owns c0 (.row v e kk acc.length vals.flatten::L) c)
  (HV:Vals vals acc c) (HS:Sl v2 ys c) (hk:Enc.k α=kk) (hz:z.cells.size=kk) (hbb:Nat.ble bb 128=true) (hlim:acc.length+ys.length<1099511627776)
  (HA:Hd A c) (hMA:Mono A) (k:∀v' c' vals',Owns c0 (.row v' e kk (acc++ys).length vals'.flatten::L) c'→Hd (fun c=>Vals vals' (acc++ys) c∧A c) c'→W P ops Q rest n (upd f d v') c'.w) :
  W P ops Q (⟨some d,.call ⟨.builtin .append,#[x,y],#[T,T]⟩,ty,ps,af,none⟩::rest) n f c.w :=
 s_appL hn hx hy HS hk hz hbb hlim H (HA.add HV) fun v' c' vals' h1 H HA=>k v' c' (vals++vals') (by rw [List.length_append];exact H) ⟨⟨HA.h.1.append h1,HA.h.2⟩⟩

def SF {α:Type} [Enc α] (xs:List α) (v:Value) (c:Cx) : Prop:=Sl v xs c∧Fu v
instance {α : Type} [Enc α] (xs : List α) (v : Value) : Mono (SF xs v):=⟨fun h k=>⟨Mono.mono h k.1,k.2⟩⟩
theorem Hd.addSF {α:Type} {iE:Enc α} {xs:List α} {v:Value} (HA:Hd A c) (h:SF xs v c) : Hd (fun c=>Sl v xs c∧Fu v∧A c) c:=⟨h.1,h.2,HA.h⟩
theorem pq_sf {f:Nat→Value} {d:Nat} {v:Value} {α:Type} {iE:Enc α} {x:List α} (H:Owns c0 L c) (HA:Hd A c) (h:Sl v x c) (h2:Fu v) : WX (PQ n f d (.rel (SF x)) c0 L A) .normal n (upd f d v) c.w:=pq_rel H HA ⟨h,h2⟩
theorem Sl.of_vals {α:Type} [Enc α] {vals:List (List Value)} {xs:List α} {b cap:Nat} {ex:List Value} {T:TypeId} {fr:Nat×Nat} {cs:Array Value} {w:World} {M:Nat→Prop} (hv:Vals vals xs ⟨w,M⟩) (hb:w.heap[b]?=some (.cells cs T fr)) (hcs:cs.toList=vals.flatten++ex) (hM:¬M b) (hcap:xs.length≤cap) (hlim:xs.length<LIM) :
  Sl (.slice (some ⟨b,0,none⟩) xs.length cap) xs ⟨w,M⟩:=by
 refine ⟨hlim,some ⟨b,0,none⟩,cap,rfl,hcap,fun _=>⟨b,0,rfl,fun i x hx=>?_⟩⟩
 have hil : i<xs.length:=(List.getElem?_eq_some_iff.1 hx).1
 have hvi : vals[i]?=some (vals[i]'(by rw [hv.1];exact hil)):=List.getElem?_eq_getElem _
 refine ⟨_,hv.2 i _ x hvi hx,fun j u hu=>⟨?_,hM⟩⟩
 have hj : j<Enc.k α:=by
  have:=(List.getElem?_eq_some_iff.1 hu).1
  rwa [hv.len _ (List.mem_of_getElem? hvi)] at this
 have hf:=flatten_get vals hv.len i _ j hvi hj
 show w.cell? _=some u
 rw [cell_of_row _ _ _ _ _ _ hb,←Array.getElem?_toList,hcs,show 0+i*Enc.k α+j=i*Enc.k α+j by omega]
 rw [List.getElem?_append_left (by
  have:=(List.getElem?_eq_some_iff.1 (hf.trans hu)).1
  exact this),hf]
 exact hu
theorem s_appF {α:Type} {iE:Enc α} {T e:TypeId} {z:Value} {kk bb:Nat} {x y:Operand} {v v2:Value} {xs ys:List α} (hn:Nat.blt d n=true) [SlT P T e] [TyI P e z kk bb] (hx:opd f x=v) (hy:opd f y=v2)
  (HX:Sl v xs c) (HF:Fu v) (HS:Sl v2 ys c) (hk:Enc.k α=kk) (hbb:Nat.ble bb 128=true) (hlim:xs.length+ys.length<1099511627776)
  (H:Owns c0 L c) (HA:Hd A c) (hMA:Mono A) (k:∀v' c',Owns c0 L c'→Hd (fun c=>Sl v' (xs++ys) c∧A c) c'→W P ops Q rest n (upd f d v') c'.w) :
  W P ops Q (⟨some d,.call ⟨.builtin .append,#[x,y],#[T,T]⟩,ty,ps,af,none⟩::rest) n f c.w:=by
 obtain ⟨i,hi,hiz,his,hib⟩:=TyI.h (P:=P) (e:=e)
 have hbb:=Nat.le_of_ble_eq_true hbb
 obtain ⟨a1,n1,rfl⟩:=HF
 have hX:=HX
 have hY:=HS
 obtain ⟨vals1,ad1,cap1,hv1,he1,hc1,hcell1⟩:=HX.vals
 obtain ⟨vals2,ad2,cap2,hv2,he2,hc2,hcell2⟩:=HS.vals
 simp only [Value.slice.injEq] at he1
 obtain ⟨rfl,rfl,rfl⟩:=he1
 have hlen1:=flatten_len _ hv1.len
 have hlen2:=flatten_len _ hv2.len
 by_cases hy0 : ys=[]
 ·subst hy0
  have hvn : vals2=[]:=List.eq_nil_of_length_eq_zero hv2.1
  subst hvn
  have hsrc : Src P i.size T v2 0 [] c.w:=by
   subst he2
   cases ad2 with
   | none=>exact Src.ofNil c.w (SlT.h (P:=P) (T:=T)) cap2
   | some a=>exact Src.ofSlice c.w (SlT.h (P:=P) (T:=T)) a 0 cap2 [] (by simp) (fun j u hu=>by simp at hu) (fun u hu=>by simp at hu)
  have hrun:=run_append_nothing c.w T T ty e i (SlT.h (P:=P)) hi (some a1) xs.length xs.length (Nat.le_refl _) v2 hsrc
  refine st_val hn (w':=c.w) ?_ (k _ c H (HA.add (by simpa using hX)))
  simp [execOp,resolve,invoke,builtin,hx,hy,hrun]
 ·obtain ⟨b2,o2,ha2,hc2'⟩:=hcell2 hy0
  subst ha2
  subst he2
  have hypos : 0<ys.length:=List.length_pos_iff.2 hy0
  have hbytes : (xs.length+ys.length)*bb≤140737488355328:=Nat.le_trans (Nat.mul_le_mul (Nat.le_of_lt hlim) hbb) (by omega)
  have holds : ∀j u,vals1.flatten[j]?=some u→c.w.cell? (a1.add j)=some u:=by
   intro j u hj
   have hne : xs≠[]:=by
    rintro rfl
    have : vals1=[]:=List.eq_nil_of_length_eq_zero hv1.1
    subst this
    simp at hj
   obtain ⟨b1,o1,ha1,hc1'⟩:=hcell1 hne
   simp at ha1
   subst ha1
   rw [Addr.add_lit]
   exact (hc1' j u hj).1
  have hgw:=run_append_grow (P:=P) c.w T ty e i z (SlT.h (P:=P)) hi hiz a1 xs.length xs.length vals1.flatten (by rw [hlen1,hv1.1,his,hk]) holds ⟨b2,o2,none⟩ ys.length cap2 vals2.flatten (by rw [hlen2,hv2.1,his,hk]) (fun j u hu=>by rw [Addr.add_lit];exact (hc2' j u hu).1) (by omega) (by omega) (by rw [hib];exact growslice_fits (by omega) hbytes)
  have hge:=grownCap_ge c.w (xs.length+ys.length) xs.length e
  generalize grownCap c.w (xs.length+ys.length) xs.length e=G at hgw hge
  generalize hcs : vals1.flatten.toArray++vals2.flatten.toArray++Builtin.zeroCells z.cells (G-(xs.length+ys.length))=cs at hgw
  have hext : Ext0 c.w (c.w.drew.alloc (.cells cs e)):=(Ext0.draw c.w).trans (Ext0.alloc _ _)
  have hl : (xs++ys).length=xs.length+ys.length:=List.length_append
  have hSl : Sl (.slice (some ⟨c.w.heap.size,0,none⟩) (xs.length+ys.length) G) (xs++ys) ⟨c.w.drew.alloc (.cells cs e),c.M⟩:=by
   rw [←hl]
   refine Sl.of_vals (vals:=vals1++vals2) (ex:=(Builtin.zeroCells z.cells (G-(xs.length+ys.length))).toList) (cs:=cs) (T:=e) (fr:=(0,0)) ((Mono.mono (Le.of_ext hext) hv1).append (Mono.mono (Le.of_ext hext) hv2)) (heap_alloc_new c.w.drew _) ?_ (fun hM=>Nat.lt_irrefl _ (H.mbd _ hM)) (by rw [hl];exact hge) (by rw [hl];exact hlim)
   subst hcs
   simp
  refine st_val hn (w':=c.w.drew.alloc (.cells cs e)) (v:=.slice (some ⟨c.w.heap.size,0,none⟩) (xs.length+ys.length) G) ?_ (k _ ⟨_,c.M⟩ (H.of_ext hext) ((HA.to (Le.of_ext hext)).add hSl))
  simp [execOp,resolve,invoke,builtin,hx,hy,hgw]

/-! ### slices of slices -/
theorem Sl.sub {α:Type} [Enc α] {v:Value} {xs:List α} {c:Cx} (h:Sl v xs c) {lo hi:Nat} (hlo:lo≤hi) (hhi:hi≤xs.length) : ∃ad cap,v=.slice ad xs.length cap∧xs.length≤cap ∧
  Sl (match ad with|some a=>.slice (some (a.add (lo*Enc.k α))) (hi-lo) (cap-lo)|none=>.slice none 0 0) ((xs.drop lo).take (hi-lo)) c∧(ad=none→xs=[]):=by
 obtain ⟨h0,ad,cap,hv,hc,hne⟩:=h
 have hl : ((xs.drop lo).take (hi-lo)).length=hi-lo:=by simp;omega
 cases ad with
 | none =>
  have hx : xs=[]:=by
   cases xs with
   | nil=>rfl
   | cons x xs=>obtain ⟨b,o,e,_⟩:=hne (by simp);cases e
  subst hx
  exact ⟨none,cap,hv,hc,by simpa using Sl.nil c,fun _=>rfl⟩
 | some a =>
  refine ⟨some a,cap,hv,hc,⟨by rw [hl];simp only [LIM] at *;omega,some (a.add (lo*Enc.k α)),cap-lo,by rw [hl],by rw [hl];omega,fun hne'=>?_⟩,fun h=>by cases h⟩
  obtain ⟨b,o,e,h4⟩:=hne (by rintro rfl;simp at hne')
  simp at e
  subst e
  refine ⟨b,o+lo*Enc.k α,by rw [Addr.add_lit],fun i x hx=>?_⟩
  have hi' : i<hi-lo:=by
   have:=(List.getElem?_eq_some_iff.1 hx).1
   rwa [hl] at this
  rw [List.getElem?_take,if_pos hi',List.getElem?_drop] at hx
  have:=h4 (lo+i) x hx
  rwa [Nat.add_mul,←Nat.add_assoc] at this
end

/-! ### loops that fill a row -/
structure LRI {α:Type} [Enc α] (N:Nat) (kf:Nat→Value→List (Nat×Value)) (p:Nat→List α→Prop) (e:TypeId) (kk:Nat) (L:List Res) (c0:Cx) (A:Cx→Prop) (m:Nat) (f:Nat→Value) (c:Cx) (k:Nat) (acc:List α) (v:Value) (vals:List (List Value)) : Prop where
 m : m=N-k
 kf : KS f (kf k v)
 le : k≤N
 p : p k acc
 ow : Owns c0 (.row v e kk acc.length vals.flatten::L) c
 hd : Hd (fun c=>Vals vals acc c∧A c) c
section
variable {P : Program} {Q : Exit → Act → World → Prop} {n : Nat} {f : Nat → Value} {c0 c : Cx} {A : Cx → Prop} {L : List Res} {α : Type} [Enc α]
def LRL (n:Nat) (N:Nat) (kf:Nat→Value→List (Nat×Value)) (p:Nat→List α→Prop) (e:TypeId) (kk:Nat) (L:List Res) (c0:Cx) (A:Cx→Prop) (k:Nat) : Act→World→Prop :=
 LoopI n (fun m f c=>∃k acc v vals,LRI (α:=α) N kf p e kk L c0 A m f c k acc v vals) (N-k)
theorem wc_loopR {x:Code} (N:Nat) (kf:Nat→Value→List (Nat×Value)) (p:Nat→List α→Prop) (k0:Nat) (acc0:List α) {e:TypeId} {kk:Nat} {v0:Value} {vals0:List (List Value)} (H:Owns c0 (.row v0 e kk acc0.length vals0.flatten::L) c) (HV:Vals vals0 acc0 c) (HA:Hd A c)
  (hkf:KS f (kf k0 v0)) (hle:k0≤N) (hp:p k0 acc0)
  (round:∀k acc v vals g c,k≤N→p k acc→Owns c0 (.row v e kk acc.length vals.flatten::L) c→Hd (fun c=>Vals vals acc c∧A c) c→WC P x (Exit.then (LRL n N kf p e kk L c0 A k) Q) n (updA g (kf k v)) c.w) : WC P (.loop x) Q n f c.w:=by
 refine wc_loop (fun m f c=>∃k acc v vals,LRI (α:=α) N kf p e kk L c0 A m f c k acc v vals) (N-k0) ⟨k0,acc0,v0,vals0,rfl,hkf,hle,hp,H,HA.add HV⟩ ?_
 rintro m f c ⟨s,acc,v,vals,rfl,hk,hl,hp,hO,hA⟩
 obtain ⟨g,rfl⟩:=hk.ex
 exact round s acc v vals g c hl hp hO hA
theorem wx_loopR {N:Nat} {kf:Nat→Value→List (Nat×Value)} {p:Nat→List α→Prop} {e:TypeId} {kk:Nat} {k:Nat} (k':Nat) {acc:List α} {v:Value} {vals:List (List Value)} (H:Owns c0 (.row v e kk acc.length vals.flatten::L) c) (HV:Vals vals acc c) (HA:Hd A c)
  (hkf:KS f (kf k' v)) (hle:k<k'∧k'≤N) (hp:p k' acc) : WX (Exit.then (LRL n N kf p e kk L c0 A k) Q) .normal n f c.w :=
 wx_loop (by omega) ⟨k',acc,v,vals,rfl,hkf,hle.2,hp,H,HA.add HV⟩
end
section
variable {P : Program} {ops : Array Oper} {Q : Exit → Act → World → Prop} {n : Nat} {f : Nat → Value} {rest : List Oper} {ty : TypeId} {ps : String} {af : Array Edge} {d : Tmp}
variable {c0 c : Cx} {L : List Res} {A : Cx → Prop}
end

def RowP {α:Type} [Enc α] (e:TypeId) (kk:Nat) (xs:List α) (v:Value) (R:List Res) (c:Cx) : Prop:=∃vals,R=[.row v e kk xs.length vals.flatten]∧Vals vals xs c
instance {α : Type} [Enc α] (e : TypeId) (kk : Nat) (xs : List α) (v : Value) (R : List Res) : Mono (RowP e kk xs v R):=⟨fun h ⟨vals,e,k⟩=>⟨vals,e,Mono.mono h k⟩⟩
theorem rowP {α:Type} {iE:Enc α} {e:TypeId} {kk:Nat} {xs:List α} {v:Value} {vals:List (List Value)} {c:Cx} (h:Vals vals xs c) : RowP e kk xs v [.row v e kk xs.length vals.flatten] c:=⟨vals,rfl,h⟩
theorem Owns.give {c0 c:Cx} {R:List Res} (H:Owns c0 R c) (h0:∀b,c0.M b→b<c0.w.heap.size) : ∃M',Owns c0 R ⟨c.w,M'⟩∧Le c0 ⟨c.w,M'⟩∧Le c ⟨c.w,M'⟩:=by
 refine ⟨fun b=>c0.M b∨∃r∈R,r.blk=some b,⟨H.ext,fun b hb hm=>.inl hm,fun b hb=>?_,fun r hr=>⟨(H.res r hr).1,fun b hb=>⟨.inr ⟨r,hr,hb⟩,((H.res r hr).2 b hb).2⟩⟩,H.dis⟩,
  ⟨H.ext.os,H.ext.tape,H.ext.output,H.ext.drawn,H.ext.size,fun b hb hm=>⟨H.ext.blk b hb,fun h=>?_⟩⟩,⟨rfl,rfl,rfl,Nat.le_refl _,Nat.le_refl _,fun b hb hm=>⟨rfl,fun h=>?_⟩⟩⟩
 ·rcases hb with hb|⟨r,hr,hb⟩
  ·exact Nat.lt_of_lt_of_le (h0 b hb) H.ext.size
  ·exact Res.lt (H.res r hr).1 hb
 ·rcases h with h|⟨r,hr,h⟩
  ·exact hm h
  ·have:=((H.res r hr).2 b h).2
   omega
 ·rcases h with h|⟨r,hr,h⟩
  ·exact hm (H.keep b (h0 b h) h)
  ·exact hm ((H.res r hr).2 b h).1
theorem ret_fnO {P:Program} {fn:Func} {Post:Value→List Res→Cx→Prop} {c0 c:Cx} {R:List Res} {n:Nat} {f:Nat→Value} {v:Value} (H:Owns c0 R c) (h0:∀b,c0.M b→b<c0.w.heap.size) (ho:Outs P fn f c.w v) (hp:Post v R c) (hM:∀v R,Mono (Post v R)) :
  WX (bodyPost P fn (CnOR c0 Post)) .ret n f c.w :=
 ⟨fun a ha=>by
  obtain ⟨M',h1,h2,h3⟩:=H.give h0
  exact ⟨ha.defers,v,ho _ ha.at_,v,R,M',rfl,h1,h2,(hM v R).mono h3 hp⟩⟩
theorem Owns.take {c0 c c':Cx} {L R:List Res} (H:Owns c0 L c) (K:Owns c R c') : Owns c0 (R++L) c':=by
 refine ⟨H.ext.trans K.ext,fun b hb hm=>K.keep b (Nat.lt_of_lt_of_le hb H.ext.size) (H.keep b hb hm),K.mbd,fun r hr=>?_,?_⟩
 ·rcases List.mem_append.1 hr with hr|hr
  ·exact ⟨(K.res r hr).1,fun b hb=>⟨((K.res r hr).2 b hb).1,Nat.le_trans H.ext.size ((K.res r hr).2 b hb).2⟩⟩
  ·have h1:=H.res r hr
   exact ⟨Res.kept h1.1 K.ext.size fun b hb=>K.ext.blk b (Res.lt h1.1 hb),fun b hb=>⟨K.keep b (Res.lt h1.1 hb) (h1.2 b hb).1,(h1.2 b hb).2⟩⟩
 ·refine List.pairwise_append.2 ⟨K.dis,H.dis,fun r hr r' hr' b hb hb'=>?_⟩
  have h1:=((K.res r hr).2 b hb).2
  have h2:=Res.lt (H.res r' hr').1 hb'
  omega
section
variable {P : Program} {ops : Array Oper} {Q : Exit → Act → World → Prop} {n : Nat} {f : Nat → Value} {rest : List Oper} {ty : TypeId} {ps : String} {af : Array Edge} {d : Tmp}
variable {c0 c : Cx} {L : List Res} {A : Cx → Prop}
theorem s_callO {as:Array Operand} {aT:Array TypeId} {g:FuncId} {vs:List Value} {Post:Value→List Res→Cx→Prop} (hn:Nat.blt d n=true) [Ent P g] (hargs:as.toList.map (opd f)=vs) (H:Owns c0 L c) (HA:Hd A c) [Mono A] (hc:CnO P g vs c Post)
  (k:∀v R c',Owns c0 (R++L) c'→Hd (fun c=>Post v R c∧A c) c'→W P ops Q rest n (upd f d v) c'.w) : W P ops Q (⟨some d,.call ⟨.value (.func g),as,aT⟩,ty,ps,af,none⟩::rest) n f c.w :=
 st_enter hn (g:=g) (args:=vs.toArray) (by subst hargs;simp [execOp,resolve,Deferred.ofValue,opd,invoke,Ent.h,←Array.toList_map])
  (R:=fun v w'=>∃R M',Owns c R ⟨w',M'⟩∧Le c ⟨w',M'⟩∧Post v R ⟨w',M'⟩) ((hc H.mbd).mono fun _ _ ⟨v,R,M',he,h1,h2,h3⟩=>⟨v,he,R,M',h1,h2,h3⟩)
  fun v w' ⟨R,M',h1,h2,h3⟩=>k v R ⟨w',M'⟩ (H.take h1) ((HA.to h2).add h3)
theorem s_callR {α:Type} {iE:Enc α} {as:Array Operand} {aT:Array TypeId} {g:FuncId} {vs:List Value} {e:TypeId} {kk:Nat} {xs:List α} (hn:Nat.blt d n=true) [Ent P g] (hargs:as.toList.map (opd f)=vs) (H:Owns c0 L c) (HA:Hd A c) [Mono A] (hc:CnO P g vs c (RowP e kk xs))
  (k:∀v vals c',Owns c0 (.row v e kk xs.length vals.flatten::L) c'→Hd (fun c=>Vals vals xs c∧A c) c'→W P ops Q rest n (upd f d v) c'.w) : W P ops Q (⟨some d,.call ⟨.value (.func g),as,aT⟩,ty,ps,af,none⟩::rest) n f c.w :=
 s_callO hn hargs H HA hc fun v R c' H HA=>by
  obtain ⟨⟨vals,rfl,hv⟩,hA⟩:=HA.h
  exact k v vals c' H ⟨hv,hA⟩
theorem s_bs1O {α:Type} {iE:Enc α} {cv:α→List Value} {T e:TypeId} {z:Value} {kk bb:Nat} {x:Operand} {u:α} (hn:Nat.blt d n=true) [SlT P T e] [TyI P e z kk bb] [TyD P e α cv] (hx:(opd f x).cells=(cv u).toArray) (hk:(cv u).length=kk) (hz:z.cells.size=kk) (hk0:Nat.blt 0 kk=true) (hkb:Nat.ble kk 64=true)
  (H:Owns c0 L c) (HA:Hd A c) (hMA:Mono A) (k:∀v c',Owns c0 (.row v e kk [u].length [cv u].flatten::L) c'→Hd (fun c=>Vals [cv u] [u] c∧A c) c'→W P ops Q rest n (upd f d v) c'.w) : W P ops Q (⟨some d,.buildSlice T 1 #[(0,x)],ty,ps,af,none⟩::rest) n f c.w:=by
 have hrun:=run_bslice1 (P:=P) (w:=c.w) (ty:=ty) (ps:=ps) (af:=af) (d:=d) (T:=T) (e:=e) hx hk hz (Nat.blt_eq▸hk0) (Nat.le_of_ble_eq_true hkb)
 have hO:=World.ownsRow_lit (base:=0) (e:=e) (size:=kk) c.w (cv u).toArray 1 (Nat.zero_le _) (by decide) (by simp [hk])
 have hx0:=Ext0.alloc c.w (.cells (cv u).toArray e (0,0))
 have hN:=H.new (.cells (cv u).toArray e (0,0)) rfl
 have hT:=hN.2.turn (r':=.row (.slice (some ⟨c.w.heap.size,0,none⟩) 1 1) e kk 1 (cv u)) (w':=c.w.alloc (.cells (cv u).toArray e (0,0))) rfl rfl rfl (Nat.le_refl _) (Nat.le_refl _) (fun _ _ _=>rfl) (by simpa [Res.holds] using hO) (fun b hb=>.inl hb)
 have hle:=hN.1.trans hT.1
 refine st_val hn hrun (k _ ⟨_,_⟩ (by simpa using hT.2) ((HA.to hle).add ⟨rfl,fun i cs y h1 h2=>?_⟩))
 cases i with
 | zero =>
  simp at h1 h2
  subst h1 h2
  exact TyD.ok (P:=P) (e:=e) _ _
 | succ i=>simp at h2

/-! ### []T{x, y, ..} -/
inductive EQs {α:Type} [Enc α] (P:Program) (e:TypeId) (c:Cx) : List α→List Value→Prop
 | nil : EQs P e c [] []
 | cons {u:α} {us:List α} {v:Value} {vs:List Value} (h:∃cs:List Value,v.cells=cs.toArray∧Enc.Ok cs u c) (t:EQs P e c us vs) : EQs P e c (u::us) (v::vs)
theorem EQs.consA {α:Type} {iE:Enc α} {e:TypeId} {u:α} {us:List α} {v:Value} {vs:List Value} (h:Ag u v c) (t:EQs P e c us vs) : EQs P e c (u::us) (v::vs):=by
 obtain ⟨cs,rfl,hk⟩:=h
 exact .cons ⟨cs,rfl,hk⟩ t
theorem EQs.consD {α:Type} {iE:Enc α} {e:TypeId} {cv:α→List Value} [TyD P e α cv] {u:α} {us:List α} {v:Value} {vs:List Value} (h:v.cells=(cv u).toArray) (t:EQs P e c us vs) : EQs P e c (u::us) (v::vs) :=
 .cons ⟨_,h,TyD.ok (P:=P) (e:=e) u c⟩ t
theorem EQs.get {α:Type} [Enc α] {e:TypeId} {us:List α} {vs:List Value} (h:EQs P e c us vs) : us.length=vs.length∧(∀v∈vs,v.cells.size=Enc.k α)∧Vals (vs.map fun v=>v.cells.toList) us c:=by
 induction h with
 | nil=>exact ⟨rfl,(fun v h=>by cases h),rfl,fun i cs x h=>by simp at h⟩
 | @cons u us v vs h t ih =>
  obtain ⟨cs,hv,hk⟩:=h
  refine ⟨by simp [ih.1],fun v' hv'=>?_,by simp [ih.1],fun i cs' x h1 h2=>?_⟩
  ·rcases List.mem_cons.1 hv' with rfl|hv'
   ·rw [hv]
    simpa using Enc.len cs u c hk
   ·exact ih.2.1 v' hv'
  ·cases i with
   | zero =>
    simp at h1 h2
    subst h1 h2
    rw [hv]
    exact hk
   | succ i=>exact ih.2.2.2 i cs' x (by simpa using h1) (by simpa using h2)
theorem enumV_of : ∀(l:List (Nat×Operand)) (i:Nat),l.map Prod.fst=List.range' i l.length→l.map (fun p=>(p.1,opd f p.2))=enumV i (l.map fun p=>opd f p.2):=by
 intro l
 induction l with
 | nil=>intro i _;rfl
 | cons p l ih =>
  intro i h
  simp only [List.map_cons,List.length_cons,List.range'_succ,List.cons.injEq] at h
  simp only [List.map_cons,enumV]
  rw [ih (i+1) h.2,h.1]
theorem s_bslG {α:Type} {iE:Enc α} {T e len:Nat} {z:Value} {kk bb:Nat} {xs:Array (Nat×Operand)} {vs:List Value} {us:List α} (hn:Nat.blt d n=true) [SlT P T e] [TyI P e z kk bb] (hi:xs.toList.map Prod.fst=List.range' 0 xs.toList.length) (hx:xs.toList.map (fun p=>opd f p.2)=vs) (hE:EQs P e c us vs) (hl:us.length=len) (hk:Enc.k α=kk) (hz:z.cells.size=kk)
  (hkb:Nat.ble (len*kk) 4096=true) (hkp:Nat.blt 0 (len*kk)=true) (H:Owns c0 L c) (HA:Hd A c) (hMA:Mono A) (k:∀v c',Owns c0 L c'→Hd (fun c=>Sl v us c∧Fu v∧A c) c'→W P ops Q rest n (upd f d v) c'.w) :
  W P ops Q (⟨some d,.buildSlice T len xs,ty,ps,af,none⟩::rest) n f c.w:=by
 have h:=hE.get
 have hlen : len≤4096:=by
  have h1:=Nat.le_of_ble_eq_true hkb
  have h2 : 0<kk:=by rw [←hk];exact Enc.pos
  exact Nat.le_trans (Nat.le_mul_of_pos_right _ h2) h1
 refine s_bsl hn (by rw [enumV_of _ 0 hi,hx]) (h.1▸hl) (fun v hv=>(h.2.1 v hv).trans hk) hz rfl hkb hkp H (HA.add h.2.2) fun b c' H HA=>?_
 refine k _ c' H ⟨?_,⟨⟨b,0,none⟩,len,rfl⟩,HA.h.2.2⟩
 obtain ⟨⟨T',fr,hb⟩,hM⟩:=HA.h.1
 subst hl
 exact Sl.of_vals (ex:=[]) HA.h.2.1 hb (by simp [List.flatMap_def]) hM (Nat.le_refl _) (by simp only [LIM];omega)
end
class CvI (P:Program) (src dst:TypeId) (kd:outParam IntKind) : Prop where
 h : ∀(k0:IntKind) (n:Int) (w:World),(convert src dst (.int k0 n)).run P w=.ok (.int kd (kd.wrap n)) w
theorem CvI.of {P:Program} {src dst:TypeId} {kd:IntKind} (hs:(P.underlying src).isSome=true) (hd:P.underlying dst=some (.int kd)) : CvI P src dst kd:=⟨fun k0 n w=>by
 obtain ⟨d,hd'⟩:=Option.isSome_iff_exists.mp hs
 simp [convert,run_underlying hd',run_underlying hd,Conv.intToInt]⟩
section
variable {P : Program} {ops : Array Oper} {Q : Exit → Act → World → Prop} {n : Nat} {f : Nat → Value} {rest : List Oper} {ty : TypeId} {ps : String} {af : Array Edge} {d : Tmp} {w : World}
theorem s_conv {src dst:TypeId} {k0 kd:IntKind} {x:Operand} {m r:Int} (hn:Nat.blt d n=true) [CvI P src dst kd] (hx:opd f x=.int k0 m) (hr:kd.wrap m=r) (k:W P ops Q rest n (upd f d (.int kd r)) w) : W P ops Q (⟨some d,.convert src dst x,ty,ps,af,none⟩::rest) n f w :=
 st_val hn (by subst hr;simp [execOp,hx,CvI.h]) k
end
section
variable {P : Program} {ops : Array Oper} {Q : Exit → Act → World → Prop} {n : Nat} {f : Nat → Value} {rest : List Oper} {ty : TypeId} {ps : String} {af : Array Edge} {d : Tmp} {w : World}
theorem is_store {T:TypeId} {x y:Operand} (h:W P ops Q (⟨none,.store T x y,ty,ps,af,none⟩::rest) n f w) : W P ops Q (⟨none,.store T x y,ty,ps,af,none⟩::rest) n f w:=h
theorem is_alloc {T:TypeId} (h:W P ops Q (⟨some d,.alloc T,ty,ps,af,none⟩::rest) n f w) : W P ops Q (⟨some d,.alloc T,ty,ps,af,none⟩::rest) n f w:=h
theorem is_box {T:TypeId} {x:Operand} (h:W P ops Q (⟨some d,.box T x,ty,ps,af,none⟩::rest) n f w) : W P ops Q (⟨some d,.box T x,ty,ps,af,none⟩::rest) n f w:=h
theorem is_bs {T:TypeId} {m:Nat} {x:Array (Nat×Operand)} (h:W P ops Q (⟨some d,.buildSlice T m x,ty,ps,af,none⟩::rest) n f w) : W P ops Q (⟨some d,.buildSlice T m x,ty,ps,af,none⟩::rest) n f w:=h
end
theorem bld_nil {f:Nat→Value} : ([]:List (Nat×Operand)).map (fun p=>(p.1,opd f p.2))=[]:=rfl
theorem bld_cons {f:Nat→Value} {i:Nat} {x:Operand} {v:Value} {xs:List (Nat×Operand)} {ps:List (Nat×Value)} (h:opd f x=v) (t:xs.map (fun p=>(p.1,opd f p.2))=ps) : ((i,x)::xs).map (fun p=>(p.1,opd f p.2))=(i,v)::ps:=by
 subst h t
 rfl
theorem ones_nil : ∀v∈([]:List Value),v.oneCell'=true:=fun v h=>by cases h
theorem ones_cons {v:Value} {vs:List Value} (h:v.oneCell'=true) (t:∀u∈vs,u.oneCell'=true) : ∀u∈v::vs,u.oneCell'=true:=fun u hu=>by
 rcases List.mem_cons.1 hu with rfl|hu
 ·exact h
 ·exact t u hu
theorem Sl.oneC {α:Type} {iE:Enc α} {v:Value} {xs:List α} {c:Cx} (h:Sl v xs c) : v.oneCell'=true:=by
 obtain ⟨_,_,_,rfl,_⟩:=h
 rfl
theorem Owns.rowOne {c0 c:Cx} {L:List Res} {v:Value} {e:TypeId} {k n:Nat} {xs:List Value} (H:Owns c0 L c) (h:Res.row v e k n xs∈L) : v.oneCell'=true:=by
 rcases (H.res _ h).1.2 with ⟨rfl,_⟩|⟨g,cap,cur,rfl,_⟩<;>rfl
theorem Owns.rowCells {c0 c:Cx} {L:List Res} {v:Value} {e:TypeId} {k n:Nat} {xs:List Value} (H:Owns c0 L c) (h:Res.row v e k n xs∈L) : v.cells=#[v]:=by
 rcases (H.res _ h).1.2 with ⟨rfl,_⟩|⟨g,cap,cur,rfl,_⟩<;>rfl
theorem Sl.cellsC {α:Type} {iE:Enc α} {v:Value} {xs:List α} {c:Cx} (h:Sl v xs c) : v.cells=#[v]:=by
 obtain ⟨_,_,_,rfl,_⟩:=h
 rfl
theorem wrapK2 {k:Nat} (h:k<4611686018427387904) : IntKind.i64.wrap ((k:Int)+2)=((k+2:Nat):Int):=by
 rw [wrapI (by omega) (by omega)]
 omega
theorem Sb.sl {α:Type} {iE:Enc α} {cs:List Value} {v:Value} {c:Cx} {u:α} (h:Sb cs v c) (hx:Enc.Ok cs u c) : Sl v [u] c∧Fu v:=by
 obtain ⟨b,rfl,hB⟩:=h
 exact ⟨Sl.of_box hB hx,⟨_,_,rfl⟩⟩
theorem byteWrap (u:UInt8) : IntKind.i64.wrap ((u.toNat:Nat):Int)=((u.toNat:Nat):Int):=by
 have:=u.toNat_lt
 exact wrapI (by omega) (by omega)
theorem byte_get {s:ByteArray} {k:Nat} (h:(k:Int)<(s.size:Int)) : ∃u,s.data[k]?=some u∧s.data.toList[k]?=some u:=by
 have hk : k<s.data.size:=by
  have : k<s.size:=by omega
  exact this
 exact ⟨s.data[k],Array.getElem?_eq_getElem hk,by simp [hk]⟩

def RPt (v:Value) (kk i:Nat) (p:Value) : Prop:=∃g m cap,v=.slice (some ⟨g,0,none⟩) m cap∧p=.pointer (some ⟨g,i*kk,none⟩)
theorem row_blk {c0 c:Cx} {L:List Res} {v:Value} {e:TypeId} {kk m:Nat} {xs:List Value} (H:Owns c0 L c) (hm:Res.row v e kk m xs∈L) (h:0<m) : ∃g cap cur,v=.slice (some ⟨g,0,none⟩) m cap∧c.w.heap[g]?=some (.cells cur e (0,0))∧m≤cap∧cur.size=cap*kk∧cur.toList.take (m*kk)=xs:=by
 rcases (H.res _ hm).1.2 with ⟨_,h0⟩|⟨g,cap,cur,h1,_,h2,h3,_,h4,h5⟩
 ·omega
 ·exact ⟨g,cap,cur,h1,h2,h3,h4,h5⟩
section
variable {P : Program} {ops : Array Oper} {Q : Exit → Act → World → Prop} {n : Nat} {f : Nat → Value} {rest : List Oper} {ty : TypeId} {ps : String} {af : Array Edge} {d : Tmp}
variable {c0 c : Cx} {L : List Res} {A : Cx → Prop}
theorem s_ixR {T e:TypeId} {z:Value} {kk by_:Nat} {x y:Operand} {v:Value} {i m:Nat} {q:Int} {xs:List Value} (hn:Nat.blt d n=true) [SlT P T e] [TyI P e z kk by_] (hx:opd f x=v) (hy:opd f y=.int .i64 q) (H:Owns c0 L c) (hm:Res.row v e kk m xs∈L)
  (hq:q=(i:Int)) (hi:i<m) (k:∀v',RPt v kk i v'→W P ops Q rest n (upd f d v') c.w) : W P ops Q (⟨some d,.indexAddr T x y,ty,ps,af,none⟩::rest) n f c.w:=by
 subst hq
 obtain ⟨g,cap,cur,rfl,_⟩:=row_blk H hm (by omega)
 obtain ⟨inf,hinf,_,hs,_⟩:=TyI.h (P:=P) (e:=e)
 refine st_val hn (w':=c.w) ?_ (k (.pointer (some ⟨g,i*kk,none⟩)) ⟨g,m,cap,rfl,rfl⟩)
 simp [execOp,Instr.indexAt,asIntOf,hx,hy,run_underlying (SlT.h (P:=P) (T:=T)),sizeOf,typeInfo,hinf,hi,Addr.add_lit,hs]
theorem row_cell {v:Value} {e:TypeId} {kk m i:Nat} {vals:List (List Value)} {cs:List Value} {p:Value} (H:Owns c0 L c) (hm:Res.row v e kk m vals.flatten∈L) (hk:∀cs∈vals,cs.length=kk) (hv:vals[i]?=some cs) (hr:RPt v kk i p) :
  ∃b,p=.pointer (some ⟨b,i*kk,none⟩)∧∀j u,cs[j]?=some u→c.w.cell? ⟨b,i*kk+j,none⟩=some u:=by
 obtain ⟨g,m',cap',rfl,rfl⟩:=hr
 refine ⟨g,rfl,fun j u hu=>?_⟩
 have hjl : j<kk:=by
  have:=(List.getElem?_eq_some_iff.1 hu).1
  rwa [hk _ (List.mem_of_getElem? hv)] at this
 have hf:=flatten_get vals hk i cs j hv hjl
 have hcell:=World.ownsRow.cells (H.res _ hm).1 (g:=g) rfl (i*kk+j) u (by rw [hf];exact hu)
 rwa [Addr.add_lit,Nat.zero_add] at hcell
theorem s_ldRD {α:Type} {iE:Enc α} {cv:α→List Value} {T e:TypeId} {kk m i:Nat} {x:Operand} {v p:Value} {u:α} {acc:List α} {vals:List (List Value)} (hn:Nat.blt d n=true) [Agg P T kk] (hx:opd f x=p) (hr:RPt v kk i p) (H:Owns c0 L c) (hm:Res.row v e kk m vals.flatten∈L)
  (HV:Vals vals acc c) (hk:Enc.k α=kk) (hu:acc[i]?=some u) (hR:RdA α cv) (k:W P ops Q rest n (upd f d (.agg (cv u).toArray)) c.w) : W P ops Q (⟨some d,.load T x,ty,ps,af,none⟩::rest) n f c.w:=by
 subst hk
 have hil : i<vals.length:=by rw [HV.1];exact (List.getElem?_eq_some_iff.1 hu).1
 have hvi : vals[i]?=some vals[i]:=List.getElem?_eq_getElem hil
 have hok:=HV.2 i _ u hvi hu
 obtain ⟨b,rfl,hc⟩:=row_cell H hm HV.len hvi hr
 rw [←RdA.h (cs:=cv) hok] at k
 exact st_val hn (by simp [execOp,Instr.loadAt,Instr.sureAddr,hx,run_loadk (P:=P) (T:=T) (Enc.len _ u c hok) hc]) k
theorem s_ldRV {α:Type} {iE:Enc α} {val:α→Value} {T e:TypeId} {m i:Nat} {x:Operand} {v p:Value} {u:α} {acc:List α} {vals:List (List Value)} (hn:Nat.blt d n=true) [Prim P T] (hx:opd f x=p) (hr:RPt v 1 i p) (H:Owns c0 L c) (hm:Res.row v e 1 m vals.flatten∈L)
  (HV:Vals vals acc c) (hu:acc[i]?=some u) (hR:RdV α val) (k:W P ops Q rest n (upd f d (val u)) c.w) : W P ops Q (⟨some d,.load T x,ty,ps,af,none⟩::rest) n f c.w:=by
 have hil : i<vals.length:=by rw [HV.1];exact (List.getElem?_eq_some_iff.1 hu).1
 have hvi : vals[i]?=some vals[i]:=List.getElem?_eq_getElem hil
 have hok:=HV.2 i _ u hvi hu
 have hl:=Enc.len _ u c hok
 rw [RdV.one (val:=val)] at hl
 obtain ⟨b,rfl,hc⟩:=row_cell H hm (by have:=HV.len;rwa [RdV.one (val:=val)] at this) hvi hr
 match he : vals[i],hl with
 | [y],_ =>
  rw [he] at hok hc
  rw [←RdV.h (val:=val) hok] at k
  have:=hc 0 y rfl
  simp only [Nat.mul_one,Nat.add_zero] at this
  exact st_val hn (by simp only [execOp,Instr.loadAt,Instr.sureAddr,hx];simp [run_load1 (P:=P) (T:=T) this]) k
theorem s_ldRP {α:Type} {iE:Enc α} {T e:TypeId} {m i:Nat} {x:Operand} {v p:Value} {u:α} {acc:List α} {vals:List (List Value)} (hn:Nat.blt d n=true) [Prim P T] (hx:opd f x=p) (hr:RPt v 1 i p) (H:Owns c0 L c) (hm:Res.row v e 1 m vals.flatten∈L)
  (HV:Vals vals acc c) (hu:acc[i]?=some u) (h1:Enc.k α=1) (k:∀y,Enc.Ok [y] u c→W P ops Q rest n (upd f d y) c.w) : W P ops Q (⟨some d,.load T x,ty,ps,af,none⟩::rest) n f c.w:=by
 have hil : i<vals.length:=by rw [HV.1];exact (List.getElem?_eq_some_iff.1 hu).1
 have hvi : vals[i]?=some vals[i]:=List.getElem?_eq_getElem hil
 have hok:=HV.2 i _ u hvi hu
 have hl:=Enc.len _ u c hok
 rw [h1] at hl
 obtain ⟨b,rfl,hc⟩:=row_cell H hm (by have:=HV.len;rwa [h1] at this) hvi hr
 match he : vals[i],hl with
 | [y],_ =>
  rw [he] at hok hc
  have:=hc 0 y rfl
  simp only [Nat.mul_one,Nat.add_zero] at this
  exact st_val hn (by simp only [execOp,Instr.loadAt,Instr.sureAddr,hx];simp [run_load1 (P:=P) (T:=T) this]) (k y hok)
theorem flatten_set {kk:Nat} : ∀(vals:List (List Value)),(∀cs∈vals,cs.length=kk)→∀i cs,i<vals.length→cs.length=kk→(vals.set i cs).flatten=vals.flatten.take (i*kk)++cs++vals.flatten.drop (i*kk+kk):=by
 intro vals
 induction vals with
 | nil=>intro _ i cs h;simp at h
 | cons v vals ih =>
  intro hk i cs hi hc
  have hv:=hk v (List.mem_cons_self ..)
  cases i with
  | zero =>
   simp only [List.set_cons_zero,List.flatten_cons,Nat.zero_mul,List.take_zero,List.nil_append,Nat.zero_add]
   rw [List.drop_append,List.drop_eq_nil_of_le (by omega),hv,Nat.sub_self]
   simp
  | succ i =>
   simp only [List.set_cons_succ,List.flatten_cons]
   rw [ih (fun c hc=>hk c (List.mem_cons_of_mem _ hc)) i cs (by simpa using hi) hc]
   have e : (i+1)*kk=kk+i*kk:=by rw [Nat.add_mul];omega
   rw [e,List.take_append,List.drop_append,hv,List.take_of_length_le (l:=v) (by omega),List.drop_eq_nil_of_le (as:=v) (by omega)]
   simp only [List.nil_append,List.append_assoc]
   congr 2
   ·congr 1;omega
   ·congr 2;omega
theorem Owns.storeRow {α:Type} {iE:Enc α} {e:TypeId} {kk i:Nat} {v p:Value} {u:α} {acc:List α} {vals:List (List Value)} {cs:List Value} (H:Owns c0 (.row v e kk acc.length vals.flatten::L) c) (hr:RPt v kk i p) (hi:i<acc.length) (HV:Vals vals acc c) (hk:Enc.k α=kk) (hcs:Enc.Ok cs u c) :
  ∃b c',p=.pointer (some ⟨b,i*kk,none⟩)∧(storeCells ⟨b,i*kk,none⟩ cs).run P c.w=.ok () c'.w∧Le c c'∧Owns c0 (.row v e kk (acc.set i u).length (vals.set i cs).flatten::L) c'∧Vals (vals.set i cs) (acc.set i u) c':=by
 obtain ⟨g,m',cap',hv,rfl⟩:=hr
 obtain ⟨g2,cap,cur,hv2,hb,hmc,hsz,htk⟩:=row_blk H (List.mem_cons_self ..) (Nat.lt_of_le_of_lt (Nat.zero_le _) hi)
 rw [hv] at hv2
 simp only [Value.slice.injEq,Option.some.injEq,Addr.mk.injEq] at hv2
 obtain ⟨⟨rfl,_⟩,rfl,rfl⟩:=hv2
 have hlen : cs.length=kk:=(Enc.len cs u c hcs).trans hk
 have hmul : (i+1)*kk≤acc.length*kk:=Nat.mul_le_mul_right _ hi
 have hcap : acc.length*kk≤cap'*kk:=Nat.mul_le_mul_right _ hmc
 rw [Nat.add_mul,Nat.one_mul] at hmul
 have hbl : c.w.heap[g]?=some (.cells (cur.toList.toArray) e (0,0)):=by simpa using hb
 obtain ⟨w',hrun,hh,e1,e2,e3,e4,e5,e6⟩:=stores_row (P:=P) g e cs (i*kk) 0 cur.toList c.w hbl (by simp;omega) (Enc.one cs u c hcs)
 rw [Nat.add_zero] at hh
 have hV':=HV.set i hcs
 have hown:=(H.res _ (List.mem_cons_self ..)).1
 have hmax : cap'≤maxLen:=by
  rcases hown.2 with ⟨h0,_⟩|⟨g3,cap3,cur3,h1,_,_,_,h4,_⟩
  ·rw [hv] at h0;simp at h0
  ·rw [hv] at h1;simp at h1;omega
 have hil : i<vals.length:=by rw [HV.1];exact hi
 have hrow : w'.ownsRow 0 e kk v acc.length (vals.set i cs).flatten:=by
  refine ⟨?_,.inr ⟨g,cap',_,hv,Nat.zero_le _,hh,hmc,hmax,?_,?_⟩⟩
  ·have:=flatten_len (k:=kk) (vals.set i cs) (by have:=hV'.len;rwa [hk] at this)
   rw [this,List.length_set,HV.1]
  ·simp only [List.size_toArray,List.length_append,List.length_take,List.length_drop,Array.length_toList,hsz]
   omega
  ·rw [flatten_set vals (by have:=HV.len;rwa [hk] at this) i cs hil hlen]
   simp only [List.toList_toArray]
   rw [←htk]
   have l1 : (cur.toList.take (i*kk)).length=i*kk:=by simp;omega
   rw [List.take_append,List.take_append,l1,List.take_of_length_le (l:=cur.toList.take (i*kk)) (by omega),List.take_of_length_le (l:=cs) (by omega),List.take_take,Nat.min_eq_left (by omega)]
   congr 1
   rw [List.drop_take]
   simp only [List.length_append,l1,hlen]
 have h2:=H.turn (r':=.row v e kk acc.length (vals.set i cs).flatten) e1 e2 e3 (by omega) (by omega) (fun x hx hne=>e6 x (fun e=>hne (by subst e;simp [Res.blk,hv,Value.ownBlock]))) hrow (fun x hx=>.inl hx)
 exact ⟨g,⟨w',_⟩,rfl,hrun,h2.1,by rw [List.length_set];exact h2.2,Mono.mono h2.1 hV'⟩
theorem s_stRA {α:Type} {iE:Enc α} {T' e:TypeId} {kk i:Nat} {x y:Operand} {v p:Value} {u:α} {acc:List α} {vals:List (List Value)} {cs:List Value} [Agg P T' kk] (hx:opd f x=p) (hy:opd f y=.agg cs.toArray) (hr:RPt v kk i p) (H:Owns c0 (.row v e kk acc.length vals.flatten::L) c)
  (HV:Vals vals acc c) (hi:i<acc.length) (hk:Enc.k α=kk) (hcs:Enc.Ok cs u c) (HA:Hd A c) (hMA:Mono A)
  (k:∀c',Owns c0 (.row v e kk (acc.set i u).length (vals.set i cs).flatten::L) c'→Hd (fun c=>Vals (vals.set i cs) (acc.set i u) c∧A c) c'→W P ops Q rest n f c'.w) : W P ops Q (⟨none,.store T' x y,ty,ps,af,none⟩::rest) n f c.w:=by
 obtain ⟨b,c',rfl,hrun,hle,hO,hV⟩:=H.storeRow (P:=P) hr hi HV hk hcs
 refine st_skip (w':=c'.w) ?_ (k c' hO ((HA.to hle).add hV))
 have hl : cs.length=kk:=(Enc.len cs u c hcs).trans hk
 simp [execOp,Instr.storeAt,Instr.sureAddr,storeVar,hx,hy,Agg.sz (P:=P) (T:=T'),Value.cells,hl,hrun]
theorem s_stRP {α:Type} {iE:Enc α} {T' e:TypeId} {i:Nat} {x y:Operand} {v p val:Value} {u:α} {acc:List α} {vals:List (List Value)} [Prim P T'] (hx:opd f x=p) (hy:opd f y=val) (hc:val.cells=#[val]) (hr:RPt v 1 i p) (H:Owns c0 (.row v e 1 acc.length vals.flatten::L) c)
  (HV:Vals vals acc c) (hi:i<acc.length) (hk:Enc.k α=1) (hcs:Enc.Ok [val] u c) (HA:Hd A c) (hMA:Mono A)
  (k:∀c',Owns c0 (.row v e 1 (acc.set i u).length (vals.set i [val]).flatten::L) c'→Hd (fun c=>Vals (vals.set i [val]) (acc.set i u) c∧A c) c'→W P ops Q rest n f c'.w) : W P ops Q (⟨none,.store T' x y,ty,ps,af,none⟩::rest) n f c.w:=by
 obtain ⟨b,c',rfl,hrun,hle,hO,hV⟩:=H.storeRow (P:=P) hr hi HV hk hcs
 refine st_skip (w':=c'.w) ?_ (k c' hO ((HA.to hle).add hV))
 simp only [execOp,Instr.storeAt,Instr.sureAddr,storeVar,hx,hy]
 simp only [Nat.mul_one] at hrun
 simp [Prim.sz (P:=P) (T:=T'),hc,hrun]
theorem s_lenR {t' e:TypeId} {x:Operand} {v:Value} {e':TypeId} {kk m:Nat} {xs:List Value} (hn:Nat.blt d n=true) [SlT P t' e] (hx:opd f x=v) (H:Owns c0 L c) (hm:Res.row v e' kk m xs∈L) (k:W P ops Q rest n (upd f d (.int .i64 m)) c.w) :
  W P ops Q (⟨some d,.call ⟨.builtin .len,#[x],#[t']⟩,ty,ps,af,none⟩::rest) n f c.w:=by
 rcases (H.res _ hm).1.2 with ⟨rfl,h0⟩|⟨g,cap,cur,h1,_⟩
 ·subst h0
  exact s_lenL hn hx k
 ·exact s_lenL hn (hx.trans h1) k

/-! ### make -/
theorem madeCells_eq {z:Array Value} {kk:Nat} (hz:z.size=kk) (hk:0<kk) (m:Nat) : (madeCells z (m*kk)).toList=(List.replicate m z.toList).flatten:=by
 refine List.ext_getElem? fun j=>?_
 unfold madeCells
 rcases Nat.lt_or_ge j (m*kk) with hj|hj
 ·have hd : j / kk<m:=Nat.div_lt_of_lt_mul (by rw [Nat.mul_comm];exact hj)
  have hm : j % kk<kk:=Nat.mod_lt _ hk
  have hf:=flatten_get (k:=kk) (List.replicate m z.toList) (fun cs hcs=>by rw [List.eq_of_mem_replicate hcs];simpa using hz) (j / kk) z.toList (j % kk) (by simp [hd]) hm
  rw [Nat.div_add_mod'] at hf
  rw [hf]
  simp [hj,hz,hm]
 ·have h1:=flatten_len (k:=kk) (List.replicate m z.toList) (fun cs hcs=>by rw [List.eq_of_mem_replicate hcs];simpa using hz)
  rw [List.getElem?_eq_none (by simpa using hj),List.getElem?_eq_none (by rw [h1];simpa using hj)]
theorem s_makeF {α:Type} {iE:Enc α} {cv:α→List Value} {T e:TypeId} {z:Value} {kk bb m:Nat} {x y:Operand} {u:α} (hn:Nat.blt d n=true) [SlT P T e] [TyI P e z kk bb] (hx:opd f x=.int .i64 m) (hy:opd f y=.int .i64 m) (hz:z.cells=(cv u).toArray) (hu:∀c,Enc.Ok (cv u) u c) (hk:Enc.k α=kk) (hbb:Nat.ble bb 128=true) (hlim:m<LIM)
  (H:Owns c0 L c) (HA:Hd A c) (hMA:Mono A) (k:∀v c',Owns c0 (.row v e kk (List.replicate m u).length (List.replicate m (cv u)).flatten::L) c'→Hd (fun c=>Vals (List.replicate m (cv u)) (List.replicate m u) c∧A c) c'→W P ops Q rest n (upd f d v) c'.w) :
  W P ops Q (⟨some d,.makeSlice T x y,ty,ps,af,none⟩::rest) n f c.w:=by
 obtain ⟨i,hi,hiz,his,hib⟩:=TyI.h (P:=P) (e:=e)
 have hb:=Nat.le_of_ble_eq_true hbb
 have hlen : (cv u).length=kk:=(Enc.len _ u c (hu c)).trans hk
 have hkp : 0<kk:=hk▸Enc.pos
 have hmul : bb*m≤128*m:=Nat.mul_le_mul_right _ hb
 have hmul' : ((bb:Int)*(m:Int))≤281474976710656:=by
  have : ((bb*m:Nat):Int)≤281474976710656:=by simp only [LIM] at hlim;omega
  rwa [Int.natCast_mul] at this
 have hr:=run_make (P:=P) c.w T e i z (SlT.h (P:=P)) hi hiz .i64 .i64 (m:Int) (m:Int) (by omega) (Int.le_refl _) (by rw [hib];exact hmul') (by simp only [LIM] at hlim;omega)
 simp only [Int.toNat_natCast,his] at hr
 have hN:=H.new (.cells (madeCells z.cells (m*kk)) e) rfl
 have hzs : z.cells.size=kk:=by rw [hz];simpa using hlen
 have hcells : (madeCells z.cells (m*kk)).toList=(List.replicate m (cv u)).flatten:=by
  rw [madeCells_eq hzs hkp,hz]
 have hsz : (madeCells z.cells (m*kk)).size=m*kk:=by simp [madeCells]
 have hown : (c.w.alloc (.cells (madeCells z.cells (m*kk)) e)).ownsRow 0 e kk (.slice (some ⟨c.w.heap.size,0,none⟩) m m) m (List.replicate m (cv u)).flatten:=by
  refine ⟨?_,.inr ⟨c.w.heap.size,m,_,rfl,Nat.zero_le _,heap_alloc_new c.w _,Nat.le_refl _,by simp only [maxLen,LIM] at *;omega,hsz,?_⟩⟩
  ·rw [←hcells];simpa using hsz
  ·rw [hcells,List.take_of_length_le]
   rw [←hcells];simp [hsz]
 have hT:=hN.2.turn (r':=.row (.slice (some ⟨c.w.heap.size,0,none⟩) m m) e kk m (List.replicate m (cv u)).flatten) (w':=c.w.alloc (.cells (madeCells z.cells (m*kk)) e)) rfl rfl rfl (Nat.le_refl _) (Nat.le_refl _) (fun _ _ _=>rfl) hown (fun b hb=>.inl hb)
 refine st_val hn (w':=c.w.alloc (.cells (madeCells z.cells (m*kk)) e)) ?_ (k _ ⟨_,_⟩ (by simpa using hT.2) ((HA.to (hN.1.trans hT.1)).add ⟨by simp,fun j cs y h1 h2=>?_⟩))
 ·simp [execOp,hx,hy,hr]
 ·rw [List.getElem?_replicate] at h1 h2
  split at h1
  ·rename_i hj
   rw [if_pos hj] at h2
   simp at h1 h2
   subst h1 h2
   exact hu _
  ·cases h1
theorem s_makeC {T e:TypeId} {z:Value} {kk bb m:Nat} {x y:Operand} (hn:Nat.blt d n=true) [SlT P T e] [TyI P e z kk bb] (hx:opd f x=.int .i64 0) (hy:opd f y=.int .i64 m) (hbb:Nat.ble bb 128=true) (hlim:m<LIM)
  (H:Owns c0 L c) (HA:Hd A c) (hMA:Mono A) (k:∀v c',Owns c0 (.row v e kk 0 []::L) c'→Hd A c'→W P ops Q rest n (upd f d v) c'.w) :
  W P ops Q (⟨some d,.makeSlice T x y,ty,ps,af,none⟩::rest) n f c.w:=by
 obtain ⟨i,hi,hiz,his,hib⟩:=TyI.h (P:=P) (e:=e)
 have hb:=Nat.le_of_ble_eq_true hbb
 have hmul : bb*m≤128*m:=Nat.mul_le_mul_right _ hb
 have hmul' : ((bb:Int)*(m:Int))≤281474976710656:=by
  have : ((bb*m:Nat):Int)≤281474976710656:=by simp only [LIM] at hlim;omega
  rwa [Int.natCast_mul] at this
 have hr:=run_make (P:=P) c.w T e i z (SlT.h (P:=P)) hi hiz .i64 .i64 0 (m:Int) (by omega) (by omega) (by rw [hib];exact hmul') (by simp only [LIM] at hlim;omega)
 simp only [Int.toNat_natCast,Int.toNat_zero,his] at hr
 have hN:=H.new (.cells (madeCells z.cells (m*kk)) e) rfl
 have hsz : (madeCells z.cells (m*kk)).size=m*kk:=by simp [madeCells]
 have hown : (c.w.alloc (.cells (madeCells z.cells (m*kk)) e)).ownsRow 0 e kk (.slice (some ⟨c.w.heap.size,0,none⟩) 0 m) 0 [] :=
  ⟨by simp,.inr ⟨c.w.heap.size,m,_,rfl,Nat.zero_le _,heap_alloc_new c.w _,Nat.zero_le _,by simp only [maxLen,LIM] at *;omega,hsz,by simp⟩⟩
 have hT:=hN.2.turn (r':=.row (.slice (some ⟨c.w.heap.size,0,none⟩) 0 m) e kk 0 []) (w':=c.w.alloc (.cells (madeCells z.cells (m*kk)) e)) rfl rfl rfl (Nat.le_refl _) (Nat.le_refl _) (fun _ _ _=>rfl) hown (fun b hb=>.inl hb)
 refine st_val hn (w':=c.w.alloc (.cells (madeCells z.cells (m*kk)) e)) ?_ (k _ ⟨_,_⟩ hT.2 (HA.to (hN.1.trans hT.1)))
 simp [execOp,hx,hy,hr]

/-! ### x[lo:hi] -/
theorem Sl.cut {α:Type} [Enc α] {v:Value} {xs:List α} {c:Cx} (h:Sl v xs c) {lo hi:Nat} (hlo:lo≤hi) (hhi:hi≤xs.length) : ∃ad cap,v=.slice ad xs.length cap∧xs.length≤cap ∧
  Sl (.slice (if cap=lo then ad else ad.map (·.add (lo*Enc.k α))) (hi-lo) (cap-lo)) ((xs.drop lo).take (hi-lo)) c:=by
 obtain ⟨h0,ad,cap,hv,hc,hne⟩:=h
 have hl : ((xs.drop lo).take (hi-lo)).length=hi-lo:=by simp;omega
 refine ⟨ad,cap,hv,hc,by rw [hl];simp only [LIM] at *;omega,_,cap-lo,by rw [hl],by rw [hl];omega,fun hne'=>?_⟩
 have hpos : 0<hi-lo:=by rw [←hl];exact List.length_pos_iff.2 hne'
 obtain ⟨b,o,e,h4⟩:=hne (by rintro rfl;simp at hne')
 rw [if_neg (by omega)]
 subst e
 refine ⟨b,o+lo*Enc.k α,by simp [Addr.add_lit],fun i x hx=>?_⟩
 have hi' : i<hi-lo:=by
  have:=(List.getElem?_eq_some_iff.1 hx).1
  rwa [hl] at this
 rw [List.getElem?_take,if_pos hi',List.getElem?_drop] at hx
 have:=h4 (lo+i) x hx
 rwa [Nat.add_mul,←Nat.add_assoc] at this
theorem run_slice {T e:TypeId} {z:Value} {kk bb:Nat} [SlT P T e] [TyI P e z kk bb] {ad:Option Addr} {len cap lo hi:Nat} (lo' hi':Option Value) (hlo:lo'=some (.int .i64 lo)∨lo'=none∧lo=0) (hhi:hi'=some (.int .i64 hi)∨hi'=none∧hi=len) (h1:lo≤hi) (h2:hi≤cap) (w:World) :
  (Instr.sliceAt T (.slice ad len cap) lo' hi' none).run P w=.ok (.slice (if cap=lo then ad else ad.map (·.add (lo*kk))) (hi-lo) (cap-lo)) w:=by
 obtain ⟨i,hi0,_,his,_⟩:=TyI.h (P:=P) (e:=e)
 have hh : (Instr.sliceBounds true len cap lo' hi' none).run P w=.ok (lo,hi,cap) w:=by
  rcases hlo with rfl|⟨rfl,rfl⟩<;>rcases hhi with rfl|⟨rfl,rfl⟩<;>simp [Instr.sliceBounds,Instr.sliceBound,asIntOf,h1,h2]
 have hs : (Instr.slice T (.slice ad len cap) lo' hi' none).run P w=.ok (.slice (if cap=lo then ad else ad.map (·.add (lo*kk))) (hi-lo) (cap-lo)) w:=by
  simp only [Instr.slice,Sem.run_bind,run_underlying (SlT.h (P:=P) (T:=T)),Result.andThen_ok,hh,sizeOf,typeInfo]
  simp [hi0,his]
 simp only [Instr.sliceAt,Sem.run_bind,run_underlying (SlT.h (P:=P) (T:=T)),Result.andThen_ok]
 exact hs
theorem s_slL {α:Type} {iE:Enc α} {T e:TypeId} {z:Value} {kk bb:Nat} {x:Operand} {lo' hi':Option Operand} {v:Value} {xs:List α} {lo hi:Nat} (hn:Nat.blt d n=true) [SlT P T e] [TyI P e z kk bb] (hx:opd f x=v) (hlo:lo'.map (opd f)=some (.int .i64 lo)∨lo'.map (opd f)=none∧lo=0) (hhi:hi'.map (opd f)=some (.int .i64 hi)∨hi'.map (opd f)=none∧hi=xs.length)
  (h:Sl v xs c) (hk:Enc.k α=kk) (h1:lo≤hi) (h2:hi≤xs.length) (k:∀v',Sl v' ((xs.drop lo).take (hi-lo)) c→W P ops Q rest n (upd f d v') c.w) :
  W P ops Q (⟨some d,.slice T x lo' hi' none,ty,ps,af,none⟩::rest) n f c.w:=by
 obtain ⟨ad,cap,rfl,hc,hS⟩:=h.cut h1 h2
 refine st_val hn (w':=c.w) ?_ (k _ hS)
 have:=run_slice (P:=P) (T:=T) (ad:=ad) (len:=xs.length) (cap:=cap) (lo'.map (opd f)) (hi'.map (opd f)) hlo hhi h1 (Nat.le_trans h2 hc) c.w
 rw [hk]
 simp only [execOp,hx,Option.map_none]
 simp [this]
def RSl (v:Value) (kk lo hi:Nat) (p:Value) : Prop:=∃ad m cap,v=.slice ad m cap∧p=.slice (if cap=lo then ad else ad.map (·.add (lo*kk))) (hi-lo) (cap-lo)
theorem s_slR {T e:TypeId} {z:Value} {kk bb m:Nat} {x:Operand} {lo' hi':Option Operand} {v:Value} {xs:List Value} {lo hi:Nat} (hn:Nat.blt d n=true) [SlT P T e] [TyI P e z kk bb] (hx:opd f x=v) (hlo:lo'.map (opd f)=some (.int .i64 lo)∨lo'.map (opd f)=none∧lo=0) (hhi:hi'.map (opd f)=some (.int .i64 hi)∨hi'.map (opd f)=none∧hi=m)
  (H:Owns c0 L c) (hm:Res.row v e kk m xs∈L) (h1:lo≤hi) (h2:hi≤m) (k:∀v',RSl v kk lo hi v'→W P ops Q rest n (upd f d v') c.w) :
  W P ops Q (⟨some d,.slice T x lo' hi' none,ty,ps,af,none⟩::rest) n f c.w:=by
 have hv : ∃ad cap,v=.slice ad m cap∧m≤cap:=by
  rcases (H.res _ hm).1.2 with ⟨rfl,h0⟩|⟨g,cap,cur,h1,_,_,h3,_⟩
  ·exact ⟨none,0,by rw [h0],by omega⟩
  ·exact ⟨_,cap,h1,h3⟩
 obtain ⟨ad,cap,rfl,hc⟩:=hv
 refine st_val hn (w':=c.w) ?_ (k _ ⟨ad,m,cap,rfl,rfl⟩)
 have:=run_slice (P:=P) (T:=T) (ad:=ad) (len:=m) (cap:=cap) (lo'.map (opd f)) (hi'.map (opd f)) hlo hhi h1 (Nat.le_trans h2 hc) c.w
 simp only [execOp,hx,Option.map_none]
 simp [this]
theorem RSl.sl {α:Type} [Enc α] {v p:Value} {kk lo hi:Nat} {xs:List α} (h:RSl v kk lo hi p) (hS:Sl v xs c) (hk:Enc.k α=kk) (h1:lo≤hi) (h2:hi≤xs.length) : Sl p ((xs.drop lo).take (hi-lo)) c:=by
 obtain ⟨ad,m,cap,rfl,rfl⟩:=h
 obtain ⟨ad',cap',hv,_,hS'⟩:=hS.cut h1 h2
 simp only [Value.slice.injEq] at hv
 obtain ⟨rfl,rfl,rfl⟩:=hv
 rw [←hk]
 exact hS'
end

/-! ### rows of plain data that a call hands back -/
theorem vals_map {P:Program} {α:Type} {iE:Enc α} {cv:α→List Value} {e:TypeId} [TyD P e α cv] (xs:List α) (c:Cx) : Vals (xs.map cv) xs c :=
 ⟨by simp,fun i cs x h1 h2=>by
  rw [List.getElem?_map,h2] at h1
  simp at h1
  subst h1
  exact TyD.ok (P:=P) (e:=e) x c⟩
theorem vals_is {α:Type} {iE:Enc α} {cv:α→List Value} [RdA α cv] {vals:List (List Value)} {xs:List α} {c:Cx} (h:Vals vals xs c) : vals=xs.map cv:=by
 refine List.ext_getElem? fun i=>?_
 rw [List.getElem?_map]
 cases hx : xs[i]? with
 | none =>
  have : xs.length≤i:=by simpa using hx
  rw [List.getElem?_eq_none (by rw [h.1];exact this)]
  rfl
 | some x =>
  have hi : i<vals.length:=by rw [h.1];exact (List.getElem?_eq_some_iff.1 hx).1
  rw [List.getElem?_eq_getElem hi]
  exact congrArg some (RdA.h (h.2 i _ x (List.getElem?_eq_getElem hi) hx))
section
variable {P : Program} {ops : Array Oper} {Q : Exit → Act → World → Prop} {n : Nat} {f : Nat → Value} {rest : List Oper} {ty : TypeId} {ps : String} {af : Array Edge} {d : Tmp}
variable {c0 c : Cx} {L : List Res} {A : Cx → Prop}
end
/-! ### a row lent to a piece of code -/
instance Le.monoI (c1:Cx) : Mono (fun c=>Le c1 c):=⟨fun h k=>k.trans h⟩
section
variable {P : Program} {Q : Exit → Act → World → Prop} {n : Nat} {f : Nat → Value} {c0 c : Cx} {L : List Res} {A : Cx → Prop}
theorem Owns.lend {α:Type} [Enc α] {e:TypeId} {kk m:Nat} {v:Value} {vals:List (List Value)} {xs:List α} (H:Owns c0 (.row v e kk m vals.flatten::L) c) (HV:Vals vals xs c) (hm:m=xs.length) (hk:Enc.k α=kk) (hlim:m<LIM) :
  ∃c1,c1.w=c.w∧Le c c1∧Owns c0 L c1∧Sl v xs c1∧∀c2,Owns c0 L c2→Le c1 c2→∃c3,c3.w=c2.w∧Le c c3∧Owns c0 (.row v e kk m vals.flatten::L) c3:=by
 have h:=H.freezeRow HV hm hk hlim
 refine ⟨⟨c.w,fun x=>c.M x∧(Res.row v e kk m vals.flatten).blk≠some x⟩,rfl,h.1,h.2.1,h.2.2,fun c2 H2 hle=>?_⟩
 have hblk : ∀b,(Res.row v e kk m vals.flatten).blk=some b→b<c.w.heap.size∧c.M b∧c0.w.heap.size≤b:=fun b hb=>⟨Res.lt (H.res _ (List.mem_cons_self ..)).1 hb,(H.res _ (List.mem_cons_self ..)).2 b hb⟩
 refine ⟨⟨c2.w,fun x=>c2.M x∨(Res.row v e kk m vals.flatten).blk=some x⟩,rfl,⟨hle.os,hle.tape,hle.output,hle.drawn,hle.size,fun b hb hM=>?_⟩,⟨H2.ext,fun b hb hM=>.inl (H2.keep b hb hM),fun b hb=>?_,fun r hr=>?_,?_⟩⟩
 ·have:=hle.blk b hb (fun h=>hM h.1)
  exact ⟨this.1,fun h=>h.elim this.2 fun e=>hM (hblk b e).2.1⟩
 ·rcases hb with hb|hb
  ·exact H2.mbd b hb
  ·exact Nat.lt_of_lt_of_le (hblk b hb).1 hle.size
 ·rcases List.mem_cons.1 hr with rfl|hr
  ·refine ⟨Res.kept (H.res _ (List.mem_cons_self ..)).1 hle.size fun b hb=>(hle.blk b (hblk b hb).1 (fun h=>h.2 hb)).1,fun b hb=>⟨.inr hb,(hblk b hb).2.2⟩⟩
  ·exact ⟨(H2.res r hr).1,fun b hb=>⟨.inl ((H2.res r hr).2 b hb).1,((H2.res r hr).2 b hb).2⟩⟩
 ·refine List.pairwise_cons.2 ⟨fun r hr b hb hb'=>?_,H2.dis⟩
  have h1:=(H2.res r hr).2 b hb'
  have h2:=hle.blk b (hblk b hb).1 (fun h=>h.2 hb)
  exact h2.2 h1.1
end

/-! ### contracts of functions that turn what the caller lends them -/
def CnTR (c0:Cx) (post L:List Res) (A:Cx→Prop) (Post:Value→Cx→Prop) : Ending→World→Prop:=fun e w'=>∃v,e=.returned v∧∃c',c'.w=w'∧Owns c0 (post++L) c'∧Hd (fun c=>Post v c∧A c) c'
def CnT (P:Program) (g:FuncId) (args:List Value) (pre post:List Res) (c:Cx) (Post:Value→Cx→Prop) : Prop :=
 ∀(c0:Cx) (L:List Res) (A:Cx→Prop) [Mono A],Owns c0 (pre++L) c→Hd A c→Calls P g args.toArray c.w (CnTR c0 post L A Post)
section
variable {P : Program} {g : FuncId} {fn : Func} {x : Code} {args : List Value} {c : Cx}
theorem CnT.of {pre post:List Res} {Post:Value→Cx→Prop} {n:Nat} (hf:P.funcs[g]?=some fn) (hn:fn.ntmps=n) (hb:fn.body=some x) (hl:Nat.ble args.length n=true)
  (h:∀(c0:Cx) (L:List Res) (A:Cx→Prop) [Mono A],Owns c0 (pre++L) c→Hd A c→WC P x (bodyPost P fn (CnTR c0 post L A Post)) n (frame0 args) c.w) : CnT P g args pre post c Post :=
 fun c0 L A _ H HA=>calls_of_wp hf hb (by subst hn;exact (h c0 L A H HA).go _ (frIs0 (Nat.le_of_ble_eq_true hl)))
theorem ret_fnT {post L:List Res} {A:Cx→Prop} {Post:Value→Cx→Prop} {c0 c:Cx} {n:Nat} {f:Nat→Value} {v:Value} (H:Owns c0 (post++L) c) (HA:Hd A c) (ho:Outs P fn f c.w v) (hp:Post v c) : WX (bodyPost P fn (CnTR c0 post L A Post)) .ret n f c.w :=
 ⟨fun a ha=>⟨ha.defers,v,ho _ ha.at_,v,rfl,c,rfl,H,HA.add hp⟩⟩
theorem norm_fnT {post L:List Res} {A:Cx→Prop} {Post:Value→Cx→Prop} {c0 c:Cx} {n:Nat} {f:Nat→Value} {v:Value} (H:Owns c0 (post++L) c) (HA:Hd A c) (ho:Outs P fn f c.w v) (hp:Post v c) : WX (bodyPost P fn (CnTR c0 post L A Post)) .normal n f c.w :=
 ⟨fun a ha=>⟨ha.defers,v,ho _ ha.at_,v,rfl,c,rfl,H,HA.add hp⟩⟩
theorem outs0 {f:Nat→Value} {w:World} (h:fn.results=#[]) : Outs P fn f w (.tuple #[]):=fun tmps ht=>by
 simp [results,h]
theorem CnT.imp {pre post:List Res} {Post Post':Value→Cx→Prop} (h:CnT P g args pre post c Post) (hp:∀v c,Post v c→Post' v c) : CnT P g args pre post c Post' :=
 fun c0 L A _ H HA=>(h c0 L A H HA).mono fun _ _ ⟨v,he,c',h1,h2,h3⟩=>⟨v,he,c',h1,h2,⟨⟨hp _ _ h3.h.1,h3.h.2⟩⟩⟩
theorem Cn.t {Post:Value→Cx→Prop} (h:Cn P g args c Post) {R:List Res} : CnT P g args R R c Post :=
 fun c0 L A _ H HA=>(h H.mbd).mono fun _ w' ⟨v,he,hx,hp⟩=>⟨v,he,⟨w',c.M⟩,rfl,H.of_ext hx,⟨⟨hp,Mono.mono (Le.of_ext hx) HA.h⟩⟩⟩
end
section
variable {P : Program} {ops : Array Oper} {Q : Exit → Act → World → Prop} {n : Nat} {f : Nat → Value} {rest : List Oper} {ty : TypeId} {ps : String} {af : Array Edge} {d : Tmp}
variable {c0 c : Cx} {L : List Res} {A : Cx → Prop}
theorem s_callT {as:Array Operand} {aT:Array TypeId} {g:FuncId} {vs:List Value} {pre post:List Res} {Post:Value→Cx→Prop} (hn:Nat.blt d n=true) [Ent P g] (hargs:as.toList.map (opd f)=vs) (H:Owns c0 (pre++L) c) (HA:Hd A c) [Mono A] (hc:CnT P g vs pre post c Post)
  (k:∀v c',Owns c0 (post++L) c'→Hd (fun c=>Post v c∧A c) c'→W P ops Q rest n (upd f d v) c'.w) : W P ops Q (⟨some d,.call ⟨.value (.func g),as,aT⟩,ty,ps,af,none⟩::rest) n f c.w :=
 st_enter hn (g:=g) (args:=vs.toArray) (by subst hargs;simp [execOp,resolve,Deferred.ofValue,opd,invoke,Ent.h,←Array.toList_map]) (hc c0 L A H HA)
  fun v w' ⟨c',hw,H',HA'⟩=>by subst hw;exact k v c' H' HA'
theorem s_callVT {as:Array Operand} {aT:Array TypeId} {t:Operand} {g:FuncId} {caps vs:List Value} {pre post:List Res} {Post:Value→Cx→Prop} (hn:Nat.blt d n=true) (ht:opd f t=.func (.func g) #[] caps.toArray) [Ent P g] (hargs:as.toList.map (opd f)++caps=vs) (H:Owns c0 (pre++L) c) (HA:Hd A c) [Mono A] (hc:CnT P g vs pre post c Post)
  (k:∀v c',Owns c0 (post++L) c'→Hd (fun c=>Post v c∧A c) c'→W P ops Q rest n (upd f d v) c'.w) : W P ops Q (⟨some d,.call ⟨.value t,as,aT⟩,ty,ps,af,none⟩::rest) n f c.w :=
 st_enter hn (g:=g) (args:=vs.toArray) (by subst hargs;simp [execOp,resolve,Deferred.ofValue,ht,invoke,Ent.h,←Array.toList_map]) (hc c0 L A H HA)
  fun v w' ⟨c',hw,H',HA'⟩=>by subst hw;exact k v c' H' HA'
/-! ### maps -/
def mEnt (es:List (Int×Value)) : List MapEntry:=es.zipIdx.map fun p=>{ key:=.int .i64 p.1.1,val:=p.1.2,born:=p.2 }
def mObj (es:List (Int×Value)) : Obj:=.map (mEnt es).toArray es.length
def mLook (es:List (Int×Value)) (k:Int) : Option Value:=(es.find? fun p=>p.1 == k).map (·.2)
def mSet (es:List (Int×Value)) (k:Int) (v:Value) : List (Int×Value):=match es.findIdx? (fun p=>p.1 == k) with|some i=>es.set i (k,v)|none=>es++[(k,v)]
class MapT (P:Program) (T:TypeId) (e:outParam TypeId) : Prop where
 h : ∃kt ik,P.underlying T=some (.map kt e)∧P.underlying kt=some (.int ik)
theorem findNow_ents (kd:IntKind) (k:Int) : ∀(es:List (Int×Value)) (i:Nat),Instr.findNow (.int kd) (.int .i64 k) ((es.zipIdx i).map fun p=>{ key:=.int .i64 p.1.1,val:=p.1.2,born:=p.2 }) i =
  some ((es.findIdx? fun p=>p.1 == k).bind fun j=>(es[j]?).map fun p=>(i+j,p.2)):=by
 intro es
 induction es with
 | nil=>intro i;rfl
 | cons p es ih =>
  intro i
  simp only [List.zipIdx_cons,List.map_cons,Instr.findNow,Instr.sameNow,if_true]
  by_cases h : p.1=k
  ·subst h
   simp [List.findIdx?_cons]
  ·have h1 : (k == p.1)=false:=by simpa using fun e=>h e.symm
   have h2 : (p.1 == k)=false:=by simpa using h
   simp only [h1,ih (i+1),List.findIdx?_cons,h2]
   cases es.findIdx? fun p=>p.1 == k with
   | none=>rfl
   | some j=>simp [Nat.add_assoc,Nat.add_comm 1 j]
theorem run_findKey {kt:TypeId} {ik:IntKind} {w:World} {k:Int} {es:List (Int×Value)} (h:P.underlying kt=some (.int ik)) :
  (Instr.findKey kt (.int .i64 k) (mEnt es)).run P w=.ok ((es.findIdx? fun p=>p.1 == k).bind fun j=>(es[j]?).map fun p=>(j,p.2)) w:=by
 have:=findNow_ents ik k es 0
 simp only [Nat.zero_add] at this
 simp only [Instr.findKey,Sem.run_bind,run_underlying h,Result.andThen_ok,mEnt,this]
 rfl
theorem find_idx (k:Int) (es:List (Int×Value)) : ((es.findIdx? fun p=>p.1 == k).bind fun j=>(es[j]?).map fun p=>p.2)=mLook es k:=by
 unfold mLook
 induction es with
 | nil=>rfl
 | cons p es ih =>
  rw [List.findIdx?_cons,List.find?_cons]
  cases h : p.1 == k with
  | true=>rfl
  | false =>
   simp only
   rw [←ih]
   cases es.findIdx? fun p=>p.1 == k with
   | none=>rfl
   | some j=>rfl
theorem run_checkKey {kt:TypeId} {ik:IntKind} {w:World} {k:Int} {b:Bool} {m:Nat} (h:P.underlying kt=some (.int ik)) : (Instr.checkKey b (m+1) kt (.int .i64 k)).run P w=.ok () w:=by
 simp [Instr.checkKey,run_underlying h]
theorem run_getMap {w:World} {b:Nat} {es:List (Int×Value)} (h:w.heap[b]?=some (mObj es)) : (getObj b).run P w=.ok (.map (mEnt es).toArray es.length) w:=by
 simp [getObj,Sem.run,h,mObj]
theorem mLook_run {T e:TypeId} {z:Value} {w:World} {b:Nat} {q:Int} {es:List (Int×Value)} [MapT P T e] [Zer P e z] (hb:w.heap[b]?=some (mObj es)) (ok:Bool) :
  (Instr.lookup T (.map (some b)) (.int .i64 q) ok).run P w=.ok (if ok then .tuple #[(mLook es q).getD z,.bool (mLook es q).isSome] else (mLook es q).getD z) w:=by
 obtain ⟨kt,ik,h1,h2⟩:=MapT.h (P:=P) (T:=T) (e:=e)
 simp only [Instr.lookup,Sem.run_bind,run_underlying h1,Result.andThen_ok,run_getMap hb,run_checkKey (m:=9999) h2,Sem.run_pure]
 rw [run_findKey (es:=es) h2,←find_idx]
 simp only [Result.andThen_ok]
 cases hx : (es.findIdx? fun p=>p.1 == q) with
 | none=>cases ok<;>simp [(Zer.z (P:=P) (T:=e):_)]
 | some j =>
  have hj : j<es.length:=(List.findIdx?_eq_some_iff_findIdx_eq.1 hx).1
  cases ok<;>simp [List.getElem?_eq_getElem hj]
theorem mEnt_append (es:List (Int×Value)) (p:Int×Value) : mEnt (es++[p])=mEnt es++[{ key:=.int .i64 p.1,val:=p.2,born:=es.length }]:=by
 simp [mEnt,List.zipIdx_append]
theorem mEnt_set (es:List (Int×Value)) (i:Nat) (k:Int) (v:Value) : (mEnt es).modify i (fun e=>{ e with key:=.int .i64 k,val:=v })=mEnt (es.set i (k,v)):=by
 refine List.ext_getElem? fun j=>?_
 simp only [mEnt,List.getElem?_modify,List.getElem?_map,List.getElem?_zipIdx,List.getElem?_set]
 by_cases h : i=j
 ·subst h
  by_cases hl : i<es.length
  ·simp [hl]
  ·simp [hl]
 ·simp [h]
theorem run_setMap {w:World} {b:Nat} {es:List (Int×Value)} (h:w.heap[b]?=some (mObj es)) (o:Obj) : (setObj b o).run P w=.ok () (ChangeMaps.setBlock w b o):=by
 simp [setObj,Sem.run,h,mObj,ChangeMaps.setBlock]
theorem mUpd_run {T e:TypeId} {w:World} {b:Nat} {q:Int} {v:Value} {es:List (Int×Value)} [MapT P T e] (hb:w.heap[b]?=some (mObj es)) :
  (Instr.mapUpdate T (.map (some b)) (.int .i64 q) v).run P w=.ok () (ChangeMaps.setBlock w b (mObj (mSet es q v))):=by
 obtain ⟨kt,ik,h1,h2⟩:=MapT.h (P:=P) (T:=T) (e:=e)
 simp only [Instr.mapUpdate,Sem.run_bind,run_underlying h1,Result.andThen_ok,run_getMap hb,run_checkKey (m:=9999) h2,Sem.run_pure]
 rw [run_findKey (es:=es) h2]
 simp only [Result.andThen_ok,mSet]
 cases hx : (es.findIdx? fun p=>p.1 == q) with
 | none =>
  simp only [Option.bind_none]
  rw [run_setMap hb,mObj,mEnt_append]
  simp
 | some j =>
  have hj : j<es.length:=(List.findIdx?_eq_some_iff_findIdx_eq.1 hx).1
  have hk : es[j].1=q:=by
   have:=(List.findIdx?_eq_some_iff_findIdx_eq.1 hx).2
   have h3:=List.findIdx_getElem (xs:=es) (p:=fun p=>p.1 == q) (w:=by omega)
   simp only [this] at h3
   simpa using h3
  have hkey : (((mEnt es).toArray[j]?).map (·.key)).getD (.int .i64 q)=.int .i64 q:=by
   simp [mEnt,List.getElem?_eq_getElem hj,hk]
  simp only [List.getElem?_eq_getElem hj,Option.bind_some,Option.map_some,Sem.run_bind,hkey,Instr.keyThatStays,Instr.sameBits,beq_self_eq_true,Bool.and_self,if_true,Sem.run_pure,Result.andThen_ok]
  rw [run_setMap hb,mObj,←mEnt_set]
  simp
end
section
variable {P : Program} {ops : Array Oper} {Q : Exit → Act → World → Prop} {n : Nat} {f : Nat → Value} {rest : List Oper} {ty : TypeId} {ps : String} {af : Array Edge} {d : Tmp}
variable {c0 c : Cx} {L : List Res} {A : Cx → Prop}
theorem s_makeMap {T:TypeId} (hn:Nat.blt d n=true) (H:Owns c0 L c) (HA:Hd A c) [Mono A] (k:∀b c',Owns c0 (.obj b (mObj [])::L) c'→Hd A c'→W P ops Q rest n (upd f d (.map (some b))) c'.w) :
  W P ops Q (⟨some d,.makeMap T none,ty,ps,af,none⟩::rest) n f c.w :=
 have h:=H.new (mObj []) rfl
 st_val hn (w':=c.w.alloc (mObj [])) (by simp [execOp,Instr.makeMap,mObj,mEnt]) (k c.w.heap.size ⟨c.w.alloc (mObj []),_⟩ h.2 (HA.to h.1))
theorem s_lookT {T e:TypeId} {z:Value} {x y:Operand} {b:Nat} {q:Int} {es:List (Int×Value)} (hn:Nat.blt d n=true) [MapT P T e] [Zer P e z] (hx:opd f x=.map (some b)) (hy:opd f y=.int .i64 q) (H:Owns c0 L c) (hm:Res.obj b (mObj es)∈L)
  (k:W P ops Q rest n (upd f d (.tuple #[(mLook es q).getD z,.bool (mLook es q).isSome])) c.w) : W P ops Q (⟨some d,.lookup T x y true,ty,ps,af,none⟩::rest) n f c.w :=
 st_val hn (by simp [execOp,hx,hy,mLook_run (H.res _ hm).1]) k
theorem s_lookF {T e:TypeId} {z:Value} {x y:Operand} {b:Nat} {q:Int} {es:List (Int×Value)} (hn:Nat.blt d n=true) [MapT P T e] [Zer P e z] (hx:opd f x=.map (some b)) (hy:opd f y=.int .i64 q) (H:Owns c0 L c) (hm:Res.obj b (mObj es)∈L)
  (k:W P ops Q rest n (upd f d ((mLook es q).getD z)) c.w) : W P ops Q (⟨some d,.lookup T x y false,ty,ps,af,none⟩::rest) n f c.w :=
 st_val hn (by simp [execOp,hx,hy,mLook_run (H.res _ hm).1]) k
theorem s_mapUpdate {T e:TypeId} {x y z:Operand} {b:Nat} {q:Int} {v:Value} {es:List (Int×Value)} [MapT P T e] (hx:opd f x=.map (some b)) (hy:opd f y=.int .i64 q) (hz:opd f z=v) (H:Owns c0 (.obj b (mObj es)::L) c) (HA:Hd A c) [Mono A]
  (k:∀c',Owns c0 (.obj b (mObj (mSet es q v))::L) c'→Hd A c'→W P ops Q rest n f c'.w) : W P ops Q (⟨none,.mapUpdate T x y z,ty,ps,af,none⟩::rest) n f c.w:=by
 have hb : c.w.heap[b]?=some (mObj es):=(H.res _ (List.mem_cons_self ..)).1
 have hbl : b<c.w.heap.size:=(Array.getElem?_eq_some_iff.1 hb).1
 have h2:=H.turn (r':=.obj b (mObj (mSet es q v))) (w':=ChangeMaps.setBlock c.w b (mObj (mSet es q v))) rfl rfl rfl (Nat.le_refl _) (by simp [ChangeMaps.setBlock]) (fun x hx hne=>by
  have : b≠x:=fun e=>hne (by subst e;rfl)
  simp [ChangeMaps.setBlock,Array.getElem?_setIfInBounds_ne this]) (by simp [Res.holds,ChangeMaps.setBlock,hbl]) (fun x hx=>.inl hx)
 exact st_skip (by simp [execOp,hx,hy,hz,mUpd_run hb]) (k ⟨_,_⟩ h2.2 (HA.to h2.1))
theorem s_lenM {T e:TypeId} {x:Operand} {b:Nat} {es:List (Int×Value)} (hn:Nat.blt d n=true) [MapT P T e] (hx:opd f x=.map (some b)) (H:Owns c0 L c) (hm:Res.obj b (mObj es)∈L)
  (k:W P ops Q rest n (upd f d (.int .i64 es.length)) c.w) : W P ops Q (⟨some d,.call ⟨.builtin .len,#[x],#[T]⟩,ty,ps,af,none⟩::rest) n f c.w:=by
 obtain ⟨kt,ik,h1,h2⟩:=MapT.h (P:=P) (T:=T) (e:=e)
 have hb:=run_getMap (P:=P) (H.res _ hm).1
 exact st_val hn (by simp [execOp,resolve,invoke,builtin,Builtin.len_,run_underlying h1,hx,hb,goInt,mEnt]) k
def MapAt (b:Nat) (es:List (Int×Value)) (c:Cx) : Prop:=c.w.heap[b]?=some (mObj es)∧¬c.M b
instance (b : Nat) (es : List (Int×Value)) : Mono (MapAt b es):=⟨fun {c c'} h k=>by
 have hb:=h.blk b (Array.getElem?_eq_some_iff.1 k.1).1 k.2
 exact ⟨hb.1.trans k.1,hb.2⟩⟩
theorem Owns.freezeMap {b:Nat} {es:List (Int×Value)} (H:Owns c0 (.obj b (mObj es)::L) c) : ∃c',c'.w=c.w∧Le c c'∧Owns c0 L c'∧MapAt b es c' :=
 ⟨⟨c.w,fun x=>c.M x∧(Res.obj b (mObj es)).blk≠some x⟩,rfl,H.freeze.1,H.freeze.2,(H.res _ (List.mem_cons_self ..)).1,fun h=>h.2 rfl⟩
theorem w_freezeMap {l:List Oper} {b:Nat} {es:List (Int×Value)} (H:Owns c0 (.obj b (mObj es)::L) c) (HA:Hd A c) [Mono A]
  (k:∀c',Owns c0 L c'→Hd (fun c=>MapAt b es c∧A c) c'→W P ops Q l n f c'.w) : W P ops Q l n f c.w:=by
 obtain ⟨c',hw,hle,H',hm⟩:=H.freezeMap
 rw [←hw]
 exact k c' H' ((HA.to hle).add hm)
theorem s_lenMF {T e:TypeId} {x:Operand} {b:Nat} {es:List (Int×Value)} (hn:Nat.blt d n=true) [MapT P T e] (hx:opd f x=.map (some b)) (hm:MapAt b es c)
  (k:W P ops Q rest n (upd f d (.int .i64 es.length)) c.w) : W P ops Q (⟨some d,.call ⟨.builtin .len,#[x],#[T]⟩,ty,ps,af,none⟩::rest) n f c.w:=by
 obtain ⟨kt,ik,h1,h2⟩:=MapT.h (P:=P) (T:=T) (e:=e)
 have hb:=run_getMap (P:=P) hm.1
 exact st_val hn (by simp [execOp,resolve,invoke,builtin,Builtin.len_,run_underlying h1,hx,hb,goInt,mEnt]) k
/-! ### for k, v := range m -/
def itObj (b n:Nat) (seen:List Nat) : Obj:=.mapIter (some b) n seen.toArray n
theorem s_range {T e:TypeId} {x:Operand} {b:Nat} {es:List (Int×Value)} (hn:Nat.blt d n=true) [MapT P T e] (hx:opd f x=.map (some b)) (hm:MapAt b es c) (H:Owns c0 L c) (HA:Hd A c) [Mono A]
  (k:∀r c',Owns c0 (.obj r (itObj b es.length [])::L) c'→Hd A c'→W P ops Q rest n (upd f d (.pointer (some ⟨r,0,none⟩))) c'.w) : W P ops Q (⟨some d,.range T x,ty,ps,af,none⟩::rest) n f c.w:=by
 obtain ⟨kt,ik,h1,h2⟩:=MapT.h (P:=P) (T:=T) (e:=e)
 have hb:=run_getMap (P:=P) hm.1
 have h:=H.new (itObj b es.length []) rfl
 exact st_val hn (w':=c.w.alloc (itObj b es.length [])) (by simp [execOp,Instr.range,run_underlying h1,hx,hb,itObj]) (k c.w.heap.size ⟨c.w.alloc (itObj b es.length []),_⟩ h.2 (HA.to h.1))
theorem mem_leftOf {es:List (Int×Value)} {seen:List Nat} {e:MapEntry} : e∈(leftOf (mEnt es).toArray seen.toArray).toList↔∃i p,es[i]?=some p∧i∉seen∧e={ key:=.int .i64 p.1,val:=p.2,born:=i }:=by
 simp only [leftOf,Array.toList_filter,List.mem_filter,mEnt,List.mem_map,List.mem_zipIdx_iff_getElem?,Bool.not_eq_true',List.contains_toArray]
 constructor
 ·rintro ⟨⟨⟨p,i⟩,h1,rfl⟩,h2⟩
  exact ⟨i,p,h1,by simpa using h2,rfl⟩
 ·rintro ⟨i,p,h1,h2,rfl⟩
  exact ⟨⟨(p,i),h1,rfl⟩,by simpa using h2⟩
theorem s_next {x:Operand} {r b:Nat} {es:List (Int×Value)} {seen:List Nat} (hn:Nat.blt d n=true) (hx:opd f x=.pointer (some ⟨r,0,none⟩)) (hm:MapAt b es c) (H:Owns c0 (.obj r (itObj b es.length seen)::L) c) (HA:Hd A c) [Mono A]
  (k1:(∀i,i<es.length→i∈seen)→W P ops Q rest n (upd f d (.tuple #[.bool false])) c.w)
  (k2:∀i p c',es[i]?=some p→i∉seen→Owns c0 (.obj r (itObj b es.length (seen++[i]))::L) c'→Hd A c'→W P ops Q rest n (upd f d (.tuple #[.bool true,.int .i64 p.1,p.2])) c'.w) :
  W P ops Q (⟨some d,.next x false,ty,ps,af,none⟩::rest) n f c.w:=by
 have hr : c.w.heap[r]?=some (itObj b es.length seen):=(H.res _ (List.mem_cons_self ..)).1
 have hrl : r<c.w.heap.size:=(Array.getElem?_eq_some_iff.1 hr).1
 have hold : ∀x∈(mEnt es).toArray.toList,x.born<es.length:=by
  intro x hx
  simp only [mEnt,List.mem_map,List.mem_zipIdx_iff_getElem?] at hx
  obtain ⟨⟨p,i⟩,h1,rfl⟩:=hx
  exact (List.getElem?_eq_some_iff.1 h1).1
 rcases run_next_at (P:=P) c.w ty r b es.length es.length seen.toArray (mEnt es).toArray es.length hr hm.1 hold (Nat.le_refl _) with ⟨h1,h2⟩|⟨e,he,w1,hw1,h2⟩
 ·refine st_val hn (w':=c.w) (by simp [execOp,hx,h2]) (k1 fun i hi=>?_)
  by_cases hs : i∈seen
  ·exact hs
  ·have hmem:=mem_leftOf (es:=es) (seen:=seen).2 ⟨i,es[i],List.getElem?_eq_getElem hi,hs,rfl⟩
   have : (leftOf (mEnt es).toArray seen.toArray).toList=[]:=List.eq_nil_of_length_eq_zero (by simpa using h1)
   rw [this] at hmem
   cases hmem
 ·obtain ⟨i,p,h3,h4,rfl⟩:=mem_leftOf.1 he
  have hh : w1.heap=c.w.heap:=by rcases hw1 with rfl|rfl<;>rfl
  have h5:=H.turn (r':=.obj r (itObj b es.length (seen++[i]))) (w':=ChangeMaps.setBlock w1 r (itObj b es.length (seen++[i]))) (by rcases hw1 with rfl|rfl<;>rfl) (by rcases hw1 with rfl|rfl<;>rfl) (by rcases hw1 with rfl|rfl<;>rfl)
   (by rcases hw1 with rfl|rfl<;>first|exact Nat.le_refl _|exact Nat.le_succ _) (by simp [ChangeMaps.setBlock,hh]) (fun x hx hne=>by
   have : r≠x:=fun e=>hne (by subst e;rfl)
   simp [ChangeMaps.setBlock,hh,Array.getElem?_setIfInBounds_ne this]) (by simp [Res.holds,ChangeMaps.setBlock,hh,hrl]) (fun x hx=>.inl hx)
  refine st_val hn (w':=ChangeMaps.setBlock w1 r (itObj b es.length (seen++[i]))) ?_ (k2 i p ⟨_,_⟩ h3 h4 h5.2 (HA.to h5.1))
  simp [execOp,hx,h2,itObj]
theorem s_entry {x:Operand} {r b i:Nat} {p:Int×Value} {es:List (Int×Value)} {seen:List Nat} (hn:Nat.blt d n=true) (hx:opd f x=.pointer (some ⟨r,0,none⟩)) (hm:MapAt b es c) (H:Owns c0 L c) (hr:Res.obj r (itObj b es.length (seen++[i]))∈L) (hp:es[i]?=some p)
  (k:W P ops Q rest n (upd f d (.tuple #[.int .i64 p.1,p.2])) c.w) : W P ops Q (⟨some d,.entry x,ty,ps,af,none⟩::rest) n f c.w:=by
 have hr' : c.w.heap[r]?=some (.mapIter (some b) es.length (seen.toArray.push i) es.length):=by
  have:=(H.res _ hr).1
  simpa [Res.holds,itObj] using this
 have:=run_entry_at (P:=P) c.w r b es.length seen.toArray (mEnt es).toArray es.length { key:=.int .i64 p.1,val:=p.2,born:=i } hr' hm.1 (by
  simp only [mEnt,List.mem_map,List.mem_zipIdx_iff_getElem?]
  exact ⟨(p,i),hp,rfl⟩) (by
  simp only [mEnt,List.map_map,Function.comp_def]
  have : (es.zipIdx.map fun p=>p.2)=List.range es.length:=by simp [List.zipIdx_map_snd,List.range_eq_range']
  rw [this]
  exact List.nodup_range)
 exact st_val hn (by simp [execOp,hx,this]) k
end

def SlB {α:Type} [Enc α] (xs:List α) (y:α) (v:Value) (c:Cx) : Prop:=∃b o cap,v=.slice (some ⟨b,o,none⟩) xs.length cap∧Sl (.slice (some ⟨b,o,none⟩) (xs.length+1) cap) (xs++[y]) c
theorem SlB.sl {α:Type} [Enc α] {xs:List α} {y:α} {v:Value} {c:Cx} (h:SlB xs y v c) : Sl v xs c:=by
 obtain ⟨b,o,cap,rfl,h0,ad,cap',e,hc,hne⟩:=h
 simp only [List.length_append,List.length_cons,List.length_nil,Nat.zero_add,Value.slice.injEq] at e hc h0
 obtain ⟨rfl,_,rfl⟩:=e
 refine ⟨by omega,_,cap,rfl,by omega,fun _=>?_⟩
 obtain ⟨b',o',e,h4⟩:=hne (by simp)
 refine ⟨b',o',e,fun i x hx=>h4 i x ?_⟩
 rw [List.getElem?_append_left (List.getElem?_eq_some_iff.1 hx).1]
 exact hx
theorem Sl.conv {α β:Type} [Enc α] [Enc β] {g:α→β} {v:Value} {xs:List α} {c:Cx} (hk:Enc.k β=Enc.k α) (hg:∀cs x,Enc.Ok cs (g x) c→Enc.Ok cs x c) (h:Sl v (xs.map g) c) : Sl v xs c:=by
 obtain ⟨h0,ad,cap,e,hc,hne⟩:=h
 rw [List.length_map] at h0 e hc
 refine ⟨h0,ad,cap,e,hc,fun hx=>?_⟩
 obtain ⟨b,o,e,h4⟩:=hne (by simpa using hx)
 refine ⟨b,o,e,fun i x hx=>?_⟩
 obtain ⟨cs,h5,h6⟩:=h4 i (g x) (by rw [List.getElem?_map,hx];rfl)
 exact ⟨cs,hg cs x h5,by rw [hk] at h6;exact h6⟩
class Mark (α:Type) where
 m : α
structure LL (α:Type) where
 xs : List α
 b : Bool
def LSl {α:Type} [Enc α] [Mark α] (x:LL α) (v:Value) (c:Cx) : Prop:=bif x.b then SlB x.xs Mark.m v c else Sl v x.xs c
theorem LSl.sl {α:Type} [Enc α] [Mark α] {x:LL α} {v:Value} {c:Cx} (h:LSl x v c) : Sl v x.xs c:=by
 obtain ⟨xs,b⟩:=x
 cases b
 ·exact h
 ·exact SlB.sl h
section
variable {P : Program} {ops : Array Oper} {Q : Exit → Act → World → Prop} {n : Nat} {f : Nat → Value} {rest : List Oper} {ty : TypeId} {ps : String} {af : Array Edge} {d : Tmp}
variable {c0 c : Cx} {L : List Res} {A : Cx → Prop}
end
end Go.Wk
