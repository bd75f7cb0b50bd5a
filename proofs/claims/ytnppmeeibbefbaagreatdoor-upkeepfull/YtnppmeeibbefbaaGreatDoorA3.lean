/- a part of the proof: lemmas on walks, on plain data, contracts of functions. -/
import Derived.Lib.Bytealg
import Derived.Lib.ItoaNum
set_option linter.all false
namespace Go.Wk
open Go

abbrev ES : ByteArray:=⟨#[]⟩
structure Tm where
 k : Int
 n : Int
 s : ByteArray
 deriving DecidableEq
structure At0 where
 by_ : Tm
 name : ByteArray
 args : List Tm
 deriving DecidableEq
structure Ts where
 op : Int
 l : Tm
 r : Tm
 deriving DecidableEq
structure Cl where
 head : At0
 body : List At0
 tests : List Ts
 deriving DecidableEq
structure Bd where
 var : Int
 to : Tm
 deriving DecidableEq
@[reducible] def Tn : Tm:=⟨0,0,ES⟩

/-! from XF1 -/
def Tm.isVar (t:Tm) : Bool:=t.k == 3 && (decide (0≤t.n) && decide (t.s=ES))
def Tm.isConst (t:Tm) : Bool:=(t.k == 1 && decide (t.s=ES)) || (t.k == 2 && (t.n == 0 && decide ((t.s.size:Int)≤64)))
def Tm.isPrinc (t:Tm) : Bool:=t.isConst && (t.k == 2 && !decide (t.s=ES))
def cmpI (a b:Int) : Int:=if a<b then -1 else if b<a then 1 else 0
def cmpS (a b:ByteArray) : Int:=Lib.compareBytes a.data.toList b.data.toList
def orI : List Int→Int
 | []=>0
 | x::xs=>if x=0 then orI xs else x
def cmpTm (a b:Tm) : Int:=orI [cmpI a.k b.k,cmpI a.n b.n,cmpS a.s b.s]

/-! from XF2 -/
theorem drop_get {α:Type} {xs:List α} {k:Nat} {u:α} (h:xs[k]?=some u) : xs.drop k=u::xs.drop (k+1):=by
 obtain ⟨hk,rfl⟩:=List.getElem?_eq_some_iff.1 h
 exact List.drop_eq_getElem_cons hk
theorem drop_end {α:Type} {xs:List α} {k:Nat} (h:¬(k:Int)<(xs.length:Int)) : xs.drop k=[]:=List.drop_eq_nil_of_le (by omega)
theorem At0.eq (a b:At0) : a=b↔a.by_=b.by_∧a.name=b.name∧a.args=b.args:=by
 cases a;cases b;simp
theorem Cl.eq (a b:Cl) : a=b↔a.head=b.head∧a.body=b.body∧a.tests=b.tests:=by
 cases a;cases b;simp

/-! from XF3 -/
def At0.terms (a:At0) : List Tm:=a.by_::a.args
def Cl.bodyTerms (x:Cl) : List Tm:=x.body.flatMap At0.terms
def Cl.testTerms (x:Cl) : List Tm:=x.tests.flatMap fun t=>[t.l,t.r]
def Cl.terms (x:Cl) : List Tm:=x.head.terms++x.bodyTerms++x.testTerms
def varsOn (out:List Tm) (t:Tm) : List Tm:=if t.isVar && !decide (t∈out) then out++[t] else out
def varsOf (ts:List Tm) : List Tm:=ts.foldl varsOn []
theorem foldl_varsOn_len (ts:List Tm) : ∀out,(ts.foldl varsOn out).length≤out.length+ts.length:=by
 induction ts with
 | nil=>intro out;simp
 | cons t ts ih =>
  intro out
  have h1 : (varsOn out t).length≤out.length+1:=by
   unfold varsOn
   split<;>simp
  have:=ih (varsOn out t)
  simp only [List.foldl_cons,List.length_cons]
  omega
theorem varsOf_len (ts:List Tm) : (varsOf ts).length≤ts.length:=by
 have:=foldl_varsOn_len ts []
 simpa [varsOf] using this

/-! from XF4 -/
@[reducible] def says : ByteArray:=⟨#[115,97,121,115]⟩
def letterB (n:Int) : Bool:=(decide (97≤n) && decide (n≤122)) || (decide (65≤n) && decide (n≤90)) || (decide (48≤n) && decide (n≤57)) || decide (n=95)
def nameB (s:ByteArray) : Bool:=!decide (s=ES) && (decide (s.size≤32) && (!decide (s=says) && ((match s.data.toList with | []=>false|u::_=>decide (97≤u.toNat) && decide (u.toNat≤122)) && s.data.toList.all fun u=>letterB u.toNat)))
def At0.check (a:At0) : Int :=
 if nameB a.name=false then 21 else if 8<a.args.length then 22 else if a.by_≠Tn∧a.by_.isPrinc=false∧a.by_.isVar=false then 23
 else if a.args.any (fun t=>!t.isConst && !t.isVar) then 24 else 0
def Ts.check (t:Ts) : Int:=if t.op<1∨4<t.op∨(t.l.isConst || t.l.isVar)=false∨(t.r.isConst || t.r.isVar)=false then 32 else 0
def cmpTms : List Tm→List Tm→Int
 | x::xs,y::ys=>if cmpTm x y=0 then cmpTms xs ys else cmpTm x y
 | _,_=>0
def cmpAt (a b:At0) : Int:=orI [cmpS a.name b.name,cmpI a.args.length b.args.length,cmpTm a.by_ b.by_,cmpTms a.args b.args]
/-! from XF5 -/
def Tm.sm (t:Tm) : Prop:=t.s.size<4611686018427387904
def At0.sm (a:At0) : Prop:=a.name.size<4611686018427387904∧a.by_.sm∧∀t∈a.args,t.sm
def Cl.sm (x:Cl) : Prop:=x.head.sm∧(∀a∈x.body,a.sm)∧∀t∈x.tests,t.l.sm∧t.r.sm

/-! from XF6 -/
def lookB : List Bd→Int→Option Tm
 | [],_=>none
 | b::s,x=>if b.var=x then some b.to else lookB s x
def becomeT (s:List Bd) (t:Tm) : Tm:=if t.isVar then (lookB s t.n).getD t else t
def applyA (s:List Bd) (a:At0) : At0:=⟨becomeT s a.by_,a.name,a.args.map (becomeT s)⟩

/-! from XF7 -/
def placeOf : List Tm→Tm→Nat→Int
 | [],_,_=>-1
 | x::xs,t,k=>if x=t then k else placeOf xs t (k+1)

/-! from XF8 -/
def At0.map (f:Tm→Tm) (a:At0) : At0:=⟨f a.by_,a.name,a.args.map f⟩
def Cl.map (f:Tm→Tm) (x:Cl) : Cl:=⟨x.head.map f,x.body.map (At0.map f),x.tests.map fun t=>⟨t.op,f t.l,f t.r⟩⟩

/-! from XF9 -/

structure P3 {α:Type} (cmp:α→α→Int) : Prop where
 neg : ∀a b,cmp b a=- cmp a b
 tr : ∀a b c,cmp a b≤0→cmp b c≤0→cmp a c≤0
structure T3 {α:Type} (cmp:α→α→Int) : Prop extends P3 cmp where
 eq : ∀a b,cmp a b=0→a=b
section
variable {α β : Type} {f g : α → α → Int}
theorem P3.refl (h:P3 f) (a:α) : f a a=0:=by have:=h.neg a a;omega
theorem T3.eq0 (h:T3 f) {a b:α} : f a b=0↔a=b:=⟨h.eq a b,fun e=>by subst e;exact h.refl a⟩
theorem P3.le_lt (h:P3 f) {a b c:α} (h1:f a b≤0) (h2:f b c<0) : f a c<0:=by
 have h3:=h.tr a b c h1 (by omega)
 rcases Int.lt_or_eq_of_le h3 with h4|h4
 ·exact h4
 ·have h5:=h.neg a c
  have h6:=h.tr c a b (by omega) h1
  have:=h.neg b c
  omega
theorem P3.lt_le (h:P3 f) {a b c:α} (h1:f a b<0) (h2:f b c≤0) : f a c<0:=by
 have h3:=h.tr a b c (by omega) h2
 rcases Int.lt_or_eq_of_le h3 with h4|h4
 ·exact h4
 ·have h5:=h.neg a c
  have h6:=h.tr b c a h2 (by omega)
  have:=h.neg a b
  omega
theorem P3.lt_tr (h:P3 f) {a b c:α} (h1:f a b<0) (h2:f b c<0) : f a c<0:=h.lt_le h1 (by omega)
theorem P3.pull (h:P3 f) (k:β→α) : P3 (fun a b=>f (k a) (k b)):=⟨fun a b=>h.neg _ _,fun a b c=>h.tr _ _ _⟩
theorem P3.lex (h:P3 f) (k:P3 g) : P3 (fun a b=>if f a b=0 then g a b else f a b):=by
 refine ⟨fun a b=>?_,fun a b c h1 h2=>?_⟩
 ·have h1:=h.neg a b
  have h2:=k.neg a b
  by_cases e : f a b=0
  ·have : f b a=0:=by omega
   simp [e,this,h2]
  ·have : f b a≠0:=by omega
   simp [e,h1]
 ·have n1:=h.neg a b
  have n2:=h.neg b c
  have n3:=h.neg a c
  by_cases e1 : f a b=0
  ·rw [if_pos e1] at h1
   by_cases e2 : f b c=0
   ·rw [if_pos e2] at h2
    have e3 : f a c=0:=by
     have a1:=h.tr a b c (by omega) (by omega)
     have a2:=h.tr c b a (by omega) (by omega)
     omega
    rw [if_pos e3]
    exact k.tr a b c h1 h2
   ·rw [if_neg e2] at h2
    have e3:=h.le_lt (a:=a) (b:=b) (c:=c) (by omega) (by omega)
    rw [if_neg (by omega)]
    omega
  ·rw [if_neg e1] at h1
   have e3 : f a c<0:=by
    by_cases e2 : f b c=0
    ·exact h.lt_le (b:=b) (by omega) (by omega)
    ·rw [if_neg e2] at h2
     exact h.lt_tr (b:=b) (by omega) (by omega)
   rw [if_neg (by omega)]
   omega
theorem cmpI_p3 : P3 cmpI:=by
 refine ⟨fun a b=>?_,fun a b c=>?_⟩
 ·unfold cmpI;repeat' split<;>try omega
 ·unfold cmpI;repeat' split<;>try omega
theorem cmpI_t3 : T3 cmpI:=⟨cmpI_p3,fun a b h=>by
 unfold cmpI at h;repeat' split at h
 all_goals omega⟩
theorem cb_neg : ∀a b : List UInt8,Lib.compareBytes b a=- Lib.compareBytes a b
 | [],[]=>rfl
 | [],_::_=>rfl
 | _::_,[]=>rfl
 | a::as,b::bs=>by
  have ih:=cb_neg as bs
  simp only [Lib.compareBytes,UInt8.lt_iff_toNat_lt]
  repeat' split<;>try omega
theorem cb_tr : ∀a b c : List UInt8,Lib.compareBytes a b≤0→Lib.compareBytes b c≤0→Lib.compareBytes a c≤0
 | [],_,[]=>fun _ _=>by simp [Lib.compareBytes]
 | [],_,_::_=>fun _ _=>by simp [Lib.compareBytes]
 | _::_,[],_=>fun h _=>by simp [Lib.compareBytes] at h
 | _::_,_::_,[]=>fun _ h=>by simp [Lib.compareBytes] at h
 | a::as,b::bs,c::cs=>by
  have ih:=cb_tr as bs cs
  simp only [Lib.compareBytes,UInt8.lt_iff_toNat_lt]
  repeat' split<;>try omega
theorem cb_eq : ∀a b : List UInt8,Lib.compareBytes a b=0→a=b
 | [],[]=>fun _=>rfl
 | [],_::_=>fun h=>by simp [Lib.compareBytes] at h
 | _::_,[]=>fun h=>by simp [Lib.compareBytes] at h
 | a::as,b::bs=>fun h=>by
  simp only [Lib.compareBytes,UInt8.lt_iff_toNat_lt] at h
  split at h
  ·cases h
  ·split at h
   ·cases h
   ·rw [cb_eq as bs h,UInt8.toNat_inj.1 (show a.toNat=b.toNat by omega)]
theorem cmpS_t3 : T3 cmpS:=⟨⟨fun a b=>cb_neg _ _,fun a b c=>cb_tr _ _ _⟩,fun a b h=>by
 have h1:=cb_eq _ _ h
 have h2 : a.data=b.data:=Array.toList_inj.1 h1
 cases a;cases b;cases h2;rfl⟩
theorem cmpTm_eq (a b:Tm) : cmpTm a b=if cmpI a.k b.k=0 then (if cmpI a.n b.n=0 then cmpS a.s b.s else cmpI a.n b.n) else cmpI a.k b.k:=by
 unfold cmpTm orI orI orI orI
 by_cases h : cmpS a.s b.s=0<;>simp [h]
theorem cmpTm_t3 : T3 cmpTm:=by
 have h:=(cmpI_p3.pull Tm.k).lex ((cmpI_p3.pull Tm.n).lex (cmpS_t3.toP3.pull Tm.s))
 have e : cmpTm=fun a b=>if cmpI a.k b.k=0 then (if cmpI a.n b.n=0 then cmpS a.s b.s else cmpI a.n b.n) else cmpI a.k b.k:=by funext a b;exact cmpTm_eq a b
 refine ⟨e▸h,fun a b h=>?_⟩
 rw [cmpTm_eq] at h
 split at h
 ·rename_i h1
  split at h
  ·rename_i h2
   have:=cmpI_t3.eq _ _ h1
   have:=cmpI_t3.eq _ _ h2
   have:=cmpS_t3.eq _ _ h
   cases a;cases b;simp_all
  ·contradiction
 ·contradiction

def lexL (f:α→α→Int) : List α→List α→Int
 | [],[]=>0
 | [],_::_=>-1
 | _::_,[]=>1
 | a::as,b::bs=>if f a b=0 then lexL f as bs else f a b
theorem lexL_neg (h:P3 f) : ∀a b : List α,lexL f b a=- lexL f a b
 | [],[]=>rfl
 | [],_::_=>rfl
 | _::_,[]=>rfl
 | a::as,b::bs=>by
  have ih:=lexL_neg h as bs
  have n:=h.neg a b
  simp only [lexL]
  repeat' split<;>try omega
theorem lexL_tr (h:P3 f) : ∀a b c : List α,lexL f a b≤0→lexL f b c≤0→lexL f a c≤0
 | [],_,[]=>fun _ _=>by simp [lexL]
 | [],_,_::_=>fun _ _=>by simp [lexL]
 | _::_,[],_=>fun h _=>by simp [lexL] at h
 | _::_,_::_,[]=>fun _ h=>by simp [lexL] at h
 | a::as,b::bs,c::cs=>by
  have ih:=lexL_tr h as bs cs
  have n1:=h.neg a b
  have n2:=h.neg b c
  have n3:=h.neg a c
  have t1:=h.tr a b c
  have t2:=h.tr c b a
  have t3:=fun h1=>h.le_lt (a:=a) (b:=b) (c:=c) h1
  have t4:=fun h1=>h.lt_le (a:=a) (b:=b) (c:=c) h1
  simp only [lexL]
  intro h1 h2
  split at h1<;>split at h2<;>split<;>omega
theorem lexL_p3 (h:P3 f) : P3 (lexL f):=⟨lexL_neg h,lexL_tr h⟩
theorem lexL_t3 (h:T3 f) : T3 (lexL f):=⟨lexL_p3 h.toP3,by
 intro a
 induction a with
 | nil=>intro b h;cases b with
  | nil=>rfl
  | cons b bs=>simp [lexL] at h
 | cons a as ih=>intro b hb;cases b with
  | nil=>simp [lexL] at hb
  | cons b bs =>
   simp only [lexL] at hb
   split at hb
   ·rename_i e
    rw [h.eq a b e,ih bs hb]
   ·contradiction⟩

theorem cmpTms_lexL : ∀a b : List Tm,a.length=b.length→cmpTms a b=lexL cmpTm a b
 | [],[]=>fun _=>rfl
 | [],_::_=>fun h=>by simp at h
 | _::_,[]=>fun h=>by simp at h
 | a::as,b::bs=>fun h=>by
  simp only [cmpTms,lexL,cmpTms_lexL as bs (by simpa using h)]
theorem cmpI_nat0 {a b:Nat} : cmpI (a:Int) (b:Int)=0↔a=b:=by rw [cmpI_t3.eq0];omega
theorem cmpAt_eq (a b:At0) : cmpAt a b=if cmpS a.name b.name=0 then (if cmpI a.args.length b.args.length=0 then (if cmpTm a.by_ b.by_=0 then lexL cmpTm a.args b.args else cmpTm a.by_ b.by_) else cmpI a.args.length b.args.length) else cmpS a.name b.name:=by
 simp only [cmpAt,orI]
 by_cases h1 : cmpS a.name b.name=0
 ·by_cases h2 : cmpI a.args.length b.args.length=0
  ·have e:=cmpTms_lexL a.args b.args (cmpI_nat0.1 h2)
   rw [e]
   simp only [h1,h2,if_true]
   by_cases h4 : lexL cmpTm a.args b.args=0<;>simp [h4]
  ·simp [h1,h2]
 ·simp [h1]
theorem cmpAt_t3 : T3 cmpAt:=by
 have h:=(cmpS_t3.toP3.pull At0.name).lex ((cmpI_p3.pull (fun a:At0=>(a.args.length:Int))).lex ((cmpTm_t3.toP3.pull At0.by_).lex ((lexL_p3 cmpTm_t3.toP3).pull At0.args)))
 have e : cmpAt=fun a b=>if cmpS a.name b.name=0 then (if cmpI a.args.length b.args.length=0 then (if cmpTm a.by_ b.by_=0 then lexL cmpTm a.args b.args else cmpTm a.by_ b.by_) else cmpI a.args.length b.args.length) else cmpS a.name b.name:=by funext a b;exact cmpAt_eq a b
 refine ⟨e▸h,fun a b h=>?_⟩
 rw [cmpAt_eq] at h
 split at h
 ·split at h
  ·split at h
   ·rename_i h1 h2 h3
    exact (At0.eq a b).2 ⟨cmpTm_t3.eq _ _ h3,cmpS_t3.eq _ _ h1,(lexL_t3 cmpTm_t3).eq _ _ h⟩
   ·contradiction
  ·contradiction
 ·contradiction
def cmpTs (a b:Ts) : Int:=if cmpI a.op b.op=0 then (if cmpTm a.l b.l=0 then cmpTm a.r b.r else cmpTm a.l b.l) else cmpI a.op b.op
theorem cmpTs_t3 : T3 cmpTs:=by
 have h:=(cmpI_p3.pull Ts.op).lex ((cmpTm_t3.toP3.pull Ts.l).lex (cmpTm_t3.toP3.pull Ts.r))
 refine ⟨h,fun a b h=>?_⟩
 unfold cmpTs at h
 split at h
 ·split at h
  ·rename_i h1 h2
   have:=cmpI_t3.eq _ _ h1
   have:=cmpTm_t3.eq _ _ h2
   have:=cmpTm_t3.eq _ _ h
   cases a;cases b;simp_all
  ·contradiction
 ·contradiction
def cmpCl (a b:Cl) : Int:=if cmpAt a.head b.head=0 then (if cmpI a.body.length b.body.length=0 then (if lexL cmpAt a.body b.body=0 then (if cmpI a.tests.length b.tests.length=0 then lexL cmpTs a.tests b.tests else cmpI a.tests.length b.tests.length) else lexL cmpAt a.body b.body) else cmpI a.body.length b.body.length) else cmpAt a.head b.head
theorem cmpCl_t3 : T3 cmpCl:=by
 have h:=(cmpAt_t3.toP3.pull Cl.head).lex ((cmpI_p3.pull (fun a:Cl=>(a.body.length:Int))).lex (((lexL_p3 cmpAt_t3.toP3).pull Cl.body).lex ((cmpI_p3.pull (fun a:Cl=>(a.tests.length:Int))).lex ((lexL_p3 cmpTs_t3.toP3).pull Cl.tests))))
 refine ⟨h,fun a b h=>?_⟩
 unfold cmpCl at h
 split at h
 ·split at h
  ·split at h
   ·split at h
    ·rename_i h1 h2 h3 h4
     exact (Cl.eq a b).2 ⟨cmpAt_t3.eq _ _ h1,(lexL_t3 cmpAt_t3).eq _ _ h3,(lexL_t3 cmpTs_t3).eq _ _ h⟩
    ·contradiction
   ·contradiction
  ·contradiction
 ·contradiction

def Rise (f:α→α→Int) (l:List α) : Prop:=l.Pairwise fun a b=>f a b<0
theorem Rise.uniq (h:P3 f) : ∀{l l':List α},Rise f l→Rise f l'→(∀x,x∈l↔x∈l')→l=l':=by
 intro l
 induction l with
 | nil =>
  intro l' _ _ hm
  cases l' with
  | nil=>rfl
  | cons y l'=>exact absurd ((hm y).2 (List.mem_cons_self ..)) (by simp)
 | cons x l ih =>
  intro l' h1 h2 hm
  cases l' with
  | nil=>exact absurd ((hm x).1 (List.mem_cons_self ..)) (by simp)
  | cons y l' =>
   have p1:=List.pairwise_cons.1 h1
   have p2:=List.pairwise_cons.1 h2
   have hxy : x=y:=by
    rcases List.mem_cons.1 ((hm x).1 (List.mem_cons_self ..)) with e|hx
    ·exact e
    ·rcases List.mem_cons.1 ((hm y).2 (List.mem_cons_self ..)) with e|hy
     ·exact e.symm
     ·have a1:=p1.1 y hy
      have a2:=p2.1 x hx
      have:=h.neg x y
      omega
   subst hxy
   congr 1
   refine ih p1.2 p2.2 fun z=>⟨fun hz=>?_,fun hz=>?_⟩
   ·rcases List.mem_cons.1 ((hm z).1 (List.mem_cons_of_mem _ hz)) with e|h4
    ·subst e
     have:=p1.1 z hz
     have:=h.refl z
     omega
    ·exact h4
   ·rcases List.mem_cons.1 ((hm z).2 (List.mem_cons_of_mem _ hz)) with e|h4
    ·subst e
     have:=p2.1 z hz
     have:=h.refl z
     omega
    ·exact h4
def insU (f:α→α→Int) (x:α) : List α→List α
 | []=>[x]
 | y::l=>if f x y<0 then x::y::l else if f x y=0 then y::l else y::insU f x l
def setU (f:α→α→Int) (l:List α) : List α:=l.foldl (fun acc x=>insU f x acc) []
theorem mem_insU {x z:α} : ∀{l:List α},z∈insU f x l→z=x∨z∈l:=by
 intro l
 induction l with
 | nil=>intro h;simpa [insU] using h
 | cons y l ih =>
  intro h
  unfold insU at h
  split at h
  ·simpa using h
  ·split at h
   ·exact .inr h
   ·rcases List.mem_cons.1 h with e|h
    ·exact .inr (e▸List.mem_cons_self ..)
    ·exact (ih h).imp id (List.mem_cons_of_mem _)
theorem insU_rise (hf:P3 f) {x:α} : ∀{l:List α},Rise f l→Rise f (insU f x l):=by
 intro l
 induction l with
 | nil=>intro _;simp [insU,Rise]
 | cons y l ih =>
  intro h
  have p:=List.pairwise_cons.1 h
  unfold insU
  split
  ·rename_i hlt
   refine List.pairwise_cons.2 ⟨fun z hz=>?_,h⟩
   rcases List.mem_cons.1 hz with e|hz
   ·subst e;exact hlt
   ·exact hf.lt_tr hlt (p.1 z hz)
  ·split
   ·exact h
   ·rename_i h1 h2
    refine List.pairwise_cons.2 ⟨fun z hz=>?_,ih p.2⟩
    rcases mem_insU hz with e|hz
    ·subst e
     have:=hf.neg z y
     omega
    ·exact p.1 z hz
theorem setU_rise (hf:P3 f) (l:List α) : Rise f (setU f l):=by
 unfold setU
 have : ∀acc,Rise f acc→Rise f (l.foldl (fun acc x=>insU f x acc) acc):=by
  induction l with
  | nil=>intro acc h;exact h
  | cons x l ih=>intro acc h;exact ih _ (insU_rise hf h)
 exact this [] List.Pairwise.nil
theorem insU_length {x:α} {l:List α} : (insU f x l).length≤l.length+1:=by
 induction l with
 | nil=>simp [insU]
 | cons y l ih =>
  unfold insU
  by_cases h1 : f x y<0
  ·simp [h1]
  ·by_cases h2 : f x y=0<;>simp [h1,h2,ih]
theorem setU_length (l:List α) : (setU f l).length≤l.length:=by
 unfold setU
 have : ∀(l acc:List α),(l.foldl (fun acc x=>insU f x acc) acc).length≤acc.length+l.length:=by
  intro l
  induction l with
  | nil=>intro acc;simp
  | cons x l ih=>intro acc;have:=ih (insU f x acc);have:=insU_length (f:=f) (x:=x) (l:=acc);simp only [List.foldl_cons,List.length_cons];omega
 simpa using this l []
end

def cmpB (a b:Bd) : Int:=cmpI a.var b.var
theorem cmpB_p3 : P3 cmpB:=cmpI_p3.pull Bd.var
def settledB (s:List Bd) : List Bd:=setU cmpB s
theorem cmpB_lt {a b:Bd} : cmpB a b<0↔a.var<b.var:=by
 unfold cmpB cmpI;repeat' split<;>try omega
theorem cmpB_eq {a b:Bd} : cmpB a b=0↔a.var=b.var:=cmpI_t3.eq0
theorem lookB_insU (b:Bd) (v:Int) : ∀l : List Bd,Rise cmpB l→lookB (insU cmpB b l) v=(lookB l v).or (if b.var=v then some b.to else none):=by
 intro l
 induction l with
 | nil=>intro _;simp [insU,lookB]
 | cons y l ih =>
  intro h
  have p:=List.pairwise_cons.1 h
  unfold insU
  by_cases h1 : cmpB b y<0
  ·rw [if_pos h1]
   have h1':=cmpB_lt.1 h1
   have hn : ∀z∈y::l,b.var<z.var:=by
    intro z hz
    rcases List.mem_cons.1 hz with e|hz
    ·subst e;exact h1'
    ·have:=cmpB_lt.1 (p.1 z hz);omega
   by_cases e : b.var=v
   ·have : ∀l' : List Bd,(∀z∈l',b.var<z.var)→lookB l' v=none:=by
     intro l'
     induction l' with
     | nil=>intro _;rfl
     | cons z l' ih' =>
      intro hz
      have:=hz z (List.mem_cons_self ..)
      rw [lookB,if_neg (by omega)]
      exact ih' fun z' hz'=>hz z' (List.mem_cons_of_mem _ hz')
    rw [this _ hn,lookB,if_pos e,if_pos e]
    rfl
   ·rw [lookB,if_neg e,if_neg e]
    simp
  ·rw [if_neg h1]
   by_cases h2 : cmpB b y=0
   ·rw [if_pos h2]
    have h2':=cmpB_eq.1 h2
    by_cases e : b.var=v
    ·rw [lookB,if_pos (by omega)]
     rfl
    ·rw [if_neg e]
     simp
   ·rw [if_neg h2]
    by_cases e : y.var=v
    ·simp [lookB,e]
    ·simp only [lookB,if_neg e]
     exact ih p.2
theorem lookB_append (s t:List Bd) (v:Int) : lookB (s++t) v=(lookB s v).or (lookB t v):=by
 induction s with
 | nil=>simp [lookB]
 | cons b s ih =>
  simp only [List.cons_append,lookB]
  split<;>simp [ih]
theorem lookB_settled (s:List Bd) (v:Int) : lookB (settledB s) v=lookB s v:=by
 have : ∀(s acc:List Bd),Rise cmpB acc→lookB (s.foldl (fun acc x=>insU cmpB x acc) acc) v=(lookB acc v).or (lookB s v):=by
  intro s
  induction s with
  | nil=>intro acc _;simp [lookB]
  | cons b s ih =>
   intro acc h
   rw [List.foldl_cons,ih _ (insU_rise cmpB_p3 h),lookB_insU b v acc h]
   simp only [lookB]
   cases lookB acc v<;>simp
   split<;>simp
 simpa [settledB,setU,lookB] using this s [] List.Pairwise.nil
theorem settled_rise (s:List Bd) : Rise cmpB (settledB s):=setU_rise cmpB_p3 s
theorem look_mem {s:List Bd} {v:Int} {t:Tm} (h:lookB s v=some t) : ∃b∈s,b.var=v∧b.to=t:=by
 induction s with
 | nil=>cases h
 | cons b s ih =>
  rw [lookB] at h
  split at h
  ·exact ⟨b,List.mem_cons_self ..,by assumption,by simpa using h⟩
  ·obtain ⟨b',h1,h2⟩:=ih h
   exact ⟨b',List.mem_cons_of_mem _ h1,h2⟩
theorem look_of_rise {s:List Bd} (h:Rise cmpB s) {b:Bd} (hb:b∈s) : lookB s b.var=some b.to:=by
 induction s with
 | nil=>cases hb
 | cons x s ih =>
  have p:=List.pairwise_cons.1 h
  rcases List.mem_cons.1 hb with e|hb
  ·subst e;simp [lookB]
  ·have:=cmpB_lt.1 (p.1 b hb)
   rw [lookB,if_neg (by omega)]
   exact ih p.2 hb
theorem look_isSome {s:List Bd} {v:Int} : (lookB s v).isSome=true↔∃b∈s,b.var=v:=by
 induction s with
 | nil=>simp [lookB]
 | cons b s ih =>
  rw [lookB]
  split
  ·simp_all
  ·rw [ih]
   constructor
   ·rintro ⟨b',h1,h2⟩;exact ⟨b',List.mem_cons_of_mem _ h1,h2⟩
   ·rintro ⟨b',h1,h2⟩
    rcases List.mem_cons.1 h1 with e|h1
    ·subst e;contradiction
    ·exact ⟨b',h1,h2⟩
theorem rise_ext {s s':List Bd} (h:Rise cmpB s) (h':Rise cmpB s') (he:∀v,lookB s v=lookB s' v) : s=s':=by
 refine h.uniq cmpB_p3 h' fun b=>?_
 have key : ∀{s s':List Bd},Rise cmpB s→(∀v,lookB s v=lookB s' v)→b∈s→b∈s':=by
  intro s s' h he hb
  have h1:=look_of_rise h hb
  rw [he] at h1
  obtain ⟨b',hm,e1,e2⟩:=look_mem h1
  have : b'=b:=by cases b;cases b';simp_all
  exact this▸hm
 exact ⟨key h he,key h' fun v=>(he v).symm⟩
theorem settled_of {s out:List Bd} (h:Rise cmpB out) (he:∀v,lookB out v=lookB s v) : out=settledB s :=
 rise_ext h (settled_rise s) fun v=>by rw [he,lookB_settled]
theorem settled_length (s:List Bd) : (settledB s).length≤s.length:=setU_length s

/-! ### matching -/
def extB (all:List Bd) (x y:Tm) : List Bd:=if x.isVar && (lookB all x.n).isNone then all++[⟨x.n,y⟩] else all
def extAll : List Bd→List Tm→List Tm→List Bd
 | all,x::xs,y::ys=>extAll (extB all x y) xs ys
 | all,_,_=>all
def matchOk (p a:At0) : Bool:=decide (p.name=a.name) && (decide (p.args.length=a.args.length) && !(p.by_.isVar && decide (a.by_.k=0)))
def matchA (p a:At0) (s:List Bd) : Option (List Bd) :=
 if matchOk p a=false then none
 else if applyA (extAll s p.terms a.terms) p=a then some (settledB (extAll s p.terms a.terms)) else none
theorem extB_look {all:List Bd} {x y:Tm} {v:Int} {t:Tm} (h:lookB all v=some t) : lookB (extB all x y) v=some t:=by
 unfold extB
 split
 ·rw [lookB_append,h];rfl
 ·exact h
theorem extAll_look : ∀(xs ys:List Tm) (all:List Bd) {v:Int} {t:Tm},lookB all v=some t→lookB (extAll all xs ys) v=some t:=by
 intro xs
 induction xs with
 | nil=>intro ys all v t h;exact h
 | cons x xs ih =>
  intro ys all v t h
  cases ys with
  | nil=>exact h
  | cons y ys=>exact ih ys _ (extB_look h)
theorem extB_length (all:List Bd) (x y:Tm) : (extB all x y).length≤all.length+1:=by
 unfold extB;split<;>simp
theorem extAll_length : ∀(xs ys:List Tm) (all:List Bd),(extAll all xs ys).length≤all.length+xs.length:=by
 intro xs
 induction xs with
 | nil=>intro ys all;exact Nat.le_refl _
 | cons x xs ih =>
  intro ys all
  cases ys with
  | nil=>simp [extAll]
  | cons y ys =>
   have h1:=ih ys (extB all x y)
   have h2:=extB_length all x y
   simp only [extAll,List.length_cons]
   omega
theorem extB_var {all:List Bd} {x y:Tm} (h:x.isVar=true) : lookB (extB all x y) x.n=some ((lookB all x.n).getD y):=by
 unfold extB
 cases hl : lookB all x.n with
 | none=>simp [h,lookB_append,hl,lookB]
 | some t=>simp [hl]
def scan : List Bd→List Tm→List Tm→Option (List Bd)
 | all,x::xs,y::ys =>
  if x.isVar then
   match lookB all x.n with
   | some t=>if t=y then scan all xs ys else none
   | none=>scan (all++[⟨x.n,y⟩]) xs ys
  else if x=y then scan all xs ys else none
 | all,_,_=>some all
theorem become_ext {all:List Bd} {x y:Tm} (xs ys:List Tm) : becomeT (extAll (extB all x y) xs ys) x=y↔(if x.isVar then (lookB all x.n).getD y=y else x=y):=by
 unfold becomeT
 by_cases h : x.isVar=true
 ·have h1:=extAll_look xs ys _ (extB_var (all:=all) (y:=y) h)
  simp [h,h1]
 ·simp [h]
theorem scan_eq : ∀(xs ys:List Tm) (all:List Bd),xs.length=ys.length→scan all xs ys=if xs.map (becomeT (extAll all xs ys))=ys then some (extAll all xs ys) else none:=by
 intro xs
 induction xs with
 | nil=>intro ys all h;cases ys<;>simp_all [scan,extAll]
 | cons x xs ih =>
  intro ys all h
  cases ys with
  | nil=>simp at h
  | cons y ys =>
   have hl : xs.length=ys.length:=by simpa using h
   have hb:=become_ext (all:=all) (x:=x) (y:=y) xs ys
   simp only [extAll,List.map_cons,List.cons.injEq,hb]
   unfold scan
   by_cases hv : x.isVar=true
   ·simp only [hv,if_true]
    cases hk : lookB all x.n with
    | none =>
     have : extB all x y=all++[⟨x.n,y⟩]:=by simp [extB,hv,hk]
     simp [this,ih ys _ hl]
    | some t =>
     have : extB all x y=all:=by simp [extB,hv,hk]
     simp only [this,ih ys _ hl,Option.getD_some]
     by_cases e : t=y<;>simp [e]
   ·have : extB all x y=all:=by simp [extB,hv]
    simp only [hv,this,ih ys _ hl]
    by_cases e : x=y<;>simp [e]
theorem applyA_eq {s:List Bd} {p a:At0} (hn:p.name=a.name) : applyA s p=a↔p.terms.map (becomeT s)=a.terms:=by
 rw [At0.eq]
 simp [applyA,At0.terms,hn]
theorem matchA_scan (p a:At0) (s:List Bd) : matchA p a s=if matchOk p a=false then none else (scan s p.terms a.terms).map settledB:=by
 unfold matchA
 by_cases h : matchOk p a=false
 ·simp [h]
 ·rw [if_neg h,if_neg h]
  simp [matchOk] at h
  rw [scan_eq _ _ _ (by simp [At0.terms,h.2.1])]
  simp only [applyA_eq h.1]
  split<;>rfl
theorem matchA_length {p a:At0} {s t:List Bd} (h:matchA p a s=some t) : t.length≤s.length+p.args.length+1:=by
 unfold matchA at h
 split at h
 ·cases h
 ·split at h
  ·simp only [Option.some.injEq] at h
   subst h
   have h1:=settled_length (extAll s p.terms a.terms)
   have h2:=extAll_length p.terms a.terms s
   simp only [At0.terms,List.length_cons] at h1 h2 ⊢
   omega
  ·cases h

def misnum : List Tm→Nat→Bool
 | [],_=>false
 | t::ts,i=>!decide (t.n=i) || misnum ts (i+1)
def Cl.check (x:Cl) : Int :=
 if 8<x.body.length∨8<x.tests.length then 31 else
 orI [orI ((x.head::x.body).map At0.check),orI (x.tests.map Ts.check),if x.head.by_.k=3 then 33 else 0,
  if (varsOf (x.head.terms++x.testTerms)).any (fun t=>!decide (t∈x.bodyTerms)) then 34 else 0,if misnum (varsOf x.terms) 0 then 35 else 0]
def Cl.nv (x:Cl) : Nat:=(varsOf x.terms).length
theorem orI_zero {l:List Int} : orI l=0↔∀x∈l,x=0:=by
 induction l with
 | nil=>simp [orI]
 | cons a l ih =>
  unfold orI
  split
  ·rename_i h;simp [ih,h]
  ·rename_i h;simp [h]
theorem mem_foldl_varsOn {t:Tm} : ∀(ts out:List Tm),t∈ts.foldl varsOn out↔t∈out∨(t∈ts∧t.isVar=true):=by
 intro ts
 induction ts with
 | nil=>intro out;simp
 | cons x ts ih =>
  intro out
  rw [List.foldl_cons,ih]
  unfold varsOn
  by_cases h1 : x.isVar=true
  ·by_cases h2 : x∈out
   ·simp only [h1,h2,decide_true,Bool.not_true,Bool.and_false,List.mem_cons]
    constructor
    ·rintro (h|⟨h,h3⟩)
     ·exact .inl h
     ·exact .inr ⟨.inr h,h3⟩
    ·rintro (h|⟨h|h,h3⟩)
     ·exact .inl h
     ·subst h;exact .inl h2
     ·exact .inr ⟨h,h3⟩
   ·simp only [h1,h2,decide_false,Bool.not_false,Bool.and_true,if_true,List.mem_append,List.mem_cons,List.not_mem_nil,or_false]
    constructor
    ·rintro ((h|h)|⟨h,h3⟩)
     ·exact .inl h
     ·subst h;exact .inr ⟨.inl rfl,h1⟩
     ·exact .inr ⟨.inr h,h3⟩
    ·rintro (h|⟨h|h,h3⟩)
     ·exact .inl (.inl h)
     ·exact .inl (.inr h)
     ·exact .inr ⟨h,h3⟩
  ·simp only [h1,Bool.false_and,List.mem_cons]
   constructor
   ·rintro (h|⟨h,h3⟩)
    ·exact .inl h
    ·exact .inr ⟨.inr h,h3⟩
   ·rintro (h|⟨h|h,h3⟩)
    ·exact .inl h
    ·subst h;exact absurd h3 h1
    ·exact .inr ⟨h,h3⟩
theorem mem_varsOf {t:Tm} {ts:List Tm} : t∈varsOf ts↔t∈ts∧t.isVar=true:=by
 unfold varsOf
 rw [mem_foldl_varsOn]
 simp
theorem misnum_false : ∀(ts:List Tm) (i:Nat),misnum ts i=false↔∀(j:Nat) (t:Tm),ts[j]?=some t→t.n=((i+j:Nat):Int):=by
 intro ts
 induction ts with
 | nil=>intro i;simp [misnum]
 | cons x ts ih =>
  intro i
  unfold misnum
  rw [Bool.or_eq_false_iff,ih]
  constructor
  ·rintro ⟨h1,h2⟩ j t hj
   cases j with
   | zero=>simp at hj h1;subst hj;simpa using h1
   | succ j=>have:=h2 j t (by simpa using hj);rw [this];omega
  ·intro h
   refine ⟨by simpa using h 0 x rfl,fun j t hj=>?_⟩
   have:=h (j+1) t (by simpa using hj)
   rw [this];omega
structure Cl.Ok (x:Cl) : Prop where
 b8 : x.body.length≤8
 t8 : x.tests.length≤8
 at_ : ∀a∈x.head::x.body,a.check=0
 ts : ∀t∈x.tests,t.check=0
 hd : x.head.by_.k≠3
 safe : ∀t∈x.head.terms++x.testTerms,t.isVar=true→t∈x.bodyTerms
 num : ∀(j:Nat) (t:Tm),(varsOf x.terms)[j]?=some t→t.n=(j:Int)
theorem Cl.check_ok {x:Cl} : x.check=0↔x.Ok:=by
 unfold Cl.check
 constructor
 ·intro h
  split at h
  ·cases h
  ·rename_i hb
   rw [orI_zero] at h
   simp only [List.mem_cons,List.not_mem_nil,or_false,forall_eq_or_imp,forall_eq] at h
   obtain ⟨h1,h2,h3,h4,h5⟩:=h
   rw [orI_zero] at h1 h2
   refine ⟨by omega,by omega,fun a ha=>h1 _ (List.mem_map_of_mem ha),fun t ht=>h2 _ (List.mem_map_of_mem ht),fun e=>by simp [e] at h3,fun t ht hv=>?_,fun j t hj=>?_⟩
   ·by_cases hc : t∈x.bodyTerms
    ·exact hc
    ·rw [if_pos] at h4
     ·cases h4
     ·exact List.any_eq_true.2 ⟨t,mem_varsOf.2 ⟨ht,hv⟩,by simpa using hc⟩
   ·by_cases hm : misnum (varsOf x.terms) 0=true
    ·simp [hm] at h5
    ·have:=(misnum_false _ 0).1 (by simpa using hm) j t hj
     simpa using this
 ·intro h
  rw [if_neg (by have:=h.b8;have:=h.t8;omega),orI_zero]
  simp only [List.mem_cons,List.not_mem_nil,or_false,forall_eq_or_imp,forall_eq]
  refine ⟨orI_zero.2 fun e he=>?_,orI_zero.2 fun e he=>?_,by simp [h.hd],?_,?_⟩
  ·obtain ⟨a,ha,rfl⟩:=List.mem_map.1 he
   exact h.at_ a ha
  ·obtain ⟨t,ht,rfl⟩:=List.mem_map.1 he
   exact h.ts t ht
  ·rw [if_neg]
   intro hc
   obtain ⟨t,ht,hc⟩:=List.any_eq_true.1 hc
   obtain ⟨h1,h2⟩:=mem_varsOf.1 ht
   simp [h.safe t h1 h2] at hc
  ·rw [if_neg]
   rw [(misnum_false _ 0).2 fun j t hj=>by simpa using h.num j t hj]
   simp
/-! ### values for variables -/
def instT (vals:List Tm) (t:Tm) : Tm:=if t.isVar && decide (t.n<vals.length) then (vals[t.n.toNat]?).getD Tn else t
/-! ### all ways -/
/-! ### the least of them -/

/-! ### where the search stands -/
section
variable {c d : Cl}
/-! ### how much is still to be tried -/
end

def varT (k:Int) : Tm:=⟨3,k,ES⟩
def numT (vs:List Tm) (t:Tm) : Tm:=if 0≤placeOf vs t 0 then varT (placeOf vs t 0) else t
def Cl.normal (x:Cl) : Cl:=x.map (numT (varsOf x.terms))
/-! ### sets of clauses, reduced -/
/-! ### condensed -/

/-! ### reduced -/
/-! ### condensed -/

theorem check_parts {a:At0} (h:a.check=0) : nameB a.name=true∧a.args.length≤8∧(a.by_=Tn∨a.by_.isPrinc=true∨a.by_.isVar=true)∧∀t∈a.args,t.isConst=true∨t.isVar=true:=by
 unfold At0.check at h
 split at h
 ·cases h
 ·rename_i h1
  split at h
  ·cases h
  ·rename_i h2
   split at h
   ·cases h
   ·rename_i h3
    split at h
    ·cases h
    ·rename_i h4
     refine ⟨by simpa using h1,by omega,?_,fun t ht=>?_⟩
     ·by_cases e1 : a.by_=Tn
      ·exact .inl e1
      ·by_cases e2 : a.by_.isPrinc=true
       ·exact .inr (.inl e2)
       ·by_cases e3 : a.by_.isVar=true
        ·exact .inr (.inr e3)
        ·exact absurd ⟨e1,by simpa using e2,by simpa using e3⟩ h3
     ·by_cases e1 : t.isConst=true
      ·exact .inl e1
      ·by_cases e2 : t.isVar=true
       ·exact .inr e2
       ·exact absurd (List.any_eq_true.2 ⟨t,ht,by simp [e1,e2]⟩) h4
section
variable {α : Type} {f : α → α → Int}
end
theorem lexL_get {α:Type} {f:α→α→Int} {xs ys:List α} {k:Nat} {t t':α} (h:xs[k]?=some t) (h':ys[k]?=some t') : lexL f (xs.drop k) (ys.drop k)=if f t t'=0 then lexL f (xs.drop (k+1)) (ys.drop (k+1)) else f t t':=by
 rw [drop_get h,drop_get h']
 rfl
end Go.Wk
namespace Go.Wk
end Go.Wk
namespace Go.Wk
section
variable {σ : Type}
def outS (step:σ→Tm→σ) (ret:σ→Tm→Tm) : σ→List Tm→List Tm
 | _,[]=>[]
 | s,t::ts=>ret s t::outS step ret (step s t) ts
def repA (step:σ→Tm→σ) (ret:σ→Tm→Tm) (s:σ) (a:At0) : At0:=⟨ret s a.by_,a.name,outS step ret (step s a.by_) a.args⟩
def repAs (step:σ→Tm→σ) (ret:σ→Tm→Tm) : σ→List At0→List At0
 | _,[]=>[]
 | s,a::l=>repA step ret s a::repAs step ret (a.terms.foldl step s) l
def repTs (step:σ→Tm→σ) (ret:σ→Tm→Tm) : σ→List Ts→List Ts
 | _,[]=>[]
 | s,t::l=>⟨t.op,ret s t.l,ret (step s t.l) t.r⟩::repTs step ret (step (step s t.l) t.r) l
def repC (step:σ→Tm→σ) (ret:σ→Tm→Tm) (s:σ) (x:Cl) : Cl :=
 ⟨repA step ret s x.head,repAs step ret (x.head.terms.foldl step s) x.body,repTs step ret (x.bodyTerms.foldl step (x.head.terms.foldl step s)) x.tests⟩
end
def posI : List Int→Int→Nat→Int
 | [],_,_=>-1
 | v::vs,k,i=>if v=k then (i:Int) else posI vs k (i+1)
def nrS (V:List Int) (t:Tm) : List Int:=if t.isVar && !decide (t.n∈V) then V++[t.n] else V
def nrR (V:List Int) (t:Tm) : Tm:=if t.isVar then varT (posI (nrS V t) t.n 0) else t
theorem varsOn_all {acc:List Tm} (h:∀t∈acc,t.isVar=true) (t:Tm) : ∀u∈varsOn acc t,u.isVar=true:=by
 intro u hu
 unfold varsOn at hu
 split at hu
 ·rename_i hc
  simp only [List.mem_append,List.mem_singleton] at hu
  rcases hu with hu|rfl
  ·exact h u hu
  ·simp at hc;exact hc.1
 ·exact h u hu
theorem var_n' {t u:Tm} (h:t.isVar=true) (h':u.isVar=true) (e:t.n=u.n) : t=u:=by
 obtain ⟨k,n,s⟩:=t
 obtain ⟨k',n',s'⟩:=u
 simp [Tm.isVar] at h h' e
 simp [h,h',e]
theorem mem_nums' {acc:List Tm} (h:∀t∈acc,t.isVar=true) {t:Tm} (hv:t.isVar=true) : t.n∈acc.map Tm.n↔t∈acc:=by
 rw [List.mem_map]
 exact ⟨fun ⟨u,hu,e⟩=>var_n' (h u hu) hv e▸hu,fun hu=>⟨t,hu,rfl⟩⟩
theorem nrS_map {acc:List Tm} (h:∀t∈acc,t.isVar=true) (t:Tm) : nrS (acc.map Tm.n) t=(varsOn acc t).map Tm.n:=by
 unfold nrS varsOn
 cases hv : t.isVar with
 | false=>simp
 | true =>
  by_cases hm : t∈acc
  ·have:=(mem_nums' h hv).2 hm
   simp only [this,hm,decide_true,Bool.not_true,Bool.and_false,Bool.false_eq_true,if_false]
  ·have : ¬t.n∈acc.map Tm.n:=fun e=>hm ((mem_nums' h hv).1 e)
   simp only [this,hm,decide_false,Bool.not_false,Bool.and_true,if_true,List.map_append,List.map_cons,List.map_nil]
theorem posI_map : ∀(acc:List Tm) (t:Tm) (i:Nat),(∀u∈acc,u.isVar=true)→t.isVar=true→posI (acc.map Tm.n) t.n i=placeOf acc t i
 | [],_,_,_,_=>rfl
 | u::acc,t,i,h,hv=>by
  simp only [List.map_cons,posI,placeOf]
  by_cases e : u=t
  ·subst e;simp
  ·rw [if_neg e,if_neg (fun he=>e (var_n' (h u (List.mem_cons_self ..)) hv he)),posI_map acc t (i+1) (fun u hu=>h u (List.mem_cons_of_mem _ hu)) hv]
theorem placeOf_app : ∀(acc e:List Tm) (t:Tm) (i:Nat),t∈acc→placeOf (acc++e) t i=placeOf acc t i
 | u::acc,e,t,i,h=>by
  simp only [List.cons_append,placeOf]
  by_cases he : u=t
  ·simp [he]
  ·rw [if_neg he,if_neg he]
   exact placeOf_app acc e t (i+1) ((List.mem_cons.1 h).resolve_left fun x=>he x.symm)
theorem placeOf_mem : ∀(acc:List Tm) (t:Tm) (i:Nat),t∈acc→(i:Int)≤placeOf acc t i
 | u::acc,t,i,h=>by
  simp only [placeOf]
  by_cases he : u=t
  ·simp [he]
  ·rw [if_neg he]
   have:=placeOf_mem acc t (i+1) ((List.mem_cons.1 h).resolve_left fun x=>he x.symm)
   omega
theorem placeOf_not : ∀(acc:List Tm) (t:Tm) (i:Nat),t∉acc→placeOf acc t i=-1
 | [],_,_,_=>rfl
 | u::acc,t,i,h=>by
  simp only [List.mem_cons,not_or] at h
  simp only [placeOf]
  rw [if_neg (fun e=>h.1 e.symm)]
  exact placeOf_not acc t (i+1) h.2
theorem varsOn_pre (acc:List Tm) (t:Tm) : acc <+: varsOn acc t:=by
 unfold varsOn
 split
 ·exact List.prefix_append _ _
 ·exact List.prefix_rfl
theorem varsFold_pre : ∀(ts acc:List Tm),acc <+: ts.foldl varsOn acc
 | [],_=>List.prefix_rfl
 | t::ts,acc=>(varsOn_pre acc t).trans (varsFold_pre ts _)
theorem varsFold_all : ∀(ts acc:List Tm),(∀t∈acc,t.isVar=true)→∀t∈ts.foldl varsOn acc,t.isVar=true
 | [],_,h=>h
 | t::ts,acc,h=>varsFold_all ts _ (varsOn_all h t)
theorem mem_varsOn {acc:List Tm} {t:Tm} (hv:t.isVar=true) : t∈varsOn acc t:=by
 unfold varsOn
 by_cases hm : t∈acc
 ·simp [hm]
 ·simp [hv,hm]
theorem nrR_eq {acc F:List Tm} (h:∀t∈acc,t.isVar=true) (hF:∀t∈F,t.isVar=true) {t:Tm} (hp:varsOn acc t <+: F) : nrR (acc.map Tm.n) t=numT F t:=by
 unfold nrR numT
 cases hv : t.isVar with
 | false =>
  have : t∉F:=fun h=>by rw [hF t h] at hv;cases hv
  rw [placeOf_not F t 0 this]
  rfl
 | true =>
  obtain ⟨e,rfl⟩:=hp
  have hm:=mem_varsOn (acc:=acc) hv
  rw [if_pos rfl,nrS_map h,posI_map _ _ _ (varsOn_all h t) hv,placeOf_app _ _ _ _ hm,if_pos (by have:=placeOf_mem (varsOn acc t) t 0 hm;simpa using this)]
theorem nr_fold : ∀(ts acc:List Tm),(∀t∈acc,t.isVar=true)→ts.foldl nrS (acc.map Tm.n)=(ts.foldl varsOn acc).map Tm.n
 | [],_,_=>rfl
 | t::ts,acc,h=>by
  simp only [List.foldl_cons]
  rw [nrS_map h,nr_fold ts _ (varsOn_all h t)]
theorem nr_outS {F:List Tm} (hF:∀t∈F,t.isVar=true) : ∀(ts acc:List Tm),(∀t∈acc,t.isVar=true)→ts.foldl varsOn acc <+: F→outS nrS nrR (acc.map Tm.n) ts=ts.map (numT F)
 | [],_,_,_=>rfl
 | t::ts,acc,h,hp=>by
  simp only [List.foldl_cons] at hp
  simp only [outS,List.map_cons]
  rw [nrR_eq h hF ((varsFold_pre ts _).trans hp),nrS_map h,nr_outS hF ts _ (varsOn_all h t) hp]
theorem nr_repA {F:List Tm} (hF:∀t∈F,t.isVar=true) (a:At0) (acc:List Tm) (h:∀t∈acc,t.isVar=true) (hp:a.terms.foldl varsOn acc <+: F) : repA nrS nrR (acc.map Tm.n) a=a.map (numT F):=by
 have:=nr_outS hF a.terms acc h hp
 simp only [At0.terms,outS,List.map_cons,List.cons.injEq] at this
 unfold repA At0.map
 rw [this.1,this.2]
theorem nr_repAs {F:List Tm} (hF:∀t∈F,t.isVar=true) : ∀(l:List At0) (acc:List Tm),(∀t∈acc,t.isVar=true)→(l.flatMap At0.terms).foldl varsOn acc <+: F→repAs nrS nrR (acc.map Tm.n) l=l.map (At0.map (numT F))
 | [],_,_,_=>rfl
 | a::l,acc,h,hp=>by
  simp only [List.flatMap_cons,List.foldl_append] at hp
  simp only [repAs,List.map_cons]
  rw [nr_repA hF a acc h ((varsFold_pre _ _).trans hp),nr_fold _ _ h,nr_repAs hF l _ (varsFold_all _ _ h) hp]
theorem nr_repTs {F:List Tm} (hF:∀t∈F,t.isVar=true) : ∀(l:List Ts) (acc:List Tm),(∀t∈acc,t.isVar=true)→(l.flatMap fun t=>[t.l,t.r]).foldl varsOn acc <+: F→repTs nrS nrR (acc.map Tm.n) l=l.map fun t=>⟨t.op,numT F t.l,numT F t.r⟩
 | [],_,_,_=>rfl
 | t::l,acc,h,hp=>by
  simp only [List.flatMap_cons,List.foldl_append,List.foldl_cons,List.foldl_nil] at hp
  have h1:=varsOn_all h t.l
  have h2:=varsOn_all h1 t.r
  simp only [repTs,List.map_cons]
  rw [nrR_eq h hF ((varsOn_pre _ _).trans ((varsFold_pre _ _).trans hp)),nrS_map h,nrR_eq h1 hF ((varsFold_pre _ _).trans hp),nrS_map h1,nr_repTs hF l _ h2 hp]
theorem nr_repC (x:Cl) : repC nrS nrR [] x=x.normal:=by
 have h0 : ∀t∈([]:List Tm),t.isVar=true:=fun _ h=>by cases h
 have hF : ∀t∈varsOf x.terms,t.isVar=true:=varsFold_all _ _ h0
 have he : varsOf x.terms=x.testTerms.foldl varsOn (x.bodyTerms.foldl varsOn (x.head.terms.foldl varsOn [])):=by
  unfold varsOf Cl.terms
  rw [List.foldl_append,List.foldl_append]
 have p3 : x.testTerms.foldl varsOn (x.bodyTerms.foldl varsOn (x.head.terms.foldl varsOn [])) <+: varsOf x.terms:=by rw [he];exact List.prefix_rfl
 have p2 : x.bodyTerms.foldl varsOn (x.head.terms.foldl varsOn []) <+: varsOf x.terms:=(varsFold_pre _ _).trans p3
 have p1 : x.head.terms.foldl varsOn [] <+: varsOf x.terms:=(varsFold_pre _ _).trans p2
 have a1:=varsFold_all x.head.terms [] h0
 have a2:=varsFold_all x.bodyTerms _ a1
 unfold repC Cl.normal Cl.map
 have e1:=nr_repA hF x.head [] h0 p1
 have e2:=nr_fold x.head.terms [] h0
 have e3:=nr_fold x.bodyTerms _ a1
 simp only [List.map_nil] at e1 e2
 rw [e1,e2,e3,nr_repAs hF x.body _ a1 p2,nr_repTs hF x.tests _ a2 p3]
end Go.Wk
namespace Go.Wk
def nodV (l:List Bd) : Prop:=(l.map Bd.var).Nodup
theorem lookB_none {l:List Bd} {v:Int} : lookB l v=none↔v∉l.map Bd.var:=by
 rw [←Option.not_isSome_iff_eq_none,look_isSome,List.mem_map]
theorem nodV_snoc {l:List Bd} {b:Bd} (h:nodV l) (hn:lookB l b.var=none) : nodV (l++[b]):=by
 unfold nodV at *
 rw [List.map_append,List.nodup_append]
 refine ⟨h,by simp,?_⟩
 rintro a ha c hc rfl
 simp only [List.map_cons,List.map_nil,List.mem_singleton] at hc
 subst hc
 exact lookB_none.1 hn ha
theorem look_snoc {l all:List Bd} {b:Bd} (h:∀v,lookB l v=lookB all v) (v:Int) : lookB (l++[b]) v=lookB (all++[b]) v:=by
 rw [lookB_append,lookB_append,h]
theorem rise_sorted {l out:List Bd} (hp:out.Perm l) (hs:out.Pairwise fun a b=>cmpB a b≤0) (hn:nodV l) : Rise cmpB out:=by
 have hno : nodV out:=((hp.map Bd.var).nodup_iff).2 hn
 unfold nodV at hno
 rw [List.nodup_iff_pairwise_ne,List.pairwise_map] at hno
 unfold Rise
 refine (hs.and hno).imp ?_
 rintro a b ⟨h1,h2⟩
 rcases Int.lt_or_eq_of_le h1 with h|h
 ·exact h
 ·exact absurd (cmpB_eq.1 h) h2
theorem look_perm : ∀{l out:List Bd},out.Perm l→nodV l→∀v,lookB out v=lookB l v:=by
 intro l out hp
 induction hp with
 | nil=>intro _ v;rfl
 | cons b _ ih =>
  intro hn v
  unfold nodV at hn ih
  simp only [List.map_cons,List.nodup_cons] at hn
  simp only [lookB,ih hn.2 v]
 | swap a b l =>
  intro hn v
  unfold nodV at hn
  simp only [List.map_cons,List.nodup_cons,List.mem_cons,not_or] at hn
  simp only [lookB]
  by_cases h1 : a.var=v
  ·by_cases h2 : b.var=v
   ·exact absurd (h1.trans h2.symm) hn.1.1
   ·simp [h1,h2]
  ·simp [h1]
 | trans h1 h2 ih1 ih2 =>
  intro hn v
  rw [ih1 (((h2.map Bd.var).nodup_iff).2 hn) v,ih2 hn v]
theorem settled_sorted {l out all:List Bd} (hp:out.Perm l) (hs:out.Pairwise fun a b=>cmpB a b≤0) (hn:nodV l) (he:∀v,lookB l v=lookB all v) : out=settledB all :=
 settled_of (rise_sorted hp hs hn) fun v=>(look_perm hp hn v).trans (he v)
def insL (l:List Bd) (b:Bd) : List Bd:=if (lookB l b.var).isSome then l else l++[b]
theorem insL_look (l:List Bd) (b:Bd) (v:Int) : lookB (insL l b) v=lookB (l++[b]) v:=by
 unfold insL
 split
 ·rename_i h
  rw [lookB_append]
  simp only [lookB]
  by_cases e : b.var=v
  ·subst e
   obtain ⟨t,ht⟩:=Option.isSome_iff_exists.1 h
   rw [ht];rfl
  ·rw [if_neg e];simp
 ·rfl
theorem insL_nod {l:List Bd} (h:nodV l) (b:Bd) : nodV (insL l b):=by
 unfold insL
 split
 ·exact h
 ·rename_i hn
  exact nodV_snoc h (by simpa using hn)
theorem insL_len (l:List Bd) (b:Bd) : (insL l b).length≤l.length+1:=by
 unfold insL
 split<;>simp
end Go.Wk
namespace Go.Wk
section
variable {α : Type} [DecidableEq α]
def adjL : List α→List α
 | []=>[]
 | [x]=>[x]
 | x::y::l=>if x=y then adjL (y::l) else x::adjL (y::l)
theorem adjL_snoc (a b:α) : ∀l : List α,adjL (l++[a,b])=adjL (l++[a])++(if a=b then [] else [b])
 | []=>by
  simp only [List.nil_append,adjL]
  split
  ·rename_i h;subst h;simp
  ·simp
 | [x]=>by
  have ih:=adjL_snoc a b []
  simp only [List.nil_append] at ih
  show adjL (x::a::[b])=adjL (x::a::[])++_
  simp only [adjL] at ih ⊢
  split<;>split<;>simp_all
 | x::y::l=>by
  have ih:=adjL_snoc a b (y::l)
  show adjL (x::y::(l++[a,b]))=adjL (x::y::(l++[a]))++_
  simp only [adjL]
  have e1 : adjL (y::(l++[a,b]))=adjL (y::(l++[a]))++(if a=b then [] else [b]):=ih
  rw [e1]
  split<;>simp
theorem mem_adjL : ∀{l:List α} {x:α},x∈adjL l↔x∈l
 | [],x=>Iff.rfl
 | [y],x=>Iff.rfl
 | y::z::l,x=>by
  simp only [adjL]
  have ih:=mem_adjL (l:=z::l) (x:=x)
  split
  ·rename_i h
   subst h
   rw [ih]
   simp
  ·rw [List.mem_cons,ih]
   simp
theorem adjL_len : ∀l : List α,(adjL l).length≤l.length
 | []=>Nat.le_refl _
 | [x]=>Nat.le_refl _
 | x::y::l=>by
  have:=adjL_len (y::l)
  simp only [adjL]
  split<;>simp only [List.length_cons] at *<;>omega
theorem adjL_take {xs:List α} {k:Nat} {a b:α} (ha:xs[k]?=some a) (hb:xs[k+1]?=some b) : adjL (xs.take (k+2))=adjL (xs.take (k+1))++(if a=b then [] else [b]):=by
 rw [List.take_add_one,hb,List.take_add_one,ha]
 simp only [Option.toList_some,List.append_assoc]
 exact adjL_snoc a b _
end
end Go.Wk
namespace Go.Wk
def dgT : Array UInt8:=#[48,49,50,51,52,53,54,55,56,57,97,98,99,100,101,102,103,104,105,106,107,108,109,110,111,112,113,114,115,116,117,118,119,120,121,122]
def dg36 (i:Nat) : UInt8:=dgT.getD i 0
def k36 (n:Nat) : List UInt8:=if n<36 then [dg36 n] else k36 (n / 36)++[dg36 (n % 36)]
termination_by n
decreasing_by omega
def val36 (b:UInt8) : Nat:=if b.toNat<58 then b.toNat-48 else b.toNat-87
theorem val_dg : ∀i : Fin 36,val36 (dg36 i.1)=i.1∧dg36 i.1≠32:=by decide
theorem dg36_get {i:Nat} (h:i<36) : dgT[i]?=some (dg36 i):=by
 have : i<dgT.size:=h
 simp [dg36,this]
def dec36 (l:List UInt8) : Nat:=l.foldl (fun a b=>a*36+val36 b) 0
theorem dec_k36 : ∀n : Nat,dec36 (k36 n)=n:=by
 intro n
 induction n using Nat.strongRecOn with
 | ind n ih =>
  rw [k36]
  split
  ·rename_i h
   have h1 : val36 (dg36 n)=n:=(val_dg ⟨n,h⟩).1
   simp only [dec36,List.foldl_cons,List.foldl_nil]
   omega
  ·rename_i h
   have h1:=ih (n / 36) (by omega)
   have h2 : val36 (dg36 (n % 36))=n % 36:=(val_dg ⟨n % 36,by omega⟩).1
   unfold dec36 at h1 ⊢
   rw [List.foldl_append,h1]
   simp only [List.foldl_cons,List.foldl_nil]
   omega
theorem k36_inj {m n:Nat} (h:k36 m=k36 n) : m=n:=by
 have:=congrArg dec36 h
 rwa [dec_k36,dec_k36] at this
theorem k36_sp : ∀(n:Nat) (b:UInt8),b∈k36 n→b≠32:=by
 intro n
 induction n using Nat.strongRecOn with
 | ind n ih =>
  intro b hb
  rw [k36] at hb
  split at hb
  ·rename_i h
   rw [List.mem_singleton.1 hb]
   exact (val_dg ⟨n,h⟩).2
  ·rename_i h
   rcases List.mem_append.1 hb with hb|hb
   ·exact ih (n / 36) (by omega) b hb
   ·rw [List.mem_singleton.1 hb]
    exact (val_dg ⟨n % 36,by omega⟩).2
theorem k36_len : ∀(k n:Nat),n<36 ^ (k+1)→(k36 n).length≤k+1
 | 0,n,h=>by
  rw [k36,if_pos (by simpa using h)]
  simp
 | k+1,n,h=>by
  rw [k36]
  split
  ·simp
  ·have:=k36_len k (n / 36) (Nat.div_lt_of_lt_mul (by rw [Nat.pow_succ] at h;omega))
   simp only [List.length_append,List.length_singleton]
   omega
def rkL (l:List Nat) : List UInt8:=(l.map fun n=>k36 n++[32]).flatten
def rkS (l:List Nat) : ByteArray:=⟨(rkL l).toArray⟩
theorem cutOne {α:Type} {c:α} : ∀{l l' r r':List α},c∉l→c∉l'→l++c::r=l'++c::r'→l=l'∧r=r'
 | [],[],r,r',_,_,h=>by simpa using h
 | [],b::l',r,r',_,h',h=>by
  simp only [List.nil_append,List.cons_append,List.cons.injEq] at h
  exact absurd (h.1▸List.mem_cons_self ..) h'
 | a::l,[],r,r',hl,_,h=>by
  simp only [List.nil_append,List.cons_append,List.cons.injEq] at h
  exact absurd (h.1▸List.mem_cons_self ..) hl
 | a::l,b::l',r,r',hl,h',h=>by
  simp only [List.cons_append,List.cons.injEq] at h
  have:=cutOne (fun hm=>hl (.tail _ hm)) (fun hm=>h' (.tail _ hm)) h.2
  exact ⟨by rw [h.1,this.1],this.2⟩
theorem rkL_inj : ∀{l l':List Nat},rkL l=rkL l'→l=l'
 | [],[],_=>rfl
 | [],n::l',h=>by simp [rkL] at h
 | n::l,[],h=>by simp [rkL] at h
 | n::l,n'::l',h=>by
  simp only [rkL,List.map_cons,List.flatten_cons,List.append_assoc,List.singleton_append] at h
  obtain ⟨h1,h2⟩:=cutOne (fun hm=>k36_sp _ _ hm rfl) (fun hm=>k36_sp _ _ hm rfl) h
  rw [k36_inj h1,rkL_inj (l:=l) (l':=l') h2]
theorem rkS_inj {l l':List Nat} (h:rkS l=rkS l') : l=l':=by
 refine rkL_inj ?_
 have:=congrArg (fun s:ByteArray=>s.data.toList) h
 simpa [rkS] using this
theorem rkL_snoc (l:List Nat) (n:Nat) : rkL (l++[n])=rkL l++k36 n++[32]:=by simp [rkL]
end Go.Wk
namespace Go.Wk
open Go Go.Lib
def digV (l:List UInt8) : Nat:=l.foldl (fun a b=>a*10+(b.toNat-48)) 0
theorem u8_nat {n:Nat} (h:n<10) : (UInt8.ofNat (48+n)).toNat=48+n:=by
 rw [UInt8.toNat_ofNat']
 omega
theorem digV_dec : ∀u : Nat,digV (decDigits u)=u:=by
 intro u
 induction u using Nat.strongRecOn with
 | ind u ih =>
  rw [decDigits]
  split
  ·rename_i h
   simp only [digV,List.foldl_cons,List.foldl_nil,u8_nat h]
   omega
  ·rename_i h
   have:=ih (u / 10) (by omega)
   unfold digV at this ⊢
   rw [List.foldl_append,this]
   simp only [List.foldl_cons,List.foldl_nil,u8_nat (show u % 10<10 by omega)]
   omega
theorem dec_mem : ∀(u:Nat),∀b∈decDigits u,48≤b.toNat∧b.toNat≤57:=by
 intro u
 induction u using Nat.strongRecOn with
 | ind u ih =>
  intro b hb
  rw [decDigits] at hb
  split at hb
  ·rename_i h
   rw [List.mem_singleton.1 hb,u8_nat h]
   omega
  ·rename_i h
   rcases List.mem_append.1 hb with hb|hb
   ·exact ih (u / 10) (by omega) b hb
   ·rw [List.mem_singleton.1 hb,u8_nat (show u % 10<10 by omega)]
    omega
theorem itoa_mem {n:Int} {b:UInt8} (h:b∈itoa n) : b.toNat=45∨(48≤b.toNat∧b.toNat≤57):=by
 unfold itoa at h
 split at h
 ·rcases List.mem_cons.1 h with rfl|h
  ·exact .inl rfl
  ·exact .inr (dec_mem _ b h)
 ·exact .inr (dec_mem _ b h)
theorem itoa_inj {m n:Int} (h:itoa m=itoa n) : m=n:=by
 unfold itoa at h
 have key : ∀{u v:Nat},(45:UInt8)::decDigits u=decDigits v→False:=fun {u v} e=>by
  have:=dec_mem v 45 (by rw [←e];exact List.mem_cons_self ..)
  have h2 : (45:UInt8).toNat=45:=rfl
  omega
 split at h<;>split at h
 ·simp only [List.cons.injEq,true_and] at h
  have:=congrArg digV h
  rw [digV_dec,digV_dec] at this
  omega
 ·exact (key h).elim
 ·exact (key h.symm).elim
 ·have:=congrArg digV h
  rw [digV_dec,digV_dec] at this
  omega
def partL (s:ByteArray) : List UInt8:=itoa s.size++58::s.data.toList
def tmU (t:Tm) : List UInt8:=itoa t.k++32::(itoa t.n++32::partL t.s)
def keyU (a:At0) : List UInt8:=partL a.name++(a.terms.map tmU).flatten
def keyS (a:At0) : ByteArray:=⟨(keyU a).toArray⟩
theorem itoa_no {n:Int} {b:UInt8} (h:b.toNat=32∨b.toNat=58) : b∉itoa n:=fun hm=>by
 have:=itoa_mem hm
 omega
theorem partL_inj {s u:ByteArray} {r r':List UInt8} (h:partL s++r=partL u++r') : s=u∧r=r':=by
 simp only [partL,List.append_assoc,List.cons_append] at h
 obtain ⟨h3,h⟩:=cutOne (itoa_no (.inr rfl)) (itoa_no (.inr rfl)) h
 have e3 : s.size=u.size:=by
  have:=itoa_inj h3
  omega
 have e4:=List.append_inj h (by
  rw [Array.length_toList,Array.length_toList]
  exact e3)
 refine ⟨?_,e4.2⟩
 have h5 : s.data=u.data:=Array.ext' e4.1
 cases hs : s
 cases hu : u
 rw [hs,hu] at h5
 exact congrArg ByteArray.mk h5
theorem tmU_inj : ∀{ts us:List Tm},(ts.map tmU).flatten=(us.map tmU).flatten→ts=us
 | [],[],_=>rfl
 | [],u::us,h=>by simp [tmU] at h
 | t::ts,[],h=>by simp [tmU] at h
 | t::ts,u::us,h=>by
  simp only [List.map_cons,List.flatten_cons,tmU,List.cons_append,List.append_assoc] at h
  obtain ⟨h1,h⟩:=cutOne (itoa_no (.inl rfl)) (itoa_no (.inl rfl)) h
  obtain ⟨h2,h⟩:=cutOne (itoa_no (.inl rfl)) (itoa_no (.inl rfl)) h
  obtain ⟨h3,h⟩:=partL_inj h
  rw [tmU_inj h]
  congr 1
  cases t
  cases u
  simp only [Tm.mk.injEq]
  exact ⟨itoa_inj h1,itoa_inj h2,h3⟩
theorem keyS_inj {a b:At0} (h:keyS a=keyS b) : a=b:=by
 have h : keyU a=keyU b:=by
  have:=congrArg (fun x:ByteArray=>x.data.toList) h
  simpa [keyS] using this
 obtain ⟨h1,h2⟩:=partL_inj h
 have h3:=tmU_inj h2
 obtain ⟨ab,an,al⟩:=a
 obtain ⟨bb,bn,bl⟩:=b
 simp only [At0.terms,List.cons.injEq] at h1 h3
 obtain ⟨h4,h5⟩:=h3
 subst h1 h4 h5
 rfl
end Go.Wk
