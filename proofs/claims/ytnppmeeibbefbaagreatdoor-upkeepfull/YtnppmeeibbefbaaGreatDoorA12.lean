/- What the listed variables hold; the end that both rows share. -/
import Derived.Test.YtnppmeeibbefbaaGreatDoorRows
import Derived.Lib.LaidTab
import Derived.WalkKit
import Derived.ProofKit
import Derived.OpenShut
import Derived.LaidMore
import Derived.LaidSub
import Derived.Carry
import Derived.Deep.DeepHandedRow
import Derived.Test.YtnppmeeibbefbaaGreatDoorA5
import Derived.Test.YtnppmeeibbefbaaGreatDoorA11
set_option linter.all false
namespace Go.Proofs.YtnppmeeibbefbaaGreatDoor
open Go Go.Wk Go.ChangeShapes Go.WideShapes Go.ChangeAt Go.RowKit
theorem len3 {α:Type} {l:List α} (h:l.length=3) : ∃a b c,l=[a,b,c]:=by
 match l,h with
 | [a,b,c],_=>exact ⟨a,b,c,rfl⟩
theorem cInt : Tryz.prog.cellsOf 3=1:=by kernel_rfl
theorem cStr : Tryz.prog.cellsOf 9=1:=by kernel_rfl
theorem cTm : Tryz.prog.cellsOf 32=3:=by kernel_rfl
section
variable {H : Type} {enc : TypeId × Value → H} {w : World} {base : Nat} {sp : Nat → Bool} {held : Bool}
theorem exactTm {fuel:Nat} {cs:List Value} {p:List MemPlace} {k n:Int} {bs:List UInt8} (h:DataW.trod enc Tryz.prog w base sp held fuel 32 cs=some (.agg [.lit (.int .i64 k),.lit (.int .i64 n),.lit (.string bs)],p)) : cs=Tm.cs ⟨k,n,⟨bs.toArray⟩⟩:=by
 obtain ⟨xs,m,rfl,hx,hl,hxl,hf⟩:=DataW.trod_struct Tryz.underlying32 h
 obtain ⟨v0,v1,v2,rfl⟩:=len3 (hl.trans cTm)
 obtain ⟨y0,y1,y2,rfl⟩:=len3 (show xs.length=3 from hxl)
 have g0 : DataW.trod enc Tryz.prog w base sp held m 3 ((List.drop 0 [v0,v1,v2]).take (Tryz.prog.cellsOf 3))=some y0:=hf 0 _ rfl
 have g1 : DataW.trod enc Tryz.prog w base sp held m 3 ((List.drop 1 [v0,v1,v2]).take (Tryz.prog.cellsOf 3))=some y1:=hf 1 _ rfl
 have g2 : DataW.trod enc Tryz.prog w base sp held m 9 ((List.drop 2 [v0,v1,v2]).take (Tryz.prog.cellsOf 9))=some y2:=hf 2 _ rfl
 rw [cInt] at g0 g1
 rw [cStr] at g2
 obtain ⟨a,e0,q0,_⟩:=DataW.trod_int Tryz.underlying3 g0
 obtain ⟨b,e1,q1,_⟩:=DataW.trod_int Tryz.underlying3 g1
 obtain ⟨d,e2,q2,_⟩:=DataW.trod_string Tryz.underlying9 g2
 subst q0 q1 q2
 simp only [List.map_cons,List.map_nil,Prod.mk.injEq,DataW.agg.injEq,List.cons.injEq,DataW.lit.injEq,Lit.int.injEq,Lit.string.injEq,true_and,and_true] at hx
 obtain ⟨⟨rfl,rfl,rfl⟩,_⟩:=hx
 have e0 : [v0]=[.int .i64 k]:=e0
 have e1 : [v1]=[.int .i64 n]:=e1
 have e2 : [v2]=[.string d]:=e2
 simp only [List.cons.injEq,and_true] at e0 e1 e2
 rw [e0,e1,e2]
end
theorem box_of_var {P:Program} {W:World} {n:String} {g:Nat} {cs:Array Value} (hg:P.globalNamed n=some g) (h:W.var? P n=some cs) : Box g cs.toList ⟨W,fun _=>False⟩:=by
 simp only [World.var?,hg,Option.bind_some] at h
 split at h
 ·rename_i c t fr hb
  cases h
  exact ⟨⟨t,fr,by simpa using hb⟩,fun h=>h⟩
 ·cases h
theorem str_bytes {a b:String} (h:a.toUTF8.data.toList=b.toUTF8.data.toList) : a=b:=String.toByteArray_inj.1 (ByteArray.ext (Array.ext' h))
theorem trod_func {P:Program} {w:World} {base:Nat} {sp:Nat→Bool} {fuel:Nat} {t:TypeId} {ps rs:Array TypeId} {vd:Bool} {v:Value} {bs:List UInt8} {b:UInt8} {p:List MemPlace} (ht:P.underlying t=some (.func ps rs vd)) (h:DataW.trod (funcToken P) P w base sp true fuel t [v]=some (.held (b::bs),p)) :
  ∃(f:FuncId) (fn:Func),v=.func (.func f) #[] #[]∧P.funcNamed fn.name=some f∧fn.name.toUTF8.data.toList=b::bs:=by
 cases fuel with
 | zero=>simp [DataW.trod] at h
 | succ n =>
  unfold DataW.trod at h
  rw [ht] at h
  have h2 : funcToken P (t,v)=b::bs:=by
   split at h<;>simp_all
  obtain ⟨f,fn,e,_,e2,e3⟩:=funcToken_tells h2
  exact ⟨f,fn,e,e2,e3⟩
theorem cChk : Tryz.prog.cellsOf 70=1:=by kernel_rfl
theorem cFn : Tryz.prog.cellsOf 53=1:=by kernel_rfl
theorem exactFn {w:World} {base:Nat} {sp:Nat→Bool} {fuel:Nat} {cs:List Value} {bs:List UInt8} {b:UInt8} {p:List MemPlace} {f:FuncId} (nm:String) (hn:nm.toUTF8.data.toList=b::bs) (hf:Tryz.prog.funcNamed nm=some f)
  (h:DataW.trod (funcToken Tryz.prog) Tryz.prog w base sp true fuel 70 cs=some (.agg [.held (b::bs)],p)) : cs=[.func (.func f) #[] #[]]:=by
 obtain ⟨xs,m,rfl,hx,hl,hxl,hfd⟩:=DataW.trod_struct Tryz.underlying70 h
 obtain ⟨v,rfl⟩:=List.length_eq_one_iff.1 (hl.trans cChk)
 obtain ⟨y,rfl⟩:=List.length_eq_one_iff.1 (show xs.length=1 from hxl)
 have g0 : DataW.trod (funcToken Tryz.prog) Tryz.prog w base sp true m 53 ((List.drop 0 [v]).take (Tryz.prog.cellsOf 53))=some y:=hfd 0 _ rfl
 rw [cFn] at g0
 obtain ⟨d,q⟩:=y
 simp only [List.map_cons,List.map_nil,Prod.mk.injEq,DataW.agg.injEq,List.cons.injEq,and_true] at hx
 obtain ⟨rfl,_⟩:=hx
 obtain ⟨f',fn,e,e2,e3⟩:=trod_func Tryz.underlying53 (show DataW.trod (funcToken Tryz.prog) Tryz.prog w base sp true m 53 [v]=_ from g0)
 have : fn.name=nm:=str_bytes (e3.trans hn.symm)
 rw [this,hf] at e2
 cases e2
 rw [e]
theorem len6 {α:Type} {l:List α} (h:l.length=6) : ∃a b c d e f,l=[a,b,c,d,e,f]:=by
 match l,h with
 | [a,b,c,d,e,f],_=>exact ⟨a,b,c,d,e,f,rfl⟩
theorem cChks : Tryz.prog.cellsOf 71=6:=by kernel_rfl
set_option maxRecDepth 100000 in
theorem checks_of {W:World} {d:DataW Unit} (h:funcsAt Tryz.prog W "hearsay/clause.checks" d) (hd:(Rows.laid_hearsay_clause_checks:DataW Unit)=.iface "func table" d) : Box 0 chkFs ⟨W,fun _=>False⟩:=by
 obtain ⟨g,t,cs,fuel,p,hg,ht,hv,hr⟩:=h
 have hg0 : Tryz.prog.globalNamed "hearsay/clause.checks" = some 0:=by kernel_rfl
 have ht0 : (Tryz.prog.globals[(0:Nat)]?).map (·.type)=some 71:=by kernel_rfl
 obtain rfl:=Option.some.inj (hg0.symm.trans hg)
 obtain rfl:=Option.some.inj (ht0.symm.trans ht)
 have hb:=box_of_var hg0 hv
 have hcs : cs.toList=chkFs:=by
  generalize cs.toList=l at hr
  simp only [Rows.laid_hearsay_clause_checks,DataW.iface.injEq,true_and] at hd
  subst hd
  obtain ⟨xs,m,rfl,hx,hl,hxl,hf⟩:=DataW.trod_array Tryz.underlying71 hr
  obtain ⟨v0,v1,v2,v3,v4,v5,rfl⟩:=len6 (hl.trans cChks)
  obtain ⟨y0,y1,y2,y3,y4,y5,rfl⟩:=len6 hxl
  have g0:=hf 0 (by decide)
  rw [cChk] at g0
  obtain ⟨d0,p0⟩:=y0
  have g1:=hf 1 (by decide)
  rw [cChk] at g1
  obtain ⟨d1,p1⟩:=y1
  have g2:=hf 2 (by decide)
  rw [cChk] at g2
  obtain ⟨d2,p2⟩:=y2
  have g3:=hf 3 (by decide)
  rw [cChk] at g3
  obtain ⟨d3,p3⟩:=y3
  have g4:=hf 4 (by decide)
  rw [cChk] at g4
  obtain ⟨d4,p4⟩:=y4
  have g5:=hf 5 (by decide)
  rw [cChk] at g5
  obtain ⟨d5,p5⟩:=y5
  simp only [List.map_cons,List.map_nil,Prod.mk.injEq,DataW.funcsOut,DataW.funcsOutAll,DataW.agg.injEq,List.cons.injEq,and_true,beq_self_eq_true,if_true] at hx
  obtain ⟨⟨rfl,rfl,rfl,rfl,rfl,rfl⟩,_⟩:=hx
  have e0 : [v0]=_:=exactFn (f:=257) "hearsay/clause.tooLong" (by decide +kernel) (by kernel_rfl) g0
  have e1 : [v1]=_:=exactFn (f:=258) "hearsay/clause.badAtom" (by decide +kernel) (by kernel_rfl) g1
  have e2 : [v2]=_:=exactFn (f:=259) "hearsay/clause.badTest" (by decide +kernel) (by kernel_rfl) g2
  have e3 : [v3]=_:=exactFn (f:=260) "hearsay/clause.openHead" (by decide +kernel) (by kernel_rfl) g3
  have e4 : [v4]=_:=exactFn (f:=261) "hearsay/clause.unsafe" (by decide +kernel) (by kernel_rfl) g4
  have e5 : [v5]=_:=exactFn (f:=262) "hearsay/clause.misnumbered" (by decide +kernel) (by kernel_rfl) g5
  simp only [List.cons.injEq,and_true] at e0 e1 e2 e3 e4 e5
  rw [e0,e1,e2,e3,e4,e5]
  rfl
 rw [hcs] at hb
 exact hb
theorem gNo : Tryz.prog.globalNamed "hearsay/term.none" = some 1:=by kernel_rfl
theorem tNo : (Tryz.prog.globals[(1:Nat)]?).map (·.type)=some 32:=by kernel_rfl
def VReads (W:World) (n:String) (d:DataW Unit) : Prop:=∃g t cs fuel p,Tryz.prog.globalNamed n=some g∧(Tryz.prog.globals[g]?).map (·.type)=some t∧W.var? Tryz.prog n=some cs∧DataW.trod (fun _=>()) Tryz.prog W 0 (fun _=>true) false fuel t cs.toList=some (d,p)
theorem vreads_of {W:World} {n:String} {d:DataW Unit} : ∀{l:List (String×DataW Unit)} {ps:List MemPlace},DataW.LaidVars Tryz.prog W l ps→(n,d)∈l→VReads W n d
 | [],_,_,hm=>by cases hm
 | (n',d')::l,ps,h,hm=>by
  obtain ⟨g,t,cs,fuel,p,q,h1,h2,h3,h4,h5,_⟩:=h
  rcases List.mem_cons.1 hm with e|e
  ·cases e
   exact ⟨g,t,cs,fuel,p,h1,h2,h3,h4⟩
  ·exact vreads_of h5 e
theorem none_of {W:World} (h:VReads W "hearsay/term.none" Rows.laid_hearsay_term_none) : Box 1 Tn.cs ⟨W,fun _=>False⟩:=by
 obtain ⟨g,t,cs,fuel,p,hg,ht,hv,hd⟩:=h
 obtain rfl:=Option.some.inj (gNo.symm.trans hg)
 obtain rfl:=Option.some.inj (tNo.symm.trans ht)
 have hb:=box_of_var gNo hv
 rw [exactTm hd] at hb
 exact hb
theorem gPw : Tryz.prog.globalNamed "internal/strconv.uint64pow10" = some 3:=by kernel_rfl
theorem tPw : (Tryz.prog.globals[(3:Nat)]?).map (·.type)=some 250:=by kernel_rfl
theorem cU64 : Tryz.prog.cellsOf 176=1:=by kernel_rfl
theorem cU64s : Tryz.prog.cellsOf 250=20:=by kernel_rfl
theorem pow_of {W:World} (h:VReads W "internal/strconv.uint64pow10" Rows.laid_internal_strconv_uint64pow10) : Box 3 P10c ⟨W,fun _=>False⟩:=by
 obtain ⟨g,t,cs,fuel,p,hg,ht,hv,hd⟩:=h
 obtain rfl:=Option.some.inj (gPw.symm.trans hg)
 obtain rfl:=Option.some.inj (tPw.symm.trans ht)
 have hb:=box_of_var gPw hv
 rw [Lib.cells_of_tab (zs:=Lib.pow10Tab) Tryz.underlying250 Tryz.underlying176 cU64 cU64s hd] at hb
 exact hb
theorem glob5 {W:World} (h:laidMetH Tryz.prog Rows.upkeepManyRow.laid W) : GlobOk ⟨W,fun _=>False⟩∧Box 3 P10c ⟨W,fun _=>False⟩:=by
 have hc:=checks_of (laidMetH.funcs h (n := "hearsay/clause.checks") (.tail _ (.tail _ (.tail _ (.tail _ (.head _)))))) rfl
 unfold laidMetH at h
 have e1 : (Rows.upkeepManyRow.laid.filter fun x=>x.2.handleName?.isSome)=[("hearsay/clause.checks",Rows.laid_hearsay_clause_checks)]:=rfl
 rw [e1] at h
 have h:=h.1
 have e2 : (Rows.upkeepManyRow.laid.filter fun x=>x.2.handleName?.isNone)=[("math/bits.deBruijn32tab",Rows.laid_math_bits_deBruijn32tab),("math/bits.deBruijn64tab",Rows.laid_math_bits_deBruijn64tab),("internal/strconv.uint64pow10",Rows.laid_internal_strconv_uint64pow10),("hearsay/term.none",Rows.laid_hearsay_term_none)]:=rfl
 rw [e2] at h
 obtain ⟨ps,hv,_⟩:=h
 exact ⟨⟨none_of (vreads_of hv (.tail _ (.tail _ (.tail _ (.head _))))),hc⟩,pow_of (vreads_of hv (.tail _ (.tail _ (.head _))))⟩
/-! ### the end that both rows share -/
theorem laidOut : laidOutB Tryz.prog=true:=by kernel_rfl
theorem trodAll_below {H:Type} {enc:TypeId×Value→H} {P:Program} (hl:laidOutB P=true) {W W':World} (hb:Below W.heap.size W W') : ∀(ts:List TypeId),(∀t∈ts,P.readableRec t=true∧t<P.types.size)→∀(vs:List Value) (ds:List (DataW H)) (ps:List MemPlace),
  DataW.TrodAll enc P W 0 (fun _=>true) true ts vs ds ps→(∀x∈ps,x.block<W.heap.size)→DataW.TrodAll enc P W' 0 (fun b=>decide (b<W.heap.size)) true ts vs ds ps
 | [],_,vs,ds,ps,h,_=>by
  obtain ⟨rfl,rfl,rfl⟩:=trodAll_nil h
  exact trodAll_mk0
 | t::ts,ht,vs,ds,ps,h,hlt=>by
  obtain ⟨v,vs,d,ds,p,q,rfl,rfl,rfl,h1,h2⟩:=trodAll_cons h
  exact ⟨p,q,Below.trod hl (ht t (.head _)).1 (ht t (.head _)).2 h1 hb (fun x hx=>hlt x (List.mem_append_left _ hx)),trodAll_below hl hb ts (fun t h=>ht t (.tail _ h)) vs ds q h2 (fun x hx=>hlt x (List.mem_append_right _ hx)),rfl⟩
theorem post_true {H:Type} {enc:TypeId×Value→H} {f:Func} {s:ChangeSpec} {W W':World} {args:Array Value} {ds:List (DataW H)} {before:List MemPlace} (hvars:s.vars=[]) (hres:f.resultTypes=#[4])
  (hr:f.params.toList.all (fun t=>Tryz.prog.readableRec t && decide (t<Tryz.prog.types.size))=true)
  (hW:DataW.Whole enc Tryz.prog f.params.toList s.vars false W args.toList ds [] before) (hfn:s.fn H (ds++[])={ results:=[.lit (.bool true)],args:=ds }) (hb:Below W.heap.size W W') : s.post enc Tryz.prog f false true false false W args (.bool true) W':=by
 have hlt:=hW.lt
 have hW':=hW
 obtain ⟨p,q,hA,hV,rfl,_,_⟩:=hW
 rw [hvars] at hV
 obtain ⟨_,rfl⟩:=trodVars_none hV
 refine ⟨ds,[],p++[],[],p,[],hW',?_,?_,?_,hb.frame _,fun h=>by cases h⟩
 ·rw [hfn,hres]
  exact trodAll_mk1 (shut_bool Tryz.underlying4 true)
 ·rw [hfn]
  refine trodAll_below laidOut hb _ (fun t ht=>?_) _ _ _ hA (fun x hx=>hlt x (List.mem_append_left _ hx))
  have:=List.all_eq_true.1 hr t ht
  simpa using this
 ·rw [hfn,hvars]
  rfl
theorem rowOwn : ownKnob Tryz.prog.godebug=none:=by kernel_rfl
section
variable {H : Type} {W : World}
set_option maxRecDepth 100000 in
theorem argInt {r:Reach} {b0:Nat} {v:Value} (hv:Value.okWide Tryz.prog W r b0 3 v) : ∃n : Int,v=.int .i64 n:=okWide_int Tryz.underlying3 hv
set_option maxRecDepth 100000 in
theorem argBool {r:Reach} {b0:Nat} {v:Value} (hv:Value.okWide Tryz.prog W r b0 4 v) : ∃b : Bool,v=.bool b:=okWide_bool Tryz.underlying4 hv
end
end Go.Proofs.YtnppmeeibbefbaaGreatDoor
