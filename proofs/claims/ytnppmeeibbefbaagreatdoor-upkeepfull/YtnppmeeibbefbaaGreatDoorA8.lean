/- a part of the proof: lemmas on walks, on plain data, contracts of functions. -/
import Derived.RangeFuncRecord
import Derived.TacticsIn
import Derived.Lib.UnsafeStr
import Derived.Laws.IdiomStrings
import Derived.Laws.Cover3
import Derived.Laws.Pointers
import Derived.Sort.Row
import Derived.Sort.Grow
import Derived.Conc.MuLone
import Derived.Test.YtnppmeeibbefbaaGreatDoorA1
import Derived.Test.YtnppmeeibbefbaaGreatDoorA2
import Derived.Test.YtnppmeeibbefbaaGreatDoorA3
import Derived.Test.YtnppmeeibbefbaaGreatDoorA5
import Derived.Test.YtnppmeeibbefbaaGreatDoorA6
import Derived.Test.YtnppmeeibbefbaaGreatDoorA7
set_option linter.all false
namespace Go.Wk
open Go Go.RowKit
set_option linter.unusedSectionVars false
def kEnt {κ:Type} (kv:κ→Value) (es:List (κ×Value)) : List MapEntry:=es.zipIdx.map fun p=>{ key:=kv p.1.1,val:=p.1.2,born:=p.2 }
def kObj {κ:Type} (kv:κ→Value) (es:List (κ×Value)) : Obj:=.map (kEnt kv es).toArray es.length
def kLook {κ:Type} [DecidableEq κ] (es:List (κ×Value)) (k:κ) : Option Value:=(es.find? fun p=>decide (p.1=k)).map (·.2)
def kSet {κ:Type} [DecidableEq κ] (es:List (κ×Value)) (k:κ) (v:Value) : List (κ×Value):=match es.findIdx? (fun p=>decide (p.1=k)) with|some i=>es.set i (k,v)|none=>es++[(k,v)]
class MapK (P:Program) (T:TypeId) (e:outParam TypeId) (κ:outParam Type) [outParam (DecidableEq κ)] (kv:outParam (κ→Value)) : Prop where
 h : ∃kt,P.underlying T=some (.map kt e)∧(∀b w k,(Instr.checkKey b 10000 kt (kv k)).run P w=.ok () w) ∧
  (∀w k es,(Instr.findKey kt (kv k) (kEnt kv es)).run P w=.ok ((es.findIdx? fun p=>decide (p.1=k)).bind fun j=>(es[j]?).map fun p=>(j,p.2)) w)
 s : ∀k,Instr.sameBits 10000 (kv k) (kv k)=true
theorem find_ask {P:Program} {κ:Type} [DecidableEq κ] {kv:κ→Value} {kt:TypeId} {w:World} {k:κ} (h:∀x:κ,(Op.equal kt (kv k) (kv x)).run P w=.ok (decide (k=x)) w) : ∀(es:List (κ×Value)) (i:Nat),
  (Instr.findAsking kt (kv k) ((es.zipIdx i).map fun p=>{ key:=kv p.1.1,val:=p.1.2,born:=p.2 }) i).run P w=.ok ((es.findIdx? fun p=>decide (p.1=k)).bind fun j=>(es[j]?).map fun p=>(i+j,p.2)) w:=by
 intro es
 induction es with
 | nil=>intro i;rfl
 | cons p es ih =>
  intro i
  simp only [List.zipIdx_cons,List.map_cons,Instr.findAsking,Sem.run_bind,h,Result.andThen_ok]
  by_cases e : p.1=k
  ·have e2 : k=p.1:=e.symm
   simp [e,List.findIdx?_cons]
  ·have e2 : ¬k=p.1:=fun x=>e x.symm
   simp only [e2,decide_false,Bool.false_eq_true,if_false,ih (i+1),List.findIdx?_cons,e]
   cases es.findIdx? fun p=>decide (p.1=k) with
   | none=>rfl
   | some j=>simp [Nat.add_assoc,Nat.add_comm 1 j]
theorem find_now {κ:Type} [DecidableEq κ] {kv:κ→Value} {d:TypeDesc} {k:κ} (h:∀x:κ,Instr.sameNow d (kv k) (kv x)=some (decide (k=x))) : ∀(es:List (κ×Value)) (i:Nat),
  Instr.findNow d (kv k) ((es.zipIdx i).map fun p=>{ key:=kv p.1.1,val:=p.1.2,born:=p.2 }) i=some ((es.findIdx? fun p=>decide (p.1=k)).bind fun j=>(es[j]?).map fun p=>(i+j,p.2)):=by
 intro es
 induction es with
 | nil=>intro i;rfl
 | cons p es ih =>
  intro i
  simp only [List.zipIdx_cons,List.map_cons,Instr.findNow,h]
  by_cases e : p.1=k
  ·have e2 : k=p.1:=e.symm
   simp [e,List.findIdx?_cons]
  ·have e2 : ¬k=p.1:=fun x=>e x.symm
   simp only [e2,decide_false,ih (i+1),List.findIdx?_cons,e]
   cases es.findIdx? fun p=>decide (p.1=k) with
   | none=>rfl
   | some j=>simp [Nat.add_assoc,Nat.add_comm 1 j]
theorem kfind_idx {κ:Type} [DecidableEq κ] (k:κ) (es:List (κ×Value)) : ((es.findIdx? fun p=>decide (p.1=k)).bind fun j=>(es[j]?).map fun p=>p.2)=kLook es k:=by
 unfold kLook
 induction es with
 | nil=>rfl
 | cons p es ih =>
  rw [List.findIdx?_cons,List.find?_cons]
  cases h : decide (p.1=k) with
  | true=>rfl
  | false =>
   simp only
   rw [←ih]
   cases es.findIdx? fun p=>decide (p.1=k) with
   | none=>rfl
   | some j=>rfl
section
variable {P : Program} {κ : Type} [DecidableEq κ] {kv : κ → Value}
theorem run_getMapK {w:World} {b:Nat} {es:List (κ×Value)} (h:w.heap[b]?=some (kObj kv es)) : (getObj b).run P w=.ok (.map (kEnt kv es).toArray es.length) w:=by
 simp [getObj,Sem.run,h,kObj]
theorem kLook_run {T e:TypeId} {z:Value} {w:World} {b:Nat} {q:κ} {es:List (κ×Value)} [MapK P T e κ kv] [Zer P e z] (hb:w.heap[b]?=some (kObj kv es)) (ok:Bool) :
  (Instr.lookup T (.map (some b)) (kv q) ok).run P w=.ok (if ok then .tuple #[(kLook es q).getD z,.bool (kLook es q).isSome] else (kLook es q).getD z) w:=by
 obtain ⟨kt,h1,h2,h3⟩:=MapK.h (P:=P) (T:=T) (e:=e) (kv:=kv)
 simp only [Instr.lookup,Sem.run_bind,run_underlying h1,Result.andThen_ok,run_getMapK hb,h2,Sem.run_pure]
 rw [h3,←kfind_idx]
 simp only [Result.andThen_ok]
 cases hx : (es.findIdx? fun p=>decide (p.1=q)) with
 | none=>cases ok<;>simp [(Zer.z (P:=P) (T:=e):_)]
 | some j =>
  have hj : j<es.length:=(List.findIdx?_eq_some_iff_findIdx_eq.1 hx).1
  cases ok<;>simp [List.getElem?_eq_getElem hj]
theorem kEnt_append (es:List (κ×Value)) (p:κ×Value) : kEnt kv (es++[p])=kEnt kv es++[{ key:=kv p.1,val:=p.2,born:=es.length }]:=by
 simp [kEnt,List.zipIdx_append]
theorem kEnt_set (es:List (κ×Value)) (i:Nat) (k:κ) (v:Value) : (kEnt kv es).modify i (fun e=>{ e with key:=kv k,val:=v })=kEnt kv (es.set i (k,v)):=by
 refine List.ext_getElem? fun j=>?_
 simp only [kEnt,List.getElem?_modify,List.getElem?_map,List.getElem?_zipIdx,List.getElem?_set]
 by_cases h : i=j
 ·subst h
  by_cases hl : i<es.length
  ·simp [hl]
  ·simp [hl]
 ·simp [h]
theorem run_setMapK {w:World} {b:Nat} {es:List (κ×Value)} (h:w.heap[b]?=some (kObj kv es)) (o:Obj) : (setObj b o).run P w=.ok () (ChangeMaps.setBlock w b o):=by
 simp [setObj,Sem.run,h,kObj,ChangeMaps.setBlock]
theorem kUpd_run {T e:TypeId} {w:World} {b:Nat} {q:κ} {v:Value} {es:List (κ×Value)} [MapK P T e κ kv] (hb:w.heap[b]?=some (kObj kv es)) :
  (Instr.mapUpdate T (.map (some b)) (kv q) v).run P w=.ok () (ChangeMaps.setBlock w b (kObj kv (kSet es q v))):=by
 obtain ⟨kt,h1,h2,h3⟩:=MapK.h (P:=P) (T:=T) (e:=e) (kv:=kv)
 simp only [Instr.mapUpdate,Sem.run_bind,run_underlying h1,Result.andThen_ok,run_getMapK hb,h2,Sem.run_pure]
 rw [h3]
 simp only [Result.andThen_ok,kSet]
 cases hx : (es.findIdx? fun p=>decide (p.1=q)) with
 | none =>
  simp only [Option.bind_none]
  rw [run_setMapK hb,kObj,kEnt_append]
  simp
 | some j =>
  have hj : j<es.length:=(List.findIdx?_eq_some_iff_findIdx_eq.1 hx).1
  have hk : es[j].1=q:=by
   have:=(List.findIdx?_eq_some_iff_findIdx_eq.1 hx).2
   have h3:=List.findIdx_getElem (xs:=es) (p:=fun p=>decide (p.1=q)) (w:=by omega)
   simp only [this] at h3
   simpa using h3
  have hkey : (((kEnt kv es).toArray[j]?).map (·.key)).getD (kv q)=kv q:=by
   simp [kEnt,List.getElem?_eq_getElem hj,hk]
  simp only [List.getElem?_eq_getElem hj,Option.bind_some,Option.map_some,Sem.run_bind,hkey,Instr.keyThatStays,MapK.s (P:=P) (T:=T) (kv:=kv),if_true,Sem.run_pure,Result.andThen_ok]
  rw [run_setMapK hb,kObj,←kEnt_set]
  simp
end
section
variable {P : Program} {ops : Array Oper} {Q : Exit → Act → World → Prop} {n : Nat} {f : Nat → Value} {rest : List Oper} {ty : TypeId} {ps : String} {af : Array Edge} {d : Tmp}
variable {c0 c : Cx} {L : List Res} {A : Cx → Prop} {κ : Type} [DecidableEq κ] {kv : κ → Value}
theorem s_makeK (κ:Type) [DecidableEq κ] (kv:κ→Value) {T:TypeId} (hn:Nat.blt d n=true) (H:Owns c0 L c) (HA:Hd A c) [Mono A] (k:∀b c',Owns c0 (.obj b (kObj kv [])::L) c'→Hd A c'→W P ops Q rest n (upd f d (.map (some b))) c'.w) :
  W P ops Q (⟨some d,.makeMap T none,ty,ps,af,none⟩::rest) n f c.w :=
 have h:=H.new (kObj kv []) rfl
 st_val hn (w':=c.w.alloc (kObj kv [])) (by simp [execOp,Instr.makeMap,kObj,kEnt]) (k c.w.heap.size ⟨c.w.alloc (kObj kv []),_⟩ h.2 (HA.to h.1))
theorem s_lookKT {T e:TypeId} {z:Value} {x y:Operand} {b:Nat} {q:κ} {es:List (κ×Value)} (hn:Nat.blt d n=true) [MapK P T e κ kv] [Zer P e z] (hx:opd f x=.map (some b)) (hy:opd f y=kv q) (H:Owns c0 L c) (hm:Res.obj b (kObj kv es)∈L)
  (k:W P ops Q rest n (upd f d (.tuple #[(kLook es q).getD z,.bool (kLook es q).isSome])) c.w) : W P ops Q (⟨some d,.lookup T x y true,ty,ps,af,none⟩::rest) n f c.w :=
 st_val hn (by simp [execOp,hx,hy,kLook_run (H.res _ hm).1]) k
theorem s_lookKF {T e:TypeId} {z:Value} {x y:Operand} {b:Nat} {q:κ} {es:List (κ×Value)} (hn:Nat.blt d n=true) [MapK P T e κ kv] [Zer P e z] (hx:opd f x=.map (some b)) (hy:opd f y=kv q) (H:Owns c0 L c) (hm:Res.obj b (kObj kv es)∈L)
  (k:W P ops Q rest n (upd f d ((kLook es q).getD z)) c.w) : W P ops Q (⟨some d,.lookup T x y false,ty,ps,af,none⟩::rest) n f c.w :=
 st_val hn (by simp [execOp,hx,hy,kLook_run (H.res _ hm).1]) k
theorem s_lookKTs {T e:TypeId} {z:Value} {x y:Operand} {b:Nat} {q:κ} {es:List (κ×Value)} {v:Value} (hn:Nat.blt d n=true) [MapK P T e κ kv] [Zer P e z] (hx:opd f x=.map (some b)) (hy:opd f y=kv q) (H:Owns c0 L c) (hm:Res.obj b (kObj kv es)∈L) (hl:kLook es q=some v)
  (k:W P ops Q rest n (upd f d (.tuple #[v,.bool true])) c.w) : W P ops Q (⟨some d,.lookup T x y true,ty,ps,af,none⟩::rest) n f c.w :=
 s_lookKT hn hx hy H hm (by rw [hl];exact k)
theorem s_lookKTn {T e:TypeId} {z:Value} {x y:Operand} {b:Nat} {q:κ} {es:List (κ×Value)} (hn:Nat.blt d n=true) [MapK P T e κ kv] [Zer P e z] (hx:opd f x=.map (some b)) (hy:opd f y=kv q) (H:Owns c0 L c) (hm:Res.obj b (kObj kv es)∈L) (hl:kLook es q=none)
  (k:W P ops Q rest n (upd f d (.tuple #[z,.bool false])) c.w) : W P ops Q (⟨some d,.lookup T x y true,ty,ps,af,none⟩::rest) n f c.w :=
 s_lookKT hn hx hy H hm (by rw [hl];exact k)
theorem s_lookKFs {T e:TypeId} {z:Value} {x y:Operand} {b:Nat} {q:κ} {es:List (κ×Value)} {v:Value} (hn:Nat.blt d n=true) [MapK P T e κ kv] [Zer P e z] (hx:opd f x=.map (some b)) (hy:opd f y=kv q) (H:Owns c0 L c) (hm:Res.obj b (kObj kv es)∈L) (hl:kLook es q=some v)
  (k:W P ops Q rest n (upd f d v) c.w) : W P ops Q (⟨some d,.lookup T x y false,ty,ps,af,none⟩::rest) n f c.w :=
 s_lookKF hn hx hy H hm (by rw [hl];exact k)
theorem s_lookKFn {T e:TypeId} {z:Value} {x y:Operand} {b:Nat} {q:κ} {es:List (κ×Value)} (hn:Nat.blt d n=true) [MapK P T e κ kv] [Zer P e z] (hx:opd f x=.map (some b)) (hy:opd f y=kv q) (H:Owns c0 L c) (hm:Res.obj b (kObj kv es)∈L) (hl:kLook es q=none)
  (k:W P ops Q rest n (upd f d z) c.w) : W P ops Q (⟨some d,.lookup T x y false,ty,ps,af,none⟩::rest) n f c.w :=
 s_lookKF hn hx hy H hm (by rw [hl];exact k)
theorem s_updK {T e:TypeId} {x y z:Operand} {b:Nat} {q:κ} {v:Value} {es:List (κ×Value)} [MapK P T e κ kv] (hx:opd f x=.map (some b)) (hy:opd f y=kv q) (hz:opd f z=v) (H:Owns c0 (.obj b (kObj kv es)::L) c) (HA:Hd A c) [Mono A]
  (k:∀c',Owns c0 (.obj b (kObj kv (kSet es q v))::L) c'→Hd A c'→W P ops Q rest n f c'.w) : W P ops Q (⟨none,.mapUpdate T x y z,ty,ps,af,none⟩::rest) n f c.w:=by
 have hb : c.w.heap[b]?=some (kObj kv es):=(H.res _ (List.mem_cons_self ..)).1
 have hbl : b<c.w.heap.size:=(Array.getElem?_eq_some_iff.1 hb).1
 have h2:=H.turn (r':=.obj b (kObj kv (kSet es q v))) (w':=ChangeMaps.setBlock c.w b (kObj kv (kSet es q v))) rfl rfl rfl (Nat.le_refl _) (by simp [ChangeMaps.setBlock]) (fun x hx hne=>by
  have : b≠x:=fun e=>hne (by subst e;rfl)
  simp [ChangeMaps.setBlock,Array.getElem?_setIfInBounds_ne this]) (by simp [Res.holds,ChangeMaps.setBlock,hbl]) (fun x hx=>.inl hx)
 exact st_skip (by simp [execOp,hx,hy,hz,kUpd_run hb]) (k ⟨_,_⟩ h2.2 (HA.to h2.1))
def MapKAt (kv:κ→Value) (b:Nat) (es:List (κ×Value)) (c:Cx) : Prop:=c.w.heap[b]?=some (kObj kv es)∧¬c.M b
theorem mem_leftK {es:List (κ×Value)} {seen:List Nat} {e:MapEntry} : e∈(leftOf (kEnt kv es).toArray seen.toArray).toList↔∃i p,es[i]?=some p∧i∉seen∧e={ key:=kv p.1,val:=p.2,born:=i }:=by
 simp only [leftOf,Array.toList_filter,List.mem_filter,kEnt,List.mem_map,List.mem_zipIdx_iff_getElem?,Bool.not_eq_true',List.contains_toArray]
 constructor
 ·rintro ⟨⟨⟨p,i⟩,h1,rfl⟩,h2⟩
  exact ⟨i,p,h1,by simpa using h2,rfl⟩
 ·rintro ⟨i,p,h1,h2,rfl⟩
  exact ⟨⟨(p,i),h1,rfl⟩,by simpa using h2⟩
end
/-! ### the keys: terms, texts -/
theorem ba_beq2 (s t:ByteArray) : (s == t)=decide (s=t):=by
 have hd : (s == t)=(s.data == t.data):=rfl
 rw [hd]
 by_cases h : s=t
 ·subst h
  simp
 ·rw [decide_eq_false h]
  cases s
  cases t
  simpa using h
theorem run_checkKeyS {P:Program} {kt:TypeId} {w:World} {s:ByteArray} {b:Bool} {m:Nat} (h:P.underlying kt=some .string) : (Instr.checkKey b (m+1) kt (.string s)).run P w=.ok () w:=by
 simp [Instr.checkKey,run_underlying h]
def tmK (t:Tm) : Value:=.agg t.cs.toArray
theorem tmK_bits (t:Tm) : Instr.sameBits 10000 (tmK t) (tmK t)=true:=by
 simp [tmK,Tm.cs,Instr.sameBits,ba_beq2]
theorem str_bits (s:ByteArray) : Instr.sameBits 10000 (.string s) (.string s)=true:=by
 simp [Instr.sameBits,ba_beq2]
theorem map_tm {P:Program} {T kt e:TypeId} {fs:Array Field} [EqA P kt Tm Tm.cs] (h:P.underlying T=some (.map kt e)) (hs:P.underlying kt=some (.struct fs)) (hc:∀b w (t:Tm),(Instr.checkKey b 10000 kt (tmK t)).run P w=.ok () w) : MapK P T e Tm tmK :=
 ⟨⟨kt,h,hc,fun w k es=>by
  have he : ∀x : Tm,(Op.equal kt (tmK k) (tmK x)).run P w=.ok (decide (k=x)) w:=fun x=>by
   have:=EqA.eq (P:=P) (T:=kt) (cs:=Tm.cs) k x w
   rw [show Op.equal kt (tmK k) (tmK x)=Op.equalIn 10000 kt (tmK k) (tmK x) from rfl,tmK,tmK,this]
   congr
  have:=find_ask he es 0
  simp only [Nat.zero_add] at this
  cases es with
  | nil=>simp [Instr.findKey,Sem.run_bind,run_underlying hs,kEnt,Instr.findNow]
  | cons p es =>
   have hn : Instr.findNow (.struct fs) (tmK k) (kEnt tmK (p::es)) 0=none:=by
    simp [kEnt,List.zipIdx_cons,Instr.findNow,Instr.sameNow,tmK]
   simp only [Instr.findKey,Sem.run_bind,run_underlying hs,Result.andThen_ok,hn]
   exact this⟩,tmK_bits⟩
theorem map_str {P:Program} {T kt e:TypeId} (h:P.underlying T=some (.map kt e)) (hs:P.underlying kt=some .string) : MapK P T e ByteArray Value.string :=
 ⟨⟨kt,h,fun b w s=>run_checkKeyS (m:=9999) hs,fun w k es=>by
  have:=find_now (kv:=Value.string) (d:=.string) (k:=k) (fun x=>by simp only [Instr.sameNow,ba_beq2]) es 0
  simp only [Nat.zero_add] at this
  simp only [Instr.findKey,Sem.run_bind,run_underlying hs,Result.andThen_ok,kEnt,this]
  rfl⟩,str_bits⟩
def fenceR : Option Nat→Fence
 | none=>Fence.wide
 | some l=>Fence.wide.inRound l
theorem fenceR_round (r:Option Nat) : (fenceR r).round=r:=by cases r<;>rfl
theorem fenceR_fn (r:Option Nat) (f:FuncId) : (fenceR r).fn f:=by cases r<;>trivial
theorem fenceR_depth (r:Option Nat) : (fenceR r).depth=none:=by cases r<;>rfl
theorem callsR {r:Option Nat} {n:Nat} {P:Program} {f:FuncId} {args:Array Value} {w:World} {R:Ending→World→Prop} (h:Calls P f args w R) : CallsIn (fenceR r) n P f args w R:=by
 have h:=callsIn_wide (n:=n).2 h
 cases r with
 | none=>exact h
 | some l=>exact h
def wd (ds:List Deferred) (a:Act) : Act:={ a with defers:=ds }
theorem wd_nil {n:Nat} {f:Nat→Value} {a:Act} (h:FrIs n f a) : wd [] a=a:=by
 cases a
 have:=h.defers
 simp only at this
 subst this
 rfl
structure WG (r:Option Nat) (ds:List Deferred) (P:Program) (x:Code) (Q:Exit→Act→World→Prop) (n:Nat) (f:Nat→Value) (w:World) : Prop where
 go : ∀a,FrIs n f a→x.wpIn (fenceR r) 0 P Q (wd ds a) w
structure WGX (ds:List Deferred) (Q:Exit→Act→World→Prop) (e:Exit) (n:Nat) (f:Nat→Value) (w:World) : Prop where
 go : ∀a,FrIs n f a→Q e (wd ds a) w
structure WL (r:Option Nat) (ds:List Deferred) (P:Program) (ops:Array Oper) (Q:Exit→Act→World→Prop) (l:List Oper) (n:Nat) (f:Nat→Value) (w:World) : Prop where
 go : ∀a,FrIs n f a→wpListIn (fenceR r) 0 P ops Q l (wd ds a) w
section
variable {r : Option Nat} {ds : List Deferred} {P : Program} {Q : Exit → Act → World → Prop} {n : Nat} {f : Nat → Value} {w : World}
theorem wg_seq {x y:Code} (h:WG r ds P x (Exit.then (y.wpIn (fenceR r) 0 P Q) Q) n f w) : WG r ds P (.seq x y) Q n f w:=⟨fun a ha=>wpIn_seq (h.go a ha)⟩
theorem wg_skip (h:WGX ds Q .normal n f w) : WG r ds P .skip Q n f w:=⟨fun a ha=>wpIn_skip (h.go a ha)⟩
theorem wg_exit {i:Nat} (h:WGX ds Q (.exit i) n f w) : WG r ds P (.exit i) Q n f w:=⟨fun a ha=>wpIn_exit (h.go a ha)⟩
theorem wg_ret (h:WGX ds Q .ret n f w) : WG r ds P .ret Q n f w:=⟨fun a ha=>wpIn_ret (h.go a ha)⟩
theorem wg_block {i:Nat} {x:Code} (h:WG r ds P x (Exit.inBlock i Q) n f w) : WG r ds P (.block i x) Q n f w:=⟨fun a ha=>wpIn_block (h.go a ha)⟩
theorem wd_eval {a:Act} (ha:FrIs n f a) : (wd ds a).eval=opd f:=by
 have:=ha.eval
 exact this
theorem wg_cond {o:Operand} {x y:Code} {b:Bool} (hb:opd f o=.bool b) (ht:b=true→WG r ds P x Q n f w) (hf:b=false→WG r ds P y Q n f w) : WG r ds P (.cond o x y) Q n f w :=
 ⟨fun a ha=>wpIn_cond_split (t:=b) (by rw [wd_eval ha];exact hb) (fun h=>(ht h).go a ha) (fun h=>(hf h).go a ha)⟩
theorem wg_condT {o:Operand} {x y:Code} (hb:opd f o=.bool true) (ht:WG r ds P x Q n f w) : WG r ds P (.cond o x y) Q n f w:=wg_cond hb (fun _=>ht) (fun h=>by cases h)
theorem wg_condF {o:Operand} {x y:Code} (hb:opd f o=.bool false) (ht:WG r ds P y Q n f w) : WG r ds P (.cond o x y) Q n f w:=wg_cond hb (fun h=>by cases h) (fun _=>ht)
theorem wg_regionL {id:Nat} {ops:Array Oper} (h:WL r ds P ops Q ops.toList n f w) : WG r ds P (.region id ops false) Q n f w:=⟨fun a ha=>wpIn_region_list (h.go a ha)⟩
theorem wl_nil {ops:Array Oper} (h:WGX ds Q .normal n f w) : WL r ds P ops Q [] n f w:=⟨fun a ha=>h.go a ha⟩
theorem wgx_next {y:Code} (h:WG r ds P y Q n f w) : WGX ds (Exit.then (y.wpIn (fenceR r) 0 P Q) Q) .normal n f w:=⟨fun a ha=>h.go a ha⟩
theorem wgx_exit_then {K:Act→World→Prop} {i:Nat} (h:WGX ds Q (.exit i) n f w) : WGX ds (Exit.then K Q) (.exit i) n f w:=⟨fun a ha=>h.go a ha⟩
theorem wgx_norm_block {i:Nat} (h:WGX ds Q .normal n f w) : WGX ds (Exit.inBlock i Q) .normal n f w:=⟨fun a ha=>h.go a ha⟩
theorem wgx_exit_same {i:Nat} (h:WGX ds Q .normal n f w) : WGX ds (Exit.inBlock i Q) (.exit i) n f w:=⟨fun a ha=>by simpa [Exit.inBlock] using h.go a ha⟩
theorem wc_of_wg {x:Code} (h:WG none [] P x Q n f w) : WC P x Q n f w:=⟨fun a ha=>wpIn_wide.1 (by have:=h.go a ha;rw [wd_nil ha] at this;exact this)⟩
theorem wx_of_wg {e:Exit} (h:WX Q e n f w) : WGX [] Q e n f w:=⟨fun a ha=>by rw [wd_nil ha];exact h.go a ha⟩
def noDef (o:Oper) : Bool:=match o.op with | .defer _=>false|_=>true
theorem noDef_ne {o:Oper} (h:noDef o=true) : ∀x,o.op≠.defer x:=fun x e=>by
 unfold noDef at h
 rw [e] at h
 cases h
def QN (n:Nat) (R:(Nat→Value)→World→Prop) : Exit→Act→World→Prop:=fun e a w=>e=.normal∧∃f',FrIs n f' a∧R f' w
theorem put_wd (a:Act) (o:Option Tmp) (v:Value) : (wd ds a).put o v=wd ds (a.put o v):=by cases o<;>rfl
theorem list_defers {ops:Array Oper} {R:(Nat→Value)→World→Prop} : ∀{l:List Oper} {a:Act} {w:World},wpList P ops (QN n R) l a w→a.defers=[]
 | [],a,w,h=>by
  obtain ⟨_,f',hf,_⟩:=h
  exact hf.defers
 | o::l,a,w,h=>by
  have ih : ∀{a:Act} {w:World},wpList P ops (QN n R) l a w→a.defers=[]:=fun {a w}=>list_defers (R:=R) (l:=l) (a:=a) (w:=w)
  have hput : ∀(b:Act) (v:Value),(b.put o.dst v).defers=b.defers:=fun b v=>by cases o.dst<;>rfl
  unfold wpList at h
  split at h
  ·rcases h with h|⟨_,a,w,hq⟩
   ·unfold Oper.wp at h
    generalize (execOp a.eval o).run P w=res at h
    cases res with
    | ok x w' =>
     cases x<;>simp only [Oper.upon] at h
     case value v=>have:=ih h;rwa [hput] at this
     case skip=>have:=ih h;rwa [hput] at this
     case defer d=>have:=ih h;rw [hput] at this;cases this
     case enter g args =>
      obtain ⟨e,w'',fr,hh,_⟩:=h []
      cases e with
      | returned v=>have:=ih hh;rwa [hput] at this
      | panicked ch=>exact absurd hh.1 (by intro e;cases e)
      | outgrown =>
       obtain ⟨a,w,hq⟩:=hh
       exact absurd hq.1 (by intro e;cases e)
     case row row args =>
      obtain ⟨v,w'',hh,_⟩:=h default []
      have:=ih hh
      rwa [hput] at this
    | halt x w' =>
     cases x<;>simp only [Oper.upon] at h
     case panic v=>exact absurd h.1 (by intro e;cases e)
   ·exact absurd hq.1 (by intro e;cases e)
  ·have:=ih h
   rwa [hput] at this
theorem rowsR {P:Program} {m:Nat} {row:String} {args:Array Value} {w:World} {R:Value→World→Prop} (h:Rows P row args w R) : RowsIn (fenceR r) m P row args w R:=fun c cs _=>by
 obtain ⟨v,w',hR,hs⟩:=h c cs
 have : ∀{m m':Machine},Steps P m m'→StepsIn (Machine.fenced P (fenceR r)) P m m':=fun {m m'} hs=>by
  have:=stepsIn_wide.2 hs
  cases r with
  | none=>exact this
  | some l=>exact this
 exact ⟨v,w',hR,this hs⟩
theorem list_in {ops:Array Oper} {R:(Nat→Value)→World→Prop} : ∀{l l2:List Oper} {a:Act} {w:World},(∀o∈l,noDef o=true)→wpList P ops (QN n R) l a w→(∀f' w',R f' w'→WL r ds P ops Q l2 n f' w')→wpListIn (fenceR r) 0 P ops Q (l++l2) (wd ds a) w
 | [],l2,a,w,_,h,k=>by
  obtain ⟨_,f',hf,hR⟩:=h
  exact (k f' w hR).go a hf
 | o::l,l2,a,w,hnd,h,k=>by
  have hno:=noDef_ne (hnd o (.head _))
  have ih : ∀{a:Act} {w:World},wpList P ops (QN n R) l a w→(∀f' w',R f' w'→WL r ds P ops Q l2 n f' w')→wpListIn (fenceR r) 0 P ops Q (l++l2) (wd ds a) w:=fun {a w}=>list_in (R:=R) (l:=l) (l2:=l2) (a:=a) (w:=w) (fun x hx=>hnd x (.tail _ hx))
  rw [List.cons_append]
  have hd:=list_defers h
  have hput : ∀(b:Act) (v:Value),(b.put o.dst v).defers=b.defers:=fun b v=>by cases o.dst<;>rfl
  unfold wpListIn
  unfold wpList at h
  have ht : yielded ops (wd ds a).tmps=yielded ops a.tmps:=rfl
  rw [ht]
  split
  ·rename_i hw
   rw [if_pos hw] at h
   rcases h with h|⟨_,a,w,hq⟩
   ·unfold Oper.wpIn
    refine ⟨fun f' _=>fenceR_fn r f',?_⟩
    rw [Oper.semAt_eq _ _ _ hno]
    have he : (wd ds a).eval=a.eval:=rfl
    rw [he]
    unfold Oper.wp at h
    generalize (execOp a.eval o).run P w=res at h ⊢
    cases res with
    | ok x w' =>
     cases x<;>simp only [Oper.upon,Oper.uponIn] at h ⊢
     case value v =>
      rw [put_wd]
      exact ih h k
     case skip =>
      rw [put_wd]
      exact ih h k
     case defer d =>
      have:=list_defers h
      rw [hput] at this
      cases this
     case enter g args =>
      refine ⟨fun hd'=>(by rw [fenceR_depth] at hd';cases hd'),callsR (Calls.mono h fun e w'' hh=>?_)⟩
      cases e with
      | returned v =>
       show wpListIn _ _ _ _ _ _ ((wd ds a).put o.dst v) _
       rw [put_wd]
       exact ih hh k
      | panicked ch=>exact absurd hh.1 (by intro e;cases e)
      | outgrown =>
       obtain ⟨a,w,hq⟩:=hh
       exact absurd hq.1 (by intro e;cases e)
     case row row args =>
      refine ⟨fun hd'=>(by rw [fenceR_depth] at hd';cases hd'),rowsR (Rows.mono h fun v w'' hh=>?_)⟩
      rw [put_wd]
      exact ih hh k
    | halt x w' =>
     cases x<;>simp only [Oper.upon] at h
     case panic v=>exact absurd h.1 (by intro e;cases e)
   ·exact absurd hq.1 (by intro e;cases e)
  ·rename_i hw
   rw [if_neg hw] at h
   refine ⟨fun f' _=>fenceR_fn r f',?_⟩
   rw [put_wd]
   exact ih h k
theorem wl_pre {ops:Array Oper} {l l2:List Oper} (R:(Nat→Value)→World→Prop) (hnd:l.all noDef=true) (h:W P ops (QN n R) l n f w) (k:∀f' w',R f' w'→WL r ds P ops Q l2 n f' w') : WL r ds P ops Q (l++l2) n f w :=
 ⟨fun a ha=>list_in (fun o ho=>List.all_eq_true.1 hnd o ho) (h.go a ha) k⟩
def QW (ds:List Deferred) (Q:Exit→Act→World→Prop) (n:Nat) : Exit→Act→World→Prop:=QN n (fun f' w'=>WGX ds Q .normal n f' w')
theorem wx_qw (h:WGX ds Q .normal n f w) : WX (QW ds Q n) .normal n f w:=⟨fun a ha=>⟨rfl,f,ha,h⟩⟩
theorem wg_region {id:Nat} {ops:Array Oper} (hnd:ops.toList.all noDef=true) (h:W P ops (QW ds Q n) ops.toList n f w) : WG r ds P (.region id ops false) Q n f w :=
 wg_regionL (by
  have:=wl_pre (r:=r) (ds:=ds) (Q:=Q) (l2:=[]) _ hnd h fun f' w' hR=>wl_nil hR
  rwa [List.append_nil] at this)
theorem wx_qn {R:(Nat→Value)→World→Prop} (h:R f w) : WX (QN n R) .normal n f w:=⟨fun a ha=>⟨rfl,f,ha,h⟩⟩
end
/-! ### contracts of functions that hand back what they turned, told behind the call -/
def CnTXR (c0:Cx) (L:List Res) (A:Cx→Prop) (Post:Value→List Res→Cx→Prop) : Ending→World→Prop:=fun e w'=>∃v,e=.returned v∧∃c' R,c'.w=w'∧Owns c0 (R++L) c'∧Hd (fun c=>Post v R c∧A c) c'
def CnTX (P:Program) (g:FuncId) (args:List Value) (pre:List Res) (c:Cx) (Post:Value→List Res→Cx→Prop) : Prop :=
 ∀(c0:Cx) (L:List Res) (A:Cx→Prop) [Mono A],Owns c0 (pre++L) c→Hd A c→Calls P g args.toArray c.w (CnTXR c0 L A Post)
section
variable {P : Program} {g : FuncId} {fn : Func} {x : Code} {args : List Value} {c : Cx}
theorem CnTX.of {pre:List Res} {Post:Value→List Res→Cx→Prop} {n:Nat} (hf:P.funcs[g]?=some fn) (hn:fn.ntmps=n) (hb:fn.body=some x) (hl:Nat.ble args.length n=true)
  (h:∀(c0:Cx) (L:List Res) (A:Cx→Prop) [Mono A],Owns c0 (pre++L) c→Hd A c→WC P x (bodyPost P fn (CnTXR c0 L A Post)) n (frame0 args) c.w) : CnTX P g args pre c Post :=
 fun c0 L A _ H HA=>calls_of_wp hf hb (by subst hn;exact (h c0 L A H HA).go _ (frIs0 (Nat.le_of_ble_eq_true hl)))
theorem norm_fnX {L R:List Res} {A:Cx→Prop} {Post:Value→List Res→Cx→Prop} {c0 c:Cx} {n:Nat} {f:Nat→Value} {v:Value} (H:Owns c0 (R++L) c) (HA:Hd A c) (ho:Outs P fn f c.w v) (hp:Post v R c) : WX (bodyPost P fn (CnTXR c0 L A Post)) .normal n f c.w :=
 ⟨fun a ha=>⟨ha.defers,v,ho _ ha.at_,v,rfl,c,R,rfl,H,HA.add hp⟩⟩
end
section
variable {P : Program} {ops : Array Oper} {Q : Exit → Act → World → Prop} {n : Nat} {f : Nat → Value} {rest : List Oper} {ty : TypeId} {ps : String} {af : Array Edge} {d : Tmp}
variable {c0 c : Cx} {L : List Res} {A : Cx → Prop}
theorem s_callX {os:Array Operand} {aT:Array TypeId} {g:FuncId} {vs:List Value} {pre:List Res} {Post:Value→List Res→Cx→Prop} (hn:Nat.blt d n=true) [Ent P g] (hargs:os.toList.map (opd f)=vs) (H:Owns c0 (pre++L) c) (HA:Hd A c) [Mono A] (hc:CnTX P g vs pre c Post)
  (k:∀v R c',Owns c0 (R++L) c'→Hd (fun c=>Post v R c∧A c) c'→W P ops Q rest n (upd f d v) c'.w) : W P ops Q (⟨some d,.call ⟨.value (.func g),os,aT⟩,ty,ps,af,none⟩::rest) n f c.w :=
 st_enter hn (g:=g) (args:=vs.toArray) (by subst hargs;simp [execOp,resolve,Deferred.ofValue,opd,invoke,Ent.h,←Array.toList_map]) (hc c0 L A H HA)
  fun v w' ⟨c',R,hw,H',HA'⟩=>by subst hw;exact k v R c' H' HA'
end
section
variable {P : Program} {fn : Func} {n : Nat}
theorem ret_fnX {L R:List Res} {A:Cx→Prop} {Post:Value→List Res→Cx→Prop} {c0 c:Cx} {f:Nat→Value} {v:Value} (H:Owns c0 (R++L) c) (HA:Hd A c) (ho:Outs P fn f c.w v) (hp:Post v R c) : WX (bodyPost P fn (CnTXR c0 L A Post)) .ret n f c.w :=
 ⟨fun a ha=>⟨ha.defers,v,ho _ ha.at_,v,rfl,c,R,rfl,H,HA.add hp⟩⟩
end
/-! ### one call of yield; a function that hands on elements -/
def RndR {σ:Type} (c0:Cx) (L:List Res) (A:Cx→Prop) (lr:σ→List Res) (bf:σ→Cx→Prop) (tgt:σ→Prop) : Ending→World→Prop:=fun e w' =>
 e=.returned (.bool true)∧∃s' c',c'.w=w'∧tgt s'∧Owns c0 (lr s'++L) c'∧Hd (fun c=>bf s' c∧A c) c'
def Rnd {σ:Type} (P:Program) (l:Nat) (vs:List Value) (lr:σ→List Res) (bf:σ→Cx→Prop) (E:Cx→Prop) (c0:Cx) (s:σ) (tgt:σ→Prop) : Prop :=
 ∀(c:Cx) (L:List Res) (A:Cx→Prop) [Mono A],Owns c0 (lr s++L) c→Hd (fun c=>E c∧bf s c∧A c) c →
  ∃fn tmps assign body,(Instr.yield l vs.toArray).run P c.w=.ok (.round l fn tmps assign body) c.w∧RoundIn Fence.wide 0 P l fn tmps assign body c.w (RndR c0 L A lr bf tgt)
def SeqR {σ:Type} (c0:Cx) (L:List Res) (A:Cx→Prop) (lr:σ→List Res) (bf:σ→Cx→Prop) (fin:σ→Prop) (Post:List Res→Cx→Prop) : Ending→World→Prop:=fun e w' =>
 ∃v,e=.returned v∧∃R s' c',c'.w=w'∧fin s'∧Owns c0 (R++(lr s'++L)) c'∧Hd (fun c=>Post R c∧bf s' c∧A c) c'
def SeqK {α:Type} (P:Program) (g:FuncId) (caps:List Value) (S:List α→Prop) (E:Value→α→Cx→Prop) (pre:List Res) (Post:List Res→Cx→Prop) (c:Cx) : Prop :=
 ∀(σ:Type) (l:Nat) (lr:σ→List Res) (bf:σ→Cx→Prop) (ix:List α→Nat→σ→Prop) (c0:Cx),(∀s,Mono (bf s)) →
  (∀xs i x s v,S xs→xs[i]?=some x→ix xs i s→Rnd P l [v] lr bf (E v x) c0 s (ix xs (i+1))) →
  ∀(c1:Cx) (s0:σ) (L:List Res) (A:Cx→Prop) [Mono A],Le c c1→(∀xs,S xs→ix xs 0 s0)→Owns c0 (pre++(lr s0++L)) c1→Hd (fun c=>bf s0 c∧A c) c1 →
   Calls P g (Value.func (.yield l) #[] #[]::caps).toArray c1.w (SeqR c0 L A lr bf (fun s'=>∃xs,S xs∧ix xs xs.length s') Post)
section
variable {P : Program} {ops : Array Oper} {Q : Exit → Act → World → Prop} {n : Nat} {f : Nat → Value} {rest : List Oper} {ty : TypeId} {ps : String} {af : Array Edge} {d : Tmp}
variable {c0 c : Cx} {L : List Res} {A : Cx → Prop}
theorem wl_yield {σ:Type} {lr:σ→List Res} {bf:σ→Cx→Prop} {E:Cx→Prop} {tgt:σ→Prop} {s:σ} {l:Nat} {t x:Operand} {v:Value} {aT:Array TypeId} (hn:Nat.blt d n=true) (ht:opd f t=.func (.yield l) #[] #[]) (hx:opd f x=v)
  (HR:Rnd P l [v] lr bf E c0 s tgt) (H:Owns c0 (lr s++L) c) (HA:Hd (fun c=>E c∧bf s c∧A c) c) [Mono A]
  (k:∀s' c',tgt s'→Owns c0 (lr s'++L) c'→Hd (fun c=>bf s' c∧A c) c'→WL none [] P ops Q rest n (upd f d (.bool true)) c'.w) :
  WL none [] P ops Q (⟨some d,.call ⟨.value t,#[x],aT⟩,ty,ps,af,none⟩::rest) n f c.w:=⟨fun a ha=>by
 obtain ⟨fn,tmps,assign,body,hy,hr⟩:=HR c L A H HA
 unfold wpListIn
 rw [if_pos (by simp [Region.wanted])]
 refine ⟨fun f' _=>fenceR_fn none f',?_⟩
 have hrun : (execOp (wd [] a).eval ⟨some d,.call ⟨.value t,#[x],aT⟩,ty,ps,af,none⟩).run P c.w=.ok (.round l fn tmps assign body) c.w:=by
  rw [wd_eval ha]
  subst hx
  simp [execOp,resolve,Deferred.ofValue,ht,invoke,hy]
 rw [Oper.semAt_eq _ _ _ (fun x h=>by cases h),hrun]
 refine ⟨fun hd'=>(by rw [fenceR_depth] at hd';cases hd'),RoundIn.mono hr fun e w' hh=>?_⟩
 obtain ⟨rfl,s',c',rfl,ht',H',HA'⟩:=hh
 show wpListIn _ _ _ _ _ _ ((wd [] a).put (some d) (.bool true)) _
 rw [put_wd]
 exact (k s' c' ht' H' HA').go _ (ha.put hn _)⟩
/-! ### the range -/
def AsQ (n:Nat) (c0:Cx) (L:List Res) (A:Cx→Prop) (G:(Nat→Value)→List Res→Cx→Prop) : Exit→Act→World→Prop:=fun e a w=>e=.normal∧∃f' Xs c',FrIs n f' a∧c'.w=w∧Owns c0 (Xs++L) c'∧Hd (fun c=>G f' Xs c∧A c) c'
def BdQ {σ:Type} (c0:Cx) (L:List Res) (A:Cx→Prop) (lr:σ→List Res) (bf:σ→Cx→Prop) (tgt:σ→Prop) : Exit→Act→World→Prop:=fun e a w=>e=.normal∧∃s' c',c'.w=w∧tgt s'∧Owns c0 (lr s'++L) c'∧Hd (fun c=>bf s' c∧A c) c'
theorem wgx_as {G:(Nat→Value)→List Res→Cx→Prop} {Xs:List Res} (H:Owns c0 (Xs++L) c) (HA:Hd A c) (hG:G f Xs c) : WGX [] (AsQ n c0 L A G) .normal n f c.w :=
 ⟨fun a ha=>by rw [wd_nil ha];exact ⟨rfl,f,Xs,c,ha,rfl,H,HA.add hG⟩⟩
theorem wgx_bd {σ:Type} {lr:σ→List Res} {bf:σ→Cx→Prop} {tgt:σ→Prop} (s':σ) (ht:tgt s') (H:Owns c0 (lr s'++L) c) (HA:Hd (fun c=>bf s' c∧A c) c) : WGX [] (BdQ c0 L A lr bf tgt) .normal n f c.w :=
 ⟨fun a ha=>⟨rfl,s',c,rfl,ht,H,HA⟩⟩
theorem Owns.top {r:Res} {R L:List Res} (H:Owns c0 (R++(r::L)) c) : Owns c0 (r::(R++L)) c:=H.perm List.perm_middle
theorem Owns.untop {r:Res} {R L:List Res} (H:Owns c0 (r::(R++L)) c) : Owns c0 (R++(r::L)) c:=H.perm List.perm_middle.symm
theorem Owns.obj_turn {b:Nat} {o o':Obj} (H:Owns c0 (.obj b o::L) c) : ∃c',c'.w=c.w.putObj b o'∧Le c c'∧Owns c0 (.obj b o'::L) c':=by
 have hb : c.w.heap[b]?=some o:=(H.res _ (List.mem_cons_self ..)).1
 have hbl : b<c.w.heap.size:=(Array.getElem?_eq_some_iff.1 hb).1
 have h:=H.turn (r':=.obj b o') (w':=c.w.putObj b o') rfl rfl rfl (Nat.le_refl _) (Nat.le_of_eq World.putObj_size.symm) (fun x hx hne=>World.putObj_heap_other fun e=>hne (by rw [e];rfl)) (World.putObj_heap_same hbl) (fun x hx=>.inl hx)
 exact ⟨_,rfl,h.1,h.2⟩
theorem perm_two {α:Type} {a b:α} {R Q L:List α} : (R++((a::Q)++(b::L))).Perm (a::b::(R++(Q++L))):=by
 refine List.perm_middle.trans (List.Perm.cons _ ?_)
 show (R++(Q++(b::L))).Perm (b::(R++(Q++L)))
 rw [←List.append_assoc,←List.append_assoc]
 exact List.perm_middle
theorem zip_one (tm:Array Value) (p:Tmp) (v:Value) : ((#[p]:Array Tmp).zip [v].toArray).foldl (fun t (p,v)=>t.setIfInBounds p v) tm=tm.setIfInBounds p v:=by simp
theorem FrIs.set {a:Act} (h:FrIs n f a) {p:Tmp} (hp:Nat.blt p n=true) (v:Value) : FrIs n (upd f p v) { tmps:=a.tmps.setIfInBounds p v,defers:=[] }:=by
 have:=h.put hp v
 have e : a.put (some p) v={ tmps:=a.tmps.setIfInBounds p v,defers:=[] }:=by
  cases a
  have:=h.defers
  simp only at this
  subst this
  rfl
 rw [←e]
 exact this
theorem wc_range {α σ:Type} {gf:FuncId} {caps:List Value} {g:Operand} {p:Tmp} {assign body:Code} {S:List α→Prop} {E:Value→α→Cx→Prop} {pre:List Res} {Post:List Res→Cx→Prop} {ix:List α→Nat→σ→Prop} {s0:σ}
  (lr:σ→List Res) (bf:σ→Cx→Prop) [hb:∀s,Mono (bf s)] (G:List α→Nat→α→σ→(Nat→Value)→List Res→Cx→Prop) (hp:Nat.blt p n=true) (hg:opd f g=.func (.func gf) #[] caps.toArray) [Ent P gf] (hE:∀v x,Mono (E v x)) (hG:∀xs i x s f' Xs,Mono (G xs i x s f' Xs)) (hPost:∀R,Mono (Post R))
  (hseq:SeqK P gf caps S E pre Post c) (h0:∀xs,S xs→ix xs 0 s0) (H:Owns c0 (pre++(lr s0++L)) c) (HA:Hd (fun c=>bf s0 c∧A c) c) [Mono A]
  (ha:∀l xs i x s v L A c,Mono A→S xs→xs[i]?=some x→ix xs i s→Owns c0 (lr s++L) c→Hd (fun c=>E v x c∧bf s c∧A c) c→WG (some l) [] P assign (AsQ n c0 L A (G xs i x s)) n (upd f p v) c.w)
  (hbd:∀l xs i x s f' Xs L A c,Mono A→S xs→xs[i]?=some x→ix xs i s→Owns c0 (Xs++L) c→Hd (fun c=>G xs i x s f' Xs c∧A c) c→WG (some l) [] P body (BdQ c0 L A lr bf (ix xs (i+1))) n f' c.w)
  (k:∀xs s' R D c',S xs→ix xs xs.length s'→Owns c0 (.obj D (.deferred (some []))::(R++(lr s'++L))) c'→Hd (fun c=>Post R c∧bf s' c∧A c) c'→WGX [⟨.collected D,#[]⟩] Q .normal n f c'.w) :
  WC P (.rangeFunc g #[p] assign body) Q n f c.w:=⟨fun a hfa=>by
 refine wpIn_wide (n:=0).1 (wpIn_rangeFunc fun fn _=>?_)
 obtain ⟨r,hr⟩ : ∃r : Loop,r={ state:=.ready,pending:=none,fn:=fn,tmps:=a.tmps,params:=#[p],assign:=assign,body:=body,defers:=c.w.heap.size }:=⟨_,rfl⟩
 have n1:=H.new (.deferred (some [])) rfl
 have n2:=n1.2.new (.loop r) rfl
 obtain ⟨D,hD⟩ : ∃D,D=c.w.heap.size:=⟨_,rfl⟩
 obtain ⟨l,hl⟩ : ∃l,l=(c.w.alloc (.deferred (some []))).heap.size:=⟨_,rfl⟩
 obtain ⟨c2,hc2,hle,H2⟩ : ∃c2 : Cx,c2.w=(c.w.alloc (.deferred (some []))).alloc (.loop r)∧Le c c2∧Owns c0 (.obj l (.loop r)::.obj D (.deferred (some []))::(pre++(lr s0++L))) c2:=⟨_,rfl,n1.1.trans n2.1,by rw [hl,hD];exact n2.2⟩
 refine ⟨l,[{ target:=.collected D,args:=#[] }],c2.w,⟨.fn (.func gf) caps.toArray,#[Value.func (.yield l) #[] #[]]⟩,c2.w,gf,(Value.func (.yield l) #[] #[]::caps).toArray,c2.w,?_,?_,fun _ _=>trivial,?_,fun h=>(by cases h),?_⟩
 ·rw [hl,hD,hc2,hr,World.size_alloc]
  exact run_enterLoop_outer ..
 ·rw [hfa.eval]
  have hc : opd f (.const (.func (.yield l) #[] #[]))=.func (.yield l) #[] #[]:=rfl
  simp [resolve,Deferred.ofValue,hg,rangeCall,hc]
 ·simp [invoke,Ent.h]
 ·refine callsIn_wide.2 (Calls.mono (hseq σ l (fun s=>.obj l (.loop r)::lr s) bf ix c0 hb ?_ c2 s0 (.obj D (.deferred (some []))::L) A hle h0 ?_ (HA.to hle)) ?_)
  ·intro xs i x s v hS hx hi c L A _ H HA
   have hrec : c.w.heap[l]?=some (.loop r):=(H.res _ (List.mem_cons_self ..)).1
   have H : Owns c0 (lr s++(.obj l (.loop r)::L)) c:=H.untop
   have hy:=run_yield (P:=P) (args:=[v].toArray) hrec (by rw [hr];rfl)
   rw [hr] at hy
   simp only [zip_one] at hy
   refine ⟨fn,_,assign,body,hy,roundIn_of_wpIn trivial ?_⟩
   have hfr:=hfa.set hp v
   have h1:=(ha l xs i x s v (.obj l (.loop r)::L) A c inferInstance hS hx hi H HA).go _ hfr
   rw [wd_nil hfr] at h1
   refine Code.wpIn_mono (fun e a1 w1 hq=>?_) h1
   obtain ⟨rfl,f',Xs,c1,hf',rfl,H1,HA1⟩:=hq
   obtain ⟨c3,hw3,hle3,H3⟩:=H1.top.obj_turn (o':=.loop { r with state:=.busy })
   have hrec1 : c1.w.heap[l]?=some (.loop r):=(H1.top.res _ (List.mem_cons_self ..)).1
   refine ⟨c3.w,by rw [hw3];exact run_beginRound hrec1 (by rw [hr]),?_⟩
   have:=hG xs i x s f' Xs
   have HA3 : Hd (fun c=>G xs i x s f' Xs c∧A c) c3:=HA1.to hle3
   have h2:=(hbd l xs i x s f' Xs (.obj l (.loop { r with state:=.busy })::L) A c3 inferInstance hS hx hi H3.untop HA3).go _ hf'
   rw [wd_nil hf'] at h2
   refine Code.wpIn_mono (fun e a2 w2 hq=>?_) h2
   obtain ⟨rfl,s',c4,rfl,ht,H4,HA4⟩:=hq
   obtain ⟨c5,hw5,hle5,H5⟩:=H4.top.obj_turn (o':=.loop r)
   have hrec4 : c4.w.heap[l]?=some (.loop { r with state:=.busy }):=(H4.top.res _ (List.mem_cons_self ..)).1
   refine ⟨.bool true,c5.w,?_,rfl,s',c5,rfl,ht,H5,HA4.to hle5⟩
   rw [run_endRound none hrec4,hw5]
   rw [hr]
   rfl
  ·exact H2.perm perm_two.symm
  ·rintro e w' ⟨v,rfl,R,s',c',rfl,⟨xs,hS,hi⟩,H',HA'⟩
   have H' : Owns c0 (.obj l (.loop r)::.obj D (.deferred (some []))::(R++(lr s'++L))) c':=H'.perm perm_two
   have hrec : c'.w.heap[l]?=some (.loop r):=(H'.res _ (List.mem_cons_self ..)).1
   obtain ⟨c5,hw5,hle5,H5⟩:=H'.obj_turn (o':=.loop { r with state:=.exhausted })
   refine ⟨none,c5.w,?_,?_⟩
   ·rw [hw5,run_endLoop hrec (by rw [hr];intro h;cases h)]
    rw [hr]
   ·have h:=(k xs s' R D c5 hS hi H5.drop (HA'.to hle5)).go a hfa
    have e : wd [⟨.collected D,#[]⟩] a={ a with defers:=[{ target:=.collected D,args:=#[] }]++a.defers }:=by
     rw [hfa.defers]
     rfl
    rw [←e]
    exact h⟩
end
/-! ### functions that hold a range, or a deferred call -/
section
variable {P : Program} {g : FuncId} {fn : Func} {x : Code} {args : List Value} {c : Cx}
theorem calls_of_wpM {R:Ending→World→Prop} {w:World} {n:Nat} (hf:P.funcs[g]?=some fn) (hn:fn.ntmps=n) (hb:fn.body=some x) (hl:Nat.ble args.length n=true)
  (h:WC P x (bodyPostM Fence.wide 0 P fn R) n (frame0 args) w) : Calls P g args.toArray w R :=
 callsIn_wide (n:=0).1 (callsIn_of_wp_marks hf hb trivial (wpIn_wide.2 (by subst hn;exact h.go _ (frIs0 (Nat.le_of_ble_eq_true hl)))))
theorem CnTX.ofM {pre:List Res} {Post:Value→List Res→Cx→Prop} {n:Nat} (hf:P.funcs[g]?=some fn) (hn:fn.ntmps=n) (hb:fn.body=some x) (hl:Nat.ble args.length n=true)
  (h:∀(c0:Cx) (L:List Res) (A:Cx→Prop) [Mono A],Owns c0 (pre++L) c→Hd A c→WC P x (bodyPostM Fence.wide 0 P fn (CnTXR c0 L A Post)) n (frame0 args) c.w) : CnTX P g args pre c Post :=
 fun c0 L A _ H HA=>calls_of_wpM hf hn hb hl (h c0 L A H HA)
variable {c0 : Cx} {L : List Res} {A : Cx → Prop} {n : Nat} {f : Nat → Value}
theorem wx_retM0 {R:Ending→World→Prop} {v:Value} {w:World} (ho:Outs P fn f w v) (hR:R (.returned v) w) : WX (bodyPostM Fence.wide 0 P fn R) .ret n f w :=
 ⟨fun a ha=>by
  show LeavesInM Fence.wide 0 P fn a.tmps R a.defers .returning w
  rw [ha.defers]
  exact ⟨v,ho _ ha.at_,hR⟩⟩
theorem wgx_retM {R:Ending→World→Prop} {D:Nat} (H:Owns c0 (.obj D (.deferred (some []))::L) c) (HA:Hd A c) [Mono A]
  (k:∀c',Owns c0 L c'→Hd A c'→∃v,Outs P fn f c'.w v∧R (.returned v) c'.w) : WGX [⟨.collected D,#[]⟩] (bodyPostM Fence.wide 0 P fn R) .ret n f c.w:=by
 have hd : c.w.heap[D]?=some (.deferred (some [])):=(H.res _ (List.mem_cons_self ..)).1
 obtain ⟨c',hw,hle,H'⟩:=H.obj_turn (o':=.deferred none)
 obtain ⟨v,ho,hR⟩:=k c' H'.drop (HA.to hle)
 refine ⟨fun a ha=>?_⟩
 show LeavesInM Fence.wide 0 P fn a.tmps R [⟨.collected D,#[]⟩] .returning c.w
 refine ⟨(by intro h;cases h),.inl ⟨D,c'.w,rfl,by rw [hw];exact run_takeDeferred hd,?_⟩⟩
 exact ⟨v,ho _ ha.at_,hR⟩
end
section
variable {P : Program} {Q : Exit → Act → World → Prop} {n : Nat} {f : Nat → Value} {w : World} {ds : List Deferred}
theorem wgx_nextW {y:Code} (h:WG none ds P y Q n f w) : WGX ds (Exit.then (y.wp P Q) Q) .normal n f w:=⟨fun a ha=>wpIn_wide.1 (h.go a ha)⟩
end
theorem perm_pull {α:Type} : ∀{l:List α} {i:Nat} {r:α},l[i]?=some r→l.Perm (r::l.eraseIdx i)
 | [],_,_,h=>by simp at h
 | a::l,0,r,h=>by
  simp only [List.getElem?_cons_zero,Option.some.injEq] at h
  subst h
  exact .refl _
 | a::l,i+1,r,h=>(List.Perm.cons a (perm_pull (l:=l) (i:=i) (by simpa using h))).trans (List.Perm.swap ..)
theorem Owns.pull {c0 c:Cx} {L:List Res} (i:Nat) {r:Res} (H:Owns c0 L c) (h:L[i]?=some r) : Owns c0 (r::L.eraseIdx i) c:=H.perm (perm_pull h)
theorem row_one {w:World} {e:TypeId} {kk m:Nat} {v:Value} {cells:List Value} {g mm cap:Nat} (h:w.ownsRow 0 e kk v m cells) (hv:v=.slice (some ⟨g,0,none⟩) mm cap) : ∃cur : Array Value,w.heap[g]?=some (.cells cur e (0,0))∧mm=m∧m≤cap∧cap≤maxLen∧cur.size=cap*kk∧cur.toList.take (m*kk)=cells:=by
 rcases h.2 with ⟨h2,_⟩|⟨g',cap',cur,h2,_,hh,hnc,hmx,hsz,htk⟩
 ·rw [hv] at h2;cases h2
 ·rw [hv] at h2
  simp only [Value.slice.injEq,Option.some.injEq,Addr.mk.injEq,and_true] at h2
  obtain ⟨rfl,rfl,rfl⟩:=h2
  exact ⟨cur,hh,rfl,hnc,hmx,hsz,htk⟩
theorem vals_single {α:Type} [Enc α] {cs:List Value} {y:α} {c:Cx} (h:Enc.Ok cs y c) : Vals [cs] [y] c:=⟨rfl,fun j cs' y' h1 h2=>by
 cases j with
 | zero =>
  simp at h1 h2
  subst h1 h2
  exact h
 | succ j=>simp at h2⟩
section
variable {P : Program} {ops : Array Oper} {Q : Exit → Act → World → Prop} {n : Nat} {f : Nat → Value} {rest : List Oper} {ty : TypeId} {ps : String} {af : Array Edge} {d : Tmp}
theorem s_nilCheck {w:World} {x:Operand} {b o:Nat} (hn:Nat.blt d n=true) (hx:opd f x=.pointer (some ⟨b,o,none⟩)) (k:W P ops Q rest n (upd f d (.pointer (some ⟨b,o,none⟩))) w) : W P ops Q (⟨some d,.nilCheck x,ty,ps,af,none⟩::rest) n f w :=
 st_val hn (by simp [execOp,hx]) k
variable {c0 c : Cx} {L : List Res} {A : Cx → Prop}
theorem s_ldCell {T e:TypeId} {kk m g mm cap o:Nat} {x:Operand} {v u:Value} {cells:List Value} (hn:Nat.blt d n=true) [Prim P T] (hx:opd f x=.pointer (some ⟨g,o,none⟩)) (hv:v=.slice (some ⟨g,0,none⟩) mm cap) (H:Owns c0 L c) (hm:Res.row v e kk m cells∈L) (hu:cells[o]?=some u)
  (k:W P ops Q rest n (upd f d u) c.w) : W P ops Q (⟨some d,.load T x,ty,ps,af,none⟩::rest) n f c.w:=by
 subst hv
 have hcell:=World.ownsRow.cells (H.res _ hm).1 (g:=g) rfl o u hu
 rw [Addr.add_lit,Nat.zero_add] at hcell
 have hr:=run_load1 (P:=P) (T:=T) hcell
 exact st_val hn (by simp [execOp,Instr.loadAt,Instr.sureAddr,hx,hr]) k
theorem s_stCell {T' e:TypeId} {kk m g mm cap o:Nat} {x y:Operand} {v u:Value} {cells:List Value} [Prim P T'] (hx:opd f x=.pointer (some ⟨g,o,none⟩)) (hy:opd f y=u) (hc:u.cells=#[u]) (hv:v=.slice (some ⟨g,0,none⟩) mm cap) (ho:o+1≤m*kk) (h1:u.oneCell'=true)
  (H:Owns c0 (.row v e kk m cells::L) c) (HA:Hd A c) (hMA:Mono A) (k:∀c',Owns c0 (.row v e kk m (cells.take o++[u]++cells.drop (o+1))::L) c'→Hd A c'→W P ops Q rest n f c'.w) : W P ops Q (⟨none,.store T' x y,ty,ps,af,none⟩::rest) n f c.w:=by
 have hres:=H.res _ (List.mem_cons_self ..)
 obtain ⟨cur,hh,rfl,hnc,hmx,hsz,htk⟩:=row_one hres.1 hv
 have hmul : mm*kk≤cap*kk:=Nat.mul_le_mul_right _ hnc
 obtain ⟨w',hrun,hw,e1,e2,e3,e4,e5,e6⟩:=stores_row (P:=P) g e [u] o 0 cur.toList c.w (by simpa using hh) (by simp;omega) (by simpa using h1)
 rw [Nat.add_zero] at hw
 have hl : (cells.take o++[u]++cells.drop (o+1)).length=mm*kk:=by
  rw [←htk];simp;omega
 have hrow : w'.ownsRow 0 e kk v mm (cells.take o++[u]++cells.drop (o+1)):=by
  refine ⟨hl,.inr ⟨g,cap,_,hv,Nat.zero_le _,hw,hnc,hmx,by simp;omega,?_⟩⟩
  rw [←htk]
  apply List.ext_getElem?
  intro j
  simp only [List.toList_toArray,List.getElem?_take,List.getElem?_append,List.getElem?_drop,List.length_take,List.length_append,List.length_cons,List.length_nil]
  simp only [Array.length_toList]
  repeat' split
  all_goals first|rfl|omega|(congr 1;omega)|skip
 have h2:=H.turn (r':=.row v e kk mm (cells.take o++[u]++cells.drop (o+1))) (w':=w') e1 e2 e3 (by omega) (by omega) (fun q hq hne=>e6 q (fun e'=>hne (by subst e';simp [Res.blk,hv,Value.ownBlock]))) hrow (fun q hq=>.inl hq)
 refine st_skip (w':=w') ?_ (k ⟨w',_⟩ h2.2 (HA.to h2.1))
 simp [execOp,Instr.storeAt,Instr.sureAddr,storeVar,hx,hy,Prim.sz (P:=P) (T:=T'),hc,hrun]
theorem s_appOR {T e:TypeId} {z:Value} {kk bb m m2:Nat} {x y:Operand} {v v2:Value} {cur cells2:List Value} (hn:Nat.blt d n=true) [SlT P T e] [TyI P e z kk bb] (hx:opd f x=v) (hy:opd f y=v2) (hm:Res.row v2 e kk m2 cells2∈L)
  (hz:z.cells.size=kk) (hk0:0<kk) (hbb:Nat.ble bb 128=true) (h1:∀u∈cells2,u.oneCell'=true) (hlim:m+m2<LIM)
  (H:Owns c0 (.row v e kk m cur::L) c) (HA:Hd A c) (hMA:Mono A) (k:∀v' c',Owns c0 (.row v' e kk (m+m2) (cur++cells2)::L) c'→Hd A c'→W P ops Q rest n (upd f d v') c'.w) :
  W P ops Q (⟨some d,.call ⟨.builtin .append,#[x,y],#[T,T]⟩,ty,ps,af,none⟩::rest) n f c.w:=by
 have hown:=(H.res _ (List.mem_cons_self ..)).1
 have hown2:=(H.res _ (List.mem_cons_of_mem _ hm)).1
 obtain ⟨v',w',hr,ho,hg,hb⟩:=run_append_own2 (P:=P) (T:=T) (x:=v2) (m2:=m2) (news:=cells2) hz hk0 (Nat.le_of_ble_eq_true hbb) hown (by
  rcases hown2.2 with ⟨hv,h0⟩|⟨g,cap,cur2,hv,_⟩
  ·subst h0
   exact .inr ⟨0,hv,rfl,List.eq_nil_of_length_eq_zero (by rw [hown2.1];omega)⟩
  ·exact .inl ⟨⟨g,0,none⟩,cap,hv,fun j u hu=>World.ownsRow.cells hown2 (g:=g) (by rw [hv];rfl) j u hu⟩) hown2.1 h1 hlim ty
 obtain ⟨M',hle,hO⟩:=H.appended (run_ok_drawn hr) ho hg hb
 refine st_val hn (w':=w') ?_ (k v' ⟨w',M'⟩ (by simpa using hO) (HA.to hle))
 simp [execOp,resolve,invoke,builtin,hx,hy,hr]
end
section
variable {P : Program} {ops : Array Oper} {Q : Exit → Act → World → Prop} {n : Nat} {f : Nat → Value} {rest : List Oper} {ty : TypeId} {ps : String} {af : Array Edge} {d : Tmp}
variable {c0 c : Cx} {L : List Res} {A : Cx → Prop}
theorem s_quo {T T':TypeId} {x y:Operand} {kd:IntKind} {a b:Int} {w:World} (hn:Nat.blt d n=true) (hx:opd f x=.int kd a) (hy:opd f y=.int kd b) (h0:0≤a) (hb:0<b) {r:Int} (hr:kd.wrap (a / b)=r) (k:W P ops Q rest n (upd f d (.int kd r)) w) : W P ops Q (⟨some d,.binOp .quo T x y T',ty,ps,af,none⟩::rest) n f w:=by
 have e : a.tdiv b=a / b:=Int.tdiv_eq_ediv_of_nonneg h0
 refine st_val hn ?_ k
 subst hr
 simp [execOp,hx,hy,eqGuard_at_int,binOp_quo,Op.intDiv,e,Int.ne_of_gt hb]
theorem s_and {T T':TypeId} {x y:Operand} {kd:IntKind} {a b r:Int} {w:World} (hn:Nat.blt d n=true) (hx:opd f x=.int kd a) (hy:opd f y=.int kd b) (hr:kd.wrap (BitVec.ofInt kd.bits a &&& BitVec.ofInt kd.bits b).toNat=r) (k:W P ops Q rest n (upd f d (.int kd r)) w) : W P ops Q (⟨some d,.binOp .and T x y T',ty,ps,af,none⟩::rest) n f w:=by
 refine st_val hn ?_ k
 subst hr
 simp [execOp,hx,hy,eqGuard_at_int,binOp_and,Op.intBits]
theorem s_ixArr {T e len kk i b o o':Nat} {x y:Operand} {q:Int} {w:World} (hn:Nat.blt d n=true) [ArrT P T len e] (hs:∀w,(sizeOf e).run P w=.ok kk w) (hx:opd f x=.pointer (some ⟨b,o,none⟩)) (hy:opd f y=.int .i64 q) (hq:q=(i:Int)) (hi:i<len) (ho:o+i*kk=o')
  (k:W P ops Q rest n (upd f d (.pointer (some ⟨b,o',none⟩))) w) : W P ops Q (⟨some d,.indexAddr T x y,ty,ps,af,none⟩::rest) n f w:=by
 subst hq ho
 have h1 : ((i:Int)<(len:Int)):=by omega
 have h2 : (0:Int)≤(i:Int):=by omega
 refine st_val hn ?_ k
 simp [execOp,Instr.indexAt,asIntOf,hx,hy,run_underlying (ArrT.h (P:=P) (T:=T)),Instr.sureAddr,h1,hs,Addr.add_lit]
 intro h
 omega
theorem s_slArr {T e len i b:Nat} {x y:Operand} {q:Int} {w:World} (hn:Nat.blt d n=true) [ArrT P T len e] (hs:∀w,(sizeOf e).run P w=.ok 1 w) (hx:opd f x=.pointer (some ⟨b,0,none⟩)) (hy:opd f y=.int .i64 q) (hq:q=(i:Int)) (hi:i<len)
  (k:W P ops Q rest n (upd f d (.slice (some ⟨b,i,none⟩) (len-i) (len-i))) w) : W P ops Q (⟨some d,.slice T x (some y) none none,ty,ps,af,none⟩::rest) n f w:=by
 subst hq
 have hu : P.underlying T=some (.array len e):=ArrT.h (P:=P) (T:=T)
 have hal : P.arrayLen T=len:=by simp [Program.arrayLen,hu]
 have hel : P.elem T=e:=by simp [Program.elem,hu]
 have hr:=run_sliceAt_array_l (P:=P) w T ⟨b,0,none⟩ (by rw [hal,hel];exact hu) .i64 (i:Int) (by omega) (by rw [hal];omega)
 rw [hal,hel,hs] at hr
 simp only [Result.andThen_ok,slicedAt,Int.toNat_natCast,Nat.mul_one,Addr.add_lit,Nat.zero_add] at hr
 rw [if_neg (by omega)] at hr
 refine st_val hn ?_ k
 simp [execOp,hx,hy,hr]
theorem s_indexSk {t':TypeId} {kd:IntKind} {x y:Operand} {s:ByteArray} {q:Int} {i:Nat} {u:UInt8} {w:World} (hn:Nat.blt d n=true) [StrT P t'] (hx:opd f x=.string s) (hy:opd f y=.int kd q) (hq:q=(i:Int)) (hi:s.data[i]?=some u) (k:W P ops Q rest n (upd f d (.int .u8 u.toNat)) w) :
  W P ops Q (⟨some d,.index t' x y,ty,ps,af,none⟩::rest) n f w:=by
 subst hq
 exact st_val hn (by
  have h2 : s[i]?=some u:=by
   have hlt : i<s.data.size:=(Array.getElem?_eq_some_iff.1 hi).1
   have e:=(Array.getElem?_eq_some_iff.1 hi).2
   rw [getElem?_pos s i hlt]
   exact congrArg some e
  simp [execOp,Instr.index,asIntOf,hx,hy,run_underlying (StrT.h (P:=P) (T:=t')),h2]) k
theorem wrapU {k:Nat} (h:k<18446744073709551616) : IntKind.u64.wrap (k:Int)=(k:Int):=by
 simp [IntKind.wrap,IntKind.bits,IntKind.signed]
 omega
theorem LPut.set1 {v:Value} : ∀{cs:List Value} {i:Nat},i<cs.length→LPut cs i [v] (cs.set i v)
 | c::cs,0,_=>.here .nil
 | c::cs,i+1,h=>.there (LPut.set1 (by simpa using h))
theorem set_rep {z x:Value} {l:List Value} {k:Nat} (h:0<k) : (List.replicate k z++l).set (k-1) x=List.replicate (k-1) z++x::l:=by
 obtain ⟨j,rfl⟩ : ∃j,k=j+1:=⟨k-1,by omega⟩
 have e : List.replicate (j+1) z=List.replicate j z++[z]:=by rw [List.replicate_succ']
 rw [e,Nat.add_sub_cancel,List.append_assoc,List.set_append_right _ _ (by simp)]
 simp
theorem s_appObj {T e:TypeId} {z:Value} {kk bb m b o m2 cp:Nat} {x y:Operand} {v:Value} {cur news cs:List Value} {T0:TypeId} (hn:Nat.blt d n=true) [SlT P T e] [TyI P e z kk bb] (hx:opd f x=v) (hy:opd f y=.slice (some ⟨b,o,none⟩) m2 cp) (hz:z.cells.size=kk) (hk0:Nat.blt 0 kk=true) (hbb:Nat.ble bb 128=true)
  (H:Owns c0 (.row v e kk m cur::.obj b (.cells cs.toArray T0 (0,0))::L) c) (HA:Hd A c) [Mono A] (hl:news.length=m2*kk) (h1:∀u∈news,u.oneCell'=true) (hnew:∀j u,news[j]?=some u→cs[o+j]?=some u) (hlim:m+m2<LIM)
  (k:∀v' c',Owns c0 (.row v' e kk (m+m2) (cur++news)::.obj b (.cells cs.toArray T0 (0,0))::L) c'→Hd A c'→W P ops Q rest n (upd f d v') c'.w) :
  W P ops Q (⟨some d,.call ⟨.builtin .append,#[x,y],#[T,T]⟩,ty,ps,af,none⟩::rest) n f c.w:=by
 have hown:=(H.res _ (List.mem_cons_self ..)).1
 have hob : c.w.heap[b]?=some (.cells cs.toArray T0 (0,0)):=(H.res _ (.tail _ (.head _))).1
 obtain ⟨v',w',hr,ho,hg,hb⟩:=run_append_own2 (P:=P) (T:=T) (x:=.slice (some ⟨b,o,none⟩) m2 cp) (m2:=m2) (news:=news) hz (Nat.blt_eq▸hk0) (Nat.le_of_ble_eq_true hbb) hown (.inl ⟨⟨b,o,none⟩,cp,rfl,fun j u hu=>by
  rw [Addr.add_lit,cell_of_row _ _ _ _ _ _ hob]
  simpa using hnew j u hu⟩) hl h1 hlim ty
 obtain ⟨M',hle,hO⟩:=H.appended (run_ok_drawn hr) ho hg hb
 refine st_val hn (w':=w') ?_ (k v' ⟨w',M'⟩ hO (HA.to hle))
 simp [execOp,resolve,invoke,builtin,hx,hy,hr]
end
end Go.Wk
namespace Go.Proofs.YtnppmeeibbefbaaGreatDoor
open Go Go.Wk Go.RowKit
instance cvI_i_u64 : CvI Tryz.prog 3 176 .u64:=.of (by kernel_rfl) (by kernel_rfl)
instance cvI_i64_u64 : CvI Tryz.prog 2 176 .u64:=.of (by kernel_rfl) (by kernel_rfl)
instance : ArrT Tryz.prog 251 65 5:=⟨by kernel_rfl⟩
instance : TyI Tryz.prog 5 (.int .u8 0) 1 1:=.of (by kernel_rfl)
instance : SlT Tryz.prog 91 5:=⟨by kernel_rfl⟩
instance : Prim Tryz.prog 5:=.of (by kernel_rfl) (by kernel_rfl)
instance : Zer Tryz.prog 251 (.agg (List.replicate 65 (Value.int .u8 0)).toArray):=.of (by kernel_rfl)
instance : Ent Tryz.prog 153:=.of Tryz.func153 (by kernel_rfl) (by kernel_rfl)
instance : Ent Tryz.prog 130:=.of Tryz.func130 (by kernel_rfl) (by kernel_rfl)
instance : Ent Tryz.prog 155:=.of Tryz.func155 (by kernel_rfl) (by kernel_rfl)
instance : Ent Tryz.prog 131:=.of Tryz.func131 (by kernel_rfl) (by kernel_rfl)
theorem strconv_pow36 (c:Cx) : Cn Tryz.prog 153 [.int .i64 36] c (fun v _=>v=.bool false):=by
 refine Cn.of Tryz.func153 Tryz.ntmps153 rfl rfl fun hm H HA=>?_
 (apply Y1;refine Z2 ?_;apply Y2;refine Z0 ?_;refine Z0 ?_;refine Z50 ?_)
 refine s_and rfl rfl rfl (r:=32) (by decide) ?_
 (focus (refine Z92 (fun hq=>?_) fun hq=>?_;refine Z2 ?_;apply Y0;apply wc_ret;rotate_left;refine Z2 ?_;apply Y0;apply wc_ret;rotate_left))
 ·exfalso;omega
 ·exact ret_fn H hm (outs1 Tryz.results153 Wh) rfl
set_option maxRecDepth 10000 in
theorem strconv_bits36 (u:Nat) (v:Value) (m:Nat) (cur:List Value) (c:Cx) (hu:u<2821109907456) (hm:m+65<1099511627776) :
  CnTX Tryz.prog 130 [v,.int .u64 u,.int .i64 36,.bool false,.bool true] [.row v 5 1 m cur] c (fun r R _=>∃v' s,r=.tuple #[v',s]∧R=[.row v' 5 1 (m+(k36 u).length) (cur++Lib.byteCells (k36 u))]):=by
 refine CnTX.of Tryz.func130 Tryz.ntmps130 rfl rfl fun c0 L0 A0 _ H HA=>?_
 (repeat' (first|refine Z0 ?_|refine Z2 ?_|refine Z4 ?_|refine Z5 ?_|refine Z8 ?_|apply w_nil|apply wc_seq|apply wc_region|apply wx_next|refine Z18 ?_|refine Z19 ?_|apply wc_skip|refine Z30 ?_|refine Z92 (fun hq=>?_) fun hq=>?_|refine Z93 (fun hq=>?_) fun hq=>?_|refine Z96 (fun hq=>?_) fun hq=>?_))
 ·exfalso;omega
 ·exfalso;omega
 ·exfalso;omega
 (refine s_alloc (cs:=List.replicate 65 (Value.int .u8 0)) rfl rfl H HA ?_;intro ba c H HA)
 (apply Y2;refine Z2 ?_;apply Y0;apply wc_seq;apply Y1;refine Z0 ?_;apply Y0;refine Z19 ?_;apply wc_skip;apply wx_next;apply wc_seq;apply Y1;refine Z0 ?_)
 (refine s_call rfl rfl H HA (strconv_pow36 _) ?_;intro vx c H HP;have hvx:=HP.h.1;have HA:=HP.cut;subst hvx)
 (apply Y0;refine Z19 ?_;apply Y1;refine Z0 ?_)
 refine s_conv rfl rfl (r:=36) (by decide) ?_
 (refine Z2 ?_;apply Y0;apply wc_seq;apply wc_block)
 have hp8 : u<36 ^ 8:=by omega
 have H : Owns c0 (.obj ba (.cells (List.replicate (65-([]:List UInt8).length) (Value.int .u8 0)++Lib.byteCells []).toArray 251 (0,0))::.row v 5 1 m cur::L0) c:=by
  have e : List.replicate (65-([]:List UInt8).length) (Value.int .u8 0)++Lib.byteCells []=List.replicate 65 (Value.int .u8 0):=List.append_nil _
  rw [e]
  exact H
 refine wc_loopG (σ:=Nat×List UInt8) (fun y=>y.1) (fun y=>[(0,v),(1,.int .u64 y.1),(3,.bool false),(4,.bool true),(12,.pointer (some ⟨ba,0,none⟩)),(13,.int .i64 (65-y.2.length:Nat)),(17,.int .u64 36)])
  (fun y=>k36 u=k36 y.1++y.2∧y.2.length≤7∧y.1<36 ^ (8-y.2.length))
  (fun y=>.obj ba (.cells (List.replicate (65-y.2.length) (Value.int .u8 0)++Lib.byteCells y.2).toArray 251 (0,0))::.row v 5 1 m cur::L0) (fun _=>Tt) (u,[]) H HA trivial Ks ⟨by simp,by simp,by simpa using hp8⟩ ?_
 intro y g c hp H HA
 obtain ⟨q,s⟩:=y
 obtain ⟨hk,hs,hq8⟩:=hp
 dsimp only at hk hs hq8 H HA ⊢
 (repeat' (first|refine Z0 ?_|refine Z2 ?_|apply w_nil|apply wc_seq|apply wc_region|apply wx_next|refine Z18 ?_|refine Z19 ?_|apply wc_exit|apply wc_skip|apply wc_block|apply wx_exit_then|apply wx_exit_same|refine Z49 ?_|refine Z97 (fun hq=>?_) fun hq=>?_))
 ·have hqb : q<2821109907456:=Nat.lt_of_lt_of_le hq8 (Nat.le_trans (Nat.pow_le_pow_right (by omega) (show 8-s.length≤8 by omega)) (by decide))
  have hl6 : s.length≤6:=by
   rcases Nat.lt_or_ge s.length 7 with h|h
   ·omega
   ·have e : 8-s.length=1:=by omega
    rw [e] at hq8
    omega
  refine s_quo rfl rfl rfl (by omega) (by omega) (r:=((q / 36:Nat):Int)) (by rw [show ((q:Int) / 36)=((q / 36:Nat):Int) by omega];exact wrapU (by omega)) ?_
  (refine Z2 ?_;apply Y2;refine Z0 ?_;refine Z0 ?_;refine Z0 ?_;refine Z0 ?_)
  refine s_mul rfl rfl rfl (r:=((q / 36*36:Nat):Int)) (by rw [show (((q / 36:Nat):Int)*36)=((q / 36*36:Nat):Int) by omega];exact wrapU (by omega)) ?_
  refine s_sub rfl rfl rfl (r:=((q % 36:Nat):Int)) (by rw [show ((q:Int)-((q / 36*36:Nat):Int))=((q % 36:Nat):Int) by omega];exact wrapU (by omega)) ?_
  refine s_indexSk rfl rfl rfl rfl (dg36_get (i:=q % 36) (by omega)) ?_
  refine s_ixArr (kk:=1) (i:=65-s.length-1) (o':=65-s.length-1) rfl Prim.sz rfl rfl rfl (by omega) (by omega) ?_
  (refine s_storeP (T':=5) (v:=.int .u8 (dg36 (q % 36)).toNat) rfl rfl rfl H HA rfl (LPut.set1 (by simp;omega)) ?_;intro c H HA)
  rw [set_rep (by omega)] at H
  (apply Y0;apply wc_region;refine Z0 ?_;refine Z2 ?_;apply w_nil;apply wx_norm_block)
  exact wx_loopG ((q / 36,dg36 (q % 36)::s)) H Cu trivial Ks (by dsimp only;omega) ⟨by
   dsimp only
   rw [hk,k36,if_neg (by omega),List.append_assoc]
   rfl,by
   dsimp only
   simp only [List.length_cons]
   omega,by
   dsimp only
   rw [show 8-s.length=(8-(s.length+1))+1 by omega,Nat.pow_succ] at hq8
   rw [List.length_cons]
   exact Nat.div_lt_of_lt_mul (by omega)⟩
 ·have hq36 : q<36:=by omega
  refine s_indexSk rfl rfl rfl rfl (dg36_get (i:=q) (by omega)) ?_
  refine s_ixArr (kk:=1) (i:=65-s.length-1) (o':=65-s.length-1) rfl Prim.sz rfl rfl rfl (by omega) (by omega) ?_
  (refine s_storeP (T':=5) (v:=.int .u8 (dg36 q).toNat) rfl rfl rfl H HA rfl (LPut.set1 (by simp;omega)) ?_;intro c H HA)
  rw [set_rep (by omega)] at H
  (repeat' (first|refine Z0 ?_|apply w_nil|apply wc_seq|apply wc_region|apply wx_next|refine Z18 ?_|refine Z19 ?_|apply wc_skip))
  refine s_slArr (i:=65-s.length-1) rfl Prim.sz rfl rfl rfl (by omega) ?_
  have hkk : k36 u=dg36 q::s:=by rw [hk,k36,if_pos hq36];rfl
  have e65 : 65-(65-s.length-1)=(k36 u).length:=by rw [hkk,List.length_cons];omega
  rw [e65]
  refine s_appObj (kk:=1) (news:=Lib.byteCells (k36 u)) rfl rfl rfl rfl rfl rfl H.swap HA (by simp [Lib.byteCells]) (by intro x hx;simp only [Lib.byteCells,List.mem_map] at hx;obtain ⟨b,_,rfl⟩:=hx;rfl) ?_ (by rw [hkk,List.length_cons];simp only [LIM];omega) ?_
  ·intro j x hj
   rw [List.getElem?_append_right (by simp)]
   simp only [List.length_replicate,Nat.add_sub_cancel_left]
   rw [hkk] at hj
   exact hj
  intro v' c H HA
  (refine Z2 ?_;apply Y0;apply wc_ret;apply wx_ret_then)
  exact ret_fnX (R:=[.row v' 5 1 (m+(k36 u).length) (cur++Lib.byteCells (k36 u))]) (L:=L0) H.swap.drop Ca (outs2 Tryz.results130 Wh Wh) ⟨v',_,rfl,rfl⟩
set_option maxRecDepth 10000 in
theorem strconv_uint36 (u:Nat) (v:Value) (m:Nat) (cur:List Value) (c:Cx) (hu:u<2821109907456) (hm:m+65<1099511627776) :
  CnTX Tryz.prog 155 [v,.int .u64 u,.int .i64 36] [.row v 5 1 m cur] c (fun r R _=>R=[.row r 5 1 (m+(k36 u).length) (cur++Lib.byteCells (k36 u))]):=by
 refine CnTX.of Tryz.func155 Tryz.ntmps155 rfl rfl fun c0 L0 A0 _ H HA=>?_
 have h36 : ¬(36:Int)=10:=by decide
 (apply Y1;refine Z2 ?_;apply Y0;apply wc_seq;apply Y1;refine Z0 ?_;refine Z80 ?_;apply Y0;refine Z19 ?_;apply wc_skip;apply wx_next;apply Y1;refine Z0 ?_;refine Z0 ?_;refine Z0 ?_)
 refine s_callX (pre:=[.row v 5 1 m cur]) rfl rfl H HA (strconv_bits36 u v m cur _ hu hm) ?_
 intro vx R c H HA
 obtain ⟨v',sx,rfl,rfl⟩:=HA.h.1
 have HA:=HA.cut
 (refine Z0 ?_;refine Z32 ?_;refine Z32 ?_;refine Z2 ?_;apply Y2;refine Z0 ?_;refine Z2 ?_;apply Y0;apply wc_ret)
 exact ret_fnX H Ca (outs1 Tryz.results155 Wh) rfl
theorem strconv_int36i (u:Nat) (v:Value) (m:Nat) (cur:List Value) (c:Cx) (hu:u<2821109907456) (hm:m+65<1099511627776) :
  CnTX Tryz.prog 131 [v,.int .i64 u,.int .i64 36] [.row v 5 1 m cur] c (fun r R _=>R=[.row r 5 1 (m+(k36 u).length) (cur++Lib.byteCells (k36 u))]):=by
 refine CnTX.of Tryz.func131 Tryz.ntmps131 rfl rfl fun c0 L0 A0 _ H HA=>?_
 (apply Y1;refine Z2 ?_;apply Y2;refine Z0 ?_)
 refine s_conv rfl rfl (r:=(u:Int)) (wrapU (by omega)) ?_
 (repeat' (first|refine Z0 ?_|refine Z2 ?_|apply w_nil|apply wc_seq|apply wc_region|apply wx_next|refine Z18 ?_|refine Z19 ?_|apply wc_skip|refine Z57 fun bx c H HA=>?_|refine Z93 (fun hq=>?_) fun hq=>?_))
 ·exfalso;omega
 refine s_callX (pre:=[.row v 5 1 m cur]) rfl rfl H HA (strconv_uint36 u v m cur _ hu hm) ?_
 intro vx R c H HA
 have hR:=HA.h.1
 subst hR
 have HA:=HA.cut
 (refine Z2 ?_;apply Y0;apply wc_ret)
 exact ret_fnX H Ca (outs1 Tryz.results131 Wh) rfl
theorem strconv_int36 (u:Nat) (v:Value) (m:Nat) (cur:List Value) (c:Cx) (hu:u<2821109907456) (hm:m+65<1099511627776) :
  CnTX Tryz.prog 108 [v,.int .i64 u,.int .i64 36] [.row v 5 1 m cur] c (fun r R _=>R=[.row r 5 1 (m+(k36 u).length) (cur++Lib.byteCells (k36 u))]):=by
 refine CnTX.of Tryz.func108 Tryz.ntmps108 rfl rfl fun c0 L0 A0 _ H HA=>?_
 (apply Y1;refine Z2 ?_;apply Y2;refine Z0 ?_;refine Z0 ?_;refine Z0 ?_)
 refine s_callX (pre:=[.row v 5 1 m cur]) rfl rfl H HA (strconv_int36i u v m cur _ hu hm) ?_
 intro vx R c H HA
 have hR:=HA.h.1
 subst hR
 have HA:=HA.cut
 (refine Z2 ?_;apply Y0;apply wc_ret)
 exact ret_fnX H Ca (outs1 Tryz.results108 Wh) rfl
end Go.Proofs.YtnppmeeibbefbaaGreatDoor
namespace Go.Wk
open Go Go.RowKit
section
variable {P : Program} {ops : Array Oper} {Q : Exit → Act → World → Prop} {n : Nat} {f : Nat → Value} {rest : List Oper} {ty : TypeId} {ps : String} {af : Array Edge} {d : Tmp}
variable {c0 c : Cx} {L : List Res} {A : Cx → Prop}
theorem s_eqNilS {T T' e:TypeId} {x:Operand} {a:Option Addr} {l cp:Nat} {w:World} (hn:Nat.blt d n=true) [SlT P T e] (hx:opd f x=.slice a l cp) (k:W P ops Q rest n (upd f d (.bool a.isNone)) w) : W P ops Q (⟨some d,.binOp .eql T x (.const (.slice none 0 0)) T',ty,ps,af,none⟩::rest) n f w:=by
 have h1 : (Op.equal T (.slice a l cp) (.slice none 0 0)).run P w=.ok a.isNone w:=by
  exact run_equal_slice_nil w T e a l cp (SlT.h (P:=P) (T:=T))
 have h2 : opd f (.const (.slice none 0 0))=.slice none 0 0:=rfl
 exact st_val hn (by simp [execOp,hx,h2,eqGuard_at_slice,binOp,h1]) k
theorem s_bs0 {T e:TypeId} {kk:Nat} (hn:Nat.blt d n=true) [SlT P T e] (hs:∀w,(sizeOf e).run P w=.ok kk w) (H:Owns c0 L c) (HA:Hd A c) [Mono A]
  (k:∀v c',Owns c0 (.row v e kk 0 []::L) c'→Hd A c'→W P ops Q rest n (upd f d v) c'.w) : W P ops Q (⟨some d,.buildSlice T 0 #[],ty,ps,af,none⟩::rest) n f c.w:=by
 have h:=H.new (.cells #[] e (0,0)) rfl
 have hr : (execOp (opd f) ⟨some d,.buildSlice T 0 #[],ty,ps,af,none⟩).run P c.w=.ok (.value (.slice (some ⟨c.w.heap.size,0,none⟩) 0 0)) (c.w.alloc (.cells #[] e (0,0))):=by
  simp [execOp,Instr.buildSlice,run_underlying (SlT.h (P:=P) (T:=T)),hs,Instr.fill,newRow]
  have e0 : (Array.range 0).map (fun _:Nat=>(default:Value))=#[]:=by simp [Array.range]
  rw [e0]
 refine st_val hn (w':=c.w.alloc (.cells #[] e (0,0))) hr (k _ ⟨c.w.alloc (.cells #[] e (0,0)),_⟩ ?_ (HA.to h.1))
 have hb:=h.2.res _ (List.mem_cons_self ..)
 refine ⟨h.2.ext,h.2.keep,h.2.mbd,fun r hr=>?_,?_⟩
 ·rcases List.mem_cons.1 hr with rfl|hr
  ·exact ⟨⟨by simp,.inr ⟨c.w.heap.size,0,#[],rfl,Nat.zero_le _,hb.1,Nat.le_refl _,Nat.zero_le _,by simp,by simp⟩⟩,fun b hb'=>hb.2 b (by simpa [Res.blk,Value.ownBlock] using hb')⟩
  ·exact h.2.res r (List.mem_cons_of_mem _ hr)
 ·have hd:=List.pairwise_cons.1 h.2.dis
  exact List.pairwise_cons.2 ⟨fun r hr b hb'=>hd.1 r hr b (by simpa [Res.blk,Value.ownBlock] using hb'),hd.2⟩
theorem s_bytesStr {T U e:TypeId} {x:Operand} {v:Value} {l:List UInt8} (hn:Nat.blt d n=true) [SlT P T e] (he:P.underlying e=some (.int .u8)) [StrT P U] (hx:opd f x=v) (H:Owns c0 L c) (hm:Res.row v e 1 l.length (Lib.byteCells l)∈L)
  (k:W P ops Q rest n (upd f d (.string ⟨l.toArray⟩)) c.w) : W P ops Q (⟨some d,.convert T U x,ty,ps,af,none⟩::rest) n f c.w:=by
 have hown:=(H.res _ hm).1
 rcases hown.2 with ⟨rfl,h0⟩|⟨g,cap,cur,hv,hh⟩
 ·have hl : l=[]:=List.eq_nil_of_length_eq_zero h0
  subst hl
  refine st_val hn ?_ k
  have h1 : (Conv.bytesToString (.slice none 0 0)).run P c.w=.ok (.string ⟨#[]⟩) c.w:=by
   simp [Conv.bytesToString]
   rfl
  simp [execOp,hx,run_convert_bytes_string c.w T U e none 0 0 (SlT.h (P:=P)) he (StrT.h (P:=P)),h1]
 ·subst hv
  have hc:=World.ownsRow.cells hown (g:=g) rfl
  have hr:=run_convert_bytes_back (P:=P) c.w T U e ⟨g,0,none⟩ cap l (SlT.h (P:=P)) he (StrT.h (P:=P)) (fun j hj=>hc j _ (by simp [Lib.byteCells,List.getElem?_eq_getElem hj]))
  exact st_val hn (by simp [execOp,hx,hr]) k
end
end Go.Wk
namespace Go.Proofs.YtnppmeeibbefbaaGreatDoor
open Go Go.Wk Go.RowKit
theorem Clone_Tm (xs:List Tm) (v:Value) (c:Cx) (h:Sl v xs c) : CnO Tryz.prog 158 [v] c (RowP 32 3 xs):=by
 refine CnO.of Tryz.func158 Tryz.ntmps158 rfl rfl fun hm H HA=>?_
 have HA:=HA.add h
 obtain ⟨ad,cp,rfl⟩ : ∃ad cp,v=.slice ad xs.length cp:=by obtain ⟨_,ad,cp,e,_⟩:=h;exact ⟨ad,cp,e⟩
 have hl:=h.lim
 (apply Y1;refine Z2 ?_;apply Y0;apply wc_seq;apply Y1;refine Z0 ?_)
 refine s_eqNilS rfl rfl ?_
 cases ad with
 | none =>
  have hx : xs=[]:=by
   obtain ⟨_,ad,cp',e,_,hne⟩:=h
   cases xs with
   | nil=>rfl
   | cons x xs =>
    obtain ⟨b,o,e2,_⟩:=hne (fun h=>by cases h)
    simp only [Value.slice.injEq] at e
    rw [e2] at e
    exact absurd e.1 (by intro h;cases h)
  subst hx
  (apply Y0;refine Z18 ?_;apply Y1;refine Z2 ?_;apply Y0;apply wc_ret;apply wx_ret_then)
  have H:=H.nilR Tm 32 3
  exact ret_fnO (R:=[.row (.slice none 0 0) 32 3 ([]:List Tm).length ([]:List (List Value)).flatten]) H hm (outs1 Tryz.results158 Wh) (rowP (Vals.nil _)) inferInstance
 | some a =>
  (apply Y0;refine Z19 ?_;apply wc_skip;apply wx_next;apply Y1)
  refine s_bs0 rfl Agg.sz H HA ?_
  intro v0 c H HA
  (refine Z0 ?_)
  have H : Owns _ [.row v0 32 3 ([]:List Tm).length ([]:List (List Value)).flatten] c:=H
  refine s_appL (α:=Tm) (kk:=3) (m:=0) (ys:=xs) (vals:=[]) rfl rfl rfl Lk rfl rfl rfl (by simp only [LIM];omega) H HA ?_
  intro v1 c vals hv H HA
  (refine Z2 ?_;apply Y0;apply wc_ret)
  exact ret_fnO (R:=[.row v1 32 3 xs.length vals.flatten]) (by simpa using H) hm (outs1 Tryz.results158 Wh) (rowP hv) inferInstance
theorem Clone_Int (xs:List Int) (v:Value) (c:Cx) (h:Sl v xs c) : CnO Tryz.prog 78 [v] c (RowP 3 1 xs):=by
 refine CnO.of Tryz.func78 Tryz.ntmps78 rfl rfl fun hm H HA=>?_
 have HA:=HA.add h
 obtain ⟨ad,cp,rfl⟩ : ∃ad cp,v=.slice ad xs.length cp:=by obtain ⟨_,ad,cp,e,_⟩:=h;exact ⟨ad,cp,e⟩
 have hl:=h.lim
 (apply Y1;refine Z2 ?_;apply Y0;apply wc_seq;apply Y1;refine Z0 ?_)
 refine s_eqNilS rfl rfl ?_
 cases ad with
 | none =>
  have hx : xs=[]:=by
   obtain ⟨_,ad,cp',e,_,hne⟩:=h
   cases xs with
   | nil=>rfl
   | cons x xs =>
    obtain ⟨b,o,e2,_⟩:=hne (fun h=>by cases h)
    simp only [Value.slice.injEq] at e
    rw [e2] at e
    exact absurd e.1 (by intro h;cases h)
  subst hx
  (apply Y0;refine Z18 ?_;apply Y1;refine Z2 ?_;apply Y0;apply wc_ret;apply wx_ret_then)
  have H:=H.nilR Int 3 1
  exact ret_fnO (R:=[.row (.slice none 0 0) 3 1 ([]:List Int).length ([]:List (List Value)).flatten]) H hm (outs1 Tryz.results78 Wh) (rowP (Vals.nil _)) inferInstance
 | some a =>
  (apply Y0;refine Z19 ?_;apply wc_skip;apply wx_next;apply Y1)
  refine s_bs0 rfl Prim.sz H HA ?_
  intro v0 c H HA
  (refine Z0 ?_)
  have H : Owns _ [.row v0 3 1 ([]:List Int).length ([]:List (List Value)).flatten] c:=H
  refine s_appL (α:=Int) (kk:=1) (m:=0) (ys:=xs) (vals:=[]) rfl rfl rfl Lk rfl rfl rfl (by simp only [LIM];omega) H HA ?_
  intro v1 c vals hv H HA
  (refine Z2 ?_;apply Y0;apply wc_ret)
  exact ret_fnO (R:=[.row v1 3 1 xs.length vals.flatten]) (by simpa using H) hm (outs1 Tryz.results78 Wh) (rowP hv) inferInstance
theorem Clone_Cl (xs:List Cl) (v:Value) (c:Cx) (h:Sl v xs c) : CnO Tryz.prog 20 [v] c (RowP 39 7 xs):=by
 refine CnO.of Tryz.func20 Tryz.ntmps20 rfl rfl fun hm H HA=>?_
 have HA:=HA.add h
 obtain ⟨ad,cp,rfl⟩ : ∃ad cp,v=.slice ad xs.length cp:=by obtain ⟨_,ad,cp,e,_⟩:=h;exact ⟨ad,cp,e⟩
 have hl:=h.lim
 (apply Y1;refine Z2 ?_;apply Y0;apply wc_seq;apply Y1;refine Z0 ?_)
 refine s_eqNilS rfl rfl ?_
 cases ad with
 | none =>
  have hx : xs=[]:=by
   obtain ⟨_,ad,cp',e,_,hne⟩:=h
   cases xs with
   | nil=>rfl
   | cons x xs =>
    obtain ⟨b,o,e2,_⟩:=hne (fun h=>by cases h)
    simp only [Value.slice.injEq] at e
    rw [e2] at e
    exact absurd e.1 (by intro h;cases h)
  subst hx
  (apply Y0;refine Z18 ?_;apply Y1;refine Z2 ?_;apply Y0;apply wc_ret;apply wx_ret_then)
  have H:=H.nilR Cl 39 7
  exact ret_fnO (R:=[.row (.slice none 0 0) 39 7 ([]:List Cl).length ([]:List (List Value)).flatten]) H hm (outs1 Tryz.results20 Wh) (rowP (Vals.nil _)) inferInstance
 | some a =>
  (apply Y0;refine Z19 ?_;apply wc_skip;apply wx_next;apply Y1)
  refine s_bs0 rfl Agg.sz H HA ?_
  intro v0 c H HA
  (refine Z0 ?_)
  have H : Owns _ [.row v0 39 7 ([]:List Cl).length ([]:List (List Value)).flatten] c:=H
  refine s_appL (α:=Cl) (kk:=7) (m:=0) (ys:=xs) (vals:=[]) rfl rfl rfl Lk rfl rfl rfl (by simp only [LIM];omega) H HA ?_
  intro v1 c vals hv H HA
  (refine Z2 ?_;apply Y0;apply wc_ret)
  exact ret_fnO (R:=[.row v1 39 7 xs.length vals.flatten]) (by simpa using H) hm (outs1 Tryz.results20 Wh) (rowP hv) inferInstance

end Go.Proofs.YtnppmeeibbefbaaGreatDoor
namespace Go.Wk
open Go Go.RowKit
section
variable {P : Program} {ops : Array Oper} {Q : Exit → Act → World → Prop} {n : Nat} {f : Nat → Value} {rest : List Oper} {ty : TypeId} {ps : String} {af : Array Edge} {d : Tmp}
variable {c0 c : Cx} {L : List Res} {A : Cx → Prop}
theorem s_appB {T e:TypeId} {z:Value} {kk bb b m:Nat} {x y:Operand} {v:Value} {cs cur:List Value} (hn:Nat.blt d n=true) [SlT P T e] [TyI P e z kk bb] (hx:opd f x=v) (hy:opd f y=.slice (some ⟨b,0,none⟩) 1 1)
  (HB:Box b cs c) (hk:cs.length=kk) (hz:z.cells.size=kk) (hk0:Nat.blt 0 kk=true) (hbb:Nat.ble bb 128=true) (h1:∀u∈cs,u.oneCell'=true) (hlim:m+1<LIM)
  (H:Owns c0 (.row v e kk m cur::L) c) (HA:Hd A c) [Mono A] (k:∀v' c',Owns c0 (.row v' e kk (m+1) (cur++cs)::L) c'→Hd A c'→W P ops Q rest n (upd f d v') c'.w) :
  W P ops Q (⟨some d,.call ⟨.builtin .append,#[x,y],#[T,T]⟩,ty,ps,af,none⟩::rest) n f c.w:=by
 have hown:=(H.res _ (List.mem_cons_self ..)).1
 obtain ⟨v',w',hr,ho,hg,hb⟩:=run_append_own2 (P:=P) (T:=T) (x:=.slice (some ⟨b,0,none⟩) 1 1) (m2:=1) (news:=cs) hz (Nat.blt_eq▸hk0) (Nat.le_of_ble_eq_true hbb) hown (.inl ⟨⟨b,0,none⟩,1,rfl,fun j u hu=>by rw [Addr.add_lit,Nat.zero_add];exact (HB.at_ hu).1⟩) (by omega) h1 hlim ty
 obtain ⟨M',hle,hO⟩:=H.appended (run_ok_drawn hr) ho hg hb
 refine st_val hn (w':=w') ?_ (k v' ⟨w',M'⟩ hO (HA.to hle))
 simp [execOp,resolve,invoke,builtin,hx,hy,hr]
end
def smN (l:List Nat) : Prop:=∀n∈l,n<1099511627776
def ints (l:List Nat) : List Int:=l.map fun (n:Nat)=>(n:Int)
theorem ints_get {l:List Nat} {i n:Nat} (h:l[i]?=some n) : (ints l)[i]?=some (n:Int):=by simp [ints,h]
theorem ints_len (l:List Nat) : (ints l).length=l.length:=by simp [ints]
theorem rk_len : ∀{l:List Nat},smN l→(rkL l).length≤9*l.length
 | [],_=>by simp [rkL]
 | n::l,h=>by
  have h1:=rk_len (l:=l) fun x hx=>h x (.tail _ hx)
  have h2:=k36_len 7 n (Nat.lt_trans (h n (.head _)) (by decide))
  simp only [rkL,List.map_cons,List.flatten_cons,List.length_append,List.length_cons,List.length_nil] at h1 ⊢
  omega
theorem rk_take {l:List Nat} {k n:Nat} (h:l[k]?=some n) : rkL (l.take (k+1))=rkL (l.take k)++k36 n++[32]:=by
 rw [List.take_add_one,h]
 exact rkL_snoc _ _
end Go.Wk
namespace Go.Proofs.YtnppmeeibbefbaaGreatDoor
open Go Go.Wk Go.RowKit
instance : StrT Tryz.prog 9:=⟨by kernel_rfl⟩
theorem rel_key (l:List Nat) (v:Value) (c:Cx) (h:Sl v (ints l) c) (hs:smN l) (hl:l.length<1073741824) : Cn Tryz.prog 77 [v] c (fun r _=>r=.string (rkS l)):=by
 refine Cn.of Tryz.func77 Tryz.ntmps77 rfl rfl fun hm H HA=>?_
 have HA:=HA.add h
 have hlen:=ints_len l
 (apply Y1;refine Z2 ?_;apply Y2;refine Z2 ?_;apply Y0;apply wc_seq;apply Y1;refine Z0 ?_;refine Z45 ?_;refine Z0 ?_;apply Y0;apply wc_block)
 have H:=H.nilRow 5 1
 refine wc_loopG (σ:=Nat×Value) (fun y=>l.length-y.1) (fun y=>[(3,y.2),(6,v),(7,.int .i64 (ints l).length),(8,.int .i64 y.1)]) (fun y=>y.1≤l.length)
  (fun y=>[.row y.2 5 1 (rkL (l.take y.1)).length (Lib.byteCells (rkL (l.take y.1)))]) (fun _=>Tt) (0,.slice none 0 0) H HA trivial Ks (Nat.zero_le _) ?_
 intro y g c hp H HA
 obtain ⟨k,vb⟩:=y
 dsimp only at hp H HA ⊢
 have htl : (rkL (l.take k)).length≤9*l.length:=by
  have:=rk_len (l:=l.take k) fun x hx=>hs x (List.mem_of_mem_take hx)
  rw [List.length_take] at this
  omega
 (repeat' (first|refine Z0 ?_|apply w_nil|apply wc_seq|apply wc_region|apply wx_next|refine Z18 ?_|refine Z19 ?_|apply wc_exit|apply wc_skip|apply wc_block|apply wx_exit_then|apply wx_exit_same|refine Z93 (fun hq=>?_) fun hq=>?_))
 ·obtain ⟨n,hn⟩:=getq (xs:=l) (k:=k) (by omega)
  have hni:=ints_get hn
  have hn2:=hs n (List.mem_of_getElem? hn)
  (refine Z34 HA fun vx HA=>?_;refine Z36 ?_;refine Z2 ?_;apply Y2;refine Z0 ?_;refine Z0 ?_)
  refine s_callX (pre:=[.row vb 5 1 (rkL (l.take k)).length (Lib.byteCells (rkL (l.take k)))]) rfl rfl H HA (strconv_int36 n vb _ _ _ (by omega) (by omega)) ?_
  intro v2 R c H HA
  have hR:=HA.h.1
  subst hR
  have HA:=HA.cut
  (refine Z2 ?_;apply Y0;apply wc_region;refine Z0 ?_)
  (refine s_bs1 (cs:=[.int .u8 32]) rfl rfl rfl rfl rfl rfl H HA ?_;intro b1 c H HA)
  refine s_appB (cs:=[.int .u8 32]) rfl rfl rfl Lk rfl rfl rfl rfl (by intro u hu;rw [List.mem_singleton.1 hu];rfl) (by have:=k36_len 7 n (Nat.lt_trans hn2 (by decide));simp only [LIM];omega) H HA ?_
  intro v3 c H HA
  (refine Z2 ?_;apply w_nil;apply wx_norm_block;apply wx_next;apply wc_region;refine Z46 ?_;refine Z0 ?_;apply w_nil)
  have e : rkL (l.take (k+1))=rkL (l.take k)++k36 n++[32]:=rk_take hn
  have e2 : Lib.byteCells (rkL (l.take k))++Lib.byteCells (k36 n)++[Value.int .u8 32]=Lib.byteCells (rkL (l.take (k+1))):=by rw [e];simp [Lib.byteCells]
  have e3 : (rkL (l.take k)).length+(k36 n).length+1=(rkL (l.take (k+1))).length:=by rw [e];simp;omega
  rw [e2,e3] at H
  exact wx_loopG ((k+1,v3)) H Cu trivial Ks (by dsimp only;omega) (by dsimp only;omega)
 ·have e : l.take k=l:=List.take_of_length_le (by omega)
  rw [e] at H
  refine s_bytesStr (l:=rkL l) rfl (by kernel_rfl) rfl H (.head _) ?_
  (refine Z2 ?_;apply Y0;apply wc_ret)
  exact ret_fn H hm (outs1 (v:=.string ⟨(rkL l).toArray⟩) Tryz.results77 Wh) rfl
theorem rel_keyOf (l:List Nat) (v:Value) (c:Cx) (h:Sl v (ints l) c) (hs:smN l) (hl:l.length<1073741824) : Cn Tryz.prog 176 [v] c (fun r _=>r=.string (rkS l)):=by
 refine Cn.of Tryz.func176 Tryz.ntmps176 rfl rfl fun hm H HA=>?_
 have HA:=HA.add h
 (apply Y1;refine Z2 ?_;apply Y2;refine Z0 ?_)
 (refine s_call rfl rfl H HA (rel_key l v _ Lk hs hl) ?_;intro vx c H HP;have hvx:=HP.h.1;have HA:=HP.cut;subst hvx)
 (refine Z2 ?_;apply Y0;apply wc_ret)
 exact ret_fn H hm (outs1 Tryz.results176 Wh) rfl
theorem rel_picked (row cols:List Nat) (v1 v2:Value) (c:Cx) (h1:Sl v1 (ints row) c) (h2:Sl v2 (ints cols) c) (hc:∀i∈cols,i<row.length) : Cn Tryz.prog 109 [v1,v2] c (fun r c=>Sl r (ints (cols.map fun i=>row.getD i 0)) c):=by
 refine Cn.of Tryz.func109 Tryz.ntmps109 rfl rfl fun hm H HA=>?_
 have HA:=(HA.add h1).add h2
 have hlen:=ints_len cols
 have hlr:=ints_len row
 have hlim:=h2.lim
 (apply Y1;refine Z2 ?_;apply Y2;refine Z2 ?_;apply Y0;apply wc_seq;apply Y1;refine Z0 ?_;refine Z45 ?_;refine Z0 ?_;apply Y0;apply wc_block)
 have H:=H.nilR Int 3 1
 refine wc_loopG (σ:=Nat×Value×List (List Value)) (fun y=>cols.length-y.1) (fun y=>[(0,v1),(5,y.2.1),(8,v2),(9,.int .i64 (ints cols).length),(10,.int .i64 y.1)]) (fun y=>y.1≤cols.length)
  (fun y=>[.row y.2.1 3 1 (ints ((cols.take y.1).map fun i=>row.getD i 0)).length y.2.2.flatten]) (fun y c=>Vals y.2.2 (ints ((cols.take y.1).map fun i=>row.getD i 0)) c) (0,.slice none 0 0,[]) H HA (Vals.nil _) Ks (Nat.zero_le _) ?_
 intro y g c hp H HA
 obtain ⟨k,vb,vals⟩:=y
 dsimp only at hp H HA ⊢
 (repeat' (first|refine Z0 ?_|refine Z2 ?_|apply w_nil|apply wc_seq|apply wc_region|apply wx_next|refine Z18 ?_|refine Z19 ?_|apply wc_ret|apply wc_exit|apply wc_skip|apply wc_block|apply wx_exit_then|apply wx_exit_same|refine Z93 (fun hq=>?_) fun hq=>?_))
 ·obtain ⟨i,hi⟩:=getq (xs:=cols) (k:=k) (by omega)
  have hii:=ints_get hi
  have hir:=hc i (List.mem_of_getElem? hi)
  obtain ⟨u,hu⟩:=getq (xs:=row) (k:=i) (by omega)
  have hui:=ints_get hu
  have hal : (ints ((cols.take k).map fun i=>row.getD i 0)).length=k:=by rw [ints_len,List.length_map,List.length_take];omega
  (repeat' (first|refine Z0 ?_|refine Z2 ?_|apply w_nil|apply wc_region|apply wx_next|apply wx_norm_block|refine Z34 HA fun vx HA=>?_|refine Z36 ?_|refine Z46 ?_|refine Z56 fun vx c H HA=>?_|refine Z59 fun vx c valsx H HA=>?_))
  have e : ints ((cols.take k).map fun i=>row.getD i 0)++[(u:Int)]=ints ((cols.take (k+1)).map fun i=>row.getD i 0):=by
   rw [List.take_add_one,hi]
   simp [ints,List.getD_eq_getElem?_getD,hu]
  rw [e] at H HA
  exact wx_loopG ((k+1,vx,valsx)) H Cu Lk Ks (by dsimp only;omega) (by dsimp only;omega)
 ·have e : cols.take k=cols:=List.take_of_length_le (by omega)
  rw [e] at H HA
  have hal : (ints (cols.map fun i=>row.getD i 0)).length<1099511627776:=by rw [ints_len,List.length_map];omega
  (refine wx_freezeRow H HA Lk rfl rfl Lt ?_;intro c H HA)
  exact ret_fn H hm (outs1 Tryz.results109 Wh) Lk
end Go.Proofs.YtnppmeeibbefbaaGreatDoor
namespace Go.Wk
open Go Go.RowKit
def ptr (b:Nat) : Value:=.pointer (some ⟨b,0,none⟩)
structure EnS where
 b : Nat
 v : Value
 row : List Nat
 part : Int
structure BPt where
 b : Nat
instance : Enc BPt where
 k:=1
 Ok cs x _:=cs=[ptr x.b]
 mono cs x:=⟨fun _ h=>h⟩
 len cs x c h:=by subst h;rfl
 one cs x c h u hu:=by subst h;rw [List.mem_singleton.1 hu];rfl
 pos:=by omega
def EnS.res (T:TypeId) (x:EnS) : Res:=.obj x.b (.cells [x.v,.int .i64 x.part].toArray T (0,0))
structure BkS where
 key : List Nat
 v : Value
 es : List Nat
def BkS.res (e:TypeId) (x:BkS) : Res:=.row x.v e 1 x.es.length (x.es.map ptr)
structure IxS where
 b : Nat
 m : Nat
 vc : Value
 cols : List Nat
 bk : List BkS
def bkM (bk:List BkS) : List (ByteArray×Value):=bk.map fun p=>(rkS p.key,p.v)
def IxS.res (T e:TypeId) (x:IxS) : List Res:=.obj x.b (.cells [x.vc,.map (some x.m)].toArray T (0,0))::.obj x.m (kObj Value.string (bkM x.bk))::x.bk.map (BkS.res e)
def bkI (bk:List BkS) (k:List Nat) : Option Nat:=bk.findIdx? fun p=>decide (p.key=k)
def bkPut (bk:List BkS) (k:List Nat) (v:Value) (b:Nat) : List BkS:=match bkI bk k with
 | some j=>match bk[j]? with
  | some p=>bk.set j ⟨k,v,p.es++[b]⟩
  | none=>bk
 | none=>bk++[⟨k,v,[b]⟩]
theorem bkI_some {bk:List BkS} {k:List Nat} {j:Nat} (h:bkI bk k=some j) : ∃p,bk[j]?=some p∧p.key=k:=by
 unfold bkI at h
 obtain ⟨hk,h1,_⟩:=List.findIdx?_eq_some_iff_getElem.1 h
 exact ⟨bk[j],List.getElem?_eq_getElem hk,by simpa using h1⟩
theorem bkM_look (bk:List BkS) (k:List Nat) : kLook (bkM bk) (rkS k)=(bkI bk k).bind fun j=>(bk[j]?).map BkS.v:=by
 unfold kLook bkM bkI
 induction bk with
 | nil=>rfl
 | cons p bk ih =>
  rw [List.map_cons,List.find?_cons,List.findIdx?_cons]
  by_cases e : p.key=k
  ·simp [e]
  ·have e2 : ¬rkS p.key=rkS k:=fun h=>e (rkS_inj h)
   simp only [e2,decide_false,e,ih]
   cases bk.findIdx? fun p=>decide (p.key=k)<;>rfl
theorem bkM_set {bk:List BkS} {k:List Nat} {v:Value} {b:Nat} : kSet (bkM bk) (rkS k) v=bkM (bkPut bk k v b):=by
 have hi : (bkM bk).findIdx? (fun p=>decide (p.1=rkS k))=bkI bk k:=by
  unfold bkM bkI
  rw [List.findIdx?_map]
  congr 1
  funext p
  simp only [Function.comp]
  by_cases e : p.key=k
  ·simp [e]
  ·have e2 : ¬rkS p.key=rkS k:=fun h=>e (rkS_inj h)
   simp [e,e2]
 unfold kSet bkPut
 rw [hi]
 cases h : bkI bk k with
 | none=>simp [bkM]
 | some j =>
  obtain ⟨p,hp,_⟩:=bkI_some h
  simp only [hp]
  simp [bkM,List.map_set]
theorem perm_set {α β:Type} {l:List α} {j:Nat} {a b:α} (f:α→β) (h:l[j]?=some a) : ((l.set j b).map f).Perm (f b::(l.eraseIdx j).map f):=by
 have hj:=(List.getElem?_eq_some_iff.1 h).1
 have h2 : (l.set j b)[j]?=some b:=by simp [hj]
 have h3:=(perm_pull h2).map f
 rwa [List.map_cons,List.eraseIdx_set_eq] at h3
end Go.Wk
namespace Go.Proofs.YtnppmeeibbefbaaGreatDoor
open Go Go.Wk Go.RowKit
instance : MapK Tryz.prog 195 145 ByteArray Value.string:=map_str (kt:=9) (by kernel_rfl) (by kernel_rfl)
instance : MapK Tryz.prog 143 158 ByteArray Value.string:=map_str (kt:=9) (by kernel_rfl) (by kernel_rfl)
instance : MapK Tryz.prog 144 162 ByteArray Value.string:=map_str (kt:=9) (by kernel_rfl) (by kernel_rfl)
instance : Zer Tryz.prog 145 (.slice none 0 0):=.of (by kernel_rfl)
instance : Zer Tryz.prog 158 (.pointer none):=.of (by kernel_rfl)
instance : Zer Tryz.prog 162 (.pointer none):=.of (by kernel_rfl)
instance : SlT Tryz.prog 145 158:=⟨by kernel_rfl⟩
instance : TyI Tryz.prog 158 (.pointer none) 1 8:=.of (by kernel_rfl)
instance : Prim Tryz.prog 158:=.of (by kernel_rfl) (by kernel_rfl)
instance : Prim Tryz.prog 145:=.of (by kernel_rfl) (by kernel_rfl)
instance : Prim Tryz.prog 195:=.of (by kernel_rfl) (by kernel_rfl)
instance : Prim Tryz.prog 143:=.of (by kernel_rfl) (by kernel_rfl)
instance : Prim Tryz.prog 144:=.of (by kernel_rfl) (by kernel_rfl)
instance : Fld Tryz.prog 161 0 0:=.of (k:=0) (by kernel_rfl)
instance : Fld Tryz.prog 161 1 1:=.of (k:=0) (by kernel_rfl)
instance : Fld Tryz.prog 197 0 0:=.of (k:=0) (by kernel_rfl)
instance : Fld Tryz.prog 197 1 1:=.of (k:=0) (by kernel_rfl)
theorem rel_indexAdd (x:IxS) (y:EnS) (c:Cx) (hc:Sl x.vc (ints x.cols) c) (hy:Sl y.v (ints y.row) c) (hcol:∀i∈x.cols,i<y.row.length) (hs:smN y.row) (hl:x.cols.length<1073741824) (hb:∀p∈x.bk,p.es.length<1099511627775) :
  CnTX Tryz.prog 79 [ptr x.b,ptr y.b] (x.res 197 158++[y.res 161]) c (fun _ R _=>∃v',R=IxS.res 197 158 { x with bk:=bkPut x.bk (x.cols.map fun i=>y.row.getD i 0) v' y.b }++[y.res 161]):=by
 refine CnTX.of Tryz.func79 Tryz.ntmps79 rfl rfl fun c0 L0 A0 _ H HA=>?_
 have HA:=(HA.add hc).add hy
 have hks : smN (x.cols.map fun i=>y.row.getD i 0):=by
  intro n hn
  obtain ⟨i,hi,rfl⟩:=List.mem_map.1 hn
  obtain ⟨u,hu⟩:=getq (xs:=y.row) (k:=i) (hcol i hi)
  rw [List.getD_eq_getElem?_getD,hu]
  exact hs u (List.mem_of_getElem? hu)
 have hkl : (x.cols.map fun i=>y.row.getD i 0).length<1073741824:=by rw [List.length_map];exact hl
 have H : Owns c0 (.obj x.b (.cells [x.vc,.map (some x.m)].toArray 197 (0,0))::.obj x.m (kObj Value.string (bkM x.bk))::.obj y.b (.cells [y.v,.int .i64 y.part].toArray 161 (0,0))::(x.bk.map (BkS.res 158)++L0)) c:=by
  refine H.perm ?_
  simp only [IxS.res,List.cons_append,List.append_assoc]
  exact List.Perm.cons _ (List.Perm.cons _ List.perm_middle)
 apply wc_seq
 (refine dw_start H HA ?_)
 (repeat (refine Dc ?_))
 (refine Dm ?_)
 (repeat (refine Dc ?_))
 (refine Dm ?_)
 (repeat (refine Dc ?_))
 (apply dw_cons;(focus ((intro B _ Lx c H HA;(repeat (first|rintro vx rfl|(intro vx hx;have HA:=HA.addSF hx;clear hx)|(intro vx hx;have HA:=HA.add hx;clear hx)|intro vx));change W _ _ _ _ _ _ _);refine s_call rfl rfl H HA (rel_picked y.row x.cols y.v x.vc _ Lk Lk hcol) ?_;intro vx c H HP;exact w_nil (pq_rel H (Cp) HP.h.1)));exact inferInstance)
 (apply dw_cons;(focus ((intro B _ Lx c H HA;(repeat (first|rintro vx rfl|(intro vx hx;have HA:=HA.addSF hx;clear hx)|(intro vx hx;have HA:=HA.add hx;clear hx)|intro vx));change W _ _ _ _ _ _ _);(refine s_call rfl rfl H HA (rel_key (x.cols.map fun i=>y.row.getD i 0) _ _ Lk hks hkl) ?_;intro vx c H HP;have hvx:=HP.h.1;have HA:=HP.cut;subst hvx);exact Dx));exact inferInstance)
 (refine dw_done mixed H HA rfl (by kernel_rfl) ?_;clear H HA;intro c H HA;(repeat (first|rintro vx rfl|(intro vx hx;have HA:=HA.addSF hx;clear hx)|(intro vx hx;have HA:=HA.add hx;clear hx)|intro vx));change W _ _ _ _ _ _ _)
 (refine Z2 ?_;apply Y0)
 generalize (x.cols.map fun i=>y.row.getD i 0)=k at hks hkl HA ⊢
 cases hbi : bkI x.bk k with
 | none =>
  have H:=H.nilRow 158 1
  have H : Owns c0 ([.row (.slice none 0 0) 158 1 0 []]++_) c:=H
  refine dw_startE (I:=[.row (.slice none 0 0) 158 1 0 []]) H HA ?_
  (repeat (refine Dc ?_))
  (refine Dm ?_)
  (repeat (refine Dc ?_))
  (refine Dm ?_)
  (repeat (refine Dc ?_))
  (apply dw_cons;(focus ((intro B _ Lx c H HA;(repeat (first|rintro vx rfl|(intro vx hx;have HA:=HA.addSF hx;clear hx)|(intro vx hx;have HA:=HA.add hx;clear hx)|intro vx));change W _ _ _ _ _ _ _);(refine s_lookKFn (q:=rkS k) rfl rfl rfl H Ow (by rw [bkM_look,hbi];rfl) ?_);exact Dx));exact inferInstance)
  (refine Dc ?_)
  refine dw_cons (s:=.rel fun u c=>SlV [(⟨y.b⟩:BPt)] [[ptr y.b]] u c) ?_ inferInstance ?_
  ·(intro B _ Lx c H HA;(repeat (first|rintro vx rfl|(intro vx hx;have HA:=HA.addSF hx;clear hx)|(intro vx hx;have HA:=HA.add hx;clear hx)|intro vx));change W _ _ _ _ _ _ _)
   refine s_bs1V (α:=BPt) (cs:=[ptr y.b]) (u:=⟨y.b⟩) rfl rfl rfl rfl rfl rfl H HA inferInstance ?_
   intro vx c H HA
   exact w_nil (pq_rel H Cu HA.h.1)
  refine dw_consE (pv:=none) (r:=.row (.slice none 0 0) 158 1 0 []) (sel:=id) (S:=fun _=>Tt) (e:=158) (kk:=1) (m:=0+1) (xs:=[]++[ptr y.b]) ?_ (fun _=>inferInstance) ?_
  ·(intro B _ Lx c HA;(repeat (first|rintro vx rfl|(intro vx hx;have HA:=HA.addSF hx;clear hx)|(intro vx hx;skip;have HA:=HA.add hx;clear hx)|(intro vx;have hvx2:Go.Value:=vx;clear hvx2)));(first|intro H|(have H:=HA.h.1;have HA:=HA.cut));change W _ _ _ _ _ _ _)
   have H : Owns c0 (.row (.slice none 0 0) 158 1 0 []::(Lx++_)) c:=H
   refine s_appV rfl rfl rfl (Lk:SlV [(⟨y.b⟩:BPt)] [[ptr y.b]] _ _) rfl rfl rfl (by simp only [List.length_cons,List.length_nil,LIM];omega) H HA inferInstance ?_
   intro n0 c H HA
   exact w_nil (pq_eff H Cu trivial)
  refine dw_doneT mixed (I:=[.row (.slice none 0 0) 158 1 0 []]) (by kernel_rfl) H HA (by kernel_rfl) ?_
  clear H HA
  intro c HA u27 h27 u28 h28 H
  change W _ _ _ _ _ _ _
  have H : Owns c0 (.row u28 158 1 1 [ptr y.b]::.obj x.b (.cells [x.vc,.map (some x.m)].toArray 197 (0,0))::.obj x.m (kObj Value.string (bkM x.bk))::.obj y.b (.cells [y.v,.int .i64 y.part].toArray 161 (0,0))::(x.bk.map (BkS.res 158)++L0)) c:=H
  have H:=H.pull 2 rfl
  (refine s_updK (q:=rkS k) (v:=u28) rfl rfl rfl H HA ?_;intro c H HA)
  rw [bkM_set (b:=y.b)] at H
  (apply w_nil)
  refine norm_fnX (R:=IxS.res 197 158 { x with bk:=bkPut x.bk k u28 y.b }++[y.res 161]) (H.perm ?_) Ca (outs0 rfl) ⟨u28,rfl⟩
  have e : bkPut x.bk k u28 y.b=x.bk++[⟨k,u28,[y.b]⟩]:=by unfold bkPut;rw [hbi]
  simp only [IxS.res]
  rw [e,List.map_append,show [(⟨k,u28,[y.b]⟩:BkS)].map (BkS.res 158)=[.row u28 158 1 1 [ptr y.b]] from rfl,show EnS.res 161 y=.obj y.b (.cells [y.v,.int .i64 y.part].toArray 161 (0,0)) from rfl]
  exact Pm
 | some j =>
  obtain ⟨p,hp,hpk⟩:=bkI_some hbi
  have hbl:=hb p (List.mem_of_getElem? hp)
  have hpm : (x.bk.map (BkS.res 158)).Perm (.row p.v 158 1 p.es.length (p.es.map ptr)::(x.bk.eraseIdx j).map (BkS.res 158)):=(perm_pull hp).map _
  have H : Owns c0 ([.row p.v 158 1 p.es.length (p.es.map ptr)]++(.obj x.b (.cells [x.vc,.map (some x.m)].toArray 197 (0,0))::.obj x.m (kObj Value.string (bkM x.bk))::.obj y.b (.cells [y.v,.int .i64 y.part].toArray 161 (0,0))::((x.bk.eraseIdx j).map (BkS.res 158)++L0))) c:=H.perm (by
   refine (List.Perm.cons _ (List.Perm.cons _ (List.Perm.cons _ (hpm.append_right L0)))).trans ?_
   exact Pm)
  refine dw_startE (I:=[.row p.v 158 1 p.es.length (p.es.map ptr)]) H HA ?_
  (repeat (refine Dc ?_))
  (refine Dm ?_)
  (repeat (refine Dc ?_))
  (refine Dm ?_)
  (repeat (refine Dc ?_))
  (apply dw_cons;(focus ((intro B _ Lx c H HA;(repeat (first|rintro vx rfl|(intro vx hx;have HA:=HA.addSF hx;clear hx)|(intro vx hx;have HA:=HA.add hx;clear hx)|intro vx));change W _ _ _ _ _ _ _);(refine s_lookKFs (q:=rkS k) (v:=p.v) rfl rfl rfl H Ow (by rw [bkM_look,hbi,Option.bind_some,hp];rfl) ?_);exact Dx));exact inferInstance)
  (refine Dc ?_)
  refine dw_cons (s:=.rel fun u c=>SlV [(⟨y.b⟩:BPt)] [[ptr y.b]] u c) ?_ inferInstance ?_
  ·(intro B _ Lx c H HA;(repeat (first|rintro vx rfl|(intro vx hx;have HA:=HA.addSF hx;clear hx)|(intro vx hx;have HA:=HA.add hx;clear hx)|intro vx));change W _ _ _ _ _ _ _)
   refine s_bs1V (α:=BPt) (cs:=[ptr y.b]) (u:=⟨y.b⟩) rfl rfl rfl rfl rfl rfl H HA inferInstance ?_
   intro vx c H HA
   exact w_nil (pq_rel H Cu HA.h.1)
  refine dw_consE (pv:=none) (r:=.row p.v 158 1 p.es.length (p.es.map ptr)) (sel:=id) (S:=fun _=>Tt) (e:=158) (kk:=1) (m:=p.es.length+1) (xs:=p.es.map ptr++[ptr y.b]) ?_ (fun _=>inferInstance) ?_
  ·(intro B _ Lx c HA;(repeat (first|rintro vx rfl|(intro vx hx;have HA:=HA.addSF hx;clear hx)|(intro vx hx;skip;have HA:=HA.add hx;clear hx)|(intro vx;have hvx2:Go.Value:=vx;clear hvx2)));(first|intro H|(have H:=HA.h.1;have HA:=HA.cut));change W _ _ _ _ _ _ _)
   have H : Owns c0 (.row p.v 158 1 p.es.length (p.es.map ptr)::(Lx++_)) c:=H
   refine s_appV rfl rfl rfl (Lk:SlV [(⟨y.b⟩:BPt)] [[ptr y.b]] _ _) rfl rfl rfl (by simp only [List.length_cons,List.length_nil,LIM];omega) H HA inferInstance ?_
   intro n0 c H HA
   exact w_nil (pq_eff H Cu trivial)
  refine dw_doneT mixed (I:=[.row p.v 158 1 p.es.length (p.es.map ptr)]) (by kernel_rfl) H HA (by kernel_rfl) ?_
  clear H HA
  intro c HA u27 h27 u28 h28 H
  change W _ _ _ _ _ _ _
  have H : Owns c0 (.row u28 158 1 (p.es.length+1) (p.es.map ptr++[ptr y.b])::.obj x.b (.cells [x.vc,.map (some x.m)].toArray 197 (0,0))::.obj x.m (kObj Value.string (bkM x.bk))::.obj y.b (.cells [y.v,.int .i64 y.part].toArray 161 (0,0))::((x.bk.eraseIdx j).map (BkS.res 158)++L0)) c:=H
  have H:=H.pull 2 rfl
  (refine s_updK (q:=rkS k) (v:=u28) rfl rfl rfl H HA ?_;intro c H HA)
  rw [bkM_set (b:=y.b)] at H
  (apply w_nil)
  refine norm_fnX (R:=IxS.res 197 158 { x with bk:=bkPut x.bk k u28 y.b }++[y.res 161]) (H.perm ?_) Ca (outs0 rfl) ⟨u28,rfl⟩
  have e : bkPut x.bk k u28 y.b=x.bk.set j ⟨k,u28,p.es++[y.b]⟩:=by unfold bkPut;rw [hbi];simp only [hp]
  have hp2 : ((x.bk.set j ⟨k,u28,p.es++[y.b]⟩).map (BkS.res 158)).Perm (.row u28 158 1 (p.es.length+1) (p.es.map ptr++[ptr y.b])::(x.bk.eraseIdx j).map (BkS.res 158)):=by
   have:=perm_set (b:=⟨k,u28,p.es++[y.b]⟩) (BkS.res 158) hp
   simpa [BkS.res] using this
  simp only [IxS.res]
  rw [e,show EnS.res 161 y=.obj y.b (.cells [y.v,.int .i64 y.part].toArray 161 (0,0)) from rfl]
  refine List.Perm.trans ?_ ((((hp2.symm.cons _).cons _).append_right _).append_right _)
  exact Pm
end Go.Proofs.YtnppmeeibbefbaaGreatDoor
namespace Go.Wk
open Go Go.RowKit
set_option linter.unusedSectionVars false
section
variable {P : Program} {ops : Array Oper} {Q : Exit → Act → World → Prop} {n : Nat} {f : Nat → Value} {rest : List Oper} {ty : TypeId} {ps : String} {af : Array Edge} {d : Tmp}
variable {c0 c : Cx} {L : List Res} {A : Cx → Prop} {κ : Type} [DecidableEq κ] {kv : κ → Value}
theorem s_rangeKO {T e:TypeId} {x:Operand} {b:Nat} {es:List (κ×Value)} (hn:Nat.blt d n=true) [MapK P T e κ kv] (hx:opd f x=.map (some b)) (H:Owns c0 L c) (hm:Res.obj b (kObj kv es)∈L) (HA:Hd A c) [Mono A]
  (k:∀r c',Owns c0 (.obj r (itObj b es.length [])::L) c'→Hd A c'→W P ops Q rest n (upd f d (.pointer (some ⟨r,0,none⟩))) c'.w) : W P ops Q (⟨some d,.range T x,ty,ps,af,none⟩::rest) n f c.w:=by
 obtain ⟨kt,h1,h2,h3⟩:=MapK.h (P:=P) (T:=T) (e:=e) (kv:=kv)
 have hb:=run_getMapK (P:=P) (H.res _ hm).1
 have h:=H.new (itObj b es.length []) rfl
 exact st_val hn (w':=c.w.alloc (itObj b es.length [])) (by simp [execOp,Instr.range,run_underlying h1,hx,hb,itObj]) (k c.w.heap.size ⟨c.w.alloc (itObj b es.length []),_⟩ h.2 (HA.to h.1))
theorem s_nextKO {x:Operand} {r b:Nat} {es:List (κ×Value)} {seen:List Nat} (hn:Nat.blt d n=true) (hx:opd f x=.pointer (some ⟨r,0,none⟩)) (H:Owns c0 (.obj r (itObj b es.length seen)::L) c) (HA:Hd A c) [Mono A] (hm:Res.obj b (kObj kv es)∈L)
  (k1:(∀i,i<es.length→i∈seen)→W P ops Q rest n (upd f d (.tuple #[.bool false])) c.w)
  (k2:∀i p c',es[i]?=some p→i∉seen→Owns c0 (.obj r (itObj b es.length (seen++[i]))::L) c'→Hd A c'→W P ops Q rest n (upd f d (.tuple #[.bool true,kv p.1,p.2])) c'.w) :
  W P ops Q (⟨some d,.next x false,ty,ps,af,none⟩::rest) n f c.w:=by
 have hr : c.w.heap[r]?=some (itObj b es.length seen):=(H.res _ (List.mem_cons_self ..)).1
 have hrl : r<c.w.heap.size:=(Array.getElem?_eq_some_iff.1 hr).1
 have hold : ∀x∈(kEnt kv es).toArray.toList,x.born<es.length:=by
  intro x hx
  simp only [kEnt,List.mem_map,List.mem_zipIdx_iff_getElem?] at hx
  obtain ⟨⟨p,i⟩,h1,rfl⟩:=hx
  exact (List.getElem?_eq_some_iff.1 h1).1
 rcases run_next_at (P:=P) c.w ty r b es.length es.length seen.toArray (kEnt kv es).toArray es.length hr (H.res _ (.tail _ hm)).1 hold (Nat.le_refl _) with ⟨h1,h2⟩|⟨e,he,w1,hw1,h2⟩
 ·refine st_val hn (w':=c.w) (by simp [execOp,hx,h2]) (k1 fun i hi=>?_)
  by_cases hs : i∈seen
  ·exact hs
  ·have hmem:=mem_leftK (kv:=kv) (es:=es) (seen:=seen).2 ⟨i,es[i],List.getElem?_eq_getElem hi,hs,rfl⟩
   have : (leftOf (kEnt kv es).toArray seen.toArray).toList=[]:=List.eq_nil_of_length_eq_zero (by simpa using h1)
   rw [this] at hmem
   cases hmem
 ·obtain ⟨i,p,h3,h4,rfl⟩:=mem_leftK.1 he
  have hh : w1.heap=c.w.heap:=by rcases hw1 with rfl|rfl<;>rfl
  have h5:=H.turn (r':=.obj r (itObj b es.length (seen++[i]))) (w':=ChangeMaps.setBlock w1 r (itObj b es.length (seen++[i]))) (by rcases hw1 with rfl|rfl<;>rfl) (by rcases hw1 with rfl|rfl<;>rfl) (by rcases hw1 with rfl|rfl<;>rfl)
   (by rcases hw1 with rfl|rfl<;>first|exact Nat.le_refl _|exact Nat.le_succ _) (by simp [ChangeMaps.setBlock,hh]) (fun x hx hne=>by
   have : r≠x:=fun e=>hne (by subst e;rfl)
   simp [ChangeMaps.setBlock,hh,Array.getElem?_setIfInBounds_ne this]) (by simp [Res.holds,ChangeMaps.setBlock,hh,hrl]) (fun x hx=>.inl hx)
  refine st_val hn (w':=ChangeMaps.setBlock w1 r (itObj b es.length (seen++[i]))) ?_ (k2 i p ⟨_,_⟩ h3 h4 h5.2 (HA.to h5.1))
  simp [execOp,hx,h2,itObj]
theorem s_entryKO {x:Operand} {r b i:Nat} {p:κ×Value} {es:List (κ×Value)} {seen:List Nat} (hn:Nat.blt d n=true) (hx:opd f x=.pointer (some ⟨r,0,none⟩)) (H:Owns c0 L c) (hm:Res.obj b (kObj kv es)∈L) (hr:Res.obj r (itObj b es.length (seen++[i]))∈L) (hp:es[i]?=some p)
  (k:W P ops Q rest n (upd f d (.tuple #[kv p.1,p.2])) c.w) : W P ops Q (⟨some d,.entry x,ty,ps,af,none⟩::rest) n f c.w:=by
 have hr' : c.w.heap[r]?=some (.mapIter (some b) es.length (seen.toArray.push i) es.length):=by
  have:=(H.res _ hr).1
  simpa [Res.holds,itObj] using this
 have:=run_entry_at (P:=P) c.w r b es.length seen.toArray (kEnt kv es).toArray es.length { key:=kv p.1,val:=p.2,born:=i } hr' (H.res _ hm).1 (by
  simp only [kEnt,List.mem_map,List.mem_zipIdx_iff_getElem?]
  exact ⟨(p,i),hp,rfl⟩) (by
  simp only [kEnt,List.map_map,Function.comp_def]
  have : (es.zipIdx.map fun p=>p.2)=List.range es.length:=by simp [List.zipIdx_map_snd,List.range_eq_range']
  rw [this]
  exact List.nodup_range)
 exact st_val hn (by simp [execOp,hx,this]) k
end
structure En0 where
 b : Nat
 v : Value
 row : List Nat
def En0.res (T:TypeId) (part:Nat) (x:En0) : Res:=.obj x.b (.cells [x.v,.int .i64 (part:Int)].toArray T (0,0))
def relC (w mr mi:Nat) (fv nv:Value) (cnt:List Int) : List Value:=.int .i64 w::.map (some mr)::fv::nv::(cnt.map (.int .i64 ·)++[.map (some mi),.int .i32 0,.int .u32 0])
theorem relC_cnt {w mr mi:Nat} {fv nv:Value} {cnt:List Int} {p:Nat} {x:Int} (h:cnt[p]?=some x) : (relC w mr mi fv nv cnt)[4+p]?=some (.int .i64 x):=by
 have hp:=(List.getElem?_eq_some_iff.1 h).1
 have e : 4+p=p+1+1+1+1:=by omega
 rw [e]
 simp only [relC,List.getElem?_cons_succ]
 rw [List.getElem?_append_left (by simpa using hp),List.getElem?_map,h]
 rfl
theorem relC_put {w mr mi:Nat} {fv nv:Value} {cnt:List Int} {p:Nat} {x:Int} (h:p<cnt.length) : LPut (relC w mr mi fv nv cnt) (4+p) [.int .i64 x] (relC w mr mi fv nv (cnt.set p x)):=by
 have e : 4+p=p+1+1+1+1:=by omega
 have e2 : relC w mr mi fv nv (cnt.set p x)=(relC w mr mi fv nv cnt).set (4+p) (.int .i64 x):=by
  rw [e]
  simp only [relC,List.set_cons_succ]
  rw [List.set_append_left _ _ (by simpa using h),List.map_set]
 rw [e2]
 exact LPut.set1 (by simp [relC];omega)
structure RlS where
 b : Nat
 mr : Nat
 mi : Nat
 width : Nat
 fv : Value
 nv : Value
 cnt : List Int
 eo : List En0
 en : List En0
 ex : List En0
 ix : List IxS
def RlS.all (r:RlS) : List En0:=r.eo++r.en++r.ex
def RlS.rm (r:RlS) : List (ByteArray×Value):=r.all.map fun e=>(rkS e.row,ptr e.b)
def RlS.im (r:RlS) : List (ByteArray×Value):=r.ix.map fun x=>(rkS x.cols,ptr x.b)
def RlS.res (tR tE tP tI:TypeId) (r:RlS) : List Res:=.obj r.b (.cells (relC r.width r.mr r.mi r.fv r.nv r.cnt).toArray tR (0,0))::.obj r.mr (kObj Value.string r.rm)::.obj r.mi (kObj Value.string r.im) ::
 .row r.fv tP 1 r.en.length (r.en.map fun e=>ptr e.b)::.row r.nv tP 1 r.ex.length (r.ex.map fun e=>ptr e.b)::(r.eo.map (En0.res tE 1)++(r.en.map (En0.res tE 2)++(r.ex.map (En0.res tE 4)++r.ix.flatMap (IxS.res tI tP))))
def RlS.turn (r:RlS) (cnt:List Int) : RlS:={ r with fv:=r.nv,nv:=.slice none 0 0,cnt:=cnt,eo:=r.eo++r.en,en:=r.ex,ex:=[] }
end Go.Wk
namespace Go.Proofs.YtnppmeeibbefbaaGreatDoor
open Go Go.Wk Go.RowKit
instance : Ent Tryz.prog 80:=.of Tryz.func80 (by kernel_rfl) (by kernel_rfl)
instance : ArrT Tryz.prog 146 8 3:=⟨by kernel_rfl⟩
instance : Fld Tryz.prog 155 0 0:=.of (k:=0) (by kernel_rfl)
instance : Fld Tryz.prog 155 1 1:=.of (k:=0) (by kernel_rfl)
instance : Fld Tryz.prog 155 2 2:=.of (k:=0) (by kernel_rfl)
instance : Fld Tryz.prog 155 3 3:=.of (k:=0) (by kernel_rfl)
instance : Fld Tryz.prog 155 4 4:=.of (k:=7) (by kernel_rfl)
instance : Fld Tryz.prog 155 5 12:=.of (k:=0) (by kernel_rfl)
instance : Fld Tryz.prog 155 6 13:=.of (k:=1) (by kernel_rfl)
theorem rel_move (b w mr mi:Nat) (fv nv lv:Value) (cnt:List Int) (es:List En0) (p q:Nat) (hp:p<8) (hq:q<8) (hc:cnt.length=8) (hlim:es.length<1099511627776) (c:Cx) :
  CnTX Tryz.prog 80 [ptr b,lv,.int .i64 (q:Int)] (.obj b (.cells (relC w mr mi fv nv cnt).toArray 155 (0,0))::.row lv 158 1 es.length (es.map fun e=>ptr e.b)::es.map (En0.res 161 p)) c
   (fun _ R _=>∃cnt':List Int,cnt'.length=8∧R=.obj b (.cells (relC w mr mi fv nv cnt').toArray 155 (0,0))::.row lv 158 1 es.length (es.map fun e=>ptr e.b)::es.map (En0.res 161 q)):=by
 refine CnTX.of Tryz.func80 Tryz.ntmps80 rfl rfl fun c0 L0 A0 _ H HA=>?_
 (apply Y1;refine Z0 ?_;refine Z62 ?_;refine Z0 ?_;apply Y0;apply wc_block)
 refine wc_loopG (σ:=Nat×List Int) (fun y=>es.length-y.1) (fun y=>[(0,ptr b),(2,.int .i64 (q:Int)),(8,lv),(9,.int .i64 es.length),(10,.int .i64 y.1)]) (fun y=>y.1≤es.length∧y.2.length=8)
  (fun y=>.obj b (.cells (relC w mr mi fv nv y.2).toArray 155 (0,0))::.row lv 158 1 es.length (es.map fun e=>ptr e.b)::((es.take y.1).map (En0.res 161 q)++((es.drop y.1).map (En0.res 161 p)++L0))) (fun _=>Tt) (0,cnt) H HA trivial Ks ⟨Nat.zero_le _,hc⟩ ?_
 intro y g c hy H HA
 obtain ⟨k,cs⟩:=y
 obtain ⟨hk,hcs⟩:=hy
 dsimp only at hk hcs H HA ⊢
 (repeat' (first|apply w_nil|apply wc_seq|apply wc_region|apply wx_next|refine Z18 ?_|refine Z19 ?_|apply wc_exit|apply wc_skip|apply wc_block|apply wx_exit_then|apply wx_exit_same|refine Z63 fun rp hrp=>?_|refine Z93 (fun hq=>?_) fun hq=>?_))
 ·obtain ⟨x,hx⟩:=getq (xs:=es) (k:=k) (by omega)
  have hd : es.drop k=x::es.drop (k+1):=by
   obtain ⟨h1,h2⟩:=List.getElem?_eq_some_iff.1 hx
   rw [←h2]
   exact List.drop_eq_getElem_cons h1
  rw [hd] at H
  have hxm : (es.map fun e=>ptr e.b)[k]?=some (ptr x.b):=by rw [List.getElem?_map,hx];rfl
  obtain ⟨gg,mm,cap,hlv,hrp2⟩:=hrp
  refine s_ldCell rfl hrp2 hlv H (.tail _ (.head _)) (by rw [Nat.mul_one];exact hxm) ?_
  (refine Z2 ?_;apply Y0;apply wc_seq)
  have H : Owns c0 (.obj x.b (.cells [x.v,.int .i64 (p:Int)].toArray 161 (0,0))::.obj b (.cells (relC w mr mi fv nv cs).toArray 155 (0,0))::.row lv 158 1 es.length (es.map fun e=>ptr e.b)::((es.take k).map (En0.res 161 q)++((es.drop (k+1)).map (En0.res 161 p)++L0))) c:=by
   refine H.perm ?_
   rw [List.map_cons]
   show List.Perm _ (En0.res 161 p x::_)
   exact Pm
  obtain ⟨x1,hx1⟩:=getq (xs:=cs) (k:=p) (by omega)
  (refine dw_start H HA ?_)
  (repeat (first|refine Dc ?_|refine Dm ?_))
  (apply dw_cons;(focus ((intro B _ Lx c H HA;(repeat (first|rintro vx rfl|(intro vx hx;have HA:=HA.addSF hx;clear hx)|(intro vx hx;have HA:=HA.add hx;clear hx)|intro vx));change W _ _ _ _ _ _ _);(refine s_ixArr (i:=p) (o':=4+p) rfl Prim.sz rfl rfl rfl (by omega) (by omega) ?_);exact Dx));exact inferInstance)
  (apply dw_cons;(focus ((intro B _ Lx c H HA;(repeat (first|rintro vx rfl|(intro vx hx;have HA:=HA.addSF hx;clear hx)|(intro vx hx;have HA:=HA.add hx;clear hx)|intro vx));change W _ _ _ _ _ _ _);(refine s_loadOP rfl rfl H Ow (relC_cnt hx1) ?_);exact Dx));exact inferInstance)
  (apply dw_cons;(focus ((intro B _ Lx c H HA;(repeat (first|rintro vx rfl|(intro vx hx;have HA:=HA.addSF hx;clear hx)|(intro vx hx;have HA:=HA.add hx;clear hx)|intro vx));change W _ _ _ _ _ _ _);(refine s_sub rfl rfl rfl rfl ?_);exact Dx));exact inferInstance)
  (repeat (first|refine Dc ?_|refine Dm ?_))
  (apply dw_cons;(focus ((intro B _ Lx c H HA;(repeat (first|rintro vx rfl|(intro vx hx;have HA:=HA.addSF hx;clear hx)|(intro vx hx;have HA:=HA.add hx;clear hx)|intro vx));change W _ _ _ _ _ _ _);(refine s_ixArr (i:=p) (o':=4+p) rfl Prim.sz rfl rfl rfl (by omega) (by omega) ?_);exact Dx));exact inferInstance)
  (refine dw_done mixed H HA rfl (by kernel_rfl) ?_;clear H HA;intro c H HA;(repeat (first|rintro vx rfl|(intro vx hx;have HA:=HA.addSF hx;clear hx)|(intro vx hx;have HA:=HA.add hx;clear hx)|intro vx));change W _ _ _ _ _ _ _)
  (refine s_storeP rfl rfl rfl H.swap HA rfl (relC_put (by omega)) ?_;intro c H HA)
  have hcs2 : (cs.set p (IntKind.i64.wrap (x1-1))).length=8:=by simpa using hcs
  obtain ⟨x2,hx2⟩:=getq (xs:=cs.set p (IntKind.i64.wrap (x1-1))) (k:=q) (by omega)
  generalize cs.set p (IntKind.i64.wrap (x1-1))=cs2 at H hcs2 hx2
  (apply Y2;refine Z0 ?_;refine Z0 ?_;(refine s_nilCheck rfl rfl ?_);refine Z3 ?_;refine Z77 fun c H HA=>?_;apply Y0)
  (refine dw_start H HA ?_)
  (repeat (first|refine Dc ?_|refine Dm ?_))
  (apply dw_cons;(focus ((intro B _ Lx c H HA;(repeat (first|rintro vx rfl|(intro vx hx;have HA:=HA.addSF hx;clear hx)|(intro vx hx;have HA:=HA.add hx;clear hx)|intro vx));change W _ _ _ _ _ _ _);(refine s_ixArr (i:=q) (o':=4+q) rfl Prim.sz rfl rfl rfl (by omega) (by omega) ?_);exact Dx));exact inferInstance)
  (apply dw_cons;(focus ((intro B _ Lx c H HA;(repeat (first|rintro vx rfl|(intro vx hx;have HA:=HA.addSF hx;clear hx)|(intro vx hx;have HA:=HA.add hx;clear hx)|intro vx));change W _ _ _ _ _ _ _);(refine s_loadOP rfl rfl H Ow (relC_cnt hx2) ?_);exact Dx));exact inferInstance)
  (apply dw_cons;(focus ((intro B _ Lx c H HA;(repeat (first|rintro vx rfl|(intro vx hx;have HA:=HA.addSF hx;clear hx)|(intro vx hx;have HA:=HA.add hx;clear hx)|intro vx));change W _ _ _ _ _ _ _);(refine s_add rfl rfl rfl rfl ?_);exact Dx));exact inferInstance)
  (repeat (first|refine Dc ?_|refine Dm ?_))
  (apply dw_cons;(focus ((intro B _ Lx c H HA;(repeat (first|rintro vx rfl|(intro vx hx;have HA:=HA.addSF hx;clear hx)|(intro vx hx;have HA:=HA.add hx;clear hx)|intro vx));change W _ _ _ _ _ _ _);(refine s_ixArr (i:=q) (o':=4+q) rfl Prim.sz rfl rfl rfl (by omega) (by omega) ?_);exact Dx));exact inferInstance)
  (refine dw_done mixed H HA rfl (by kernel_rfl) ?_;clear H HA;intro c H HA;(repeat (first|rintro vx rfl|(intro vx hx;have HA:=HA.addSF hx;clear hx)|(intro vx hx;have HA:=HA.add hx;clear hx)|intro vx));change W _ _ _ _ _ _ _)
  have hcs3 : (cs2.set q (IntKind.i64.wrap (x2+1))).length=8:=by simpa using hcs2
  (refine s_storeP rfl rfl rfl H.swap HA rfl (relC_put (by omega)) ?_;intro c H HA)
  generalize cs2.set q (IntKind.i64.wrap (x2+1))=cs3 at H hcs3
  (apply w_nil;apply wx_norm_block;apply wx_next;apply wc_region;refine Z46 ?_;refine Z0 ?_;apply w_nil)
  refine wx_loopG ((k+1,cs3)) (H.perm ?_) Cu trivial Ks (by dsimp only;omega) ⟨by dsimp only;omega,hcs3⟩
  rw [List.take_add_one,hx,List.map_append]
  show List.Perm (_::En0.res 161 q x::_) (_::_::((_++[En0.res 161 q x])++_))
  exact Pm
 ·have e1 : es.take k=es:=List.take_of_length_le (by omega)
  have e2 : es.drop k=[]:=List.drop_of_length_le (by omega)
  rw [e1,e2] at H
  (skip)
  have H : Owns c0 ((.obj b (.cells (relC w mr mi fv nv cs).toArray 155 (0,0))::.row lv 158 1 es.length (es.map fun e=>ptr e.b)::es.map (En0.res 161 q))++L0) c:=H
  exact norm_fnX (R:=.obj b (.cells (relC w mr mi fv nv cs).toArray 155 (0,0))::.row lv 158 1 es.length (es.map fun e=>ptr e.b)::es.map (En0.res 161 q)) H Ca (outs0 rfl) ⟨cs,hcs,rfl⟩
instance : Ent Tryz.prog 60:=.of Tryz.func60 (by kernel_rfl) (by kernel_rfl)
theorem rel_Turn (r:RlS) (hc:r.cnt.length=8) (h1:r.en.length<1099511627776) (h2:r.ex.length<1099511627776) (c:Cx) :
  CnTX Tryz.prog 60 [ptr r.b] (r.res 155 161 158 197) c
   (fun v R _=>∃cnt':List Int,cnt'.length=8∧R=(r.turn cnt').res 155 161 158 197∧v=.int .i64 r.ex.length):=by
 refine CnTX.of Tryz.func60 Tryz.ntmps60 rfl rfl fun c0 L0 A0 _ H HA=>?_
 have H : Owns c0 ((.obj r.b (.cells (relC r.width r.mr r.mi r.fv r.nv r.cnt).toArray 155 (0,0))::.row r.fv 158 1 r.en.length (r.en.map fun e=>ptr e.b)::r.en.map (En0.res 161 2)) ++
   (.obj r.mr (kObj Value.string r.rm)::.obj r.mi (kObj Value.string r.im)::.row r.nv 158 1 r.ex.length (r.ex.map fun e=>ptr e.b)::(r.eo.map (En0.res 161 1)++(r.ex.map (En0.res 161 4)++(r.ix.flatMap (IxS.res 197 158)++L0))))) c:=by
  refine H.perm ?_
  rw [RlS.res]
  exact Pm
 (apply Y1;refine Z2 ?_;apply Y2;refine Z0 ?_;refine Z0 ?_;(refine s_nilCheck rfl rfl ?_);refine Z3 ?_;refine Z41 ?_)
 have hfv : (relC r.width r.mr r.mi r.fv r.nv r.cnt)[2]?=some r.fv:=rfl
 (skip)
 refine s_callX rfl rfl H HA (rel_move r.b r.width r.mr r.mi r.fv r.nv r.fv r.cnt r.en 2 1 (by omega) (by omega) hc h1 _) ?_
 intro v R c H HA
 obtain ⟨cnt1,hc1,rfl⟩:=HA.h.1
 have HA:=HA.cut
 have H : Owns c0 ((.obj r.b (.cells (relC r.width r.mr r.mi r.fv r.nv cnt1).toArray 155 (0,0))::.row r.nv 158 1 r.ex.length (r.ex.map fun e=>ptr e.b)::r.ex.map (En0.res 161 4)) ++
   (.row r.fv 158 1 r.en.length (r.en.map fun e=>ptr e.b)::.obj r.mr (kObj Value.string r.rm)::.obj r.mi (kObj Value.string r.im)::(r.eo.map (En0.res 161 1)++(r.en.map (En0.res 161 1)++(r.ix.flatMap (IxS.res 197 158)++L0))))) c:=by
  refine H.perm ?_
  exact Pm
 (apply Y2;refine Z0 ?_;refine Z0 ?_;(refine s_nilCheck rfl rfl ?_);refine Z3 ?_;refine Z41 ?_)
 refine s_callX rfl rfl H HA (rel_move r.b r.width r.mr r.mi r.fv r.nv r.nv cnt1 r.ex 4 2 (by omega) (by omega) hc1 h2 _) ?_
 intro v2 R c H HA
 obtain ⟨cnt2,hc2,rfl⟩:=HA.h.1
 have HA:=HA.cut
 have H : Owns c0 (.obj r.b (.cells (relC r.width r.mr r.mi r.fv r.nv cnt2).toArray 155 (0,0))::.row r.nv 158 1 r.ex.length (r.ex.map fun e=>ptr e.b)::(r.ex.map (En0.res 161 2) ++
   (.row r.fv 158 1 r.en.length (r.en.map fun e=>ptr e.b)::.obj r.mr (kObj Value.string r.rm)::.obj r.mi (kObj Value.string r.im)::(r.eo.map (En0.res 161 1)++(r.en.map (En0.res 161 1)++(r.ix.flatMap (IxS.res 197 158)++L0)))))) c:=H
 (repeat' (first|refine Z0 ?_|refine Z2 ?_|refine Z3 ?_|apply w_nil|apply wc_seq|apply wc_region|apply wx_next|apply wc_ret|refine Z41 ?_|refine Z62 ?_|refine Z75 fun c H HA=>?_|(refine s_nilCheck rfl rfl ?_)))
 have H : Owns c0 ((r.turn cnt2).res 155 161 158 197++L0) c:=by
  have H2:=(H.nilRow 158 1)
  have H3 : Owns c0 (.row (.slice none 0 0) 158 1 0 []::.obj r.b (.cells (relC r.width r.mr r.mi r.nv (.slice none 0 0) cnt2).toArray 155 (0,0))::.row r.nv 158 1 r.ex.length (r.ex.map fun e=>ptr e.b)::(r.ex.map (En0.res 161 2) ++
   (.row r.fv 158 1 r.en.length (r.en.map fun e=>ptr e.b)::.obj r.mr (kObj Value.string r.rm)::.obj r.mi (kObj Value.string r.im)::(r.eo.map (En0.res 161 1)++(r.en.map (En0.res 161 1)++(r.ix.flatMap (IxS.res 197 158)++L0)))))) c:=H2
  have H4 : Owns c0 (.row r.fv 158 1 r.en.length (r.en.map fun e=>ptr e.b)::.row (.slice none 0 0) 158 1 0 []::.obj r.b (.cells (relC r.width r.mr r.mi r.nv (.slice none 0 0) cnt2).toArray 155 (0,0))::.row r.nv 158 1 r.ex.length (r.ex.map fun e=>ptr e.b)::(r.ex.map (En0.res 161 2) ++
   (.obj r.mr (kObj Value.string r.rm)::.obj r.mi (kObj Value.string r.im)::(r.eo.map (En0.res 161 1)++(r.en.map (En0.res 161 1)++(r.ix.flatMap (IxS.res 197 158)++L0)))))) c:=H3.perm Pm
  have H4:=H4.drop
  refine H4.perm ?_
  have e : (r.turn cnt2).rm=r.rm:=by simp [RlS.rm,RlS.all,RlS.turn]
  rw [RlS.res,e]
  show List.Perm _ (.obj r.b (.cells (relC r.width r.mr r.mi r.nv (.slice none 0 0) cnt2).toArray 155 (0,0))::.obj r.mr (kObj Value.string r.rm)::.obj r.mi (kObj Value.string r.im) ::
   .row r.nv 158 1 r.ex.length (r.ex.map fun e=>ptr e.b)::.row (.slice none 0 0) 158 1 0 []::(((r.eo++r.en).map (En0.res 161 1)++(r.ex.map (En0.res 161 2)++([]++r.ix.flatMap (IxS.res 197 158))))++L0))
  exact Pm
 exact ret_fnX H Ca (outs1 (v:=.int .i64 r.ex.length) Tryz.results60 Wh) ⟨cnt2,hc2,rfl,rfl⟩
end Go.Proofs.YtnppmeeibbefbaaGreatDoor
namespace Go.Wk
open Go Go.RowKit
class PtrU (P:Program) (T:TypeId) : Prop where
 h : P.underlying T=some (.pointer (P.pointee T))
def ptrB (P:Program) (T:TypeId) : Bool:=match P.underlying T with
 | some (.pointer _)=>true
 | _=>false
theorem PtrU.of {P:Program} {T:TypeId} (h:ptrB P T=true) : PtrU P T:=⟨by
 unfold ptrB at h
 split at h
 ·rename_i t ht
  rw [Program.pointee,ht]
 ·cases h⟩
section
variable {P : Program} {ops : Array Oper} {Q : Exit → Act → World → Prop} {n : Nat} {f : Nat → Value} {rest : List Oper} {ty : TypeId} {ps : String} {af : Array Edge} {d : Tmp}
theorem s_nilP {T T':TypeId} {x:Operand} {p:Option Addr} {w:World} (hn:Nat.blt d n=true) [PtrU P T] (hx:opd f x=.pointer p) (k:W P ops Q rest n (upd f d (.bool p.isNone)) w) : W P ops Q (⟨some d,.binOp .eql T x (.const (.pointer none)) T',ty,ps,af,none⟩::rest) n f w:=by
 have h1:=run_eql_pointer_nil (P:=P) w T p PtrU.h
 have h2 : opd f (.const (.pointer none))=.pointer none:=rfl
 exact st_val hn (by simp [execOp,hx,h2,eqGuard_at_pointer,h1]) k
theorem s_nnilP {T T':TypeId} {x:Operand} {p:Option Addr} {w:World} (hn:Nat.blt d n=true) [PtrU P T] (hx:opd f x=.pointer p) (k:W P ops Q rest n (upd f d (.bool (!p.isNone))) w) : W P ops Q (⟨some d,.binOp .neq T x (.const (.pointer none)) T',ty,ps,af,none⟩::rest) n f w:=by
 have h1:=run_neq_pointer_nil (P:=P) w T p PtrU.h
 have h2 : opd f (.const (.pointer none))=.pointer none:=rfl
 exact st_val hn (by simp [execOp,hx,h2,eqGuard_at_pointer,h1]) k
end
def IxOk (bk:List BkS) (ents:List En0) : Prop:=(ents=[]∧bk=[])∨∃v es,bk=[⟨[0],v,es⟩]∧es.Perm (ents.map En0.b)
structure RlOk (r:RlS) : Prop where
 cnt : r.cnt.length=8
 wd : ∀e∈r.all,e.row.length=r.width
 hd : ∀e∈r.all,e.row[0]?=some 0
 sm : ∀e∈r.all,smN e.row
 nd : (r.all.map En0.row).Nodup
 lim : r.all.length<1073741824
 wl : r.width<1073741824
 one : r.ix.length≤1
 ixo : ∀x∈r.ix,x.cols=[0]∧IxOk x.bk r.all
def RlF (r:RlS) (c:Cx) : Prop:=(∀e,e∈r.all→Sl e.v (ints e.row) c)∧(∀x,x∈r.ix→Sl x.vc (ints x.cols) c)
instance (r : RlS) : Mono (RlF r):=inferInstanceAs (Mono fun c=>(∀e,e∈r.all→Sl e.v (ints e.row) c)∧(∀x,x∈r.ix→Sl x.vc (ints x.cols) c))
theorem rm_look (l:List En0) (row:List Nat) : kLook (l.map fun e=>(rkS e.row,ptr e.b)) (rkS row)=(l.find? fun e=>decide (e.row=row)).map fun e=>ptr e.b:=by
 unfold kLook
 induction l with
 | nil=>rfl
 | cons p l ih =>
  rw [List.map_cons,List.find?_cons,List.find?_cons]
  by_cases e : p.row=row
  ·simp [e]
  ·have e2 : ¬rkS p.row=rkS row:=fun h=>e (rkS_inj h)
   simp only [e2,decide_false,e,ih]
theorem kSet_new {κ:Type} [DecidableEq κ] {es:List (κ×Value)} {q:κ} {v:Value} (h:kLook es q=none) : kSet es q v=es++[(q,v)]:=by
 unfold kSet
 have : es.findIdx? (fun p=>decide (p.1=q))=none:=by
  unfold kLook at h
  rw [Option.map_eq_none_iff] at h
  rw [List.findIdx?_eq_none_iff]
  intro x hx
  have:=List.find?_eq_none.1 h x hx
  simpa using this
 rw [this]
theorem relC_mi {w mr mi:Nat} {fv nv:Value} {cnt:List Int} (h:cnt.length=8) : (relC w mr mi fv nv cnt)[12]?=some (.map (some mi)):=by
 obtain ⟨a0,a1,a2,a3,a4,a5,a6,a7,rfl⟩ : ∃a0 a1 a2 a3 a4 a5 a6 a7,cnt=[a0,a1,a2,a3,a4,a5,a6,a7]:=by
  match cnt,h with
  | [a0,a1,a2,a3,a4,a5,a6,a7],_=>exact ⟨_,_,_,_,_,_,_,_,rfl⟩
 rfl
theorem pick0 {row:List Nat} {cols:List Nat} (h:row[0]?=some 0) (hc:cols=[0]) : (cols.map fun i=>row.getD i 0)=[0]:=by
 subst hc
 simp [List.getD_eq_getElem?_getD,h]
theorem IxOk.put {bk:List BkS} {l:List En0} {e:En0} {v:Value} (h:IxOk bk l) : IxOk (bkPut bk [0] v e.b) (l++[e]):=by
 rcases h with ⟨rfl,rfl⟩|⟨v0,es,rfl,hp⟩
 ·exact .inr ⟨v,[e.b],rfl,.refl _⟩
 ·refine .inr ⟨v,es++[e.b],rfl,?_⟩
  rw [List.map_append]
  exact hp.append_right _
def RlS.put (r:RlS) (e:En0) (nv:Value) (cnt:List Int) (ix:List IxS) : RlS:={ r with nv:=nv,cnt:=cnt,ex:=r.ex++[e],ix:=ix }
theorem RlS.put_all (r:RlS) (e:En0) (nv:Value) (cnt:List Int) (ix:List IxS) : (r.put e nv cnt ix).all=r.all++[e]:=by simp [RlS.put,RlS.all]
theorem RlOk.put {r:RlS} {e:En0} {nv:Value} {cnt:List Int} {ix:List IxS} (h:RlOk r) (hc:cnt.length=8) (h1:e.row.length=r.width) (h2:e.row[0]?=some 0) (h3:smN e.row) (h4:∀x∈r.all,x.row≠e.row) (h5:r.all.length+1<1073741824) (h6:ix.length≤1) (h7:∀x∈ix,x.cols=[0]∧IxOk x.bk (r.all++[e])) : RlOk (r.put e nv cnt ix):=by
 have ha:=RlS.put_all r e nv cnt ix
 refine ⟨hc,?_,?_,?_,?_,?_,h.wl,h6,?_⟩
 ·intro x hx
  rw [ha,List.mem_append,List.mem_singleton] at hx
  rcases hx with hx|rfl
  ·exact h.wd x hx
  ·exact h1
 ·intro x hx
  rw [ha,List.mem_append,List.mem_singleton] at hx
  rcases hx with hx|rfl
  ·exact h.hd x hx
  ·exact h2
 ·intro x hx
  rw [ha,List.mem_append,List.mem_singleton] at hx
  rcases hx with hx|rfl
  ·exact h.sm x hx
  ·exact h3
 ·rw [ha,List.map_append,List.nodup_append]
  refine ⟨h.nd,by simp,?_⟩
  intro a ha b hb
  simp only [List.map_cons,List.map_nil,List.mem_singleton] at hb
  subst hb
  obtain ⟨x,hx,rfl⟩:=List.mem_map.1 ha
  exact h4 x hx
 ·rw [ha,List.length_append,List.length_singleton];exact h5
 ·rw [ha];exact h7
end Go.Wk
namespace Go.Proofs.YtnppmeeibbefbaaGreatDoor
open Go Go.Wk Go.RowKit
instance : BldZ Tryz.prog 161 [[.slice none 0 0],[.int .i64 0]]:=⟨Bld.of (by kernel_rfl) (by kernel_rfl)⟩
instance : BldZ Tryz.prog 197 [[.slice none 0 0],[.map none]]:=⟨Bld.of (by kernel_rfl) (by kernel_rfl)⟩
instance : BldZ Tryz.prog 155 [[.int .i64 0],[.map none],[.slice none 0 0],[.slice none 0 0],[.int .i64 0,.int .i64 0,.int .i64 0,.int .i64 0,.int .i64 0,.int .i64 0,.int .i64 0,.int .i64 0],[.map none],[.int .i32 0,.int .u32 0]]:=⟨Bld.of (by kernel_rfl) (by kernel_rfl)⟩
instance : PtrU Tryz.prog 158:=.of (by kernel_rfl)
instance : PtrU Tryz.prog 162:=.of (by kernel_rfl)
instance : PtrU Tryz.prog 110:=.of (by kernel_rfl)
instance : Ent Tryz.prog 59:=.of Tryz.func59 (by kernel_rfl) (by kernel_rfl)
instance : Ent Tryz.prog 79:=.of Tryz.func79 (by kernel_rfl) (by kernel_rfl)
instance : Ent Tryz.prog 77:=.of Tryz.func77 (by kernel_rfl) (by kernel_rfl)
def AddP (r:RlS) (row:List Nat) (v:Value) (R:List Res) (c:Cx) : Prop :=
 ((∃e∈r.all,e.row=row)∧v=.tuple #[.bool false,.int .i64 0]∧R=r.res 155 161 158 197) ∨
 ((¬∃e∈r.all,e.row=row)∧v=.tuple #[.bool true,.int .i64 0]∧∃e nv cnt ix,e.row=row∧RlOk (r.put e nv cnt ix)∧RlF (r.put e nv cnt ix) c∧R=(r.put e nv cnt ix).res 155 161 158 197)
theorem rel_Add (r:RlS) (row:List Nat) (rv:Value) (c:Cx) (hr:RlOk r) (hF:RlF r c) (h:Sl rv (ints row) c) (h1:row.length=r.width) (h2:row[0]?=some 0) (h3:smN row) (h5:r.all.length+1<1073741824) :
  CnTX Tryz.prog 59 [ptr r.b,rv] (r.res 155 161 158 197) c (AddP r row):=by
 refine CnTX.of Tryz.func59 Tryz.ntmps59 rfl rfl fun c0 L0 A0 _ H HA=>?_
 have HA:=(HA.add hF).add h
 have hil:=ints_len row
 have hwl:=hr.wl
 have hw0 : (relC r.width r.mr r.mi r.fv r.nv r.cnt)[0]?=some (.int .i64 r.width):=rfl
 (repeat' (first|refine Z0 ?_|refine Z2 ?_|refine Z3 ?_|apply w_nil|apply wc_seq|apply wc_region|apply wx_next|refine Z18 ?_|refine Z19 ?_|apply wc_ret|apply wc_skip|apply wx_ret_then|refine Z41 ?_|refine Z45 ?_|refine Z94 (fun hq=>?_) fun hq=>?_|(refine s_nilCheck rfl rfl ?_)))
 ·exfalso;omega
 (refine s_call rfl rfl H HA (rel_key row rv _ Lk h3 (by omega)) ?_;intro vx c H HP;have hvx:=HP.h.1;have HA:=HP.cut;subst hvx)
 (refine Z2 ?_;apply Y0;apply wc_seq;apply Y1;refine Z0 ?_;(refine s_nilCheck rfl rfl ?_);refine Z3 ?_;refine Z41 ?_;refine Z0 ?_)
 have hlk:=rm_look r.all row
 cases hfd : r.all.find? fun e=>decide (e.row=row) with
 | some e =>
  rw [hfd] at hlk
  refine s_lookKFs (q:=rkS row) (v:=ptr e.b) rfl rfl rfl H (.tail _ (.head _)) hlk ?_
  refine s_nnilP rfl rfl ?_
  (apply Y0;refine Z18 ?_;apply Y1;refine Z2 ?_;refine Z2 ?_;apply Y0;apply wc_ret;apply wx_ret_then)
  refine ret_fnX H Ca (outs2 Tryz.results59 Wh Wh) (.inl ⟨⟨e,List.mem_of_find?_eq_some hfd,by simpa using List.find?_some hfd⟩,rfl,rfl⟩)
 | none =>
  rw [hfd] at hlk
  refine s_lookKFn (q:=rkS row) rfl rfl rfl H (.tail _ (.head _)) hlk ?_
  refine s_nnilP rfl rfl ?_
  (apply Y0;refine Z19 ?_;apply wc_skip;apply wx_next;apply Y1;refine Z0 ?_)
  (refine s_callR rfl rfl H HA (Clone_Int (ints row) rv _ Lk) ?_;intro vx valsx c H HA)
  have hlz : (ints row).length<1099511627776:=by omega
  (refine w_freezeRow H HA Lk rfl rfl Lt ?_;intro c H HA)
  (refine Z54 ?_)
  (refine s_boxO (cs:=[vx,.int .i64 4]) rfl (by rfl) H HA ?_;intro eb c H HA)
  (refine Z2 ?_;apply Y2;refine Z0 ?_;(refine s_nilCheck rfl rfl ?_);refine Z3 ?_;refine Z41 ?_;refine Z0 ?_;refine Z0 ?_)
  refine s_updK (q:=rkS row) (v:=ptr eb) rfl rfl rfl (H.pull 2 rfl) HA ?_
  intro c H HA
  rw [kSet_new (by rw [RlS.rm,hlk];rfl)] at H
  (apply Y2;refine Z0 ?_;refine Z0 ?_;(refine s_nilCheck rfl rfl ?_);refine Z3 ?_;refine Z41 ?_;refine Z0 ?_)
  (refine s_bs1 (cs:=[ptr eb]) rfl rfl rfl rfl rfl rfl H HA ?_;intro b1 c H HA)
  have H : Owns c0 (.obj r.mr (kObj Value.string (r.rm++[(rkS row,ptr eb)]))::.obj eb (.cells [vx,.int .i64 4].toArray 161 (0,0))::.obj r.b (.cells (relC r.width r.mr r.mi r.fv r.nv r.cnt).toArray 155 (0,0))::.obj r.mi (kObj Value.string r.im) ::
   .row r.fv 158 1 r.en.length (r.en.map fun e=>ptr e.b)::.row r.nv 158 1 r.ex.length (r.ex.map fun e=>ptr e.b)::((r.eo.map (En0.res 161 1)++(r.en.map (En0.res 161 2)++(r.ex.map (En0.res 161 4)++r.ix.flatMap (IxS.res 197 158))))++L0)) c:=H
  have hxl : r.ex.length<1073741824:=by
   have:=hr.lim
   simp only [RlS.all,List.length_append] at this
   omega
  refine s_appB (cs:=[ptr eb]) rfl rfl rfl Lk rfl rfl rfl rfl (by intro u hu;rw [List.mem_singleton.1 hu];rfl) (by simp only [LIM];omega) (H.pull 5 rfl) HA ?_
  intro nv c H HA
  have H : Owns c0 (.obj r.b (.cells (relC r.width r.mr r.mi r.fv r.nv r.cnt).toArray 155 (0,0))::.row nv 158 1 (r.ex.length+1) ((r.ex.map fun e=>ptr e.b)++[ptr eb])::.obj r.mr (kObj Value.string (r.rm++[(rkS row,ptr eb)]))::.obj eb (.cells [vx,.int .i64 4].toArray 161 (0,0))::.obj r.mi (kObj Value.string r.im) ::
   .row r.fv 158 1 r.en.length (r.en.map fun e=>ptr e.b)::((r.eo.map (En0.res 161 1)++(r.en.map (En0.res 161 2)++(r.ex.map (En0.res 161 4)++r.ix.flatMap (IxS.res 197 158))))++L0)) c:=H.pull 3 rfl
  ((refine s_nilCheck rfl rfl ?_);refine Z3 ?_;refine Z75 fun c H HA=>?_;apply Y0;apply wc_seq)
  have H : Owns c0 (.obj r.b (.cells (relC r.width r.mr r.mi r.fv nv r.cnt).toArray 155 (0,0))::.row nv 158 1 (r.ex.length+1) ((r.ex.map fun e=>ptr e.b)++[ptr eb])::.obj r.mr (kObj Value.string (r.rm++[(rkS row,ptr eb)]))::.obj eb (.cells [vx,.int .i64 4].toArray 161 (0,0))::.obj r.mi (kObj Value.string r.im) ::
   .row r.fv 158 1 r.en.length (r.en.map fun e=>ptr e.b)::((r.eo.map (En0.res 161 1)++(r.en.map (En0.res 161 2)++(r.ex.map (En0.res 161 4)++r.ix.flatMap (IxS.res 197 158))))++L0)) c:=H
  have hcn:=hr.cnt
  obtain ⟨x4,hx4⟩:=getq (xs:=r.cnt) (k:=4) (by omega)
  (refine dw_start H HA ?_)
  (repeat (first|refine Dc ?_|refine Dm ?_))
  (apply dw_cons;(focus ((intro B _ Lx c H HA;(repeat (first|rintro vx rfl|(intro vx hx;have HA:=HA.addSF hx;clear hx)|(intro vx hx;have HA:=HA.add hx;clear hx)|intro vx));change W _ _ _ _ _ _ _);(refine s_ixArr (i:=4) (o':=4+4) rfl Prim.sz rfl rfl rfl (by omega) (by omega) ?_);exact Dx));exact inferInstance)
  (apply dw_cons;(focus ((intro B _ Lx c H HA;(repeat (first|rintro vx rfl|(intro vx hx;have HA:=HA.addSF hx;clear hx)|(intro vx hx;have HA:=HA.add hx;clear hx)|intro vx));change W _ _ _ _ _ _ _);(refine s_loadOP rfl rfl H Ow (relC_cnt hx4) ?_);exact Dx));exact inferInstance)
  (apply dw_cons;(focus ((intro B _ Lx c H HA;(repeat (first|rintro vx rfl|(intro vx hx;have HA:=HA.addSF hx;clear hx)|(intro vx hx;have HA:=HA.add hx;clear hx)|intro vx));change W _ _ _ _ _ _ _);(refine s_add rfl rfl rfl rfl ?_);exact Dx));exact inferInstance)
  (repeat (first|refine Dc ?_|refine Dm ?_))
  (apply dw_cons;(focus ((intro B _ Lx c H HA;(repeat (first|rintro vx rfl|(intro vx hx;have HA:=HA.addSF hx;clear hx)|(intro vx hx;have HA:=HA.add hx;clear hx)|intro vx));change W _ _ _ _ _ _ _);(refine s_ixArr (i:=4) (o':=4+4) rfl Prim.sz rfl rfl rfl (by omega) (by omega) ?_);exact Dx));exact inferInstance)
  (refine dw_done mixed H HA rfl (by kernel_rfl) ?_;clear H HA;intro c H HA;(repeat (first|rintro vx rfl|(intro vx hx;have HA:=HA.addSF hx;clear hx)|(intro vx hx;have HA:=HA.add hx;clear hx)|intro vx));change W _ _ _ _ _ _ _)
  have hcn2 : (r.cnt.set 4 (IntKind.i64.wrap (x4+1))).length=8:=by simpa using hcn
  (refine s_storeP rfl rfl rfl H HA rfl (relC_put (by omega)) ?_;intro c H HA)
  generalize r.cnt.set 4 (IntKind.i64.wrap (x4+1))=cnt2 at H hcn2
  (apply Y0;apply wc_seq;apply Y1;refine Z0 ?_;(refine s_nilCheck rfl rfl ?_);refine Z3 ?_)
  refine s_loadOP rfl rfl H (.head _) (relC_mi hcn2) ?_
  refine s_rangeKO rfl rfl H (.tail _ (.tail _ (.tail _ (.tail _ (.head _))))) HA ?_
  intro rx c H HA
  (apply Y0;apply wc_block)
  have H : Owns c0 (.obj rx (itObj r.mi r.im.length [])::.obj r.mi (kObj Value.string r.im)::.obj eb (.cells [vx,.int .i64 4].toArray 161 (0,0))::(r.ix.flatMap (IxS.res 197 158) ++
   (.obj r.b (.cells (relC r.width r.mr r.mi r.fv nv cnt2).toArray 155 (0,0))::.row nv 158 1 (r.ex.length+1) ((r.ex.map fun e=>ptr e.b)++[ptr eb])::.obj r.mr (kObj Value.string (r.rm++[(rkS row,ptr eb)])) ::
   .row r.fv 158 1 r.en.length (r.en.map fun e=>ptr e.b)::(r.eo.map (En0.res 161 1)++(r.en.map (En0.res 161 2)++(r.ex.map (En0.res 161 4)++L0)))))) c:=H.perm Pm
  have himl : r.im.length=r.ix.length:=by simp [RlS.im]
  have hone:=hr.one
  refine wc_loopG (σ:=Bool×List IxS) (fun y=>bif y.1 then 0 else 1) (fun y=>[(7,ptr eb),(59,.pointer (some ⟨rx,0,none⟩))])
   (fun y=>(y.1=false∧y.2=r.ix)∨(y.1=true∧∃x v',r.ix=[x]∧y.2=[{ x with bk:=bkPut x.bk [0] v' eb }]))
   (fun y=>.obj rx (itObj r.mi r.im.length (bif y.1 then [0] else []))::.obj r.mi (kObj Value.string r.im)::.obj eb (.cells [vx,.int .i64 4].toArray 161 (0,0))::(y.2.flatMap (IxS.res 197 158) ++
   (.obj r.b (.cells (relC r.width r.mr r.mi r.fv nv cnt2).toArray 155 (0,0))::.row nv 158 1 (r.ex.length+1) ((r.ex.map fun e=>ptr e.b)++[ptr eb])::.obj r.mr (kObj Value.string (r.rm++[(rkS row,ptr eb)])) ::
   .row r.fv 158 1 r.en.length (r.en.map fun e=>ptr e.b)::(r.eo.map (En0.res 161 1)++(r.en.map (En0.res 161 2)++(r.ex.map (En0.res 161 4)++L0))))))
   (fun _=>Tt) (false,r.ix) H HA trivial Ks (.inl ⟨rfl,rfl⟩) ?_
  intro y g c hy H HA
  obtain ⟨dn,ixs⟩:=y
  dsimp only at hy H HA ⊢
  (apply Y1)
  refine s_nextKO rfl rfl H HA (.head _) ?_ ?_
  ·intro hall
   (refine Z32 ?_;apply Y0;apply wc_seq;refine Z19 ?_;apply wc_exit;apply wx_exit_then;apply wx_exit_then;apply wx_exit_same;apply wx_next;apply Y1;refine Z2 ?_;refine Z2 ?_;apply Y0;apply wc_ret)
   obtain ⟨e,he⟩ : ∃e : En0,e=⟨eb,vx,row⟩:=⟨_,rfl⟩
   have hix : ixs.map (fun x=>(rkS x.cols,ptr x.b))=r.im∧ixs.length≤1∧(∀x∈ixs,x.cols=[0]∧IxOk x.bk (r.all++[e]))∧∀x∈ixs,∃x'∈r.ix,x'.vc=x.vc∧x'.cols=x.cols:=by
    rcases hy with ⟨rfl,rfl⟩|⟨rfl,x,v',hx,rfl⟩
    ·have h0 : r.ix=[]:=by
      cases hz : r.ix with
      | nil=>rfl
      | cons a l =>
       have:=hall 0 (by rw [himl,hz];simp)
       cases this
     rw [h0]
     refine ⟨by rw [RlS.im,h0],by simp,?_,?_⟩
     ·intro x hx;cases hx
     ·intro x hx;cases hx
    ·obtain ⟨hxc,hxo⟩:=hr.ixo x (by rw [hx];exact .head _)
     refine ⟨by rw [RlS.im,hx];rfl,by simp,?_,?_⟩
     ·intro z hz
      rw [List.mem_singleton.1 hz]
      refine ⟨hxc,?_⟩
      have:=hxo.put (e:=e) (v:=v')
      rw [he] at this ⊢
      exact this
     ·intro z hz
      rw [List.mem_singleton.1 hz]
      exact ⟨x,by rw [hx];exact .head _,rfl,rfl⟩
   obtain ⟨hx1,hx2,hx3,hx4⟩:=hix
   have hcF : RlF r c:=Lk
   have hnew : ∀x∈r.all,x.row≠row:=fun x hx=>by
    have:=List.find?_eq_none.1 hfd x hx
    simpa using this
   have hok : RlOk (r.put e nv cnt2 ixs):=hr.put hcn2 (by rw [he];exact h1) (by rw [he];exact h2) (by rw [he];exact h3) (by rw [he];exact hnew) h5 hx2 hx3
   have H : Owns c0 ((r.put e nv cnt2 ixs).res 155 161 158 197++L0) c:=by
    have H:=H.drop
    refine H.perm ?_
    have e1 : (r.put e nv cnt2 ixs).rm=r.rm++[(rkS row,ptr eb)]:=by rw [RlS.rm,RlS.put_all,List.map_append,he];rfl
    have e2 : (r.put e nv cnt2 ixs).im=r.im:=hx1
    rw [RlS.res,e1,e2]
    show List.Perm _ (.obj r.b (.cells (relC r.width r.mr r.mi r.fv nv cnt2).toArray 155 (0,0))::.obj r.mr (kObj Value.string (r.rm++[(rkS row,ptr eb)]))::.obj r.mi (kObj Value.string r.im) ::
     .row r.fv 158 1 r.en.length (r.en.map fun e=>ptr e.b)::.row nv 158 1 (r.ex++[e]).length ((r.ex++[e]).map fun e=>ptr e.b)::((r.eo.map (En0.res 161 1)++(r.en.map (En0.res 161 2)++((r.ex++[e]).map (En0.res 161 4)++ixs.flatMap (IxS.res 197 158))))++L0))
    rw [List.length_append,List.length_singleton,List.map_append,List.map_append,he]
    show List.Perm _ (_::_::_::_::.row nv 158 1 (r.ex.length+1) ((r.ex.map fun e=>ptr e.b)++[ptr eb])::((_++(_++((_++[.obj eb (.cells [vx,.int .i64 4].toArray 161 (0,0))])++_)))++L0))
    exact Pm
   refine ret_fnX H Ca (outs2 Tryz.results59 Wh Wh) (.inr ⟨?_,rfl,e,nv,cnt2,ixs,by rw [he],hok,?_,rfl⟩)
   ·rintro ⟨x,hx,e1⟩
    exact hnew x hx e1
   ·refine ⟨?_,?_⟩
    ·intro x hx
     rw [RlS.put_all,List.mem_append,List.mem_singleton] at hx
     rcases hx with hx|rfl
     ·exact hcF.1 x hx
     ·rw [he]
      exact Lk
    ·intro x hx
     obtain ⟨x',hx',e1,e2⟩:=hx4 x hx
     rw [←e1,←e2]
     exact hcF.2 x' hx'
  ·intro i p c hi hni H HA
   have hil2 : i<r.im.length:=(List.getElem?_eq_some_iff.1 hi).1
   have hi0 : i=0:=by omega
   subst hi0
   obtain ⟨x,hx⟩ : ∃x,r.ix=[x]:=List.length_eq_one_iff.1 (by omega)
   rcases hy with ⟨rfl,rfl⟩|⟨rfl,_⟩
   ·have hp : p=(rkS x.cols,ptr x.b):=by
     rw [RlS.im,hx] at hi
     simpa using hi.symm
    subst hp
    (refine Z32 ?_;apply Y0;apply wc_seq;refine Z18 ?_;apply wc_skip;apply wx_next;apply wc_block;apply Y1)
    refine s_entryKO rfl rfl H (.tail _ (.head _)) (.head _) hi ?_
    (refine Z32 ?_;refine Z2 ?_;apply Y0;apply wc_region;refine Z0 ?_;refine Z0 ?_)
    have hcF : RlF r c:=Lk
    obtain ⟨hxc,hxo⟩:=hr.ixo x (by rw [hx];exact .head _)
    have hpk:=pick0 h2 hxc
    have hbl : ∀p∈x.bk,p.es.length<1099511627775:=by
     intro p hp
     rcases hxo with ⟨_,h0⟩|⟨v0,es,h0,hpm⟩
     ·rw [h0] at hp;cases hp
     ·rw [h0,List.mem_singleton] at hp
      subst hp
      have:=hpm.length_eq
      rw [List.length_map] at this
      show es.length<_
      omega
    rw [hx,List.flatMap_cons,List.flatMap_nil,List.append_nil] at H
    change Owns c0 (.obj rx (itObj r.mi r.im.length [0])::_) c at H
    have H : Owns c0 ((x.res 197 158++[EnS.res 161 ⟨eb,vx,row,4⟩])++(.obj rx (itObj r.mi r.im.length [0])::.obj r.mi (kObj Value.string r.im) ::
     .obj r.b (.cells (relC r.width r.mr r.mi r.fv nv cnt2).toArray 155 (0,0))::.row nv 158 1 (r.ex.length+1) ((r.ex.map fun e=>ptr e.b)++[ptr eb])::.obj r.mr (kObj Value.string (r.rm++[(rkS row,ptr eb)])) ::
     .row r.fv 158 1 r.en.length (r.en.map fun e=>ptr e.b)::(r.eo.map (En0.res 161 1)++(r.en.map (En0.res 161 2)++(r.ex.map (En0.res 161 4)++L0))))) c:=by
     refine H.perm ?_
     rw [EnS.res]
     exact Pm
    refine s_callX rfl rfl H HA (rel_indexAdd x ⟨eb,vx,row,4⟩ _ (hcF.2 x (by rw [hx];exact .head _)) Lk (by rw [hxc];intro i hi;rw [List.mem_singleton.1 hi];exact (List.getElem?_eq_some_iff.1 h2).1) h3 (by rw [hxc];decide) hbl) ?_
    intro v R c H HA
    obtain ⟨v',rfl⟩:=HA.h.1
    have HA:=HA.cut
    dsimp only at H
    rw [hpk] at H
    (apply w_nil;apply wx_norm_block)
    refine wx_loopG ((true,[{ x with bk:=bkPut x.bk [0] v' eb }])) (H.perm ?_) Cu trivial Ks (show (0:Nat)<1 by omega) (.inr ⟨rfl,x,v',hx,rfl⟩)
    dsimp only [cond]
    rw [List.flatMap_cons,List.flatMap_nil,List.append_nil,EnS.res]
    exact Pm
   ·exact absurd (List.mem_singleton.2 rfl) hni
end Go.Proofs.YtnppmeeibbefbaaGreatDoor
namespace Go.Wk
open Go Go.RowKit
def RlS.none_ (b mr mi w:Nat) : RlS:={ b:=b,mr:=mr,mi:=mi,width:=w,fv:=.slice none 0 0,nv:=.slice none 0 0,cnt:=[0,0,0,0,0,0,0,0],eo:=[],en:=[],ex:=[],ix:=[] }
theorem RlOk.none_ {b mr mi w:Nat} (h:w<1073741824) : RlOk (RlS.none_ b mr mi w):=by
 have e : (RlS.none_ b mr mi w).all=[]:=rfl
 refine ⟨rfl,?_,?_,?_,?_,?_,h,Nat.zero_le _,?_⟩
 ·rw [e];intro e h;cases h
 ·rw [e];intro e h;cases h
 ·rw [e];intro e h;cases h
 ·rw [e];exact List.nodup_nil
 ·rw [e];decide
 ·intro x h;cases h
theorem RlF.none_ (b mr mi w:Nat) (c:Cx) : RlF (RlS.none_ b mr mi w) c:=⟨fun e h=>(by cases h),fun x h=>(by cases h)⟩
theorem outs3 {P:Program} {fn:Func} {f:Nat→Value} {w:World} {v v' v'':Value} {t t' t'':Tmp} (h:fn.results=#[.tmp t,.tmp t',.tmp t'']) (hv:f t=v) (hv':f t'=v') (hv'':f t''=v'') : Outs P fn f w (.tuple #[v,v',v'']):=fun tmps ht=>by
 subst hv hv' hv''
 simp [results,h,ht]
theorem vals_int1 {vals:List (List Value)} {q:Int} {c:Cx} (h:Vals vals ([]++[q]) c) : vals=[[.int .i64 q]]:=by
 obtain ⟨h1,h2⟩:=h
 match vals,h1 with
 | [cs],_ =>
  have h3 : cs=[.int .i64 q]:=h2 0 cs q rfl rfl
  rw [h3]
end Go.Wk
namespace Go.Proofs.YtnppmeeibbefbaaGreatDoor
open Go Go.Wk Go.RowKit Go.Sort
instance : Ent Tryz.prog 57:=.of Tryz.func57 (by kernel_rfl) (by kernel_rfl)
instance : Ent Tryz.prog 173:=.of Tryz.func173 (by kernel_rfl) (by kernel_rfl)
instance : Ent Tryz.prog 188:=.of Tryz.func188 (by kernel_rfl) (by kernel_rfl)
instance : MapT Tryz.prog 74 3:=⟨3,.i64,by kernel_rfl,by kernel_rfl⟩
theorem rel_New (w:Nat) (hw:w<1073741824) (c:Cx) : CnTX Tryz.prog 57 [.int .i64 w] [] c
  (fun v R _=>∃b mr mi,v=.tuple #[ptr b,.int .i64 0]∧R=(RlS.none_ b mr mi w).res 155 161 158 197):=by
 refine CnTX.of Tryz.func57 Tryz.ntmps57 rfl rfl fun c0 L0 A0 _ H HA=>?_
 (repeat' (first|refine Z0 ?_|refine Z2 ?_|apply w_nil|apply wc_seq|apply wc_region|apply wx_next|refine Z18 ?_|refine Z19 ?_|apply wc_ret|apply wc_skip|apply wx_ret_then|refine Z93 (fun hq=>?_) fun hq=>?_))
 ·exfalso;omega
 (refine s_makeK ByteArray Value.string rfl H HA ?_;intro mr c H HA)
 (refine s_makeK ByteArray Value.string rfl H HA ?_;intro mi c H HA)
 (refine Z54 ?_)
 (refine s_boxO (cs:=relC w mr mi (.slice none 0 0) (.slice none 0 0) [0,0,0,0,0,0,0,0]) rfl (by rfl) H HA ?_;intro b c H HA)
 (refine Z2 ?_;refine Z2 ?_;apply Y0;apply wc_ret)
 have H:=(H.nilRow 158 1).nilRow 158 1
 have H : Owns c0 ((RlS.none_ b mr mi w).res 155 161 158 197++L0) c:=by
  refine H.perm ?_
  show List.Perm _ (.obj b (.cells (relC w mr mi (.slice none 0 0) (.slice none 0 0) [0,0,0,0,0,0,0,0]).toArray 155 (0,0))::.obj mr (kObj Value.string [])::.obj mi (kObj Value.string [])::.row (.slice none 0 0) 158 1 0 []::.row (.slice none 0 0) 158 1 0 []::L0)
  exact Pm
 exact ret_fnX H Ca (outs2 Tryz.results57 rfl Wh) ⟨b,mr,mi,rfl,rfl⟩
theorem sort_one (v:Value) (q:Int) (c:Cx) : CnT Tryz.prog 188 [v] [.row v 3 1 1 [.int .i64 q]] [.row v 3 1 1 [.int .i64 q]] c (fun r _=>r=.tuple #[]):=by
 intro c0 L A _ H HA
 have H : Owns c0 (.row v 3 1 1 [.int .i64 q]::L) c:=H
 obtain ⟨g,cap,cur,hv,hb,hmc,hsz,htk⟩:=row_blk H (.head _) (by omega)
 have hg : g<c.w.heap.size:=(Array.getElem?_eq_some_iff.1 hb).1
 have h0 : cur.toList[0]?=some (.int .i64 q):=by
  have e : (cur.toList.take (1*1))[0]?=some (.int .i64 q):=by rw [htk];rfl
  rw [List.getElem?_take,if_pos (by omega)] at e
  exact e
 have hH : Holds (Value.int .i64) c.w g 0 #[q]:=by
  intro j hj
  have hj0 : j=0:=by simp at hj;omega
  subst hj0
  refine ⟨?_,by simp [World.frozen?,hb]⟩
  simp only [World.cell?,hb,Nat.zero_add,Option.isSome_none,Bool.false_eq_true,if_false]
  simpa using h0
 have h1:=Tryz.slices_Sort_int g 0 cap [q] c.w hH hg (by simp)
 rw [hv]
 refine Calls.mono h1 ?_
 rintro e w' ⟨rfl,n,os,rfl⟩
 have hH2 : Holds (Value.int .i64) (Sort.ahead c.w n) g 0 #[q]:=hH
 have e1 : (([q]:List Int).mergeSort fun x y=>decide (x≤y)).toArray=#[q]:=by simp
 rw [e1,putRow_self _ _ _ _ _ hH2]
 have hx : Ext0 c.w (grow (Sort.ahead c.w n) os):=by
  refine ⟨rfl,rfl,rfl,?_,?_,?_⟩
  ·simp [grow,Sort.ahead]
  ·simp [grow,Sort.ahead]
  ·intro b hb'
   simp only [grow,Sort.ahead]
   rw [Array.getElem?_append_left hb']
 refine ⟨_,rfl,⟨_,c.M⟩,rfl,?_,?_⟩
 ·exact hv▸H.of_ext hx
 ·exact (HA.to (Le.of_ext hx)).add rfl
theorem rel_question (r:RlS) (cv kv:Value) (hw:1≤r.width) (hwl:r.width<1073741824) (c:Cx) (h1:Sl cv [(0:Int)] c) (h2:Sl kv [(0:Int)] c) :
  CnTX Tryz.prog 173 [ptr r.b,cv,kv] (r.res 155 161 158 197) c
   (fun v R c=>R=r.res 155 161 158 197∧∃lv wv,v=.tuple #[lv,wv,.bool true]∧Sl lv [(0:Int)] c∧Sl wv [(0:Int)] c):=by
 refine CnTX.of Tryz.func173 Tryz.ntmps173 rfl rfl fun c0 L0 A0 _ H HA=>?_
 have HA:=(HA.add h1).add h2
 have hw0 : (relC r.width r.mr r.mi r.fv r.nv r.cnt)[0]?=some (.int .i64 r.width):=rfl
 (repeat' (first|refine Z0 ?_|refine Z2 ?_|apply w_nil|apply wc_seq|apply wc_region|apply wx_next|refine Z18 ?_|refine Z19 ?_|apply wc_ret|apply wc_skip|apply wc_block|apply wx_ret_then|refine Z45 ?_|refine Z65 fun mx c H HA=>?_|refine Z94 (fun hq=>?_) fun hq=>?_))
 ·exfalso;exact hq rfl
 have H:=H.nilR Int 3 1
 rename_i mx c _
 have H : Owns c0 (.row (.slice none 0 0) 3 1 ([]:List Int).length ([]:List (List Value)).flatten::.obj mx (mObj [])::(r.res 155 161 158 197++L0)) c:=H
 refine wc_loopG (σ:=Bool×Value) (fun y=>bif y.1 then 0 else 1) (fun y=>[(0,ptr r.b),(2,kv),(9,.map (some mx)),(10,y.2),(24,cv),(25,.int .i64 1),(26,.int .i64 ((bif y.1 then 1 else 0:Nat):Int))]) (fun _=>True)
  (fun y=>.row y.2 3 1 (bif y.1 then [(0:Int)] else []).length (bif y.1 then [[Value.int .i64 0]] else []).flatten::.obj mx (mObj (bif y.1 then [(0,.int .i64 0)] else []))::(r.res 155 161 158 197++L0)) (fun _=>Tt) (false,.slice none 0 0) H HA trivial Ks trivial ?_
 intro y g c hy H HA
 obtain ⟨dn,vl⟩:=y
 dsimp only at H HA ⊢
 cases dn with
 | false =>
  dsimp only [cond] at H HA ⊢
  have h00 : ([(0:Int)]:List Int)[0]?=some 0:=rfl
  have HA:=HA.add (Vals.nil (α:=Int) c)
  (repeat' (first|refine Z0 ?_|refine Z2 ?_|refine Z3 ?_|refine Z4 ?_|refine Z5 ?_|refine Z8 ?_|apply w_nil|apply wc_seq|apply wc_region|apply wx_next|refine Z18 ?_|refine Z19 ?_|apply wc_ret|apply wc_exit|apply wc_skip|apply wc_block|apply wx_ret_then|apply wx_exit_then|apply wx_exit_same|apply wx_ret_block|refine Z30 ?_|refine Z32 ?_|refine Z33 ?_|refine Z34 HA fun vx HA=>?_|refine Z36 ?_|refine Z41 ?_|refine Z56 fun vx c H HA=>?_|refine Z66 ?_|refine Z69 fun c H HA=>?_|refine Z93 (fun hq=>?_) fun hq=>?_|refine Z97 (fun hq=>?_) fun hq=>?_|(refine s_nilCheck rfl rfl ?_)))
  ·exfalso;omega
  ·exfalso;omega
  ·have H:=H.swap
   (refine Z59 fun vx c valsx H HA=>?_;refine Z2 ?_;apply w_nil;apply wx_norm_block;apply wx_next;apply wc_region;refine Z46 ?_;refine Z0 ?_;apply w_nil)
   rw [vals_int1 (Lk:Vals valsx ([]++[(0:Int)]) c)] at H
   exact wx_loopG ((true,vx)) H Cu trivial Ks (show (0:Nat)<1 by omega) trivial
  ·exfalso;omega
 | true =>
  dsimp only [cond] at H HA ⊢
  (repeat' (first|refine Z0 ?_|apply w_nil|apply wc_seq|apply wc_region|apply wx_next|refine Z18 ?_|refine Z19 ?_|apply wc_exit|apply wc_skip|apply wc_block|apply wx_exit_then|apply wx_exit_same|refine Z93 (fun hq=>?_) fun hq=>?_))
  ·exfalso;omega
  have H : Owns c0 ([.row vl 3 1 1 [.int .i64 0]]++(.obj mx (mObj [(0,.int .i64 0)])::(r.res 155 161 158 197++L0))) c:=H
  (refine s_callT (pre:=[.row vl 3 1 1 [.int .i64 0]]) (post:=[.row vl 3 1 1 [.int .i64 0]]) rfl rfl H HA (sort_one vl 0 _) ?_;intro vx c H HA)
  have HA:=HA.cut
  have H : Owns c0 (.row vl 3 1 ([(0:Int)]).length ([[Value.int .i64 0]]:List (List Value)).flatten::(.obj mx (mObj [(0,.int .i64 0)])::(r.res 155 161 158 197++L0))) c:=H
  have HA:=HA.add (vals_single (cs:=[Value.int .i64 0]) (y:=(0:Int)) (c:=c) rfl)
  (refine w_freezeRow H HA Lk rfl rfl (by decide) ?_;intro c H HA)
  (apply Y2;refine Z2 ?_;apply Y0;apply wc_seq;apply Y1;refine Z0 ?_;refine Z45 ?_;refine Z0 ?_;apply Y0;apply wc_block)
  have H:=H.nilR Int 3 1
  rename_i c _ _ _
  refine wc_loopG (σ:=Bool×Value) (fun y=>bif y.1 then 0 else 1) (fun y=>[(9,.map (some mx)),(10,vl),(15,y.2),(71,vl),(72,.int .i64 1),(73,.int .i64 ((bif y.1 then 1 else 0:Nat):Int))]) (fun _=>True)
   (fun y=>.row y.2 3 1 (bif y.1 then [(0:Int)] else []).length (bif y.1 then [[Value.int .i64 0]] else []).flatten::.obj mx (mObj [(0,.int .i64 0)])::(r.res 155 161 158 197++L0)) (fun _=>Tt) (false,.slice none 0 0) H HA trivial Ks trivial ?_
  intro y g c hy H HA
  obtain ⟨dn,vk⟩:=y
  dsimp only at H HA ⊢
  have h00 : ([(0:Int)]:List Int)[0]?=some 0:=rfl
  cases dn with
  | false =>
   dsimp only [cond] at H HA ⊢
   have HA:=HA.add (Vals.nil (α:=Int) c)
   (repeat' (first|refine Z0 ?_|refine Z2 ?_|apply w_nil|apply wc_seq|apply wc_region|apply wx_next|refine Z18 ?_|refine Z19 ?_|apply wc_ret|apply wc_exit|apply wc_skip|apply wc_block|apply wx_exit_then|apply wx_exit_same|apply wx_norm_block|refine Z34 HA fun vx HA=>?_|refine Z36 ?_|refine Z46 ?_|refine Z56 fun vx c H HA=>?_|refine Z59 fun vx c valsx H HA=>?_|refine Z67 ?_|refine Z93 (fun hq=>?_) fun hq=>?_))
   ·rw [vals_int1 (Lk:Vals valsx ([]++[(0:Int)]) c)] at H
    exact wx_loopG ((true,vx)) H Cu trivial Ks (show (0:Nat)<1 by omega) trivial
   ·exfalso;omega
  | true =>
   dsimp only [cond] at H HA ⊢
   (apply Y1;refine Z81 ?_;apply Y0;apply wc_seq;refine Z19 ?_;apply wc_exit;apply wx_exit_then;apply wx_exit_then;apply wx_exit_same;apply wx_next;apply Y1;refine Z0 ?_;refine Z0 ?_;refine Z2 ?_;refine Z2 ?_;refine Z2 ?_;apply Y0;apply wc_ret)
   have HA:=HA.add (vals_single (cs:=[Value.int .i64 0]) (y:=(0:Int)) (c:=c) rfl)
   (refine wx_freezeRow H HA Lk rfl rfl (by decide) ?_;intro c H HA)
   have H:=H.drop
   exact ret_fnX H Ca (outs3 Tryz.results173 Wh Wh Wh) ⟨rfl,vl,vk,rfl,Lk,Lk⟩
end Go.Proofs.YtnppmeeibbefbaaGreatDoor
namespace Go.Wk
open Go Go.RowKit
section
variable {r : Option Nat} {ds : List Deferred} {P : Program} {Q : Exit → Act → World → Prop} {n : Nat} {f : Nat → Value} {w : World}
theorem wl_defer {ops:Array Oper} {rest:List Oper} {ty:TypeId} {ps:String} {af:Array Edge} {os:Array Operand} {aT:Array TypeId} {g:FuncId} {vs:List Value} (hargs:os.toList.map (opd f)=vs)
  (k:WL none (⟨.fn (.func g) #[],vs.toArray⟩::ds) P ops Q rest n f w) : WL none ds P ops Q (⟨none,.defer ⟨.value (.func g),os,aT⟩,ty,ps,af,none⟩::rest) n f w:=⟨fun a ha=>by
 unfold wpListIn
 rw [if_pos (by simp [Region.wanted])]
 refine ⟨fun f' _=>fenceR_fn none f',?_⟩
 have hrun : (Oper.semAt (fenceR none).round (wd ds a).eval ⟨none,.defer ⟨.value (.func g),os,aT⟩,ty,ps,af,none⟩).run P w=.ok (.defer ⟨.fn (.func g) #[],vs.toArray⟩) w:=by
  rw [fenceR_round,Oper.semAt_none,wd_eval ha]
  subst hargs
  simp [execOp,resolve,Deferred.ofValue,show opd f (.func g)=.func (.func g) #[] #[] from rfl,←Array.toList_map]
 rw [hrun]
 exact k.go a ha⟩
theorem wl_cut (k:Nat) {ops:Array Oper} {l:List Oper} (hnd:(l.take k).all noDef=true) (h:W P ops (QN n fun f' w'=>WL r ds P ops Q (l.drop k) n f' w') (l.take k) n f w) : WL r ds P ops Q l n f w:=by
 have h2:=wl_pre (r:=r) (ds:=ds) (Q:=Q) (l2:=l.drop k) _ hnd h fun f' w' hR=>hR
 rwa [List.take_append_drop] at h2
def LoopX (ds:List Deferred) (n:Nat) (I:Nat→(Nat→Value)→Cx→Prop) (m:Nat) : Act→World→Prop:=fun a w=>∃m' f' c' a',m'<m∧FrIs n f' a'∧a=wd ds a'∧c'.w=w∧I m' f' c'
theorem wgx_loop {I:Nat→(Nat→Value)→Cx→Prop} {m m':Nat} {c:Cx} (hm:m'<m) (h:I m' f c) : WGX ds (Exit.then (LoopX ds n I m) Q) .normal n f c.w:=⟨fun a ha=>⟨m',f,c,a,hm,ha,rfl,rfl,h⟩⟩
theorem wg_loop {x:Code} {c:Cx} (I:Nat→(Nat→Value)→Cx→Prop) (m:Nat) (h0:I m f c) (round:∀m f c,I m f c→WG r ds P x (Exit.then (LoopX ds n I m) Q) n f c.w) : WG r ds P (.loop x) Q n f c.w:=by
 refine ⟨fun a ha=>?_⟩
 intro b k cs hro hb hr
 have key : ∀m,∀f (c:Cx) a,FrIs n f a→I m f c →
   ∃e a' w',Q e a' w'∧ArrivesIn (Machine.fenced P (fenceR r)) P (lone (b.atR (wd ds a) (.code x::.inLoop x::k)) cs c.w) b k cs e a' w':=by
  intro m
  induction m using Nat.strongRecOn with
  | _ m ih =>
   intro f c a ha hI
   obtain ⟨e,a₁,w₁,hq,harr⟩:=(round m f c hI).go a ha b (.inLoop x::k) cs hro hb hr
   cases e with
   | normal =>
    obtain ⟨m',f',c',a',hlt,ha',rfl,rfl,hI'⟩:=hq
    obtain ⟨e₂,a₂,w₂,hq₂,harr₂⟩:=ih m' hlt f' c' a' ha' hI'
    exact ⟨e₂,a₂,w₂,hq₂,.of_steps (StepsIn.trans harr (.one (fenced_calm hb hr rfl) stepR_inLoop)) harr₂⟩
   | exit id=>exact ⟨_,a₁,w₁,hq,.pass (x:=.inLoop x) rfl (fun _ _=>.inl (by simp)) harr⟩
   | goto l=>exact ⟨_,a₁,w₁,hq,.pass (x:=.inLoop x) rfl (fun _ _=>.inl (by simp)) harr⟩
   | ret=>exact ⟨_,a₁,w₁,hq,.pass (x:=.inLoop x) rfl (fun _ _=>.inl (by simp)) harr⟩
   | panic ch=>exact ⟨_,a₁,w₁,hq,.pass (x:=.inLoop x) rfl (fun _ _=>.inl (by simp)) harr⟩
   | outgrown=>exact ⟨_,a₁,w₁,hq,.pass (x:=.inLoop x) rfl (fun _ _=>.inl (by simp)) harr⟩
 obtain ⟨e,a',w',hq,harr⟩:=key m f c a ha h0
 exact ⟨e,a',w',hq,.of_steps (.one (fenced_calm hb hr rfl) stepR_loop) harr⟩
def LGX {σ:Type} (ds:List Deferred) (n:Nat) (ms:σ→Nat) (kf:σ→List (Nat×Value)) (p:σ→Prop) (lr:σ→List Res) (bf:σ→Cx→Prop) (c0:Cx) (A:Cx→Prop) (s:σ) : Act→World→Prop:=LoopX ds n (fun m f c=>∃s,LGI ms kf p lr bf c0 A m f c s) (ms s)
variable {c0 c : Cx} {A : Cx → Prop} {σ : Type}
theorem wg_loopG {x:Code} (ms:σ→Nat) (kf:σ→List (Nat×Value)) (p:σ→Prop) (lr:σ→List Res) (bf:σ→Cx→Prop) (s0:σ) (H:Owns c0 (lr s0) c) (HA:Hd A c) (hb:bf s0 c) (hkf:KS f (kf s0)) (hp:p s0)
  (round:∀s g c,p s→Owns c0 (lr s) c→Hd (fun c=>bf s c∧A c) c→WG r ds P x (Exit.then (LGX ds n ms kf p lr bf c0 A s) Q) n (updA g (kf s)) c.w) : WG r ds P (.loop x) Q n f c.w:=by
 refine wg_loop (fun m f c=>∃s,LGI ms kf p lr bf c0 A m f c s) (ms s0) ⟨s0,rfl,hkf,hp,H,HA.add hb⟩ ?_
 rintro m f c ⟨s,rfl,hk,hp,hO,hA⟩
 obtain ⟨g,rfl⟩:=hk.ex
 exact round s g c hp hO hA
theorem wgx_loopG {ms:σ→Nat} {kf:σ→List (Nat×Value)} {p:σ→Prop} {lr:σ→List Res} {bf:σ→Cx→Prop} {s:σ} (s':σ) (H:Owns c0 (lr s') c) (HA:Hd A c) (hb:bf s' c) (hkf:KS f (kf s')) (hm:ms s'<ms s) (hp:p s') : WGX ds (Exit.then (LGX ds n ms kf p lr bf c0 A s) Q) .normal n f c.w :=
 wgx_loop hm ⟨s',rfl,hkf,hp,H,HA.add hb⟩
end
/-! ### locks -/
section
variable {c0 c : Cx} {L : List Res} {A : Cx → Prop}
theorem Owns.setCell {b o:Nat} {cs:List Value} {T:TypeId} {v:Value} (H:Owns c0 (.obj b (.cells cs.toArray T (0,0))::L) c) (ho:o<cs.length) :
  ∃c',c'.w=c.w.setCell ⟨b,o,none⟩ v∧Le c c'∧Owns c0 (.obj b (.cells (cs.set o v).toArray T (0,0))::L) c':=by
 have hb : c.w.heap[b]?=some (.cells cs.toArray T (0,0)):=(H.res _ (List.mem_cons_self ..)).1
 have h2 : (c.w.setCell ⟨b,o,none⟩ v).heap[b]?=some (.cells (cs.set o v).toArray T (0,0)):=by
  rw [heap_setCell_same _ _ _ _ _ _ hb]
  simp
 have h:=H.turn (r':=.obj b (.cells (cs.set o v).toArray T (0,0))) (w':=c.w.setCell ⟨b,o,none⟩ v) rfl rfl rfl (Nat.le_refl _) (by simp) (fun x hx hne=>heap_setCell_other _ _ _ _ fun e=>hne (by rw [e];rfl)) h2 (fun x hx=>.inl hx)
 exact ⟨_,rfl,h.1,h.2⟩
theorem Owns.cellAt {b o:Nat} {cs:List Value} {T:TypeId} {v:Value} (H:Owns c0 (.obj b (.cells cs.toArray T (0,0))::L) c) (h:cs[o]?=some v) : c.w.cell? ⟨b,o,none⟩=some v∧c.w.frozen? ⟨b,o,none⟩=false:=by
 have hb : c.w.heap[b]?=some (.cells cs.toArray T (0,0)):=(H.res _ (List.mem_cons_self ..)).1
 refine ⟨?_,by simp [World.frozen?,hb]⟩
 rw [cell_of_row _ _ _ _ _ _ hb]
 simpa using h
section
variable {P : Program} {ops : Array Oper} {Q : Exit → Act → World → Prop} {n : Nat} {f : Nat → Value} {rest : List Oper} {ty : TypeId} {ps : String} {af : Array Edge} {d : Tmp}
theorem s_lock {M:Conc.Locks.MuLink} {os:Array Operand} {aT:Array TypeId} {g b o:Nat} {cs:List Value} {T:TypeId} (hM:Conc.Locks.MuLib P M) (hg:M.lock=g) (hn:Nat.blt d n=true) [Ent P g] (hargs:os.toList.map (opd f)=[.pointer (some ⟨b,o,none⟩)]) (H:Owns c0 (.obj b (.cells cs.toArray T (0,0))::L) c) (HA:Hd A c) [Mono A] (hv:cs[o]?=some (.int .i32 0))
  (k:∀c',Owns c0 (.obj b (.cells (cs.set o (.int .i32 1)).toArray T (0,0))::L) c'→Hd A c'→W P ops Q rest n (upd f d (.tuple #[])) c'.w) : W P ops Q (⟨some d,.call ⟨.value (.func g),os,aT⟩,ty,ps,af,none⟩::rest) n f c.w:=by
 obtain ⟨h1,h2⟩:=H.cellAt hv
 have hc:=MuLone.lock_free hM ⟨b,o,none⟩ c.w h1 h2
 rw [hg] at hc
 refine st_enter hn (g:=g) (args:=(os.toList.map (opd f)).toArray) (by simp [execOp,resolve,Deferred.ofValue,show opd f (.func g)=.func (.func g) #[] #[] from rfl,invoke,Ent.h,←Array.toList_map]) (R:=fun r w'=>r=.tuple #[]∧w'=c.w.setCell ⟨b,o,none⟩ (.int .i32 1)) (by rw [hargs];exact hc.mono fun en w' ⟨he,h⟩=>⟨_,he,rfl,h⟩) ?_
 rintro r w' ⟨rfl,rfl⟩
 obtain ⟨c',hw,hle,H'⟩:=H.setCell (v:=.int .i32 1) (List.getElem?_eq_some_iff.1 hv).1
 rw [←hw]
 exact k c' H' (HA.to hle)
end
section
variable {P : Program} {fn : Func} {n : Nat} {f : Nat → Value}
theorem wgx_unlock {M:Conc.Locks.MuLink} {g b o:Nat} {cs:List Value} {T:TypeId} {R:Ending→World→Prop} (hM:Conc.Locks.MuLib P M) (hg:M.unlock=g) [Ent P g] (H:Owns c0 (.obj b (.cells cs.toArray T (0,0))::L) c) (HA:Hd A c) [Mono A] (hv:cs[o]?=some (.int .i32 1))
  (k:∀c',Owns c0 (.obj b (.cells (cs.set o (.int .i32 0)).toArray T (0,0))::L) c'→Hd A c'→∃v,Outs P fn f c'.w v∧R (.returned v) c'.w) : WGX [⟨.fn (.func g) #[],[Value.pointer (some ⟨b,o,none⟩)].toArray⟩] (bodyPostD P fn R) .ret n f c.w:=by
 obtain ⟨h1,h2⟩:=H.cellAt hv
 have hc:=MuLone.unlock_deferred hM ⟨b,o,none⟩ .returning c.w h1 h2
 rw [hg] at hc
 obtain ⟨c',hw,hle,H'⟩:=H.setCell (v:=.int .i32 0) (List.getElem?_eq_some_iff.1 hv).1
 obtain ⟨v,ho,hR⟩:=k c' H' (HA.to hle)
 refine ⟨fun a ha=>?_⟩
 show Leaves P fn a.tmps R [⟨.fn (.func g) #[],[Value.pointer (some ⟨b,o,none⟩)].toArray⟩] .returning c.w
 refine ⟨(by intro h;cases h),.func g,#[],g,_,rfl,(by simp [invoke,Ent.h];rfl),?_⟩
 intro cf cs' hm
 obtain ⟨e,u',w',fr,⟨rfl,rfl,rfl⟩,h5,h6,h7⟩:=hc cf cs' hm
 refine ⟨_,_,_,fr,?_,h5,h6,h7⟩
 show Leaves P fn a.tmps R [] (settle .returning) _
 rw [←hw]
 exact ⟨v,ho _ ha.at_,hR⟩
variable {g : FuncId} {x : Code} {args : List Value}
theorem CnTX.ofD {pre:List Res} {Post:Value→List Res→Cx→Prop} (hf:P.funcs[g]?=some fn) (hn:fn.ntmps=n) (hb:fn.body=some x) (hl:Nat.ble args.length n=true)
  (h:∀(c0:Cx) (L:List Res) (A:Cx→Prop) [Mono A],Owns c0 (pre++L) c→Hd A c→WC P x (bodyPostD P fn (CnTXR c0 L A Post)) n (frame0 args) c.w) : CnTX P g args pre c Post :=
 fun c0 L A _ H HA=>calls_of_wp_defers hf hb (by subst hn;exact (h c0 L A H HA).go _ (frIs0 (Nat.le_of_ble_eq_true hl)))
end
end
end Go.Wk
namespace Go.Proofs
abbrev Tryz.muLink : Go.Conc.Locks.MuLink:={ lock:=189,unlock:=190,ilock:=196,iunlock:=197,lockSlow:=220,unlockSlow:=223,disable:=216,enable:=218,acquire:=219,relMerge:=221,cas32:=217,add32:=222,tMutex:=153,tIMutex:=151,tPMutex:=288,tPIMutex:=300,tPI32:=302,tUP:=188,tNoCopy:=148,tU32:=149 }
theorem Tryz.muLib : Go.Conc.Locks.MuLib Tryz.prog Tryz.muLink :=
 ⟨Tryz.func189,Tryz.func190,Tryz.func196,Tryz.func197,Tryz.func216,Tryz.func218,Tryz.func219,Tryz.func221,Tryz.func217,Tryz.func222,
 Tryz.underlying151,Tryz.runUnderlying151,Tryz.sizeOf151,Tryz.isAgg151,Tryz.zeroValue151,
 Tryz.underlying153,Tryz.runUnderlying153,Tryz.sizeOf153,Tryz.isAgg153,Tryz.zeroValue153,
 Tryz.underlying288,Tryz.runUnderlying288,Tryz.sizeOf288,Tryz.isAgg288,Tryz.zeroValue288,
 Tryz.underlying300,Tryz.runUnderlying300,Tryz.sizeOf300,Tryz.isAgg300,Tryz.zeroValue300,
 Tryz.underlying302,Tryz.runUnderlying302,Tryz.sizeOf302,Tryz.isAgg302,Tryz.zeroValue302,
 Tryz.underlying188,Tryz.runUnderlying188,Tryz.sizeOf188,Tryz.isAgg188,Tryz.zeroValue188,
 Tryz.underlying148,Tryz.runUnderlying148,Tryz.sizeOf148,Tryz.isAgg148,Tryz.zeroValue148,
 Tryz.underlying21,Tryz.runUnderlying21,Tryz.sizeOf21,Tryz.isAgg21,Tryz.zeroValue21,by kernel_rfl⟩
end Go.Proofs
namespace Go.Wk
open Go Go.RowKit
def RlS.er (tE:TypeId) (r:RlS) : List Res:=r.eo.map (En0.res tE 1)++(r.en.map (En0.res tE 2)++r.ex.map (En0.res tE 4))
theorem er_get {tE:TypeId} {r:RlS} {i:Nat} {e:En0} (h:r.all[i]?=some e) : ∃p : Nat,(r.er tE)[i]?=some (En0.res tE p e):=by
 have e0 : r.er tE=(r.eo.map (fun e=>(e,1))++(r.en.map (fun e=>(e,2))++r.ex.map (fun e=>(e,4)))).map fun (q:En0×Nat)=>En0.res tE q.2 q.1:=by
  simp [RlS.er,Function.comp_def]
 have e1 : r.all=(r.eo.map (fun e=>(e,1))++(r.en.map (fun e=>(e,2))++r.ex.map (fun e=>(e,4)))).map Prod.fst:=by
  simp [RlS.all,Function.comp_def]
 rw [e1,List.getElem?_map,Option.map_eq_some_iff] at h
 obtain ⟨q,hq,rfl⟩:=h
 exact ⟨q.2,by rw [e0,List.getElem?_map,hq];rfl⟩
def relH (w mr mi:Nat) (fv nv:Value) (cnt:List Int) : List Value:=(relC w mr mi fv nv cnt).set 13 (.int .i32 1)
theorem cnt8 {cnt:List Int} (h:cnt.length=8) : ∃a0 a1 a2 a3 a4 a5 a6 a7,cnt=[a0,a1,a2,a3,a4,a5,a6,a7]:=by
 match cnt,h with
 | [a0,a1,a2,a3,a4,a5,a6,a7],_=>exact ⟨_,_,_,_,_,_,_,_,rfl⟩
theorem relC_mu {w mr mi:Nat} {fv nv:Value} {cnt:List Int} (h:cnt.length=8) : (relC w mr mi fv nv cnt)[13]?=some (.int .i32 0):=by
 obtain ⟨a0,a1,a2,a3,a4,a5,a6,a7,rfl⟩:=cnt8 h
 rfl
theorem relH_mu {w mr mi:Nat} {fv nv:Value} {cnt:List Int} (h:cnt.length=8) : (relH w mr mi fv nv cnt)[13]?=some (.int .i32 1):=by
 obtain ⟨a0,a1,a2,a3,a4,a5,a6,a7,rfl⟩:=cnt8 h
 rfl
theorem relH_mi {w mr mi:Nat} {fv nv:Value} {cnt:List Int} (h:cnt.length=8) : (relH w mr mi fv nv cnt)[12]?=some (.map (some mi)):=by
 obtain ⟨a0,a1,a2,a3,a4,a5,a6,a7,rfl⟩:=cnt8 h
 rfl
theorem relH_back {w mr mi:Nat} {fv nv:Value} {cnt:List Int} (h:cnt.length=8) : (relH w mr mi fv nv cnt).set 13 (.int .i32 0)=relC w mr mi fv nv cnt:=by
 obtain ⟨a0,a1,a2,a3,a4,a5,a6,a7,rfl⟩:=cnt8 h
 rfl
def RlS.at_ (r:RlS) (ix:List IxS) : RlS:={ r with ix:=ix }
theorem RlOk.at_ {r:RlS} (h:RlOk r) {x:IxS} (h1:x.cols=[0]) (h2:IxOk x.bk r.all) : RlOk (r.at_ [x]) :=
 ⟨h.cnt,h.wd,h.hd,h.sm,h.nd,h.lim,h.wl,Nat.le_refl 1,fun y hy=>by
  rw [List.mem_singleton.1 hy]
  exact ⟨h1,h2⟩⟩
theorem IxOk.perm {bk:List BkS} {l l':List En0} (h:IxOk bk l) (hp:l.Perm l') : IxOk bk l':=by
 rcases h with ⟨rfl,rfl⟩|⟨v,es,rfl,h1⟩
 ·exact .inl ⟨hp.symm.eq_nil,rfl⟩
 ·exact .inr ⟨v,es,rfl,h1.trans (hp.map _)⟩
theorem seen_add {seen:List Nat} {i N:Nat} (h1:seen.Nodup) (h2:∀j∈seen,j<N) (hi:i<N) (hn:i∉seen) : (seen++[i]).Nodup∧(∀j∈seen++[i],j<N)∧N-(seen++[i]).length<N-seen.length:=by
 have h3 : (seen++[i]).Nodup:=by
  rw [List.nodup_append]
  exact ⟨h1,by simp,by rintro a ha _ (⟨⟩|⟨_,⟨⟩⟩) rfl;exact hn ha⟩
 have h4 : ∀j∈seen++[i],j<N:=fun j hj=>by
  simp only [List.mem_append,List.mem_singleton] at hj
  rcases hj with hj|rfl
  ·exact h2 j hj
  ·exact hi
 have h5:=nodup_lt N _ h3 h4
 refine ⟨h3,h4,?_⟩
 rw [List.length_append,List.length_singleton] at h5 ⊢
 omega
end Go.Wk
namespace Go.Proofs.YtnppmeeibbefbaaGreatDoor
open Go Go.Wk Go.RowKit
instance : Ent Tryz.prog 189:=.of Tryz.func189 (by kernel_rfl) (by kernel_rfl)
instance : Ent Tryz.prog 190:=.of Tryz.func190 (by kernel_rfl) (by kernel_rfl)
instance : Ent Tryz.prog 175:=.of Tryz.func175 (by kernel_rfl) (by kernel_rfl)
theorem rel_index (r:RlS) (cv:Value) (c:Cx) (hr:RlOk r) (hF:RlF r c) (h1:Sl cv [(0:Int)] c) :
  CnTX Tryz.prog 175 [ptr r.b,cv] (r.res 155 161 158 197) c
   (fun v R c=>∃x,v=ptr x.b∧RlOk (r.at_ [x])∧RlF (r.at_ [x]) c∧(x∈r.ix∨x.vc=cv)∧R=(r.at_ [x]).res 155 161 158 197):=by
 refine CnTX.ofD Tryz.func175 Tryz.ntmps175 rfl rfl fun c0 L0 A0 _ H HA=>?_
 have HA:=(HA.add hF).add h1
 have hc8:=hr.cnt
 (apply Y1;refine Z2 ?_;apply Y2;refine Z0 ?_;(refine s_nilCheck rfl rfl ?_);refine Z3 ?_)
 refine s_lock (M:=Tryz.muLink) (o:=13) Tryz.muLib rfl rfl rfl H HA (relC_mu hc8) ?_
 intro c H HA
 apply w_nil
 apply wx_next
 apply wc_seq
 apply wc_of_wg
 apply wg_regionL
 refine wl_cut 3 rfl ?_
 (refine Z0 ?_;(refine s_nilCheck rfl rfl ?_);refine Z3 ?_;apply w_nil;apply wx_qn)
 refine wl_defer (vs:=[Value.pointer (some ⟨r.b,13,none⟩)]) rfl ?_
 apply wl_nil
 refine wgx_nextW ?_
 (apply wg_seq;(apply wg_region;focus exact rfl);refine Z0 ?_)
 (refine s_call rfl rfl H HA (rel_key [0] cv _ Lk (by intro n hn;rw [List.mem_singleton.1 hn];decide) (by decide)) ?_;intro vx c H HP;have hvx:=HP.h.1;have HA:=HP.cut;subst hvx)
 (refine Z2 ?_;apply w_nil;apply wx_qw;apply wgx_next;apply wg_seq;(apply wg_region;focus exact rfl);refine Z0 ?_;(refine s_nilCheck rfl rfl ?_);refine Z3 ?_)
 have H : Owns c0 (.obj r.b (.cells (relH r.width r.mr r.mi r.fv r.nv r.cnt).toArray 155 (0,0))::.obj r.mr (kObj Value.string r.rm)::.obj r.mi (kObj Value.string r.im)::.row r.fv 158 1 r.en.length (r.en.map fun e=>ptr e.b)::.row r.nv 158 1 r.ex.length (r.ex.map fun e=>ptr e.b) ::
  (r.eo.map (En0.res 161 1)++(r.en.map (En0.res 161 2)++(r.ex.map (En0.res 161 4)++r.ix.flatMap (IxS.res 197 158))))++L0) c:=H
 refine s_loadOP rfl rfl H (.head _) (relH_mi hc8) ?_
 (refine Z0 ?_)
 have hone:=hr.one
 rcases hix : r.ix with _|⟨x,l⟩
 ·have him : r.im=[]:=by rw [RlS.im,hix];rfl
  rw [him] at H
  refine s_lookKFn (q:=rkS [0]) rfl rfl rfl H (.tail _ (.tail _ (.head _))) rfl ?_
  (repeat' (first|refine Z0 ?_|refine Z2 ?_|apply w_nil|(refine s_nilP rfl rfl ?_)|apply wg_seq|(apply wg_region;focus exact rfl)|apply wx_qw|apply wgx_next|(apply wg_condT;exact rfl)))
  (refine s_makeK ByteArray Value.string rfl H HA ?_;intro mx c H HA)
  (refine Z54 ?_)
  (refine s_boxO (cs:=[cv,.map (some mx)]) rfl (by rfl) H HA ?_;intro xb c H HA)
  (refine Z2 ?_;apply w_nil;apply wx_qw;apply wgx_next;apply wg_seq;apply wg_seq;(apply wg_region;focus exact rfl);refine Z0 ?_;(refine s_nilCheck rfl rfl ?_);refine Z3 ?_;refine Z41 ?_)
  have hrm : r.rm.length=r.all.length:=by simp [RlS.rm]
  refine s_rangeKO (es:=r.rm) rfl rfl H (.tail _ (.tail _ (.tail _ (.head _)))) HA ?_
  intro rx c H HA
  (apply w_nil;apply wx_qw;apply wgx_next;apply wg_block)
  have H : Owns c0 (.obj rx (itObj r.mr r.rm.length [])::.obj r.mr (kObj Value.string r.rm)::(IxS.res 197 158 ⟨xb,mx,cv,[0],[]⟩++(r.er 161 ++
   (.obj r.b (.cells (relH r.width r.mr r.mi r.fv r.nv r.cnt).toArray 155 (0,0))::.obj r.mi (kObj Value.string [])::.row r.fv 158 1 r.en.length (r.en.map fun e=>ptr e.b)::.row r.nv 158 1 r.ex.length (r.ex.map fun e=>ptr e.b)::L0)))) c:=by
   refine H.perm ?_
   rw [hix,RlS.er,List.flatMap_nil]
   show List.Perm _ (_::_::((Res.obj xb (.cells [cv,.map (some mx)].toArray 197 (0,0))::Res.obj mx (kObj Value.string [])::[])++_))
   exact Pm
  refine wg_loopG (σ:=List Nat×List En0×List BkS) (fun y=>r.rm.length-y.1.length) (fun y=>[(0,ptr r.b),(5,.string (rkS [0])),(6,ptr xb),(34,.pointer (some ⟨rx,0,none⟩))])
   (fun y=>y.2.1.map some=y.1.map (r.all[·]?)∧y.1.Nodup∧(∀i∈y.1,i<r.rm.length)∧IxOk y.2.2 y.2.1)
   (fun y=>.obj rx (itObj r.mr r.rm.length y.1)::.obj r.mr (kObj Value.string r.rm)::(IxS.res 197 158 ⟨xb,mx,cv,[0],y.2.2⟩++(r.er 161 ++
   (.obj r.b (.cells (relH r.width r.mr r.mi r.fv r.nv r.cnt).toArray 155 (0,0))::.obj r.mi (kObj Value.string [])::.row r.fv 158 1 r.en.length (r.en.map fun e=>ptr e.b)::.row r.nv 158 1 r.ex.length (r.ex.map fun e=>ptr e.b)::L0))))
   (fun _=>Tt) ([],[],[]) H HA trivial Ks ⟨rfl,List.nodup_nil,(fun _ h=>by cases h),.inl ⟨rfl,rfl⟩⟩ ?_
  intro y g c hy H HA
  obtain ⟨seen,acc,bk⟩:=y
  obtain ⟨hacc,hnd,hsl,hbk⟩:=hy
  dsimp only at hacc hnd hsl hbk H HA ⊢
  (apply wg_seq;(apply wg_region;focus exact rfl))
  refine s_nextKO rfl rfl H HA (.head _) ?_ ?_
  ·intro hall
   (refine Z32 ?_;apply w_nil;apply wx_qw;apply wgx_next;apply wg_seq;(apply wg_condF;exact rfl);apply wg_exit;apply wgx_exit_then;apply wgx_exit_then;apply wgx_exit_same;apply wgx_next;(apply wg_region;focus exact rfl);refine Z0 ?_;(refine s_nilCheck rfl rfl ?_);refine Z3 ?_)
   have hpa : acc.Perm r.all:=perm_of_seen hacc hnd (by rw [←hrm];exact hall) (by rw [←hrm];exact hsl)
   have hbk2:=hbk.perm hpa
   have H:=H.drop
   have H : Owns c0 (.obj r.mi (kObj Value.string [])::.obj r.b (.cells (relH r.width r.mr r.mi r.fv r.nv r.cnt).toArray 155 (0,0))::.obj r.mr (kObj Value.string r.rm)::.row r.fv 158 1 r.en.length (r.en.map fun e=>ptr e.b)::.row r.nv 158 1 r.ex.length (r.ex.map fun e=>ptr e.b) ::
    (r.er 161++(IxS.res 197 158 ⟨xb,mx,cv,[0],bk⟩++L0))) c:=H.perm Pm
   refine s_loadOP rfl rfl H (.tail _ (.head _)) (relH_mi hc8) ?_
   (refine Z0 ?_;refine Z0 ?_)
   (refine s_updK (q:=rkS [0]) (v:=ptr xb) rfl rfl rfl H HA ?_;intro c H HA)
   rw [kSet_new (by rfl)] at H
   (apply w_nil;apply wx_qw;apply wgx_next;apply wg_seq;(apply wg_region;focus exact rfl);refine Z0 ?_;refine Z2 ?_;apply w_nil;apply wx_qw;apply wgx_next;apply wg_ret)
   have H:=H.swap
   refine wgx_unlock (M:=Tryz.muLink) (o:=13) Tryz.muLib rfl H HA (relH_mu hc8) ?_
   intro c H HA
   rw [relH_back hc8] at H
   have hcF : RlF r c:=Lk
   have hcv : Sl cv [(0:Int)] c:=Lk
   have H : Owns c0 ((r.at_ [⟨xb,mx,cv,[0],bk⟩]).res 155 161 158 197++L0) c:=by
    refine H.perm ?_
    rw [RlS.er]
    show List.Perm _ ((.obj r.b (.cells (relC r.width r.mr r.mi r.fv r.nv r.cnt).toArray 155 (0,0))::.obj r.mr (kObj Value.string r.rm)::.obj r.mi (kObj Value.string ([]++[(rkS [0],ptr xb)])) ::
     .row r.fv 158 1 r.en.length (r.en.map fun e=>ptr e.b)::.row r.nv 158 1 r.ex.length (r.ex.map fun e=>ptr e.b)::(r.eo.map (En0.res 161 1)++(r.en.map (En0.res 161 2)++(r.ex.map (En0.res 161 4)++(IxS.res 197 158 ⟨xb,mx,cv,[0],bk⟩++[])))))++L0)
    exact Pm
   refine ⟨ptr xb,outs1 Tryz.results175 rfl,_,rfl,c,_,rfl,H,(Ca:Hd A0 c).add ⟨⟨xb,mx,cv,[0],bk⟩,rfl,hr.at_ rfl hbk2,?_,.inr rfl,rfl⟩⟩
   refine ⟨hcF.1,fun x hx=>?_⟩
   have hx : x∈[(⟨xb,mx,cv,[0],bk⟩:IxS)]:=hx
   rw [List.mem_singleton.1 hx]
   exact hcv
  ·intro i p c hi hni H HA
   have hil : i<r.rm.length:=(List.getElem?_eq_some_iff.1 hi).1
   obtain ⟨e,he⟩:=getq (xs:=r.all) (k:=i) (by omega)
   have hp : p=(rkS e.row,ptr e.b):=by
    rw [RlS.rm,List.getElem?_map,he] at hi
    simpa using hi.symm
   subst hp
   (refine Z32 ?_;apply w_nil;apply wx_qw;apply wgx_next;apply wg_seq;(apply wg_condT;exact rfl);apply wg_skip;apply wgx_next;apply wg_block;apply wg_seq;(apply wg_region;focus exact rfl))
   refine s_entryKO rfl rfl H (.tail _ (.head _)) (.head _) hi ?_
   (refine Z32 ?_;refine Z2 ?_;apply w_nil;apply wx_qw;apply wgx_next;(apply wg_region;focus exact rfl);refine Z0 ?_;refine Z0 ?_)
   obtain ⟨pt,hpt⟩:=er_get (tE:=161) he
   have hcF : RlF r c:=Lk
   have hem:=List.mem_of_getElem? he
   have hal : acc.length=seen.length:=by have:=congrArg List.length hacc;simpa using this
   have hsn:=nodup_lt _ _ hnd hsl
   have hlim:=hr.lim
   have hbl : ∀p∈bk,p.es.length<1099511627775:=by
    intro p hp
    rcases hbk with ⟨_,h0⟩|⟨v0,es,h0,hpm⟩
    ·rw [h0] at hp;cases hp
    ·rw [h0,List.mem_singleton] at hp
     subst hp
     have:=hpm.length_eq
     rw [List.length_map] at this
     show es.length<_
     omega
   have h0:=hr.hd e hem
   have H : Owns c0 ((IxS.res 197 158 ⟨xb,mx,cv,[0],bk⟩++[EnS.res 161 ⟨e.b,e.v,e.row,pt⟩])++(.obj rx (itObj r.mr r.rm.length (seen++[i]))::.obj r.mr (kObj Value.string r.rm)::((r.er 161).eraseIdx i ++
    (.obj r.b (.cells (relH r.width r.mr r.mi r.fv r.nv r.cnt).toArray 155 (0,0))::.obj r.mi (kObj Value.string [])::.row r.fv 158 1 r.en.length (r.en.map fun e=>ptr e.b)::.row r.nv 158 1 r.ex.length (r.ex.map fun e=>ptr e.b)::L0)))) c:=by
    refine H.perm ?_
    have hpp:=perm_pull hpt
    refine (List.Perm.cons _ (List.Perm.cons _ (List.Perm.append_left _ (hpp.append_right _)))).trans ?_
    show List.Perm (_::_::(_++((EnS.res 161 ⟨e.b,e.v,e.row,pt⟩::_)++_))) _
    exact Pm
   refine s_callX rfl rfl H HA (rel_indexAdd ⟨xb,mx,cv,[0],bk⟩ ⟨e.b,e.v,e.row,pt⟩ _ Lk (hcF.1 e hem) (by intro j hj;rw [List.mem_singleton.1 hj];exact (List.getElem?_eq_some_iff.1 h0).1) (hr.sm e hem) (show [0].length<1073741824 by decide) hbl) ?_
   intro v R c H HA
   obtain ⟨v',rfl⟩:=HA.h.1
   have HA:=HA.cut
   dsimp only at H
   rw [pick0 h0 rfl] at H
   (apply w_nil;apply wx_qw;apply wgx_norm_block)
   obtain ⟨g1,g2,g3⟩:=seen_add hnd hsl hil hni
   refine wgx_loopG (seen++[i],acc++[e],bkPut bk [0] v' e.b) (H.perm ?_) Cu trivial Ks g3 ⟨by simp [hacc,he],g1,g2,hbk.put⟩
   have hpp:=perm_pull hpt
   refine List.Perm.trans ?_ (List.Perm.cons _ (List.Perm.cons _ (List.Perm.append_left _ (hpp.symm.append_right _))))
   show List.Perm _ (_::_::(_++((EnS.res 161 ⟨e.b,e.v,e.row,pt⟩::_)++_)))
   exact Pm
 ·have hl : l=[]:=by
   rw [hix] at hone
   cases l with
   | nil=>rfl
   | cons a l=>simp at hone
  subst hl
  obtain ⟨hxc,hxo⟩:=hr.ixo x (by rw [hix];exact .head _)
  have him : r.im=[(rkS [0],ptr x.b)]:=by rw [RlS.im,hix,←hxc];rfl
  rw [him] at H
  refine s_lookKFs (q:=rkS [0]) (v:=ptr x.b) rfl rfl rfl H (.tail _ (.tail _ (.head _))) (by unfold kLook;simp) ?_
  (repeat' (first|refine Z0 ?_|refine Z2 ?_|apply w_nil|(refine s_nilP rfl rfl ?_)|apply wg_seq|(apply wg_region;focus exact rfl)|apply wx_qw|apply wgx_next|(apply wg_condF;exact rfl)|apply wg_ret|apply wg_skip))
  refine wgx_unlock (M:=Tryz.muLink) (o:=13) Tryz.muLib rfl H HA (relH_mu hc8) ?_
  intro c H HA
  rw [relH_back hc8,←him] at H
  have e : r.at_ [x]=r:=by rw [RlS.at_,←hix]
  have hcF : RlF r c:=Lk
  exact ⟨ptr x.b,outs1 Tryz.results175 rfl,_,rfl,c,r.res 155 161 158 197,rfl,H,(Ca:Hd A0 c).add ⟨x,rfl,by rw [e];exact hr,by rw [e];exact hcF,.inl (.head _),by rw [e]⟩⟩
end Go.Proofs.YtnppmeeibbefbaaGreatDoor
namespace Go.Wk
open Go Go.RowKit Go.Proofs Go.Shelf Go.Lib Go.Sort
def Vals1 {α:Type} [Enc α] (us:List Value) (xs:List α) (c:Cx) : Prop:=us.length=xs.length∧∀(i:Nat) (u:Value) (x:α),us[i]?=some u→xs[i]?=some x→Enc.Ok [u] x c
instance {α : Type} [Enc α] (us : List Value) (xs : List α) : Mono (Vals1 us xs):=⟨fun h k=>⟨k.1,fun i u x h1 h2=>(Enc.mono [u] x).mono h (k.2 i u x h1 h2)⟩⟩
theorem Vals1.vals {α:Type} [Enc α] {us:List Value} {xs:List α} {c:Cx} (h:Vals1 us xs c) : Vals (us.map fun u=>[u]) xs c:=⟨by rw [List.length_map];exact h.1,fun i cs x h1 h2=>by
 rw [List.getElem?_map,Option.map_eq_some_iff] at h1
 obtain ⟨u,hu,rfl⟩:=h1
 exact h.2 i u x hu h2⟩
theorem flat1 : ∀(us:List Value),(us.map fun u=>[u]).flatten=us
 | []=>rfl
 | u::us=>by rw [List.map_cons,List.flatten_cons,flat1 us];rfl
structure SortsQ1 (P:Program) (gs g:FuncId) : Prop where
 h : ∀(T:Type) [Inhabited T] (enc:T→Value) (cf:T→T→Int) (blk cap:Nat) (d:Array T) (w:World),SWO (ltOf cf)→OneCell enc→CmpLays1 P g #[] enc cf blk 0 d.size w→Holds enc w blk 0 d→blk<w.heap.size→d.size<4611686018427387904 →
  Calls P gs #[.slice (some ⟨blk,0,none⟩) d.size cap,.func (.func g) #[] #[]] w fun e w'=>e=.returned (.tuple #[])∧∃d' n os,PermIn 0 d.size d d'∧SortedIn (ltOf cf) 0 d.size d'∧w'=sortWorld enc w blk 0 n d' os
theorem sort_any1 {α:Type} [Enc α] {P:Program} {gs g:FuncId} (hS:SortsQ1 P gs g) (h00:∀p cap c,Cn P gs [.slice p 0 cap,.func (.func g) #[] #[]] c (fun v _=>v=.tuple #[])) {cmp:α→α→Int} (h3:P3 cmp)
  {c0 c:Cx} {L:List Res} {A:Cx→Prop} [Mono A] {v:Value} {e:TypeId} {us:List Value} {xs:List α} {good:α→Prop} (H:Owns c0 (.row v e 1 xs.length us::L) c) (HA:Hd A c) (HV:Vals1 us xs c) (hgood:∀x∈xs,good x)
  (hcmp:∀x y u1 u2 c',good x→good y→Enc.Ok [u1] x c'→Enc.Ok [u2] y c'→Hd A c'→Cn P g [u1,u2] c' (fun v _=>v=.int .i64 (cmp x y))) (hlim:xs.length<4611686018427387904) :
  Calls P gs #[v,.func (.func g) #[] #[]] c.w fun en w'=>en=.returned (.tuple #[])∧∃c' us' xs',c'.w=w'∧xs'.Perm xs∧xs'.Pairwise (fun a b=>cmp a b≤0)∧Owns c0 (.row v e 1 xs'.length us'::L) c'∧Hd A c'∧Vals1 us' xs' c'∧(xs'.zip us').Perm (xs.zip us):=by
 rcases Nat.eq_zero_or_pos xs.length with h0|hpos
 ·have hx : xs=[]:=List.eq_nil_of_length_eq_zero h0
  subst hx
  have hv : ∃p cap,v=.slice p 0 cap:=by
   rcases (H.res _ (List.mem_cons_self ..)).1.2 with ⟨rfl,_⟩|⟨g1,cap,cur,rfl,_⟩
   ·exact ⟨_,_,rfl⟩
   ·exact ⟨_,_,rfl⟩
  obtain ⟨p,cap,hv⟩:=hv
  have:=h00 p cap c H.mbd
  rw [←hv] at this
  refine this.mono ?_
  rintro en w' ⟨r,he,hx,hr⟩
  subst hr
  have hle:=Le.of_ext hx
  exact ⟨he,⟨w',c.M⟩,us,[],rfl,List.Perm.refl _,List.Pairwise.nil,H.of_ext hx,HA.to hle,Mono.mono hle HV,List.Perm.refl _⟩
 obtain ⟨g0,cap,cur,hv,hb,hmc,hsz,htk⟩:=row_blk H (List.mem_cons_self ..) hpos
 have hres:=H.res _ (List.mem_cons_self ..)
 have hM : c.M g0:=(hres.2 g0 (by rw [hv];rfl)).1
 have hlt : g0<c.w.heap.size:=(Array.getElem?_eq_some_iff.1 hb).1
 have hmax : cap≤maxLen:=by
  rcases hres.1.2 with ⟨h0,_⟩|⟨g3,cap3,cur3,h1,_,_,_,h4,_⟩
  ·rw [hv] at h0;simp at h0
  ·rw [hv] at h1;simp at h1;omega
 have hvl : us.length=xs.length:=HV.1
 let T:={p:α×Value // Enc.Ok [p.2] p.1 c∧good p.1}
 have mk : ∀i : Fin xs.length,Enc.Ok [us[i.1]'(by omega)] xs[i.1] c∧good xs[i.1]:=fun i =>
  ⟨HV.2 i.1 _ _ (List.getElem?_eq_getElem (by omega)) (List.getElem?_eq_getElem i.2),hgood _ (List.getElem_mem _)⟩
 let d : Array T:=Array.ofFn fun i : Fin xs.length=>⟨(xs[i.1],us[i.1]'(by omega)),mk i⟩
 have hds : d.size=xs.length:=by simp [d]
 haveI : Inhabited T:=⟨d[0]'(by omega)⟩
 let enc : T→Value:=fun p=>p.1.2
 have h1 : OneCell enc:=fun p=>Enc.one _ _ c p.2.1 p.1.2 (List.mem_singleton.2 rfl)
 have hdl : d.toList.map enc=us:=by
  apply List.ext_getElem?
  intro i
  by_cases hi : i<xs.length
  ·simp [d,enc,hi,hvl]
  ·rw [List.getElem?_eq_none (by simp [d];omega),List.getElem?_eq_none (by omega)]
 have hdx : d.toList.map (fun p=>p.1.1)=xs:=by
  apply List.ext_getElem?
  intro i
  by_cases hi : i<xs.length
  ·simp [d,hi]
  ·rw [List.getElem?_eq_none (by simp [d];omega),List.getElem?_eq_none (by omega)]
 have hH : Holds enc c.w g0 0 d:=by
  intro j hj
  rw [hds] at hj
  refine ⟨?_,by simp [World.frozen?,hb]⟩
  have e2 : cur.toList[j]?=some (enc d[j]!):=by
   have e3 : (cur.toList.take (xs.length*1))[j]?=some (enc d[j]!):=by
    rw [htk,←hdl,List.getElem?_map,Array.getElem?_toList,Array.getElem?_eq_getElem (by omega),getElem!_pos d j (by omega)]
    rfl
   rw [List.getElem?_take,if_pos (by omega)] at e3
   exact e3
  simp only [World.cell?,hb,Nat.zero_add,Option.isSome_none,Bool.false_eq_true,if_false]
  simpa using e2
 have hle : ∀(n:Nat) (dk:Array T) (os:Array Obj),Le c ⟨sortWorld enc c.w g0 0 n dk os,c.M⟩:=by
  intro n dk os
  refine ⟨rfl,rfl,rfl,?_,?_,fun b hb' hm=>⟨?_,hm⟩⟩
  ·simp [sortWorld,grow,putRow,mapBlock,Sort.ahead]
  ·simp [sortWorld,grow,putRow,mapBlock,Sort.ahead]
  ·have hne : g0≠b:=fun e=>hm (e▸hM)
   simp only [sortWorld,grow,putRow,mapBlock,Sort.ahead]
   rw [Array.getElem?_append_left (by simpa using hb'),Array.getElem?_modify,if_neg hne]
 have hcl : CmpLays1 P g #[] enc (fun p q:T=>cmp p.1.1 q.1.1) g0 0 d.size c.w:=by
  intro n os dk _ x y
  have hL:=hle n dk os
  have:=hcmp x.1.1 y.1.1 (enc x) (enc y) ⟨sortWorld enc c.w g0 0 n dk os,c.M⟩ x.2.2 y.2.2 ((Enc.mono _ _).mono hL x.2.1) ((Enc.mono _ _).mono hL y.2.1) (HA.to hL) (fun b hb'=>Nat.lt_of_lt_of_le (H.mbd b hb') hL.size)
  have h9 : #[enc x,enc y] ++ #[]=[enc x,enc y].toArray:=by simp
  rw [h9]
  refine this.mono ?_
  rintro en w' ⟨r,he,hx,hr⟩
  subst hr
  exact ⟨he,ext0_grow hx⟩
 have hcon:=hS.h T enc (fun p q:T=>cmp p.1.1 q.1.1) g0 cap d c.w (swo_p3 h3 fun p:T=>p.1.1) h1 hcl hH hlt (by rw [hds];exact hlim)
 rw [hds,←hv] at hcon
 refine hcon.mono fun en w' ⟨he,d',n,os,hp,hs,hw⟩=>⟨he,?_⟩
 let pr : T→α:=fun p=>p.1.1
 have hds' : d'.size=xs.length:=hp.1.trans hds
 have hL:=hle n d' os
 rw [←hw] at hL
 have hxl : (d'.toList.map pr).length=xs.length:=by simp [hds']
 have hw2 : w'.heap[g0]?=some (.cells (putCells enc 0 d' cur) e (0,0)):=by
  rw [hw]
  simp only [sortWorld,grow,putRow,mapBlock,Sort.ahead]
  rw [Array.getElem?_append_left (by simpa using hlt),Array.getElem?_modify,if_pos rfl,hb]
  rfl
 have hrow : w'.ownsRow 0 e 1 v (d'.toList.map pr).length (d'.toList.map enc):=by
  refine ⟨?_,.inr ⟨g0,cap,_,?_,Nat.zero_le _,hw2,?_,hmax,?_,?_⟩⟩
  ·simp
  ·rw [hxl];exact hv
  ·rw [hxl];exact hmc
  ·simp [putCells,hsz]
  ·rw [hxl]
   apply List.ext_getElem?
   intro j
   rw [List.getElem?_take]
   by_cases hj : j<xs.length*1
   ·rw [if_pos hj]
    have hjc : j<cur.size:=by omega
    have hjd : j<d'.size:=by omega
    simp only [Array.getElem?_toList,putCells,Array.getElem?_mapIdx,Array.getElem?_eq_getElem hjc,Option.map_some,Nat.zero_le,true_and,Nat.zero_add,hjd,if_true,Nat.sub_zero,List.getElem?_map,Array.getElem?_eq_getElem hjd,getElem!_pos d' j hjd]
   ·rw [if_neg hj,List.getElem?_eq_none (by simp [hds'];omega)]
 have hturn:=H.turn (r':=.row v e 1 (d'.toList.map pr).length (d'.toList.map enc)) (w':=w') hL.os hL.tape hL.output hL.drawn hL.size (fun b hb' hne=>by
  have hne2 : g0≠b:=fun e=>hne (by subst e;rw [Res.blk,hv];rfl)
  rw [hw]
  simp only [sortWorld,grow,putRow,mapBlock,Sort.ahead]
  rw [Array.getElem?_append_left (by simpa using hb'),Array.getElem?_modify,if_neg hne2]) hrow (fun b hb'=>.inl hb')
 refine ⟨_,d'.toList.map enc,d'.toList.map pr,rfl,?_,?_,hturn.2,HA.to hturn.1,?_,?_⟩
 ·have h2:=hp.2.2
  have e1 : (d'.extract 0 xs.length)=d':=by rw [←hds'];simp
  have e2 : (d.extract 0 xs.length)=d:=by rw [←hds];simp
  rw [e1,e2] at h2
  rw [←hdx]
  exact h2.map _
 ·rw [List.pairwise_iff_getElem]
  intro i j hi hj hij
  simp only [List.length_map,Array.length_toList] at hi hj
  have:=hs i j (Nat.zero_le _) hij (by rw [←hds'];exact hj)
  simp only [ltOf,decide_eq_false_iff_not] at this
  rw [getElem!_pos d' i hi,getElem!_pos d' j hj] at this
  simp only [List.getElem_map,Array.getElem_toList]
  have h8:=h3.neg (pr d'[i]) (pr d'[j])
  have h9 : ¬cmp (pr d'[j]) (pr d'[i])<0:=this
  omega
 ·refine ⟨by simp,fun i u x hc hx=>?_⟩
  simp only [List.getElem?_map,Option.map_eq_some_iff] at hc hx
  obtain ⟨p,hp1,rfl⟩:=hc
  obtain ⟨q,hq1,rfl⟩:=hx
  rw [hp1] at hq1
  cases hq1
  exact (Enc.mono _ _).mono hturn.1 p.2.1
 ·have h2:=hp.2.2
  have e1 : (d'.extract 0 xs.length)=d':=by rw [←hds'];simp
  have e2 : (d.extract 0 xs.length)=d:=by rw [←hds];simp
  rw [e1,e2] at h2
  have z1 : (d'.toList.map pr).zip (d'.toList.map enc)=d'.toList.map fun p=>p.1:=List.zip_map' ..
  have z2 : xs.zip us=d.toList.map fun p=>p.1:=by
   rw [←hdx,←hdl]
   exact List.zip_map' ..
  rw [z1,z2]
  exact h2.map _
section
variable {P : Program} {ops : Array Oper} {Q : Exit → Act → World → Prop} {n : Nat} {f : Nat → Value} {rest : List Oper} {ty : TypeId} {ps : String} {af : Array Edge} {d : Tmp}
variable {c0 c : Cx} {L : List Res} {A : Cx → Prop}
theorem s_sort1 {α:Type} [Enc α] {gs g:FuncId} (hS:SortsQ1 P gs g) (h00:∀p cap c,Cn P gs [.slice p 0 cap,.func (.func g) #[] #[]] c (fun v _=>v=.tuple #[])) [Ent P gs] {cmp:α→α→Int} (h3:P3 cmp) {os:Array Operand} {aT:Array TypeId}
  {v:Value} {e:TypeId} {us:List Value} {xs:List α} {good:α→Prop} (hn:Nat.blt d n=true) (hx:os.toList.map (opd f)=[v,.func (.func g) #[] #[]]) (H:Owns c0 (.row v e 1 xs.length us::L) c) (HV:Vals1 us xs c) (HA:Hd A c) [Mono A] (hgood:∀x∈xs,good x)
  (hcmp:∀x y u1 u2 c',good x→good y→Enc.Ok [u1] x c'→Enc.Ok [u2] y c'→Hd A c'→Cn P g [u1,u2] c' (fun v _=>v=.int .i64 (cmp x y))) (hlim:xs.length<4611686018427387904)
  (k:∀c' us' xs',(xs'.zip us').Perm (xs.zip us)→xs'.Perm xs→xs'.Pairwise (fun a b=>cmp a b≤0)→Owns c0 (.row v e 1 xs'.length us'::L) c'→Hd (fun c=>Vals1 us' xs' c∧A c) c'→W P ops Q rest n (upd f d (.tuple #[])) c'.w) :
  W P ops Q (⟨some d,.call ⟨.value (.func gs),os,aT⟩,ty,ps,af,none⟩::rest) n f c.w:=by
 have hc:=sort_any1 hS h00 h3 H HA HV hgood hcmp hlim
 refine st_enter hn (g:=gs) (args:=(os.toList.map (opd f)).toArray) (by simp [execOp,resolve,Deferred.ofValue,show opd f (.func gs)=.func (.func gs) #[] #[] from rfl,invoke,Ent.h,←Array.toList_map]) (R:=fun r w'=>r=.tuple #[]∧∃c' us' xs',c'.w=w'∧xs'.Perm xs∧xs'.Pairwise (fun a b=>cmp a b≤0)∧Owns c0 (.row v e 1 xs'.length us'::L) c'∧Hd A c'∧Vals1 us' xs' c'∧(xs'.zip us').Perm (xs.zip us)) (by rw [hx];exact hc.mono fun en w' ⟨he,h⟩=>⟨_,he,rfl,h⟩) ?_
 rintro r w' ⟨rfl,c',us',xs',rfl,h1,h2,h3,h4,h5,h6⟩
 exact k c' us' xs' h6 h1 h2 h3 (h4.add h5)
end
end Go.Wk
namespace Go.Wk
open Go Go.RowKit
structure SlI where
 row : List Nat
theorem Sl.slice1 {α:Type} [Enc α] {v:Value} {xs:List α} {c:Cx} (h:Sl v xs c) : v.oneCell'=true:=by
 obtain ⟨_,ad,cp,e,_⟩:=h
 rw [e]
 rfl
instance : Enc SlI where
 k:=1
 Ok cs x c:=∃v,cs=[v]∧Sl v (ints x.row) c
 mono cs x:=inferInstance
 len cs x c h:=by obtain ⟨v,rfl,_⟩:=h;rfl
 one cs x c h u hu:=by
  obtain ⟨v,rfl,hs⟩:=h
  rw [List.mem_singleton.1 hu]
  exact hs.slice1
 pos:=by omega
/-! ### frozen for the while of a piece, as it was known at c1 -/
def FrZ (c0 c1:Cx) (R:List Res) (c:Cx) : Prop:=FrL c0.w.heap.size R c∧(∀r∈R,∀b,r.blk=some b→c1.M b∨c1.w.heap.size≤b)∧Since c1 c
instance (c0 c1 : Cx) (R : List Res) : Mono (FrZ c0 c1 R):=inferInstanceAs (Mono fun c=>FrL c0.w.heap.size R c∧(∀r∈R,∀b,r.blk=some b→c1.M b∨c1.w.heap.size≤b)∧Since c1 c)
section
variable {c0 c1 c : Cx} {R L : List Res}
theorem Owns.freezeZ (H:Owns c0 (R++L) c) (hS:Since c1 c) : ∃c',c'.w=c.w∧Le c c'∧Owns c0 L c'∧FrZ c0 c1 R c':=by
 have hR : ∀r∈R,∀b,r.blk=some b→c.M b∧c0.w.heap.size≤b:=fun r hr b hb=>(H.res r (List.mem_append_left _ hr)).2 b hb
 have hle : Le c ⟨c.w,fun x=>c.M x∧∀r∈R,r.blk≠some x⟩:=⟨rfl,rfl,rfl,Nat.le_refl _,Nat.le_refl _,fun b hb hm=>⟨rfl,fun h=>hm h.1⟩⟩
 have hd:=List.pairwise_append.1 H.dis
 refine ⟨⟨c.w,fun x=>c.M x∧∀r∈R,r.blk≠some x⟩,rfl,hle,⟨H.ext,fun b hb hm=>⟨H.keep b hb hm,fun r hr e=>?_⟩,fun b hb=>H.mbd b hb.1,fun r hr=>?_,hd.2.1⟩,⟨fun r hr=>?_,hd.1⟩,fun r hr b hb=>?_,hS.trans hle⟩
 ·have:=(hR r hr b e).2
  omega
 ·have h:=H.res r (List.mem_append_right _ hr)
  exact ⟨h.1,fun b hb=>⟨⟨(h.2 b hb).1,fun s hs e=>hd.2.2 s hs r hr b e hb⟩,(h.2 b hb).2⟩⟩
 ·have h:=H.res r (List.mem_append_left _ hr)
  exact ⟨h.1,fun b hb=>⟨fun hm=>hm.2 r hr hb,(h.2 b hb).2⟩⟩
 ·rcases Nat.lt_or_ge b c1.w.heap.size with hlt|hge
  ·refine .inl ?_
   by_cases hm : c1.M b
   ·exact hm
   ·exact absurd (hR r hr b hb).1 (hS.blk b hlt hm).2
  ·exact .inr hge
theorem Owns.thawZ (H:Owns c0 L c) (hF:FrZ c0 c1 R c) : ∃c',c'.w=c.w∧Le c1 c'∧Owns c0 (R++L) c':=by
 obtain ⟨h1,h2,h3⟩:=hF
 refine ⟨⟨c.w,fun x=>c.M x∨∃r∈R,r.blk=some x⟩,rfl,⟨h3.os,h3.tape,h3.output,h3.drawn,h3.size,fun b hb hm=>⟨(h3.blk b hb hm).1,?_⟩⟩,⟨H.ext,fun b hb hm=>.inl (H.keep b hb hm),fun b hb=>?_,fun r hr=>?_,List.pairwise_append.2 ⟨h1.2,H.dis,fun r hr r' hr' b e e'=>?_⟩⟩⟩
 ·rintro (h|⟨r,hr,e⟩)
  ·exact (h3.blk b hb hm).2 h
  ·rcases h2 r hr b e with h|h
   ·exact hm h
   ·omega
 ·rcases hb with hb|⟨r,hr,e⟩
  ·exact H.mbd b hb
  ·exact Res.lt (h1.1 r hr).1 e
 ·rcases List.mem_append.1 hr with hr|hr
  ·exact ⟨(h1.1 r hr).1,fun b e=>⟨.inr ⟨r,hr,e⟩,((h1.1 r hr).2 b e).2⟩⟩
  ·exact ⟨(H.res r hr).1,fun b e=>⟨.inl ((H.res r hr).2 b e).1,((H.res r hr).2 b e).2⟩⟩
 ·exact ((h1.1 r hr).2 b e).1 ((H.res r' hr').2 b e').1
variable {P : Program} {ops : Array Oper} {Q : Exit → Act → World → Prop} {n : Nat} {f : Nat → Value} {l : List Oper} {A A1 : Cx → Prop}
theorem w_thawZ (H:Owns c0 L c) (hF:FrZ c0 c1 R c) (HA1:Hd A1 c1) [Mono A1] (k:∀c',Owns c0 (R++L) c'→Hd A1 c'→W P ops Q l n f c'.w) : W P ops Q l n f c.w:=by
 obtain ⟨c',hw,hle,H'⟩:=H.thawZ hF
 rw [←hw]
 exact k c' H' (HA1.to hle)
theorem FrZ.obj {b:Nat} {cs:List Value} {T:TypeId} (h:FrZ c0 c1 R c) (hm:Res.obj b (.cells cs.toArray T (0,0))∈R) : Box b cs c:=by
 obtain ⟨h1,_⟩:=h
 obtain ⟨h2,h3⟩:=h1.1 _ hm
 exact ⟨⟨T,(0,0),h2⟩,(h3 b rfl).1⟩
theorem FrZ.mapK {κ:Type} {kv:κ→Value} {b:Nat} {es:List (κ×Value)} (h:FrZ c0 c1 R c) (hm:Res.obj b (kObj kv es)∈R) : MapKAt kv b es c:=by
 obtain ⟨h1,_⟩:=h
 obtain ⟨h2,h3⟩:=h1.1 _ hm
 exact ⟨h2,(h3 b rfl).1⟩
variable {rest : List Oper} {ty : TypeId} {ps : String} {af : Array Edge} {d : Tmp}
theorem s_lookKA {κ:Type} [DecidableEq κ] {kv:κ→Value} {T e:TypeId} {z:Value} {x y:Operand} {b:Nat} {q:κ} {es:List (κ×Value)} (hn:Nat.blt d n=true) [MapK P T e κ kv] [Zer P e z] (hx:opd f x=.map (some b)) (hy:opd f y=kv q) (hm:MapKAt kv b es c)
  (k:W P ops Q rest n (upd f d ((kLook es q).getD z)) c.w) : W P ops Q (⟨some d,.lookup T x y false,ty,ps,af,none⟩::rest) n f c.w :=
 st_val hn (by simp [execOp,hx,hy,kLook_run hm.1]) k
end
end Go.Wk
namespace Go.Proofs.YtnppmeeibbefbaaGreatDoor
open Go Go.Wk Go.RowKit Go.Sort Go.Lib Go.Shelf
instance : Ent Tryz.prog 178:=.of Tryz.func178 (by kernel_rfl) (by kernel_rfl)
instance : Ent Tryz.prog 177:=.of Tryz.func177 (by kernel_rfl) (by kernel_rfl)
theorem slices_Compare (xs ys:List Int) (v1 v2:Value) (c:Cx) (h1:Sl v1 xs c) (h2:Sl v2 ys c) : Cn Tryz.prog 178 [v1,v2] c (fun v _=>v=.int .i64 (lexL cmpI xs ys)):=by
 refine Cn.of Tryz.func178 Tryz.ntmps178 rfl rfl fun hm H HA=>?_
 have hl1:=h1.lim
 have hl2:=h2.lim
 have HA:=(HA.add h1).add h2
 (apply Y1;refine Z2 ?_;apply Y0;apply wc_seq;apply Y1;refine Z0 ?_;refine Z45 ?_;refine Z0 ?_;apply Y0;apply wc_block)
 refine wc_loopN xs.length (fun k=>[(0,v1),(1,v2),(9,v1),(10,.int .i64 xs.length),(11,.int .i64 k)]) (fun k=>k≤ys.length∧lexL cmpI xs ys=lexL cmpI (xs.drop k) (ys.drop k)) 0 H HA Ks (Nat.zero_le _) ⟨Nat.zero_le _,rfl⟩ ?_
 intro k g c hk hp H HA
 obtain ⟨hk2,hp⟩:=hp
 (repeat' (first|refine Z0 ?_|refine Z2 ?_|apply w_nil|apply wc_seq|apply wc_region|apply wx_next|refine Z18 ?_|refine Z19 ?_|apply wc_ret|apply wc_exit|apply wc_skip|apply wc_block|apply wx_ret_then|apply wx_exit_then|apply wx_exit_same|refine Z45 ?_|refine Z93 (fun hq=>?_) fun hq=>?_))
 ·obtain ⟨x,hx⟩:=getq (xs:=xs) (k:=k) (by omega)
  (repeat' (first|refine Z0 ?_|refine Z2 ?_|apply w_nil|apply wc_seq|apply wc_region|apply wx_next|refine Z18 ?_|refine Z19 ?_|apply wc_ret|apply wc_skip|apply wx_ret_then|apply wx_ret_block|refine Z34 HA fun vx HA=>?_|refine Z36 ?_|refine Z45 ?_|refine Z97 (fun hq=>?_) fun hq=>?_))
  ·have e0 : ys.drop k=[]:=List.drop_eq_nil_of_le (by omega)
   exact ret_fn H hm (outs1 Tryz.results178 Wh) (by rw [hp,drop_get hx,e0];rfl)
  ·obtain ⟨y,hy⟩:=getq (xs:=ys) (k:=k) (by omega)
   (refine Z34 HA fun vx HA=>?_;refine Z36 ?_;refine Z2 ?_;apply Y2;refine Z0 ?_;refine Z0 ?_)
   (refine s_call rfl rfl H HA (cmp_Compare x y _) ?_;intro vx c H HP;have hvx:=HP.h.1;have HA:=HP.cut;subst hvx)
   have hl:=lexL_get (f:=cmpI) hx hy
   (repeat' (first|refine Z0 ?_|refine Z2 ?_|apply w_nil|apply wc_seq|apply wc_region|apply wx_next|refine Z18 ?_|refine Z19 ?_|apply wc_ret|apply wc_skip|apply wx_ret_then|apply wx_ret_block|apply wx_norm_block|refine Z46 ?_|refine Z94 (fun hq=>?_) fun hq=>?_))
   ·exact ret_fn H hm (outs1 Tryz.results178 Wh) (by rw [hp,hl,if_neg (by assumption)])
   ·exact wx_loopN (k+1) H Cu Ks (by omega) ⟨by omega,by rw [hp,hl,if_pos (by assumption)]⟩
 ·have e0 : xs.drop k=[]:=List.drop_eq_nil_of_le (by omega)
  obtain ⟨y,hy⟩:=getq (xs:=ys) (k:=k) (by omega)
  exact ret_fn H hm (outs1 Tryz.results178 Wh) (by rw [hp,e0,drop_get hy];rfl)
 ·have e0 : xs.drop k=[]:=List.drop_eq_nil_of_le (by omega)
  have e1 : ys.drop k=[]:=List.drop_eq_nil_of_le (by omega)
  exact ret_fn H hm (outs1 Tryz.results178 Wh) (by rw [hp,e0,e1];rfl)
theorem sortRI_q : SortsQ1 Tryz.prog 177 178 :=
 ⟨fun T _ enc cf blk cap d w hO h1 hc hH hb hl=>Tryz.slices_SortFunc enc h1 cf hO 178 #[] blk 0 cap d w Ent.h hc hH hb hl⟩
theorem sortRI_0 (p:Option Addr) (cap:Nat) (c:Cx) : Cn Tryz.prog 177 [.slice p 0 cap,.func (.func 178) #[] #[]] c (fun v _=>v=.tuple #[]) :=
 fun hm=>(Tryz.slices_SortFunc_none (α:=Nat) p cap (.func (.func 178) #[] #[]) c.w).mono fun _ w' ⟨he,hw⟩=>⟨_,he,by rw [hw];exact Ext0.refl _,rfl⟩
end Go.Proofs.YtnppmeeibbefbaaGreatDoor
namespace Go.Wk
open Go Go.RowKit
theorem perm_lift {α β:Type} {g:α→β} : ∀{es:List β} {l:List α},es.Perm (l.map g)→∃l' : List α,l'.Perm l∧l'.map g=es
 | [],l,h=>by
  have h0 : l=[]:=by
   have:=h.length_eq
   rw [List.length_map] at this
   exact List.eq_nil_of_length_eq_zero this.symm
  exact ⟨[],by rw [h0],rfl⟩
 | a::es,l,h=>by
  have ha : a∈l.map g:=h.mem_iff.1 (.head _)
  obtain ⟨e,he,rfl⟩:=List.mem_map.1 ha
  obtain ⟨s,t,rfl⟩:=List.append_of_mem he
  have h2 : es.Perm ((s++t).map g):=by
   have h3 : ((s++e::t).map g).Perm (g e::(s++t).map g):=by
    rw [List.map_append,List.map_append,List.map_cons]
    exact List.perm_middle
   exact (List.perm_cons _).1 (h.trans h3)
  obtain ⟨l',h4,h5⟩:=perm_lift h2
  exact ⟨e::l',(h4.cons e).trans List.perm_middle.symm,by rw [List.map_cons,h5]⟩
def RlS.pall (r:RlS) : List (En0×Nat):=r.eo.map (fun e=>(e,1))++(r.en.map (fun e=>(e,2))++r.ex.map (fun e=>(e,4)))
theorem pall_all (r:RlS) : r.pall.map Prod.fst=r.all:=by simp [RlS.pall,RlS.all,Function.comp_def]
theorem pall_er (tE:TypeId) (r:RlS) : r.pall.map (fun q=>En0.res tE q.2 q.1)=r.er tE:=by simp [RlS.pall,RlS.er,Function.comp_def]
theorem pall_part {r:RlS} {q:En0×Nat} (h:q∈r.pall) : q.2=1∨q.2=2∨q.2=4:=by
 simp only [RlS.pall,List.mem_append,List.mem_map] at h
 rcases h with ⟨e,_,rfl⟩|⟨e,_,rfl⟩|⟨e,_,rfl⟩
 ·exact .inl rfl
 ·exact .inr (.inl rfl)
 ·exact .inr (.inr rfl)
def inP (parts:Nat) (q:En0×Nat) : Bool:=decide (parts &&& q.2≠0)
def RlS.sel (r:RlS) (parts:Nat) : List (List Nat):=(r.pall.filter (inP parts)).map fun q=>q.1.row
def bkV (x:IxS) : Value:=match x.bk with
 | [p]=>p.v
 | _=>.slice none 0 0
def bkE (x:IxS) : List Nat:=match x.bk with
 | [p]=>p.es
 | _=>[]
theorem bk_look {x:IxS} {l:List En0} (h:IxOk x.bk l) : (kLook (bkM x.bk) (rkS [0])).getD (.slice none 0 0)=bkV x:=by
 rcases h with ⟨_,h⟩|⟨v,es,h,_⟩
 ·rw [bkV,h];rfl
 ·rw [bkV,h,bkM_look]
  have : bkI [(⟨[0],v,es⟩:BkS)] [0]=some 0:=by simp [bkI,List.findIdx?_cons]
  rw [this]
  rfl
theorem bk_perm {x:IxS} {l:List En0} (h:IxOk x.bk l) : (bkE x).Perm (l.map En0.b):=by
 rcases h with ⟨h0,h⟩|⟨v,es,h,hp⟩
 ·rw [bkE,h,h0];exact .refl _
 ·rw [bkE,h];exact hp
def RlS.zr (tR tP tI:TypeId) (r:RlS) (x:IxS) : List Res:=.obj r.b (.cells (relC r.width r.mr r.mi r.fv r.nv r.cnt).toArray tR (0,0))::.obj r.mr (kObj Value.string r.rm)::.obj r.mi (kObj Value.string [(rkS x.cols,ptr x.b)]) ::
 .row r.fv tP 1 r.en.length (r.en.map fun e=>ptr e.b)::.row r.nv tP 1 r.ex.length (r.ex.map fun e=>ptr e.b)::.obj x.b (.cells [x.vc,.map (some x.m)].toArray tI (0,0))::.obj x.m (kObj Value.string (bkM x.bk))::[]
theorem res_split (tR tE tP tI:TypeId) (r:RlS) (x:IxS) : ((r.at_ [x]).res tR tE tP tI).Perm (r.er tE++(r.zr tR tP tI x++x.bk.map (BkS.res tP))):=by
 have e : (r.at_ [x]).res tR tE tP tI=.obj r.b (.cells (relC r.width r.mr r.mi r.fv r.nv r.cnt).toArray tR (0,0))::.obj r.mr (kObj Value.string r.rm)::.obj r.mi (kObj Value.string [(rkS x.cols,ptr x.b)]) ::
  .row r.fv tP 1 r.en.length (r.en.map fun e=>ptr e.b)::.row r.nv tP 1 r.ex.length (r.ex.map fun e=>ptr e.b)::(r.eo.map (En0.res tE 1)++(r.en.map (En0.res tE 2)++(r.ex.map (En0.res tE 4)++(.obj x.b (.cells [x.vc,.map (some x.m)].toArray tI (0,0))::.obj x.m (kObj Value.string (bkM x.bk))::(x.bk.map (BkS.res tP)++[]))))):=rfl
 rw [e,RlS.er,RlS.zr,List.append_nil]
 exact Pm
theorem bk_rows {tP:TypeId} {x:IxS} {l:List En0} (h:IxOk x.bk l) : x.bk.map (BkS.res tP)=[]∧bkV x=.slice none 0 0∧bkE x=[]∨x.bk.map (BkS.res tP)=[.row (bkV x) tP 1 (bkE x).length ((bkE x).map ptr)]:=by
 rcases h with ⟨_,h⟩|⟨v,es,h,_⟩
 ·exact .inl ⟨by rw [h];rfl,by rw [bkV,h],by rw [bkE,h]⟩
 ·exact .inr (by rw [bkV,bkE,h];rfl)
theorem kObj_inj {a b:ByteArray×Value} (h:kObj Value.string [a]=kObj Value.string [b]) : a=b:=by
 obtain ⟨a1,a2⟩:=a
 obtain ⟨b1,b2⟩:=b
 simp [kObj,kEnt,List.zipIdx_cons] at h
 rw [h.1,h.2]
theorem own_len {w:World} {e:TypeId} {v:Value} {n n':Nat} {xs xs':List Value} (h:w.ownsRow 0 e 1 v n xs) (h':w.ownsRow 0 e 1 v n' xs') : n=n':=by
 rcases h.2 with ⟨e1,h0⟩|⟨g,cap,cur,e1,_⟩<;>rcases h'.2 with ⟨e2,h0'⟩|⟨g',cap',cur',e2,_⟩
 ·omega
 ·rw [e1] at e2;cases e2
 ·rw [e1] at e2;cases e2
 ·rw [e1] at e2
  simp only [Value.slice.injEq] at e2
  exact e2.2.1
theorem ix_one {tR tE tP tI:TypeId} {r:RlS} {x y:IxS} {l:List En0} {c0 c1 c:Cx} (hx:FrZ c0 c1 ((r.at_ [x]).res tR tE tP tI) c) (hy:FrZ c0 c1 ((r.at_ [y]).res tR tE tP tI) c) (ox:IxOk x.bk l) (oy:IxOk y.bk l) : bkV x=bkV y∧(bkE x).length=(bkE y).length:=by
 have mem : ∀(z:IxS) (q:Res),q∈r.zr tR tP tI z++z.bk.map (BkS.res tP)→q∈(r.at_ [z]).res tR tE tP tI:=fun z q hq=>(res_split tR tE tP tI r z).mem_iff.2 (List.mem_append_right _ hq)
 have hold : ∀(z:IxS),FrZ c0 c1 ((r.at_ [z]).res tR tE tP tI) c→∀q∈r.zr tR tP tI z++z.bk.map (BkS.res tP),q.holds c.w:=fun z hz q hq=>(hz.1.1 q (mem z q hq)).1
 have a1 : c.w.heap[r.mi]?=some (kObj Value.string [(rkS x.cols,ptr x.b)]):=hold x hx (.obj r.mi _) (by simp [RlS.zr])
 have a2 : c.w.heap[r.mi]?=some (kObj Value.string [(rkS y.cols,ptr y.b)]):=hold y hy (.obj r.mi _) (by simp [RlS.zr])
 have a3:=kObj_inj (Option.some.inj (a1.symm.trans a2))
 have hb : x.b=y.b:=by
  have:=congrArg Prod.snd a3
  simpa [ptr] using this
 have b1 : c.w.heap[x.b]?=some (.cells [x.vc,.map (some x.m)].toArray tI (0,0)):=hold x hx (.obj x.b _) (by simp [RlS.zr])
 have b2 : c.w.heap[y.b]?=some (.cells [y.vc,.map (some y.m)].toArray tI (0,0)):=hold y hy (.obj y.b _) (by simp [RlS.zr])
 have hm : x.m=y.m:=by
  rw [hb] at b1
  have:=Option.some.inj (b1.symm.trans b2)
  simp at this
  exact this.2
 have d1 : c.w.heap[x.m]?=some (kObj Value.string (bkM x.bk)):=hold x hx (.obj x.m _) (by simp [RlS.zr])
 have d2 : c.w.heap[y.m]?=some (kObj Value.string (bkM y.bk)):=hold y hy (.obj y.m _) (by simp [RlS.zr])
 rw [hm] at d1
 have d3:=Option.some.inj (d1.symm.trans d2)
 rcases ox with ⟨h0,e1⟩|⟨v1,es1,e1,p1⟩<;>rcases oy with ⟨h0',e2⟩|⟨v2,es2,e2,p2⟩
 ·rw [bkV,bkV,bkE,bkE,e1,e2];exact ⟨rfl,rfl⟩
 ·rw [e1,e2] at d3;simp [kObj,kEnt,bkM] at d3
 ·rw [e1,e2] at d3;simp [kObj,kEnt,bkM] at d3
 ·rw [e1,e2] at d3
  have d4:=kObj_inj (a:=(rkS [0],v1)) (b:=(rkS [0],v2)) d3
  have hv : v1=v2:=congrArg Prod.snd d4
  rw [bkV,bkV,bkE,bkE,e1,e2]
  refine ⟨hv,?_⟩
  have r1 : c.w.ownsRow 0 tP 1 v1 es1.length (es1.map ptr):=hold x hx (.row v1 tP 1 es1.length (es1.map ptr)) (by rw [e1];exact List.mem_append_right _ (.head _))
  have r2 : c.w.ownsRow 0 tP 1 v2 es2.length (es2.map ptr):=hold y hy (.row v2 tP 1 es2.length (es2.map ptr)) (by rw [e2];exact List.mem_append_right _ (.head _))
  rw [hv] at r1
  exact own_len r1 r2
theorem bk_slice {tR tE tP tI:TypeId} {r:RlS} {x:IxS} {l:List En0} {c0 c1 c:Cx} (hx:FrZ c0 c1 ((r.at_ [x]).res tR tE tP tI) c) (ox:IxOk x.bk l) : ∃ad cp,bkV x=.slice ad (bkE x).length cp:=by
 rcases bk_rows (tP:=tP) ox with ⟨_,h1,h2⟩|h
 ·exact ⟨none,0,by rw [h1,h2];rfl⟩
 ·have hm : (Res.row (bkV x) tP 1 (bkE x).length ((bkE x).map ptr))∈(r.at_ [x]).res tR tE tP tI:=(res_split tR tE tP tI r x).mem_iff.2 (List.mem_append_right _ (List.mem_append_right _ (by rw [h];exact .head _)))
  rcases (hx.1.1 _ hm).1.2 with ⟨h1,h2⟩|⟨g,cap,cur,h1,_⟩
  ·exact ⟨none,0,by rw [h1,h2]⟩
  ·exact ⟨_,_,h1⟩
theorem cells_one {v:Value} (h:v.oneCell'=true) : v.cells=#[v]:=by
 cases v<;>simp_all [Value.oneCell',Value.cells]
theorem and_parts {parts p:Nat} (hp:parts=1∨parts=2∨parts=3) (hq:p=1∨p=2∨p=4) : IntKind.i64.wrap (BitVec.ofInt IntKind.i64.bits (parts:Int) &&& BitVec.ofInt IntKind.i64.bits (p:Int)).toNat=((parts &&& p:Nat):Int):=by
 rcases hp with rfl|rfl|rfl<;>rcases hq with rfl|rfl|rfl<;>decide
theorem inP_ne {parts:Nat} {q:En0×Nat} : (!(((parts &&& q.2:Nat):Int) == 0))=inP parts q:=by
 unfold inP
 by_cases h : parts &&& q.2=0
 ·simp [h]
 ·have h2 : ¬((parts &&& q.2:Nat):Int)=0:=by omega
  simp only [h2,beq_iff_eq,Bool.not_eq_true',decide_eq_true_eq,ne_eq,h,not_false_eq_true,decide_true]
  simpa using h2
theorem filt_next {f:En0×Nat→Bool} {pl:List (En0×Nat)} {k:Nat} {q:En0×Nat} (h:pl[k]?=some q) : (pl.take (k+1)).filter f=(pl.take k).filter f++(if f q then [q] else []):=by
 rw [List.take_add_one,h,List.filter_append]
 congr 1
 cases hf : f q<;>simp [hf]
structure FC where
 bo : Nat
 br : Nat
 bl : Nat
 bk : Nat
 bp : Nat
 lv : Value
 kv : Value
def FC.caps (z:FC) : List Value:=[ptr z.bo,ptr z.br,ptr z.bl,ptr z.bk,ptr z.bp]
def FC.Is (r:RlS) (parts:Nat) (z:FC) (c:Cx) : Prop:=Box z.bo [.bool true] c∧Box z.br [ptr r.b] c∧Box z.bl [z.lv] c∧Sl z.lv [(0:Int)] c∧Box z.bk [z.kv] c∧Sl z.kv [(0:Int)] c∧Box z.bp [.int .i64 (parts:Int)] c
instance (r : RlS) (parts : Nat) (z : FC) : Mono (z.Is r parts):=inferInstanceAs (Mono fun c=>Box z.bo [.bool true] c∧Box z.br [ptr r.b] c∧Box z.bl [z.lv] c∧Sl z.lv [(0:Int)] c∧Box z.bk [z.kv] c∧Sl z.kv [(0:Int)] c∧Box z.bp [.int .i64 (parts:Int)] c)
end Go.Wk
namespace Go.Proofs.YtnppmeeibbefbaaGreatDoor
open Go Go.Wk Go.RowKit
instance : Ent Tryz.prog 174:=.of Tryz.func174 (by kernel_rfl) (by kernel_rfl)
instance : Ent Tryz.prog 176:=.of Tryz.func176 (by kernel_rfl) (by kernel_rfl)
instance : SlT Tryz.prog 273 123:=⟨by kernel_rfl⟩
instance : TyI Tryz.prog 123 (.slice none 0 0) 1 24:=.of (by kernel_rfl)
instance : Prim Tryz.prog 110:=.of (by kernel_rfl) (by kernel_rfl)
def FindP (r:RlS) (R:List Res) (c:Cx) : Prop:=∃x,RlOk (r.at_ [x])∧RlF (r.at_ [x]) c∧R=(r.at_ [x]).res 155 161 158 197
def IS (r:RlS) (lv:Value) (c0 c1:Cx) (K:IxS→Value→Prop) (u:Value) (c:Cx) : Prop:=∃x,K x u∧RlOk (r.at_ [x])∧(x∈r.ix∨x.vc=lv)∧FrZ c0 c1 ((r.at_ [x]).res 155 161 158 197) c
instance (r : RlS) (lv : Value) (c0 c1 : Cx) (K : IxS→Value→Prop) (u : Value) : Mono (IS r lv c0 c1 K u):=inferInstanceAs (Mono fun c=>∃x,K x u∧RlOk (r.at_ [x])∧(x∈r.ix∨x.vc=lv)∧FrZ c0 c1 ((r.at_ [x]).res 155 161 158 197) c)
theorem rel_seq (r:RlS) (parts:Nat) (z:FC) (hp:parts=1∨parts=2∨parts=3) (c:Cx) (hr:RlOk r) (hF:RlF r c) (hC:z.Is r parts c) :
  SeqK Tryz.prog 174 z.caps (fun xs=>xs.Perm (r.sel parts)) (fun v x c=>Sl v (ints x) c) (r.res 155 161 158 197) (FindP r) c:=by
 intro σ l lr bf ix c0 hbf hyl c s0 L0 A0 _ hle0 h0 H HA
 have HA:=(HA.add (Mono.mono hle0 hF)).add (Mono.mono hle0 hC)
 refine Calls.of Tryz.func174 Tryz.ntmps174 rfl rfl ?_
 obtain ⟨b1,b2,b3,b4,b5,b6,b7⟩ : z.Is r parts c:=Lk
 have HA:=((((((HA.add b1).add b2).add b3).add b4).add b5).add b6).add b7
 (apply wc_seq;apply Y1;refine Z1 ?_;refine Z33 ?_;apply Y0;refine Z19 ?_;apply wc_skip;apply wx_next;apply Y1;refine Z2 ?_;apply Y0;apply wc_seq;apply wc_seq)
 obtain ⟨c1,hc1⟩ : ∃c1,c1=c:=⟨c,rfl⟩
 have HS : Since c1 c:=by rw [hc1];exact Le.refl c
 have HA:=HA.add HS
 have HA1:=HA
 rw [←hc1] at HA1
 have H : Owns c0 ((r.res 155 161 158 197++[])++(lr s0++L0)) c:=by rw [List.append_nil];exact H
 refine dw_startE (I:=r.res 155 161 158 197++[]) H HA ?_
 (repeat (refine Dc ?_))
 refine dw_consT (pr:=r.res 155 161 158 197) (po:=[]) (S:=IS r z.lv c0 c1 fun x u=>u=ptr x.b) ?_ inferInstance ?_
 ·(intro B _ Lx c HA;(repeat (first|rintro vx rfl|(intro vx hx;have HA:=HA.addSF hx;clear hx)|(intro vx hx;skip;have HA:=HA.add hx;clear hx)|(intro vx;have hvx2:Go.Value:=vx;clear hvx2)));(first|intro H|(have H:=HA.h.1;have HA:=HA.cut));change W _ _ _ _ _ _ _)
  have hS : Since c1 c:=Lk
  refine s_callX rfl rfl H HA (rel_index r z.lv _ hr Lk Lk) ?_
  intro v R c H HA
  obtain ⟨x,rfl,ok,_,fx,rfl⟩:=HA.h.1
  have HA:=HA.cut
  obtain ⟨c',hw,hle,H',hz⟩:=H.freezeZ (c1:=c1) Lk
  rw [←hw]
  exact w_nil (pq_turn H' (HA.to hle) ⟨x,rfl,ok,fx,hz⟩)
 refine dw_cons (s:=.rel (IS r z.lv c0 c1 fun x u=>u=ptr x.b)) ?_ inferInstance ?_
 ·(intro B _ Lx c H HA;(repeat (first|rintro vx rfl|(intro vx hx;have HA:=HA.addSF hx;clear hx)|(intro vx hx;have HA:=HA.add hx;clear hx)|intro vx));change W _ _ _ _ _ _ _)
  obtain ⟨x,hx,ok,fx,hz⟩ : IS r z.lv c0 c1 (fun x u=>u=ptr x.b) _ c:=Lk
  subst hx
  refine s_nilCheck rfl rfl ?_
  exact w_nil (pq_rel H Cu ⟨x,rfl,ok,fx,hz⟩)
 refine dw_cons (s:=.rel (IS r z.lv c0 c1 fun x u=>u=.pointer (some ⟨x.b,0+1,none⟩))) ?_ inferInstance ?_
 ·(intro B _ Lx c H HA;(repeat (first|rintro vx rfl|(intro vx hx;have HA:=HA.addSF hx;clear hx)|(intro vx hx;have HA:=HA.add hx;clear hx)|intro vx));change W _ _ _ _ _ _ _)
  obtain ⟨x,hx,ok,fx,hz⟩ : IS r z.lv c0 c1 (fun x u=>u=ptr x.b) _ c:=Lk
  subst hx
  refine s_fieldAddr rfl rfl ?_
  exact w_nil (pq_rel H Cu ⟨x,rfl,ok,fx,hz⟩)
 refine dw_cons (s:=.rel (IS r z.lv c0 c1 fun x u=>u=.map (some x.m))) ?_ inferInstance ?_
 ·(intro B _ Lx c H HA;(repeat (first|rintro vx rfl|(intro vx hx;have HA:=HA.addSF hx;clear hx)|(intro vx hx;have HA:=HA.add hx;clear hx)|intro vx));change W _ _ _ _ _ _ _)
  obtain ⟨x,hx,ok,fx,hz⟩ : IS r z.lv c0 c1 (fun x u=>u=.pointer (some ⟨x.b,0+1,none⟩)) _ c:=Lk
  subst hx
  have hbx : Box x.b [x.vc,.map (some x.m)] c:=hz.obj (T:=197) ((res_split _ _ _ _ r x).mem_iff.2 (List.mem_append_right _ (by simp [RlS.zr])))
  refine s_loadP rfl rfl hbx rfl ?_
  exact w_nil (pq_rel H Cu ⟨x,rfl,ok,fx,hz⟩)
 (repeat (refine Dc ?_))
 (apply dw_cons;(focus ((intro B _ Lx c H HA;(repeat (first|rintro vx rfl|(intro vx hx;have HA:=HA.addSF hx;clear hx)|(intro vx hx;have HA:=HA.add hx;clear hx)|intro vx));change W _ _ _ _ _ _ _);(refine s_call rfl rfl H HA (rel_keyOf [0] z.kv _ Lk (by intro n hn;rw [List.mem_singleton.1 hn];decide) (by decide)) ?_;intro vx c H HP;have hvx:=HP.h.1;have HA:=HP.cut;subst hvx);exact Dx));exact inferInstance)
 refine dw_cons (s:=.rel (IS r z.lv c0 c1 fun x u=>u=bkV x)) ?_ inferInstance ?_
 ·(intro B _ Lx c H HA;(repeat (first|rintro vx rfl|(intro vx hx;have HA:=HA.addSF hx;clear hx)|(intro vx hx;have HA:=HA.add hx;clear hx)|intro vx));change W _ _ _ _ _ _ _)
  obtain ⟨x,hx,ok,fx,hz⟩ : IS r z.lv c0 c1 (fun x u=>u=.map (some x.m)) _ c:=Lk
  subst hx
  have hmx : MapKAt Value.string x.m (bkM x.bk) c:=hz.mapK ((res_split _ _ _ _ r x).mem_iff.2 (List.mem_append_right _ (by simp [RlS.zr])))
  refine s_lookKA (q:=rkS [0]) rfl rfl rfl hmx ?_
  rw [bk_look (ok.ixo x (.head _)).2]
  exact w_nil (pq_rel H Cu ⟨x,rfl,ok,fx,hz⟩)
 refine dw_cons (s:=.rel (IS r z.lv c0 c1 fun x u=>u=.int .i64 (bkE x).length)) ?_ inferInstance ?_
 ·(intro B _ Lx c H HA;(repeat (first|rintro vx rfl|(intro vx hx;have HA:=HA.addSF hx;clear hx)|(intro vx hx;have HA:=HA.add hx;clear hx)|intro vx));change W _ _ _ _ _ _ _)
  obtain ⟨x,hx,ok,fx,hz⟩ : IS r z.lv c0 c1 (fun x u=>u=bkV x) _ c:=Lk
  subst hx
  obtain ⟨ad,cp,e⟩:=bk_slice hz (ok.ixo x (.head _)).2
  refine s_lenL rfl e ?_
  exact w_nil (pq_rel H Cu ⟨x,rfl,ok,fx,hz⟩)
 (repeat (refine Dc ?_))
 refine dw_doneT mixed (I:=r.res 155 161 158 197++[]) (by kernel_rfl) H HA (by kernel_rfl) ?_
 clear H HA
 intro c HA v16 h16 v17 h17 v18 h18 v19 h19 v22 h22 v23 h23 H
 change W _ _ _ _ _ _ _
 obtain ⟨x,hx,ok,fx,hz⟩:=h22
 obtain ⟨y,hy,oky,fy,hzy⟩:=h23
 obtain ⟨_,hlen⟩:=ix_one hz hzy (ok.ixo x (.head _)).2 (oky.ixo y (.head _)).2
 rw [←hlen] at hy
 subst hx hy
 clear h16 h17 h18 h19 hzy oky fy hlen
 have H : Owns c0 (lr s0++L0) c:=H
 refine w_thawZ H hz HA1 ?_
 clear H HA
 intro c H HA
 obtain ⟨hxc,hxo⟩:=ok.ixo x (.head _)
 have hxo : IxOk x.bk r.all:=hxo
 obtain ⟨pl,hpl,hpe⟩:=perm_lift (g:=fun q:En0×Nat=>q.1.b) (l:=r.pall) (es:=bkE x) (by
  have h1:=bk_perm hxo
  rw [←pall_all,List.map_map] at h1
  exact h1)
 (apply Y0;apply wc_block)
 have hF2 : RlF (r.at_ [x]) c:=by
  have hF' : RlF r c:=Lk
  have hlv : Sl z.lv [(0:Int)] c:=Lk
  refine ⟨hF'.1,fun y hy=>?_⟩
  have hy : y∈[x]:=hy
  rw [List.mem_singleton.1 hy]
  rcases fx with h|h
  ·exact hF'.2 x h
  ·rw [h,hxc];exact hlv
 have HA:=HA.add hF2
 obtain ⟨H,hback⟩ : Owns c0 (.row (bkV x) 158 1 (bkE x).length ((bkE x).map ptr)::(r.er 161++(r.zr 155 158 197 x++(lr s0++L0)))) c ∧
   ∀c Y,Owns c0 (.row (bkV x) 158 1 (bkE x).length ((bkE x).map ptr)::(r.er 161++(r.zr 155 158 197 x++Y))) c→Owns c0 ((r.at_ [x]).res 155 161 158 197++Y) c:=by
  have hsp:=res_split 155 161 158 197 r x
  rcases bk_rows (tP:=158) hxo with ⟨e1,e2,e3⟩|e1
  ·rw [e1] at hsp
   rw [e2,e3]
   refine ⟨(H.nilRow 158 1).perm (List.Perm.cons _ ((hsp.append_right _).trans ?_)),fun c Y h=>h.drop.perm (List.Perm.trans ?_ (hsp.symm.append_right _))⟩
   ·exact Pm
   ·exact Pm
  ·rw [e1] at hsp
   refine ⟨H.perm ((hsp.append_right _).trans ?_),fun c Y h=>h.perm (List.Perm.trans ?_ (hsp.symm.append_right _))⟩
   ·exact Pm
   ·exact Pm
 have hel : (bkE x).length<1073741824:=by
  have h1:=(bk_perm hxo).length_eq
  have h2:=hr.lim
  rw [List.length_map] at h1
  omega
 have hpll : pl.length=(bkE x).length:=by rw [←hpe,List.length_map]
 have H:=H.nilRow 123 1
 refine wc_loopG (σ:=Nat×Value×List Value) (fun y=>(bkE x).length-y.1) (fun y=>[(0,Value.func (Fn.yield l) #[] #[]),(5,ptr z.bp),(7,y.2.1),(22,bkV x),(23,.int .i64 (bkE x).length),(24,.int .i64 y.1)])
  (fun y=>y.1≤(bkE x).length∧y.2.2=((pl.take y.1).filter (inP parts)).map fun q=>q.1.v)
  (fun y=>.row y.2.1 123 1 y.2.2.length y.2.2::.row (bkV x) 158 1 (bkE x).length ((bkE x).map ptr)::(r.er 161++(r.zr 155 158 197 x++(lr s0++L0)))) (fun _=>Tt) (0,.slice none 0 0,[]) H HA trivial Ks ⟨Nat.zero_le _,rfl⟩ ?_
 intro y g c hy H HA
 obtain ⟨k,vf,us⟩:=y
 obtain ⟨hk,hus⟩:=hy
 dsimp only at hk hus H HA ⊢
 (repeat' (first|refine Z0 ?_|apply w_nil|apply wc_seq|apply wc_region|apply wx_next|refine Z18 ?_|refine Z19 ?_|apply wc_exit|apply wc_skip|apply wc_block|apply wx_exit_then|apply wx_exit_same|refine Z63 fun rp hrp=>?_|refine Z93 (fun hq=>?_) fun hq=>?_))
 ·obtain ⟨q,hql⟩:=getq (xs:=pl) (k:=k) (by omega)
  have hqm : q∈r.pall:=hpl.mem_iff.1 (List.mem_of_getElem? hql)
  have hqe : Res.obj q.1.b (.cells [q.1.v,.int .i64 (q.2:Int)].toArray 161 (0,0))∈r.er 161:=by
   rw [←pall_er]
   exact List.mem_map.2 ⟨q,hqm,rfl⟩
  have hqp:=pall_part hqm
  have hxm : ((bkE x).map ptr)[k]?=some (ptr q.1.b):=by rw [←hpe,List.map_map,List.getElem?_map,hql];rfl
  obtain ⟨gg,mm,cap,hlv,hrp2⟩:=hrp
  refine s_ldCell rfl hrp2 hlv H (.tail _ (.head _)) (by rw [Nat.mul_one];exact hxm) ?_
  (refine Z2 ?_;apply Y0;apply wc_seq)
  (refine dw_start H HA ?_)
  (repeat (first|refine Dc ?_|refine Dm ?_))
  (apply dw_cons;(focus ((intro B _ Lx c H HA;(repeat (first|rintro vx rfl|(intro vx hx;have HA:=HA.addSF hx;clear hx)|(intro vx hx;have HA:=HA.add hx;clear hx)|intro vx));change W _ _ _ _ _ _ _);(refine s_loadOP rfl rfl H (List.mem_append_right _ (.tail _ (.tail _ (List.mem_append_left _ hqe)))) rfl ?_);exact Dx));exact inferInstance)
  (apply dw_cons;(focus ((intro B _ Lx c H HA;(repeat (first|rintro vx rfl|(intro vx hx;have HA:=HA.addSF hx;clear hx)|(intro vx hx;have HA:=HA.add hx;clear hx)|intro vx));change W _ _ _ _ _ _ _);(refine s_and rfl rfl rfl (and_parts hp hqp) ?_);exact Dx));exact inferInstance)
  (apply dw_cons;(focus ((intro B _ Lx c H HA;(repeat (first|rintro vx rfl|(intro vx hx;have HA:=HA.addSF hx;clear hx)|(intro vx hx;have HA:=HA.add hx;clear hx)|intro vx));change W _ _ _ _ _ _ _);(refine s_neI rfl rfl rfl inP_ne ?_);exact Dx));exact inferInstance)
  (refine dw_done mixed H HA rfl (by kernel_rfl) ?_;clear H HA;intro c H HA;(repeat (first|rintro vx rfl|(intro vx hx;have HA:=HA.addSF hx;clear hx)|(intro vx hx;have HA:=HA.add hx;clear hx)|intro vx));change W _ _ _ _ _ _ _)
  have hul : us.length≤k:=by
   rw [hus,List.length_map]
   exact Nat.le_trans (List.length_filter_le ..) (by rw [List.length_take];omega)
  have hfn:=filt_next (f:=inP parts) hql
  cases hin : inP parts q with
  | true =>
   rw [hin,if_pos rfl] at hfn
   (apply Y0;refine Z18 ?_;apply wc_region;refine Z0 ?_;refine Z0 ?_;(refine s_nilCheck rfl rfl ?_);refine Z3 ?_)
   refine s_loadOP rfl rfl H (.tail _ (.tail _ (List.mem_append_left _ hqe))) rfl ?_
   have hqv : q.1.v.oneCell'=true:=by
    have hF' : RlF r c:=Lk
    refine (hF'.1 q.1 ?_).slice1
    rw [←pall_all]
    exact List.mem_map.2 ⟨q,hqm,rfl⟩
   (refine s_bs1 (cs:=[q.1.v]) rfl (cells_one hqv) rfl rfl rfl rfl H HA ?_;intro b1 c H HA)
   refine s_appB (cs:=[q.1.v]) rfl rfl rfl Lk rfl rfl rfl rfl (by intro u hu;rw [List.mem_singleton.1 hu];exact hqv) (by simp only [LIM];omega) H HA ?_
   intro vf2 c H HA
   (refine Z2 ?_;apply w_nil;apply wx_norm_block;apply wx_next;apply wc_region;refine Z46 ?_;refine Z0 ?_;apply w_nil)
   have e : us++[q.1.v]=((pl.take (k+1)).filter (inP parts)).map fun q=>q.1.v:=by rw [hfn,List.map_append,hus];rfl
   have H : Owns c0 (.row vf2 123 1 (us++[q.1.v]).length (us++[q.1.v])::.row (bkV x) 158 1 (bkE x).length ((bkE x).map ptr)::(r.er 161++(r.zr 155 158 197 x++(lr s0++L0)))) c:=by
    rw [List.length_append,List.length_singleton]
    exact H
   exact wx_loopG ((k+1,vf2,us++[q.1.v])) H Cu trivial Ks (by dsimp only;omega) ⟨by dsimp only;omega,e⟩
  | false =>
   rw [hin,if_neg (by decide),List.append_nil] at hfn
   (apply Y0;refine Z19 ?_;apply wc_skip;apply wx_norm_block;apply wx_next;apply wc_region;refine Z46 ?_;refine Z0 ?_;apply w_nil)
   exact wx_loopG ((k+1,vf,us)) H Cu trivial Ks (by dsimp only;omega) ⟨by dsimp only;omega,by dsimp only;rw [hfn];exact hus⟩
 ·have e1 : pl.take k=pl:=List.take_of_length_le (by omega)
  rw [e1] at hus
  obtain ⟨sl,hsl⟩ : ∃sl,sl=(pl.filter (inP parts)).map fun q=>(⟨q.1.row⟩:SlI):=⟨_,rfl⟩
  have hsll : sl.length=us.length:=by rw [hsl,hus,List.length_map,List.length_map]
  have hV : Vals1 us sl c:=by
   have hF' : RlF r c:=Lk
   refine ⟨hsll.symm,fun i u s h1 h2=>?_⟩
   rw [hus,List.getElem?_map,Option.map_eq_some_iff] at h1
   rw [hsl,List.getElem?_map,Option.map_eq_some_iff] at h2
   obtain ⟨q,hq1,rfl⟩:=h1
   obtain ⟨q',hq2,rfl⟩:=h2
   rw [hq1] at hq2
   cases hq2
   have hqm : q∈r.pall:=hpl.mem_iff.1 (List.mem_filter.1 (List.mem_of_getElem? hq1)).1
   exact ⟨q.1.v,rfl,hF'.1 q.1 (by rw [←pall_all];exact List.mem_map.2 ⟨q,hqm,rfl⟩)⟩
  have hsel : (sl.map SlI.row).Perm (r.sel parts):=by
   rw [hsl,List.map_map,RlS.sel]
   exact (hpl.filter _).map _
  have hlim2 : sl.length<4611686018427387904:=by
   have h1:=hsel.length_eq
   have h2 : us.length≤pl.length:=by rw [hus,List.length_map];exact List.length_filter_le ..
   omega
  rw [←hsll] at H
  refine s_sort1 (α:=SlI) (good:=fun _=>True) (cmp:=fun a b=>lexL cmpI (ints a.row) (ints b.row)) sortRI_q sortRI_0 ⟨fun a b=>(lexL_p3 cmpI_p3).neg _ _,fun a b c=>(lexL_p3 cmpI_p3).tr _ _ _⟩ rfl rfl H hV HA (fun _ _=>trivial) ?_ hlim2 ?_
  ·intro a b u1 u2 c' _ _ ha hb _
   obtain ⟨w1,e1,s1⟩:=ha
   obtain ⟨w2,e2,s2⟩:=hb
   cases e1
   cases e2
   exact slices_Compare _ _ _ _ _ s1 s2
  intro c us' sl' _ hpm _ H HA
  have hsel2 : (sl'.map SlI.row).Perm (r.sel parts):=(hpm.map _).trans hsel
  have hsl3 : sl'.length<1073741824:=by
   have h1:=hpm.length_eq
   have h2 : us.length≤pl.length:=by rw [hus,List.length_map];exact List.length_filter_le ..
   omega
  have H : Owns c0 (.row vf 123 1 sl'.length us'::.row (bkV x) 158 1 (bkE x).length ((bkE x).map ptr)::(r.er 161++(r.zr 155 158 197 x++(lr s0++L0)))) c:=H
  have H : Owns c0 ((r.at_ [x]).res 155 161 158 197++(lr s0++(.row vf 123 1 sl'.length us'::L0))) c:=hback c _ (H.perm Pm)
  generalize hR2 : (r.at_ [x]).res 155 161 158 197=R2 at H hback
  have hixs:=h0 (sl'.map SlI.row) hsel2
  (apply Y2;refine Z0 ?_;refine Z62 ?_;refine Z0 ?_;apply Y0;apply wc_block)
  refine wc_loopG (σ:=Nat×σ) (fun y=>sl'.length-y.1) (fun y=>[(0,Value.func (Fn.yield l) #[] #[]),(45,vf),(46,.int .i64 sl'.length),(47,.int .i64 y.1)])
   (fun y=>y.1≤sl'.length∧ix (sl'.map SlI.row) y.1 y.2)
   (fun y=>R2++(lr y.2++(.row vf 123 1 sl'.length us'::L0))) (fun y c=>bf y.2 c) (0,s0) H HA Lk Ks ⟨Nat.zero_le _,hixs⟩ ?_
  clear HA H
  intro y g c hy H HA
  obtain ⟨j,s⟩:=y
  obtain ⟨hj,hxs⟩:=hy
  dsimp only at hj hxs H HA ⊢
  (repeat' (first|apply w_nil|apply wc_seq|apply wc_region|apply wx_next|refine Z18 ?_|refine Z19 ?_|apply wc_exit|apply wc_skip|apply wc_block|apply wx_exit_then|apply wx_exit_same|refine Z63 fun rp hrp=>?_|refine Z93 (fun hq=>?_) fun hq=>?_))
  ·obtain ⟨s1,hs1⟩:=getq (xs:=sl') (k:=j) (by omega)
   have hV2 : Vals1 us' sl' c:=Lk
   obtain ⟨u,hu⟩:=getq (xs:=us') (k:=j) (by rw [hV2.1];omega)
   have hok:=hV2.2 j u s1 hu hs1
   obtain ⟨u',e1,hsu⟩:=hok
   cases e1
   have HA:=HA.add hsu
   obtain ⟨gg,mm,cap,hlv,hrp2⟩:=hrp
   refine s_ldCell rfl hrp2 hlv H (List.mem_append_right _ (List.mem_append_right _ (.head _))) (by rw [Nat.mul_one];exact hu) ?_
   (refine Z2 ?_;apply Y0;apply wc_seq)
   apply wc_of_wg
   apply wg_regionL
   refine wl_cut 3 rfl ?_
   (refine Z0 ?_;refine Z0 ?_)
   (refine s_callR rfl rfl H HA (Clone_Int (ints s1.row) u _ Lk) ?_;intro vx valsx c H HA)
   have hlz : (ints s1.row).length<1099511627776:=hsu.lim
   (refine w_freezeRow H HA Lk rfl rfl Lt ?_;intro c H HA)
   apply w_nil
   apply wx_qn
   have H : Owns c0 (lr s++(R2++(.row vf 123 1 sl'.length us'::L0))) c:=H.perm Pm
   have hso : Sl vx (ints s1.row) c:=Lk
   have hbs : bf s c:=Lk
   refine wl_yield (x:=.tmp 53) rfl rfl rfl (hyl _ j s1.row s vx hsel2 (by rw [List.getElem?_map,hs1];rfl) hxs) H ((HA.add hbs).add hso) ?_
   intro s' c hxs' H HA
   refine wl_cut 1 rfl ?_
   (refine Z33 ?_;apply w_nil)
   apply wx_qn
   apply wl_nil
   apply wx_of_wg
   (apply wx_next;refine Z19 ?_;apply wc_skip;apply wx_norm_block;apply wx_next;apply wc_region;refine Z46 ?_;refine Z0 ?_;apply w_nil)
   have hbs' : bf s' c:=Lk
   have H : Owns c0 (R2++(lr s'++(.row vf 123 1 sl'.length us'::L0))) c:=H.perm Pm
   exact wx_loopG ((j+1,s')) H Cu hbs' Ks (by dsimp only;omega) ⟨by dsimp only;omega,hxs'⟩
  ·have hj2 : j=sl'.length:=by omega
   have H : Owns c0 (((r.at_ [x]).res 155 161 158 197)++(lr s++L0)) c:=by
    rw [hR2]
    exact (H.perm (show List.Perm _ (Res.row vf 123 1 sl'.length us'::(R2++(lr s++L0))) from Pm)).drop
   have hF3 : RlF (r.at_ [x]) c:=Lk
   have hbs : bf s c:=Lk
   refine norm_any (v:=.tuple #[]) (outs0 rfl) ⟨_,rfl,_,s,c,rfl,⟨sl'.map SlI.row,hsel2,by rw [List.length_map,←hj2];exact hxs⟩,H,((Ca:Hd A0 c).add hbs).add ⟨x,ok,hF3,rfl⟩⟩
instance : Ent Tryz.prog 169:=.of Tryz.func169 (by kernel_rfl) (by kernel_rfl)
theorem rel_Find (r:RlS) (parts:Nat) (cv kv:Value) (hw:1≤r.width) (hwl:r.width<1073741824) (c:Cx) (h1:Sl cv [(0:Int)] c) (h2:Sl kv [(0:Int)] c) :
  CnTX Tryz.prog 169 [ptr r.b,.int .i64 (parts:Int),cv,kv] (r.res 155 161 158 197) c
   (fun v R c=>R=r.res 155 161 158 197∧∃z:FC,v=.func (.func 174) #[] z.caps.toArray∧z.Is r parts c):=by
 refine CnTX.of Tryz.func169 Tryz.ntmps169 rfl rfl fun c0 L0 A0 _ H HA=>?_
 have HA:=(HA.add h1).add h2
 (apply Y1)
 (refine s_box (cs:=[ptr r.b]) rfl rfl H HA ?_;intro b4 c H HA)
 (skip)
 (refine s_box (cs:=[.int .i64 (parts:Int)]) rfl rfl H HA ?_;intro b5 c H HA)
 (refine Z2 ?_;apply Y2;refine Z1 ?_;refine Z0 ?_;refine Z0 ?_)
 refine s_callX rfl rfl H HA (rel_question r cv kv hw hwl _ Lk Lk) ?_
 intro v R c H HA
 obtain ⟨rfl,lv,wv,rfl,s1,s2⟩:=HA.h.1
 have HA:=(HA.cut.add s1).add s2
 (refine Z0 ?_;refine Z32 ?_;refine Z32 ?_;refine Z32 ?_)
 (refine s_alloc (cs:=[.slice none 0 0]) rfl rfl H HA ?_;intro b9 c H HA)
 (refine s_alloc (cs:=[.slice none 0 0]) rfl rfl H HA ?_;intro b10 c H HA)
 (refine s_alloc (cs:=[.bool false]) rfl rfl H HA ?_;intro b11 c H HA)
 (refine Z79 fun c H HA=>?_;refine Z79 fun c H HA=>?_;refine Z79 fun c H HA=>?_;apply Y2)
 (refine w_freeze H HA ?_;intro c H HA)
 (refine w_freeze H HA ?_;intro c H HA)
 (refine w_freeze H HA ?_;intro c H HA)
 (refine s_makeFunc (vs:=FC.caps ⟨b11,b4,b9,b10,b5,lv,wv⟩) rfl (by rfl) ?_)
 (refine Z2 ?_;apply Y0;apply wc_ret)
 exact ret_fnX H Ca (outs1 Tryz.results169 Wh) ⟨rfl,⟨b11,b4,b9,b10,b5,lv,wv⟩,rfl,Lk,Lk,Lk,Lk,Lk,Lk,Lk⟩
end Go.Proofs.YtnppmeeibbefbaaGreatDoor
namespace Go.Wk
open Go Go.RowKit
set_option linter.unusedSectionVars false
structure Pr where
 name : ByteArray
 ar : Nat
 deriving DecidableEq
@[reducible] def Pr.cs (p:Pr) : List Value:=[.string p.name,.int .i64 (p.ar:Int)]
def prK (p:Pr) : Value:=.agg p.cs.toArray
theorem prK_bits (t:Pr) : Instr.sameBits 10000 (prK t) (prK t)=true:=by
 simp [prK,Pr.cs,Instr.sameBits,ba_beq2]
theorem map_pr {P:Program} {T kt e:TypeId} {fs:Array Field} (he:∀(k x:Pr) w,(Op.equalIn 10000 kt (prK k) (prK x)).run P w=.ok (decide (k=x)) w) (h:P.underlying T=some (.map kt e)) (hs:P.underlying kt=some (.struct fs)) (hc:∀b w (t:Pr),(Instr.checkKey b 10000 kt (prK t)).run P w=.ok () w) : MapK P T e Pr prK :=
 ⟨⟨kt,h,hc,fun w k es=>by
  have:=find_ask (P:=P) (kt:=kt) (w:=w) (k:=k) (fun x=>he k x w) es 0
  simp only [Nat.zero_add] at this
  cases es with
  | nil=>simp [Instr.findKey,Sem.run_bind,run_underlying hs,kEnt,Instr.findNow]
  | cons p es =>
   have hn : Instr.findNow (.struct fs) (prK k) (kEnt prK (p::es)) 0=none:=by
    simp [kEnt,List.zipIdx_cons,Instr.findNow,Instr.sameNow,prK]
   simp only [Instr.findKey,Sem.run_bind,run_underlying hs,Result.andThen_ok,hn]
   exact this⟩,prK_bits⟩
section
variable {P : Program} {ops : Array Oper} {Q : Exit → Act → World → Prop} {n : Nat} {f : Nat → Value} {rest : List Oper} {ty : TypeId} {ps : String} {af : Array Edge} {d : Tmp}
theorem s_lookNil {κ:Type} [DecidableEq κ] {kv:κ→Value} {T e:TypeId} {z:Value} {x y:Operand} {q:κ} {w:World} (hn:Nat.blt d n=true) [MapK P T e κ kv] [Zer P e z] (hx:opd f x=.map none) (hy:opd f y=kv q)
  (k:W P ops Q rest n (upd f d (.tuple #[z,.bool false])) w) : W P ops Q (⟨some d,.lookup T x y true,ty,ps,af,none⟩::rest) n f w:=by
 obtain ⟨kt,h1,h2,h3⟩:=MapK.h (P:=P) (T:=T) (e:=e) (kv:=kv)
 have h4:=h3 w q []
 have e0 : (kEnt kv ([]:List (κ×Value)))=[]:=rfl
 rw [e0] at h4
 refine st_val hn ?_ k
 simp only [execOp,hx,hy,Instr.lookup,Sem.run_bind,run_underlying h1,Result.andThen_ok,Sem.run_pure,h2]
 rw [h4]
 simp [(Zer.z (P:=P) (T:=e):_)]
theorem s_nilM {κ:Type} [DecidableEq κ] {kv:κ→Value} {T T' e:TypeId} {x:Operand} {m:Option Nat} {w:World} (hn:Nat.blt d n=true) [MapK P T e κ kv] (hx:opd f x=.map m) (k:W P ops Q rest n (upd f d (.bool m.isNone)) w) : W P ops Q (⟨some d,.binOp .eql T x (.const (.map none)) T',ty,ps,af,none⟩::rest) n f w:=by
 obtain ⟨kt,h1,_⟩:=MapK.h (P:=P) (T:=T) (e:=e) (kv:=kv)
 have h2 : (Op.equal T (.map m) (.map none)).run P w=.ok m.isNone w:=run_equal_map_nil w T kt e m h1
 have h3 : opd f (.const (.map none))=.map none:=rfl
 exact st_val hn (by simp [execOp,hx,h3,eqGuard_at_map,binOp,h2]) k
end
/-! ### values and their numbers -/
def posV (vals:List Tm) (t:Tm) : Option Nat:=vals.findIdx? fun x=>decide (x=t)
def tmM (vals:List Tm) : List (Tm×Value):=vals.zipIdx.map fun p=>(p.1,.int .i64 (p.2:Int))
theorem tmM_look (vals:List Tm) (t:Tm) : kLook (tmM vals) t=(posV vals t).map fun i=>.int .i64 (i:Int):=by
 unfold kLook tmM posV
 have key : ∀(l:List Tm) (j:Nat),(((l.zipIdx j).map fun p=>(p.1,Value.int .i64 (p.2:Int))).find? fun p=>decide (p.1=t)).map (·.2)=(l.findIdx? fun x=>decide (x=t)).map fun i=>.int .i64 ((j+i:Nat):Int):=by
  intro l
  induction l with
  | nil=>intro j;rfl
  | cons x l ih =>
   intro j
   rw [List.zipIdx_cons,List.map_cons,List.find?_cons,List.findIdx?_cons]
   by_cases e : x=t
   ·simp [e]
   ·simp only [e,decide_false,ih (j+1)]
    cases l.findIdx? fun x=>decide (x=t) with
    | none=>rfl
    | some i=>simp only [Option.map_some,Bool.false_eq_true,if_false];congr 3;omega
 have:=key vals 0
 simpa using this
theorem tmM_app (vals:List Tm) (t:Tm) : tmM (vals++[t])=tmM vals++[(t,.int .i64 (vals.length:Int))]:=by
 simp [tmM,List.zipIdx_append]
def addV (vals:List Tm) (t:Tm) : List Tm:=match posV vals t with
 | some _=>vals
 | none=>vals++[t]
def numV (vals:List Tm) (t:Tm) : Nat:=match posV vals t with
 | some i=>i
 | none=>vals.length
theorem posV_some {vals:List Tm} {t:Tm} {i:Nat} (h:posV vals t=some i) : vals[i]?=some t:=by
 obtain ⟨hk,h1,_⟩:=List.findIdx?_eq_some_iff_getElem.1 h
 have : vals[i]=t:=by simpa using h1
 rw [List.getElem?_eq_getElem hk,this]
theorem posV_none {vals:List Tm} {t:Tm} (h:posV vals t=none) : t∉vals:=fun hm=>by
 have:=List.findIdx?_eq_none_iff.1 h t hm
 simp at this
theorem addV_get (vals:List Tm) (t:Tm) : (addV vals t)[numV vals t]?=some t:=by
 unfold addV numV
 cases h : posV vals t with
 | some i=>exact posV_some h
 | none=>simp
theorem addV_pre {vals:List Tm} {t:Tm} {i:Nat} {x:Tm} (h:vals[i]?=some x) : (addV vals t)[i]?=some x:=by
 unfold addV
 cases posV vals t with
 | some j=>exact h
 | none=>rw [List.getElem?_append_left (List.getElem?_eq_some_iff.1 h).1];exact h
theorem addV_nd {vals:List Tm} {t:Tm} (h:vals.Nodup) : (addV vals t).Nodup:=by
 unfold addV
 cases hp : posV vals t with
 | some j=>exact h
 | none =>
  rw [List.nodup_append]
  exact ⟨h,by simp,by rintro a ha _ (⟨⟩|⟨_,⟨⟩⟩) rfl;exact posV_none hp ha⟩
theorem addV_len (vals:List Tm) (t:Tm) : (addV vals t).length≤vals.length+1∧vals.length≤(addV vals t).length:=by
 unfold addV
 cases posV vals t with
 | some j=>exact ⟨Nat.le_succ _,Nat.le_refl _⟩
 | none=>simp
def tbM (mn:Option Nat) (vals:List Tm) : List Res:=match mn with
 | some m=>[.obj m (kObj tmK (tmM vals))]
 | none=>[]
end Go.Wk
namespace Go.Proofs.YtnppmeeibbefbaaGreatDoor
open Go Go.Wk Go.RowKit
theorem eqPr (d:Nat) (t u:Pr) (w:World) : (Op.equalIn (d+2) 118 (.agg t.cs.toArray) (.agg u.cs.toArray)).run Tryz.prog w=.ok (decide (t=u)) w:=by
 have hS : Tryz.prog.underlying 118=some (.struct (Tryz.prog.fieldsOf 118)):=by kernel_rfl
 have hp : Tryz.prog.stoodInHeld 118=false:=by kernel_rfl
 have a3 : ∀w,(isAgg 3).run Tryz.prog w=.ok false w:=Prim.ag
 have a9 : ∀w,(isAgg 9).run Tryz.prog w=.ok false w:=Prim.ag
 have u3 : Tryz.prog.underlying 3=some (.int .i64):=by kernel_rfl
 have u9 : Tryz.prog.underlying 9=some .string:=by kernel_rfl
 rw [show d+2=(d+1)+1 from rfl,run_equalIn_agg w (d+1) 118 _ _ hS hp]
 simp only [Program.fieldsOf,Tryz.underlying118]
 obtain ⟨k,n⟩:=t
 obtain ⟨k',n'⟩:=u
 by_cases h1 : k=k'<;>by_cases h2 : n=n' <;>
  simp [Op.eqFields,part,a3,a9,run_equalIn_int w d _ _ .i64 _ _ u3,run_equalIn_string w d _ _ _ u9,h1,h2,ba_beq]<;>omega
instance : MapK Tryz.prog 114 110 Pr prK:=map_pr (kt:=118) (fs:=Tryz.prog.fieldsOf 118) (fun k x w=>by rw [show (10000:Nat)=9998+2 from rfl];exact eqPr 9998 k x w) (by kernel_rfl) (by kernel_rfl) (fun b w t=>by kernel_rfl)
instance : MapK Tryz.prog 111 3 Tm tmK:=map_tm (kt:=32) (fs:=Tryz.prog.fieldsOf 32) (by kernel_rfl) (by kernel_rfl) (fun b w t=>by kernel_rfl)
end Go.Proofs.YtnppmeeibbefbaaGreatDoor
namespace Go.Wk
open Go Go.RowKit
def baseC (mn:Option Nat) (vv:Value) (mr:Nat) : List Value:=[.map mn,vv,.map (some mr)]
theorem vals_cs (vals:List Tm) (c:Cx) : Vals (vals.map Tm.cs) vals c:=⟨by simp,fun i cs x h1 h2=>by
 rw [List.getElem?_map,h2] at h1
 exact (Option.some.inj h1).symm⟩
end Go.Wk
namespace Go.Proofs.YtnppmeeibbefbaaGreatDoor
open Go Go.Wk Go.RowKit
instance : Ent Tryz.prog 42:=.of Tryz.func42 (by kernel_rfl) (by kernel_rfl)
instance : Ent Tryz.prog 56:=.of Tryz.func56 (by kernel_rfl) (by kernel_rfl)
instance : Ent Tryz.prog 58:=.of Tryz.func58 (by kernel_rfl) (by kernel_rfl)
instance : Ent Tryz.prog 168:=.of Tryz.func168 (by kernel_rfl) (by kernel_rfl)
instance : Ent Tryz.prog 179:=.of Tryz.func179 (by kernel_rfl) (by kernel_rfl)
instance : Fld Tryz.prog 113 0 0:=.of (k:=0) (by kernel_rfl)
instance : Fld Tryz.prog 113 1 1:=.of (k:=0) (by kernel_rfl)
instance : Fld Tryz.prog 116 0 0:=.of (k:=1) (by kernel_rfl)
instance : Fld Tryz.prog 116 1 2:=.of (k:=0) (by kernel_rfl)
instance : Prim Tryz.prog 111:=.of (by kernel_rfl) (by kernel_rfl)
instance : Prim Tryz.prog 114:=.of (by kernel_rfl) (by kernel_rfl)
instance : Prim Tryz.prog 64:=.of (by kernel_rfl) (by kernel_rfl)
instance : Agg Tryz.prog 118 2:=.of (by kernel_rfl) (by kernel_rfl)
instance : Zer Tryz.prog 118 (.agg #[.string ⟨#[]⟩,.int .i64 0]):=.of (by kernel_rfl)
instance : Zer Tryz.prog 110 (.pointer none):=.of (by kernel_rfl)
instance : BldZ Tryz.prog 118 [[.string ⟨#[]⟩],[.int .i64 0]]:=⟨Bld.of (by kernel_rfl) (by kernel_rfl)⟩
instance : BldZ Tryz.prog 116 [[.map none,.slice none 0 0],[.map none]]:=⟨Bld.of (by kernel_rfl) (by kernel_rfl)⟩
theorem base_New (c:Cx) : CnTX Tryz.prog 42 [] [] c (fun v R _=>∃b mr,v=ptr b∧R=[.obj b (.cells (baseC none (.slice none 0 0) mr).toArray 116 (0,0)),.obj mr (kObj prK [])]):=by
 refine CnTX.of Tryz.func42 Tryz.ntmps42 rfl rfl fun c0 L0 A0 _ H HA=>?_
 (apply Y1;refine Z2 ?_;apply Y2)
 (refine s_makeK Pr prK rfl H HA ?_;intro mr c H HA)
 (refine Z54 ?_)
 (refine s_boxO (cs:=baseC none (.slice none 0 0) mr) rfl (by rfl) H HA ?_;intro b c H HA)
 (refine Z2 ?_;apply Y0;apply wc_ret)
 exact ret_fnX (R:=[.obj b (.cells (baseC none (.slice none 0 0) mr).toArray 116 (0,0)),.obj mr (kObj prK [])]) H Ca (outs1 Tryz.results42 rfl) ⟨b,mr,rfl,rfl⟩
theorem base_pred (a:At0) (u:Value) (c:Cx) (h:Ag a u c) : Cn Tryz.prog 56 [u] c (fun v _=>v=prK ⟨a.name,a.args.length⟩):=by
 refine Cn.of Tryz.func56 Tryz.ntmps56 rfl rfl fun hm H HA=>?_
 have HA:=HA.add h
 (apply wc_seq;apply wc_region)
 (refine s_boxG rfl rfl Lk H HA ?_;intro p c H HA)
 (refine s_alloc (cs:=[.string ⟨#[]⟩,.int .i64 0]) rfl rfl H HA ?_;intro b2 c H HA)
 (apply Y2;refine Z35 HA fun vx HA=>?_;refine Z36 ?_;refine Z35 HA fun vx HA=>?_;refine Z37 HA fun vx HA=>?_;refine Z45 ?_;refine Z54 ?_;refine Z74 fun c H HA=>?_;apply Y0;apply wc_ret)
 exact ret_fn H hm (outsR1 Tryz.results56 (RV.agg rfl H (.head _) Rc)) rfl
theorem base_value (b mr i:Nat) (mn:Option Nat) (vv:Value) (vals:List Tm) (t:Tm) (hv:vals[i]?=some t) (c:Cx) :
  CnT Tryz.prog 179 [ptr b,.int .i64 (i:Int)] [.obj b (.cells (baseC mn vv mr).toArray 116 (0,0)),.row vv 32 3 vals.length (vals.map Tm.cs).flatten] [.obj b (.cells (baseC mn vv mr).toArray 116 (0,0)),.row vv 32 3 vals.length (vals.map Tm.cs).flatten] c (fun v _=>v=.agg t.cs.toArray):=by
 refine CnT.of Tryz.func179 Tryz.ntmps179 rfl rfl fun c0 L0 A0 _ H HA=>?_
 have hil : i<vals.length:=(List.getElem?_eq_some_iff.1 hv).1
 have H : Owns c0 (.obj b (.cells (baseC mn vv mr).toArray 116 (0,0))::.row vv 32 3 vals.length (vals.map Tm.cs).flatten::L0) c:=H
 (apply Y1)
 (refine s_alloc (cs:=Tn.cs) rfl rfl H HA ?_;intro b4 c H HA)
 (apply Y2;refine Z0 ?_;(refine s_nilCheck rfl rfl ?_);refine Z3 ?_;refine Z41 ?_;refine Z0 ?_;refine Z63 fun rp hrp=>?_)
 refine s_ldRD (cv:=Tm.cs) (acc:=vals) rfl rfl hrp H (.tail _ (.tail _ (.head _))) (vals_cs _ _) rfl hv inferInstance ?_
 (refine Z74 fun c H HA=>?_;apply Y0;apply wc_ret)
 have H2 : Owns c0 ([.obj b (.cells (baseC mn vv mr).toArray 116 (0,0)),.row vv 32 3 vals.length (vals.map Tm.cs).flatten]++L0) c:=H.drop
 exact ret_fnT H2 Ca (outsR1 Tryz.results179 (RV.agg rfl H (.head _) Rc)) rfl
def tbR (b mr:Nat) (mn:Option Nat) (vv:Value) (vals:List Tm) : List Res:=.obj b (.cells (baseC mn vv mr).toArray 116 (0,0))::.row vv 32 3 vals.length (vals.map Tm.cs).flatten::tbM mn vals
theorem base_known (b mr m:Nat) (vv:Value) (vals:List Tm) (t:Tm) (c:Cx) :
  CnT Tryz.prog 168 [ptr b,.agg t.cs.toArray] (tbR b mr (some m) vv vals) (tbR b mr (some m) vv vals) c (fun v _=>∀i,posV vals t=some i→v=.tuple #[.int .i64 (i:Int),.bool true]):=by
 refine CnT.of Tryz.func168 Tryz.ntmps168 rfl rfl fun c0 L0 A0 _ H HA=>?_
 have H : Owns c0 (.obj b (.cells (baseC (some m) vv mr).toArray 116 (0,0))::.row vv 32 3 vals.length (vals.map Tm.cs).flatten::.obj m (kObj tmK (tmM vals))::L0) c:=H
 (apply Y1;refine Z31 fun bx c H HA=>?_;refine Z2 ?_;refine Z2 ?_;apply Y0;apply wc_seq)
 (refine dw_start H HA ?_)
 (repeat (first|refine Dc ?_|refine Dm ?_))
 (apply dw_cons;(focus ((intro B _ Lx c H HA;(repeat (first|rintro vx rfl|(intro vx hx;have HA:=HA.addSF hx;clear hx)|(intro vx hx;have HA:=HA.add hx;clear hx)|intro vx));change W _ _ _ _ _ _ _);(refine s_lookKT (q:=t) rfl rfl rfl H (List.mem_append_right _ (.tail _ (.tail _ (.head _)))) ?_);exact Dx));exact inferInstance)
 (repeat (refine Dc ?_))
 (refine dw_done mixed H HA rfl (by kernel_rfl) ?_;clear H HA;intro c H HA;(repeat (first|rintro vx rfl|(intro vx hx;have HA:=HA.addSF hx;clear hx)|(intro vx hx;have HA:=HA.add hx;clear hx)|intro vx));change W _ _ _ _ _ _ _)
 (apply Y2;refine Z0 ?_;refine Z0 ?_;refine Z2 ?_;refine Z2 ?_;apply Y0;apply wc_ret)
 have H : Owns c0 (tbR b mr (some m) vv vals++L0) c:=H
 refine ret_fnT H Ca (outs2 Tryz.results168 rfl rfl) ?_
 intro i hi
 rw [tmM_look,hi]
 rfl
theorem base_number (b mr:Nat) (mn:Option Nat) (vv:Value) (vals:List Tm) (t:Tm) (hn:mn=none→vals=[]) (hl:vals.length<1073741824) (c:Cx) :
  CnTX Tryz.prog 58 [ptr b,.agg t.cs.toArray] (tbR b mr mn vv vals) c (fun v R _=>v=.int .i64 (numV vals t:Int)∧∃m' vv',R=tbR b mr (some m') vv' (addV vals t)):=by
 refine CnTX.of Tryz.func58 Tryz.ntmps58 rfl rfl fun c0 L0 A0 _ H HA=>?_
 cases mn with
 | none =>
  have hv:=hn rfl
  subst hv
  have H : Owns c0 (.obj b (.cells (baseC none vv mr).toArray 116 (0,0))::.row vv 32 3 0 []::L0) c:=H
  (apply Y1;refine Z31 fun bx c H HA=>?_;refine Z2 ?_;apply Y0;apply wc_seq)
  (refine dw_start H HA ?_)
  (repeat (first|refine Dc ?_|refine Dm ?_))
  (apply dw_cons;(focus ((intro B _ Lx c H HA;(repeat (first|rintro vx rfl|(intro vx hx;have HA:=HA.addSF hx;clear hx)|(intro vx hx;have HA:=HA.add hx;clear hx)|intro vx));change W _ _ _ _ _ _ _);(refine s_lookNil (q:=t) rfl rfl rfl ?_);exact Dx));exact inferInstance)
  (repeat (refine Dc ?_))
  (refine dw_done mixed H HA rfl (by kernel_rfl) ?_;clear H HA;intro c H HA;(repeat (first|rintro vx rfl|(intro vx hx;have HA:=HA.addSF hx;clear hx)|(intro vx hx;have HA:=HA.add hx;clear hx)|intro vx));change W _ _ _ _ _ _ _)
  (apply Y0;apply wc_seq;apply Y1;refine Z0 ?_;refine Z33 ?_;apply Y0;refine Z18 ?_;apply wc_seq;apply Y1;refine Z0 ?_;(refine s_nilCheck rfl rfl ?_);refine Z3 ?_;refine Z41 ?_)
  refine s_nilM rfl rfl ?_
  (apply Y0;refine Z18 ?_;apply wc_region;refine Z0 ?_)
  (refine s_makeK Tm tmK rfl H HA ?_;intro m c H HA)
  ((refine s_nilCheck rfl rfl ?_);refine Z3 ?_;refine Z77 fun c H HA=>?_;apply Y2;refine Z0 ?_;(refine s_nilCheck rfl rfl ?_);refine Z3 ?_;refine Z41 ?_;refine Z62 ?_;refine Z2 ?_;apply Y0;apply wc_seq)
  have H1 : Owns c0 (.obj b (.cells (baseC (some m) vv mr).toArray 116 (0,0))::.obj m (kObj tmK (tmM []))::.row vv 32 3 0 []::L0) c:=H
  have H : Owns c0 (.obj b (.cells (baseC (some m) vv mr).toArray 116 (0,0))::.row vv 32 3 0 []::.obj m (kObj tmK (tmM []))::L0) c:=H1.perm Pm
  (refine dw_start H HA ?_)
  (repeat (first|refine Dc ?_|refine Dm ?_))
  (refine dw_done mixed H HA rfl (by kernel_rfl) ?_;clear H HA;intro c H HA;(repeat (first|rintro vx rfl|(intro vx hx;have HA:=HA.addSF hx;clear hx)|(intro vx hx;have HA:=HA.add hx;clear hx)|intro vx));change W _ _ _ _ _ _ _)
  (refine s_updK (q:=t) (v:=.int .i64 ((0:Nat):Int)) rfl rfl rfl (H.pull 2 rfl) HA ?_;intro c H HA)
  rw [kSet_new (es:=tmM []) rfl] at H
  (apply Y0)
  have H : Owns c0 ([.row vv 32 3 0 []]++(.obj m (kObj tmK (tmM ([]++[t])))::.obj b (.cells (baseC (some m) vv mr).toArray 116 (0,0))::L0)) c:=H.pull 2 rfl
  refine dw_startE (I:=[.row vv 32 3 0 []]) H HA ?_
  (refine Dc ?_)
  (refine Dc ?_)
  (refine Dm ?_)
  (refine Dc ?_)
  (refine Dc ?_)
  (refine Dc ?_)
  refine dw_cons (s:=.rel fun u c=>SlV [t] [t.cs] u c) ?_ inferInstance ?_
  ·(intro B _ Lx c H HA;(repeat (first|rintro vx rfl|(intro vx hx;have HA:=HA.addSF hx;clear hx)|(intro vx hx;have HA:=HA.add hx;clear hx)|intro vx));change W _ _ _ _ _ _ _)
   refine s_bs1V (α:=Tm) (cs:=t.cs) (u:=t) rfl rfl rfl rfl rfl rfl H HA inferInstance ?_
   intro vx c H HA
   exact w_nil (pq_rel H Cu HA.h.1)
  refine dw_consE (pv:=none) (r:=.row vv 32 3 0 []) (sel:=id) (S:=fun _=>Tt) (e:=32) (kk:=3) (m:=0+1) (xs:=[]++t.cs) ?_ (fun _=>inferInstance) ?_
  ·(intro B _ Lx c HA;(repeat (first|rintro vx rfl|(intro vx hx;have HA:=HA.addSF hx;clear hx)|(intro vx hx;skip;have HA:=HA.add hx;clear hx)|(intro vx;have hvx2:Go.Value:=vx;clear hvx2)));(first|intro H|(have H:=HA.h.1;have HA:=HA.cut));change W _ _ _ _ _ _ _)
   have H : Owns c0 (.row vv 32 3 0 []::(Lx++_)) c:=H
   refine s_appV rfl rfl rfl (Lk:SlV [t] [t.cs] _ _) rfl rfl rfl (by simp only [List.length_cons,List.length_nil,LIM];omega) H HA inferInstance ?_
   intro n0 c H HA
   exact w_nil (pq_eff H Cu trivial)
  refine dw_doneT mixed (I:=[.row vv 32 3 0 []]) (by kernel_rfl) H HA (by kernel_rfl) ?_
  clear H HA
  intro c HA u44 h44 v2 h45 H
  change W _ _ _ _ _ _ _
  have H : Owns c0 (.row v2 32 3 (0+1) ([]++t.cs)::(.obj m (kObj tmK (tmM ([]++[t])))::.obj b (.cells (baseC (some m) vv mr).toArray 116 (0,0))::L0)) c:=H
  ((refine s_nilCheck rfl rfl ?_);refine Z3 ?_;refine Z79 fun c H HA=>?_;apply Y2;refine Z0 ?_;refine Z2 ?_;apply Y0;apply wc_ret)
  have e1 : numV ([]:List Tm) t=([]:List Tm).length:=by unfold numV;rw [show posV ([]:List Tm) t=none from rfl]
  have e2 : addV ([]:List Tm) t=([]:List Tm)++[t]:=by unfold addV;rw [show posV ([]:List Tm) t=none from rfl]
  have H : Owns c0 (tbR b mr (some m) v2 (([]:List Tm)++[t])++L0) c:=by
   have e3 : ((([]:List Tm)++[t]).map Tm.cs).flatten=(([]:List Tm).map Tm.cs).flatten++t.cs:=by rw [List.map_append,List.flatten_append];simp
   have e4 : (([]:List Tm)++[t]).length=([]:List Tm).length+1:=by rw [List.length_append];rfl
   rw [tbR,e3,e4]
   exact H
  exact ret_fnX (R:=tbR b mr (some m) v2 (([]:List Tm)++[t])) H Ca (outs1 (v:=.int .i64 ((([]:List Tm).length:Nat):Int)) Tryz.results58 rfl) ⟨by rw [e1],m,v2,by rw [e2]⟩
 | some m =>
  have H : Owns c0 (.obj b (.cells (baseC (some m) vv mr).toArray 116 (0,0))::.row vv 32 3 vals.length (vals.map Tm.cs).flatten::.obj m (kObj tmK (tmM vals))::L0) c:=H
  have hlk:=tmM_look vals t
  cases hp : posV vals t with
  | some i =>
   rw [hp] at hlk
   (apply Y1;refine Z31 fun bx c H HA=>?_;refine Z2 ?_;apply Y0;apply wc_seq)
   (refine dw_start H HA ?_)
   (repeat (first|refine Dc ?_|refine Dm ?_))
   (apply dw_cons;(focus ((intro B _ Lx c H HA;(repeat (first|rintro vx rfl|(intro vx hx;have HA:=HA.addSF hx;clear hx)|(intro vx hx;have HA:=HA.add hx;clear hx)|intro vx));change W _ _ _ _ _ _ _);(refine s_lookKTs (q:=t) rfl rfl rfl H (List.mem_append_right _ (.tail _ (.tail _ (.head _)))) hlk ?_);exact Dx));exact inferInstance)
   (repeat (refine Dc ?_))
   (refine dw_done mixed H HA rfl (by kernel_rfl) ?_;clear H HA;intro c H HA;(repeat (first|rintro vx rfl|(intro vx hx;have HA:=HA.addSF hx;clear hx)|(intro vx hx;have HA:=HA.add hx;clear hx)|intro vx));change W _ _ _ _ _ _ _)
   (apply Y0;apply wc_seq;apply Y1;refine Z0 ?_;refine Z33 ?_;apply Y0;refine Z19 ?_;apply wc_skip;apply wx_next;apply Y1;refine Z0 ?_;refine Z2 ?_;apply Y0;apply wc_ret)
   have e1 : numV vals t=i:=by unfold numV;rw [hp]
   have e2 : addV vals t=vals:=by unfold addV;rw [hp]
   exact ret_fnX (R:=tbR b mr (some m) vv vals) H Ca (outs1 (v:=.int .i64 (i:Int)) Tryz.results58 rfl) ⟨by rw [e1],m,vv,by rw [e2]⟩
  | none =>
   rw [hp] at hlk
   (apply Y1;refine Z31 fun bx c H HA=>?_;refine Z2 ?_;apply Y0;apply wc_seq)
   (refine dw_start H HA ?_)
   (repeat (first|refine Dc ?_|refine Dm ?_))
   (apply dw_cons;(focus ((intro B _ Lx c H HA;(repeat (first|rintro vx rfl|(intro vx hx;have HA:=HA.addSF hx;clear hx)|(intro vx hx;have HA:=HA.add hx;clear hx)|intro vx));change W _ _ _ _ _ _ _);(refine s_lookKTn (q:=t) rfl rfl rfl H (List.mem_append_right _ (.tail _ (.tail _ (.head _)))) hlk ?_);exact Dx));exact inferInstance)
   (repeat (refine Dc ?_))
   (refine dw_done mixed H HA rfl (by kernel_rfl) ?_;clear H HA;intro c H HA;(repeat (first|rintro vx rfl|(intro vx hx;have HA:=HA.addSF hx;clear hx)|(intro vx hx;have HA:=HA.add hx;clear hx)|intro vx));change W _ _ _ _ _ _ _)
   (apply Y0;apply wc_seq;apply Y1;refine Z0 ?_;refine Z33 ?_;apply Y0;refine Z18 ?_;apply wc_seq;apply Y1;refine Z0 ?_;(refine s_nilCheck rfl rfl ?_);refine Z3 ?_;refine Z41 ?_)
   refine s_nilM rfl rfl ?_
   (apply Y0;refine Z19 ?_;apply wc_skip;apply wx_next;apply Y1;refine Z0 ?_;(refine s_nilCheck rfl rfl ?_);refine Z3 ?_;refine Z41 ?_;refine Z62 ?_;refine Z2 ?_;apply Y0;apply wc_seq)
   (refine dw_start H HA ?_)
   (repeat (first|refine Dc ?_|refine Dm ?_))
   (refine dw_done mixed H HA rfl (by kernel_rfl) ?_;clear H HA;intro c H HA;(repeat (first|rintro vx rfl|(intro vx hx;have HA:=HA.addSF hx;clear hx)|(intro vx hx;have HA:=HA.add hx;clear hx)|intro vx));change W _ _ _ _ _ _ _)
   (refine s_updK (q:=t) (v:=.int .i64 (vals.length:Int)) rfl rfl rfl (H.pull 2 rfl) HA ?_;intro c H HA)
   rw [kSet_new hlk,←tmM_app] at H
   (apply Y0)
   have H : Owns c0 ([.row vv 32 3 vals.length (vals.map Tm.cs).flatten]++(.obj m (kObj tmK (tmM (vals++[t])))::.obj b (.cells (baseC (some m) vv mr).toArray 116 (0,0))::L0)) c:=H.pull 2 rfl
   refine dw_startE (I:=[.row vv 32 3 vals.length (vals.map Tm.cs).flatten]) H HA ?_
   (refine Dc ?_)
   (refine Dc ?_)
   (refine Dm ?_)
   (refine Dc ?_)
   (refine Dc ?_)
   (refine Dc ?_)
   refine dw_cons (s:=.rel fun u c=>SlV [t] [t.cs] u c) ?_ inferInstance ?_
   ·(intro B _ Lx c H HA;(repeat (first|rintro vx rfl|(intro vx hx;have HA:=HA.addSF hx;clear hx)|(intro vx hx;have HA:=HA.add hx;clear hx)|intro vx));change W _ _ _ _ _ _ _)
    refine s_bs1V (α:=Tm) (cs:=t.cs) (u:=t) rfl rfl rfl rfl rfl rfl H HA inferInstance ?_
    intro vx c H HA
    exact w_nil (pq_rel H Cu HA.h.1)
   refine dw_consE (pv:=none) (r:=.row vv 32 3 vals.length (vals.map Tm.cs).flatten) (sel:=id) (S:=fun _=>Tt) (e:=32) (kk:=3) (m:=vals.length+1) (xs:=(vals.map Tm.cs).flatten++t.cs) ?_ (fun _=>inferInstance) ?_
   ·(intro B _ Lx c HA;(repeat (first|rintro vx rfl|(intro vx hx;have HA:=HA.addSF hx;clear hx)|(intro vx hx;skip;have HA:=HA.add hx;clear hx)|(intro vx;have hvx2:Go.Value:=vx;clear hvx2)));(first|intro H|(have H:=HA.h.1;have HA:=HA.cut));change W _ _ _ _ _ _ _)
    have H : Owns c0 (.row vv 32 3 vals.length (vals.map Tm.cs).flatten::(Lx++_)) c:=H
    refine s_appV rfl rfl rfl (Lk:SlV [t] [t.cs] _ _) rfl rfl rfl (by simp only [List.length_cons,List.length_nil,LIM];omega) H HA inferInstance ?_
    intro n0 c H HA
    exact w_nil (pq_eff H Cu trivial)
   refine dw_doneT mixed (I:=[.row vv 32 3 vals.length (vals.map Tm.cs).flatten]) (by kernel_rfl) H HA (by kernel_rfl) ?_
   clear H HA
   intro c HA u44 h44 v2 h45 H
   change W _ _ _ _ _ _ _
   have H : Owns c0 (.row v2 32 3 (vals.length+1) ((vals.map Tm.cs).flatten++t.cs)::(.obj m (kObj tmK (tmM (vals++[t])))::.obj b (.cells (baseC (some m) vv mr).toArray 116 (0,0))::L0)) c:=H
   ((refine s_nilCheck rfl rfl ?_);refine Z3 ?_;refine Z79 fun c H HA=>?_;apply Y2;refine Z0 ?_;refine Z2 ?_;apply Y0;apply wc_ret)
   have e1 : numV vals t=vals.length:=by unfold numV;rw [show posV vals t=none from hp]
   have e2 : addV vals t=vals++[t]:=by unfold addV;rw [show posV vals t=none from hp]
   have H : Owns c0 (tbR b mr (some m) v2 (vals++[t])++L0) c:=by
    have e3 : ((vals++[t]).map Tm.cs).flatten=(vals.map Tm.cs).flatten++t.cs:=by rw [List.map_append,List.flatten_append];simp
    have e4 : (vals++[t]).length=vals.length+1:=by rw [List.length_append];rfl
    rw [tbR,e3,e4]
    exact H
   exact ret_fnX (R:=tbR b mr (some m) v2 (vals++[t])) H Ca (outs1 (v:=.int .i64 ((vals.length:Nat):Int)) Tryz.results58 rfl) ⟨by rw [e1],m,v2,by rw [e2]⟩
instance : Ent Tryz.prog 55:=.of Tryz.func55 (by kernel_rfl) (by kernel_rfl)
theorem IndexFunc_TmV (xs:List Tm) (v:Value) (c:Cx) (h:Sl v xs c) : Cn Tryz.prog 107 [v,.func (.func 33) #[] #[]] c (fun v _=>∃i:Int,v=.int .i64 i∧decide (i≥0)=xs.any Tm.isVar):=by
 refine Cn.of Tryz.func107 Tryz.ntmps107 rfl rfl fun hm H HA=>?_
 have hlim:=h.lim
 have HA:=HA.add h
 (apply Y1;refine Z2 ?_;apply Y0;apply wc_seq;apply Y1;refine Z0 ?_;refine Z45 ?_;refine Z0 ?_;apply Y0;apply wc_block)
 refine wc_loopN xs.length (fun k=>[(0,v),(1,.func (.func 33) #[] #[]),(7,.int .i64 xs.length),(8,.int .i64 k)]) (fun k=>(xs.any Tm.isVar)=(xs.drop k).any Tm.isVar) 0 H HA Ks (Nat.zero_le _) rfl ?_
 intro k g c hk hp H HA
 (repeat' (first|refine Z0 ?_|refine Z2 ?_|apply w_nil|apply wc_seq|apply wc_region|apply wx_next|refine Z18 ?_|refine Z19 ?_|apply wc_ret|apply wc_exit|apply wc_skip|apply wc_block|apply wx_exit_then|apply wx_exit_same|refine Z93 (fun hq=>?_) fun hq=>?_))
 ·obtain ⟨t,ht⟩:=getq (xs:=xs) (k:=k) (by omega)
  have hd:=drop_get ht
  (refine Z34 HA fun vx HA=>?_;refine Z38 ?_)
  (refine s_callV (caps:=[]) rfl rfl rfl H HA (term_Variable t _) ?_;intro vx c H HP;have hvx:=HP.h.1;have HA:=HP.cut;subst hvx)
  cases hb : t.isVar
  ·(apply Y0;refine Z19 ?_;apply wc_skip;apply wx_norm_block;apply wx_next;apply wc_region;refine Z46 ?_;refine Z0 ?_;apply w_nil)
   exact wx_loopN (k+1) H Cu Ks (by omega) (by rw [hp,hd];simp only [List.any_cons,hb,Bool.false_or])
  ·(apply Y0;refine Z18 ?_;apply Y1;refine Z0 ?_;refine Z2 ?_;apply Y0;apply wc_ret;apply wx_ret_block;apply wx_ret_then;apply wx_ret_then;apply wx_ret_block;apply wx_ret_then)
   exact ret_fn H hm (outs1 Tryz.results107 Wh) ⟨_,rfl,by rw [hp,hd];simp only [List.any_cons,hb,Bool.true_or];simp⟩
 ·exact ret_fn H hm (outs1 Tryz.results107 Wh) ⟨_,rfl,by rw [hp,List.drop_eq_nil_of_le (by omega)];rfl⟩
theorem ContainsFunc_TmV (xs:List Tm) (v:Value) (c:Cx) (h:Sl v xs c) : Cn Tryz.prog 76 [v,.func (.func 33) #[] #[]] c (fun v _=>v=.bool (xs.any Tm.isVar)):=by
 refine Cn.of Tryz.func76 Tryz.ntmps76 rfl rfl fun hm H HA=>?_
 have HA:=HA.add h
 (apply Y1;refine Z2 ?_;apply Y2;refine Z0 ?_;refine Z0 ?_)
 (refine s_call rfl rfl H HA (IndexFunc_TmV xs _ _ Lk) ?_;intro vx c H HA)
 obtain ⟨i,rfl,hi⟩:=HA.h.1
 (focus (refine Z97 (fun hq=>?_) fun hq=>?_;refine Z2 ?_;apply Y0;apply wc_ret;rotate_left;refine Z2 ?_;apply Y0;apply wc_ret;rotate_left))
 all_goals exact ret_fn H hm (outs1 Tryz.results76 Wh) (by rw [←hi];simp;omega)
def isFact (a:At0) : Prop:=a.check=0∧a.by_=Tn∧a.args.any Tm.isVar=false∧a.name.size<4611686018427387904∧a.args.length≤8
theorem isFact_sm {a:At0} (h:isFact a) : ∀t∈a.args,t.sm:=by
 intro t ht
 obtain ⟨h1,_,h3,_,_⟩:=h
 have h4 : (a.args.any fun t=>!t.isConst && !t.isVar)=false:=by
  cases h5 : (a.args.any fun t=>!t.isConst && !t.isVar) with
  | false=>rfl
  | true =>
   exfalso
   refine absurd h1 ?_
   unfold At0.check
   rw [h5,if_pos rfl]
   repeat' split
   all_goals decide
 have h6:=List.any_eq_false.1 h4 t ht
 have h7:=List.any_eq_false.1 h3 t ht
 simp only [Bool.and_eq_true,Bool.not_eq_true',not_and,Bool.not_eq_false] at h6
 have hc : t.isConst=true:=by
  cases hb : t.isConst with
  | true=>rfl
  | false=>exact absurd (h6 hb) h7
 unfold Tm.isConst at hc
 simp only [Bool.or_eq_true,Bool.and_eq_true,beq_iff_eq,decide_eq_true_eq] at hc
 unfold Tm.sm
 rcases hc with ⟨_,hs⟩|⟨_,_,hs⟩
 ·rw [hs];decide
 ·omega
theorem term_Fact (a:At0) (u:Value) (c:Cx) (h:Ag a u c) (hf:isFact a) (hg:Box 1 Tn.cs c) : Cn Tryz.prog 55 [u] c (fun v _=>v=.bool true):=by
 refine Cn.of Tryz.func55 Tryz.ntmps55 rfl rfl fun hm H HA=>?_
 obtain ⟨h1,h2,h3,h4,h5⟩:=hf
 have HA:=(HA.add h).add hg
 (apply wc_seq;apply wc_region)
 (refine s_boxG rfl rfl Lk H HA ?_;intro p c H HA)
 (refine Z2 ?_;apply Y2;refine Z39 HA fun vx HA=>?_)
 (refine s_call rfl rfl H HA (term_CheckAtom a _ _ Lk h4 Lk) ?_;intro vx c H HP;have hvx:=HP.h.1;have HA:=HP.cut;subst hvx)
 rw [h1]
 (repeat' (first|refine Z0 ?_|refine Z2 ?_|refine Z4 ?_|refine Z5 ?_|apply w_nil|apply wx_next|apply wc_ret|refine Z30 ?_|refine Z35 HA fun vx HA=>?_|refine Z38 ?_|refine Z92 (fun hq=>?_) fun hq=>?_))
 ·(refine s_call rfl rfl H HA (term_Variable a.by_ _) ?_;intro vx c H HP;have hvx:=HP.h.1;have HA:=HP.cut;subst hvx)
  rw [h2,show Tn.isVar=false from rfl]
  (refine Z4 ?_;refine Z33 ?_;refine Z8 ?_;refine Z0 ?_;refine Z4 ?_;refine Z35 HA fun vx HA=>?_;refine Z4 ?_;refine Z37 HA fun vx HA=>?_;refine Z4 ?_)
  (refine s_call rfl rfl H HA (ContainsFunc_TmV a.args _ _ Lk) ?_;intro vx c H HP;have hvx:=HP.h.1;have HA:=HP.cut;subst hvx)
  rw [h3]
  (refine Z4 ?_;refine Z33 ?_;refine Z8 ?_;refine Z2 ?_;apply Y0;apply wc_ret)
  exact ret_fn H hm (outs1 (v:=.bool true) Tryz.results55 rfl) rfl
 ·exfalso;omega
end Go.Proofs.YtnppmeeibbefbaaGreatDoor
namespace Go.Wk
open Go Go.RowKit
structure BaS where
 b : Nat
 mr : Nat
 mn : Option Nat
 vv : Value
 vals : List Tm
 rels : List (Pr×RlS)
def BaS.rm (B:BaS) : List (Pr×Value):=B.rels.map fun q=>(q.1,ptr q.2.b)
structure BaOk (B:BaS) : Prop where
 nil : B.mn=none→B.vals=[]
 nd : B.vals.Nodup
 tn : B.vals≠[]→B.vals[0]?=some Tn
 key : (B.rels.map Prod.fst).Nodup
 rok : ∀q∈B.rels,RlOk q.2∧q.2.width=q.1.ar+1
 num : ∀q∈B.rels,∀e∈q.2.all,∀n∈e.row,n<B.vals.length
 sm : (∀t∈B.vals,t.sm)∧∀q∈B.rels,q.1.name.size<4611686018427387904
def BaF (B:BaS) (c:Cx) : Prop:=∀q,q∈B.rels→RlF q.2 c
instance (B : BaS) : Mono (BaF B):=inferInstanceAs (Mono fun c=>∀q,q∈B.rels→RlF q.2 c)
def factOf (vals:List Tm) (name:ByteArray) (row:List Nat) : At0:=⟨Tn,name,row.tail.map fun i=>vals.getD i Tn⟩
def BaS.part (B:BaS) (l:RlS→List En0) : List At0:=B.rels.flatMap fun q=>(l q.2).map fun e=>factOf B.vals q.1.name e.row
def BaS.old (B:BaS) : List At0:=B.part RlS.eo
def BaS.new (B:BaS) : List At0:=B.part RlS.en
def BaS.next (B:BaS) : List At0:=B.part RlS.ex
def BaS.size (B:BaS) : Nat:=(B.rels.map fun q=>q.2.all.length).sum
def numsV : List Tm→List Tm→List Nat×List Tm
 | vals,[]=>([],vals)
 | vals,t::ts=>(numV vals t::(numsV (addV vals t) ts).1,(numsV (addV vals t) ts).2)
theorem numsV_snoc : ∀(vals ts:List Tm) (t:Tm),numsV vals (ts++[t])=((numsV vals ts).1++[numV (numsV vals ts).2 t],addV (numsV vals ts).2 t)
 | vals,[],t=>rfl
 | vals,s::ts,t=>by
  have ih:=numsV_snoc (addV vals s) ts t
  simp only [List.cons_append,numsV,ih]
theorem numsV_len : ∀(vals ts:List Tm),(numsV vals ts).1.length=ts.length
 | vals,[]=>rfl
 | vals,s::ts=>by simp [numsV,numsV_len (addV vals s) ts]
theorem numsV_pre : ∀(vals ts:List Tm) {i:Nat} {x:Tm},vals[i]?=some x→(numsV vals ts).2[i]?=some x
 | vals,[],_,_,h=>h
 | vals,s::ts,_,_,h=>numsV_pre (addV vals s) ts (addV_pre h)
theorem numsV_nd : ∀(vals ts:List Tm),vals.Nodup→(numsV vals ts).2.Nodup
 | vals,[],h=>h
 | vals,s::ts,h=>numsV_nd (addV vals s) ts (addV_nd h)
theorem numsV_le : ∀(vals ts:List Tm),vals.length≤(numsV vals ts).2.length∧(numsV vals ts).2.length≤vals.length+ts.length
 | vals,[]=>⟨Nat.le_refl _,Nat.le_refl _⟩
 | vals,s::ts=>by
  have h1:=numsV_le (addV vals s) ts
  have h2:=addV_len vals s
  simp only [numsV,List.length_cons]
  omega
theorem numsV_get : ∀(vals ts:List Tm) {j n:Nat} {t:Tm},(numsV vals ts).1[j]?=some n→ts[j]?=some t→(numsV vals ts).2[n]?=some t
 | vals,s::ts,0,n,t,h1,h2=>by
  simp only [numsV,List.getElem?_cons_zero,Option.some.injEq] at h1 h2
  subst h1 h2
  exact numsV_pre (addV vals s) ts (addV_get vals s)
 | vals,s::ts,j+1,n,t,h1,h2=>by
  simp only [numsV,List.getElem?_cons_succ] at h1 h2
  exact numsV_get (addV vals s) ts h1 h2
 | vals,[],_,_,_,h1,h2=>by simp at h2
def rowV (vals args:List Tm) : List Nat:=0::(numsV vals args).1
theorem row_vals {vals args:List Tm} : ((numsV vals args).1).map (fun i=>(numsV vals args).2.getD i Tn)=args:=by
 apply List.ext_getElem?
 intro j
 rw [List.getElem?_map]
 by_cases hj : j<args.length
 ·obtain ⟨n,hn⟩:=getq (xs:=(numsV vals args).1) (k:=j) (by rw [numsV_len];exact hj)
  obtain ⟨t,ht⟩:=getq (xs:=args) (k:=j) hj
  rw [hn,ht,Option.map_some,List.getD_eq_getElem?_getD,numsV_get vals args hn ht]
  rfl
 ·rw [List.getElem?_eq_none (by rw [numsV_len];omega),List.getElem?_eq_none (by omega)]
  rfl
theorem factOf_row {vals:List Tm} {f:At0} (h:f.by_=Tn) : factOf (numsV vals f.args).2 f.name (rowV vals f.args)=f:=by
 obtain ⟨by_,name,args⟩:=f
 simp only at h
 subst h
 simp only [factOf,rowV,List.tail_cons,row_vals]
theorem factOf_pre {vals vals':List Tm} {name:ByteArray} {row:List Nat} (h:∀(i:Nat) (x:Tm),vals[i]?=some x→vals'[i]?=some x) (hr:∀n∈row,n<vals.length) : factOf vals' name row=factOf vals name row:=by
 unfold factOf
 congr 1
 apply List.map_congr_left
 intro i hi
 obtain ⟨x,hx⟩:=getq (xs:=vals) (k:=i) (hr i (List.mem_of_mem_tail hi))
 rw [List.getD_eq_getElem?_getD,List.getD_eq_getElem?_getD,h i x hx,hx]
theorem factOf_inj {vals:List Tm} (hn:vals.Nodup) {name name':ByteArray} {r r':List Nat} (h0:r[0]?=some 0) (h0':r'[0]?=some 0) (h1:∀n∈r,n<vals.length) (h1':∀n∈r',n<vals.length) (h:factOf vals name r=factOf vals name' r') : name=name'∧r=r':=by
 simp only [factOf,At0.mk.injEq,true_and] at h
 refine ⟨h.1,?_⟩
 cases r with
 | nil=>simp at h0
 | cons a r =>
  cases r' with
  | nil=>simp at h0'
  | cons a' r' =>
   simp only [List.getElem?_cons_zero,Option.some.injEq] at h0 h0'
   subst h0 h0'
   congr 1
   have h2:=h.2
   simp only [List.tail_cons] at h2
   apply List.ext_getElem?
   intro j
   have h3:=congrArg (·[j]?) h2
   simp only [List.getElem?_map] at h3
   cases hr : r[j]? with
   | none =>
    cases hr' : r'[j]? with
    | none=>rfl
    | some m=>rw [hr,hr'] at h3;cases h3
   | some n =>
    cases hr' : r'[j]? with
    | none=>rw [hr,hr'] at h3;cases h3
    | some m =>
     rw [hr,hr'] at h3
     simp only [Option.map_some,Option.some.injEq] at h3
     have l1:=h1 n (.tail _ (List.mem_of_getElem? hr))
     have l2:=h1' m (.tail _ (List.mem_of_getElem? hr'))
     rw [List.getD_eq_getElem?_getD,List.getD_eq_getElem?_getD,List.getElem?_eq_getElem l1,List.getElem?_eq_getElem l2] at h3
     simp only [Option.getD_some] at h3
     exact congrArg some ((List.getElem_inj hn).1 h3)
theorem posV_zero {vals:List Tm} (h:vals≠[]→vals[0]?=some Tn) : numV vals Tn=0∧(addV vals Tn)[0]?=some Tn:=by
 cases vals with
 | nil=>exact ⟨rfl,rfl⟩
 | cons x vals =>
  have h1:=h (by simp)
  simp only [List.getElem?_cons_zero,Option.some.injEq] at h1
  subst h1
  have hp : posV (Tn::vals) Tn=some 0:=by simp [posV,List.findIdx?_cons]
  exact ⟨by unfold numV;rw [hp],by unfold addV;rw [hp];rfl⟩
theorem mem_part {B:BaS} {l:RlS→List En0} {a:At0} : a∈B.part l↔∃q∈B.rels,∃e∈l q.2,factOf B.vals q.1.name e.row=a:=by
 simp only [BaS.part,List.mem_flatMap,List.mem_map]
def BaS.ext (B:BaS) (m:Nat) (vv:Value) (vals:List Tm) : BaS:={ B with mn:=some m,vv:=vv,vals:=vals }
theorem BaOk.ext {B:BaS} {m:Nat} {vv:Value} {vals:List Tm} (h:BaOk B) (hpre:∀(i:Nat) (x:Tm),B.vals[i]?=some x→vals[i]?=some x) (hnd:vals.Nodup) (h0:vals[0]?=some Tn) (hs:∀t∈vals,t.sm) : BaOk (B.ext m vv vals):=by
 refine ⟨(fun h=>by cases h),hnd,fun _=>h0,h.key,h.rok,?_,hs,h.sm.2⟩
 intro q hq e he n hn
 obtain ⟨x,hx⟩:=getq (xs:=B.vals) (k:=n) (h.num q hq e he n hn)
 exact (List.getElem?_eq_some_iff.1 (hpre n x hx)).1
theorem ext_part {B:BaS} {m:Nat} {vv:Value} {vals:List Tm} (h:BaOk B) (hpre:∀(i:Nat) (x:Tm),B.vals[i]?=some x→vals[i]?=some x) {l:RlS→List En0} (hl:∀r e,e∈l r→e∈r.all) : (B.ext m vv vals).part l=B.part l:=by
 unfold BaS.part
 show B.rels.flatMap _=B.rels.flatMap _
 rw [List.flatMap_def,List.flatMap_def]
 congr 1
 apply List.map_congr_left
 intro q hq
 apply List.map_congr_left
 intro e he
 exact factOf_pre hpre (h.num q hq e (hl _ _ he))
theorem eo_all (r:RlS) (e:En0) (h:e∈r.eo) : e∈r.all:=List.mem_append_left _ (List.mem_append_left _ h)
theorem en_all (r:RlS) (e:En0) (h:e∈r.en) : e∈r.all:=List.mem_append_left _ (List.mem_append_right _ h)
theorem ex_all (r:RlS) (e:En0) (h:e∈r.ex) : e∈r.all:=List.mem_append_right _ h
theorem all_or {r:RlS} {e:En0} (h:e∈r.all) : e∈r.eo∨e∈r.en∨e∈r.ex:=by
 simp only [RlS.all,List.mem_append,or_assoc] at h
 exact h
theorem sum_set : ∀(l:List Nat) (j a b:Nat),l[j]?=some a→(l.set j b).sum+a=l.sum+b
 | [],j,a,b,h=>by simp at h
 | x::l,0,a,b,h=>by
  simp only [List.getElem?_cons_zero,Option.some.injEq] at h
  subst h
  simp only [List.set_cons_zero,List.sum_cons]
  omega
 | x::l,j+1,a,b,h=>by
  have:=sum_set l j a b (by simpa using h)
  simp only [List.set_cons_succ,List.sum_cons]
  omega
theorem sum_get : ∀(l:List Nat) (j a:Nat),l[j]?=some a→a≤l.sum
 | [],j,a,h=>by simp at h
 | x::l,0,a,h=>by
  simp only [List.getElem?_cons_zero,Option.some.injEq] at h
  subst h
  simp only [List.sum_cons]
  omega
 | x::l,j+1,a,h=>by
  have:=sum_get l j a (by simpa using h)
  simp only [List.sum_cons]
  omega
theorem size_get {B:BaS} {j:Nat} {q:Pr×RlS} (h:B.rels[j]?=some q) : q.2.all.length≤B.size:=sum_get _ j _ (by rw [List.getElem?_map,h];rfl)
def BaS.setR (B:BaS) (j:Nat) (q:Pr×RlS) : BaS:={ B with rels:=B.rels.set j q }
theorem map_set_same {α β:Type} {g:α→β} {l:List α} {j:Nat} {a b:α} (h:l[j]?=some a) (e:g b=g a) : (l.set j b).map g=l.map g:=by
 rw [List.map_set,e]
 apply List.ext_getElem?
 intro i
 rw [List.getElem?_set]
 split
 ·rename_i hij
  subst hij
  rw [List.getElem?_map,h]
  simp [(List.getElem?_eq_some_iff.1 h).1]
 ·rfl
theorem setR_part {B:BaS} {j:Nat} {p:Pr} {r r':RlS} (h:B.rels[j]?=some (p,r)) {l:RlS→List En0} (e:l r'=l r) : (B.setR j (p,r')).part l=B.part l:=by
 unfold BaS.part
 show (B.rels.set j (p,r')).flatMap _=B.rels.flatMap _
 rw [List.flatMap_def,List.flatMap_def]
 congr 1
 exact map_set_same h (by simp only [e])
theorem setR_next {B:BaS} {j:Nat} {p:Pr} {r:RlS} {e:En0} {nv:Value} {cnt:List Int} {ix:List IxS} (h:B.rels[j]?=some (p,r)) (a:At0) : a∈(B.setR j (p,r.put e nv cnt ix)).next↔a∈B.next∨a=factOf B.vals p.name e.row:=by
 have hj:=(List.getElem?_eq_some_iff.1 h).1
 have hs : (B.rels.set j (p,r.put e nv cnt ix))[j]?=some (p,r.put e nv cnt ix):=by simp [hj]
 have h1:=perm_pull hs
 have h2:=perm_pull h
 rw [List.eraseIdx_set_eq] at h1
 unfold BaS.next
 rw [mem_part,mem_part]
 show (∃q∈B.rels.set j (p,r.put e nv cnt ix),∃x∈RlS.ex q.2,factOf B.vals q.1.name x.row=a)↔_
 constructor
 ·rintro ⟨q,hq,x,hx,rfl⟩
  rcases List.mem_cons.1 (h1.mem_iff.1 hq) with rfl|hq
  ·have hx : x∈r.ex++[e]:=hx
   rcases List.mem_append.1 hx with hx|hx
   ·exact .inl ⟨(p,r),h2.mem_iff.2 (.head _),x,hx,rfl⟩
   ·rw [List.mem_singleton.1 hx];exact .inr rfl
  ·exact .inl ⟨q,h2.mem_iff.2 (.tail _ hq),x,hx,rfl⟩
 ·rintro (⟨q,hq,x,hx,rfl⟩|rfl)
  ·rcases List.mem_cons.1 (h2.mem_iff.1 hq) with rfl|hq
   ·exact ⟨(p,r.put e nv cnt ix),h1.mem_iff.2 (.head _),x,List.mem_append_left _ hx,rfl⟩
   ·exact ⟨q,h1.mem_iff.2 (.tail _ hq),x,hx,rfl⟩
  ·exact ⟨(p,r.put e nv cnt ix),h1.mem_iff.2 (.head _),e,List.mem_append_right _ (.head _),rfl⟩
theorem BaOk.setR {B:BaS} {j:Nat} {p:Pr} {r r':RlS} (hB:BaOk B) (h:B.rels[j]?=some (p,r)) (h1:RlOk r') (h2:r'.width=p.ar+1) (h3:∀e∈r'.all,∀n∈e.row,n<B.vals.length) : BaOk (B.setR j (p,r')):=by
 refine ⟨hB.nil,hB.nd,hB.tn,?_,?_,?_,hB.sm.1,?_⟩
 ·show ((B.rels.set j (p,r')).map Prod.fst).Nodup
  rw [map_set_same (g:=Prod.fst) (b:=(p,r')) h rfl]
  exact hB.key
 ·intro q hq
  rcases List.mem_or_eq_of_mem_set (show q∈B.rels.set j (p,r') from hq) with hq|rfl
  ·exact hB.rok q hq
  ·exact ⟨h1,h2⟩
 ·intro q hq
  rcases List.mem_or_eq_of_mem_set (show q∈B.rels.set j (p,r') from hq) with hq|rfl
  ·exact hB.num q hq
  ·exact h3
 ·intro q hq
  rcases List.mem_or_eq_of_mem_set (show q∈B.rels.set j (p,r') from hq) with hq|rfl
  ·exact hB.sm.2 q hq
  ·exact hB.sm.2 (p,r) (List.mem_of_getElem? h)
theorem setR_size {B:BaS} {j:Nat} {p:Pr} {r r':RlS} (h:B.rels[j]?=some (p,r)) : (B.setR j (p,r')).size+r.all.length=B.size+r'.all.length:=by
 have:=sum_set (B.rels.map fun q=>q.2.all.length) j r.all.length r'.all.length (by rw [List.getElem?_map,h];rfl)
 rw [←List.map_set (f:=fun q:Pr×RlS=>q.2.all.length) (a:=(p,r'))] at this
 exact this
theorem row_there {B:BaS} (hB:BaOk B) {j:Nat} {p:Pr} {r:RlS} {f:At0} {row:List Nat} (h:B.rels[j]?=some (p,r)) (hp:p=⟨f.name,f.args.length⟩) (hrow:factOf B.vals f.name row=f) (hl:row.length=f.args.length+1) (h0:row[0]?=some 0) (hn:∀n∈row,n<B.vals.length) :
  (∃e∈r.all,e.row=row)↔f∈B.old∨f∈B.new∨f∈B.next:=by
 have hm : (p,r)∈B.rels:=List.mem_of_getElem? h
 constructor
 ·rintro ⟨e,he,rfl⟩
  have hf : factOf B.vals p.name e.row=f:=by rw [hp];exact hrow
  rcases all_or he with he|he|he
  ·exact .inl (mem_part.2 ⟨(p,r),hm,e,he,hf⟩)
  ·exact .inr (.inl (mem_part.2 ⟨(p,r),hm,e,he,hf⟩))
  ·exact .inr (.inr (mem_part.2 ⟨(p,r),hm,e,he,hf⟩))
 ·intro hf
  have key : ∀(q:Pr×RlS) (e:En0),q∈B.rels→e∈q.2.all→factOf B.vals q.1.name e.row=f→∃e∈r.all,e.row=row:=by
   intro q e hq he hfe
   have hok:=hB.rok q hq
   have hi:=factOf_inj hB.nd (hok.1.hd e he) h0 (hB.num q hq e he) hn (hfe.trans hrow.symm)
   have hw:=hok.1.wd e he
   rw [hi.2,hl,hok.2] at hw
   have hqp : q.1=p:=by
    obtain ⟨⟨qn,qa⟩,qr⟩:=q
    rw [hp]
    simp only [Pr.mk.injEq]
    exact ⟨hi.1,by simpa using hw.symm⟩
   have hqe : q=(p,r):=by
    obtain ⟨i,hi2⟩:=List.getElem?_of_mem hq
    have e1 : (B.rels.map Prod.fst)[i]?=some p:=by rw [List.getElem?_map,hi2,Option.map_some,hqp]
    have e2 : (B.rels.map Prod.fst)[j]?=some p:=by rw [List.getElem?_map,h];rfl
    have e3 : i=j:=(List.getElem?_inj (List.getElem?_eq_some_iff.1 e1).1 hB.key).1 (e1.trans e2.symm)
    subst e3
    rw [hi2] at h
    exact Option.some.inj h
   subst hqe
   exact ⟨e,he,hi.2⟩
  rcases hf with hf|hf|hf
  ·obtain ⟨q,hq,e,he,hfe⟩:=mem_part.1 hf
   exact key q e hq (eo_all _ _ he) hfe
  ·obtain ⟨q,hq,e,he,hfe⟩:=mem_part.1 hf
   exact key q e hq (en_all _ _ he) hfe
  ·obtain ⟨q,hq,e,he,hfe⟩:=mem_part.1 hf
   exact key q e hq (ex_all _ _ he) hfe
end Go.Wk
