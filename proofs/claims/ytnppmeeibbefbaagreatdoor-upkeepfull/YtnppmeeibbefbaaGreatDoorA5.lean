/- a part of the proof: lemmas on walks, on plain data, contracts of functions. -/
import Derived.Test.YtnppmeeibbefbaaGreatDoorProg
import Derived.KernelRfl
import Derived.Laws.StructEq
import Derived.Test.YtnppmeeibbefbaaGreatDoorA1
import Derived.Test.YtnppmeeibbefbaaGreatDoorA2
import Derived.Test.YtnppmeeibbefbaaGreatDoorA3
set_option linter.all false
namespace Go.Wk
open Go
def aggB : TypeDesc→Bool
 | .struct _=>true
 | .array ..=>true
 | _=>false
theorem run_isAgg {P:Program} {T:TypeId} {d:TypeDesc} (h:P.underlying T=some d) (w:World) : (isAgg T).run P w=.ok (aggB d) w:=by
 simp only [isAgg,Sem.run_bind,run_underlying h,Result.andThen_ok]
 cases d<;>rfl
theorem run_sizeOf' {P:Program} {T:TypeId} {k:Nat} (h:(P.info? T).map (·.size)=some k) (w:World) : (sizeOf T).run P w=.ok k w:=by
 cases hi : P.info? T with
 | none=>simp [hi] at h
 | some i=>simp [hi] at h;simp [sizeOf,typeInfo,hi,h]
theorem agg_split {P:Program} {T:TypeId} {b:Bool} (h:(P.underlying T).map aggB=some b) (w:World) : (isAgg T).run P w=.ok b w:=by
 cases hd : P.underlying T with
 | none=>simp [hd] at h
 | some d=>simp [hd] at h;rw [run_isAgg hd,h]
theorem Prim.of {P:Program} {T:TypeId} (h:(P.underlying T).map aggB=some false) (hs:(P.info? T).map (·.size)=some 1) : Prim P T:=⟨agg_split h,run_sizeOf' hs⟩
theorem Agg.of {P:Program} {T:TypeId} {k:Nat} (h:(P.underlying T).map aggB=some true) (hs:(P.info? T).map (·.size)=some k) : Agg P T k:=⟨agg_split h,run_sizeOf' hs⟩
theorem Zer.of {P:Program} {T:TypeId} {z:Value} (h:(P.info? T).map (·.zero)=some (some z)) : Zer P T z:=⟨fun w=>by
 cases hi : P.info? T with
 | none=>simp [hi] at h
 | some i=>simp [hi] at h;simp [zeroValue,typeInfo,hi,h]⟩
theorem TyI.of {P:Program} {T:TypeId} {z:Value} {k b:Nat} (h:(P.info? T).map (fun i=>(i.zero,i.size,i.bytes))=some (some z,k,b)) : TyI P T z k b:=⟨by
 cases hi : P.info? T with
 | none=>simp [hi] at h
 | some i=>simp [hi] at h;exact ⟨i,rfl,h.1,h.2.1,h.2.2⟩⟩
def fldB (P:Program) (T:TypeId) (i:Nat) : Option (Nat×Nat) :=
 match P.underlying T with
 | some (.struct fs)=>(fs[i]?).bind fun fd=>(P.info? fd.type).map fun j=>(fd.offset,j.size)
 | _=>none
theorem Fld.of {P:Program} {T:TypeId} {i off k:Nat} (h:fldB P T i=some (off,k+1)) : Fld P T i off:=⟨fun b o w=>by
 unfold fldB at h
 split at h
 ·rename_i fs hu
  cases hf : fs[i]? with
  | none=>simp [hf] at h
  | some fd =>
   cases hi : P.info? fd.type with
   | none=>simp [hf,hi] at h
   | some j =>
    simp [hf,hi] at h
    simp [Instr.fieldAt,run_underlying hu,hf,Instr.sureAddr,fieldPlace,sizeOf,typeInfo,hi,h.1,h.2,Addr.add_lit]
 ·cases h⟩
def plB (P:Program) (T:TypeId) : Option (List (Nat×Nat)) :=
 match P.underlying T with
 | some (.struct fs)=>fs.toList.mapM fun f=>(P.info? f.type).map fun j=>(f.offset,j.size)
 | _=>none
theorem run_places {P:Program} : ∀(fs:List Field) (pl:List (Nat×Nat)) (w:World),(fs.mapM fun f=>(P.info? f.type).map fun j=>(f.offset,j.size))=some pl→(fs.mapM (m:=Sem) fun f=>do pure (f.offset,←sizeOf f.type)).run P w=.ok pl w:=by
 intro fs
 induction fs with
 | nil=>intro pl w h;simp at h;subst h;simp
 | cons fd fs ih =>
  intro pl w h
  simp only [List.mapM_cons] at h
  cases hi : P.info? fd.type with
  | none=>simp [hi] at h
  | some j =>
   cases hr : (fs.mapM fun f=>(P.info? f.type).map fun j=>(f.offset,j.size)) with
   | none=>simp [hi,hr] at h
   | some r =>
    simp [hi,hr] at h
    subst h
    have hs : (sizeOf fd.type).run P w=.ok j.size w:=run_sizeOf' (by rw [hi];rfl) w
    simp only [List.mapM_cons,Sem.run_bind,hs,Result.andThen_ok,Sem.run_pure,ih r w hr]
theorem Bld.of {P:Program} {T:TypeId} {z:Value} {pl:List (Nat×Nat)} (hz:(P.info? T).map (·.zero)=some (some z)) (hp:plB P T=some pl) : Bld P T z pl :=
 ⟨(Zer.of hz).z,fun parts cells w hf=>by
  unfold plB at hp
  split at hp
  ·rename_i fs hu
   have h1:=run_places (P:=P) fs.toList pl w hp
   have h2 : (fs.mapM (m:=Sem) fun f=>do pure (f.offset,←sizeOf f.type)).run P w=.ok pl.toArray w:=by
    rw [Array.mapM_eq_mapM_toList]
    simp only [Sem.run_map,h1,Result.andThen_ok]
   unfold Instr.build
   simp only [Sem.run_bind,(Zer.of hz).z w,run_underlying hu,Result.andThen_ok,h2]
   have hf' : Instr.fill (fun x=>pl.toArray[x]?) z.cells parts=some cells:=hf
   simp only [hf',Sem.run_pure]
  ·cases hp⟩
end Go.Wk
namespace Go.Proofs.YtnppmeeibbefbaaGreatDoor
open Go Go.Wk

instance : Prim Tryz.prog 3:=.of (by kernel_rfl) (by kernel_rfl)
instance : Prim Tryz.prog 4:=.of (by kernel_rfl) (by kernel_rfl)
instance : Prim Tryz.prog 9:=.of (by kernel_rfl) (by kernel_rfl)
instance : Prim Tryz.prog 33:=.of (by kernel_rfl) (by kernel_rfl)
instance : Prim Tryz.prog 25:=.of (by kernel_rfl) (by kernel_rfl)
instance : Prim Tryz.prog 37:=.of (by kernel_rfl) (by kernel_rfl)
instance : Prim Tryz.prog 50:=.of (by kernel_rfl) (by kernel_rfl)
instance : Prim Tryz.prog 123:=.of (by kernel_rfl) (by kernel_rfl)
instance : Prim Tryz.prog 126:=.of (by kernel_rfl) (by kernel_rfl)
instance : Prim Tryz.prog 74:=.of (by kernel_rfl) (by kernel_rfl)
instance : Agg Tryz.prog 32 3:=.of (by kernel_rfl) (by kernel_rfl)
instance : Agg Tryz.prog 35 5:=.of (by kernel_rfl) (by kernel_rfl)
instance : Agg Tryz.prog 39 7:=.of (by kernel_rfl) (by kernel_rfl)
instance : Agg Tryz.prog 107 7:=.of (by kernel_rfl) (by kernel_rfl)
instance : Agg Tryz.prog 199 4:=.of (by kernel_rfl) (by kernel_rfl)
instance : Zer Tryz.prog 32 (.agg #[.int .i64 0,.int .i64 0,.string ⟨#[]⟩]):=.of (by kernel_rfl)
instance : TyI Tryz.prog 32 (.agg #[.int .i64 0,.int .i64 0,.string ⟨#[]⟩]) 3 32:=.of (by kernel_rfl)
instance : Zer Tryz.prog 35 (.agg #[.int .i64 0,.int .i64 0,.string ⟨#[]⟩,.string ⟨#[]⟩,.slice none 0 0]):=.of (by kernel_rfl)
instance : TyI Tryz.prog 35 (.agg #[.int .i64 0,.int .i64 0,.string ⟨#[]⟩,.string ⟨#[]⟩,.slice none 0 0]) 5 72:=.of (by kernel_rfl)
instance : Zer Tryz.prog 39 (.agg #[.int .i64 0,.int .i64 0,.string ⟨#[]⟩,.string ⟨#[]⟩,.slice none 0 0,.slice none 0 0,.slice none 0 0]):=.of (by kernel_rfl)
instance : TyI Tryz.prog 39 (.agg #[.int .i64 0,.int .i64 0,.string ⟨#[]⟩,.string ⟨#[]⟩,.slice none 0 0,.slice none 0 0,.slice none 0 0]) 7 120:=.of (by kernel_rfl)
instance : Zer Tryz.prog 107 (.agg #[.int .i64 0,.int .i64 0,.int .i64 0,.string ⟨#[]⟩,.int .i64 0,.int .i64 0,.string ⟨#[]⟩]):=.of (by kernel_rfl)
instance : TyI Tryz.prog 107 (.agg #[.int .i64 0,.int .i64 0,.int .i64 0,.string ⟨#[]⟩,.int .i64 0,.int .i64 0,.string ⟨#[]⟩]) 7 72:=.of (by kernel_rfl)
instance : Zer Tryz.prog 199 (.agg #[.int .i64 0,.int .i64 0,.int .i64 0,.string ⟨#[]⟩]):=.of (by kernel_rfl)
instance : TyI Tryz.prog 199 (.agg #[.int .i64 0,.int .i64 0,.int .i64 0,.string ⟨#[]⟩]) 4 40:=.of (by kernel_rfl)
instance : BldZ Tryz.prog 32 [[.int .i64 0],[.int .i64 0],[.string ⟨#[]⟩]]:=⟨Bld.of (by kernel_rfl) (by kernel_rfl)⟩
instance : BldZ Tryz.prog 35 [[.int .i64 0,.int .i64 0,.string ⟨#[]⟩],[.string ⟨#[]⟩],[.slice none 0 0]]:=⟨Bld.of (by kernel_rfl) (by kernel_rfl)⟩
instance : BldZ Tryz.prog 39 [[.int .i64 0,.int .i64 0,.string ⟨#[]⟩,.string ⟨#[]⟩,.slice none 0 0],[.slice none 0 0],[.slice none 0 0]]:=⟨Bld.of (by kernel_rfl) (by kernel_rfl)⟩
instance : BldZ Tryz.prog 107 [[.int .i64 0],[.int .i64 0,.int .i64 0,.string ⟨#[]⟩],[.int .i64 0,.int .i64 0,.string ⟨#[]⟩]]:=⟨Bld.of (by kernel_rfl) (by kernel_rfl)⟩
instance : BldZ Tryz.prog 199 [[.int .i64 0],[.int .i64 0,.int .i64 0,.string ⟨#[]⟩]]:=⟨Bld.of (by kernel_rfl) (by kernel_rfl)⟩
instance : Zer Tryz.prog 3 (.int .i64 0):=.of (by kernel_rfl)
instance : TyI Tryz.prog 3 (.int .i64 0) 1 8:=.of (by kernel_rfl)
instance : Zer Tryz.prog 4 (.bool false):=.of (by kernel_rfl)
instance : Zer Tryz.prog 33 (.slice none 0 0):=.of (by kernel_rfl)
instance : TyI Tryz.prog 33 (.slice none 0 0) 1 24:=.of (by kernel_rfl)
instance : Zer Tryz.prog 25 (.slice none 0 0):=.of (by kernel_rfl)
instance : TyI Tryz.prog 126 (.slice none 0 0) 1 24:=.of (by kernel_rfl)
instance : Zer Tryz.prog 123 (.slice none 0 0):=.of (by kernel_rfl)
instance : Fld Tryz.prog 32 0 0:=.of (k:=0) (by kernel_rfl)
instance : Fld Tryz.prog 32 1 1:=.of (k:=0) (by kernel_rfl)
instance : Fld Tryz.prog 32 2 2:=.of (k:=0) (by kernel_rfl)
instance : Fld Tryz.prog 35 0 0:=.of (k:=2) (by kernel_rfl)
instance : Fld Tryz.prog 35 1 3:=.of (k:=0) (by kernel_rfl)
instance : Fld Tryz.prog 35 2 4:=.of (k:=0) (by kernel_rfl)
instance : Fld Tryz.prog 39 0 0:=.of (k:=4) (by kernel_rfl)
instance : Fld Tryz.prog 39 1 5:=.of (k:=0) (by kernel_rfl)
instance : Fld Tryz.prog 39 2 6:=.of (k:=0) (by kernel_rfl)
instance : Fld Tryz.prog 107 0 0:=.of (k:=0) (by kernel_rfl)
instance : Fld Tryz.prog 107 1 1:=.of (k:=2) (by kernel_rfl)
instance : Fld Tryz.prog 107 2 4:=.of (k:=2) (by kernel_rfl)
instance : Fld Tryz.prog 199 0 0:=.of (k:=0) (by kernel_rfl)
instance : Fld Tryz.prog 199 1 1:=.of (k:=2) (by kernel_rfl)
instance : SlT Tryz.prog 33 32:=⟨by kernel_rfl⟩
instance : SlT Tryz.prog 25 35:=⟨by kernel_rfl⟩
instance : SlT Tryz.prog 37 107:=⟨by kernel_rfl⟩
instance : SlT Tryz.prog 50 39:=⟨by kernel_rfl⟩
instance : SlT Tryz.prog 126 199:=⟨by kernel_rfl⟩
instance : SlT Tryz.prog 123 3:=⟨by kernel_rfl⟩
instance : SlT Tryz.prog 183 126:=⟨by kernel_rfl⟩
instance : StrT Tryz.prog 9:=⟨by kernel_rfl⟩
instance ent5 : Ent Tryz.prog 5:=.of Tryz.func5 (by kernel_rfl) (by kernel_rfl)
instance ent6 : Ent Tryz.prog 6:=.of Tryz.func6 (by kernel_rfl) (by kernel_rfl)
instance ent7 : Ent Tryz.prog 7:=.of Tryz.func7 (by kernel_rfl) (by kernel_rfl)
instance ent8 : Ent Tryz.prog 8:=.of Tryz.func8 (by kernel_rfl) (by kernel_rfl)
instance ent9 : Ent Tryz.prog 9:=.of Tryz.func9 (by kernel_rfl) (by kernel_rfl)
instance ent10 : Ent Tryz.prog 10:=.of Tryz.func10 (by kernel_rfl) (by kernel_rfl)
instance ent11 : Ent Tryz.prog 11:=.of Tryz.func11 (by kernel_rfl) (by kernel_rfl)
instance ent12 : Ent Tryz.prog 12:=.of Tryz.func12 (by kernel_rfl) (by kernel_rfl)
instance ent13 : Ent Tryz.prog 13:=.of Tryz.func13 (by kernel_rfl) (by kernel_rfl)
instance ent14 : Ent Tryz.prog 14:=.of Tryz.func14 (by kernel_rfl) (by kernel_rfl)
instance ent15 : Ent Tryz.prog 15:=.of Tryz.func15 (by kernel_rfl) (by kernel_rfl)
instance ent16 : Ent Tryz.prog 16:=.of Tryz.func16 (by kernel_rfl) (by kernel_rfl)
instance ent17 : Ent Tryz.prog 17:=.of Tryz.func17 (by kernel_rfl) (by kernel_rfl)
instance ent18 : Ent Tryz.prog 18:=.of Tryz.func18 (by kernel_rfl) (by kernel_rfl)
instance ent20 : Ent Tryz.prog 20:=.of Tryz.func20 (by kernel_rfl) (by kernel_rfl)
instance ent23 : Ent Tryz.prog 23:=.of Tryz.func23 (by kernel_rfl) (by kernel_rfl)
instance ent24 : Ent Tryz.prog 24:=.of Tryz.func24 (by kernel_rfl) (by kernel_rfl)
instance ent28 : Ent Tryz.prog 28:=.of Tryz.func28 (by kernel_rfl) (by kernel_rfl)
instance ent29 : Ent Tryz.prog 29:=.of Tryz.func29 (by kernel_rfl) (by kernel_rfl)
instance ent30 : Ent Tryz.prog 30:=.of Tryz.func30 (by kernel_rfl) (by kernel_rfl)
instance ent31 : Ent Tryz.prog 31:=.of Tryz.func31 (by kernel_rfl) (by kernel_rfl)
instance ent32 : Ent Tryz.prog 32:=.of Tryz.func32 (by kernel_rfl) (by kernel_rfl)
instance ent33 : Ent Tryz.prog 33:=.of Tryz.func33 (by kernel_rfl) (by kernel_rfl)
instance ent40 : Ent Tryz.prog 40:=.of Tryz.func40 (by kernel_rfl) (by kernel_rfl)
instance ent48 : Ent Tryz.prog 48:=.of Tryz.func48 (by kernel_rfl) (by kernel_rfl)
instance ent49 : Ent Tryz.prog 49:=.of Tryz.func49 (by kernel_rfl) (by kernel_rfl)
instance ent50 : Ent Tryz.prog 50:=.of Tryz.func50 (by kernel_rfl) (by kernel_rfl)
instance ent51 : Ent Tryz.prog 51:=.of Tryz.func51 (by kernel_rfl) (by kernel_rfl)
instance ent52 : Ent Tryz.prog 52:=.of Tryz.func52 (by kernel_rfl) (by kernel_rfl)
instance ent53 : Ent Tryz.prog 53:=.of Tryz.func53 (by kernel_rfl) (by kernel_rfl)
instance ent61 : Ent Tryz.prog 61:=.of Tryz.func61 (by kernel_rfl) (by kernel_rfl)
instance ent63 : Ent Tryz.prog 63:=.of Tryz.func63 (by kernel_rfl) (by kernel_rfl)
instance ent64 : Ent Tryz.prog 64:=.of Tryz.func64 (by kernel_rfl) (by kernel_rfl)
instance ent65 : Ent Tryz.prog 65:=.of Tryz.func65 (by kernel_rfl) (by kernel_rfl)
instance ent66 : Ent Tryz.prog 66:=.of Tryz.func66 (by kernel_rfl) (by kernel_rfl)
instance ent73 : Ent Tryz.prog 73:=.of Tryz.func73 (by kernel_rfl) (by kernel_rfl)
instance ent75 : Ent Tryz.prog 75:=.of Tryz.func75 (by kernel_rfl) (by kernel_rfl)
instance ent76 : Ent Tryz.prog 76:=.of Tryz.func76 (by kernel_rfl) (by kernel_rfl)
instance ent77 : Ent Tryz.prog 77:=.of Tryz.func77 (by kernel_rfl) (by kernel_rfl)
instance ent78 : Ent Tryz.prog 78:=.of Tryz.func78 (by kernel_rfl) (by kernel_rfl)
instance ent81 : Ent Tryz.prog 81:=.of Tryz.func81 (by kernel_rfl) (by kernel_rfl)
instance ent94 : Ent Tryz.prog 94:=.of Tryz.func94 (by kernel_rfl) (by kernel_rfl)
instance ent103 : Ent Tryz.prog 103:=.of Tryz.func103 (by kernel_rfl) (by kernel_rfl)
instance ent104 : Ent Tryz.prog 104:=.of Tryz.func104 (by kernel_rfl) (by kernel_rfl)
instance ent105 : Ent Tryz.prog 105:=.of Tryz.func105 (by kernel_rfl) (by kernel_rfl)
instance ent106 : Ent Tryz.prog 106:=.of Tryz.func106 (by kernel_rfl) (by kernel_rfl)
instance ent107 : Ent Tryz.prog 107:=.of Tryz.func107 (by kernel_rfl) (by kernel_rfl)
instance ent108 : Ent Tryz.prog 108:=.of Tryz.func108 (by kernel_rfl) (by kernel_rfl)
instance ent109 : Ent Tryz.prog 109:=.of Tryz.func109 (by kernel_rfl) (by kernel_rfl)
instance ent120 : Ent Tryz.prog 120:=.of Tryz.func120 (by kernel_rfl) (by kernel_rfl)
instance ent121 : Ent Tryz.prog 121:=.of Tryz.func121 (by kernel_rfl) (by kernel_rfl)
instance ent122 : Ent Tryz.prog 122:=.of Tryz.func122 (by kernel_rfl) (by kernel_rfl)
instance ent125 : Ent Tryz.prog 125:=.of Tryz.func125 (by kernel_rfl) (by kernel_rfl)
instance ent136 : Ent Tryz.prog 136:=.of Tryz.func136 (by kernel_rfl) (by kernel_rfl)
instance ent137 : Ent Tryz.prog 137:=.of Tryz.func137 (by kernel_rfl) (by kernel_rfl)
instance ent142 : Ent Tryz.prog 142:=.of Tryz.func142 (by kernel_rfl) (by kernel_rfl)
instance ent157 : Ent Tryz.prog 157:=.of Tryz.func157 (by kernel_rfl) (by kernel_rfl)
instance ent158 : Ent Tryz.prog 158:=.of Tryz.func158 (by kernel_rfl) (by kernel_rfl)
instance ent161 : Ent Tryz.prog 161:=.of Tryz.func161 (by kernel_rfl) (by kernel_rfl)
instance ent162 : Ent Tryz.prog 162:=.of Tryz.func162 (by kernel_rfl) (by kernel_rfl)
instance ent171 : Ent Tryz.prog 171:=.of Tryz.func171 (by kernel_rfl) (by kernel_rfl)
instance ent180 : Ent Tryz.prog 180:=.of Tryz.func180 (by kernel_rfl) (by kernel_rfl)
instance ent257 : Ent Tryz.prog 257:=.of Tryz.func257 (by kernel_rfl) (by kernel_rfl)
instance ent258 : Ent Tryz.prog 258:=.of Tryz.func258 (by kernel_rfl) (by kernel_rfl)
instance ent259 : Ent Tryz.prog 259:=.of Tryz.func259 (by kernel_rfl) (by kernel_rfl)
instance ent260 : Ent Tryz.prog 260:=.of Tryz.func260 (by kernel_rfl) (by kernel_rfl)
instance ent261 : Ent Tryz.prog 261:=.of Tryz.func261 (by kernel_rfl) (by kernel_rfl)
instance ent262 : Ent Tryz.prog 262:=.of Tryz.func262 (by kernel_rfl) (by kernel_rfl)
instance ent263 : Ent Tryz.prog 263:=.of Tryz.func263 (by kernel_rfl) (by kernel_rfl)
instance ent264 : Ent Tryz.prog 264:=.of Tryz.func264 (by kernel_rfl) (by kernel_rfl)
instance ent265 : Ent Tryz.prog 265:=.of Tryz.func265 (by kernel_rfl) (by kernel_rfl)
instance ent266 : Ent Tryz.prog 266:=.of Tryz.func266 (by kernel_rfl) (by kernel_rfl)
instance ent267 : Ent Tryz.prog 267:=.of Tryz.func267 (by kernel_rfl) (by kernel_rfl)
end Go.Proofs.YtnppmeeibbefbaaGreatDoor
namespace Go.Wk
open Go Go.RowKit

@[reducible] def Tm.cs (t:Tm) : List Value:=[.int .i64 t.k,.int .i64 t.n,.string t.s]
@[reducible] def Ts.cs (t:Ts) : List Value:=[.int .i64 t.op,.int .i64 t.l.k,.int .i64 t.l.n,.string t.l.s,.int .i64 t.r.k,.int .i64 t.r.n,.string t.r.s]
@[reducible] def Bd.cs (b:Bd) : List Value:=[.int .i64 b.var,.int .i64 b.to.k,.int .i64 b.to.n,.string b.to.s]
@[reducible] def At0.cs (a:At0) (v:Value) : List Value:=[.int .i64 a.by_.k,.int .i64 a.by_.n,.string a.by_.s,.string a.name,v]
@[reducible] def Cl.cs (x:Cl) (v v1 v2:Value) : List Value:=[.int .i64 x.head.by_.k,.int .i64 x.head.by_.n,.string x.head.by_.s,.string x.head.name,v,v1,v2]
theorem Sl.one {α:Type} [Enc α] {v:Value} {xs:List α} {c:Cx} (h:Sl v xs c) : v.oneCell'=true:=by
 obtain ⟨_,_,_,rfl,_⟩:=h
 rfl
instance : Enc Tm where
 k:=3
 Ok cs t _:=cs=t.cs
 mono cs x:=⟨fun _ h=>h⟩
 len cs x c h:=by subst h;rfl
 one cs x c h u hu:=by subst h;simp at hu;rcases hu with rfl|rfl|rfl<;>rfl
 pos:=by omega
instance : Enc Ts where
 k:=7
 Ok cs t _:=cs=t.cs
 mono cs x:=⟨fun _ h=>h⟩
 len cs x c h:=by subst h;rfl
 one cs x c h u hu:=by subst h;simp at hu;rcases hu with rfl|rfl|rfl|rfl|rfl|rfl|rfl<;>rfl
 pos:=by omega
instance : Enc Bd where
 k:=4
 Ok cs t _:=cs=t.cs
 mono cs x:=⟨fun _ h=>h⟩
 len cs x c h:=by subst h;rfl
 one cs x c h u hu:=by subst h;simp at hu;rcases hu with rfl|rfl|rfl|rfl<;>rfl
 pos:=by omega
instance : Enc At0 where
 k:=5
 Ok cs a c:=∃v,cs=a.cs v∧Sl v a.args c
 mono cs x:=⟨fun h ⟨v,h1,h2⟩=>⟨v,h1,Mono.mono h h2⟩⟩
 len cs x c h:=by obtain ⟨v,rfl,_⟩:=h;rfl
 one cs x c h u hu:=by
  obtain ⟨v,rfl,h2⟩:=h
  simp at hu
  rcases hu with rfl|rfl|rfl|rfl|rfl<;>first|rfl|exact h2.one
 pos:=by omega
def ClAt (x:Cl) (v v1 v2:Value) (c:Cx) : Prop:=Sl v x.head.args c∧Sl v1 x.body c∧Sl v2 x.tests c
instance (x : Cl) (v v1 v2 : Value) : Mono (ClAt x v v1 v2):=⟨fun h k=>⟨Mono.mono h k.1,Mono.mono h k.2.1,Mono.mono h k.2.2⟩⟩
instance : Enc Cl where
 k:=7
 Ok cs x c:=∃v v1 v2,cs=x.cs v v1 v2∧ClAt x v v1 v2 c
 mono cs x:=⟨fun h ⟨v,v1,v2,h1,h2⟩=>⟨v,v1,v2,h1,Mono.mono h h2⟩⟩
 len cs x c h:=by obtain ⟨v,v1,v2,rfl,_⟩:=h;rfl
 one cs x c h u hu:=by
  obtain ⟨v,v1,v2,rfl,h2⟩:=h
  simp at hu
  rcases hu with rfl|rfl|rfl|rfl|rfl|rfl|rfl<;>first|rfl|exact h2.1.one|exact h2.2.1.one|exact h2.2.2.one
 pos:=by omega
instance {α : Type} [Enc α] : Enc (List α) where
 k:=1
 Ok cs xs c:=∃v,cs=[v]∧Sl v xs c
 mono cs x:=⟨fun h ⟨v,h1,h2⟩=>⟨v,h1,Mono.mono h h2⟩⟩
 len cs x c h:=by obtain ⟨v,rfl,_⟩:=h;rfl
 one cs x c h u hu:=by
  obtain ⟨v,rfl,h2⟩:=h
  simp at hu
  subst hu
  exact h2.one
 pos:=Nat.one_pos


instance : RdA Tm Tm.cs:=⟨fun h=>h⟩
instance : RdA Ts Ts.cs:=⟨fun h=>h⟩
instance : RdA Bd Bd.cs:=⟨fun h=>h⟩
instance {α : Type} [Enc α] : Rd (List α) (fun xs v c=>Sl v xs c):=⟨rfl,fun h=>by
 obtain ⟨v,e,h⟩:=h
 simp at e
 subst e
 exact h⟩
instance : Part Tm 0 Int Tm.k:=⟨fun h=>h.part 0 fun cs e=>by cases e;rfl⟩
instance : Part At0 0 Tm At0.by_:=⟨fun h=>h.part 0 fun cs ⟨v,e,k⟩=>by cases e;rfl⟩
instance : Part At0 3 ByteArray At0.name:=⟨fun h=>h.part 3 fun cs ⟨v,e,k⟩=>by cases e;rfl⟩
instance : Part At0 4 (List Tm) At0.args:=⟨fun h=>h.part 4 fun cs ⟨v,e,k⟩=>by cases e;exact ⟨v,rfl,k⟩⟩
instance : Part Cl 0 At0 Cl.head:=⟨fun h=>h.part 0 fun cs ⟨v,v1,v2,e,k⟩=>by cases e;exact ⟨v,rfl,k.1⟩⟩
instance : Part Cl 5 (List At0) Cl.body:=⟨fun h=>h.part 5 fun cs ⟨v,v1,v2,e,k⟩=>by cases e;exact ⟨v1,rfl,k.2.1⟩⟩
instance : Part Cl 6 (List Ts) Cl.tests:=⟨fun h=>h.part 6 fun cs ⟨v,v1,v2,e,k⟩=>by cases e;exact ⟨v2,rfl,k.2.2⟩⟩
class EqA (P:Program) (T:TypeId) (α:outParam Type) [Enc α] (cs:outParam (α→List Value)) : Prop where
 eq : ∀(x y:α) (w:World),(Op.equalIn 10000 T (.agg (cs x).toArray) (.agg (cs y).toArray)).run P w=.ok (@decide (x=y) (Classical.propDecidable _)) w
 gd : P.eqGuardType P.depth T=false
section
variable {P : Program} {ops : Array Oper} {Q : Exit → Act → World → Prop} {n : Nat} {f : Nat → Value} {rest : List Oper} {ty : TypeId} {ps : String} {af : Array Edge} {d : Tmp} {w : World}
variable {c0 c : Cx} {L : List Res} {A : Cx → Prop}
theorem c_eqT {T T':TypeId} {x y:Operand} {t u:Tm} (hn:Nat.blt d n=true) [EqA P T Tm Tm.cs] (hx:opd f x=.agg t.cs.toArray) (hy:opd f y=.agg u.cs.toArray)
  (kt:t=u→W P ops Q rest n (upd f d (.bool true)) w) (kf:¬t=u→W P ops Q rest n (upd f d (.bool false)) w) : W P ops Q (⟨some d,.binOp .eql T x y T',ty,ps,af,none⟩::rest) n f w:=by
 have he:=EqA.eq (P:=P) (T:=T) (cs:=Tm.cs) t u w
 by_cases h : t=u
 ·have he' : (Op.equalIn 10000 T (.agg t.cs.toArray) (.agg u.cs.toArray)).run P w=.ok true w:=by rw [he];simp [h]
  exact st_val hn (by simp [execOp,hx,hy,run_eqGuard_agg w _ T _ _ _ _ (EqA.gd (P:=P) (T:=T) (cs:=Tm.cs)),run_eql_struct,he']) (kt h)
 ·exact st_val hn (by simp [execOp,hx,hy,run_eqGuard_agg w _ T _ _ _ _ (EqA.gd (P:=P) (T:=T) (cs:=Tm.cs)),run_eql_struct,he,h]) (kf h)
theorem c_neT {T T':TypeId} {x y:Operand} {t u:Tm} (hn:Nat.blt d n=true) [EqA P T Tm Tm.cs] (hx:opd f x=.agg t.cs.toArray) (hy:opd f y=.agg u.cs.toArray)
  (kt:¬t=u→W P ops Q rest n (upd f d (.bool true)) w) (kf:t=u→W P ops Q rest n (upd f d (.bool false)) w) : W P ops Q (⟨some d,.binOp .neq T x y T',ty,ps,af,none⟩::rest) n f w:=by
 have he:=EqA.eq (P:=P) (T:=T) (cs:=Tm.cs) t u w
 by_cases h : t=u
 ·have he' : (Op.equalIn 10000 T (.agg t.cs.toArray) (.agg u.cs.toArray)).run P w=.ok true w:=by rw [he];simp [h]
  exact st_val hn (by simp [execOp,hx,hy,run_eqGuard_agg w _ T _ _ _ _ (EqA.gd (P:=P) (T:=T) (cs:=Tm.cs)),run_neq_struct,he']) (kf h)
 ·exact st_val hn (by simp [execOp,hx,hy,run_eqGuard_agg w _ T _ _ _ _ (EqA.gd (P:=P) (T:=T) (cs:=Tm.cs)),run_neq_struct,he,h]) (kt h)
theorem c_eqTs {T T':TypeId} {x y:Operand} {t u:Ts} (hn:Nat.blt d n=true) [EqA P T Ts Ts.cs] (hx:opd f x=.agg t.cs.toArray) (hy:opd f y=.agg u.cs.toArray)
  (kt:t=u→W P ops Q rest n (upd f d (.bool true)) w) (kf:¬t=u→W P ops Q rest n (upd f d (.bool false)) w) : W P ops Q (⟨some d,.binOp .eql T x y T',ty,ps,af,none⟩::rest) n f w:=by
 have he:=EqA.eq (P:=P) (T:=T) (cs:=Ts.cs) t u w
 by_cases h : t=u
 ·have he' : (Op.equalIn 10000 T (.agg t.cs.toArray) (.agg u.cs.toArray)).run P w=.ok true w:=by rw [he];simp [h]
  exact st_val hn (by simp [execOp,hx,hy,run_eqGuard_agg w _ T _ _ _ _ (EqA.gd (P:=P) (T:=T) (cs:=Ts.cs)),run_eql_struct,he']) (kt h)
 ·exact st_val hn (by simp [execOp,hx,hy,run_eqGuard_agg w _ T _ _ _ _ (EqA.gd (P:=P) (T:=T) (cs:=Ts.cs)),run_eql_struct,he,h]) (kf h)
theorem c_neTs {T T':TypeId} {x y:Operand} {t u:Ts} (hn:Nat.blt d n=true) [EqA P T Ts Ts.cs] (hx:opd f x=.agg t.cs.toArray) (hy:opd f y=.agg u.cs.toArray)
  (kt:¬t=u→W P ops Q rest n (upd f d (.bool true)) w) (kf:t=u→W P ops Q rest n (upd f d (.bool false)) w) : W P ops Q (⟨some d,.binOp .neq T x y T',ty,ps,af,none⟩::rest) n f w:=by
 have he:=EqA.eq (P:=P) (T:=T) (cs:=Ts.cs) t u w
 by_cases h : t=u
 ·have he' : (Op.equalIn 10000 T (.agg t.cs.toArray) (.agg u.cs.toArray)).run P w=.ok true w:=by rw [he];simp [h]
  exact st_val hn (by simp [execOp,hx,hy,run_eqGuard_agg w _ T _ _ _ _ (EqA.gd (P:=P) (T:=T) (cs:=Ts.cs)),run_neq_struct,he']) (kf h)
 ·exact st_val hn (by simp [execOp,hx,hy,run_eqGuard_agg w _ T _ _ _ _ (EqA.gd (P:=P) (T:=T) (cs:=Ts.cs)),run_neq_struct,he,h]) (kt h)
theorem s_eqT {T T':TypeId} {x y:Operand} {t u:Tm} (hn:Nat.blt d n=true) [EqA P T Tm Tm.cs] (hx:opd f x=.agg (Tm.cs t).toArray) (hy:opd f y=.agg (Tm.cs u).toArray)
  (k:W P ops Q rest n (upd f d (.bool (decide (t=u)))) w) : W P ops Q (⟨some d,.binOp .eql T x y T',ty,ps,af,none⟩::rest) n f w:=by
 by_cases h : t=u
 ·exact c_eqT hn hx hy (fun _=>by simpa [h] using k) (fun e=>absurd h e)
 ·exact c_eqT hn hx hy (fun e=>absurd e h) (fun _=>by simpa [h] using k)
theorem s_neT {T T':TypeId} {x y:Operand} {t u:Tm} (hn:Nat.blt d n=true) [EqA P T Tm Tm.cs] (hx:opd f x=.agg (Tm.cs t).toArray) (hy:opd f y=.agg (Tm.cs u).toArray)
  (k:W P ops Q rest n (upd f d (.bool (!decide (t=u)))) w) : W P ops Q (⟨some d,.binOp .neq T x y T',ty,ps,af,none⟩::rest) n f w:=by
 by_cases h : t=u
 ·exact c_neT hn hx hy (fun e=>absurd h e) (fun _=>by simpa [h] using k)
 ·exact c_neT hn hx hy (fun _=>by simpa [h] using k) (fun e=>absurd e h)
theorem s_eqTs {T T':TypeId} {x y:Operand} {t u:Ts} (hn:Nat.blt d n=true) [EqA P T Ts Ts.cs] (hx:opd f x=.agg (Ts.cs t).toArray) (hy:opd f y=.agg (Ts.cs u).toArray)
  (k:W P ops Q rest n (upd f d (.bool (decide (t=u)))) w) : W P ops Q (⟨some d,.binOp .eql T x y T',ty,ps,af,none⟩::rest) n f w:=by
 by_cases h : t=u
 ·exact c_eqTs hn hx hy (fun _=>by simpa [h] using k) (fun e=>absurd h e)
 ·exact c_eqTs hn hx hy (fun e=>absurd e h) (fun _=>by simpa [h] using k)
theorem s_neTs {T T':TypeId} {x y:Operand} {t u:Ts} (hn:Nat.blt d n=true) [EqA P T Ts Ts.cs] (hx:opd f x=.agg (Ts.cs t).toArray) (hy:opd f y=.agg (Ts.cs u).toArray)
  (k:W P ops Q rest n (upd f d (.bool (!decide (t=u)))) w) : W P ops Q (⟨some d,.binOp .neq T x y T',ty,ps,af,none⟩::rest) n f w:=by
 by_cases h : t=u
 ·exact c_neTs hn hx hy (fun e=>absurd h e) (fun _=>by simpa [h] using k)
 ·exact c_neTs hn hx hy (fun _=>by simpa [h] using k) (fun e=>absurd e h)
theorem z_eqT {T T':TypeId} {x y:Operand} {t u:Tm} (hn:Nat.blt d n=true) [EqA P T Tm Tm.cs] (hx:opd f x=.agg (Tm.cs t).toArray) (hy:opd f y=.agg (Tm.cs u).toArray) {r:Bool} (hr:decide (t=u)=r)
  (k:W P ops Q rest n (upd f d (.bool r)) w) : W P ops Q (⟨some d,.binOp .eql T x y T',ty,ps,af,none⟩::rest) n f w:=s_eqT hn hx hy (by rw [hr];exact k)
theorem z_neT {T T':TypeId} {x y:Operand} {t u:Tm} (hn:Nat.blt d n=true) [EqA P T Tm Tm.cs] (hx:opd f x=.agg (Tm.cs t).toArray) (hy:opd f y=.agg (Tm.cs u).toArray) {r:Bool} (hr:(!decide (t=u))=r)
  (k:W P ops Q rest n (upd f d (.bool r)) w) : W P ops Q (⟨some d,.binOp .neq T x y T',ty,ps,af,none⟩::rest) n f w:=s_neT hn hx hy (by rw [hr];exact k)
theorem z_eqTs {T T':TypeId} {x y:Operand} {t u:Ts} (hn:Nat.blt d n=true) [EqA P T Ts Ts.cs] (hx:opd f x=.agg (Ts.cs t).toArray) (hy:opd f y=.agg (Ts.cs u).toArray) {r:Bool} (hr:decide (t=u)=r)
  (k:W P ops Q rest n (upd f d (.bool r)) w) : W P ops Q (⟨some d,.binOp .eql T x y T',ty,ps,af,none⟩::rest) n f w:=s_eqTs hn hx hy (by rw [hr];exact k)
theorem z_neTs {T T':TypeId} {x y:Operand} {t u:Ts} (hn:Nat.blt d n=true) [EqA P T Ts Ts.cs] (hx:opd f x=.agg (Ts.cs t).toArray) (hy:opd f y=.agg (Ts.cs u).toArray) {r:Bool} (hr:(!decide (t=u))=r)
  (k:W P ops Q rest n (upd f d (.bool r)) w) : W P ops Q (⟨some d,.binOp .neq T x y T',ty,ps,af,none⟩::rest) n f w:=s_neTs hn hx hy (by rw [hr];exact k)

/-! ### results that lie in memory -/
def RV (P:Program) (r:ResultVar) (f:Nat→Value) (w:World) (v:Value) : Prop :=
 match r with
 | .tmp t=>f t=v
 | .cell a T=>∃p,f a=.pointer (some p)∧(loadVar T p).run P w=.ok v w
theorem RV.tmp {t:Tmp} {v:Value} (h:f t=v) : RV P (.tmp t) f w v:=h
theorem RV.agg {t T T':Nat} {kk b o:Nat} {cs vs:List Value} {fr:Nat×Nat} [Agg P T kk] (h:f t=.pointer (some ⟨b,o,none⟩)) (H:Owns c0 L c) (hm:Res.obj b (.cells cs.toArray T' fr)∈L) (hv:Sub o kk cs vs) : RV P (.cell t T) f c.w (.agg vs.toArray) :=
 ⟨_,h,run_loadk hv.get.1 fun j v hj=>by rw [cell_of_row _ _ _ _ _ _ (H.res _ hm).1];simpa using hv.get.2 j v hj⟩
theorem RV.run {r:ResultVar} {v:Value} (h:RV P r f w v) {tmps:Array Value} (ht:∀t,tmps.getD t undef=f t) :
  (match r with
   | .tmp t=>pure (tmps.getD t undef)
   | .cell a t=>do loadVar t (←asAddr (tmps.getD a undef)) : Sem Value).run P w=.ok v w:=by
 cases r with
 | tmp t=>simp only [Sem.run_pure,ht];exact congrArg (Result.ok · w) h
 | cell a T =>
  obtain ⟨p,hp,hl⟩:=h
  simp [ht,hp,asAddr,hl]
theorem outsR1 {fn:Func} {r:ResultVar} {v:Value} (h:fn.results=#[r]) (hv:RV P r f w v) : Outs P fn f w v:=fun tmps ht=>by
 have:=hv.run ht
 unfold results
 rw [h]
 simp only [List.mapM_toArray,List.mapM_cons,List.mapM_nil,pure_bind,Sem.run_bind,Sem.run_map]
 cases r with
 | tmp t =>
  simp only [Sem.run_pure,Result.ok.injEq,and_true] at this
  simp [this]
 | cell a T =>
  simp only [Sem.run_bind,Array.getD_eq_getD_getElem?] at this
  simp [this]
theorem outsR2 {fn:Func} {r r':ResultVar} {v v':Value} (h:fn.results=#[r,r']) (hv:RV P r f w v) (hv':RV P r' f w v') : Outs P fn f w (.tuple #[v,v']):=fun tmps ht=>by
 have h1:=hv.run ht
 have h2:=hv'.run ht
 unfold results
 rw [h]
 simp only [List.mapM_toArray,List.mapM_cons,List.mapM_nil,Sem.run_bind,Sem.run_map]
 cases r<;>cases r'<;>simp only [Sem.run_pure,Sem.run_bind,Array.getD_eq_getD_getElem?,Result.ok.injEq,and_true] at h1 h2<;>simp [h1,h2]
end
end Go.Wk
namespace Go.Proofs.YtnppmeeibbefbaaGreatDoor
open Go Go.Wk
instance : TyD Tryz.prog 32 Tm Tm.cs:=⟨fun _ _=>rfl⟩
instance : TyD Tryz.prog 107 Ts Ts.cs:=⟨fun _ _=>rfl⟩
instance : TyD Tryz.prog 199 Bd Bd.cs:=⟨fun _ _=>rfl⟩
theorem eqTm (d:Nat) (t u:Tm) (w:World) : (Op.equalIn (d+2) 32 (.agg t.cs.toArray) (.agg u.cs.toArray)).run Tryz.prog w=.ok (decide (t=u)) w:=by
 have hS : Tryz.prog.underlying 32=some (.struct (Tryz.prog.fieldsOf 32)):=by kernel_rfl
 have hp : Tryz.prog.stoodInHeld 32=false:=by kernel_rfl
 have a3 : ∀w,(isAgg 3).run Tryz.prog w=.ok false w:=Prim.ag
 have a9 : ∀w,(isAgg 9).run Tryz.prog w=.ok false w:=Prim.ag
 have u3 : Tryz.prog.underlying 3=some (.int .i64):=by kernel_rfl
 have u9 : Tryz.prog.underlying 9=some .string:=by kernel_rfl
 rw [show d+2=(d+1)+1 from rfl,run_equalIn_agg w (d+1) 32 _ _ hS hp]
 simp only [Program.fieldsOf,Tryz.underlying32]
 obtain ⟨k,n,s⟩:=t
 obtain ⟨k',n',s'⟩:=u
 by_cases h1 : k=k'<;>by_cases h2 : n=n'<;>by_cases h3 : s=s' <;>
  simp [Op.eqFields,part,a3,a9,run_equalIn_int w d _ _ .i64 _ _ u3,run_equalIn_string w d _ _ _ u9,h1,h2,h3,ba_beq]
instance : EqA Tryz.prog 32 Tm Tm.cs:=⟨fun x y w=>by rw [show (10000:Nat)=9998+2 from rfl,eqTm];congr,by kernel_rfl⟩
end Go.Proofs.YtnppmeeibbefbaaGreatDoor
namespace Go.Wk
open Go Go.RowKit
section
variable {P : Program} {ops : Array Oper} {Q : Exit → Act → World → Prop} {n : Nat} {f : Nat → Value} {rest : List Oper} {ty : TypeId} {ps : String} {af : Array Edge} {d : Tmp} {w : World}
variable {c0 c : Cx} {L : List Res} {A : Cx → Prop}
variable {T T' : TypeId} {x y : Operand} {kd : IntKind} {a b : Int} {s t : ByteArray}
theorem Z100 {T T':TypeId} {x y:Operand} {t u:Tm} [EqA P T Tm Tm.cs] (kt:t=u→W P ops Q rest n (upd f d (.bool true)) w) (kf:¬t=u→W P ops Q rest n (upd f d (.bool false)) w) (hn:Nat.blt d n=true:=by exact rfl) (hx:opd f x=.agg t.cs.toArray:=by exact rfl) (hy:opd f y=.agg u.cs.toArray:=by exact rfl) : W P ops Q (⟨some d,.binOp .eql T x y T',ty,ps,af,none⟩::rest) n f w :=
 c_eqT (hn:=hn) (hx:=hx) (hy:=hy) (kt:=kt) (kf:=kf)
theorem Z101 {T T':TypeId} {x y:Operand} {t u:Tm} [EqA P T Tm Tm.cs] (kt:¬t=u→W P ops Q rest n (upd f d (.bool true)) w) (kf:t=u→W P ops Q rest n (upd f d (.bool false)) w) (hn:Nat.blt d n=true:=by exact rfl) (hx:opd f x=.agg t.cs.toArray:=by exact rfl) (hy:opd f y=.agg u.cs.toArray:=by exact rfl) : W P ops Q (⟨some d,.binOp .neq T x y T',ty,ps,af,none⟩::rest) n f w :=
 c_neT (hn:=hn) (hx:=hx) (hy:=hy) (kt:=kt) (kf:=kf)
end
end Go.Wk
namespace Go.Wk
open Go
section
variable {P : Program} {Q : Exit → Act → World → Prop} {n : Nat} {f : Nat → Value} {w : World}
theorem Y0 {ops:Array Oper} {y:Code} (h:WC P y Q n f w) : W P ops (Exit.then (y.wp P Q) Q) [] n f w:=w_nil (wx_next h)
theorem Y1 {id:Nat} {ops:Array Oper} {z:Code} (h:W P ops (Exit.then (z.wp P Q) Q) ops.toList n f w) : WC P (.seq (.region id ops false) z) Q n f w:=wc_seq (wc_region h)
theorem Y2 {id:Nat} {ops o2:Array Oper} {z:Code} (h:W P ops (Exit.then (z.wp P Q) Q) ops.toList n f w) : W P o2 (Exit.then ((Code.seq (.region id ops false) z).wp P Q) Q) [] n f w:=Y0 (Y1 h)
end
section
variable {P : Program} {ops : Array Oper} {Q : Exit → Act → World → Prop} {n : Nat} {ty : TypeId} {ps : String} {af : Array Edge} {d : Tmp} {w : World} {c0 : Cx} {L : List Res} {A : Cx → Prop}
theorem Dm {id:Nat} {l:List (Nat×Sp)} {ds:List Nat} {os:List Oper} {op:Op} {gd:Option (Nat×Bool)} {n0:Nat→Value} {sp:Sp} (k:DW P id ops Q n n0 c0 L A w ((d,sp)::l) (d::ds) os) (hp:PreR P ops n n0 c0 L A l ⟨some d,op,ty,ps,af,gd⟩ d sp:=by (intro B _ Lx c H HA;(repeat (first|(intro vx hx;have hx2:vx=_:=hx;clear hx;subst hx2)|(intro vx hx;have HA:=HA.addSF hx;clear hx)|(intro vx hx;have HA:=HA.add hx;clear hx)|intro vx));change W _ _ _ _ _ _ _);(refine s_nilCheck rfl rfl ?_);exact Dx) (hs:SpM sp:=by exact inferInstance) : DW P id ops Q n n0 c0 L A w l ds (⟨some d,op,ty,ps,af,gd⟩::os):=dw_cons hp hs k
end
theorem Pm {l l':List Res} (h:l.Perm l':=by classical exact List.perm_iff_count.2 fun pa=>by (simp only [List.count_append,List.count_cons,List.count_nil,List.map_append,List.map_cons,List.map_nil,List.cons_append,List.nil_append,List.append_assoc,List.singleton_append,List.eraseIdx_cons_succ,List.eraseIdx_cons_zero]<;>omega)) : l.Perm l':=h
end Go.Wk
