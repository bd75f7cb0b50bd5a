/- a part of the proof: lemmas on walks, on plain data, contracts of functions. -/
import Derived.Test.YthkdggoohpgnnaaGreatDoorProg
import Derived.KernelRfl
import Derived.Laws.StructEq
import Derived.Test.YthkdggoohpgnnaaGreatDoorA1
import Derived.Test.YthkdggoohpgnnaaGreatDoorA2
import Derived.Test.YthkdggoohpgnnaaGreatDoorA3
set_option linter.all false
/- What the walks need to know of this program's types and functions: closed facts. -/
namespace Go.Wk
open Go
def aggB : TypeDesc → Bool
  | .struct _ => true
  | .array .. => true
  | _ => false
theorem run_isAgg {P : Program} {T : TypeId} {d : TypeDesc} (h : P.underlying T = some d) (w : World) : (isAgg T).run P w = .ok (aggB d) w := by
  simp only [isAgg, Sem.run_bind, run_underlying h, Result.andThen_ok]
  cases d <;> rfl
theorem run_sizeOf' {P : Program} {T : TypeId} {k : Nat} (h : (P.info? T).map (·.size) = some k) (w : World) : (sizeOf T).run P w = .ok k w := by
  cases hi : P.info? T with
  | none => simp [hi] at h
  | some i => simp [hi] at h; simp [sizeOf, typeInfo, hi, h]
theorem agg_split {P : Program} {T : TypeId} {b : Bool} (h : (P.underlying T).map aggB = some b) (w : World) : (isAgg T).run P w = .ok b w := by
  cases hd : P.underlying T with
  | none => simp [hd] at h
  | some d => simp [hd] at h; rw [run_isAgg hd, h]
theorem Prim.of {P : Program} {T : TypeId} (h : (P.underlying T).map aggB = some false) (hs : (P.info? T).map (·.size) = some 1) : Prim P T := ⟨agg_split h, run_sizeOf' hs⟩
theorem Agg.of {P : Program} {T : TypeId} {k : Nat} (h : (P.underlying T).map aggB = some true) (hs : (P.info? T).map (·.size) = some k) : Agg P T k := ⟨agg_split h, run_sizeOf' hs⟩
theorem Zer.of {P : Program} {T : TypeId} {z : Value} (h : (P.info? T).map (·.zero) = some (some z)) : Zer P T z := ⟨fun w => by
  cases hi : P.info? T with
  | none => simp [hi] at h
  | some i => simp [hi] at h; simp [zeroValue, typeInfo, hi, h]⟩
theorem TyI.of {P : Program} {T : TypeId} {z : Value} {k b : Nat} (h : (P.info? T).map (fun i => (i.zero, i.size, i.bytes)) = some (some z, k, b)) : TyI P T z k b := ⟨by
  cases hi : P.info? T with
  | none => simp [hi] at h
  | some i => simp [hi] at h; exact ⟨i, rfl, h.1, h.2.1, h.2.2⟩⟩
def fldB (P : Program) (T : TypeId) (i : Nat) : Option (Nat × Nat) :=
  match P.underlying T with
  | some (.struct fs) => (fs[i]?).bind fun fd => (P.info? fd.type).map fun j => (fd.offset, j.size)
  | _ => none
theorem Fld.of {P : Program} {T : TypeId} {i off k : Nat} (h : fldB P T i = some (off, k + 1)) : Fld P T i off := ⟨fun b o w => by
  unfold fldB at h
  split at h
  · rename_i fs hu
    cases hf : fs[i]? with
    | none => simp [hf] at h
    | some fd =>
      cases hi : P.info? fd.type with
      | none => simp [hf, hi] at h
      | some j =>
        simp [hf, hi] at h
        simp [Instr.fieldAt, run_underlying hu, hf, Instr.sureAddr, fieldPlace, sizeOf, typeInfo, hi, h.1, h.2, Addr.add_lit]
  · cases h⟩
def plB (P : Program) (T : TypeId) : Option (List (Nat × Nat)) :=
  match P.underlying T with
  | some (.struct fs) => fs.toList.mapM fun f => (P.info? f.type).map fun j => (f.offset, j.size)
  | _ => none
theorem run_places {P : Program} : ∀ (fs : List Field) (pl : List (Nat × Nat)) (w : World), (fs.mapM fun f => (P.info? f.type).map fun j => (f.offset, j.size)) = some pl → (fs.mapM (m := Sem) fun f => do pure (f.offset, ← sizeOf f.type)).run P w = .ok pl w := by
  intro fs
  induction fs with
  | nil => intro pl w h; simp at h; subst h; simp
  | cons fd fs ih =>
    intro pl w h
    simp only [List.mapM_cons] at h
    cases hi : P.info? fd.type with
    | none => simp [hi] at h
    | some j =>
      cases hr : (fs.mapM fun f => (P.info? f.type).map fun j => (f.offset, j.size)) with
      | none => simp [hi, hr] at h
      | some r =>
        simp [hi, hr] at h
        subst h
        have hs : (sizeOf fd.type).run P w = .ok j.size w := run_sizeOf' (by rw [hi]; rfl) w
        simp only [List.mapM_cons, Sem.run_bind, hs, Result.andThen_ok, Sem.run_pure, ih r w hr]
theorem Bld.of {P : Program} {T : TypeId} {z : Value} {pl : List (Nat × Nat)} (hz : (P.info? T).map (·.zero) = some (some z)) (hp : plB P T = some pl) : Bld P T z pl :=
  ⟨(Zer.of hz).z, fun parts cells w hf => by
    unfold plB at hp
    split at hp
    · rename_i fs hu
      have h1 := run_places (P := P) fs.toList pl w hp
      have h2 : (fs.mapM (m := Sem) fun f => do pure (f.offset, ← sizeOf f.type)).run P w = .ok pl.toArray w := by
        rw [Array.mapM_eq_mapM_toList]
        simp only [Sem.run_map, h1, Result.andThen_ok]
      unfold Instr.build
      simp only [Sem.run_bind, (Zer.of hz).z w, run_underlying hu, Result.andThen_ok, h2]
      have hf' : Instr.fill (fun x => pl.toArray[x]?) z.cells parts = some cells := hf
      simp only [hf', Sem.run_pure]
    · cases hp⟩
end Go.Wk
namespace Go.Proofs.YthkdggoohpgnnaaGreatDoor
open Go Go.Wk

instance : Prim Tryz.prog 3 := .of (by kernel_rfl) (by kernel_rfl)
instance : Prim Tryz.prog 4 := .of (by kernel_rfl) (by kernel_rfl)
instance : Prim Tryz.prog 9 := .of (by kernel_rfl) (by kernel_rfl)
instance : Prim Tryz.prog 5 := .of (by kernel_rfl) (by kernel_rfl)
instance : Prim Tryz.prog 38 := .of (by kernel_rfl) (by kernel_rfl)
instance : Prim Tryz.prog 24 := .of (by kernel_rfl) (by kernel_rfl)
instance : Prim Tryz.prog 27 := .of (by kernel_rfl) (by kernel_rfl)
instance : Prim Tryz.prog 28 := .of (by kernel_rfl) (by kernel_rfl)
instance : Prim Tryz.prog 37 := .of (by kernel_rfl) (by kernel_rfl)
instance : Prim Tryz.prog 68 := .of (by kernel_rfl) (by kernel_rfl)
instance : Prim Tryz.prog 80 := .of (by kernel_rfl) (by kernel_rfl)
instance : Prim Tryz.prog 69 := .of (by kernel_rfl) (by kernel_rfl)
instance : Prim Tryz.prog 123 := .of (by kernel_rfl) (by kernel_rfl)
instance : Prim Tryz.prog 138 := .of (by kernel_rfl) (by kernel_rfl)
instance : Prim Tryz.prog 58 := .of (by kernel_rfl) (by kernel_rfl)
instance : Prim Tryz.prog 72 := .of (by kernel_rfl) (by kernel_rfl)
instance : Prim Tryz.prog 61 := .of (by kernel_rfl) (by kernel_rfl)
instance : Prim Tryz.prog 59 := .of (by kernel_rfl) (by kernel_rfl)
instance : Prim Tryz.prog 60 := .of (by kernel_rfl) (by kernel_rfl)
instance : Prim Tryz.prog 125 := .of (by kernel_rfl) (by kernel_rfl)
instance : Prim Tryz.prog 48 := .of (by kernel_rfl) (by kernel_rfl)
instance : Agg Tryz.prog 23 3 := .of (by kernel_rfl) (by kernel_rfl)
instance : Agg Tryz.prog 26 5 := .of (by kernel_rfl) (by kernel_rfl)
instance : Agg Tryz.prog 30 7 := .of (by kernel_rfl) (by kernel_rfl)
instance : Agg Tryz.prog 79 7 := .of (by kernel_rfl) (by kernel_rfl)
instance : Agg Tryz.prog 111 4 := .of (by kernel_rfl) (by kernel_rfl)
instance : Zer Tryz.prog 23 (.agg #[.int .i64 0, .int .i64 0, .string ⟨#[]⟩]) := .of (by kernel_rfl)
instance : TyI Tryz.prog 23 (.agg #[.int .i64 0, .int .i64 0, .string ⟨#[]⟩]) 3 32 := .of (by kernel_rfl)
instance : Zer Tryz.prog 26 (.agg #[.int .i64 0, .int .i64 0, .string ⟨#[]⟩, .string ⟨#[]⟩, .slice none 0 0]) := .of (by kernel_rfl)
instance : TyI Tryz.prog 26 (.agg #[.int .i64 0, .int .i64 0, .string ⟨#[]⟩, .string ⟨#[]⟩, .slice none 0 0]) 5 72 := .of (by kernel_rfl)
instance : Zer Tryz.prog 30 (.agg #[.int .i64 0, .int .i64 0, .string ⟨#[]⟩, .string ⟨#[]⟩, .slice none 0 0, .slice none 0 0, .slice none 0 0]) := .of (by kernel_rfl)
instance : TyI Tryz.prog 30 (.agg #[.int .i64 0, .int .i64 0, .string ⟨#[]⟩, .string ⟨#[]⟩, .slice none 0 0, .slice none 0 0, .slice none 0 0]) 7 120 := .of (by kernel_rfl)
instance : Zer Tryz.prog 79 (.agg #[.int .i64 0, .int .i64 0, .int .i64 0, .string ⟨#[]⟩, .int .i64 0, .int .i64 0, .string ⟨#[]⟩]) := .of (by kernel_rfl)
instance : TyI Tryz.prog 79 (.agg #[.int .i64 0, .int .i64 0, .int .i64 0, .string ⟨#[]⟩, .int .i64 0, .int .i64 0, .string ⟨#[]⟩]) 7 72 := .of (by kernel_rfl)
instance : Zer Tryz.prog 111 (.agg #[.int .i64 0, .int .i64 0, .int .i64 0, .string ⟨#[]⟩]) := .of (by kernel_rfl)
instance : TyI Tryz.prog 111 (.agg #[.int .i64 0, .int .i64 0, .int .i64 0, .string ⟨#[]⟩]) 4 40 := .of (by kernel_rfl)
instance : BldZ Tryz.prog 23 [[.int .i64 0], [.int .i64 0], [.string ⟨#[]⟩]] := ⟨Bld.of (by kernel_rfl) (by kernel_rfl)⟩
instance : BldZ Tryz.prog 26 [[.int .i64 0, .int .i64 0, .string ⟨#[]⟩], [.string ⟨#[]⟩], [.slice none 0 0]] := ⟨Bld.of (by kernel_rfl) (by kernel_rfl)⟩
instance : BldZ Tryz.prog 30 [[.int .i64 0, .int .i64 0, .string ⟨#[]⟩, .string ⟨#[]⟩, .slice none 0 0], [.slice none 0 0], [.slice none 0 0]] := ⟨Bld.of (by kernel_rfl) (by kernel_rfl)⟩
instance : BldZ Tryz.prog 79 [[.int .i64 0], [.int .i64 0, .int .i64 0, .string ⟨#[]⟩], [.int .i64 0, .int .i64 0, .string ⟨#[]⟩]] := ⟨Bld.of (by kernel_rfl) (by kernel_rfl)⟩
instance : BldZ Tryz.prog 111 [[.int .i64 0], [.int .i64 0, .int .i64 0, .string ⟨#[]⟩]] := ⟨Bld.of (by kernel_rfl) (by kernel_rfl)⟩
instance : Zer Tryz.prog 3 (.int .i64 0) := .of (by kernel_rfl)
instance : TyI Tryz.prog 3 (.int .i64 0) 1 8 := .of (by kernel_rfl)
instance : Zer Tryz.prog 4 (.bool false) := .of (by kernel_rfl)
instance : TyI Tryz.prog 4 (.bool false) 1 1 := .of (by kernel_rfl)
instance : Zer Tryz.prog 9 (.string ⟨#[]⟩) := .of (by kernel_rfl)
instance : TyI Tryz.prog 9 (.string ⟨#[]⟩) 1 16 := .of (by kernel_rfl)
instance : Zer Tryz.prog 38 (.int .i64 0) := .of (by kernel_rfl)
instance : TyI Tryz.prog 38 (.int .i64 0) 1 8 := .of (by kernel_rfl)
instance : Zer Tryz.prog 24 (.slice none 0 0) := .of (by kernel_rfl)
instance : TyI Tryz.prog 24 (.slice none 0 0) 1 24 := .of (by kernel_rfl)
instance : Zer Tryz.prog 27 (.slice none 0 0) := .of (by kernel_rfl)
instance : TyI Tryz.prog 27 (.slice none 0 0) 1 24 := .of (by kernel_rfl)
instance : Zer Tryz.prog 28 (.slice none 0 0) := .of (by kernel_rfl)
instance : TyI Tryz.prog 28 (.slice none 0 0) 1 24 := .of (by kernel_rfl)
instance : Zer Tryz.prog 37 (.slice none 0 0) := .of (by kernel_rfl)
instance : TyI Tryz.prog 37 (.slice none 0 0) 1 24 := .of (by kernel_rfl)
instance : Zer Tryz.prog 69 (.slice none 0 0) := .of (by kernel_rfl)
instance : TyI Tryz.prog 69 (.slice none 0 0) 1 24 := .of (by kernel_rfl)
instance : Zer Tryz.prog 80 (.slice none 0 0) := .of (by kernel_rfl)
instance : TyI Tryz.prog 80 (.slice none 0 0) 1 24 := .of (by kernel_rfl)
instance : Fld Tryz.prog 23 0 0 := .of (k := 0) (by kernel_rfl)
instance : Fld Tryz.prog 23 1 1 := .of (k := 0) (by kernel_rfl)
instance : Fld Tryz.prog 23 2 2 := .of (k := 0) (by kernel_rfl)
instance : Fld Tryz.prog 26 0 0 := .of (k := 2) (by kernel_rfl)
instance : Fld Tryz.prog 26 1 3 := .of (k := 0) (by kernel_rfl)
instance : Fld Tryz.prog 26 2 4 := .of (k := 0) (by kernel_rfl)
instance : Fld Tryz.prog 30 0 0 := .of (k := 4) (by kernel_rfl)
instance : Fld Tryz.prog 30 1 5 := .of (k := 0) (by kernel_rfl)
instance : Fld Tryz.prog 30 2 6 := .of (k := 0) (by kernel_rfl)
instance : Fld Tryz.prog 79 0 0 := .of (k := 0) (by kernel_rfl)
instance : Fld Tryz.prog 79 1 1 := .of (k := 2) (by kernel_rfl)
instance : Fld Tryz.prog 79 2 4 := .of (k := 2) (by kernel_rfl)
instance : Fld Tryz.prog 111 0 0 := .of (k := 0) (by kernel_rfl)
instance : Fld Tryz.prog 111 1 1 := .of (k := 2) (by kernel_rfl)
instance : SlT Tryz.prog 24 23 := ⟨by kernel_rfl⟩
instance : SlT Tryz.prog 27 26 := ⟨by kernel_rfl⟩
instance : SlT Tryz.prog 28 79 := ⟨by kernel_rfl⟩
instance : SlT Tryz.prog 37 30 := ⟨by kernel_rfl⟩
instance : SlT Tryz.prog 68 111 := ⟨by kernel_rfl⟩
instance : SlT Tryz.prog 69 111 := ⟨by kernel_rfl⟩
instance : SlT Tryz.prog 80 3 := ⟨by kernel_rfl⟩
instance : SlT Tryz.prog 58 24 := ⟨by kernel_rfl⟩
instance : SlT Tryz.prog 72 69 := ⟨by kernel_rfl⟩
instance : SlT Tryz.prog 61 37 := ⟨by kernel_rfl⟩
instance : SlT Tryz.prog 59 27 := ⟨by kernel_rfl⟩
instance : SlT Tryz.prog 60 28 := ⟨by kernel_rfl⟩
instance : StrT Tryz.prog 9 := ⟨by kernel_rfl⟩
end Go.Proofs.YthkdggoohpgnnaaGreatDoor
/- Which functions have bodies: closed facts. -/
namespace Go.Proofs.YthkdggoohpgnnaaGreatDoor
open Go Go.Wk
instance ent3 : Ent Tryz.prog 3 := .of Tryz.func3 (by kernel_rfl) (by kernel_rfl)
instance ent4 : Ent Tryz.prog 4 := .of Tryz.func4 (by kernel_rfl) (by kernel_rfl)
instance ent5 : Ent Tryz.prog 5 := .of Tryz.func5 (by kernel_rfl) (by kernel_rfl)
instance ent6 : Ent Tryz.prog 6 := .of Tryz.func6 (by kernel_rfl) (by kernel_rfl)
instance ent7 : Ent Tryz.prog 7 := .of Tryz.func7 (by kernel_rfl) (by kernel_rfl)
instance ent8 : Ent Tryz.prog 8 := .of Tryz.func8 (by kernel_rfl) (by kernel_rfl)
instance ent9 : Ent Tryz.prog 9 := .of Tryz.func9 (by kernel_rfl) (by kernel_rfl)
instance ent10 : Ent Tryz.prog 10 := .of Tryz.func10 (by kernel_rfl) (by kernel_rfl)
instance ent11 : Ent Tryz.prog 11 := .of Tryz.func11 (by kernel_rfl) (by kernel_rfl)
instance ent12 : Ent Tryz.prog 12 := .of Tryz.func12 (by kernel_rfl) (by kernel_rfl)
instance ent13 : Ent Tryz.prog 13 := .of Tryz.func13 (by kernel_rfl) (by kernel_rfl)
instance ent14 : Ent Tryz.prog 14 := .of Tryz.func14 (by kernel_rfl) (by kernel_rfl)
instance ent15 : Ent Tryz.prog 15 := .of Tryz.func15 (by kernel_rfl) (by kernel_rfl)
instance ent16 : Ent Tryz.prog 16 := .of Tryz.func16 (by kernel_rfl) (by kernel_rfl)
instance ent17 : Ent Tryz.prog 17 := .of Tryz.func17 (by kernel_rfl) (by kernel_rfl)
instance ent18 : Ent Tryz.prog 18 := .of Tryz.func18 (by kernel_rfl) (by kernel_rfl)
instance ent19 : Ent Tryz.prog 19 := .of Tryz.func19 (by kernel_rfl) (by kernel_rfl)
instance ent20 : Ent Tryz.prog 20 := .of Tryz.func20 (by kernel_rfl) (by kernel_rfl)
instance ent21 : Ent Tryz.prog 21 := .of Tryz.func21 (by kernel_rfl) (by kernel_rfl)
instance ent22 : Ent Tryz.prog 22 := .of Tryz.func22 (by kernel_rfl) (by kernel_rfl)
instance ent23 : Ent Tryz.prog 23 := .of Tryz.func23 (by kernel_rfl) (by kernel_rfl)
instance ent24 : Ent Tryz.prog 24 := .of Tryz.func24 (by kernel_rfl) (by kernel_rfl)
instance ent25 : Ent Tryz.prog 25 := .of Tryz.func25 (by kernel_rfl) (by kernel_rfl)
instance ent26 : Ent Tryz.prog 26 := .of Tryz.func26 (by kernel_rfl) (by kernel_rfl)
instance ent27 : Ent Tryz.prog 27 := .of Tryz.func27 (by kernel_rfl) (by kernel_rfl)
instance ent28 : Ent Tryz.prog 28 := .of Tryz.func28 (by kernel_rfl) (by kernel_rfl)
instance ent29 : Ent Tryz.prog 29 := .of Tryz.func29 (by kernel_rfl) (by kernel_rfl)
instance ent30 : Ent Tryz.prog 30 := .of Tryz.func30 (by kernel_rfl) (by kernel_rfl)
instance ent31 : Ent Tryz.prog 31 := .of Tryz.func31 (by kernel_rfl) (by kernel_rfl)
instance ent32 : Ent Tryz.prog 32 := .of Tryz.func32 (by kernel_rfl) (by kernel_rfl)
instance ent33 : Ent Tryz.prog 33 := .of Tryz.func33 (by kernel_rfl) (by kernel_rfl)
instance ent34 : Ent Tryz.prog 34 := .of Tryz.func34 (by kernel_rfl) (by kernel_rfl)
instance ent35 : Ent Tryz.prog 35 := .of Tryz.func35 (by kernel_rfl) (by kernel_rfl)
instance ent36 : Ent Tryz.prog 36 := .of Tryz.func36 (by kernel_rfl) (by kernel_rfl)
instance ent37 : Ent Tryz.prog 37 := .of Tryz.func37 (by kernel_rfl) (by kernel_rfl)
instance ent38 : Ent Tryz.prog 38 := .of Tryz.func38 (by kernel_rfl) (by kernel_rfl)
instance ent39 : Ent Tryz.prog 39 := .of Tryz.func39 (by kernel_rfl) (by kernel_rfl)
instance ent40 : Ent Tryz.prog 40 := .of Tryz.func40 (by kernel_rfl) (by kernel_rfl)
instance ent41 : Ent Tryz.prog 41 := .of Tryz.func41 (by kernel_rfl) (by kernel_rfl)
instance ent42 : Ent Tryz.prog 42 := .of Tryz.func42 (by kernel_rfl) (by kernel_rfl)
instance ent43 : Ent Tryz.prog 43 := .of Tryz.func43 (by kernel_rfl) (by kernel_rfl)
instance ent44 : Ent Tryz.prog 44 := .of Tryz.func44 (by kernel_rfl) (by kernel_rfl)
instance ent45 : Ent Tryz.prog 45 := .of Tryz.func45 (by kernel_rfl) (by kernel_rfl)
instance ent46 : Ent Tryz.prog 46 := .of Tryz.func46 (by kernel_rfl) (by kernel_rfl)
instance ent47 : Ent Tryz.prog 47 := .of Tryz.func47 (by kernel_rfl) (by kernel_rfl)
instance ent48 : Ent Tryz.prog 48 := .of Tryz.func48 (by kernel_rfl) (by kernel_rfl)
instance ent49 : Ent Tryz.prog 49 := .of Tryz.func49 (by kernel_rfl) (by kernel_rfl)
instance ent50 : Ent Tryz.prog 50 := .of Tryz.func50 (by kernel_rfl) (by kernel_rfl)
instance ent51 : Ent Tryz.prog 51 := .of Tryz.func51 (by kernel_rfl) (by kernel_rfl)
instance ent52 : Ent Tryz.prog 52 := .of Tryz.func52 (by kernel_rfl) (by kernel_rfl)
instance ent53 : Ent Tryz.prog 53 := .of Tryz.func53 (by kernel_rfl) (by kernel_rfl)
instance ent54 : Ent Tryz.prog 54 := .of Tryz.func54 (by kernel_rfl) (by kernel_rfl)
instance ent55 : Ent Tryz.prog 55 := .of Tryz.func55 (by kernel_rfl) (by kernel_rfl)
instance ent56 : Ent Tryz.prog 56 := .of Tryz.func56 (by kernel_rfl) (by kernel_rfl)
instance ent57 : Ent Tryz.prog 57 := .of Tryz.func57 (by kernel_rfl) (by kernel_rfl)
instance ent58 : Ent Tryz.prog 58 := .of Tryz.func58 (by kernel_rfl) (by kernel_rfl)
instance ent59 : Ent Tryz.prog 59 := .of Tryz.func59 (by kernel_rfl) (by kernel_rfl)
instance ent60 : Ent Tryz.prog 60 := .of Tryz.func60 (by kernel_rfl) (by kernel_rfl)
instance ent61 : Ent Tryz.prog 61 := .of Tryz.func61 (by kernel_rfl) (by kernel_rfl)
instance ent62 : Ent Tryz.prog 62 := .of Tryz.func62 (by kernel_rfl) (by kernel_rfl)
instance ent63 : Ent Tryz.prog 63 := .of Tryz.func63 (by kernel_rfl) (by kernel_rfl)
instance ent64 : Ent Tryz.prog 64 := .of Tryz.func64 (by kernel_rfl) (by kernel_rfl)
instance ent65 : Ent Tryz.prog 65 := .of Tryz.func65 (by kernel_rfl) (by kernel_rfl)
instance ent66 : Ent Tryz.prog 66 := .of Tryz.func66 (by kernel_rfl) (by kernel_rfl)
instance ent67 : Ent Tryz.prog 67 := .of Tryz.func67 (by kernel_rfl) (by kernel_rfl)
instance ent68 : Ent Tryz.prog 68 := .of Tryz.func68 (by kernel_rfl) (by kernel_rfl)
instance ent69 : Ent Tryz.prog 69 := .of Tryz.func69 (by kernel_rfl) (by kernel_rfl)
instance ent70 : Ent Tryz.prog 70 := .of Tryz.func70 (by kernel_rfl) (by kernel_rfl)
instance ent71 : Ent Tryz.prog 71 := .of Tryz.func71 (by kernel_rfl) (by kernel_rfl)
instance ent72 : Ent Tryz.prog 72 := .of Tryz.func72 (by kernel_rfl) (by kernel_rfl)
instance ent73 : Ent Tryz.prog 73 := .of Tryz.func73 (by kernel_rfl) (by kernel_rfl)
instance ent74 : Ent Tryz.prog 74 := .of Tryz.func74 (by kernel_rfl) (by kernel_rfl)
instance ent75 : Ent Tryz.prog 75 := .of Tryz.func75 (by kernel_rfl) (by kernel_rfl)
instance ent76 : Ent Tryz.prog 76 := .of Tryz.func76 (by kernel_rfl) (by kernel_rfl)
instance ent77 : Ent Tryz.prog 77 := .of Tryz.func77 (by kernel_rfl) (by kernel_rfl)
instance ent78 : Ent Tryz.prog 78 := .of Tryz.func78 (by kernel_rfl) (by kernel_rfl)
instance ent79 : Ent Tryz.prog 79 := .of Tryz.func79 (by kernel_rfl) (by kernel_rfl)
instance ent80 : Ent Tryz.prog 80 := .of Tryz.func80 (by kernel_rfl) (by kernel_rfl)
instance ent81 : Ent Tryz.prog 81 := .of Tryz.func81 (by kernel_rfl) (by kernel_rfl)
instance ent82 : Ent Tryz.prog 82 := .of Tryz.func82 (by kernel_rfl) (by kernel_rfl)
instance ent83 : Ent Tryz.prog 83 := .of Tryz.func83 (by kernel_rfl) (by kernel_rfl)
instance ent84 : Ent Tryz.prog 84 := .of Tryz.func84 (by kernel_rfl) (by kernel_rfl)
instance ent85 : Ent Tryz.prog 85 := .of Tryz.func85 (by kernel_rfl) (by kernel_rfl)
instance ent86 : Ent Tryz.prog 86 := .of Tryz.func86 (by kernel_rfl) (by kernel_rfl)
instance ent87 : Ent Tryz.prog 87 := .of Tryz.func87 (by kernel_rfl) (by kernel_rfl)
instance ent88 : Ent Tryz.prog 88 := .of Tryz.func88 (by kernel_rfl) (by kernel_rfl)
instance ent89 : Ent Tryz.prog 89 := .of Tryz.func89 (by kernel_rfl) (by kernel_rfl)
instance ent90 : Ent Tryz.prog 90 := .of Tryz.func90 (by kernel_rfl) (by kernel_rfl)
instance ent91 : Ent Tryz.prog 91 := .of Tryz.func91 (by kernel_rfl) (by kernel_rfl)
instance ent92 : Ent Tryz.prog 92 := .of Tryz.func92 (by kernel_rfl) (by kernel_rfl)
instance ent93 : Ent Tryz.prog 93 := .of Tryz.func93 (by kernel_rfl) (by kernel_rfl)
instance ent94 : Ent Tryz.prog 94 := .of Tryz.func94 (by kernel_rfl) (by kernel_rfl)
instance ent95 : Ent Tryz.prog 95 := .of Tryz.func95 (by kernel_rfl) (by kernel_rfl)
instance ent96 : Ent Tryz.prog 96 := .of Tryz.func96 (by kernel_rfl) (by kernel_rfl)
instance ent97 : Ent Tryz.prog 97 := .of Tryz.func97 (by kernel_rfl) (by kernel_rfl)
instance ent98 : Ent Tryz.prog 98 := .of Tryz.func98 (by kernel_rfl) (by kernel_rfl)
instance ent99 : Ent Tryz.prog 99 := .of Tryz.func99 (by kernel_rfl) (by kernel_rfl)
instance ent100 : Ent Tryz.prog 100 := .of Tryz.func100 (by kernel_rfl) (by kernel_rfl)
instance ent101 : Ent Tryz.prog 101 := .of Tryz.func101 (by kernel_rfl) (by kernel_rfl)
instance ent102 : Ent Tryz.prog 102 := .of Tryz.func102 (by kernel_rfl) (by kernel_rfl)
instance ent103 : Ent Tryz.prog 103 := .of Tryz.func103 (by kernel_rfl) (by kernel_rfl)
instance ent104 : Ent Tryz.prog 104 := .of Tryz.func104 (by kernel_rfl) (by kernel_rfl)
instance ent105 : Ent Tryz.prog 105 := .of Tryz.func105 (by kernel_rfl) (by kernel_rfl)
instance ent106 : Ent Tryz.prog 106 := .of Tryz.func106 (by kernel_rfl) (by kernel_rfl)
instance ent107 : Ent Tryz.prog 107 := .of Tryz.func107 (by kernel_rfl) (by kernel_rfl)
instance ent108 : Ent Tryz.prog 108 := .of Tryz.func108 (by kernel_rfl) (by kernel_rfl)
instance ent109 : Ent Tryz.prog 109 := .of Tryz.func109 (by kernel_rfl) (by kernel_rfl)
instance ent110 : Ent Tryz.prog 110 := .of Tryz.func110 (by kernel_rfl) (by kernel_rfl)
instance ent111 : Ent Tryz.prog 111 := .of Tryz.func111 (by kernel_rfl) (by kernel_rfl)
instance ent112 : Ent Tryz.prog 112 := .of Tryz.func112 (by kernel_rfl) (by kernel_rfl)
instance ent113 : Ent Tryz.prog 113 := .of Tryz.func113 (by kernel_rfl) (by kernel_rfl)
instance ent114 : Ent Tryz.prog 114 := .of Tryz.func114 (by kernel_rfl) (by kernel_rfl)
instance ent115 : Ent Tryz.prog 115 := .of Tryz.func115 (by kernel_rfl) (by kernel_rfl)
instance ent116 : Ent Tryz.prog 116 := .of Tryz.func116 (by kernel_rfl) (by kernel_rfl)
instance ent117 : Ent Tryz.prog 117 := .of Tryz.func117 (by kernel_rfl) (by kernel_rfl)
instance ent118 : Ent Tryz.prog 118 := .of Tryz.func118 (by kernel_rfl) (by kernel_rfl)
instance ent119 : Ent Tryz.prog 119 := .of Tryz.func119 (by kernel_rfl) (by kernel_rfl)
instance ent120 : Ent Tryz.prog 120 := .of Tryz.func120 (by kernel_rfl) (by kernel_rfl)
instance ent121 : Ent Tryz.prog 121 := .of Tryz.func121 (by kernel_rfl) (by kernel_rfl)
instance ent122 : Ent Tryz.prog 122 := .of Tryz.func122 (by kernel_rfl) (by kernel_rfl)
instance ent123 : Ent Tryz.prog 123 := .of Tryz.func123 (by kernel_rfl) (by kernel_rfl)
instance ent124 : Ent Tryz.prog 124 := .of Tryz.func124 (by kernel_rfl) (by kernel_rfl)
instance ent125 : Ent Tryz.prog 125 := .of Tryz.func125 (by kernel_rfl) (by kernel_rfl)
instance ent126 : Ent Tryz.prog 126 := .of Tryz.func126 (by kernel_rfl) (by kernel_rfl)
instance ent127 : Ent Tryz.prog 127 := .of Tryz.func127 (by kernel_rfl) (by kernel_rfl)
instance ent128 : Ent Tryz.prog 128 := .of Tryz.func128 (by kernel_rfl) (by kernel_rfl)
instance ent129 : Ent Tryz.prog 129 := .of Tryz.func129 (by kernel_rfl) (by kernel_rfl)
instance ent130 : Ent Tryz.prog 130 := .of Tryz.func130 (by kernel_rfl) (by kernel_rfl)
instance ent131 : Ent Tryz.prog 131 := .of Tryz.func131 (by kernel_rfl) (by kernel_rfl)
instance ent132 : Ent Tryz.prog 132 := .of Tryz.func132 (by kernel_rfl) (by kernel_rfl)
instance ent133 : Ent Tryz.prog 133 := .of Tryz.func133 (by kernel_rfl) (by kernel_rfl)
instance ent134 : Ent Tryz.prog 134 := .of Tryz.func134 (by kernel_rfl) (by kernel_rfl)
instance ent135 : Ent Tryz.prog 135 := .of Tryz.func135 (by kernel_rfl) (by kernel_rfl)
instance ent136 : Ent Tryz.prog 136 := .of Tryz.func136 (by kernel_rfl) (by kernel_rfl)
instance ent137 : Ent Tryz.prog 137 := .of Tryz.func137 (by kernel_rfl) (by kernel_rfl)
instance ent138 : Ent Tryz.prog 138 := .of Tryz.func138 (by kernel_rfl) (by kernel_rfl)
instance ent139 : Ent Tryz.prog 139 := .of Tryz.func139 (by kernel_rfl) (by kernel_rfl)
instance ent140 : Ent Tryz.prog 140 := .of Tryz.func140 (by kernel_rfl) (by kernel_rfl)
instance ent141 : Ent Tryz.prog 141 := .of Tryz.func141 (by kernel_rfl) (by kernel_rfl)
instance ent142 : Ent Tryz.prog 142 := .of Tryz.func142 (by kernel_rfl) (by kernel_rfl)
instance ent143 : Ent Tryz.prog 143 := .of Tryz.func143 (by kernel_rfl) (by kernel_rfl)
instance ent144 : Ent Tryz.prog 144 := .of Tryz.func144 (by kernel_rfl) (by kernel_rfl)
instance ent145 : Ent Tryz.prog 145 := .of Tryz.func145 (by kernel_rfl) (by kernel_rfl)
instance ent146 : Ent Tryz.prog 146 := .of Tryz.func146 (by kernel_rfl) (by kernel_rfl)
instance ent147 : Ent Tryz.prog 147 := .of Tryz.func147 (by kernel_rfl) (by kernel_rfl)
instance ent148 : Ent Tryz.prog 148 := .of Tryz.func148 (by kernel_rfl) (by kernel_rfl)
instance ent149 : Ent Tryz.prog 149 := .of Tryz.func149 (by kernel_rfl) (by kernel_rfl)
instance ent150 : Ent Tryz.prog 150 := .of Tryz.func150 (by kernel_rfl) (by kernel_rfl)
instance ent151 : Ent Tryz.prog 151 := .of Tryz.func151 (by kernel_rfl) (by kernel_rfl)
instance ent152 : Ent Tryz.prog 152 := .of Tryz.func152 (by kernel_rfl) (by kernel_rfl)
instance ent153 : Ent Tryz.prog 153 := .of Tryz.func153 (by kernel_rfl) (by kernel_rfl)
instance ent154 : Ent Tryz.prog 154 := .of Tryz.func154 (by kernel_rfl) (by kernel_rfl)
instance ent155 : Ent Tryz.prog 155 := .of Tryz.func155 (by kernel_rfl) (by kernel_rfl)
instance ent156 : Ent Tryz.prog 156 := .of Tryz.func156 (by kernel_rfl) (by kernel_rfl)
instance ent157 : Ent Tryz.prog 157 := .of Tryz.func157 (by kernel_rfl) (by kernel_rfl)
instance ent158 : Ent Tryz.prog 158 := .of Tryz.func158 (by kernel_rfl) (by kernel_rfl)
instance ent159 : Ent Tryz.prog 159 := .of Tryz.func159 (by kernel_rfl) (by kernel_rfl)
instance ent160 : Ent Tryz.prog 160 := .of Tryz.func160 (by kernel_rfl) (by kernel_rfl)
instance ent161 : Ent Tryz.prog 161 := .of Tryz.func161 (by kernel_rfl) (by kernel_rfl)
instance ent162 : Ent Tryz.prog 162 := .of Tryz.func162 (by kernel_rfl) (by kernel_rfl)
instance ent163 : Ent Tryz.prog 163 := .of Tryz.func163 (by kernel_rfl) (by kernel_rfl)
instance ent164 : Ent Tryz.prog 164 := .of Tryz.func164 (by kernel_rfl) (by kernel_rfl)
instance ent165 : Ent Tryz.prog 165 := .of Tryz.func165 (by kernel_rfl) (by kernel_rfl)
instance ent166 : Ent Tryz.prog 166 := .of Tryz.func166 (by kernel_rfl) (by kernel_rfl)
instance ent167 : Ent Tryz.prog 167 := .of Tryz.func167 (by kernel_rfl) (by kernel_rfl)
instance ent168 : Ent Tryz.prog 168 := .of Tryz.func168 (by kernel_rfl) (by kernel_rfl)
instance ent169 : Ent Tryz.prog 169 := .of Tryz.func169 (by kernel_rfl) (by kernel_rfl)
instance ent170 : Ent Tryz.prog 170 := .of Tryz.func170 (by kernel_rfl) (by kernel_rfl)
instance ent171 : Ent Tryz.prog 171 := .of Tryz.func171 (by kernel_rfl) (by kernel_rfl)
instance ent172 : Ent Tryz.prog 172 := .of Tryz.func172 (by kernel_rfl) (by kernel_rfl)
instance ent173 : Ent Tryz.prog 173 := .of Tryz.func173 (by kernel_rfl) (by kernel_rfl)
instance ent174 : Ent Tryz.prog 174 := .of Tryz.func174 (by kernel_rfl) (by kernel_rfl)
instance ent175 : Ent Tryz.prog 175 := .of Tryz.func175 (by kernel_rfl) (by kernel_rfl)
instance ent176 : Ent Tryz.prog 176 := .of Tryz.func176 (by kernel_rfl) (by kernel_rfl)
instance ent177 : Ent Tryz.prog 177 := .of Tryz.func177 (by kernel_rfl) (by kernel_rfl)
instance ent178 : Ent Tryz.prog 178 := .of Tryz.func178 (by kernel_rfl) (by kernel_rfl)
instance ent179 : Ent Tryz.prog 179 := .of Tryz.func179 (by kernel_rfl) (by kernel_rfl)
instance ent180 : Ent Tryz.prog 180 := .of Tryz.func180 (by kernel_rfl) (by kernel_rfl)
instance ent182 : Ent Tryz.prog 182 := .of Tryz.func182 (by kernel_rfl) (by kernel_rfl)
instance ent183 : Ent Tryz.prog 183 := .of Tryz.func183 (by kernel_rfl) (by kernel_rfl)
instance ent185 : Ent Tryz.prog 185 := .of Tryz.func185 (by kernel_rfl) (by kernel_rfl)
instance ent186 : Ent Tryz.prog 186 := .of Tryz.func186 (by kernel_rfl) (by kernel_rfl)
instance ent187 : Ent Tryz.prog 187 := .of Tryz.func187 (by kernel_rfl) (by kernel_rfl)
instance ent188 : Ent Tryz.prog 188 := .of Tryz.func188 (by kernel_rfl) (by kernel_rfl)
instance ent189 : Ent Tryz.prog 189 := .of Tryz.func189 (by kernel_rfl) (by kernel_rfl)
instance ent190 : Ent Tryz.prog 190 := .of Tryz.func190 (by kernel_rfl) (by kernel_rfl)
instance ent191 : Ent Tryz.prog 191 := .of Tryz.func191 (by kernel_rfl) (by kernel_rfl)
instance ent192 : Ent Tryz.prog 192 := .of Tryz.func192 (by kernel_rfl) (by kernel_rfl)
instance ent193 : Ent Tryz.prog 193 := .of Tryz.func193 (by kernel_rfl) (by kernel_rfl)
instance ent194 : Ent Tryz.prog 194 := .of Tryz.func194 (by kernel_rfl) (by kernel_rfl)
instance ent195 : Ent Tryz.prog 195 := .of Tryz.func195 (by kernel_rfl) (by kernel_rfl)
instance ent196 : Ent Tryz.prog 196 := .of Tryz.func196 (by kernel_rfl) (by kernel_rfl)
instance ent197 : Ent Tryz.prog 197 := .of Tryz.func197 (by kernel_rfl) (by kernel_rfl)
instance ent198 : Ent Tryz.prog 198 := .of Tryz.func198 (by kernel_rfl) (by kernel_rfl)
instance ent199 : Ent Tryz.prog 199 := .of Tryz.func199 (by kernel_rfl) (by kernel_rfl)
instance ent200 : Ent Tryz.prog 200 := .of Tryz.func200 (by kernel_rfl) (by kernel_rfl)
instance ent201 : Ent Tryz.prog 201 := .of Tryz.func201 (by kernel_rfl) (by kernel_rfl)
instance ent218 : Ent Tryz.prog 218 := .of Tryz.func218 (by kernel_rfl) (by kernel_rfl)
instance ent219 : Ent Tryz.prog 219 := .of Tryz.func219 (by kernel_rfl) (by kernel_rfl)
instance ent220 : Ent Tryz.prog 220 := .of Tryz.func220 (by kernel_rfl) (by kernel_rfl)
instance ent221 : Ent Tryz.prog 221 := .of Tryz.func221 (by kernel_rfl) (by kernel_rfl)
instance ent222 : Ent Tryz.prog 222 := .of Tryz.func222 (by kernel_rfl) (by kernel_rfl)
instance ent223 : Ent Tryz.prog 223 := .of Tryz.func223 (by kernel_rfl) (by kernel_rfl)
instance ent224 : Ent Tryz.prog 224 := .of Tryz.func224 (by kernel_rfl) (by kernel_rfl)
instance ent225 : Ent Tryz.prog 225 := .of Tryz.func225 (by kernel_rfl) (by kernel_rfl)
instance ent226 : Ent Tryz.prog 226 := .of Tryz.func226 (by kernel_rfl) (by kernel_rfl)
instance ent227 : Ent Tryz.prog 227 := .of Tryz.func227 (by kernel_rfl) (by kernel_rfl)
instance ent228 : Ent Tryz.prog 228 := .of Tryz.func228 (by kernel_rfl) (by kernel_rfl)
instance ent229 : Ent Tryz.prog 229 := .of Tryz.func229 (by kernel_rfl) (by kernel_rfl)
instance ent230 : Ent Tryz.prog 230 := .of Tryz.func230 (by kernel_rfl) (by kernel_rfl)
instance ent231 : Ent Tryz.prog 231 := .of Tryz.func231 (by kernel_rfl) (by kernel_rfl)
instance ent232 : Ent Tryz.prog 232 := .of Tryz.func232 (by kernel_rfl) (by kernel_rfl)
instance ent233 : Ent Tryz.prog 233 := .of Tryz.func233 (by kernel_rfl) (by kernel_rfl)
instance ent234 : Ent Tryz.prog 234 := .of Tryz.func234 (by kernel_rfl) (by kernel_rfl)
instance ent235 : Ent Tryz.prog 235 := .of Tryz.func235 (by kernel_rfl) (by kernel_rfl)
end Go.Proofs.YthkdggoohpgnnaaGreatDoor
/- The program's plain data as Lean data, how they lie in memory; comparison of structs; results that lie in memory; slices cut. -/
namespace Go.Wk
open Go Go.RowKit
set_option linter.unusedVariables false

@[reducible] def Tm.cs (t : Tm) : List Value := [.int .i64 t.k, .int .i64 t.n, .string t.s]
@[reducible] def Ts.cs (t : Ts) : List Value := [.int .i64 t.op, .int .i64 t.l.k, .int .i64 t.l.n, .string t.l.s, .int .i64 t.r.k, .int .i64 t.r.n, .string t.r.s]
@[reducible] def Bd.cs (b : Bd) : List Value := [.int .i64 b.var, .int .i64 b.to.k, .int .i64 b.to.n, .string b.to.s]
@[reducible] def At0.cs (a : At0) (v : Value) : List Value := [.int .i64 a.by_.k, .int .i64 a.by_.n, .string a.by_.s, .string a.name, v]
@[reducible] def Cl.cs (x : Cl) (v v1 v2 : Value) : List Value := [.int .i64 x.head.by_.k, .int .i64 x.head.by_.n, .string x.head.by_.s, .string x.head.name, v, v1, v2]
theorem Sl.one {α : Type} [Enc α] {v : Value} {xs : List α} {c : Cx} (h : Sl v xs c) : v.oneCell' = true := by
  obtain ⟨_, _, _, rfl, _⟩ := h
  rfl
instance : Enc Tm where
  k := 3
  Ok cs t _ := cs = t.cs
  mono cs x := ⟨fun _ h => h⟩
  len cs x c h := by subst h; rfl
  one cs x c h u hu := by subst h; simp at hu; rcases hu with rfl | rfl | rfl <;> rfl
  pos := by omega
instance : Enc Ts where
  k := 7
  Ok cs t _ := cs = t.cs
  mono cs x := ⟨fun _ h => h⟩
  len cs x c h := by subst h; rfl
  one cs x c h u hu := by subst h; simp at hu; rcases hu with rfl | rfl | rfl | rfl | rfl | rfl | rfl <;> rfl
  pos := by omega
instance : Enc Bd where
  k := 4
  Ok cs t _ := cs = t.cs
  mono cs x := ⟨fun _ h => h⟩
  len cs x c h := by subst h; rfl
  one cs x c h u hu := by subst h; simp at hu; rcases hu with rfl | rfl | rfl | rfl <;> rfl
  pos := by omega
instance : Enc At0 where
  k := 5
  Ok cs a c := ∃ v, cs = a.cs v ∧ Sl v a.args c
  mono cs x := ⟨fun h ⟨v, h1, h2⟩ => ⟨v, h1, Mono.mono h h2⟩⟩
  len cs x c h := by obtain ⟨v, rfl, _⟩ := h; rfl
  one cs x c h u hu := by
    obtain ⟨v, rfl, h2⟩ := h
    simp at hu
    rcases hu with rfl | rfl | rfl | rfl | rfl <;> first | rfl | exact h2.one
  pos := by omega
/-- What a clause's three lists read as. -/
def ClAt (x : Cl) (v v1 v2 : Value) (c : Cx) : Prop := Sl v x.head.args c ∧ Sl v1 x.body c ∧ Sl v2 x.tests c
instance (x : Cl) (v v1 v2 : Value) : Mono (ClAt x v v1 v2) := ⟨fun h k => ⟨Mono.mono h k.1, Mono.mono h k.2.1, Mono.mono h k.2.2⟩⟩
instance : Enc Cl where
  k := 7
  Ok cs x c := ∃ v v1 v2, cs = x.cs v v1 v2 ∧ ClAt x v v1 v2 c
  mono cs x := ⟨fun h ⟨v, v1, v2, h1, h2⟩ => ⟨v, v1, v2, h1, Mono.mono h h2⟩⟩
  len cs x c h := by obtain ⟨v, v1, v2, rfl, _⟩ := h; rfl
  one cs x c h u hu := by
    obtain ⟨v, v1, v2, rfl, h2⟩ := h
    simp at hu
    rcases hu with rfl | rfl | rfl | rfl | rfl | rfl | rfl <;> first | rfl | exact h2.1.one | exact h2.2.1.one | exact h2.2.2.one
  pos := by omega
instance {α : Type} [Enc α] : Enc (List α) where
  k := 1
  Ok cs xs c := ∃ v, cs = [v] ∧ Sl v xs c
  mono cs x := ⟨fun h ⟨v, h1, h2⟩ => ⟨v, h1, Mono.mono h h2⟩⟩
  len cs x c h := by obtain ⟨v, rfl, _⟩ := h; rfl
  one cs x c h u hu := by
    obtain ⟨v, rfl, h2⟩ := h
    simp at hu
    subst hu
    exact h2.one
  pos := Nat.one_pos


instance : RdA Tm Tm.cs := ⟨fun h => h⟩
instance : RdA Ts Ts.cs := ⟨fun h => h⟩
instance : RdA Bd Bd.cs := ⟨fun h => h⟩
instance {α : Type} [Enc α] : Rd (List α) (fun xs v c => Sl v xs c) := ⟨rfl, fun h => by
  obtain ⟨v, e, h⟩ := h
  simp at e
  subst e
  exact h⟩
instance : Part Tm 0 Int Tm.k := ⟨fun h => h.part 0 fun cs e => by cases e; rfl⟩
instance : Part Tm 1 Int Tm.n := ⟨fun h => h.part 1 fun cs e => by cases e; rfl⟩
instance : Part Tm 2 ByteArray Tm.s := ⟨fun h => h.part 2 fun cs e => by cases e; rfl⟩
instance : Part Ts 0 Int Ts.op := ⟨fun h => h.part 0 fun cs e => by cases e; rfl⟩
instance : Part Ts 1 Tm Ts.l := ⟨fun h => h.part 1 fun cs e => by cases e; rfl⟩
instance : Part Ts 4 Tm Ts.r := ⟨fun h => h.part 4 fun cs e => by cases e; rfl⟩
instance : Part Bd 0 Int Bd.var := ⟨fun h => h.part 0 fun cs e => by cases e; rfl⟩
instance : Part Bd 1 Tm Bd.to := ⟨fun h => h.part 1 fun cs e => by cases e; rfl⟩
instance : Part At0 0 Tm At0.by_ := ⟨fun h => h.part 0 fun cs ⟨v, e, k⟩ => by cases e; rfl⟩
instance : Part At0 3 ByteArray At0.name := ⟨fun h => h.part 3 fun cs ⟨v, e, k⟩ => by cases e; rfl⟩
instance : Part At0 4 (List Tm) At0.args := ⟨fun h => h.part 4 fun cs ⟨v, e, k⟩ => by cases e; exact ⟨v, rfl, k⟩⟩
instance : Part Cl 0 At0 Cl.head := ⟨fun h => h.part 0 fun cs ⟨v, v1, v2, e, k⟩ => by cases e; exact ⟨v, rfl, k.1⟩⟩
instance : Part Cl 5 (List At0) Cl.body := ⟨fun h => h.part 5 fun cs ⟨v, v1, v2, e, k⟩ => by cases e; exact ⟨v1, rfl, k.2.1⟩⟩
instance : Part Cl 6 (List Ts) Cl.tests := ⟨fun h => h.part 6 fun cs ⟨v, v1, v2, e, k⟩ => by cases e; exact ⟨v2, rfl, k.2.2⟩⟩
/-- '==' at a type of structs: what it asks of the program. -/
class EqA (P : Program) (T : TypeId) (α : outParam Type) [Enc α] (cs : outParam (α → List Value)) : Prop where
  eq : ∀ (x y : α) (w : World), (Op.equalIn 10000 T (.agg (cs x).toArray) (.agg (cs y).toArray)).run P w = .ok (@decide (x = y) (Classical.propDecidable _)) w
  gd : P.eqGuardType P.depth T = false
section
variable {P : Program} {ops : Array Oper} {Q : Exit → Act → World → Prop} {n : Nat} {f : Nat → Value} {rest : List Oper} {ty : TypeId} {ps : String} {af : Array Edge} {d : Tmp} {w : World}
variable {c0 c : Cx} {L : List Res} {A : Cx → Prop}
theorem c_eqT {T T' : TypeId} {x y : Operand} {t u : Tm} (hn : Nat.blt d n = true) [EqA P T Tm Tm.cs] (hx : opd f x = .agg t.cs.toArray) (hy : opd f y = .agg u.cs.toArray)
    (kt : t = u → W P ops Q rest n (upd f d (.bool true)) w) (kf : ¬ t = u → W P ops Q rest n (upd f d (.bool false)) w) : W P ops Q (⟨some d, .binOp .eql T x y T', ty, ps, af, none⟩ :: rest) n f w := by
  have he := EqA.eq (P := P) (T := T) (cs := Tm.cs) t u w
  by_cases h : t = u
  · have he' : (Op.equalIn 10000 T (.agg t.cs.toArray) (.agg u.cs.toArray)).run P w = .ok true w := by rw [he]; simp [h]
    exact st_val hn (by simp [execOp, hx, hy, run_eqGuard_agg w _ T _ _ _ _ (EqA.gd (P := P) (T := T) (cs := Tm.cs)), run_eql_struct, he']) (kt h)
  · exact st_val hn (by simp [execOp, hx, hy, run_eqGuard_agg w _ T _ _ _ _ (EqA.gd (P := P) (T := T) (cs := Tm.cs)), run_eql_struct, he, h]) (kf h)
theorem c_neT {T T' : TypeId} {x y : Operand} {t u : Tm} (hn : Nat.blt d n = true) [EqA P T Tm Tm.cs] (hx : opd f x = .agg t.cs.toArray) (hy : opd f y = .agg u.cs.toArray)
    (kt : ¬ t = u → W P ops Q rest n (upd f d (.bool true)) w) (kf : t = u → W P ops Q rest n (upd f d (.bool false)) w) : W P ops Q (⟨some d, .binOp .neq T x y T', ty, ps, af, none⟩ :: rest) n f w := by
  have he := EqA.eq (P := P) (T := T) (cs := Tm.cs) t u w
  by_cases h : t = u
  · have he' : (Op.equalIn 10000 T (.agg t.cs.toArray) (.agg u.cs.toArray)).run P w = .ok true w := by rw [he]; simp [h]
    exact st_val hn (by simp [execOp, hx, hy, run_eqGuard_agg w _ T _ _ _ _ (EqA.gd (P := P) (T := T) (cs := Tm.cs)), run_neq_struct, he']) (kf h)
  · exact st_val hn (by simp [execOp, hx, hy, run_eqGuard_agg w _ T _ _ _ _ (EqA.gd (P := P) (T := T) (cs := Tm.cs)), run_neq_struct, he, h]) (kt h)
theorem c_eqTs {T T' : TypeId} {x y : Operand} {t u : Ts} (hn : Nat.blt d n = true) [EqA P T Ts Ts.cs] (hx : opd f x = .agg t.cs.toArray) (hy : opd f y = .agg u.cs.toArray)
    (kt : t = u → W P ops Q rest n (upd f d (.bool true)) w) (kf : ¬ t = u → W P ops Q rest n (upd f d (.bool false)) w) : W P ops Q (⟨some d, .binOp .eql T x y T', ty, ps, af, none⟩ :: rest) n f w := by
  have he := EqA.eq (P := P) (T := T) (cs := Ts.cs) t u w
  by_cases h : t = u
  · have he' : (Op.equalIn 10000 T (.agg t.cs.toArray) (.agg u.cs.toArray)).run P w = .ok true w := by rw [he]; simp [h]
    exact st_val hn (by simp [execOp, hx, hy, run_eqGuard_agg w _ T _ _ _ _ (EqA.gd (P := P) (T := T) (cs := Ts.cs)), run_eql_struct, he']) (kt h)
  · exact st_val hn (by simp [execOp, hx, hy, run_eqGuard_agg w _ T _ _ _ _ (EqA.gd (P := P) (T := T) (cs := Ts.cs)), run_eql_struct, he, h]) (kf h)
theorem c_neTs {T T' : TypeId} {x y : Operand} {t u : Ts} (hn : Nat.blt d n = true) [EqA P T Ts Ts.cs] (hx : opd f x = .agg t.cs.toArray) (hy : opd f y = .agg u.cs.toArray)
    (kt : ¬ t = u → W P ops Q rest n (upd f d (.bool true)) w) (kf : t = u → W P ops Q rest n (upd f d (.bool false)) w) : W P ops Q (⟨some d, .binOp .neq T x y T', ty, ps, af, none⟩ :: rest) n f w := by
  have he := EqA.eq (P := P) (T := T) (cs := Ts.cs) t u w
  by_cases h : t = u
  · have he' : (Op.equalIn 10000 T (.agg t.cs.toArray) (.agg u.cs.toArray)).run P w = .ok true w := by rw [he]; simp [h]
    exact st_val hn (by simp [execOp, hx, hy, run_eqGuard_agg w _ T _ _ _ _ (EqA.gd (P := P) (T := T) (cs := Ts.cs)), run_neq_struct, he']) (kf h)
  · exact st_val hn (by simp [execOp, hx, hy, run_eqGuard_agg w _ T _ _ _ _ (EqA.gd (P := P) (T := T) (cs := Ts.cs)), run_neq_struct, he, h]) (kt h)
theorem s_eqT {T T' : TypeId} {x y : Operand} {t u : Tm} (hn : Nat.blt d n = true) [EqA P T Tm Tm.cs] (hx : opd f x = .agg (Tm.cs t).toArray) (hy : opd f y = .agg (Tm.cs u).toArray)
    (k : W P ops Q rest n (upd f d (.bool (decide (t = u)))) w) : W P ops Q (⟨some d, .binOp .eql T x y T', ty, ps, af, none⟩ :: rest) n f w := by
  by_cases h : t = u
  · exact c_eqT hn hx hy (fun _ => by simpa [h] using k) (fun e => absurd h e)
  · exact c_eqT hn hx hy (fun e => absurd e h) (fun _ => by simpa [h] using k)
theorem s_neT {T T' : TypeId} {x y : Operand} {t u : Tm} (hn : Nat.blt d n = true) [EqA P T Tm Tm.cs] (hx : opd f x = .agg (Tm.cs t).toArray) (hy : opd f y = .agg (Tm.cs u).toArray)
    (k : W P ops Q rest n (upd f d (.bool (!decide (t = u)))) w) : W P ops Q (⟨some d, .binOp .neq T x y T', ty, ps, af, none⟩ :: rest) n f w := by
  by_cases h : t = u
  · exact c_neT hn hx hy (fun e => absurd h e) (fun _ => by simpa [h] using k)
  · exact c_neT hn hx hy (fun _ => by simpa [h] using k) (fun e => absurd e h)
theorem s_eqTs {T T' : TypeId} {x y : Operand} {t u : Ts} (hn : Nat.blt d n = true) [EqA P T Ts Ts.cs] (hx : opd f x = .agg (Ts.cs t).toArray) (hy : opd f y = .agg (Ts.cs u).toArray)
    (k : W P ops Q rest n (upd f d (.bool (decide (t = u)))) w) : W P ops Q (⟨some d, .binOp .eql T x y T', ty, ps, af, none⟩ :: rest) n f w := by
  by_cases h : t = u
  · exact c_eqTs hn hx hy (fun _ => by simpa [h] using k) (fun e => absurd h e)
  · exact c_eqTs hn hx hy (fun e => absurd e h) (fun _ => by simpa [h] using k)
theorem s_neTs {T T' : TypeId} {x y : Operand} {t u : Ts} (hn : Nat.blt d n = true) [EqA P T Ts Ts.cs] (hx : opd f x = .agg (Ts.cs t).toArray) (hy : opd f y = .agg (Ts.cs u).toArray)
    (k : W P ops Q rest n (upd f d (.bool (!decide (t = u)))) w) : W P ops Q (⟨some d, .binOp .neq T x y T', ty, ps, af, none⟩ :: rest) n f w := by
  by_cases h : t = u
  · exact c_neTs hn hx hy (fun e => absurd h e) (fun _ => by simpa [h] using k)
  · exact c_neTs hn hx hy (fun _ => by simpa [h] using k) (fun e => absurd e h)
theorem z_eqT {T T' : TypeId} {x y : Operand} {t u : Tm} (hn : Nat.blt d n = true) [EqA P T Tm Tm.cs] (hx : opd f x = .agg (Tm.cs t).toArray) (hy : opd f y = .agg (Tm.cs u).toArray) {r : Bool} (hr : decide (t = u) = r)
    (k : W P ops Q rest n (upd f d (.bool r)) w) : W P ops Q (⟨some d, .binOp .eql T x y T', ty, ps, af, none⟩ :: rest) n f w := s_eqT hn hx hy (by rw [hr]; exact k)
theorem z_neT {T T' : TypeId} {x y : Operand} {t u : Tm} (hn : Nat.blt d n = true) [EqA P T Tm Tm.cs] (hx : opd f x = .agg (Tm.cs t).toArray) (hy : opd f y = .agg (Tm.cs u).toArray) {r : Bool} (hr : (!decide (t = u)) = r)
    (k : W P ops Q rest n (upd f d (.bool r)) w) : W P ops Q (⟨some d, .binOp .neq T x y T', ty, ps, af, none⟩ :: rest) n f w := s_neT hn hx hy (by rw [hr]; exact k)
theorem z_eqTs {T T' : TypeId} {x y : Operand} {t u : Ts} (hn : Nat.blt d n = true) [EqA P T Ts Ts.cs] (hx : opd f x = .agg (Ts.cs t).toArray) (hy : opd f y = .agg (Ts.cs u).toArray) {r : Bool} (hr : decide (t = u) = r)
    (k : W P ops Q rest n (upd f d (.bool r)) w) : W P ops Q (⟨some d, .binOp .eql T x y T', ty, ps, af, none⟩ :: rest) n f w := s_eqTs hn hx hy (by rw [hr]; exact k)
theorem z_neTs {T T' : TypeId} {x y : Operand} {t u : Ts} (hn : Nat.blt d n = true) [EqA P T Ts Ts.cs] (hx : opd f x = .agg (Ts.cs t).toArray) (hy : opd f y = .agg (Ts.cs u).toArray) {r : Bool} (hr : (!decide (t = u)) = r)
    (k : W P ops Q rest n (upd f d (.bool r)) w) : W P ops Q (⟨some d, .binOp .neq T x y T', ty, ps, af, none⟩ :: rest) n f w := s_neTs hn hx hy (by rw [hr]; exact k)

/-! ### results that lie in memory -/
def RV (P : Program) (r : ResultVar) (f : Nat → Value) (w : World) (v : Value) : Prop :=
  match r with
  | .tmp t => f t = v
  | .cell a T => ∃ p, f a = .pointer (some p) ∧ (loadVar T p).run P w = .ok v w
theorem RV.tmp {t : Tmp} {v : Value} (h : f t = v) : RV P (.tmp t) f w v := h
theorem RV.prim {t T T' : Nat} {b o : Nat} {v : Value} {cs : List Value} {fr : Nat × Nat} [Prim P T] (h : f t = .pointer (some ⟨b, o, none⟩)) (H : Owns c0 L c) (hm : Res.obj b (.cells cs.toArray T' fr) ∈ L) (hv : cs[o]? = some v) : RV P (.cell t T) f c.w v :=
  ⟨_, h, run_load1 (by rw [cell_of_row _ _ _ _ _ _ (H.res _ hm).1]; simpa using hv)⟩
theorem RV.agg {t T T' : Nat} {kk b o : Nat} {cs vs : List Value} {fr : Nat × Nat} [Agg P T kk] (h : f t = .pointer (some ⟨b, o, none⟩)) (H : Owns c0 L c) (hm : Res.obj b (.cells cs.toArray T' fr) ∈ L) (hv : Sub o kk cs vs) : RV P (.cell t T) f c.w (.agg vs.toArray) :=
  ⟨_, h, run_loadk hv.get.1 fun j v hj => by rw [cell_of_row _ _ _ _ _ _ (H.res _ hm).1]; simpa using hv.get.2 j v hj⟩
theorem RV.run {r : ResultVar} {v : Value} (h : RV P r f w v) {tmps : Array Value} (ht : ∀ t, tmps.getD t undef = f t) :
    (match r with
      | .tmp t => pure (tmps.getD t undef)
      | .cell a t => do loadVar t (← asAddr (tmps.getD a undef)) : Sem Value).run P w = .ok v w := by
  cases r with
  | tmp t => simp only [Sem.run_pure, ht]; exact congrArg (Result.ok · w) h
  | cell a T =>
    obtain ⟨p, hp, hl⟩ := h
    simp [ht, hp, asAddr, hl]
theorem outsR1 {fn : Func} {r : ResultVar} {v : Value} (h : fn.results = #[r]) (hv : RV P r f w v) : Outs P fn f w v := fun tmps ht => by
  have := hv.run ht
  unfold results
  rw [h]
  simp only [List.mapM_toArray, List.mapM_cons, List.mapM_nil, pure_bind, Sem.run_bind, Sem.run_map]
  cases r with
  | tmp t =>
    simp only [Sem.run_pure, Result.ok.injEq, and_true] at this
    simp [this]
  | cell a T =>
    simp only [Sem.run_bind, Array.getD_eq_getD_getElem?] at this
    simp [this]
theorem outsR2 {fn : Func} {r r' : ResultVar} {v v' : Value} (h : fn.results = #[r, r']) (hv : RV P r f w v) (hv' : RV P r' f w v') : Outs P fn f w (.tuple #[v, v']) := fun tmps ht => by
  have h1 := hv.run ht
  have h2 := hv'.run ht
  unfold results
  rw [h]
  simp only [List.mapM_toArray, List.mapM_cons, List.mapM_nil, Sem.run_bind, Sem.run_map]
  cases r <;> cases r' <;> simp only [Sem.run_pure, Sem.run_bind, Array.getD_eq_getD_getElem?, Result.ok.injEq, and_true] at h1 h2 <;> simp [h1, h2]
end
end Go.Wk
namespace Go.Proofs.YthkdggoohpgnnaaGreatDoor
open Go Go.Wk
instance : CvI Tryz.prog 5 3 .i64 := .of (by kernel_rfl) (by kernel_rfl)
instance : TyD Tryz.prog 23 Tm Tm.cs := ⟨fun _ _ => rfl⟩
instance : TyD Tryz.prog 79 Ts Ts.cs := ⟨fun _ _ => rfl⟩
instance : TyD Tryz.prog 111 Bd Bd.cs := ⟨fun _ _ => rfl⟩
theorem eqTm (d : Nat) (t u : Tm) (w : World) : (Op.equalIn (d + 2) 23 (.agg t.cs.toArray) (.agg u.cs.toArray)).run Tryz.prog w = .ok (decide (t = u)) w := by
  have hS : Tryz.prog.underlying 23 = some (.struct (Tryz.prog.fieldsOf 23)) := by kernel_rfl
  have hp : Tryz.prog.stoodInHeld 23 = false := by kernel_rfl
  have a3 : ∀ w, (isAgg 3).run Tryz.prog w = .ok false w := Prim.ag
  have a9 : ∀ w, (isAgg 9).run Tryz.prog w = .ok false w := Prim.ag
  have u3 : Tryz.prog.underlying 3 = some (.int .i64) := by kernel_rfl
  have u9 : Tryz.prog.underlying 9 = some .string := by kernel_rfl
  rw [show d + 2 = (d + 1) + 1 from rfl, run_equalIn_agg w (d + 1) 23 _ _ hS hp]
  simp only [Program.fieldsOf, Tryz.underlying23]
  obtain ⟨k, n, s⟩ := t
  obtain ⟨k', n', s'⟩ := u
  by_cases h1 : k = k' <;> by_cases h2 : n = n' <;> by_cases h3 : s = s' <;>
    simp [Op.eqFields, part, a3, a9, run_equalIn_int w d _ _ .i64 _ _ u3, run_equalIn_string w d _ _ _ u9, h1, h2, h3, ba_beq]
instance : EqA Tryz.prog 23 Tm Tm.cs := ⟨fun x y w => by rw [show (10000 : Nat) = 9998 + 2 from rfl, eqTm]; congr, by kernel_rfl⟩
instance : EqA Tryz.prog 79 Ts Ts.cs := ⟨fun x y w => by
  have hS : Tryz.prog.underlying 79 = some (.struct (Tryz.prog.fieldsOf 79)) := by kernel_rfl
  have hp : Tryz.prog.stoodInHeld 79 = false := by kernel_rfl
  have a3 : ∀ w, (isAgg 3).run Tryz.prog w = .ok false w := Prim.ag
  have a23 : ∀ w, (isAgg 23).run Tryz.prog w = .ok true w := Agg.ag
  have z23 : ∀ w, (sizeOf 23).run Tryz.prog w = .ok 3 w := Agg.sz
  have u3 : Tryz.prog.underlying 3 = some (.int .i64) := by kernel_rfl
  rw [show (10000 : Nat) = 9999 + 1 from rfl, run_equalIn_agg w 9999 79 _ _ hS hp]
  simp only [Program.fieldsOf, Tryz.underlying79]
  have e1 := eqTm 9997 x.l y.l w
  have e2 := eqTm 9997 x.r y.r w
  have i1 := run_equalIn_int w 9998 3 .i64 .i64 x.op y.op u3
  have p1 : ∀ z : Ts, (part 3 z.cs.toArray 0).run Tryz.prog w = .ok (.int .i64 z.op) w := fun z => by simp [part, a3]
  have p2 : ∀ z : Ts, (part 23 z.cs.toArray 1).run Tryz.prog w = .ok (.agg z.l.cs.toArray) w := fun z => by simp [part, a23, z23]
  have p3 : ∀ z : Ts, (part 23 z.cs.toArray 4).run Tryz.prog w = .ok (.agg z.r.cs.toArray) w := fun z => by simp [part, a23, z23]
  generalize ex : x.cs.toArray = X at *
  generalize ey : y.cs.toArray = Y at *
  have q1 := p1 x; have q2 := p2 x; have q3 := p3 x
  have r1 := p1 y; have r2 := p2 y; have r3 := p3 y
  rw [ex] at q1 q2 q3
  rw [ey] at r1 r2 r3
  clear p1 p2 p3
  have key : ∀ b1 b2 b3 : Bool, (x.op == y.op) = b1 → decide (x.l = y.l) = b2 → decide (x.r = y.r) = b3 → (@decide (x = y) (Classical.propDecidable _)) = (b1 && (b2 && b3)) := by
    intro b1 b2 b3 h1 h2 h3
    subst h1 h2 h3
    obtain ⟨o, l, r⟩ := x
    obtain ⟨o', l', r'⟩ := y
    by_cases h1 : o = o' <;> by_cases h2 : l = l' <;> by_cases h3 : r = r' <;> simp [h1, h2, h3]
  rw [key _ _ _ rfl rfl rfl]
  generalize (x.op == y.op) = b1 at i1 ⊢
  generalize decide (x.l = y.l) = b2 at e1 ⊢
  generalize decide (x.r = y.r) = b3 at e2 ⊢
  cases b1 <;> cases b2 <;> cases b3 <;> simp [Op.eqFields, q1, q2, q3, r1, r2, r3, i1, e1, e2], by kernel_rfl⟩
end Go.Proofs.YthkdggoohpgnnaaGreatDoor
/- The short rules of comparisons of structs. Printed by gen_q.py. -/
namespace Go.Wk
open Go Go.RowKit
set_option linter.unusedVariables false
section
variable {P : Program} {ops : Array Oper} {Q : Exit → Act → World → Prop} {n : Nat} {f : Nat → Value} {rest : List Oper} {ty : TypeId} {ps : String} {af : Array Edge} {d : Tmp} {w : World}
variable {c0 c : Cx} {L : List Res} {A : Cx → Prop}
variable {T T' : TypeId} {x y : Operand} {kd : IntKind} {a b : Int} {s t : ByteArray}
theorem Z100 {T T' : TypeId} {x y : Operand} {t u : Tm} [EqA P T Tm Tm.cs] (kt : t = u → W P ops Q rest n (upd f d (.bool true)) w) (kf : ¬ t = u → W P ops Q rest n (upd f d (.bool false)) w) (hn : Nat.blt d n = true := by exact rfl) (hx : opd f x = .agg t.cs.toArray := by exact rfl) (hy : opd f y = .agg u.cs.toArray := by exact rfl) : W P ops Q (⟨some d, .binOp .eql T x y T', ty, ps, af, none⟩ :: rest) n f w :=
  c_eqT (hn := hn) (hx := hx) (hy := hy) (kt := kt) (kf := kf)
theorem Z101 {T T' : TypeId} {x y : Operand} {t u : Tm} [EqA P T Tm Tm.cs] (kt : ¬ t = u → W P ops Q rest n (upd f d (.bool true)) w) (kf : t = u → W P ops Q rest n (upd f d (.bool false)) w) (hn : Nat.blt d n = true := by exact rfl) (hx : opd f x = .agg t.cs.toArray := by exact rfl) (hy : opd f y = .agg u.cs.toArray := by exact rfl) : W P ops Q (⟨some d, .binOp .neq T x y T', ty, ps, af, none⟩ :: rest) n f w :=
  c_neT (hn := hn) (hx := hx) (hy := hy) (kt := kt) (kf := kf)
end
end Go.Wk
