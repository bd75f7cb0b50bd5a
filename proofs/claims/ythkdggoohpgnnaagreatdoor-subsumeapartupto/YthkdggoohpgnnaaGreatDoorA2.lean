/- a part of the proof: lemmas on walks, on plain data, contracts of functions. -/
import Derived.Maps.RangeRun
import Derived.Test.YthkdggoohpgnnaaGreatDoorA1
set_option linter.all false
/- Functions that turn what they are lent; functions as values; maps whose keys are whole numbers. No program in sight. -/
namespace Go.Wk
open Go Go.RowKit
set_option linter.unusedVariables false

/-! ### contracts of functions that turn what the caller lends them -/
def CnTR (c0 : Cx) (post L : List Res) (A : Cx → Prop) (Post : Value → Cx → Prop) : Ending → World → Prop := fun e w' => ∃ v, e = .returned v ∧ ∃ c', c'.w = w' ∧ Owns c0 (post ++ L) c' ∧ Hd (fun c => Post v c ∧ A c) c'
def CnT (P : Program) (g : FuncId) (args : List Value) (pre post : List Res) (c : Cx) (Post : Value → Cx → Prop) : Prop :=
  ∀ (c0 : Cx) (L : List Res) (A : Cx → Prop) [Mono A], Owns c0 (pre ++ L) c → Hd A c → Calls P g args.toArray c.w (CnTR c0 post L A Post)
section
variable {P : Program} {g : FuncId} {fn : Func} {x : Code} {args : List Value} {c : Cx}
theorem CnT.of {pre post : List Res} {Post : Value → Cx → Prop} {n : Nat} (hf : P.funcs[g]? = some fn) (hn : fn.ntmps = n) (hb : fn.body = some x) (hl : Nat.ble args.length n = true)
    (h : ∀ (c0 : Cx) (L : List Res) (A : Cx → Prop) [Mono A], Owns c0 (pre ++ L) c → Hd A c → WC P x (bodyPost P fn (CnTR c0 post L A Post)) n (frame0 args) c.w) : CnT P g args pre post c Post :=
  fun c0 L A _ H HA => calls_of_wp hf hb (by subst hn; exact (h c0 L A H HA).go _ (frIs0 (Nat.le_of_ble_eq_true hl)))
theorem ret_fnT {post L : List Res} {A : Cx → Prop} {Post : Value → Cx → Prop} {c0 c : Cx} {n : Nat} {f : Nat → Value} {v : Value} (H : Owns c0 (post ++ L) c) (HA : Hd A c) (ho : Outs P fn f c.w v) (hp : Post v c) : WX (bodyPost P fn (CnTR c0 post L A Post)) .ret n f c.w :=
  ⟨fun a ha => ⟨ha.defers, v, ho _ ha.at_, v, rfl, c, rfl, H, HA.add hp⟩⟩
theorem norm_fnT {post L : List Res} {A : Cx → Prop} {Post : Value → Cx → Prop} {c0 c : Cx} {n : Nat} {f : Nat → Value} {v : Value} (H : Owns c0 (post ++ L) c) (HA : Hd A c) (ho : Outs P fn f c.w v) (hp : Post v c) : WX (bodyPost P fn (CnTR c0 post L A Post)) .normal n f c.w :=
  ⟨fun a ha => ⟨ha.defers, v, ho _ ha.at_, v, rfl, c, rfl, H, HA.add hp⟩⟩
theorem outs0 {f : Nat → Value} {w : World} (h : fn.results = #[]) : Outs P fn f w (.tuple #[]) := fun tmps ht => by
  simp [results, h]
theorem CnT.imp {pre post : List Res} {Post Post' : Value → Cx → Prop} (h : CnT P g args pre post c Post) (hp : ∀ v c, Post v c → Post' v c) : CnT P g args pre post c Post' :=
  fun c0 L A _ H HA => (h c0 L A H HA).mono fun _ _ ⟨v, he, c', h1, h2, h3⟩ => ⟨v, he, c', h1, h2, ⟨⟨hp _ _ h3.h.1, h3.h.2⟩⟩⟩
/-- What turns nothing turns nothing of what is lent either. -/
theorem Cn.t {Post : Value → Cx → Prop} (h : Cn P g args c Post) {R : List Res} : CnT P g args R R c Post :=
  fun c0 L A _ H HA => (h H.mbd).mono fun _ w' ⟨v, he, hx, hp⟩ => ⟨v, he, ⟨w', c.M⟩, rfl, H.of_ext hx, ⟨⟨hp, Mono.mono (Le.of_ext hx) HA.h⟩⟩⟩
end
section
variable {P : Program} {ops : Array Oper} {Q : Exit → Act → World → Prop} {n : Nat} {f : Nat → Value} {rest : List Oper} {ty : TypeId} {ps : String} {af : Array Edge} {d : Tmp}
variable {c0 c : Cx} {L : List Res} {A : Cx → Prop}
theorem s_callT {as : Array Operand} {aT : Array TypeId} {g : FuncId} {vs : List Value} {pre post : List Res} {Post : Value → Cx → Prop} (hn : Nat.blt d n = true) [Ent P g] (hargs : as.toList.map (opd f) = vs) (H : Owns c0 (pre ++ L) c) (HA : Hd A c) [Mono A] (hc : CnT P g vs pre post c Post)
    (k : ∀ v c', Owns c0 (post ++ L) c' → Hd (fun c => Post v c ∧ A c) c' → W P ops Q rest n (upd f d v) c'.w) : W P ops Q (⟨some d, .call ⟨.value (.func g), as, aT⟩, ty, ps, af, none⟩ :: rest) n f c.w :=
  st_enter hn (g := g) (args := vs.toArray) (by subst hargs; simp [execOp, resolve, Deferred.ofValue, opd, invoke, Ent.h, ← Array.toList_map]) (hc c0 L A H HA)
    fun v w' ⟨c', hw, H', HA'⟩ => by subst hw; exact k v c' H' HA'
theorem s_callVT {as : Array Operand} {aT : Array TypeId} {t : Operand} {g : FuncId} {caps vs : List Value} {pre post : List Res} {Post : Value → Cx → Prop} (hn : Nat.blt d n = true) (ht : opd f t = .func (.func g) #[] caps.toArray) [Ent P g] (hargs : as.toList.map (opd f) ++ caps = vs) (H : Owns c0 (pre ++ L) c) (HA : Hd A c) [Mono A] (hc : CnT P g vs pre post c Post)
    (k : ∀ v c', Owns c0 (post ++ L) c' → Hd (fun c => Post v c ∧ A c) c' → W P ops Q rest n (upd f d v) c'.w) : W P ops Q (⟨some d, .call ⟨.value t, as, aT⟩, ty, ps, af, none⟩ :: rest) n f c.w :=
  st_enter hn (g := g) (args := vs.toArray) (by subst hargs; simp [execOp, resolve, Deferred.ofValue, ht, invoke, Ent.h, ← Array.toList_map]) (hc c0 L A H HA)
    fun v w' ⟨c', hw, H', HA'⟩ => by subst hw; exact k v c' H' HA'
/-! ### maps -/
def mEnt (es : List (Int × Value)) : List MapEntry := es.zipIdx.map fun p => { key := .int .i64 p.1.1, val := p.1.2, born := p.2 }
def mObj (es : List (Int × Value)) : Obj := .map (mEnt es).toArray es.length
def mLook (es : List (Int × Value)) (k : Int) : Option Value := (es.find? fun p => p.1 == k).map (·.2)
def mSet (es : List (Int × Value)) (k : Int) (v : Value) : List (Int × Value) := match es.findIdx? (fun p => p.1 == k) with | some i => es.set i (k, v) | none => es ++ [(k, v)]
class MapT (P : Program) (T : TypeId) (e : outParam TypeId) : Prop where
  h : ∃ kt ik, P.underlying T = some (.map kt e) ∧ P.underlying kt = some (.int ik)
theorem findNow_ents (kd : IntKind) (k : Int) : ∀ (es : List (Int × Value)) (i : Nat), Instr.findNow (.int kd) (.int .i64 k) ((es.zipIdx i).map fun p => { key := .int .i64 p.1.1, val := p.1.2, born := p.2 }) i =
    some ((es.findIdx? fun p => p.1 == k).bind fun j => (es[j]?).map fun p => (i + j, p.2)) := by
  intro es
  induction es with
  | nil => intro i; rfl
  | cons p es ih =>
    intro i
    simp only [List.zipIdx_cons, List.map_cons, Instr.findNow, Instr.sameNow, if_true]
    by_cases h : p.1 = k
    · subst h
      simp [List.findIdx?_cons]
    · have h1 : (k == p.1) = false := by simpa using fun e => h e.symm
      have h2 : (p.1 == k) = false := by simpa using h
      simp only [h1, ih (i + 1), List.findIdx?_cons, h2]
      cases es.findIdx? fun p => p.1 == k with
      | none => rfl
      | some j => simp [Nat.add_assoc, Nat.add_comm 1 j]
theorem run_findKey {kt : TypeId} {ik : IntKind} {w : World} {k : Int} {es : List (Int × Value)} (h : P.underlying kt = some (.int ik)) :
    (Instr.findKey kt (.int .i64 k) (mEnt es)).run P w = .ok ((es.findIdx? fun p => p.1 == k).bind fun j => (es[j]?).map fun p => (j, p.2)) w := by
  have := findNow_ents ik k es 0
  simp only [Nat.zero_add] at this
  simp only [Instr.findKey, Sem.run_bind, run_underlying h, Result.andThen_ok, mEnt, this]
  rfl
theorem find_idx (k : Int) (es : List (Int × Value)) : ((es.findIdx? fun p => p.1 == k).bind fun j => (es[j]?).map fun p => p.2) = mLook es k := by
  unfold mLook
  induction es with
  | nil => rfl
  | cons p es ih =>
    rw [List.findIdx?_cons, List.find?_cons]
    cases h : p.1 == k with
    | true => rfl
    | false =>
      simp only
      rw [← ih]
      cases es.findIdx? fun p => p.1 == k with
      | none => rfl
      | some j => rfl
theorem run_checkKey {kt : TypeId} {ik : IntKind} {w : World} {k : Int} {b : Bool} {m : Nat} (h : P.underlying kt = some (.int ik)) : (Instr.checkKey b (m + 1) kt (.int .i64 k)).run P w = .ok () w := by
  simp [Instr.checkKey, run_underlying h]
theorem run_getMap {w : World} {b : Nat} {es : List (Int × Value)} (h : w.heap[b]? = some (mObj es)) : (getObj b).run P w = .ok (.map (mEnt es).toArray es.length) w := by
  simp [getObj, Sem.run, h, mObj]
theorem mLook_run {T e : TypeId} {z : Value} {w : World} {b : Nat} {q : Int} {es : List (Int × Value)} [MapT P T e] [Zer P e z] (hb : w.heap[b]? = some (mObj es)) (ok : Bool) :
    (Instr.lookup T (.map (some b)) (.int .i64 q) ok).run P w = .ok (if ok then .tuple #[(mLook es q).getD z, .bool (mLook es q).isSome] else (mLook es q).getD z) w := by
  obtain ⟨kt, ik, h1, h2⟩ := MapT.h (P := P) (T := T) (e := e)
  simp only [Instr.lookup, Sem.run_bind, run_underlying h1, Result.andThen_ok, run_getMap hb, run_checkKey (m := 9999) h2, Sem.run_pure]
  rw [run_findKey (es := es) h2, ← find_idx]
  simp only [Result.andThen_ok]
  cases hx : (es.findIdx? fun p => p.1 == q) with
  | none => cases ok <;> simp [(Zer.z (P := P) (T := e) : _)]
  | some j =>
    have hj : j < es.length := (List.findIdx?_eq_some_iff_findIdx_eq.1 hx).1
    cases ok <;> simp [List.getElem?_eq_getElem hj]
theorem mEnt_append (es : List (Int × Value)) (p : Int × Value) : mEnt (es ++ [p]) = mEnt es ++ [{ key := .int .i64 p.1, val := p.2, born := es.length }] := by
  simp [mEnt, List.zipIdx_append]
theorem mEnt_set (es : List (Int × Value)) (i : Nat) (k : Int) (v : Value) : (mEnt es).modify i (fun e => { e with key := .int .i64 k, val := v }) = mEnt (es.set i (k, v)) := by
  refine List.ext_getElem? fun j => ?_
  simp only [mEnt, List.getElem?_modify, List.getElem?_map, List.getElem?_zipIdx, List.getElem?_set]
  by_cases h : i = j
  · subst h
    by_cases hl : i < es.length
    · simp [hl]
    · simp [hl]
  · simp [h]
theorem run_setMap {w : World} {b : Nat} {es : List (Int × Value)} (h : w.heap[b]? = some (mObj es)) (o : Obj) : (setObj b o).run P w = .ok () (ChangeMaps.setBlock w b o) := by
  simp [setObj, Sem.run, h, mObj, ChangeMaps.setBlock]
theorem mUpd_run {T e : TypeId} {w : World} {b : Nat} {q : Int} {v : Value} {es : List (Int × Value)} [MapT P T e] (hb : w.heap[b]? = some (mObj es)) :
    (Instr.mapUpdate T (.map (some b)) (.int .i64 q) v).run P w = .ok () (ChangeMaps.setBlock w b (mObj (mSet es q v))) := by
  obtain ⟨kt, ik, h1, h2⟩ := MapT.h (P := P) (T := T) (e := e)
  simp only [Instr.mapUpdate, Sem.run_bind, run_underlying h1, Result.andThen_ok, run_getMap hb, run_checkKey (m := 9999) h2, Sem.run_pure]
  rw [run_findKey (es := es) h2]
  simp only [Result.andThen_ok, mSet]
  cases hx : (es.findIdx? fun p => p.1 == q) with
  | none =>
    simp only [Option.bind_none]
    rw [run_setMap hb, mObj, mEnt_append]
    simp
  | some j =>
    have hj : j < es.length := (List.findIdx?_eq_some_iff_findIdx_eq.1 hx).1
    have hk : es[j].1 = q := by
      have := (List.findIdx?_eq_some_iff_findIdx_eq.1 hx).2
      have h3 := List.findIdx_getElem (xs := es) (p := fun p => p.1 == q) (w := by omega)
      simp only [this] at h3
      simpa using h3
    have hkey : (((mEnt es).toArray[j]?).map (·.key)).getD (.int .i64 q) = .int .i64 q := by
      simp [mEnt, List.getElem?_eq_getElem hj, hk]
    simp only [List.getElem?_eq_getElem hj, Option.bind_some, Option.map_some, Sem.run_bind, hkey, Instr.keyThatStays, Instr.sameBits, beq_self_eq_true, Bool.and_self, if_true, Sem.run_pure, Result.andThen_ok]
    rw [run_setMap hb, mObj, ← mEnt_set]
    simp
end
section
variable {P : Program} {ops : Array Oper} {Q : Exit → Act → World → Prop} {n : Nat} {f : Nat → Value} {rest : List Oper} {ty : TypeId} {ps : String} {af : Array Edge} {d : Tmp}
variable {c0 c : Cx} {L : List Res} {A : Cx → Prop}
theorem s_makeMap {T : TypeId} (hn : Nat.blt d n = true) (H : Owns c0 L c) (HA : Hd A c) [Mono A] (k : ∀ b c', Owns c0 (.obj b (mObj []) :: L) c' → Hd A c' → W P ops Q rest n (upd f d (.map (some b))) c'.w) :
    W P ops Q (⟨some d, .makeMap T none, ty, ps, af, none⟩ :: rest) n f c.w :=
  have h := H.new (mObj []) rfl
  st_val hn (w' := c.w.alloc (mObj [])) (by simp [execOp, Instr.makeMap, mObj, mEnt]) (k c.w.heap.size ⟨c.w.alloc (mObj []), _⟩ h.2 (HA.to h.1))
theorem s_lookT {T e : TypeId} {z : Value} {x y : Operand} {b : Nat} {q : Int} {es : List (Int × Value)} (hn : Nat.blt d n = true) [MapT P T e] [Zer P e z] (hx : opd f x = .map (some b)) (hy : opd f y = .int .i64 q) (H : Owns c0 L c) (hm : Res.obj b (mObj es) ∈ L)
    (k : W P ops Q rest n (upd f d (.tuple #[(mLook es q).getD z, .bool (mLook es q).isSome])) c.w) : W P ops Q (⟨some d, .lookup T x y true, ty, ps, af, none⟩ :: rest) n f c.w :=
  st_val hn (by simp [execOp, hx, hy, mLook_run (H.res _ hm).1]) k
theorem s_lookF {T e : TypeId} {z : Value} {x y : Operand} {b : Nat} {q : Int} {es : List (Int × Value)} (hn : Nat.blt d n = true) [MapT P T e] [Zer P e z] (hx : opd f x = .map (some b)) (hy : opd f y = .int .i64 q) (H : Owns c0 L c) (hm : Res.obj b (mObj es) ∈ L)
    (k : W P ops Q rest n (upd f d ((mLook es q).getD z)) c.w) : W P ops Q (⟨some d, .lookup T x y false, ty, ps, af, none⟩ :: rest) n f c.w :=
  st_val hn (by simp [execOp, hx, hy, mLook_run (H.res _ hm).1]) k
theorem s_mapUpdate {T e : TypeId} {x y z : Operand} {b : Nat} {q : Int} {v : Value} {es : List (Int × Value)} [MapT P T e] (hx : opd f x = .map (some b)) (hy : opd f y = .int .i64 q) (hz : opd f z = v) (H : Owns c0 (.obj b (mObj es) :: L) c) (HA : Hd A c) [Mono A]
    (k : ∀ c', Owns c0 (.obj b (mObj (mSet es q v)) :: L) c' → Hd A c' → W P ops Q rest n f c'.w) : W P ops Q (⟨none, .mapUpdate T x y z, ty, ps, af, none⟩ :: rest) n f c.w := by
  have hb : c.w.heap[b]? = some (mObj es) := (H.res _ (List.mem_cons_self ..)).1
  have hbl : b < c.w.heap.size := (Array.getElem?_eq_some_iff.1 hb).1
  have h2 := H.turn (r' := .obj b (mObj (mSet es q v))) (w' := ChangeMaps.setBlock c.w b (mObj (mSet es q v))) rfl rfl rfl (Nat.le_refl _) (by simp [ChangeMaps.setBlock]) (fun x hx hne => by
    have : b ≠ x := fun e => hne (by subst e; rfl)
    simp [ChangeMaps.setBlock, Array.getElem?_setIfInBounds_ne this]) (by simp [Res.holds, ChangeMaps.setBlock, hbl]) (fun x hx => .inl hx)
  exact st_skip (by simp [execOp, hx, hy, hz, mUpd_run hb]) (k ⟨_, _⟩ h2.2 (HA.to h2.1))
theorem s_lenM {T e : TypeId} {x : Operand} {b : Nat} {es : List (Int × Value)} (hn : Nat.blt d n = true) [MapT P T e] (hx : opd f x = .map (some b)) (H : Owns c0 L c) (hm : Res.obj b (mObj es) ∈ L)
    (k : W P ops Q rest n (upd f d (.int .i64 es.length)) c.w) : W P ops Q (⟨some d, .call ⟨.builtin .len, #[x], #[T]⟩, ty, ps, af, none⟩ :: rest) n f c.w := by
  obtain ⟨kt, ik, h1, h2⟩ := MapT.h (P := P) (T := T) (e := e)
  have hb := run_getMap (P := P) (H.res _ hm).1
  exact st_val hn (by simp [execOp, resolve, invoke, builtin, Builtin.len_, run_underlying h1, hx, hb, goInt, mEnt]) k
/-- A map that will not turn. -/
def MapAt (b : Nat) (es : List (Int × Value)) (c : Cx) : Prop := c.w.heap[b]? = some (mObj es) ∧ ¬ c.M b
instance (b : Nat) (es : List (Int × Value)) : Mono (MapAt b es) := ⟨fun {c c'} h k => by
  have hb := h.blk b (Array.getElem?_eq_some_iff.1 k.1).1 k.2
  exact ⟨hb.1.trans k.1, hb.2⟩⟩
theorem Owns.freezeMap {b : Nat} {es : List (Int × Value)} (H : Owns c0 (.obj b (mObj es) :: L) c) : ∃ c', c'.w = c.w ∧ Le c c' ∧ Owns c0 L c' ∧ MapAt b es c' :=
  ⟨⟨c.w, fun x => c.M x ∧ (Res.obj b (mObj es)).blk ≠ some x⟩, rfl, H.freeze.1, H.freeze.2, (H.res _ (List.mem_cons_self ..)).1, fun h => h.2 rfl⟩
theorem w_freezeMap {l : List Oper} {b : Nat} {es : List (Int × Value)} (H : Owns c0 (.obj b (mObj es) :: L) c) (HA : Hd A c) [Mono A]
    (k : ∀ c', Owns c0 L c' → Hd (fun c => MapAt b es c ∧ A c) c' → W P ops Q l n f c'.w) : W P ops Q l n f c.w := by
  obtain ⟨c', hw, hle, H', hm⟩ := H.freezeMap
  rw [← hw]
  exact k c' H' ((HA.to hle).add hm)
theorem s_lenMF {T e : TypeId} {x : Operand} {b : Nat} {es : List (Int × Value)} (hn : Nat.blt d n = true) [MapT P T e] (hx : opd f x = .map (some b)) (hm : MapAt b es c)
    (k : W P ops Q rest n (upd f d (.int .i64 es.length)) c.w) : W P ops Q (⟨some d, .call ⟨.builtin .len, #[x], #[T]⟩, ty, ps, af, none⟩ :: rest) n f c.w := by
  obtain ⟨kt, ik, h1, h2⟩ := MapT.h (P := P) (T := T) (e := e)
  have hb := run_getMap (P := P) hm.1
  exact st_val hn (by simp [execOp, resolve, invoke, builtin, Builtin.len_, run_underlying h1, hx, hb, goInt, mEnt]) k
/-! ### for k, v := range m -/
def itObj (b n : Nat) (seen : List Nat) : Obj := .mapIter (some b) n seen.toArray n
theorem s_range {T e : TypeId} {x : Operand} {b : Nat} {es : List (Int × Value)} (hn : Nat.blt d n = true) [MapT P T e] (hx : opd f x = .map (some b)) (hm : MapAt b es c) (H : Owns c0 L c) (HA : Hd A c) [Mono A]
    (k : ∀ r c', Owns c0 (.obj r (itObj b es.length []) :: L) c' → Hd A c' → W P ops Q rest n (upd f d (.pointer (some ⟨r, 0, none⟩))) c'.w) : W P ops Q (⟨some d, .range T x, ty, ps, af, none⟩ :: rest) n f c.w := by
  obtain ⟨kt, ik, h1, h2⟩ := MapT.h (P := P) (T := T) (e := e)
  have hb := run_getMap (P := P) hm.1
  have h := H.new (itObj b es.length []) rfl
  exact st_val hn (w' := c.w.alloc (itObj b es.length [])) (by simp [execOp, Instr.range, run_underlying h1, hx, hb, itObj]) (k c.w.heap.size ⟨c.w.alloc (itObj b es.length []), _⟩ h.2 (HA.to h.1))
theorem mem_leftOf {es : List (Int × Value)} {seen : List Nat} {e : MapEntry} : e ∈ (leftOf (mEnt es).toArray seen.toArray).toList ↔ ∃ i p, es[i]? = some p ∧ i ∉ seen ∧ e = { key := .int .i64 p.1, val := p.2, born := i } := by
  simp only [leftOf, Array.toList_filter, List.mem_filter, mEnt, List.mem_map, List.mem_zipIdx_iff_getElem?, Bool.not_eq_true', List.contains_toArray]
  constructor
  · rintro ⟨⟨⟨p, i⟩, h1, rfl⟩, h2⟩
    exact ⟨i, p, h1, by simpa using h2, rfl⟩
  · rintro ⟨i, p, h1, h2, rfl⟩
    exact ⟨⟨(p, i), h1, rfl⟩, by simpa using h2⟩
theorem s_next {x : Operand} {r b : Nat} {es : List (Int × Value)} {seen : List Nat} (hn : Nat.blt d n = true) (hx : opd f x = .pointer (some ⟨r, 0, none⟩)) (hm : MapAt b es c) (H : Owns c0 (.obj r (itObj b es.length seen) :: L) c) (HA : Hd A c) [Mono A]
    (k1 : (∀ i, i < es.length → i ∈ seen) → W P ops Q rest n (upd f d (.tuple #[.bool false])) c.w)
    (k2 : ∀ i p c', es[i]? = some p → i ∉ seen → Owns c0 (.obj r (itObj b es.length (seen ++ [i])) :: L) c' → Hd A c' → W P ops Q rest n (upd f d (.tuple #[.bool true, .int .i64 p.1, p.2])) c'.w) :
    W P ops Q (⟨some d, .next x false, ty, ps, af, none⟩ :: rest) n f c.w := by
  have hr : c.w.heap[r]? = some (itObj b es.length seen) := (H.res _ (List.mem_cons_self ..)).1
  have hrl : r < c.w.heap.size := (Array.getElem?_eq_some_iff.1 hr).1
  have hold : ∀ x ∈ (mEnt es).toArray.toList, x.born < es.length := by
    intro x hx
    simp only [mEnt, List.mem_map, List.mem_zipIdx_iff_getElem?] at hx
    obtain ⟨⟨p, i⟩, h1, rfl⟩ := hx
    exact (List.getElem?_eq_some_iff.1 h1).1
  rcases run_next_at (P := P) c.w ty r b es.length es.length seen.toArray (mEnt es).toArray es.length hr hm.1 hold (Nat.le_refl _) with ⟨h1, h2⟩ | ⟨e, he, w1, hw1, h2⟩
  · refine st_val hn (w' := c.w) (by simp [execOp, hx, h2]) (k1 fun i hi => ?_)
    by_cases hs : i ∈ seen
    · exact hs
    · have hmem := mem_leftOf (es := es) (seen := seen).2 ⟨i, es[i], List.getElem?_eq_getElem hi, hs, rfl⟩
      have : (leftOf (mEnt es).toArray seen.toArray).toList = [] := List.eq_nil_of_length_eq_zero (by simpa using h1)
      rw [this] at hmem
      cases hmem
  · obtain ⟨i, p, h3, h4, rfl⟩ := mem_leftOf.1 he
    have hh : w1.heap = c.w.heap := by rcases hw1 with rfl | rfl <;> rfl
    have h5 := H.turn (r' := .obj r (itObj b es.length (seen ++ [i]))) (w' := ChangeMaps.setBlock w1 r (itObj b es.length (seen ++ [i]))) (by rcases hw1 with rfl | rfl <;> rfl) (by rcases hw1 with rfl | rfl <;> rfl) (by rcases hw1 with rfl | rfl <;> rfl)
      (by rcases hw1 with rfl | rfl <;> first | exact Nat.le_refl _ | exact Nat.le_succ _) (by simp [ChangeMaps.setBlock, hh]) (fun x hx hne => by
      have : r ≠ x := fun e => hne (by subst e; rfl)
      simp [ChangeMaps.setBlock, hh, Array.getElem?_setIfInBounds_ne this]) (by simp [Res.holds, ChangeMaps.setBlock, hh, hrl]) (fun x hx => .inl hx)
    refine st_val hn (w' := ChangeMaps.setBlock w1 r (itObj b es.length (seen ++ [i]))) ?_ (k2 i p ⟨_, _⟩ h3 h4 h5.2 (HA.to h5.1))
    simp [execOp, hx, h2, itObj]
theorem s_entry {x : Operand} {r b i : Nat} {p : Int × Value} {es : List (Int × Value)} {seen : List Nat} (hn : Nat.blt d n = true) (hx : opd f x = .pointer (some ⟨r, 0, none⟩)) (hm : MapAt b es c) (H : Owns c0 L c) (hr : Res.obj r (itObj b es.length (seen ++ [i])) ∈ L) (hp : es[i]? = some p)
    (k : W P ops Q rest n (upd f d (.tuple #[.int .i64 p.1, p.2])) c.w) : W P ops Q (⟨some d, .entry x, ty, ps, af, none⟩ :: rest) n f c.w := by
  have hr' : c.w.heap[r]? = some (.mapIter (some b) es.length (seen.toArray.push i) es.length) := by
    have := (H.res _ hr).1
    simpa [Res.holds, itObj] using this
  have := run_entry_at (P := P) c.w r b es.length seen.toArray (mEnt es).toArray es.length { key := .int .i64 p.1, val := p.2, born := i } hr' hm.1 (by
    simp only [mEnt, List.mem_map, List.mem_zipIdx_iff_getElem?]
    exact ⟨(p, i), hp, rfl⟩) (by
    simp only [mEnt, List.map_map, Function.comp_def]
    have : (es.zipIdx.map fun p => p.2) = List.range es.length := by simp [List.zipIdx_map_snd, List.range_eq_range']
    rw [this]
    exact List.nodup_range)
  exact st_val hn (by simp [execOp, hx, this]) k
end
end Go.Wk
/- Rows that are handed out: whole, new, of nobody else's; how they become the caller's own. -/
namespace Go.Wk
open Go Go.RowKit
/-- These will not turn, and none was there ahead of base. -/
def FrL (base : Nat) (R : List Res) (c : Cx) : Prop := (∀ r ∈ R, r.holds c.w ∧ ∀ b, r.blk = some b → ¬ c.M b ∧ base ≤ b) ∧ R.Pairwise fun r r' => ∀ b, r.blk = some b → r'.blk ≠ some b
instance FrL.mono (base : Nat) (R : List Res) : Mono (FrL base R) := ⟨fun {c c'} h k => ⟨fun r hr => by
  have h1 := k.1 r hr
  refine ⟨Res.kept h1.1 h.size fun b hb => (h.blk b (Res.lt h1.1 hb) (h1.2 b hb).1).1, fun b hb => ⟨(h.blk b (Res.lt h1.1 hb) (h1.2 b hb).1).2, (h1.2 b hb).2⟩⟩, k.2⟩⟩
theorem FrL.base {base base' : Nat} {R : List Res} {c : Cx} (h : FrL base R c) (hb : base' ≤ base) : FrL base' R c := ⟨fun r hr => ⟨(h.1 r hr).1, fun b e => ⟨((h.1 r hr).2 b e).1, Nat.le_trans hb ((h.1 r hr).2 b e).2⟩⟩, h.2⟩
theorem FrL.nil (base : Nat) (c : Cx) : FrL base [] c := ⟨fun _ h => (by cases h), List.Pairwise.nil⟩
theorem FrL.sub {base : Nat} {R R' : List Res} {c : Cx} (h : FrL base R c) (hs : R'.Sublist R) : FrL base R' c := ⟨fun r hr => h.1 r (hs.subset hr), h.2.sublist hs⟩
theorem FrL.perm {base : Nat} {R R' : List Res} {c : Cx} (h : FrL base R c) (hs : R.Perm R') : FrL base R' c := ⟨fun r hr => h.1 r (hs.mem_iff.2 hr), (hs.pairwise_iff (fun {x y} hxy b hb hb' => hxy b hb' hb)).1 h.2⟩
theorem FrL.lt {base : Nat} {R : List Res} {c : Cx} (h : FrL base R c) : ∀ r ∈ R, ∀ b, r.blk = some b → b < c.w.heap.size := fun r hr _ hb => Res.lt (h.1 r hr).1 hb
theorem FrL.append {base base' : Nat} {R R' : List Res} {c : Cx} (h : FrL base R c) (h' : FrL base' R' c) (hlt : ∀ r ∈ R, ∀ b, r.blk = some b → b < base') (hb : base ≤ base') : FrL base (R ++ R') c := by
  refine ⟨fun r hr => ?_, List.pairwise_append.2 ⟨h.2, h'.2, fun r hr r' hr' b e e' => ?_⟩⟩
  · rcases List.mem_append.1 hr with hr | hr
    · exact h.1 r hr
    · exact (h'.base hb).1 r hr
  · have h1 := hlt r hr b e
    have h2 := ((h'.1 r' hr').2 b e').2
    omega
/-- The first of a row, as a row. -/
theorem FrL.prefix {base : Nat} {R : List Res} {c : Cx} {v p : Value} {e : TypeId} {kk m hi : Nat} {cells : List Value} (h : FrL base (.row v e kk m cells :: R) c) (hp : RSl v kk 0 hi p) (hm : hi ≤ m) : FrL base (.row p e kk hi (cells.take (hi * kk)) :: R) c := by
  have hr := h.1 _ (List.mem_cons_self ..)
  have key : (Res.row p e kk hi (cells.take (hi * kk))).holds c.w ∧ ∀ b, (Res.row p e kk hi (cells.take (hi * kk))).blk = some b → (Res.row v e kk m cells).blk = some b := by
    obtain ⟨⟨hl, hv⟩, _⟩ := hr
    obtain ⟨ad, m', cap, rfl, rfl⟩ := hp
    have hmul : hi * kk ≤ m * kk := Nat.mul_le_mul_right _ hm
    rcases hv with ⟨hv, h0⟩ | ⟨g, cap', cur, hv, hg, hh, hnc, hmx, hsz, htk⟩
    · simp only [Value.slice.injEq] at hv
      obtain ⟨rfl, rfl, rfl⟩ := hv
      have : hi = 0 := by omega
      subst this
      exact ⟨⟨by simp, .inl ⟨by simp, rfl⟩⟩, fun b hb => by simp [Res.blk, Value.ownBlock] at hb⟩
    · simp only [Value.slice.injEq] at hv
      obtain ⟨rfl, rfl, rfl⟩ := hv
      have e1 : (if cap = 0 then (some ⟨g, 0, none⟩ : Option Addr) else (some ⟨g, 0, none⟩ : Option Addr).map (·.add (0 * kk))) = some ⟨g, 0, none⟩ := by
        split
        · rfl
        · simp [Addr.add_lit]
      rw [e1]
      refine ⟨⟨by rw [List.length_take, hl]; omega, .inr ⟨g, cap, cur, by simp, hg, hh, by omega, hmx, hsz, ?_⟩⟩, fun b hb => by simpa [Res.blk, Value.ownBlock] using hb⟩
      rw [← htk, List.take_take, Nat.min_eq_left hmul]
  refine ⟨fun r hr' => ?_, List.pairwise_cons.2 ⟨fun r hr' b e' => (List.pairwise_cons.1 h.2).1 r hr' b (key.2 b e'), (List.pairwise_cons.1 h.2).2⟩⟩
  rcases List.mem_cons.1 hr' with rfl | hr'
  · exact ⟨key.1, fun b e' => hr.2 b (key.2 b e')⟩
  · exact h.1 r (List.mem_cons_of_mem _ hr')
/-- One of the call's own joins them. -/
theorem Owns.freezeF {c0 c : Cx} {r : Res} {L R : List Res} {base : Nat} (H : Owns c0 (r :: L) c) (hF : FrL base R c) (hb : base ≤ c0.w.heap.size) :
    Le c ⟨c.w, fun x => c.M x ∧ r.blk ≠ some x⟩ ∧ Owns c0 L ⟨c.w, fun x => c.M x ∧ r.blk ≠ some x⟩ ∧ FrL base (r :: R) ⟨c.w, fun x => c.M x ∧ r.blk ≠ some x⟩ := by
  have h := H.freeze
  have hr := H.res r (List.mem_cons_self ..)
  refine ⟨h.1, h.2, fun s hs => ?_, List.pairwise_cons.2 ⟨fun s hs b e e' => ?_, hF.2⟩⟩
  · rcases List.mem_cons.1 hs with rfl | hs
    · exact ⟨hr.1, fun b e => ⟨fun hm => hm.2 e, Nat.le_trans hb (hr.2 b e).2⟩⟩
    · exact ⟨(hF.1 s hs).1, fun b e => ⟨fun hm => ((hF.1 s hs).2 b e).1 hm.1, ((hF.1 s hs).2 b e).2⟩⟩
  · exact ((hF.1 s hs).2 b e').1 (hr.2 b e).1
/-- They become the call's own; what was known ahead of them stays. -/
theorem Owns.thaw {c0 c1 c : Cx} {L R : List Res} {base : Nat} (H : Owns c0 L c) (hF : FrL base R c) (hle : Le c1 c) (h0 : c0.w.heap.size ≤ base) (h1 : c1.w.heap.size ≤ base) :
    Owns c0 (R ++ L) ⟨c.w, fun x => c.M x ∨ ∃ r ∈ R, r.blk = some x⟩ ∧ Le c1 ⟨c.w, fun x => c.M x ∨ ∃ r ∈ R, r.blk = some x⟩ := by
  refine ⟨⟨H.ext, fun b hb hm => .inl (H.keep b hb hm), fun b hb => ?_, fun r hr => ?_, List.pairwise_append.2 ⟨hF.2, H.dis, fun r hr r' hr' b e e' => ?_⟩⟩, ⟨hle.os, hle.tape, hle.output, hle.drawn, hle.size, fun b hb hm => ⟨(hle.blk b hb hm).1, ?_⟩⟩⟩
  · rcases hb with hb | ⟨r, hr, e⟩
    · exact H.mbd b hb
    · exact Res.lt (hF.1 r hr).1 e
  · rcases List.mem_append.1 hr with hr | hr
    · exact ⟨(hF.1 r hr).1, fun b e => ⟨.inr ⟨r, hr, e⟩, Nat.le_trans h0 ((hF.1 r hr).2 b e).2⟩⟩
    · exact ⟨(H.res r hr).1, fun b e => ⟨.inl ((H.res r hr).2 b e).1, ((H.res r hr).2 b e).2⟩⟩
  · exact ((hF.1 r hr).2 b e).1 ((H.res r' hr').2 b e').1
  · rintro (h | ⟨r, hr, e⟩)
    · exact (hle.blk b hb hm).2 h
    · have := ((hF.1 r hr).2 b e).2
      omega
/-- A slice that reads as a list, its cells told. -/
def SlV {α : Type} [Enc α] (ys : List α) (vals : List (List Value)) (v : Value) (c : Cx) : Prop :=
  Vals vals ys c ∧ ∃ ad cap, v = .slice ad ys.length cap ∧ ys.length ≤ cap ∧ (ys ≠ [] → ∃ b o, ad = some ⟨b, o, none⟩ ∧ ∀ j u, vals.flatten[j]? = some u → At ⟨b, o + j, none⟩ u c)
instance SlV.mono {α : Type} [Enc α] (ys : List α) (vals : List (List Value)) (v : Value) : Mono (SlV ys vals v) :=
  ⟨fun h ⟨h0, ad, cap, h1, h2, h3⟩ => ⟨Mono.mono h h0, ad, cap, h1, h2, fun hne => let ⟨b, o, e, h4⟩ := h3 hne; ⟨b, o, e, fun j u hj => Mono.mono h (h4 j u hj)⟩⟩⟩
theorem SlV.of {α : Type} [Enc α] {v : Value} {ys : List α} {c : Cx} (h : Sl v ys c) : ∃ vals, SlV ys vals v c := by
  obtain ⟨vals, ad, cap, h1, h2, h3, h4⟩ := h.vals
  exact ⟨vals, h1, ad, cap, h2, h3, h4⟩
/-! ### contracts of functions that turn what they are lent, for callers who begin behind base -/
def CnTF (base : Nat) (P : Program) (g : FuncId) (args : List Value) (pre post : List Res) (c : Cx) (Post : Value → Cx → Prop) : Prop :=
  ∀ (c0 : Cx) (L : List Res) (A : Cx → Prop) [Mono A], base ≤ c0.w.heap.size → Owns c0 (pre ++ L) c → Hd A c → Calls P g args.toArray c.w (CnTR c0 post L A Post)
section
variable {P : Program} {g : FuncId} {fn : Func} {x : Code} {args : List Value} {c : Cx}
theorem CnTF.of {base : Nat} {pre post : List Res} {Post : Value → Cx → Prop} {n : Nat} (hf : P.funcs[g]? = some fn) (hn : fn.ntmps = n) (hb : fn.body = some x) (hl : Nat.ble args.length n = true)
    (h : ∀ (c0 : Cx) (L : List Res) (A : Cx → Prop) [Mono A], base ≤ c0.w.heap.size → Owns c0 (pre ++ L) c → Hd A c → WC P x (bodyPost P fn (CnTR c0 post L A Post)) n (frame0 args) c.w) : CnTF base P g args pre post c Post :=
  fun c0 L A _ hb0 H HA => calls_of_wp hf hb (by subst hn; exact (h c0 L A hb0 H HA).go _ (frIs0 (Nat.le_of_ble_eq_true hl)))
theorem CnTF.t0 {pre post : List Res} {Post Post' : Value → Cx → Prop} (h : CnTF 0 P g args pre post c Post) (hp : ∀ v c, Post v c → Post' v c) : CnT P g args pre post c Post' :=
  CnT.imp (fun c0 L A _ H HA => h c0 L A (Nat.zero_le _) H HA) hp
end
section
variable {P : Program} {ops : Array Oper} {Q : Exit → Act → World → Prop} {n : Nat} {f : Nat → Value} {l : List Oper}
variable {c0 c : Cx} {L R : List Res} {A : Cx → Prop} {base : Nat}
theorem freezeRowF {α : Type} [Enc α] {e : TypeId} {kk m : Nat} {v : Value} {vals : List (List Value)} {xs : List α} (H : Owns c0 (.row v e kk m vals.flatten :: L) c) (HA : Hd A c) [Mono A] (hF : FrL base R c) (hb : base ≤ c0.w.heap.size) (hv : Vals vals xs c) (hm : m = xs.length) (hk : Enc.k α = kk) (hlim : m < LIM) :
    ∃ c' : Cx, c'.w = c.w ∧ Owns c0 L c' ∧ Hd (fun c => Sl v xs c ∧ FrL base (.row v e kk m vals.flatten :: R) c ∧ A c) c' := by
  have h := H.freezeRow hv hm hk hlim
  have h2 := H.freezeF hF hb
  exact ⟨⟨c.w, fun x => c.M x ∧ (Res.row v e kk m vals.flatten).blk ≠ some x⟩, rfl, h.2.1, ⟨⟨h.2.2, h2.2.2, Mono.mono h.1 HA.h⟩⟩⟩
theorem w_freezeF {α : Type} [Enc α] {e : TypeId} {kk m : Nat} {v : Value} {vals : List (List Value)} {xs : List α} (H : Owns c0 (.row v e kk m vals.flatten :: L) c) (HA : Hd A c) [Mono A] (hF : FrL base R c) (hb : base ≤ c0.w.heap.size) (hv : Vals vals xs c) (hm : m = xs.length) (hk : Enc.k α = kk) (hlim : m < LIM)
    (k : ∀ c', Owns c0 L c' → Hd (fun c => Sl v xs c ∧ FrL base (.row v e kk m vals.flatten :: R) c ∧ A c) c' → W P ops Q l n f c'.w) : W P ops Q l n f c.w := by
  obtain ⟨c', e, h1, h2⟩ := freezeRowF H HA hF hb hv hm hk hlim
  rw [← e]
  exact k c' h1 h2
theorem wc_freezeF {α : Type} [Enc α] {x : Code} {e : TypeId} {kk m : Nat} {v : Value} {vals : List (List Value)} {xs : List α} (H : Owns c0 (.row v e kk m vals.flatten :: L) c) (HA : Hd A c) [Mono A] (hF : FrL base R c) (hb : base ≤ c0.w.heap.size) (hv : Vals vals xs c) (hm : m = xs.length) (hk : Enc.k α = kk) (hlim : m < LIM)
    (k : ∀ c', Owns c0 L c' → Hd (fun c => Sl v xs c ∧ FrL base (.row v e kk m vals.flatten :: R) c ∧ A c) c' → WC P x Q n f c'.w) : WC P x Q n f c.w := by
  obtain ⟨c', e, h1, h2⟩ := freezeRowF H HA hF hb hv hm hk hlim
  rw [← e]
  exact k c' h1 h2
theorem wx_freezeF {α : Type} [Enc α] {x : Exit} {e : TypeId} {kk m : Nat} {v : Value} {vals : List (List Value)} {xs : List α} (H : Owns c0 (.row v e kk m vals.flatten :: L) c) (HA : Hd A c) [Mono A] (hF : FrL base R c) (hb : base ≤ c0.w.heap.size) (hv : Vals vals xs c) (hm : m = xs.length) (hk : Enc.k α = kk) (hlim : m < LIM)
    (k : ∀ c', Owns c0 L c' → Hd (fun c => Sl v xs c ∧ FrL base (.row v e kk m vals.flatten :: R) c ∧ A c) c' → WX Q x n f c'.w) : WX Q x n f c.w := by
  obtain ⟨c', e, h1, h2⟩ := freezeRowF H HA hF hb hv hm hk hlim
  rw [← e]
  exact k c' h1 h2
/-- What lasts since then. -/
def Since (c1 : Cx) (c : Cx) : Prop := Le c1 c
instance (c1 : Cx) : Mono (Since c1) := ⟨fun h k => Le.trans k h⟩
theorem w_thaw {c1 : Cx} {A1 : Cx → Prop} (H : Owns c0 L c) (hF : FrL base R c) (hle : Since c1 c) (h0 : c0.w.heap.size ≤ base) (h1 : c1.w.heap.size ≤ base) (HA1 : Hd A1 c1) [Mono A1] (k : ∀ c', Owns c0 (R ++ L) c' → Hd A1 c' → W P ops Q l n f c'.w) : W P ops Q l n f c.w :=
  have h := H.thaw hF hle h0 h1
  k ⟨c.w, fun x => c.M x ∨ ∃ r ∈ R, r.blk = some x⟩ h.1 (HA1.to h.2)
theorem s_callTF {as : Array Operand} {aT : Array TypeId} {g : FuncId} {vs : List Value} {pre post : List Res} {Post : Value → Cx → Prop} {rest : List Oper} {ty : TypeId} {ps : String} {af : Array Edge} {d : Tmp} (hn : Nat.blt d n = true) [Ent P g] (hargs : as.toList.map (opd f) = vs) (H : Owns c0 (pre ++ L) c) (HA : Hd A c) [Mono A] (hb : base ≤ c0.w.heap.size) (hc : CnTF base P g vs pre post c Post)
    (k : ∀ v c', Owns c0 (post ++ L) c' → Hd (fun c => Post v c ∧ A c) c' → W P ops Q rest n (upd f d v) c'.w) : W P ops Q (⟨some d, .call ⟨.value (.func g), as, aT⟩, ty, ps, af, none⟩ :: rest) n f c.w :=
  st_enter hn (g := g) (args := vs.toArray) (by subst hargs; simp [execOp, resolve, Deferred.ofValue, opd, invoke, Ent.h, ← Array.toList_map]) (hc c0 L A hb H HA)
    fun v w' ⟨c', hw, H', HA'⟩ => by subst hw; exact k v c' H' HA'
end
section
variable {P : Program} {ops : Array Oper} {Q : Exit → Act → World → Prop} {n : Nat} {f : Nat → Value} {rest : List Oper} {ty : TypeId} {ps : String} {af : Array Edge} {d : Tmp}
variable {c0 c : Cx} {L : List Res} {A : Cx → Prop}
theorem s_appV {α : Type} {iE : Enc α} {T e : TypeId} {z : Value} {kk bb m : Nat} {x y : Operand} {v v2 : Value} {ys : List α} {vals : List (List Value)} {cur : List Value} (hn : Nat.blt d n = true) [SlT P T e] [TyI P e z kk bb] (hx : opd f x = v) (hy : opd f y = v2)
    (HS : SlV ys vals v2 c) (hk : Enc.k α = kk) (hz : z.cells.size = kk) (hbb : Nat.ble bb 128 = true) (hlim : m + ys.length < LIM)
    (H : Owns c0 (.row v e kk m cur :: L) c) (HA : Hd A c) (hMA : Mono A) (k : ∀ v' c', Owns c0 (.row v' e kk (m + ys.length) (cur ++ vals.flatten) :: L) c' → Hd A c' → W P ops Q rest n (upd f d v') c'.w) :
    W P ops Q (⟨some d, .call ⟨.builtin .append, #[x, y], #[T, T]⟩, ty, ps, af, none⟩ :: rest) n f c.w := by
  have hown := (H.res _ (List.mem_cons_self ..)).1
  obtain ⟨hvals, ad, cap, hv2, hcap, hcell⟩ := HS
  have hlen := flatten_len _ hvals.len
  obtain ⟨v', w', hr, ho, hg, hb⟩ := run_append_own2 (P := P) (T := T) (x := v2) (m2 := ys.length) (news := vals.flatten) hz (by rw [← hk]; exact Enc.pos) (Nat.le_of_ble_eq_true hbb) hown (by
    by_cases hne : ys = []
    · subst hne
      have hvn : vals = [] := List.eq_nil_of_length_eq_zero hvals.1
      subst hvn
      cases ad with
      | none => exact .inr ⟨cap, hv2, rfl, rfl⟩
      | some a => exact .inl ⟨a, cap, hv2, fun j u hu => by simp at hu⟩
    · obtain ⟨b, o, ha, hc⟩ := hcell hne
      subst ha
      exact .inl ⟨_, cap, hv2, fun j u hu => by rw [Addr.add_lit]; exact (hc j u hu).1⟩) (by rw [hlen, hvals.1, hk]) hvals.one hlim ty
  obtain ⟨M', hle, hO⟩ := H.appended (run_ok_drawn hr) ho hg hb
  refine st_val hn (w' := w') ?_ (k v' ⟨w', M'⟩ (by simpa using hO) (HA.to hle))
  simp [execOp, resolve, invoke, builtin, hx, hy, hr]
/-- []T{x}, its cells told. -/
theorem s_bs1V {α : Type} {iE : Enc α} {T e : TypeId} {z : Value} {kk bb : Nat} {x : Operand} {cs : List Value} {u : α} (hn : Nat.blt d n = true) [SlT P T e] [TyI P e z kk bb] (hx : (opd f x).cells = cs.toArray) (hu : Enc.Ok cs u c) (hk : Enc.k α = kk) (hz : z.cells.size = kk) (hkb : Nat.ble kk 64 = true)
    (H : Owns c0 L c) (HA : Hd A c) (hMA : Mono A) (k : ∀ v c', Owns c0 L c' → Hd (fun c => SlV [u] [cs] v c ∧ A c) c' → W P ops Q rest n (upd f d v) c'.w) : W P ops Q (⟨some d, .buildSlice T 1 #[(0, x)], ty, ps, af, none⟩ :: rest) n f c.w :=
  s_bs1 hn hx ((Enc.len cs u c hu).trans hk) hz (by rw [Nat.blt_eq, ← hk]; exact Enc.pos) hkb H (HA.add (show (fun c => Enc.Ok cs u c) c from hu)) fun b c' H HA => k _ c' H ⟨⟨⟨rfl, fun i cs' x' h1 h2 => by
    cases i with
    | zero =>
      simp at h1 h2
      subst h1 h2
      exact HA.h.2.1
    | succ i => simp at h2⟩, some ⟨b, 0, none⟩, 1, rfl, Nat.le_refl _, fun _ => ⟨b, 0, rfl, fun j w hj => HA.h.1.at_ (by simpa using hj)⟩⟩, HA.h.2.2⟩
end
end Go.Wk
/- The short rules: each step of a walk with its side goals closed by themselves. Printed by gen_q.py. -/
namespace Go.Wk
open Go Go.RowKit
set_option linter.unusedVariables false
/-- A goal at which a walk stands. -/
structure Stuck (p : Prop) : Prop where
  h : p
theorem Lk {p : Prop} (h : p := by (focus (have h := HA.h; (repeat (first | exact h.1 | exact h | replace h := h.2)); done))) : p := h
theorem Wh {p : Prop} (h : p := by (conv => lhs; whnf)) : p := h
theorem Cu {p : Prop} (h : p := by first | exact HA | exact HA.cut | exact HA.cut.cut | exact HA.cut.cut.cut | exact HA.cut.cut.cut.cut | exact HA.cut.cut.cut.cut.cut | exact HA.cut.cut.cut.cut.cut.cut | (repeat (first | exact HA | replace HA := HA.cut))) : p := h
theorem Cp {p : Prop} (h : p := by first | exact HP | exact HP.cut | exact HP.cut.cut | exact HP.cut.cut.cut | exact HP.cut.cut.cut.cut | exact HP.cut.cut.cut.cut.cut | exact HP.cut.cut.cut.cut.cut.cut | (repeat (first | exact HP | replace HP := HP.cut))) : p := h
theorem Ca {p : Prop} (h : p := by repeat (first | exact HA | replace HA := HA.cut)) : p := h
theorem Ks {p : Prop} (h : p := by (repeat (refine ks_cons ?_ ?_; focus exact rfl)); exact ks_nil) : p := h
theorem Ow {p : Prop} (h : p := by repeat (first | exact List.Mem.head _ | apply List.Mem.tail | apply List.mem_append_right)) : p := h
theorem Rc {p : Prop} (h : p := by repeat constructor) : p := h
theorem Lt {p : Prop} (h : p := by first | omega | (simp only [LIM]; omega) | (simp only [List.length_append, List.length_cons, List.length_nil]; omega) | (simp only [List.length_append, List.length_cons, List.length_nil, LIM]; omega)) : p := h
section
variable {P : Program} {ops : Array Oper} {Q : Exit → Act → World → Prop} {n : Nat} {f : Nat → Value} {rest : List Oper} {ty : TypeId} {ps : String} {af : Array Edge} {d : Tmp} {w : World}
variable {c0 c : Cx} {L : List Res} {A : Cx → Prop}
variable {T T' : TypeId} {x y : Operand} {kd : IntKind} {a b : Int} {s t : ByteArray}
theorem Dx (h : WX Q .normal n f w := by first | (apply pq_val; exact H; (first | exact HA | exact HA.cut | exact HA.cut.cut | exact HA.cut.cut.cut | exact HA.cut.cut.cut.cut | exact HA.cut.cut.cut.cut.cut | exact HA.cut.cut.cut.cut.cut.cut | (focus ((repeat (first | exact HA | replace HA := HA.cut)); done)))) | (apply pq_own; exact H; (first | exact HA | exact HA.cut | exact HA.cut.cut | exact HA.cut.cut.cut | exact HA.cut.cut.cut.cut | exact HA.cut.cut.cut.cut.cut | exact HA.cut.cut.cut.cut.cut.cut | (focus ((repeat (first | exact HA | replace HA := HA.cut)); done)))) | (apply pq_pt; exact H; (first | exact HA | exact HA.cut | exact HA.cut.cut | exact HA.cut.cut.cut | exact HA.cut.cut.cut.cut | exact HA.cut.cut.cut.cut.cut | exact HA.cut.cut.cut.cut.cut.cut | (focus ((repeat (first | exact HA | replace HA := HA.cut)); done))); (focus (have h := HA.h; (repeat (first | exact h.1 | exact h | replace h := h.2)); done))) | (apply pq_ag; exact H; (first | exact HA | exact HA.cut | exact HA.cut.cut | exact HA.cut.cut.cut | exact HA.cut.cut.cut.cut | exact HA.cut.cut.cut.cut.cut | exact HA.cut.cut.cut.cut.cut.cut | (focus ((repeat (first | exact HA | replace HA := HA.cut)); done))); (focus (have h := HA.h; (repeat (first | exact h.1 | exact h | replace h := h.2)); done))) | (apply pq_sf; exact H; (first | exact HA | exact HA.cut | exact HA.cut.cut | exact HA.cut.cut.cut | exact HA.cut.cut.cut.cut | exact HA.cut.cut.cut.cut.cut | exact HA.cut.cut.cut.cut.cut.cut | (focus ((repeat (first | exact HA | replace HA := HA.cut)); done))); (focus (have h := HA.h; (repeat (first | exact h.1 | exact h | replace h := h.2)); done)); (focus (have h := HA.h; (repeat (first | exact h.1 | exact h | replace h := h.2)); done))) | (apply pq_sl; exact H; (first | exact HA | exact HA.cut | exact HA.cut.cut | exact HA.cut.cut.cut | exact HA.cut.cut.cut.cut | exact HA.cut.cut.cut.cut.cut | exact HA.cut.cut.cut.cut.cut.cut | (focus ((repeat (first | exact HA | replace HA := HA.cut)); done))); (focus (have h := HA.h; (repeat (first | exact h.1 | exact h | replace h := h.2)); done))) | (apply pq_sb; exact H; (first | exact HA | exact HA.cut | exact HA.cut.cut | exact HA.cut.cut.cut | exact HA.cut.cut.cut.cut | exact HA.cut.cut.cut.cut.cut | exact HA.cut.cut.cut.cut.cut.cut | (focus ((repeat (first | exact HA | replace HA := HA.cut)); done))); (focus (have h := HA.h; (repeat (first | exact h.1 | exact h | replace h := h.2)); done))) | (apply pq_pb; exact H; (first | exact HA | exact HA.cut | exact HA.cut.cut | exact HA.cut.cut.cut | exact HA.cut.cut.cut.cut | exact HA.cut.cut.cut.cut.cut | exact HA.cut.cut.cut.cut.cut.cut | (focus ((repeat (first | exact HA | replace HA := HA.cut)); done))); (focus (have h := HA.h; (repeat (first | exact h.1 | exact h | replace h := h.2)); done)))) : W P ops Q [] n f w := w_nil h
theorem Dc {id : Nat} {l : List (Nat × Sp)} {ds : List Nat} {os : List Oper} {op : Op} {gd : Option (Nat × Bool)} {n0 : Nat → Value} {sp : Sp} (k : DW P id ops Q n n0 c0 L A w ((d, sp) :: l) (d :: ds) os) (hp : PreR P ops n n0 c0 L A l ⟨some d, op, ty, ps, af, gd⟩ d sp := by (intro B _ Lx c H HA; (repeat (first | (intro vx hx; have hx2 : vx = _ := hx; clear hx; subst hx2) | (intro vx hx; have HA := HA.addSF hx; clear hx) | (intro vx hx; have HA := HA.add hx; clear hx) | intro vx)); change W _ _ _ _ _ _ _); first | ((apply s_no; exact rfl; exact rfl; exact rfl); exact Dx) | ((apply s_noU; exact rfl; exact rfl; exact rfl); exact Dx) | ((try (apply s_go; exact rfl; exact rfl; exact rfl)); (first | (apply s_move; exact rfl; (conv => lhs; whnf)) | (apply s_loadP; exact rfl; exact rfl; (focus (have h := HA.h; (repeat (first | exact h.1 | exact h | replace h := h.2)); done)); exact rfl) | (apply s_assign; exact rfl; (conv => lhs; whnf)) | (apply s_fieldAddr; exact rfl; exact rfl) | (apply s_loadA; exact rfl; exact rfl; (focus (have h := HA.h; (repeat (first | exact h.1 | exact h | replace h := h.2)); done)); (focus (repeat constructor))) | (apply s_pickT; exact rfl; exact rfl; (conv => lhs; whnf)) | (apply s_pickF; exact rfl; exact rfl; (conv => lhs; whnf)) | (apply is_box; refine s_boxA rfl rfl H HA ?_; intro bx c H HA) | (apply s_extract; exact rfl; exact rfl; exact rfl) | (apply s_not; exact rfl; exact rfl) | (apply s_ixP; exact rfl; exact rfl; exact rfl; (focus (have h := HA.h; (repeat (first | exact h.1 | exact h | replace h := h.2)); done)); exact rfl; exact rfl; assumption; (intro vx hx; have HA := HA.add hx; clear hx)) | (apply s_fldP; exact rfl; exact rfl; (focus (have h := HA.h; (repeat (first | exact h.1 | exact h | replace h := h.2)); done)); exact inferInstance; (intro vx hx; have HA := HA.add hx; clear hx)) | (apply s_ldV; exact rfl; exact rfl; (focus (have h := HA.h; (repeat (first | exact h.1 | exact h | replace h := h.2)); done)); exact inferInstance) | (apply s_ldS; exact rfl; exact rfl; (focus (have h := HA.h; (repeat (first | exact h.1 | exact h | replace h := h.2)); done)); exact inferInstance; (intro vx hx; have HA := HA.add hx; clear hx)) | (apply s_ldD; exact rfl; exact rfl; (focus (have h := HA.h; (repeat (first | exact h.1 | exact h | replace h := h.2)); done)); exact rfl; exact inferInstance) | (apply s_ldG; exact rfl; exact rfl; (focus (have h := HA.h; (repeat (first | exact h.1 | exact h | replace h := h.2)); done)); exact rfl; (intro vx hx; have HA := HA.add hx; clear hx)) | (apply is_box; refine s_boxG rfl rfl (by have h := HA.h; (repeat (first | exact h.1 | exact h | replace h := h.2)); done) H HA ?_; intro vx c H HA) | (apply s_loadOP; exact rfl; exact rfl; exact H; (focus (repeat (first | exact List.Mem.head _ | apply List.Mem.tail | apply List.mem_append_right))); exact rfl) | (apply s_loadOA; exact rfl; exact rfl; exact H; (focus (repeat (first | exact List.Mem.head _ | apply List.Mem.tail | apply List.mem_append_right))); (focus (repeat constructor))) | (apply s_lenS; exact rfl; exact rfl; exact rfl) | (apply s_lenL; exact rfl; exact rfl) | (apply s_lenSl; exact rfl; exact rfl; (focus (have h := HA.h; (repeat (first | exact h.1 | exact h | replace h := h.2)); done))) | (apply s_add; exact rfl; exact rfl; exact rfl; exact wrapK (by omega)) | (apply s_add; exact rfl; exact rfl; exact rfl; exact wrapK2 (by omega)) | (apply s_add; exact rfl; exact rfl; exact rfl; exact wrapI (by omega) (by omega)) | (apply s_sub; exact rfl; exact rfl; exact rfl; exact wrapP (by omega) (by omega)) | (apply s_sub; exact rfl; exact rfl; exact rfl; exact wrapI (by omega) (by omega)) | (apply s_conv; exact rfl; exact rfl; exact byteWrap _) | (apply s_indexS; exact rfl; exact rfl; exact rfl; assumption) | (apply s_indexS (i := 0); exact rfl; exact rfl; exact rfl; assumption) | (apply s_build; exact rfl; (focus ((repeat (first | exact bld_nil | (apply bld_cons; (conv => lhs; whnf)))); done)); (focus ((repeat' (first | exact Fil.nil | apply Fil.take | apply Fil.skip | exact App.nil | apply App.cons | (have h := HA.h; (repeat (first | exact Cells.sl h.1 | exact Cells.sl h | replace h := h.2)); done) | exact Cells.lit rfl | exact rfl)); done))) | (apply s_bs1G; exact rfl; exact rfl; (focus (have h := HA.h; (repeat (first | exact h.1 | exact h | replace h := h.2)); done)); exact rfl; exact rfl; exact rfl; exact rfl; exact H; exact HA; exact inferInstance; intro vx c H HA) | (apply s_bs1D; exact rfl; exact rfl; exact rfl; exact rfl; exact rfl; exact rfl; exact H; exact HA; exact inferInstance; intro vx c H HA) | (apply is_bs; refine s_bs1 rfl rfl rfl rfl rfl rfl H HA ?_; intro bx c H HA) | (apply s_appF; exact rfl; exact rfl; exact rfl; (focus (have h := HA.h; (repeat (first | exact h.1 | exact h | replace h := h.2)); done)); (focus (have h := HA.h; (repeat (first | exact h.1 | exact h | replace h := h.2)); done)); (focus (have h := HA.h; (repeat (first | exact h.1 | exact h | replace h := h.2)); done)); exact rfl; exact rfl; exact (by first | omega | (simp only [LIM]; omega) | (simp only [List.length_append, List.length_cons, List.length_nil]; omega) | (simp only [List.length_append, List.length_cons, List.length_nil, LIM]; omega)); exact H; exact HA; exact inferInstance; intro vx c H HA) | (apply s_appR; exact rfl; exact rfl; exact rfl; exact H; (focus (have h := HA.h; (repeat (first | exact h.1 | exact h | replace h := h.2)); done)); (focus (have h := HA.h; (repeat (first | exact h.1 | exact h | replace h := h.2)); done)); exact rfl; exact rfl; exact rfl; exact (by first | omega | (simp only [LIM]; omega) | (simp only [List.length_append, List.length_cons, List.length_nil]; omega) | (simp only [List.length_append, List.length_cons, List.length_nil, LIM]; omega)); exact HA; exact inferInstance; intro vx c valsx H HA) | (apply s_bslG; exact rfl; exact rfl; exact rfl; (focus (repeat (first | exact EQs.nil | (apply EQs.consA; (focus (have h := HA.h; (repeat (first | exact h.1 | exact h | replace h := h.2)); done))) | (apply EQs.consD; exact rfl)))); exact rfl; exact rfl; exact rfl; exact rfl; exact rfl; exact H; exact HA; exact inferInstance; intro vx c H HA) | (apply is_alloc; refine s_alloc rfl (by conv => lhs; whnf) H HA ?_; intro bx c H HA) | (apply s_lenR; exact rfl; exact rfl; exact H; (focus ((repeat (first | exact List.Mem.head _ | apply List.Mem.tail | apply List.mem_append_right)); done))) | (apply s_ixR; exact rfl; exact rfl; exact rfl; exact H; (focus ((repeat (first | exact List.Mem.head _ | apply List.Mem.tail | apply List.mem_append_right)); done)); exact rfl; omega; (intro rp hrp)) | (apply s_ldRV; exact rfl; exact rfl; assumption; exact H; (focus ((repeat (first | exact List.Mem.head _ | apply List.Mem.tail | apply List.mem_append_right)); done)); (focus (have h := HA.h; (repeat (first | exact h.1 | exact h | replace h := h.2)); done)); assumption; exact inferInstance) | (refine s_makeMap rfl H HA ?_; intro mx c H HA) | (apply s_lookT; exact rfl; exact rfl; exact rfl; exact H; (focus ((repeat (first | exact List.Mem.head _ | apply List.Mem.tail | apply List.mem_append_right)); done))) | (apply s_lookF; exact rfl; exact rfl; exact rfl; exact H; (focus ((repeat (first | exact List.Mem.head _ | apply List.Mem.tail | apply List.mem_append_right)); done))) | (refine s_mapUpdate rfl rfl (by conv => lhs; whnf) H HA ?_; intro c H HA) | (refine s_mapUpdate rfl rfl (by conv => lhs; whnf) H.swap HA ?_; intro c H HA) | (refine s_mapUpdate rfl rfl (by conv => lhs; whnf) H.swap2 HA ?_; intro c H HA) | (apply s_lenMF; exact rfl; exact rfl; (focus (have h := HA.h; (repeat (first | exact h.1 | exact h | replace h := h.2)); done))) | (apply s_lenM; exact rfl; exact rfl; exact H; (focus ((repeat (first | exact List.Mem.head _ | apply List.Mem.tail | apply List.mem_append_right)); done))) | (refine s_range rfl rfl (by have h := HA.h; (repeat (first | exact h.1 | exact h | replace h := h.2)); done) H HA ?_; intro rx c H HA) | (apply is_store; refine s_storeA rfl rfl H HA rfl (by (focus ((repeat' (first | exact rfl | exact ones_nil | refine ones_cons ?_ ?_ | (have h := HA.h; (repeat (first | exact Sl.oneC h.1 | exact Sl.oneC h | replace h := h.2)); done) | exact H.rowOne (by repeat (first | exact List.Mem.head _ | apply List.Mem.tail | apply List.mem_append_right)))); done))) (by repeat constructor) ?_; intro c H HA) | (apply is_store; refine s_storeP rfl (by conv => lhs; whnf) (by first | exact rfl | (have h := HA.h; (repeat (first | exact Sl.cellsC h.1 | exact Sl.cellsC h | replace h := h.2)); done) | exact H.rowCells (by repeat (first | exact List.Mem.head _ | apply List.Mem.tail | apply List.mem_append_right))) H HA (by first | exact rfl | (have h := HA.h; (repeat (first | exact Sl.oneC h.1 | exact Sl.oneC h | replace h := h.2)); done) | exact H.rowOne (by repeat (first | exact List.Mem.head _ | apply List.Mem.tail | apply List.mem_append_right))) (by repeat constructor) ?_; intro c H HA) | (apply is_store; refine s_storeA rfl rfl H.swap HA rfl (by (focus ((repeat' (first | exact rfl | exact ones_nil | refine ones_cons ?_ ?_ | (have h := HA.h; (repeat (first | exact Sl.oneC h.1 | exact Sl.oneC h | replace h := h.2)); done) | exact H.rowOne (by repeat (first | exact List.Mem.head _ | apply List.Mem.tail | apply List.mem_append_right)))); done))) (by repeat constructor) ?_; intro c H HA) | (apply is_store; refine s_storeP rfl (by conv => lhs; whnf) (by first | exact rfl | (have h := HA.h; (repeat (first | exact Sl.cellsC h.1 | exact Sl.cellsC h | replace h := h.2)); done) | exact H.rowCells (by repeat (first | exact List.Mem.head _ | apply List.Mem.tail | apply List.mem_append_right))) H.swap HA (by first | exact rfl | (have h := HA.h; (repeat (first | exact Sl.oneC h.1 | exact Sl.oneC h | replace h := h.2)); done) | exact H.rowOne (by repeat (first | exact List.Mem.head _ | apply List.Mem.tail | apply List.mem_append_right))) (by repeat constructor) ?_; intro c H HA) | (apply is_store; refine s_storeA rfl rfl H.swap2 HA rfl (by (focus ((repeat' (first | exact rfl | exact ones_nil | refine ones_cons ?_ ?_ | (have h := HA.h; (repeat (first | exact Sl.oneC h.1 | exact Sl.oneC h | replace h := h.2)); done) | exact H.rowOne (by repeat (first | exact List.Mem.head _ | apply List.Mem.tail | apply List.mem_append_right)))); done))) (by repeat constructor) ?_; intro c H HA) | (apply is_store; refine s_storeP rfl (by conv => lhs; whnf) (by first | exact rfl | (have h := HA.h; (repeat (first | exact Sl.cellsC h.1 | exact Sl.cellsC h | replace h := h.2)); done) | exact H.rowCells (by repeat (first | exact List.Mem.head _ | apply List.Mem.tail | apply List.mem_append_right))) H.swap2 HA (by first | exact rfl | (have h := HA.h; (repeat (first | exact Sl.oneC h.1 | exact Sl.oneC h | replace h := h.2)); done) | exact H.rowOne (by repeat (first | exact List.Mem.head _ | apply List.Mem.tail | apply List.mem_append_right))) (by repeat constructor) ?_; intro c H HA) | (apply z_eqI; exact rfl; exact rfl; exact rfl; (first | exact dt (by assumption) | exact df (by assumption) | exact rfl)) | (apply z_ltI; exact rfl; exact rfl; exact rfl; (first | exact dt (by assumption) | exact df (by assumption) | exact rfl)) | (apply z_neI; exact rfl; exact rfl; exact rfl; (first | exact nt (by assumption) | exact nf (by assumption) | exact rfl)) | (apply z_leI; exact rfl; exact rfl; exact rfl; (first | exact dt (by assumption) | exact df (by assumption) | exact rfl)) | (apply z_gtI; exact rfl; exact rfl; exact rfl; (first | exact dt (by assumption) | exact df (by assumption) | exact rfl)) | (apply z_geI; exact rfl; exact rfl; exact rfl; (first | exact dt (by assumption) | exact df (by assumption) | exact rfl)) | (apply s_eqS; exact rfl; exact rfl; exact rfl; (first | exact dt (by assumption) | exact df (by assumption) | exact rfl)) | (apply s_neS; exact rfl; exact rfl; exact rfl; (first | exact nt (by assumption) | exact nf (by assumption) | exact rfl)) | (apply z_eqT; exact rfl; exact rfl; exact rfl; (first | exact dt (by assumption) | exact df (by assumption) | exact rfl)) | (apply z_neT; exact rfl; exact rfl; exact rfl; (first | exact nt (by assumption) | exact nf (by assumption) | exact rfl)) | (apply z_eqTs; exact rfl; exact rfl; exact rfl; (first | exact dt (by assumption) | exact df (by assumption) | exact rfl)) | (apply z_neTs; exact rfl; exact rfl; exact rfl; (first | exact nt (by assumption) | exact nf (by assumption) | exact rfl)) | (apply z_eqT (u := Tn); exact rfl; exact rfl; exact rfl; (first | exact dt (by assumption) | exact df (by assumption) | exact rfl)) | (apply z_neT (u := Tn); exact rfl; exact rfl; exact rfl; (first | exact nt (by assumption) | exact nf (by assumption) | exact rfl))); exact Dx)) (hs : SpM sp := by exact inferInstance) : DW P id ops Q n n0 c0 L A w l ds (⟨some d, op, ty, ps, af, gd⟩ :: os) := dw_cons hp hs k
theorem Dn {id : Nat} {l : List (Nat × Sp)} {ds : List Nat} {os : List Oper} {op : Op} {gd : Option (Nat × Bool)} {n0 : Nat → Value} {sp : Sp} (k : DW P id ops Q n n0 c0 L A w ((d, sp) :: l) (d :: ds) os) (hp : PreR P ops n n0 c0 L A l ⟨some d, op, ty, ps, af, gd⟩ d sp := by (intro B _ Lx c H HA; (repeat (first | (intro vx hx; have hx2 : vx = _ := hx; clear hx; subst hx2) | (intro vx hx; have HA := HA.addSF hx; clear hx) | (intro vx hx; have HA := HA.add hx; clear hx) | intro vx)); change W _ _ _ _ _ _ _); first | ((apply s_no; exact rfl; exact rfl; exact rfl); exact Dx) | ((apply s_noU; exact rfl; exact rfl; exact rfl); exact Dx) | ((try (apply s_go; exact rfl; exact rfl; exact rfl)); (first | (apply s_move; exact rfl; (conv => lhs; whnf)) | (apply s_loadP; exact rfl; exact rfl; (focus (have h := HA.h; (repeat (first | exact h.1 | exact h | replace h := h.2)); done)); exact rfl) | (apply s_fieldAddr; exact rfl; exact rfl) | (apply s_loadA; exact rfl; exact rfl; (focus (have h := HA.h; (repeat (first | exact h.1 | exact h | replace h := h.2)); done)); (focus (repeat constructor))) | (apply s_pickT; exact rfl; exact rfl; (conv => lhs; whnf)) | (apply s_pickF; exact rfl; exact rfl; (conv => lhs; whnf)) | (apply is_box; refine s_boxA rfl rfl H HA ?_; intro bx c H HA) | (apply s_extract; exact rfl; exact rfl; exact rfl) | (apply s_not; exact rfl; exact rfl) | (apply s_ixP; exact rfl; exact rfl; exact rfl; (focus (have h := HA.h; (repeat (first | exact h.1 | exact h | replace h := h.2)); done)); exact rfl; exact rfl; assumption; (intro vx hx; have HA := HA.add hx; clear hx)) | (apply s_fldP; exact rfl; exact rfl; (focus (have h := HA.h; (repeat (first | exact h.1 | exact h | replace h := h.2)); done)); exact inferInstance; (intro vx hx; have HA := HA.add hx; clear hx)) | (apply s_ldV; exact rfl; exact rfl; (focus (have h := HA.h; (repeat (first | exact h.1 | exact h | replace h := h.2)); done)); exact inferInstance) | (apply s_ldS; exact rfl; exact rfl; (focus (have h := HA.h; (repeat (first | exact h.1 | exact h | replace h := h.2)); done)); exact inferInstance; (intro vx hx; have HA := HA.add hx; clear hx)) | (apply s_ldD; exact rfl; exact rfl; (focus (have h := HA.h; (repeat (first | exact h.1 | exact h | replace h := h.2)); done)); exact rfl; exact inferInstance) | (apply s_ldG; exact rfl; exact rfl; (focus (have h := HA.h; (repeat (first | exact h.1 | exact h | replace h := h.2)); done)); exact rfl; (intro vx hx; have HA := HA.add hx; clear hx)) | (apply is_box; refine s_boxG rfl rfl (by have h := HA.h; (repeat (first | exact h.1 | exact h | replace h := h.2)); done) H HA ?_; intro vx c H HA) | (apply s_loadOP; exact rfl; exact rfl; exact H; (focus (repeat (first | exact List.Mem.head _ | apply List.Mem.tail | apply List.mem_append_right))); exact rfl) | (apply s_loadOA; exact rfl; exact rfl; exact H; (focus (repeat (first | exact List.Mem.head _ | apply List.Mem.tail | apply List.mem_append_right))); (focus (repeat constructor))) | (apply s_lenS; exact rfl; exact rfl; exact rfl) | (apply s_lenL; exact rfl; exact rfl) | (apply s_lenSl; exact rfl; exact rfl; (focus (have h := HA.h; (repeat (first | exact h.1 | exact h | replace h := h.2)); done))) | (apply s_add; exact rfl; exact rfl; exact rfl; exact wrapK (by omega)) | (apply s_add; exact rfl; exact rfl; exact rfl; exact wrapK2 (by omega)) | (apply s_add; exact rfl; exact rfl; exact rfl; exact wrapI (by omega) (by omega)) | (apply s_sub; exact rfl; exact rfl; exact rfl; exact wrapP (by omega) (by omega)) | (apply s_sub; exact rfl; exact rfl; exact rfl; exact wrapI (by omega) (by omega)) | (apply s_conv; exact rfl; exact rfl; exact byteWrap _) | (apply s_indexS; exact rfl; exact rfl; exact rfl; assumption) | (apply s_indexS (i := 0); exact rfl; exact rfl; exact rfl; assumption) | (apply s_build; exact rfl; (focus ((repeat (first | exact bld_nil | (apply bld_cons; (conv => lhs; whnf)))); done)); (focus ((repeat' (first | exact Fil.nil | apply Fil.take | apply Fil.skip | exact App.nil | apply App.cons | (have h := HA.h; (repeat (first | exact Cells.sl h.1 | exact Cells.sl h | replace h := h.2)); done) | exact Cells.lit rfl | exact rfl)); done))) | (apply s_bs1G; exact rfl; exact rfl; (focus (have h := HA.h; (repeat (first | exact h.1 | exact h | replace h := h.2)); done)); exact rfl; exact rfl; exact rfl; exact rfl; exact H; exact HA; exact inferInstance; intro vx c H HA) | (apply s_bs1D; exact rfl; exact rfl; exact rfl; exact rfl; exact rfl; exact rfl; exact H; exact HA; exact inferInstance; intro vx c H HA) | (apply is_bs; refine s_bs1 rfl rfl rfl rfl rfl rfl H HA ?_; intro bx c H HA) | (apply s_appF; exact rfl; exact rfl; exact rfl; (focus (have h := HA.h; (repeat (first | exact h.1 | exact h | replace h := h.2)); done)); (focus (have h := HA.h; (repeat (first | exact h.1 | exact h | replace h := h.2)); done)); (focus (have h := HA.h; (repeat (first | exact h.1 | exact h | replace h := h.2)); done)); exact rfl; exact rfl; exact (by first | omega | (simp only [LIM]; omega) | (simp only [List.length_append, List.length_cons, List.length_nil]; omega) | (simp only [List.length_append, List.length_cons, List.length_nil, LIM]; omega)); exact H; exact HA; exact inferInstance; intro vx c H HA) | (apply s_appR; exact rfl; exact rfl; exact rfl; exact H; (focus (have h := HA.h; (repeat (first | exact h.1 | exact h | replace h := h.2)); done)); (focus (have h := HA.h; (repeat (first | exact h.1 | exact h | replace h := h.2)); done)); exact rfl; exact rfl; exact rfl; exact (by first | omega | (simp only [LIM]; omega) | (simp only [List.length_append, List.length_cons, List.length_nil]; omega) | (simp only [List.length_append, List.length_cons, List.length_nil, LIM]; omega)); exact HA; exact inferInstance; intro vx c valsx H HA) | (apply s_bslG; exact rfl; exact rfl; exact rfl; (focus (repeat (first | exact EQs.nil | (apply EQs.consA; (focus (have h := HA.h; (repeat (first | exact h.1 | exact h | replace h := h.2)); done))) | (apply EQs.consD; exact rfl)))); exact rfl; exact rfl; exact rfl; exact rfl; exact rfl; exact H; exact HA; exact inferInstance; intro vx c H HA) | (apply is_alloc; refine s_alloc rfl (by conv => lhs; whnf) H HA ?_; intro bx c H HA) | (apply s_lenR; exact rfl; exact rfl; exact H; (focus ((repeat (first | exact List.Mem.head _ | apply List.Mem.tail | apply List.mem_append_right)); done))) | (apply s_ixR; exact rfl; exact rfl; exact rfl; exact H; (focus ((repeat (first | exact List.Mem.head _ | apply List.Mem.tail | apply List.mem_append_right)); done)); exact rfl; omega; (intro rp hrp)) | (apply s_ldRV; exact rfl; exact rfl; assumption; exact H; (focus ((repeat (first | exact List.Mem.head _ | apply List.Mem.tail | apply List.mem_append_right)); done)); (focus (have h := HA.h; (repeat (first | exact h.1 | exact h | replace h := h.2)); done)); assumption; exact inferInstance) | (refine s_makeMap rfl H HA ?_; intro mx c H HA) | (apply s_lookT; exact rfl; exact rfl; exact rfl; exact H; (focus ((repeat (first | exact List.Mem.head _ | apply List.Mem.tail | apply List.mem_append_right)); done))) | (apply s_lookF; exact rfl; exact rfl; exact rfl; exact H; (focus ((repeat (first | exact List.Mem.head _ | apply List.Mem.tail | apply List.mem_append_right)); done))) | (refine s_mapUpdate rfl rfl (by conv => lhs; whnf) H HA ?_; intro c H HA) | (refine s_mapUpdate rfl rfl (by conv => lhs; whnf) H.swap HA ?_; intro c H HA) | (refine s_mapUpdate rfl rfl (by conv => lhs; whnf) H.swap2 HA ?_; intro c H HA) | (apply s_lenMF; exact rfl; exact rfl; (focus (have h := HA.h; (repeat (first | exact h.1 | exact h | replace h := h.2)); done))) | (apply s_lenM; exact rfl; exact rfl; exact H; (focus ((repeat (first | exact List.Mem.head _ | apply List.Mem.tail | apply List.mem_append_right)); done))) | (refine s_range rfl rfl (by have h := HA.h; (repeat (first | exact h.1 | exact h | replace h := h.2)); done) H HA ?_; intro rx c H HA) | (apply is_store; refine s_storeA rfl rfl H HA rfl (by (focus ((repeat' (first | exact rfl | exact ones_nil | refine ones_cons ?_ ?_ | (have h := HA.h; (repeat (first | exact Sl.oneC h.1 | exact Sl.oneC h | replace h := h.2)); done) | exact H.rowOne (by repeat (first | exact List.Mem.head _ | apply List.Mem.tail | apply List.mem_append_right)))); done))) (by repeat constructor) ?_; intro c H HA) | (apply is_store; refine s_storeP rfl (by conv => lhs; whnf) (by first | exact rfl | (have h := HA.h; (repeat (first | exact Sl.cellsC h.1 | exact Sl.cellsC h | replace h := h.2)); done) | exact H.rowCells (by repeat (first | exact List.Mem.head _ | apply List.Mem.tail | apply List.mem_append_right))) H HA (by first | exact rfl | (have h := HA.h; (repeat (first | exact Sl.oneC h.1 | exact Sl.oneC h | replace h := h.2)); done) | exact H.rowOne (by repeat (first | exact List.Mem.head _ | apply List.Mem.tail | apply List.mem_append_right))) (by repeat constructor) ?_; intro c H HA) | (apply is_store; refine s_storeA rfl rfl H.swap HA rfl (by (focus ((repeat' (first | exact rfl | exact ones_nil | refine ones_cons ?_ ?_ | (have h := HA.h; (repeat (first | exact Sl.oneC h.1 | exact Sl.oneC h | replace h := h.2)); done) | exact H.rowOne (by repeat (first | exact List.Mem.head _ | apply List.Mem.tail | apply List.mem_append_right)))); done))) (by repeat constructor) ?_; intro c H HA) | (apply is_store; refine s_storeP rfl (by conv => lhs; whnf) (by first | exact rfl | (have h := HA.h; (repeat (first | exact Sl.cellsC h.1 | exact Sl.cellsC h | replace h := h.2)); done) | exact H.rowCells (by repeat (first | exact List.Mem.head _ | apply List.Mem.tail | apply List.mem_append_right))) H.swap HA (by first | exact rfl | (have h := HA.h; (repeat (first | exact Sl.oneC h.1 | exact Sl.oneC h | replace h := h.2)); done) | exact H.rowOne (by repeat (first | exact List.Mem.head _ | apply List.Mem.tail | apply List.mem_append_right))) (by repeat constructor) ?_; intro c H HA) | (apply is_store; refine s_storeA rfl rfl H.swap2 HA rfl (by (focus ((repeat' (first | exact rfl | exact ones_nil | refine ones_cons ?_ ?_ | (have h := HA.h; (repeat (first | exact Sl.oneC h.1 | exact Sl.oneC h | replace h := h.2)); done) | exact H.rowOne (by repeat (first | exact List.Mem.head _ | apply List.Mem.tail | apply List.mem_append_right)))); done))) (by repeat constructor) ?_; intro c H HA) | (apply is_store; refine s_storeP rfl (by conv => lhs; whnf) (by first | exact rfl | (have h := HA.h; (repeat (first | exact Sl.cellsC h.1 | exact Sl.cellsC h | replace h := h.2)); done) | exact H.rowCells (by repeat (first | exact List.Mem.head _ | apply List.Mem.tail | apply List.mem_append_right))) H.swap2 HA (by first | exact rfl | (have h := HA.h; (repeat (first | exact Sl.oneC h.1 | exact Sl.oneC h | replace h := h.2)); done) | exact H.rowOne (by repeat (first | exact List.Mem.head _ | apply List.Mem.tail | apply List.mem_append_right))) (by repeat constructor) ?_; intro c H HA) | (apply z_eqI; exact rfl; exact rfl; exact rfl; (first | exact dt (by assumption) | exact df (by assumption) | exact rfl)) | (apply z_ltI; exact rfl; exact rfl; exact rfl; (first | exact dt (by assumption) | exact df (by assumption) | exact rfl)) | (apply z_neI; exact rfl; exact rfl; exact rfl; (first | exact nt (by assumption) | exact nf (by assumption) | exact rfl)) | (apply z_leI; exact rfl; exact rfl; exact rfl; (first | exact dt (by assumption) | exact df (by assumption) | exact rfl)) | (apply z_gtI; exact rfl; exact rfl; exact rfl; (first | exact dt (by assumption) | exact df (by assumption) | exact rfl)) | (apply z_geI; exact rfl; exact rfl; exact rfl; (first | exact dt (by assumption) | exact df (by assumption) | exact rfl)) | (apply s_eqS; exact rfl; exact rfl; exact rfl; (first | exact dt (by assumption) | exact df (by assumption) | exact rfl)) | (apply s_neS; exact rfl; exact rfl; exact rfl; (first | exact nt (by assumption) | exact nf (by assumption) | exact rfl)) | (apply z_eqT; exact rfl; exact rfl; exact rfl; (first | exact dt (by assumption) | exact df (by assumption) | exact rfl)) | (apply z_neT; exact rfl; exact rfl; exact rfl; (first | exact nt (by assumption) | exact nf (by assumption) | exact rfl)) | (apply z_eqTs; exact rfl; exact rfl; exact rfl; (first | exact dt (by assumption) | exact df (by assumption) | exact rfl)) | (apply z_neTs; exact rfl; exact rfl; exact rfl; (first | exact nt (by assumption) | exact nf (by assumption) | exact rfl)) | (apply z_eqT (u := Tn); exact rfl; exact rfl; exact rfl; (first | exact dt (by assumption) | exact df (by assumption) | exact rfl)) | (apply z_neT (u := Tn); exact rfl; exact rfl; exact rfl; (first | exact nt (by assumption) | exact nf (by assumption) | exact rfl))); exact Dx)) (hs : SpM sp := by exact inferInstance) : DW P id ops Q n n0 c0 L A w l ds (⟨some d, op, ty, ps, af, gd⟩ :: os) := dw_cons hp hs k
theorem Z0 {x : Operand} {v : Value} (k : W P ops Q rest n (upd f d v) w) (hn : Nat.blt d n = true := by exact rfl) (hx : opd f x = v := by (conv => lhs; whnf)) : W P ops Q (⟨some d, .move x, ty, ps, af, none⟩ :: rest) n f w :=
  s_move (hn := hn) (hx := hx) (k := k)
theorem Z1 {T : TypeId} {x : Operand} {b o : Nat} {cs : List Value} {v : Value} [Prim P T] (k : W P ops Q rest n (upd f d v) c.w) (hn : Nat.blt d n = true := by exact rfl) (hx : opd f x = .pointer (some ⟨b, o, none⟩) := by exact rfl) (h : Box b cs c := by (focus (have h := HA.h; (repeat (first | exact h.1 | exact h | replace h := h.2)); done))) (hv : cs[o]? = some v := by exact rfl) : W P ops Q (⟨some d, .load T x, ty, ps, af, none⟩ :: rest) n f c.w :=
  s_loadP (hn := hn) (hx := hx) (h := h) (hv := hv) (k := k)
theorem Z2 {x : Operand} {v : Value} (k : W P ops Q rest n (upd f d v) w) (hn : Nat.blt d n = true := by exact rfl) (hx : opd f x = v := by (conv => lhs; whnf)) : W P ops Q (⟨some d, .assign x, ty, ps, af, none⟩ :: rest) n f w :=
  s_assign (hn := hn) (hx := hx) (k := k)
theorem Z3 {T : TypeId} {i off b o : Nat} {x : Operand} [Fld P T i off] (k : W P ops Q rest n (upd f d (.pointer (some ⟨b, o + off, none⟩))) w) (hn : Nat.blt d n = true := by exact rfl) (hx : opd f x = .pointer (some ⟨b, o, none⟩) := by exact rfl) : W P ops Q (⟨some d, .fieldAddr T x i, ty, ps, af, none⟩ :: rest) n f w :=
  s_fieldAddr (hn := hn) (hx := hx) (k := k)
theorem Z4 {op : Op} {j d' : Nat} {want : Bool} (go : W P ops Q (⟨some d, op, ty, ps, af, none⟩ :: rest) n f w) (hn : Nat.blt d n = true := by exact rfl) (hj : (ops[j]?).bind (·.dst) = some d' := by exact rfl) (hf : f d' = .bool want := by exact rfl) : W P ops Q (⟨some d, op, ty, ps, af, some (j, want)⟩ :: rest) n f w :=
  s_go (hn := hn) (hj := hj) (hf := hf) (go := go)
theorem Z5 {op : Op} {j d' : Nat} {want : Bool} (sk : W P ops Q rest n (upd f d undef) w) (hn : Nat.blt d n = true := by exact rfl) (hj : (ops[j]?).bind (·.dst) = some d' := by exact rfl) (hf : f d' = .bool (!want) := by exact rfl) : W P ops Q (⟨some d, op, ty, ps, af, some (j, want)⟩ :: rest) n f w :=
  s_no (hn := hn) (hj := hj) (hf := hf) (sk := sk)
theorem Z6 {op : Op} {j d' : Nat} {want : Bool} (sk : W P ops Q rest n (upd f d undef) w) (hn : Nat.blt d n = true := by exact rfl) (hj : (ops[j]?).bind (·.dst) = some d' := by exact rfl) (hf : f d' = undef := by exact rfl) : W P ops Q (⟨some d, op, ty, ps, af, some (j, want)⟩ :: rest) n f w :=
  s_noU (hn := hn) (hj := hj) (hf := hf) (sk := sk)
theorem Z7 {T : TypeId} {kk : Nat} {x : Operand} {b o : Nat} {cs vs : List Value} [Agg P T kk] (k : W P ops Q rest n (upd f d (.agg vs.toArray)) c.w) (hn : Nat.blt d n = true := by exact rfl) (hx : opd f x = .pointer (some ⟨b, o, none⟩) := by exact rfl) (h : Box b cs c := by (focus (have h := HA.h; (repeat (first | exact h.1 | exact h | replace h := h.2)); done))) (hv : Sub o kk cs vs := by (focus (repeat constructor))) : W P ops Q (⟨some d, .load T x, ty, ps, af, none⟩ :: rest) n f c.w :=
  s_loadA (hn := hn) (hx := hx) (h := h) (hv := hv) (k := k)
theorem Z8 {x y z : Operand} {v : Value} (k : W P ops Q rest n (upd f d v) w) (hn : Nat.blt d n = true := by exact rfl) (hx : opd f x = .bool true := by exact rfl) (hv : opd f y = v := by (conv => lhs; whnf)) : W P ops Q (⟨some d, .pick x y z, ty, ps, af, none⟩ :: rest) n f w :=
  s_pickT (hn := hn) (hx := hx) (hv := hv) (k := k)
theorem Z18 {o : Operand} {x y : Code} (ht : WC P x Q n f w) (hb : opd f o = .bool true := by exact rfl) : WC P (.cond o x y) Q n f w :=
  wc_condT (hb := hb) (ht := ht)
theorem Z19 {o : Operand} {x y : Code} (ht : WC P y Q n f w) (hb : opd f o = .bool false := by exact rfl) : WC P (.cond o x y) Q n f w :=
  wc_condF (hb := hb) (ht := ht)
theorem Z27 {i j : Nat} (h : WX Q (.exit j) n f w) (hij : Nat.beq j i = false := by exact rfl) : WX (Exit.inBlock i Q) (.exit j) n f w :=
  wx_exit_other (hij := hij) (h := h)
theorem Z30 {x y z : Operand} {v : Value} (k : W P ops Q rest n (upd f d v) w) (hn : Nat.blt d n = true := by exact rfl) (hx : opd f x = .bool false := by exact rfl) (hv : opd f z = v := by (conv => lhs; whnf)) : W P ops Q (⟨some d, .pick x y z, ty, ps, af, none⟩ :: rest) n f w :=
  s_pickF (hn := hn) (hx := hx) (hv := hv) (k := k)
theorem Z31 {T : TypeId} {x : Operand} {cs : List Value} [Mono A] (k : ∀ b c', Owns c0 L c' → Hd (fun c => Box b cs c ∧ A c) c' → W P ops Q rest n (upd f d (.pointer (some ⟨b, 0, none⟩))) c'.w) (hn : Nat.blt d n = true := by exact rfl) (hx : opd f x = .agg cs.toArray := by exact rfl) (H : Owns c0 L c := by exact H) (HA : Hd A c := by exact HA) : W P ops Q (⟨some d, .box T x, ty, ps, af, none⟩ :: rest) n f c.w :=
  s_boxA (hn := hn) (hx := hx) (H := H) (HA := HA) (k := k)
theorem Z32 {x : Operand} {vs : List Value} {i : Nat} {v : Value} (k : W P ops Q rest n (upd f d v) w) (hn : Nat.blt d n = true := by exact rfl) (hx : opd f x = .tuple vs.toArray := by exact rfl) (hv : vs[i]? = some v := by exact rfl) : W P ops Q (⟨some d, .extract x i, ty, ps, af, none⟩ :: rest) n f w :=
  s_extract (hn := hn) (hx := hx) (hv := hv) (k := k)
theorem Z33 {T : TypeId} {x : Operand} {b : Bool} (k : W P ops Q rest n (upd f d (.bool !b)) w) (hn : Nat.blt d n = true := by exact rfl) (hx : opd f x = .bool b := by exact rfl) : W P ops Q (⟨some d, .unOp .not T x, ty, ps, af, none⟩ :: rest) n f w :=
  s_not (hn := hn) (hx := hx) (k := k)
theorem Z34 {α : Type} {iE : Enc α} {T e : TypeId} {z : Value} {kk by_ : Nat} {x y : Operand} {v : Value} {xs : List α} {i : Nat} {u : α} {q : Int} [SlT P T e] [TyI P e z kk by_] (HA : Hd A c) (k : ∀ v', Hd (fun c => Pt u v' c ∧ A c) c → W P ops Q rest n (upd f d v') c.w) (hn : Nat.blt d n = true := by exact rfl) (hx : opd f x = v := by exact rfl) (hy : opd f y = .int .i64 q := by exact rfl) (h : Sl v xs c := by (focus (have h := HA.h; (repeat (first | exact h.1 | exact h | replace h := h.2)); done))) (hk : Enc.k α = kk := by exact rfl) (hq : q = (i : Int) := by exact rfl) (hu : xs[i]? = some u := by assumption) : W P ops Q (⟨some d, .indexAddr T x y, ty, ps, af, none⟩ :: rest) n f c.w :=
  s_ixP (hn := hn) (hx := hx) (hy := hy) (h := h) (hk := hk) (hq := hq) (hu := hu) (k := fun v' h => k v' (HA.add h))
theorem Z35 {α β : Type} {iE : Enc α} {iE2 : Enc β} {pr : α → β} {T : TypeId} {i off : Nat} {x : Operand} {v : Value} {u : α} [Fld P T i off] (HA : Hd A c) (k : ∀ v', Hd (fun c => Pt (pr u) v' c ∧ A c) c → W P ops Q rest n (upd f d v') c.w) (hn : Nat.blt d n = true := by exact rfl) (hx : opd f x = v := by exact rfl) (h : Pt u v c := by (focus (have h := HA.h; (repeat (first | exact h.1 | exact h | replace h := h.2)); done))) (hR : Part α off β pr := by exact inferInstance) : W P ops Q (⟨some d, .fieldAddr T x i, ty, ps, af, none⟩ :: rest) n f c.w :=
  s_fldP (hn := hn) (hx := hx) (h := h) (hR := hR) (k := fun v' h => k v' (HA.add h))
theorem Z36 {α : Type} {iE : Enc α} {val : α → Value} {T : TypeId} {x : Operand} {v : Value} {u : α} [Prim P T] (k : W P ops Q rest n (upd f d (val u)) c.w) (hn : Nat.blt d n = true := by exact rfl) (hx : opd f x = v := by exact rfl) (h : Pt u v c := by (focus (have h := HA.h; (repeat (first | exact h.1 | exact h | replace h := h.2)); done))) (hR : RdV α val := by exact inferInstance) : W P ops Q (⟨some d, .load T x, ty, ps, af, none⟩ :: rest) n f c.w :=
  s_ldV (hn := hn) (hx := hx) (h := h) (hR := hR) (k := k)
theorem Z37 {α : Type} {iE : Enc α} {S : α → Value → Cx → Prop} {T : TypeId} {x : Operand} {v : Value} {u : α} [Prim P T] (HA : Hd A c) (k : ∀ v', Hd (fun c => S u v' c ∧ A c) c → W P ops Q rest n (upd f d v') c.w) (hn : Nat.blt d n = true := by exact rfl) (hx : opd f x = v := by exact rfl) (h : Pt u v c := by (focus (have h := HA.h; (repeat (first | exact h.1 | exact h | replace h := h.2)); done))) (hR : Rd α S := by exact inferInstance) : W P ops Q (⟨some d, .load T x, ty, ps, af, none⟩ :: rest) n f c.w :=
  s_ldS (hn := hn) (hx := hx) (h := h) (hR := hR) (k := fun v' h => k v' (HA.add h))
theorem Z38 {α : Type} {iE : Enc α} {cs : α → List Value} {T : TypeId} {kk : Nat} {x : Operand} {v : Value} {u : α} [Agg P T kk] (k : W P ops Q rest n (upd f d (.agg (cs u).toArray)) c.w) (hn : Nat.blt d n = true := by exact rfl) (hx : opd f x = v := by exact rfl) (h : Pt u v c := by (focus (have h := HA.h; (repeat (first | exact h.1 | exact h | replace h := h.2)); done))) (hk : Enc.k α = kk := by exact rfl) (hR : RdA α cs := by exact inferInstance) : W P ops Q (⟨some d, .load T x, ty, ps, af, none⟩ :: rest) n f c.w :=
  s_ldD (hn := hn) (hx := hx) (h := h) (hk := hk) (hR := hR) (k := k)
theorem Z39 {α : Type} {iE : Enc α} {T : TypeId} {kk : Nat} {x : Operand} {v : Value} {u : α} [Agg P T kk] (HA : Hd A c) (k : ∀ v', Hd (fun c => Ag u v' c ∧ A c) c → W P ops Q rest n (upd f d v') c.w) (hn : Nat.blt d n = true := by exact rfl) (hx : opd f x = v := by exact rfl) (h : Pt u v c := by (focus (have h := HA.h; (repeat (first | exact h.1 | exact h | replace h := h.2)); done))) (hk : Enc.k α = kk := by exact rfl) : W P ops Q (⟨some d, .load T x, ty, ps, af, none⟩ :: rest) n f c.w :=
  s_ldG (hn := hn) (hx := hx) (h := h) (hk := hk) (k := fun v' h => k v' (HA.add h))
theorem Z40 {α : Type} {iE : Enc α} {T : TypeId} {x : Operand} {v : Value} {u : α} [Mono A] (k : ∀ v' c', Owns c0 L c' → Hd (fun c => Pt u v' c ∧ A c) c' → W P ops Q rest n (upd f d v') c'.w) (hn : Nat.blt d n = true := by exact rfl) (hx : opd f x = v := by exact rfl) (h : Ag u v c := by exact (by have h := HA.h; (repeat (first | exact h.1 | exact h | replace h := h.2)); done)) (H : Owns c0 L c := by exact H) (HA : Hd A c := by exact HA) : W P ops Q (⟨some d, .box T x, ty, ps, af, none⟩ :: rest) n f c.w :=
  s_boxG (hn := hn) (hx := hx) (h := h) (H := H) (HA := HA) (k := k)
theorem Z41 {T T' : TypeId} {x : Operand} {b o : Nat} {cs : List Value} {v : Value} {fr : Nat × Nat} [Prim P T] (k : W P ops Q rest n (upd f d v) c.w) (hn : Nat.blt d n = true := by exact rfl) (hx : opd f x = .pointer (some ⟨b, o, none⟩) := by exact rfl) (H : Owns c0 L c := by exact H) (hm : Res.obj b (.cells cs.toArray T' fr) ∈ L := by (focus (repeat (first | exact List.Mem.head _ | apply List.Mem.tail | apply List.mem_append_right)))) (hv : cs[o]? = some v := by exact rfl) : W P ops Q (⟨some d, .load T x, ty, ps, af, none⟩ :: rest) n f c.w :=
  s_loadOP (hn := hn) (hx := hx) (H := H) (hm := hm) (hv := hv) (k := k)
theorem Z42 {T T' : TypeId} {kk : Nat} {x : Operand} {b o : Nat} {cs vs : List Value} {fr : Nat × Nat} [Agg P T kk] (k : W P ops Q rest n (upd f d (.agg vs.toArray)) c.w) (hn : Nat.blt d n = true := by exact rfl) (hx : opd f x = .pointer (some ⟨b, o, none⟩) := by exact rfl) (H : Owns c0 L c := by exact H) (hm : Res.obj b (.cells cs.toArray T' fr) ∈ L := by (focus (repeat (first | exact List.Mem.head _ | apply List.Mem.tail | apply List.mem_append_right)))) (hv : Sub o kk cs vs := by (focus (repeat constructor))) : W P ops Q (⟨some d, .load T x, ty, ps, af, none⟩ :: rest) n f c.w :=
  s_loadOA (hn := hn) (hx := hx) (H := H) (hm := hm) (hv := hv) (k := k)
theorem Z43 {t' : TypeId} [StrT P t'] {z : Int} (k : W P ops Q rest n (upd f d (.int .i64 z)) w) (hn : Nat.blt d n = true := by exact rfl) (hx : opd f x = .string s := by exact rfl) (hz : (s.size : Int) = z := by exact rfl) : W P ops Q (⟨some d, .call ⟨.builtin .len, #[x], #[t']⟩, ty, ps, af, none⟩ :: rest) n f w :=
  s_lenS (hn := hn) (hx := hx) (hz := hz) (k := k)
theorem Z44 {t' e : TypeId} [SlT P t' e] {ad : Option Addr} {m cp : Nat} (k : W P ops Q rest n (upd f d (.int .i64 m)) w) (hn : Nat.blt d n = true := by exact rfl) (hx : opd f x = .slice ad m cp := by exact rfl) : W P ops Q (⟨some d, .call ⟨.builtin .len, #[x], #[t']⟩, ty, ps, af, none⟩ :: rest) n f w :=
  s_lenL (hn := hn) (hx := hx) (k := k)
theorem Z45 {α : Type} {iE : Enc α} {t' e : TypeId} {x : Operand} {v : Value} {xs : List α} [SlT P t' e] (k : W P ops Q rest n (upd f d (.int .i64 xs.length)) c.w) (hn : Nat.blt d n = true := by exact rfl) (hx : opd f x = v := by exact rfl) (h : Sl v xs c := by (focus (have h := HA.h; (repeat (first | exact h.1 | exact h | replace h := h.2)); done))) : W P ops Q (⟨some d, .call ⟨.builtin .len, #[x], #[t']⟩, ty, ps, af, none⟩ :: rest) n f c.w :=
  s_lenSl (hn := hn) (hx := hx) (h := h) (k := k)
theorem Z46 {r : Int} (k : W P ops Q rest n (upd f d (.int kd r)) w) (hn : Nat.blt d n = true := by exact rfl) (hx : opd f x = .int kd a := by exact rfl) (hy : opd f y = .int kd b := by exact rfl) (hr : kd.wrap (a + b) = r := by exact wrapK (by omega)) : W P ops Q (⟨some d, .binOp .add T x y T', ty, ps, af, none⟩ :: rest) n f w :=
  s_add (hn := hn) (hx := hx) (hy := hy) (hr := hr) (k := k)
theorem Z48 {r : Int} (k : W P ops Q rest n (upd f d (.int kd r)) w) (hn : Nat.blt d n = true := by exact rfl) (hx : opd f x = .int kd a := by exact rfl) (hy : opd f y = .int kd b := by exact rfl) (hr : kd.wrap (a + b) = r := by exact wrapI (by omega) (by omega)) : W P ops Q (⟨some d, .binOp .add T x y T', ty, ps, af, none⟩ :: rest) n f w :=
  s_add (hn := hn) (hx := hx) (hy := hy) (hr := hr) (k := k)
theorem Z49 {r : Int} (k : W P ops Q rest n (upd f d (.int kd r)) w) (hn : Nat.blt d n = true := by exact rfl) (hx : opd f x = .int kd a := by exact rfl) (hy : opd f y = .int kd b := by exact rfl) (hr : kd.wrap (a - b) = r := by exact wrapP (by omega) (by omega)) : W P ops Q (⟨some d, .binOp .sub T x y T', ty, ps, af, none⟩ :: rest) n f w :=
  s_sub (hn := hn) (hx := hx) (hy := hy) (hr := hr) (k := k)
theorem Z50 {r : Int} (k : W P ops Q rest n (upd f d (.int kd r)) w) (hn : Nat.blt d n = true := by exact rfl) (hx : opd f x = .int kd a := by exact rfl) (hy : opd f y = .int kd b := by exact rfl) (hr : kd.wrap (a - b) = r := by exact wrapI (by omega) (by omega)) : W P ops Q (⟨some d, .binOp .sub T x y T', ty, ps, af, none⟩ :: rest) n f w :=
  s_sub (hn := hn) (hx := hx) (hy := hy) (hr := hr) (k := k)
theorem Z52 {t' : TypeId} [StrT P t'] {i : Nat} {u : UInt8} (k : W P ops Q rest n (upd f d (.int .u8 u.toNat)) w) (hn : Nat.blt d n = true := by exact rfl) (hx : opd f x = .string s := by exact rfl) (hy : opd f y = .int .i64 i := by exact rfl) (hi : s.data[i]? = some u := by assumption) : W P ops Q (⟨some d, .index t' x y, ty, ps, af, none⟩ :: rest) n f w :=
  s_indexS (hn := hn) (hx := hx) (hy := hy) (hi := hi) (k := k)
theorem Z54 {T : TypeId} {zs : List (List Value)} {xs : Array (Nat × Operand)} {ps' : List (Nat × Value)} {cs : List Value} [BldZ P T zs] {w : World} (k : W P ops Q rest n (upd f d (.agg cs.toArray)) w) (hn : Nat.blt d n = true := by exact rfl) (hx : xs.toList.map (fun p => (p.1, opd f p.2)) = ps' := by (focus ((repeat (first | exact bld_nil | (apply bld_cons; (conv => lhs; whnf)))); done))) (hf : Fil zs 0 ps' cs := by (focus ((repeat' (first | exact Fil.nil | apply Fil.take | apply Fil.skip | exact App.nil | apply App.cons | (have h := HA.h; (repeat (first | exact Cells.sl h.1 | exact Cells.sl h | replace h := h.2)); done) | exact Cells.lit rfl | exact rfl)); done))) : W P ops Q (⟨some d, .build T xs, ty, ps, af, none⟩ :: rest) n f w :=
  s_build (hn := hn) (hx := hx) (hf := hf) (k := k)
theorem Z55 {α : Type} {iE : Enc α} {T e : TypeId} {z : Value} {kk bb : Nat} {x : Operand} {v0 : Value} {u : α} [SlT P T e] [TyI P e z kk bb] (k : ∀ v c', Owns c0 L c' → Hd (fun c => Sl v [u] c ∧ Fu v ∧ A c) c' → W P ops Q rest n (upd f d v) c'.w) (hn : Nat.blt d n = true := by exact rfl) (hx : opd f x = v0 := by exact rfl) (hA : Ag u v0 c := by (focus (have h := HA.h; (repeat (first | exact h.1 | exact h | replace h := h.2)); done))) (hk : Enc.k α = kk := by exact rfl) (hz : z.cells.size = kk := by exact rfl) (hk0 : Nat.blt 0 kk = true := by exact rfl) (hkb : Nat.ble kk 64 = true := by exact rfl) (H : Owns c0 L c := by exact H) (HA : Hd A c := by exact HA) (hMA : Mono A := by exact inferInstance) : W P ops Q (⟨some d, .buildSlice T 1 #[(0, x)], ty, ps, af, none⟩ :: rest) n f c.w :=
  s_bs1G (hn := hn) (hx := hx) (hA := hA) (hk := hk) (hz := hz) (hk0 := hk0) (hkb := hkb) (H := H) (HA := HA) (hMA := hMA) (k := k)
theorem Z56 {α : Type} {iE : Enc α} {cv : α → List Value} {T e : TypeId} {z : Value} {kk bb : Nat} {x : Operand} {u : α} [SlT P T e] [TyI P e z kk bb] [TyD P e α cv] (k : ∀ v c', Owns c0 L c' → Hd (fun c => Sl v [u] c ∧ Fu v ∧ A c) c' → W P ops Q rest n (upd f d v) c'.w) (hn : Nat.blt d n = true := by exact rfl) (hx : (opd f x).cells = (cv u).toArray := by exact rfl) (hk : (cv u).length = kk := by exact rfl) (hz : z.cells.size = kk := by exact rfl) (hk0 : Nat.blt 0 kk = true := by exact rfl) (hkb : Nat.ble kk 64 = true := by exact rfl) (H : Owns c0 L c := by exact H) (HA : Hd A c := by exact HA) (hMA : Mono A := by exact inferInstance) : W P ops Q (⟨some d, .buildSlice T 1 #[(0, x)], ty, ps, af, none⟩ :: rest) n f c.w :=
  s_bs1D (hn := hn) (hx := hx) (hk := hk) (hz := hz) (hk0 := hk0) (hkb := hkb) (H := H) (HA := HA) (hMA := hMA) (k := k)
theorem Z58 {α : Type} {iE : Enc α} {T e : TypeId} {z : Value} {kk bb : Nat} {x y : Operand} {v v2 : Value} {xs ys : List α} [SlT P T e] [TyI P e z kk bb] (k : ∀ v' c', Owns c0 L c' → Hd (fun c => Sl v' (xs ++ ys) c ∧ A c) c' → W P ops Q rest n (upd f d v') c'.w) (hn : Nat.blt d n = true := by exact rfl) (hx : opd f x = v := by exact rfl) (hy : opd f y = v2 := by exact rfl) (HX : Sl v xs c := by (focus (have h := HA.h; (repeat (first | exact h.1 | exact h | replace h := h.2)); done))) (HF : Fu v := by (focus (have h := HA.h; (repeat (first | exact h.1 | exact h | replace h := h.2)); done))) (HS : Sl v2 ys c := by (focus (have h := HA.h; (repeat (first | exact h.1 | exact h | replace h := h.2)); done))) (hk : Enc.k α = kk := by exact rfl) (hbb : Nat.ble bb 128 = true := by exact rfl) (hlim : xs.length + ys.length < 1099511627776 := by exact (by first | omega | (simp only [LIM]; omega) | (simp only [List.length_append, List.length_cons, List.length_nil]; omega) | (simp only [List.length_append, List.length_cons, List.length_nil, LIM]; omega))) (H : Owns c0 L c := by exact H) (HA : Hd A c := by exact HA) (hMA : Mono A := by exact inferInstance) : W P ops Q (⟨some d, .call ⟨.builtin .append, #[x, y], #[T, T]⟩, ty, ps, af, none⟩ :: rest) n f c.w :=
  s_appF (hn := hn) (hx := hx) (hy := hy) (HX := HX) (HF := HF) (HS := HS) (hk := hk) (hbb := hbb) (hlim := hlim) (H := H) (HA := HA) (hMA := hMA) (k := k)
theorem Z59 {α : Type} {iE : Enc α} {T e : TypeId} {z : Value} {kk bb : Nat} {x y : Operand} {v v2 : Value} {acc ys : List α} {vals : List (List Value)} [SlT P T e] [TyI P e z kk bb] (k : ∀ v' c' vals', Owns c0 (.row v' e kk (acc ++ ys).length vals'.flatten :: L) c' → Hd (fun c => Vals vals' (acc ++ ys) c ∧ A c) c' → W P ops Q rest n (upd f d v') c'.w) (hn : Nat.blt d n = true := by exact rfl) (hx : opd f x = v := by exact rfl) (hy : opd f y = v2 := by exact rfl) (H : Owns c0 (.row v e kk acc.length vals.flatten :: L) c := by exact H) (HV : Vals vals acc c := by (focus (have h := HA.h; (repeat (first | exact h.1 | exact h | replace h := h.2)); done))) (HS : Sl v2 ys c := by (focus (have h := HA.h; (repeat (first | exact h.1 | exact h | replace h := h.2)); done))) (hk : Enc.k α = kk := by exact rfl) (hz : z.cells.size = kk := by exact rfl) (hbb : Nat.ble bb 128 = true := by exact rfl) (hlim : acc.length + ys.length < 1099511627776 := by exact (by first | omega | (simp only [LIM]; omega) | (simp only [List.length_append, List.length_cons, List.length_nil]; omega) | (simp only [List.length_append, List.length_cons, List.length_nil, LIM]; omega))) (HA : Hd A c := by exact HA) (hMA : Mono A := by exact inferInstance) : W P ops Q (⟨some d, .call ⟨.builtin .append, #[x, y], #[T, T]⟩, ty, ps, af, none⟩ :: rest) n f c.w :=
  s_appR (hn := hn) (hx := hx) (hy := hy) (H := H) (HV := HV) (HS := HS) (hk := hk) (hz := hz) (hbb := hbb) (hlim := hlim) (HA := HA) (hMA := hMA) (k := k)
theorem Z60 {α : Type} {iE : Enc α} {T e len : Nat} {z : Value} {kk bb : Nat} {xs : Array (Nat × Operand)} {vs : List Value} {us : List α} [SlT P T e] [TyI P e z kk bb] (k : ∀ v c', Owns c0 L c' → Hd (fun c => Sl v us c ∧ Fu v ∧ A c) c' → W P ops Q rest n (upd f d v) c'.w) (hn : Nat.blt d n = true := by exact rfl) (hi : xs.toList.map Prod.fst = List.range' 0 xs.toList.length := by exact rfl) (hx : xs.toList.map (fun p => opd f p.2) = vs := by exact rfl) (hE : EQs P e c us vs := by (focus (repeat (first | exact EQs.nil | (apply EQs.consA; (focus (have h := HA.h; (repeat (first | exact h.1 | exact h | replace h := h.2)); done))) | (apply EQs.consD; exact rfl))))) (hl : us.length = len := by exact rfl) (hk : Enc.k α = kk := by exact rfl) (hz : z.cells.size = kk := by exact rfl) (hkb : Nat.ble (len * kk) 4096 = true := by exact rfl) (hkp : Nat.blt 0 (len * kk) = true := by exact rfl) (H : Owns c0 L c := by exact H) (HA : Hd A c := by exact HA) (hMA : Mono A := by exact inferInstance) : W P ops Q (⟨some d, .buildSlice T len xs, ty, ps, af, none⟩ :: rest) n f c.w :=
  s_bslG (hn := hn) (hi := hi) (hx := hx) (hE := hE) (hl := hl) (hk := hk) (hz := hz) (hkb := hkb) (hkp := hkp) (H := H) (HA := HA) (hMA := hMA) (k := k)
theorem Z61 {T : TypeId} {z : Value} {cs : List Value} [Zer P T z] [Mono A] (k : ∀ b c', Owns c0 (.obj b (.cells cs.toArray T (0, 0)) :: L) c' → Hd A c' → W P ops Q rest n (upd f d (.pointer (some ⟨b, 0, none⟩))) c'.w) (hn : Nat.blt d n = true := by exact rfl) (hz : z.cells = cs.toArray := by conv => lhs; whnf) (H : Owns c0 L c := by exact H) (HA : Hd A c := by exact HA) : W P ops Q (⟨some d, .alloc T, ty, ps, af, none⟩ :: rest) n f c.w :=
  s_alloc (hn := hn) (hz := hz) (H := H) (HA := HA) (k := k)
theorem Z62 {t' e : TypeId} {x : Operand} {v : Value} {e' : TypeId} {kk m : Nat} {xs : List Value} [SlT P t' e] (k : W P ops Q rest n (upd f d (.int .i64 m)) c.w) (hn : Nat.blt d n = true := by exact rfl) (hx : opd f x = v := by exact rfl) (H : Owns c0 L c := by exact H) (hm : Res.row v e' kk m xs ∈ L := by (focus ((repeat (first | exact List.Mem.head _ | apply List.Mem.tail | apply List.mem_append_right)); done))) : W P ops Q (⟨some d, .call ⟨.builtin .len, #[x], #[t']⟩, ty, ps, af, none⟩ :: rest) n f c.w :=
  s_lenR (hn := hn) (hx := hx) (H := H) (hm := hm) (k := k)
theorem Z63 {T e : TypeId} {z : Value} {kk by_ : Nat} {x y : Operand} {v : Value} {i m : Nat} {q : Int} {xs : List Value} [SlT P T e] [TyI P e z kk by_] (k : ∀ v', RPt v kk i v' → W P ops Q rest n (upd f d v') c.w) (hn : Nat.blt d n = true := by exact rfl) (hx : opd f x = v := by exact rfl) (hy : opd f y = .int .i64 q := by exact rfl) (H : Owns c0 L c := by exact H) (hm : Res.row v e kk m xs ∈ L := by (focus ((repeat (first | exact List.Mem.head _ | apply List.Mem.tail | apply List.mem_append_right)); done))) (hq : q = (i : Int) := by exact rfl) (hi : i < m := by omega) : W P ops Q (⟨some d, .indexAddr T x y, ty, ps, af, none⟩ :: rest) n f c.w :=
  s_ixR (hn := hn) (hx := hx) (hy := hy) (H := H) (hm := hm) (hq := hq) (hi := hi) (k := k)
theorem Z64 {α : Type} {iE : Enc α} {val : α → Value} {T e : TypeId} {m i : Nat} {x : Operand} {v p : Value} {u : α} {acc : List α} {vals : List (List Value)} [Prim P T] (k : W P ops Q rest n (upd f d (val u)) c.w) (hn : Nat.blt d n = true := by exact rfl) (hx : opd f x = p := by exact rfl) (hr : RPt v 1 i p := by assumption) (H : Owns c0 L c := by exact H) (hm : Res.row v e 1 m vals.flatten ∈ L := by (focus ((repeat (first | exact List.Mem.head _ | apply List.Mem.tail | apply List.mem_append_right)); done))) (HV : Vals vals acc c := by (focus (have h := HA.h; (repeat (first | exact h.1 | exact h | replace h := h.2)); done))) (hu : acc[i]? = some u := by assumption) (hR : RdV α val := by exact inferInstance) : W P ops Q (⟨some d, .load T x, ty, ps, af, none⟩ :: rest) n f c.w :=
  s_ldRV (hn := hn) (hx := hx) (hr := hr) (H := H) (hm := hm) (HV := HV) (hu := hu) (hR := hR) (k := k)
theorem Z65 {T : TypeId} [Mono A] (k : ∀ b c', Owns c0 (.obj b (mObj []) :: L) c' → Hd A c' → W P ops Q rest n (upd f d (.map (some b))) c'.w) (hn : Nat.blt d n = true := by exact rfl) (H : Owns c0 L c := by exact H) (HA : Hd A c := by exact HA) : W P ops Q (⟨some d, .makeMap T none, ty, ps, af, none⟩ :: rest) n f c.w :=
  s_makeMap (hn := hn) (H := H) (HA := HA) (k := k)
theorem Z66 {T e : TypeId} {z : Value} {x y : Operand} {b : Nat} {q : Int} {es : List (Int × Value)} [MapT P T e] [Zer P e z] (k : W P ops Q rest n (upd f d (.tuple #[(mLook es q).getD z, .bool (mLook es q).isSome])) c.w) (hn : Nat.blt d n = true := by exact rfl) (hx : opd f x = .map (some b) := by exact rfl) (hy : opd f y = .int .i64 q := by exact rfl) (H : Owns c0 L c := by exact H) (hm : Res.obj b (mObj es) ∈ L := by (focus ((repeat (first | exact List.Mem.head _ | apply List.Mem.tail | apply List.mem_append_right)); done))) : W P ops Q (⟨some d, .lookup T x y true, ty, ps, af, none⟩ :: rest) n f c.w :=
  s_lookT (hn := hn) (hx := hx) (hy := hy) (H := H) (hm := hm) (k := k)
theorem Z67 {T e : TypeId} {z : Value} {x y : Operand} {b : Nat} {q : Int} {es : List (Int × Value)} [MapT P T e] [Zer P e z] (k : W P ops Q rest n (upd f d ((mLook es q).getD z)) c.w) (hn : Nat.blt d n = true := by exact rfl) (hx : opd f x = .map (some b) := by exact rfl) (hy : opd f y = .int .i64 q := by exact rfl) (H : Owns c0 L c := by exact H) (hm : Res.obj b (mObj es) ∈ L := by (focus ((repeat (first | exact List.Mem.head _ | apply List.Mem.tail | apply List.mem_append_right)); done))) : W P ops Q (⟨some d, .lookup T x y false, ty, ps, af, none⟩ :: rest) n f c.w :=
  s_lookF (hn := hn) (hx := hx) (hy := hy) (H := H) (hm := hm) (k := k)
theorem Z68 {T e : TypeId} {x y z : Operand} {b : Nat} {q : Int} {v : Value} {es : List (Int × Value)} [MapT P T e] [Mono A] (k : ∀ c', Owns c0 (.obj b (mObj (mSet es q v)) :: L) c' → Hd A c' → W P ops Q rest n f c'.w) (hx : opd f x = .map (some b) := by exact rfl) (hy : opd f y = .int .i64 q := by exact rfl) (hz : opd f z = v := by conv => lhs; whnf) (H : Owns c0 (.obj b (mObj es) :: L) c := by exact H) (HA : Hd A c := by exact HA) : W P ops Q (⟨none, .mapUpdate T x y z, ty, ps, af, none⟩ :: rest) n f c.w :=
  s_mapUpdate (hx := hx) (hy := hy) (hz := hz) (H := H) (HA := HA) (k := k)
theorem Z69 {T e : TypeId} {x y z : Operand} {b : Nat} {q : Int} {v : Value} {es : List (Int × Value)} [MapT P T e] [Mono A] (k : ∀ c', Owns c0 (.obj b (mObj (mSet es q v)) :: L) c' → Hd A c' → W P ops Q rest n f c'.w) (hx : opd f x = .map (some b) := by exact rfl) (hy : opd f y = .int .i64 q := by exact rfl) (hz : opd f z = v := by conv => lhs; whnf) (H : Owns c0 (.obj b (mObj es) :: L) c := by exact H.swap) (HA : Hd A c := by exact HA) : W P ops Q (⟨none, .mapUpdate T x y z, ty, ps, af, none⟩ :: rest) n f c.w :=
  s_mapUpdate (hx := hx) (hy := hy) (hz := hz) (H := H) (HA := HA) (k := k)
theorem Z70 {T e : TypeId} {x y z : Operand} {b : Nat} {q : Int} {v : Value} {es : List (Int × Value)} [MapT P T e] [Mono A] (k : ∀ c', Owns c0 (.obj b (mObj (mSet es q v)) :: L) c' → Hd A c' → W P ops Q rest n f c'.w) (hx : opd f x = .map (some b) := by exact rfl) (hy : opd f y = .int .i64 q := by exact rfl) (hz : opd f z = v := by conv => lhs; whnf) (H : Owns c0 (.obj b (mObj es) :: L) c := by exact H.swap2) (HA : Hd A c := by exact HA) : W P ops Q (⟨none, .mapUpdate T x y z, ty, ps, af, none⟩ :: rest) n f c.w :=
  s_mapUpdate (hx := hx) (hy := hy) (hz := hz) (H := H) (HA := HA) (k := k)
theorem Z71 {T e : TypeId} {x : Operand} {b : Nat} {es : List (Int × Value)} [MapT P T e] (k : W P ops Q rest n (upd f d (.int .i64 es.length)) c.w) (hn : Nat.blt d n = true := by exact rfl) (hx : opd f x = .map (some b) := by exact rfl) (hm : MapAt b es c := by (focus (have h := HA.h; (repeat (first | exact h.1 | exact h | replace h := h.2)); done))) : W P ops Q (⟨some d, .call ⟨.builtin .len, #[x], #[T]⟩, ty, ps, af, none⟩ :: rest) n f c.w :=
  s_lenMF (hn := hn) (hx := hx) (hm := hm) (k := k)
theorem Z72 {T e : TypeId} {x : Operand} {b : Nat} {es : List (Int × Value)} [MapT P T e] (k : W P ops Q rest n (upd f d (.int .i64 es.length)) c.w) (hn : Nat.blt d n = true := by exact rfl) (hx : opd f x = .map (some b) := by exact rfl) (H : Owns c0 L c := by exact H) (hm : Res.obj b (mObj es) ∈ L := by (focus ((repeat (first | exact List.Mem.head _ | apply List.Mem.tail | apply List.mem_append_right)); done))) : W P ops Q (⟨some d, .call ⟨.builtin .len, #[x], #[T]⟩, ty, ps, af, none⟩ :: rest) n f c.w :=
  s_lenM (hn := hn) (hx := hx) (H := H) (hm := hm) (k := k)
theorem Z73 {T e : TypeId} {x : Operand} {b : Nat} {es : List (Int × Value)} [MapT P T e] [Mono A] (k : ∀ r c', Owns c0 (.obj r (itObj b es.length []) :: L) c' → Hd A c' → W P ops Q rest n (upd f d (.pointer (some ⟨r, 0, none⟩))) c'.w) (hn : Nat.blt d n = true := by exact rfl) (hx : opd f x = .map (some b) := by exact rfl) (hm : MapAt b es c := by exact (by have h := HA.h; (repeat (first | exact h.1 | exact h | replace h := h.2)); done)) (H : Owns c0 L c := by exact H) (HA : Hd A c := by exact HA) : W P ops Q (⟨some d, .range T x, ty, ps, af, none⟩ :: rest) n f c.w :=
  s_range (hn := hn) (hx := hx) (hm := hm) (H := H) (HA := HA) (k := k)
theorem Z74 {T T' : TypeId} {kk o b : Nat} {x y : Operand} {cs cs' vs : List Value} [Agg P T' kk] [Mono A] (k : ∀ c', Owns c0 (.obj b (.cells cs'.toArray T (0, 0)) :: L) c' → Hd A c' → W P ops Q rest n f c'.w) (hx : opd f x = .pointer (some ⟨b, o, none⟩) := by exact rfl) (hy : opd f y = .agg vs.toArray := by exact rfl) (H : Owns c0 (.obj b (.cells cs.toArray T (0, 0)) :: L) c := by exact H) (HA : Hd A c := by exact HA) (hl : vs.length = kk := by exact rfl) (h1 : ∀ v ∈ vs, v.oneCell' = true := by (focus ((repeat' (first | exact rfl | exact ones_nil | refine ones_cons ?_ ?_ | (have h := HA.h; (repeat (first | exact Sl.oneC h.1 | exact Sl.oneC h | replace h := h.2)); done) | exact H.rowOne (by repeat (first | exact List.Mem.head _ | apply List.Mem.tail | apply List.mem_append_right)))); done))) (hp : LPut cs o vs cs' := by exact (by repeat constructor)) : W P ops Q (⟨none, .store T' x y, ty, ps, af, none⟩ :: rest) n f c.w :=
  s_storeA (hx := hx) (hy := hy) (H := H) (HA := HA) (hl := hl) (h1 := h1) (hp := hp) (k := k)
theorem Z75 {T T' : TypeId} {o b : Nat} {x y : Operand} {cs cs' : List Value} {v : Value} [Prim P T'] [Mono A] (k : ∀ c', Owns c0 (.obj b (.cells cs'.toArray T (0, 0)) :: L) c' → Hd A c' → W P ops Q rest n f c'.w) (hx : opd f x = .pointer (some ⟨b, o, none⟩) := by exact rfl) (hy : opd f y = v := by conv => lhs; whnf) (hv : v.cells = #[v] := by first | exact rfl | (have h := HA.h; (repeat (first | exact Sl.cellsC h.1 | exact Sl.cellsC h | replace h := h.2)); done) | exact H.rowCells (by repeat (first | exact List.Mem.head _ | apply List.Mem.tail | apply List.mem_append_right))) (H : Owns c0 (.obj b (.cells cs.toArray T (0, 0)) :: L) c := by exact H) (HA : Hd A c := by exact HA) (h1 : v.oneCell' = true := by first | exact rfl | (have h := HA.h; (repeat (first | exact Sl.oneC h.1 | exact Sl.oneC h | replace h := h.2)); done) | exact H.rowOne (by repeat (first | exact List.Mem.head _ | apply List.Mem.tail | apply List.mem_append_right))) (hp : LPut cs o [v] cs' := by exact (by repeat constructor)) : W P ops Q (⟨none, .store T' x y, ty, ps, af, none⟩ :: rest) n f c.w :=
  s_storeP (hx := hx) (hy := hy) (hv := hv) (H := H) (HA := HA) (h1 := h1) (hp := hp) (k := k)
theorem Z76 {T T' : TypeId} {kk o b : Nat} {x y : Operand} {cs cs' vs : List Value} [Agg P T' kk] [Mono A] (k : ∀ c', Owns c0 (.obj b (.cells cs'.toArray T (0, 0)) :: L) c' → Hd A c' → W P ops Q rest n f c'.w) (hx : opd f x = .pointer (some ⟨b, o, none⟩) := by exact rfl) (hy : opd f y = .agg vs.toArray := by exact rfl) (H : Owns c0 (.obj b (.cells cs.toArray T (0, 0)) :: L) c := by exact H.swap) (HA : Hd A c := by exact HA) (hl : vs.length = kk := by exact rfl) (h1 : ∀ v ∈ vs, v.oneCell' = true := by (focus ((repeat' (first | exact rfl | exact ones_nil | refine ones_cons ?_ ?_ | (have h := HA.h; (repeat (first | exact Sl.oneC h.1 | exact Sl.oneC h | replace h := h.2)); done) | exact H.rowOne (by repeat (first | exact List.Mem.head _ | apply List.Mem.tail | apply List.mem_append_right)))); done))) (hp : LPut cs o vs cs' := by exact (by repeat constructor)) : W P ops Q (⟨none, .store T' x y, ty, ps, af, none⟩ :: rest) n f c.w :=
  s_storeA (hx := hx) (hy := hy) (H := H) (HA := HA) (hl := hl) (h1 := h1) (hp := hp) (k := k)
theorem Z77 {T T' : TypeId} {o b : Nat} {x y : Operand} {cs cs' : List Value} {v : Value} [Prim P T'] [Mono A] (k : ∀ c', Owns c0 (.obj b (.cells cs'.toArray T (0, 0)) :: L) c' → Hd A c' → W P ops Q rest n f c'.w) (hx : opd f x = .pointer (some ⟨b, o, none⟩) := by exact rfl) (hy : opd f y = v := by conv => lhs; whnf) (hv : v.cells = #[v] := by first | exact rfl | (have h := HA.h; (repeat (first | exact Sl.cellsC h.1 | exact Sl.cellsC h | replace h := h.2)); done) | exact H.rowCells (by repeat (first | exact List.Mem.head _ | apply List.Mem.tail | apply List.mem_append_right))) (H : Owns c0 (.obj b (.cells cs.toArray T (0, 0)) :: L) c := by exact H.swap) (HA : Hd A c := by exact HA) (h1 : v.oneCell' = true := by first | exact rfl | (have h := HA.h; (repeat (first | exact Sl.oneC h.1 | exact Sl.oneC h | replace h := h.2)); done) | exact H.rowOne (by repeat (first | exact List.Mem.head _ | apply List.Mem.tail | apply List.mem_append_right))) (hp : LPut cs o [v] cs' := by exact (by repeat constructor)) : W P ops Q (⟨none, .store T' x y, ty, ps, af, none⟩ :: rest) n f c.w :=
  s_storeP (hx := hx) (hy := hy) (hv := hv) (H := H) (HA := HA) (h1 := h1) (hp := hp) (k := k)
theorem Z78 {T T' : TypeId} {kk o b : Nat} {x y : Operand} {cs cs' vs : List Value} [Agg P T' kk] [Mono A] (k : ∀ c', Owns c0 (.obj b (.cells cs'.toArray T (0, 0)) :: L) c' → Hd A c' → W P ops Q rest n f c'.w) (hx : opd f x = .pointer (some ⟨b, o, none⟩) := by exact rfl) (hy : opd f y = .agg vs.toArray := by exact rfl) (H : Owns c0 (.obj b (.cells cs.toArray T (0, 0)) :: L) c := by exact H.swap2) (HA : Hd A c := by exact HA) (hl : vs.length = kk := by exact rfl) (h1 : ∀ v ∈ vs, v.oneCell' = true := by (focus ((repeat' (first | exact rfl | exact ones_nil | refine ones_cons ?_ ?_ | (have h := HA.h; (repeat (first | exact Sl.oneC h.1 | exact Sl.oneC h | replace h := h.2)); done) | exact H.rowOne (by repeat (first | exact List.Mem.head _ | apply List.Mem.tail | apply List.mem_append_right)))); done))) (hp : LPut cs o vs cs' := by exact (by repeat constructor)) : W P ops Q (⟨none, .store T' x y, ty, ps, af, none⟩ :: rest) n f c.w :=
  s_storeA (hx := hx) (hy := hy) (H := H) (HA := HA) (hl := hl) (h1 := h1) (hp := hp) (k := k)
theorem Z79 {T T' : TypeId} {o b : Nat} {x y : Operand} {cs cs' : List Value} {v : Value} [Prim P T'] [Mono A] (k : ∀ c', Owns c0 (.obj b (.cells cs'.toArray T (0, 0)) :: L) c' → Hd A c' → W P ops Q rest n f c'.w) (hx : opd f x = .pointer (some ⟨b, o, none⟩) := by exact rfl) (hy : opd f y = v := by conv => lhs; whnf) (hv : v.cells = #[v] := by first | exact rfl | (have h := HA.h; (repeat (first | exact Sl.cellsC h.1 | exact Sl.cellsC h | replace h := h.2)); done) | exact H.rowCells (by repeat (first | exact List.Mem.head _ | apply List.Mem.tail | apply List.mem_append_right))) (H : Owns c0 (.obj b (.cells cs.toArray T (0, 0)) :: L) c := by exact H.swap2) (HA : Hd A c := by exact HA) (h1 : v.oneCell' = true := by first | exact rfl | (have h := HA.h; (repeat (first | exact Sl.oneC h.1 | exact Sl.oneC h | replace h := h.2)); done) | exact H.rowOne (by repeat (first | exact List.Mem.head _ | apply List.Mem.tail | apply List.mem_append_right))) (hp : LPut cs o [v] cs' := by exact (by repeat constructor)) : W P ops Q (⟨none, .store T' x y, ty, ps, af, none⟩ :: rest) n f c.w :=
  s_storeP (hx := hx) (hy := hy) (hv := hv) (H := H) (HA := HA) (h1 := h1) (hp := hp) (k := k)
theorem Z81 {r : Bool} (k : W P ops Q rest n (upd f d (.bool r)) w) (hn : Nat.blt d n = true := by exact rfl) (hx : opd f x = .int kd a := by exact rfl) (hy : opd f y = .int kd b := by exact rfl) (hr : decide (a < b) = r := by (first | exact dt (by assumption) | exact df (by assumption))) : W P ops Q (⟨some d, .binOp .lss T x y T', ty, ps, af, none⟩ :: rest) n f w :=
  z_ltI (hn := hn) (hx := hx) (hy := hy) (hr := hr) (k := k)
theorem Z82 {r : Bool} (k : W P ops Q rest n (upd f d (.bool r)) w) (hn : Nat.blt d n = true := by exact rfl) (hx : opd f x = .int kd a := by exact rfl) (hy : opd f y = .int kd b := by exact rfl) (hr : (!decide (a = b)) = r := by (first | exact nt (by assumption) | exact nf (by assumption))) : W P ops Q (⟨some d, .binOp .neq T x y T', ty, ps, af, none⟩ :: rest) n f w :=
  z_neI (hn := hn) (hx := hx) (hy := hy) (hr := hr) (k := k)
theorem Z85 {r : Bool} (k : W P ops Q rest n (upd f d (.bool r)) w) (hn : Nat.blt d n = true := by exact rfl) (hx : opd f x = .int kd a := by exact rfl) (hy : opd f y = .int kd b := by exact rfl) (hr : decide (b ≤ a) = r := by (first | exact dt (by assumption) | exact df (by assumption))) : W P ops Q (⟨some d, .binOp .geq T x y T', ty, ps, af, none⟩ :: rest) n f w :=
  z_geI (hn := hn) (hx := hx) (hy := hy) (hr := hr) (k := k)
theorem Z86 {r : Bool} (k : W P ops Q rest n (upd f d (.bool r)) w) (hn : Nat.blt d n = true := by exact rfl) (hx : opd f x = .string s := by exact rfl) (hy : opd f y = .string t := by exact rfl) (hr : decide (s = t) = r := by (first | exact dt (by assumption) | exact df (by assumption))) : W P ops Q (⟨some d, .binOp .eql T x y T', ty, ps, af, none⟩ :: rest) n f w :=
  s_eqS (hn := hn) (hx := hx) (hy := hy) (hr := hr) (k := k)
theorem Z92  (kt : a = b → W P ops Q rest n (upd f d (.bool true)) w) (kf : ¬ a = b → W P ops Q rest n (upd f d (.bool false)) w) (hn : Nat.blt d n = true := by exact rfl) (hx : opd f x = .int kd a := by exact rfl) (hy : opd f y = .int kd b := by exact rfl) : W P ops Q (⟨some d, .binOp .eql T x y T', ty, ps, af, none⟩ :: rest) n f w :=
  c_eq (hn := hn) (hx := hx) (hy := hy) (kt := kt) (kf := kf)
theorem Z93  (kt : a < b → W P ops Q rest n (upd f d (.bool true)) w) (kf : ¬ a < b → W P ops Q rest n (upd f d (.bool false)) w) (hn : Nat.blt d n = true := by exact rfl) (hx : opd f x = .int kd a := by exact rfl) (hy : opd f y = .int kd b := by exact rfl) : W P ops Q (⟨some d, .binOp .lss T x y T', ty, ps, af, none⟩ :: rest) n f w :=
  c_lt (hn := hn) (hx := hx) (hy := hy) (kt := kt) (kf := kf)
theorem Z94  (kt : ¬ a = b → W P ops Q rest n (upd f d (.bool true)) w) (kf : a = b → W P ops Q rest n (upd f d (.bool false)) w) (hn : Nat.blt d n = true := by exact rfl) (hx : opd f x = .int kd a := by exact rfl) (hy : opd f y = .int kd b := by exact rfl) : W P ops Q (⟨some d, .binOp .neq T x y T', ty, ps, af, none⟩ :: rest) n f w :=
  c_ne (hn := hn) (hx := hx) (hy := hy) (kt := kt) (kf := kf)
theorem Z95  (kt : a ≤ b → W P ops Q rest n (upd f d (.bool true)) w) (kf : ¬ a ≤ b → W P ops Q rest n (upd f d (.bool false)) w) (hn : Nat.blt d n = true := by exact rfl) (hx : opd f x = .int kd a := by exact rfl) (hy : opd f y = .int kd b := by exact rfl) : W P ops Q (⟨some d, .binOp .leq T x y T', ty, ps, af, none⟩ :: rest) n f w :=
  c_le (hn := hn) (hx := hx) (hy := hy) (kt := kt) (kf := kf)
theorem Z96  (kt : b < a → W P ops Q rest n (upd f d (.bool true)) w) (kf : ¬ b < a → W P ops Q rest n (upd f d (.bool false)) w) (hn : Nat.blt d n = true := by exact rfl) (hx : opd f x = .int kd a := by exact rfl) (hy : opd f y = .int kd b := by exact rfl) : W P ops Q (⟨some d, .binOp .gtr T x y T', ty, ps, af, none⟩ :: rest) n f w :=
  c_gt (hn := hn) (hx := hx) (hy := hy) (kt := kt) (kf := kf)
theorem Z97  (kt : b ≤ a → W P ops Q rest n (upd f d (.bool true)) w) (kf : ¬ b ≤ a → W P ops Q rest n (upd f d (.bool false)) w) (hn : Nat.blt d n = true := by exact rfl) (hx : opd f x = .int kd a := by exact rfl) (hy : opd f y = .int kd b := by exact rfl) : W P ops Q (⟨some d, .binOp .geq T x y T', ty, ps, af, none⟩ :: rest) n f w :=
  c_ge (hn := hn) (hx := hx) (hy := hy) (kt := kt) (kf := kf)
theorem Z98  (kt : s = t → W P ops Q rest n (upd f d (.bool true)) w) (kf : ¬ s = t → W P ops Q rest n (upd f d (.bool false)) w) (hn : Nat.blt d n = true := by exact rfl) (hx : opd f x = .string s := by exact rfl) (hy : opd f y = .string t := by exact rfl) : W P ops Q (⟨some d, .binOp .eql T x y T', ty, ps, af, none⟩ :: rest) n f w :=
  c_eqS (hn := hn) (hx := hx) (hy := hy) (kt := kt) (kf := kf)
theorem Z99  (kt : ¬ s = t → W P ops Q rest n (upd f d (.bool true)) w) (kf : s = t → W P ops Q rest n (upd f d (.bool false)) w) (hn : Nat.blt d n = true := by exact rfl) (hx : opd f x = .string s := by exact rfl) (hy : opd f y = .string t := by exact rfl) : W P ops Q (⟨some d, .binOp .neq T x y T', ty, ps, af, none⟩ :: rest) n f w :=
  c_neS (hn := hn) (hx := hx) (hy := hy) (kt := kt) (kf := kf)
end
end Go.Wk
