/- a part of the proof: lemmas on walks, on plain data, contracts of functions. -/
import Derived.Ground.SlsfProg
import Derived.Shelf.Spec.SlicesGrow
import Derived.Ground.Names7Prog
import Derived.Test.YthkdggoohpgnnaaGreatDoorA2
import Derived.Test.YthkdggoohpgnnaaGreatDoorA4
import Derived.Test.YthkdggoohpgnnaaGreatDoorA5
import Derived.Test.YthkdggoohpgnnaaGreatDoorA9
set_option linter.all false
/- Rows of terms sorted, of the program's own. -/
namespace Go.Proofs
open Go.Shelf
end Go.Proofs
namespace Go.Wk
open Go
/-- A row of bindings sorted: what the call leaves. -/
def SortR {α : Type} [Enc α] (c0 : Cx) (L : List Res) (A : Cx → Prop) (v : Value) (e : TypeId) (kk : Nat) (cmp : α → α → Int) (xs : List α) : Ending → World → Prop := fun en w' => en = .returned (.tuple #[]) ∧ ∃ c' vals' xs', c'.w = w' ∧ xs'.Perm xs ∧ xs'.Pairwise (fun a b => cmp a b ≤ 0) ∧ Owns c0 (.row v e kk xs'.length vals'.flatten :: L) c' ∧ Hd A c' ∧ Vals vals' xs' c'
section
variable {P : Program} {ops : Array Oper} {Q : Exit → Act → World → Prop} {n : Nat} {f : Nat → Value} {rest : List Oper} {ty : TypeId} {ps : String} {af : Array Edge} {d : Tmp}
variable {c0 c : Cx} {L : List Res} {A : Cx → Prop}
theorem s_sortC {α : Type} [Enc α] {gs : FuncId} {cmp : α → α → Int} {os : Array Operand} {aT : Array TypeId} {vs : List Value} {v : Value} {e : TypeId} {kk : Nat} {xs : List α} (hn : Nat.blt d n = true) [Ent P gs] (hx : os.toList.map (opd f) = vs) (hc : Calls P gs vs.toArray c.w (SortR c0 L A v e kk cmp xs))
    (k : ∀ c' vals' xs', xs'.Perm xs → xs'.Pairwise (fun a b => cmp a b ≤ 0) → Owns c0 (.row v e kk xs'.length vals'.flatten :: L) c' → Hd (fun c => Vals vals' xs' c ∧ A c) c' → W P ops Q rest n (upd f d (.tuple #[])) c'.w) :
    W P ops Q (⟨some d, .call ⟨.value (.func gs), os, aT⟩, ty, ps, af, none⟩ :: rest) n f c.w := by
  rw [← hx] at hc
  refine st_enter hn (g := gs) (args := (os.toList.map (opd f)).toArray) (by simp [execOp, resolve, Deferred.ofValue, show opd f (.func gs) = .func (.func gs) #[] #[] from rfl, invoke, Ent.h, ← Array.toList_map]) (R := fun r w' => SortR c0 L A v e kk cmp xs (.returned r) w') (hc.mono fun en w' h => ⟨_, h.1, by have := h.1; subst this; exact h⟩) ?_
  rintro r w' ⟨he, c', vals', xs', rfl, h1, h2, h3, h4, h5⟩
  cases he
  exact k c' vals' xs' h1 h2 h3 (h4.add h5)
theorem Calls.of {g : FuncId} {fn : Func} {x : Code} {args : List Value} {w : World} {R : Ending → World → Prop} (hf : P.funcs[g]? = some fn) (hn : fn.ntmps = n) (hb : fn.body = some x) (hl : Nat.ble args.length n = true)
    (h : WC P x (bodyPost P fn R) n (frame0 args) w) : Calls P g args.toArray w R := calls_of_wp hf hb (by subst hn; exact h.go _ (frIs0 (Nat.le_of_ble_eq_true hl)))
theorem norm_any {fn : Func} {R : Ending → World → Prop} {v : Value} {w : World} (ho : Outs P fn f w v) (hR : R (.returned v) w) : WX (bodyPost P fn R) .normal n f w := ⟨fun a ha => ⟨ha.defers, v, ho _ ha.at_, hR⟩⟩
end
end Go.Wk
namespace Go.Proofs.YthkdggoohpgnnaaGreatDoor
open Go Go.Wk Go.Lib
instance : CvI Tryz.prog 3 144 .u64 := .of (by kernel_rfl) (by kernel_rfl)
theorem bits_Len (m : Nat) (c : Cx) (h : m < 4611686018427387904) : Cn Tryz.prog 137 [.int .u64 m] c (fun v _ => v = .int .i64 (Lib.bitLen m : Nat)) := Cn.same (by
  have h := Any.bits_Len (SlLaysF0.n15.bits (P := Tryz.prog) { Tryz.sortTm with }) (m : Int) c.w (by omega) (by omega)
  rwa [Int.toNat_natCast] at h)
theorem term_sorted1 (a b : Bd) (c : Cx) : Cn Tryz.prog 153 [.agg a.cs.toArray, .agg b.cs.toArray] c (fun v _ => v = .int .i64 (cmpB a b)) := by
  refine Cn.of Tryz.func153 Tryz.ntmps153 rfl rfl fun hm H HA => ?_
  (apply wc_seq; apply wc_region; refine Z31 fun bx c H HA => ?_; refine Z31 fun bx c H HA => ?_; refine Z2 ?_; apply w_nil; apply wx_next; apply wc_seq; apply wc_region; refine Z3 ?_; refine Z1 ?_; refine Z3 ?_; refine Z1 ?_)
  (refine s_call rfl rfl H HA (cmp_Compare _ _ _) ?_; intro vx c H HP; have hvx := HP.h.1; have HA := HP.cut; subst hvx)
  (refine Z2 ?_; apply w_nil; apply wx_next; apply wc_ret)
  exact ret_fn H hm (outs1 Tryz.results153 Wh) (by rw [cmpB])
theorem insBd_0 (p : Option Addr) (cap : Nat) (fv : Value) (c : Cx) : Cn Tryz.prog 188 [.slice p 0 cap, .int .i64 0, .int .i64 0, fv] c (fun v _ => v = .tuple #[]) := by
  refine Cn.of Tryz.func188 Tryz.ntmps188 rfl rfl fun hm H HA => ?_
  (apply wc_seq; apply wc_region; refine Z0 ?_; refine Z48 ?_; refine Z2 ?_; apply w_nil; apply wx_next; apply wc_block)
  refine wc_loopN 0 (fun _ => [(2, .int .i64 0), (8, .int .i64 (0 + 1))]) (fun _ => True) 0 H HA Ks (Nat.zero_le _) trivial ?_
  intro k g c hk hp H HA
  (focus (apply wc_seq; apply wc_seq; apply wc_region; refine Z0 ?_; refine Z0 ?_; refine Z93 (fun hq => ?_) fun hq => ?_; apply w_nil; apply wx_next; refine Z18 ?_; apply wc_skip; apply wx_next; apply wc_seq; apply wc_block; apply wc_seq; apply wc_region; refine Z0 ?_; refine Z2 ?_; apply w_nil; apply wx_next; apply wc_block; rotate_left; apply w_nil; apply wx_next; refine Z19 ?_; apply wc_exit; apply wx_exit_then; apply wx_exit_then; apply wx_exit_same; rotate_left))
  · exfalso; omega
  · exact norm_fn H hm (outs0 rfl) rfl
theorem pdqBd_0 (p : Option Addr) (cap : Nat) (c : Cx) : Cn Tryz.prog 178 [.slice p 0 cap, .int .i64 0, .int .i64 (0 : Nat), .int .i64 (Lib.bitLen 0 : Nat), .func (.func 153) #[] #[]] c (fun v _ => v = .tuple #[]) := by
  refine Cn.of Tryz.func178 Tryz.ntmps178 rfl rfl fun hm H HA => ?_
  (apply wc_seq; apply wc_region; refine Z2 ?_; apply w_nil; apply wx_next; apply wc_seq; apply wc_region; refine Z2 ?_; apply w_nil; apply wx_next; apply wc_block)
  refine wc_loopN 0 (fun _ => [(0, .slice p 0 cap), (1, .int .i64 0), (2, .int .i64 (0 : Nat)), (4, .func (.func 153) #[] #[])]) (fun _ => True) 0 H HA Ks (Nat.zero_le _) trivial ?_
  intro k g c hk hp H HA
  (focus (apply wc_block; apply wc_seq; apply wc_region; refine Z0 ?_; refine Z0 ?_; refine Z50 ?_; refine Z2 ?_; apply w_nil; apply wx_next; apply wc_seq; apply wc_seq; apply wc_region; refine Z0 ?_; refine Z95 (fun hq => ?_) fun hq => ?_; apply w_nil; apply wx_next; refine Z18 ?_; apply wc_seq; apply wc_region; refine Z0 ?_; refine Z0 ?_; refine Z0 ?_; refine Z0 ?_; rotate_left; apply w_nil; apply wx_next; refine Z19 ?_; apply wc_skip; apply wx_next; apply wc_seq; apply wc_seq; apply wc_region; refine Z0 ?_; rotate_left))
  · (refine s_call rfl rfl H HA (insBd_0 _ _ _ _) ?_; intro vx c H HP; have hvx := HP.h.1; have HA := HP.cut; subst hvx)
    (apply w_nil; apply wx_next; apply wc_ret; apply wx_ret_then; apply wx_ret_block; apply wx_ret_then; apply wx_ret_block)
    exact ret_fn H hm (outs0 rfl) rfl
  all_goals (exfalso; omega)
theorem pdqBd_q : SortsQ Tryz.prog 178 (fun v m => [v, .int .i64 0, .int .i64 m, .int .i64 (Lib.bitLen m : Nat), .func (.func 153) #[] #[]]) 4 153 := by
  have hf : Tryz.pdqBd_ren.f 14 = 178 := by kernel_rfl
  have ht : Tryz.pdqBd_ren.t 24 = 111 := by kernel_rfl
  have h := pdq_q Tryz.pdqBd (kk := 4) (g := 153) (by rw [ht]; exact Agg.ag) (by rw [ht]; exact Agg.sz) Ent.h
  rw [hf] at h
  exact h
theorem sortBd (xs : List Bd) {c0 c : Cx} {L : List Res} {A : Cx → Prop} [Mono A] {v : Value} {vals : List (List Value)} (H : Owns c0 (.row v 111 4 xs.length vals.flatten :: L) c) (HA : Hd A c) (HV : Vals vals xs c) (hlim : xs.length < 1099511627776) :
    Calls Tryz.prog 152 [v, .func (.func 153) #[] #[]].toArray c.w (SortR c0 L A v 111 4 cmpB xs) := by
  refine Calls.of Tryz.func152 Tryz.ntmps152 rfl rfl ?_
  have HA := HA.add HV
  (apply wc_seq; apply wc_region; refine Z0 ?_; refine Z62 ?_; refine Z2 ?_; apply w_nil; apply wx_next; apply wc_region; refine Z0 ?_; refine Z0 ?_; refine Z0 ?_)
  refine s_conv rfl rfl (show IntKind.u64.wrap (xs.length : Int) = xs.length by simp [IntKind.wrap, IntKind.bits, IntKind.signed]; omega) ?_
  (refine s_call rfl rfl H HA (bits_Len _ _ (by omega)) ?_; intro vx c H HP; have hvx := HP.h.1; have HA := HP.cut; subst hvx)
  (refine Z0 ?_)
  refine s_sort (P := Tryz.prog) (xs := xs) (good := fun _ => True) (cmp := cmpB) (kk := 4) pdqBd_q pdqBd_0 rfl cmpB_p3 rfl rfl H Lk HA (fun _ _ => trivial) ?_ (by omega) ?_
  · rintro x y u1 u2 c' _ _ ⟨_, rfl, rfl⟩ ⟨_, rfl, rfl⟩ _
    exact term_sorted1 x y c'
  intro c' vals' xs' h1 h2 H HA
  (apply w_nil)
  exact norm_any (outs0 rfl) ⟨rfl, c', vals', xs', rfl, h1, h2, H, HA.cut.cut, HA.h.1⟩
end Go.Proofs.YthkdggoohpgnnaaGreatDoor
/- Contracts: a map of terms as a binding in order, of the program's own. -/
namespace Go.Wk
open Go
def bMap (l : List Bd) : List (Int × Value) := l.map fun b => (b.var, .agg b.to.cs.toArray)
theorem bMap_get {l : List Bd} {i : Nat} {q : Int × Value} (h : (bMap l)[i]? = some q) : ∃ b, l[i]? = some b ∧ q = (b.var, .agg b.to.cs.toArray) := by
  simp only [bMap, List.getElem?_map, Option.map_eq_some_iff] at h
  obtain ⟨b, hb, e⟩ := h
  exact ⟨b, hb, e.symm⟩
theorem nodup_lt : ∀ (n : Nat) (l : List Nat), l.Nodup → (∀ i ∈ l, i < n) → l.length ≤ n
  | 0, l, _, h => by
    cases l with
    | nil => simp
    | cons a l => exact absurd (h a (List.mem_cons_self ..)) (by omega)
  | n + 1, l, hn, h => by
    have h2 := nodup_lt n (l.erase n) (hn.erase n) (fun i hi => by
      have h3 := (hn.mem_erase_iff).1 hi
      have := h i h3.2
      omega)
    rw [List.length_erase] at h2
    split at h2 <;> omega
theorem perm_of_seen {α : Type} {l acc : List α} {seen : List Nat} (h1 : acc.map some = seen.map (l[·]?)) (h2 : seen.Nodup) (h3 : ∀ i, i < l.length → i ∈ seen) (h4 : ∀ i ∈ seen, i < l.length) : acc.Perm l := by
  have hp : seen.Perm (List.range l.length) := (List.perm_ext_iff_of_nodup h2 List.nodup_range).2 fun i => ⟨fun h => List.mem_range.2 (h4 i h), fun h => h3 i (List.mem_range.1 h)⟩
  have h5 := hp.map (l[·]?)
  rw [← h1] at h5
  have h6 : (List.range l.length).map (l[·]?) = l.map some := by
    apply List.ext_getElem?
    intro i
    by_cases hi : i < l.length
    · simp [hi]
    · simp [hi]
  rw [h6] at h5
  have h7 := h5.filterMap id
  simpa using h7
end Go.Wk
namespace Go.Proofs.YthkdggoohpgnnaaGreatDoor
open Go Go.Wk
instance : MapT Tryz.prog 138 23 := ⟨3, .i64, by kernel_rfl, by kernel_rfl⟩
theorem term_sorted (l : List Bd) (mb : Nat) (c : Cx) (h : MapAt mb (bMap l) c) (hlim : l.length < 1099511627776) : Cn Tryz.prog 130 [.map (some mb)] c (fun v c => ∃ out : List Bd, Sl v out c ∧ out.Perm l ∧ out.Pairwise (fun a b => cmpB a b ≤ 0)) := by
  refine Cn.of Tryz.func130 Tryz.ntmps130 rfl rfl fun hm H HA => ?_
  have HA := HA.add h
  have hml : (bMap l).length = l.length := by simp [bMap]
  (apply wc_seq; apply wc_region; refine Z2 ?_; apply w_nil; apply wx_next; apply wc_seq; apply wc_region; refine Z0 ?_; refine Z71 ?_)
  (refine s_makeC rfl rfl rfl rfl (by simp only [LIM]; omega) H HA inferInstance ?_; intro vx c H HA)
  have H : Owns _ [.row vx 111 4 ([] : List Bd).length ([] : List (List Value)).flatten] _ := H
  have HA := HA.add (Vals.nil (α := Bd) c)
  (refine Z2 ?_; apply w_nil; apply wx_next; apply wc_seq; apply wc_seq; apply wc_region; refine Z0 ?_; refine Z73 fun rx c H HA => ?_; apply w_nil; apply wx_next; apply wc_block)
  (obtain ⟨r0, rfl⟩ : ∃ x, x = rx := ⟨_, rfl⟩)
  rw [hml] at H
  refine wc_loopG (σ := List Nat × List Bd × Value × List (List Value)) (fun y => l.length - y.1.length) (fun y => [(3, y.2.2.1), (10, .pointer (some ⟨r0, 0, none⟩))])
    (fun y => y.2.1.map some = y.1.map (l[·]?) ∧ y.1.Nodup ∧ (∀ i ∈ y.1, i < l.length) ∧ y.2.1.length = y.1.length)
    (fun y => [.obj r0 (itObj mb l.length y.1), .row y.2.2.1 111 4 y.2.1.length y.2.2.2.flatten])
    (fun y c => Vals y.2.2.2 y.2.1 c) ([], [], vx, []) H HA Lk Ks ⟨rfl, List.nodup_nil, (fun _ h => by cases h), rfl⟩ ?_
  intro y g c hp H HA
  obtain ⟨seen, acc, vr, vals⟩ := y
  obtain ⟨hacc, hnd, hsl, hlen⟩ := hp
  dsimp only at hacc hnd hsl hlen H HA ⊢
  (apply wc_seq; apply wc_region)
  rw [← hml] at H
  refine s_next rfl rfl Lk H HA ?_ ?_
  · intro hall
    rw [hml] at hall H
    (refine Z32 ?_; apply w_nil; apply wx_next; apply wc_seq; refine Z19 ?_; apply wc_exit; apply wx_exit_then; apply wx_exit_then; apply wx_exit_same; apply wx_next; apply wc_seq; apply wc_region; refine Z0 ?_)
    have hpm := perm_of_seen hacc hnd hall hsl
    have hll := hpm.length_eq
    have H := H.drop
    refine s_sortC rfl rfl (sortBd acc H HA Lk (by omega)) ?_
    intro c' vals' out hp hs H HA
    have hol := hp.length_eq
    (apply w_nil; apply wx_next; apply wc_seq; apply wc_region; refine Z0 ?_; refine Z2 ?_; apply w_nil; apply wx_next; apply wc_ret)
    (refine wx_freezeRow H HA Lk rfl rfl (by simp only [LIM]; omega) ?_; intro c H HA)
    exact ret_fn H hm (outs1 Tryz.results130 Wh) ⟨out, Lk, hp.trans hpm, hs⟩
  · intro i q c hi hn H HA
    obtain ⟨b, hb, rfl⟩ := bMap_get hi
    have hil : i < l.length := (List.getElem?_eq_some_iff.1 hb).1
    (refine Z32 ?_; apply w_nil; apply wx_next; apply wc_seq; refine Z18 ?_; apply wc_skip; apply wx_next; apply wc_block; apply wc_seq; apply wc_region)
    refine s_entry rfl rfl Lk H (List.Mem.head _) hi ?_
    rw [hml] at H
    (refine Z32 ?_; refine Z32 ?_; refine Z61 fun bx c H HA => ?_; refine Z2 ?_; refine Z74 fun c H HA => ?_; apply w_nil; apply wx_next; apply wc_region; refine Z0 ?_; refine Z0 ?_; refine Z42 ?_; refine Z54 ?_; refine Z56 fun vx c H HA => ?_)
    have H := H.drop.swap
    have hsn : (seen ++ [i]).Nodup := by
      rw [List.nodup_append]
      exact ⟨hnd, by simp, by rintro a ha _ (⟨⟩ | ⟨_, ⟨⟩⟩) rfl; exact hn ha⟩
    have hsl2 : ∀ j ∈ seen ++ [i], j < l.length := fun j hj => by
      simp only [List.mem_append, List.mem_singleton] at hj
      rcases hj with hj | rfl
      · exact hsl j hj
      · exact hil
    have hlt := nodup_lt l.length _ hsn hsl2
    rw [List.length_append, List.length_singleton] at hlt
    (refine Z59 fun vx c valsx H HA => ?_; refine Z2 ?_; apply w_nil; apply wx_norm_block)
    exact wx_loopG ((seen ++ [i], acc ++ [b], vx, valsx)) H.swap Cu Lk Ks (by simp; omega) ⟨by simp [hacc, hb], hsn, hsl2, by simp [hlen]⟩
end Go.Proofs.YthkdggoohpgnnaaGreatDoor
/- Contracts: an atom matched, of the program's own. -/
namespace Go.Wk
open Go
theorem bMap_look (v : Int) : ∀ l : List Bd, mLook (bMap l) v = (lookB l v).map fun t => .agg t.cs.toArray
  | [] => rfl
  | b :: l => by
    have ih := bMap_look v l
    unfold mLook bMap at *
    simp only [List.map_cons, List.find?_cons, lookB]
    by_cases h : b.var = v
    · subst h; simp
    · have h2 : (b.var == v) = false := by simpa using h
      simp only [h2, if_neg h]
      exact ih
theorem bMap_add {l : List Bd} {v : Int} {t : Tm} (h : lookB l v = none) : mSet (bMap l) v (.agg t.cs.toArray) = bMap (l ++ [⟨v, t⟩]) := by
  have : (bMap l).findIdx? (fun p => p.1 == v) = none := by
    rw [List.findIdx?_eq_none_iff]
    intro p hp
    simp only [bMap, List.mem_map] at hp
    obtain ⟨b, hb, rfl⟩ := hp
    have := lookB_none.1 h
    simp
    rintro rfl
    exact this (List.mem_map.2 ⟨b, hb, rfl⟩)
  unfold mSet
  rw [this]
  simp [bMap]
theorem bMap_same {l : List Bd} {v : Int} {t : Tm} (h : lookB l v = some t) : mSet (bMap l) v (.agg t.cs.toArray) = bMap l := by
  have : ∀ l : List Bd, lookB l v = some t → ∃ i, (bMap l).findIdx? (fun p => p.1 == v) = some i ∧ (bMap l)[i]? = some (v, .agg t.cs.toArray) := by
    intro l
    induction l with
    | nil => intro h; cases h
    | cons b l ih =>
      intro h
      simp only [lookB] at h
      simp only [bMap, List.map_cons, List.findIdx?_cons]
      by_cases e : b.var = v
      · rw [if_pos e] at h
        cases h
        subst e
        exact ⟨0, by simp, by simp⟩
      · rw [if_neg e] at h
        obtain ⟨i, h1, h2⟩ := ih h
        have h3 : (b.var == v) = false := by simpa using e
        unfold bMap at h1 h2
        simp only [h3, h1]
        exact ⟨i + 1, rfl, by simpa using h2⟩
  obtain ⟨i, h1, h2⟩ := this l h
  unfold mSet
  rw [h1]
  apply List.ext_getElem?
  intro j
  rw [List.getElem?_set]
  by_cases e : i = j
  · subst e
    rw [h2]
    have := (List.getElem?_eq_some_iff.1 h2).1
    simp [this]
  · simp [e]
end Go.Wk
namespace Go.Proofs.YthkdggoohpgnnaaGreatDoor
open Go Go.Wk
instance : Prim Tryz.prog 138 := .of (by kernel_rfl) (by kernel_rfl)
theorem term_Match (p a : At0) (s : List Bd) (u1 u2 v : Value) (c : Cx) (h1 : Ag p u1 c) (h2 : Ag a u2 c) (h3 : Sl v s c) (hl : s.length + p.args.length < 549755813888) (hla : a.args.length + 1 < 1099511627776) : Cn Tryz.prog 97 [u1, u2, v] c (fun r c => Mt (matchA p a s) r c) := by
  refine Cn.of Tryz.func97 Tryz.ntmps97 rfl rfl fun hm H HA => ?_
  have hm1 := matchA_scan p a s
  have hpl : p.args.length + 1 < 1099511627776 := by omega
  have hsl := h3.lim
  have HA := ((HA.add h1).add h2).add h3
  (apply wc_seq; apply wc_region)
  (refine s_boxG rfl rfl Lk H HA ?_; intro p1 c H HA)
  (refine s_boxG rfl rfl Lk H HA ?_; intro p2 c H HA)
  (focus (refine Z2 ?_; refine Z2 ?_; apply w_nil; apply wx_next; apply wc_seq; apply wc_seq; apply wc_region; refine Z35 HA fun vx HA => ?_; refine Z36 ?_; refine Z35 HA fun vx HA => ?_; refine Z36 ?_; refine Z99 (fun hq => ?_) fun hq => ?_; refine Z0 ?_; refine Z5 ?_; refine Z5 ?_; refine Z5 ?_; refine Z5 ?_; refine Z5 ?_; refine Z5 ?_; refine Z5 ?_; refine Z8 ?_; refine Z0 ?_; refine Z5 ?_; refine Z5 ?_; refine Z5 ?_; refine Z5 ?_; refine Z6 ?_; refine Z6 ?_; refine Z6 ?_; refine Z6 ?_; refine Z5 ?_; refine Z8 ?_; apply w_nil; apply wx_next; refine Z18 ?_; apply wc_seq; apply wc_region; refine Z2 ?_; refine Z2 ?_; apply w_nil; apply wx_next; apply wc_ret; apply wx_ret_then; rotate_left; refine Z0 ?_; refine Z4 ?_; refine Z35 HA fun vx HA => ?_; refine Z4 ?_; refine Z37 HA fun vx HA => ?_; refine Z4 ?_; refine Z45 ?_; refine Z4 ?_; refine Z35 HA fun vx HA => ?_; refine Z4 ?_; refine Z37 HA fun vx HA => ?_; refine Z4 ?_; refine Z45 ?_; refine Z4 ?_; refine Z94 (fun hq => ?_) fun hq => ?_; refine Z30 ?_; refine Z0 ?_; refine Z5 ?_; refine Z5 ?_; refine Z5 ?_; refine Z5 ?_; refine Z6 ?_; refine Z6 ?_; refine Z6 ?_; refine Z6 ?_; refine Z5 ?_; refine Z8 ?_; apply w_nil; apply wx_next; refine Z18 ?_; apply wc_seq; apply wc_region; refine Z2 ?_; refine Z2 ?_; apply w_nil; apply wx_next; apply wc_ret; apply wx_ret_then; rotate_left; refine Z30 ?_; refine Z0 ?_; refine Z4 ?_; refine Z35 HA fun vx HA => ?_; refine Z4 ?_; refine Z38 ?_; refine Z4 ?_; rotate_left))
  · exact ret_fn H hm (outs2 Tryz.results97 Wh Wh) (Mt.no (by rw [hm1, if_pos (by simp [matchOk, *])]))
  · exact ret_fn H hm (outs2 Tryz.results97 Wh Wh) (Mt.no (by rw [hm1, if_pos (by simp [matchOk]; intros; omega)]))
  (refine s_call rfl rfl H HA (term_Variable p.by_ _) ?_; intro vx c H HP; have hvx := HP.h.1; have HA := HP.cut; subst hvx)
  cases hv : p.by_.isVar
  · have hok : matchOk p a = true := by simp [matchOk, hv, *]; omega
    rw [hok, if_neg (by simp)] at hm1
    (refine Z4 ?_; refine Z0 ?_; refine Z5 ?_; refine Z5 ?_; refine Z5 ?_; refine Z5 ?_; refine Z4 ?_; refine Z30 ?_; refine Z30 ?_; apply w_nil; apply wx_next; refine Z19 ?_; apply wc_skip; apply wx_next; apply wc_seq; apply wc_region; refine Z65 fun mx c H HA => ?_; refine Z2 ?_; apply w_nil; apply wx_next; apply wc_seq; apply wc_seq; apply wc_region; refine Z0 ?_; refine Z45 ?_; refine Z0 ?_; apply w_nil; apply wx_next; apply wc_block)
    (obtain ⟨mb, rfl⟩ : ∃ x, x = mx := ⟨_, rfl⟩)
    have H : Owns _ [.obj mb (mObj (bMap []))] _ := H
    refine wc_loopG (σ := Nat × List Bd) (fun y => s.length - y.1) (fun y => [(3, p1), (4, p2), (8, .map (some mb)), (44, v), (45, .int .i64 s.length), (46, .int .i64 y.1)]) (fun y => y.1 ≤ s.length ∧ nodV y.2 ∧ (∀ q, lookB y.2 q = lookB (s.take y.1) q) ∧ y.2.length ≤ y.1)
      (fun y => [.obj mb (mObj (bMap y.2))]) (fun _ => Tt) (0, []) H HA trivial Ks ⟨Nat.zero_le _, List.nodup_nil, fun _ => rfl, Nat.le_refl _⟩ ?_
    intro y g c hpp H HA
    obtain ⟨k, l⟩ := y
    obtain ⟨hk, hnd, hlk, hll⟩ := hpp
    dsimp only at hk hnd hlk hll H HA ⊢
    (focus (apply wc_seq; apply wc_region; refine Z93 (fun hq => ?_) fun hq => ?_; apply w_nil; apply wx_next; apply wc_seq; refine Z18 ?_; apply wc_skip; apply wx_next; apply wc_seq; apply wc_block; apply wc_seq; apply wc_region; rotate_left; apply w_nil; apply wx_next; apply wc_seq; refine Z19 ?_; apply wc_exit; apply wx_exit_then; apply wx_exit_then; apply wx_exit_same; apply wx_next; apply wc_seq; apply wc_region; refine Z39 HA fun vx HA => ?_; rotate_left))
    · obtain ⟨b, hb⟩ := getq (xs := s) (k := k) (by omega)
      have htk : s.take (k + 1) = s.take k ++ [b] := by rw [List.take_add_one, hb]; rfl
      (refine Z34 HA fun vx HA => ?_; refine Z38 ?_; refine Z61 fun bx c H HA => ?_; refine Z74 fun c H HA => ?_; apply w_nil; apply wx_next; apply wc_seq; apply wc_region; refine Z0 ?_; refine Z3 ?_; refine Z41 ?_; refine Z66 ?_; refine Z0 ?_; refine Z32 ?_; refine Z32 ?_; refine Z61 fun bx c H HA => ?_)
      rw [bMap_look]
      have hins : ∀ q, lookB (insL l b) q = lookB (s.take (k + 1)) q := fun q => by rw [htk, insL_look]; exact look_snoc hlk q
      have hil := insL_len l b
      cases hq : lookB l b.var
      · (refine Z74 fun c H HA => ?_; refine Z2 ?_; apply w_nil; apply wx_next; apply wc_seq; apply wc_region; refine Z0 ?_; refine Z33 ?_; apply w_nil; apply wx_next; refine Z18 ?_; apply wc_region; refine Z0 ?_; refine Z3 ?_; refine Z41 ?_; refine Z3 ?_; refine Z42 ?_; refine Z70 fun c H HA => ?_; apply w_nil; apply wx_norm_block; apply wx_next; apply wc_region; refine Z46 ?_; refine Z0 ?_; apply w_nil)
        have hadd := bMap_add (t := b.to) hq
        have e1 : insL l b = l ++ [b] := by simp [insL, hq]
        rw [hadd] at H
        have H := H.sub (List.Sublist.cons_cons _ (List.nil_sublist _))
        exact wx_loopG ((k + 1, insL l b)) (by rw [e1]; exact H) Cu trivial Ks (by simp; omega) ⟨by simp; omega, insL_nod hnd b, hins, by simp; omega⟩
      · (refine Z74 fun c H HA => ?_; refine Z2 ?_; apply w_nil; apply wx_next; apply wc_seq; apply wc_region; refine Z0 ?_; refine Z33 ?_; apply w_nil; apply wx_next; refine Z19 ?_; apply wc_skip; apply wx_norm_block; apply wx_next; apply wc_region; refine Z46 ?_; refine Z0 ?_; apply w_nil)
        have e1 : insL l b = l := by simp [insL, hq]
        have H := H.drop.drop
        exact wx_loopG ((k + 1, insL l b)) (by rw [e1]; exact H) Cu trivial Ks (by simp; omega) ⟨by simp; omega, insL_nod hnd b, hins, by simp; omega⟩
    · rw [List.take_of_length_le (by omega)] at hlk
      (refine s_call rfl rfl H HA (term_places a _ _ Lk (by omega)) ?_; intro vx c H HA)
      (obtain ⟨va, rfl⟩ : ∃ x, x = vx := ⟨_, rfl⟩)
      (refine Z2 ?_; apply w_nil; apply wx_next; apply wc_seq; apply wc_seq; apply wc_region; refine Z39 HA fun vx HA => ?_)
      (refine s_call rfl rfl H HA (term_places p _ _ Lk (by omega)) ?_; intro vx c H HA)
      (obtain ⟨vp, rfl⟩ : ∃ x, x = vx := ⟨_, rfl⟩)
      (refine Z45 ?_; refine Z0 ?_; apply w_nil; apply wx_next; apply wc_block)
      have hptl : p.terms.length = p.args.length + 1 := rfl
      have hatl : a.terms.length = a.args.length + 1 := rfl
      refine wc_loopG (σ := Nat × List Bd × List Bd) (fun y => p.terms.length - y.1) (fun y => [(3, p1), (4, p2), (8, .map (some mb)), (13, va), (68, vp), (69, .int .i64 p.terms.length), (70, .int .i64 y.1)]) (fun y => y.1 ≤ p.terms.length ∧ nodV y.2.1 ∧ (∀ q, lookB y.2.1 q = lookB y.2.2 q) ∧ y.2.1.length ≤ s.length + y.1 ∧ scan y.2.2 (p.terms.drop y.1) (a.terms.drop y.1) = scan s p.terms a.terms)
        (fun y => [.obj mb (mObj (bMap y.2.1))]) (fun _ => Tt) (0, l, s) H HA trivial Ks ⟨Nat.zero_le _, hnd, hlk, by simp; omega, rfl⟩ ?_
      clear hlk hnd hll
      intro y g c hpp H HA
      obtain ⟨k, l, all⟩ := y
      obtain ⟨hk, hnd, hlk, hll, hsc⟩ := hpp
      dsimp only at hk hnd hlk hll hsc H HA ⊢
      (focus (apply wc_seq; apply wc_region; refine Z93 (fun hq => ?_) fun hq => ?_; apply w_nil; apply wx_next; apply wc_seq; refine Z18 ?_; apply wc_skip; apply wx_next; apply wc_seq; apply wc_block; apply wc_seq; apply wc_region; refine Z0 ?_; rotate_left; apply w_nil; apply wx_next; apply wc_seq; refine Z19 ?_; apply wc_exit; apply wx_exit_then; apply wx_exit_then; apply wx_exit_same; apply wx_next; apply wc_seq; apply wc_region; refine Z0 ?_; rotate_left))
      · obtain ⟨x, hx⟩ := getq (xs := p.terms) (k := k) (by omega)
        obtain ⟨y, hy⟩ := getq (xs := a.terms) (k := k) (by omega)
        rw [drop_get hx, drop_get hy] at hsc
        (refine Z34 HA fun vx HA => ?_; refine Z38 ?_; refine Z61 fun bx c H HA => ?_; refine Z2 ?_; refine Z74 fun c H HA => ?_; apply w_nil; apply wx_next; apply wc_seq; apply wc_seq; apply wc_region; refine Z42 ?_)
        (refine s_call rfl rfl H HA (term_Variable x _) ?_; intro vx c H HP; have hvx := HP.h.1; have HA := HP.cut; subst hvx)
        cases hxv : x.isVar
        · (refine Z33 ?_; apply w_nil; apply wx_next; refine Z18 ?_; apply wc_seq; apply wc_seq)
          (refine dw_start H HA ?_)
          (repeat (refine Dc ?_))
          (refine dw_done mixed H HA rfl (by kernel_rfl) ?_; clear H HA; intro c H HA; (repeat (first | (intro vx hx; have hx2 : vx = _ := hx; clear hx; subst hx2) | (intro vx hx; have HA := HA.addSF hx; clear hx) | (intro vx hx; have HA := HA.add hx; clear hx) | intro vx)); change W _ _ _ _ _ _ _)
          (focus (apply w_nil; apply wx_next; (focus (apply wc_cond; rfl; all_goals intro hq)); apply wc_seq; apply wc_region; refine Z2 ?_; refine Z2 ?_; apply w_nil; apply wx_next; apply wc_ret; apply wx_ret_then; apply wx_ret_then; apply wx_ret_block; apply wx_ret_then; apply wx_ret_then; apply wx_ret_block; apply wx_ret_then; rotate_left; apply wc_skip; apply wx_next; apply wc_exit; apply wx_exit_then; apply wx_exit_same; apply wx_next; apply wc_region; refine Z46 ?_; refine Z0 ?_; apply w_nil; rotate_left))
          · simp only [Bool.not_eq_true', decide_eq_false_iff_not] at hq
            exact ret_fn H hm (outs2 Tryz.results97 Wh Wh) (Mt.no (by rw [hm1, ← hsc]; simp [scan, hxv, hq]))
          · simp only [Bool.not_eq_false', decide_eq_true_eq] at hq
            have H := H.drop
            exact wx_loopG ((k + 1, l, all)) H Cu trivial Ks (by simp; omega) ⟨by simp; omega, hnd, hlk, by simp; omega, by rw [← hsc, scan, if_neg (by simp [hxv]), if_pos hq]⟩
        · (refine Z33 ?_; apply w_nil; apply wx_next; refine Z19 ?_; apply wc_skip; apply wx_next; apply wc_seq; apply wc_seq; apply wc_region; refine Z0 ?_; refine Z3 ?_; refine Z41 ?_; refine Z66 ?_; refine Z0 ?_; refine Z32 ?_; refine Z32 ?_; refine Z61 fun bx c H HA => ?_)
          rw [bMap_look]
          cases hqq : lookB l x.n
          · (refine Z74 fun c H HA => ?_; refine Z2 ?_; apply w_nil; apply wx_next; apply wc_seq)
            (refine dw_start H HA ?_)
            (repeat (refine Dc ?_))
            (refine dw_done mixed H HA rfl (by kernel_rfl) ?_; clear H HA; intro c H HA; (repeat (first | (intro vx hx; have hx2 : vx = _ := hx; clear hx; subst hx2) | (intro vx hx; have HA := HA.addSF hx; clear hx) | (intro vx hx; have HA := HA.add hx; clear hx) | intro vx)); change W _ _ _ _ _ _ _)
            (apply w_nil; apply wx_next; refine Z19 ?_; apply wc_skip; apply wx_next)
            (refine dw_start H HA ?_)
            (repeat (refine Dc ?_))
            (refine dw_done mixed H HA rfl (by kernel_rfl) ?_; clear H HA; intro c H HA; (repeat (first | (intro vx hx; have hx2 : vx = _ := hx; clear hx; subst hx2) | (intro vx hx; have HA := HA.addSF hx; clear hx) | (intro vx hx; have HA := HA.add hx; clear hx) | intro vx)); change W _ _ _ _ _ _ _)
            (refine Z70 fun c H HA => ?_; apply w_nil; apply wx_norm_block; apply wx_next; apply wc_region; refine Z46 ?_; refine Z0 ?_; apply w_nil)
            have hadd := bMap_add (t := y) hqq
            have H := H.sub (List.Sublist.cons_cons _ (List.nil_sublist _))
            have hqa : lookB all x.n = none := by rw [← hlk]; exact hqq
            exact wx_loopG ((k + 1, l ++ [⟨x.n, y⟩], all ++ [⟨x.n, y⟩])) (by rw [← hadd]; exact H) Cu trivial Ks (by simp; omega) ⟨by simp; omega, nodV_snoc hnd hqq, look_snoc hlk, by simp; omega, by rw [← hsc]; simp [scan, hxv, hqa]⟩
          · rename_i was
            have hqa : lookB all x.n = some was := by rw [← hlk]; exact hqq
            (refine Z74 fun c H HA => ?_; refine Z2 ?_; apply w_nil; apply wx_next; apply wc_seq)
            (refine dw_start H HA ?_)
            (repeat (refine Dc ?_))
            (refine dw_done mixed H HA rfl (by kernel_rfl) ?_; clear H HA; intro c H HA; (repeat (first | (intro vx hx; have hx2 : vx = _ := hx; clear hx; subst hx2) | (intro vx hx; have HA := HA.addSF hx; clear hx) | (intro vx hx; have HA := HA.add hx; clear hx) | intro vx)); change W _ _ _ _ _ _ _)
            (focus (apply w_nil; apply wx_next; (focus (apply wc_cond; rfl; all_goals intro hq)); apply wc_seq; apply wc_region; refine Z2 ?_; refine Z2 ?_; apply w_nil; apply wx_next; apply wc_ret; apply wx_ret_then; apply wx_ret_block; apply wx_ret_then; apply wx_ret_then; apply wx_ret_block; apply wx_ret_then; rotate_left; apply wc_skip; apply wx_next; rotate_left))
            · simp only [Bool.not_eq_true', decide_eq_false_iff_not] at hq
              exact ret_fn H hm (outs2 Tryz.results97 Wh Wh) (Mt.no (by rw [hm1, ← hsc]; simp [scan, hxv, hqa, hq]))
            · simp only [Bool.not_eq_false', decide_eq_true_eq] at hq
              subst hq
              (refine dw_start H HA ?_)
              (repeat (refine Dc ?_))
              (refine dw_done mixed H HA rfl (by kernel_rfl) ?_; clear H HA; intro c H HA; (repeat (first | (intro vx hx; have hx2 : vx = _ := hx; clear hx; subst hx2) | (intro vx hx; have HA := HA.addSF hx; clear hx) | (intro vx hx; have HA := HA.add hx; clear hx) | intro vx)); change W _ _ _ _ _ _ _)
              (refine Z70 fun c H HA => ?_; apply w_nil; apply wx_norm_block; apply wx_next; apply wc_region; refine Z46 ?_; refine Z0 ?_; apply w_nil)
              have hadd := bMap_same hqq
              have H := H.sub (List.Sublist.cons_cons _ (List.nil_sublist _))
              exact wx_loopG ((k + 1, l, all)) (by rw [← hadd]; exact H) Cu trivial Ks (by simp; omega) ⟨by simp; omega, hnd, hlk, by simp; omega, by rw [← hsc]; simp [scan, hxv, hqa]⟩
      · rw [List.drop_eq_nil_of_le (by omega), List.drop_eq_nil_of_le (by omega)] at hsc
        have hsc : scan s p.terms a.terms = some all := by rw [← hsc]; rfl
        (refine w_freezeMap H HA ?_; intro c H HA)
        (refine s_call rfl rfl H HA (term_sorted l mb _ Lk (by omega)) ?_; intro vx c H HA)
        obtain ⟨out, ho, hop, hos⟩ := HA.h.1
        have heq := settled_sorted hop hos hnd hlk
        rw [heq] at ho
        have HA := HA.add ho
        (refine Z2 ?_; refine Z2 ?_; apply w_nil; apply wx_next; apply wc_ret)
        exact ret_fn H hm (outs2 Tryz.results97 Wh Wh) (Mt.yes (by rw [hm1, hsc]; rfl) Lk)
  · (focus (refine Z4 ?_; refine Z0 ?_; refine Z4 ?_; refine Z35 HA fun vx HA => ?_; refine Z4 ?_; refine Z35 HA fun vx HA => ?_; refine Z4 ?_; refine Z36 ?_; refine Z4 ?_; refine Z92 (fun hq => ?_) fun hq => ?_; refine Z4 ?_; refine Z8 ?_; refine Z30 ?_; apply w_nil; apply wx_next; refine Z18 ?_; apply wc_seq; apply wc_region; refine Z2 ?_; refine Z2 ?_; apply w_nil; apply wx_next; apply wc_ret; apply wx_ret_then; rotate_left; refine Z4 ?_; refine Z8 ?_; refine Z30 ?_; apply w_nil; apply wx_next; refine Z19 ?_; apply wc_skip; apply wx_next; apply wc_seq; apply wc_region; refine Z65 fun mx c H HA => ?_; refine Z2 ?_; apply w_nil; apply wx_next; apply wc_seq; apply wc_seq; apply wc_region; refine Z0 ?_; refine Z45 ?_; refine Z0 ?_; apply w_nil; apply wx_next; apply wc_block; rotate_left))
    · exact ret_fn H hm (outs2 Tryz.results97 Wh Wh) (Mt.no (by rw [hm1, if_pos (by simp [matchOk, hv, *])]))
    · have hok : matchOk p a = true := by simp [matchOk, hv, *]; omega
      rw [hok, if_neg (by simp)] at hm1
      (obtain ⟨mb, rfl⟩ : ∃ x, x = mx := ⟨_, rfl⟩)
      have H : Owns _ [.obj mb (mObj (bMap []))] _ := H
      refine wc_loopG (σ := Nat × List Bd) (fun y => s.length - y.1) (fun y => [(3, p1), (4, p2), (8, .map (some mb)), (44, v), (45, .int .i64 s.length), (46, .int .i64 y.1)]) (fun y => y.1 ≤ s.length ∧ nodV y.2 ∧ (∀ q, lookB y.2 q = lookB (s.take y.1) q) ∧ y.2.length ≤ y.1)
        (fun y => [.obj mb (mObj (bMap y.2))]) (fun _ => Tt) (0, []) H HA trivial Ks ⟨Nat.zero_le _, List.nodup_nil, fun _ => rfl, Nat.le_refl _⟩ ?_
      intro y g c hpp H HA
      obtain ⟨k, l⟩ := y
      obtain ⟨hk, hnd, hlk, hll⟩ := hpp
      dsimp only at hk hnd hlk hll H HA ⊢
      (focus (apply wc_seq; apply wc_region; refine Z93 (fun hq => ?_) fun hq => ?_; apply w_nil; apply wx_next; apply wc_seq; refine Z18 ?_; apply wc_skip; apply wx_next; apply wc_seq; apply wc_block; apply wc_seq; apply wc_region; rotate_left; apply w_nil; apply wx_next; apply wc_seq; refine Z19 ?_; apply wc_exit; apply wx_exit_then; apply wx_exit_then; apply wx_exit_same; apply wx_next; apply wc_seq; apply wc_region; refine Z39 HA fun vx HA => ?_; rotate_left))
      · obtain ⟨b, hb⟩ := getq (xs := s) (k := k) (by omega)
        have htk : s.take (k + 1) = s.take k ++ [b] := by rw [List.take_add_one, hb]; rfl
        (refine Z34 HA fun vx HA => ?_; refine Z38 ?_; refine Z61 fun bx c H HA => ?_; refine Z74 fun c H HA => ?_; apply w_nil; apply wx_next; apply wc_seq; apply wc_region; refine Z0 ?_; refine Z3 ?_; refine Z41 ?_; refine Z66 ?_; refine Z0 ?_; refine Z32 ?_; refine Z32 ?_; refine Z61 fun bx c H HA => ?_)
        rw [bMap_look]
        have hins : ∀ q, lookB (insL l b) q = lookB (s.take (k + 1)) q := fun q => by rw [htk, insL_look]; exact look_snoc hlk q
        have hil := insL_len l b
        cases hq : lookB l b.var
        · (refine Z74 fun c H HA => ?_; refine Z2 ?_; apply w_nil; apply wx_next; apply wc_seq; apply wc_region; refine Z0 ?_; refine Z33 ?_; apply w_nil; apply wx_next; refine Z18 ?_; apply wc_region; refine Z0 ?_; refine Z3 ?_; refine Z41 ?_; refine Z3 ?_; refine Z42 ?_; refine Z70 fun c H HA => ?_; apply w_nil; apply wx_norm_block; apply wx_next; apply wc_region; refine Z46 ?_; refine Z0 ?_; apply w_nil)
          have hadd := bMap_add (t := b.to) hq
          have e1 : insL l b = l ++ [b] := by simp [insL, hq]
          rw [hadd] at H
          have H := H.sub (List.Sublist.cons_cons _ (List.nil_sublist _))
          exact wx_loopG ((k + 1, insL l b)) (by rw [e1]; exact H) Cu trivial Ks (by simp; omega) ⟨by simp; omega, insL_nod hnd b, hins, by simp; omega⟩
        · (refine Z74 fun c H HA => ?_; refine Z2 ?_; apply w_nil; apply wx_next; apply wc_seq; apply wc_region; refine Z0 ?_; refine Z33 ?_; apply w_nil; apply wx_next; refine Z19 ?_; apply wc_skip; apply wx_norm_block; apply wx_next; apply wc_region; refine Z46 ?_; refine Z0 ?_; apply w_nil)
          have e1 : insL l b = l := by simp [insL, hq]
          have H := H.drop.drop
          exact wx_loopG ((k + 1, insL l b)) (by rw [e1]; exact H) Cu trivial Ks (by simp; omega) ⟨by simp; omega, insL_nod hnd b, hins, by simp; omega⟩
      · rw [List.take_of_length_le (by omega)] at hlk
        (refine s_call rfl rfl H HA (term_places a _ _ Lk (by omega)) ?_; intro vx c H HA)
        (obtain ⟨va, rfl⟩ : ∃ x, x = vx := ⟨_, rfl⟩)
        (refine Z2 ?_; apply w_nil; apply wx_next; apply wc_seq; apply wc_seq; apply wc_region; refine Z39 HA fun vx HA => ?_)
        (refine s_call rfl rfl H HA (term_places p _ _ Lk (by omega)) ?_; intro vx c H HA)
        (obtain ⟨vp, rfl⟩ : ∃ x, x = vx := ⟨_, rfl⟩)
        (refine Z45 ?_; refine Z0 ?_; apply w_nil; apply wx_next; apply wc_block)
        have hptl : p.terms.length = p.args.length + 1 := rfl
        have hatl : a.terms.length = a.args.length + 1 := rfl
        refine wc_loopG (σ := Nat × List Bd × List Bd) (fun y => p.terms.length - y.1) (fun y => [(3, p1), (4, p2), (8, .map (some mb)), (13, va), (68, vp), (69, .int .i64 p.terms.length), (70, .int .i64 y.1)]) (fun y => y.1 ≤ p.terms.length ∧ nodV y.2.1 ∧ (∀ q, lookB y.2.1 q = lookB y.2.2 q) ∧ y.2.1.length ≤ s.length + y.1 ∧ scan y.2.2 (p.terms.drop y.1) (a.terms.drop y.1) = scan s p.terms a.terms)
          (fun y => [.obj mb (mObj (bMap y.2.1))]) (fun _ => Tt) (0, l, s) H HA trivial Ks ⟨Nat.zero_le _, hnd, hlk, by simp; omega, rfl⟩ ?_
        clear hlk hnd hll
        intro y g c hpp H HA
        obtain ⟨k, l, all⟩ := y
        obtain ⟨hk, hnd, hlk, hll, hsc⟩ := hpp
        dsimp only at hk hnd hlk hll hsc H HA ⊢
        (focus (apply wc_seq; apply wc_region; refine Z93 (fun hq => ?_) fun hq => ?_; apply w_nil; apply wx_next; apply wc_seq; refine Z18 ?_; apply wc_skip; apply wx_next; apply wc_seq; apply wc_block; apply wc_seq; apply wc_region; refine Z0 ?_; rotate_left; apply w_nil; apply wx_next; apply wc_seq; refine Z19 ?_; apply wc_exit; apply wx_exit_then; apply wx_exit_then; apply wx_exit_same; apply wx_next; apply wc_seq; apply wc_region; refine Z0 ?_; rotate_left))
        · obtain ⟨x, hx⟩ := getq (xs := p.terms) (k := k) (by omega)
          obtain ⟨y, hy⟩ := getq (xs := a.terms) (k := k) (by omega)
          rw [drop_get hx, drop_get hy] at hsc
          (refine Z34 HA fun vx HA => ?_; refine Z38 ?_; refine Z61 fun bx c H HA => ?_; refine Z2 ?_; refine Z74 fun c H HA => ?_; apply w_nil; apply wx_next; apply wc_seq; apply wc_seq; apply wc_region; refine Z42 ?_)
          (refine s_call rfl rfl H HA (term_Variable x _) ?_; intro vx c H HP; have hvx := HP.h.1; have HA := HP.cut; subst hvx)
          cases hxv : x.isVar
          · (refine Z33 ?_; apply w_nil; apply wx_next; refine Z18 ?_; apply wc_seq; apply wc_seq)
            (refine dw_start H HA ?_)
            (repeat (refine Dc ?_))
            (refine dw_done mixed H HA rfl (by kernel_rfl) ?_; clear H HA; intro c H HA; (repeat (first | (intro vx hx; have hx2 : vx = _ := hx; clear hx; subst hx2) | (intro vx hx; have HA := HA.addSF hx; clear hx) | (intro vx hx; have HA := HA.add hx; clear hx) | intro vx)); change W _ _ _ _ _ _ _)
            (focus (apply w_nil; apply wx_next; (focus (apply wc_cond; rfl; all_goals intro hq)); apply wc_seq; apply wc_region; refine Z2 ?_; refine Z2 ?_; apply w_nil; apply wx_next; apply wc_ret; apply wx_ret_then; apply wx_ret_then; apply wx_ret_block; apply wx_ret_then; apply wx_ret_then; apply wx_ret_block; apply wx_ret_then; rotate_left; apply wc_skip; apply wx_next; apply wc_exit; apply wx_exit_then; apply wx_exit_same; apply wx_next; apply wc_region; refine Z46 ?_; refine Z0 ?_; apply w_nil; rotate_left))
            · simp only [Bool.not_eq_true', decide_eq_false_iff_not] at hq
              exact ret_fn H hm (outs2 Tryz.results97 Wh Wh) (Mt.no (by rw [hm1, ← hsc]; simp [scan, hxv, hq]))
            · simp only [Bool.not_eq_false', decide_eq_true_eq] at hq
              have H := H.drop
              exact wx_loopG ((k + 1, l, all)) H Cu trivial Ks (by simp; omega) ⟨by simp; omega, hnd, hlk, by simp; omega, by rw [← hsc, scan, if_neg (by simp [hxv]), if_pos hq]⟩
          · (refine Z33 ?_; apply w_nil; apply wx_next; refine Z19 ?_; apply wc_skip; apply wx_next; apply wc_seq; apply wc_seq; apply wc_region; refine Z0 ?_; refine Z3 ?_; refine Z41 ?_; refine Z66 ?_; refine Z0 ?_; refine Z32 ?_; refine Z32 ?_; refine Z61 fun bx c H HA => ?_)
            rw [bMap_look]
            cases hqq : lookB l x.n
            · (refine Z74 fun c H HA => ?_; refine Z2 ?_; apply w_nil; apply wx_next; apply wc_seq)
              (refine dw_start H HA ?_)
              (repeat (refine Dc ?_))
              (refine dw_done mixed H HA rfl (by kernel_rfl) ?_; clear H HA; intro c H HA; (repeat (first | (intro vx hx; have hx2 : vx = _ := hx; clear hx; subst hx2) | (intro vx hx; have HA := HA.addSF hx; clear hx) | (intro vx hx; have HA := HA.add hx; clear hx) | intro vx)); change W _ _ _ _ _ _ _)
              (apply w_nil; apply wx_next; refine Z19 ?_; apply wc_skip; apply wx_next)
              (refine dw_start H HA ?_)
              (repeat (refine Dc ?_))
              (refine dw_done mixed H HA rfl (by kernel_rfl) ?_; clear H HA; intro c H HA; (repeat (first | (intro vx hx; have hx2 : vx = _ := hx; clear hx; subst hx2) | (intro vx hx; have HA := HA.addSF hx; clear hx) | (intro vx hx; have HA := HA.add hx; clear hx) | intro vx)); change W _ _ _ _ _ _ _)
              (refine Z70 fun c H HA => ?_; apply w_nil; apply wx_norm_block; apply wx_next; apply wc_region; refine Z46 ?_; refine Z0 ?_; apply w_nil)
              have hadd := bMap_add (t := y) hqq
              have H := H.sub (List.Sublist.cons_cons _ (List.nil_sublist _))
              have hqa : lookB all x.n = none := by rw [← hlk]; exact hqq
              exact wx_loopG ((k + 1, l ++ [⟨x.n, y⟩], all ++ [⟨x.n, y⟩])) (by rw [← hadd]; exact H) Cu trivial Ks (by simp; omega) ⟨by simp; omega, nodV_snoc hnd hqq, look_snoc hlk, by simp; omega, by rw [← hsc]; simp [scan, hxv, hqa]⟩
            · rename_i was
              have hqa : lookB all x.n = some was := by rw [← hlk]; exact hqq
              (refine Z74 fun c H HA => ?_; refine Z2 ?_; apply w_nil; apply wx_next; apply wc_seq)
              (refine dw_start H HA ?_)
              (repeat (refine Dc ?_))
              (refine dw_done mixed H HA rfl (by kernel_rfl) ?_; clear H HA; intro c H HA; (repeat (first | (intro vx hx; have hx2 : vx = _ := hx; clear hx; subst hx2) | (intro vx hx; have HA := HA.addSF hx; clear hx) | (intro vx hx; have HA := HA.add hx; clear hx) | intro vx)); change W _ _ _ _ _ _ _)
              (focus (apply w_nil; apply wx_next; (focus (apply wc_cond; rfl; all_goals intro hq)); apply wc_seq; apply wc_region; refine Z2 ?_; refine Z2 ?_; apply w_nil; apply wx_next; apply wc_ret; apply wx_ret_then; apply wx_ret_block; apply wx_ret_then; apply wx_ret_then; apply wx_ret_block; apply wx_ret_then; rotate_left; apply wc_skip; apply wx_next; rotate_left))
              · simp only [Bool.not_eq_true', decide_eq_false_iff_not] at hq
                exact ret_fn H hm (outs2 Tryz.results97 Wh Wh) (Mt.no (by rw [hm1, ← hsc]; simp [scan, hxv, hqa, hq]))
              · simp only [Bool.not_eq_false', decide_eq_true_eq] at hq
                subst hq
                (refine dw_start H HA ?_)
                (repeat (refine Dc ?_))
                (refine dw_done mixed H HA rfl (by kernel_rfl) ?_; clear H HA; intro c H HA; (repeat (first | (intro vx hx; have hx2 : vx = _ := hx; clear hx; subst hx2) | (intro vx hx; have HA := HA.addSF hx; clear hx) | (intro vx hx; have HA := HA.add hx; clear hx) | intro vx)); change W _ _ _ _ _ _ _)
                (refine Z70 fun c H HA => ?_; apply w_nil; apply wx_norm_block; apply wx_next; apply wc_region; refine Z46 ?_; refine Z0 ?_; apply w_nil)
                have hadd := bMap_same hqq
                have H := H.sub (List.Sublist.cons_cons _ (List.nil_sublist _))
                exact wx_loopG ((k + 1, l, all)) (by rw [← hadd]; exact H) Cu trivial Ks (by simp; omega) ⟨by simp; omega, hnd, hlk, by simp; omega, by rw [← hsc]; simp [scan, hxv, hqa]⟩
        · rw [List.drop_eq_nil_of_le (by omega), List.drop_eq_nil_of_le (by omega)] at hsc
          have hsc : scan s p.terms a.terms = some all := by rw [← hsc]; rfl
          (refine w_freezeMap H HA ?_; intro c H HA)
          (refine s_call rfl rfl H HA (term_sorted l mb _ Lk (by omega)) ?_; intro vx c H HA)
          obtain ⟨out, ho, hop, hos⟩ := HA.h.1
          have heq := settled_sorted hop hos hnd hlk
          rw [heq] at ho
          have HA := HA.add ho
          (refine Z2 ?_; refine Z2 ?_; apply w_nil; apply wx_next; apply wc_ret)
          exact ret_fn H hm (outs2 Tryz.results97 Wh Wh) (Mt.yes (by rw [hm1, hsc]; rfl) Lk)
end Go.Proofs.YthkdggoohpgnnaaGreatDoor
/- Contracts: whether a clause may still become part of another, of the program's own. -/
namespace Go.Wk
open Go
theorem bindsOf_len : ∀ (vs : List Tm) (i : Nat), (bindsOf i vs).length = vs.length
  | [], _ => rfl
  | v :: vs, i => by simp [bindsOf, bindsOf_len vs]
end Go.Wk
namespace Go.Proofs.YthkdggoohpgnnaaGreatDoor
open Go Go.Wk
theorem subsume_binding (vs : List Tm) (v : Value) (c : Cx) (h : Sl v vs c) : Cn Tryz.prog 96 [v] c (fun r c => Sl r (bindsOf 0 vs) c) := by
  refine Cn.of Tryz.func96 Tryz.ntmps96 rfl rfl fun hm H HA => ?_
  have hlim := h.lim
  have HA := HA.add h
  (apply wc_seq; apply wc_region; refine Z2 ?_; apply w_nil; apply wx_next; apply wc_seq; apply wc_region; refine Z2 ?_; apply w_nil; apply wx_next; apply wc_seq; apply wc_seq; apply wc_region; refine Z0 ?_; refine Z45 ?_; refine Z0 ?_; apply w_nil; apply wx_next; apply wc_block)
  (have H := H.nilR Bd  111 4; have HA := HA.add (Vals.nil (α := Bd) _))
  refine wc_loopR (α := Bd) vs.length (fun k v' => [(3, v'), (6, v), (7, .int .i64 vs.length), (8, .int .i64 k)]) (fun k acc => acc = bindsOf 0 (vs.take k)) 0 [] H Lk Cu Ks (Nat.zero_le _) rfl ?_
  intro k acc vr vals g c hk hp H HA
  have hal : acc.length ≤ k := by rw [hp, bindsOf_len]; simp; omega
  (focus (apply wc_seq; apply wc_region; refine Z93 (fun hq => ?_) fun hq => ?_; apply w_nil; apply wx_next; apply wc_seq; refine Z18 ?_; apply wc_skip; apply wx_next; apply wc_seq; apply wc_block; apply wc_seq; apply wc_region; refine Z0 ?_; rotate_left; apply w_nil; apply wx_next; apply wc_seq; refine Z19 ?_; apply wc_exit; apply wx_exit_then; apply wx_exit_then; apply wx_exit_same; apply wx_next; apply wc_seq; apply wc_region; refine Z0 ?_; refine Z2 ?_; apply w_nil; apply wx_next; apply wc_ret; rotate_left))
  · obtain ⟨t, ht⟩ := getq (xs := vs) (k := k) (by omega)
    (refine Z34 HA fun vx HA => ?_; refine Z38 ?_; refine Z61 fun bx c H HA => ?_; refine Z2 ?_; refine Z74 fun c H HA => ?_; apply w_nil; apply wx_next; apply wc_region; refine Z0 ?_; refine Z0 ?_; refine Z42 ?_; refine Z54 ?_)
    (apply s_bs1D (u := (⟨(k : Int), t⟩ : Bd)); exact rfl; exact rfl; exact rfl; exact rfl; exact rfl; exact rfl; exact H; exact HA; exact inferInstance; intro vx c H HA)
    have H := H.drop
    (refine Z59 fun vx c valsx H HA => ?_; refine Z2 ?_; apply w_nil; apply wx_norm_block; apply wx_next; apply wc_region; refine Z46 ?_; refine Z0 ?_; apply w_nil)
    exact wx_loopR (k + 1) H Lk Cu Ks (by omega) (by
      rw [List.take_add_one, ht, Option.toList_some, bindsOf_snoc, ← hp]
      simp
      omega)
  · have hp : acc = bindsOf 0 vs := by rw [hp, List.take_of_length_le (by omega)]
    (refine wx_freezeRow H HA Lk rfl rfl Lt ?_; intro c H HA)
    exact ret_fn H hm (outs1 Tryz.results96 Wh) (by rw [← hp]; exact Lk)
theorem fits1 (p a : At0) (s : List Bd) (b1 b2 : Nat) (u v : Value) (c : Cx) (hb1 : Pt p (.pointer (some ⟨b1, 0, none⟩)) c) (hb2 : Box b2 [v] c) (hs : Sl v s c) (ha : Ag a u c) (hl : s.length + p.args.length < 549755813888) (hla : a.args.length + 1 < 1099511627776) :
    Cn Tryz.prog 99 [u, .pointer (some ⟨b1, 0, none⟩), .pointer (some ⟨b2, 0, none⟩)] c (fun r _ => r = .bool (matchA p a s).isSome) := by
  refine Cn.of Tryz.func99 Tryz.ntmps99 rfl rfl fun hm H HA => ?_
  have HA := (((HA.add ha).add hb1).add hb2).add hs
  (apply wc_seq; apply wc_region)
  (refine s_boxG rfl rfl Lk H HA ?_; intro q c H HA)
  (refine Z2 ?_; apply w_nil; apply wx_next; apply wc_seq; apply wc_region; refine Z39 HA fun vx HA => ?_; refine Z39 HA fun vx HA => ?_; refine Z1 ?_)
  (refine s_call rfl rfl H HA (term_Match p a s _ _ _ _ Lk Lk Lk hl hla) ?_; intro vx c H HA)
  obtain ⟨r', rfl, hr⟩ := HA.h.1
  (refine Z0 ?_; refine Z32 ?_; refine Z32 ?_; refine Z2 ?_; refine Z2 ?_; apply w_nil; apply wx_next; apply wc_seq; apply wc_region; refine Z0 ?_; refine Z2 ?_; apply w_nil; apply wx_next; apply wc_ret)
  exact ret_fn H hm (outs1 Tryz.results99 Wh) rfl
theorem IndexFunc_At (p : At0) (xs : List At0) (s : List Bd) (b1 b2 : Nat) (u v : Value) (c : Cx) (hb1 : Pt p (.pointer (some ⟨b1, 0, none⟩)) c) (hb2 : Box b2 [v] c) (hs : Sl v s c) (hx : Sl u xs c) (hl : s.length + p.args.length < 549755813888) (hla : ∀ a ∈ xs, a.args.length + 1 < 1099511627776) :
    Cn Tryz.prog 131 [u, .func (.func 99) #[] [.pointer (some ⟨b1, 0, none⟩), .pointer (some ⟨b2, 0, none⟩)].toArray] c (fun r _ => ∃ i : Int, r = .int .i64 i ∧ decide (i ≥ 0) = xs.any fun a => (matchA p a s).isSome) := by
  refine Cn.of Tryz.func131 Tryz.ntmps131 rfl rfl fun hm H HA => ?_
  have hlim := hx.lim
  have HA := (((HA.add hx).add hb1).add hb2).add hs
  (apply wc_seq; apply wc_region; refine Z2 ?_; apply w_nil; apply wx_next; apply wc_seq; apply wc_seq; apply wc_region; refine Z0 ?_; refine Z45 ?_; refine Z0 ?_; apply w_nil; apply wx_next; apply wc_block)
  refine wc_loopN xs.length (fun k => [(0, u), (1, .func (.func 99) #[] [.pointer (some ⟨b1, 0, none⟩), .pointer (some ⟨b2, 0, none⟩)].toArray), (7, .int .i64 xs.length), (8, .int .i64 k)]) (fun k => (xs.any fun a => (matchA p a s).isSome) = (xs.drop k).any fun a => (matchA p a s).isSome) 0 H HA Ks (Nat.zero_le _) rfl ?_
  intro k g c hk hp H HA
  (focus (apply wc_seq; apply wc_region; refine Z93 (fun hq => ?_) fun hq => ?_; apply w_nil; apply wx_next; apply wc_seq; refine Z18 ?_; apply wc_skip; apply wx_next; apply wc_seq; apply wc_block; apply wc_seq; apply wc_region; refine Z0 ?_; refine Z2 ?_; apply w_nil; apply wx_next; apply wc_seq; apply wc_region; refine Z0 ?_; refine Z0 ?_; refine Z0 ?_; rotate_left; apply w_nil; apply wx_next; apply wc_seq; refine Z19 ?_; apply wc_exit; apply wx_exit_then; apply wx_exit_then; apply wx_exit_same; apply wx_next; apply wc_seq; apply wc_region; refine Z2 ?_; apply w_nil; apply wx_next; apply wc_ret; rotate_left))
  · obtain ⟨t, ht⟩ := getq (xs := xs) (k := k) (by omega)
    have hd := drop_get ht
    (refine Z34 HA fun vx HA => ?_; refine Z39 HA fun vx HA => ?_)
    (refine s_callV (caps := [.pointer (some ⟨b1, 0, none⟩), .pointer (some ⟨b2, 0, none⟩)]) rfl rfl rfl H HA (fits1 p t s b1 b2 _ _ _ Lk Lk Lk Lk hl (hla t (List.mem_of_getElem? ht))) ?_; intro vx c H HP; have hvx := HP.h.1; have HA := HP.cut; subst hvx)
    cases hb : (matchA p t s).isSome
    · (apply w_nil; apply wx_next; refine Z19 ?_; apply wc_skip; apply wx_norm_block; apply wx_next; apply wc_region; refine Z46 ?_; refine Z0 ?_; apply w_nil)
      exact wx_loopN (k + 1) H Cu Ks (by omega) (by rw [hp, hd]; simp only [List.any_cons, hb, Bool.false_or])
    · (apply w_nil; apply wx_next; refine Z18 ?_; apply wc_seq; apply wc_region; refine Z0 ?_; refine Z2 ?_; apply w_nil; apply wx_next; apply wc_ret; apply wx_ret_block; apply wx_ret_then; apply wx_ret_then; apply wx_ret_block; apply wx_ret_then)
      exact ret_fn H hm (outs1 Tryz.results131 Wh) ⟨_, rfl, by rw [hp, hd]; simp only [List.any_cons, hb, Bool.true_or]; simp⟩
  · exact ret_fn H hm (outs1 Tryz.results131 Wh) ⟨_, rfl, by rw [hp, List.drop_eq_nil_of_le (by omega)]; rfl⟩
theorem ContainsFunc_At (p : At0) (xs : List At0) (s : List Bd) (b1 b2 : Nat) (u v : Value) (c : Cx) (hb1 : Pt p (.pointer (some ⟨b1, 0, none⟩)) c) (hb2 : Box b2 [v] c) (hs : Sl v s c) (hx : Sl u xs c) (hl : s.length + p.args.length < 549755813888) (hla : ∀ a ∈ xs, a.args.length + 1 < 1099511627776) :
    Cn Tryz.prog 98 [u, .func (.func 99) #[] [.pointer (some ⟨b1, 0, none⟩), .pointer (some ⟨b2, 0, none⟩)].toArray] c (fun r _ => r = .bool (xs.any fun a => (matchA p a s).isSome)) := by
  refine Cn.of Tryz.func98 Tryz.ntmps98 rfl rfl fun hm H HA => ?_
  have HA := (((HA.add hx).add hb1).add hb2).add hs
  (apply wc_seq; apply wc_region; refine Z2 ?_; apply w_nil; apply wx_next; apply wc_seq; apply wc_region; refine Z0 ?_; refine Z0 ?_)
  (refine s_call rfl rfl H HA (IndexFunc_At p xs s b1 b2 _ _ _ Lk Lk Lk Lk hl hla) ?_; intro vx c H HA)
  obtain ⟨i, rfl, hi⟩ := HA.h.1
  (focus (refine Z97 (fun hq => ?_) fun hq => ?_; refine Z2 ?_; apply w_nil; apply wx_next; apply wc_ret; rotate_left; refine Z2 ?_; apply w_nil; apply wx_next; apply wc_ret; rotate_left))
  all_goals exact ret_fn H hm (outs1 Tryz.results98 Wh) (by rw [← hi]; simp; omega)
end Go.Proofs.YthkdggoohpgnnaaGreatDoor
/- Contracts: whether a clause may still become part of another one, of the program's own. -/
namespace Go.Proofs.YthkdggoohpgnnaaGreatDoor
open Go Go.Wk
theorem decide_and (t : Ts) : (t.decide.1 && t.decide.2) = t.decide.1 := by
  unfold Ts.decide
  split <;> simp
theorem term_ApplyTestI (vs : List Tm) (v : Value) (t : Ts) (c : Cx) (h : Sl v (bindsOf 0 vs) c) (hg : Box 3 Tn.cs c) : Cn Tryz.prog 101 [v, .agg t.cs.toArray] c (fun u _ => u = .agg (testI vs t).cs.toArray) :=
  (term_ApplyTest (bindsOf 0 vs) v t c h hg).imp fun u _ _ h => by rw [h, become_binds, become_binds, testI]
theorem subsume_fits (x d : Cl) (vs : List Tm) (u1 u2 v : Value) (c : Cx) (h1 : Ag x u1 c) (h2 : Ag d u2 c) (h3 : Sl v vs c) (hg : Box 3 Tn.cs c) (hvl : vs.length ≤ 1000) (hx : ∀ a ∈ x.head :: x.body, a.args.length ≤ 1000) (hd : ∀ a ∈ d.head :: d.body, a.args.length ≤ 1000) (hsm : ∀ t ∈ x.tests, (testI vs t).l.sm) :
    Cn Tryz.prog 48 [u1, u2, v] c (fun r _ => r = .bool (fitsB x d vs)) := by
  refine Cn.of Tryz.func48 Tryz.ntmps48 rfl rfl fun hm H HA => ?_
  have hbl := bindsOf_len vs 0
  have hlb : x.body.length < 1099511627776 := by obtain ⟨cs, rfl, v, v1, v2, rfl, h⟩ := h1; exact h.2.1.lim
  have hlt : x.tests.length < 1099511627776 := by obtain ⟨cs, rfl, v, v1, v2, rfl, h⟩ := h1; exact h.2.2.lim
  have hh1 := hx x.head (List.mem_cons_self ..)
  have hh2 := hd d.head (List.mem_cons_self ..)
  have HA := (((HA.add h1).add h2).add h3).add hg
  (apply wc_seq; apply wc_region)
  (refine s_boxG rfl rfl Lk H HA ?_; intro p1 c H HA)
  (refine s_boxG rfl rfl Lk H HA ?_; intro p2 c H HA)
  (refine Z2 ?_; apply w_nil; apply wx_next; apply wc_seq; apply wc_region; refine Z0 ?_)
  (refine s_call rfl rfl H HA (subsume_binding vs _ _ Lk) ?_; intro vx c H HA)
  (obtain ⟨vb, rfl⟩ : ∃ x, x = vx := ⟨_, rfl⟩)
  (refine Z61 fun bx c H HA => ?_; refine Z75 fun c H HA => ?_; apply w_nil; apply wx_next; apply wc_seq; apply wc_seq; apply wc_region; refine Z35 HA fun vx HA => ?_; refine Z39 HA fun vx HA => ?_; refine Z35 HA fun vx HA => ?_; refine Z39 HA fun vx HA => ?_; refine Z41 ?_)
  (obtain ⟨b7, rfl⟩ : ∃ x, x = bx := ⟨_, rfl⟩)
  (refine w_freeze H HA ?_; intro c H HA)
  (skip)
  (refine s_call rfl rfl H HA (term_Match x.head d.head (bindsOf 0 vs) _ _ _ _ Lk Lk Lk (by omega) (by omega)) ?_; intro vx c H HA)
  obtain ⟨r', rfl, hr⟩ := HA.h.1
  cases hm1 : (matchA x.head d.head (bindsOf 0 vs)).isSome
  · (refine Z0 ?_; refine Z32 ?_; refine Z32 ?_; refine Z2 ?_; refine Z2 ?_; apply w_nil; apply wx_next; apply wc_seq; apply wc_region; refine Z0 ?_; refine Z33 ?_; apply w_nil; apply wx_next; refine Z18 ?_; apply wc_seq; apply wc_region; refine Z2 ?_; apply w_nil; apply wx_next; apply wc_ret; apply wx_ret_then)
    exact ret_fn H hm (outs1 Tryz.results48 Wh) (by simp [fitsB, hm1])
  (refine Z0 ?_; refine Z32 ?_; refine Z32 ?_; refine Z2 ?_; refine Z2 ?_; apply w_nil; apply wx_next; apply wc_seq; apply wc_region; refine Z0 ?_; refine Z33 ?_; apply w_nil; apply wx_next; refine Z19 ?_; apply wc_skip; apply wx_next; apply wc_seq; apply wc_seq; apply wc_region; refine Z35 HA fun vx HA => ?_; refine Z37 HA fun vx HA => ?_; refine Z45 ?_; refine Z0 ?_; apply w_nil; apply wx_next; apply wc_block)
  (obtain ⟨vl, rfl⟩ : ∃ x, x = vx := ⟨_, rfl⟩)
  refine wc_loopN x.body.length (fun k => [(2, v), (3, p1), (4, p2), (7, .pointer (some ⟨b7, 0, none⟩)), (31, vl), (32, .int .i64 x.body.length), (33, .int .i64 k)]) (fun k => x.body.all (fun a => d.body.any fun b => (matchA a b (bindsOf 0 vs)).isSome) = (x.body.drop k).all (fun a => d.body.any fun b => (matchA a b (bindsOf 0 vs)).isSome)) 0 H HA Ks (Nat.zero_le _) rfl ?_
  intro k g c hk hp H HA
  (focus (apply wc_seq; apply wc_region; refine Z93 (fun hq => ?_) fun hq => ?_; apply w_nil; apply wx_next; apply wc_seq; refine Z18 ?_; apply wc_skip; apply wx_next; apply wc_seq; apply wc_block; apply wc_seq; apply wc_region; rotate_left; apply w_nil; apply wx_next; apply wc_seq; refine Z19 ?_; apply wc_exit; apply wx_exit_then; apply wx_exit_then; apply wx_exit_same; apply wx_next; apply wc_seq; apply wc_seq; apply wc_region; refine Z35 HA fun vx HA => ?_; refine Z37 HA fun vx HA => ?_; refine Z45 ?_; refine Z0 ?_; apply w_nil; apply wx_next; apply wc_block; rotate_left))
  · obtain ⟨t, ht⟩ := getq (xs := x.body) (k := k) (by omega)
    have hdr := drop_get ht
    have hta := hx t (List.mem_cons_of_mem _ (List.mem_of_getElem? ht))
    (refine Z34 HA fun vx HA => ?_; refine Z39 HA fun vx HA => ?_; refine Z61 fun bx c H HA => ?_)
    (obtain ⟨b11, rfl⟩ : ∃ x, x = bx := ⟨_, rfl⟩)
    (refine s_storeG (α := At0) rfl rfl Lk rfl rfl H HA ?_; intro c H HA)
    (apply w_nil; apply wx_next; apply wc_seq; apply wc_region; refine Z35 HA fun vx HA => ?_; refine Z37 HA fun vx HA => ?_)
    (refine s_makeFunc (vs := [.pointer (some ⟨b11, 0, none⟩), .pointer (some ⟨b7, 0, none⟩)]) rfl rfl ?_)
    (skip)
    (refine s_call rfl rfl H HA (ContainsFunc_At t d.body (bindsOf 0 vs) b11 b7 _ _ _ Lk Lk Lk Lk (by omega) (fun a ha => by have := hd a (List.mem_cons_of_mem _ ha); omega)) ?_; intro vx c H HP; have hvx := HP.h.1; have HA := HP.cut; subst hvx)
    cases hc : (d.body.any fun a => (matchA t a (bindsOf 0 vs)).isSome)
    · (refine Z33 ?_; apply w_nil; apply wx_next; refine Z18 ?_; apply wc_seq; apply wc_region; refine Z2 ?_; apply w_nil; apply wx_next; apply wc_ret; apply wx_ret_block; apply wx_ret_then; apply wx_ret_then; apply wx_ret_block; apply wx_ret_then)
      exact ret_fn H hm (outs1 Tryz.results48 Wh) (by simp only [fitsB, hp, hdr, List.all_cons, hc, Bool.false_and, Bool.and_false])
    · (refine Z33 ?_; apply w_nil; apply wx_next; refine Z19 ?_; apply wc_skip; apply wx_norm_block; apply wx_next; apply wc_region; refine Z46 ?_; refine Z0 ?_; apply w_nil)
      exact wx_loopN (k + 1) H Cu Ks (by omega) (by rw [hp, hdr]; simp only [List.all_cons, hc, Bool.true_and])
  · have hbody : x.body.all (fun a => d.body.any fun b => (matchA a b (bindsOf 0 vs)).isSome) = true := by rw [hp, List.drop_eq_nil_of_le (by omega)]; rfl
    clear hp hk
    (obtain ⟨vt, rfl⟩ : ∃ x, x = vx := ⟨_, rfl⟩)
    refine wc_loopN x.tests.length (fun k => [(2, v), (3, p1), (4, p2), (7, .pointer (some ⟨b7, 0, none⟩)), (44, vt), (45, .int .i64 x.tests.length), (46, .int .i64 k)]) (fun k => (x.tests.all fun t => !(hadT t.l vs.length && hadT t.r vs.length) || tsOk d (testI vs t)) = ((x.tests.drop k).all fun t => !(hadT t.l vs.length && hadT t.r vs.length) || tsOk d (testI vs t))) 0 H HA Ks (Nat.zero_le _) rfl ?_
    intro k g c hk hp H HA
    (focus (apply wc_seq; apply wc_region; refine Z93 (fun hq => ?_) fun hq => ?_; apply w_nil; apply wx_next; apply wc_seq; refine Z18 ?_; apply wc_skip; apply wx_next; apply wc_seq; apply wc_block; apply wc_seq; apply wc_region; rotate_left; apply w_nil; apply wx_next; apply wc_seq; refine Z19 ?_; apply wc_exit; apply wx_exit_then; apply wx_exit_then; apply wx_exit_same; apply wx_next; apply wc_seq; apply wc_region; refine Z2 ?_; apply w_nil; apply wx_next; apply wc_ret; rotate_left))
    · obtain ⟨t, ht⟩ := getq (xs := x.tests) (k := k) (by omega)
      have hdr := drop_get ht
      have hts := hsm t (List.mem_of_getElem? ht)
      (refine Z34 HA fun vx HA => ?_; refine Z38 ?_; refine Z61 fun bx c H HA => ?_; refine Z74 fun c H HA => ?_; apply w_nil; apply wx_next; apply wc_seq; apply wc_seq; apply wc_region; refine Z3 ?_; refine Z42 ?_; refine Z0 ?_; refine Z45 ?_)
      (refine s_call rfl rfl H HA (subsume_had t.l vs.length _) ?_; intro vx c H HP; have hvx := HP.h.1; have HA := HP.cut; subst hvx)
      have e1 : (!t.l.isVar || decide (t.l.n < (vs.length : Int))) = hadT t.l vs.length := rfl
      rw [e1]
      cases hL : hadT t.l vs.length
      · (refine Z33 ?_; refine Z0 ?_; refine Z5 ?_; refine Z5 ?_; refine Z5 ?_; refine Z5 ?_; refine Z5 ?_; refine Z5 ?_; refine Z8 ?_; apply w_nil; apply wx_next; refine Z18 ?_; apply wc_exit; apply wx_exit_then; apply wx_exit_same; apply wx_next; apply wc_region; refine Z46 ?_; refine Z0 ?_; apply w_nil)
        have H := H.drop
        exact wx_loopN (k + 1) H Cu Ks (by omega) (by rw [hp, hdr]; simp [hL])
      · (refine Z33 ?_; refine Z0 ?_; refine Z4 ?_; refine Z3 ?_; refine Z4 ?_; refine Z42 ?_; refine Z4 ?_; refine Z0 ?_; refine Z4 ?_; refine Z45 ?_; refine Z4 ?_)
        (refine s_call rfl rfl H HA (subsume_had t.r vs.length _) ?_; intro vx c H HP; have hvx := HP.h.1; have HA := HP.cut; subst hvx)
        have e2 : (!t.r.isVar || decide (t.r.n < (vs.length : Int))) = hadT t.r vs.length := rfl
        rw [e2]
        cases hR : hadT t.r vs.length
        · (refine Z4 ?_; refine Z33 ?_; refine Z30 ?_; apply w_nil; apply wx_next; refine Z18 ?_; apply wc_exit; apply wx_exit_then; apply wx_exit_same; apply wx_next; apply wc_region; refine Z46 ?_; refine Z0 ?_; apply w_nil)
          have H := H.drop
          exact wx_loopN (k + 1) H Cu Ks (by omega) (by rw [hp, hdr]; simp [hR])
        · (refine Z4 ?_; refine Z33 ?_; refine Z30 ?_; apply w_nil; apply wx_next; refine Z19 ?_; apply wc_skip; apply wx_next; apply wc_seq; apply wc_region; refine Z1 ?_; refine Z42 ?_)
          (refine s_call rfl rfl H HA (term_ApplyTestI vs _ t _ Lk Lk) ?_; intro vx c H HP; have hvx := HP.h.1; have HA := HP.cut; subst hvx)
          (refine Z61 fun bx c H HA => ?_; refine Z74 fun c H HA => ?_; apply w_nil; apply wx_next; apply wc_seq; apply wc_region; refine Z42 ?_)
          (refine s_call rfl rfl H HA (term_Decide (testI vs t) _ hts) ?_; intro vx c H HP; have hvx := HP.h.1; have HA := HP.cut; subst hvx)
          have hda := decide_and (testI vs t)
          cases hD : (testI vs t).decide.1
          · (refine Z0 ?_; refine Z32 ?_; refine Z32 ?_; refine Z2 ?_; refine Z2 ?_; apply w_nil; apply wx_next; apply wc_seq; apply wc_region; refine Z0 ?_; refine Z33 ?_; refine Z0 ?_; refine Z4 ?_; refine Z35 HA fun vx HA => ?_; refine Z4 ?_; refine Z37 HA fun vx HA => ?_; refine Z4 ?_; refine Z42 ?_; refine Z4 ?_)
            (refine s_call rfl rfl H HA (Contains_Ts d.tests _ (testI vs t) _ Lk) ?_; intro vx c H HP; have hvx := HP.h.1; have HA := HP.cut; subst hvx)
            cases hC : decide (testI vs t ∈ d.tests)
            · (refine Z4 ?_; refine Z33 ?_; refine Z8 ?_; apply w_nil; apply wx_next; refine Z18 ?_; apply wc_seq; apply wc_region; refine Z2 ?_; apply w_nil; apply wx_next; apply wc_ret; apply wx_ret_block; apply wx_ret_then; apply wx_ret_then; apply wx_ret_block; apply wx_ret_then)
              exact ret_fn H hm (outs1 Tryz.results48 Wh) (by
                have : tsOk d (testI vs t) = false := by rw [tsOk, hda, hD, hC]; rfl
                simp only [fitsB, hp, hdr, List.all_cons, hL, hR, this]
                simp)
            · (refine Z4 ?_; refine Z33 ?_; refine Z8 ?_; apply w_nil; apply wx_next; refine Z19 ?_; apply wc_skip; apply wx_norm_block; apply wx_next; apply wc_region; refine Z46 ?_; refine Z0 ?_; apply w_nil)
              have H := H.drop.drop
              exact wx_loopN (k + 1) H Cu Ks (by omega) (by
                have : tsOk d (testI vs t) = true := by rw [tsOk, hda, hD, hC]; rfl
                rw [hp, hdr]; simp [this])
          · (refine Z0 ?_; refine Z32 ?_; refine Z32 ?_; refine Z2 ?_; refine Z2 ?_; apply w_nil; apply wx_next; apply wc_seq; apply wc_region; refine Z0 ?_; refine Z33 ?_; refine Z0 ?_; refine Z5 ?_; refine Z5 ?_; refine Z5 ?_; refine Z5 ?_; refine Z5 ?_; refine Z30 ?_; apply w_nil; apply wx_next; refine Z19 ?_; apply wc_skip; apply wx_norm_block; apply wx_next; apply wc_region; refine Z46 ?_; refine Z0 ?_; apply w_nil)
            have H := H.drop.drop
            exact wx_loopN (k + 1) H Cu Ks (by omega) (by
              have : tsOk d (testI vs t) = true := by rw [tsOk, hda, hD]; rfl
              rw [hp, hdr]; simp [this])
    · exact ret_fn H hm (outs1 Tryz.results48 Wh) (by
        rw [List.drop_eq_nil_of_le (by omega)] at hp
        simp only [fitsB, hp, hbody, hm1]
        rfl)
end Go.Proofs.YthkdggoohpgnnaaGreatDoor
/- Contracts: a sorted row without doubles, of the library. -/
namespace Go.Proofs.YthkdggoohpgnnaaGreatDoor
open Go Go.Wk
theorem Compact_Tm (xs : List Tm) (v : Value) (vals : List (List Value)) (c : Cx) (HV : Vals vals xs c) (hlim : xs.length < 1099511627776) : CnT Tryz.prog 106 [v] [.row v 23 3 xs.length vals.flatten] [] c (fun p c => Sl p (adjL xs) c) := by
  refine CnT.of Tryz.func106 Tryz.ntmps106 rfl rfl fun c0 L0 A0 _ H HA => ?_
  have HA := HA.add HV
  have H : Owns c0 (.row v 23 3 xs.length vals.flatten :: L0) c := H
  (focus (apply wc_seq; apply wc_region; refine Z2 ?_; apply w_nil; apply wx_next; apply wc_seq; apply wc_seq; apply wc_region; refine Z0 ?_; refine Z62 ?_; refine Z93 (fun hq => ?_) fun hq => ?_; apply w_nil; apply wx_next; refine Z18 ?_; apply wc_seq; apply wc_region; refine Z0 ?_; refine Z2 ?_; apply w_nil; apply wx_next; apply wc_ret; apply wx_ret_then; rotate_left; apply w_nil; apply wx_next; refine Z19 ?_; apply wc_skip; apply wx_next; apply wc_seq; apply wc_seq; apply wc_region; refine Z2 ?_; apply w_nil; apply wx_next; apply wc_block; rotate_left))
  · have he : adjL xs = xs := by
      match xs, hq with
      | [], _ => rfl
      | [x], _ => rfl
      | x :: y :: l, hq => simp at hq; omega
    (refine wx_freezeRow H HA Lk rfl rfl (by simp only [LIM]; omega) ?_; intro c H HA)
    rw [he]
    exact ret_fnT (post := []) H Ca (outs1 Tryz.results106 Wh) Lk
  have h2 : 2 ≤ xs.length := by omega
  refine wc_loopN xs.length (fun k => [(0, v), (3, .int .i64 k)]) (fun k => 1 ≤ k ∧ adjL (xs.take k) = xs.take k) 1 H HA Ks (by omega) ⟨Nat.le_refl _, by
    cases xs with
    | nil => rfl
    | cons x l => rfl⟩ ?_
  intro k g c hk hp H HA
  obtain ⟨hk1, hadj⟩ := hp
  (focus (apply wc_seq; apply wc_seq; apply wc_region; refine Z0 ?_; refine Z0 ?_; refine Z62 ?_; refine Z93 (fun hq => ?_) fun hq => ?_; apply w_nil; apply wx_next; refine Z18 ?_; apply wc_skip; apply wx_next; apply wc_seq; apply wc_block; apply wc_seq; rotate_left; apply w_nil; apply wx_next; refine Z19 ?_; apply wc_exit; apply wx_exit_then; apply wx_exit_then; apply wx_exit_same; apply wx_next; apply wc_seq; apply wc_region; refine Z0 ?_; refine Z2 ?_; apply w_nil; apply wx_next; apply wc_ret; rotate_left))
  · obtain ⟨b, hb⟩ := getq (xs := xs) (k := k) (by omega)
    obtain ⟨a, ha⟩ := getq (xs := xs) (k := k - 1) (by omega)
    have hat := adjL_take (xs := xs) (k := k - 1) ha (by rw [show k - 1 + 1 = k by omega]; exact hb)
    rw [show k - 1 + 2 = k + 1 by omega, show k - 1 + 1 = k by omega] at hat
    have htk : xs.take (k + 1) = xs.take k ++ [b] := by rw [List.take_add_one, hb]; rfl
    have ek : ((k : Int) - 1) = ((k - 1 : Nat) : Int) := by omega
    by_cases he : b = a
    · refine wc_lendX (fun f => KS f [(0, v), (3, .int .i64 k), (25, .bool true)]) H HA Lk rfl rfl (by simp only [LIM]; omega) ?_ ?_
      · intro c1 c H HA
        (refine dw_start H HA ?_)
        (repeat (refine Dc ?_))
        (refine dw_done mixed H HA rfl (by kernel_rfl) ?_; clear H HA; intro c H HA; (repeat (first | (intro vx hx; have hx2 : vx = _ := hx; clear hx; subst hx2) | (intro vx hx; have HA := HA.addSF hx; clear hx) | (intro vx hx; have HA := HA.add hx; clear hx) | intro vx)); change W _ _ _ _ _ _ _)
        exact w_nil (wx_cut ⟨Ks, H, Lk⟩)
      intro f c hR H HA
      obtain ⟨g2, rfl⟩ := hR.ex
      rw [if_pos he.symm, List.append_nil] at hat
      (apply wx_next; refine Z18 ?_; apply wc_seq; apply wc_region; refine Z0 ?_; refine Z0 ?_)
      refine s_slR (lo := k) (hi := xs.length) rfl rfl (.inl rfl) (.inr ⟨rfl, rfl⟩) H (List.Mem.head _) (by omega) (Nat.le_refl _) ?_
      intro s2 hs2
      (refine Z2 ?_; apply w_nil; apply wx_next; apply wc_seq; apply wc_seq; apply wc_region; refine Z2 ?_; apply w_nil; apply wx_next; apply wc_block)
      have hwf : (xs.length - k : Nat) = ((xs.length - k : Nat) : Int) := rfl
      refine wc_loopG (σ := Nat × Nat × List Tm × List (List Value)) (fun y => xs.length - k - y.2.1) (fun y => [(0, v), (3, .int .i64 y.1), (4, s2), (5, .int .i64 y.2.1)])
        (fun y => 1 ≤ y.2.1 ∧ k + y.2.1 ≤ xs.length ∧ y.1 + 1 ≤ k + y.2.1 ∧ y.2.2.1.length = xs.length ∧ y.2.2.1.take y.1 = adjL (xs.take (k + y.2.1)) ∧ y.2.2.1.drop (k + y.2.1 - 1) = xs.drop (k + y.2.1 - 1))
        (fun y => .row v 23 3 y.2.2.1.length y.2.2.2.flatten :: L0) (fun y c => Vals y.2.2.2 y.2.2.1 c) (k, 1, xs, vals) H HA Lk Ks ⟨Nat.le_refl _, by dsimp only; omega, Nat.le_refl _, rfl, by dsimp only; rw [hat, hadj], rfl⟩ ?_
      intro y g c hp H HA
      obtain ⟨k2, i, acc, vals2⟩ := y
      obtain ⟨hi1, hi2, hk2, hal, hat2, hdr⟩ := hp
      dsimp only at hi1 hi2 hk2 hal hat2 hdr H HA ⊢
      (apply wc_seq; apply wc_seq; apply wc_region; refine Z0 ?_; refine Z0 ?_)
      (refine s_lenRS rfl rfl hs2 ?_)
      rw [← hal] at hs2
      (focus (refine Z93 (fun hq => ?_) fun hq => ?_; apply w_nil; apply wx_next; refine Z18 ?_; apply wc_skip; apply wx_next; apply wc_seq; apply wc_block; apply wc_seq; rotate_left; apply w_nil; apply wx_next; refine Z19 ?_; apply wc_exit; apply wx_exit_then; apply wx_exit_then; apply wx_exit_same; apply wx_next; apply wc_seq; apply wc_region; refine Z0 ?_; refine Z0 ?_; rotate_left))
      · have hgd : ∀ q, k + i - 1 ≤ q → acc[q]? = xs[q]? := fun q hq => by
          have h := congrArg (·[q - (k + i - 1)]?) hdr
          simp only [List.getElem?_drop] at h
          rwa [show k + i - 1 + (q - (k + i - 1)) = q by omega] at h
        obtain ⟨b2, hb2⟩ := getq (xs := xs) (k := k + i) (by omega)
        obtain ⟨a2, ha2⟩ := getq (xs := xs) (k := k + i - 1) (by omega)
        have hb3 : acc[k + i]? = some b2 := (hgd _ (by omega)).trans hb2
        have ha3 : acc[k + i - 1]? = some a2 := (hgd _ (Nat.le_refl _)).trans ha2
        have hat3 := adjL_take (xs := xs) (k := k + i - 1) ha2 (by rw [show k + i - 1 + 1 = k + i by omega]; exact hb2)
        rw [show k + i - 1 + 2 = k + i + 1 by omega, show k + i - 1 + 1 = k + i by omega] at hat3
        have hdr2 : acc.drop (k + i) = xs.drop (k + i) := by
          have h := congrArg (List.drop 1) hdr
          simp only [List.drop_drop] at h
          rwa [show k + i - 1 + 1 = k + i by omega] at h
        have hl1 : ((acc.drop k).take (acc.length - k))[i]? = some b2 := by rw [List.getElem?_take, if_pos (by omega), List.getElem?_drop]; exact hb3
        have hl2 : ((acc.drop k).take (acc.length - k))[i - 1]? = some a2 := by rw [List.getElem?_take, if_pos (by omega), List.getElem?_drop, show k + (i - 1) = k + i - 1 by omega]; exact ha3
        by_cases he2 : b2 = a2
        · refine wc_lendX (fun f => KS f [(0, v), (3, .int .i64 k2), (4, s2), (5, .int .i64 i), (44, .bool false)]) H HA Lk rfl rfl (by simp only [LIM]; omega) ?_ ?_
          · intro c1 c H HA
            have hsl := hs2.sl (xs := acc) (c := c) Lk rfl (by omega) (Nat.le_refl _)
            generalize (acc.drop k).take (acc.length - k) = L2 at hl1 hl2 hsl
            have HA := HA.add hsl
            (refine dw_start H HA ?_)
            (repeat (refine Dc ?_))
            (refine dw_done mixed H HA rfl (by kernel_rfl) ?_; clear H HA; intro c H HA; (repeat (first | (intro vx hx; have hx2 : vx = _ := hx; clear hx; subst hx2) | (intro vx hx; have HA := HA.addSF hx; clear hx) | (intro vx hx; have HA := HA.add hx; clear hx) | intro vx)); change W _ _ _ _ _ _ _)
            exact w_nil (wx_cut ⟨Ks, H, Lk⟩)
          intro f c hR2 H HA
          obtain ⟨g3, rfl⟩ := hR2.ex
          rw [if_pos he2.symm, List.append_nil] at hat3
          (apply wx_next; refine Z19 ?_; apply wc_skip; apply wx_norm_block; apply wx_next; apply wc_region; refine Z0 ?_; refine Z46 ?_; refine Z2 ?_; apply w_nil)
          exact wx_loopG ((k2, i + 1, acc, vals2)) H Cu Lk Ks (by dsimp only; omega) ⟨by dsimp only; omega, by dsimp only; omega, by dsimp only; omega, hal, by dsimp only; rw [hat2, ← hat3]; rfl, hdr2⟩
        · refine wc_lendX (fun f => KS f [(0, v), (3, .int .i64 k2), (4, s2), (5, .int .i64 i), (44, .bool true)]) H HA Lk rfl rfl (by simp only [LIM]; omega) ?_ ?_
          · intro c1 c H HA
            have hsl := hs2.sl (xs := acc) (c := c) Lk rfl (by omega) (Nat.le_refl _)
            generalize (acc.drop k).take (acc.length - k) = L2 at hl1 hl2 hsl
            have HA := HA.add hsl
            (refine dw_start H HA ?_)
            (repeat (refine Dc ?_))
            (refine dw_done mixed H HA rfl (by kernel_rfl) ?_; clear H HA; intro c H HA; (repeat (first | (intro vx hx; have hx2 : vx = _ := hx; clear hx; subst hx2) | (intro vx hx; have HA := HA.addSF hx; clear hx) | (intro vx hx; have HA := HA.add hx; clear hx) | intro vx)); change W _ _ _ _ _ _ _)
            exact w_nil (wx_cut ⟨Ks, H, Lk⟩)
          intro f c hR2 H HA
          obtain ⟨g3, rfl⟩ := hR2.ex
          rw [if_neg (fun e => he2 e.symm)] at hat3
          (apply wx_next; refine Z18 ?_; apply wc_seq; apply wc_region; refine Z0 ?_; refine Z0 ?_; refine Z0 ?_; refine Z0 ?_)
          refine s_ixRS rfl rfl rfl hs2 H (List.Mem.head _) rfl (by omega) ?_
          intro q hq3
          refine s_ldRD rfl rfl hq3 H (List.Mem.head _) Lk rfl hb3 inferInstance ?_
          (refine Z63 fun rp hrp => ?_)
          (refine s_stRA (u := b2) rfl rfl hrp H Lk (by omega) rfl rfl HA inferInstance ?_; intro c H HA)
          (apply w_nil; apply wx_next; apply wc_region; refine Z0 ?_; refine Z46 ?_; refine Z2 ?_; apply w_nil; apply wx_norm_block; apply wx_next; apply wc_region; refine Z0 ?_; refine Z46 ?_; refine Z2 ?_; apply w_nil)
          exact wx_loopG ((k2 + 1, i + 1, acc.set k2 b2, vals2.set k2 b2.cs)) H Cu Lk Ks (by dsimp only; omega) ⟨by dsimp only; omega, by dsimp only; omega, by dsimp only; omega, by simpa using hal, by
            dsimp only
            rw [take_set_succ (by omega), hat2, ← hat3]
            rfl, by
            dsimp only
            rw [List.drop_set_of_lt (by omega)]
            exact hdr2⟩
      · have hki : k + i = xs.length := by omega
        rw [hki, List.take_of_length_le (Nat.le_refl _)] at hat2
        refine s_slR (lo := k2) (hi := acc.length) rfl rfl (.inl rfl) (.inr ⟨rfl, rfl⟩) H (List.Mem.head _) (by omega) (Nat.le_refl _) ?_
        intro q hq3
        refine s_clear (u := Tn) (zs := Tn.cs) rfl (fun _ => rfl) rfl rfl hq3 (by omega) H Lk HA ?_
        intro c vals3 acc3 hl3 ht3 H HA
        (apply w_nil; apply wx_next; apply wc_seq; apply wc_region; refine Z0 ?_; refine Z0 ?_)
        refine s_slR (lo := 0) (hi := k2) rfl rfl (.inr ⟨rfl, rfl⟩) (.inl rfl) H (List.Mem.head _) (by omega) (by omega) ?_
        intro q4 hq4
        (refine Z2 ?_; apply w_nil; apply wx_next; apply wc_ret; apply wx_ret_block; apply wx_ret_then; apply wx_ret_then; apply wx_ret_block; apply wx_ret_then)
        (refine wx_freezeRow H HA Lk rfl rfl (by simp only [LIM]; omega) ?_; intro c H HA)
        have hsl := hq4.sl (xs := acc3) (c := c) Lk rfl (by omega) (by omega)
        rw [List.drop_zero, Nat.sub_zero, ht3, hat2] at hsl
        exact ret_fnT (post := []) H Ca (outs1 Tryz.results106 Wh) hsl
    · refine wc_lendX (fun f => KS f [(0, v), (3, .int .i64 k), (25, .bool false)]) H HA Lk rfl rfl (by simp only [LIM]; omega) ?_ ?_
      · intro c1 c H HA
        (refine dw_start H HA ?_)
        (repeat (refine Dc ?_))
        (refine dw_done mixed H HA rfl (by kernel_rfl) ?_; clear H HA; intro c H HA; (repeat (first | (intro vx hx; have hx2 : vx = _ := hx; clear hx; subst hx2) | (intro vx hx; have HA := HA.addSF hx; clear hx) | (intro vx hx; have HA := HA.add hx; clear hx) | intro vx)); change W _ _ _ _ _ _ _)
        exact w_nil (wx_cut ⟨Ks, H, Lk⟩)
      intro f c hR H HA
      obtain ⟨g2, rfl⟩ := hR.ex
      rw [if_neg (fun e => he e.symm), hadj] at hat
      (apply wx_next; refine Z19 ?_; apply wc_skip; apply wx_norm_block; apply wx_next; apply wc_region; refine Z0 ?_; refine Z46 ?_; refine Z2 ?_; apply w_nil)
      exact wx_loopN (k + 1) H Cu Ks (by omega) ⟨by omega, by rw [hat, htk]⟩
  · have hka : adjL xs = xs := by rw [List.take_of_length_le (by omega)] at hadj; exact hadj
    (refine wx_freezeRow H HA Lk rfl rfl (by simp only [LIM]; omega) ?_; intro c H HA)
    rw [hka]
    exact ret_fnT (post := []) H Ca (outs1 Tryz.results106 Wh) Lk
end Go.Proofs.YthkdggoohpgnnaaGreatDoor
/- Contracts: the terms of a clause's body, in order, of the program's own. -/
namespace Go.Proofs.YthkdggoohpgnnaaGreatDoor
open Go Go.Wk
theorem sortTm_q : SortsQ Tryz.prog 104 (fun v _ => [v, .func (.func 105) #[] #[]]) 3 105 := by
  have hf : Tryz.sortTm_ren.f 6 = 104 := by kernel_rfl
  have ht : Tryz.sortTm_ren.t 24 = 23 := by kernel_rfl
  have h := sortFunc_q Tryz.sortTm (kk := 3) (g := 105) (by rw [ht]; exact Agg.ag) (by rw [ht]; exact Agg.sz) Ent.h
  rw [hf] at h
  exact h
theorem sortTm_0 (p : Option Addr) (cap : Nat) (c : Cx) : Cn Tryz.prog 104 [.slice p 0 cap, .func (.func 105) #[] #[]] c (fun v _ => v = .tuple #[]) := by
  have hf : Tryz.sortTm_ren.f 6 = 104 := by kernel_rfl
  have h := sortFunc_0 Tryz.sortTm (g := 105) p cap c
  rw [hf] at h
  exact h
theorem subsume_bodyTerms (d : Cl) (u : Value) (c : Cx) (h : Ag d u c) (hb : d.bodyTerms.length < 1099511627776) (hs : ∀ t ∈ d.bodyTerms, t.sm) : Cn Tryz.prog 49 [u] c (fun v c => Sl v (bodyVals d) c) := by
  refine Cn.of Tryz.func49 Tryz.ntmps49 rfl rfl fun hm H HA => ?_
  have hlb : d.body.length < 1099511627776 := by obtain ⟨cs, rfl, v, v1, v2, rfl, h⟩ := h; exact h.2.1.lim
  have HA := HA.add h
  (apply wc_seq; apply wc_region)
  (refine s_boxG rfl rfl Lk H HA ?_; intro p c H HA)
  (refine Z2 ?_; apply w_nil; apply wx_next; apply wc_seq; apply wc_region; refine Z2 ?_; apply w_nil; apply wx_next; apply wc_seq; apply wc_seq; apply wc_region; refine Z35 HA fun vx HA => ?_; refine Z37 HA fun vx HA => ?_; refine Z45 ?_; refine Z0 ?_; apply w_nil; apply wx_next; apply wc_block)
  (obtain ⟨vl, rfl⟩ : ∃ x, x = vx := ⟨_, rfl⟩)
  have H := H.nilR Tm 23 3
  refine wc_loopG (σ := Nat × List Tm × Value) (fun y => d.body.length - y.1) (fun y => [(3, y.2.2), (7, vl), (8, .int .i64 d.body.length), (9, .int .i64 y.1)]) (fun y => y.1 ≤ d.body.length ∧ y.2.1 = (d.body.take y.1).flatMap At0.terms)
    (fun y => [.row y.2.2 23 3 y.2.1.length (y.2.1.map Tm.cs).flatten]) (fun _ => Tt) (0, [], .slice none 0 0) H HA trivial Ks ⟨Nat.zero_le _, rfl⟩ ?_
  intro y g c hp H HA
  obtain ⟨k, acc, vr⟩ := y
  obtain ⟨hk, hacc⟩ := hp
  dsimp only at hk hacc H HA ⊢
  (focus (apply wc_seq; apply wc_region; refine Z93 (fun hq => ?_) fun hq => ?_; apply w_nil; apply wx_next; apply wc_seq; refine Z18 ?_; apply wc_skip; apply wx_next; apply wc_seq; apply wc_block; apply wc_seq; apply wc_region; rotate_left; apply w_nil; apply wx_next; apply wc_seq; refine Z19 ?_; apply wc_exit; apply wx_exit_then; apply wx_exit_then; apply wx_exit_same; apply wx_next; apply wc_seq; apply wc_region; refine Z0 ?_; rotate_left))
  · obtain ⟨t, ht⟩ := getq (xs := d.body) (k := k) (by omega)
    have hst : (d.body.take (k + 1)).flatMap At0.terms = acc ++ t.terms := by
      rw [List.take_add_one, ht, List.flatMap_append, ← hacc]
      simp
    have hle : (acc ++ t.terms).length ≤ d.bodyTerms.length := by
      rw [← hst]
      have : d.bodyTerms = (d.body.take (k + 1)).flatMap At0.terms ++ (d.body.drop (k + 1)).flatMap At0.terms := by
        rw [← List.flatMap_append, List.take_append_drop]
        rfl
      rw [this, List.length_append]
      omega
    rw [List.length_append, At0.terms, List.length_cons] at hle
    (refine Z34 HA fun vx HA => ?_; refine Z39 HA fun vx HA => ?_; refine Z61 fun bx c H HA => ?_)
    (refine s_storeG (α := At0) rfl rfl Lk rfl rfl H HA ?_; intro c H HA)
    (apply w_nil; apply wx_next)
    generalize (Go.Value.pointer (some ⟨bx, 0, Option.none⟩)) = px at HA ⊢
    refine dw_startE (I := [.row vr 23 3 acc.length (acc.map Tm.cs).flatten]) (L := []) H HA ?_
    (refine Dc ?_)
    (refine Dc ?_)
    (refine Dc ?_)
    (apply dw_cons; (focus ((intro B _ Lx c H HA; (repeat (first | (intro vx hx; have hx2 : vx = _ := hx; clear hx; subst hx2) | (intro vx hx; have HA := HA.addSF hx; clear hx) | (intro vx hx; have HA := HA.add hx; clear hx) | intro vx)); change W _ _ _ _ _ _ _); (apply s_bs1D (u := t.by_); exact rfl; exact rfl; exact rfl; exact rfl; exact rfl; exact rfl; exact H; exact HA; exact inferInstance; intro vx c H HA); exact Dx)); exact inferInstance)
    refine dw_consE (pv := none) (r := .row vr 23 3 acc.length (acc.map Tm.cs).flatten) (sel := id) (S := fun _ _ => True) (e := 23) (kk := 3) (m := (acc ++ [t.by_]).length) (xs := ((acc ++ [t.by_]).map Tm.cs).flatten) ?_ (fun _ => ⟨fun _ h => h⟩) ?_
    · (intro B _ Lx c HA; (repeat (first | (intro vx hx; have hx2 : vx = _ := hx; clear hx; subst hx2) | (intro vx hx; have HA := HA.addSF hx; clear hx) | (intro vx hx; skip; have HA := HA.add hx; clear hx) | (intro vx; have hvx2 : Go.Value := vx; clear hvx2))); (first | intro H | (have H := HA.h.1; have HA := HA.cut)); change W _ _ _ _ _ _ _)
      have H : Owns _ (.row vr 23 3 acc.length (acc.map Tm.cs).flatten :: (Lx ++ [])) c := H
      refine s_appR (α := Tm) (acc := acc) (ys := [t.by_]) (vals := acc.map Tm.cs) rfl rfl rfl H (vals_map (P := Tryz.prog) (e := 23) acc c) Lk rfl rfl rfl (by simp; omega) HA inferInstance ?_
      intro vx c valsx H HA
      have hvv := vals_is (cv := Tm.cs) HA.h.1
      subst hvv
      exact w_nil (pq_eff H Cu trivial)
    (refine Dc ?_)
    (refine Dc ?_)
    refine dw_doneT mixed (I := [.row vr 23 3 acc.length (acc.map Tm.cs).flatten]) (by kernel_rfl) H HA (by kernel_rfl) ?_
    clear H HA
    intro c HA v1 h1 v3 h3 v4 h4 v5 h5 v6 h6 H
    have HA := HA.add h6
    have H : Owns _ [.row v4 23 3 (acc ++ [t.by_]).length ((acc ++ [t.by_]).map Tm.cs).flatten] c := H
    change W _ _ _ _ _ _ _
    refine s_appR (α := Tm) (acc := acc ++ [t.by_]) (ys := t.args) (vals := (acc ++ [t.by_]).map Tm.cs) rfl rfl rfl H (vals_map (P := Tryz.prog) (e := 23) _ c) Lk rfl rfl rfl (by simp; omega) HA inferInstance ?_
    intro vx c valsx H HA
    have hvv := vals_is (cv := Tm.cs) HA.h.1
    subst hvv
    have HA := HA.cut
    have e4 : acc ++ [t.by_] ++ t.args = acc ++ t.terms := by simp [At0.terms]
    rw [e4] at H
    (refine Z2 ?_; apply w_nil; apply wx_norm_block; apply wx_next; apply wc_region; refine Z46 ?_; refine Z0 ?_; apply w_nil)
    exact wx_loopG ((k + 1, acc ++ t.terms, vx)) H Cu trivial Ks (by dsimp only; omega) ⟨by dsimp only; omega, hst.symm⟩
  · have hacc : acc = d.bodyTerms := by rw [hacc, List.take_of_length_le (by omega)]; rfl
    refine s_sort (P := Tryz.prog) (xs := acc) (vals := acc.map Tm.cs) (good := Tm.sm) (cmp := cmpTm) (kk := 3) sortTm_q sortTm_0 rfl cmpTm_t3.toP3 rfl rfl H (vals_map (P := Tryz.prog) (e := 23) _ c) HA (by rw [hacc]; exact hs) ?_ (by rw [hacc]; omega) ?_
    · rintro x y u1 u2 c' hx _ ⟨_, rfl, rfl⟩ ⟨_, rfl, rfl⟩ _
      exact term_Compare x y c' hx
    intro c' vals' out hpm hso H HA
    have hol := hpm.length_eq
    (apply w_nil; apply wx_next; apply wc_seq; apply wc_region; refine Z0 ?_)
    (refine s_callT (pre := [.row vr 23 3 out.length vals'.flatten]) (post := []) rfl rfl H HA (Compact_Tm out vr vals' _ Lk (by rw [hol, hacc]; omega)) ?_; intro vx c H HA)
    have hset : adjL out = bodyVals d := by rw [bodyVals, ← hacc]; exact adjL_set cmpTm_t3 hpm hso
    rw [hset] at HA
    (refine Z2 ?_; apply w_nil; apply wx_next; apply wc_ret)
    exact ret_fn H hm (outs1 Tryz.results49 Wh) Lk
end Go.Proofs.YthkdggoohpgnnaaGreatDoor
/- Contracts: does a clause say all that another one says, of the program's own. -/
namespace Go.Wk
open Go
/-- .. the values in a row that none else has. -/
def MoF {α : Type} [Enc α] (e : TypeId) (kk : Nat) (cv : α → List Value) (base : Nat) (R : List Res) (r : Option (List α)) (v : Value) (c : Cx) : Prop :=
  ∃ v', v = .tuple #[v', .bool r.isSome] ∧ Sl v' (r.getD []) c ∧ FrL base (.row v' e kk (r.getD []).length ((r.getD []).map cv).flatten :: R) c
instance {α : Type} [Enc α] (e : TypeId) (kk : Nat) (cv : α → List Value) (base : Nat) (R : List Res) (r : Option (List α)) (v : Value) : Mono (MoF e kk cv base R r v) := ⟨fun h ⟨v', e, k, k2⟩ => ⟨v', e, Mono.mono h k, Mono.mono h k2⟩⟩
theorem MoF.no {α : Type} [Enc α] {e : TypeId} {kk : Nat} {cv : α → List Value} {base : Nat} {R : List Res} {r : Option (List α)} {c : Cx} (h : r = none) (hF : FrL base R c) : MoF e kk cv base R r (.tuple #[.slice none 0 0, .bool false]) c := by
  subst h
  refine ⟨_, rfl, Sl.nil c, fun s hs => ?_, List.pairwise_cons.2 ⟨fun s _ b hb => (by cases hb), hF.2⟩⟩
  rcases List.mem_cons.1 hs with rfl | hs
  · exact ⟨⟨by simp, .inl ⟨rfl, rfl⟩⟩, fun b hb => by cases hb⟩
  · exact hF.1 s hs
theorem MoF.mo {α : Type} [Enc α] {e : TypeId} {kk : Nat} {cv : α → List Value} {base : Nat} {R : List Res} {r : Option (List α)} {v : Value} {c : Cx} (h : MoF e kk cv base R r v c) : Mo r v c := by
  obtain ⟨v', e, k, _⟩ := h
  exact ⟨v', e, k⟩
theorem Ok.args {x : Cl} (h : x.Ok) : ∀ a ∈ x.head :: x.body, a.args.length ≤ 1000 := by
  intro a ha
  have := (check_parts (h.at_ a ha)).2.1
  omega
theorem testI_sm {x : Cl} (h : x.Ok) {vs : List Tm} (hv : ∀ t ∈ vs, t.sm) : ∀ t ∈ x.tests, (testI vs t).l.sm := by
  intro t ht
  show (instT vs t.l).sm
  unfold instT
  split
  · cases hq : vs[t.l.n.toNat]? with
    | none => exact Tn_sm
    | some u => exact hv u (List.mem_of_getElem? hq)
  · exact (h.sm.2.2 t ht).1
def nI (nx : List Nat) : List Int := nx.map fun q : Nat => (q : Int)
def iC (q : Int) : List Value := [.int .i64 q]
theorem nI_set (nx : List Nat) (v q : Nat) : (nI nx).set v (q : Int) = nI (nx.set v q) := by simp [nI, List.map_set]
theorem nI_get {nx : List Nat} {v : Nat} (h : v < nx.length) : (nI nx)[v]? = some ((nx.getD v 0 : Nat) : Int) := by
  simp [nI, List.getD_eq_getElem?_getD, h]
end Go.Wk
namespace Go.Proofs.YthkdggoohpgnnaaGreatDoor
open Go Go.Wk
theorem subsume_SubsumesF (x d : Cl) (u1 u2 : Value) (c : Cx) (base : Nat) (R : List Res) (hR : FrL base R c) (hb0 : base ≤ c.w.heap.size) (h1 : Ag x u1 c) (h2 : Ag d u2 c) (hf1 : x.fit) (hf2 : d.fit) (hg : GlobOk c) : Cn Tryz.prog 12 [u1, u2] c (fun r c => MoF 23 3 Tm.cs base R (subs x d) r c) := by
  refine Cn.of Tryz.func12 Tryz.ntmps12 rfl rfl fun hm H HA => ?_
  have HA := ((HA.add h1).add h2).add hg
  have HA := (HA.add hg.none).add hR
  (apply wc_seq; apply wc_region)
  (refine s_boxG rfl rfl Lk H HA ?_; intro p1 c H HA)
  (refine s_boxG rfl rfl Lk H HA ?_; intro p2 c H HA)
  (refine Z2 ?_; refine Z2 ?_; apply w_nil; apply wx_next; apply wc_scope; apply wc_seq; apply wc_seq; apply wc_region; refine Z39 HA fun vx HA => ?_)
  (refine s_call rfl rfl H HA (clause_Check x _ _ Lk hf1 Lk) ?_; intro vx c H HP; have hvx := HP.h.1; have HA := HP.cut; subst hvx)
  by_cases hc1 : ¬ x.check = 0
  · (refine Z82 ?_; refine Z0 ?_; refine Z5 ?_; refine Z5 ?_; refine Z5 ?_; refine Z8 ?_; refine Z0 ?_; refine Z5 ?_; refine Z5 ?_; refine Z5 ?_; refine Z5 ?_; refine Z8 ?_; apply w_nil; apply wx_next; refine Z18 ?_; apply wc_seq; apply wc_region; refine Z2 ?_; refine Z2 ?_; apply w_nil; apply wx_next; apply wc_ret; apply wx_ret_then; apply wx_ret_goto)
    exact ret_fn H hm (outs2 Tryz.results12 Wh Wh) (MoF.no (subs_bad (.inl hc1)) Lk)
  have hc1 := Classical.not_not.1 hc1
  (refine Z82 ?_; refine Z0 ?_; refine Z4 ?_; refine Z39 HA fun vx HA => ?_; refine Z4 ?_)
  (refine s_call rfl rfl H HA (clause_Check d _ _ Lk hf2 Lk) ?_; intro vx c H HP; have hvx := HP.h.1; have HA := HP.cut; subst hvx)
  by_cases hc2 : ¬ d.check = 0
  · (refine Z4 ?_; refine Z82 ?_; refine Z30 ?_; refine Z0 ?_; refine Z5 ?_; refine Z5 ?_; refine Z5 ?_; refine Z5 ?_; refine Z8 ?_; apply w_nil; apply wx_next; refine Z18 ?_; apply wc_seq; apply wc_region; refine Z2 ?_; refine Z2 ?_; apply w_nil; apply wx_next; apply wc_ret; apply wx_ret_then; apply wx_ret_goto)
    exact ret_fn H hm (outs2 Tryz.results12 Wh Wh) (MoF.no (subs_bad (.inr hc2)) Lk)
  have hc2 := Classical.not_not.1 hc2
  (refine Z4 ?_; refine Z82 ?_; refine Z30 ?_; refine Z0 ?_; refine Z4 ?_; refine Z39 HA fun vx HA => ?_; refine Z4 ?_; refine Z39 HA fun vx HA => ?_; refine Z4 ?_)
  have ho1 := Cl.check_ok.1 hc1
  have ho2 := Cl.check_ok.1 hc2
  have hs1 := Ok.args ho1
  have hs2 := Ok.args ho2
  (refine s_call rfl rfl H HA (subsume_fits x d [] _ _ _ _ Lk Lk (Sl.nil _) Lk (by simp) hs1 hs2 (testI_sm ho1 (fun _ h => by cases h))) ?_; intro vx c H HP; have hvx := HP.h.1; have HA := HP.cut; subst hvx)
  cases hfit : fitsB x d []
  · (refine Z4 ?_; refine Z33 ?_; refine Z30 ?_; apply w_nil; apply wx_next; refine Z18 ?_; apply wc_seq; apply wc_region; refine Z2 ?_; refine Z2 ?_; apply w_nil; apply wx_next; apply wc_ret; apply wx_ret_then; apply wx_ret_goto)
    exact ret_fn H hm (outs2 Tryz.results12 Wh Wh) (MoF.no (subs_of ho1 ho2 (r := none) fun w hw => by
      have := hw.fits 0
      rw [List.take_zero, hfit] at this
      cases this) Lk)
  have hnv := ho1.nv_le
  have hdb : ∀ t ∈ d.bodyTerms, t.sm := fun t ht => by
    obtain ⟨a, ha, hta⟩ := List.mem_flatMap.1 ht
    exact At0.sm_terms (ho2.sm.2.1 a ha) t hta
  have hbl : d.bodyTerms.length < 1099511627776 := by have := hf2.2; simp only [Cl.terms, List.length_append] at this; omega
  have hvs : ∀ t ∈ bodyVals d, t.sm := fun t ht => hdb t (by rw [bodyVals, mem_setU cmpTm_t3] at ht; exact ht)
  (refine Z4 ?_; refine Z33 ?_; refine Z30 ?_; apply w_nil; apply wx_next; refine Z19 ?_; apply wc_skip; apply wx_next; apply wc_seq; apply wc_region; refine Z39 HA fun vx HA => ?_)
  (refine s_call rfl rfl H HA (subsume_bodyTerms d _ _ Lk hbl hdb) ?_; intro vx c H HA)
  (obtain ⟨vb, rfl⟩ : ∃ x, x = vx := ⟨_, rfl⟩)
  (refine Z2 ?_; apply w_nil; apply wx_next; apply wc_seq; apply wc_region; refine Z39 HA fun vx HA => ?_)
  (refine s_call rfl rfl H HA (clause_Vars x _ _ Lk) ?_; intro vx c H HP; have hvx := HP.h.1; have HA := HP.cut; subst hvx)
  (refine Z2 ?_; apply w_nil; apply wx_next; apply wc_seq; apply wc_region; refine Z0 ?_)
  (refine s_makeF (α := Tm) (u := Tn) (cv := Tm.cs) rfl rfl rfl rfl (fun _ => rfl) rfl rfl (by simp only [LIM]; omega) H HA inferInstance ?_; intro vr c H HA)
  (refine Z2 ?_; apply w_nil; apply wx_next; apply wc_seq; apply wc_region; refine Z0 ?_; refine Z46 ?_)
  have e1 : ((x.nv : Int) + 1) = ((x.nv + 1 : Nat) : Int) := by omega
  try rw [e1]
  (refine s_makeF (α := Int) (u := 0) (cv := iC) (m := x.nv + 1) rfl rfl rfl rfl (fun _ => rfl) rfl rfl (by simp only [LIM]; omega) H HA inferInstance ?_; intro nr c H HA)
  (refine Z2 ?_; apply w_nil; apply wx_next; apply wc_seq; apply wc_region; refine Z2 ?_; apply w_nil; apply wx_next; apply wc_seq; apply wc_label; apply wx_next; apply wc_seq; apply wc_block)
  have eN : nI (List.replicate (x.nv + 1) 0) = List.replicate (x.nv + 1) 0 := by simp [nI]
  have H : Owns _ [.row nr 3 1 (List.replicate (x.nv + 1) (0 : Int)).length (List.replicate (x.nv + 1) (iC 0)).flatten, .row vr 23 3 (List.replicate x.nv Tn).length (List.replicate x.nv Tn.cs).flatten] c := H
  rw [← List.map_replicate (f := iC), ← List.map_replicate (f := Tm.cs), ← eN] at H
  refine wc_loopG (σ := Nat × List Nat × List Tm) (fun y => dM x.nv (bodyVals d).length y.2.1 y.1) (fun y => [(2, p1), (3, p2), (6, vb), (7, .int .i64 x.nv), (8, vr), (9, nr), (10, .int .i64 y.1)]) (fun y => Dfs x d y.1 y.2.1 y.2.2 ∧ ∀ t ∈ y.2.2, t.sm)
    (fun y => [.row nr 3 1 (nI y.2.1).length ((nI y.2.1).map iC).flatten, .row vr 23 3 y.2.2.length (y.2.2.map Tm.cs).flatten]) (fun _ => Tt) (0, List.replicate (x.nv + 1) 0, List.replicate x.nv Tn) H HA trivial Ks ⟨Dfs.start hfit, fun t ht => by rw [(List.mem_replicate.1 ht).2]; exact Tn_sm⟩ ?_
  intro y g c hp H HA
  obtain ⟨v, nx, vals⟩ := y
  obtain ⟨hD, hsm⟩ := hp
  dsimp only at hD hsm H HA ⊢
  have hle := hD.le
  have hlv := hD.lv
  have hln := hD.ln
  (focus (apply wc_seq; apply wc_seq; apply wc_region; refine Z0 ?_; refine Z0 ?_; refine Z93 (fun hq => ?_) fun hq => ?_; apply w_nil; apply wx_next; refine Z18 ?_; apply wc_skip; apply wx_next; apply wc_block; apply wc_seq; apply wc_block; rotate_left; apply w_nil; apply wx_next; refine Z19 ?_; apply wc_exit; apply wx_exit_then; apply wx_exit_then; apply wx_exit_same; apply wx_next; apply wc_seq; apply wc_region; refine Z0 ?_; refine Z2 ?_; refine Z2 ?_; apply w_nil; apply wx_next; apply wc_ret; apply wx_ret_goto; rotate_left))
  · refine wc_loopG (σ := List Nat × List Tm) (fun y => (bodyVals d).length - y.1.getD v 0) (fun y => [(2, p1), (3, p2), (6, vb), (7, .int .i64 x.nv), (8, vr), (9, nr), (10, .int .i64 v)]) (fun y => Dfs x d v y.1 y.2 ∧ (∀ t ∈ y.2, t.sm) ∧ dM x.nv (bodyVals d).length y.1 v ≤ dM x.nv (bodyVals d).length nx v)
      (fun y => [.row nr 3 1 (nI y.1).length ((nI y.1).map iC).flatten, .row vr 23 3 y.2.length (y.2.map Tm.cs).flatten]) (fun _ => Tt) (nx, vals) H HA trivial Ks ⟨hD, hsm, Nat.le_refl _⟩ ?_
    clear hD hsm hlv hln H
    intro y g c hp H HA
    obtain ⟨nx2, vals2⟩ := y
    obtain ⟨hD, hsm, hdm⟩ := hp
    dsimp only at hD hsm hdm H HA ⊢
    have hlv := hD.lv
    have hln := hD.ln
    have hnl : (nI nx2).length = x.nv + 1 := by simp [nI, hln]
    have hgv := nI_get (nx := nx2) (v := v) (by omega)
    have HA := (HA.add (vals_map (P := Tryz.prog) (e := 3) (nI nx2) c)).add (vals_map (P := Tryz.prog) (e := 23) vals2 c)
    have htop := hD.top
    have hbv : (bodyVals d).length ≤ d.bodyTerms.length := setU_length _
    (focus (apply wc_seq; apply wc_seq; apply wc_region; refine Z0 ?_; refine Z0 ?_; refine Z63 fun rp hrp => ?_; refine Z64 ?_; refine Z0 ?_; refine Z45 ?_; refine Z93 (fun hq => ?_) fun hq => ?_; apply w_nil; apply wx_next; refine Z18 ?_; apply wc_skip; apply wx_next; apply wc_block; apply wc_seq; apply wc_region; refine Z0 ?_; refine Z0 ?_; refine Z0 ?_; refine Z0 ?_; refine Z0 ?_; refine Z63 fun rp hrp => ?_; refine Z64 ?_; rotate_left; apply w_nil; apply wx_next; refine Z19 ?_; apply wc_exit; apply wx_exit_then; apply wx_exit_then; apply wx_exit_same; apply wx_next; apply wc_seq; apply wc_seq; apply wc_region; refine Z0 ?_; refine Z92 (fun hq => ?_) fun hq => ?_; apply w_nil; apply wx_next; refine Z18 ?_; apply wc_seq; apply wc_region; refine Z2 ?_; refine Z2 ?_; apply w_nil; apply wx_next; apply wc_ret; apply wx_ret_then; apply wx_ret_block; apply wx_ret_then; apply wx_ret_block; apply wx_ret_then; apply wx_ret_goto; rotate_left; apply w_nil; apply wx_next; refine Z19 ?_; apply wc_skip; apply wx_next; apply wc_region; refine Z0 ?_; refine Z49 ?_; refine Z2 ?_; apply w_nil; apply wx_norm_block; rotate_left))
    · obtain ⟨t, ht⟩ := getq (xs := bodyVals d) (k := nx2.getD v 0) (by omega)
      have hts := hvs t (List.mem_of_getElem? ht)
      have hsm2 : ∀ q ∈ vals2.set v t, q.sm := fun q hq => by
        rcases List.mem_or_eq_of_mem_set hq with h | rfl
        · exact hsm q h
        · exact hts
      (refine Z34 HA fun vx HA => ?_; refine Z38 ?_; refine Z63 fun rp hrp => ?_)
      (refine s_stRA (u := t) rfl rfl hrp H.swap Lk (by omega) rfl rfl HA inferInstance ?_; intro c H HA)
      have H : Owns _ [.row vr 23 3 (vals2.set v t).length ((vals2.map Tm.cs).set v t.cs).flatten, .row nr 3 1 (nI nx2).length ((nI nx2).map iC).flatten] c := H
      rw [← List.map_set] at H
      (apply w_nil; apply wx_next; apply wc_seq; apply wc_region; refine Z0 ?_; refine Z0 ?_; refine Z63 fun rp hrp => ?_; refine Z64 ?_; refine Z46 ?_; refine Z63 fun rp hrp => ?_)
      (refine s_stRP (u := ((nx2.getD v 0 + 1 : Nat) : Int)) rfl rfl rfl hrp H.swap Lk (by omega) rfl rfl HA inferInstance ?_; intro c H HA)
      have H : Owns _ [.row nr 3 1 ((nI nx2).set v ((nx2.getD v 0 + 1 : Nat) : Int)).length (((nI nx2).map iC).set v (iC ((nx2.getD v 0 + 1 : Nat) : Int))).flatten, .row vr 23 3 (vals2.set v t).length ((vals2.set v t).map Tm.cs).flatten] c := H
      rw [← List.map_set, nI_set] at H
      (apply w_nil; apply wx_next; apply wc_seq)
      have HA := HA.add (vals_map (P := Tryz.prog) (e := 23) (vals2.set v t) c)
      have hlv2 : (vals2.set v t).length = x.nv := by simpa using hlv
      have hnl2 : (nI (nx2.set v (nx2.getD v 0 + 1))).length = x.nv + 1 := by simp [nI, hln]
      refine wc_lendX (fun f => KS f [(2, p1), (3, p2), (6, vb), (7, .int .i64 x.nv), (8, vr), (9, nr), (10, .int .i64 v), (66, .bool (fitsB x d ((vals2.set v t).take (v + 1))))]) H.swap HA Lk rfl rfl (by simp only [LIM]; omega) ?_ ?_
      · intro c1 c H HA
        (refine dw_start H HA ?_)
        (repeat (refine Dc ?_))
        (apply dw_cons; (focus ((intro B _ Lx c H HA; (repeat (first | (intro vx hx; have hx2 : vx = _ := hx; clear hx; subst hx2) | (intro vx hx; have HA := HA.addSF hx; clear hx) | (intro vx hx; have HA := HA.add hx; clear hx) | intro vx)); change W _ _ _ _ _ _ _); (apply s_slL (α := Tm) (lo := 0) (hi := v + 1); exact rfl; exact rfl; (first | exact .inl rfl | exact .inr ⟨rfl, rfl⟩); (first | exact .inl rfl | exact .inr ⟨rfl, rfl⟩); exact Lk; exact rfl; (first | omega | (simp; omega)); (first | omega | (simp; omega)); intro vx hx; have HA := HA.add hx; clear hx); exact Dx)); exact inferInstance)
        (apply dw_cons; (focus ((intro B _ Lx c H HA; (repeat (first | (intro vx hx; have hx2 : vx = _ := hx; clear hx; subst hx2) | (intro vx hx; have HA := HA.addSF hx; clear hx) | (intro vx hx; have HA := HA.add hx; clear hx) | intro vx)); change W _ _ _ _ _ _ _); (refine s_call rfl rfl H HA (subsume_fits x d (((vals2.set v t).drop 0).take (v + 1 - 0)) _ _ _ _ Lk Lk Lk Lk (by simp; omega) hs1 hs2 (testI_sm ho1 (fun q hq => hsm2 q (List.mem_of_mem_drop (List.mem_of_mem_take hq))))) ?_; intro vx c H HP; have hvx := HP.h.1; have HA := HP.cut; subst hvx); exact Dx)); exact inferInstance)
        (refine dw_done mixed H HA rfl (by kernel_rfl) ?_; clear H HA; intro c H HA; (repeat (first | (intro vx hx; have hx2 : vx = _ := hx; clear hx; subst hx2) | (intro vx hx; have HA := HA.addSF hx; clear hx) | (intro vx hx; have HA := HA.add hx; clear hx) | intro vx)); change W _ _ _ _ _ _ _)
        simp only [List.drop_zero, Nat.sub_zero]
        exact w_nil (wx_cut ⟨Ks, H, Lk⟩)
      intro f c hR H HA
      obtain ⟨g2, rfl⟩ := hR.ex
      have H := H.swap
      cases hF : fitsB x d ((vals2.set v t).take (v + 1))
      · (apply wx_next; refine Z19 ?_; apply wc_skip; apply wx_norm_block)
        exact wx_loopG ((nx2.set v (nx2.getD v 0 + 1), vals2.set v t)) H Cu trivial Ks (by dsimp only; rw [getD_set_self (by omega)]; omega) ⟨hD.skip ho1 (by omega) ht hF, hsm2, Nat.le_trans (Nat.le_of_lt (dM_skip (by omega) hln (by omega))) hdm⟩
      · (apply wx_next; refine Z18 ?_; apply wc_seq; apply wc_region; refine Z0 ?_; refine Z46 ?_; refine Z2 ?_; apply w_nil; apply wx_next; apply wc_seq; apply wc_region; refine Z0 ?_; refine Z0 ?_; refine Z63 fun rp hrp => ?_)
        (refine s_stRP (u := (0 : Int)) rfl rfl rfl hrp H (vals_map (P := Tryz.prog) (e := 3) _ c) (by omega) rfl rfl HA inferInstance ?_; intro c H HA)
        have H : Owns _ [.row nr 3 1 ((nI (nx2.set v (nx2.getD v 0 + 1))).set (v + 1) ((0 : Nat) : Int)).length (((nI (nx2.set v (nx2.getD v 0 + 1))).map iC).set (v + 1) (iC ((0 : Nat) : Int))).flatten, .row vr 23 3 (vals2.set v t).length ((vals2.set v t).map Tm.cs).flatten] c := H
        rw [← List.map_set, nI_set] at H
        (apply w_nil; apply wx_next; apply wc_exit; refine Z27 ?_; apply wx_exit_then; refine Z27 ?_; apply wx_exit_then; apply wx_exit_same)
        exact wx_loopG ((v + 1, (nx2.set v (nx2.getD v 0 + 1)).set (v + 1) 0, vals2.set v t)) H Cu trivial Ks (Nat.lt_of_lt_of_le (dM_goOn (by omega) hln (by omega)) hdm) ⟨hD.goOn ho1 (by omega) ht hF, hsm2⟩
    · have hv0 : v = 0 := by omega
      subst hv0
      exact ret_fn H hm (outs2 Tryz.results12 Wh Wh) (MoF.no (subs_of ho1 ho2 (hD.none ho1 (by omega) (by omega))) Lk)
    · obtain ⟨v1, rfl⟩ : ∃ v1, v = v1 + 1 := ⟨v - 1, by omega⟩
      exact wx_loopG ((v1, nx2, vals2)) H Cu trivial Ks (Nat.lt_of_lt_of_le (dM_back (by omega)) hdm) ⟨hD.back' ho1 (by omega) (by omega), hsm⟩
  · have hv : v = x.nv := by omega
    subst hv
    have hsub := subs_of ho1 ho2 (hD.done ho1)
    (refine wx_freezeF H.swap HA Lk hb0 (vals_map (P := Tryz.prog) (e := 23) vals c) rfl rfl (by simp only [LIM]; omega) ?_; intro c H HA)
    exact ret_fn H hm (outs2 Tryz.results12 Wh Wh) (by rw [hsub]; exact ⟨_, rfl, Lk, Lk⟩)
theorem subsume_Subsumes (x d : Cl) (u1 u2 : Value) (c : Cx) (h1 : Ag x u1 c) (h2 : Ag d u2 c) (hf1 : x.fit) (hf2 : d.fit) (hg : GlobOk c) : Cn Tryz.prog 12 [u1, u2] c (fun r c => Mo (subs x d) r c) :=
  Cn.imp (subsume_SubsumesF x d u1 u2 c 0 [] (FrL.nil 0 c) (Nat.zero_le _) h1 h2 hf1 hf2 hg) fun _ _ _ h => h.mo
end Go.Proofs.YthkdggoohpgnnaaGreatDoor
/- Contracts: a sorted row of clauses without doubles, of the library. -/
namespace Go.Wk
open Go
/-- What is left of a row, its cells told: a row that none else has. -/
def AdF (e : TypeId) (base : Nat) (R : List Res) (xs : List Cl) (vals : List (List Value)) (p : Value) (c : Cx) : Prop :=
  ∃ valsO, ((adjL xs).zip valsO).Sublist (xs.zip vals) ∧ Sl p (adjL xs) c ∧ Vals valsO (adjL xs) c ∧ FrL base (.row p e 7 (adjL xs).length valsO.flatten :: R) c
instance (e : TypeId) (base : Nat) (R : List Res) (xs : List Cl) (vals : List (List Value)) (p : Value) : Mono (AdF e base R xs vals p) := ⟨fun h ⟨vo, k0, k1, k2, k3⟩ => ⟨vo, k0, Mono.mono h k1, Mono.mono h k2, Mono.mono h k3⟩⟩
theorem zip_take_succ {α β : Type} {xs : List α} {ys : List β} {n : Nat} {x : α} {y : β} (h : xs[n]? = some x) (h' : ys[n]? = some y) : (xs.zip ys).take (n + 1) = (xs.zip ys).take n ++ [(x, y)] := by
  have e : (xs.zip ys)[n]? = some (x, y) := by rw [List.getElem?_zip_eq_some]; exact ⟨h, h'⟩
  rw [List.take_add_one, e]
  rfl
theorem zip_take {α β : Type} (xs : List α) (ys : List β) (n : Nat) : (xs.take n).zip (ys.take n) = (xs.zip ys).take n := by
  show List.zipWith Prod.mk _ _ = (List.zipWith Prod.mk _ _).take n
  rw [List.take_zipWith]
end Go.Wk
namespace Go.Proofs.YthkdggoohpgnnaaGreatDoor
open Go Go.Wk
theorem cl_zero (c : Cx) : Enc.Ok (Cl.cs ⟨⟨Tn, ES, []⟩, [], []⟩ (.slice none 0 0) (.slice none 0 0) (.slice none 0 0)) (⟨⟨Tn, ES, []⟩, [], []⟩ : Cl) c := ⟨_, _, _, rfl, Sl.nil c, Sl.nil c, Sl.nil c⟩
theorem CompactFunc_ClF (xs : List Cl) (v : Value) (vals : List (List Value)) (c : Cx) (base : Nat) (RF : List Res) (hRF : FrL base RF c) (HV : Vals vals xs c) (hlim : xs.length < 1099511627776) (hsm : ∀ x ∈ xs, x.sm) : CnTF base Tryz.prog 116 [v, .func (.func 117) #[] #[]] [.row v 30 7 xs.length vals.flatten] [] c (AdF 30 base RF xs vals) := by
  refine CnTF.of Tryz.func116 Tryz.ntmps116 rfl rfl fun c0 L0 A0 _ hb0 H HA => ?_
  have hvl := HV.1
  have HA := (HA.add hRF).add HV
  have H : Owns c0 (.row v 30 7 xs.length vals.flatten :: L0) c := H
  (focus (apply wc_seq; apply wc_region; refine Z2 ?_; apply w_nil; apply wx_next; apply wc_seq; apply wc_seq; apply wc_region; refine Z0 ?_; refine Z62 ?_; refine Z93 (fun hq => ?_) fun hq => ?_; apply w_nil; apply wx_next; refine Z18 ?_; apply wc_seq; apply wc_region; refine Z0 ?_; refine Z2 ?_; apply w_nil; apply wx_next; apply wc_ret; apply wx_ret_then; rotate_left; apply w_nil; apply wx_next; refine Z19 ?_; apply wc_skip; apply wx_next; apply wc_seq; apply wc_seq; apply wc_region; refine Z2 ?_; apply w_nil; apply wx_next; apply wc_block; rotate_left))
  · have he : adjL xs = xs := by
      match xs, hq with
      | [], _ => rfl
      | [x], _ => rfl
      | x :: y :: l, hq => simp at hq; omega
    (refine wx_freezeF H HA Lk hb0 Lk rfl rfl (by simp only [LIM]; omega) ?_; intro c H HA)
    unfold AdF
    rw [he]
    exact ret_fnT (post := []) H Ca (outs1 Tryz.results116 Wh) ⟨vals, List.Sublist.refl _, Lk, Lk, Lk⟩
  have h2 : 2 ≤ xs.length := by omega
  refine wc_loopN xs.length (fun k => [(0, v), (1, .func (.func 117) #[] #[]), (5, .int .i64 k)]) (fun k => 1 ≤ k ∧ adjL (xs.take k) = xs.take k) 1 H HA Ks (by omega) ⟨Nat.le_refl _, by
    cases xs with
    | nil => rfl
    | cons x l => rfl⟩ ?_
  intro k g c hk hp H HA
  obtain ⟨hk1, hadj⟩ := hp
  (focus (apply wc_seq; apply wc_seq; apply wc_region; refine Z0 ?_; refine Z0 ?_; refine Z62 ?_; refine Z93 (fun hq => ?_) fun hq => ?_; apply w_nil; apply wx_next; refine Z18 ?_; apply wc_skip; apply wx_next; apply wc_seq; apply wc_block; apply wc_seq; rotate_left; apply w_nil; apply wx_next; refine Z19 ?_; apply wc_exit; apply wx_exit_then; apply wx_exit_then; apply wx_exit_same; apply wx_next; apply wc_seq; apply wc_region; refine Z0 ?_; refine Z2 ?_; apply w_nil; apply wx_next; apply wc_ret; rotate_left))
  · obtain ⟨b, hb⟩ := getq (xs := xs) (k := k) (by omega)
    obtain ⟨a, ha⟩ := getq (xs := xs) (k := k - 1) (by omega)
    have hat := adjL_take (xs := xs) (k := k - 1) ha (by rw [show k - 1 + 1 = k by omega]; exact hb)
    rw [show k - 1 + 2 = k + 1 by omega, show k - 1 + 1 = k by omega] at hat
    have htk : xs.take (k + 1) = xs.take k ++ [b] := by rw [List.take_add_one, hb]; rfl
    have ek : ((k : Int) - 1) = ((k - 1 : Nat) : Int) := by omega
    have hT := cmpCl_t3.eq0 (a := b) (b := a)
    by_cases he : b = a
    · have hde : decide (cmpCl b a = 0) = true := by simpa using hT.2 he
      refine wc_lendX (fun f => KS f [(0, v), (1, .func (.func 117) #[] #[]), (5, .int .i64 k), (28, .bool true)]) H HA Lk rfl rfl (by simp only [LIM]; omega) ?_ ?_
      · intro c1 c H HA
        (refine dw_start H HA ?_)
        (repeat (refine Dc ?_))
        (apply dw_cons; (focus ((intro B _ Lx c H HA; (repeat (first | (intro vx hx; have hx2 : vx = _ := hx; clear hx; subst hx2) | (intro vx hx; have HA := HA.addSF hx; clear hx) | (intro vx hx; have HA := HA.add hx; clear hx) | intro vx)); change W _ _ _ _ _ _ _); (refine s_callV (caps := []) rfl rfl rfl H HA (clause_Set1 b a _ _ _ Lk Lk (hsm b (List.mem_of_getElem? hb))) ?_; intro vx c H HP; have hvx := HP.h.1; have HA := HP.cut; subst hvx); exact Dx)); exact inferInstance)
        (repeat (refine Dc ?_))
        (refine dw_done mixed H HA rfl (by kernel_rfl) ?_; clear H HA; intro c H HA; (repeat (first | (intro vx hx; have hx2 : vx = _ := hx; clear hx; subst hx2) | (intro vx hx; have HA := HA.addSF hx; clear hx) | (intro vx hx; have HA := HA.add hx; clear hx) | intro vx)); change W _ _ _ _ _ _ _)
        rw [hde]
        exact w_nil (wx_cut ⟨Ks, H, Lk⟩)
      intro f c hR H HA
      obtain ⟨g2, rfl⟩ := hR.ex
      rw [if_pos he.symm, List.append_nil] at hat
      (apply wx_next; refine Z18 ?_; apply wc_seq; apply wc_region; refine Z0 ?_; refine Z0 ?_)
      refine s_slR (lo := k) (hi := xs.length) rfl rfl (.inl rfl) (.inr ⟨rfl, rfl⟩) H (List.Mem.head _) (by omega) (Nat.le_refl _) ?_
      intro s2 hs2
      (refine Z2 ?_; apply w_nil; apply wx_next; apply wc_seq; apply wc_seq; apply wc_region; refine Z2 ?_; apply w_nil; apply wx_next; apply wc_block)
      have hwf : (xs.length - k : Nat) = ((xs.length - k : Nat) : Int) := rfl
      refine wc_loopG (σ := Nat × Nat × List Cl × List (List Value)) (fun y => xs.length - k - y.2.1) (fun y => [(0, v), (1, .func (.func 117) #[] #[]), (5, .int .i64 y.1), (6, s2), (7, .int .i64 y.2.1)])
        (fun y => 1 ≤ y.2.1 ∧ k + y.2.1 ≤ xs.length ∧ y.1 + 1 ≤ k + y.2.1 ∧ y.2.2.1.length = xs.length ∧ y.2.2.1.take y.1 = adjL (xs.take (k + y.2.1)) ∧ y.2.2.1.drop (k + y.2.1 - 1) = xs.drop (k + y.2.1 - 1) ∧ y.2.2.2.length = xs.length ∧ ((y.2.2.1.take y.1).zip (y.2.2.2.take y.1)).Sublist ((xs.zip vals).take (k + y.2.1)) ∧ y.2.2.2.drop (k + y.2.1 - 1) = vals.drop (k + y.2.1 - 1))
        (fun y => .row v 30 7 y.2.2.1.length y.2.2.2.flatten :: L0) (fun y c => Vals y.2.2.2 y.2.2.1 c) (k, 1, xs, vals) H HA Lk Ks ⟨Nat.le_refl _, by dsimp only; omega, Nat.le_refl _, rfl, by dsimp only; rw [hat, hadj], rfl, hvl, by dsimp only; rw [zip_take]; exact List.take_sublist_take_left (by omega), rfl⟩ ?_
      intro y g c hp H HA
      obtain ⟨k2, i, acc, vals2⟩ := y
      obtain ⟨hi1, hi2, hk2, hal, hat2, hdr, hv2l, hzs, hvd⟩ := hp
      dsimp only at hi1 hi2 hk2 hal hat2 hdr hv2l hzs hvd H HA ⊢
      (apply wc_seq; apply wc_seq; apply wc_region; refine Z0 ?_; refine Z0 ?_)
      (refine s_lenRS rfl rfl hs2 ?_)
      rw [← hal] at hs2
      (focus (refine Z93 (fun hq => ?_) fun hq => ?_; apply w_nil; apply wx_next; refine Z18 ?_; apply wc_skip; apply wx_next; apply wc_seq; apply wc_block; apply wc_seq; rotate_left; apply w_nil; apply wx_next; refine Z19 ?_; apply wc_exit; apply wx_exit_then; apply wx_exit_then; apply wx_exit_same; apply wx_next; apply wc_seq; apply wc_region; refine Z0 ?_; refine Z0 ?_; rotate_left))
      · have hgd : ∀ q, k + i - 1 ≤ q → acc[q]? = xs[q]? := fun q hq => by
          have h := congrArg (·[q - (k + i - 1)]?) hdr
          simp only [List.getElem?_drop] at h
          rwa [show k + i - 1 + (q - (k + i - 1)) = q by omega] at h
        obtain ⟨b2, hb2⟩ := getq (xs := xs) (k := k + i) (by omega)
        obtain ⟨a2, ha2⟩ := getq (xs := xs) (k := k + i - 1) (by omega)
        have hb3 : acc[k + i]? = some b2 := (hgd _ (by omega)).trans hb2
        have ha3 : acc[k + i - 1]? = some a2 := (hgd _ (Nat.le_refl _)).trans ha2
        have hat3 := adjL_take (xs := xs) (k := k + i - 1) ha2 (by rw [show k + i - 1 + 1 = k + i by omega]; exact hb2)
        rw [show k + i - 1 + 2 = k + i + 1 by omega, show k + i - 1 + 1 = k + i by omega] at hat3
        have hdr2 : acc.drop (k + i) = xs.drop (k + i) := by
          have h := congrArg (List.drop 1) hdr
          simp only [List.drop_drop] at h
          rwa [show k + i - 1 + 1 = k + i by omega] at h
        have hvd2 : vals2.drop (k + i) = vals.drop (k + i) := by
          have h := congrArg (List.drop 1) hvd
          simp only [List.drop_drop] at h
          rwa [show k + i - 1 + 1 = k + i by omega] at h
        have hl1 : ((acc.drop k).take (acc.length - k))[i]? = some b2 := by rw [List.getElem?_take, if_pos (by omega), List.getElem?_drop]; exact hb3
        have hl2 : ((acc.drop k).take (acc.length - k))[i - 1]? = some a2 := by rw [List.getElem?_take, if_pos (by omega), List.getElem?_drop, show k + (i - 1) = k + i - 1 by omega]; exact ha3
        have hT2 := cmpCl_t3.eq0 (a := b2) (b := a2)
        by_cases he2 : b2 = a2
        · have hde : decide (cmpCl b2 a2 = 0) = true := by simpa using hT2.2 he2
          refine wc_lendX (fun f => KS f [(0, v), (1, .func (.func 117) #[] #[]), (5, .int .i64 k2), (6, s2), (7, .int .i64 i), (49, .bool false)]) H HA Lk rfl rfl (by simp only [LIM]; omega) ?_ ?_
          · intro c1 c H HA
            have hsl := hs2.sl (xs := acc) (c := c) Lk rfl (by omega) (Nat.le_refl _)
            generalize (acc.drop k).take (acc.length - k) = L2 at hl1 hl2 hsl
            have HA := HA.add hsl
            (refine dw_start H HA ?_)
            (repeat (refine Dc ?_))
            (apply dw_cons; (focus ((intro B _ Lx c H HA; (repeat (first | (intro vx hx; have hx2 : vx = _ := hx; clear hx; subst hx2) | (intro vx hx; have HA := HA.addSF hx; clear hx) | (intro vx hx; have HA := HA.add hx; clear hx) | intro vx)); change W _ _ _ _ _ _ _); (refine s_callV (caps := []) rfl rfl rfl H HA (clause_Set1 b2 a2 _ _ _ Lk Lk (hsm b2 (List.mem_of_getElem? hb2))) ?_; intro vx c H HP; have hvx := HP.h.1; have HA := HP.cut; subst hvx); exact Dx)); exact inferInstance)
            (repeat (refine Dc ?_))
            (refine dw_done mixed H HA rfl (by kernel_rfl) ?_; clear H HA; intro c H HA; (repeat (first | (intro vx hx; have hx2 : vx = _ := hx; clear hx; subst hx2) | (intro vx hx; have HA := HA.addSF hx; clear hx) | (intro vx hx; have HA := HA.add hx; clear hx) | intro vx)); change W _ _ _ _ _ _ _)
            rw [hde]
            exact w_nil (wx_cut ⟨Ks, H, Lk⟩)
          intro f c hR2 H HA
          obtain ⟨g3, rfl⟩ := hR2.ex
          rw [if_pos he2.symm, List.append_nil] at hat3
          (apply wx_next; refine Z19 ?_; apply wc_skip; apply wx_norm_block; apply wx_next; apply wc_region; refine Z0 ?_; refine Z46 ?_; refine Z2 ?_; apply w_nil)
          exact wx_loopG ((k2, i + 1, acc, vals2)) H Cu Lk Ks (by dsimp only; omega) ⟨by dsimp only; omega, by dsimp only; omega, by dsimp only; omega, hal, by dsimp only; rw [hat2, ← hat3]; rfl, hdr2, hv2l, hzs.trans (List.take_sublist_take_left (by dsimp only; omega)), hvd2⟩
        · have hde : decide (cmpCl b2 a2 = 0) = false := by simpa using fun e => he2 (hT2.1 e)
          refine wc_lendX (fun f => KS f [(0, v), (1, .func (.func 117) #[] #[]), (5, .int .i64 k2), (6, s2), (7, .int .i64 i), (49, .bool true)]) H HA Lk rfl rfl (by simp only [LIM]; omega) ?_ ?_
          · intro c1 c H HA
            have hsl := hs2.sl (xs := acc) (c := c) Lk rfl (by omega) (Nat.le_refl _)
            generalize (acc.drop k).take (acc.length - k) = L2 at hl1 hl2 hsl
            have HA := HA.add hsl
            (refine dw_start H HA ?_)
            (repeat (refine Dc ?_))
            (apply dw_cons; (focus ((intro B _ Lx c H HA; (repeat (first | (intro vx hx; have hx2 : vx = _ := hx; clear hx; subst hx2) | (intro vx hx; have HA := HA.addSF hx; clear hx) | (intro vx hx; have HA := HA.add hx; clear hx) | intro vx)); change W _ _ _ _ _ _ _); (refine s_callV (caps := []) rfl rfl rfl H HA (clause_Set1 b2 a2 _ _ _ Lk Lk (hsm b2 (List.mem_of_getElem? hb2))) ?_; intro vx c H HP; have hvx := HP.h.1; have HA := HP.cut; subst hvx); exact Dx)); exact inferInstance)
            (repeat (refine Dc ?_))
            (refine dw_done mixed H HA rfl (by kernel_rfl) ?_; clear H HA; intro c H HA; (repeat (first | (intro vx hx; have hx2 : vx = _ := hx; clear hx; subst hx2) | (intro vx hx; have HA := HA.addSF hx; clear hx) | (intro vx hx; have HA := HA.add hx; clear hx) | intro vx)); change W _ _ _ _ _ _ _)
            rw [hde]
            exact w_nil (wx_cut ⟨Ks, H, Lk⟩)
          intro f c hR2 H HA
          obtain ⟨g3, rfl⟩ := hR2.ex
          rw [if_neg (fun e => he2 e.symm)] at hat3
          (apply wx_next; refine Z18 ?_; apply wc_seq; apply wc_region; refine Z0 ?_; refine Z0 ?_; refine Z0 ?_; refine Z0 ?_)
          refine s_ixRS rfl rfl rfl hs2 H (List.Mem.head _) rfl (by omega) ?_
          intro q hq3
          refine s_ldRX rfl rfl hq3 H (List.Mem.head _) Lk rfl hb3 ?_
          intro cs4 hcs4 hok4
          have hcs5 : vals[k + i]? = some cs4 := by
            have h := congrArg (·[0]?) hvd2
            simp only [List.getElem?_drop, Nat.add_zero] at h
            rw [← h]
            exact hcs4
          (refine Z63 fun rp hrp => ?_)
          (refine s_stRA (u := b2) rfl rfl hrp H Lk (by omega) rfl hok4 HA inferInstance ?_; intro c H HA)
          (apply w_nil; apply wx_next; apply wc_region; refine Z0 ?_; refine Z46 ?_; refine Z2 ?_; apply w_nil; apply wx_norm_block; apply wx_next; apply wc_region; refine Z0 ?_; refine Z46 ?_; refine Z2 ?_; apply w_nil)
          exact wx_loopG ((k2 + 1, i + 1, acc.set k2 b2, vals2.set k2 cs4)) H Cu Lk Ks (by dsimp only; omega) ⟨by dsimp only; omega, by dsimp only; omega, by dsimp only; omega, by simpa using hal, by
            dsimp only
            rw [take_set_succ (by omega), hat2, ← hat3]
            rfl, by
            dsimp only
            rw [List.drop_set_of_lt (by omega)]
            exact hdr2, by simpa using hv2l, by
            dsimp only
            rw [take_set_succ (by omega), take_set_succ (by omega), List.zip_append (by simp; omega)]
            show ((acc.take k2).zip (vals2.take k2) ++ [(b2, cs4)]).Sublist ((xs.zip vals).take (k + i + 1))
            rw [zip_take_succ hb2 hcs5]
            exact hzs.append (List.Sublist.refl _), by
            dsimp only
            rw [List.drop_set_of_lt (by omega)]
            exact hvd2⟩
      · have hki : k + i = xs.length := by omega
        rw [hki, List.take_of_length_le (Nat.le_refl _)] at hat2
        refine s_slR (lo := k2) (hi := acc.length) rfl rfl (.inl rfl) (.inr ⟨rfl, rfl⟩) H (List.Mem.head _) (by omega) (Nat.le_refl _) ?_
        intro q hq3
        refine s_clearZ (α := Cl) (u := (⟨⟨Tn, ES, []⟩, [], []⟩ : Cl)) (zs := Cl.cs ⟨⟨Tn, ES, []⟩, [], []⟩ (.slice none 0 0) (.slice none 0 0) (.slice none 0 0)) rfl cl_zero rfl rfl hq3 (by omega) H Lk HA ?_
        intro c vals3 acc3 hl3 ht3 hv3 H HA
        (apply w_nil; apply wx_next; apply wc_seq; apply wc_region; refine Z0 ?_; refine Z0 ?_)
        refine s_slR (lo := 0) (hi := k2) rfl rfl (.inr ⟨rfl, rfl⟩) (.inl rfl) H (List.Mem.head _) (by omega) (by omega) ?_
        intro q4 hq4
        (refine Z2 ?_; apply w_nil; apply wx_next; apply wc_ret; apply wx_ret_block; apply wx_ret_then; apply wx_ret_then; apply wx_ret_block; apply wx_ret_then)
        (refine wx_freezeF H HA Lk hb0 Lk rfl rfl (by simp only [LIM]; omega) ?_; intro c H HA)
        have hsl := hq4.sl (xs := acc3) (c := c) Lk rfl (by omega) (by omega)
        rw [List.drop_zero, Nat.sub_zero, ht3, hat2] at hsl
        have hV3 := (Lk : Vals vals3 acc3 c)
        have hfr := FrL.prefix (Lk : FrL base (.row v 30 7 acc3.length vals3.flatten :: RF) c) hq4 (by omega)
        rw [← flatten_take (kk := 7) vals3 hV3.len k2, hv3] at hfr
        have hVk : Vals (vals2.take k2) (acc.take k2) c := by
          rw [← hv3, ← ht3]
          refine ⟨by simp [hV3.1], fun q cs x h1 h2 => ?_⟩
          rw [List.getElem?_take] at h1 h2
          split at h1
          · rw [if_pos (by assumption)] at h2
            exact hV3.2 q cs x h1 h2
          · cases h1
        have hlk : (acc.take k2).length = k2 := by simp; omega
        rw [hat2] at hzs hVk hlk
        rw [hki, List.take_of_length_le (l := xs.zip vals) (by simp; omega)] at hzs
        refine ret_fnT (post := []) H Ca (outs1 Tryz.results116 Wh) ⟨vals2.take k2, hzs, hsl, hVk, ?_⟩
        rw [hlk]
        exact hfr
    · have hde : decide (cmpCl b a = 0) = false := by simpa using fun e => he (hT.1 e)
      refine wc_lendX (fun f => KS f [(0, v), (1, .func (.func 117) #[] #[]), (5, .int .i64 k), (28, .bool false)]) H HA Lk rfl rfl (by simp only [LIM]; omega) ?_ ?_
      · intro c1 c H HA
        (refine dw_start H HA ?_)
        (repeat (refine Dc ?_))
        (apply dw_cons; (focus ((intro B _ Lx c H HA; (repeat (first | (intro vx hx; have hx2 : vx = _ := hx; clear hx; subst hx2) | (intro vx hx; have HA := HA.addSF hx; clear hx) | (intro vx hx; have HA := HA.add hx; clear hx) | intro vx)); change W _ _ _ _ _ _ _); (refine s_callV (caps := []) rfl rfl rfl H HA (clause_Set1 b a _ _ _ Lk Lk (hsm b (List.mem_of_getElem? hb))) ?_; intro vx c H HP; have hvx := HP.h.1; have HA := HP.cut; subst hvx); exact Dx)); exact inferInstance)
        (repeat (refine Dc ?_))
        (refine dw_done mixed H HA rfl (by kernel_rfl) ?_; clear H HA; intro c H HA; (repeat (first | (intro vx hx; have hx2 : vx = _ := hx; clear hx; subst hx2) | (intro vx hx; have HA := HA.addSF hx; clear hx) | (intro vx hx; have HA := HA.add hx; clear hx) | intro vx)); change W _ _ _ _ _ _ _)
        rw [hde]
        exact w_nil (wx_cut ⟨Ks, H, Lk⟩)
      intro f c hR H HA
      obtain ⟨g2, rfl⟩ := hR.ex
      rw [if_neg (fun e => he e.symm), hadj] at hat
      (apply wx_next; refine Z19 ?_; apply wc_skip; apply wx_norm_block; apply wx_next; apply wc_region; refine Z0 ?_; refine Z46 ?_; refine Z2 ?_; apply w_nil)
      exact wx_loopN (k + 1) H Cu Ks (by omega) ⟨by omega, by rw [hat, htk]⟩
  · have hka : adjL xs = xs := by rw [List.take_of_length_le (by omega)] at hadj; exact hadj
    (refine wx_freezeF H HA Lk hb0 Lk rfl rfl (by simp only [LIM]; omega) ?_; intro c H HA)
    unfold AdF
    rw [hka]
    exact ret_fnT (post := []) H Ca (outs1 Tryz.results116 Wh) ⟨vals, List.Sublist.refl _, Lk, Lk, Lk⟩
end Go.Proofs.YthkdggoohpgnnaaGreatDoor
/- Contracts: the set of clauses, of the program's own. -/
namespace Go.Wk
open Go
theorem perm_map_ex {α β : Type} {f : α → β} : ∀ {l : List β} {D : List α}, l.Perm (D.map f) → ∃ D' : List α, D'.Perm D ∧ D'.map f = l
  | [], D, h => by
    have h1 := h.length_eq
    have : D = [] := List.eq_nil_of_length_eq_zero (by simpa using h1.symm)
    subst this
    exact ⟨[], List.Perm.refl _, rfl⟩
  | b :: l, D, h => by
    obtain ⟨a, ha, hb⟩ := List.mem_map.1 (h.mem_iff.1 (List.mem_cons_self ..))
    obtain ⟨s, t, rfl⟩ := List.append_of_mem ha
    rw [List.map_append, List.map_cons, hb] at h
    have h2 := (h.trans List.perm_middle).cons_inv
    rw [← List.map_append] at h2
    obtain ⟨D', k1, k2⟩ := perm_map_ex h2
    exact ⟨a :: D', (k1.cons a).trans List.perm_middle.symm, by rw [List.map_cons, hb, k2]⟩
theorem sub_flatMap {α β : Type} (f : α → List β) : ∀ {l l' : List α}, l.Sublist l' → (l.flatMap f).Sublist (l'.flatMap f)
  | _, _, .slnil => List.Sublist.refl _
  | _, _, .cons a h => by
    rw [List.flatMap_cons]
    exact (sub_flatMap f h).trans (List.sublist_append_right _ _)
  | _, _, .cons_cons a h => by
    rw [List.flatMap_cons, List.flatMap_cons]
    exact (List.Sublist.refl _).append (sub_flatMap f h)
/-- A clause with its rows. -/
structure ClD where
  x : Cl
  v0 : Value
  v1 : Value
  v2 : Value
  ws : List Value
def ClD.cells (p : ClD) : List Value := Cl.cs p.x p.v0 p.v1 p.v2
def ClD.rows (eT eA eS : TypeId) (p : ClD) : List Res := clRows eT eA eS p.x p.v0 p.v1 p.v2 p.ws
def ClD.ok (p : ClD) (c : Cx) : Prop := p.ws.length = p.x.body.length ∧ Vals (atCells p.x.body p.ws) p.x.body c ∧ Enc.Ok p.cells p.x c
instance (p : ClD) : Mono p.ok := ⟨fun h k => ⟨k.1, Mono.mono h k.2.1, Mono.mono h k.2.2⟩⟩
def clPair (p : ClD) : Cl × List Value := (p.x, p.cells)
/-- Clauses whose rows none else has. -/
def DsF (eT eA eS : TypeId) (base : Nat) (R : List Res) (D : List ClD) (c : Cx) : Prop := FrL base (D.flatMap (ClD.rows eT eA eS) ++ R) c ∧ ∀ p ∈ D, p.ok c
instance (eT eA eS : TypeId) (base : Nat) (R : List Res) (D : List ClD) : Mono (DsF eT eA eS base R D) := ⟨fun h k => ⟨Mono.mono h k.1, fun p hp => Mono.mono h (k.2 p hp)⟩⟩
theorem DsF.vals {eT eA eS : TypeId} {base : Nat} {R : List Res} {D : List ClD} {c : Cx} (h : DsF eT eA eS base R D c) : Vals (D.map ClD.cells) (D.map ClD.x) c :=
  ⟨by simp, fun i cs x h1 h2 => by
    simp only [List.getElem?_map, Option.map_eq_some_iff] at h1 h2
    obtain ⟨p, hp, rfl⟩ := h1
    obtain ⟨q, hq, rfl⟩ := h2
    rw [hp] at hq
    cases hq
    exact (h.2 p (List.mem_of_getElem? hp)).2.2⟩
theorem flatMap_snoc {α β : Type} (f : α → List β) (l : List α) (a : α) : (l ++ [a]).flatMap f = l.flatMap f ++ f a := by simp
theorem DsF.snoc {eT eA eS : TypeId} {base : Nat} {R : List Res} {D : List ClD} {p : ClD} {c : Cx} (h : DsF eT eA eS base R D c) (hf : FrL base (p.rows eT eA eS ++ (D.flatMap (ClD.rows eT eA eS) ++ R)) c) (hp : p.ok c) : DsF eT eA eS base R (D ++ [p]) c := by
  refine ⟨?_, fun q hq => ?_⟩
  · rw [flatMap_snoc]
    refine hf.perm ?_
    rw [← List.append_assoc]
    exact List.perm_append_comm.append_right _
  · rcases List.mem_append.1 hq with hq | hq
    · exact h.2 q hq
    · rw [List.mem_singleton.1 hq]
      exact hp
/-- A list of clauses, all of whose rows none else has. -/
def ClsF (eT eA eS eC : TypeId) (base : Nat) (R : List Res) (xs : List Cl) (v : Value) (c : Cx) : Prop :=
  ∃ D : List ClD, D.map ClD.x = xs ∧ Sl v xs c ∧ (∀ p ∈ D, p.ok c) ∧ FrL base (.row v eC 7 xs.length (D.map ClD.cells).flatten :: (D.flatMap (ClD.rows eT eA eS) ++ R)) c
instance (eT eA eS eC : TypeId) (base : Nat) (R : List Res) (xs : List Cl) (v : Value) : Mono (ClsF eT eA eS eC base R xs v) := ⟨fun h ⟨D, e, k, k2, k3⟩ => ⟨D, e, Mono.mono h k, fun p hp => Mono.mono h (k2 p hp), Mono.mono h k3⟩⟩
theorem zip_pair {D : List ClD} {xs : List Cl} {vals : List (List Value)} (h : D.map clPair = xs.zip vals) (hl : vals.length = xs.length) : D.map ClD.x = xs ∧ D.map ClD.cells = vals := by
  constructor
  · have := congrArg (List.map Prod.fst) h
    rw [List.map_map, List.map_fst_zip (by omega)] at this
    exact this
  · have := congrArg (List.map Prod.snd) h
    rw [List.map_map, List.map_snd_zip (by omega)] at this
    exact this
theorem pair_zip (D : List ClD) : D.map clPair = (D.map ClD.x).zip (D.map ClD.cells) := (List.zip_map' ..).symm
/-- .. sorted, and without doubles. -/
theorem AdF.cls {eT eA eS eC : TypeId} {base : Nat} {R : List Res} {D : List ClD} {xs : List Cl} {vals : List (List Value)} {v : Value} {c : Cx} (h : AdF eC base (D.flatMap (ClD.rows eT eA eS) ++ R) xs vals v c) (hD : ∀ p ∈ D, p.ok c) (hz : (xs.zip vals).Perm (D.map clPair)) : ClsF eT eA eS eC base R (adjL xs) v c := by
  obtain ⟨valsO, h1, h2, h3, h4⟩ := h
  obtain ⟨D1, k1, k2⟩ := perm_map_ex hz
  rw [← k2] at h1
  obtain ⟨D2, k3, k4⟩ := List.sublist_map_iff.1 h1
  obtain ⟨e1, e2⟩ := zip_pair k4.symm h3.1
  refine ⟨D2, e1, h2, fun p hp => hD p (k1.mem_iff.1 (k3.subset hp)), ?_⟩
  rw [e2]
  have hs : (D2.flatMap (ClD.rows eT eA eS) ++ R).Sublist (D1.flatMap (ClD.rows eT eA eS) ++ R) := (sub_flatMap (ClD.rows eT eA eS) k3).append (List.Sublist.refl _)
  have hp : (D1.flatMap (ClD.rows eT eA eS) ++ R).Perm (D.flatMap (ClD.rows eT eA eS) ++ R) := (k1.flatMap_right _).append_right _
  exact (h4.perm (hp.symm.cons _)).sub (hs.cons_cons _)
instance : Enc ClD where
  k := 7
  Ok cs p c := cs = p.cells ∧ Enc.Ok p.cells p.x c
  mono cs p := ⟨fun h ⟨h1, h2⟩ => ⟨h1, Mono.mono h h2⟩⟩
  len cs p c h := by rw [h.1]; exact Enc.len p.cells p.x c h.2
  one cs p c h u hu := Enc.one p.cells p.x c h.2 u (h.1 ▸ hu)
  pos := by omega
theorem Ag.clD {p : ClD} {v : Value} {c : Cx} (h : Ag p v c) : Ag p.x v c := by
  obtain ⟨cs, e, rfl, k⟩ := h
  exact ⟨_, e, k⟩
theorem Pt.clD {p : ClD} {v : Value} {c : Cx} (h : Pt p v c) : Pt p.x v c := by
  obtain ⟨b, o, e, cs, ⟨rfl, k⟩, h2⟩ := h
  exact ⟨b, o, e, _, k, h2⟩
theorem vals_clD {D : List ClD} {vals : List (List Value)} {c : Cx} (h : Vals vals D c) : vals = D.map ClD.cells := by
  apply List.ext_getElem?
  intro i
  rw [List.getElem?_map]
  cases hv : vals[i]? with
  | none =>
    have hl : D.length ≤ i := by rw [← h.1]; exact List.getElem?_eq_none_iff.1 hv
    rw [List.getElem?_eq_none hl]
    rfl
  | some cs =>
    have hi : i < D.length := by rw [← h.1]; exact (List.getElem?_eq_some_iff.1 hv).1
    have hd : D[i]? = some D[i] := List.getElem?_eq_getElem hi
    rw [hd, (h.2 i cs _ hv hd).1]
    rfl
theorem ok_vals {D : List ClD} {c : Cx} (h : ∀ p ∈ D, p.ok c) : Vals (D.map ClD.cells) D c :=
  ⟨by simp, fun i cs x h1 h2 => by
    rw [List.getElem?_map, h2] at h1
    cases h1
    exact ⟨rfl, (h x (List.mem_of_getElem? h2)).2.2⟩⟩
/-- A frozen row of them reads as their list. -/
theorem FrL.slD {base : Nat} {R : List Res} {D : List ClD} {v : Value} {e : TypeId} {c : Cx} (h : FrL base (.row v e 7 D.length (D.map ClD.cells).flatten :: R) c) (hD : ∀ p ∈ D, p.ok c) (hl : D.length < LIM) : Sl v D c := by
  obtain ⟨⟨h1, h2⟩, h3⟩ := h.1 _ (List.mem_cons_self ..)
  rcases h2 with ⟨rfl, h0⟩ | ⟨g, cap, cur, rfl, _, hh, hnc, _, hsz, htk⟩
  · have : D = [] := List.eq_nil_of_length_eq_zero h0
    subst this
    exact Sl.nil c
  · refine Sl.of_vals (vals := D.map ClD.cells) (ex := cur.toList.drop (D.length * 7)) (ok_vals hD) hh ?_ (h3 g rfl).1 hnc hl
    rw [← htk]
    exact (List.take_append_drop _ _).symm
end Go.Wk
namespace Go.Proofs.YthkdggoohpgnnaaGreatDoor
open Go Go.Wk
theorem sortCl_q : SortsQ Tryz.prog 114 (fun v _ => [v, .func (.func 115) #[] #[]]) 7 115 := by
  have hf : Tryz.sortCl_ren.f 6 = 114 := by kernel_rfl
  have ht : Tryz.sortCl_ren.t 24 = 30 := by kernel_rfl
  have h := sortFunc_q Tryz.sortCl (kk := 7) (g := 115) (by rw [ht]; exact Agg.ag) (by rw [ht]; exact Agg.sz) Ent.h
  rw [hf] at h
  exact h
theorem sortCl_0 (p : Option Addr) (cap : Nat) (c : Cx) : Cn Tryz.prog 114 [.slice p 0 cap, .func (.func 115) #[] #[]] c (fun v _ => v = .tuple #[]) := by
  have hf : Tryz.sortCl_ren.f 6 = 114 := by kernel_rfl
  have h := sortFunc_0 Tryz.sortCl (g := 115) p cap c
  rw [hf] at h
  exact h
theorem clause_SetF (cs : List Cl) (v : Value) (c : Cx) (base : Nat) (RF : List Res) (hRF : FrL base RF c) (hb0 : base ≤ c.w.heap.size) (h : Sl v cs c) (hs : ∀ x ∈ cs, x.sm) : Cn Tryz.prog 60 [v] c (fun r c => ClsF 23 26 79 30 base RF (setU cmpCl cs) r c) := by
  refine Cn.of Tryz.func60 Tryz.ntmps60 rfl rfl fun hm H HA => ?_
  have hlim := h.lim
  have HA := (HA.add hRF).add h
  (apply wc_seq; apply wc_region; refine Z2 ?_; apply w_nil; apply wx_next; apply wc_seq; apply wc_region; refine Z0 ?_; refine Z45 ?_)
  (refine s_makeC rfl rfl rfl rfl (by simp only [LIM]; omega) H HA inferInstance ?_; intro vx c H HA)
  have H : Owns _ [.row vx 30 7 ([] : List Cl).length ([] : List (List Value)).flatten] _ := H
  have hD0 : DsF 23 26 79 base RF [] c := ⟨Lk, fun p hp => by cases hp⟩
  (refine Z2 ?_; apply w_nil; apply wx_next; apply wc_seq; apply wc_seq; apply wc_region; refine Z0 ?_; refine Z45 ?_; refine Z0 ?_; apply w_nil; apply wx_next; apply wc_block)
  refine wc_loopG (σ := Nat × Value × List ClD) (fun y => cs.length - y.1) (fun y => [(3, y.2.1), (9, v), (10, .int .i64 cs.length), (11, .int .i64 y.1)]) (fun y => y.1 ≤ cs.length ∧ y.2.2.map ClD.x = cs.take y.1)
    (fun y => [.row y.2.1 30 7 y.2.2.length (y.2.2.map ClD.cells).flatten]) (fun y c => DsF 23 26 79 base RF y.2.2 c) (0, vx, []) H HA hD0 Ks ⟨Nat.zero_le _, rfl⟩ ?_
  intro y g c hp H HA
  obtain ⟨k, vr, D⟩ := y
  obtain ⟨hk, hDx⟩ := hp
  dsimp only at hk hDx H HA ⊢
  have hDl : D.length = k := by
    have := congrArg List.length hDx
    simp at this
    omega
  (focus (apply wc_seq; apply wc_region; refine Z93 (fun hq => ?_) fun hq => ?_; apply w_nil; apply wx_next; apply wc_seq; refine Z18 ?_; apply wc_skip; apply wx_next; apply wc_seq; apply wc_block; apply wc_seq; apply wc_region; rotate_left; apply w_nil; apply wx_next; apply wc_seq; refine Z19 ?_; apply wc_exit; apply wx_exit_then; apply wx_exit_then; apply wx_exit_same; apply wx_next; apply wc_seq; apply wc_region; refine Z0 ?_; rotate_left))
  · obtain ⟨t, ht⟩ := getq (xs := cs) (k := k) (by omega)
    have htk : cs.take (k + 1) = cs.take k ++ [t] := by rw [List.take_add_one, ht]; rfl
    (refine Z34 HA fun vx HA => ?_; refine Z39 HA fun vx HA => ?_; refine Z61 fun bx c H HA => ?_)
    (refine s_storeG (α := Cl) rfl rfl Lk rfl rfl H HA ?_; intro c H HA)
    (apply w_nil; apply wx_next; apply wc_region; refine Z0 ?_; refine Z39 HA fun vx HA => ?_)
    have hDs := (Lk : DsF 23 26 79 base RF D c)
    (refine s_callTF (pre := []) (post := []) rfl rfl H HA hb0 (clause_turnedF same_clo () t _ _ base (D.flatMap (ClD.rows 23 26 79) ++ RF) hDs.1 trivial Lk (same_doms _)) ?_; intro vx c H HA)
    rw [same_repC] at HA
    obtain ⟨w0, w1, w2, ws, rfl, hwl, g0, g1, g2, hV, hFr⟩ := HA.h.1
    have hok : Enc.Ok (Cl.cs t w0 w1 w2) t c := ⟨w0, w1, w2, rfl, g0, g1, g2⟩
    have hDn : DsF 23 26 79 base RF (D ++ [⟨t, w0, w1, w2, ws⟩]) c := DsF.snoc Lk hFr ⟨hwl, hV, hok⟩
    have HA := HA.cut.add hDn
    have H : Owns _ [.row vr 30 7 D.length (D.map ClD.cells).flatten] _ := H
    (refine s_bs1V (α := Cl) (cs := Cl.cs t w0 w1 w2) (u := t) rfl rfl hok rfl rfl rfl H HA inferInstance ?_; intro vb c H HA)
    (skip)
    (refine s_appV rfl rfl rfl (Lk : SlV [t] [Cl.cs t w0 w1 w2] vb _) rfl rfl rfl Lt H HA inferInstance ?_; intro vx c H HA)
    have e1 : (D.map ClD.cells).flatten ++ [Cl.cs t w0 w1 w2].flatten = ((D ++ [(⟨t, w0, w1, w2, ws⟩ : ClD)]).map ClD.cells).flatten := by rw [List.map_append, List.flatten_append]; rfl
    rw [e1, show D.length + [t].length = (D ++ [(⟨t, w0, w1, w2, ws⟩ : ClD)]).length by simp] at H
    (refine Z2 ?_; apply w_nil; apply wx_norm_block; apply wx_next; apply wc_region; refine Z46 ?_; refine Z0 ?_; apply w_nil)
    exact wx_loopG ((k + 1, vx, D ++ [⟨t, w0, w1, w2, ws⟩])) H Cu Lk Ks (by dsimp only; omega) ⟨by dsimp only; omega, by dsimp only; rw [htk, List.map_append, hDx]; rfl⟩
  · have hcs : cs.take k = cs := List.take_of_length_le (by omega)
    rw [hcs] at hDx
    have hDs := (Lk : DsF 23 26 79 base RF D c)
    have hVD := hDs.vals
    rw [hDx] at hVD
    have hDl2 : D.length = cs.length := by rw [← hDx]; simp
    rw [hDl2] at H
    refine s_sortZ (P := Tryz.prog) (xs := cs) (vals := D.map ClD.cells) (good := Cl.sm) (cmp := cmpCl) (kk := 7) sortCl_q sortCl_0 rfl cmpCl_t3.toP3 rfl rfl H hVD HA hs ?_ (by omega) ?_
    · intro x y u1 u2 c' hx _ h1 h2 _
      exact clause_Compare x y u1 u2 c' h1 h2 hx
    intro c' vals' out hzp hpm hso H HA
    have hol := hpm.length_eq
    have hDs := (Lk : DsF 23 26 79 base RF D c')
    rw [← hDx, ← pair_zip] at hzp
    (apply w_nil; apply wx_next; apply wc_seq; apply wc_region; refine Z0 ?_)
    (refine s_callTF (pre := [.row vr 30 7 out.length vals'.flatten]) (post := []) rfl rfl H HA hb0 (CompactFunc_ClF out vr vals' _ base (D.flatMap (ClD.rows 23 26 79) ++ RF) hDs.1 Lk (by omega) (fun x hx => hs x (hpm.mem_iff.1 hx))) ?_; intro vx c H HA)
    have hfin := AdF.cls HA.h.1 (Lk : DsF 23 26 79 base RF D c).2 hzp
    rw [adjL_set cmpCl_t3 hpm hso] at hfin
    have HA := HA.cut.add hfin
    (refine Z2 ?_; apply w_nil; apply wx_next; apply wc_ret)
    exact ret_fn H hm (outs1 Tryz.results60 Wh) Lk
end Go.Proofs.YthkdggoohpgnnaaGreatDoor
/- Contracts: room for a row, of the library. -/
namespace Go.Wk
open Go Go.RowKit Go.Proofs Go.Shelf
theorem grow_nil {α : Type} [Enc α] {P : Program} {ρ : Go.Shelf.Ren} (Ls : Lays8.n4 P ρ) {e gs : Nat} (hf : ρ.f 4 = gs) (ht : ρ.t 25 = e) {z : Value} {kk bb : Nat} [TyI P e z kk bb] (hk : Enc.k α = kk) (hz : z.cells.size = kk) (hbb : bb ≤ 128) (m : Nat) (hm : m < 1099511627776) (c : Cx) :
    CnO P gs [.slice none 0 0, .int .i64 m] c (RowP e kk ([] : List α)) := by
  intro hM
  subst hf
  rcases Nat.eq_zero_or_pos m with h0 | hpos
  · subst h0
    refine (Any8.slices_Grow_room Ls none 0 0 0 c.w (Nat.le_refl _) (by omega) (by omega) (by omega)).mono ?_
    rintro en w' ⟨he, rfl⟩
    have H := (Owns.start hM).nilRow e kk
    exact ⟨_, _, c.M, he, H, Le.refl c, [], rfl, Vals.nil _⟩
  · obtain ⟨i, hi, hiz, his, hib⟩ := TyI.h (P := P) (e := e)
    have hkp : 0 < kk := hk ▸ Enc.pos
    have hmul : m * bb ≤ m * 128 := Nat.mul_le_mul_left _ hbb
    have hcon := Any8.slices_Grow_grow Ls i z (by rw [ht]; exact hi) hiz (by rw [his]; exact hkp) none 0 0 m [] c.w (Nat.le_refl _) (by omega) (by rw [hib, Nat.zero_add]; omega) (by omega) (by simp) (fun _ => rfl) (fun a h => by cases h)
    refine hcon.mono ?_
    rintro en w' ⟨he, rfl⟩
    rw [ht, Nat.zero_add] at *
    have hge := grownCap_ge c.w m 0 e
    have hmx := grownCap_le_maxLen c.w m 0 e (by simp only [maxLen]; omega)
    generalize grownCap c.w m 0 e = G at *
    have H0 : Owns c [] ⟨c.w.drew, c.M⟩ := (Owns.start hM).of_ext (Ext0.draw _)
    have hN := H0.new (.cells (([] : List Value).toArray ++ Builtin.zeroCells z.cells (m - 0) ++ Builtin.zeroCells z.cells (G - m)) e) (b := c.w.heap.size) rfl
    have hown : (c.w.drew.alloc (.cells (([] : List Value).toArray ++ Builtin.zeroCells z.cells (m - 0) ++ Builtin.zeroCells z.cells (G - m)) e)).ownsRow 0 e kk (.slice (some ⟨c.w.heap.size, 0, none⟩) 0 G) 0 [] := by
      refine ⟨by simp, .inr ⟨c.w.heap.size, G, _, rfl, Nat.zero_le _, heap_alloc_new c.w.drew _, Nat.zero_le _, hmx, ?_, by simp⟩⟩
      simp only [Array.size_append, List.size_toArray, List.length_nil, Nat.zero_add, Nat.sub_zero, Builtin.zeroCells, Array.size_map, Array.size_range, hz]
      rw [← Nat.add_mul]
      congr 1
      omega
    have hT := hN.2.turn (r' := .row (.slice (some ⟨c.w.heap.size, 0, none⟩) 0 G) e kk 0 []) (w' := c.w.drew.alloc (.cells (([] : List Value).toArray ++ Builtin.zeroCells z.cells (m - 0) ++ Builtin.zeroCells z.cells (G - m)) e)) rfl rfl rfl (Nat.le_refl _) (Nat.le_refl _) (fun _ _ _ => rfl) hown (fun b hb => .inl hb)
    exact ⟨_, _, _, he, hT.2, (Le.of_ext (Ext0.draw c.w)).trans (hN.1.trans hT.1), [], rfl, Vals.nil _⟩
end Go.Wk
namespace Go.Proofs
open Go.Shelf
end Go.Proofs
/- Contracts: rows put together, of the library. -/
namespace Go.Proofs.YthkdggoohpgnnaaGreatDoor
open Go Go.Wk
theorem Concat_CD (lss : List (List ClD)) (v : Value) (c : Cx) (h : Sl v lss c) (hb : lss.flatten.length < 1099511627776) : CnO Tryz.prog 118 [v] c (RowP 30 7 lss.flatten) := by
  refine CnO.of Tryz.func118 Tryz.ntmps118 rfl rfl fun hm H HA => ?_
  have hlim := h.lim
  have HA := HA.add h
  have hpre : ∀ k, (lss.take k).flatten.length ≤ lss.flatten.length := fun k => by
    have : lss.flatten = (lss.take k).flatten ++ (lss.drop k).flatten := by rw [← List.flatten_append, List.take_append_drop]
    rw [this, List.length_append]
    omega
  (apply wc_seq; apply wc_region; refine Z2 ?_; apply w_nil; apply wx_next; apply wc_seq; apply wc_region; refine Z2 ?_; apply w_nil; apply wx_next; apply wc_seq; apply wc_seq; apply wc_region; refine Z0 ?_; refine Z45 ?_; refine Z0 ?_; apply w_nil; apply wx_next; apply wc_block)
  refine wc_loopM (σ := Nat × Nat) (fun s => lss.length - s.1) (fun s => [(0, v), (3, .int .i64 s.2), (9, v), (10, .int .i64 lss.length), (11, .int .i64 s.1)]) (fun s => s.1 ≤ lss.length ∧ s.2 = (lss.take s.1).flatten.length) (0, 0) H HA Ks ⟨Nat.zero_le _, rfl⟩ ?_
  intro s g c hp H HA
  obtain ⟨k, m⟩ := s
  obtain ⟨hk, hm2⟩ := hp
  dsimp only at hk hm2 ⊢
  have hpk := hpre (k + 1)
  (focus (apply wc_seq; apply wc_region; refine Z93 (fun hq => ?_) fun hq => ?_; apply w_nil; apply wx_next; apply wc_seq; refine Z18 ?_; apply wc_skip; apply wx_next; apply wc_seq; apply wc_block; apply wc_seq; apply wc_region; rotate_left; apply w_nil; apply wx_next; apply wc_seq; refine Z19 ?_; apply wc_exit; apply wx_exit_then; apply wx_exit_then; apply wx_exit_same; apply wx_next; apply wc_seq; apply wc_region; refine Z0 ?_; rotate_left))
  · obtain ⟨l, hl⟩ := getq (xs := lss) (k := k) (by omega)
    have htk : (lss.take (k + 1)).flatten.length = (lss.take k).flatten.length + l.length := by
      rw [List.take_add_one, hl]
      simp
    rw [htk] at hpk
    (focus (refine Z34 HA fun vx HA => ?_; refine Z37 HA fun vx HA => ?_; refine Z2 ?_; apply w_nil; apply wx_next; apply wc_seq; apply wc_region; refine Z0 ?_; refine Z0 ?_; refine Z45 ?_; refine Z48 ?_; refine Z2 ?_; apply w_nil; apply wx_next; apply wc_seq; apply wc_region; refine Z0 ?_; refine Z93 (fun hq => ?_) fun hq => ?_; apply w_nil; apply wx_next; refine Z18 ?_; apply wc_region; rotate_left; apply w_nil; apply wx_next; refine Z19 ?_; apply wc_skip; apply wx_norm_block; apply wx_next; apply wc_region; refine Z46 ?_; refine Z0 ?_; apply w_nil; rotate_left))
    · exfalso; omega
    · exact wx_loopM ((k + 1, m + l.length)) H Cu Ks (by dsimp only; omega) ⟨by dsimp only; omega, by dsimp only; rw [htk, hm2]⟩
  · have hfl : m = lss.flatten.length := by rw [hm2, List.take_of_length_le (by omega)]
    have hsz : m < 1099511627776 := by omega
    (refine s_callR rfl rfl H HA (grow_nil (α := ClD) Tryz.growCl (gs := 148) (e := 30) (by kernel_rfl) (by kernel_rfl) rfl rfl (by decide) m hsz _) ?_; intro vx valsx c H HA)
    (refine Z2 ?_; apply w_nil; apply wx_next; apply wc_seq; apply wc_seq; apply wc_region; refine Z0 ?_; refine Z45 ?_; refine Z0 ?_; apply w_nil; apply wx_next; apply wc_block)
    refine wc_loopG (σ := Nat × Value × List (List Value)) (fun y => lss.length - y.1) (fun y => [(6, y.2.1), (25, v), (26, .int .i64 lss.length), (27, .int .i64 y.1)]) (fun y => y.1 ≤ lss.length)
      (fun y => [.row y.2.1 30 7 (lss.take y.1).flatten.length y.2.2.flatten]) (fun y c => Vals y.2.2 (lss.take y.1).flatten c) (0, vx, valsx) H HA Lk Ks (Nat.zero_le _) ?_
    intro y g c hk H HA
    obtain ⟨k, vr, vals⟩ := y
    dsimp only at hk H HA ⊢
    have hpk := hpre (k + 1)
    (focus (apply wc_seq; apply wc_region; refine Z93 (fun hq => ?_) fun hq => ?_; apply w_nil; apply wx_next; apply wc_seq; refine Z18 ?_; apply wc_skip; apply wx_next; apply wc_seq; apply wc_block; apply wc_seq; apply wc_region; rotate_left; apply w_nil; apply wx_next; apply wc_seq; refine Z19 ?_; apply wc_exit; apply wx_exit_then; apply wx_exit_then; apply wx_exit_same; apply wx_next; apply wc_seq; apply wc_region; refine Z0 ?_; refine Z2 ?_; apply w_nil; apply wx_next; apply wc_ret; rotate_left))
    · obtain ⟨l, hl⟩ := getq (xs := lss) (k := k) (by omega)
      have htk : (lss.take (k + 1)).flatten = (lss.take k).flatten ++ l := by
        rw [List.take_add_one, hl]
        simp
      rw [htk, List.length_append] at hpk
      (refine Z34 HA fun vx HA => ?_; refine Z37 HA fun vx HA => ?_; refine Z2 ?_; apply w_nil; apply wx_next; apply wc_region; refine Z0 ?_; refine Z0 ?_; refine Z59 fun vx c valsx H HA => ?_; refine Z2 ?_; apply w_nil; apply wx_norm_block; apply wx_next; apply wc_region; refine Z46 ?_; refine Z0 ?_; apply w_nil)
      exact wx_loopG ((k + 1, vx, valsx)) (by dsimp only; rw [htk]; exact H) Cu (by dsimp only; rw [htk]; exact Lk) Ks (by dsimp only; omega) (by dsimp only; omega)
    · have hfl : (lss.take k).flatten = lss.flatten := by rw [List.take_of_length_le (by omega)]
      rw [hfl] at H HA
      exact ret_fnO H hm (outs1 Tryz.results118 Wh) ⟨vals, rfl, Lk⟩ inferInstance
theorem Concat_At (lss : List (List At0)) (v : Value) (c : Cx) (h : Sl v lss c) (hb : lss.flatten.length < 1099511627776) : CnO Tryz.prog 150 [v] c (RowP 26 5 lss.flatten) := by
  refine CnO.of Tryz.func150 Tryz.ntmps150 rfl rfl fun hm H HA => ?_
  have hlim := h.lim
  have HA := HA.add h
  have hpre : ∀ k, (lss.take k).flatten.length ≤ lss.flatten.length := fun k => by
    have : lss.flatten = (lss.take k).flatten ++ (lss.drop k).flatten := by rw [← List.flatten_append, List.take_append_drop]
    rw [this, List.length_append]
    omega
  (apply wc_seq; apply wc_region; refine Z2 ?_; apply w_nil; apply wx_next; apply wc_seq; apply wc_region; refine Z2 ?_; apply w_nil; apply wx_next; apply wc_seq; apply wc_seq; apply wc_region; refine Z0 ?_; refine Z45 ?_; refine Z0 ?_; apply w_nil; apply wx_next; apply wc_block)
  refine wc_loopM (σ := Nat × Nat) (fun s => lss.length - s.1) (fun s => [(0, v), (3, .int .i64 s.2), (9, v), (10, .int .i64 lss.length), (11, .int .i64 s.1)]) (fun s => s.1 ≤ lss.length ∧ s.2 = (lss.take s.1).flatten.length) (0, 0) H HA Ks ⟨Nat.zero_le _, rfl⟩ ?_
  intro s g c hp H HA
  obtain ⟨k, m⟩ := s
  obtain ⟨hk, hm2⟩ := hp
  dsimp only at hk hm2 ⊢
  have hpk := hpre (k + 1)
  (focus (apply wc_seq; apply wc_region; refine Z93 (fun hq => ?_) fun hq => ?_; apply w_nil; apply wx_next; apply wc_seq; refine Z18 ?_; apply wc_skip; apply wx_next; apply wc_seq; apply wc_block; apply wc_seq; apply wc_region; rotate_left; apply w_nil; apply wx_next; apply wc_seq; refine Z19 ?_; apply wc_exit; apply wx_exit_then; apply wx_exit_then; apply wx_exit_same; apply wx_next; apply wc_seq; apply wc_region; refine Z0 ?_; rotate_left))
  · obtain ⟨l, hl⟩ := getq (xs := lss) (k := k) (by omega)
    have htk : (lss.take (k + 1)).flatten.length = (lss.take k).flatten.length + l.length := by
      rw [List.take_add_one, hl]
      simp
    rw [htk] at hpk
    (focus (refine Z34 HA fun vx HA => ?_; refine Z37 HA fun vx HA => ?_; refine Z2 ?_; apply w_nil; apply wx_next; apply wc_seq; apply wc_region; refine Z0 ?_; refine Z0 ?_; refine Z45 ?_; refine Z48 ?_; refine Z2 ?_; apply w_nil; apply wx_next; apply wc_seq; apply wc_region; refine Z0 ?_; refine Z93 (fun hq => ?_) fun hq => ?_; apply w_nil; apply wx_next; refine Z18 ?_; apply wc_region; rotate_left; apply w_nil; apply wx_next; refine Z19 ?_; apply wc_skip; apply wx_norm_block; apply wx_next; apply wc_region; refine Z46 ?_; refine Z0 ?_; apply w_nil; rotate_left))
    · exfalso; omega
    · exact wx_loopM ((k + 1, m + l.length)) H Cu Ks (by dsimp only; omega) ⟨by dsimp only; omega, by dsimp only; rw [htk, hm2]⟩
  · have hfl : m = lss.flatten.length := by rw [hm2, List.take_of_length_le (by omega)]
    have hsz : m < 1099511627776 := by omega
    (refine s_callR rfl rfl H HA (grow_nil (α := At0) Tryz.growAt (gs := 176) (e := 26) (by kernel_rfl) (by kernel_rfl) rfl rfl (by decide) m hsz _) ?_; intro vx valsx c H HA)
    (refine Z2 ?_; apply w_nil; apply wx_next; apply wc_seq; apply wc_seq; apply wc_region; refine Z0 ?_; refine Z45 ?_; refine Z0 ?_; apply w_nil; apply wx_next; apply wc_block)
    refine wc_loopG (σ := Nat × Value × List (List Value)) (fun y => lss.length - y.1) (fun y => [(6, y.2.1), (25, v), (26, .int .i64 lss.length), (27, .int .i64 y.1)]) (fun y => y.1 ≤ lss.length)
      (fun y => [.row y.2.1 26 5 (lss.take y.1).flatten.length y.2.2.flatten]) (fun y c => Vals y.2.2 (lss.take y.1).flatten c) (0, vx, valsx) H HA Lk Ks (Nat.zero_le _) ?_
    intro y g c hk H HA
    obtain ⟨k, vr, vals⟩ := y
    dsimp only at hk H HA ⊢
    have hpk := hpre (k + 1)
    (focus (apply wc_seq; apply wc_region; refine Z93 (fun hq => ?_) fun hq => ?_; apply w_nil; apply wx_next; apply wc_seq; refine Z18 ?_; apply wc_skip; apply wx_next; apply wc_seq; apply wc_block; apply wc_seq; apply wc_region; rotate_left; apply w_nil; apply wx_next; apply wc_seq; refine Z19 ?_; apply wc_exit; apply wx_exit_then; apply wx_exit_then; apply wx_exit_same; apply wx_next; apply wc_seq; apply wc_region; refine Z0 ?_; refine Z2 ?_; apply w_nil; apply wx_next; apply wc_ret; rotate_left))
    · obtain ⟨l, hl⟩ := getq (xs := lss) (k := k) (by omega)
      have htk : (lss.take (k + 1)).flatten = (lss.take k).flatten ++ l := by
        rw [List.take_add_one, hl]
        simp
      rw [htk, List.length_append] at hpk
      (refine Z34 HA fun vx HA => ?_; refine Z37 HA fun vx HA => ?_; refine Z2 ?_; apply w_nil; apply wx_next; apply wc_region; refine Z0 ?_; refine Z0 ?_; refine Z59 fun vx c valsx H HA => ?_; refine Z2 ?_; apply w_nil; apply wx_norm_block; apply wx_next; apply wc_region; refine Z46 ?_; refine Z0 ?_; apply w_nil)
      exact wx_loopG ((k + 1, vx, valsx)) (by dsimp only; rw [htk]; exact H) Cu (by dsimp only; rw [htk]; exact Lk) Ks (by dsimp only; omega) (by dsimp only; omega)
    · have hfl : (lss.take k).flatten = lss.flatten := by rw [List.take_of_length_le (by omega)]
      rw [hfl] at H HA
      exact ret_fnO H hm (outs1 Tryz.results150 Wh) ⟨vals, rfl, Lk⟩ inferInstance
theorem Concat_Ts (lss : List (List Ts)) (v : Value) (c : Cx) (h : Sl v lss c) (hb : lss.flatten.length < 1099511627776) : CnO Tryz.prog 151 [v] c (RowP 79 7 lss.flatten) := by
  refine CnO.of Tryz.func151 Tryz.ntmps151 rfl rfl fun hm H HA => ?_
  have hlim := h.lim
  have HA := HA.add h
  have hpre : ∀ k, (lss.take k).flatten.length ≤ lss.flatten.length := fun k => by
    have : lss.flatten = (lss.take k).flatten ++ (lss.drop k).flatten := by rw [← List.flatten_append, List.take_append_drop]
    rw [this, List.length_append]
    omega
  (apply wc_seq; apply wc_region; refine Z2 ?_; apply w_nil; apply wx_next; apply wc_seq; apply wc_region; refine Z2 ?_; apply w_nil; apply wx_next; apply wc_seq; apply wc_seq; apply wc_region; refine Z0 ?_; refine Z45 ?_; refine Z0 ?_; apply w_nil; apply wx_next; apply wc_block)
  refine wc_loopM (σ := Nat × Nat) (fun s => lss.length - s.1) (fun s => [(0, v), (3, .int .i64 s.2), (9, v), (10, .int .i64 lss.length), (11, .int .i64 s.1)]) (fun s => s.1 ≤ lss.length ∧ s.2 = (lss.take s.1).flatten.length) (0, 0) H HA Ks ⟨Nat.zero_le _, rfl⟩ ?_
  intro s g c hp H HA
  obtain ⟨k, m⟩ := s
  obtain ⟨hk, hm2⟩ := hp
  dsimp only at hk hm2 ⊢
  have hpk := hpre (k + 1)
  (focus (apply wc_seq; apply wc_region; refine Z93 (fun hq => ?_) fun hq => ?_; apply w_nil; apply wx_next; apply wc_seq; refine Z18 ?_; apply wc_skip; apply wx_next; apply wc_seq; apply wc_block; apply wc_seq; apply wc_region; rotate_left; apply w_nil; apply wx_next; apply wc_seq; refine Z19 ?_; apply wc_exit; apply wx_exit_then; apply wx_exit_then; apply wx_exit_same; apply wx_next; apply wc_seq; apply wc_region; refine Z0 ?_; rotate_left))
  · obtain ⟨l, hl⟩ := getq (xs := lss) (k := k) (by omega)
    have htk : (lss.take (k + 1)).flatten.length = (lss.take k).flatten.length + l.length := by
      rw [List.take_add_one, hl]
      simp
    rw [htk] at hpk
    (focus (refine Z34 HA fun vx HA => ?_; refine Z37 HA fun vx HA => ?_; refine Z2 ?_; apply w_nil; apply wx_next; apply wc_seq; apply wc_region; refine Z0 ?_; refine Z0 ?_; refine Z45 ?_; refine Z48 ?_; refine Z2 ?_; apply w_nil; apply wx_next; apply wc_seq; apply wc_region; refine Z0 ?_; refine Z93 (fun hq => ?_) fun hq => ?_; apply w_nil; apply wx_next; refine Z18 ?_; apply wc_region; rotate_left; apply w_nil; apply wx_next; refine Z19 ?_; apply wc_skip; apply wx_norm_block; apply wx_next; apply wc_region; refine Z46 ?_; refine Z0 ?_; apply w_nil; rotate_left))
    · exfalso; omega
    · exact wx_loopM ((k + 1, m + l.length)) H Cu Ks (by dsimp only; omega) ⟨by dsimp only; omega, by dsimp only; rw [htk, hm2]⟩
  · have hfl : m = lss.flatten.length := by rw [hm2, List.take_of_length_le (by omega)]
    have hsz : m < 1099511627776 := by omega
    (refine s_callR rfl rfl H HA (grow_nil (α := Ts) Tryz.growTs (gs := 177) (e := 79) (by kernel_rfl) (by kernel_rfl) rfl rfl (by decide) m hsz _) ?_; intro vx valsx c H HA)
    (refine Z2 ?_; apply w_nil; apply wx_next; apply wc_seq; apply wc_seq; apply wc_region; refine Z0 ?_; refine Z45 ?_; refine Z0 ?_; apply w_nil; apply wx_next; apply wc_block)
    refine wc_loopG (σ := Nat × Value × List (List Value)) (fun y => lss.length - y.1) (fun y => [(6, y.2.1), (25, v), (26, .int .i64 lss.length), (27, .int .i64 y.1)]) (fun y => y.1 ≤ lss.length)
      (fun y => [.row y.2.1 79 7 (lss.take y.1).flatten.length y.2.2.flatten]) (fun y c => Vals y.2.2 (lss.take y.1).flatten c) (0, vx, valsx) H HA Lk Ks (Nat.zero_le _) ?_
    intro y g c hk H HA
    obtain ⟨k, vr, vals⟩ := y
    dsimp only at hk H HA ⊢
    have hpk := hpre (k + 1)
    (focus (apply wc_seq; apply wc_region; refine Z93 (fun hq => ?_) fun hq => ?_; apply w_nil; apply wx_next; apply wc_seq; refine Z18 ?_; apply wc_skip; apply wx_next; apply wc_seq; apply wc_block; apply wc_seq; apply wc_region; rotate_left; apply w_nil; apply wx_next; apply wc_seq; refine Z19 ?_; apply wc_exit; apply wx_exit_then; apply wx_exit_then; apply wx_exit_same; apply wx_next; apply wc_seq; apply wc_region; refine Z0 ?_; refine Z2 ?_; apply w_nil; apply wx_next; apply wc_ret; rotate_left))
    · obtain ⟨l, hl⟩ := getq (xs := lss) (k := k) (by omega)
      have htk : (lss.take (k + 1)).flatten = (lss.take k).flatten ++ l := by
        rw [List.take_add_one, hl]
        simp
      rw [htk, List.length_append] at hpk
      (refine Z34 HA fun vx HA => ?_; refine Z37 HA fun vx HA => ?_; refine Z2 ?_; apply w_nil; apply wx_next; apply wc_region; refine Z0 ?_; refine Z0 ?_; refine Z59 fun vx c valsx H HA => ?_; refine Z2 ?_; apply w_nil; apply wx_norm_block; apply wx_next; apply wc_region; refine Z46 ?_; refine Z0 ?_; apply w_nil)
      exact wx_loopG ((k + 1, vx, valsx)) (by dsimp only; rw [htk]; exact H) Cu (by dsimp only; rw [htk]; exact Lk) Ks (by dsimp only; omega) (by dsimp only; omega)
    · have hfl : (lss.take k).flatten = lss.flatten := by rw [List.take_of_length_le (by omega)]
      rw [hfl] at H HA
      exact ret_fnO H hm (outs1 Tryz.results151 Wh) ⟨vals, rfl, Lk⟩ inferInstance
end Go.Proofs.YthkdggoohpgnnaaGreatDoor
/- Contracts: a list without one of its elements, of the program's own. -/
namespace Go.Wk
open Go
theorem sl_cell {α : Type} [Enc α] {v : Value} {l : List α} {c : Cx} (h : Sl v l c) : ∃ cs : List Value, v.cells = cs.toArray ∧ Enc.Ok cs l c := ⟨[v], Cells.sl h, v, rfl, h⟩
end Go.Wk
namespace Go.Proofs.YthkdggoohpgnnaaGreatDoor
open Go Go.Wk
theorem without_CD (xs : List ClD) (i : Nat) (v : Value) (c : Cx) (h : Sl v xs c) (hi : i < xs.length) : CnO Tryz.prog 61 [v, .int .i64 i] c (RowP 30 7 (xs.take i ++ xs.drop (i + 1))) := by
  refine CnO.of Tryz.func61 Tryz.ntmps61 rfl rfl fun hm H HA => ?_
  have hlim := h.lim
  have HA := HA.add h
  (apply wc_seq; apply wc_region; refine Z2 ?_; apply w_nil; apply wx_next; apply wc_seq)
  (refine dw_start H HA ?_)
  (repeat (refine Dc ?_))
  (apply dw_cons; (focus ((intro B _ Lx c H HA; (repeat (first | (intro vx hx; have hx2 : vx = _ := hx; clear hx; subst hx2) | (intro vx hx; have HA := HA.addSF hx; clear hx) | (intro vx hx; have HA := HA.add hx; clear hx) | intro vx)); change W _ _ _ _ _ _ _); (apply s_slL (α := ClD) (lo := 0) (hi := i); exact rfl; exact rfl; (first | exact .inl rfl | exact .inr ⟨rfl, rfl⟩); (first | exact .inl rfl | exact .inr ⟨rfl, rfl⟩); exact Lk; exact rfl; (first | omega | (simp; omega)); (first | omega | (simp; omega)); intro vx hx; have HA := HA.add hx; clear hx); exact Dx)); exact inferInstance)
  (repeat (refine Dc ?_))
  (apply dw_cons; (focus ((intro B _ Lx c H HA; (repeat (first | (intro vx hx; have hx2 : vx = _ := hx; clear hx; subst hx2) | (intro vx hx; have HA := HA.addSF hx; clear hx) | (intro vx hx; have HA := HA.add hx; clear hx) | intro vx)); change W _ _ _ _ _ _ _); (apply s_slL (α := ClD) (lo := i + 1) (hi := xs.length); exact rfl; exact rfl; (first | exact .inl rfl | exact .inr ⟨rfl, rfl⟩); (first | exact .inl rfl | exact .inr ⟨rfl, rfl⟩); exact Lk; exact rfl; (first | omega | (simp; omega)); (first | omega | (simp; omega)); intro vx hx; have HA := HA.add hx; clear hx); exact Dx)); exact inferInstance)
  (apply dw_cons; (focus ((intro B _ Lx c H HA; (repeat (first | (intro vx hx; have hx2 : vx = _ := hx; clear hx; subst hx2) | (intro vx hx; have HA := HA.addSF hx; clear hx) | (intro vx hx; have HA := HA.add hx; clear hx) | intro vx)); change W _ _ _ _ _ _ _); refine s_bslG (us := [(xs.drop 0).take (i - 0), (xs.drop (i + 1)).take (xs.length - (i + 1))]) rfl rfl rfl (EQs.cons (sl_cell Lk) (EQs.cons (sl_cell Lk) EQs.nil)) rfl rfl rfl rfl rfl H HA inferInstance ?_; intro vx c H HA; exact Dx)); exact inferInstance)
  (refine dw_done mixed H HA rfl (by kernel_rfl) ?_; clear H HA; intro c H HA; (repeat (first | (intro vx hx; have hx2 : vx = _ := hx; clear hx; subst hx2) | (intro vx hx; have HA := HA.addSF hx; clear hx) | (intro vx hx; have HA := HA.add hx; clear hx) | intro vx)); change W _ _ _ _ _ _ _)
  have e1 : ([(xs.drop 0).take (i - 0), (xs.drop (i + 1)).take (xs.length - (i + 1))] : List (List ClD)).flatten = xs.take i ++ xs.drop (i + 1) := by
    rw [List.take_of_length_le (l := xs.drop (i + 1)) (by simp)]
    simp
  (refine s_callR rfl rfl H HA (Concat_CD [(xs.drop 0).take (i - 0), (xs.drop (i + 1)).take (xs.length - (i + 1))] _ _ Lk (by rw [e1]; simp; omega)) ?_; intro vx valsx c H HA)
  rw [e1] at H HA
  (refine Z2 ?_; apply w_nil; apply wx_next; apply wc_ret)
  exact ret_fnO H hm (outs1 Tryz.results61 Wh) ⟨valsx, rfl, Lk⟩ inferInstance
theorem without_At (xs : List At0) (i : Nat) (v : Value) (c : Cx) (h : Sl v xs c) (hi : i < xs.length) : CnO Tryz.prog 126 [v, .int .i64 i] c (RowP 26 5 (xs.take i ++ xs.drop (i + 1))) := by
  refine CnO.of Tryz.func126 Tryz.ntmps126 rfl rfl fun hm H HA => ?_
  have hlim := h.lim
  have HA := HA.add h
  (apply wc_seq; apply wc_region; refine Z2 ?_; apply w_nil; apply wx_next; apply wc_seq)
  (refine dw_start H HA ?_)
  (repeat (refine Dc ?_))
  (apply dw_cons; (focus ((intro B _ Lx c H HA; (repeat (first | (intro vx hx; have hx2 : vx = _ := hx; clear hx; subst hx2) | (intro vx hx; have HA := HA.addSF hx; clear hx) | (intro vx hx; have HA := HA.add hx; clear hx) | intro vx)); change W _ _ _ _ _ _ _); (apply s_slL (α := At0) (lo := 0) (hi := i); exact rfl; exact rfl; (first | exact .inl rfl | exact .inr ⟨rfl, rfl⟩); (first | exact .inl rfl | exact .inr ⟨rfl, rfl⟩); exact Lk; exact rfl; (first | omega | (simp; omega)); (first | omega | (simp; omega)); intro vx hx; have HA := HA.add hx; clear hx); exact Dx)); exact inferInstance)
  (repeat (refine Dc ?_))
  (apply dw_cons; (focus ((intro B _ Lx c H HA; (repeat (first | (intro vx hx; have hx2 : vx = _ := hx; clear hx; subst hx2) | (intro vx hx; have HA := HA.addSF hx; clear hx) | (intro vx hx; have HA := HA.add hx; clear hx) | intro vx)); change W _ _ _ _ _ _ _); (apply s_slL (α := At0) (lo := i + 1) (hi := xs.length); exact rfl; exact rfl; (first | exact .inl rfl | exact .inr ⟨rfl, rfl⟩); (first | exact .inl rfl | exact .inr ⟨rfl, rfl⟩); exact Lk; exact rfl; (first | omega | (simp; omega)); (first | omega | (simp; omega)); intro vx hx; have HA := HA.add hx; clear hx); exact Dx)); exact inferInstance)
  (apply dw_cons; (focus ((intro B _ Lx c H HA; (repeat (first | (intro vx hx; have hx2 : vx = _ := hx; clear hx; subst hx2) | (intro vx hx; have HA := HA.addSF hx; clear hx) | (intro vx hx; have HA := HA.add hx; clear hx) | intro vx)); change W _ _ _ _ _ _ _); refine s_bslG (us := [(xs.drop 0).take (i - 0), (xs.drop (i + 1)).take (xs.length - (i + 1))]) rfl rfl rfl (EQs.cons (sl_cell Lk) (EQs.cons (sl_cell Lk) EQs.nil)) rfl rfl rfl rfl rfl H HA inferInstance ?_; intro vx c H HA; exact Dx)); exact inferInstance)
  (refine dw_done mixed H HA rfl (by kernel_rfl) ?_; clear H HA; intro c H HA; (repeat (first | (intro vx hx; have hx2 : vx = _ := hx; clear hx; subst hx2) | (intro vx hx; have HA := HA.addSF hx; clear hx) | (intro vx hx; have HA := HA.add hx; clear hx) | intro vx)); change W _ _ _ _ _ _ _)
  have e1 : ([(xs.drop 0).take (i - 0), (xs.drop (i + 1)).take (xs.length - (i + 1))] : List (List At0)).flatten = xs.take i ++ xs.drop (i + 1) := by
    rw [List.take_of_length_le (l := xs.drop (i + 1)) (by simp)]
    simp
  (refine s_callR rfl rfl H HA (Concat_At [(xs.drop 0).take (i - 0), (xs.drop (i + 1)).take (xs.length - (i + 1))] _ _ Lk (by rw [e1]; simp; omega)) ?_; intro vx valsx c H HA)
  rw [e1] at H HA
  (refine Z2 ?_; apply w_nil; apply wx_next; apply wc_ret)
  exact ret_fnO H hm (outs1 Tryz.results126 Wh) ⟨valsx, rfl, Lk⟩ inferInstance
theorem without_Ts (xs : List Ts) (i : Nat) (v : Value) (c : Cx) (h : Sl v xs c) (hi : i < xs.length) : CnO Tryz.prog 127 [v, .int .i64 i] c (RowP 79 7 (xs.take i ++ xs.drop (i + 1))) := by
  refine CnO.of Tryz.func127 Tryz.ntmps127 rfl rfl fun hm H HA => ?_
  have hlim := h.lim
  have HA := HA.add h
  (apply wc_seq; apply wc_region; refine Z2 ?_; apply w_nil; apply wx_next; apply wc_seq)
  (refine dw_start H HA ?_)
  (repeat (refine Dc ?_))
  (apply dw_cons; (focus ((intro B _ Lx c H HA; (repeat (first | (intro vx hx; have hx2 : vx = _ := hx; clear hx; subst hx2) | (intro vx hx; have HA := HA.addSF hx; clear hx) | (intro vx hx; have HA := HA.add hx; clear hx) | intro vx)); change W _ _ _ _ _ _ _); (apply s_slL (α := Ts) (lo := 0) (hi := i); exact rfl; exact rfl; (first | exact .inl rfl | exact .inr ⟨rfl, rfl⟩); (first | exact .inl rfl | exact .inr ⟨rfl, rfl⟩); exact Lk; exact rfl; (first | omega | (simp; omega)); (first | omega | (simp; omega)); intro vx hx; have HA := HA.add hx; clear hx); exact Dx)); exact inferInstance)
  (repeat (refine Dc ?_))
  (apply dw_cons; (focus ((intro B _ Lx c H HA; (repeat (first | (intro vx hx; have hx2 : vx = _ := hx; clear hx; subst hx2) | (intro vx hx; have HA := HA.addSF hx; clear hx) | (intro vx hx; have HA := HA.add hx; clear hx) | intro vx)); change W _ _ _ _ _ _ _); (apply s_slL (α := Ts) (lo := i + 1) (hi := xs.length); exact rfl; exact rfl; (first | exact .inl rfl | exact .inr ⟨rfl, rfl⟩); (first | exact .inl rfl | exact .inr ⟨rfl, rfl⟩); exact Lk; exact rfl; (first | omega | (simp; omega)); (first | omega | (simp; omega)); intro vx hx; have HA := HA.add hx; clear hx); exact Dx)); exact inferInstance)
  (apply dw_cons; (focus ((intro B _ Lx c H HA; (repeat (first | (intro vx hx; have hx2 : vx = _ := hx; clear hx; subst hx2) | (intro vx hx; have HA := HA.addSF hx; clear hx) | (intro vx hx; have HA := HA.add hx; clear hx) | intro vx)); change W _ _ _ _ _ _ _); refine s_bslG (us := [(xs.drop 0).take (i - 0), (xs.drop (i + 1)).take (xs.length - (i + 1))]) rfl rfl rfl (EQs.cons (sl_cell Lk) (EQs.cons (sl_cell Lk) EQs.nil)) rfl rfl rfl rfl rfl H HA inferInstance ?_; intro vx c H HA; exact Dx)); exact inferInstance)
  (refine dw_done mixed H HA rfl (by kernel_rfl) ?_; clear H HA; intro c H HA; (repeat (first | (intro vx hx; have hx2 : vx = _ := hx; clear hx; subst hx2) | (intro vx hx; have HA := HA.addSF hx; clear hx) | (intro vx hx; have HA := HA.add hx; clear hx) | intro vx)); change W _ _ _ _ _ _ _)
  have e1 : ([(xs.drop 0).take (i - 0), (xs.drop (i + 1)).take (xs.length - (i + 1))] : List (List Ts)).flatten = xs.take i ++ xs.drop (i + 1) := by
    rw [List.take_of_length_le (l := xs.drop (i + 1)) (by simp)]
    simp
  (refine s_callR rfl rfl H HA (Concat_Ts [(xs.drop 0).take (i - 0), (xs.drop (i + 1)).take (xs.length - (i + 1))] _ _ Lk (by rw [e1]; simp; omega)) ?_; intro vx valsx c H HA)
  rw [e1] at H HA
  (refine Z2 ?_; apply w_nil; apply wx_next; apply wc_ret)
  exact ret_fnO H hm (outs1 Tryz.results127 Wh) ⟨valsx, rfl, Lk⟩ inferInstance
end Go.Proofs.YthkdggoohpgnnaaGreatDoor
/- Contracts: a clause without one of its parts, of the program's own. -/
namespace Go.Proofs.YthkdggoohpgnnaaGreatDoor
open Go Go.Wk
theorem subsume_lessF (x : Cl) (i : Nat) (u : Value) (c : Cx) (base : Nat) (RF : List Res) (hRF : FrL base RF c) (hb0 : base ≤ c.w.heap.size) (h : Ag x u c) (hi : i < x.body.length + x.tests.length) : Cn Tryz.prog 84 [u, .int .i64 i] c (fun v c => ClF 23 26 79 base RF (less x i) v c) := by
  refine Cn.of Tryz.func84 Tryz.ntmps84 rfl rfl fun hm H HA => ?_
  have hlb : x.body.length < 1099511627776 := by obtain ⟨cs, rfl, v, v1, v2, rfl, h⟩ := h; exact h.2.1.lim
  have hlt : x.tests.length < 1099511627776 := by obtain ⟨cs, rfl, v, v1, v2, rfl, h⟩ := h; exact h.2.2.lim
  have HA := (HA.add h).add hRF
  (apply wc_seq; apply wc_region)
  (refine s_boxG rfl rfl Lk H HA ?_; intro p c H HA)
  (refine s_alloc rfl (by conv => lhs; whnf) H HA ?_; intro b4 c H HA)
  (apply w_nil; apply wx_next; apply wc_seq; apply wc_region; refine Z35 HA fun vx HA => ?_; refine Z39 HA fun vx HA => ?_; refine Z35 HA fun vx HA => ?_; refine Z37 HA fun vx HA => ?_; refine Z35 HA fun vx HA => ?_; refine Z37 HA fun vx HA => ?_)
  obtain ⟨cs1, rfl, w0, rfl, hw0⟩ := (Lk : Ag x.head _ _)
  have HA := HA.add hw0
  (refine Z54 ?_)
  (refine s_alloc rfl (by conv => lhs; whnf) H HA ?_; intro b5 c H HA)
  (focus (refine Z74 fun c H HA => ?_; apply w_nil; apply wx_next; apply wc_seq; apply wc_seq; apply wc_region; refine Z0 ?_; refine Z35 HA fun vx HA => ?_; refine Z37 HA fun vx HA => ?_; refine Z45 ?_; refine Z93 (fun hq => ?_) fun hq => ?_; apply w_nil; apply wx_next; refine Z18 ?_; apply wc_region; refine Z35 HA fun vx HA => ?_; refine Z37 HA fun vx HA => ?_; refine Z0 ?_; rotate_left; apply w_nil; apply wx_next; refine Z19 ?_; apply wc_region; refine Z35 HA fun vx HA => ?_; refine Z37 HA fun vx HA => ?_; refine Z0 ?_; refine Z35 HA fun vx HA => ?_; refine Z37 HA fun vx HA => ?_; refine Z45 ?_; refine Z50 ?_; rotate_left))
  · have hw : x.without i = ⟨x.head, x.body.take i ++ x.body.drop (i + 1), x.tests⟩ := by
      rw [Cl.without, if_pos (by omega), List.eraseIdx_eq_take_drop_succ]
    (refine s_call rfl rfl H HA ((without_At x.body i _ _ Lk (by omega)).cn rfl (by simp; omega)) ?_; intro vx c H HA)
    (refine Z3 ?_; refine Z75 fun c H HA => ?_; apply w_nil; apply wx_next; apply wc_seq; apply wc_region; refine Z42 ?_)
    (refine s_call rfl rfl H HA (clause_NormalF (x.without i) _ _ base RF Lk (Nat.le_trans hb0 H.ext.size) (by rw [hw]; exact ⟨_, rfl, w0, _, _, rfl, Lk, Lk, Lk⟩)) ?_; intro vx c H HA)
    obtain ⟨v, v1, v2, ws, rfl, _, h0, h1, h2, _⟩ := HA.h.1
    have HA := ((HA.add h0).add h1).add h2
    (refine Z76 fun c H HA => ?_; apply w_nil; apply wx_next; apply wc_ret)
    exact ret_fn H hm (outsR1 Tryz.results84 (RV.agg rfl H Ow Rc)) (Lk : ClF _ _ _ base RF (x.without i).normal _ _)
  · have hw : x.without i = ⟨x.head, x.body, x.tests.take (i - x.body.length) ++ x.tests.drop (i - x.body.length + 1)⟩ := by
      rw [Cl.without, if_neg (by omega), List.eraseIdx_eq_take_drop_succ]
    rw [show ((i : Int) - (x.body.length : Int)) = ((i - x.body.length : Nat) : Int) by omega]
    (refine s_call rfl rfl H HA ((without_Ts x.tests (i - x.body.length) _ _ Lk (by omega)).cn rfl (by simp; omega)) ?_; intro vx c H HA)
    (refine Z3 ?_; refine Z75 fun c H HA => ?_; apply w_nil; apply wx_next; apply wc_seq; apply wc_region; refine Z42 ?_)
    (refine s_call rfl rfl H HA (clause_NormalF (x.without i) _ _ base RF Lk (Nat.le_trans hb0 H.ext.size) (by rw [hw]; exact ⟨_, rfl, w0, _, _, rfl, Lk, Lk, Lk⟩)) ?_; intro vx c H HA)
    obtain ⟨v, v1, v2, ws, rfl, _, h0, h1, h2, _⟩ := HA.h.1
    have HA := ((HA.add h0).add h1).add h2
    (refine Z76 fun c H HA => ?_; apply w_nil; apply wx_next; apply wc_ret)
    exact ret_fn H hm (outsR1 Tryz.results84 (RV.agg rfl H Ow Rc)) (Lk : ClF _ _ _ base RF (x.without i).normal _ _)
end Go.Proofs.YthkdggoohpgnnaaGreatDoor
/- Contracts: the clauses reduced, of the program's own. -/
namespace Go.Wk
open Go
/-- .. in rows that none else has. -/
def MlF (eT eA eS eC : TypeId) (base : Nat) (R : List Res) (l : List Cl) (e : Int) (v : Value) (c : Cx) : Prop := ∃ v', v = .tuple #[v', .int .i64 e] ∧ ClsF eT eA eS eC base R l v' c
instance (eT eA eS eC : TypeId) (base : Nat) (R : List Res) (l : List Cl) (e : Int) (v : Value) : Mono (MlF eT eA eS eC base R l e v) := ⟨fun h ⟨v', x, k⟩ => ⟨v', x, Mono.mono h k⟩⟩
theorem MlF.ml {eT eA eS eC : TypeId} {base : Nat} {R : List Res} {l : List Cl} {e : Int} {v : Value} {c : Cx} (h : MlF eT eA eS eC base R l e v c) : Ml l e v c := by
  obtain ⟨v', x, D, _, k, _⟩ := h
  exact ⟨v', x, k⟩
theorem ClsF.nil {eT eA eS eC : TypeId} {base : Nat} {R : List Res} {c : Cx} (h : FrL base R c) : ClsF eT eA eS eC base R [] (.slice none 0 0) c :=
  ⟨[], rfl, Sl.nil c, (fun p hp => by cases hp), ⟨fun s hs => by
    rcases List.mem_cons.1 hs with rfl | hs
    · exact ⟨⟨by simp, .inl ⟨rfl, rfl⟩⟩, fun b hb => by cases hb⟩
    · exact h.1 s hs, List.pairwise_cons.2 ⟨fun s _ b hb => (by cases hb), h.2⟩⟩⟩
/-- What stands of a list of clauses, told by their rows. -/
def LsF (eT eA eS eC : TypeId) (base : Nat) (R : List Res) (D : List ClD) (v : Value) (c : Cx) : Prop := Sl v D c ∧ (∀ p ∈ D, p.ok c) ∧ FrL base (.row v eC 7 D.length (D.map ClD.cells).flatten :: (D.flatMap (ClD.rows eT eA eS) ++ R)) c
instance (eT eA eS eC : TypeId) (base : Nat) (R : List Res) (D : List ClD) (v : Value) : Mono (LsF eT eA eS eC base R D v) := ⟨fun h ⟨k, k2, k3⟩ => ⟨Mono.mono h k, fun p hp => Mono.mono h (k2 p hp), Mono.mono h k3⟩⟩
theorem slD_cl {D : List ClD} {v : Value} {c : Cx} (h : Sl v D c) : Sl v (D.map ClD.x) c := by
  obtain ⟨h0, ad, cap, e, hc, hne⟩ := h
  refine ⟨by simpa using h0, ad, cap, by simpa using e, by simpa using hc, fun hx => ?_⟩
  obtain ⟨b, o, e2, hel⟩ := hne (fun h => hx (by rw [h]; rfl))
  refine ⟨b, o, e2, fun i x hi => ?_⟩
  rw [List.getElem?_map, Option.map_eq_some_iff] at hi
  obtain ⟨p, hp, rfl⟩ := hi
  obtain ⟨cs, ⟨rfl, k⟩, h2⟩ := hel i p hp
  exact ⟨_, k, h2⟩
theorem LsF.cls {eT eA eS eC : TypeId} {base : Nat} {R : List Res} {D : List ClD} {v : Value} {c : Cx} (h : LsF eT eA eS eC base R D v c) : ClsF eT eA eS eC base R (D.map ClD.x) v c :=
  ⟨D, rfl, slD_cl h.1, h.2.1, by rw [List.length_map]; exact h.2.2⟩
theorem ClsF.ls {eT eA eS eC : TypeId} {base : Nat} {R : List Res} {xs : List Cl} {v : Value} {c : Cx} (h : ClsF eT eA eS eC base R xs v c) : ∃ D, D.map ClD.x = xs ∧ LsF eT eA eS eC base R D v c := by
  obtain ⟨D, e, k, k2, k3⟩ := h
  have hl : xs.length = D.length := by rw [← e]; simp
  rw [hl] at k3
  exact ⟨D, e, FrL.slD k3 k2 (by rw [← hl]; exact k.1), k2, k3⟩
end Go.Wk
namespace Go.Proofs.YthkdggoohpgnnaaGreatDoor
open Go Go.Wk
theorem subsume_ReduceF (cs : List Cl) (v : Value) (c : Cx) (base : Nat) (RF : List Res) (hRF : FrL base RF c) (hb0 : base ≤ c.w.heap.size) (h : Sl v cs c) (hf : ∀ x ∈ cs, x.fit) (hg : GlobOk c) : Cn Tryz.prog 18 [v] c (fun r c => MlF 23 26 79 30 base RF (reduceC cs).1 (reduceC cs).2 r c) := by
  refine Cn.of Tryz.func18 Tryz.ntmps18 rfl rfl fun hm H HA => ?_
  have hlim := h.lim
  have HA := ((HA.add h).add hg).add hRF
  have hsl := setU_length (f := cmpCl) cs
  have hmem : ∀ x ∈ setU cmpCl cs, x.fit := fun x hx => hf x (mem_setU' hx)
  (apply wc_seq; apply wc_region; refine Z2 ?_; refine Z2 ?_; apply w_nil; apply wx_next; apply wc_seq; apply wc_region; refine Z0 ?_)
  (refine s_call rfl rfl H HA (clause_SetF cs _ _ base RF Lk hb0 Lk (fun x hx => (hf x hx).1)) ?_; intro vx c H HA)
  obtain ⟨Ds, hDs, hls⟩ := ClsF.ls HA.h.1
  have HA := (HA.cut.add hls).add hls.1
  generalize hS : setU cmpCl cs = s at hDs hsl hmem
  have hsD : s.length = Ds.length := by rw [← hDs]; simp
  have hxs : ∀ {k : Nat} {p : ClD}, Ds[k]? = some p → s[k]? = some p.x := fun {k p} hp => by rw [← hDs, List.getElem?_map, hp]; rfl
  (obtain ⟨vs, rfl⟩ : ∃ x, x = vx := ⟨_, rfl⟩)
  (refine Z2 ?_; apply w_nil; apply wx_next; apply wc_seq; apply wc_seq; apply wc_region; refine Z0 ?_; refine Z45 ?_; refine Z0 ?_; apply w_nil; apply wx_next; apply wc_block)
  refine wc_loopN Ds.length (fun k => [(4, vs), (14, vs), (15, .int .i64 Ds.length), (16, .int .i64 k)]) (fun k => firstBad s = orI ((s.drop k).map Cl.check)) 0 H HA Ks (Nat.zero_le _) rfl ?_
  intro k g c hk hp H HA
  (focus (apply wc_seq; apply wc_region; refine Z93 (fun hq => ?_) fun hq => ?_; apply w_nil; apply wx_next; apply wc_seq; refine Z18 ?_; apply wc_skip; apply wx_next; apply wc_seq; apply wc_block; apply wc_seq; apply wc_region; rotate_left; apply w_nil; apply wx_next; apply wc_seq; refine Z19 ?_; apply wc_exit; apply wx_exit_then; apply wx_exit_then; apply wx_exit_same; apply wx_next; apply wc_seq; apply wc_seq; apply wc_region; refine Z0 ?_; refine Z45 ?_; refine Z50 ?_; refine Z2 ?_; apply w_nil; apply wx_next; apply wc_block; rotate_left))
  · obtain ⟨p, hp0⟩ := getq (xs := Ds) (k := k) (by omega)
    have hx := hxs hp0
    obtain ⟨x, hpx⟩ : ∃ x, p.x = x := ⟨_, rfl⟩
    rw [hpx] at hx
    (refine Z34 HA fun vx HA => ?_; refine Z39 HA fun vx HA => ?_; refine Z61 fun bx c H HA => ?_)
    (refine s_storeG (α := ClD) rfl rfl Lk rfl rfl H HA ?_; intro c H HA)
    (apply w_nil; apply wx_next; apply wc_seq; apply wc_region; refine Z39 HA fun vx HA => ?_)
    (refine s_call rfl rfl H HA (clause_Check x _ _ (hpx ▸ Ag.clD (Lk : Ag p _ _)) (hmem x (List.mem_of_getElem? hx)) Lk) ?_; intro vx c H HP; have hvx := HP.h.1; have HA := HP.cut; subst hvx)
    by_cases he : x.check = 0
    · (refine Z2 ?_; apply w_nil; apply wx_next; apply wc_seq; apply wc_region; refine Z0 ?_; refine Z82 ?_; apply w_nil; apply wx_next; refine Z19 ?_; apply wc_skip; apply wx_norm_block; apply wx_next; apply wc_region; refine Z46 ?_; refine Z0 ?_; apply w_nil)
      exact wx_loopN (k + 1) H Cu Ks (by omega) (by rw [hp, orI_get hx, if_pos he])
    · (refine Z2 ?_; apply w_nil; apply wx_next; apply wc_seq; apply wc_region; refine Z0 ?_; refine Z82 ?_; apply w_nil; apply wx_next; refine Z18 ?_; apply wc_seq; apply wc_region; refine Z0 ?_; refine Z2 ?_; refine Z2 ?_; apply w_nil; apply wx_next; apply wc_ret; apply wx_ret_block; apply wx_ret_then; apply wx_ret_then; apply wx_ret_block; apply wx_ret_then)
      have hfb : firstBad s = x.check := by rw [hp, orI_get hx, if_neg he]
      exact ret_fn H hm (outs2 Tryz.results18 Wh Wh) (by
        have : reduceC cs = ([], firstBad s) := by simp only [reduceC, hS]; rw [if_pos (by rw [hfb]; exact he)]
        rw [this, hfb]
        exact ⟨_, rfl, ClsF.nil Lk⟩)
  · have hfb : firstBad s = 0 := by rw [hp, List.drop_eq_nil_of_le (by omega)]; rfl
    have hrd : reduceC cs = (reduceGo s s.length, 0) := by simp only [reduceC, hS]; rw [if_neg (by simpa using hfb)]
    clear hp hk
    refine wc_loopG (σ := Nat × List ClD × Value) (fun s => s.1) (fun s => [(4, s.2.2), (8, .int .i64 ((s.1 : Int) - 1))]) (fun y => y.1 ≤ y.2.1.length ∧ y.2.1.length ≤ s.length ∧ (∀ x ∈ y.2.1.map ClD.x, x.fit) ∧ reduceGo (y.2.1.map ClD.x) y.1 = reduceGo s s.length) (fun _ => []) (fun s c => LsF 23 26 79 30 base RF s.2.1 s.2.2 c) (Ds.length, Ds, vs) H HA Lk Ks ⟨Nat.le_refl _, (by dsimp only; omega), (by dsimp only; rw [hDs]; exact hmem), (by dsimp only; rw [hDs, hsD])⟩ ?_
    intro y g c hp H HA
    obtain ⟨j, D, vl⟩ := y
    obtain ⟨hj, hlS, hlf, hgo⟩ := hp
    dsimp only at hj hlS hlf hgo H HA ⊢
    have HA := HA.add HA.h.1.1
    obtain ⟨l, hlD⟩ : ∃ l, D.map ClD.x = l := ⟨_, rfl⟩
    have hll : D.length = l.length := by rw [← hlD]; simp
    have hxl : ∀ {k : Nat} {p : ClD}, D[k]? = some p → l[k]? = some p.x := fun {k p} hp => by rw [← hlD, List.getElem?_map, hp]; rfl
    rw [hlD] at hlf hgo
    cases j with
    | zero =>
      have hn : ¬ (0 : Int) ≤ ((0 : Nat) : Int) - 1 := by omega
      (apply wc_seq; apply wc_seq; apply wc_region; refine Z0 ?_; refine Z85 ?_; apply w_nil; apply wx_next; refine Z19 ?_; apply wc_exit; apply wx_exit_then; apply wx_exit_then; apply wx_exit_same; apply wx_next; apply wc_seq; apply wc_region; refine Z0 ?_; refine Z2 ?_; refine Z2 ?_; apply w_nil; apply wx_next; apply wc_ret)
      exact ret_fn H hm (outs2 Tryz.results18 Wh Wh) ⟨vl, by rw [hrd], by rw [hrd, ← hgo, ← hlD]; exact LsF.cls (Lk : LsF 23 26 79 30 base RF D vl _)⟩
    | succ i =>
      have hn : (0 : Int) ≤ (i : Int) := by omega
      have ei : ((i + 1 : Nat) : Int) - 1 = (i : Int) := by omega
      rw [ei]
      obtain ⟨pd, hpd⟩ := getq (xs := D) (k := i) (by omega)
      have hd := hxl hpd
      obtain ⟨d, hdx⟩ : ∃ x, pd.x = x := ⟨_, rfl⟩
      rw [hdx] at hd
      (apply wc_seq; apply wc_seq; apply wc_region; refine Z0 ?_; refine Z85 ?_; apply w_nil; apply wx_next; refine Z18 ?_; apply wc_skip; apply wx_next; apply wc_seq; apply wc_block; apply wc_seq; apply wc_region; refine Z0 ?_; refine Z45 ?_; refine Z0 ?_; apply w_nil; apply wx_next; apply wc_block)
      refine wc_loopN D.length (fun k => [(4, vl), (8, .int .i64 i), (34, .int .i64 D.length), (35, .int .i64 k)]) (fun k => ∀ k' < k, goesAt l i k' = false) 0 H HA Ks (Nat.zero_le _) (fun k' h => by omega) ?_
      intro k g c hk hno H HA
      (focus (apply wc_seq; apply wc_region; refine Z93 (fun hq => ?_) fun hq => ?_; apply w_nil; apply wx_next; apply wc_seq; refine Z18 ?_; apply wc_skip; apply wx_next; apply wc_seq; apply wc_block; apply wc_seq; apply wc_region; refine Z0 ?_; refine Z2 ?_; apply w_nil; apply wx_next; apply wc_seq; apply wc_seq; apply wc_region; refine Z0 ?_; refine Z0 ?_; refine Z92 (fun hq => ?_) fun hq => ?_; apply w_nil; apply wx_next; refine Z18 ?_; apply wc_exit; apply wx_exit_then; apply wx_exit_same; apply wx_next; apply wc_region; refine Z46 ?_; refine Z0 ?_; apply w_nil; rotate_left; apply w_nil; apply wx_next; refine Z19 ?_; apply wc_skip; apply wx_next; apply wc_seq; rotate_left; apply w_nil; apply wx_next; apply wc_seq; refine Z19 ?_; apply wc_exit; apply wx_exit_then; apply wx_exit_then; apply wx_exit_same; apply wx_norm_block; apply wx_next; apply wc_region; refine Z0 ?_; refine Z50 ?_; refine Z2 ?_; apply w_nil; rotate_left))
      · exact wx_loopN (k + 1) H Cu Ks (by omega) (fun k' hk' => by
          by_cases e : k' = k
          · subst e
            have hki : k' = i := by omega
            simp [goesAt, hki]
          · exact hno k' (by omega))
      · obtain ⟨px, hpx⟩ := getq (xs := D) (k := k) (by omega)
        have hx := hxl hpx
        obtain ⟨x, hxx⟩ : ∃ x, px.x = x := ⟨_, rfl⟩
        rw [hxx] at hx
        have hga := goesAt_get hx hd
        have hki : k ≠ i := by omega
        (refine dw_start H HA ?_)
        (repeat (refine Dc ?_))
        (apply dw_cons; (focus ((intro B _ Lx c H HA; (repeat (first | (intro vx hx; have hx2 : vx = _ := hx; clear hx; subst hx2) | (intro vx hx; have HA := HA.addSF hx; clear hx) | (intro vx hx; have HA := HA.add hx; clear hx) | intro vx)); change W _ _ _ _ _ _ _); refine s_call rfl rfl H HA (subsume_Subsumes x d _ _ _ (hxx ▸ Ag.clD (Lk : Ag px _ _)) (hdx ▸ Ag.clD (Lk : Ag pd _ _)) (hlf x (List.mem_of_getElem? hx)) (hlf d (List.mem_of_getElem? hd)) Lk) ?_; intro vx c H HP; exact w_nil (pq_rel H (Cp) HP.h.1))); exact inferInstance)
        (apply dw_cons; (focus ((intro B _ Lx c H HA; (repeat (first | (intro vx hx; have hx2 : vx = _ := hx; clear hx; subst hx2) | (intro vx hx; have HA := HA.addSF hx; clear hx) | (intro vx hx; have HA := HA.add hx; clear hx) | intro vx)); change W _ _ _ _ _ _ _); (apply s_move; exact rfl; (conv => lhs; whnf)); exact w_nil (pq_rel (S := Mo (subs x d)) H (Cu) Lk))); exact inferInstance)
        (apply dw_cons; (focus ((intro B _ Lx c H HA; (repeat (first | (intro vx hx; have hx2 : vx = _ := hx; clear hx; subst hx2) | (intro vx hx; have HA := HA.addSF hx; clear hx) | (intro vx hx; have HA := HA.add hx; clear hx) | intro vx)); change W _ _ _ _ _ _ _); (obtain ⟨vm, hr, hSm⟩ := HA.h.1; subst hr; have HA := HA.cut.add hSm); (apply s_extract; exact rfl; exact rfl; exact rfl); exact Dx)); exact inferInstance)
        (apply dw_cons; (focus ((intro B _ Lx c H HA; (repeat (first | (intro vx hx; have hx2 : vx = _ := hx; clear hx; subst hx2) | (intro vx hx; have HA := HA.addSF hx; clear hx) | (intro vx hx; have HA := HA.add hx; clear hx) | intro vx)); change W _ _ _ _ _ _ _); (obtain ⟨vm, hr, hSm⟩ := HA.h.1; subst hr; have HA := HA.cut.add hSm); (apply s_extract; exact rfl; exact rfl; exact rfl); exact Dx)); exact inferInstance)
        (repeat (refine Dc ?_))
        (refine dw_done mixed H HA rfl (by kernel_rfl) ?_; clear H HA; intro c H HA; (repeat (first | (intro vx hx; have hx2 : vx = _ := hx; clear hx; subst hx2) | (intro vx hx; have HA := HA.addSF hx; clear hx) | (intro vx hx; have HA := HA.add hx; clear hx) | intro vx)); change W _ _ _ _ _ _ _)
        generalize (subs x d) = r at *
        cases r with
        | none =>
          dsimp only [Option.isSome]
          (apply w_nil; apply wx_next; apply wc_seq; apply wc_region; refine Z0 ?_; apply w_nil; apply wx_next; refine Z19 ?_; apply wc_skip; apply wx_norm_block; apply wx_next; apply wc_region; refine Z46 ?_; refine Z0 ?_; apply w_nil)
          exact wx_loopN (k + 1) H Cu Ks (by omega) (fun k' hk' => by
            by_cases e : k' = k
            · subst e; rw [hga]; simp
            · exact hno k' (by omega))
        | some r =>
          dsimp only [Option.isSome]
          (apply w_nil; apply wx_next; apply wc_seq; apply wc_region; refine Z0 ?_; apply w_nil; apply wx_next; refine Z18 ?_; apply wc_seq; apply wc_region; refine Z0 ?_; refine Z0 ?_)
          have hgb := goesB_yes (l := l) (i := i) (k := k) (by omega) (by rw [hga]; simp [hki])
          (refine s_callR rfl rfl H HA (without_CD D i _ _ Lk (by omega)) ?_; intro vx valsx c H HA)
          rw [← erase_eq] at H HA
          have hvv := vals_clD HA.h.1
          subst hvv
          have hLs := (Lk : LsF 23 26 79 30 base RF D vl c)
          have hfr : FrL base ((D.eraseIdx i).flatMap (ClD.rows 23 26 79) ++ RF) c := (hLs.2.2.sub (List.sublist_cons_self _ _)).sub ((sub_flatMap _ (List.eraseIdx_sublist D i)).append (List.Sublist.refl _))
          have hok : ∀ p ∈ D.eraseIdx i, p.ok c := fun p hp => hLs.2.1 p (List.mem_of_mem_eraseIdx hp)
          have hle : (D.eraseIdx i).length + 1 = D.length := by rw [List.length_eraseIdx]; split <;> omega
          have HA := HA.add (show DsF 23 26 79 base RF (D.eraseIdx i) c from ⟨hfr, hok⟩)
          (refine w_freezeF H HA hfr hb0 (ok_vals hok) rfl rfl Lt ?_; intro c H HA)
          have hLn : LsF 23 26 79 30 base RF (D.eraseIdx i) vx c := ⟨HA.h.1, HA.h.2.2.1.2, HA.h.2.1⟩
          have HA := HA.add hLn
          have he : (D.eraseIdx i).map ClD.x = l.eraseIdx i := by rw [← hlD, map_eraseIdx']
          (refine Z2 ?_; apply w_nil; apply wx_next; apply wc_exit; refine Z27 ?_; apply wx_exit_then; apply wx_exit_then; apply wx_exit_same; apply wx_norm_block; apply wx_next; apply wc_region; refine Z0 ?_; refine Z50 ?_; refine Z2 ?_; apply w_nil)
          exact wx_loopG ((i, D.eraseIdx i, vx)) H Cu Lk Ks (by dsimp only; omega) ⟨by dsimp only; omega, by dsimp only; omega, (by dsimp only; rw [he]; exact fun x hx => hlf x (List.mem_of_mem_eraseIdx hx)), by
            dsimp only
            rw [he, ← hgo, reduceGo, if_pos hgb]⟩
      · have hgn := goesB_no (l := l) (i := i) (fun k' h => hno k' (by omega))
        exact wx_loopG ((i, D, vl)) H Cu Lk Ks (by dsimp only; omega) ⟨by dsimp only; omega, hlS, (by dsimp only; rw [hlD]; exact hlf), by
          dsimp only
          rw [hlD, ← hgo, reduceGo, if_neg (by simp [hgn])]⟩
theorem subsume_Reduce (cs : List Cl) (v : Value) (c : Cx) (h : Sl v cs c) (hf : ∀ x ∈ cs, x.fit) (hg : GlobOk c) : Cn Tryz.prog 18 [v] c (fun r c => Ml (reduceC cs).1 (reduceC cs).2 r c) :=
  Cn.imp (subsume_ReduceF cs v c 0 [] (FrL.nil 0 c) (Nat.zero_le _) h hf hg) fun _ _ _ h => h.ml
end Go.Proofs.YthkdggoohpgnnaaGreatDoor
/- Contracts: a clause condensed, of the program's own. -/
namespace Go.Wk
open Go
def zCl : Cl := ⟨⟨Tn, ES, []⟩, [], []⟩
/-- A clause, and an error. -/
def Mcc (y : Cl) (e : Int) (v : Value) (c : Cx) : Prop := ∃ u, v = .tuple #[u, .int .i64 e] ∧ Ag y u c
instance (y : Cl) (e : Int) (v : Value) : Mono (Mcc y e v) := ⟨fun h ⟨u, x, k⟩ => ⟨u, x, Mono.mono h k⟩⟩
/-- .. in rows that none else has. -/
def MccF (eT eA eS : TypeId) (base : Nat) (R : List Res) (y : Cl) (e : Int) (v : Value) (c : Cx) : Prop := ∃ u, v = .tuple #[u, .int .i64 e] ∧ ClF eT eA eS base R y u c
instance (eT eA eS : TypeId) (base : Nat) (R : List Res) (y : Cl) (e : Int) (v : Value) : Mono (MccF eT eA eS base R y e v) := ⟨fun h ⟨u, x, k⟩ => ⟨u, x, Mono.mono h k⟩⟩
theorem FrL.nilRow {base : Nat} {R : List Res} {c : Cx} {e : TypeId} {kk : Nat} (h : FrL base R c) : FrL base (.row (.slice none 0 0) e kk 0 [] :: R) c :=
  ⟨fun s hs => by
    rcases List.mem_cons.1 hs with rfl | hs
    · exact ⟨⟨by simp, .inl ⟨rfl, rfl⟩⟩, fun b hb => by cases hb⟩
    · exact h.1 s hs, List.pairwise_cons.2 ⟨fun s _ b hb => (by cases hb), h.2⟩⟩
theorem ClF.zero {eT eA eS : TypeId} {base : Nat} {R : List Res} {c : Cx} (h : FrL base R c) : ClF eT eA eS base R zCl (.agg (Cl.cs zCl (.slice none 0 0) (.slice none 0 0) (.slice none 0 0)).toArray) c :=
  ⟨_, _, _, [], rfl, rfl, Sl.nil c, Sl.nil c, Sl.nil c, Vals.nil c, (h.nilRow.nilRow.nilRow : FrL base (.row _ eS 7 0 [] :: .row _ eA 5 0 [] :: .row _ eT 3 0 [] :: R) c)⟩
/-- .. with its slices. -/
def CtF (eT eA eS : TypeId) (base : Nat) (R : List Res) (y : Cl) (a a1 a2 : Value) (c : Cx) : Prop := ClAt y a a1 a2 c ∧ ClF eT eA eS base R y (.agg (Cl.cs y a a1 a2).toArray) c
instance (eT eA eS : TypeId) (base : Nat) (R : List Res) (y : Cl) (a a1 a2 : Value) : Mono (CtF eT eA eS base R y a a1 a2) := ⟨fun h k => ⟨Mono.mono h k.1, Mono.mono h k.2⟩⟩
theorem less_parts {x : Cl} {p : Nat} (h : p < x.parts) : (less x p).parts = x.parts - 1 := by rw [less, normal_parts, without_parts h]
theorem Cl.Ok.fit {x : Cl} (h : x.Ok) : x.fit := ⟨h.sm, by have := h.terms_len; omega⟩
theorem less_fit {x : Cl} (h : x.Ok) (p : Nat) : (less x p).fit := ⟨less_sm h.sm p, by have := h.terms_len; have := less_len x p; omega⟩
theorem subs_ok {x d : Cl} (h : (subs x d).isSome = true) : d.Ok := by
  refine Cl.check_ok.1 (Classical.byContradiction fun hd => ?_)
  rw [subs_bad (.inr hd)] at h
  cases h
def condE (x : Cl) : Cl := if x.check = 0 then condC x else zCl
end Go.Wk
namespace Go.Proofs.YthkdggoohpgnnaaGreatDoor
open Go Go.Wk
theorem subsume_CondenseF (x : Cl) (u : Value) (c : Cx) (base : Nat) (RF : List Res) (hRF : FrL base RF c) (hb0 : base ≤ c.w.heap.size) (h : Ag x u c) (hf : x.fit) (hg : GlobOk c) : Cn Tryz.prog 34 [u] c (fun r c => MccF 23 26 79 base RF (condE x) x.check r c) := by
  obtain ⟨cs, rfl, v, v1, v2, rfl, h0, h1, h2⟩ := h
  refine Cn.of Tryz.func34 Tryz.ntmps34 rfl rfl fun hm H HA => ?_
  have HA := ((((HA.add h0).add h1).add h2).add hg).add hRF
  (apply wc_seq; apply wc_region)
  (refine s_boxO (cs := Cl.cs x v v1 v2) rfl rfl H HA ?_; intro b1 c H HA)
  (refine s_alloc rfl (by conv => lhs; whnf) H HA ?_; intro b2 c H HA)
  (refine Z2 ?_; apply w_nil; apply wx_next; apply wc_seq; apply wc_seq; apply wc_region; refine Z42 ?_)
  (refine s_call rfl rfl H HA (clause_Check x _ _ ⟨_, rfl, v, v1, v2, rfl, Lk, Lk, Lk⟩ hf Lk) ?_; intro vx c H HP; have hvx := HP.h.1; have HA := HP.cut; subst hvx)
  by_cases hc : ¬ x.check = 0
  · (refine Z2 ?_; apply w_nil; apply wx_next; apply wc_seq; apply wc_region; refine Z0 ?_; refine Z82 ?_; apply w_nil; apply wx_next; refine Z18 ?_; apply wc_seq; apply wc_region; refine Z54 ?_; refine Z0 ?_; refine Z74 fun c H HA => ?_; refine Z2 ?_; apply w_nil; apply wx_next; apply wc_ret; apply wx_ret_then)
    exact ret_fn H hm (outsR2 Tryz.results34 (RV.agg rfl H Ow Rc) (RV.tmp Wh)) ⟨_, rfl, by rw [condE, if_neg hc]; exact ClF.zero Lk⟩
  have hc := Classical.not_not.1 hc
  have ho := Cl.check_ok.1 hc
  (refine Z2 ?_; apply w_nil; apply wx_next; apply wc_seq; apply wc_region; refine Z0 ?_; refine Z82 ?_; apply w_nil; apply wx_next; refine Z19 ?_; apply wc_skip; apply wx_next; apply wc_seq; apply wc_region; refine Z42 ?_)
  (refine s_call rfl rfl H HA (clause_NormalF x _ _ base RF Lk (Nat.le_trans hb0 H.ext.size) ⟨_, rfl, v, v1, v2, rfl, Lk, Lk, Lk⟩) ?_; intro vx c H HA)
  rw [Ok_normal ho] at HA
  obtain ⟨q, q1, q2, ws, rfl, _, h3, h4, h5, _⟩ := HA.h.1
  have HA := ((HA.add h3).add h4).add h5
  (refine Z76 fun c H HA => ?_; apply w_nil; apply wx_next; apply wc_seq; apply wc_seq; apply wc_region; refine Z2 ?_; apply w_nil; apply wx_next; apply wc_block)
  refine wc_loopG (σ := Cl × (Value × Value × Value) × Bool × Nat) (fun y => if y.2.2.1 then y.2.2.2 else 0) (fun y => [(1, .pointer (some ⟨b1, 0, none⟩)), (2, .pointer (some ⟨b2, 0, none⟩)), (5, .bool y.2.2.1)]) (fun y => y.1.Ok ∧ (y.2.2.1 = true → condN y.2.2.2 y.1 = condC x ∧ y.1.parts < y.2.2.2) ∧ (y.2.2.1 = false → y.1 = condC x))
    (fun y => [.obj b1 (.cells (Cl.cs y.1 y.2.1.1 y.2.1.2.1 y.2.1.2.2).toArray 30 (0, 0)), .obj b2 (.cells (Cl.cs ⟨⟨Tn, ES, []⟩, [], []⟩ (.slice none 0 0) (.slice none 0 0) (.slice none 0 0)).toArray 30 (0, 0))]) (fun y c => CtF 23 26 79 base RF y.1 y.2.1.1 y.2.1.2.1 y.2.1.2.2 c) (x, (q, q1, q2), true, x.parts + 1) H HA ⟨⟨Lk, Lk, Lk⟩, Lk⟩ Ks ⟨ho, (fun _ => ⟨(condC_eq ho).symm, Nat.lt_succ_self _⟩), fun h => by cases h⟩ ?_
  intro y g c hp H HA
  obtain ⟨y, ⟨a, a1, a2⟩, ag, n⟩ := y
  obtain ⟨hyo, hy1, hy2⟩ := hp
  dsimp only at hyo hy1 hy2 H HA ⊢
  have HA := (((HA.cut.add HA.h.1.2).add HA.h.1.1.1).add HA.h.1.1.2.1).add HA.h.1.1.2.2
  cases ag
  · (apply wc_seq; apply wc_seq; apply wc_region; refine Z0 ?_; apply w_nil; apply wx_next; refine Z19 ?_; apply wc_exit; apply wx_exit_then; apply wx_exit_then; apply wx_exit_same; apply wx_next; apply wc_seq; apply wc_region; refine Z42 ?_; refine Z76 fun c H HA => ?_; refine Z2 ?_; apply w_nil; apply wx_next; apply wc_ret)
    exact ret_fn H hm (outsR2 Tryz.results34 (RV.agg rfl H Ow Rc) (RV.tmp Wh)) ⟨_, by rw [hc], by rw [condE, if_pos hc, ← hy2 rfl]; exact Lk⟩
  · obtain ⟨hcn, hpn⟩ := hy1 rfl
    obtain ⟨n, rfl⟩ : ∃ k, n = k + 1 := ⟨n - 1, by omega⟩
    have hb8 := hyo.b8
    have ht8 := hyo.t8
    (apply wc_seq; apply wc_seq; apply wc_region; refine Z0 ?_; apply w_nil; apply wx_next; refine Z18 ?_; apply wc_skip; apply wx_next; apply wc_block; apply wc_seq; apply wc_region; refine Z2 ?_; apply w_nil; apply wx_next; apply wc_seq; apply wc_region; refine Z3 ?_; refine Z41 ?_; refine Z45 ?_; refine Z3 ?_; refine Z41 ?_; refine Z45 ?_; refine Z48 ?_; refine Z50 ?_; refine Z2 ?_; apply w_nil; apply wx_next; apply wc_block)
    rw [show (y.body.length : Int) + (y.tests.length : Int) - 1 = ((y.parts : Nat) : Int) - 1 by simp [Cl.parts]]
    refine wc_loopG (σ := Nat × Cl × (Value × Value × Value) × Bool) (fun s => s.1) (fun s => [(1, .pointer (some ⟨b1, 0, none⟩)), (2, .pointer (some ⟨b2, 0, none⟩)), (5, .bool s.2.2.2), (6, .int .i64 ((s.1 : Int) - 1))]) (fun s => s.1 ≤ s.2.1.parts ∧ s.2.1.Ok ∧ (s.2.2.2 = false → s.2.1 = y) ∧ (s.2.2.2 = true → s.2.1.parts < y.parts) ∧ passN y y.parts = if s.2.2.2 then ((passN s.2.1 s.1).1, true) else passN s.2.1 s.1)
      (fun s => [.obj b1 (.cells (Cl.cs s.2.1 s.2.2.1.1 s.2.2.1.2.1 s.2.2.1.2.2).toArray 30 (0, 0)), .obj b2 (.cells (Cl.cs ⟨⟨Tn, ES, []⟩, [], []⟩ (.slice none 0 0) (.slice none 0 0) (.slice none 0 0)).toArray 30 (0, 0))]) (fun s c => CtF 23 26 79 base RF s.2.1 s.2.2.1.1 s.2.2.1.2.1 s.2.2.1.2.2 c) (y.parts, y, (a, a1, a2), false) H HA ⟨⟨Lk, Lk, Lk⟩, Lk⟩ Ks ⟨Nat.le_refl _, hyo, fun _ => rfl, (fun h => by cases h), rfl⟩ ?_
    intro s g c hp H HA
    obtain ⟨j, z, ⟨d, d1, d2⟩, ag⟩ := s
    obtain ⟨hj, hzo, hz1, hz2, hps⟩ := hp
    dsimp only at hj hzo hz1 hz2 hps H HA ⊢
    have HA := (((HA.cut.add HA.h.1.2).add HA.h.1.1.1).add HA.h.1.1.2.1).add HA.h.1.1.2.2
    cases j with
    | zero =>
      have hn : ¬ (0 : Int) ≤ ((0 : Nat) : Int) - 1 := by omega
      (apply wc_seq; apply wc_seq; apply wc_region; refine Z0 ?_; refine Z85 ?_; apply w_nil; apply wx_next; refine Z19 ?_; apply wc_exit; apply wx_exit_then; apply wx_exit_then; apply wx_exit_same; apply wx_norm_block)
      cases ag
      · exact wx_loopG ((z, (d, d1, d2), false, 0)) H Cu ⟨⟨Lk, Lk, Lk⟩, Lk⟩ Ks (by simp) ⟨hzo, (fun h => by cases h), fun _ => by
          rw [condN, hps] at hcn
          simp [passN] at hcn
          exact hcn⟩
      · exact wx_loopG ((z, (d, d1, d2), true, n)) H Cu ⟨⟨Lk, Lk, Lk⟩, Lk⟩ Ks (by simp) ⟨hzo, (fun _ => ⟨by
          rw [condN, hps] at hcn
          simp [passN] at hcn
          exact hcn, by have := hz2 rfl; dsimp only; omega⟩), fun h => by cases h⟩
    | succ i =>
      have hn : (0 : Int) ≤ (i : Int) := by omega
      have ei : ((i + 1 : Nat) : Int) - 1 = (i : Int) := by omega
      rw [ei]
      (apply wc_seq; apply wc_seq; apply wc_region; refine Z0 ?_; refine Z85 ?_; apply w_nil; apply wx_next; refine Z18 ?_; apply wc_skip; apply wx_next; apply wc_seq; apply wc_block; apply wc_seq; apply wc_region; refine Z42 ?_; refine Z0 ?_)
      (refine s_call rfl rfl H HA (subsume_lessF z i _ _ base RF Lk (Nat.le_trans hb0 H.ext.size) ⟨_, rfl, d, d1, d2, rfl, Lk, Lk, Lk⟩ hj) ?_; intro vx c H HA)
      obtain ⟨e, e1, e2, ws, rfl, _, k0, k1, k2, _⟩ := HA.h.1
      have HA := ((HA.add k0).add k1).add k2
      (refine Z61 fun bx c H HA => ?_; refine Z74 fun c H HA => ?_; apply w_nil; apply wx_next; apply wc_seq; apply wc_region; refine Z42 ?_; refine Z42 ?_)
      (refine s_call rfl rfl H HA (subsume_Subsumes z (less z i) _ _ _ ⟨_, rfl, d, d1, d2, rfl, Lk, Lk, Lk⟩ ⟨_, rfl, e, e1, e2, rfl, Lk, Lk, Lk⟩ hzo.fit (less_fit hzo i) Lk) ?_; intro vx c H HA)
      obtain ⟨vm, hr, hSm⟩ := HA.h.1
      subst hr
      have HA := HA.cut.add hSm
      have hzb := hzo.b8
      have hzt := hzo.t8
      have hp16 : z.parts ≤ 16 := by simp only [Cl.parts]; omega
      have hlp := less_parts (x := z) (p := i) (by omega)
      cases hs : (subs z (less z i)).isSome
      · (refine Z0 ?_; refine Z32 ?_; refine Z32 ?_; refine Z2 ?_; refine Z2 ?_; apply w_nil; apply wx_next; apply wc_seq; apply wc_region; refine Z0 ?_; apply w_nil; apply wx_next; refine Z19 ?_; apply wc_skip; apply wx_norm_block; apply wx_next; apply wc_region; refine Z0 ?_; refine Z50 ?_; refine Z2 ?_; apply w_nil)
        exact wx_loopG ((i, z, (d, d1, d2), ag)) H.drop Cu ⟨⟨Lk, Lk, Lk⟩, Lk⟩ Ks (by simp) ⟨by dsimp only; omega, hzo, hz1, hz2, by
          dsimp only
          rw [hps]
          simp [passN, hs]⟩
      · (refine Z0 ?_; refine Z32 ?_; refine Z32 ?_; refine Z2 ?_; refine Z2 ?_; apply w_nil; apply wx_next; apply wc_seq; apply wc_region; refine Z0 ?_; apply w_nil; apply wx_next; refine Z18 ?_; apply wc_region; refine Z42 ?_; refine Z76 fun c H HA => ?_; refine Z2 ?_; apply w_nil; apply wx_norm_block; apply wx_next; apply wc_region; refine Z0 ?_; refine Z50 ?_; refine Z2 ?_; apply w_nil)
        exact wx_loopG ((i, less z i, (e, e1, e2), true)) H.swap.drop Cu ⟨⟨Lk, Lk, Lk⟩, Lk⟩ Ks (by simp) ⟨by dsimp only; omega, subs_ok hs, (fun h => by cases h), (fun _ => by
          dsimp only
          cases ag
          · rw [← hz1 rfl]; omega
          · have := hz2 rfl; omega), by
          dsimp only
          rw [hps]
          cases ag <;> simp [passN, hs]⟩
theorem subsume_Condense (x : Cl) (u : Value) (c : Cx) (h : Ag x u c) (hf : x.fit) (hg : GlobOk c) : Cn Tryz.prog 34 [u] c (fun r c => Mcc (condE x) x.check r c) :=
  Cn.imp (subsume_CondenseF x u c 0 [] (FrL.nil 0 c) (Nat.zero_le _) h hf hg) fun _ _ _ ⟨u, e, k⟩ => ⟨u, e, k.ag⟩
end Go.Proofs.YthkdggoohpgnnaaGreatDoor
