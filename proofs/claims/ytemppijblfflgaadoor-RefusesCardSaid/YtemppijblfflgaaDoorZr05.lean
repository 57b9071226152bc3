/- errors.As at this program's *Fault: Go's own text of errors.As and errors.as, walked. After the worked text ToyasAs. append of a whole slice, or of a part of one, to a slice that owns its row. Over any program. An error's number: engine.numbers, engine.number. What is wrong with a text has one of the errors' numbers. No program in sight. The reader's numbers: walked. The place of a declaration's name: walked. What a name of a policy's stands for: walked. A result that lies in a block of its own: read whole. What the reader's calls leave as it was, and what stands in what they give: plain facts. No program in sight. The reader's values and conditions: walked. The reader's conditions: walked. The reader's blocks: walked, on the statements' contract. Conditions: none. -/
import Derived.Laws.AppendOwnNone
import Derived.Test.YtemppijblfflgaaDoorShelf
import Derived.Lib.SmallJoins
import Derived.Deep.DeepCutAuto
import Derived.Deep.CutBlock
import Derived.Lib.SliceRun
import Derived.Deep.DeepMust
import Derived.Test.YtemppijblfflgaaDoorZr01
import Derived.Test.YtemppijblfflgaaDoorZr04
set_option linter.all false
namespace Go.Proofs.YtemppijblfflgaaDoor.Ev
open Go Go.RowKit Go.Extern.Stop Go.Stop Go.Extern

/-! ### CLOSED FACTS ON THE MODEL's ENTRIES FOR internal/reflectlite, at this program's types: 25: *p.E · 27: **p.E · 23: error · 45: reflectlite's rtype · 1: how many package-level variables the dump has -/
theorem as_valueOf27 (t : Addr) (w : World) : (ReflectliteValue.unpack (.iface 40 (.pointer (some t)))).run Tryd.prog w
    = .ok (.agg #[.pointer (some ⟨20, 40, none⟩), .pointer (some ⟨w.heap.size, 0, none⟩), .int .u64 150]) (w.alloc (.cells #[.pointer (some t)] 40)) := by kernel_rfl
theorem as_type27 (a : Addr) (w : World) : (ReflectliteValue.methodAny (ReflectliteValue.valueError "reflectlite.Value.Type" 0) (fun t _ _ _ => ReflectliteType.toType t) #[.agg #[.pointer (some ⟨20, 40, none⟩), .pointer (some a), .int .u64 150]]).run Tryd.prog w
    = .ok (.iface 117 (.agg #[.pointer (some ⟨20, 40, none⟩)])) w := by kernel_rfl
theorem as_methodKind (h : Value) (w : World) : (Go.method 322 117 (.agg #[h]) "Kind").run Tryd.prog w = .ok (91, h) w := by kernel_rfl
theorem as_kind27 (w : World) : ((ReflectliteType.abiMethod fun t => Functor.map (fun a : Nat => Value.int IntKind.u8 (a : Int)) (Rtype.kind t)) #[.pointer (some ⟨20, 40, none⟩)]).run Tryd.prog w = .ok (.int .u8 22) w := by kernel_rfl
theorem as_kind25 (w : World) : ((ReflectliteType.abiMethod fun t => Functor.map (fun a : Nat => Value.int IntKind.u8 (a : Int)) (Rtype.kind t)) #[.pointer (some ⟨20, 38, none⟩)]).run Tryd.prog w = .ok (.int .u8 22) w := by kernel_rfl

/-! ### THE ENTRIES THAT READ OR WRITE MEMORY: laws with a premise on the cell (after Derived/Lib/ReflectliteSlice.lean's manner: each unfolding a lemma of its own, by rfl) -/
theorem rlm (z : Sem Value) (f : TypeId → Addr → Nat → Nat → Sem Value) (v : Value) :
    ReflectliteValue.method z f #[v] = (do match ← ReflectliteValue.parts v with | none => z | some (t, a, fl) => f t a fl (fl % 32)) := rfl
theorem as_parts27 (a : Addr) (w : World) : (ReflectliteValue.parts (.agg #[.pointer (some ⟨20, 40, none⟩), .pointer (some a), .int .u64 150])).run Tryd.prog w = .ok (some (40, a, 150)) w := by kernel_rfl
/-- (Value).IsNil at the Value of a **p.E that is not nil. -/
theorem as_isNil27 (a p : Addr) (W : World) (ha : W.cell? a = some (.pointer (some p))) :
    (ReflectliteValue.method (ReflectliteValue.valueError "reflectlite.Value.IsNil" 0) ReflectliteValue.isNil #[.agg #[.pointer (some ⟨20, 40, none⟩), .pointer (some a), .int .u64 150]]).run Tryd.prog W = .ok (.bool false) W := by
  rw [rlm]
  simp only [Sem.run_bind, as_parts27, Result.andThen]
  simp [ReflectliteValue.isNil, loadVar, isAgg, underlying, Tryd.underlying40, ha, Result.andThen]

theorem as_methodElem (h : Value) (w : World) : (Go.method 322 117 (.agg #[h]) "Elem").run Tryd.prog w = .ok (106, .agg #[h]) w := by kernel_rfl
theorem as_methodImplements (h : Value) (w : World) : (Go.method 322 117 (.agg #[h]) "Implements").run Tryd.prog w = .ok (107, .agg #[h]) w := by kernel_rfl
theorem as_methodAssignableTo (h : Value) (w : World) : (Go.method 322 117 (.agg #[h]) "AssignableTo").run Tryd.prog w = .ok (104, .agg #[h]) w := by kernel_rfl
theorem as_elem27 (w : World) : (ReflectliteType.method ReflectliteType.elem #[.agg #[.pointer (some ⟨20, 40, none⟩)]]).run Tryd.prog w = .ok (.iface 117 (.agg #[.pointer (some ⟨20, 38, none⟩)])) w := by kernel_rfl
theorem as_implements25 (w : World) : (ReflectliteType.relation "Implements" ReflectliteType.implements_ #[.agg #[.pointer (some ⟨20, 38, none⟩)], .iface 117 (.agg #[.pointer (some ⟨20, 35, none⟩)])]).run Tryd.prog w = .ok (.bool true) w := by kernel_rfl
theorem as_typeOf25 (v : Value) (w : World) : (ReflectliteType.typeOf #[.iface 38 v]).run Tryd.prog w = .ok (.iface 117 (.agg #[.pointer (some ⟨20, 38, none⟩)])) w := by kernel_rfl
theorem as_assignable25 (w : World) : (ReflectliteType.relation "AssignableTo" ReflectliteType.assignableTo #[.agg #[.pointer (some ⟨20, 38, none⟩)], .iface 117 (.agg #[.pointer (some ⟨20, 38, none⟩)])]).run Tryd.prog w = .ok (.bool true) w := by kernel_rfl
theorem as_valueOf25 (e : Addr) (w : World) : (ReflectliteValue.unpack (.iface 38 (.pointer (some e)))).run Tryd.prog w
    = .ok (.agg #[.pointer (some ⟨20, 38, none⟩), .pointer (some ⟨w.heap.size, 0, none⟩), .int .u64 150]) (w.alloc (.cells #[.pointer (some e)] 38)) := by kernel_rfl

theorem as_elemOf27 (w : World) : (Rtype.elem? 40).run Tryd.prog w = .ok (some 38) w := by kernel_rfl
theorem as_mk25 (p : Addr) (w : World) : (ReflectliteValue.mk 38 p ReflectliteValue.flagAddr).run Tryd.prog w = .ok (.agg #[.pointer (some ⟨20, 38, none⟩), .pointer (some p), .int .u64 406]) w := by kernel_rfl
/-- (Value).Elem at the Value of a **p.E that is not nil: the Value of the *p.E variable that it points to, addressable. -/
theorem as_elemV27 (a p : Addr) (W : World) (ha : W.cell? a = some (.pointer (some p))) :
    (ReflectliteValue.method (ReflectliteValue.valueError "reflectlite.Value.Elem" 0) ReflectliteValue.elem #[.agg #[.pointer (some ⟨20, 40, none⟩), .pointer (some a), .int .u64 150]]).run Tryd.prog W
      = .ok (.agg #[.pointer (some ⟨20, 38, none⟩), .pointer (some p), .int .u64 406]) W := by
  rw [rlm]
  simp only [Sem.run_bind, as_parts27, Result.andThen]
  simp [ReflectliteValue.elem, loadVar, isAgg, underlying, Tryd.underlying40, ha, Result.andThen, as_elemOf27, as_mk25]
theorem rls (v x : Value) : ReflectliteValue.set #[v, x] = (do
    let (some (dst, a, fl), some (src, b, _)) := (← ReflectliteValue.parts v, ← ReflectliteValue.parts x)
      | unsupported (.noEntry "extern/(internal/reflectlite.Value).Set.zeroValue")
    if fl / ReflectliteValue.flagAddr % 2 == 0 then unsupported (.noEntry "extern/(internal/reflectlite.Value).Set.unaddressable")
    let val ← loadVar src b
    if ← Rtype.directlyAssignable dst src then storeVar dst a val
    else if ← Rtype.implements dst src then
      if (← Rtype.kind src) == 20 then
        match val with
        | .nilIface => unsupported (.noEntry "extern/reflectlite: a nil value of one interface type handed on as a value of another")
        | _ => storeVar dst a val
      else storeVar dst a (.iface src val)
    else panicString ("reflectlite.Set: value of type " ++ (← Rtype.spelt src) ++ " is not assignable to type " ++ (← Rtype.spelt dst))
    pure (.tuple #[])) := rfl
theorem as_parts25a (a : Addr) (w : World) : (ReflectliteValue.parts (.agg #[.pointer (some ⟨20, 38, none⟩), .pointer (some a), .int .u64 406])).run Tryd.prog w = .ok (some (38, a, 406)) w := by kernel_rfl
theorem as_parts25 (a : Addr) (w : World) : (ReflectliteValue.parts (.agg #[.pointer (some ⟨20, 38, none⟩), .pointer (some a), .int .u64 150])).run Tryd.prog w = .ok (some (38, a, 150)) w := by kernel_rfl
theorem as_direct25 (w : World) : (Rtype.directlyAssignable 38 38).run Tryd.prog w = .ok true w := by kernel_rfl
/-- (Value).Set: the *p.E variable at 'ta' gets what the Value's own variable 'b' holds. -/
theorem as_set25 (ta b e : Addr) (old : Value) (W : World) (hb : W.cell? b = some (.pointer (some e))) (ht : W.cell? ta = some old) (hf : W.frozen? ta = false) :
    (ReflectliteValue.set #[.agg #[.pointer (some ⟨20, 38, none⟩), .pointer (some ta), .int .u64 406], .agg #[.pointer (some ⟨20, 38, none⟩), .pointer (some b), .int .u64 150]]).run Tryd.prog W
      = .ok (.tuple #[]) (W.setCell ta (.pointer (some e))) := by
  rw [rls]
  simp only [Sem.run_bind, as_parts25a, as_parts25, Result.andThen]
  simp [ReflectliteValue.flagAddr, loadVar, isAgg, underlying, Tryd.underlying38, hb, Result.andThen, as_direct25, storeVar, Value.cells, storeCells, Addr.add]
  rw [run_store Tryd.prog W ta _ _ (by rfl)]
  simp [ht, hf]

set_option maxHeartbeats 4000000 in
theorem as_hit (e t : Addr) (old : Value) (w : World) (hg : w.cell? ⟨2, 0, none⟩ = some (.iface 117 (.agg #[.pointer (some ⟨20, 35, none⟩)]))) (ht0 : w.cell? t = some old) (hf0 : w.frozen? t = false) :
    Calls Tryd.prog 8 #[.iface 38 (.pointer (some e)), .iface 40 (.pointer (some t))] w fun ev w' => ev = .returned (.bool true) ∧ w' = ((((w.alloc (.cells #[.pointer (some t)] 40)).alloc (.cells #[.pointer (some ⟨20, 40, none⟩), .pointer (some ⟨w.heap.size, 0, none⟩), .int .u64 150] 70)).alloc (.cells #[.pointer (some ⟨20, 40, none⟩), .pointer (some ⟨w.heap.size, 0, none⟩), .int .u64 150] 70)).alloc (.cells #[.pointer (some e)] 38)).setCell t (.pointer (some e)) := by
  have h6 := @run_callFunc_extern Tryd.prog 17 _ (fun args => ReflectliteValue.unpack (args.getD 0 (.tuple #[]))) Tryd.func17 (by kernel_rfl) (by kernel_rfl) (by kernel_rfl) (by kernel_rfl)
  have h7 := @run_callFunc_extern Tryd.prog 18 _ (ReflectliteValue.methodAny (ReflectliteValue.valueError "reflectlite.Value.Type" 0) (fun t _ _ _ => ReflectliteType.toType t)) Tryd.func18 (by kernel_rfl) (by kernel_rfl) (by kernel_rfl) (by kernel_rfl)
  have h8 := @run_callFunc_extern Tryd.prog 19 _ (ReflectliteValue.method (ReflectliteValue.valueError "reflectlite.Value.IsNil" 0) ReflectliteValue.isNil) Tryd.func19 (by kernel_rfl) (by kernel_rfl) (by kernel_rfl) (by kernel_rfl)
  have h27 := @run_callFunc_extern Tryd.prog 91 _ (ReflectliteType.abiMethod fun t => do pure (.int .u8 (← Rtype.kind t))) Tryd.func91 (by kernel_rfl) (by kernel_rfl) (by kernel_rfl) (by kernel_rfl)
  have h37 := @run_callFunc_extern Tryd.prog 106 _ (ReflectliteType.method ReflectliteType.elem) Tryd.func106 (by kernel_rfl) (by kernel_rfl) (by kernel_rfl) (by kernel_rfl)
  have h38 := @run_callFunc_extern Tryd.prog 107 _ (ReflectliteType.relation "Implements" ReflectliteType.implements_) Tryd.func107 (by kernel_rfl) (by kernel_rfl) (by kernel_rfl) (by kernel_rfl)
  have h10 := @run_callFunc_extern Tryd.prog 34 _ ReflectliteType.typeOf Tryd.func34 (by kernel_rfl) (by kernel_rfl) (by kernel_rfl) (by kernel_rfl)
  have h35 := @run_callFunc_extern Tryd.prog 104 _ (ReflectliteType.relation "AssignableTo" ReflectliteType.assignableTo) Tryd.func104 (by kernel_rfl) (by kernel_rfl) (by kernel_rfl) (by kernel_rfl)
  have h11 := @run_callFunc_extern Tryd.prog 35 _ (ReflectliteValue.method (ReflectliteValue.valueError "reflectlite.Value.Elem" 0) ReflectliteValue.elem) Tryd.func35 (by kernel_rfl) (by kernel_rfl) (by kernel_rfl) (by kernel_rfl)
  have h12 := @run_callFunc_extern Tryd.prog 36 _ ReflectliteValue.set Tryd.func36 (by kernel_rfl) (by kernel_rfl) (by kernel_rfl) (by kernel_rfl)
  have tO := as_typeOf25
  have mA := as_methodAssignableTo
  have a25 := as_assignable25
  have v25 := as_valueOf25
  have f6 := as_valueOf27
  have f7 := as_type27
  have mK := as_methodKind
  have mE := as_methodElem
  have mI := as_methodImplements
  have k27 := as_kind27
  have k25 := as_kind25
  have e27 := as_elem27
  have i25 := as_implements25
  have n8 := as_isNil27 ⟨w.heap.size, 0, none⟩ t ((w.alloc (.cells #[.pointer (some t)] 40)).alloc (.cells #[.pointer (some ⟨20, 40, none⟩), .pointer (some ⟨w.heap.size, 0, none⟩), .int .u64 150] 70)) (by simp)
  have hlt : 2 < w.heap.size := World.block_lt_of_cell? w _ hg
  have hg2 : ((w.alloc (.cells #[.pointer (some t)] 40)).alloc (.cells #[.pointer (some ⟨20, 40, none⟩), .pointer (some ⟨w.heap.size, 0, none⟩), .int .u64 150] 70)).cell? ⟨2, 0, none⟩ = some (.iface 117 (.agg #[.pointer (some ⟨20, 35, none⟩)])) := by
    rw [World.cell?_alloc_lt _ _ ⟨2, 0, none⟩ (by simp; omega), World.cell?_alloc_lt _ _ ⟨2, 0, none⟩ hlt]; exact hg
  have htl : t.block < w.heap.size := by
    rcases Nat.lt_or_ge t.block w.heap.size with h | h
    · exact h
    · simp [World.cell?, Array.getElem?_eq_none h] at ht0
  have el := as_elemV27 ⟨w.heap.size, 0, none⟩ t (((w.alloc (.cells #[.pointer (some t)] 40)).alloc (.cells #[.pointer (some ⟨20, 40, none⟩), .pointer (some ⟨w.heap.size, 0, none⟩), .int .u64 150] 70)).alloc (.cells #[.pointer (some ⟨20, 40, none⟩), .pointer (some ⟨w.heap.size, 0, none⟩), .int .u64 150] 70)) (by rw [World.cell?_alloc_lt _ _ ⟨w.heap.size, 0, none⟩ (by simp; omega)]; simp)
  have st := as_set25 t ⟨w.heap.size + 1 + 1 + 1, 0, none⟩ e old ((((w.alloc (.cells #[.pointer (some t)] 40)).alloc (.cells #[.pointer (some ⟨20, 40, none⟩), .pointer (some ⟨w.heap.size, 0, none⟩), .int .u64 150] 70)).alloc (.cells #[.pointer (some ⟨20, 40, none⟩), .pointer (some ⟨w.heap.size, 0, none⟩), .int .u64 150] 70)).alloc (.cells #[.pointer (some e)] 38))
    (by rw [World.cell?_alloc_at _ _ _ _ (by simp)]; rfl)
    (by rw [World.cell?_alloc_lt _ _ t (by simp; omega), World.cell?_alloc_lt _ _ t (by simp; omega), World.cell?_alloc_lt _ _ t (by simp; omega), World.cell?_alloc_lt _ _ t htl]; exact ht0)
    (by rw [World.frozen?_alloc_old _ _ t (by simp; omega), World.frozen?_alloc_old _ _ t (by simp; omega), World.frozen?_alloc_old _ _ t (by simp; omega), World.frozen?_alloc_old _ _ t (Nat.ne_of_lt htl)]; exact hf0)
  go_enter Tryd.func8, Tryd.ntmps8
  go_wp2
  refine wp_loop_rounds 1 ?_
  rw [rounds_succ]
  go_wp2
  go_ret
  exact ⟨rfl, rfl⟩
end Go.Proofs.YtemppijblfflgaaDoor.Ev
namespace Go.Proofs.YtemppijblfflgaaDoor.Ev
open Go Go.RowKit

section
variable {S : Nat → Prop} {w w' : World} {e : TypeId} {size n m : Nat} {u v : Value} {xs news : List Value}

theorem Sl.later {T : Nat → Prop} (h : Sl S w e size v n xs) (hk : Kept T w w') (hT : ∀ b, T b → w.heap.size ≤ b) : Sl S w' e size v n xs := h.kept hk (fun g hg ht => by have := h.lt hg; have := hT g ht; omega)
end
end Go.Proofs.YtemppijblfflgaaDoor.Ev
namespace Go.Proofs.YtemppijblfflgaaDoor.Ev
open Go Go.RowKit

/-- The errors themselves, below block B: each in a block of its own. -/
structure ErrObj (B : Nat) (ea : Nat → Addr) (w : World) : Prop where
  obj : ∀ k, 1 ≤ k → k ≤ 12 → ∃ (cs : Array Value) (t : TypeId), w.heap[(ea k).block]? = some (.cells cs t (0, 0))
  lt : ∀ k, 1 ≤ k → k ≤ 12 → (ea k).block < B
  inj : ∀ j k, 1 ≤ j → j ≤ 12 → 1 ≤ k → k ≤ 12 → ea j = ea k → j = k
  typ : w.cell? ⟨2, 0, none⟩ = some (.iface 117 (.agg #[.pointer (some ⟨20, 35, none⟩)]))
  typlt : 2 < B

theorem ErrObj.kept {B : Nat} {ea : Nat → Addr} {w w' : World} (h : ErrObj B ea w) {S : Nat → Prop} (hk : Kept S w w') (hS : ∀ b, S b → B ≤ b) : ErrObj B ea w' := by
  refine ⟨fun k h1 h2 => ?_, h.lt, h.inj, ?_, h.typlt⟩
  · obtain ⟨cs, t, hc⟩ := h.obj k h1 h2
    exact ⟨cs, t, (hk.block _ (fun hs => by have := hS _ hs; have := h.lt k h1 h2; omega)).trans hc⟩
  · exact (hk.cell (p := ⟨2, 0, none⟩) (fun hs => by have := hS _ hs; have := h.typlt; simp only at *; omega)).trans h.typ

/-- An error and its number. -/
def encPair (ea : Nat → Addr) (k : Nat) : List Value := [errV ea k, .int .i64 k]
def numKeys : List Nat := [1, 2, 3, 4, 5, 6, 7, 8, 9, 10, 11, 12]

section
variable {B : Nat} {ea : Nat → Addr} {w : World}

set_option maxRecDepth 100000 in
set_option maxHeartbeats 4000000 in
theorem numbers_any (he : Env B ea w) : Calls Tryd.prog 21 #[] w fun e w' =>
    e = .returned (.slice (some ⟨w.heap.size, 0, none⟩) 12 12) ∧ w' = w.alloc (.cells (numKeys.flatMap (encPair ea)).toArray 83) := by
  have e1 : w.cell? ⟨0, 0, none⟩ = some (errV ea 1) := he.err 1 (by omega) (by omega)
  have e2 : w.cell? ⟨7, 0, none⟩ = some (errV ea 2) := he.err 2 (by omega) (by omega)
  have e3 : w.cell? ⟨8, 0, none⟩ = some (errV ea 3) := he.err 3 (by omega) (by omega)
  have e4 : w.cell? ⟨4, 0, none⟩ = some (errV ea 4) := he.err 4 (by omega) (by omega)
  have e5 : w.cell? ⟨9, 0, none⟩ = some (errV ea 5) := he.err 5 (by omega) (by omega)
  have e6 : w.cell? ⟨10, 0, none⟩ = some (errV ea 6) := he.err 6 (by omega) (by omega)
  have e7 : w.cell? ⟨11, 0, none⟩ = some (errV ea 7) := he.err 7 (by omega) (by omega)
  have e8 : w.cell? ⟨6, 0, none⟩ = some (errV ea 8) := he.err 8 (by omega) (by omega)
  have e9 : w.cell? ⟨5, 0, none⟩ = some (errV ea 9) := he.err 9 (by omega) (by omega)
  have e10 : w.cell? ⟨1, 0, none⟩ = some (errV ea 10) := he.err 10 (by omega) (by omega)
  have e11 : w.cell? ⟨12, 0, none⟩ = some (errV ea 11) := he.err 11 (by omega) (by omega)
  have e12 : w.cell? ⟨13, 0, none⟩ = some (errV ea 12) := he.err 12 (by omega) (by omega)
  clear he
  have ef : numKeys.flatMap (encPair ea) = [errV ea 1, .int .i64 1, errV ea 2, .int .i64 2, errV ea 3, .int .i64 3, errV ea 4, .int .i64 4, errV ea 5, .int .i64 5, errV ea 6, .int .i64 6, errV ea 7, .int .i64 7, errV ea 8, .int .i64 8, errV ea 9, .int .i64 9, errV ea 10, .int .i64 10, errV ea 11, .int .i64 11, errV ea 12, .int .i64 12] := rfl
  rw [ef]
  clear ef
  unfold errV at *
  go_enter Tryd.func21, Tryd.ntmps21
  go_wp2
  go_ret
  exact ⟨rfl, rfl⟩

theorem pair_at (k : Nat) (hk : k < 12) : numKeys[k]? = some (k + 1) := by
  match k, hk with
  | 0, _ | 1, _ | 2, _ | 3, _ | 4, _ | 5, _ | 6, _ | 7, _ | 8, _ | 9, _ | 10, _ | 11, _ => rfl

/-- Of an error: errors.Is finds it to be number k and no other. -/
def IsNum (B : Nat) (ea : Nat → Addr) (w : World) (v : Value) (k : Nat) : Prop :=
  ∀ (j : Nat) (W : World), 1 ≤ j → j ≤ 12 → Kept (fun b => w.heap.size ≤ b) w W → Calls Tryd.prog 22 #[v, errV ea j] W fun e w' => e = .returned (.bool (j == k)) ∧ w' = W

theorem isNum_fault (ho : ErrObj B ea w) (hB : B ≤ w.heap.size) {k gf : Nat} {x : Value} (h1 : 1 ≤ k) (h2 : k ≤ 12) (hr : Row w gf 43 [errV ea k, x]) : IsNum B ea w (.iface 38 (.pointer (some ⟨gf, 0, none⟩))) k := by
  intro j W j1 j2 hk
  have ho' := ho.kept hk (fun b hb => Nat.le_trans hB hb)
  have hr' := hr.kept hk (by have := hr.lt; omega)
  by_cases e : j = k
  · subst e
    rw [beq_self_eq_true]
    exact is_fault_same gf x (ea j) W hr'
  · have e' : (j == k) = false := by simpa using e
    rw [e']
    obtain ⟨ca, ta, ha⟩ := ho'.obj k h1 h2
    obtain ⟨cb, tb, hb⟩ := ho'.obj j j1 j2
    exact is_fault_other gf x (ea k) (ea j) ca cb ta tb W hr' (fun hh => e (ho.inj k j h1 h2 j1 j2 hh).symm) ha hb

/-- A number is given; new blocks alone. -/
def NumOut (w : World) (k : Nat) (e : Ending) (w' : World) : Prop := e = .returned (.int .i64 k) ∧ Kept (fun b => w.heap.size ≤ b) w w'

set_option maxRecDepth 100000 in
set_option maxHeartbeats 4000000 in
theorem number_err (he : Env B ea w) {v : Value} {k : Nat} (h1 : 1 ≤ k) (h2 : k ≤ 12) (hi : IsNum B ea w v k) :
    Calls Tryd.prog 9 #[v] w (NumOut w k) := by
  have hn := numbers_any he
  have hrow : Row (w.alloc (.cells (numKeys.flatMap (encPair ea)).toArray 83)) w.heap.size 83 (numKeys.flatMap (encPair ea)) := Row.new w _ _
  have hsl := Sl.of_row (S := fun _ => True) hrow trivial (size := 2) (n := 12) rfl (by unfold maxLen; omega)
  have hk0 : Kept (fun b => w.heap.size ≤ b) w (w.alloc (.cells (numKeys.flatMap (encPair ea)).toArray 83)) := (Kept.refl _ w).alloc (Nat.le_refl _) _
  have hs0 : (w.alloc (.cells (numKeys.flatMap (encPair ea)).toArray 83)).heap.size = w.heap.size + 1 := by simp
  generalize hw1 : w.alloc (.cells (numKeys.flatMap (encPair ea)).toArray 83) = w1 at *
  have HN := Lib.hid hn
  have HS := Lib.hid hsl
  have HK := Lib.hid hk0
  have HI := Lib.hid hi
  have HZ := Lib.hid hs0
  clear hn hsl hk0 hi he hrow hw1 hs0
  go_enter Tryd.func9, Tryd.ntmps9
  go_wp2_with fail
  refine HN.out.mono ?_
  rintro e w' ⟨rfl, rfl⟩
  go_wp2_with fail
  go_loopg [7] 12 (fun gg s7 wr => ∃ i : Nat, i < k ∧ 12 - i ≤ gg ∧ s7 = .int .i64 i ∧ Kept (fun b => w'.heap.size ≤ b) w' wr)
  case atStart => exact ⟨0, by omega, by omega, rfl, Kept.refl _ _⟩
  case round =>
    obtain ⟨i, hik, hgi, rfl, hkr⟩ := hrel
    have hi12 : i < 12 := by omega
    have hs := HS.out.later hkr (fun b hb => hb)
    have hx := pair_at i hi12
    have c0 := hs.at_ (l := numKeys) (f := encPair ea) (fun _ => rfl) hx (j := 0) (by omega)
    have c1 := hs.at_ (l := numKeys) (f := encPair ea) (fun _ => rfl) hx (j := 1) (by omega)
    have c0' : wr.cell? ⟨w.heap.size, i * 2, none⟩ = some (.iface 171 (.pointer (some (ea (i + 1))))) := c0
    have c1' : wr.cell? ⟨w.heap.size, i * 2 + 1, none⟩ = some (.int .i64 ((i : Int) + 1)) := c1
    have hsz : w.heap.size < wr.heap.size := by have := HZ.out; have := hkr.size; omega
    have hkk : Kept (fun b => w.heap.size ≤ b) w (wr.alloc (.cells #[.iface 171 (.pointer (some (ea (i + 1)))), .int .i64 ((i : Int) + 1)] 83)) := (HK.out.trans (hkr.mono (fun b hb => by have := HZ.out; omega))).alloc (by omega) _
    have hcall := HI.out (i + 1) _ (by omega) (by omega) hkk
    have hkr' : Kept (fun b => w'.heap.size ≤ b) w' (wr.alloc (.cells #[.iface 171 (.pointer (some (ea (i + 1)))), .int .i64 ((i : Int) + 1)] 83)) := hkr.alloc hkr.size _
    have HC := Lib.hid hcall
    have HKR := Lib.hid hkr'
    have HKK := Lib.hid hkk
    clear hcall hkr hs hx c0 c1 hkr' hkk
    have q : ¬ w.heap.size = wr.heap.size := by omega
    unfold errV at HC
    by_cases e : i + 1 = k
    · have e1 : (i + 1 == k) = true := by simpa using e
      rw [e1] at HC
      have E := Lib.hid e
      clear e1 e
      go_wp2_with (go_at_call 22; ((with_reducible refine HC.out.mono ?_); rintro e w2 ⟨rfl, rfl⟩))
      go_ret
      exact ⟨by rw [← E.out]; go_num, HKK.out⟩
    · have e1 : (i + 1 == k) = false := by simpa using e
      rw [e1] at HC
      have E := Lib.hid e
      clear e1 e
      go_wp2_with (go_at_call 22; ((with_reducible refine HC.out.mono ?_); rintro e w2 ⟨rfl, rfl⟩))
      go_roundg (12 - (i + 1))
      case measure => omega
      case rel => exact ⟨i + 1, by have := E.out; omega, by omega, by go_num, HKR.out⟩
end
end Go.Proofs.YtemppijblfflgaaDoor.Ev
namespace Go.Proofs.YtemppijblfflgaaDoor.Ev

def EOk (e : Nat) : Prop := 1 ≤ e ∧ e ≤ 12
def WOk (st : PS) : Prop := ∀ y, st.wrong = some y → EOk y.1
def OOk {α : Type} (o : Out α) : Prop :=
  match o with
  | .ok _ st => WOk st
  | .bad e _ => EOk e

section
variable {α β : Type} {s : Bytes} {st : PS}
theorem OOk.bind {x : Out α} {f : α → PS → Out β} (h : OOk x) (hf : ∀ a st, WOk st → OOk (f a st)) : OOk (x.bind f) := by
  cases x with
  | ok a st => exact hf a st h
  | bad e p => exact h
theorem OOk.map {x : Out α} {f : α → β} (h : OOk x) : OOk (x.map f) := by
  cases x with
  | ok a st => exact h
  | bad e p => exact h
theorem WOk.next (h : WOk st) : WOk (next s st) := h
theorem WOk.note {e pos : Nat} (h : WOk st) (he : EOk e) : WOk (note e pos st) := by
  intro y hy
  unfold Ev.note at hy
  cases hw : st.wrong with
  | none =>
    rw [hw] at hy
    simp only [Option.some.injEq] at hy
    subst hy
    exact he
  | some z =>
    rw [hw] at hy
    exact h y hy
theorem want_e {k : Bytes} (h : WOk st) : OOk (want s k st) := by
  unfold want
  split
  · exact h
  · exact (⟨by decide, by decide⟩ : EOk eSyntax)
theorem take_e {k : Bytes} (h : WOk st) : WOk (take s k st).2 := by
  unfold take
  split <;> exact h
theorem number_e {a b : Int} (h : WOk st) : OOk (number s a b st) := by
  unfold number
  refine (want_e h).bind fun t st h => ?_
  show WOk _
  split
  · exact h.note ⟨by decide, by decide⟩
  · exact h
theorem name_e {v : Bool} (h : WOk st) : OOk (name s v st) := by
  unfold name
  refine (want_e h).bind fun t st h => ?_
  show WOk _
  unfold nameNote
  split
  · exact h.note ⟨by decide, by decide⟩
  · split
    · exact h.note ⟨by decide, by decide⟩
    · exact h
theorem value_e (h : WOk st) : OOk (value s st) := by
  unfold value
  split
  · exact (number_e h).map
  · split
    · exact (name_e h.next).map
    · split
      · exact h
      · exact (name_e h).map
theorem condBase_e (h : WOk st) : OOk (condBase s st) := by
  unfold condBase
  split
  · exact (name_e h.next).map
  · split
    · exact (name_e h.next).map
    · split
      · exact (name_e h.next).map
      · exact (value_e h).bind fun a st h => (want_e h).bind fun _ st h => (value_e h).map
theorem eSyn : EOk eSyntax := ⟨by decide, by decide⟩
theorem eDp : EOk eDeep := ⟨by decide, by decide⟩
theorem cond_e : ∀ (n : Nat) {st : PS}, WOk st → OOk (cond s n st)
  | 0, st, h => eSyn
  | n + 1, st, h => by
    unfold cond
    split
    · exact (cond_e n h.next).map
    · exact condBase_e h
theorem semi_e {x : Prim} (h : WOk st) : OOk ((want s kSemi st).bind fun _ st => Out.ok (Blk.prim x .nil) st) := (want_e h).bind fun _ _ h => h

theorem block_e : ∀ (n : Nat), (∀ {st : PS}, WOk st → OOk (block s n st)) ∧ (∀ {st : PS}, WOk st → OOk (stmts s n st)) ∧ (∀ {st : PS}, WOk st → OOk (stmt s n st))
  | 0 => ⟨fun _ => by unfold block; exact eSyn, fun _ => by unfold stmts; exact eSyn, fun _ => by unfold stmt; exact eSyn⟩
  | n + 1 => by
    obtain ⟨ib, il, is⟩ := block_e n
    refine ⟨fun {st} h => ?_, fun {st} h => ?_, fun {st} h => ?_⟩
    · unfold block
      split
      · exact eDp
      · refine (want_e h).bind fun _ st h => ?_
        refine OOk.bind (il (st := { st with depth := st.depth + 1 }) h) fun b st h => ?_
        exact h
    · unfold stmts
      split
      · exact h
      · exact (is h).bind fun x st h => (il h).map
    · rw [stmt]
      by_cases k1 : st.t.kind = kPut
      · rw [if_pos k1]; exact (name_e h.next).bind fun q st h => semi_e (take_e h)
      rw [if_neg k1]
      by_cases k2 : st.t.kind = kEvict
      · rw [if_pos k2]; exact (name_e h.next).bind fun q st h => semi_e h
      rw [if_neg k2]
      by_cases k3 : st.t.kind = kCool
      · rw [if_pos k3]; exact (name_e h.next).bind fun q st h => semi_e h
      rw [if_neg k3]
      by_cases k4 : st.t.kind = kShift
      · rw [if_pos k4]; exact (name_e h.next).bind fun q st h => (name_e h).bind fun p st h => semi_e (take_e h)
      rw [if_neg k4]
      by_cases k5 : st.t.kind = kInc
      · rw [if_pos k5]; exact (name_e h.next).bind fun q st h => semi_e h
      rw [if_neg k5]
      by_cases k6 : st.t.kind = kDec
      · rw [if_pos k6]; exact (name_e h.next).bind fun q st h => semi_e h
      rw [if_neg k6]
      by_cases k7 : st.t.kind = kDrop
      · rw [if_pos k7]; exact semi_e h.next
      rw [if_neg k7]
      by_cases k8 : st.t.kind = kBump
      · rw [if_pos k8]; exact semi_e h.next
      rw [if_neg k8]
      by_cases k9 : st.t.kind = kIf
      · rw [if_pos k9]
        refine (cond_e _ h.next).bind fun c st h => (ib h).bind fun t st h => ?_
        split
        · exact (ib h.next).bind fun e st h => h
        · exact h
      rw [if_neg k9]
      by_cases ka : st.t.kind = kRepeat
      · rw [if_pos ka]
        by_cases kb : st.loops = 2
        · rw [if_pos kb]; exact eDp
        rw [if_neg kb]
        refine (number_e h.next).bind fun k st h => (want_e h).bind fun _ st h => (cond_e _ h).bind fun c st h => ?_
        exact OOk.bind (ib (st := { st with loops := st.loops + 1 }) h) fun b st h => h
      rw [if_neg ka]
      exact eSyn
theorem decl_e (h : WOk st) : OOk (decl s st) := by
  unfold decl
  simp only
  split
  · have h1 : WOk (if (next s st).fseen then note eTwice st.t.pos (next s st) else next s st) := by
      split
      · exact h.next.note ⟨by decide, by decide⟩
      · exact h.next
    refine OOk.bind (number_e (st := { (if (next s st).fseen then note eTwice st.t.pos (next s st) else next s st) with fseen := true }) h1) fun n st h => ?_
    exact OOk.bind (want_e (st := { st with freq := n }) h) fun _ st h => h
  · refine (want_e h.next).bind fun n st h => ?_
    have h1 : WOk (declNote n st) := by
      have h2 : WOk (if 0 ≤ find st.decls n.text then note eTwice n.pos st else st) := by
        split
        · exact h.note ⟨by decide, by decide⟩
        · exact h
      show WOk (if (if 0 ≤ find st.decls n.text then note eTwice n.pos st else st).decls.length = 8 then note eMany n.pos (if 0 ≤ find st.decls n.text then note eTwice n.pos st else st) else (if 0 ≤ find st.decls n.text then note eTwice n.pos st else st))
      generalize (if 0 ≤ find st.decls n.text then note eTwice n.pos st else st) = st2 at h2 ⊢
      by_cases h8 : st2.decls.length = 8
      · rw [if_pos h8]; exact h2.note ⟨by decide, by decide⟩
      · rw [if_neg h8]; exact h2
    exact (number_e h1).bind fun m st h => (want_e h).bind fun _ st h => h
theorem rule_e {n : Nat} (h : WOk st) : OOk (rule s n st) := by
  unfold rule
  refine OOk.bind ?_ fun k st h => ((block_e n).1 h).bind fun b st h => ?_
  · unfold ruleHead
    simp only
    refine OOk.bind ?_ fun k st h => ?_
    · split
      · exact h
      · exact name_e h.next
    · show WOk _
      split
      · exact h.note ⟨by decide, by decide⟩
      · exact h
  · show WOk _
    split <;> exact h
theorem decls_e : ∀ (n : Nat) {st : PS}, WOk st → OOk (declsR s n st)
  | 0, st, h => eSyn
  | n + 1, st, h => by
    unfold declsR
    split
    · exact (decl_e h).bind fun _ st h => decls_e n h
    · exact h
theorem rules_e {m : Nat} : ∀ (n : Nat) {st : PS}, WOk st → OOk (rulesR s m n st)
  | 0, st, h => eSyn
  | n + 1, st, h => by
    unfold rulesR
    split
    · exact (rule_e h).bind fun _ st h => rules_e n h
    · exact h
theorem readAll_e : OOk (readAll s) := by
  unfold readAll
  refine (decls_e _ (fun y hy => by cases hy)).bind fun _ st h => (rules_e _ h).bind fun _ st h => want_e h

theorem read_err {k pos : Nat} (h : read s = .error (k, pos)) : 1 ≤ k ∧ k ≤ 12 := by
  unfold read at h
  split at h
  · injection h with h; injection h with h1 h2; subst h1; exact ⟨by decide, by decide⟩
  · have he := readAll_e (s := s)
    cases hr : readAll s with
    | bad e p =>
      rw [hr] at h he
      injection h with h; injection h with h1 h2; subst h1
      exact he
    | ok a st =>
      rw [hr] at h he
      simp only at h
      cases hw : st.wrong with
      | some x =>
        rw [hw] at h
        simp only at h
        injection h with h
        have := he x hw
        rw [h] at this
        exact this
      | none =>
        rw [hw] at h
        simp only at h
        split at h
        · injection h with h; injection h with h1 h2; subst h1; exact ⟨by decide, by decide⟩
        · cases h
end
end Go.Proofs.YtemppijblfflgaaDoor.Ev
namespace Go.Proofs.YtemppijblfflgaaDoor.Ev
open Go Go.RowKit

theorem dec_atoi : ∀ (l : Bytes) (n : Nat), (∀ c ∈ l, fig c = true) → ∃ m, Lib.decFrom n l = some m ∧ l.foldl (fun (n : Int) c => 10 * n + ((c.toNat : Int) - 48)) (n : Int) = (m : Int)
  | [], n, _ => ⟨n, rfl, rfl⟩
  | c :: l, n, h => by
    have hc := h c (by simp)
    have h1 : 48 ≤ c.toNat ∧ c.toNat ≤ 57 := by
      simp only [fig, Bool.and_eq_true, decide_eq_true_eq, UInt8.le_iff_toNat_le] at hc
      exact hc
    obtain ⟨m, h2, h3⟩ := dec_atoi l (n * 10 + (c.toNat - 48)) (fun x hx => h x (by simp [hx]))
    refine ⟨m, ?_, ?_⟩
    · simp [Lib.decFrom, Lib.digitVal, h1, h2]
    · rw [← h3, List.foldl_cons]
      congr 1
      omega

theorem atoi_of {l : Bytes} (h : NumText l) : Lib.atoi l = some (atoi l) ∧ 0 ≤ atoi l := by
  obtain ⟨h1, h2, h3⟩ := h
  cases l with
  | nil => simp at h1
  | cons c l =>
    have hc := h3 c (by simp)
    have h4 : 48 ≤ c.toNat ∧ c.toNat ≤ 57 := by
      simp only [fig, Bool.and_eq_true, decide_eq_true_eq, UInt8.le_iff_toNat_le] at hc
      exact hc
    obtain ⟨m, h5, h6⟩ := dec_atoi (c :: l) 0 h3
    have n1 : (c == 45) = false := by
      rw [beq_eq_false_iff_ne]; rintro rfl; simp at h4
    have n2 : (c == 43) = false := by
      rw [beq_eq_false_iff_ne]; rintro rfl; simp at h4
    have e : atoi (c :: l) = (m : Int) := h6
    rw [e]
    refine ⟨?_, by omega⟩
    unfold Lib.atoi
    simp only [n1, n2, Bool.false_eq_true, if_false]
    unfold Lib.decNat
    simp [h5]

section
variable {B : Nat} {ea : Nat → Addr} {w : World} {g gp bm : Nat} {vd wp : Value} {s : Bytes} {st : PS}

theorem kg_bytes (g : Nat) (w : World) (e : TypeId) (t : ByteArray) : Kg g w (Lib.bytesWorld w e t) :=
  Kept.of_below (Joins.below_bytesWorld w.heap.size w e t (Nat.le_refl _)) (fun k hk => .inr hk)

theorem RdR.kg_same (h : RdR B ea w g gp bm vd wp s st) {w' : World} (hk : Kg g w w') (hg : w'.heap[g]? = w.heap[g]?) : RdR B ea w' g gp bm vd wp s st :=
  h.turn (h.kg hk) (hg.trans h.row) rfl rfl rfl (h.wrong.quiet (h.kg hk)) h.i

theorem RdR.bytes (h : RdR B ea w g gp bm vd wp s st) (e : TypeId) (t : ByteArray) : RdR B ea (Lib.bytesWorld w e t) g gp bm vd wp s st :=
  h.kg_same (kg_bytes g w e t) (Lib.bytesWorld_at_old w e t g h.row.lt)

set_option maxRecDepth 100000 in
set_option maxHeartbeats 400000 in
theorem number_any (h : RdR B ea w g gp bm vd wp s st) (ok : st.Ok s) (least most : Int) :
    Calls Tryd.prog 28 #[.pointer (some ⟨g, 0, none⟩), .int .i64 least, .int .i64 most] w fun e w' => OutR B ea w g gp bm s (number s least most st) (fun _ n v => v = .int .i64 n) e w' := by
  have HR := Lib.hid h
  by_cases hk : st.t.kind = kNumber
  · have hw : want s kNumber st = .ok st.t (next s st) := by unfold want; rw [if_pos hk]
    have e2 : number s least most st = .ok (atoi st.t.text) (if atoi st.t.text < least ∨ atoi st.t.text > most then note eNumber st.t.pos (next s st) else next s st) := by
      unfold number; rw [hw]; rfl
    rw [e2]
    have hwant := want_any h kNumber
    rw [hw] at hwant
    obtain ⟨ha, ha0⟩ := atoi_of (ok.num hk)
    have hl : st.t.text.length ≤ 18 := by have := (ok.num hk).2.1; omega
    have HW := Lib.hid hwant
    have HA := Lib.hid ha
    clear hwant ha e2 hw hk h ok
    unfold vs at *
    go_enter Tryd.func28, Tryd.ntmps28
    go_wp2_with fail
    refine HW.out.mono ?_
    rintro e w1 ⟨v, rfl, rfl, hk1, vd1, wp1, h1⟩
    have HK1 := Lib.hid hk1
    have H1 := Lib.hid h1
    clear hk1 h1
    unfold encTok vs
    go_wp2_with fail
    refine (Tryd.strconv_Atoi ⟨st.t.text.toArray⟩ (atoi st.t.text) hl HA.out _).mono ?_
    rintro e w2 ⟨rfl, t, rfl⟩
    have hr0 := (Row.new w1 62 [vs st.t.kind, vs st.t.text, .int .i64 st.t.pos])
    have x0 : Row (Lib.bytesWorld (w1.alloc (.cells #[vs st.t.kind, vs st.t.text, .int .i64 st.t.pos] 62)) 5 t) w1.heap.size 62 _ := (Lib.bytesWorld_at_old _ _ _ _ hr0.lt).trans hr0
    have hz := (H1.out.alloc (.cells #[vs st.t.kind, vs st.t.text, .int .i64 st.t.pos] 62)).bytes 5 t
    have hkz := (HK1.out.alloc (.inr (HK1.out.size)) (.cells #[vs st.t.kind, vs st.t.text, .int .i64 st.t.pos] 62)).trans ((kg_bytes g _ 5 t).mono (fun b hb => hb.elim .inl (fun hh => .inr (Nat.le_trans HK1.out.size (Nat.le_trans (by simp) hh)))))
    unfold vs at *
    generalize hw3 : Lib.bytesWorld _ 5 t = w3 at *
    have herr : w3.cell? ⟨11, 0, none⟩ = some (.iface 171 (.pointer (some (ea 7)))) := hz.env.err 7 (by omega) (by omega)
    have d2 := x0.cell 2
    have fz := fun j => x0.frozen j
    simp at d2
    have HZ := Lib.hid hz
    have HKZ := Lib.hid hkz
    clear hz hkz x0 hr0 hw3 HK1 H1
    have NA := note_any HZ.out 7 st.t.pos
    by_cases c1 : atoi st.t.text < least
    · go_wp2_with fail
      refine NA.mono ?_
      rintro e w4 ⟨rfl, hk4, wp4, h4⟩
      have F := Lib.hid (And.intro hk4 h4)
      clear hk4 h4
      go_wp2
      go_ret
      refine ⟨_, rfl, rfl, Kg.trans HKZ.out F.out.1, vd1, wp4, ?_⟩
      exact F.out.2
    · by_cases c2 : atoi st.t.text > most
      · go_wp2_with fail
        refine NA.mono ?_
        rintro e w4 ⟨rfl, hk4, wp4, h4⟩
        have F := Lib.hid (And.intro hk4 h4)
        clear hk4 h4
        go_wp2
        go_ret
        refine ⟨_, rfl, rfl, Kg.trans HKZ.out F.out.1, vd1, wp4, ?_⟩
        exact F.out.2
      · clear NA
        go_wp2
        go_ret
        refine ⟨_, rfl, rfl, HKZ.out, vd1, wp1, ?_⟩
        exact HZ.out
  · have hw : want s kNumber st = .bad eSyntax st.t.pos := by unfold want fail; rw [if_neg hk]
    have e2 : number s least most st = .bad eSyntax st.t.pos := by unfold number; rw [hw]; rfl
    rw [e2]
    have hwant := want_any h kNumber
    rw [hw] at hwant
    have HW := Lib.hid hwant
    clear hwant e2 hw hk h ok
    unfold vs at *
    go_enter Tryd.func28, Tryd.ntmps28
    go_wp2_with fail
    refine HW.out.mono ?_
    rintro e w1 ⟨gf, rfl, hF⟩
    go_wp2
    exact ⟨rfl, gf, rfl, hF⟩
end
end Go.Proofs.YtemppijblfflgaaDoor.Ev
namespace Go.Proofs.YtemppijblfflgaaDoor.Ev
open Go Go.RowKit Go.Shelf

theorem findFrom_miss (name : Bytes) : ∀ (l : List Decl) (k : Nat), (∀ (j : Nat) (d : Decl), l[j]? = some d → d.name ≠ name) → findFrom name l k = -1
  | [], k, _ => rfl
  | d :: l, k, h => by
    rw [findFrom, if_neg (h 0 d rfl)]
    exact findFrom_miss name l (k + 1) (fun j d' hd => h (j + 1) d' hd)
theorem findFrom_hit (name : Bytes) : ∀ (l : List Decl) (k i : Nat) (d : Decl), l[i]? = some d → d.name = name → (∀ (j : Nat) (d : Decl), j < i → l[j]? = some d → d.name ≠ name) → findFrom name l k = ((k + i : Nat) : Int)
  | [], k, i, d, h, _, _ => by simp at h
  | d' :: l, k, 0, d, h, hn, _ => by
    simp only [List.getElem?_cons_zero, Option.some.injEq] at h
    subst h
    rw [findFrom, if_pos hn]
    rfl
  | d' :: l, k, i + 1, d, h, hn, hlt => by
    rw [findFrom, if_neg (hlt 0 d' (Nat.succ_pos _) rfl), findFrom_hit name l (k + 1) i d (by simpa using h) hn (fun j x hj hx => hlt (j + 1) x (by omega) (by simpa using hx))]
    congr 1
    omega

set_option maxRecDepth 100000 in
set_option maxHeartbeats 400000 in
theorem find1_any (name : Bytes) (b : Nat) (d : Decl) (w : World) (hb : b < w.heap.size) (hc : w.cell? ⟨b, 0, none⟩ = some (vs name)) :
    Calls Tryd.prog 43 #[.agg (encDecl d).toArray, .pointer (some ⟨b, 0, none⟩)] w fun e w' => e = .returned (.bool (d.name == name)) ∧ Below w.heap.size w w' := by
  have hne : b ≠ w.heap.size := by omega
  unfold encDecl vs at *
  go_enter Tryd.func43, Tryd.ntmps43
  go_wp2
  all_goals (go_ret; exact ⟨by simp_all, (Below.refl _ w).alloc (Nat.le_refl _) _⟩)

theorem Sl.any_ {S : Nat → Prop} {w : World} {e : TypeId} {size : Nat} {v : Value} {n : Nat} {xs : List Value} (h : Sl S w e size v n xs) : ∃ ao cap, v = .slice ao n cap := by
  obtain ⟨⟨_, h1⟩, h2⟩ := h
  rcases h1 with ⟨h1, h0⟩ | ⟨g, cap, cur, rfl, _⟩
  · subst h0; exact ⟨_, _, h1⟩
  · exact ⟨_, _, rfl⟩

theorem Sl.get_ {S : Nat → Prop} {w : World} {e : TypeId} {size : Nat} {ao : Option Addr} {cap : Nat} {α : Type} {f : α → List Value} {l : List α} (h : Sl S w e size (.slice ao l.length cap) l.length (l.flatMap f)) (hk : ∀ x, (f x).length = size)
    {i : Nat} {x : α} (hx : l[i]? = some x) : ∃ g, ao = some ⟨g, 0, none⟩ ∧ g < w.heap.size ∧ ∀ j, j < size → w.cell? ⟨g, i * size + j, none⟩ = (f x)[j]? := by
  have hi : i < l.length := (List.getElem?_eq_some_iff.1 hx).1
  obtain ⟨g, cap', h1, _, _, _, h2⟩ := h.form (by omega)
  injection h1 with h1 h3 h4
  subst h1
  subst h4
  exact ⟨g, rfl, h2, fun j hj => h.at_ hk hx hj⟩

set_option maxRecDepth 100000 in
set_option maxHeartbeats 1000000 in
theorem index_any {S : Nat → Prop} (name : Bytes) (b : Nat) (l : List Decl) (vd : Value) (w : World) (hs : Sl S w 110 3 vd l.length (l.flatMap encDecl)) (hl : l.length ≤ 1000) (hb : b < w.heap.size) (hc : w.cell? ⟨b, 0, none⟩ = some (vs name)) :
    Calls Tryd.prog 42 #[vd, .func (.func 43) #[] #[.pointer (some ⟨b, 0, none⟩)]] w fun e w' => e = .returned (.int .i64 (find l name)) ∧ Below w.heap.size w w' := by
  obtain ⟨ao, cap, rfl⟩ := hs.any_
  have HS := Lib.hid hs
  have HC := Lib.hid hc
  have HB := Lib.hid hb
  clear hs hc hb
  go_enter Tryd.func42, Tryd.ntmps42
  go_wp2
  go_loopg [5, 8] l.length (fun gg _ s8 wr => ∃ kk : Nat, kk ≤ l.length ∧ l.length - kk ≤ gg ∧ s8 = .int .i64 kk ∧ Below w.heap.size w wr ∧ (∀ (j : Nat) (d : Decl), j < kk → l[j]? = some d → d.name ≠ name))
  case atStart => exact ⟨0, Nat.zero_le _, by omega, rfl, Below.refl _ w, fun j d hj => absurd hj (Nat.not_lt_zero _)⟩
  case round =>
    obtain ⟨kk, hkk, hg, rfl, bw, a⟩ := hrel
    have BW := Lib.hid bw
    have A := Lib.hid a
    clear bw a
    by_cases hlt : kk < l.length
    · obtain ⟨x, hx⟩ : ∃ x, l[kk]? = some x := ⟨_, List.getElem?_eq_getElem hlt⟩
      obtain ⟨gd, rfl, hgd, hcell⟩ := HS.out.get_ (fun _ => rfl) hx
      have c0 : wr.cell? ⟨gd, kk * 3, none⟩ = some (.int .i64 x.kind) := (BW.out.cell (p := ⟨gd, kk * 3, none⟩) hgd).trans (hcell 0 (by omega))
      have c1 : wr.cell? ⟨gd, kk * 3 + 1, none⟩ = some (vs x.name) := (BW.out.cell (p := ⟨gd, kk * 3 + 1, none⟩) hgd).trans (hcell 1 (by omega))
      have c2 : wr.cell? ⟨gd, kk * 3 + 2, none⟩ = some (.int .i64 x.max) := (BW.out.cell (p := ⟨gd, kk * 3 + 2, none⟩) hgd).trans (hcell 2 (by omega))
      have hcall := find1_any name b x wr (Nat.lt_of_lt_of_le HB.out BW.out.size) ((BW.out.cell (p := ⟨b, 0, none⟩) HB.out).trans HC.out)
      have HX := Lib.hid hx
      clear hx hcell hgd
      unfold vs at *
      by_cases hn : x.name = name
      · have e1 : (x.name == name) = true := by simpa using hn
        rw [e1] at hcall
        have HCA := Lib.hid hcall
        have HN := Lib.hid hn
        clear hcall hn e1
        go_wp2_with fail
        refine HCA.out.mono ?_
        rintro e w' ⟨rfl, hb'⟩
        have HBW := Lib.hid hb'
        clear hb'
        go_wp2
        go_ret
        refine ⟨?_, BW.out.trans (HBW.out.mono BW.out.size)⟩
        unfold find
        rw [findFrom_hit name l 0 kk x HX.out HN.out A.out, Nat.zero_add]
        rfl
      · have e1 : (x.name == name) = false := by simpa using hn
        rw [e1] at hcall
        have HCA := Lib.hid hcall
        have HN := Lib.hid hn
        clear hcall hn e1
        go_wp2_with fail
        refine HCA.out.mono ?_
        rintro e w' ⟨rfl, hb'⟩
        have HBW := Lib.hid hb'
        clear hb'
        go_wp2
        go_roundg (l.length - (kk + 1))
        case measure => omega
        case rel =>
          refine ⟨kk + 1, by omega, by omega, by go_num, BW.out.trans (HBW.out.mono BW.out.size), fun j d hj hd => ?_⟩
          by_cases e : j = kk
          · subst e
            rw [HX.out] at hd
            injection hd with hd
            exact hd ▸ HN.out
          · exact A.out j d (by omega) hd
    · have : kk = l.length := by omega
      subst this
      go_wp2
      go_ret
      refine ⟨?_, BW.out⟩
      unfold find
      rw [findFrom_miss name l 0 (fun j d hd => A.out j d (List.getElem?_eq_some_iff.1 hd).1 hd)]
      rfl

set_option maxRecDepth 100000 in
set_option maxHeartbeats 1000000 in
theorem find_any {S : Nat → Prop} (name : Bytes) (gp : Nat) (l : List Decl) (vd : Value) (w : World) (hs : Sl S w 110 3 vd l.length (l.flatMap encDecl)) (hl : l.length ≤ 1000) (hg : gp < w.heap.size) (hc : w.cell? ⟨gp, 0, none⟩ = some vd) :
    Calls Tryd.prog 29 #[.pointer (some ⟨gp, 0, none⟩), vs name] w fun e w' => e = .returned (.int .i64 (find l name)) ∧ Below w.heap.size w w' := by
  have hne : gp ≠ w.heap.size := by omega
  have hmf : ∀ (fn : Fn) (first cap : Array Value) (w : World), (Instr.makeFunc fn first cap).run Tryd.prog w = .ok (.func fn first cap) w := fun _ _ _ _ => rfl
  have hidx := index_any name w.heap.size l vd (w.alloc (.cells #[vs name] 9)) (hs.alloc _) hl (by simp) (by simp)
  obtain ⟨ao, cap, rfl⟩ := hs.any_
  have HI := Lib.hid hidx
  clear hidx hs
  unfold vs at *
  go_enter Tryd.func29, Tryd.ntmps29
  go_wp2_with fail
  trace_state
  refine HI.out.mono ?_
  rintro e w' ⟨rfl, hb'⟩
  have HBW := Lib.hid hb'
  clear hb'
  go_wp2
  go_ret
  exact ⟨rfl, ((Below.refl _ w).alloc (Nat.le_refl _) _).trans (HBW.out.mono (by simp))⟩
end Go.Proofs.YtemppijblfflgaaDoor.Ev
namespace Go.Proofs.YtemppijblfflgaaDoor.Ev
open Go Go.RowKit

theorem findFrom_cases (name : Bytes) : ∀ (l : List Decl) (k : Nat), findFrom name l k = -1 ∨ ∃ (i : Nat) (d : Decl), l[i]? = some d ∧ findFrom name l k = ((k + i : Nat) : Int)
  | [], k => .inl rfl
  | d :: l, k => by
    by_cases h : d.name = name
    · exact .inr ⟨0, d, rfl, by rw [findFrom, if_pos h]; rfl⟩
    · rcases findFrom_cases name l (k + 1) with h1 | ⟨i, d', h1, h2⟩
      · exact .inl (by rw [findFrom, if_neg h, h1])
      · exact .inr ⟨i + 1, d', by simpa using h1, by rw [findFrom, if_neg h, h2]; congr 1; omega⟩
theorem find_cases (l : List Decl) (name : Bytes) : find l name = -1 ∨ ∃ (i : Nat) (d : Decl), l[i]? = some d ∧ find l name = (i : Int) ∧ declAt l (i : Int) = d := by
  rcases findFrom_cases name l 0 with h | ⟨i, d, h1, h2⟩
  · exact .inl h
  · exact .inr ⟨i, d, h1, by unfold find; rw [h2, Nat.zero_add], by unfold declAt; simp [h1]⟩

section
variable {B : Nat} {ea : Nat → Addr} {w : World} {g gp bm : Nat} {vd wp : Value} {s : Bytes} {st : PS}

theorem RdR.below (h : RdR B ea w g gp bm vd wp s st) {w' : World} (hb : Below w.heap.size w w') : RdR B ea w' g gp bm vd wp s st :=
  h.kg_same (Kept.of_below hb (fun k hk => .inr hk)) (hb.block g h.row.lt)
theorem RdR.drewN (h : RdR B ea w g gp bm vd wp s st) (n : Nat) : RdR B ea (w.drewN n) g gp bm vd wp s st := h.kg_same ((Kept.refl _ w).drewN n) rfl
theorem kg_below {g : Nat} {w w' : World} (hb : Below w.heap.size w w') : Kg g w w' := Kept.of_below hb (fun k hk => .inr hk)

set_option maxRecDepth 100000 in
set_option maxHeartbeats 1000000 in
theorem name_any (h : RdR B ea w g gp bm vd wp s st) (variable_ : Bool) :
    Calls Tryd.prog 31 #[.pointer (some ⟨g, 0, none⟩), .bool variable_] w fun e w' => OutR B ea w g gp bm s (name s variable_ st) (fun _ n v => v = .int .i64 n) e w' := by
  by_cases hk : st.t.kind = kName
  · have hw : want s kName st = .ok st.t (next s st) := by unfold want; rw [if_pos hk]
    have e2 : name s variable_ st = .ok (find (next s st).decls st.t.text) (nameNote variable_ st.t (next s st)) := by
      unfold name; rw [hw]; rfl
    rw [e2]
    have hwant := want_any h kName
    rw [hw] at hwant
    have HW := Lib.hid hwant
    clear hwant e2 hw hk h
    generalize next s st = st1 at *
    unfold vs at *
    go_enter Tryd.func31, Tryd.ntmps31
    go_wp2_with fail
    refine HW.out.mono ?_
    rintro e w1 ⟨v, rfl, rfl, hk1, vd1, wp1, h1⟩
    have hA0 := h1.alloc (.cells #[vs st.t.kind, vs st.t.text, .int .i64 st.t.pos] 62)
    have hA := hA0.drewN 1
    have hkA := (hk1.alloc (.inr hk1.size) (.cells #[vs st.t.kind, vs st.t.text, .int .i64 st.t.pos] 62)).drewN 1
    have x0 := (Row.new w1 62 [vs st.t.kind, vs st.t.text, .int .i64 st.t.pos])
    have hfind := find_any st.t.text gp st1.decls vd1 _ hA.decls hA.dl hA.pol.lt (hA.pol.cell 0)
    obtain ⟨_, _, _, _, _, c5, _⟩ := rd_cell hA0.row
    have d1 := x0.cell 1
    simp at d1
    have HF := Lib.hid hfind
    have HA := Lib.hid hA
    have HKA := Lib.hid hkA
    have X0 := Lib.hid x0
    have H1 := Lib.hid h1
    clear hfind hA hA0 hkA x0 h1 hk1
    unfold encTok
    go_wp2_with fail
    (refine wp_tail 6 (by kernel_rfl) (by kernel_rfl) ?_; simp only [List.take_succ_cons, List.take_zero, List.drop_succ_cons, List.drop_zero]; repeat still_step)
    refine wpStill_nil ?_
    go_wp2_with fail
    refine HF.out.mono ?_
    rintro e w2 ⟨rfl, hb2⟩
    have h2 := HA.out.below hb2
    have hk2 := Kg.trans HKA.out (kg_below hb2)
    have x2 : Row w2 w1.heap.size 62 [vs st.t.kind, vs st.t.text, .int .i64 st.t.pos] := (hb2.block _ (by simp)).trans X0.out
    have d2 := x2.cell 2
    simp at d2
    obtain ⟨_, _, _, _, _, c5', _⟩ := rd_cell h2.row
    have p0 := h2.pol.cell 0
    have en : w2.cell? ⟨9, 0, none⟩ = some (.iface 171 (.pointer (some (ea 5)))) := h2.env.err 5 (by omega) (by omega)
    have ek : w2.cell? ⟨10, 0, none⟩ = some (.iface 171 (.pointer (some (ea 6)))) := h2.env.err 6 (by omega) (by omega)
    have n5 := note_any h2 5 st.t.pos
    have n6 := note_any h2 6 st.t.pos
    have N5 := Lib.hid n5
    have N6 := Lib.hid n6
    have DL := Lib.hid h2.decls
    have H2 := Lib.hid h2
    have HK2 := Lib.hid hk2
    clear n5 n6 h2 hk2 x2 hb2 c5 d1
    rcases find_cases st1.decls st.t.text with hf | ⟨i, d, hi, hf, hd⟩
    · have ev : nameNote variable_ st.t st1 = note eNone st.t.pos st1 := by unfold nameNote; rw [hf]; rfl
      rw [hf]
      go_wp2_with fail
      refine N5.out.mono ?_
      rintro e w3 ⟨rfl, hk3, wp3, h3⟩
      have F := Lib.hid (And.intro hk3 h3)
      clear hk3 h3
      go_wp2
      go_ret
      refine ⟨_, rfl, by rw [hf]; rfl, Kg.trans HK2.out F.out.1, vd1, wp3, ?_⟩
      rw [ev]
      exact F.out.2
    · obtain ⟨ao, cap, rfl⟩ := H2.out.decls.any_
      obtain ⟨gd, rfl, hgd, hcell⟩ := DL.out.get_ (fun _ => rfl) hi
      have q0 : w2.cell? ⟨gd, i * 3, none⟩ = some (.int .i64 d.kind) := hcell 0 (by omega)
      have hil : i < st1.decls.length := (List.getElem?_eq_some_iff.1 hi).1
      have ev : nameNote variable_ st.t st1 = if (d.kind == 2) != variable_ then note eKind st.t.pos st1 else st1 := by
        unfold nameNote; rw [hf, if_neg (by omega), hd]
      clear hcell hd hi
      rw [hf]
      by_cases h2 : d.kind = 2
      · have h2' : (d.kind : Int) = 2 := by omega
        cases variable_ with
        | true =>
          have ev : nameNote true st.t st1 = st1 := by rw [ev, h2]; rfl
          clear h2
          go_wp2
          go_ret
          refine ⟨_, rfl, by rw [hf]; rfl, HK2.out, .slice (some ⟨gd, 0, none⟩) st1.decls.length cap, wp1, ?_⟩
          rw [ev]
          exact H2.out
        | false =>
          have ev : nameNote false st.t st1 = note eKind st.t.pos st1 := by rw [ev, h2]; rfl
          clear h2
          go_wp2_with fail
          refine N6.out.mono ?_
          rintro e w3 ⟨rfl, hk3, wp3, h3⟩
          have F := Lib.hid (And.intro hk3 h3)
          clear hk3 h3
          go_wp2
          go_ret
          refine ⟨_, rfl, by rw [hf]; rfl, Kg.trans HK2.out F.out.1, .slice (some ⟨gd, 0, none⟩) st1.decls.length cap, wp3, ?_⟩
          rw [ev]
          exact F.out.2
      · have h2' : ¬ (d.kind : Int) = 2 := by omega
        have h2b : (d.kind == 2) = false := by simpa using h2
        have h2c : ((d.kind : Int) == 2) = false := by simpa using h2'
        cases variable_ with
        | true =>
          have ev : nameNote true st.t st1 = note eKind st.t.pos st1 := by rw [ev, h2b]; rfl
          clear h2 h2b
          go_wp2_with fail
          refine N6.out.mono ?_
          rintro e w3 ⟨rfl, hk3, wp3, h3⟩
          have F := Lib.hid (And.intro hk3 h3)
          clear hk3 h3
          go_wp2
          go_ret
          refine ⟨_, rfl, by rw [hf]; rfl, Kg.trans HK2.out F.out.1, .slice (some ⟨gd, 0, none⟩) st1.decls.length cap, wp3, ?_⟩
          rw [ev]
          exact F.out.2
        | false =>
          have ev : nameNote false st.t st1 = st1 := by rw [ev, h2b]; rfl
          clear h2 h2b
          go_wp2
          go_ret
          refine ⟨_, rfl, by rw [hf]; rfl, HK2.out, .slice (some ⟨gd, 0, none⟩) st1.decls.length cap, wp1, ?_⟩
          rw [ev]
          exact H2.out
  · have hw : want s kName st = .bad eSyntax st.t.pos := by unfold want fail; rw [if_neg hk]
    have e2 : name s variable_ st = .bad eSyntax st.t.pos := by unfold name; rw [hw]; rfl
    rw [e2]
    have hwant := want_any h kName
    rw [hw] at hwant
    have HW := Lib.hid hwant
    clear hwant e2 hw hk h
    unfold vs at *
    go_enter Tryd.func31, Tryd.ntmps31
    go_wp2_with fail
    refine HW.out.mono ?_
    rintro e w1 ⟨gf, rfl, hF⟩
    go_wp2
    exact ⟨rfl, gf, rfl, hF⟩
end
end Go.Proofs.YtemppijblfflgaaDoor.Ev
namespace Go.Proofs.YtemppijblfflgaaDoor.Ev
open Go Go.RowKit

theorem results_cell {P : Program} {fn : Func} {r : Nat} {t : TypeId} {e : TypeId} {R : Nat} {cs : List Value} {w : World} {tmps : Array Value} (h : fn.results = #[.cell r t])
    (ha : ∀ w, (isAgg t).run P w = .ok true w) (hz : ∀ w, (Go.sizeOf t).run P w = .ok cs.length w) (hp : tmps.getD r undef = .pointer (some ⟨R, 0, none⟩)) (hr : Row w R e cs) :
    (results fn tmps).run P w = .ok (.agg cs.toArray) w := by
  have hl := run_loadCells_list (P := P) (w := w) ⟨R, 0, none⟩ cs (fun j v hj => by
    have := hr.cell j
    rw [hj] at this
    by_cases hj0 : j = 0
    · subst hj0; simpa [Addr.add] using this
    · simpa [Addr.add, hj0] using this)
  have hq : tmps[r]?.getD undef = .pointer (some ⟨R, 0, none⟩) := by simpa [Array.getD_eq_getD_getElem?] using hp
  simp [results, h, hq, asAddr, loadVar, ha, hz, hl]

/-- The reader behind some calls of this one's, beside a block R of this call's own. -/
structure Held (B : Nat) (ea : Nat → Addr) (g gp bm : Nat) (vd wp : Value) (s : Bytes) (st : PS) (w0 w : World) (R : Nat) (T : TypeId) (cs : List Value) : Prop where
  rd : RdR B ea w g gp bm vd wp s st
  kg : Kg g w0 w
  row : Row w R T cs
  new : w0.heap.size ≤ R
  b : B ≤ R
  t : T ≠ 47 ∧ T ≠ 110 ∧ T ≠ 43 ∧ T ≠ 64

section
variable {B : Nat} {ea : Nat → Addr} {w w0 : World} {g gp bm R : Nat} {vd wp : Value} {s : Bytes} {st : PS} {T : TypeId} {cs : List Value}

theorem Held.start (h : RdR B ea w g gp bm vd wp s st) (T : TypeId) (cs : List Value) (ht : T ≠ 47 ∧ T ≠ 110 ∧ T ≠ 43 ∧ T ≠ 64) :
    Held B ea g gp bm vd wp s st w (w.alloc (.cells cs.toArray T)) w.heap.size T cs :=
  ⟨h.alloc _, (Kept.refl _ _).alloc (.inr (Nat.le_refl _)) _, Row.new _ _ _, Nat.le_refl _, h.env.size, ht⟩

theorem Held.ne (h : Held B ea g gp bm vd wp s st w0 w R T cs) : R ≠ g := h.row.ne_ h.rd.row h.t.2.2.2

theorem Held.call (h : Held B ea g gp bm vd wp s st w0 w R T cs) {w' : World} {st' : PS} {vd' wp' : Value} (hk : Kg g w w') (hr : RdR B ea w' g gp bm vd' wp' s st') : Held B ea g gp bm vd' wp' s st' w0 w' R T cs :=
  ⟨hr, Kg.trans h.kg hk, (kg_at hk h.row.lt h.ne).trans h.row, h.new, h.b, h.t⟩

theorem Held.set_ (h : Held B ea g gp bm vd wp s st w0 w R T cs) (hs : T ≠ 136) (i : Nat) (u : Value) : Held B ea g gp bm vd wp s st w0 (w.setCell ⟨R, i, none⟩ u) R T (cs.set i u) :=
  ⟨h.rd.set_ h.b h.row ⟨h.t.1, h.t.2.1, hs, h.t.2.2.1⟩ h.t.2.2.2 i u, h.kg.setCell (p := ⟨R, i, none⟩) (.inr h.new) u, h.row.set_ i u, h.new, h.b, h.t⟩
end
end Go.Proofs.YtemppijblfflgaaDoor.Ev
namespace Go.Proofs.YtemppijblfflgaaDoor.Ev

/-- On from st to st': nothing but the place and what is wrong has turned. -/
structure Fwd (s : Bytes) (st st' : PS) : Prop where
  ok : st'.Ok s
  left : left s st' ≤ left s st
  decls : st'.decls = st.decls
  freq : st'.freq = st.freq
  fseen : st'.fseen = st.fseen
  rules : st'.rules = st.rules
  depth : st'.depth = st.depth
  loops : st'.loops = st.loops
  wrong : st'.wrong = none → st.wrong = none

section
variable {s : Bytes} {st st' st'' : PS}
theorem Fwd.refl (h : st.Ok s) : Fwd s st st := ⟨h, Nat.le_refl _, rfl, rfl, rfl, rfl, rfl, rfl, id⟩
theorem Fwd.trans (h : Fwd s st st') (k : Fwd s st' st'') : Fwd s st st'' :=
  ⟨k.ok, Nat.le_trans k.left h.left, k.decls.trans h.decls, k.freq.trans h.freq, k.fseen.trans h.fseen, k.rules.trans h.rules, k.depth.trans h.depth, k.loops.trans h.loops, fun x => h.wrong (k.wrong x)⟩
theorem Fwd.next (h : st.Ok s) : Fwd s st (next s st) := by
  refine ⟨next_ok h, ?_, rfl, rfl, rfl, rfl, rfl, rfl, id⟩
  obtain ⟨a, b, c, d⟩ := lex_facts s st.i h.i
  have := h.pos
  unfold Ev.left
  show s.length + 1 - (lex s st.i).1.pos ≤ _
  omega
theorem note_t (e pos : Nat) (st : PS) : (note e pos st).t = st.t ∧ (note e pos st).i = st.i := by unfold note; cases st.wrong <;> exact ⟨rfl, rfl⟩
theorem Fwd.note (h : st.Ok s) (e pos : Nat) : Fwd s st (note e pos st) := by
  obtain ⟨a, b⟩ := note_t e pos st
  refine ⟨⟨by rw [b]; exact h.i, by rw [a, b]; exact h.pos, by rw [a, b]; exact h.more, by rw [a]; exact h.num, by rw [a]; exact h.name⟩, by unfold Ev.left; rw [a]; exact Nat.le_refl _, ?_, ?_, ?_, ?_, ?_, ?_, ?_⟩
  all_goals unfold Ev.note
  all_goals cases hw : st.wrong <;> simp_all
theorem note_wrong (e pos : Nat) (st : PS) : (note e pos st).wrong ≠ none := by
  unfold note; cases hw : st.wrong <;> simp [hw]

theorem want_ok {k : Bytes} {t : Tok} (h : want s k st = .ok t st') : st.t.kind = k ∧ t = st.t ∧ st' = next s st := by
  unfold want at h
  split at h
  · injection h with h1 h2; exact ⟨by assumption, h1.symm, h2.symm⟩
  · cases h

theorem bind_ok {α β : Type} {x : Out α} {f : α → PS → Out β} {b : β} {st : PS} (h : x.bind f = .ok b st) : ∃ a st1, x = .ok a st1 ∧ f a st1 = .ok b st := by
  cases x with
  | ok a st1 => exact ⟨a, st1, rfl, h⟩
  | bad e p => cases h
theorem map_ok {α β : Type} {x : Out α} {f : α → β} {b : β} {st : PS} (h : x.map f = .ok b st) : ∃ a, x = .ok a st ∧ f a = b := by
  cases x with
  | ok a st1 => injection h with h1 h2; exact ⟨a, by rw [h2], h1⟩
  | bad e p => cases h

theorem next_lt (h : st.Ok s) {k : Bytes} (hk : st.t.kind = k) (h1 : k ≠ kEnd) (h2 : k ≠ kNone) : left s (next s st) < left s st :=
  next_left h (by rw [hk]; exact h1) (by rw [hk]; exact h2)

theorem number_ok {least most n : Int} (h : st.Ok s) (e : number s least most st = .ok n st') : Fwd s st st' ∧ left s st' < left s st ∧ (st'.wrong = none → least ≤ n ∧ n ≤ most) := by
  unfold number at e
  obtain ⟨t, st1, e1, e2⟩ := bind_ok e
  obtain ⟨hk, rfl, rfl⟩ := want_ok e1
  injection e2 with e2 e3
  subst e2
  have h1 := next_ok h
  have hl := next_lt h hk (by decide) (by decide)
  split at e3
  · subst e3
    have f := Fwd.note h1 eNumber st.t.pos
    exact ⟨(Fwd.next h).trans f, Nat.lt_of_le_of_lt f.left hl, fun hw => absurd hw (note_wrong _ _ _)⟩
  · subst e3
    exact ⟨Fwd.next h, hl, fun _ => by omega⟩

theorem findFrom_range (name : Bytes) : ∀ (l : List Decl) (k : Nat), findFrom name l k = -1 ∨ ∃ (i : Nat) (d : Decl), l[i]? = some d ∧ d.name = name ∧ findFrom name l k = ((k + i : Nat) : Int)
  | [], k => .inl rfl
  | d :: l, k => by
    by_cases h : d.name = name
    · exact .inr ⟨0, d, rfl, h, by rw [findFrom, if_pos h]; rfl⟩
    · rcases findFrom_range name l (k + 1) with h1 | ⟨i, d', h1, h3, h2⟩
      · exact .inl (by rw [findFrom, if_neg h, h1])
      · exact .inr ⟨i + 1, d', by simpa using h1, h3, by rw [findFrom, if_neg h, h2]; congr 1; omega⟩

/-- A name's number: of a variable, or not. -/
def NameW (l : List Decl) (v : Bool) (k : Int) : Prop := Ix l.length k ∧ ((declAt l k).kind == 2) = v

theorem name_ok {v : Bool} {k : Int} (h : st.Ok s) (e : name s v st = .ok k st') : Fwd s st st' ∧ left s st' < left s st ∧ (st'.wrong = none → NameW st.decls v k) := by
  unfold name at e
  obtain ⟨t, st1, e1, e2⟩ := bind_ok e
  obtain ⟨hk, rfl, rfl⟩ := want_ok e1
  injection e2 with e2 e3
  have h1 := next_ok h
  have hl := next_lt h hk (by decide) (by decide)
  have hd : (next s st).decls = st.decls := rfl
  unfold nameNote at e3
  rw [hd] at e2 e3
  split at e3
  · subst e3
    have f := Fwd.note h1 eNone st.t.pos
    exact ⟨(Fwd.next h).trans f, Nat.lt_of_le_of_lt f.left hl, fun hw => absurd hw (note_wrong _ _ _)⟩
  · split at e3
    · subst e3
      have f := Fwd.note h1 eKind st.t.pos
      exact ⟨(Fwd.next h).trans f, Nat.lt_of_le_of_lt f.left hl, fun hw => absurd hw (note_wrong _ _ _)⟩
    · rename_i h0 h2
      subst e3
      refine ⟨Fwd.next h, hl, fun _ => ⟨?_, ?_⟩⟩
      · rcases findFrom_range st.t.text st.decls 0 with hf | ⟨i, d, hi, _, hf⟩
        · exact absurd (show find st.decls st.t.text < 0 by unfold find; omega) h0
        · have := (List.getElem?_eq_some_iff.1 hi).1
          rw [← e2]
          unfold find Ix
          rw [hf]
          omega
      · rw [← e2]
        simpa using h2

/-! ## What stands in a tree that was read -/
def ValW (l : List Decl) : Val → Prop
  | .num n => 0 ≤ n ∧ n ≤ 999
  | .var n => NameW l true n
  | .len n => NameW l false n
  | .freq => True
def CKW (l : List Decl) : CK → Prop
  | .full n => NameW l false n
  | .empty n => NameW l false n
  | .warm n => NameW l false n
  | .less a b => ValW l a ∧ ValW l b
def PrimW (l : List Decl) : Prim → Prop
  | .put q _ => NameW l false q
  | .evict q => NameW l false q
  | .cool q => NameW l false q
  | .shift q p _ => NameW l false q ∧ NameW l false p
  | .inc v => NameW l true v
  | .dec v => NameW l true v
  | _ => True
def BlkW (l : List Decl) : Blk → Prop
  | .nil => True
  | .prim p r => PrimW l p ∧ BlkW l r
  | .ite c t o e r => CKW l c.k ∧ BlkW l t ∧ BlkW l e ∧ BlkW l r
  | .rep n c b r => CKW l c.k ∧ BlkW l b ∧ BlkW l r ∧ 1 ≤ n ∧ n ≤ 50

/-- What holds of every tree that was read: no else, no statements of it; how deep; how large. -/
def Blk.Form : Blk → Prop
  | .nil => True
  | .prim _ r => r.Form
  | .ite _ t o e r => t.Form ∧ e.Form ∧ r.Form ∧ (o = false → e = .nil)
  | .rep _ _ b r => b.Form ∧ r.Form
def Blk.deep : Blk → Nat
  | .nil => 0
  | .prim _ r => r.deep
  | .ite _ t o e r => max (1 + t.deep) (max (if o then 1 + e.deep else 0) r.deep)
  | .rep _ _ b r => max (1 + b.deep) r.deep
def Blk.nest : Blk → Nat
  | .nil => 0
  | .prim _ r => r.nest
  | .ite _ t _ e r => max t.nest (max e.nest r.nest)
  | .rep _ _ b r => max (1 + b.nest) r.nest
def Blk.size : Blk → Nat
  | .nil => 0
  | .prim _ r => 1 + r.size
  | .ite _ t _ e r => 1 + t.size + e.size + r.size
  | .rep _ _ b r => 1 + b.size + r.size

theorem app_W {l : List Decl} : ∀ (b r : Blk), BlkW l (b.app r) ↔ BlkW l b ∧ BlkW l r
  | .nil, r => by simp [Blk.app, BlkW]
  | .prim p x, r => by simp [Blk.app, BlkW, app_W x r, and_assoc]
  | .ite c t o e x, r => by simp [Blk.app, BlkW, app_W x r, and_assoc]
  | .rep n c b x, r => by
    simp only [Blk.app, BlkW, app_W x r]
    constructor
    · rintro ⟨a, b, ⟨c, d⟩, e⟩; exact ⟨⟨a, b, c, e⟩, d⟩
    · rintro ⟨⟨a, b, c, e⟩, d⟩; exact ⟨a, b, ⟨c, d⟩, e⟩
theorem app_Form : ∀ (b r : Blk), b.Form → r.Form → (b.app r).Form
  | .nil, r, _, h => h
  | .prim p x, r, a, h => app_Form x r a h
  | .ite c t o e x, r, ⟨a1, a2, a3, a4⟩, h => ⟨a1, a2, app_Form x r a3 h, a4⟩
  | .rep n c b x, r, ⟨a1, a2⟩, h => ⟨a1, app_Form x r a2 h⟩
theorem app_deep : ∀ (b r : Blk), (b.app r).deep = max b.deep r.deep
  | .nil, r => by simp [Blk.app, Blk.deep]
  | .prim p x, r => by simp [Blk.app, Blk.deep, app_deep x r]
  | .ite c t o e x, r => by simp only [Blk.app, Blk.deep, app_deep x r]; omega
  | .rep n c b x, r => by simp only [Blk.app, Blk.deep, app_deep x r]; omega
theorem app_nest : ∀ (b r : Blk), (b.app r).nest = max b.nest r.nest
  | .nil, r => by simp [Blk.app, Blk.nest]
  | .prim p x, r => by simp [Blk.app, Blk.nest, app_nest x r]
  | .ite c t o e x, r => by simp only [Blk.app, Blk.nest, app_nest x r]; omega
  | .rep n c b x, r => by simp only [Blk.app, Blk.nest, app_nest x r]; omega
theorem app_size : ∀ (b r : Blk), (b.app r).size = b.size + r.size
  | .nil, r => by simp [Blk.app, Blk.size]
  | .prim p x, r => by simp only [Blk.app, Blk.size, app_size x r]; omega
  | .ite c t o e x, r => by simp only [Blk.app, Blk.size, app_size x r]; omega
  | .rep n c b x, r => by simp only [Blk.app, Blk.size, app_size x r]; omega

/-! ## The calls -/
theorem value_ok {v : Val} (h : st.Ok s) (e : value s st = .ok v st') : Fwd s st st' ∧ left s st' < left s st ∧ (st'.wrong = none → ValW st.decls v) := by
  unfold value at e
  split at e
  · obtain ⟨a, e1, rfl⟩ := map_ok e
    exact number_ok h e1
  · split at e
    · rename_i hk
      obtain ⟨a, e1, rfl⟩ := map_ok e
      obtain ⟨f, l, w⟩ := name_ok (next_ok h) e1
      exact ⟨(Fwd.next h).trans f, Nat.lt_trans l (next_lt h hk (by decide) (by decide)), w⟩
    · split at e
      · rename_i hk
        injection e with e1 e2
        subst e1 e2
        exact ⟨Fwd.next h, next_lt h hk (by decide) (by decide), fun _ => trivial⟩
      · obtain ⟨a, e1, rfl⟩ := map_ok e
        exact name_ok h e1

theorem condBase_ok {c : Cond} (h : st.Ok s) (e : condBase s st = .ok c st') : Fwd s st st' ∧ left s st' < left s st ∧ (st'.wrong = none → CKW st.decls c.k) := by
  have one : ∀ {k : Bytes} {f : Int → Cond}, st.t.kind = k → k ≠ kEnd → k ≠ kNone → (∀ n, NameW st.decls false n → CKW st.decls (f n).k) → (name s false (next s st)).map f = .ok c st' →
      Fwd s st st' ∧ left s st' < left s st ∧ (st'.wrong = none → CKW st.decls c.k) := by
    intro k f hk h1 h2 hf e
    obtain ⟨a, e1, rfl⟩ := map_ok e
    obtain ⟨g, l, w⟩ := name_ok (next_ok h) e1
    exact ⟨(Fwd.next h).trans g, Nat.lt_trans l (next_lt h hk h1 h2), fun x => hf _ (w x)⟩
  unfold condBase at e
  split at e
  · rename_i hk; exact one (f := fun n => ⟨.full n, 0⟩) hk (by decide) (by decide) (fun _ x => x) e
  · split at e
    · rename_i hk; exact one (f := fun n => ⟨.empty n, 0⟩) hk (by decide) (by decide) (fun _ x => x) e
    · split at e
      · rename_i hk; exact one (f := fun n => ⟨.warm n, 0⟩) hk (by decide) (by decide) (fun _ x => x) e
      · obtain ⟨a, st1, e1, e2⟩ := bind_ok e
        obtain ⟨t, st2, e3, e4⟩ := bind_ok e2
        obtain ⟨b, e5, rfl⟩ := map_ok e4
        obtain ⟨f1, l1, w1⟩ := value_ok h e1
        obtain ⟨_, _, rfl⟩ := want_ok e3
        have f2 := Fwd.next f1.ok
        obtain ⟨f3, l3, w3⟩ := value_ok f2.ok e5
        refine ⟨(f1.trans f2).trans f3, by have := f2.left; omega, fun x => ⟨w1 (f2.wrong (f3.wrong x)), ?_⟩⟩
        have := w3 x
        rw [f2.decls, f1.decls] at this
        exact this

theorem cond_ok : ∀ {n : Nat} {st : PS} {c : Cond}, st.Ok s → cond s n st = .ok c st' → Fwd s st st' ∧ left s st' < left s st ∧ (st'.wrong = none → CKW st.decls c.k)
  | 0, _, _, _, e => by cases e
  | n + 1, st, c, h, e => by
    unfold cond at e
    split at e
    · rename_i hk
      obtain ⟨a, e1, rfl⟩ := map_ok e
      obtain ⟨f, l, w⟩ := cond_ok (next_ok h) e1
      exact ⟨(Fwd.next h).trans f, Nat.lt_trans l (next_lt h hk (by decide) (by decide)), w⟩
    · exact condBase_ok h e

/-- What is known of a block, or a statement, that was read. -/
structure GotB (s : Bytes) (st st' : PS) (b : Blk) : Prop where
  fwd : Fwd s st st'
  w : st'.wrong = none → BlkW st.decls b
  form : b.Form
  deep : st.depth + b.deep ≤ 8
  nest : st.loops + b.nest ≤ 2
  size : b.size + left s st' ≤ left s st

theorem prim_got {st st' : PS} {x : Prim} (f : Fwd s st st') (l : left s st' < left s st) (w : st'.wrong = none → PrimW st.decls x) (hd : st.depth ≤ 8) (hl : st.loops ≤ 2) : GotB s st st' (.prim x .nil) :=
  ⟨f, fun y => ⟨w y, trivial⟩, trivial, by simp [Blk.deep]; exact hd, by simp [Blk.nest]; exact hl, by simp [Blk.size]; omega⟩

mutual
theorem block_ok : ∀ {n : Nat} {st st' : PS} {b : Blk}, st.Ok s → st.depth ≤ 8 → st.loops ≤ 2 → block s n st = .ok b st' →
    Fwd s st st' ∧ (st'.wrong = none → BlkW st.decls b) ∧ b.Form ∧ st.depth + 1 + b.deep ≤ 8 ∧ st.loops + b.nest ≤ 2 ∧ b.size + 2 + left s st' ≤ left s st
  | 0, _, _, _, _, _, _, e => by unfold block at e; cases e
  | n + 1, st, st', b, h, hd, hl, e => by
    unfold block at e
    split at e
    · cases e
    · rename_i h8
      obtain ⟨t, st1, e1, e2⟩ := bind_ok e
      obtain ⟨b', st2, e3, e4⟩ := bind_ok e2
      obtain ⟨hk, _, rfl⟩ := want_ok e1
      injection e4 with e4 e5
      subst e4
      have f1 := Fwd.next h
      have l1 := next_lt h hk (by decide) (by decide)
      have hd' : st.depth < 8 := by
        rcases Nat.lt_or_ge st.depth 8 with x | x
        · exact x
        · exact absurd ⟨hk, by omega⟩ h8
      have ok1 : ({ next s st with depth := (next s st).depth + 1 } : PS).Ok s := ⟨f1.ok.i, f1.ok.pos, f1.ok.more, f1.ok.num, f1.ok.name⟩
      obtain ⟨g, hkc⟩ := stmts_ok ok1 (by show st.depth + 1 ≤ 8; omega) hl e3
      have g2 : (st2.depth - 1) = st.depth := by have := g.fwd.depth; simp at this; rw [this]; rfl
      have ok2 : ({ st2 with depth := st2.depth - 1 } : PS).Ok s := ⟨g.fwd.ok.i, g.fwd.ok.pos, g.fwd.ok.more, g.fwd.ok.num, g.fwd.ok.name⟩
      have f3 := Fwd.next ok2
      have l3 : left s (next s { st2 with depth := st2.depth - 1 }) < left s st2 := next_lt ok2 hkc (by decide) (by decide)
      have gl := g.size
      have gl' : b'.size + left s st2 ≤ left s (next s st) := gl
      subst e5
      refine ⟨⟨f3.ok, by omega, f3.decls.trans g.fwd.decls, f3.freq.trans g.fwd.freq, f3.fseen.trans g.fwd.fseen, f3.rules.trans g.fwd.rules, f3.depth.trans g2, f3.loops.trans g.fwd.loops, fun x => g.fwd.wrong (f3.wrong x)⟩,
        fun x => g.w (f3.wrong x), g.form, g.deep, g.nest, by omega⟩
theorem stmts_ok : ∀ {n : Nat} {st st' : PS} {b : Blk}, st.Ok s → st.depth ≤ 8 → st.loops ≤ 2 → stmts s n st = .ok b st' → GotB s st st' b ∧ st'.t.kind = kClose
  | 0, _, _, _, _, _, _, e => by unfold stmts at e; cases e
  | n + 1, st, st', b, h, hd, hl, e => by
    unfold stmts at e
    split at e
    · rename_i hk
      injection e with e1 e2
      subst e1 e2
      exact ⟨⟨Fwd.refl h, fun _ => trivial, trivial, by simp [Blk.deep]; exact hd, by simp [Blk.nest]; exact hl, by simp [Blk.size]⟩, hk⟩
    · obtain ⟨x, st1, e1, e2⟩ := bind_ok e
      obtain ⟨r, e3, rfl⟩ := map_ok e2
      have g1 := stmt_ok h hd hl e1
      obtain ⟨g2, hc⟩ := stmts_ok g1.fwd.ok (by rw [g1.fwd.depth]; exact hd) (by rw [g1.fwd.loops]; exact hl) e3
      refine ⟨⟨g1.fwd.trans g2.fwd, fun y => (app_W _ _).2 ⟨g1.w (g2.fwd.wrong y), by have := g2.w y; rw [g1.fwd.decls] at this; exact this⟩, app_Form _ _ g1.form g2.form, ?_, ?_, ?_⟩, hc⟩
      · have a := g1.deep; have b := g2.deep
        rw [g1.fwd.depth] at b
        rw [app_deep]; omega
      · have a := g1.nest; have b := g2.nest
        rw [g1.fwd.loops] at b
        rw [app_nest]; omega
      · have a := g1.size; have b := g2.size
        rw [app_size]; omega
theorem stmt_ok : ∀ {n : Nat} {st st' : PS} {b : Blk}, st.Ok s → st.depth ≤ 8 → st.loops ≤ 2 → stmt s n st = .ok b st' → GotB s st st' b
  | 0, _, _, _, _, _, _, e => by unfold stmt at e; cases e
  | n + 1, st, st', b, h, hd, hl, e => by
    have semi : ∀ {x : Prim} {st1 : PS}, Fwd s st st1 → left s st1 < left s st → (st1.wrong = none → PrimW st.decls x) → ((want s kSemi st1).bind fun _ st => .ok (.prim x .nil) st) = Out.ok b st' → GotB s st st' b := by
      intro x st1 f l w e
      obtain ⟨t, st2, e1, e2⟩ := bind_ok e
      obtain ⟨hk, _, rfl⟩ := want_ok e1
      injection e2 with e2 e3
      subst e2 e3
      have f2 := Fwd.next f.ok
      exact prim_got (f.trans f2) (by have := f2.left; omega) (fun y => w (f2.wrong y)) hd hl
    have tk : ∀ {k : Bytes} {st1 : PS}, st1.Ok s → Fwd s st1 (take s k st1).2 := by
      intro k st1 h1
      unfold take
      split
      · exact Fwd.next h1
      · exact Fwd.refl h1
    have nx : ∀ {k : Bytes}, st.t.kind = k → k ≠ kEnd → k ≠ kNone → Fwd s st (next s st) ∧ left s (next s st) < left s st := fun hk h1 h2 => ⟨Fwd.next h, next_lt h hk h1 h2⟩
    have one : ∀ {k : Bytes} {v : Bool} {x : Int → Prim}, st.t.kind = k → k ≠ kEnd → k ≠ kNone → (∀ q, NameW st.decls v q → PrimW st.decls (x q)) →
        ((name s v (next s st)).bind fun q st => (want s kSemi st).bind fun _ st => .ok (.prim (x q) .nil) st) = Out.ok b st' → GotB s st st' b := by
      intro k v x hk h1 h2 hx e
      obtain ⟨f, l⟩ := nx hk h1 h2
      obtain ⟨q, st1, e1, e2⟩ := bind_ok e
      obtain ⟨f1, l1, w1⟩ := name_ok f.ok e1
      exact semi (f.trans f1) (by omega) (fun y => hx q (w1 y)) e2
    unfold stmt at e
    extract_lets sm at e
    by_cases hk : st.t.kind = kPut
    · rw [if_pos hk] at e
      obtain ⟨f, l⟩ := nx hk (by decide) (by decide)
      obtain ⟨q, st1, e1, e2⟩ := bind_ok e
      obtain ⟨f1, l1, w1⟩ := name_ok f.ok e1
      have f2 := tk (k := kTail) f1.ok
      exact semi (x := .put q (take s kTail st1).1) ((f.trans f1).trans f2) (by have := f2.left; omega) (fun y => w1 (f2.wrong y)) e2
    rw [if_neg hk] at e
    by_cases hk : st.t.kind = kEvict
    · rw [if_pos hk] at e
      exact one (x := .evict) hk (by decide) (by decide) (fun _ x => x) e
    rw [if_neg hk] at e
    by_cases hk : st.t.kind = kCool
    · rw [if_pos hk] at e
      exact one (x := .cool) hk (by decide) (by decide) (fun _ x => x) e
    rw [if_neg hk] at e
    by_cases hk : st.t.kind = kShift
    · rw [if_pos hk] at e
      obtain ⟨f, l⟩ := nx hk (by decide) (by decide)
      obtain ⟨q, st1, e1, e2⟩ := bind_ok e
      obtain ⟨f1, l1, w1⟩ := name_ok f.ok e1
      obtain ⟨q', st2, e3, e4⟩ := bind_ok e2
      obtain ⟨f2, l2, w2⟩ := name_ok f1.ok e3
      have f3 := tk (k := kTail) f2.ok
      refine semi (x := .shift q q' (take s kTail st2).1) (((f.trans f1).trans f2).trans f3) (by have := f3.left; omega) (fun y => ⟨w1 (f2.wrong (f3.wrong y)), ?_⟩) e4
      have := w2 (f3.wrong y)
      rw [f1.decls] at this
      exact this
    rw [if_neg hk] at e
    by_cases hk : st.t.kind = kInc
    · rw [if_pos hk] at e
      exact one (x := .inc) hk (by decide) (by decide) (fun _ x => x) e
    rw [if_neg hk] at e
    by_cases hk : st.t.kind = kDec
    · rw [if_pos hk] at e
      exact one (x := .dec) hk (by decide) (by decide) (fun _ x => x) e
    rw [if_neg hk] at e
    by_cases hk : st.t.kind = kDrop
    · rw [if_pos hk] at e
      obtain ⟨f, l⟩ := nx hk (by decide) (by decide)
      exact semi (x := .drop) f l (fun _ => trivial) e
    rw [if_neg hk] at e
    by_cases hk : st.t.kind = kBump
    · rw [if_pos hk] at e
      obtain ⟨f, l⟩ := nx hk (by decide) (by decide)
      exact semi (x := .bump) f l (fun _ => trivial) e
    rw [if_neg hk] at e
    by_cases hk : st.t.kind = kIf
    · rw [if_pos hk] at e
      obtain ⟨f, l⟩ := nx hk (by decide) (by decide)
      obtain ⟨c, st1, e1, e2⟩ := bind_ok e
      obtain ⟨f1, l1, w1⟩ := cond_ok f.ok e1
      obtain ⟨t, st2, e3, e4⟩ := bind_ok e2
      have d1 : st1.depth = st.depth := (f.trans f1).depth
      have p1 : st1.loops = st.loops := (f.trans f1).loops
      obtain ⟨f2, w2, m2, dd2, nn2, z2⟩ := block_ok f1.ok (by omega) (by omega) e3
      split at e4
      · rename_i hk2
        obtain ⟨el, st3, e5, e6⟩ := bind_ok e4
        have f3 := Fwd.next f2.ok
        have l3 := next_lt f2.ok hk2 (by decide) (by decide)
        have d2 : (next s st2).depth = st.depth := (f2.trans f3).depth.trans d1
        have p2 : (next s st2).loops = st.loops := (f2.trans f3).loops.trans p1
        obtain ⟨f4, w4, m4, dd4, nn4, z4⟩ := block_ok f3.ok (by omega) (by omega) e5
        injection e6 with e6 e7
        subst e6 e7
        have F := (((f.trans f1).trans f2).trans f3).trans f4
        refine ⟨F, fun y => ?_, ⟨m2, m4, trivial, fun x => by cases x⟩, ?_, ?_, ?_⟩
        · have y3 := f4.wrong y
          have y2 := f3.wrong y3
          have y1 := f2.wrong y2
          refine ⟨w1 y1, ?_, ?_, trivial⟩
          · have := w2 y2; rw [f1.decls] at this; exact this
          · have := w4 y; rw [f3.decls, f2.decls, f1.decls] at this; exact this
        · simp only [Blk.deep, if_true]; omega
        · simp only [Blk.nest]; omega
        · simp only [Blk.size]; omega
      · injection e4 with e6 e7
        subst e6 e7
        refine ⟨(f.trans f1).trans f2, fun y => ?_, ⟨m2, trivial, trivial, fun _ => rfl⟩, ?_, ?_, ?_⟩
        · have y1 := f2.wrong y
          refine ⟨w1 y1, ?_, trivial, trivial⟩
          have := w2 y; rw [f1.decls] at this; exact this
        · simp only [Blk.deep, Bool.false_eq_true, if_false]; omega
        · simp only [Blk.nest]; omega
        · simp only [Blk.size]; omega
    rw [if_neg hk] at e
    by_cases hk : st.t.kind = kRepeat
    · rw [if_pos hk] at e
      split at e
      · cases e
      · rename_i h2
        obtain ⟨f, l⟩ := nx hk (by decide) (by decide)
        obtain ⟨k, st1, e1, e2⟩ := bind_ok e
        obtain ⟨f1, l1, w1⟩ := number_ok f.ok e1
        obtain ⟨t, st2, e3, e4⟩ := bind_ok e2
        obtain ⟨hk2, _, rfl⟩ := want_ok e3
        have f2 := Fwd.next f1.ok
        obtain ⟨c, st3, e5, e6⟩ := bind_ok e4
        obtain ⟨f3, l3, w3⟩ := cond_ok f2.ok e5
        obtain ⟨b', st4, e7, e8⟩ := bind_ok e6
        have F3 := ((f.trans f1).trans f2).trans f3
        have ok3 : ({ st3 with loops := st3.loops + 1 } : PS).Ok s := ⟨f3.ok.i, f3.ok.pos, f3.ok.more, f3.ok.num, f3.ok.name⟩
        have d3 := F3.depth
        have p3 := F3.loops
        obtain ⟨f4, w4, m4, dd4, nn4, z4⟩ := block_ok ok3 (by show st3.depth ≤ 8; omega) (by show st3.loops + 1 ≤ 2; omega) e7
        injection e8 with e8 e9
        subst e8 e9
        have dd4' : st3.depth + 1 + b'.deep ≤ 8 := dd4
        have nn4' : st3.loops + 1 + b'.nest ≤ 2 := nn4
        have z4' : b'.size + 2 + left s st4 ≤ left s st3 := z4
        have z5 : left s ({ st4 with loops := st4.loops - 1 } : PS) = left s st4 := rfl
        have hl2 := f2.left
        refine ⟨⟨⟨f4.ok.i, f4.ok.pos, f4.ok.more, f4.ok.num, f4.ok.name⟩, by omega, f4.decls.trans F3.decls, f4.freq.trans F3.freq, f4.fseen.trans F3.fseen, f4.rules.trans F3.rules, f4.depth.trans F3.depth, ?_, fun y => F3.wrong (f4.wrong y)⟩, fun y => ?_, ⟨m4, trivial⟩, ?_, ?_, ?_⟩
        · have := f4.loops
          show st4.loops - 1 = st.loops
          simp at this
          omega
        · have y3 := f4.wrong y
          have y2 := f3.wrong y3
          have y1 := f2.wrong y2
          refine ⟨?_, ?_, trivial, w1 y1⟩
          · have := w3 y3; rw [f2.decls, f1.decls] at this; exact this
          · have := w4 y
            have hd3 : ({ st3 with loops := st3.loops + 1 } : PS).decls = st.decls := F3.decls
            rw [hd3] at this; exact this
        · simp only [Blk.deep]; omega
        · simp only [Blk.nest]; omega
        · simp only [Blk.size]; omega
    rw [if_neg hk] at e
    cases e
end
end
end Go.Proofs.YtemppijblfflgaaDoor.Ev
namespace Go.Proofs.YtemppijblfflgaaDoor.Ev
open Go Go.RowKit

section
variable {B : Nat} {ea : Nat → Addr} {w : World} {g gp bm : Nat} {vd wp : Value} {s : Bytes} {st : PS}

theorem sizeVal (w : World) : (Go.sizeOf 132).run Tryd.prog w = .ok 2 w := by kernel_rfl
theorem aggVal (w : World) : (isAgg 132).run Tryd.prog w = .ok true w := by kernel_rfl

theorem value_arm {α : Type} {x : Out α} {f : α → Val} {n : α → Int} {k : Bytes} (hf : ∀ a, encVal (f a) = [vs k, .int .i64 (n a)]) {W w0 : World} {stv : PS} {vd0 wp0 : Value} {T : Type} (hA : Held B ea g gp bm vd0 wp0 s stv w0 W w0.heap.size 132 [vs [], .int .i64 0])
    {e : Ending} {w1 : World} (ho : OutR B ea W g gp bm s x (fun _ a v => v = .int .i64 (n a)) e w1) :
    (∃ a st1, x = .ok a st1 ∧ e = .returned (.int .i64 (n a)) ∧ (∀ j, w1.frozen? ⟨w0.heap.size, j, none⟩ = false) ∧ w1.cell? ⟨w0.heap.size, 0, none⟩ = some (vs []) ∧ w1.cell? ⟨w0.heap.size, 1, none⟩ = some (.int .i64 0) ∧
      ∃ vd wp, RdR B ea ((w1.setCell ⟨w0.heap.size, 0, none⟩ (vs k)).setCell ⟨w0.heap.size, 1, none⟩ (.int .i64 (n a))) g gp bm vd wp s st1 ∧ Kg g w0 ((w1.setCell ⟨w0.heap.size, 0, none⟩ (vs k)).setCell ⟨w0.heap.size, 1, none⟩ (.int .i64 (n a))) ∧
        Row ((w1.setCell ⟨w0.heap.size, 0, none⟩ (vs k)).setCell ⟨w0.heap.size, 1, none⟩ (.int .i64 (n a))) w0.heap.size 132 (encVal (f a))) ∨
    (∃ k pos, x = .bad k pos ∧ Fails B ea w0 e w1 k pos) := by
  cases x with
  | ok a st1 =>
    obtain ⟨v, rfl, rfl, hk1, vd1, wp1, h1⟩ := ho
    have H1 := hA.call hk1 h1
    have H3 := (H1.set_ (by decide) 0 (vs k)).set_ (by decide) 1 (.int .i64 (n a))
    exact .inl ⟨a, st1, rfl, rfl, fun j => H1.row.frozen j, H1.row.cell 0, H1.row.cell 1, _, _, H3.rd, H3.kg, by rw [hf]; exact H3.row⟩
  | bad k pos =>
    obtain ⟨gf, h1, h2, h3, h4⟩ := ho
    refine .inr ⟨k, pos, rfl, gf, h1, ?_, h3, h4⟩
    exact Kept.trans (hA.kg.mono (fun b hb => by
      rcases hb with rfl | hb
      · exact hA.rd.g0
      · exact Nat.le_trans (Nat.le_of_lt_succ (Nat.lt_succ_of_le (hA.b))) hb)) h2

set_option maxRecDepth 100000 in
set_option maxHeartbeats 1000000 in
theorem value_num (h : RdR B ea w g gp bm vd wp s st) (ok : st.Ok s) (hk : st.t.kind = kNumber) :
    Calls Tryd.prog 57 #[.pointer (some ⟨g, 0, none⟩)] w fun e w' => OutR B ea w g gp bm s ((number s 0 999 st).map .num) (fun _ a v => v = .agg (encVal a).toArray) e w' := by
  have hA := Held.start h 132 [vs [], .int .i64 0] (by decide)
  have hn := number_any hA.rd ok 0 999
  obtain ⟨_, _, c2, _⟩ := rd_cell hA.rd.row
  have HA := Lib.hid hA
  have HN := Lib.hid hn
  have hge := hA.ne
  clear hA hn h ok
  rw [hk] at c2
  clear hk
  unfold vs at *
  go_enter Tryd.func57, Tryd.ntmps57
  go_wp2_with fail
  refine HN.out.mono ?_
  rintro e w1 ho
  rcases value_arm (f := .num) (n := id) (k := kNumber) (T := Unit) (fun _ => rfl) HA.out ho with ⟨a, st1, hx, rfl, z, d0, d1, vd1, wp1, hr, hkg, hrow⟩ | ⟨k, pos, hx, gf, rfl, hF⟩
  · have HX := Lib.hid hx
    have F := Lib.hid (And.intro hr (And.intro hkg hrow))
    clear hr hkg hrow hx ho
    unfold vs id at *
    go_wp2
    refine bodyPost_ret (results_cell (cs := encVal (.num a)) Tryd.results57 aggVal sizeVal rfl F.out.2.2) rfl ?_
    rw [HX.out]
    exact ⟨_, rfl, rfl, F.out.2.1, vd1, wp1, F.out.1⟩
  · have HX := Lib.hid hx
    clear ho hx
    go_wp2
    rw [HX.out]
    exact ⟨rfl, gf, rfl, hF⟩

theorem take_yes {k : Bytes} (hk : st.t.kind = k) : take s k st = (true, next s st) := by unfold take; rw [if_pos hk]
theorem take_no {k : Bytes} (hk : st.t.kind ≠ k) : take s k st = (false, st) := by unfold take; rw [if_neg hk]

set_option maxRecDepth 100000 in
set_option maxHeartbeats 1000000 in
theorem value_len (h : RdR B ea w g gp bm vd wp s st) (hk : st.t.kind = kLen) :
    Calls Tryd.prog 57 #[.pointer (some ⟨g, 0, none⟩)] w fun e w' => OutR B ea w g gp bm s ((name s false (next s st)).map .len) (fun _ a v => v = .agg (encVal a).toArray) e w' := by
  have hA := Held.start h 132 [vs [], .int .i64 0] (by decide)
  have ht := take_any hA.rd kLen
  rw [take_yes hk] at ht
  obtain ⟨_, _, c2, _⟩ := rd_cell hA.rd.row
  have HA := Lib.hid hA
  have HT := Lib.hid ht
  clear hA ht h
  rw [hk] at c2
  clear hk
  unfold vs at *
  go_enter Tryd.func57, Tryd.ntmps57
  go_wp2_with fail
  refine HT.out.mono ?_
  rintro e w0 ⟨rfl, hk0, h0⟩
  have hA0 := HA.out.call hk0 h0
  have hn := name_any hA0.rd false
  have HA0 := Lib.hid hA0
  have HN := Lib.hid hn
  clear hk0 h0 hA0 hn
  go_wp2_with fail
  refine HN.out.mono ?_
  rintro e w1 ho
  rcases value_arm (f := .len) (n := id) (k := kLen) (T := Unit) (fun _ => rfl) HA0.out ho with ⟨a, st1, hx, rfl, z, d0, d1, vd1, wp1, hr, hkg, hrow⟩ | ⟨k, pos, hx, gf, rfl, hF⟩
  · have HX := Lib.hid hx
    have F := Lib.hid (And.intro hr (And.intro hkg hrow))
    clear hr hkg hrow hx ho
    unfold vs id at *
    go_wp2
    refine bodyPost_ret (results_cell (cs := encVal (.len a)) Tryd.results57 aggVal sizeVal rfl F.out.2.2) rfl ?_
    rw [HX.out]
    exact ⟨_, rfl, rfl, F.out.2.1, vd1, wp1, F.out.1⟩
  · have HX := Lib.hid hx
    clear ho hx
    go_wp2
    rw [HX.out]
    exact ⟨rfl, gf, rfl, hF⟩

set_option maxRecDepth 100000 in
set_option maxHeartbeats 1000000 in
theorem value_freq (h : RdR B ea w g gp bm vd wp s st) (hk : st.t.kind = kFreq) :
    Calls Tryd.prog 57 #[.pointer (some ⟨g, 0, none⟩)] w fun e w' => OutR B ea w g gp bm s (.ok .freq (next s st)) (fun _ a v => v = .agg (encVal a).toArray) e w' := by
  have hA := Held.start h 132 [vs [], .int .i64 0] (by decide)
  have ht := take_any hA.rd kLen
  rw [take_no (by rw [hk]; decide)] at ht
  obtain ⟨_, _, c2, _⟩ := rd_cell hA.rd.row
  have HA := Lib.hid hA
  have HT := Lib.hid ht
  clear hA ht h
  have HK := Lib.hid hk
  rw [hk] at c2
  clear hk
  unfold vs at *
  go_enter Tryd.func57, Tryd.ntmps57
  go_wp2_with fail
  refine HT.out.mono ?_
  rintro e w0 ⟨rfl, hk0, h0⟩
  have hA0 := HA.out.call hk0 h0
  have ht2 := take_any hA0.rd kFreq
  rw [take_yes HK.out] at ht2
  have HA0 := Lib.hid hA0
  have HT2 := Lib.hid ht2
  clear hk0 h0 hA0 ht2
  go_wp2_with fail
  refine HT2.out.mono ?_
  rintro e w1 ⟨rfl, hk1, h1⟩
  have hA1 := HA0.out.call hk1 h1
  have z := fun j => hA1.row.frozen j
  have d0 := hA1.row.cell 0
  have d1 := hA1.row.cell 1
  have F := Lib.hid ((hA1.set_ (by decide) 0 (vs kFreq)).set_ (by decide) 1 (.int .i64 0))
  clear hk1 h1 hA1
  simp at d0 d1
  unfold vs at *
  go_wp2
  refine bodyPost_ret (results_cell (cs := encVal .freq) Tryd.results57 aggVal sizeVal rfl F.out.row) rfl ?_
  exact ⟨_, rfl, rfl, F.out.kg, _, _, F.out.rd⟩

set_option maxRecDepth 100000 in
set_option maxHeartbeats 1000000 in
theorem value_var (h : RdR B ea w g gp bm vd wp s st) (hk1 : st.t.kind ≠ kNumber) (hk2 : st.t.kind ≠ kLen) (hk3 : st.t.kind ≠ kFreq) :
    Calls Tryd.prog 57 #[.pointer (some ⟨g, 0, none⟩)] w fun e w' => OutR B ea w g gp bm s ((name s true st).map .var) (fun _ a v => v = .agg (encVal a).toArray) e w' := by
  have hA := Held.start h 132 [vs [], .int .i64 0] (by decide)
  have ht := take_any hA.rd kLen
  rw [take_no hk2] at ht
  obtain ⟨_, _, c2, _⟩ := rd_cell hA.rd.row
  have HA := Lib.hid hA
  have HT := Lib.hid ht
  have HK3 := Lib.hid hk3
  have e1 : (st.t.kind == kNumber) = false := by simpa using hk1
  clear hA ht h hk1 hk2 hk3
  unfold vs at *
  go_enter Tryd.func57, Tryd.ntmps57
  go_wp2_with fail
  refine HT.out.mono ?_
  rintro e w0 ⟨rfl, hk0, h0⟩
  have hA0 := HA.out.call hk0 h0
  have ht2 := take_any hA0.rd kFreq
  rw [take_no HK3.out] at ht2
  have HA0 := Lib.hid hA0
  have HT2 := Lib.hid ht2
  clear hk0 h0 hA0 ht2
  go_wp2_with fail
  refine HT2.out.mono ?_
  rintro e w1 ⟨rfl, hk1, h1⟩
  have hA1 := HA0.out.call hk1 h1
  have hn := name_any hA1.rd true
  have HA1 := Lib.hid hA1
  have HN := Lib.hid hn
  clear hk1 h1 hA1 hn
  go_wp2_with fail
  refine HN.out.mono ?_
  rintro e w2 ho
  rcases value_arm (f := .var) (n := id) (k := kVar) (T := Unit) (fun _ => rfl) HA1.out ho with ⟨a, st1, hx, rfl, z, d0, d1, vd1, wp1, hr, hkg, hrow⟩ | ⟨k, pos, hx, gf, rfl, hF⟩
  · have HX := Lib.hid hx
    have F := Lib.hid (And.intro hr (And.intro hkg hrow))
    clear hr hkg hrow hx ho
    unfold vs id at *
    go_wp2
    refine bodyPost_ret (results_cell (cs := encVal (.var a)) Tryd.results57 aggVal sizeVal rfl F.out.2.2) rfl ?_
    rw [HX.out]
    exact ⟨_, rfl, rfl, F.out.2.1, vd1, wp1, F.out.1⟩
  · have HX := Lib.hid hx
    clear ho hx
    go_wp2
    rw [HX.out]
    exact ⟨rfl, gf, rfl, hF⟩

theorem value_any (h : RdR B ea w g gp bm vd wp s st) (ok : st.Ok s) :
    Calls Tryd.prog 57 #[.pointer (some ⟨g, 0, none⟩)] w fun e w' => OutR B ea w g gp bm s (value s st) (fun _ a v => v = .agg (encVal a).toArray) e w' := by
  unfold value
  by_cases h1 : st.t.kind = kNumber
  · rw [if_pos h1]; exact value_num h ok h1
  · by_cases h2 : st.t.kind = kLen
    · rw [if_neg h1, if_pos h2]; exact value_len h h2
    · by_cases h3 : st.t.kind = kFreq
      · rw [if_neg h1, if_neg h2, if_pos h3]; exact value_freq h h3
      · rw [if_neg h1, if_neg h2, if_neg h3]; exact value_var h h1 h2 h3
end
end Go.Proofs.YtemppijblfflgaaDoor.Ev
namespace Go.Proofs.YtemppijblfflgaaDoor.Ev
open Go Go.RowKit

/-- The reader behind some calls of this one's, beside two blocks of this call's own. -/
structure Held2 (B : Nat) (ea : Nat → Addr) (g gp bm : Nat) (vd wp : Value) (s : Bytes) (st : PS) (w0 w : World) (R C : Nat) (T : TypeId) (cs ds : List Value) : Prop where
  rd : RdR B ea w g gp bm vd wp s st
  kg : Kg g w0 w
  row : Row w R T cs
  row2 : Row w C T ds
  new : w0.heap.size ≤ R
  new2 : w0.heap.size ≤ C
  ne : R ≠ C
  t : T ≠ 47 ∧ T ≠ 110 ∧ T ≠ 43 ∧ T ≠ 64

section
variable {B : Nat} {ea : Nat → Addr} {w w0 : World} {g gp bm R C : Nat} {vd wp : Value} {s : Bytes} {st : PS} {T : TypeId} {cs ds : List Value}

theorem Held.alloc_ (h : Held B ea g gp bm vd wp s st w0 w R T cs) (o : Obj) : Held B ea g gp bm vd wp s st w0 (w.alloc o) R T cs :=
  ⟨h.rd.alloc o, h.kg.alloc (.inr h.kg.size) o, h.row.alloc o, h.new, h.b, h.t⟩
theorem Held2.b (h : Held2 B ea g gp bm vd wp s st w0 w R C T cs ds) (h0 : B ≤ w0.heap.size) : B ≤ R ∧ B ≤ C := ⟨Nat.le_trans h0 h.new, Nat.le_trans h0 h.new2⟩
theorem Held2.start (h : Held B ea g gp bm vd wp s st w0 w R T cs) (hs : T ≠ 136) (ds : List Value) : Held2 B ea g gp bm vd wp s st w0 (w.alloc (.cells ds.toArray T)) R w.heap.size T cs ds :=
  ⟨h.rd.alloc _, h.kg.alloc (.inr h.kg.size) _, h.row.alloc _, Row.new _ _ _, h.new, h.kg.size, fun e => by have := h.row.lt; omega, h.t⟩
theorem Held2.call (h : Held2 B ea g gp bm vd wp s st w0 w R C T cs ds) {w' : World} {st' : PS} {vd' wp' : Value} (hk : Kg g w w') (hr : RdR B ea w' g gp bm vd' wp' s st') : Held2 B ea g gp bm vd' wp' s st' w0 w' R C T cs ds :=
  ⟨hr, Kg.trans h.kg hk, (kg_at hk h.row.lt (h.row.ne_ h.rd.row h.t.2.2.2)).trans h.row, (kg_at hk h.row2.lt (h.row2.ne_ h.rd.row h.t.2.2.2)).trans h.row2, h.new, h.new2, h.ne, h.t⟩
theorem Held2.set_ (h : Held2 B ea g gp bm vd wp s st w0 w R C T cs ds) (h0 : B ≤ w0.heap.size) (hs : T ≠ 136) (i : Nat) (u : Value) : Held2 B ea g gp bm vd wp s st w0 (w.setCell ⟨R, i, none⟩ u) R C T (cs.set i u) ds :=
  ⟨h.rd.set_ (h.b h0).1 h.row ⟨h.t.1, h.t.2.1, hs, h.t.2.2.1⟩ h.t.2.2.2 i u, h.kg.setCell (p := ⟨R, i, none⟩) (.inr h.new) u, h.row.set_ i u, h.row2.far (fun e => h.ne e.symm) u, h.new, h.new2, h.ne, h.t⟩
theorem Held2.set2 (h : Held2 B ea g gp bm vd wp s st w0 w R C T cs ds) (h0 : B ≤ w0.heap.size) (hs : T ≠ 136) (i : Nat) (u : Value) : Held2 B ea g gp bm vd wp s st w0 (w.setCell ⟨C, i, none⟩ u) R C T cs (ds.set i u) :=
  ⟨h.rd.set_ (h.b h0).2 h.row2 ⟨h.t.1, h.t.2.1, hs, h.t.2.2.1⟩ h.t.2.2.2 i u, h.kg.setCell (p := ⟨C, i, none⟩) (.inr h.new2) u, h.row.far h.ne u, h.row2.set_ i u, h.new, h.new2, h.ne, h.t⟩

theorem fails_held {W : World} {e : Ending} {w' : World} {k pos : Nat} (hB : B ≤ w0.heap.size) (hg : B ≤ g) (hkg : Kg g w0 W) (h : Fails B ea W e w' k pos) : Fails B ea w0 e w' k pos := by
  obtain ⟨gf, h1, h2, h3⟩ := h
  exact ⟨gf, h1, Kept.trans (hkg.mono (fun b hb => hb.elim (fun e => e ▸ hg) (fun hb => Nat.le_trans hB hb))) h2, h3⟩

theorem ckVals_form (c : CK) : ∃ b0 n1 b2 n3, ckVals c = [vs b0, .int .i64 n1, vs b2, .int .i64 n3] := by
  cases c <;> exact ⟨_, _, _, _, rfl⟩

theorem sizeCond (w : World) : (Go.sizeOf 134).run Tryd.prog w = .ok 7 w := by kernel_rfl
theorem aggCond (w : World) : (isAgg 134).run Tryd.prog w = .ok true w := by kernel_rfl

theorem oddB_succ (n : Nat) : oddB (n + 1) = !oddB n := by
  unfold oddB
  rcases Nat.mod_two_eq_zero_or_one n with h | h
  · have : (n + 1) % 2 = 1 := by omega
    rw [h, this]; rfl
  · have : (n + 1) % 2 = 0 := by omega
    rw [h, this]; rfl

set_option maxRecDepth 100000 in
set_option maxHeartbeats 1000000 in
theorem cond_not {n : Nat} (hrec : ∀ (w : World) (vd wp : Value), RdR B ea w g gp bm vd wp s (next s st) → Calls Tryd.prog 50 #[.pointer (some ⟨g, 0, none⟩)] w fun e w' => OutR B ea w g gp bm s (cond s n (next s st)) (fun _ a v => v = .agg (encCond a).toArray) e w')
    (h : RdR B ea w g gp bm vd wp s st) (hk : st.t.kind = kNot) :
    Calls Tryd.prog 50 #[.pointer (some ⟨g, 0, none⟩)] w fun e w' => OutR B ea w g gp bm s ((cond s n (next s st)).map fun c => ⟨c.k, c.nots + 1⟩) (fun _ a v => v = .agg (encCond a).toArray) e w' := by
  have hA := Held.start h 134 [vs [], .int .i64 0, vs [], .int .i64 0, vs [], .int .i64 0, .bool false] (by decide)
  have ht := take_any hA.rd kNot
  rw [take_yes hk] at ht
  have HA := Lib.hid hA
  have HT := Lib.hid ht
  have HR := Lib.hid hrec
  have hB := h.env.size
  have hg := h.g0
  clear hA ht h hk hrec
  unfold vs at *
  go_enter Tryd.func50, Tryd.ntmps50
  go_wp2_with fail
  refine HT.out.mono ?_
  rintro e w0 ⟨rfl, hk0, h0⟩
  have hA0 := HA.out.call hk0 h0
  have hn := HR.out _ _ _ hA0.rd
  have HA0 := Lib.hid hA0
  have HN := Lib.hid hn
  clear hk0 h0 hA0 hn
  go_wp2_with fail
  refine HN.out.mono ?_
  rintro e w1 ho
  cases hx : cond s n (next s st) with
  | bad k pos =>
    rw [hx] at ho
    obtain ⟨gf, rfl, hF⟩ := fails_held hB hg HA0.out.kg ho
    have HX := Lib.hid hx
    clear hx
    go_wp2
    rw [HX.out]
    exact ⟨rfl, gf, rfl, hF⟩
  | ok c st1 =>
    rw [hx] at ho
    obtain ⟨v, rfl, rfl, hk1, vd1, wp1, h1⟩ := ho
    obtain ⟨b0, n1, b2, n3, hv⟩ := ckVals_form c.k
    have hA1 := HA0.out.call hk1 h1
    have z := fun j => hA1.row.frozen j
    have hlt := hA1.row.lt
    have hne : ¬ w.heap.size = w1.heap.size := by omega
    have e0 : encCond c = [vs (ckWord c.k), .int .i64 (ckNum c.k), vs b0, .int .i64 n1, vs b2, .int .i64 n3, .bool (oddB c.nots)] := by unfold encCond; rw [hv]; rfl
    have e1 : encCond ⟨c.k, c.nots + 1⟩ = [vs (ckWord c.k), .int .i64 (ckNum c.k), vs b0, .int .i64 n1, vs b2, .int .i64 n3, .bool !oddB c.nots] := by unfold encCond; rw [hv, oddB_succ]; rfl
    have q4 := (((((((hA1.set_ (by decide) 0 (vs (ckWord c.k))).set_ (by decide) 1 (.int .i64 (ckNum c.k))).set_ (by decide) 2 (vs b0)).set_ (by decide) 3 (.int .i64 n1)).set_ (by decide) 4 (vs b2)).set_ (by decide) 5 (.int .i64 n3)).set_ (by decide) 6 (.bool !oddB c.nots)).alloc_
      (.cells #[vs (ckWord c.k), .int .i64 (ckNum c.k), vs b0, .int .i64 n1, vs b2, .int .i64 n3, .bool !oddB c.nots] 134)
    rw [e0]
    have d0 := hA1.row.cell 0
    have d1 := hA1.row.cell 1
    have d2 := hA1.row.cell 2
    have d3 := hA1.row.cell 3
    have d4 := hA1.row.cell 4
    have d5 := hA1.row.cell 5
    have d6 := hA1.row.cell 6
    have Q4 := Lib.hid q4
    have E1 := Lib.hid e1
    have HX := Lib.hid hx
    clear q4 hA1 e0 e1 hv hk1 h1 hx
    simp at d0 d1 d2 d3 d4 d5 d6
    unfold vs at *
    go_wp2
    have hrow := Q4.out.row
    have sz : ∀ w, (Go.sizeOf 134).run Tryd.prog w = .ok (encCond ⟨c.k, c.nots + 1⟩).length w := by rw [encCond_len]; exact sizeCond
    refine bodyPost_ret (results_cell (cs := encCond ⟨c.k, c.nots + 1⟩) Tryd.results50 aggCond sz rfl (by rw [E1.out]; exact hrow)) rfl ?_
    rw [HX.out]
    exact ⟨_, rfl, rfl, Q4.out.kg, _, _, Q4.out.rd⟩

set_option maxRecDepth 100000 in
set_option maxHeartbeats 2000000 in
theorem cond_word (k : Bytes) (mk : Int → CK) (hmk : ∀ n, encCond ⟨mk n, 0⟩ = [vs k, .int .i64 n, vs [], .int .i64 0, vs [], .int .i64 0, .bool false]) (hk3 : k = kFull ∨ k = kEmpty ∨ k = kWarm)
    (h : RdR B ea w g gp bm vd wp s st) (hk : st.t.kind = k) :
    Calls Tryd.prog 50 #[.pointer (some ⟨g, 0, none⟩)] w fun e w' => OutR B ea w g gp bm s ((name s false (next s st)).map fun n => ⟨mk n, 0⟩) (fun _ a v => v = .agg (encCond a).toArray) e w' := by
  have hA := Held.start h 134 [vs [], .int .i64 0, vs [], .int .i64 0, vs [], .int .i64 0, .bool false] (by decide)
  have hnk : st.t.kind ≠ kNot := by rw [hk]; rcases hk3 with rfl | rfl | rfl <;> decide
  have ht := take_any hA.rd kNot
  rw [take_no hnk] at ht
  have HA := Lib.hid hA
  have HT := Lib.hid ht
  have hB := h.env.size
  have hg := h.g0
  have HK := Lib.hid hk
  have HM := Lib.hid hmk
  clear hA ht h hk hnk hmk
  rcases hk3 with rfl | rfl | rfl
  all_goals
    unfold vs at *
    go_enter Tryd.func50, Tryd.ntmps50
    go_wp2_with fail
    refine HT.out.mono ?_
    rintro e w0 ⟨rfl, hk0, h0⟩
    have hA0 := HA.out.call hk0 h0
    obtain ⟨_, _, c2, _⟩ := rd_cell hA0.rd.row
    have hc2 := HK.out
    rw [hc2] at c2
    clear hc2
    have hn := next_all (hA0.alloc_ (.cells #[vs st.t.kind, .int .i64 0, vs [], .int .i64 0, vs [], .int .i64 0, .bool false] 134)).rd
    have q0 := Held2.start hA0 (by decide) [vs st.t.kind, .int .i64 0, vs [], .int .i64 0, vs [], .int .i64 0, .bool false]
    rw [HK.out] at hn q0
    have Q0 := Lib.hid q0
    have HN := Lib.hid hn
    clear hk0 h0 hA0 hn q0
    unfold vs at *
    go_wp2_with fail
    refine HN.out.mono ?_
    rintro e w1 ⟨rfl, hk1, h1⟩
    have q1 := Q0.out.call hk1 h1
    have hn := name_any q1.rd false
    have Q1 := Lib.hid q1
    have HN2 := Lib.hid hn
    clear hk1 h1 q1 hn
    go_wp2_with fail
    refine HN2.out.mono ?_
    rintro e w2 ho
    cases hx : name s false (next s st) with
    | bad k pos =>
      rw [hx] at ho
      obtain ⟨gf, rfl, hF⟩ := fails_held hB hg Q1.out.kg ho
      have HX := Lib.hid hx
      clear hx
      go_wp2
      rw [HX.out]
      exact ⟨rfl, gf, rfl, hF⟩
    | ok n st1 =>
      rw [hx] at ho
      obtain ⟨v, rfl, rfl, hk2, vd2, wp2, h2⟩ := ho
      have q2 := Q1.out.call hk2 h2
      have z := fun j => q2.row.frozen j
      have z2 := fun j => q2.row2.frozen j
      have hne : ¬ w.heap.size = w0.heap.size := q2.ne
      have hne' : ¬ w0.heap.size = w.heap.size := fun e => hne e.symm
      have d0 := q2.row.cell 0
      have d1 := q2.row.cell 1
      have d2 := q2.row.cell 2
      have d3 := q2.row.cell 3
      have d4 := q2.row.cell 4
      have d5 := q2.row.cell 5
      have d6 := q2.row.cell 6
      have e0 := q2.row2.cell 0
      have e1 := q2.row2.cell 1
      have e2 := q2.row2.cell 2
      have e3 := q2.row2.cell 3
      have e4 := q2.row2.cell 4
      have e5 := q2.row2.cell 5
      have e6 := q2.row2.cell 6
      have q4 := (((((((q2.set2 hB (by decide) 1 (.int .i64 n)).set_ hB (by decide) 0 (vs st.t.kind)).set_ hB (by decide) 1 (.int .i64 n)).set_ hB (by decide) 2 (vs [])).set_ hB (by decide) 3 (.int .i64 0)).set_ hB (by decide) 4 (vs [])).set_ hB (by decide) 5 (.int .i64 0)).set_ hB (by decide) 6 (.bool false)
      rw [HK.out] at q4
      have Q4 := Lib.hid q4
      have HX := Lib.hid hx
      clear q2 q4 hk2 h2 hx
      simp at d0 d1 d2 d3 d4 d5 d6 e0 e1 e2 e3 e4 e5 e6
      unfold vs at *
      go_wp2
      refine bodyPost_ret (results_cell (cs := [vs _, .int .i64 n, vs [], .int .i64 0, vs [], .int .i64 0, .bool false]) Tryd.results50 aggCond sizeCond rfl Q4.out.row) rfl ?_
      rw [HX.out]
      exact ⟨_, rfl, (by show _ = Value.agg (encCond ⟨mk n, 0⟩).toArray; rw [HM.out]), Q4.out.kg, _, _, Q4.out.rd⟩

set_option maxRecDepth 100000 in
set_option maxHeartbeats 4000000 in
theorem cond_less (h : RdR B ea w g gp bm vd wp s st) (ok : st.Ok s) (hk0 : st.t.kind ≠ kNot) (hk1 : st.t.kind ≠ kFull) (hk2 : st.t.kind ≠ kEmpty) (hk3 : st.t.kind ≠ kWarm) :
    Calls Tryd.prog 50 #[.pointer (some ⟨g, 0, none⟩)] w fun e w' => OutR B ea w g gp bm s
      ((value s st).bind fun a st => (want s kLess st).bind fun _ st => (value s st).map fun b => ⟨.less a b, 0⟩) (fun _ a v => v = .agg (encCond a).toArray) e w' := by
  have hA := Held.start h 134 [vs [], .int .i64 0, vs [], .int .i64 0, vs [], .int .i64 0, .bool false] (by decide)
  have ht := take_any hA.rd kNot
  rw [take_no hk0] at ht
  have HA := Lib.hid hA
  have HT := Lib.hid ht
  have hB := h.env.size
  have hg := h.g0
  have x1 : (st.t.kind == kFull) = false := by simpa using hk1
  have x2 : (st.t.kind == kEmpty) = false := by simpa using hk2
  have x3 : (st.t.kind == kWarm) = false := by simpa using hk3
  clear hA ht h hk0 hk1 hk2 hk3
  unfold vs at *
  go_enter Tryd.func50, Tryd.ntmps50
  go_wp2_with fail
  refine HT.out.mono ?_
  rintro e w0 ⟨rfl, hk0, h0⟩
  have hA0 := HA.out.call hk0 h0
  obtain ⟨_, _, c2, _⟩ := rd_cell hA0.rd.row
  have q0 := Held2.start hA0 (by decide) [vs kLessWord, .int .i64 0, vs [], .int .i64 0, vs [], .int .i64 0, .bool false]
  have hn := value_any q0.rd ok
  have Q0 := Lib.hid q0
  have HN := Lib.hid hn
  clear hk0 h0 hA0 hn q0
  unfold vs at *
  go_wp2_with fail
  refine HN.out.mono ?_
  rintro e w1 ho
  cases hx : value s st with
  | bad k pos =>
    rw [hx] at ho
    obtain ⟨gf, rfl, hF⟩ := fails_held hB hg Q0.out.kg ho
    have HX := Lib.hid hx
    clear hx
    go_wp2
    rw [HX.out]
    exact ⟨rfl, gf, rfl, hF⟩
  | ok a st1 =>
    rw [hx] at ho
    obtain ⟨v, rfl, rfl, hk1, vd1, wp1, h1⟩ := ho
    have ok1 := (value_ok ok hx).1.ok
    have q1 := Q0.out.call hk1 h1
    have q2 := (q1.set2 hB (by decide) 2 (vs (valWord a))).set2 hB (by decide) 3 (.int .i64 (valNum a))
    have z2 := fun j => q1.row2.frozen j
    have e2 := q1.row2.cell 2
    have e3 := q1.row2.cell 3
    have hn := want_any q2.rd kLess
    have Q2 := Lib.hid q2
    have HN2 := Lib.hid hn
    have HX := Lib.hid hx
    have HO := Lib.hid ok1
    clear hk1 h1 q1 q2 hn hx ok1
    simp at e2 e3
    unfold encVal vs at *
    go_wp2_with fail
    refine HN2.out.mono ?_
    rintro e w2 ho
    cases hy : want s kLess st1 with
    | bad k pos =>
      rw [hy] at ho
      obtain ⟨gf, rfl, hF⟩ := fails_held hB hg Q2.out.kg ho
      have HY := Lib.hid hy
      clear hy
      go_wp2
      refine ⟨rfl, ?_⟩
      rw [HX.out]
      show OutR _ _ _ _ _ _ _ ((want s kLess st1).bind _) _ _ _
      rw [HY.out]
      exact ⟨gf, rfl, hF⟩
    | ok t st2 =>
      rw [hy] at ho
      obtain ⟨v, rfl, rfl, hk2, vd2, wp2, h2⟩ := ho
      have ok2 : st2.Ok s := by obtain ⟨_, _, e⟩ := want_ok hy; rw [e]; exact next_ok HO.out
      have q3 := Q2.out.call hk2 h2
      have hn := value_any q3.rd ok2
      have Q3 := Lib.hid q3
      have HN3 := Lib.hid hn
      have HY := Lib.hid hy
      clear hk2 h2 q3 hn hy ok2
      go_wp2_with fail
      refine HN3.out.mono ?_
      rintro e w3 ho
      cases hz : value s st2 with
      | bad k pos =>
        rw [hz] at ho
        obtain ⟨gf, rfl, hF⟩ := fails_held hB hg Q3.out.kg ho
        have HZ := Lib.hid hz
        clear hz
        go_wp2
        refine ⟨rfl, ?_⟩
        rw [HX.out]
        show OutR _ _ _ _ _ _ _ ((want s kLess st1).bind _) _ _ _
        rw [HY.out]
        show OutR _ _ _ _ _ _ _ ((value s st2).map _) _ _ _
        rw [HZ.out]
        exact ⟨gf, rfl, hF⟩
      | ok b st3 =>
        rw [hz] at ho
        obtain ⟨v, rfl, rfl, hk3, vd3, wp3, h3⟩ := ho
        have q4 := Q3.out.call hk3 h3
        have z := fun j => q4.row.frozen j
        have z2' := fun j => q4.row2.frozen j
        have hne : ¬ w.heap.size = w0.heap.size := q4.ne
        have hne' : ¬ w0.heap.size = w.heap.size := fun e => hne e.symm
        have d0 := q4.row.cell 0
        have d1 := q4.row.cell 1
        have d2 := q4.row.cell 2
        have d3 := q4.row.cell 3
        have d4 := q4.row.cell 4
        have d5 := q4.row.cell 5
        have d6 := q4.row.cell 6
        have f0 := q4.row2.cell 0
        have f1 := q4.row2.cell 1
        have f2 := q4.row2.cell 2
        have f3 := q4.row2.cell 3
        have f4 := q4.row2.cell 4
        have f5 := q4.row2.cell 5
        have f6 := q4.row2.cell 6
        have q5 := ((((((((q4.set2 hB (by decide) 4 (vs (valWord b))).set2 hB (by decide) 5 (.int .i64 (valNum b))).set_ hB (by decide) 0 (vs kLessWord)).set_ hB (by decide) 1 (.int .i64 0)).set_ hB (by decide) 2 (vs (valWord a))).set_ hB (by decide) 3 (.int .i64 (valNum a))).set_ hB (by decide) 4 (vs (valWord b))).set_ hB (by decide) 5 (.int .i64 (valNum b))).set_ hB (by decide) 6 (.bool false)
        have Q5 := Lib.hid q5
        have HZ := Lib.hid hz
        clear q4 q5 hk3 h3 hz z2 e2 e3
        simp at d0 d1 d2 d3 d4 d5 d6 f0 f1 f2 f3 f4 f5 f6
        unfold encVal vs at *
        go_wp2
        refine bodyPost_ret (results_cell (cs := [vs kLessWord, .int .i64 0, vs (valWord a), .int .i64 (valNum a), vs (valWord b), .int .i64 (valNum b), .bool false]) Tryd.results50 aggCond sizeCond rfl Q5.out.row) rfl ?_
        rw [HX.out]
        show OutR _ _ _ _ _ _ _ ((want s kLess st1).bind _) _ _ _
        rw [HY.out]
        show OutR _ _ _ _ _ _ _ ((value s st2).map _) _ _ _
        rw [HZ.out]
        exact ⟨_, rfl, rfl, Q5.out.kg, _, _, Q5.out.rd⟩

theorem cond_any : ∀ (n : Nat) (st : PS) (w : World) (vd wp : Value), RdR B ea w g gp bm vd wp s st → st.Ok s → left s st < n →
    Calls Tryd.prog 50 #[.pointer (some ⟨g, 0, none⟩)] w fun e w' => OutR B ea w g gp bm s (cond s n st) (fun _ a v => v = .agg (encCond a).toArray) e w'
  | 0, st, w, vd, wp, h, ok, hl => by omega
  | n + 1, st, w, vd, wp, h, ok, hl => by
    unfold cond
    by_cases h0 : st.t.kind = kNot
    · rw [if_pos h0]
      exact cond_not (fun w vd wp h => cond_any n (next s st) w vd wp h (next_ok ok) (by have := next_lt ok h0 (by decide) (by decide); omega)) h h0
    · rw [if_neg h0]
      unfold condBase
      by_cases h1 : st.t.kind = kFull
      · rw [if_pos h1]; exact cond_word kFull .full (fun _ => rfl) (.inl rfl) h h1
      · by_cases h2 : st.t.kind = kEmpty
        · rw [if_neg h1, if_pos h2]; exact cond_word kEmpty .empty (fun _ => rfl) (.inr (.inl rfl)) h h2
        · by_cases h3 : st.t.kind = kWarm
          · rw [if_neg h1, if_neg h2, if_pos h3]; exact cond_word kWarm .warm (fun _ => rfl) (.inr (.inr rfl)) h h3
          · rw [if_neg h1, if_neg h2, if_neg h3]; exact cond_less h ok h0 h1 h2 h3
end
end Go.Proofs.YtemppijblfflgaaDoor.Ev
namespace Go.Proofs.YtemppijblfflgaaDoor.Ev
open Go Go.RowKit

section
variable {B : Nat} {ea : Nat → Addr} {w w0 : World} {g gp bm : Nat} {vd wp : Value} {s : Bytes} {st : PS}

theorem RdR.setDepth (h : RdR B ea w g gp bm vd wp s st) (n : Nat) {i : Int} (hi : i = n) : RdR B ea (w.setCell ⟨g, 7, none⟩ (.int .i64 i)) g gp bm vd wp s { st with depth := n } := by
  subst hi
  have k1 : Kg g w (w.setCell ⟨g, 7, none⟩ (.int .i64 n)) := Kept.setCell (p := ⟨g, 7, none⟩) (Kept.refl _ _) (.inl rfl) _
  exact h.turn (st' := { st with depth := n }) (h.kg k1) (h.row.set_ 7 (.int .i64 n)) rfl rfl rfl (h.wrong.quiet (h.kg k1)) h.i
theorem RdR.setLoops (h : RdR B ea w g gp bm vd wp s st) (n : Nat) {i : Int} (hi : i = n) : RdR B ea (w.setCell ⟨g, 8, none⟩ (.int .i64 i)) g gp bm vd wp s { st with loops := n } := by
  subst hi
  have k1 : Kg g w (w.setCell ⟨g, 8, none⟩ (.int .i64 n)) := Kept.setCell (p := ⟨g, 8, none⟩) (Kept.refl _ _) (.inl rfl) _
  exact h.turn (st' := { st with loops := n }) (h.kg k1) (h.row.set_ 8 (.int .i64 n)) rfl rfl rfl (h.wrong.quiet (h.kg k1)) h.i
theorem Kg.cell (g : Nat) (w : World) (i : Nat) (u : Value) : Kg g w (w.setCell ⟨g, i, none⟩ u) := Kept.setCell (p := ⟨g, i, none⟩) (Kept.refl _ _) (.inl rfl) u

/-- The shape of a statement's value. -/
def StF (cs : List Value) : Prop := ∃ (k : Bytes) (n m : Int) (t : Bool) (b0 : Bytes) (i1 : Int) (b2 : Bytes) (i3 : Int) (b4 : Bytes) (i5 : Int) (o : Bool) (a1 : Option Addr) (n1 c1 : Nat) (a2 : Option Addr) (n2 c2 : Nat),
  cs = [vs k, .int .i64 n, .int .i64 m, .bool t, vs b0, .int .i64 i1, vs b2, .int .i64 i3, vs b4, .int .i64 i5, .bool o, .slice a1 n1 c1, .slice a2 n2 c2]

/-- A statement's value. -/
def StmtV (w0 w' : World) (b : Blk) (v : Value) : Prop := ∃ cs, v = .agg cs.toArray ∧ b.length = 1 ∧ StF cs ∧ StmtsR (fun k => w0.heap.size ≤ k) w' b cs

def StmtC (B : Nat) (ea : Nat → Addr) (g gp bm : Nat) (s : Bytes) (m : Nat) : Prop :=
  ∀ (st : PS) (w : World) (vd wp : Value), RdR B ea w g gp bm vd wp s st → st.Ok s → st.depth ≤ 8 → st.loops ≤ 2 → 2 * left s st + 1 ≤ m →
    Calls Tryd.prog 44 #[.pointer (some ⟨g, 0, none⟩)] w fun e w' => OutR B ea w g gp bm s (stmt s m st) (StmtV w) e w'
def BlockC (B : Nat) (ea : Nat → Addr) (g gp bm : Nat) (s : Bytes) (m : Nat) : Prop :=
  ∀ (st : PS) (w : World) (vd wp : Value), RdR B ea w g gp bm vd wp s st → st.Ok s → st.depth ≤ 8 → st.loops ≤ 2 → 2 * left s st + 1 ≤ m →
    Calls Tryd.prog 32 #[.pointer (some ⟨g, 0, none⟩)] w fun e w' => OutR B ea w g gp bm s (block s m st) (fun w' b v => BlkV (fun k => w.heap.size ≤ k) w' v b) e w'

theorem app_nil : ∀ (b : Blk), b.app .nil = b
  | .nil => rfl
  | .prim p r => by simp [Blk.app, app_nil r]
  | .ite c t o e r => by simp [Blk.app, app_nil r]
  | .rep n c b r => by simp [Blk.app, app_nil r]
theorem app_assoc : ∀ (a b c : Blk), (a.app b).app c = a.app (b.app c)
  | .nil, _, _ => rfl
  | .prim p r, b, c => by simp [Blk.app, app_assoc r]
  | .ite _ _ _ _ r, b, c => by simp [Blk.app, app_assoc r]
  | .rep _ _ _ r, b, c => by simp [Blk.app, app_assoc r]

theorem infoStmt : (Tryd.prog.info? 136).map (fun i => (i.zero, i.size, i.bytes)) =
    some (some (.agg #[vs [], .int .i64 0, .int .i64 0, .bool false, vs [], .int .i64 0, vs [], .int .i64 0, vs [], .int .i64 0, .bool false, .slice none 0 0, .slice none 0 0]), 13, 168) := by kernel_rfl

theorem WrongR.row_kept {S1 : Nat → Prop} {w' : World} {wp : Value} {x : Option (Nat × Nat)} (h : WrongR B ea w wp x) (hk : Kept S1 w w') (hS : ∀ b cs, Row w b 43 cs → ¬ S1 b) : WrongR B ea w' wp x := by
  cases x with
  | none => exact h
  | some y =>
    obtain ⟨gf, h1, h2, h3⟩ := h
    exact ⟨gf, h1, h2, h3.kept hk (hS _ _ h3)⟩

/-- The reader behind calls that have written new blocks alone: as it was ahead of them, but for its own block and what is wrong. -/
theorem RdR.later (h : RdR B ea w g gp bm vd wp s st) {w' : World} {st' : PS} {wp' : Value} (hk : Kg g w w') (hr : Row w' g 64 (rdCells s st' gp wp')) (hd : st'.decls = st.decls) (hf : st'.freq = st.freq) (hru : st'.rules = st.rules)
    (hw : WrongR B ea w' wp' st'.wrong) (hi : st'.i ≤ s.length) : RdR B ea w' g gp bm vd wp' s st' := h.turn (h.kg hk) hr hd hf hru hw hi

theorem length_size : ∀ (b : Blk), b.length ≤ b.size
  | .nil => Nat.le_refl _
  | .prim _ r => by have := length_size r; simp only [Blk.length, Blk.size]; omega
  | .ite _ _ _ _ r => by have := length_size r; simp only [Blk.length, Blk.size]; omega
  | .rep _ _ _ r => by have := length_size r; simp only [Blk.length, Blk.size]; omega

/-- Between two statements of a block. -/
structure BLoop (B : Nat) (ea : Nat → Addr) (g gp bm : Nat) (s : Bytes) (w0 : World) (st0 : PS) (n k : Nat) (v : Value) (wr : World) (st' : PS) (done : Blk) (m : Nat) (cs : List Value) (gl cap : Nat) (wp : Value) : Prop where
  ghost : left s st' ≤ k
  fuel : 2 * left s st' + 2 ≤ m
  mn : m ≤ n
  eq : stmts s n st0 = (stmts s m st').map (fun r => done.app r)
  ok : st'.Ok s
  fwd : Fwd s st0 st'
  len : done.length + left s st' ≤ 701
  kg : Kg g w0 wr
  row : Row wr g 64 (rdCells s st' gp wp)
  wrong : WrongR B ea wr wp st'.wrong
  shape : v = .slice (some ⟨gl, 0, none⟩) done.length cap
  sl : Sl (fun b => w0.heap.size ≤ b) wr 136 13 v done.length cs
  stm : StmtsR (fun b => w0.heap.size ≤ b ∧ b ≠ gl) wr done cs

/-- Behind the sign that opens a block. -/
def inner (s : Bytes) (st : PS) : PS := { next s st with depth := st.depth + 1 }
theorem left_le (s : Bytes) (st : PS) : left s st ≤ s.length + 1 := by unfold left; omega

set_option maxRecDepth 100000 in
set_option maxHeartbeats 4000000 in
theorem block_step (n : Nat) (hst : ∀ m, m < n + 1 → StmtC B ea g gp bm s m) : BlockC B ea g gp bm s (n + 1) := by
  intro st w vd wp h ok hd hl hn
  obtain ⟨_, _, c2, _, _, _, _, c7, _⟩ := rd_cell h.row
  have hB := h.env.size
  have hg := h.g0
  have herr : w.cell? ⟨8, 0, none⟩ = some (.iface 171 (.pointer (some (ea 3)))) := h.env.err 3 (by omega) (by omega)
  have hel : 8 < w.heap.size := Nat.lt_of_lt_of_le (h.env.lt 3 (by omega) (by omega)) h.env.size
  have HR := Lib.hid h
  have HST := Lib.hid hst
  have HOK := Lib.hid ok
  by_cases hk : st.t.kind = kOpen
  · have hw : want s kOpen st = .ok st.t (next s st) := by unfold want; rw [if_pos hk]
    by_cases h8 : st.depth = 8
    · have e2 : block s (n + 1) st = .bad eDeep st.t.pos := by unfold block; rw [if_pos ⟨hk, h8⟩]; rfl
      rw [e2]
      have hf := fail_any h 3
      have HF := Lib.hid hf
      rw [hk] at c2
      rw [h8] at c7
      clear e2 hf h hst ok hw hk h8
      unfold vs errV at *
      go_enter Tryd.func32, Tryd.ntmps32
      go_wp2_with fail
      refine HF.out.mono ?_
      rintro e w1 ⟨gf, rfl, hF⟩
      go_wp2
      exact ⟨rfl, gf, rfl, hF⟩
    · have e2 : block s (n + 1) st = (stmts s n (inner s st)).bind fun b st => .ok b (next s { st with depth := st.depth - 1 }) := by
        unfold block; rw [if_neg (by rintro ⟨_, x⟩; exact h8 x), hw]; rfl
      rw [e2]
      have hwant := want_any h kOpen
      rw [hw] at hwant
      have HW := Lib.hid hwant
      have e8 : ((st.depth : Int) == 8) = false := by simp; omega
      rw [hk] at c2
      have HK := Lib.hid hk
      have HN := Lib.hid hn
      have h8' : st.depth < 8 := by omega
      clear e2 hwant hw h hst ok h8 hk hn herr hel
      unfold vs at *
      go_enter Tryd.func32, Tryd.ntmps32
      go_wp2_with fail
      refine HW.out.mono ?_
      rintro e w1 ⟨v, rfl, rfl, hk1, vd1, wp1, h1⟩
      obtain ⟨_, _, _, _, _, _, _, c7', _⟩ := rd_cell h1.row
      have c7'' : w1.cell? ⟨g, 7, none⟩ = some (.int .i64 st.depth) := c7'
      have f7 := h1.row.frozen 7
      have hg1 := h1.row.lt
      have h2 := h1.setDepth (st.depth + 1) (i := (st.depth : Int) + 1) rfl
      have k2 : Kg g w (w1.setCell ⟨g, 7, none⟩ (.int .i64 ((st.depth : Int) + 1))) := Kg.trans hk1 (Kg.cell g w1 7 _)
      have hsz1 : w.heap.size ≤ w1.heap.size := hk1.size
      have b8 : (st.depth : Int) < 8 := by omega
      have b0 : (0 : Int) ≤ (st.depth : Int) := by omega
      have hdp : (next s st).depth = st.depth := rfl
      have ok1 : (inner s st).Ok s := by have := next_ok HOK.out; exact ⟨this.i, this.pos, this.more, this.num, this.name⟩
      have hl1 : left s (inner s st) < left s st := next_lt HOK.out HK.out (by decide) (by decide)
      have hs7 := h2.s
      have hll := left_le s (inner s st)
      have hstart : BLoop B ea g gp bm s w (inner s st) n (left s st) (.slice (some ⟨w1.heap.size, 0, none⟩) 0 0) ((w1.setCell ⟨g, 7, none⟩ (.int .i64 ((st.depth : Int) + 1))).alloc (.cells #[] 136)) (inner s st) .nil n [] w1.heap.size 0 wp1 := by
        have hal := h2.alloc (.cells #[] 136)
        have hN := HN.out
        refine ⟨by omega, by omega, Nat.le_refl _, ?_, ok1, Fwd.refl ok1, by simp only [Blk.length]; omega, k2.alloc (.inr k2.size) _, hal.row, hal.wrong, rfl, ?_, rfl⟩
        · cases stmts s n (inner s st) <;> rfl
        · have hr := Row.new (w1.setCell ⟨g, 7, none⟩ (.int .i64 ((st.depth : Int) + 1))) 136 []
          have e : (w1.setCell ⟨g, 7, none⟩ (.int .i64 ((st.depth : Int) + 1))).heap.size = w1.heap.size := by simp
          rw [e] at hr
          exact Sl.of_row hr hsz1 rfl (by unfold maxLen; omega)
      have HSt := Lib.hid hstart
      have HK2 := Lib.hid k2
      clear h1 hk1 h2 k2 c7' hstart ok1 hl1 hdp hsz1 hs7 hll
      unfold encTok vs at *
      obtain ⟨i0, hi0, hz0, hz1, hz2⟩ := info_parts infoStmt
      go_wp2_with fail
      go_loopg [3] (left s st) (fun kk v3 wr => ∃ st' done m cs gl cap wpr, BLoop B ea g gp bm s w (inner s st) n kk v3 wr st' done m cs gl cap wpr)
      case atStart => exact ⟨_, _, _, _, _, _, _, HSt.out⟩
      case round =>
        obtain ⟨st', done, m, cs, gl, cap, wpr, hL⟩ := hrel
        have hv := hL.shape
        subst hv
        obtain ⟨_, _, c2, _, _, _, _, c7, _⟩ := rd_cell hL.row
        have f7' := hL.row.frozen 7
        have hglt := hL.row.lt
        have dp : st'.depth = st.depth + 1 := hL.fwd.depth
        obtain ⟨m, rfl⟩ : ∃ x, m = x + 2 := ⟨m - 2, by have := hL.fuel; omega⟩
        have hrd : RdR B ea wr g gp bm vd wpr s st' := HR.out.later hL.kg hL.row hL.fwd.decls hL.fwd.freq hL.fwd.rules hL.wrong hL.ok.i
        have hlen := hL.len
        have HRD := Lib.hid hrd
        have HLp := Lib.hid hL
        clear hrd hL
        by_cases hc : st'.t.kind = kClose
        · rw [hc] at c2
          rw [dp] at c7
          have h3 := HRD.out.setDepth st.depth (i := (st.depth : Int)) rfl
          have k3 : Kg g w (wr.setCell ⟨g, 7, none⟩ (.int .i64 (st.depth : Int))) := Kg.trans HLp.out.kg (Kg.cell g wr 7 _)
          have hnx := next_all h3
          have hbv : BlkV (fun b => w.heap.size ≤ b) wr (.slice (some ⟨gl, 0, none⟩) done.length cap) done := ⟨cs, ⟨HLp.out.sl, _, _, rfl⟩, StmtsR.mono (fun _ _ x => x.1) _ _ HLp.out.stm⟩
          have ec : (((st.depth + 1 : Nat) : Int) - 1) = (st.depth : Int) := by omega
          have H3 := Lib.hid h3
          have K3 := Lib.hid k3
          have HNX := Lib.hid hnx
          have HBV := Lib.hid hbv
          have HC := Lib.hid hc
          have EC := Lib.hid ec
          clear h3 k3 hnx hbv hc ec
          unfold vs at *
          go_wp2_with fail
          refine HNX.out.mono ?_
          rintro e w3 ⟨rfl, hk4, h4⟩
          have F := Lib.hid (And.intro hk4 h4)
          clear hk4 h4
          go_wp2
          go_ret
          have hfin : BlkV (fun b => w.heap.size ≤ b) w3 (.slice (some ⟨gl, 0, none⟩) done.length cap) done := by
            refine HBV.out.kept (fun k cs hk hr => ?_)
            have h1 : k < wr.heap.size := hr.lt
            have h2 : k ≠ g := hr.ne_ HLp.out.row (by decide)
            have e1 := kg_at F.out.1 (b := k) (by simpa using h1) h2
            have e2 := kg_at (Kg.cell g wr 7 (.int .i64 (st.depth : Int))) h1 h2
            exact e1.trans e2
          have hfuel := HLp.out.fuel
          have hspec : ((stmts s n (inner s st)).bind fun b st => Out.ok b (next s { st with depth := st.depth - 1 })) = .ok done (next s { st' with depth := st.depth }) := by
            rw [HLp.out.eq, stmts, if_pos HC.out]
            show Out.ok (done.app .nil) (next s { st' with depth := st'.depth - 1 }) = _
            rw [app_nil, dp]
            rfl
          rw [hspec]
          exact ⟨_, rfl, hfin, Kg.trans K3.out F.out.1, _, _, F.out.2⟩
        · have HC := Lib.hid hc
          have hstc := HST.out (m + 1) (by have := HLp.out.mn; omega) st' wr _ _ HRD.out HLp.out.ok (by rw [dp]; omega) (by rw [HLp.out.fwd.loops]; exact hl) (by have := HLp.out.fuel; omega)
          have e1 : (st'.t.kind == kClose) = false := by simpa using hc
          have HSTC := Lib.hid hstc
          clear hstc hc
          go_wp2_with fail
          refine HSTC.out.mono ?_
          rintro e w2 ho
          cases hx : stmt s (m + 1) st' with
          | bad k pos =>
            rw [hx] at ho
            obtain ⟨gf, rfl, hF⟩ := fails_held hB hg HLp.out.kg ho
            have HX := Lib.hid hx
            clear hx
            go_wp2
            have hspec : ((stmts s n (inner s st)).bind fun b st => Out.ok b (next s { st with depth := st.depth - 1 })) = .bad k pos := by
              rw [HLp.out.eq, stmts, if_neg HC.out, HX.out]
              rfl
            rw [hspec]
            exact ⟨rfl, gf, rfl, hF⟩
          | ok x st2 =>
            rw [hx] at ho
            obtain ⟨v, rfl, ⟨cs2, rfl, hl1, ⟨k_, n_, m_, t_, b0_, i1_, b2_, i3_, b4_, i5_, o_, a1_, n1_, c1_, a2_, n2_, c2_, hcs⟩, hsr⟩, hk2, vd2, wp2, h2⟩ := ho
            have hgot := stmt_ok HLp.out.ok (by rw [dp]; omega) (by rw [HLp.out.fwd.loops]; exact hl) hx
            have hsz := hgot.size
            have hls := length_size x
            have hlt2 : left s st2 < left s st' := by omega
            have hglr : gl < wr.heap.size := HLp.out.sl.lt rfl
            have hglg : gl ≠ g := fun e => HLp.out.sl.ne_row HLp.out.row (by decide) (by rw [e]; rfl)
            have sl2 := HLp.out.sl.kept hk2 (fun b hb => by
              injection hb with hb
              simp only at hb
              subst hb
              rintro (hb | hb)
              · exact hglg hb
              · omega)
            have hsize := hk2.size
            have hsize0 := HLp.out.kg.size
            subst hcs
            obtain ⟨L13, hL13⟩ : ∃ L : List Value, [vs k_, .int .i64 n_, .int .i64 m_, .bool t_, vs b0_, .int .i64 i1_, vs b2_, .int .i64 i3_, vs b4_, .int .i64 i5_, .bool o_, .slice a1_ n1_ c1_, .slice a2_ n2_ c2_] = L := ⟨_, rfl⟩
            rw [hL13] at hsr
            have sl3 := sl2.alloc (.cells #[vs k_, .int .i64 n_, .int .i64 m_, .bool t_, vs b0_, .int .i64 i1_, vs b2_, .int .i64 i3_, vs b4_, .int .i64 i5_, .bool o_, .slice a1_ n1_ c1_, .slice a2_ n2_ c2_] 136)
            have q1 : w.heap.size ≤ (w2.alloc (.cells #[vs k_, .int .i64 n_, .int .i64 m_, .bool t_, vs b0_, .int .i64 i1_, vs b2_, .int .i64 i3_, vs b4_, .int .i64 i5_, .bool o_, .slice a1_ n1_ c1_, .slice a2_ n2_ c2_] 136)).heap.size := by simp; omega
            have q2 := cells_new w2 [vs k_, .int .i64 n_, .int .i64 m_, .bool t_, vs b0_, .int .i64 i1_, vs b2_, .int .i64 i3_, vs b4_, .int .i64 i5_, .bool o_, .slice a1_ n1_ c1_, .slice a2_ n2_ c2_] 136
            have q3 : ∀ u ∈ [vs k_, .int .i64 n_, .int .i64 m_, .bool t_, vs b0_, .int .i64 i1_, vs b2_, .int .i64 i3_, vs b4_, .int .i64 i5_, .bool o_, .slice a1_ n1_ c1_, .slice a2_ n2_ c2_], u.oneCell' = true := by
              intro u hu
              simp at hu
              rcases hu with rfl | rfl | rfl | rfl | rfl | rfl | rfl | rfl | rfl | rfl | rfl | rfl | rfl <;> rfl
            have q4 : done.length + 1 ≤ maxLen := by unfold maxLen; omega
            have q5 : (done.length + 1) * 168 ≤ 140737488355328 := by omega
            have hfin : ∀ (g2 cap2 : Nat) (w3 : World), Sl (fun b => w.heap.size ≤ b) w3 136 13 (.slice (some ⟨g2, 0, none⟩) (done.length + 1) cap2) (done.length + 1) (cs ++ L13) →
                Kept (fun b => (Value.slice (some ⟨gl, 0, none⟩) done.length cap).ownBlock = some b ∨ (w2.alloc (.cells #[vs k_, .int .i64 n_, .int .i64 m_, .bool t_, vs b0_, .int .i64 i1_, vs b2_, .int .i64 i3_, vs b4_, .int .i64 i5_, .bool o_, .slice a1_ n1_ c1_, .slice a2_ n2_ c2_] 136)).heap.size ≤ b)
                  (w2.alloc (.cells #[vs k_, .int .i64 n_, .int .i64 m_, .bool t_, vs b0_, .int .i64 i1_, vs b2_, .int .i64 i3_, vs b4_, .int .i64 i5_, .bool o_, .slice a1_ n1_ c1_, .slice a2_ n2_ c2_] 136)) w3 →
                ((Value.slice (some ⟨gl, 0, none⟩) done.length cap).ownBlock = some g2 ∨ g2 = (w2.alloc (.cells #[vs k_, .int .i64 n_, .int .i64 m_, .bool t_, vs b0_, .int .i64 i1_, vs b2_, .int .i64 i3_, vs b4_, .int .i64 i5_, .bool o_, .slice a1_ n1_ c1_, .slice a2_ n2_ c2_] 136)).heap.size) →
                BLoop B ea g gp bm s w (inner s st) n (left s st2) (.slice (some ⟨g2, 0, none⟩) (done.length + 1) cap2) w3 st2 (done.app x) (m + 1) (cs ++ L13) g2 cap2 wp2 := by
              have hsW : (w2.alloc (.cells #[vs k_, .int .i64 n_, .int .i64 m_, .bool t_, vs b0_, .int .i64 i1_, vs b2_, .int .i64 i3_, vs b4_, .int .i64 i5_, .bool o_, .slice a1_ n1_ c1_, .slice a2_ n2_ c2_] 136)).heap.size = w2.heap.size + 1 := by simp
              have hal := h2.alloc (.cells #[vs k_, .int .i64 n_, .int .i64 m_, .bool t_, vs b0_, .int .i64 i1_, vs b2_, .int .i64 i3_, vs b4_, .int .i64 i5_, .bool o_, .slice a1_ n1_ c1_, .slice a2_ n2_ c2_] 136)
              have hkW : Kept (fun b => w2.heap.size ≤ b) w2 (w2.alloc (.cells #[vs k_, .int .i64 n_, .int .i64 m_, .bool t_, vs b0_, .int .i64 i1_, vs b2_, .int .i64 i3_, vs b4_, .int .i64 i5_, .bool o_, .slice a1_ n1_ c1_, .slice a2_ n2_ c2_] 136)) := (Kept.refl _ _).alloc (Nat.le_refl _) _
              generalize (w2.alloc (.cells #[vs k_, .int .i64 n_, .int .i64 m_, .bool t_, vs b0_, .int .i64 i1_, vs b2_, .int .i64 i3_, vs b4_, .int .i64 i5_, .bool o_, .slice a1_ n1_ c1_, .slice a2_ n2_ c2_] 136)) = W at *
              intro g2 cap2 w3 hs3 hk3 hloc
              have el : (done.app x).length = done.length + 1 := by rw [Blk.length_app, hl1]
              have hfu := HLp.out.fuel
              have hle := HLp.out.len
              have hmn := HLp.out.mn
              have far : ∀ b, b ≠ gl → b < W.heap.size → ¬ ((Value.slice (some ⟨gl, 0, none⟩) done.length cap).ownBlock = some b ∨ W.heap.size ≤ b) := by
                intro b h1 h2
                rintro (h3 | h3)
                · injection h3 with h3; exact h1 h3.symm
                · omega
              have k3 : Kg g w w3 := by
                have k1 : Kg g w W := Kg.trans (Kg.trans HLp.out.kg hk2) (hkW.mono (fun b hb => .inr hb))
                refine Kept.trans k1 (hk3.mono (fun b hb => .inr ?_))
                rcases hb with hb | hb
                · exact HLp.out.sl.2 b hb
                · omega
              have keepN : ∀ (k : Nat) cs, (w.heap.size ≤ k ∧ k ≠ gl ∧ k < W.heap.size) → Row W k 136 cs → w3.heap[k]? = W.heap[k]? := fun k cs hk hr => hk3.block k (far k hk.2.1 hk.2.2)
              have toN : ∀ k, k < w3.heap.size → (w.heap.size ≤ k ∧ k ≠ gl ∧ k < W.heap.size) → (w.heap.size ≤ k ∧ k ≠ g2) := fun k _ hk => ⟨hk.1, by
                rcases hloc with h1 | h1
                · injection h1 with h1; simp only at h1; subst h1; exact hk.2.1
                · rw [h1]; omega⟩
              refine ⟨Nat.le_refl _, by omega, by omega, ?_, hgot.fwd.ok, HLp.out.fwd.trans hgot.fwd, by rw [el]; omega, k3, hal.row.kept hk3 (far g (fun e => hglg e.symm) hal.row.lt), hal.wrong.row_kept hk3 (fun b cs hr => far b (fun e => by
                have s4 := sl3
                exact s4.ne_row (e ▸ hr) (by decide) rfl) hr.lt), by rw [el], by rw [el]; exact hs3, ?_⟩
              · rw [HLp.out.eq, stmts, if_neg HC.out, hx]
                show ((stmts s (m + 1) st2).map (fun r => x.app r)).map (fun r => done.app r) = _
                cases stmts s (m + 1) st2 with
                | ok r st3 => show Out.ok (done.app (x.app r)) st3 = Out.ok ((done.app x).app r) st3; rw [app_assoc]
                | bad e p => rfl
              · have p1 := StmtsR.mono (N' := fun k => w.heap.size ≤ k ∧ k ≠ gl ∧ k < W.heap.size) (fun k hk hN => ⟨hN.1, hN.2, by omega⟩) _ _ HLp.out.stm
                have p2 := StmtsR.kept (w' := W) (fun k cs hk hr => by
                  have h1 : k < wr.heap.size := hr.lt
                  have h2 : k ≠ g := hr.ne_ HLp.out.row (by decide)
                  exact (hkW.block k (by omega)).trans (kg_at hk2 h1 h2)) _ _ p1
                have p3 := StmtsR.mono toN _ _ (StmtsR.kept keepN _ _ p2)
                have r1 := StmtsR.mono (N' := fun k => w.heap.size ≤ k ∧ k ≠ gl ∧ k < W.heap.size) (fun k hk hN => ⟨by omega, by omega, by omega⟩) _ _ hsr
                have r2 := StmtsR.kept (w' := W) (fun k cs hk hr => hkW.block k (by have := hr.lt; omega)) _ _ r1
                have r3 := StmtsR.mono toN _ _ (StmtsR.kept keepN _ _ r2)
                exact StmtsR.app _ _ _ _ p3 r3
            have HF := Lib.hid hfin
            have SL3 := Lib.hid sl3
            have Q1 := Lib.hid q1
            have Q2 := Lib.hid q2
            have Q3 := Lib.hid q3
            have HL13 := Lib.hid hL13
            have hgh := HLp.out.ghost
            clear hfin sl3 q1 q2 q3 sl2 hsr h2 hgot hls hsz hsize hsize0 hx hglr hglg hL13
            unfold vs at *
            go_wp2_with (at_builtin; go_must (refine wp_append1 Tryd.underlying66 hi0 hz0 hz1 hz2 rfl (by decide) SL3.out Q1.out rfl _ _ rfl rfl ⟨w2.heap.size, 0, none⟩ 1 1 [.string ⟨k_.toArray⟩, .int .i64 n_, .int .i64 m_, .bool t_, .string ⟨b0_.toArray⟩, .int .i64 i1_, .string ⟨b2_.toArray⟩, .int .i64 i3_, .string ⟨b4_.toArray⟩, .int .i64 i5_, .bool o_, .slice a1_ n1_ c1_, .slice a2_ n2_ c2_] rfl rfl Q2.out Q3.out q4 q5 (Nat.succ_pos _) ?_; intro g2 cap2 w3 hs3 hk3 hloc; have Hs3 := Lib.hid hs3; have Hk3 := Lib.hid hk3; have Hloc := Lib.hid hloc; clear hs3 hk3 hloc))
            go_roundg (left s st2)
            case measure => omega
            case rel => exact ⟨_, _, _, _, _, _, _, HF.out g2 cap2 w3 (by rw [← HL13.out]; exact Hs3.out) Hk3.out Hloc.out⟩
  · have hw : want s kOpen st = .bad eSyntax st.t.pos := by unfold want fail; rw [if_neg hk]
    have e2 : block s (n + 1) st = .bad eSyntax st.t.pos := by unfold block; rw [if_neg (by rintro ⟨x, _⟩; exact hk x), hw]; rfl
    rw [e2]
    have hwant := want_any h kOpen
    rw [hw] at hwant
    have HW := Lib.hid hwant
    have e1 : (st.t.kind == kOpen) = false := by simpa using hk
    clear hwant e2 hw hk h herr hel hst ok
    unfold vs at *
    go_enter Tryd.func32, Tryd.ntmps32
    go_wp2_with fail
    refine HW.out.mono ?_
    rintro e w1 ⟨gf, rfl, hF⟩
    go_wp2
    exact ⟨rfl, gf, rfl, hF⟩
end
end Go.Proofs.YtemppijblfflgaaDoor.Ev
