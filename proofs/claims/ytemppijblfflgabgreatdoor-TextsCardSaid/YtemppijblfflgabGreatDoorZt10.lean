/- errors.As at this program's *Fault: Go's own text of errors.As and errors.as, walked. After the worked text ToyasAs. append of a whole slice, or of a part of one, to a slice that owns its row. Over any program. An error's number: engine.numbers, engine.number. What is wrong with a text has one of the errors' numbers. No program in sight. Run: what it makes ahead of its loop. engine.Load: walked. The known policies beside plain lists of keys: what comes of a key. No program in sight. engine.Access: walked. The law's own small calls: pick, same. Conditions: none. -/
import Derived.Laws.AppendOwnNone
import Derived.StillTail
import Derived.BigQuiet
import Derived.Deep.RegionWith
import Derived.Deep.RegionHeld3
import Derived.ScopeJumps
import Derived.WalkMore
import Derived.Deep.DrawnRows
import Derived.Deep.DeepCutAuto
import Derived.Deep.CutBlock
import Derived.Test.YtemppijblfflgabGreatDoorZt01
import Derived.Test.YtemppijblfflgabGreatDoorZt02
import Derived.Test.YtemppijblfflgabGreatDoorZt04
import Derived.Test.YtemppijblfflgabGreatDoorZt09
set_option linter.all false
namespace Go.Proofs.YtemppijblfflgabGreatDoor.Ev
open Go Go.RowKit Go.Extern.Stop Go.Stop Go.Extern

/-! ### CLOSED FACTS ON THE MODEL's ENTRIES FOR internal/reflectlite, at this program's types: 25: *p.E · 27: **p.E · 23: error · 45: reflectlite's rtype · 1: how many package-level variables the dump has -/
theorem as_valueOf27 (t : Addr) (w : World) : (ReflectliteValue.unpack (.iface 127 (.pointer (some t)))).run Tryz.prog w
    = .ok (.agg #[.pointer (some ⟨21, 127, none⟩), .pointer (some ⟨w.heap.size, 0, none⟩), .int .u64 150]) (w.alloc (.cells #[.pointer (some t)] 127)) := by kernel_rfl
theorem as_type27 (a : Addr) (w : World) : (ReflectliteValue.methodAny (ReflectliteValue.valueError "reflectlite.Value.Type" 0) (fun t _ _ _ => ReflectliteType.toType t) #[.agg #[.pointer (some ⟨21, 127, none⟩), .pointer (some a), .int .u64 150]]).run Tryz.prog w
    = .ok (.iface 242 (.agg #[.pointer (some ⟨21, 127, none⟩)])) w := by kernel_rfl
theorem as_methodKind (h : Value) (w : World) : (Go.method 433 242 (.agg #[h]) "Kind").run Tryz.prog w = .ok (183, h) w := by kernel_rfl
theorem as_kind27 (w : World) : ((ReflectliteType.abiMethod fun t => Functor.map (fun a : Nat => Value.int IntKind.u8 (a : Int)) (Rtype.kind t)) #[.pointer (some ⟨21, 127, none⟩)]).run Tryz.prog w = .ok (.int .u8 22) w := by kernel_rfl
theorem as_kind25 (w : World) : ((ReflectliteType.abiMethod fun t => Functor.map (fun a : Nat => Value.int IntKind.u8 (a : Int)) (Rtype.kind t)) #[.pointer (some ⟨21, 125, none⟩)]).run Tryz.prog w = .ok (.int .u8 22) w := by kernel_rfl

/-! ### THE ENTRIES THAT READ OR WRITE MEMORY: laws with a premise on the cell (after Derived/Lib/ReflectliteSlice.lean's manner: each unfolding a lemma of its own, by rfl) -/
theorem rlm (z : Sem Value) (f : TypeId → Addr → Nat → Nat → Sem Value) (v : Value) :
    ReflectliteValue.method z f #[v] = (do match ← ReflectliteValue.parts v with | none => z | some (t, a, fl) => f t a fl (fl % 32)) := rfl
theorem as_parts27 (a : Addr) (w : World) : (ReflectliteValue.parts (.agg #[.pointer (some ⟨21, 127, none⟩), .pointer (some a), .int .u64 150])).run Tryz.prog w = .ok (some (127, a, 150)) w := by kernel_rfl
/-- (Value).IsNil at the Value of a **p.E that is not nil. -/
theorem as_isNil27 (a p : Addr) (W : World) (ha : W.cell? a = some (.pointer (some p))) :
    (ReflectliteValue.method (ReflectliteValue.valueError "reflectlite.Value.IsNil" 0) ReflectliteValue.isNil #[.agg #[.pointer (some ⟨21, 127, none⟩), .pointer (some a), .int .u64 150]]).run Tryz.prog W = .ok (.bool false) W := by
  rw [rlm]
  simp only [Sem.run_bind, as_parts27, Result.andThen]
  simp [ReflectliteValue.isNil, loadVar, isAgg, underlying, Tryz.underlying127, ha, Result.andThen]

theorem as_methodElem (h : Value) (w : World) : (Go.method 433 242 (.agg #[h]) "Elem").run Tryz.prog w = .ok (195, .agg #[h]) w := by kernel_rfl
theorem as_methodImplements (h : Value) (w : World) : (Go.method 433 242 (.agg #[h]) "Implements").run Tryz.prog w = .ok (196, .agg #[h]) w := by kernel_rfl
theorem as_methodAssignableTo (h : Value) (w : World) : (Go.method 433 242 (.agg #[h]) "AssignableTo").run Tryz.prog w = .ok (193, .agg #[h]) w := by kernel_rfl
theorem as_elem27 (w : World) : (ReflectliteType.method ReflectliteType.elem #[.agg #[.pointer (some ⟨21, 127, none⟩)]]).run Tryz.prog w = .ok (.iface 242 (.agg #[.pointer (some ⟨21, 125, none⟩)])) w := by kernel_rfl
theorem as_implements25 (w : World) : (ReflectliteType.relation "Implements" ReflectliteType.implements_ #[.agg #[.pointer (some ⟨21, 125, none⟩)], .iface 242 (.agg #[.pointer (some ⟨21, 96, none⟩)])]).run Tryz.prog w = .ok (.bool true) w := by kernel_rfl
theorem as_typeOf25 (v : Value) (w : World) : (ReflectliteType.typeOf #[.iface 125 v]).run Tryz.prog w = .ok (.iface 242 (.agg #[.pointer (some ⟨21, 125, none⟩)])) w := by kernel_rfl
theorem as_assignable25 (w : World) : (ReflectliteType.relation "AssignableTo" ReflectliteType.assignableTo #[.agg #[.pointer (some ⟨21, 125, none⟩)], .iface 242 (.agg #[.pointer (some ⟨21, 125, none⟩)])]).run Tryz.prog w = .ok (.bool true) w := by kernel_rfl
theorem as_valueOf25 (e : Addr) (w : World) : (ReflectliteValue.unpack (.iface 125 (.pointer (some e)))).run Tryz.prog w
    = .ok (.agg #[.pointer (some ⟨21, 125, none⟩), .pointer (some ⟨w.heap.size, 0, none⟩), .int .u64 150]) (w.alloc (.cells #[.pointer (some e)] 125)) := by kernel_rfl

theorem as_elemOf27 (w : World) : (Rtype.elem? 127).run Tryz.prog w = .ok (some 125) w := by kernel_rfl
theorem as_mk25 (p : Addr) (w : World) : (ReflectliteValue.mk 125 p ReflectliteValue.flagAddr).run Tryz.prog w = .ok (.agg #[.pointer (some ⟨21, 125, none⟩), .pointer (some p), .int .u64 406]) w := by kernel_rfl
/-- (Value).Elem at the Value of a **p.E that is not nil: the Value of the *p.E variable that it points to, addressable. -/
theorem as_elemV27 (a p : Addr) (W : World) (ha : W.cell? a = some (.pointer (some p))) :
    (ReflectliteValue.method (ReflectliteValue.valueError "reflectlite.Value.Elem" 0) ReflectliteValue.elem #[.agg #[.pointer (some ⟨21, 127, none⟩), .pointer (some a), .int .u64 150]]).run Tryz.prog W
      = .ok (.agg #[.pointer (some ⟨21, 125, none⟩), .pointer (some p), .int .u64 406]) W := by
  rw [rlm]
  simp only [Sem.run_bind, as_parts27, Result.andThen]
  simp [ReflectliteValue.elem, loadVar, isAgg, underlying, Tryz.underlying127, ha, Result.andThen, as_elemOf27, as_mk25]
theorem rls (v x : Value) : ReflectliteValue.set #[v, x] = (do
    let (some (dst, a, fl), some (src, b, _)) := (← ReflectliteValue.parts v, ← ReflectliteValue.parts x)
      | unsupported (.noEntry "extern/(internal/reflectlite.Value).Set.zeroValue")
    if fl / ReflectliteValue.flagAddr % 2 == 0 then unsupported (.noEntry "extern/(internal/reflectlite.Value).Set.unaddressable")
    let val ← loadVar src b
    if ← Rtype.directlyAssignable dst src then storeVar dst a val
    else if ← Rtype.implements dst src then
      if (← Rtype.kind src) == 20 then
        match val with
        | .nilIface => unsupported (.noEntry "extern/reflectlite: a nil value of one interface type handed on as a value of another")
        | _ => storeVar dst a val
      else storeVar dst a (.iface src val)
    else panicString ("reflectlite.Set: value of type " ++ (← Rtype.spelt src) ++ " is not assignable to type " ++ (← Rtype.spelt dst))
    pure (.tuple #[])) := rfl
theorem as_parts25a (a : Addr) (w : World) : (ReflectliteValue.parts (.agg #[.pointer (some ⟨21, 125, none⟩), .pointer (some a), .int .u64 406])).run Tryz.prog w = .ok (some (125, a, 406)) w := by kernel_rfl
theorem as_parts25 (a : Addr) (w : World) : (ReflectliteValue.parts (.agg #[.pointer (some ⟨21, 125, none⟩), .pointer (some a), .int .u64 150])).run Tryz.prog w = .ok (some (125, a, 150)) w := by kernel_rfl
theorem as_direct25 (w : World) : (Rtype.directlyAssignable 125 125).run Tryz.prog w = .ok true w := by kernel_rfl
/-- (Value).Set: the *p.E variable at 'ta' gets what the Value's own variable 'b' holds. -/
theorem as_set25 (ta b e : Addr) (old : Value) (W : World) (hb : W.cell? b = some (.pointer (some e))) (ht : W.cell? ta = some old) (hf : W.frozen? ta = false) :
    (ReflectliteValue.set #[.agg #[.pointer (some ⟨21, 125, none⟩), .pointer (some ta), .int .u64 406], .agg #[.pointer (some ⟨21, 125, none⟩), .pointer (some b), .int .u64 150]]).run Tryz.prog W
      = .ok (.tuple #[]) (W.setCell ta (.pointer (some e))) := by
  rw [rls]
  simp only [Sem.run_bind, as_parts25a, as_parts25, Result.andThen]
  simp [ReflectliteValue.flagAddr, loadVar, isAgg, underlying, Tryz.underlying125, hb, Result.andThen, as_direct25, storeVar, Value.cells, storeCells, Addr.add]
  rw [run_store Tryz.prog W ta _ _ (by rfl)]
  simp [ht, hf]

set_option maxHeartbeats 4000000 in
theorem as_hit (e t : Addr) (old : Value) (w : World) (hg : w.cell? ⟨2, 0, none⟩ = some (.iface 242 (.agg #[.pointer (some ⟨21, 96, none⟩)]))) (ht0 : w.cell? t = some old) (hf0 : w.frozen? t = false) :
    Calls Tryz.prog 51 #[.iface 125 (.pointer (some e)), .iface 127 (.pointer (some t))] w fun ev w' => ev = .returned (.bool true) ∧ w' = ((((w.alloc (.cells #[.pointer (some t)] 127)).alloc (.cells #[.pointer (some ⟨21, 127, none⟩), .pointer (some ⟨w.heap.size, 0, none⟩), .int .u64 150] 195)).alloc (.cells #[.pointer (some ⟨21, 127, none⟩), .pointer (some ⟨w.heap.size, 0, none⟩), .int .u64 150] 195)).alloc (.cells #[.pointer (some e)] 125)).setCell t (.pointer (some e)) := by
  have h6 := @run_callFunc_extern Tryz.prog 78 _ (fun args => ReflectliteValue.unpack (args.getD 0 (.tuple #[]))) Tryz.func78 (by kernel_rfl) (by kernel_rfl) (by kernel_rfl) (by kernel_rfl)
  have h7 := @run_callFunc_extern Tryz.prog 79 _ (ReflectliteValue.methodAny (ReflectliteValue.valueError "reflectlite.Value.Type" 0) (fun t _ _ _ => ReflectliteType.toType t)) Tryz.func79 (by kernel_rfl) (by kernel_rfl) (by kernel_rfl) (by kernel_rfl)
  have h8 := @run_callFunc_extern Tryz.prog 80 _ (ReflectliteValue.method (ReflectliteValue.valueError "reflectlite.Value.IsNil" 0) ReflectliteValue.isNil) Tryz.func80 (by kernel_rfl) (by kernel_rfl) (by kernel_rfl) (by kernel_rfl)
  have h27 := @run_callFunc_extern Tryz.prog 183 _ (ReflectliteType.abiMethod fun t => do pure (.int .u8 (← Rtype.kind t))) Tryz.func183 (by kernel_rfl) (by kernel_rfl) (by kernel_rfl) (by kernel_rfl)
  have h37 := @run_callFunc_extern Tryz.prog 195 _ (ReflectliteType.method ReflectliteType.elem) Tryz.func195 (by kernel_rfl) (by kernel_rfl) (by kernel_rfl) (by kernel_rfl)
  have h38 := @run_callFunc_extern Tryz.prog 196 _ (ReflectliteType.relation "Implements" ReflectliteType.implements_) Tryz.func196 (by kernel_rfl) (by kernel_rfl) (by kernel_rfl) (by kernel_rfl)
  have h10 := @run_callFunc_extern Tryz.prog 106 _ ReflectliteType.typeOf Tryz.func106 (by kernel_rfl) (by kernel_rfl) (by kernel_rfl) (by kernel_rfl)
  have h35 := @run_callFunc_extern Tryz.prog 193 _ (ReflectliteType.relation "AssignableTo" ReflectliteType.assignableTo) Tryz.func193 (by kernel_rfl) (by kernel_rfl) (by kernel_rfl) (by kernel_rfl)
  have h11 := @run_callFunc_extern Tryz.prog 121 _ (ReflectliteValue.method (ReflectliteValue.valueError "reflectlite.Value.Elem" 0) ReflectliteValue.elem) Tryz.func121 (by kernel_rfl) (by kernel_rfl) (by kernel_rfl) (by kernel_rfl)
  have h12 := @run_callFunc_extern Tryz.prog 122 _ ReflectliteValue.set Tryz.func122 (by kernel_rfl) (by kernel_rfl) (by kernel_rfl) (by kernel_rfl)
  have tO := as_typeOf25
  have mA := as_methodAssignableTo
  have a25 := as_assignable25
  have v25 := as_valueOf25
  have f6 := as_valueOf27
  have f7 := as_type27
  have mK := as_methodKind
  have mE := as_methodElem
  have mI := as_methodImplements
  have k27 := as_kind27
  have k25 := as_kind25
  have e27 := as_elem27
  have i25 := as_implements25
  have n8 := as_isNil27 ⟨w.heap.size, 0, none⟩ t ((w.alloc (.cells #[.pointer (some t)] 127)).alloc (.cells #[.pointer (some ⟨21, 127, none⟩), .pointer (some ⟨w.heap.size, 0, none⟩), .int .u64 150] 195)) (by simp)
  have hlt : 2 < w.heap.size := World.block_lt_of_cell? w _ hg
  have hg2 : ((w.alloc (.cells #[.pointer (some t)] 127)).alloc (.cells #[.pointer (some ⟨21, 127, none⟩), .pointer (some ⟨w.heap.size, 0, none⟩), .int .u64 150] 195)).cell? ⟨2, 0, none⟩ = some (.iface 242 (.agg #[.pointer (some ⟨21, 96, none⟩)])) := by
    rw [World.cell?_alloc_lt _ _ ⟨2, 0, none⟩ (by simp; omega), World.cell?_alloc_lt _ _ ⟨2, 0, none⟩ hlt]; exact hg
  have htl : t.block < w.heap.size := by
    rcases Nat.lt_or_ge t.block w.heap.size with h | h
    · exact h
    · simp [World.cell?, Array.getElem?_eq_none h] at ht0
  have el := as_elemV27 ⟨w.heap.size, 0, none⟩ t (((w.alloc (.cells #[.pointer (some t)] 127)).alloc (.cells #[.pointer (some ⟨21, 127, none⟩), .pointer (some ⟨w.heap.size, 0, none⟩), .int .u64 150] 195)).alloc (.cells #[.pointer (some ⟨21, 127, none⟩), .pointer (some ⟨w.heap.size, 0, none⟩), .int .u64 150] 195)) (by rw [World.cell?_alloc_lt _ _ ⟨w.heap.size, 0, none⟩ (by simp; omega)]; simp)
  have st := as_set25 t ⟨w.heap.size + 1 + 1 + 1, 0, none⟩ e old ((((w.alloc (.cells #[.pointer (some t)] 127)).alloc (.cells #[.pointer (some ⟨21, 127, none⟩), .pointer (some ⟨w.heap.size, 0, none⟩), .int .u64 150] 195)).alloc (.cells #[.pointer (some ⟨21, 127, none⟩), .pointer (some ⟨w.heap.size, 0, none⟩), .int .u64 150] 195)).alloc (.cells #[.pointer (some e)] 125))
    (by rw [World.cell?_alloc_at _ _ _ _ (by simp)]; rfl)
    (by rw [World.cell?_alloc_lt _ _ t (by simp; omega), World.cell?_alloc_lt _ _ t (by simp; omega), World.cell?_alloc_lt _ _ t (by simp; omega), World.cell?_alloc_lt _ _ t htl]; exact ht0)
    (by rw [World.frozen?_alloc_old _ _ t (by simp; omega), World.frozen?_alloc_old _ _ t (by simp; omega), World.frozen?_alloc_old _ _ t (by simp; omega), World.frozen?_alloc_old _ _ t (Nat.ne_of_lt htl)]; exact hf0)
  go_enter Tryz.func51, Tryz.ntmps51
  go_wp2
  refine wp_loop_rounds 1 ?_
  rw [rounds_succ]
  go_wp2
  go_ret
  exact ⟨rfl, rfl⟩
end Go.Proofs.YtemppijblfflgabGreatDoor.Ev
namespace Go.Proofs.YtemppijblfflgabGreatDoor.Ev
open Go Go.RowKit

section
variable {S : Nat → Prop} {w w' : World} {e : TypeId} {size n m : Nat} {u v : Value} {xs news : List Value}

theorem Sl.later {T : Nat → Prop} (h : Sl S w e size v n xs) (hk : Kept T w w') (hT : ∀ b, T b → w.heap.size ≤ b) : Sl S w' e size v n xs := h.kept hk (fun g hg ht => by have := h.lt hg; have := hT g ht; omega)
theorem Sl.nil_ (S : Nat → Prop) (w : World) (e : TypeId) (size : Nat) : Sl S w e size (.slice none 0 0) 0 [] := ⟨World.ownsRow_nil _ _ _ _, fun g hg => by cases hg⟩

end
end Go.Proofs.YtemppijblfflgabGreatDoor.Ev
namespace Go.Proofs.YtemppijblfflgabGreatDoor.Ev
open Go Go.RowKit

/-- The errors themselves, below block B: each in a block of its own. -/
structure ErrObj (B : Nat) (ea : Nat → Addr) (w : World) : Prop where
  obj : ∀ k, 1 ≤ k → k ≤ 12 → ∃ (cs : Array Value) (t : TypeId), w.heap[(ea k).block]? = some (.cells cs t (0, 0))
  lt : ∀ k, 1 ≤ k → k ≤ 12 → (ea k).block < B
  inj : ∀ j k, 1 ≤ j → j ≤ 12 → 1 ≤ k → k ≤ 12 → ea j = ea k → j = k
  typ : w.cell? ⟨2, 0, none⟩ = some (.iface 242 (.agg #[.pointer (some ⟨21, 96, none⟩)]))
  typlt : 2 < B

theorem ErrObj.kept {B : Nat} {ea : Nat → Addr} {w w' : World} (h : ErrObj B ea w) {S : Nat → Prop} (hk : Kept S w w') (hS : ∀ b, S b → B ≤ b) : ErrObj B ea w' := by
  refine ⟨fun k h1 h2 => ?_, h.lt, h.inj, ?_, h.typlt⟩
  · obtain ⟨cs, t, hc⟩ := h.obj k h1 h2
    exact ⟨cs, t, (hk.block _ (fun hs => by have := hS _ hs; have := h.lt k h1 h2; omega)).trans hc⟩
  · exact (hk.cell (p := ⟨2, 0, none⟩) (fun hs => by have := hS _ hs; have := h.typlt; simp only at *; omega)).trans h.typ

/-- An error and its number. -/
def encPair (ea : Nat → Addr) (k : Nat) : List Value := [errV ea k, .int .i64 k]
def numKeys : List Nat := [1, 2, 3, 4, 5, 6, 7, 8, 9, 10, 11, 12]

section
variable {B : Nat} {ea : Nat → Addr} {w : World}

set_option maxRecDepth 100000 in
set_option maxHeartbeats 4000000 in
theorem numbers_any (he : Env B ea w) : Calls Tryz.prog 67 #[] w fun e w' =>
    e = .returned (.slice (some ⟨w.heap.size, 0, none⟩) 12 12) ∧ w' = w.alloc (.cells (numKeys.flatMap (encPair ea)).toArray 178) := by
  have e1 : w.cell? ⟨0, 0, none⟩ = some (errV ea 1) := he.err 1 (by omega) (by omega)
  have e2 : w.cell? ⟨6, 0, none⟩ = some (errV ea 2) := he.err 2 (by omega) (by omega)
  have e3 : w.cell? ⟨7, 0, none⟩ = some (errV ea 3) := he.err 3 (by omega) (by omega)
  have e4 : w.cell? ⟨8, 0, none⟩ = some (errV ea 4) := he.err 4 (by omega) (by omega)
  have e5 : w.cell? ⟨9, 0, none⟩ = some (errV ea 5) := he.err 5 (by omega) (by omega)
  have e6 : w.cell? ⟨10, 0, none⟩ = some (errV ea 6) := he.err 6 (by omega) (by omega)
  have e7 : w.cell? ⟨11, 0, none⟩ = some (errV ea 7) := he.err 7 (by omega) (by omega)
  have e8 : w.cell? ⟨12, 0, none⟩ = some (errV ea 8) := he.err 8 (by omega) (by omega)
  have e9 : w.cell? ⟨13, 0, none⟩ = some (errV ea 9) := he.err 9 (by omega) (by omega)
  have e10 : w.cell? ⟨1, 0, none⟩ = some (errV ea 10) := he.err 10 (by omega) (by omega)
  have e11 : w.cell? ⟨4, 0, none⟩ = some (errV ea 11) := he.err 11 (by omega) (by omega)
  have e12 : w.cell? ⟨5, 0, none⟩ = some (errV ea 12) := he.err 12 (by omega) (by omega)
  clear he
  have ef : numKeys.flatMap (encPair ea) = [errV ea 1, .int .i64 1, errV ea 2, .int .i64 2, errV ea 3, .int .i64 3, errV ea 4, .int .i64 4, errV ea 5, .int .i64 5, errV ea 6, .int .i64 6, errV ea 7, .int .i64 7, errV ea 8, .int .i64 8, errV ea 9, .int .i64 9, errV ea 10, .int .i64 10, errV ea 11, .int .i64 11, errV ea 12, .int .i64 12] := rfl
  rw [ef]
  clear ef
  unfold errV at *
  go_enter Tryz.func67, Tryz.ntmps67
  go_wp2
  go_ret
  exact ⟨rfl, rfl⟩

theorem pair_at (k : Nat) (hk : k < 12) : numKeys[k]? = some (k + 1) := by
  match k, hk with
  | 0, _ | 1, _ | 2, _ | 3, _ | 4, _ | 5, _ | 6, _ | 7, _ | 8, _ | 9, _ | 10, _ | 11, _ => rfl

/-- Of an error: errors.Is finds it to be number k and no other. -/
def IsNum (B : Nat) (ea : Nat → Addr) (w : World) (v : Value) (k : Nat) : Prop :=
  ∀ (j : Nat) (W : World), 1 ≤ j → j ≤ 12 → Kept (fun b => w.heap.size ≤ b) w W → Calls Tryz.prog 68 #[v, errV ea j] W fun e w' => e = .returned (.bool (j == k)) ∧ w' = W

theorem isNum_fault (ho : ErrObj B ea w) (hB : B ≤ w.heap.size) {k gf : Nat} {x : Value} (h1 : 1 ≤ k) (h2 : k ≤ 12) (hr : Row w gf 129 [errV ea k, x]) : IsNum B ea w (.iface 125 (.pointer (some ⟨gf, 0, none⟩))) k := by
  intro j W j1 j2 hk
  have ho' := ho.kept hk (fun b hb => Nat.le_trans hB hb)
  have hr' := hr.kept hk (by have := hr.lt; omega)
  by_cases e : j = k
  · subst e
    rw [beq_self_eq_true]
    exact is_fault_same gf x (ea j) W hr'
  · have e' : (j == k) = false := by simpa using e
    rw [e']
    obtain ⟨ca, ta, ha⟩ := ho'.obj k h1 h2
    obtain ⟨cb, tb, hb⟩ := ho'.obj j j1 j2
    exact is_fault_other gf x (ea k) (ea j) ca cb ta tb W hr' (fun hh => e (ho.inj k j h1 h2 j1 j2 hh).symm) ha hb

/-- A number is given; new blocks alone. -/
def NumOut (w : World) (k : Nat) (e : Ending) (w' : World) : Prop := e = .returned (.int .i64 k) ∧ Kept (fun b => w.heap.size ≤ b) w w'

set_option maxRecDepth 100000 in
set_option maxHeartbeats 4000000 in
theorem number_err (he : Env B ea w) {v : Value} {k : Nat} (h1 : 1 ≤ k) (h2 : k ≤ 12) (hi : IsNum B ea w v k) :
    Calls Tryz.prog 40 #[v] w (NumOut w k) := by
  have hn := numbers_any he
  have hrow : Row (w.alloc (.cells (numKeys.flatMap (encPair ea)).toArray 178)) w.heap.size 178 (numKeys.flatMap (encPair ea)) := Row.new w _ _
  have hsl := Sl.of_row (S := fun _ => True) hrow trivial (size := 2) (n := 12) rfl (by unfold maxLen; omega)
  have hk0 : Kept (fun b => w.heap.size ≤ b) w (w.alloc (.cells (numKeys.flatMap (encPair ea)).toArray 178)) := (Kept.refl _ w).alloc (Nat.le_refl _) _
  have hs0 : (w.alloc (.cells (numKeys.flatMap (encPair ea)).toArray 178)).heap.size = w.heap.size + 1 := by simp
  generalize hw1 : w.alloc (.cells (numKeys.flatMap (encPair ea)).toArray 178) = w1 at *
  have HN := Lib.hid hn
  have HS := Lib.hid hsl
  have HK := Lib.hid hk0
  have HI := Lib.hid hi
  have HZ := Lib.hid hs0
  clear hn hsl hk0 hi he hrow hw1 hs0
  go_enter Tryz.func40, Tryz.ntmps40
  go_wp2_with fail
  refine HN.out.mono ?_
  rintro e w' ⟨rfl, rfl⟩
  go_wp2_with fail
  go_loopg [7] 12 (fun gg s7 wr => ∃ i : Nat, i < k ∧ 12 - i ≤ gg ∧ s7 = .int .i64 i ∧ Kept (fun b => w'.heap.size ≤ b) w' wr)
  case atStart => exact ⟨0, by omega, by omega, rfl, Kept.refl _ _⟩
  case round =>
    obtain ⟨i, hik, hgi, rfl, hkr⟩ := hrel
    have hi12 : i < 12 := by omega
    have hs := HS.out.later hkr (fun b hb => hb)
    have hx := pair_at i hi12
    have c0 := hs.at_ (l := numKeys) (f := encPair ea) (fun _ => rfl) hx (j := 0) (by omega)
    have c1 := hs.at_ (l := numKeys) (f := encPair ea) (fun _ => rfl) hx (j := 1) (by omega)
    have c0' : wr.cell? ⟨w.heap.size, i * 2, none⟩ = some (.iface 304 (.pointer (some (ea (i + 1))))) := c0
    have c1' : wr.cell? ⟨w.heap.size, i * 2 + 1, none⟩ = some (.int .i64 ((i : Int) + 1)) := c1
    have hsz : w.heap.size < wr.heap.size := by have := HZ.out; have := hkr.size; omega
    have hkk : Kept (fun b => w.heap.size ≤ b) w (wr.alloc (.cells #[.iface 304 (.pointer (some (ea (i + 1)))), .int .i64 ((i : Int) + 1)] 178)) := (HK.out.trans (hkr.mono (fun b hb => by have := HZ.out; omega))).alloc (by omega) _
    have hcall := HI.out (i + 1) _ (by omega) (by omega) hkk
    have hkr' : Kept (fun b => w'.heap.size ≤ b) w' (wr.alloc (.cells #[.iface 304 (.pointer (some (ea (i + 1)))), .int .i64 ((i : Int) + 1)] 178)) := hkr.alloc hkr.size _
    have HC := Lib.hid hcall
    have HKR := Lib.hid hkr'
    have HKK := Lib.hid hkk
    clear hcall hkr hs hx c0 c1 hkr' hkk
    have q : ¬ w.heap.size = wr.heap.size := by omega
    unfold errV at HC
    by_cases e : i + 1 = k
    · have e1 : (i + 1 == k) = true := by simpa using e
      rw [e1] at HC
      have E := Lib.hid e
      clear e1 e
      go_wp2_with (go_at_call 68; ((with_reducible refine HC.out.mono ?_); rintro e w2 ⟨rfl, rfl⟩))
      go_ret
      exact ⟨by rw [← E.out]; go_num, HKK.out⟩
    · have e1 : (i + 1 == k) = false := by simpa using e
      rw [e1] at HC
      have E := Lib.hid e
      clear e1 e
      go_wp2_with (go_at_call 68; ((with_reducible refine HC.out.mono ?_); rintro e w2 ⟨rfl, rfl⟩))
      go_roundg (12 - (i + 1))
      case measure => omega
      case rel => exact ⟨i + 1, by have := E.out; omega, by omega, by go_num, HKR.out⟩
end
end Go.Proofs.YtemppijblfflgabGreatDoor.Ev
namespace Go.Proofs.YtemppijblfflgabGreatDoor.Ev

def EOk (e : Nat) : Prop := 1 ≤ e ∧ e ≤ 12
def WOk (st : PS) : Prop := ∀ y, st.wrong = some y → EOk y.1
def OOk {α : Type} (o : Out α) : Prop :=
  match o with
  | .ok _ st => WOk st
  | .bad e _ => EOk e

section
variable {α β : Type} {s : Bytes} {st : PS}
theorem OOk.bind {x : Out α} {f : α → PS → Out β} (h : OOk x) (hf : ∀ a st, WOk st → OOk (f a st)) : OOk (x.bind f) := by
  cases x with
  | ok a st => exact hf a st h
  | bad e p => exact h
theorem OOk.map {x : Out α} {f : α → β} (h : OOk x) : OOk (x.map f) := by
  cases x with
  | ok a st => exact h
  | bad e p => exact h
theorem WOk.next (h : WOk st) : WOk (next s st) := h
theorem WOk.note {e pos : Nat} (h : WOk st) (he : EOk e) : WOk (note e pos st) := by
  intro y hy
  unfold Ev.note at hy
  cases hw : st.wrong with
  | none =>
    rw [hw] at hy
    simp only [Option.some.injEq] at hy
    subst hy
    exact he
  | some z =>
    rw [hw] at hy
    exact h y hy
theorem want_e {k : Bytes} (h : WOk st) : OOk (want s k st) := by
  unfold want
  split
  · exact h
  · exact (⟨by decide, by decide⟩ : EOk eSyntax)
theorem take_e {k : Bytes} (h : WOk st) : WOk (take s k st).2 := by
  unfold take
  split <;> exact h
theorem number_e {a b : Int} (h : WOk st) : OOk (number s a b st) := by
  unfold number
  refine (want_e h).bind fun t st h => ?_
  show WOk _
  split
  · exact h.note ⟨by decide, by decide⟩
  · exact h
theorem name_e {v : Bool} (h : WOk st) : OOk (name s v st) := by
  unfold name
  refine (want_e h).bind fun t st h => ?_
  show WOk _
  unfold nameNote
  split
  · exact h.note ⟨by decide, by decide⟩
  · split
    · exact h.note ⟨by decide, by decide⟩
    · exact h
theorem value_e (h : WOk st) : OOk (value s st) := by
  unfold value
  split
  · exact (number_e h).map
  · split
    · exact (name_e h.next).map
    · split
      · exact h
      · exact (name_e h).map
theorem condBase_e (h : WOk st) : OOk (condBase s st) := by
  unfold condBase
  split
  · exact (name_e h.next).map
  · split
    · exact (name_e h.next).map
    · split
      · exact (name_e h.next).map
      · exact (value_e h).bind fun a st h => (want_e h).bind fun _ st h => (value_e h).map
theorem eSyn : EOk eSyntax := ⟨by decide, by decide⟩
theorem eDp : EOk eDeep := ⟨by decide, by decide⟩
theorem cond_e : ∀ (n : Nat) {st : PS}, WOk st → OOk (cond s n st)
  | 0, st, h => eSyn
  | n + 1, st, h => by
    unfold cond
    split
    · exact (cond_e n h.next).map
    · exact condBase_e h
theorem semi_e {x : Prim} (h : WOk st) : OOk ((want s kSemi st).bind fun _ st => Out.ok (Blk.prim x .nil) st) := (want_e h).bind fun _ _ h => h

theorem block_e : ∀ (n : Nat), (∀ {st : PS}, WOk st → OOk (block s n st)) ∧ (∀ {st : PS}, WOk st → OOk (stmts s n st)) ∧ (∀ {st : PS}, WOk st → OOk (stmt s n st))
  | 0 => ⟨fun _ => by unfold block; exact eSyn, fun _ => by unfold stmts; exact eSyn, fun _ => by unfold stmt; exact eSyn⟩
  | n + 1 => by
    obtain ⟨ib, il, is⟩ := block_e n
    refine ⟨fun {st} h => ?_, fun {st} h => ?_, fun {st} h => ?_⟩
    · unfold block
      split
      · exact eDp
      · refine (want_e h).bind fun _ st h => ?_
        refine OOk.bind (il (st := { st with depth := st.depth + 1 }) h) fun b st h => ?_
        exact h
    · unfold stmts
      split
      · exact h
      · exact (is h).bind fun x st h => (il h).map
    · rw [stmt]
      by_cases k1 : st.t.kind = kPut
      · rw [if_pos k1]; exact (name_e h.next).bind fun q st h => semi_e (take_e h)
      rw [if_neg k1]
      by_cases k2 : st.t.kind = kEvict
      · rw [if_pos k2]; exact (name_e h.next).bind fun q st h => semi_e h
      rw [if_neg k2]
      by_cases k3 : st.t.kind = kCool
      · rw [if_pos k3]; exact (name_e h.next).bind fun q st h => semi_e h
      rw [if_neg k3]
      by_cases k4 : st.t.kind = kShift
      · rw [if_pos k4]; exact (name_e h.next).bind fun q st h => (name_e h).bind fun p st h => semi_e (take_e h)
      rw [if_neg k4]
      by_cases k5 : st.t.kind = kInc
      · rw [if_pos k5]; exact (name_e h.next).bind fun q st h => semi_e h
      rw [if_neg k5]
      by_cases k6 : st.t.kind = kDec
      · rw [if_pos k6]; exact (name_e h.next).bind fun q st h => semi_e h
      rw [if_neg k6]
      by_cases k7 : st.t.kind = kDrop
      · rw [if_pos k7]; exact semi_e h.next
      rw [if_neg k7]
      by_cases k8 : st.t.kind = kBump
      · rw [if_pos k8]; exact semi_e h.next
      rw [if_neg k8]
      by_cases k9 : st.t.kind = kIf
      · rw [if_pos k9]
        refine (cond_e _ h.next).bind fun c st h => (ib h).bind fun t st h => ?_
        split
        · exact (ib h.next).bind fun e st h => h
        · exact h
      rw [if_neg k9]
      by_cases ka : st.t.kind = kRepeat
      · rw [if_pos ka]
        by_cases kb : st.loops = 2
        · rw [if_pos kb]; exact eDp
        rw [if_neg kb]
        refine (number_e h.next).bind fun k st h => (want_e h).bind fun _ st h => (cond_e _ h).bind fun c st h => ?_
        exact OOk.bind (ib (st := { st with loops := st.loops + 1 }) h) fun b st h => h
      rw [if_neg ka]
      exact eSyn
theorem decl_e (h : WOk st) : OOk (decl s st) := by
  unfold decl
  simp only
  split
  · have h1 : WOk (if (next s st).fseen then note eTwice st.t.pos (next s st) else next s st) := by
      split
      · exact h.next.note ⟨by decide, by decide⟩
      · exact h.next
    refine OOk.bind (number_e (st := { (if (next s st).fseen then note eTwice st.t.pos (next s st) else next s st) with fseen := true }) h1) fun n st h => ?_
    exact OOk.bind (want_e (st := { st with freq := n }) h) fun _ st h => h
  · refine (want_e h.next).bind fun n st h => ?_
    have h1 : WOk (declNote n st) := by
      have h2 : WOk (if 0 ≤ find st.decls n.text then note eTwice n.pos st else st) := by
        split
        · exact h.note ⟨by decide, by decide⟩
        · exact h
      show WOk (if (if 0 ≤ find st.decls n.text then note eTwice n.pos st else st).decls.length = 8 then note eMany n.pos (if 0 ≤ find st.decls n.text then note eTwice n.pos st else st) else (if 0 ≤ find st.decls n.text then note eTwice n.pos st else st))
      generalize (if 0 ≤ find st.decls n.text then note eTwice n.pos st else st) = st2 at h2 ⊢
      by_cases h8 : st2.decls.length = 8
      · rw [if_pos h8]; exact h2.note ⟨by decide, by decide⟩
      · rw [if_neg h8]; exact h2
    exact (number_e h1).bind fun m st h => (want_e h).bind fun _ st h => h
theorem rule_e {n : Nat} (h : WOk st) : OOk (rule s n st) := by
  unfold rule
  refine OOk.bind ?_ fun k st h => ((block_e n).1 h).bind fun b st h => ?_
  · unfold ruleHead
    simp only
    refine OOk.bind ?_ fun k st h => ?_
    · split
      · exact h
      · exact name_e h.next
    · show WOk _
      split
      · exact h.note ⟨by decide, by decide⟩
      · exact h
  · show WOk _
    split <;> exact h
theorem decls_e : ∀ (n : Nat) {st : PS}, WOk st → OOk (declsR s n st)
  | 0, st, h => eSyn
  | n + 1, st, h => by
    unfold declsR
    split
    · exact (decl_e h).bind fun _ st h => decls_e n h
    · exact h
theorem rules_e {m : Nat} : ∀ (n : Nat) {st : PS}, WOk st → OOk (rulesR s m n st)
  | 0, st, h => eSyn
  | n + 1, st, h => by
    unfold rulesR
    split
    · exact (rule_e h).bind fun _ st h => rules_e n h
    · exact h
theorem readAll_e : OOk (readAll s) := by
  unfold readAll
  refine (decls_e _ (fun y hy => by cases hy)).bind fun _ st h => (rules_e _ h).bind fun _ st h => want_e h

theorem read_err {k pos : Nat} (h : read s = .error (k, pos)) : 1 ≤ k ∧ k ≤ 12 := by
  unfold read at h
  split at h
  · injection h with h; injection h with h1 h2; subst h1; exact ⟨by decide, by decide⟩
  · have he := readAll_e (s := s)
    cases hr : readAll s with
    | bad e p =>
      rw [hr] at h he
      injection h with h; injection h with h1 h2; subst h1
      exact he
    | ok a st =>
      rw [hr] at h he
      simp only at h
      cases hw : st.wrong with
      | some x =>
        rw [hw] at h
        simp only at h
        injection h with h
        have := he x hw
        rw [h] at this
        exact this
      | none =>
        rw [hw] at h
        simp only at h
        split at h
        · injection h with h; injection h with h1 h2; subst h1; exact ⟨by decide, by decide⟩
        · cases h
end
end Go.Proofs.YtemppijblfflgabGreatDoor.Ev
namespace Go.Proofs.YtemppijblfflgabGreatDoor.Ev
open Go Go.RowKit

theorem madeCells_one (x : Value) (n : Nat) : madeCells #[x] n = (List.replicate n x).toArray := by
  apply Array.toList_inj.1
  apply List.ext_getElem?
  intro i
  unfold madeCells
  simp only [Array.toList_map, Array.toList_range, List.getElem?_map]
  by_cases hi : i < n
  · rw [List.getElem?_range hi]; simp [List.getElem?_replicate, hi, Nat.mod_one]
  · rw [List.getElem?_eq_none (by simp; omega), List.getElem?_eq_none (by simp; omega)]; rfl

end Go.Proofs.YtemppijblfflgabGreatDoor.Ev
namespace Go.Proofs.YtemppijblfflgabGreatDoor.Ev
open Go Go.RowKit

/-- What Load comes to. -/
def OutLoad (w : World) (s : Bytes) (e : Ending) (w' : World) : Prop :=
  Kept (fun b => w.heap.size ≤ b) w w' ∧ match read s with
    | .error (k, pos) => e = .returned (.tuple #[.pointer none, .int .i64 k, .int .i64 pos])
    | .ok p => ∃ ge, e = .returned (.tuple #[.pointer (some ⟨ge, 0, none⟩), .int .i64 0, .int .i64 0]) ∧ EngR (fun b => w.heap.size ≤ b ∧ b < w'.heap.size) w' ge (Eng.new p)

theorem PolR.later {B : Nat} {w w' : World} {gp bm : Nat} {vd : Value} {p : Policy} (h : PolR B w gp bm vd p) {T : Nat → Prop} (hk : Kept T w w') (hT : ∀ b, T b → w.heap.size ≤ b) : PolR B w' gp bm vd p := by
  have ht : ∀ b, b < w.heap.size → ¬ T b := fun b hb hs => by have := hT b hs; omega
  obtain ⟨M, h1, _⟩ := h.rules
  exact ⟨h.row.kept hk (ht _ h.row.lt), h.decls.later hk hT, h.rules.kept (hk.block bm (ht _ h1.lt)) (fun k cs hN hr => hk.block k (ht k hr.lt)), h.gp0, h.bm0⟩

theorem ProgR.later {S T : Nat → Prop} {w w' : World} {gg gp bm bc loops : Nat} {vd : Value} {p : Policy} (h : ProgR S w gg p gp bm bc loops vd) (hk : Kept T w w') (hT : ∀ b, T b → w.heap.size ≤ b) : ProgR S w' gg p gp bm bc loops vd :=
  h.kept hk (fun b _ hb hs => by have := hT b hs; omega)
theorem ProgR.alloc {S : Nat → Prop} {w : World} {gg gp bm bc loops : Nat} {vd : Value} {p : Policy} (h : ProgR S w gg p gp bm bc loops vd) (o : Obj) : ProgR S (w.alloc o) gg p gp bm bc loops vd :=
  h.later ((Kept.refl (fun b => w.heap.size ≤ b) w).alloc (Nat.le_refl _) o) (fun b hb => hb)
theorem sinv_new {p : Policy} (hp : PolW p) : SInv p (Eng.new p).s := by
  refine ⟨List.length_replicate, List.length_replicate, fun k l hl e he => ?_, fun k x hx => ?_⟩
  · have hl' : (List.replicate p.decls.length ([] : List Ent))[k]? = some l := hl
    rw [List.getElem?_replicate] at hl'
    split at hl'
    · injection hl' with hl'; subst hl'; cases he
    · cases hl'
  · have hx' : (List.replicate p.decls.length (0 : Int))[k]? = some x := hx
    rw [List.getElem?_replicate] at hx'
    split at hx'
    · rename_i hk
      injection hx' with hx'; subst hx'
      refine ⟨Int.le_refl _, ?_⟩
      have h1 := declAt_get (l := p.decls) (q := (k : Int)) ⟨by omega, by omega⟩
      rw [Int.toNat_natCast] at h1
      have := (hp.decls.each _ (List.mem_of_getElem? h1)).lo
      omega
    · cases hx'
theorem atq_new {p : Policy} (j : Nat) (x : Int) : ¬ AtQ (Eng.new p).s j x := by
  rintro ⟨l, hl, hx⟩
  have hl' : (List.replicate p.decls.length ([] : List Ent))[j]? = some l := hl
  rw [List.getElem?_replicate] at hl'
  split at hl'
  · injection hl' with hl'; subst hl'; cases hx
  · cases hl'

/-- The engine at its beginning. -/
theorem eng_first {w W : World} {p : Policy} {n1 n2 n3 gg gs ga gp bm bc loops xm : Nat} {vd vva xl xf xq : Value} (hp : PolW p) (P : ProgR (fun b => w.heap.size ≤ b ∧ b < n1) W gg p gp bm bc loops vd)
    (srow : Row W gs 92 [.pointer (some ⟨ga, 0, none⟩), vva]) (V : Sl (fun b => w.heap.size ≤ b ∧ (b < n2 ∨ n3 ≤ b)) W 3 1 vva p.decls.length (List.replicate p.decls.length (.int .i64 0)))
    (ar : ARep (fun b => n2 ≤ b ∧ b < n3) W ga (Arena.new p.decls.length) xl xf xq xm) (h12 : n1 ≤ n2) (h2 : w.heap.size ≤ n2) (h23 : n2 ≤ n3) (hgs : n3 ≤ gs) :
    EngR (fun b => w.heap.size ≤ b ∧ b < W.heap.size + 1) (W.alloc (.cells #[.pointer (some ⟨gg, 0, none⟩), .pointer (some ⟨gs, 0, none⟩), .int .i64 0, .int .i64 0, .int .i64 0] 79)) W.heap.size (Eng.new p) := by
  have hw : w.heap.size ≤ gs := by omega
  have hgl := srow.lt
  have e1 : (Eng.new p).s.vars.length = p.decls.length := List.length_replicate
  have e2 : (Eng.new p).s.vars.map encI = List.replicate p.decls.length (.int .i64 0) := by
    show (List.replicate p.decls.length (0 : Int)).map encI = _
    rw [List.map_replicate]; rfl
  refine ⟨gg, gs, ga, gp, bm, bc, loops, vd, vva, (fun b => n2 ≤ b ∧ b < n3), Arena.new p.decls.length, List.replicate p.decls.length [], Row.new W _ _, (P.alloc _).mono (fun b hb hs => ⟨⟨hs.1, ?_⟩, fun h => by have := hs.2; have := h.1; omega⟩), srow.alloc _, ?_,
    ⟨xl, xf, xq, xm, ar.alloc _⟩, AInv.new _ hp.decls.len, sinv_new hp, hp, fun j x hx => absurd hx (atq_new j x), fun b hb => ⟨by have := hb.1; omega, by have := hb.2; omega⟩, ⟨⟨?_, by omega⟩, fun h => ?_⟩, ⟨⟨hw, by omega⟩, fun h => by have := h.2; omega⟩⟩
  · simp at hb; omega
  · rw [e1, e2]
    have V' := V.shrink.alloc (.cells #[.pointer (some ⟨gg, 0, none⟩), .pointer (some ⟨gs, 0, none⟩), .int .i64 0, .int .i64 0, .int .i64 0] 79)
    exact V'.mono (fun b hb => ⟨⟨hb.1.1, by have := hb.2; omega⟩, fun h => by have := hb.1.2; have := h.1; have := h.2; omega⟩)
  · omega
  · have := h.2; omega

theorem load_fin {w w1 W : World} {s : Bytes} {p : Policy} {n1 n2 n3 gg gs ga gp bm bc loops xm ge : Nat} {vd vva xl xf xq : Value} {E : List Value} (hr : read s = .ok p) (hE : E = List.replicate p.decls.length (.int .i64 0)) (K1 : Kept (fun b => w.heap.size ≤ b) w w1) (KW : Kept (fun b => w1.heap.size ≤ b) w1 W)
    (P : ProgR (fun b => w.heap.size ≤ b ∧ b < n1) W gg p gp bm bc loops vd)
    (srow : Row W gs 92 [.pointer (some ⟨ga, 0, none⟩), vva]) (V : Sl (fun b => w.heap.size ≤ b ∧ (b < n2 ∨ n3 ≤ b)) W 3 1 vva p.decls.length E)
    (ar : ARep (fun b => n2 ≤ b ∧ b < n3) W ga (Arena.new p.decls.length) xl xf xq xm) (h12 : n1 ≤ n2) (h2 : w.heap.size ≤ n2) (h23 : n2 ≤ n3) (hgs : n3 ≤ gs) (hge : ge = W.heap.size) :
    OutLoad w s (.returned (.tuple #[.pointer (some ⟨ge, 0, none⟩), .int .i64 0, .int .i64 0])) (W.alloc (.cells #[.pointer (some ⟨gg, 0, none⟩), .pointer (some ⟨gs, 0, none⟩), .int .i64 0, .int .i64 0, .int .i64 0] 79)) := by
  subst hE hge
  refine ⟨K1.trans ((KW.alloc KW.size _).mono (fun b hb => Nat.le_trans K1.size hb)), ?_⟩
  rw [hr]
  refine ⟨_, rfl, ?_⟩
  have h := eng_first (read_W hr) P srow V ar h12 h2 h23 hgs
  exact h.mono (fun b hb => ⟨hb.1, by simp; exact hb.2⟩)

section
variable {B : Nat} {ea : Nat → Addr} {w : World} {s : Bytes}
attribute [local go_sem ↓] Go.wp_at_zero Go.wp_at_succ

set_option maxRecDepth 100000 in
set_option maxHeartbeats 4000000 in
theorem load_err (he : Env B ea w) (ho : ErrObj B ea w) {k pos : Nat} (hr : read s = .error (k, pos)) : Calls Tryz.prog 31 #[vs s] w (OutLoad w s) := by
  obtain ⟨h1, h2⟩ := read_err hr
  have hread := read_any he s
  have HR := Lib.hid hread
  have HE := Lib.hid he
  have HO := Lib.hid ho
  have HX := Lib.hid hr
  clear hread he ho hr
  go_enter Tryz.func31, Tryz.ntmps31
  go_wp2_with fail
  refine HR.out.mono ?_
  rintro e w1 ⟨hk1, hm⟩
  rw [HX.out] at hm
  obtain ⟨gf, rfl, hrow, hgf⟩ := hm
  have hB := HE.out.size
  have hE1 := HE.out.kept hk1 (fun b hb => Nat.le_trans hB hb)
  have hO1 := HO.out.kept hk1 (fun b hb => Nat.le_trans hB hb)
  have hglt := hrow.lt
  have as1 := as_hit ⟨gf, 0, none⟩ ⟨w1.heap.size, 0, none⟩ (.pointer none) (w1.alloc (.cells #[.pointer none] 125))
    ((((Kept.refl (fun b => w1.heap.size ≤ b) w1).alloc (Nat.le_refl _) (.cells #[.pointer none] 125)).cell (p := ⟨2, 0, none⟩) (by have := hO1.typlt; have := hE1.size; simp only; omega)).trans hO1.typ) (by simp) (by simp)
  have AS := Lib.hid as1
  have K1 := Lib.hid hk1
  have ROW := Lib.hid hrow
  have E1 := Lib.hid hE1
  have O1 := Lib.hid hO1
  clear as1 hk1 hrow hE1 hO1
  go_wp2_with fail
  refine AS.out.mono ?_
  rintro e w2 ⟨rfl, hw2⟩
  have k2 : Kept (fun b => w1.heap.size ≤ b) w1 w2 := by
    rw [hw2]
    repeat' first | with_reducible exact Kept.refl _ _ | with_reducible refine Kept.setCell ?_ (by simp) _ | with_reducible refine Kept.alloc ?_ (by simp <;> omega) _
  have cf : w2.cell? ⟨w1.heap.size, 0, none⟩ = some (.pointer (some ⟨gf, 0, none⟩)) := by
    rw [hw2]
    rw [World.cell?_setCell_same]
    case h => exact (((((Row.new w1 125 [.pointer none]).alloc _).alloc _).alloc _).alloc _).cell 0
  have cg : w2.cell? ⟨gf, 1, none⟩ = some (.int .i64 pos) := (k2.cell (p := ⟨gf, 1, none⟩) (by simp only; omega)).trans (ROW.out.cell 1)
  have hnum : ∀ W, Kept (fun b => w2.heap.size ≤ b) w2 W → Calls Tryz.prog 40 #[.iface 125 (.pointer (some ⟨gf, 0, none⟩))] W (NumOut W k) := fun W hk => by
    have kk : Kept (fun b => w1.heap.size ≤ b) w1 W := k2.trans (hk.mono (fun b hb => Nat.le_trans k2.size hb))
    have e1 := E1.out.kept kk (fun b hb => Nat.le_trans E1.out.size hb)
    exact number_err e1 h1 h2 (isNum_fault (O1.out.kept kk (fun b hb => Nat.le_trans E1.out.size hb)) e1.size h1 h2 (ROW.out.kept kk (by omega)))
  have HN := Lib.hid hnum
  have K2 := Lib.hid k2
  have r3 : w1.heap.size < w2.heap.size := World.block_lt_of_cell? w2 _ cf
  have r4 := k2.size
  clear hw2 hnum k2
  go_wp2_with fail
  go_region_held3 (fun w' => w'.cell? ⟨w1.heap.size, 0, none⟩ = some (.pointer (some ⟨gf, 0, none⟩)) ∧ w'.cell? ⟨gf, 1, none⟩ = some (.int .i64 pos) ∧ Kept (fun b => w2.heap.size ≤ b) w2 w')
    ((repeat' apply And.intro) <;> (first
      | assumption
      | exact (Kept.cell hl1 (by simp only; omega)).trans cf
      | exact (Kept.cell hl1 (by simp only; omega)).trans cg
      | (with_reducible exact (Kept.refl _ _).drew)
      | go_keep
      ))
    (first
      | (go_at_call 40; refine (HN.out _ ?_).mono ?_; (first | exact (Kept.refl _ _).drew); rintro e w3 ⟨rfl, hk3⟩; have hl1 : Kept (fun b => w2.heap.size ≤ b) w2 w3 := ((Kept.refl _ _).drew).trans (hk3.mono (fun b hb => hb)); clear hk3))
  all_goals
    go_wp2
    refine bodyPost_ret (v := .tuple #[.pointer none, .int .i64 k, .int .i64 pos]) (by simp [results, Tryz.results31, go_sem]) rfl ?_
    refine ⟨?_, ?_⟩
    · have h3 := hl1.mono (fun b hb => Nat.le_trans K2.out.size hb)
      exact K1.out.trans ((K2.out.trans h3).mono (fun b hb => Nat.le_trans K1.out.size hb))
    · rw [HX.out]

set_option maxRecDepth 100000 in
set_option maxHeartbeats 4000000 in
theorem load_ok (he : Env B ea w) {p : Policy} (hr : read s = .ok p) : Calls Tryz.prog 31 #[vs s] w (OutLoad w s) := by
  have hp := read_W hr
  have h8 := hp.decls.len
  have hread := read_any he s
  obtain ⟨i0, hi0, hz0, hz1, hz2⟩ := info_parts infoInt_
  have hmk : ∀ W : World, (Instr.makeSlice 46 (.int .i64 (p.decls.length : Int)) (.int .i64 (p.decls.length : Int))).run Tryz.prog W =
      .ok (.slice (some ⟨W.heap.size, 0, none⟩) p.decls.length p.decls.length) (W.alloc (.cells (List.replicate p.decls.length (Value.int .i64 0)).toArray 3)) := by
    intro W
    have h := run_make (P := Tryz.prog) W 46 3 i0 _ Tryz.underlying46 hi0 hz0 .i64 .i64 (p.decls.length : Int) (p.decls.length : Int) (by omega) (by omega) (by rw [hz2]; omega) (by omega)
    rw [hz1, Int.toNat_natCast] at h
    have e : (Value.int .i64 0).cells = #[Value.int .i64 0] := rfl
    rw [e, Nat.mul_one, madeCells_one] at h
    exact h
  have HR := Lib.hid hread
  have HX := Lib.hid hr
  have HP := Lib.hid hp
  clear hread he hr hp hi0 hz0 hz1 hz2
  generalize hE : (List.replicate p.decls.length (Value.int .i64 0)) = E at hmk
  have HE := Lib.hid hE
  clear hE
  go_enter Tryz.func31, Tryz.ntmps31
  go_wp2_with fail
  refine HR.out.mono ?_
  rintro e w1 ⟨hk1, hm⟩
  rw [HX.out] at hm
  obtain ⟨gp, bm, vd, rfl, hpol⟩ := hm
  obtain ⟨ad, cd, rfl⟩ : ∃ a c, vd = .slice a p.decls.length c := hpol.decls.shape
  have p0 := hpol.row.cell 0
  simp at p0
  have hof : ∀ W, Kept (fun b => w1.heap.size ≤ b) w1 W → Calls Tryz.prog 52 #[.pointer (some ⟨gp, 0, none⟩)] W fun e w' =>
      ∃ gg bc loops, e = .returned (.pointer (some ⟨gg, 0, none⟩)) ∧ Kept (fun b => W.heap.size ≤ b) W w' ∧ ProgR (fun b => w.heap.size ≤ b ∧ b < w'.heap.size) w' gg p gp bm bc loops (.slice ad p.decls.length cd) := fun W hk => by
    have hW := hpol.later hk (fun b hb => hb)
    have hwW : w.heap.size ≤ W.heap.size := Nat.le_trans hk1.size hk.size
    refine (of_any hW HP.out).mono ?_
    rintro e w' ⟨gg, bc, loops, h1, h2, h3⟩
    have hW2 := hW.later h2 (fun b hb => hb)
    obtain ⟨M, m1, _⟩ := hW2.rules
    exact ⟨gg, bc, loops, h1, h2, h3.mono_ (fun b h4 h5 => ⟨Nat.le_trans hwW h5, h4⟩), hW2.row, hW2.decls.shrink.mono (fun b hb => ⟨hb.1, hb.2⟩), RulesR.mono_ hW2.rules (fun k h4 h5 => ⟨h5, h4⟩), ⟨hW2.gp0, hW2.row.lt⟩, ⟨hW2.bm0, m1.lt⟩⟩
  have hnew : ∀ W : World, Calls Tryz.prog 53 #[.int .i64 (p.decls.length : Int)] W fun e w' =>
      ∃ ga, e = .returned (.pointer (some ⟨ga, 0, none⟩)) ∧ Kept (fun b => W.heap.size ≤ b) W w' ∧ ∃ xl xf xq xm, ARep (fun b => W.heap.size ≤ b ∧ b < w'.heap.size) w' ga (Arena.new p.decls.length) xl xf xq xm := fun W => by
    refine (new_any (S := fun b => W.heap.size ≤ b) (fun k hk => hk) p.decls.length (by omega)).mono ?_
    rintro e w' ⟨ga, h1, h2, xl, xf, xq, xm, h3⟩
    exact ⟨ga, h1, h2, xl, xf, xq, xm, h3.shrink⟩
  have HOF := Lib.hid hof
  have HNEW := Lib.hid hnew
  have K1 := Lib.hid hk1
  have hgl := hpol.row.lt
  clear hof hnew hk1 hpol
  go_wp2_with fail
  go_region_held3 (fun w' => Kept (fun b => w1.heap.size ≤ b) w1 w')
    (first
      | assumption
      | (with_reducible exact (Kept.refl _ _).drew)
      | exact ((Kept.refl _ _).drew).alloc (Nat.le_refl _) _
      | exact hl2.alloc z2 _
      | exact hl3.alloc z3 _
      | exact (hl3.alloc z3 _).alloc (by simp; omega) _
      | exact ((hl3.alloc z3 _).alloc (by simp; omega) _).alloc (by simp; omega) _)
    (first
      | (go_at_call 52; refine (HOF.out _ ?_).mono ?_; (first | exact (Kept.refl _ _).drew | exact ((Kept.refl _ _).drew).alloc (Nat.le_refl _) _); rintro e w2 ⟨gg, bc, loops, rfl, hk2, hp2⟩; have hl2 : Kept (fun b => w1.heap.size ≤ b) w1 w2 := (by first | exact ((Kept.refl _ _).drew).trans (hk2.mono (fun b hb => hb)) | exact (((Kept.refl (fun b => w1.heap.size ≤ b) w1).drew).alloc (Nat.le_refl _) _).trans (hk2.mono (fun b hb => by simp at hb; omega))); have z2 := hl2.size; have HK2 := Lib.hid hk2; have HP2 := Lib.hid hp2; clear hk2 hp2)
      | (go_at_call 53; refine (HNEW.out _).mono ?_; rintro e w3 ⟨ga, rfl, hk3, ha3⟩; have hl3 : Kept (fun b => w1.heap.size ≤ b) w1 w3 := (by first | exact hl2.trans (hk3.mono (fun b hb => Nat.le_trans z2 hb)) | exact (hl2.alloc z2 _).trans (hk3.mono (fun b hb => by simp at hb; omega))); have z3 := hl3.size; have HK3 := Lib.hid hk3; have HA3 := Lib.hid ha3; clear hk3 ha3))
  all_goals go_wp2
  · obtain ⟨xl, xf, xq, xm, ha⟩ := HA3.out
    have s1 := K1.out.size
    have s2 := HK2.out.size
    have s3 := HK3.out.size
    have hEl : E.length = p.decls.length * 1 := by rw [← HE.out]; simp
    simp at s2 s3
    refine bodyPost_ret (v := .tuple #[.pointer (some ⟨w3.heap.size + 1 + 1, 0, none⟩), .int .i64 0, .int .i64 0]) (by simp [results, Tryz.results31, go_sem]) rfl ?_
    exact load_fin HX.out HE.out.symm K1.out ((hl3.alloc z3 _).alloc (by simp; omega) _) (((HP2.out.later HK3.out (fun b hb => by simpa using hb)).alloc _).alloc _) (Row.at_new _ _ (by simp))
      ((Sl.of_row (Row.new _ _ _) ⟨by omega, .inr (Nat.le_refl _)⟩ hEl (by unfold maxLen; omega)).alloc _) ((ha.alloc _).alloc _) (by simp) (by first | omega | (simp; omega)) (by first | omega | (simp; omega)) (by simp) (by simp)
  · obtain ⟨xl, xf, xq, xm, ha⟩ := HA3.out
    have s1 := K1.out.size
    have s2 := HK2.out.size
    have s3 := HK3.out.size
    have hEl : E.length = p.decls.length * 1 := by rw [← HE.out]; simp
    simp at s2 s3
    refine bodyPost_ret (v := .tuple #[.pointer (some ⟨w3.heap.size + 1, 0, none⟩), .int .i64 0, .int .i64 0]) (by simp [results, Tryz.results31, go_sem]) rfl ?_
    exact load_fin HX.out HE.out.symm K1.out (hl3.alloc z3 _) (((HP2.out.alloc _).later HK3.out (fun b hb => by simpa using hb)).alloc _) (Row.at_new _ _ (by simp))
      (((Sl.of_row (Row.new _ _ _) ⟨by omega, .inl (by simp)⟩ hEl (by unfold maxLen; omega)).later HK3.out (fun b hb => hb)).alloc _) (ha.alloc _) (by simp) (by first | omega | (simp; omega)) (by first | omega | (simp; omega)) (by simp) (by simp)
  · obtain ⟨xl, xf, xq, xm, ha⟩ := HA3.out
    have s1 := K1.out.size
    have s2 := HK2.out.size
    have s3 := HK3.out.size
    have hEl : E.length = p.decls.length * 1 := by rw [← HE.out]; simp
    simp at s2 s3
    refine bodyPost_ret (v := .tuple #[.pointer (some ⟨w3.heap.size + 1, 0, none⟩), .int .i64 0, .int .i64 0]) (by simp [results, Tryz.results31, go_sem]) rfl ?_
    exact load_fin HX.out HE.out.symm K1.out (hl3.alloc z3 _) ((HP2.out.later HK3.out (fun b hb => by simpa using hb)).alloc _) (Row.at_new _ _ (by simp))
      (((((Sl.of_row (Row.new _ _ _) ⟨by first | omega | (simp; omega), .inl (by first | omega | (simp; omega))⟩ hEl (by unfold maxLen; omega)).of_heap (w' := (w1.alloc (.cells E.toArray 3)).drew) rfl).later HK2.out (fun b hb => hb)).later HK3.out (fun b hb => hb)).alloc _) (ha.alloc _) (by simp) (by first | omega | (simp; omega)) (by first | omega | (simp; omega)) (by simp) (by simp)

theorem load_any (he : Env B ea w) (ho : ErrObj B ea w) (s : Bytes) : Calls Tryz.prog 31 #[vs s] w (OutLoad w s) := by
  cases hr : read s with
  | error x => exact load_err he ho (k := x.1) (pos := x.2) hr
  | ok p => exact load_ok he hr
end
end Go.Proofs.YtemppijblfflgabGreatDoor.Ev
namespace Go.Proofs.YtemppijblfflgabGreatDoor.Ev

/-- The place of a key in a list. -/
def place (l : List Int) (key : Int) : Option Nat := l.findIdx? (fun k => k == key)
/-- Entries whose frequency is 0. -/
def z (l : List Int) : List Ent := l.map fun k => ⟨k, 0⟩

/-! ## One queue -/
/-! ## Fifo -/
end Go.Proofs.YtemppijblfflgabGreatDoor.Ev
namespace Go.Proofs.YtemppijblfflgabGreatDoor.Ev
open Go Go.RowKit

/-- The counts behind so many calls at most. -/
def CntB (c : Cnt) (m : Nat) : Prop := 0 ≤ c.hits ∧ c.hits ≤ m ∧ 0 ≤ c.misses ∧ c.misses ≤ m ∧ 0 ≤ c.evicted ∧ c.evicted ≤ 1750000 * (m : Int)
section
variable {B : Nat} {ea : Nat → Addr} {S : Nat → Prop} {w : World} {ge : Nat} {e : Eng}

end
end Go.Proofs.YtemppijblfflgabGreatDoor.Ev
namespace Go.Proofs.YtemppijblfflgabGreatDoor.Ev
open Go Go.RowKit


/-- What of n things a raw number speaks of. -/
def pickL (c n : Int) : Int := if c < 0 then (-(c + 1)).tmod n else c.tmod n

section
variable {w : World}

theorem pickL_nat (c : Int) {n : Nat} (hn : 0 < n) : ∃ k : Nat, pickL c n = (k : Int) ∧ k < n := by
  unfold pickL
  split
  · rename_i h
    rw [Int.tmod_eq_emod_of_nonneg (by omega)]
    exact ⟨((-(c + 1)) % (n : Int)).toNat, by rw [Int.toNat_of_nonneg (Int.emod_nonneg _ (by omega))], by have := Int.emod_lt_of_pos (-(c + 1)) (b := (n : Int)) (by omega); have := Int.emod_nonneg (-(c + 1)) (b := (n : Int)) (by omega); omega⟩
  · rename_i h
    rw [Int.tmod_eq_emod_of_nonneg (by omega)]
    exact ⟨(c % (n : Int)).toNat, by rw [Int.toNat_of_nonneg (Int.emod_nonneg _ (by omega))], by have := Int.emod_lt_of_pos c (b := (n : Int)) (by omega); have := Int.emod_nonneg c (b := (n : Int)) (by omega); omega⟩

set_option maxRecDepth 100000 in
set_option maxHeartbeats 1000000 in
theorem lpick_any (c : Int) (n : Nat) (h1 : -9223372036854775808 ≤ c) (h2 : c ≤ 9223372036854775807) (hn : 0 < n) (hn2 : n ≤ 1000000000) : Calls Tryz.prog 17 #[.int .i64 c, .int .i64 n] w fun e w' => e = .returned (.int .i64 (pickL c n)) ∧ w' = w := by
  have e0 : ((n : Int) == 0) = false := by simp; omega
  have e1 : decide ((n : Int) = 0) = false := by simp; omega
  unfold pickL
  by_cases hc : c < 0
  · rw [if_pos hc]
    go_enter Tryz.func17, Tryz.ntmps17
    go_wp2
    go_ret
    exact ⟨by rw [Int.neg_tmod]; rfl, rfl⟩
  · rw [if_neg hc, Int.tmod_eq_emod_of_nonneg (by omega)]
    go_enter Tryz.func17, Tryz.ntmps17
    go_wp2
    go_ret
    exact ⟨rfl, rfl⟩

/-- When the call of a step's kind is built. -/
def stageOf (k : Int) : Int := if k = 1 then 1 else if k = 2 then 2 else if k = 3 ∨ k = 4 then 3 else 4
theorem kind_cases (k : Int) : k = 1 ∨ k = 2 ∨ k = 3 ∨ k = 4 ∨ (¬ k = 1 ∧ ¬ k = 2 ∧ ¬ k = 3 ∧ ¬ k = 4) := by omega
set_option maxRecDepth 100000 in
set_option maxHeartbeats 1000000 in
theorem stage_any (k : Int) : Calls Tryz.prog 12 #[.int .i64 k] w fun e w' => e = .returned (.int .i64 (stageOf k)) ∧ w' = w := by
  rcases kind_cases k with rfl | rfl | rfl | rfl | ⟨h1, h2, h3, h4⟩
  · go_enter Tryz.func12, Tryz.ntmps12
    go_wp2
    go_ret
    exact ⟨rfl, rfl⟩
  · go_enter Tryz.func12, Tryz.ntmps12
    go_wp2
    go_ret
    exact ⟨rfl, rfl⟩
  · go_enter Tryz.func12, Tryz.ntmps12
    go_wp2
    go_ret
    exact ⟨rfl, rfl⟩
  · go_enter Tryz.func12, Tryz.ntmps12
    go_wp2
    go_ret
    exact ⟨rfl, rfl⟩
  · have hs : stageOf k = 4 := by unfold stageOf; rw [if_neg h1, if_neg h2, if_neg (by omega)]
    have a1 : (k == 1) = false := by simpa using h1
    have a2 : (k == 2) = false := by simpa using h2
    have a3 : (k == 3) = false := by simpa using h3
    have a4 : (k == 4) = false := by simpa using h4
    have b1 : decide (k = 1) = false := by simpa using h1
    have b2 : decide (k = 2) = false := by simpa using h2
    have b3 : decide (k = 3) = false := by simpa using h3
    have b4 : decide (k = 4) = false := by simpa using h4
    rw [hs]
    clear hs
    go_enter Tryz.func12, Tryz.ntmps12
    go_wp2
    go_ret
    exact ⟨rfl, rfl⟩
end
end Go.Proofs.YtemppijblfflgabGreatDoor.Ev
