/- Words for memory: rows of cells, maps keyed by integers, what a call may have turned. Over any program. The arena as plain lists: nodes, free places, ends of queues, where keys are; what its calls compute. No program in sight. How an arena lies in memory. Laws of maps keyed by integers, at the operation: store, delete, range. Over any program. Laws at the operation, for the walk: stores and deletes in maps keyed by integers; append to a slice that owns its row. Over any program. The walk of the arena's call 'In'. The walk of the arena's call 'New'. append as a step of a region that draws, in this claim's words. Over any program. Conditions: none. -/
import Derived.WalkKit
import Derived.Deep.Draws
import Derived.Lib.Hide
import Derived.MapKept
import Derived.StillTailTactics
import Derived.Maps.OwnSet
import Derived.Maps.RangeWalk
import Derived.Maps.AppendAt
import Derived.Test.YtemppijblfflgabGreatDoorProg
import Derived.Deep.QuietTactic
import Derived.BigQuiet
import Derived.RegionTactic
import Derived.Deep.DeepCutAuto
import Derived.Deep.DeepMust
import Derived.Laws.MakeOwn
import Derived.Deep.AppendLies
import Derived.Deep.RegionHeld3
import Derived.Deep.RegionLaw
set_option linter.all false
namespace Go.Proofs.YtemppijblfflgabGreatDoor.Ev
open Go Go.RowKit

/-! ## What a call may have turned -/
/-- Outside S nothing has turned; no block has gone. -/
structure Kept (S : Nat → Prop) (w w' : World) : Prop where
  os : w'.os = w.os
  tape : w'.tape = w.tape
  output : w'.output = w.output
  size : w.heap.size ≤ w'.heap.size
  block : ∀ k, ¬ S k → w'.heap[k]? = w.heap[k]?

/-- S holds every block that is not there yet. -/
def Up (S : Nat → Prop) (w : World) : Prop := ∀ k, w.heap.size ≤ k → S k

section
variable {S S' : Nat → Prop} {w w' w'' : World}
theorem Kept.refl (S : Nat → Prop) (w : World) : Kept S w w := ⟨rfl, rfl, rfl, Nat.le_refl _, fun _ _ => rfl⟩
theorem Kept.trans (h : Kept S w w') (k : Kept S w' w'') : Kept S w w'' :=
  ⟨k.os.trans h.os, k.tape.trans h.tape, k.output.trans h.output, Nat.le_trans h.size k.size, fun i hi => (k.block i hi).trans (h.block i hi)⟩
theorem Kept.mono (h : Kept S w w') (hS : ∀ k, S k → S' k) : Kept S' w w' := ⟨h.os, h.tape, h.output, h.size, fun k hk => h.block k (fun x => hk (hS k x))⟩
theorem Up.kept (h : Up S w) (k : Kept S' w w') : Up S w' := fun i hi => h i (Nat.le_trans k.size hi)
theorem Kept.drew (h : Kept S w w') : Kept S w w'.drew := ⟨h.os, h.tape, h.output, h.size, h.block⟩
theorem Kept.drewN (h : Kept S w w') (n : Nat) : Kept S w (w'.drewN n) := ⟨h.os, h.tape, h.output, h.size, h.block⟩
theorem Kept.alloc (h : Kept S w w') (hS : S w'.heap.size) (o : Obj) : Kept S w (w'.alloc o) :=
  h.trans ⟨rfl, rfl, rfl, by simp, fun k hk => by
    show (w'.heap.push o)[k]? = _
    rw [Array.getElem?_push, if_neg (by rintro rfl; exact hk hS)]⟩
theorem Kept.setCell (h : Kept S w w') {p : Addr} (hp : S p.block) (u : Value) : Kept S w (w'.setCell p u) :=
  h.trans ⟨rfl, rfl, rfl, by simp [World.setCell], fun k hk => Below.heap_setCell _ _ _ _ (fun e => hk (e ▸ hp))⟩
theorem Kept.one (w : World) (p : Addr) (u : Value) : Kept (fun b => b = p.block) w (w.setCell p u) := Kept.setCell (S := fun b => b = p.block) (Kept.refl _ w) rfl u
theorem Kept.cell (h : Kept S w w') {p : Addr} (hp : ¬ S p.block) : w'.cell? p = w.cell? p := World.cell?_of_block (w := w) (h.block p.block hp)
theorem Kept.frozen (h : Kept S w w') {p : Addr} (hp : ¬ S p.block) : w'.frozen? p = w.frozen? p := World.frozen?_of_block (w := w) (h.block p.block hp)
theorem Kept.below {B : Nat} (h : Kept S w w') (hS : ∀ k, S k → B ≤ k) : Below B w w' := ⟨h.os, h.tape, h.output, h.size, fun k hk => h.block k (fun x => by have := hS k x; omega)⟩
theorem Kept.of_below {B : Nat} (h : Below B w w') (hS : ∀ k, B ≤ k → S k) : Kept S w w' := ⟨h.os, h.tape, h.output, h.size, fun k hk => h.block k (by
  rcases Nat.lt_or_ge k B with h1 | h1
  · exact h1
  · exact absurd (hS k h1) hk)⟩
end

/-- A region whose operations read, but for the last: walked in the order of the text. -/
theorem wp_tail {P : Program} {id : Nat} {Q : Exit → Act → World → Prop} {a : Act} {w : World} {l : List Oper} (n : Nat) (hm : P.follows .mixedOrders = true) (hB : Region.lexTailB .any l.toArray n = true)
    (h : wpStill P l.toArray w.drew (fun a' => wpList P l.toArray Q (l.drop n) a' w.drew) (l.take n) a) : (Code.region id l.toArray true).wp P Q a w := wp_region_still_tail n hm hB h

theorem drewN_setCell (w : World) (n : Nat) (a : Addr) (v : Value) : (w.drewN n).setCell a v = (w.setCell a v).drewN n := rfl
theorem drew_setCell (w : World) (a : Addr) (v : Value) : w.drew.setCell a v = (w.setCell a v).drew := rfl
/-! ## A block that is known whole -/
def Row (w : World) (g : Nat) (t : TypeId) (cs : List Value) : Prop := w.heap[g]? = some (.cells cs.toArray t (0, 0))

section
variable {S : Nat → Prop} {w w' : World} {g g' : Nat} {t t' : TypeId} {cs cs' : List Value}
theorem Row.lt (h : Row w g t cs) : g < w.heap.size := by
  rcases Nat.lt_or_ge g w.heap.size with hlt | hge
  · exact hlt
  · unfold Row at h; rw [Array.getElem?_eq_none hge] at h; cases h
theorem Row.cell (h : Row w g t cs) (i : Nat) : w.cell? ⟨g, i, none⟩ = cs[i]? := (cell_of_row w g i cs.toArray t (0, 0) h).trans (by simp)
theorem Row.frozen (h : Row w g t cs) (i : Nat) : w.frozen? ⟨g, i, none⟩ = false := by unfold Row at h; simp [World.frozen?, h]
theorem Row.new (w : World) (t : TypeId) (cs : List Value) : Row (w.alloc (.cells cs.toArray t)) w.heap.size t cs := heap_alloc_new w _
theorem Row.drew (h : Row w g t cs) : Row w.drew g t cs := h
theorem Row.drewN (h : Row w g t cs) (n : Nat) : Row (w.drewN n) g t cs := h
theorem Row.alloc (h : Row w g t cs) (o : Obj) : Row (w.alloc o) g t cs := (Below.heap_alloc w o g h.lt).trans h
theorem Row.set_ (h : Row w g t cs) (i : Nat) (u : Value) : Row (w.setCell ⟨g, i, none⟩ u) g t (cs.set i u) := by
  unfold Row at h ⊢
  simp [World.setCell, Array.getElem?_modify, h]
theorem Row.far (h : Row w g t cs) {p : Addr} (hp : g ≠ p.block) (u : Value) : Row (w.setCell p u) g t cs := (Below.heap_setCell w p u g hp).trans h
theorem Row.kept (h : Row w g t cs) (k : Kept S w w') (hg : ¬ S g) : Row w' g t cs := (k.block g hg).trans h
theorem Row.ne_ (h : Row w g t cs) (h' : Row w g' t' cs') (hne : t ≠ t') : g ≠ g' := by
  rintro rfl
  unfold Row at h h'
  rw [h] at h'
  injection h' with h'
  injection h' with _ ht
  exact hne ht
end

/-! ## Maps keyed by integers -/
abbrev IMap := List (Int × Value)

def mget (M : IMap) (x : Int) : Option Value := (M.find? (fun y => y.1 == x)).map (·.2)
def mput (M : IMap) (x : Int) (v : Value) : IMap := if (mget M x).isSome then M.map (fun y => if y.1 == x then (x, v) else y) else M ++ [(x, v)]
/-- Block b is a map whose entries, in the order in which they came, are M. -/
def IsMap (w : World) (b : Nat) (k : IntKind) (M : IMap) : Prop :=
  ∃ es clock, w.heap[b]? = some (.map es clock) ∧ es.toList.map (fun e => (e.key, e.val)) = M.map (fun x => (Value.int k x.1, x.2)) ∧
    (∀ e ∈ es.toList, e.born < clock) ∧ (es.toList.map (·.born)).Nodup ∧ (M.map (·.1)).Nodup

section
variable {S : Nat → Prop} {w w' : World} {b : Nat} {k : IntKind} {M : IMap}
theorem IsMap.of_block (h : IsMap w b k M) (hb : w'.heap[b]? = w.heap[b]?) : IsMap w' b k M := by
  obtain ⟨es, c, h1, h2⟩ := h
  exact ⟨es, c, hb.trans h1, h2⟩
theorem IsMap.kept (h : IsMap w b k M) (hk : Kept S w w') (hb : ¬ S b) : IsMap w' b k M := h.of_block (hk.block b hb)
theorem IsMap.lt (h : IsMap w b k M) : b < w.heap.size := by
  obtain ⟨es, c, h1, _⟩ := h
  rcases Nat.lt_or_ge b w.heap.size with hlt | hge
  · exact hlt
  · rw [Array.getElem?_eq_none hge] at h1; cases h1
theorem IsMap.ne_row (h : IsMap w b k M) {g : Nat} {t : TypeId} {cs : List Value} (hr : Row w g t cs) : b ≠ g := by
  rintro rfl
  obtain ⟨es, c, h1, _⟩ := h
  unfold Row at hr
  rw [hr] at h1
  cases h1
theorem IsMap.new (w : World) (k : IntKind) : IsMap (w.alloc (.map #[] 0)) w.heap.size k [] :=
  ⟨#[], 0, heap_alloc_new w _, rfl, by simp, by simp, by simp⟩

theorem findNow_int (k : IntKind) (x : Int) : ∀ (es : List MapEntry) (M : IMap) (i : Nat), es.map (fun e => (e.key, e.val)) = M.map (fun y => (Value.int k y.1, y.2)) →
    Instr.findNow (.int k) (.int k x) es i = some ((M.findIdx? (fun y => y.1 == x)).bind fun j => (M[j]?).map fun y => (i + j, y.2))
  | [], [], i, _ => rfl
  | [], _ :: _, _, h => by simp at h
  | _ :: _, [], _, h => by simp at h
  | e :: es, y :: M, i, h => by
    simp only [List.map_cons, List.cons.injEq, Prod.mk.injEq] at h
    obtain ⟨⟨hk, hv⟩, hr⟩ := h
    unfold Instr.findNow
    rw [hk]
    simp only [Instr.sameNow, if_true]
    by_cases hx : x = y.1
    · subst hx
      simp [List.findIdx?_cons, hv]
    · have h1 : (x == y.1) = false := by simpa using hx
      have h2 : (y.1 == x) = false := by simpa using fun e => hx e.symm
      simp only [h1, List.findIdx?_cons, h2]
      rw [findNow_int k x es M (i + 1) hr]
      cases M.findIdx? (fun y => y.1 == x) with
      | none => rfl
      | some j => simp [Nat.add_comm 1 j, Nat.add_assoc]

theorem mget_idx (M : IMap) (x : Int) : mget M x = (M.findIdx? (fun y => y.1 == x)).bind fun j => (M[j]?).map (·.2) := by
  unfold mget
  induction M with
  | nil => rfl
  | cons y M ih =>
    by_cases hx : y.1 == x
    · simp [List.find?_cons, List.findIdx?_cons, hx]
    · simp only [Bool.not_eq_true] at hx
      simp only [List.find?_cons, hx, List.findIdx?_cons, ih]
      cases M.findIdx? (fun y => y.1 == x) with
      | none => rfl
      | some j => simp

theorem run_checkKey_int {P : Program} {t : TypeId} (ht : P.underlying t = some (.int k)) (em : Bool) (x : Int) (w : World) : (Instr.checkKey em 10000 t (.int k x)).run P w = .ok () w := by
  have h : ∀ n, (Instr.checkKey em (n + 1) t (.int k x)).run P w = .ok () w := fun n => by simp only [Instr.checkKey, Sem.run_bind, run_underlying ht, Result.andThen_ok]; rfl
  exact h 9999

theorem run_findKey_int {P : Program} {t : TypeId} (ht : P.underlying t = some (.int k)) (x : Int) (es : List MapEntry) (hM : es.map (fun e => (e.key, e.val)) = M.map (fun y => (Value.int k y.1, y.2))) (w : World) :
    (Instr.findKey t (.int k x) es).run P w = .ok ((M.findIdx? (fun y => y.1 == x)).bind fun j => (M[j]?).map fun y => (j, y.2)) w := by
  have h := findNow_int k x es M 0 hM
  simp only [Nat.zero_add] at h
  simp [Instr.findKey, run_underlying ht, h]

theorem run_getObj_map {P : Program} {w : World} {b : Nat} {es : Array MapEntry} {c : Nat} (h : w.heap[b]? = some (.map es c)) : (getObj b).run P w = .ok (.map es c) w := by
  simp [getObj, Sem.run, h]

theorem run_setObj_map {P : Program} {w : World} {b : Nat} {es : Array MapEntry} {c : Nat} (h : w.heap[b]? = some (.map es c)) (o : Obj) :
    (setObj b o).run P w = .ok () { w with heap := w.heap.setIfInBounds b o } := by
  simp [setObj, Sem.run, h]

/-- A look-up. -/
theorem IsMap.lookup {P : Program} {T K E : TypeId} (h : IsMap w b k M) (hT : P.underlying T = some (.map K E)) (hK : P.underlying K = some (.int k)) {z : Value} (hz : ∀ w, (zeroValue E).run P w = .ok z w)
    (x : Int) (c : Bool) : (Instr.lookup T (.map (some b)) (.int k x) c).run P w =
      .ok (if c then .tuple #[(mget M x).getD z, .bool (mget M x).isSome] else (mget M x).getD z) w := by
  obtain ⟨es, cl, h1, h2, _⟩ := h
  have hf := run_findKey_int hK x es.toList h2 w
  rw [mget_idx]
  simp only [Instr.lookup, Sem.run_bind, run_underlying hT, Result.andThen_ok, run_getObj_map h1, run_checkKey_int hK, hf, Sem.run_pure]
  cases hj : M.findIdx? (fun y => y.1 == x) with
  | none => simp [hz]
  | some j =>
    have hlt : j < M.length := by
      obtain ⟨hlt, _⟩ := List.findIdx?_eq_some_iff_getElem.1 hj
      exact hlt
    simp [List.getElem?_eq_getElem hlt]
end

end Go.Proofs.YtemppijblfflgabGreatDoor.Ev
namespace Go.Proofs.YtemppijblfflgabGreatDoor.Ev

structure Node where
  key : Int
  freq : Int
  prev : Nat
  next : Nat
  q : Int
deriving Inhabited

structure Ends where
  head : Nat
  tail : Nat
  n : Nat
deriving Inhabited

structure Arena where
  l : List Node
  free : List Nat
  qs : List Ends
  at_ : List (Int × Nat)

def Arena.idx (A : Arena) (key : Int) : Option Nat := (A.at_.find? (fun y => y.1 == key)).map (·.2)
def Arena.node (A : Arena) (n : Nat) : Node := (A.l[n]?).getD ⟨0, 0, 0, 0, 0⟩
def Arena.ends (A : Arena) (q : Nat) : Ends := (A.qs[q]?).getD ⟨0, 0, 0⟩

def Arena.setNode (A : Arena) (n : Nat) (x : Node) : Arena := { A with l := A.l.set n x }
def Arena.setEnds (A : Arena) (q : Nat) (x : Ends) : Arena := { A with qs := A.qs.set q x }

def linkNode (A : Arena) (n q : Nat) (tail : Bool) : Node :=
  { (A.node n) with q := (q : Int), prev := if tail then (A.ends q).tail else 0, next := if tail then 0 else (A.ends q).head }
def Arena.link1 (A : Arena) (n q : Nat) (x : Node) : Arena :=
  if x.prev = 0 then A.setEnds q { (A.ends q) with head := n } else A.setNode x.prev { (A.node x.prev) with next := n }
def Arena.link2 (A : Arena) (n q : Nat) (x : Node) : Arena :=
  if x.next = 0 then A.setEnds q { (A.ends q) with tail := n } else A.setNode x.next { (A.node x.next) with prev := n }
def Arena.link3 (A : Arena) (q : Nat) : Arena := A.setEnds q { (A.ends q) with n := (A.ends q).n + 1 }
def Arena.link (A : Arena) (n q : Nat) (tail : Bool) : Arena :=
  (((A.setNode n (linkNode A n q tail)).link1 n q (linkNode A n q tail)).link2 n q (linkNode A n q tail)).link3 q

end Go.Proofs.YtemppijblfflgabGreatDoor.Ev
namespace Go.Proofs.YtemppijblfflgabGreatDoor.Ev
open Go Go.RowKit

def encNode (x : Node) : List Value := [.int .u64 x.key, .int .i64 x.freq, .int .i64 x.prev, .int .i64 x.next, .int .i64 x.q]
def encEnds (x : Ends) : List Value := [.int .i64 x.head, .int .i64 x.tail, .int .i64 x.n]
def encInt (n : Nat) : Value := .int .i64 n
def encAt (M : List (Int × Nat)) : IMap := M.map fun x => (x.1, .int .i64 x.2)

/-- A slice that owns a row, in S. -/
def Sl (S : Nat → Prop) (w : World) (e : TypeId) (size : Nat) (v : Value) (n : Nat) (xs : List Value) : Prop :=
  w.ownsRow 0 e size v n xs ∧ ∀ g, v.ownBlock = some g → S g

theorem flat_get {α : Type} (f : α → List Value) (k : Nat) (hk : ∀ x, (f x).length = k) : ∀ (l : List α) (i j : Nat) (x : α), l[i]? = some x → j < k → (l.flatMap f)[i * k + j]? = (f x)[j]?
  | [], i, j, x, h, _ => by simp at h
  | y :: l, 0, j, x, h, hj => by
    simp only [List.getElem?_cons_zero, Option.some.injEq] at h
    subst h
    rw [List.flatMap_cons, List.getElem?_append_left (by rw [hk]; omega)]
    simp
  | y :: l, i + 1, j, x, h, hj => by
    simp only [List.getElem?_cons_succ] at h
    have e : (i + 1) * k + j = k + (i * k + j) := by rw [Nat.add_mul]; omega
    rw [List.flatMap_cons, e, List.getElem?_append_right (by rw [hk]; omega), hk, Nat.add_sub_cancel_left]
    exact flat_get f k hk l i j x h hj

section
variable {S : Nat → Prop} {w w' : World} {e : TypeId} {size n : Nat} {v : Value} {xs : List Value}
theorem Sl.form (h : Sl S w e size v n xs) (hn : 0 < n) : ∃ g cap, v = .slice (some ⟨g, 0, none⟩) n cap ∧ S g ∧ n ≤ cap ∧ cap ≤ maxLen ∧ g < w.heap.size := by
  obtain ⟨⟨_, h1⟩, h2⟩ := h
  rcases h1 with ⟨_, h0⟩ | ⟨g, cap, cur, rfl, _, hg, h3, h4, _⟩
  · omega
  · exact ⟨g, cap, rfl, h2 g rfl, h3, h4, Row.lt (cs := cur.toList) (by unfold Row; simpa using hg)⟩
theorem Sl.kept (h : Sl S w e size v n xs) {S1 : Nat → Prop} (hk : Kept S1 w w') (hS : ∀ g, v.ownBlock = some g → ¬ S1 g) : Sl S w' e size v n xs := by
  obtain ⟨⟨h0, h1⟩, h2⟩ := h
  refine ⟨⟨h0, ?_⟩, h2⟩
  rcases h1 with h1 | ⟨g, cap, cur, rfl, hb, hg, h3⟩
  · exact .inl h1
  · exact .inr ⟨g, cap, cur, rfl, hb, (hk.block g (hS g rfl)).trans hg, h3⟩
theorem Sl.mono (h : Sl S w e size v n xs) {S' : Nat → Prop} (hS : ∀ k, S k → S' k) : Sl S' w e size v n xs := ⟨h.1, fun g hg => hS g (h.2 g hg)⟩
theorem Sl.at_ {α : Type} {f : α → List Value} {l : List α} {g cap : Nat} (h : Sl S w e size (.slice (some ⟨g, 0, none⟩) l.length cap) l.length (l.flatMap f)) (hk : ∀ x, (f x).length = size)
    {i j : Nat} {x : α} (hx : l[i]? = some x) (hj : j < size) : w.cell? ⟨g, i * size + j, none⟩ = (f x)[j]? := by
  have hi : i < l.length := (List.getElem?_eq_some_iff.1 hx).1
  have hb : i * size + j < l.length * size := by
    have h1 : (i + 1) * size ≤ l.length * size := Nat.mul_le_mul_right _ hi
    rw [Nat.add_mul] at h1
    omega
  exact (h.1.cellAt _ hb).trans (flat_get f size hk l i j x hx hj)
theorem Sl.frz {g cap m : Nat} (h : Sl S w e size (.slice (some ⟨g, 0, none⟩) n cap) m xs) (hm : m = n) (j : Nat) : w.frozen? ⟨g, j, none⟩ = false := by
  subst hm
  exact h.1.frozenAt j
theorem flat_set {α : Type} (f : α → List Value) (k : Nat) (hk : ∀ x, (f x).length = k) : ∀ (l : List α) (i j : Nat) (x x' : α) (u : Value), l[i]? = some x → j < k → f x' = (f x).set j u →
    (l.flatMap f).set (i * k + j) u = (l.set i x').flatMap f
  | [], i, j, x, x', u, h, _, _ => by simp at h
  | y :: l, 0, j, x, x', u, h, hj, he => by
    simp only [List.getElem?_cons_zero, Option.some.injEq] at h
    subst h
    simp only [List.flatMap_cons, List.set_cons_zero, he, Nat.zero_mul, Nat.zero_add]
    rw [List.set_append_left _ _ (by rw [hk]; omega)]
  | y :: l, i + 1, j, x, x', u, h, hj, he => by
    simp only [List.getElem?_cons_succ] at h
    have e : (i + 1) * k + j = k + (i * k + j) := by rw [Nat.add_mul]; omega
    simp only [List.flatMap_cons, List.set_cons_succ]
    rw [e, List.set_append_right _ _ (by rw [hk]; omega), hk, Nat.add_sub_cancel_left, flat_set f k hk l i j x x' u h hj he]
theorem Sl.set_ {α : Type} {f : α → List Value} {l : List α} {g cap : Nat} (h : Sl S w e size (.slice (some ⟨g, 0, none⟩) l.length cap) l.length (l.flatMap f)) (hk : ∀ x, (f x).length = size)
    {i j : Nat} {x x' : α} {u : Value} (hx : l[i]? = some x) (hj : j < size) (he : f x' = (f x).set j u) :
    Sl S (w.setCell ⟨g, i * size + j, none⟩ u) e size (.slice (some ⟨g, 0, none⟩) (l.set i x').length cap) (l.set i x').length ((l.set i x').flatMap f) := by
  have hi : i < l.length := (List.getElem?_eq_some_iff.1 hx).1
  have hb : i * size + j < l.length * size := by
    have h1 : (i + 1) * size ≤ l.length * size := Nat.mul_le_mul_right _ hi
    rw [Nat.add_mul] at h1
    omega
  have hs := h.1.stored (i * size + j) u
  rw [flat_set f size hk l i j x x' u hx hj he] at hs
  rw [List.length_set]
  exact ⟨hs.1, h.2⟩
end

section
variable {S S' : Nat → Prop} {w w' : World} {e e' t : TypeId} {size size' n n' : Nat} {v v' : Value} {xs xs' cs : List Value} {g : Nat}
theorem Sl.row (h : Sl S w e size v n xs) (hg : v.ownBlock = some g) : ∃ cs, Row w g e cs := by
  obtain ⟨_, _, cur, rfl, _, hh, _⟩ := h.1.2.resolve_left (by rintro ⟨h0, _⟩; rw [h0] at hg; cases hg)
  injection hg with hg
  simp only at hg
  subst hg
  exact ⟨cur.toList, by unfold Row; simpa using hh⟩
theorem Sl.ne_row (h : Sl S w e size v n xs) (hr : Row w g t cs) (hne : e ≠ t) : v.ownBlock ≠ some g := by
  intro hg
  obtain ⟨cs', h1⟩ := h.row hg
  exact h1.ne_ hr hne rfl
theorem Sl.ne_sl (h : Sl S w e size v n xs) (h' : Sl S' w e' size' v' n' xs') (hne : e ≠ e') (hg : v'.ownBlock = some g) : v.ownBlock ≠ some g := by
  obtain ⟨cs', h1⟩ := h'.row hg
  exact h.ne_row h1 hne
theorem Sl.lt (h : Sl S w e size v n xs) (hg : v.ownBlock = some g) : g < w.heap.size := by
  obtain ⟨cs', h1⟩ := h.row hg
  exact h1.lt
theorem Sl.ne_map (h : Sl S w e size v n xs) {k : IntKind} {M : IMap} (hm : IsMap w g k M) : v.ownBlock ≠ some g := by
  intro hg
  obtain ⟨cs', h1⟩ := h.row hg
  exact hm.ne_row h1 rfl
theorem Sl.of_heap (h : Sl S w e size v n xs) (hh : w'.heap = w.heap) : Sl S w' e size v n xs := h.kept (S1 := fun _ => False) (w' := { w with heap := w'.heap }) ⟨rfl, rfl, rfl, by rw [hh]; exact Nat.le_refl _, fun k _ => by rw [hh]⟩ (fun _ _ h => h)
theorem Sl.alloc (h : Sl S w e size v n xs) (o : Obj) : Sl S (w.alloc o) e size v n xs := ⟨h.1.alloc o, h.2⟩
end

/-- How an arena lies in memory: its block, its rows, its map; all in S. -/
structure ARep (S : Nat → Prop) (w : World) (g : Nat) (A : Arena) (vl vf vq : Value) (bm : Nat) : Prop where
  row : Row w g 161 [vl, vf, vq, .map (some bm)]
  l : Sl S w 163 5 vl A.l.length (A.l.flatMap encNode)
  f : Sl S w 3 1 vf A.free.length (A.free.map encInt)
  q : Sl S w 185 3 vq A.qs.length (A.qs.flatMap encEnds)
  m : IsMap w bm .u64 (encAt A.at_)
  sg : S g
  sm : S bm

section
variable {S S' : Nat → Prop} {w w' : World} {g bm : Nat} {A : Arena} {vl vf vq : Value}
theorem ARep.kept (h : ARep S w g A vl vf vq bm) {S1 : Nat → Prop} (hk : Kept S1 w w') (hS : ∀ b, S b → ¬ S1 b) : ARep S w' g A vl vf vq bm :=
  ⟨h.row.kept hk (hS _ h.sg), h.l.kept hk (fun b hb => hS b (h.l.2 b hb)), h.f.kept hk (fun b hb => hS b (h.f.2 b hb)), h.q.kept hk (fun b hb => hS b (h.q.2 b hb)), h.m.kept hk (hS _ h.sm), h.sg, h.sm⟩
theorem ARep.mono (h : ARep S w g A vl vf vq bm) (hS : ∀ b, S b → S' b) : ARep S' w g A vl vf vq bm :=
  ⟨h.row, h.l.mono hS, h.f.mono hS, h.q.mono hS, h.m, hS _ h.sg, hS _ h.sm⟩
theorem ARep.alloc (h : ARep S w g A vl vf vq bm) (o : Obj) : ARep S (w.alloc o) g A vl vf vq bm :=
  ⟨h.row.alloc o, h.l.alloc o, h.f.alloc o, h.q.alloc o, h.m.of_block (Below.heap_alloc w o bm h.m.lt), h.sg, h.sm⟩
end

end Go.Proofs.YtemppijblfflgabGreatDoor.Ev
namespace Go.Proofs.YtemppijblfflgabGreatDoor.Ev
open Go Go.RowKit

section
variable {S : Nat → Prop} {w w' : World} {b : Nat} {k : IntKind} {M : IMap} {P : Program}

theorem setObj_kept {w : World} {b : Nat} (o : Obj) : Kept (fun x => x = b) w { w with heap := w.heap.setIfInBounds b o } :=
  ⟨rfl, rfl, rfl, by simp, fun i hi => by simp only [Array.getElem?_setIfInBounds]; rw [if_neg (fun e => hi e.symm)]⟩
theorem setObj_same {w : World} {b : Nat} {o : Obj} (hb : b < w.heap.size) : ({ w with heap := w.heap.setIfInBounds b o } : World).heap[b]? = some o := by
  simp [Array.getElem?_setIfInBounds, hb]

theorem entries_idx {es : List MapEntry} (h : es.map (fun e => (e.key, e.val)) = M.map (fun x => (Value.int k x.1, x.2))) (j : Nat) :
    (es[j]?).map (fun e => (e.key, e.val)) = (M[j]?).map (fun x => (Value.int k x.1, x.2)) := by
  rw [← List.getElem?_map, h, List.getElem?_map]

theorem mget_none_iff {x : Int} : mget M x = none ↔ M.findIdx? (fun y => y.1 == x) = none := by
  unfold mget
  simp [List.find?_eq_none, List.findIdx?_eq_none_iff]

theorem run_keyStays (P : Program) (x : Int) (w : World) : (Instr.keyThatStays (.int k x) (.int k x)).run P w = .ok (.int k x) w := by
  have h : ∀ n, Instr.sameBits (n + 1) (.int k x) (.int k x) = true := fun n => by simp [Instr.sameBits]
  simp [Instr.keyThatStays, h 9999]

/-- A store. -/
theorem IsMap.update {T K E : TypeId} (h : IsMap w b k M) (hT : P.underlying T = some (.map K E)) (hK : P.underlying K = some (.int k)) (x : Int) (v : Value) :
    ∃ w', (Instr.mapUpdate T (.map (some b)) (.int k x) v).run P w = .ok () w' ∧ IsMap w' b k (mput M x v) ∧ Kept (fun i => i = b) w w' := by
  have hlt := h.lt
  obtain ⟨es, cl, h1, h2, h3, h4, h5⟩ := h
  have hf := run_findKey_int hK x es.toList h2 w
  cases hj : M.findIdx? (fun y => y.1 == x) with
  | none =>
    have hno : mget M x = none := mget_none_iff.2 hj
    refine ⟨{ w with heap := w.heap.setIfInBounds b (.map (es.push { key := .int k x, val := v, born := cl }) (cl + 1)) }, ?_, ⟨_, _, setObj_same hlt, ?_, ?_, ?_, ?_⟩, setObj_kept _⟩
    · rw [hj] at hf
      simp [Instr.mapUpdate, run_underlying hT, run_getObj_map h1, run_checkKey_int hK, hf, run_setObj_map h1]
    · simp [mput, hno, h2]
    · intro e he
      simp only [Array.toList_push, List.mem_append, List.mem_singleton] at he
      rcases he with he | rfl
      · have := h3 e he; omega
      · exact Nat.lt_succ_self _
    · simp only [Array.toList_push, List.map_append, List.map_cons, List.map_nil]
      rw [List.nodup_append]
      refine ⟨h4, by simp, ?_⟩
      intro a ha c hc e
      simp only [List.mem_singleton] at hc
      obtain ⟨y, hy, rfl⟩ := List.mem_map.1 ha
      have := h3 y hy
      omega
    · simp only [mput, hno, Option.isSome_none, Bool.false_eq_true, if_false, List.map_append, List.map_cons, List.map_nil]
      rw [List.nodup_append]
      refine ⟨h5, by simp, ?_⟩
      intro a ha c hc e
      simp only [List.mem_singleton] at hc
      subst hc
      subst e
      obtain ⟨y, hy, rfl⟩ := List.mem_map.1 ha
      have := List.findIdx?_eq_none_iff.1 hj y hy
      simp at this
  | some j =>
    obtain ⟨hlt2, hjx, _⟩ := List.findIdx?_eq_some_iff_getElem.1 hj
    have hsome : (mget M x).isSome = true := by
      rw [mget_idx, hj]; simp [List.getElem?_eq_getElem hlt2]
    have hidx := entries_idx h2 j
    rw [List.getElem?_eq_getElem hlt2] at hidx
    have hlen : es.toList.length = M.length := by have := congrArg List.length h2; simpa using this
    have hej : es.toList[j]? = some es.toList[j] := List.getElem?_eq_getElem (by omega)
    have hx : M[j].1 = x := by simpa using hjx
    have hkey : es.toList[j].key = .int k x := by
      rw [hej] at hidx
      simp only [Option.map_some, Option.some.injEq, Prod.mk.injEq] at hidx
      rw [hidx.1, hx]
    refine ⟨{ w with heap := w.heap.setIfInBounds b (.map (es.modify j fun e => { e with key := .int k x, val := v }) cl) }, ?_, ⟨_, _, setObj_same hlt, ?_, ?_, ?_, ?_⟩, setObj_kept _⟩
    · rw [hj] at hf
      simp only [Option.bind_some, List.getElem?_eq_getElem hlt2, Option.map_some] at hf
      have hk2 : ((es[j]?).map (·.key)).getD (.int k x) = .int k x := by
        rw [← Array.getElem?_toList, hej]; simpa using hkey
      simp only [Instr.mapUpdate, Sem.run_bind, run_underlying hT, Result.andThen_ok, run_getObj_map h1, run_checkKey_int hK, hf, hk2, run_keyStays, run_setObj_map h1]
    · have e1 : ∀ (l : List MapEntry) (M : IMap) (j : Nat), l.map (fun e => (e.key, e.val)) = M.map (fun y => (Value.int k y.1, y.2)) → (M.map (·.1)).Nodup → (hl : j < M.length) → M[j].1 = x →
          (l.modify j fun e => { e with key := .int k x, val := v }).map (fun e => (e.key, e.val)) = (M.map (fun y => if y.1 == x then (x, v) else y)).map (fun y => (Value.int k y.1, y.2)) := by
        intro l
        induction l with
        | nil =>
          intro M j h _ hl
          have := congrArg List.length h
          simp at this
          omega
        | cons e l ih =>
          intro M j h hn hl hx
          cases M with
          | nil => simp at hl
          | cons y M =>
            simp only [List.map_cons, List.cons.injEq] at h
            simp only [List.map_cons, List.nodup_cons] at hn
            cases j with
            | zero =>
              simp only [List.getElem_cons_zero] at hx
              simp only [List.modify_zero_cons, List.map_cons, hx, beq_self_eq_true, if_true, h.2, List.cons.injEq, true_and]
              refine (List.map_congr_left ?_ : List.map (fun y => (Value.int k y.1, y.2)) M = List.map (fun y => (Value.int k (if y.1 == x then (x, v) else y).1, (if y.1 == x then (x, v) else y).2)) M).trans ?_
              · intro z hz
                have : (z.1 == x) = false := by
                  simp only [beq_eq_false_iff_ne]
                  intro hzx
                  exact hn.1 (by rw [hx, ← hzx]; exact List.mem_map.2 ⟨z, hz, rfl⟩)
                simp [this]
              · simp [List.map_map, Function.comp_def]
            | succ j =>
              simp only [List.getElem_cons_succ] at hx
              have hne : (y.1 == x) = false := by
                simp only [beq_eq_false_iff_ne]
                intro hyx
                exact hn.1 (by rw [hyx, ← hx]; exact List.mem_map.2 ⟨_, List.getElem_mem _, rfl⟩)
              simp only [List.modify_succ_cons, List.map_cons, hne]
              rw [ih M j h.2 hn.2 (by simpa using hl) hx]
              simp [h.1]
      rw [Array.toList_modify]
      simp only [mput, hsome, if_true]
      exact e1 _ _ _ h2 h5 hlt2 hx
    · intro e he
      rw [Array.toList_modify] at he
      obtain ⟨i, hi⟩ := List.mem_iff_getElem?.1 he
      rw [List.getElem?_modify] at hi
      split at hi
      · cases hy : es.toList[i]? with
        | none => rw [hy] at hi; cases hi
        | some y => rw [hy] at hi; simp at hi; subst hi; exact h3 y (List.mem_of_getElem? hy)
      · cases hy : es.toList[i]? with
        | none => rw [hy] at hi; cases hi
        | some y => rw [hy] at hi; simp at hi; subst hi; exact h3 y (List.mem_of_getElem? hy)
    · rw [Array.toList_modify]
      have : ∀ (l : List MapEntry) (j : Nat), (l.modify j fun e => { e with key := .int k x, val := v }).map (·.born) = l.map (·.born) := by
        intro l
        induction l with
        | nil => intro j; simp
        | cons e l ih => intro j; cases j with
          | zero => simp
          | succ j => simp [ih]
      rw [this]; exact h4
    · simp only [mput, hsome, if_true, List.map_map]
      have : (M.map ((fun y : Int × Value => y.1) ∘ fun y => if y.1 == x then (x, v) else y)) = M.map (·.1) := by
        refine List.map_congr_left fun y hy => ?_
        by_cases hyx : y.1 == x
        · have e : y.1 = x := by simpa using hyx
          simp [e]
        · have e : ¬ y.1 = x := by simpa using hyx
          simp [e]
      rw [this]; exact h5

end
end Go.Proofs.YtemppijblfflgabGreatDoor.Ev
namespace Go.Proofs.YtemppijblfflgabGreatDoor.Ev
open Go Go.RowKit

section
variable {S : Nat → Prop} {P : Program} {w : World} {ops : Array Oper} {rest : List Oper} {o : Oper} {a : Act} {Q : Exit → Act → World → Prop}

theorem wp_mapUpdate {b : Nat} {k : IntKind} {M : IMap} {T K E : TypeId} (hT : P.underlying T = some (.map K E)) (hK : P.underlying K = some (.int k)) (h : IsMap w b k M)
    (hg : o.guard = none) (m x v : Operand) (hop : o.op = Op.mapUpdate T m x v) (hm : a.eval m = .map (some b)) (key : Int) (hx : a.eval x = .int k key) (val : Value) (hv : a.eval v = val)
    (hK' : ∀ w', IsMap w' b k (mput M key val) → Kept (fun i => i = b) w w' → wpList P ops Q rest (a.put o.dst undef) w') : wpList P ops Q (o :: rest) a w := by
  refine wpList_plain hg fun K' hK2 => ?_
  obtain ⟨w', hrun, r1, r2⟩ := h.update hT hK key val
  unfold Oper.wp
  simp [execOp, hop, hm, hx, hv, hrun, Result.andThen]
  exact hK2 _ _ (hK' w' r1 r2)

theorem wp_append {e : TypeId} {i : TypeInfo} {z : Value} {size bytes : Nat} {t : TypeId} (ht : P.underlying t = some (.slice e)) (hi : P.info? e = some i) (hz : i.zero = some z)
    (hsize : i.size = size) (hby : i.bytes = bytes) (hzs : z.cells.size = size) (hsz : 0 < size) {v : Value} {n : Nat} {xs : List Value} (h : Sl S w e size v n xs) (hS : S w.heap.size)
    (hgd : o.guard = none) (s x : Operand) (ho : o.op = .call { callee := .builtin .append, args := #[s, x], argTypes := #[t, t] }) (hs : a.eval s = v)
    (ad : Addr) (m c : Nat) (news : List Value) (hx : a.eval x = .slice (some ad) m c) (hl : news.length = m * size) (hnews : ∀ j u, news[j]? = some u → w.cell? (ad.add j) = some u) (h1 : ∀ u ∈ news, u.oneCell' = true)
    (h63 : n + m ≤ maxLen) (hbytes : (n + m) * bytes ≤ 140737488355328)
    (hK : ∀ v' w', Sl S w' e size v' (n + m) (xs ++ news) → Kept (fun b => v.ownBlock = some b ∨ w.heap.size ≤ b) w w' → (v'.ownBlock = v.ownBlock ∨ v'.ownBlock = some w.heap.size) →
      (v' = .slice none 0 0 ↔ v = .slice none 0 0 ∧ m = 0) → wpList P ops Q rest (a.put o.dst v') w') : wpList P ops Q (o :: rest) a w := by
  refine wpList_append_own_at w hgd s x t ho 0 e i z size bytes ht hi hz hsize hby hzs hsz v n xs hs h.1 ad m c news hx hl hnews h1 h63 hbytes (Nat.zero_le _) fun v' w' h2 h3 h4 h5 => ?_
  refine hK v' w' ⟨h2, fun g hg => ?_⟩ ?_ h5 h4
  · rcases h5 with h5 | h5
    · exact h.2 g (h5 ▸ hg)
    · rw [h5] at hg
      injection hg with hg
      exact hg ▸ hS
  · refine ⟨h3.os, h3.tape, h3.output, h3.size, fun k hk => ?_⟩
    rcases Nat.lt_or_ge k w.heap.size with hlt | hge
    · exact h3.block k hlt (fun e => hk (.inl e.symm))
    · exact absurd (.inr hge) hk

theorem wp_append1 {e : TypeId} {i : TypeInfo} {z : Value} {size bytes : Nat} {t : TypeId} (ht : P.underlying t = some (.slice e)) (hi : P.info? e = some i) (hz : i.zero = some z)
    (hsize : i.size = size) (hby : i.bytes = bytes) (hzs : z.cells.size = size) (hsz : 0 < size) {v : Value} {n : Nat} {xs : List Value} (h : Sl S w e size v n xs) (hS : S w.heap.size)
    (hgd : o.guard = none) (s x : Operand) (ho : o.op = .call { callee := .builtin .append, args := #[s, x], argTypes := #[t, t] }) (hs : a.eval s = v)
    (ad : Addr) (m c : Nat) (news : List Value) (hx : a.eval x = .slice (some ad) m c) (hl : news.length = m * size) (hnews : ∀ j u, news[j]? = some u → w.cell? (ad.add j) = some u) (h1 : ∀ u ∈ news, u.oneCell' = true)
    (h63 : n + m ≤ maxLen) (hbytes : (n + m) * bytes ≤ 140737488355328) (hpos : 0 < n + m)
    (hK : ∀ g cap w', Sl S w' e size (.slice (some ⟨g, 0, none⟩) (n + m) cap) (n + m) (xs ++ news) → Kept (fun b => v.ownBlock = some b ∨ w.heap.size ≤ b) w w' → (v.ownBlock = some g ∨ g = w.heap.size) →
      wpList P ops Q rest (a.put o.dst (.slice (some ⟨g, 0, none⟩) (n + m) cap)) w') : wpList P ops Q (o :: rest) a w := by
  refine wp_append ht hi hz hsize hby hzs hsz h hS hgd s x ho hs ad m c news hx hl hnews h1 h63 hbytes fun v' w' h2 h3 h4 _ => ?_
  obtain ⟨g, cap, rfl, _⟩ := h2.form hpos
  refine hK g cap w' h2 h3 ?_
  rcases h4 with h4 | h4
  · exact .inl h4.symm
  · injection h4 with h4
    exact .inr h4
end

end Go.Proofs.YtemppijblfflgabGreatDoor.Ev
namespace Go.Proofs.YtemppijblfflgabGreatDoor.Ev
open Go Go.RowKit

theorem Sl.shape {S : Nat → Prop} {w : World} {e : TypeId} {size n : Nat} {v : Value} {xs : List Value} (h : Sl S w e size v n xs) : ∃ a c, v = .slice a n c := by
  rcases h.1.2 with ⟨rfl, rfl⟩ | ⟨g, cap, cur, rfl, _⟩
  · exact ⟨none, 0, rfl⟩
  · exact ⟨_, cap, rfl⟩

theorem cells_new (w : World) (l : List Value) (t : TypeId) : ∀ j u, l[j]? = some u → (w.alloc (.cells l.toArray t)).cell? ((⟨w.heap.size, 0, none⟩ : Addr).add j) = some u := by
  intro j u hu
  have := (Row.new w t l).cell j
  rw [hu] at this
  unfold Addr.add
  split
  · rename_i h0
    subst h0
    exact this
  · simpa using this

section
variable {S : Nat → Prop} {w : World} {g bm : Nat} {A : Arena} {vl vf vq : Value}

end
end Go.Proofs.YtemppijblfflgabGreatDoor.Ev
namespace Go.Proofs.YtemppijblfflgabGreatDoor.Ev
open Go Go.RowKit

theorem infoEnds : (Tryz.prog.info? 185).map (fun i => (i.zero, i.size, i.bytes)) = some (some (.agg #[.int .i64 0, .int .i64 0, .int .i64 0]), 3, 24) := by kernel_rfl

theorem flat_len {α : Type} (f : α → List Value) (k : Nat) (hk : ∀ x, (f x).length = k) (l : List α) : (l.flatMap f).length = l.length * k := by
  induction l with
  | nil => simp
  | cons y l ih => simp [List.flatMap_cons, ih, hk, Nat.add_mul, Nat.add_comm]

theorem madeCells_flat {α : Type} (f : α → List Value) (k : Nat) (hk : ∀ x, (f x).length = k) (hpos : 0 < k) (x : α) (n : Nat) : madeCells (f x).toArray (n * k) = ((List.replicate n x).flatMap f).toArray := by
  apply Array.toList_inj.1
  apply List.ext_getElem?
  intro i
  have hsz : (f x).toArray.size = k := by simp [hk]
  by_cases hi : i < n * k
  · have hdiv : i / k < n := Nat.div_lt_of_lt_mul (by rw [Nat.mul_comm]; exact hi)
    have hmod : i % k < k := Nat.mod_lt _ hpos
    have h1 := flat_get f k hk (List.replicate n x) (i / k) (i % k) x (by simp [List.getElem?_replicate, hdiv]) hmod
    have h2 : i / k * k + i % k = i := by rw [Nat.mul_comm]; exact Nat.div_add_mod i k
    rw [h2] at h1
    simp only [List.toList_toArray]
    rw [h1]
    unfold madeCells
    simp only [Array.toList_map, Array.toList_range, List.getElem?_map, List.getElem?_range hi, Option.map_some, hsz]
    have h3 : i % k < (f x).length := by rw [hk]; exact hmod
    rw [List.getElem?_eq_getElem h3]
    simp [h3]
  · have h1 : (madeCells (f x).toArray (n * k)).toList.length = n * k := by simp [size_madeCells]
    rw [List.getElem?_eq_none (by omega), List.getElem?_eq_none (by rw [List.toList_toArray, flat_len f k hk]; simp; omega)]

def Arena.new (n : Nat) : Arena := ⟨[⟨0, 0, 0, 0, 0⟩], [], List.replicate n ⟨0, 0, 0⟩, []⟩

section
variable {S : Nat → Prop} {w : World}

theorem Row.at_new {w : World} {g : Nat} (t : TypeId) (cs : List Value) (hg : g = w.heap.size) : Row (w.alloc (.cells cs.toArray t)) g t cs := by subst hg; exact Row.new w t cs
theorem IsMap.at_new {w : World} {g : Nat} (k : IntKind) (hg : g = w.heap.size) : IsMap (w.alloc (.map #[] 0)) g k [] := by subst hg; exact IsMap.new w k
theorem IsMap.alloc {w : World} {b : Nat} {k : IntKind} {M : IMap} (h : IsMap w b k M) (o : Obj) : IsMap (w.alloc o) b k M := h.of_block (Below.heap_alloc w o b h.lt)
theorem IsMap.drew {w : World} {b : Nat} {k : IntKind} {M : IMap} (h : IsMap w b k M) : IsMap w.drew b k M := h
theorem Sl.of_row {w : World} {e : TypeId} {size n g : Nat} {xs : List Value} (h : Row w g e xs) (hs : S g) (hl : xs.length = n * size) (hn : n ≤ maxLen) : Sl S w e size (.slice (some ⟨g, 0, none⟩) n n) n xs :=
  ⟨⟨hl, .inr ⟨g, n, xs.toArray, rfl, Nat.zero_le _, h, Nat.le_refl _, hn, by simp [hl], by simp only [List.toList_toArray]; rw [← hl, List.take_length]⟩⟩, fun b hb => by injection hb with hb; exact hb ▸ hs⟩

theorem ARep.fresh {W : World} {g gl gq bm n : Nat} (hn : n ≤ 1000000) (hr : Row W g 161 [.slice (some ⟨gl, 0, none⟩) 1 1, .slice none 0 0, .slice (some ⟨gq, 0, none⟩) n n, .map (some bm)])
    (hl : Row W gl 163 (encNode ⟨0, 0, 0, 0, 0⟩)) (hq : Row W gq 185 ((List.replicate n (⟨0, 0, 0⟩ : Ends)).flatMap encEnds)) (hm : IsMap W bm .u64 [])
    (h1 : S g) (h2 : S gl) (h3 : S gq) (h4 : S bm) : ∃ vl vf vq bm, ARep S W g (Arena.new n) vl vf vq bm := by
  have e : (List.replicate n (⟨0, 0, 0⟩ : Ends)).length = n := by simp
  refine ⟨_, _, _, _, hr, Sl.of_row hl h2 rfl (by unfold maxLen; omega), ⟨World.ownsRow_nil _ _ _ _, fun b hb => by cases hb⟩, ?_, hm, h1, h4⟩
  have hq' := Sl.of_row (S := S) hq h3 (size := 3) (n := n) (by rw [flat_len encEnds 3 (fun _ => rfl), e]) (by unfold maxLen; omega)
  show Sl S W _ 3 _ (List.replicate n (⟨0, 0, 0⟩ : Ends)).length _
  rw [e]
  exact hq'

set_option maxRecDepth 100000 in
set_option maxHeartbeats 1000000 in
theorem new_any (hS : Up S w) (n : Nat) (hn : n ≤ 1000000) :
    Calls Tryz.prog 53 #[.int .i64 n] w fun e w' => ∃ g, e = .returned (.pointer (some ⟨g, 0, none⟩)) ∧ Kept S w w' ∧ ∃ vl vf vq bm, ARep S w' g (Arena.new n) vl vf vq bm := by
  have hS' : ∀ k, w.heap.size ≤ k → S k := hS
  obtain ⟨i0, hi0, hz0, hz1, hz2⟩ := info_parts infoEnds
  have hmk : ∀ W : World, (Instr.makeSlice 158 (.int .i64 (n : Int)) (.int .i64 (n : Int))).run Tryz.prog W =
      .ok (.slice (some ⟨W.heap.size, 0, none⟩) n n) (W.alloc (.cells ((List.replicate n (⟨0, 0, 0⟩ : Ends)).flatMap encEnds).toArray 185)) := by
    intro W
    have h := run_make (P := Tryz.prog) W 158 185 i0 _ Tryz.underlying158 hi0 hz0 .i64 .i64 (n : Int) (n : Int) (by omega) (by omega) (by rw [hz2]; omega) (by omega)
    rw [hz1, Int.toNat_natCast] at h
    have e : (Value.agg #[.int .i64 0, .int .i64 0, .int .i64 0]).cells = (encEnds ⟨0, 0, 0⟩).toArray := rfl
    rw [e, madeCells_flat encEnds 3 (fun _ => rfl) (by omega)] at h
    exact h
  have hm1 : ∀ W : World, (Instr.makeSlice 157 (.int .i64 1) (.int .i64 1)).run Tryz.prog W = .ok (.slice (some ⟨W.heap.size, 0, none⟩) 1 1) (W.alloc (.cells (encNode ⟨0, 0, 0, 0, 0⟩).toArray 163)) := fun W => by kernel_rfl
  have hmm := @run_makeMap Tryz.prog
  generalize hE : ((List.replicate n (⟨0, 0, 0⟩ : Ends)).flatMap encEnds) = E at hmk
  generalize hN : encNode ⟨0, 0, 0, 0, 0⟩ = N at hm1
  have HE := Lib.hid hE
  have HN := Lib.hid hN
  clear hE hN hi0 hz0 hz1 hz2
  go_enter Tryz.func53, Tryz.ntmps53
  go_wp2
  go_region
  go_goals
  all_goals
    go_wp2
    go_ret
    refine ⟨_, rfl, ?_, ?_⟩
    · repeat' first | with_reducible exact Kept.refl _ _ | with_reducible refine Kept.drew ?_ | with_reducible refine Kept.alloc ?_ (hS' _ (by simp <;> omega)) _
    · refine ARep.fresh hn (Row.drew (Row.at_new _ _ (by simp))) ?_ ?_ ?_ (hS _ (by omega)) (hS _ (by omega)) (hS _ (by omega)) (hS _ (by omega))
      · rw [HN.out]
        repeat' first | with_reducible exact Row.at_new _ _ (by simp) | with_reducible refine Row.drew ?_ | with_reducible refine Row.alloc ?_ _
      · rw [HE.out]
        repeat' first | with_reducible exact Row.at_new _ _ (by simp) | with_reducible refine Row.drew ?_ | with_reducible refine Row.alloc ?_ _
      · repeat' first | with_reducible exact IsMap.at_new _ (by simp) | with_reducible refine IsMap.drew ?_ | with_reducible refine IsMap.alloc ?_ _
end
end Go.Proofs.YtemppijblfflgabGreatDoor.Ev
namespace Go.Proofs.YtemppijblfflgabGreatDoor.Ev
open Go Go.RowKit

section
variable {S : Nat → Prop} {P : Program} {w : World} {ops : Array Oper} {o : Oper} {a : Act}

theorem step_append1 {K : Act → World → Prop} {Q : Exit → Act → World → Prop} {E : Prop} {e : TypeId} {i : TypeInfo} {z : Value} {size bytes : Nat} {t : TypeId} (ht : P.underlying t = some (.slice e)) (hi : P.info? e = some i) (hz : i.zero = some z)
    (hsize : i.size = size) (hby : i.bytes = bytes) (hzs : z.cells.size = size) (hsz : 0 < size) {v : Value} {n : Nat} {xs : List Value} (h : Sl S w e size v n xs) (hS : S w.heap.size)
    (hgd : o.guard = none) (s x : Operand) (ho : o.op = .call { callee := .builtin .append, args := #[s, x], argTypes := #[t, t] }) (hs : a.eval s = v)
    (ad : Addr) (m c : Nat) (news : List Value) (hx : a.eval x = .slice (some ad) m c) (hl : news.length = m * size) (hnews : ∀ j u, news[j]? = some u → w.cell? (ad.add j) = some u) (h1 : ∀ u ∈ news, u.oneCell' = true)
    (h63 : n + m ≤ maxLen) (hbytes : (n + m) * bytes ≤ 140737488355328) (hpos : 0 < m)
    (hK : ∀ g cap w', Sl S w' e size (.slice (some ⟨g, 0, none⟩) (n + m) cap) (n + m) (xs ++ news) → Kept (fun b => v.ownBlock = some b ∨ w.heap.size ≤ b) w w' → (v.ownBlock = some g ∨ g = w.heap.size) →
      K (a.put o.dst (.slice (some ⟨g, 0, none⟩) (n + m) cap)) w') : if Region.wanted o (yielded ops a.tmps) = true then Oper.wp P o a w K Q else E := by
  refine step_append_lies w hgd s x t ho 0 e i z size bytes ht hi hz hsize hby hzs hsz v n xs hs h.1 ad m c news hx hl hnews h1 hpos h63 hbytes (Nat.zero_le _) w.heap.size rfl fun g cap w' h2 h3 h4 h5 => ?_
  refine hK g cap w' ⟨h2, fun g' hg' => ?_⟩ ?_ h4
  · injection hg' with hg'
    simp only at hg'
    subst hg'
    rcases h4 with h4 | h4
    · exact h.2 _ h4
    · rw [h4]; exact hS
  · refine ⟨h3.os, h3.tape, h3.output, h3.size, fun k hk => ?_⟩
    rcases Nat.lt_or_ge k w.heap.size with hlt | hge
    · exact h3.block k hlt (fun e => hk (.inl e.symm))
    · exact absurd (.inr hge) hk
end
end Go.Proofs.YtemppijblfflgabGreatDoor.Ev
