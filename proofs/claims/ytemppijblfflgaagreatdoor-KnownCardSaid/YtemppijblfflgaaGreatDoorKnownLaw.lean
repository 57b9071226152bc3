/- What single calls answer: the texts of Known as policies, and what their engines answer. No program in sight. Lru, and a greater cache beside a smaller one; a variable between its bounds. No program in sight. Saturates: walked. Known: walked. Known: for every input the law returns true. Conditions: none. -/
import Derived.Deep.DeepCutAuto
import Derived.Deep.CutBlock
import Derived.SevenTiedAt
import Derived.Test.YtemppijblfflgaaGreatDoorZc06
import Derived.Test.YtemppijblfflgaaGreatDoorZc16
import Derived.Test.YtemppijblfflgaaGreatDoorZc17
set_option linter.all false
set_option linter.unusedSimpArgs false
set_option linter.unusedVariables false
namespace Go.Proofs.YtemppijblfflgaaGreatDoor.Ev

def polOf (s : Bytes) : Policy := match read s with | .ok p => p | .error _ => ⟨[], 0, []⟩
def isPol (s : Bytes) : Bool := match read s with | .ok _ => true | .error _ => false
theorem read_polOf {s : Bytes} (h : isPol s = true) : read s = .ok (polOf s) := by
  unfold isPol at h
  unfold polOf
  cases hr : read s with
  | ok p => rfl
  | error x => rw [hr] at h; cases h

def ansEng (d : Eng) : Ans → Eng | .ok _ _ e => e | .err _ => d
def isAns (a : Ans) (hit : Bool) (gone : List Int) : Bool := match a with | .ok h g _ => h == hit && g == gone | .err _ => false
def isErr (a : Ans) (n : Nat) : Bool := match a with | .ok _ _ _ => false | .err m => m == n
theorem isAns_eq {a : Ans} {hit : Bool} {gone : List Int} (d : Eng) (h : isAns a hit gone = true) : a = .ok hit gone (ansEng d a) := by
  cases a with
  | ok x y e =>
    unfold isAns at h
    simp only [Bool.and_eq_true, beq_iff_eq] at h
    rw [h.1, h.2]; rfl
  | err n => cases h
theorem isErr_eq {a : Ans} {n : Nat} (h : isErr a n = true) : a = .err n := by
  cases a with
  | ok x y e => cases h
  | err m =>
    unfold isErr at h
    rw [beq_iff_eq] at h
    rw [h]

def knowT1 : Bytes := [113, 117, 101, 117, 101, 32, 97, 32, 49, 59, 32, 113, 117, 101, 117, 101, 32, 98, 32, 50, 59, 32, 103, 104, 111, 115, 116, 32, 103, 32, 49, 59, 32, 118, 97, 114, 32, 118, 32, 51, 59, 32, 102, 114, 101, 113, 32, 50, 59, 32, 111, 110, 32, 97, 32, 123, 32, 98, 117, 109, 112, 59, 32, 105, 102, 32, 102, 114, 101, 113, 32, 60, 32, 50, 32, 123, 32, 105, 110, 99, 32, 118, 59, 32, 125, 32, 101, 108, 115, 101, 32, 123, 32, 112, 117, 116, 32, 103, 59, 32, 125, 32, 125, 32, 111, 110, 32, 98, 32, 123, 32, 100, 114, 111, 112, 59, 32, 125, 32, 111, 110, 32, 103, 32, 123, 32, 112, 117, 116, 32, 98, 32, 116, 97, 105, 108, 59, 32, 100, 101, 99, 32, 118, 59, 32, 125, 32, 111, 110, 32, 109, 105, 115, 115, 32, 123, 32, 105, 102, 32, 108, 101, 110, 32, 98, 32, 60, 32, 49, 32, 123, 32, 112, 117, 116, 32, 98, 59, 32, 125, 32, 101, 108, 115, 101, 32, 123, 32, 105, 102, 32, 101, 109, 112, 116, 121, 32, 97, 32, 123, 32, 112, 117, 116, 32, 97, 59, 32, 125, 32, 101, 108, 115, 101, 32, 123, 32, 115, 104, 105, 102, 116, 32, 97, 32, 98, 59, 32, 112, 117, 116, 32, 97, 59, 32, 125, 32, 125, 32, 125]
def knowT2 : Bytes := [113, 117, 101, 117, 101, 32, 97, 32, 49, 59, 32, 111, 110, 32, 97, 32, 123, 32, 125, 32, 111, 110, 32, 109, 105, 115, 115, 32, 123, 32, 101, 118, 105, 99, 116, 32, 97, 59, 32, 125]
def knowT3 : Bytes := [113, 117, 101, 117, 101, 32, 97, 32, 49, 59, 32, 118, 97, 114, 32, 118, 32, 57, 59, 32, 102, 114, 101, 113, 32, 50, 59, 32, 111, 110, 32, 97, 32, 123, 32, 99, 111, 111, 108, 32, 97, 59, 32, 98, 117, 109, 112, 59, 32, 105, 102, 32, 119, 97, 114, 109, 32, 97, 32, 123, 32, 112, 117, 116, 32, 97, 59, 32, 105, 102, 32, 119, 97, 114, 109, 32, 97, 32, 123, 32, 100, 114, 111, 112, 59, 32, 125, 32, 125, 32, 125, 32, 111, 110, 32, 109, 105, 115, 115, 32, 123, 32, 105, 110, 99, 32, 118, 59, 32, 112, 117, 116, 32, 97, 59, 32, 125]
theorem knowR1 : read knowT1 = .ok (polOf knowT1) := read_polOf (by decide +kernel)
theorem knowR2 : read knowT2 = .ok (polOf knowT2) := read_polOf (by decide +kernel)
theorem knowR3 : read knowT3 = .ok (polOf knowT3) := read_polOf (by decide +kernel)

def knowKeys : List Int := [5, 6, 6, 6, 6, 5, 7, 8, 9, 9]
def knowHits : List Bool := [false, false, true, true, false, true, false, false, false, true]
def knowOuts : List (List Int) := [[], [], [], [6], [], [5], [], [], [], []]

/-- The engine behind the first calls. -/
def knowEng : Nat → Eng
  | 0 => Eng.new (polOf knowT1)
  | k + 1 => ansEng (knowEng k) ((knowEng k).access (knowKeys.getD k 0))

theorem know_step (k : Nat) (hk : k < 8) : (knowEng k).access (knowKeys.getD k 0) = .ok (knowHits.getD k false) (knowOuts.getD k []) (knowEng (k + 1)) := by
  refine isAns_eq (knowEng k) ?_
  match k, hk with
  | 0, _ => decide +kernel
  | 1, _ => decide +kernel
  | 2, _ => decide +kernel
  | 3, _ => decide +kernel
  | 4, _ => decide +kernel
  | 5, _ => decide +kernel
  | 6, _ => decide +kernel
  | 7, _ => decide +kernel

theorem know_a : (knowEng 8).keys [97] = some [8] := by decide +kernel
theorem know_b : (knowEng 8).keys [98] = some [7, 6] := by decide +kernel
theorem know_g : (knowEng 8).keys [103] = some [] := by decide +kernel
theorem know_v : (knowEng 8).value [118] = some 0 := by decide +kernel
theorem know_full : (knowEng 8).access 9 = .err eFull := isErr_eq (by decide +kernel)
theorem know_hits : (knowEng 8).n.hits = 3 := by decide +kernel
theorem know_misses : (knowEng 8).n.misses = 5 := by decide +kernel
theorem know_evicted : (knowEng 8).n.evicted = 2 := by decide +kernel
theorem know_n : (knowEng 8).n = ⟨3, 5, 2⟩ := by
  rw [← know_hits, ← know_misses, ← know_evicted]
theorem know_nov : (knowEng 8).keys [118] = none := by decide +kernel
theorem know_noa : (knowEng 8).value [97] = none := by decide +kernel

def knowZ1 : Eng := ansEng (Eng.new (polOf knowT3)) ((Eng.new (polOf knowT3)).access 1)
theorem knowZ_1 : (Eng.new (polOf knowT3)).access 1 = .ok false [] knowZ1 := isAns_eq _ (by decide +kernel)
theorem knowZ_2 : knowZ1.access 2 = .err eFull := isErr_eq (by decide +kernel)
theorem knowZ_v : knowZ1.value [118] = some 1 := by decide +kernel
theorem knowZ_3 : ∃ e, knowZ1.access 1 = .ok true [1] e := ⟨_, isAns_eq (Eng.new (polOf knowT3)) (by decide +kernel)⟩
theorem knowY_1 : (Eng.new (polOf knowT2)).access 9223372036854775808 = .err eEmpty := isErr_eq (by decide +kernel)
theorem knowY_2 : ((Eng.new (polOf knowT2)).remove 9223372036854775808).1 = false := by decide +kernel
end Go.Proofs.YtemppijblfflgaaGreatDoor.Ev
namespace Go.Proofs.YtemppijblfflgaaGreatDoor.Ev

theorem isSome_place {l : List Int} {k : Int} : (place l k).isSome = true ↔ k ∈ l := by
  cases h : place l k with
  | none => simpa using place_none.1 h
  | some i => simpa using place_mem h

theorem entAt_z {l : List Int} {i : Nat} {key : Int} (h : l[i]? = some key) : entAt (z l) i = ⟨key, 0⟩ := by
  unfold entAt z
  rw [List.getElem?_map, h]; rfl

/-! ## A variable between its bounds -/
def satNext (m : Nat) (l : List Int) (v : Int) (key : Int) : List Int × Int :=
  if (place l key).isSome then (l, max (v - 1) 0) else (missNext 50 l key, min (v + 1) m)

/-- The keys so far are numbers up to i; the last that came stands first. -/
structure SatL (i : Nat) (last : Int) (l : List Int) : Prop where
  le : ∀ x ∈ l, 1 ≤ x ∧ x ≤ i
  len : l.length ≤ 50
  head : last = 0 ∨ l.head? = some last

theorem SatL.fresh {i : Nat} {last : Int} {l : List Int} (h : SatL i last l) (m : Nat) (v : Int) : satNext m l v ((i : Int) + 1) = (missNext 50 l ((i : Int) + 1), min (v + 1) m) ∧ SatL (i + 1) ((i : Int) + 1) (missNext 50 l ((i : Int) + 1)) := by
  have hp : place l ((i : Int) + 1) = none := place_none.2 (fun hx => by have := h.le _ hx; omega)
  refine ⟨by unfold satNext; rw [hp]; rfl, ?_, missNext_len (by decide) h.len _, .inr rfl⟩
  intro x hx
  unfold missNext at hx
  rcases List.mem_cons.1 hx with rfl | hx
  · omega
  · have hxl : x ∈ l := by
      split at hx
      · exact List.mem_of_mem_eraseIdx hx
      · exact hx
    have := h.le x hxl
    omega
theorem SatL.again {i : Nat} {last : Int} {l : List Int} (h : SatL i last l) (h0 : 0 < last) (m : Nat) (v : Int) : satNext m l v last = (l, max (v - 1) 0) ∧ SatL (i + 1) last l := by
  have hh : l.head? = some last := h.head.resolve_left (by omega)
  have hm : last ∈ l := List.mem_of_mem_head? hh
  refine ⟨by unfold satNext; rw [isSome_place.2 hm]; rfl, fun x hx => ?_, h.len, .inr hh⟩
  have := h.le x hx
  omega
end Go.Proofs.YtemppijblfflgaaGreatDoor.Ev
namespace Go.Proofs.YtemppijblfflgaaGreatDoor.Ev
open Go Go.RowKit

section
variable {B : Nat} {ea : Nat → Addr} {w : World}

/-- The value of a variable is told. -/
def OutLV (wr : World) (n : Int) (x : Ending) (w' : World) : Prop := x = .returned (.tuple #[.int .i64 n, .int .i64 0]) ∧ Kept (fun b => wr.heap.size ≤ b) wr w'
theorem lvalue_any {wr : World} {S : Nat → Prop} {ge m : Nat} {e : Eng} (h : LoopE w wr S ge e m) {q : Bytes} {n : Int} (hk : e.value q = some n) : Calls Tryz.prog 25 #[.pointer (some ⟨ge, 0, none⟩), vs q] wr (OutLV wr n) := by
  have hv := evalue_any h.eng q
  rw [hk] at hv
  refine hv.mono ?_
  rintro x w' ⟨h1, rfl⟩
  exact ⟨rfl, h1⟩

end
end Go.Proofs.YtemppijblfflgaaGreatDoor.Ev
namespace Go.Proofs.YtemppijblfflgaaGreatDoor.Ev
open Go Go.RowKit

theorem knowKey_at (k : Nat) (hk : k ≤ 8) : ([.int .u64 5, .int .u64 6, .int .u64 6, .int .u64 6, .int .u64 6, .int .u64 5, .int .u64 7, .int .u64 8, .int .u64 9, .int .u64 9] : List Value)[k]? = some (.int .u64 (knowKeys.getD k 0)) := by
  match k, hk with
  | 0, _ => rfl
  | 1, _ => rfl
  | 2, _ => rfl
  | 3, _ => rfl
  | 4, _ => rfl
  | 5, _ => rfl
  | 6, _ => rfl
  | 7, _ => rfl
  | 8, _ => rfl
theorem know_rem : ((Eng.new (polOf knowT2)).remove 9223372036854775808).2.n = ⟨0, 0, 0⟩ := by
  unfold Eng.remove
  split <;> rfl
theorem knowHit_at (k : Nat) (hk : k < 8) : ([.bool false, .bool false, .bool true, .bool true, .bool false, .bool true, .bool false, .bool false, .bool false, .bool true] : List Value)[k]? = some (.bool (knowHits.getD k false)) := by
  match k, hk with
  | 0, _ => rfl
  | 1, _ => rfl
  | 2, _ => rfl
  | 3, _ => rfl
  | 4, _ => rfl
  | 5, _ => rfl
  | 6, _ => rfl
  | 7, _ => rfl

/-- The lists that Known makes. -/
structure KnowL (b : Nat) (w : World) : Prop where
  r0 : Row w b 27 [.int .u64 5, .int .u64 6, .int .u64 6, .int .u64 6, .int .u64 6, .int .u64 5, .int .u64 7, .int .u64 8, .int .u64 9, .int .u64 9]
  r1 : Row w (b + 1) 4 [.bool false, .bool false, .bool true, .bool true, .bool false, .bool true, .bool false, .bool false, .bool false, .bool true]
  r2 : Row w (b + 1 + 1) 27 [.int .u64 6]
  r3 : Row w (b + 1 + 1 + 1) 27 [.int .u64 5]
  r4 : Row w (b + 1 + 1 + 1 + 1) 22 [.slice none 0 0, .slice none 0 0, .slice none 0 0, .slice (some ⟨b + 1 + 1, 0, none⟩) 1 1, .slice none 0 0, .slice (some ⟨b + 1 + 1 + 1, 0, none⟩) 1 1, .slice none 0 0, .slice none 0 0, .slice none 0 0, .slice none 0 0]
  r5 : Row w (b + 1 + 1 + 1 + 1 + 1) 33 [.int .i64 0, .int .i64 0, .int .i64 0, .int .i64 0, .int .i64 0, .int .i64 0, .int .i64 0, .int .i64 0, .int .i64 11, .int .i64 0]
theorem KnowL.kept {b ge : Nat} {w w' : World} (h : KnowL b w) (hk : Kept (fun x => x = ge ∨ w.heap.size ≤ x) w w') (hg : ge < b) : KnowL b w' := by
  have f : ∀ {n : Nat} {t : TypeId} {cs : List Value}, b ≤ n → Row w n t cs → Row w' n t cs := fun hn hr => hr.kept hk (by have := hr.lt; omega)
  exact ⟨f (by omega) h.r0, f (by omega) h.r1, f (by omega) h.r2, f (by omega) h.r3, f (by omega) h.r4, f (by omega) h.r5⟩
theorem KnowL.drewN {b : Nat} {w : World} (h : KnowL b w) (n : Nat) : KnowL b (w.drewN n) := ⟨h.r0, h.r1, h.r2, h.r3, h.r4, h.r5⟩
theorem lr_one {w : World} {b : Nat} {x : Int} (h : Row w b 27 [.int .u64 x]) : LR w (.slice (some ⟨b, 0, none⟩) 1 1) [x] :=
  Sl.lr (S := fun _ => True) (Sl.of_row h trivial rfl (by unfold maxLen; omega))
theorem lr_two {w : World} {b : Nat} {x y : Int} (h : Row w b 27 [.int .u64 x, .int .u64 y]) : LR w (.slice (some ⟨b, 0, none⟩) 2 2) [x, y] :=
  Sl.lr (S := fun _ => True) (Sl.of_row h trivial rfl (by unfold maxLen; omega))
theorem LR.alloc {w : World} {v : Value} {l : List Int} (h : LR w v l) (o : Obj) : LR (w.alloc o) v l := h.later ((Kept.refl (fun b => w.heap.size ≤ b) w).alloc (Nat.le_refl _) o) (fun b hb => hb)
theorem LoopE.alloc {w wr : World} {S : Nat → Prop} {ge m : Nat} {e : Eng} (h : LoopE w wr S ge e m) (o : Obj) : LoopE w (wr.alloc o) S ge e m := h.later ((Kept.refl _ _).alloc (Nat.le_refl _) o)
theorem same_yes {w : World} {u v : Value} {l : List Int} (ha : LR w u l) (hb : LR w v l) (hl : l.length ≤ 1000000000) : Calls Tryz.prog 22 #[u, v] w (BoolQ w true) := by
  have := same_any ha hb hl hl
  rwa [beq_self_eq_true] at this
theorem lr_nil (w : World) : LR w (.slice none 0 0) [] := .inl ⟨rfl, rfl⟩
theorem KnowL.out_at {b : Nat} {w : World} (h : KnowL b w) (k : Nat) (hk : k < 8) : ∃ a n c, w.cell? ⟨b + 1 + 1 + 1 + 1, k, none⟩ = some (.slice a n c) ∧ LR w (.slice a n c) (knowOuts.getD k []) := by
  have hc := h.r4.cell k
  match k, hk with
  | 0, _ => exact ⟨_, _, _, hc, lr_nil w⟩
  | 1, _ => exact ⟨_, _, _, hc, lr_nil w⟩
  | 2, _ => exact ⟨_, _, _, hc, lr_nil w⟩
  | 3, _ => exact ⟨_, _, _, hc, lr_one h.r2⟩
  | 4, _ => exact ⟨_, _, _, hc, lr_nil w⟩
  | 5, _ => exact ⟨_, _, _, hc, lr_one h.r3⟩
  | 6, _ => exact ⟨_, _, _, hc, lr_nil w⟩
  | 7, _ => exact ⟨_, _, _, hc, lr_nil w⟩
theorem KnowL.err_at {b : Nat} {w : World} (h : KnowL b w) (k : Nat) (hk : k < 8) : w.cell? ⟨b + 1 + 1 + 1 + 1 + 1, k, none⟩ = some (.int .i64 0) := by
  have hc := h.r5.cell k
  match k, hk with
  | 0, _ => exact hc
  | 1, _ => exact hc
  | 2, _ => exact hc
  | 3, _ => exact hc
  | 4, _ => exact hc
  | 5, _ => exact hc
  | 6, _ => exact hc
  | 7, _ => exact hc
theorem knowGone_len (k : Nat) (hk : k < 8) : (knowOuts.getD k []).length ≤ 1 := by
  match k, hk with
  | 0, _ => decide
  | 1, _ => decide
  | 2, _ => decide
  | 3, _ => decide
  | 4, _ => decide
  | 5, _ => decide
  | 6, _ => decide
  | 7, _ => decide
theorem KnowL.start (w : World) : KnowL w.heap.size ((((((w.alloc (.cells #[.int .u64 5, .int .u64 6, .int .u64 6, .int .u64 6, .int .u64 6, .int .u64 5, .int .u64 7, .int .u64 8, .int .u64 9, .int .u64 9] 27)).alloc (.cells #[.bool false, .bool false, .bool true, .bool true, .bool false, .bool true, .bool false, .bool false, .bool false, .bool true] 4)).alloc (.cells #[.int .u64 6] 27)).alloc (.cells #[.int .u64 5] 27)).alloc
    (.cells #[.slice none 0 0, .slice none 0 0, .slice none 0 0, .slice (some ⟨w.heap.size + 1 + 1, 0, none⟩) 1 1, .slice none 0 0, .slice (some ⟨w.heap.size + 1 + 1 + 1, 0, none⟩) 1 1, .slice none 0 0, .slice none 0 0, .slice none 0 0, .slice none 0 0] 22)).alloc (.cells #[.int .i64 0, .int .i64 0, .int .i64 0, .int .i64 0, .int .i64 0, .int .i64 0, .int .i64 0, .int .i64 0, .int .i64 11, .int .i64 0] 33)) := by
  refine ⟨?_, ?_, ?_, ?_, ?_, ?_⟩
  · exact (((((Row.new _ _ _).alloc _).alloc _).alloc _).alloc _).alloc _
  · exact ((((Row.at_new _ _ (by simp)).alloc _).alloc _).alloc _).alloc _
  · exact (((Row.at_new _ _ (by simp)).alloc _).alloc _).alloc _
  · exact ((Row.at_new _ _ (by simp)).alloc _).alloc _
  · exact (Row.at_new _ _ (by simp)).alloc _
  · exact Row.at_new _ _ (by simp)

section
variable {B : Nat} {ea : Nat → Addr} {w w1 w' : World} {s : Bytes} {p : Policy}

/-- A policy is loaded. -/
theorem lload_any (he : Env B ea w) (ho : ErrObj B ea w) (hk : Kept (fun b => w.heap.size ≤ b) w w1) (hr : read s = .ok p) :
    Calls Tryz.prog 26 #[vs s] w1 fun x w' => ∃ ge S, x = .returned (.tuple #[.pointer (some ⟨ge, 0, none⟩), .int .i64 0, .int .i64 0]) ∧ LoopE w w' S ge (Eng.new p) 0 ∧ Kept (fun b => w1.heap.size ≤ b) w1 w' ∧ ∀ b, S b → w1.heap.size ≤ b := by
  refine (load_any (he.kept hk (fun b hb => Nat.le_trans he.size hb)) (ho.kept hk (fun b hb => Nat.le_trans he.size hb)) s).mono ?_
  rintro x w' ⟨hk2, h2⟩
  rw [hr] at h2
  obtain ⟨ge, rfl, hE⟩ := h2
  have h := LoopE.start (p := p) (hk.trans (hk2.mono (fun b hb => Nat.le_trans hk.size hb))) (hE.mono (fun b hb => ⟨Nat.le_trans hk.size hb.1, hb.2⟩))
  exact ⟨ge, _, rfl, ⟨h.kept, hE, fun b hb => ⟨Nat.le_trans hk.size hb.1, hb.2⟩, h.cnt⟩, hk2, fun b hb => hb.1⟩

set_option maxRecDepth 100000 in
set_option maxHeartbeats 8000000 in
theorem known_walk (he : Env B ea w) (ho : ErrObj B ea w) : Calls Tryz.prog 10 #[] w (TrueK w) := by
  have hl1 := lload_any he ho (Kept.refl _ w) knowR1
  have HE := Lib.hid he
  have HO := Lib.hid ho
  have HL1 := Lib.hid hl1
  clear he ho hl1
  go_enter Tryz.func10, Tryz.ntmps10
  go_wp2_with fail
  refine HL1.out.mono ?_
  rintro x w1 ⟨ge, S0, rfl, hL, hk1, hS⟩
  have L1 := Lib.hid hL
  have hk0 := KnowL.start w1
  have hgb : ge < w1.heap.size := L1.out.eng.lt
  have hkw : Kept (fun b => w1.heap.size ≤ b) w1 _ := (((((((Kept.refl _ w1).alloc (Nat.le_refl _) (.cells #[.int .u64 5, .int .u64 6, .int .u64 6, .int .u64 6, .int .u64 6, .int .u64 5, .int .u64 7, .int .u64 8, .int .u64 9, .int .u64 9] 27))).alloc (by simp) (.cells #[.bool false, .bool false, .bool true, .bool true, .bool false, .bool true, .bool false, .bool false, .bool false, .bool true] 4)).alloc (by simp; omega) (.cells #[.int .u64 6] 27)).alloc (by simp; omega) (.cells #[.int .u64 5] 27)).alloc (by simp; omega)
    (.cells #[.slice none 0 0, .slice none 0 0, .slice none 0 0, .slice (some ⟨w1.heap.size + 1 + 1, 0, none⟩) 1 1, .slice none 0 0, .slice (some ⟨w1.heap.size + 1 + 1 + 1, 0, none⟩) 1 1, .slice none 0 0, .slice none 0 0, .slice none 0 0, .slice none 0 0] 22)).alloc (by simp; omega) (.cells #[.int .i64 0, .int .i64 0, .int .i64 0, .int .i64 0, .int .i64 0, .int .i64 0, .int .i64 0, .int .i64 0, .int .i64 11, .int .i64 0] 33)
  have K0 := Lib.hid hk0
  have L2 := Lib.hid (L1.out.later hkw)
  clear hL HL1 hk1 hS hk0 hkw L1
  go_wp2
  generalize w1.heap.size = b at *
  go_loopg [61] 10 (fun gg s61 wr => ∃ (k : Nat) (S : Nat → Prop), k ≤ 8 ∧ 10 - k ≤ gg ∧ s61 = .int .i64 k ∧ LoopE w wr S ge (knowEng k) k ∧ KnowL b wr)
  case atStart => exact ⟨0, S0, by omega, by omega, rfl, L2.out, K0.out⟩
  case round =>
    clear L2 K0
    obtain ⟨k, S, hk, hg, rfl, L, K⟩ := hrel
    have ck := (K.r0.cell k).trans (knowKey_at k hk)
    have HL := Lib.hid L
    have HK := Lib.hid K
    clear L K
    by_cases h8 : k < 8
    · have hacc := lacc_any HE.out HO.out HL.out (by omega) (know_step k h8)
      have HA := Lib.hid hacc
      have e8 : ((k : Int) == 8) = false := by simp; omega
      have e8' : decide ((k : Int) = 8) = false := by simp; omega
      clear hacc
      go_wp2_with fail
      refine HA.out.mono ?_
      rintro x w3 ⟨v, rfl, S', hW, hO⟩
      have hK3 := HK.out.kept hW.kept hgb
      have c1 := (hK3.r1.cell k).trans (knowHit_at k h8)
      obtain ⟨a, n, c, c4, hlr⟩ := hK3.out_at k h8
      have c5 := hK3.err_at k h8
      have hlen := knowGone_len k h8
      have hsame := same_any hO.lr hlr (by omega) (by omega)
      have f0 : (knowOuts.getD k [] == knowOuts.getD k []) = true := beq_self_eq_true _
      rw [f0] at hsame
      have HS := Lib.hid hsame
      have HW3 := Lib.hid hW
      have HK3 := Lib.hid hK3
      clear hsame f0 hW hK3 hlr hO HA hlen
      generalize knowHits.getD k false = H at *
      have f1 : (H != H) = false := by simp
      have f2 : (H == H) = true := by simp
      go_wp2_with fail
      refine HS.out.mono ?_
      rintro x w4 ⟨rfl, n4, rfl⟩
      go_wp2
      go_roundg (10 - (k + 1))
      case measure => omega
      case rel => exact ⟨k + 1, S', by omega, by omega, by go_num, HW3.out.loop.drewN _, HK3.out.drewN _⟩
    · have he : k = 8 := by omega
      subst he
      have L3 := Lib.hid HL.out
      clear HL HK
      have hka := lkeys_any L3.out know_a
      have HKA := Lib.hid hka
      clear hka
      unfold vs at *
      go_wp2_with fail
      refine HKA.out.mono ?_
      rintro x w3 ⟨va, rfl, hk3, hsa⟩
      have L4 := Lib.hid (L3.out.later hk3)
      have LA := Lib.hid hsa.lr
      have hkb := lkeys_any L4.out know_b
      have HKB := Lib.hid hkb
      clear hkb hk3 hsa HKA L3
      unfold vs at *
      go_wp2_with fail
      refine HKB.out.mono ?_
      rintro x w4 ⟨vb, rfl, hk4, hsb⟩
      have L5 := Lib.hid (L4.out.later hk4)
      have LA4 := Lib.hid (LA.out.later hk4 (fun b hb => hb))
      have LB := Lib.hid hsb.lr
      have hkg := lkeys_any L5.out know_g
      have HKG := Lib.hid hkg
      clear hkg hk4 hsb HKB L4 LA
      unfold vs at *
      go_wp2_with fail
      refine HKG.out.mono ?_
      rintro x w5 ⟨vg, rfl, hk5, hsg⟩
      have L6 := Lib.hid (L5.out.later hk5)
      have LA5 := Lib.hid (LA4.out.later hk5 (fun b hb => hb))
      have LB5 := Lib.hid (LB.out.later hk5 (fun b hb => hb))
      obtain ⟨ag, cg, rfl⟩ := hsg.lr.shape
      have hkv := lvalue_any L6.out know_v
      have HKV := Lib.hid hkv
      clear hkv hk5 hsg HKG L5 LA4 LB
      unfold vs at *
      go_wp2_with fail
      refine HKV.out.mono ?_
      rintro x w6 ⟨rfl, hk6⟩
      have L7 := Lib.hid (L6.out.later hk6)
      have LA6 := Lib.hid (LA5.out.later hk6 (fun b hb => hb))
      have LB6 := Lib.hid (LB5.out.later hk6 (fun b hb => hb))
      clear hk6 HKV L6 LA5 LB5
      go_wp2_with fail
      refine (same_yes (l := [8]) (LA6.out.alloc _) (lr_one (Row.new _ _ _)) (by decide)).mono ?_
      rintro x w7 ⟨rfl, n7, rfl⟩
      have LB7 := Lib.hid (LB6.out.alloc (.cells #[.int .u64 8] 27))
      have L8 := Lib.hid (L7.out.alloc (.cells #[.int .u64 8] 27))
      clear LA6 LB6 L7
      go_wp2_with fail
      refine (same_yes (l := [7, 6]) ((LB7.out.drewN n7).alloc _) (lr_two (Row.at_new _ _ (by simp))) (by decide)).mono ?_
      rintro x w8 ⟨rfl, n8, rfl⟩
      have L9 := Lib.hid (((L8.out.drewN n7).alloc (.cells #[.int .u64 7, .int .u64 6] 27)).drewN n8)
      clear LB7 L8
      go_wp2_with fail
      generalize hw9 : World.drewN _ n8 = w9 at *
      clear hw9
      have hcn := ecounts_any L9.out.eng
      rw [know_n] at hcn
      have HCN := Lib.hid hcn
      clear hcn
      refine HCN.out.mono ?_
      rintro x w10 ⟨rfl, hk10⟩
      have L10 := Lib.hid ((L9.out.later hk10).alloc (.cells #[.int .i64 3, .int .i64 5, .int .i64 2] 52))
      have R10 := Lib.hid (Row.new w10 52 [.int .i64 3, .int .i64 5, .int .i64 2])
      have hge10 : ge < w10.heap.size := (L9.out.later hk10).eng.lt
      have herr := lerr_any (k := 11) HE.out HO.out L10.out (by omega) know_full
      have HER := Lib.hid herr
      clear herr HCN L9 hk10
      unfold encCnt
      go_wp2_with fail
      refine HER.out.mono ?_
      rintro x w11 ⟨rfl, S11, hW11⟩
      have hR11 := R10.out.kept hW11.kept (by simp; omega)
      have hcts : ∀ W, Kept (fun b => w11.heap.size ≤ b) w11 W → Calls Tryz.prog 27 #[.pointer (some ⟨ge, 0, none⟩)] W (fun e w' => e = .returned (.agg #[.int .i64 3, .int .i64 5, .int .i64 2]) ∧ Kept (fun b => W.heap.size ≤ b) W w') := fun W hk => by
        have := ecounts_any (hW11.loop.later hk).eng
        rw [know_n] at this
        exact this
      have c0 := hR11.cell 0
      have c1 := hR11.cell 1
      have c2 := hR11.cell 2
      have hlc := hR11.lt
      have R11 := Lib.hid hR11
      have L11 := Lib.hid hW11.loop
      have HCT := Lib.hid hcts
      clear hcts hR11 hW11 HER L10 R10
      generalize w10.heap.size = bc at *
      simp at c0 c1 c2
      go_upto_region 25 with fail
      go_cut [165] (fun s165 wx => s165 = .bool false ∧ Kept (fun b => w11.heap.size ≤ b) w11 wx)
      case first =>
        go_region_held3 (fun w' => w'.cell? ⟨bc, 0, none⟩ = some (.int .i64 3) ∧ w'.cell? ⟨bc, 1, none⟩ = some (.int .i64 5) ∧ w'.cell? ⟨bc, 2, none⟩ = some (.int .i64 2) ∧ Kept (fun b => w11.heap.size ≤ b) w11 w')
          ((repeat' apply And.intro) <;> (first
            | assumption
            | exact (Kept.cell hl1 (by simp only; omega)).trans c0
            | exact (Kept.cell hl1 (by simp only; omega)).trans c1
            | exact (Kept.cell hl1 (by simp only; omega)).trans c2
            | (with_reducible exact (Kept.refl _ _).drew)
            | go_keep
            ))
          (first
            | (go_at_call 27; refine (HCT.out _ ?_).mono ?_; (first | exact (Kept.refl _ _).drew | exact Kept.refl _ _); rintro e w12 ⟨rfl, hk12⟩; have hl1 : Kept (fun b => w11.heap.size ≤ b) w11 w12 := ((Kept.refl _ _).drew).trans (hk12.mono (fun b hb => hb)); clear hk12))
        all_goals
          go_wp2
          go_meet
          exact ⟨rfl, hl1⟩
      case rest =>
        obtain ⟨rfl, hk12⟩ := hcut
        have d0 := (hk12.cell (p := ⟨bc, 0, none⟩) (by simp only; omega)).trans c0
        have d1 := (hk12.cell (p := ⟨bc, 1, none⟩) (by simp only; omega)).trans c1
        have d2 := (hk12.cell (p := ⟨bc, 2, none⟩) (by simp only; omega)).trans c2
        have L12 := Lib.hid (L11.out.later hk12)
        have hka := lkeys_any L12.out know_a
        have HKA := Lib.hid hka
        have hsz12 := hk12.size
        clear hka c0 c1 c2 HCT L11 R11 hk12
        unfold vs at *
        go_wp2_with fail
        refine HKA.out.mono ?_
        rintro x w13 ⟨va2, rfl, hk13, hsa⟩
        have L13 := Lib.hid ((L12.out.later hk13).alloc (.cells #[.int .u64 8] 27))
        have LA2 := Lib.hid (hsa.lr.alloc (.cells #[.int .u64 8] 27))
        have hsz13 := hk13.size
        have c0 := (hk13.cell (p := ⟨bc, 0, none⟩) (by simp only; omega)).trans d0
        have c1 := (hk13.cell (p := ⟨bc, 1, none⟩) (by simp only; omega)).trans d1
        have c2 := (hk13.cell (p := ⟨bc, 2, none⟩) (by simp only; omega)).trans d2
        have hbc : ¬ bc = w13.heap.size := by omega
        clear hk13 hsa d0 d1 d2 HKA L12
        go_wp2_with fail
        refine (same_yes (l := [8]) LA2.out (lr_one (Row.new _ _ _)) (by decide)).mono ?_
        rintro x w14 ⟨rfl, n14, rfl⟩
        have L14 := Lib.hid (L13.out.drewN n14)
        have hk14 : Kept (fun b => w13.heap.size ≤ b) w13 ((w13.alloc (.cells #[.int .u64 8] 27)).drewN n14) := ((Kept.refl _ _).alloc (Nat.le_refl _) _).drewN n14
        have d0 := (hk14.cell (p := ⟨bc, 0, none⟩) (by simp only; omega)).trans c0
        have d1 := (hk14.cell (p := ⟨bc, 1, none⟩) (by simp only; omega)).trans c1
        have d2 := (hk14.cell (p := ⟨bc, 2, none⟩) (by simp only; omega)).trans c2
        clear hk14 c0 c1 c2
        generalize (w13.alloc (.cells #[.int .u64 8] 27)).drewN n14 = w14 at *
        have hkn := ekeys_any L14.out.eng [118]
        rw [know_nov] at hkn
        have HKN := Lib.hid hkn
        clear hkn L13 LA2
        unfold vs at *
        go_wp2_with fail
        refine HKN.out.mono ?_
        rintro x w15 ⟨hk15, rfl⟩
        have L15 := Lib.hid (L14.out.later hk15)
        have hvn := evalue_any L15.out.eng [97]
        rw [know_noa] at hvn
        have HVN := Lib.hid hvn
        clear hvn hk15 HKN L14 d0 d1 d2
        unfold vs at *
        go_wp2_with fail
        refine HVN.out.mono ?_
        rintro x w16 ⟨hk16, rfl⟩
        have hK16 := (L15.out.later hk16).kept
        have hl2 := lload_any HE.out HO.out hK16 knowR2
        have HL2 := Lib.hid hl2
        have K16 := Lib.hid hK16
        clear hl2 hk16 hK16 HVN L15
        unfold vs at *
        go_wp2_with fail
        refine HL2.out.mono ?_
        rintro x w17 ⟨g2, S2, rfl, hL2, hk17, _⟩
        have hl3 := lload_any HE.out HO.out hL2.kept knowR3
        have HL3 := Lib.hid hl3
        have Y0 := Lib.hid hL2
        clear hl3 hL2 hk17 HL2 K16 hsz12 hsz13 hbc hlc
        unfold vs at *
        go_wp2_with fail
        refine HL3.out.mono ?_
        rintro x w18 ⟨g3, S3, rfl, hL3, hk18, hS3⟩
        have hd : ∀ b, S3 b → ¬ S2 b := fun b h3 h2 => by have := hS3 b h3; have := (Y0.out.lo b h2).2; omega
        have Y1 := Lib.hid (Y0.out.later hk18)
        have ha1 := lacc_any HE.out HO.out hL3 (by omega) knowZ_1
        have HA1 := Lib.hid ha1
        have Z1 := Lib.hid hL3
        have HD1 := Lib.hid hd
        clear ha1 hL3 hk18 hS3 hd Y0 HL3
        go_wp2_with fail
        refine HA1.out.mono ?_
        rintro x w19 ⟨v19, rfl, S4, hW, _⟩
        obtain ⟨y2, hd2⟩ := hW.other Y1.out Z1.out.mine Z1.out.ge_lo HD1.out
        have he2 := lerr_any (k := 11) HE.out HO.out hW.loop (by omega) knowZ_2
        have HE2 := Lib.hid he2
        have Z2 := Lib.hid hW.loop
        have Y2 := Lib.hid y2
        have HD2 := Lib.hid hd2
        clear he2 hW y2 hd2 HA1 Z1 Y1 HD1
        go_wp2_with fail
        refine HE2.out.mono ?_
        rintro x w20 ⟨rfl, S5, hW⟩
        obtain ⟨y3, hd3⟩ := hW.other Y2.out Z2.out.mine Z2.out.ge_lo HD2.out
        have hv := lvalue_any hW.loop knowZ_v
        have HV := Lib.hid hv
        have Z3 := Lib.hid hW.loop
        have Y3 := Lib.hid y3
        have HD3 := Lib.hid hd3
        clear hv hW y3 hd3 HE2 Z2 Y2 HD2
        unfold vs at *
        go_wp2_with fail
        refine HV.out.mono ?_
        rintro x w21 ⟨rfl, hk21⟩
        obtain ⟨eZ, hz3⟩ := knowZ_3
        have ha3 := lacc_any HE.out HO.out (Z3.out.later hk21) (by omega) hz3
        have HA3 := Lib.hid ha3
        have Z4 := Lib.hid (Z3.out.later hk21)
        have Y4 := Lib.hid (Y3.out.later hk21)
        have hz := Lib.hid hz3
        clear ha3 hk21 HV Z3 Y3 hz3
        go_wp2_with fail
        refine HA3.out.mono ?_
        rintro x w22 ⟨v22, rfl, S6, hW, hO⟩
        obtain ⟨y5, _⟩ := hW.other Y4.out Z4.out.mine Z4.out.ge_lo HD3.out
        have LO := Lib.hid (hO.lr.alloc (.cells #[.int .u64 1] 27))
        have Y5 := Lib.hid (y5.alloc (.cells #[.int .u64 1] 27))
        clear hW hO y5 HA3 Z4 Y4 HD3
        go_wp2_with fail
        refine (same_yes (l := [1]) LO.out (lr_one (Row.new _ _ _)) (by decide)).mono ?_
        rintro x w23 ⟨rfl, n23, rfl⟩
        have he := lerr_any (k := 12) HE.out HO.out (Y5.out.drewN n23) (by omega) knowY_1
        have HEE := Lib.hid he
        have Y6 := Lib.hid (Y5.out.drewN n23)
        clear he LO Y5
        go_wp2_with fail
        refine HEE.out.mono ?_
        rintro x w24 ⟨rfl, S7, hW⟩
        have hr := eremove_any hW.loop.eng 9223372036854775808
        rw [knowY_2] at hr
        have HR := Lib.hid hr
        have Y7 := Lib.hid hW.loop
        clear hr hW HEE Y6
        go_wp2_with fail
        refine HR.out.mono ?_
        rintro x w25 ⟨rfl, hk25, hE25⟩
        have hcn := ecounts_any hE25
        rw [know_rem] at hcn
        have K25 := Lib.hid (Y7.out.kept.trans (hk25.mono (fun b hb => hb.elim (fun h => (Y7.out.lo b h).1) (fun h => Nat.le_trans Y7.out.kept.size h))))
        have HCN := Lib.hid hcn
        clear hcn hE25 hk25 HR Y7
        go_wp2_with fail
        refine HCN.out.mono ?_
        rintro x w26 ⟨rfl, hk26⟩
        have K26 := Lib.hid (K25.out.trans (hk26.mono (fun b hb => Nat.le_trans K25.out.size hb)))
        clear hk26 HCN
        unfold encCnt
        go_wp2
        go_ret
        exact ⟨rfl, K26.out⟩
end
end Go.Proofs.YtemppijblfflgaaGreatDoor.Ev
namespace Go.Proofs.YtemppijblfflgaaGreatDoor.Ev
open Go Go.ChangeShapes Go.WideShapes Go.ChangeAt Go.RowKit
open Go.ChangeMaps (open_string shut_string)

namespace knownLaw
theorem bears : Bears Rows.knownRow.laid := by
  refine ⟨?_, ?_, ?_, ?_, ?_, ?_, ?_, ?_, ?_, ?_, ?_, ?_, ?_, ?_⟩ <;> (unfold Rows.knownRow; simp only [List.mem_cons, true_or, or_true])

set_option maxRecDepth 100000 in
theorem contract (H : Type) (enc : TypeId × Value → H) (W : World) (base : Nat) (args : Array Value) (ds gs : List (DataW H)) (before : List MemPlace)
    (hval : ∀ (j : Nat) t v, Tryz.f10.params[j]? = some t → args[j]? = some v → Value.okWide Tryz.prog W .any base t v)
    (hW : DataW.Whole enc Tryz.prog Tryz.f10.params.toList Rows.knownSpec.vars false W args.toList ds gs before) (hL : laidMetH Tryz.prog Rows.knownRow.laid W) :
    Calls Tryz.prog 10 args W fun e W' => ∃ v, e = .returned v ∧ Rows.knownSpec.post enc Tryz.prog Tryz.f10 false true false false W args v W' := by
  have hW' := hW
  obtain ⟨p, q, hA0, hV, rfl, hfz, hnd⟩ := hW
  have hA : DataW.TrodAll enc Tryz.prog W 0 (fun _ => true) true Tryz.f10.params.toList args.toList ds p := hA0
  rw [Tryz.params10] at hA hval
  have hargs : args = #[] := by
    obtain ⟨h1, _, _⟩ := trodAll_nil hA
    cases args; simp_all
  subst hargs
  obtain ⟨ea, he, ho⟩ := env_of hL bears
  refine (known_walk he ho).mono fun e W' ⟨h8, h9⟩ => ?_
  subst h8
  exact ⟨_, rfl, post_true laidOut_ rfl hW' (fun ds' hd => by
    obtain rfl : ds' = [] := List.length_eq_zero_iff.1 hd
    rfl) rfl Tryz.underlying4 (by
      intro t ht
      rw [Tryz.params10] at ht
      have ht : t ∈ ([] : List TypeId) := ht
      cases ht) h9⟩

theorem laid_met (os : Os) : laidMetH Tryz.prog Rows.knownRow.laid ((laidWorld os).forCall (fun _ _ => 0) ⟨#[], #[], []⟩).memory :=
  laidMetH_of_parts (LaidIn.of_run (List.range 1000) 8 (by kernel_rfl) (by kernel_rfl) (by kernel_rfl) (by kernel_rfl)).met (by kernel_rfl)

theorem witness_row (os : Os) {H : Type} (enc : TypeId × Value → H) :
    (OpenSpec.ofChange Rows.knownSpec).preRow enc Tryz.prog Tryz.f10 Rows.knownRow.domain false Rows.knownRow.laid ((laidWorld os).forCall (fun _ _ => 0) ⟨#[], #[], []⟩).memory #[] := by
  have hw : (DataW.whole enc Tryz.prog ((laidWorld os).forCall (fun _ _ => 0) ⟨#[], #[], []⟩).memory Tryz.f10.params.toList (OpenSpec.ofChange Rows.knownSpec).vars false (#[] : Array Value).toList 8).map (fun x => (x.1, x.2.1)) =
      some ([], []) := by kernel_rfl
  obtain ⟨⟨x1, x2, x3⟩, hx, hx1⟩ := Option.map_eq_some_iff.1 hw
  simp only [Prod.mk.injEq] at hx1
  obtain ⟨rfl, rfl⟩ := hx1
  exact OpenSpec.preRow_of_cond 8 hx (by kernel_rfl) (fun k hk => by cases hk) (by kernel_rfl) (laid_met os)

set_option maxRecDepth 100000 in
theorem lifted (os : Os) (started : os.Started) (H : Type) (enc : TypeId × Value → H) (F : Stop.Interp) :
    ReturnsInHanded {} Tryz.checked os 10 .any ((OpenSpec.ofChange Rows.knownSpec).preRow enc Tryz.prog Tryz.f10 Rows.knownRow.domain false Rows.knownRow.laid) (((OpenSpec.ofChange Rows.knownSpec).at F).post enc Tryz.prog Tryz.f10 false true false false) := by
  refine returnsInHanded_of_row (C := Tryz.checked) (s := OpenSpec.ofChange Rows.knownSpec) ownKnob_ started (by kernel_rfl) Tryz.func10
    (witness_row_atRef (enc := enc) (C := Tryz.checked) false (laidWorld os) #[] rfl (by kernel_rfl) (by kernel_rfl) (by kernel_rfl) (witness_row os enc)) ?_
  intro W base args ds gs before hval hW _ _ _ hL _ _
  exact contract H enc W base args ds gs before hval hW hL

theorem said : Rows.KnownSaid :=
  OpenClaim.holds_of_cond 10 Tryz.f10 rfl rfl rfl rfl rfl rfl rfl ⟨rfl, rfl, rfl, rfl, rfl⟩ rfl rfl rfl rfl rfl (by kernel_rfl) Tryz.func10 (by kernel_rfl)
    (of_decide_eq_true (by kernel_rfl)) (by unfold Func.isWrapper; first | (rw [if_pos (by decide +kernel)]; kernel_rfl) | (rw [if_neg (by decide +kernel)]; exact ⟨rfl, rfl⟩))
    (fun os started H enc _ F => by rw [OpenClaim.pre_eq_preRow]; exact lifted os started H enc F)

theorem plain (f : FuncId) (fn : Func) (hf : Tryz.pinned.checked.prog.funcNamed "evictor/evictorkeep.Known" = some f) (hfn : Tryz.pinned.checked.prog.funcs[f]? = some fn) :
    true = Tryz.pinned.checked.prog.looks [] ∧ ∀ (j : Nat) t, fn.params[j]? = some t → Tryz.pinned.checked.prog.wantsStandIn t = false := by
  obtain rfl : f = 10 := Option.some.inj ((show Tryz.prog.funcNamed "evictor/evictorkeep.Known" = some 10 by kernel_rfl).symm.trans hf) |>.symm
  obtain rfl : fn = Tryz.f10 := (Option.some.inj (Tryz.func10.symm.trans hfn)).symm
  refine ⟨by kernel_rfl, fun j t ht => ?_⟩
  rw [Tryz.params10] at ht
  have ht : t ∈ ([] : List TypeId) := (Array.mem_of_getElem? ht).1
  cases ht

theorem proved : Rows.KnownCardSaid :=
  Claim7.holds_tied_plain_at .later [] _ _ _ _ said (fun _ h => by cases h) (by kernel_rfl) (fun _ h => by cases h) known_row_tie rfl ⟨rfl, rfl⟩ (by kernel_rfl) rfl plain (by kernel_rfl)
end knownLaw
end Go.Proofs.YtemppijblfflgaaGreatDoor.Ev
