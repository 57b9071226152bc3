/- A run of a rule in memory; its small calls: push, pop. A run's small calls: push, pop, full, resident. A run's small calls: full, resident. What the arena's calls ask, when a key moves. No program in sight. A region that draws its order: reads and quiet calls in any order, then a few operations in one forced order. After the library's StillTail, with a class of worlds in the place of the one. Over any program. A run's steps on the last key of a queue. A run's step on the last key of a queue: shift. A run's steps that change something: evict, shift, cool, bump, inc, dec. A run's steps that change something: bump, inc, dec. A run's steps that change something: drop, put. Conditions: none. -/
import Derived.Outline
import Derived.StillTail
import Derived.BigQuiet
import Derived.Test.YtemppijblfflgaaGreatDoorZc02
import Derived.Test.YtemppijblfflgaaGreatDoorZc03
set_option linter.all false
set_option linter.unusedSimpArgs false
set_option linter.unusedVariables false
namespace Go.Proofs.YtemppijblfflgaaGreatDoor.Ev
open Go Go.RowKit

def encI (n : Int) : Value := .int .i64 n
def encU (n : Int) : Value := .int .u64 n

/-- What a run reads and never writes: its program, its policy; below block B. -/
structure RoR (B : Nat) (w : World) (gg gp : Nat) (vd bmv bcv : Value) (lp : Nat) (p : Policy) : Prop where
  prog : Row w gg 94 [.pointer (some ⟨gp, 0, none⟩), bcv, .int .i64 lp]
  pol : Row w gp 90 [vd, .int .i64 p.freq, bmv]
  decls : Sl (fun b => b < B) w 86 3 vd p.decls.length (p.decls.flatMap encDecl)
  gg0 : gg < B
  gp0 : gp < B

/-- The slots of a run. -/
structure RV where
  gr : Nat
  gg : Nat
  gp : Nat
  gs : Nat
  ga : Nat
  vd : Value
  bmv : Value
  bcv : Value
  lp : Nat
  vst : Value
  vlo : Value
  vou : Value
  vva : Value

def Apart (u v : Value) : Prop := ∀ b, u.ownBlock = some b → v.ownBlock ≠ some b
theorem Apart.symm {u v : Value} (h : Apart u v) : Apart v u := fun b h1 h2 => h b h2 h1

/-- A run in memory: what it may write stands from block B on; its arena's blocks are SA. -/
structure RunR (B : Nat) (w : World) (x : RV) (SA : Nat → Prop) (p : Policy) (key : Int) (A : Arena) (v : VS) : Prop where
  ro : RoR B w x.gg x.gp x.vd x.bmv x.bcv x.lp p
  row : Row w x.gr 144 [.pointer (some ⟨x.gg, 0, none⟩), .pointer (some ⟨x.gs, 0, none⟩), .int .u64 key, x.vst, .bool v.yes, x.vlo, x.vou]
  srow : Row w x.gs 72 [.pointer (some ⟨x.ga, 0, none⟩), x.vva]
  stack : Sl (fun b => B ≤ b) w 3 1 x.vst v.stack.length (v.stack.reverse.map encI)
  loops : Sl (fun b => B ≤ b) w 3 1 x.vlo v.loops.length (v.loops.map encI)
  out : Sl (fun b => B ≤ b) w 27 1 x.vou v.r.gone.length (v.r.gone.map encU)
  vars : Sl (fun b => B ≤ b) w 3 1 x.vva v.r.s.vars.length (v.r.s.vars.map encI)
  ar : ∃ vl vf vq bm, ARep SA w x.ga A vl vf vq bm
  gr0 : B ≤ x.gr
  gs0 : B ≤ x.gs
  sa : ∀ b, SA b → B ≤ b ∧ b < w.heap.size
  sr : ¬ SA x.gr
  ss : ¬ SA x.gs
  s1 : ∀ b, x.vst.ownBlock = some b → ¬ SA b
  s2 : ∀ b, x.vlo.ownBlock = some b → ¬ SA b
  s3 : ∀ b, x.vou.ownBlock = some b → ¬ SA b
  s4 : ∀ b, x.vva.ownBlock = some b → ¬ SA b
  a1 : Apart x.vst x.vlo
  a2 : Apart x.vst x.vva
  a3 : Apart x.vlo x.vva

theorem Sl.shrink {S : Nat → Prop} {w : World} {e : TypeId} {size n : Nat} {v : Value} {xs : List Value} (h : Sl S w e size v n xs) : Sl (fun b => S b ∧ b < w.heap.size) w e size v n xs := ⟨h.1, fun g hg => ⟨h.2 g hg, h.lt hg⟩⟩
theorem ARep.shrink {S : Nat → Prop} {w : World} {g bm : Nat} {A : Arena} {vl vf vq : Value} (h : ARep S w g A vl vf vq bm) : ARep (fun b => S b ∧ b < w.heap.size) w g A vl vf vq bm :=
  ⟨h.row, h.l.shrink, h.f.shrink, h.q.shrink, h.m, ⟨h.sg, h.row.lt⟩, ⟨h.sm, h.m.lt⟩⟩
theorem Sl.apart_ne {S S' : Nat → Prop} {w : World} {e e' : TypeId} {size size' n n' : Nat} {v v' : Value} {xs xs' : List Value} (h : Sl S w e size v n xs) (h' : Sl S' w e' size' v' n' xs') (hne : e ≠ e') : Apart v v' := fun _ hb hb' => h.ne_sl h' hne hb' hb

section
variable {B : Nat} {w w' : World} {gg gp : Nat} {vd bmv bcv : Value} {lp : Nat} {p : Policy}
theorem RoR.kept (h : RoR B w gg gp vd bmv bcv lp p) {S : Nat → Prop} (hk : Kept S w w') (hS : ∀ b, S b → B ≤ b) : RoR B w' gg gp vd bmv bcv lp p :=
  ⟨h.prog.kept hk (fun hs => by have := hS _ hs; have := h.gg0; omega), h.pol.kept hk (fun hs => by have := hS _ hs; have := h.gp0; omega),
    h.decls.kept hk (fun b hb hs => by have h1 := hS b hs; have h2 := h.decls.2 b hb; simp only at h2; omega), h.gg0, h.gp0⟩
end

section
variable {B : Nat} {w w' : World} {x : RV} {SA : Nat → Prop} {p : Policy} {key : Int} {A : Arena} {v : VS}

/-- What turned is none of the run's. -/
theorem RunR.kept (h : RunR B w x SA p key A v) {T : Nat → Prop} (hk : Kept T w w') (hB : ∀ b, T b → B ≤ b) (t1 : ¬ T x.gr) (t2 : ¬ T x.gs) (t3 : ∀ b, x.vst.ownBlock = some b → ¬ T b) (t4 : ∀ b, x.vlo.ownBlock = some b → ¬ T b)
    (t5 : ∀ b, x.vou.ownBlock = some b → ¬ T b) (t6 : ∀ b, x.vva.ownBlock = some b → ¬ T b) (t7 : ∀ b, SA b → ¬ T b) : RunR B w' x SA p key A v := by
  obtain ⟨vl, vf, vq, bm, ha⟩ := h.ar
  exact ⟨h.ro.kept hk hB, h.row.kept hk t1, h.srow.kept hk t2, h.stack.kept hk t3, h.loops.kept hk t4, h.out.kept hk t5, h.vars.kept hk t6, ⟨vl, vf, vq, bm, ha.kept hk t7⟩, h.gr0, h.gs0,
    fun b hb => ⟨(h.sa b hb).1, Nat.lt_of_lt_of_le (h.sa b hb).2 hk.size⟩, h.sr, h.ss, h.s1, h.s2, h.s3, h.s4, h.a1, h.a2, h.a3⟩

/-- New blocks, draws. -/
theorem RunR.grown (h : RunR B w x SA p key A v) (hk : Kept (fun b => w.heap.size ≤ b) w w') (hB : B ≤ w.heap.size) : RunR B w' x SA p key A v := by
  have r1 := h.row.lt
  have r2 := h.srow.lt
  refine h.kept hk (fun b hb => Nat.le_trans hB hb) (by omega) (by omega) (fun b hb hs => ?_) (fun b hb hs => ?_) (fun b hb hs => ?_) (fun b hb hs => ?_) (fun b hb hs => ?_)
  · have := h.stack.lt hb; omega
  · have := h.loops.lt hb; omega
  · have := h.out.lt hb; omega
  · have := h.vars.lt hb; omega
  · have := (h.sa b hb).2; omega

theorem RunR.base (h : RunR B w x SA p key A v) : B ≤ w.heap.size := by
  have := h.row.lt
  have := h.gr0
  omega

/-- The stack has been written anew. -/
theorem RunR.setStack (h : RunR B w x SA p key A v) {T : Nat → Prop} (hk : Kept T w w') (hT : ∀ b, T b → x.vst.ownBlock = some b ∨ w.heap.size ≤ b) {u : Value} {st : List Int}
    (hs : Sl (fun b => B ≤ b) w' 3 1 u st.length (st.reverse.map encI)) (hu : ∀ b, u.ownBlock = some b → x.vst.ownBlock = some b ∨ w.heap.size ≤ b) :
    RunR B (w'.setCell ⟨x.gr, 3, none⟩ u) { x with vst := u } SA p key A { v with stack := st } := by
  have hB := h.base
  have n1 : x.vst.ownBlock ≠ some x.gr := h.stack.ne_row h.row (by decide)
  have n2 : x.vst.ownBlock ≠ some x.gs := h.stack.ne_row h.srow (by decide)
  have r1 := h.row.lt
  have r2 := h.srow.lt
  have h1 := h.kept hk (fun b hb => (hT b hb).elim (fun e => h.stack.2 b e) (fun e => Nat.le_trans hB e)) (fun hb => (hT _ hb).elim n1 (fun e => by omega)) (fun hb => (hT _ hb).elim n2 (fun e => by omega))
  have o2 : ∀ b, x.vlo.ownBlock = some b → ¬ T b := fun b hb ht => (hT b ht).elim (fun e => h.a1 b e hb) (fun e => by have := h.loops.lt hb; omega)
  have o3 : ∀ b, x.vou.ownBlock = some b → ¬ T b := fun b hb ht => (hT b ht).elim (fun e => (h.stack.apart_ne h.out (by decide)) b e hb) (fun e => by have := h.out.lt hb; omega)
  have o4 : ∀ b, x.vva.ownBlock = some b → ¬ T b := fun b hb ht => (hT b ht).elim (fun e => h.a2 b e hb) (fun e => by have := h.vars.lt hb; omega)
  have o5 : ∀ b, SA b → ¬ T b := fun b hb ht => (hT b ht).elim (fun e => h.s1 b e hb) (fun e => by have := (h.sa b hb).2; omega)
  have hr' := h.row.kept hk (fun hb => (hT _ hb).elim n1 (fun e => by omega))
  have hs' := h.srow.kept hk (fun hb => (hT _ hb).elim n2 (fun e => by omega))
  have k3 : Kept (fun b => b = x.gr) w' (w'.setCell ⟨x.gr, 3, none⟩ u) := Kept.one w' ⟨x.gr, 3, none⟩ u
  obtain ⟨vl, vf, vq, bm, ha⟩ := h.ar
  have row3 := hr'.set_ 3 u
  refine ⟨(h.ro.kept hk (fun b hb => (hT b hb).elim (fun e => h.stack.2 b e) (fun e => Nat.le_trans hB e))).kept k3 (fun b hb => hb ▸ h.gr0), row3, hs'.kept k3 (hs'.ne_ hr' (by decide)),
    hs.kept k3 (fun b hb e => hs.ne_row hr' (by decide) (e ▸ hb)), (h.loops.kept hk o2).kept k3 (fun b hb e => (h.loops.kept hk o2).ne_row hr' (by decide) (e ▸ hb)),
    (h.out.kept hk o3).kept k3 (fun b hb e => (h.out.kept hk o3).ne_row hr' (by decide) (e ▸ hb)), (h.vars.kept hk o4).kept k3 (fun b hb e => (h.vars.kept hk o4).ne_row hr' (by decide) (e ▸ hb)),
    ⟨vl, vf, vq, bm, (ha.kept hk o5).kept k3 (fun b hb e => h.sr (e ▸ hb))⟩, h.gr0, h.gs0, fun b hb => ⟨(h.sa b hb).1, Nat.lt_of_lt_of_le (h.sa b hb).2 (Nat.le_trans hk.size k3.size)⟩, h.sr, h.ss, ?_, h.s2, h.s3, h.s4, ?_, ?_, h.a3⟩
  · exact fun b hb hs => (hu b hb).elim (fun e => h.s1 b e hs) (fun e => by have := (h.sa b hs).2; omega)
  · exact fun b hb hs => (hu b hb).elim (fun e => h.a1 b e hs) (fun e => by have := h.loops.lt hs; omega)
  · exact fun b hb hs => (hu b hb).elim (fun e => h.a2 b e hs) (fun e => by have := h.vars.lt hs; omega)

/-- What was evicted has been written anew. -/
theorem RunR.setOut (h : RunR B w x SA p key A v) {T : Nat → Prop} (hk : Kept T w w') (hT : ∀ b, T b → x.vou.ownBlock = some b ∨ w.heap.size ≤ b) {u : Value} {l : List Int}
    (hs : Sl (fun b => B ≤ b) w' 27 1 u l.length (l.map encU)) (hu : ∀ b, u.ownBlock = some b → x.vou.ownBlock = some b ∨ w.heap.size ≤ b) :
    RunR B (w'.setCell ⟨x.gr, 6, none⟩ u) { x with vou := u } SA p key A { v with r := { v.r with gone := l } } := by
  have hB := h.base
  have n1 : x.vou.ownBlock ≠ some x.gr := h.out.ne_row h.row (by decide)
  have n2 : x.vou.ownBlock ≠ some x.gs := h.out.ne_row h.srow (by decide)
  have r1 := h.row.lt
  have r2 := h.srow.lt
  have o1 : ∀ b, x.vst.ownBlock = some b → ¬ T b := fun b hb ht => (hT b ht).elim (fun e => (h.stack.apart_ne h.out (by decide)) b hb e) (fun e => by have := h.stack.lt hb; omega)
  have o2 : ∀ b, x.vlo.ownBlock = some b → ¬ T b := fun b hb ht => (hT b ht).elim (fun e => (h.loops.apart_ne h.out (by decide)) b hb e) (fun e => by have := h.loops.lt hb; omega)
  have o4 : ∀ b, x.vva.ownBlock = some b → ¬ T b := fun b hb ht => (hT b ht).elim (fun e => (h.vars.apart_ne h.out (by decide)) b hb e) (fun e => by have := h.vars.lt hb; omega)
  have o5 : ∀ b, SA b → ¬ T b := fun b hb ht => (hT b ht).elim (fun e => h.s3 b e hb) (fun e => by have := (h.sa b hb).2; omega)
  have hr' := h.row.kept hk (fun hb => (hT _ hb).elim n1 (fun e => by omega))
  have hs' := h.srow.kept hk (fun hb => (hT _ hb).elim n2 (fun e => by omega))
  have k3 : Kept (fun b => b = x.gr) w' (w'.setCell ⟨x.gr, 6, none⟩ u) := Kept.one w' ⟨x.gr, 6, none⟩ u
  obtain ⟨vl, vf, vq, bm, ha⟩ := h.ar
  have row3 := hr'.set_ 6 u
  refine ⟨(h.ro.kept hk (fun b hb => (hT b hb).elim (fun e => h.out.2 b e) (fun e => Nat.le_trans hB e))).kept k3 (fun b hb => hb ▸ h.gr0), row3, hs'.kept k3 (hs'.ne_ hr' (by decide)),
    (h.stack.kept hk o1).kept k3 (fun b hb e => (h.stack.kept hk o1).ne_row hr' (by decide) (e ▸ hb)), (h.loops.kept hk o2).kept k3 (fun b hb e => (h.loops.kept hk o2).ne_row hr' (by decide) (e ▸ hb)),
    hs.kept k3 (fun b hb e => hs.ne_row hr' (by decide) (e ▸ hb)), (h.vars.kept hk o4).kept k3 (fun b hb e => (h.vars.kept hk o4).ne_row hr' (by decide) (e ▸ hb)),
    ⟨vl, vf, vq, bm, (ha.kept hk o5).kept k3 (fun b hb e => h.sr (e ▸ hb))⟩, h.gr0, h.gs0, fun b hb => ⟨(h.sa b hb).1, Nat.lt_of_lt_of_le (h.sa b hb).2 (Nat.le_trans hk.size k3.size)⟩, h.sr, h.ss, h.s1, h.s2, ?_, h.s4, h.a1, h.a2, h.a3⟩
  exact fun b hb hs => (hu b hb).elim (fun e => h.s3 b e hs) (fun e => by have := (h.sa b hs).2; omega)

/-- The arena has been written anew. -/
theorem RunR.setArena (h : RunR B w x SA p key A v) (hk : Kept (fun b => SA b ∨ w.heap.size ≤ b) w w') {A' : Arena} (ha : ∃ vl vf vq bm, ARep (fun b => SA b ∨ w.heap.size ≤ b) w' x.ga A' vl vf vq bm) :
    RunR B w' x (fun b => (SA b ∨ w.heap.size ≤ b) ∧ b < w'.heap.size) p key A' v := by
  have hB := h.base
  have r1 := h.row.lt
  have r2 := h.srow.lt
  have o : ∀ b, ¬ SA b → b < w.heap.size → ¬ (SA b ∨ w.heap.size ≤ b) := fun b h1 h2 h3 => h3.elim h1 (fun e => by omega)
  obtain ⟨vl, vf, vq, bm, ha⟩ := ha
  refine ⟨h.ro.kept hk (fun b hb => hb.elim (fun e => (h.sa b e).1) (fun e => Nat.le_trans hB e)), h.row.kept hk (o _ h.sr r1), h.srow.kept hk (o _ h.ss r2), h.stack.kept hk (fun b hb => o _ (h.s1 b hb) (h.stack.lt hb)), h.loops.kept hk (fun b hb => o _ (h.s2 b hb) (h.loops.lt hb)),
    h.out.kept hk (fun b hb => o _ (h.s3 b hb) (h.out.lt hb)), h.vars.kept hk (fun b hb => o _ (h.s4 b hb) (h.vars.lt hb)), ⟨vl, vf, vq, bm, ha.shrink⟩, h.gr0, h.gs0, fun b hb => ⟨hb.1.elim (fun e => (h.sa b e).1) (fun e => Nat.le_trans hB e), hb.2⟩,
    fun hb => o _ h.sr r1 hb.1, fun hb => o _ h.ss r2 hb.1, fun b hb hs => o _ (h.s1 b hb) (h.stack.lt hb) hs.1, fun b hb hs => o _ (h.s2 b hb) (h.loops.lt hb) hs.1, fun b hb hs => o _ (h.s3 b hb) (h.out.lt hb) hs.1, fun b hb hs => o _ (h.s4 b hb) (h.vars.lt hb) hs.1, h.a1, h.a2, h.a3⟩

/-- What was found has been written anew. -/
theorem RunR.setYes (h : RunR B w x SA p key A v) (y : Bool) : RunR B (w.setCell ⟨x.gr, 4, none⟩ (.bool y)) x SA p key A { v with yes := y } := by
  have k3 : Kept (fun b => b = x.gr) w (w.setCell ⟨x.gr, 4, none⟩ (.bool y)) := Kept.one w ⟨x.gr, 4, none⟩ _
  obtain ⟨vl, vf, vq, bm, ha⟩ := h.ar
  exact ⟨h.ro.kept k3 (fun b hb => hb ▸ h.gr0), h.row.set_ 4 _, h.srow.kept k3 (h.srow.ne_ h.row (by decide)), h.stack.kept k3 (fun b hb e => h.stack.ne_row h.row (by decide) (e ▸ hb)), h.loops.kept k3 (fun b hb e => h.loops.ne_row h.row (by decide) (e ▸ hb)),
    h.out.kept k3 (fun b hb e => h.out.ne_row h.row (by decide) (e ▸ hb)), h.vars.kept k3 (fun b hb e => h.vars.ne_row h.row (by decide) (e ▸ hb)), ⟨vl, vf, vq, bm, ha.kept k3 (fun b hb e => h.sr (e ▸ hb))⟩, h.gr0, h.gs0,
    fun b hb => ⟨(h.sa b hb).1, Nat.lt_of_lt_of_le (h.sa b hb).2 k3.size⟩, h.sr, h.ss, h.s1, h.s2, h.s3, h.s4, h.a1, h.a2, h.a3⟩

theorem set_map {f : Int → Value} (l : List Int) (i : Nat) (n : Int) : (l.map f).set i (f n) = (l.set i n).map f := by rw [List.map_set]

/-- A loop counter; a variable. -/
theorem Sl.set1 {S : Nat → Prop} {e : TypeId} {l : List Int} {u : Value} (f : Int → Value) (h : Sl S w e 1 u l.length (l.map f)) {i g cap : Nat} (hu : u = .slice (some ⟨g, 0, none⟩) l.length cap) (n : Int) :
    Sl S (w.setCell ⟨g, i, none⟩ (f n)) e 1 u (l.set i n).length ((l.set i n).map f) := by
  subst hu
  have hs := h.1.stored i (f n)
  rw [set_map] at hs
  rw [List.length_set]
  exact ⟨hs.1, h.2⟩
end
end Go.Proofs.YtemppijblfflgaaGreatDoor.Ev
namespace Go.Proofs.YtemppijblfflgaaGreatDoor.Ev
open Go Go.RowKit

theorem infoInt_ : (Tryz.prog.info? 3).map (fun i => (i.zero, i.size, i.bytes)) = some (some (.int .i64 0), 1, 8) := by kernel_rfl

section
variable {B : Nat} {w : World} {x : RV} {SA : Nat → Prop} {p : Policy} {key : Int} {A : Arena} {v : VS}

set_option maxRecDepth 100000 in
set_option maxHeartbeats 1000000 in
theorem push_any (h : RunR B w x SA p key A v) (hl : v.stack.length ≤ 1) (n : Int) :
    Calls Tryz.prog 98 #[.pointer (some ⟨x.gr, 0, none⟩), .int .i64 n] w fun e w' =>
      e = .returned (.tuple #[]) ∧ Kept (fun b => B ≤ b) w w' ∧ ∃ u, RunR B w' { x with vst := u } SA p key A { v with stack := n :: v.stack } := by
  obtain ⟨gr, gg, gp, gs, ga, vd, bmv, bcv, lp, vst, vlo, vou, vva⟩ := x
  obtain ⟨av, cv, rfl⟩ : ∃ a c, vst = .slice a v.stack.length c := h.stack.shape
  have c3 := h.row.cell 3
  have f := fun j => h.row.frozen j
  have r1 := h.row.lt
  have hB := h.base
  simp only at c3 f r1 ⊢
  have hne : ¬ gr = w.heap.size := by omega
  have ha := h.grown ((Kept.refl _ w).alloc (Nat.le_refl _) (.cells #[.int .i64 n] 3)) hB
  obtain ⟨i0, hi0, hz0, hz1, hz2⟩ := info_parts infoInt_
  have q1 : B ≤ (w.alloc (.cells #[.int .i64 n] 3)).heap.size := Nat.le_trans hB (by simp)
  have q2 := cells_new w [.int .i64 n] 3
  have q3 : ∀ u ∈ [Value.int .i64 n], u.oneCell' = true := by intro u hu; simp at hu; subst hu; rfl
  have q4 : v.stack.length + 1 ≤ maxLen := by unfold maxLen; omega
  have q5 : (v.stack.length + 1) * 8 ≤ 140737488355328 := by omega
  have q6 : ¬ ((Value.slice av v.stack.length cv).ownBlock = some gr ∨ (w.alloc (.cells #[.int .i64 n] 3)).heap.size ≤ gr) := by
    rintro (h0 | h0)
    · exact h.stack.ne_row h.row (by decide) h0
    · simp at h0; omega
  have H := Lib.hid h
  have HA := Lib.hid ha
  have Q1 := Lib.hid q1
  have Q2 := Lib.hid q2
  have Q3 := Lib.hid q3
  have Q6 := Lib.hid q6
  clear h ha q1 q2 q3 q6
  simp at c3
  go_enter Tryz.func98, Tryz.ntmps98
  go_wp2_with (at_builtin; go_must (refine wp_append1 Tryz.underlying70 hi0 hz0 hz1 hz2 rfl (by decide) HA.out.stack Q1.out rfl _ _ rfl rfl ⟨w.heap.size, 0, none⟩ 1 1 [.int .i64 n] rfl rfl Q2.out Q3.out q4 q5 (Nat.succ_pos _) ?_; intro g2 cap2 w2 hs2 hk2 hloc; have e1 := (HA.out.row.kept hk2 Q6.out).cell 3; have e5 : ∀ j, w2.frozen? ⟨gr, j, none⟩ = false := fun j => (HA.out.row.kept hk2 Q6.out).frozen j; have Hs2 := Lib.hid hs2; have Hk2 := Lib.hid hk2; have HL := Lib.hid hloc; clear hs2 hk2 hloc; simp at e1))
  go_end0
  have hst := HA.out.setStack (st := n :: v.stack) Hk2.out (fun b hb => hb) (by simpa [encI] using Hs2.out) (fun b hb => by
    injection hb with hb
    simp only at hb
    subst hb
    exact HL.out.imp id (fun e => by rw [e]; exact Nat.le_refl _))
  refine ⟨rfl, ?_, _, hst⟩
  exact (((Kept.refl _ w).alloc hB _).trans (Hk2.out.mono (fun b hb => hb.elim (fun e => H.out.stack.2 b e) (fun e => Nat.le_trans hB (Nat.le_trans (by simp) e))))).setCell (p := ⟨gr, 3, none⟩) H.out.gr0 _

set_option maxRecDepth 100000 in
set_option maxHeartbeats 1000000 in
theorem pop_any (h : RunR B w x SA p key A v) {n : Int} {st : List Int} (hs : v.stack = n :: st) (hl : v.stack.length ≤ 2) :
    Calls Tryz.prog 101 #[.pointer (some ⟨x.gr, 0, none⟩)] w fun e w' =>
      e = .returned (.int .i64 n) ∧ Kept (fun b => B ≤ b) w w' ∧ ∃ u, RunR B w' { x with vst := u } SA p key A { v with stack := st } := by
  obtain ⟨gr, gg, gp, gs, ga, vd, bmv, bcv, lp, vst, vlo, vou, vva⟩ := x
  have hlen : v.stack.length = st.length + 1 := by rw [hs]; rfl
  obtain ⟨g1, cap, rfl, _, hcap, hcm, hg1⟩ : ∃ g cap, vst = .slice (some ⟨g, 0, none⟩) v.stack.length cap ∧ B ≤ g ∧ v.stack.length ≤ cap ∧ cap ≤ maxLen ∧ g < w.heap.size := h.stack.form (by omega)
  have hc := h.stack.1.cellAt st.length (by simp [hlen])
  have ec : (v.stack.reverse.map encI)[st.length]? = some (.int .i64 n) := by
    rw [hs]
    simp [encI]
  rw [ec] at hc
  have hls : Sl (fun b => B ≤ b) w 3 1 (.slice (some ⟨g1, 0, none⟩) st.length cap) st.length (st.reverse.map encI) := by
    have h1 : Sl (fun b => B ≤ b) w 3 1 (.slice (some ⟨g1, 0, none⟩) v.stack.length cap) v.stack.length (v.stack.reverse.map encI) := h.stack
    have h2 := h1.take st.length (by omega)
    rw [Nat.mul_one] at h2
    have e : (v.stack.reverse.map encI).take st.length = st.reverse.map encI := by
      rw [hs, List.reverse_cons, List.map_append, List.take_left' (by simp)]
    rw [e] at h2
    exact h2
  have c3 := h.row.cell 3
  have f : ∀ j, w.frozen? ⟨gr, j, none⟩ = false := fun j => h.row.frozen j
  have r1 : gr < w.heap.size := h.row.lt
  rw [hlen] at c3 hl hcap
  have hc' : w.cell? ⟨g1, st.length, none⟩ = some (.int .i64 n) := by simpa using hc
  unfold maxLen at hcm
  have H := Lib.hid h
  have HS := Lib.hid hls
  clear h hls hs hc ec hlen
  simp at c3
  go_enter Tryz.func101, Tryz.ntmps101
  go_wp2
  go_quiet (fail)
  go_wp2
  go_region
  go_wp2
  go_ret
  have hst := (H.out.grown ((Kept.refl _ w).drewN _ |>.drew) H.out.base).setStack (w' := (w.drewN nq).drew) (T := fun _ => False) (st := st) (Kept.refl _ _) (fun b hb => hb.elim) (HS.out.of_heap rfl) (fun b hb => .inl hb)
  refine ⟨rfl, ?_, _, hst⟩
  exact (((Kept.refl _ w).drewN _).drew).setCell (p := ⟨gr, 3, none⟩) H.out.gr0 _
end
end Go.Proofs.YtemppijblfflgaaGreatDoor.Ev
namespace Go.Proofs.YtemppijblfflgaaGreatDoor.Ev
open Go Go.RowKit

theorem declAt_get {l : List Decl} {q : Int} (h : Ix l.length q) : l[q.toNat]? = some (declAt l q) := by
  obtain ⟨h1, h2⟩ := h
  have hlt : q.toNat < l.length := by omega
  unfold declAt
  rw [List.getElem?_eq_getElem hlt]; rfl

section
variable {B : Nat} {w : World} {x : RV} {SA : Nat → Prop} {p : Policy} {key : Int} {A : Arena} {v : VS}

/-- A declaration's cells. -/
theorem RoR.decl {gg gp : Nat} {vd bmv bcv : Value} {lp : Nat} (h : RoR B w gg gp vd bmv bcv lp p) {q : Int} (hq : Ix p.decls.length q) :
    ∃ g cap, vd = .slice (some ⟨g, 0, none⟩) p.decls.length cap ∧ p.decls.length ≤ cap ∧ cap ≤ maxLen ∧ w.cell? ⟨g, q.toNat * 3, none⟩ = some (.int .i64 (declAt p.decls q).kind) ∧ w.cell? ⟨g, q.toNat * 3 + 2, none⟩ = some (.int .i64 (declAt p.decls q).max) := by
  obtain ⟨g, cap, rfl, _, h1, h2, _⟩ := h.decls.form (by unfold Ix at hq; omega)
  have c := fun j hj => h.decls.at_ (f := encDecl) (fun _ => rfl) (declAt_get hq) (j := j) hj
  exact ⟨g, cap, rfl, h1, h2, c 0 (by omega), c 2 (by omega)⟩

set_option maxRecDepth 100000 in
set_option maxHeartbeats 1000000 in
theorem full_any (h : RunR B w x SA p key A v) (ok : A.Ok) (hp : p.decls.length ≤ 8) (hA : A.qs.length = p.decls.length) {q : Int} (hq : Ix p.decls.length q) :
    Calls Tryz.prog 102 #[.pointer (some ⟨x.gr, 0, none⟩), .int .i64 q] w fun e w' => e = .returned (.bool (afull p.decls A q)) ∧ ∃ n, w' = w.drewN n := by
  obtain ⟨gr, gg, gp, gs, ga, vd, bmv, bcv, lp, vst, vlo, vou, vva⟩ := x
  have c0 := h.row.cell 0
  have c1 := h.row.cell 1
  have s0 := h.srow.cell 0
  have g0 := h.ro.prog.cell 0
  have p0 := h.ro.pol.cell 0
  obtain ⟨gd, cd, e1, hcd, hcm, _, d2⟩ := h.ro.decl hq
  simp only at e1
  subst e1
  obtain ⟨vl, vf, vq, bm, har⟩ := h.ar
  have hql : q.toNat < A.qs.length := by unfold Ix at hq; omega
  have hlen := fun n => (len_any (har.drewN n) ok q.toNat hql (by omega)).mono fun e w' h => (⟨h.1, h.2.symm⟩ : e = .returned (.int .i64 (A.len q.toNat)) ∧ w' = w.drewN n)
  have hqn : ((q.toNat : Nat) : Int) = q := by unfold Ix at hq; omega
  obtain ⟨m, rfl⟩ : ∃ m : Nat, q = (m : Int) := ⟨q.toNat, hqn.symm⟩
  rw [Int.toNat_natCast] at *
  have hm : m < p.decls.length := by unfold Ix at hq; omega
  unfold afull alen
  rw [Int.toNat_natCast]
  generalize A.len m = L at *
  generalize (declAt p.decls (m : Int)).max = M at *
  generalize p.decls.length = D at *
  have HL := Lib.hid hlen
  unfold maxLen at hcm
  clear h har hlen hqn hq ok hA hql
  simp at c0 c1 s0 g0 p0
  have d2' : w.cell? ⟨gd, m * 3 + 2, none⟩ = some (.int .i64 M) := d2
  go_enter Tryz.func102, Tryz.ntmps102
  go_wp2
  go_quiet ((go_at_call 99; exact Calls.quiet_of_same (HL.out _)))
  go_wp2
  go_ret
  exact ⟨rfl, _, rfl⟩

set_option maxRecDepth 100000 in
set_option maxHeartbeats 1000000 in
theorem resident_any (h : RunR B w x SA p key A v) (hp : p.decls.length ≤ 8) {q : Int} (hq : q = -1 ∨ Ix p.decls.length q) :
    Calls Tryz.prog 104 #[.pointer (some ⟨x.gr, 0, none⟩), .int .i64 q] w fun e w' => e = .returned (.bool (resident p.decls q)) ∧ w' = w := by
  obtain ⟨gr, gg, gp, gs, ga, vd, bmv, bcv, lp, vst, vlo, vou, vva⟩ := x
  rcases hq with rfl | hq
  · have e : resident p.decls (-1) = false := rfl
    rw [e]
    clear h
    go_enter Tryz.func104, Tryz.ntmps104
    go_wp2
    go_ret
    exact ⟨rfl, rfl⟩
  · have c0 := h.row.cell 0
    have g0 := h.ro.prog.cell 0
    have p0 := h.ro.pol.cell 0
    obtain ⟨gd, cd, e1, hcd, hcm, d0, _⟩ := h.ro.decl hq
    simp only at e1
    subst e1
    have hqn : ((q.toNat : Nat) : Int) = q := by unfold Ix at hq; omega
    obtain ⟨m, rfl⟩ : ∃ m : Nat, q = (m : Int) := ⟨q.toNat, hqn.symm⟩
    rw [Int.toNat_natCast] at *
    have hm : m < p.decls.length := by unfold Ix at hq; omega
    have e : resident p.decls (m : Int) = ((declAt p.decls (m : Int)).kind == 0) := by unfold resident; simp
    rw [e]
    generalize (declAt p.decls (m : Int)).kind = K at *
    generalize p.decls.length = D at *
    unfold maxLen at hcm
    have hK : (K == 0) = decide ((K : Int) = 0) := by
      rw [Bool.eq_iff_iff]; simp
    rw [hK]
    clear h hqn hq e hK
    simp at c0 g0 p0
    go_enter Tryz.func104, Tryz.ntmps104
    go_wp2
    go_ret
    exact ⟨rfl, rfl⟩
end
end Go.Proofs.YtemppijblfflgaaGreatDoor.Ev
namespace Go.Proofs.YtemppijblfflgaaGreatDoor.Ev

/-- What is asked where a key leaves its queue, and comes to another. -/
structure MoveOk (p : Policy) (A : Arena) (key : Int) : Prop where
  ok : A.Ok
  un : ∀ n, A.idx key = some n → ∃ q, A.CanUnlink n q
  ok' : (A.out key).Ok
  len : (A.out key).qs.length = A.qs.length
  frq : 0 ≤ A.outFreq key ∧ A.outFreq key ≤ 99
  cin : ∀ q, Ix p.decls.length q → (declAt p.decls q).kind ≠ 2 → afull p.decls (A.out key) q = false → (A.out key).CanIn key (A.outFreq key) q.toNat
  wh : A.where_ key = -1 ∨ Ix p.decls.length (A.where_ key)
  q8 : A.qs.length ≤ 8
  ql : A.qs.length = p.decls.length

theorem move_ok {A : Arena} {ns : List (List Nat)} {p : Policy} {s : St} (h : AInv A ns s.q) (hs : SInv p s) (hp : PolW p) (key : Int) : MoveOk p A key := by
  obtain ⟨o1, o2, o3, o4⟩ := out_st h key
  have hql : A.qs.length = p.decls.length := by rw [← h.qlen, hs.q]
  have hfq := hp.freq
  cases hfd : s.find key with
  | none =>
    rw [hfd] at o4
    obtain ⟨e1, e2, e3⟩ := o4
    refine ⟨h.ok, o1, by rw [e1]; exact h.ok, o3, by rw [e2]; omega, fun q hq hk hf => ?_, .inl e3, h.q8, hql⟩
    rw [e1] at o2 hf ⊢
    rw [e2]
    obtain ⟨_, c⟩ := comes_st (from_ := -1) h hs hp false [] o2 hq hk ⟨Int.le_refl 0, hfq.1⟩
    rcases c with ⟨_, c2⟩ | ⟨_, _, _, _, _, c5, _⟩
    · rw [hf] at c2; cases c2
    · exact c5
  | some ki =>
    obtain ⟨k, i⟩ := ki
    rw [hfd] at o4
    obtain ⟨⟨ns1, e0⟩, e2, e3, e4, l, e5, e6⟩ := o4
    have hm : entAt (s.queue (k : Int)) i ∈ s.queue (k : Int) := entAt_mem (by rw [queue_nat, e5]; exact e6)
    have hfr := hs.queue (k : Int) _ hm
    rw [← e2] at hfr
    have hkl : k < s.q.length := (List.getElem?_eq_some_iff.1 e5).1
    refine ⟨h.ok, o1, e0.ok, o3, ⟨hfr.1, by omega⟩, fun q hq hk hf => ?_, .inr (by rw [e4]; unfold Ix; rw [hs.q] at hkl; omega), h.q8, hql⟩
    obtain ⟨_, c⟩ := comes_st (s := s.out k i) (from_ := k) e0 (hs.out k i) hp false [] o2 hq hk hfr
    rcases c with ⟨_, c2⟩ | ⟨_, _, _, _, _, c5, _⟩
    · rw [hf] at c2; cases c2
    · exact c5
end Go.Proofs.YtemppijblfflgaaGreatDoor.Ev
namespace Go.Proofs.YtemppijblfflgaaGreatDoor.Ev
open Go Go.RowKit

section
variable {P : Program} {ops : Array Oper} {md : Region.Mode} {C : World → Prop}

def wpAnyT (P : Program) (md : Region.Mode) (ops : Array Oper) (C : World → Prop) (n : Nat) (L : Array Bool → Act → Prop) : Nat → Array Bool → Act → Prop
  | 0, listed, a => L listed a
  | f + 1, listed, a =>
    Region.ready md ops listed ≠ [] ∧ ∀ i ∈ Region.ready md ops listed, i < n ∧ qOp P ops C i (wpAnyT P md ops C n L f (listed.setIfInBounds i true)) a

theorem wpAny_of_headT {n g : Nat} {L : Array Bool → Act → Prop} {Q' : Exit → Act → World → Prop} (hL : ∀ listed a w, C w → L listed a → wpAny P md ops Q' g listed a w) :
    ∀ (f : Nat) (listed : Array Bool) (a : Act) (w : World), C w → wpAnyT P md ops C n L f listed a → wpAny P md ops Q' (f + g) listed a w
  | 0, listed, a, w, hw, h => by rw [Nat.zero_add]; exact hL _ _ _ hw h
  | f + 1, listed, a, w, hw, h => by
    rw [show f + 1 + g = (f + g) + 1 by omega]
    exact ⟨fun h0 => absurd h0 h.1, fun i hi => wpOp_of_qOp hw (fun a' w' hw' h' => wpAny_of_headT hL f _ a' w' hw' h') (h.2 i hi).2⟩

theorem wpAnyT_first {n i : Nat} {oi : Oper} {v : Value} {L : Array Bool → Act → Prop} (hi : ops[i]? = some oi) (hsel : ∀ (j : Nat) (o : Oper) cs b, ops[j]? = some o → o.op ≠ .select cs b)
    (hs : Region.sinkB md ops n = true) (hc : Region.chainB md ops n = true) (hn : n < ops.size) (hin : i < n)
    (hdone : ∀ listed a, L listed a → ∀ j ∈ Region.ready md ops listed, n ≤ j) :
    ∀ (f : Nat) (listed : Array Bool) (a : Act), HeadInv md ops n listed →
      (∀ j oj, ops[j]? = some oj → j ≠ i → listed.getD j true = false → (∀ e ∈ oj.after, Region.binds md e = true → e.on ≠ i) → oi.apart ops oj = true) →
      i ∈ Region.ready md ops listed → YieldsIn P ops C oi v a →
      wpAnyT P md ops C n L f (listed.setIfInBounds i true) (a.put oi.dst v) → wpAnyT P md ops C n L (f + 1) listed a := by
  intro f
  induction f with
  | zero =>
    intro listed a inv _ hr hy H
    have hun := (mem_ready.1 hr).1
    refine ⟨fun h => (by rw [h] at hr; cases hr), fun j hj => ?_⟩
    have hjn : j < n := by
      rcases Nat.lt_or_ge j n with h | h
      · exact h
      · exact absurd hj (tail_waits hs hc hn inv _ i rfl hin hun j h)
    refine ⟨hjn, ?_⟩
    by_cases hji : j = i
    · subst hji; exact hy.qOp hi H
    · have := hdone _ _ H j (ready_mono hj hji)
      omega
  | succ f ih =>
    intro listed a inv hfree hr hy H
    have hun := (mem_ready.1 hr).1
    refine ⟨fun h => (by rw [h] at hr; cases hr), fun j hj => ?_⟩
    have hjn : j < n := by
      rcases Nat.lt_or_ge j n with h | h
      · exact h
      · exact absurd hj (tail_waits hs hc hn inv _ i rfl hin hun j h)
    refine ⟨hjn, ?_⟩
    by_cases hji : j = i
    · subst hji; exact hy.qOp hi H
    · have h1 := (H.2 j (ready_mono hj hji)).2
      obtain ⟨hjun, oj, hoj, hall⟩ := mem_ready.1 hj
      have hnot : ∀ e ∈ oj.after, Region.binds md e = true → e.on ≠ i := fun e he hb heq => by
        have h1 := hall e he hb
        rw [heq, getD_both hun] at h1
        cases h1
      have h2 := qOp_put hoj (hfree j oj hoj hji hjun hnot) (fun cs b => hsel i oi cs b hi) (fun cs b => hsel j oj cs b hoj) hy h1
      have hfree' : ∀ k ok, ops[k]? = some ok → k ≠ i → (listed.setIfInBounds j true).getD k true = false →
          (∀ e ∈ ok.after, Region.binds md e = true → e.on ≠ i) → oi.apart ops ok = true := fun k ok hk hki hun hno => by
        refine hfree k ok hk hki ?_ hno
        by_cases hjk : j = k
        · subst hjk; exact hjun
        · rw [getD_set_ne true hjk] at hun; exact hun
      refine qOp_mono (fun a' h3 => ih (listed.setIfInBounds j true) a' (inv.set hj hjn) hfree' (ready_mono hr (Ne.symm hji)) h3.1 ?_) h2
      rw [Array.setIfInBounds_comm _ _ hji]
      exact h3.2

theorem wpAnyT_lex {n g : Nat} {Lq : Act → Prop} (hsel : Region.noSelect ops = true) (hs : Region.sinkB md ops n = true) (hc : Region.chainB md ops n = true) (hn : n < ops.size) :
    ∀ (l : List Oper) (k : Nat) (listed : Array Bool) (a : Act), (∀ j, j < l.length → l[j]? = ops[k + j]?) → k + l.length = n → HeadInv md ops n listed →
    Region.lexHead md ops g l.length k listed = true → wpQuiet P ops C Lq l a →
    wpAnyT P md ops C n (fun listed' a' => Region.seqB md ops g n listed' = true ∧ Lq a') l.length listed a
  | [], k, listed, a, _, hk, _, hB, h => by
    have : k = n := by simpa using hk
    subst this
    exact ⟨by simpa [Region.lexHead] using hB, h⟩
  | o :: l, k, listed, a, hl, hk, inv, hB, h => by
    have h0 : ops[k]? = some o := by simpa using (hl 0 (by simp)).symm
    simp only [List.length_cons, Region.lexHead, Bool.and_eq_true] at hB
    obtain ⟨⟨hr, hf⟩, hB'⟩ := hB
    have hkn : k < n := by simp only [List.length_cons] at hk; omega
    have hr' : k ∈ Region.ready md ops listed := by simpa using hr
    have hst : qOp P ops C k (wpQuiet P ops C Lq l) a := by unfold qOp; simp only [h0]; exact h
    obtain ⟨v, hy, hK⟩ := yieldsIn_of_qOp h0 hst
    exact wpAnyT_first h0 (Region.noSelect_spec hsel) hs hc hn hkn (fun listed' a' hL => seqB_ready hL.1) l.length listed a inv (Region.free_spec h0 hf) hr' hy
      (wpAnyT_lex hsel hs hc hn l (k + 1) _ _ (fun j hj => by have := hl (j + 1) (by simp; omega); simpa [Nat.add_assoc, Nat.add_comm 1 j] using this) (by simp only [List.length_cons] at hk; omega) (inv.set hr' hkn) hB' hK)

/-- READS AND QUIET CALLS, THEN A TAIL. -/
theorem wp_qtail {id : Nat} {Q : Exit → Act → World → Prop} {a : Act} {w : World} {l : List Oper} (n : Nat) (hm : P.follows .mixedOrders = true) (hB : Region.lexTailB .any l.toArray n = true)
    (h : wpQuiet P l.toArray (fun w' => ∃ k, w' = w.drewN k) (fun a' => ∀ k, wpList P l.toArray Q (l.drop n) a' (w.drewN k)) (l.take n) a) : (Code.region id l.toArray true).wp P Q a w := by
  simp only [Region.lexTailB, Bool.and_eq_true, decide_eq_true_eq] at hB
  obtain ⟨⟨⟨⟨hsel, hn⟩, hs⟩, hc⟩, hlex⟩ := hB
  have hn' : n < l.length := by simpa using hn
  have htl : (l.take n).length = n := by simp; omega
  have hdl : (l.drop n).length = l.toArray.size - n := by simp
  have inv0 : HeadInv .any l.toArray n (Array.replicate l.toArray.size false) :=
    ⟨by simp, fun j oj _ hl => (by rw [getD_replicate_false] at hl; cases hl), fun t _ ht => getD_in (by simpa using ht) (getD_replicate_false _ _)⟩
  have H := wpAnyT_lex (md := .any) (g := l.toArray.size - n) hsel hs hc hn (l.take n) 0 _ a (fun j hj => by
    have hj' : j < n := by rw [htl] at hj; exact hj
    simp [hj']) (by simpa using htl) inv0 (by rw [htl]; exact hlex) h
  refine wp_region_any hm ?_
  have := wpAny_of_headT (Q' := Q) (g := l.toArray.size - n) (fun listed a' w' hw' hL => by
    obtain ⟨k, rfl⟩ := hw'
    have := wpAny_of_seq (md := .any) (Q' := Q) (l.drop n) n listed a' (w.drewN k) (fun j => by simp [List.getElem?_drop]) (by rw [hdl]; exact hL.1) (hL.2 k)
    rwa [hdl] at this) _ _ _ { w with drawn := w.drawn + 1 } ⟨1, rfl⟩ H
  rw [htl, show n + (l.toArray.size - n) = l.toArray.size by omega] at this
  exact this
end
end Go.Proofs.YtemppijblfflgaaGreatDoor.Ev
namespace Go.Proofs.YtemppijblfflgaaGreatDoor.Ev
open Go Go.RowKit

/-- The two errors of a run, as package-level variables below block B. -/
structure ErrC (B : Nat) (ea : Nat → Addr) (w : World) : Prop where
  full : w.cell? ⟨4, 0, none⟩ = some (errV ea 11)
  emp : w.cell? ⟨5, 0, none⟩ = some (errV ea 12)
  lf : 4 < B
  le : 5 < B

theorem ErrC.kept {B : Nat} {ea : Nat → Addr} {w w' : World} (h : ErrC B ea w) {S : Nat → Prop} (hk : Kept S w w') (hS : ∀ b, S b → B ≤ b) : ErrC B ea w' :=
  ⟨(hk.cell (p := ⟨4, 0, none⟩) (fun hs => by have := hS _ hs; have := h.lf; simp at *; omega)).trans h.full, (hk.cell (p := ⟨5, 0, none⟩) (fun hs => by have := hS _ hs; have := h.le; simp at *; omega)).trans h.emp, h.lf, h.le⟩

/-- What a step that changes something comes to. -/
def OutDo (B : Nat) (ea : Nat → Addr) (w : World) (x : RV) (p : Policy) (key : Int) (v : VS) (res : Except Nat AR) (e : Ending) (w' : World) : Prop :=
  Kept (fun b => B ≤ b) w w' ∧ match res with
    | .error k => e = .returned (errV ea k)
    | .ok r' => e = .returned .nilIface ∧ ∃ SA' u, RunR B w' { x with vou := u } SA' p key r'.A { v with r := ⟨⟨v.r.s.q, r'.vars⟩, r'.out⟩ }

section
variable {B : Nat} {ea : Nat → Addr} {w : World} {x : RV} {SA : Nat → Prop} {p : Policy} {key : Int} {A : Arena} {v : VS}

/-- An arena of a run, with what may turn. -/
theorem RunR.arena (h : RunR B w x SA p key A v) : ∃ vl vf vq bm, ARep (fun b => SA b ∨ w.heap.size ≤ b) w x.ga A vl vf vq bm := by
  obtain ⟨vl, vf, vq, bm, ha⟩ := h.ar
  exact ⟨vl, vf, vq, bm, ha.mono (fun b hb => .inl hb)⟩
theorem RunR.up (w : World) (SA : Nat → Prop) : Up (fun b => SA b ∨ w.heap.size ≤ b) w := fun _ hb => .inr hb

theorem RunR.keptB (h : RunR B w x SA p key A v) {w' : World} (hk : Kept (fun b => SA b ∨ w.heap.size ≤ b) w w') : Kept (fun b => B ≤ b) w w' :=
  hk.mono (fun b hb => hb.elim (fun e => (h.sa b e).1) (fun e => Nat.le_trans h.base e))

set_option maxRecDepth 100000 in
set_option maxHeartbeats 1000000 in
theorem last_cool (h : RunR B w x SA p key A v) (hp : PolW p) (ok : A.Ok) (q kt : Int) :
    Calls Tryz.prog 106 #[.pointer (some ⟨x.gr, 0, none⟩), .agg #[.int .u8 8, .int .i64 q, .int .i64 0], .int .u64 kt] w (OutDo B ea w x p key v (alast p kt (.cool q) ⟨A, v.r.s.vars, v.r.gone⟩)) := by
  have ha := h.grown ((Kept.refl _ w).alloc (Nat.le_refl _) (.cells #[.int .u8 8, .int .i64 q, .int .i64 0] 147)) h.base
  obtain ⟨vl, vf, vq, bm, har⟩ := ha.arena
  have hfq := hp.freq
  have ht := tune_any har ok kt (-1) p.freq (by omega) (by omega)
  have c0 := h.row.cell 0
  have c1 := h.row.cell 1
  have s0 := h.srow.cell 0
  have g0 := h.ro.prog.cell 0
  have p1 := h.ro.pol.cell 1
  have r1 := h.row.lt
  have r2 := h.srow.lt
  have r3 := h.ro.prog.lt
  have r4 := h.ro.pol.lt
  have q1 : ¬ x.gr = w.heap.size := by omega
  have q2 : ¬ x.gs = w.heap.size := by omega
  have q3 : ¬ x.gg = w.heap.size := by omega
  have q4 : ¬ x.gp = w.heap.size := by omega
  have HA := Lib.hid ha
  have HT := Lib.hid ht
  have HB := Lib.hid h.base
  clear h ha har ht ok hp hfq
  simp at c0 c1 s0 g0 p1
  go_enter Tryz.func106, Tryz.ntmps106
  go_wp2_with fail
  refine HT.out.mono ?_
  rintro e w' ⟨rfl, hk, vl', har'⟩
  have hr := HA.out.setArena hk ⟨vl', vf, vq, bm, har'⟩
  have HR := Lib.hid hr
  have HK := Lib.hid hk
  clear hk har' hr
  go_wp2
  go_ret
  exact ⟨((Kept.refl _ w).alloc HB.out _).trans (HA.out.keptB HK.out), rfl, _, x.vou, HR.out⟩

theorem infoU64_ : (Tryz.prog.info? 27).map (fun i => (i.zero, i.size, i.bytes)) = some (some (.int .u64 0), 1, 8) := by kernel_rfl

/-- What an append to what was evicted asks. -/
structure AppOk (B : Nat) (w : World) (x : RV) (SA : Nat → Prop) (p : Policy) (key : Int) (A : Arena) (v : VS) (n : Int) : Prop where
  run : RunR B (w.alloc (.cells #[.int .u64 n] 27)) x SA p key A v
  base : B ≤ (w.alloc (.cells #[.int .u64 n] 27)).heap.size
  cells : ∀ j u, [Value.int .u64 n][j]? = some u → (w.alloc (.cells #[.int .u64 n] 27)).cell? ((⟨w.heap.size, 0, none⟩ : Addr).add j) = some u
  one : ∀ u ∈ [Value.int .u64 n], u.oneCell' = true
  gr : ¬ (x.vou.ownBlock = some x.gr ∨ (w.alloc (.cells #[.int .u64 n] 27)).heap.size ≤ x.gr)
  gs : ¬ (x.vou.ownBlock = some x.gs ∨ (w.alloc (.cells #[.int .u64 n] 27)).heap.size ≤ x.gs)
  gg : ¬ (x.vou.ownBlock = some x.gg ∨ (w.alloc (.cells #[.int .u64 n] 27)).heap.size ≤ x.gg)
  gp : ¬ (x.vou.ownBlock = some x.gp ∨ (w.alloc (.cells #[.int .u64 n] 27)).heap.size ≤ x.gp)
  old : w.heap.size + 1 = (w.alloc (.cells #[.int .u64 n] 27)).heap.size

theorem RunR.appOk (h : RunR B w x SA p key A v) (n : Int) : AppOk B w x SA p key A v n := by
  have r1 := h.row.lt
  have r2 := h.srow.lt
  have r3 := h.ro.prog.lt
  have r4 := h.ro.pol.lt
  refine ⟨h.grown ((Kept.refl _ w).alloc (Nat.le_refl _) _) h.base, Nat.le_trans h.base (by simp), cells_new w [.int .u64 n] 27, by intro u hu; simp at hu; subst hu; rfl, ?_, ?_, ?_, ?_, by simp⟩
  · rintro (h0 | h0)
    · exact h.out.ne_row h.row (by decide) h0
    · simp at h0; omega
  · rintro (h0 | h0)
    · exact h.out.ne_row h.srow (by decide) h0
    · simp at h0; omega
  · rintro (h0 | h0)
    · exact h.out.ne_row h.ro.prog (by decide) h0
    · simp at h0; omega
  · rintro (h0 | h0)
    · exact h.out.ne_row h.ro.pol (by decide) h0
    · simp at h0; omega

/-- Behind the append: the run. -/
theorem AppOk.done {n : Int} (h : AppOk B w x SA p key A v n) {w2 : World} {g2 cap2 : Nat}
    (hs : Sl (fun b => B ≤ b) w2 27 1 (.slice (some ⟨g2, 0, none⟩) (v.r.gone.length + 1) cap2) (v.r.gone.length + 1) (v.r.gone.map encU ++ [.int .u64 n]))
    (hk : Kept (fun b => x.vou.ownBlock = some b ∨ (w.alloc (.cells #[.int .u64 n] 27)).heap.size ≤ b) (w.alloc (.cells #[.int .u64 n] 27)) w2)
    (hl : x.vou.ownBlock = some g2 ∨ g2 = (w.alloc (.cells #[.int .u64 n] 27)).heap.size) (hB : B ≤ w.heap.size) :
    Kept (fun b => B ≤ b) w (w2.setCell ⟨x.gr, 6, none⟩ (.slice (some ⟨g2, 0, none⟩) (v.r.gone.length + 1) cap2)) ∧
    RunR B (w2.setCell ⟨x.gr, 6, none⟩ (.slice (some ⟨g2, 0, none⟩) (v.r.gone.length + 1) cap2)) { x with vou := .slice (some ⟨g2, 0, none⟩) (v.r.gone.length + 1) cap2 } SA p key A { v with r := { v.r with gone := v.r.gone ++ [n] } } := by
  have hst := h.run.setOut (l := v.r.gone ++ [n]) hk (fun b hb => hb) (by simpa [encU] using hs) (fun b hb => by
    injection hb with hb
    simp only at hb
    subst hb
    exact hl.imp id (fun e => by rw [e]; exact Nat.le_refl _))
  have e : (v.r.gone ++ [n]).length = v.r.gone.length + 1 := by simp
  refine ⟨?_, hst⟩
  exact (((Kept.refl _ w).alloc hB _).trans (hk.mono (fun b hb => hb.elim (fun e => h.run.out.2 b e) (fun e => Nat.le_trans h.base e)))).setCell (p := ⟨x.gr, 6, none⟩) h.run.gr0 _

set_option maxRecDepth 100000 in
set_option maxHeartbeats 2000000 in
theorem last_evict (h : RunR B w x SA p key A v) (hp : p.decls.length ≤ 8) (hg : v.r.gone.length < goneMax) {q kt : Int} (hq : Ix p.decls.length q) (hm : MoveOk p A kt) :
    Calls Tryz.prog 106 #[.pointer (some ⟨x.gr, 0, none⟩), .agg #[.int .u8 2, .int .i64 q, .int .i64 0], .int .u64 kt] w (OutDo B ea w x p key v (alast p kt (.evict q) ⟨A, v.r.s.vars, v.r.gone⟩)) := by
  have ha := h.grown ((Kept.refl _ w).alloc (Nat.le_refl _) (.cells #[.int .u8 2, .int .i64 q, .int .i64 0] 147)) h.base
  obtain ⟨vl, vf, vq, bm, har⟩ := ha.arena
  have ho := out_any har (RunR.up _ SA) hm.ok (by have := hm.q8; omega) kt hm.un
  have c1 := h.row.cell 1
  have s0 := h.srow.cell 0
  have r1 := h.row.lt
  have r2 := h.srow.lt
  have q1 : ¬ x.gr = w.heap.size := by omega
  have q2 : ¬ x.gs = w.heap.size := by omega
  have hR : Row (w.alloc (.cells #[.int .u8 2, .int .i64 q, .int .i64 0] 147)) w.heap.size 147 [.int .u8 2, .int .i64 q, .int .i64 0] := Row.new w _ _
  have hRS : ¬ (SA w.heap.size ∨ (w.alloc (.cells #[.int .u8 2, .int .i64 q, .int .i64 0] 147)).heap.size ≤ w.heap.size) := by
    rintro (h0 | h0)
    · have := (h.sa _ h0).2; omega
    · simp at h0; omega
  obtain ⟨i0, hi0, hz0, hz1, hz2⟩ := info_parts infoU64_
  have HA := Lib.hid ha
  have HO := Lib.hid ho
  have HB := Lib.hid h.base
  have HM := Lib.hid hm
  have HR := Lib.hid hR
  have HRS := Lib.hid hRS
  have HQ := Lib.hid hq
  have q4 : v.r.gone.length + 1 ≤ maxLen := by unfold goneMax at hg; unfold maxLen; omega
  have q5 : (v.r.gone.length + 1) * 8 ≤ 140737488355328 := by unfold goneMax at hg; omega
  clear h ha har ho hm hR hRS hq hg
  simp at c1 s0
  go_enter Tryz.func106, Tryz.ntmps106
  go_wp2_with fail
  refine HO.out.mono ?_
  rintro e w1 ⟨rfl, hk, vl', vf', vq', har'⟩
  have hr := HA.out.setArena hk ⟨vl', vf', vq', bm, har'⟩
  have hR1 := HR.out.kept hk HRS.out
  have b0 := hR1.cell 0
  have b1 := hR1.cell 1
  have hres := resident_any hr hp (.inr HQ.out)
  have hk1 := ((Kept.refl (fun b => B ≤ b) w).alloc HB.out (.cells #[.int .u8 2, .int .i64 q, .int .i64 0] 147)).trans (HA.out.keptB hk)
  have HR1 := Lib.hid hr
  have HK1 := Lib.hid hk1
  have HRES := Lib.hid hres
  clear hk har' hr hR1 hres hk1
  simp at b0 b1
  cases hd : resident p.decls q with
  | false =>
    have hres2 := HRES.out
    rw [hd] at hres2
    have HRES2 := Lib.hid hres2
    have HD := Lib.hid hd
    clear hres2 hd
    go_wp2_with (go_at_call 104; refine HRES2.out.mono ?_; rintro e w' ⟨rfl, rfl⟩)
    go_ret
    have e : alast p kt (.evict q) ⟨A, v.r.s.vars, v.r.gone⟩ = .ok ⟨A.out kt, v.r.s.vars, v.r.gone⟩ := by simp [alast, HD.out]
    rw [e]
    exact ⟨HK1.out, rfl, _, x.vou, HR1.out⟩
  | true =>
    have hres2 := HRES.out
    rw [hd] at hres2
    have HRES2 := Lib.hid hres2
    have HD := Lib.hid hd
    have hap := HR1.out.appOk kt
    have c6 := HR1.out.row.cell 6
    have f : ∀ j, w1.frozen? ⟨x.gr, j, none⟩ = false := fun j => HR1.out.row.frozen j
    have r1' := HR1.out.row.lt
    have q1' : ¬ x.gr = w1.heap.size := by omega
    obtain ⟨gr, gg, gp, gs, ga, vd, bmv, bcv, lp, vst, vlo, vou, vva⟩ := x
    obtain ⟨av, cv, rfl⟩ : ∃ a c, vou = .slice a v.r.gone.length c := hap.run.out.shape
    have HAP := Lib.hid hap
    have HB1 := Lib.hid HR1.out.base
    clear hres2 hd hap
    simp at c6
    simp only at *
    go_wp2_with (first | (go_at_call 104; refine HRES2.out.mono ?_; rintro e w' ⟨rfl, rfl⟩) | (at_builtin; go_must (refine wp_append1 Tryz.underlying22 hi0 hz0 hz1 hz2 rfl (by decide) HAP.out.run.out HAP.out.base rfl _ _ rfl rfl ⟨w'.heap.size, 0, none⟩ 1 1 [.int .u64 kt] rfl rfl HAP.out.cells HAP.out.one q4 q5 (Nat.succ_pos _) ?_; intro g2 cap2 w2 hs2 hk2 hloc; have e1 := (HAP.out.run.row.kept hk2 HAP.out.gr).cell 6; have e5 : ∀ j, w2.frozen? ⟨gr, j, none⟩ = false := fun j => (HAP.out.run.row.kept hk2 HAP.out.gr).frozen j; have Hs2 := Lib.hid hs2; have Hk2 := Lib.hid hk2; have HL := Lib.hid hloc; clear hs2 hk2 hloc; simp at e1)))
    go_ret
    have hfin := HAP.out.done Hs2.out Hk2.out HL.out HB1.out
    have e : alast p kt (.evict q) ⟨A, v.r.s.vars, v.r.gone⟩ = .ok ⟨A.out kt, v.r.s.vars, v.r.gone ++ [kt]⟩ := by simp [alast, HD.out]
    rw [e]
    exact ⟨HK1.out.trans hfin.1, rfl, _, _, hfin.2⟩
end
end Go.Proofs.YtemppijblfflgaaGreatDoor.Ev
namespace Go.Proofs.YtemppijblfflgaaGreatDoor.Ev
open Go Go.RowKit

section
variable {B : Nat} {ea : Nat → Addr} {w : World} {x : RV} {SA : Nat → Prop} {p : Policy} {key : Int} {A : Arena} {v : VS}

def shiftOp (tl : Bool) : Int := if tl then 4 else 3

set_option maxRecDepth 100000 in
set_option maxHeartbeats 4000000 in
theorem last_shift (h : RunR B w x SA p key A v) (he : ErrC B ea w) (hp : p.decls.length ≤ 8) (hg : v.r.gone.length < goneMax) {q t kt : Int} (tl : Bool) (hq : Ix p.decls.length q) (ht : Ix p.decls.length t) (htk : (declAt p.decls t).kind ≠ 2) (hm : MoveOk p A kt) :
    Calls Tryz.prog 106 #[.pointer (some ⟨x.gr, 0, none⟩), .agg #[.int .u8 (shiftOp tl), .int .i64 q, .int .i64 t], .int .u64 kt] w (OutDo B ea w x p key v (alast p kt (.shift q t tl) ⟨A, v.r.s.vars, v.r.gone⟩)) := by
  obtain ⟨so, hso⟩ : ∃ so, so = shiftOp tl := ⟨_, rfl⟩
  rw [← hso]
  have ha := h.grown ((Kept.refl _ w).alloc (Nat.le_refl _) (.cells #[.int .u8 so, .int .i64 q, .int .i64 t] 147)) h.base
  have he1 := he.kept ((Kept.refl (fun b => B ≤ b) w).alloc h.base (.cells #[.int .u8 so, .int .i64 q, .int .i64 t] 147)) (fun b hb => hb)
  obtain ⟨vl, vf, vq, bm, har⟩ := ha.arena
  have ho := out_any har (RunR.up _ SA) hm.ok (by have := hm.q8; omega) kt hm.un
  have c1 := h.row.cell 1
  have s0 := h.srow.cell 0
  have r1 := h.row.lt
  have r2 := h.srow.lt
  have q1 : ¬ x.gr = w.heap.size := by omega
  have q2 : ¬ x.gs = w.heap.size := by omega
  have hR : Row (w.alloc (.cells #[.int .u8 so, .int .i64 q, .int .i64 t] 147)) w.heap.size 147 [.int .u8 so, .int .i64 q, .int .i64 t] := Row.new w _ _
  have hRS : ¬ (SA w.heap.size ∨ (w.alloc (.cells #[.int .u8 so, .int .i64 q, .int .i64 t] 147)).heap.size ≤ w.heap.size) := by
    rintro (h0 | h0)
    · have := (h.sa _ h0).2; omega
    · simp at h0; omega
  obtain ⟨i0, hi0, hz0, hz1, hz2⟩ := info_parts infoU64_
  have HA := Lib.hid ha
  have HE := Lib.hid he1
  have HO := Lib.hid ho
  have HB := Lib.hid h.base
  have HM := Lib.hid hm
  have HR := Lib.hid hR
  have HRS := Lib.hid hRS
  have HQ := Lib.hid hq
  have HT := Lib.hid ht
  have HTK := Lib.hid htk
  have q4 : v.r.gone.length + 1 ≤ maxLen := by unfold goneMax at hg; unfold maxLen; omega
  have q5 : (v.r.gone.length + 1) * 8 ≤ 140737488355328 := by unfold goneMax at hg; omega
  have hso8 : decide (so = 8) = false ∧ decide (so = 2) = false ∧ decide (so = 4) = tl := by subst hso; cases tl <;> exact ⟨rfl, rfl, rfl⟩
  obtain ⟨hso8, hso2, hso4⟩ := hso8
  have hsb8 : (so == 8) = false := by simpa using hso8
  have hsb2 : (so == 2) = false := by simpa using hso2
  have hsb4 : (so == 4) = tl := by rw [← hso4]; rfl
  clear h he he1 ha har ho hm hR hRS hq ht htk hg hso
  simp at c1 s0
  go_enter Tryz.func106, Tryz.ntmps106
  go_wp2_with fail
  refine HO.out.mono ?_
  rintro e w1 ⟨rfl, hk, vl', vf', vq', har'⟩
  have hr := HA.out.setArena hk ⟨vl', vf', vq', bm, har'⟩
  have hR1 := HR.out.kept hk HRS.out
  have he2 := HE.out.kept (HA.out.keptB hk) (fun b hb => hb)
  have b0 := hR1.cell 0
  have b1 := hR1.cell 1
  have b2 := hR1.cell 2
  have hk1 := ((Kept.refl (fun b => B ≤ b) w).alloc HB.out (.cells #[.int .u8 so, .int .i64 q, .int .i64 t] 147)).trans (HA.out.keptB hk)
  have hrl := hR1.lt
  have hns : ¬ ((SA w.heap.size ∨ (w.alloc (.cells #[.int .u8 so, .int .i64 q, .int .i64 t] 147)).heap.size ≤ w.heap.size) ∧ w.heap.size < w1.heap.size) := fun h => HRS.out h.1
  generalize hsa : (fun b => (SA b ∨ (w.alloc (.cells #[.int .u8 so, .int .i64 q, .int .i64 t] 147)).heap.size ≤ b) ∧ b < w1.heap.size) = SA1 at hr
  have hns1 : ¬ SA1 w.heap.size := by rw [← hsa]; exact hns
  have hfull := full_any hr HM.out.ok' hp (HM.out.len.trans HM.out.ql) HT.out
  have HFULL := Lib.hid hfull
  have HR1 := Lib.hid hr
  have HK1 := Lib.hid hk1
  have HRR := Lib.hid hR1
  have HE2 := Lib.hid he2
  have HNS := Lib.hid hns1
  clear hk har' hr hR1 hk1 hns hns1 hsa hfull he2
  simp at b0 b1 b2
  go_wp2_with fail
  refine HFULL.out.mono ?_
  rintro e w2 ⟨rfl, nf, rfl⟩
  cases hfl : afull p.decls (A.out kt) t with
  | true =>
    have HFL := Lib.hid hfl
    have ef := HE2.out.full
    clear hfl
    go_wp2
    go_ret
    have e : alast p kt (.shift q t tl) ⟨A, v.r.s.vars, v.r.gone⟩ = .error eFull := by simp [alast, HFL.out]
    rw [e]
    exact ⟨HK1.out.drewN _, rfl⟩
  | false =>
    have HFL := Lib.hid hfl
    clear hfl
    have hr2 := HR1.out.grown (w' := w1.drewN nf) ((Kept.refl _ _).drewN _) HR1.out.base
    have hresq := resident_any hr2 hp (.inr HQ.out)
    have hrest := resident_any hr2 hp (.inr HT.out)
    have hcin := HM.out.cin t HT.out HTK.out HFL.out
    have HCIN := Lib.hid hcin
    have htn : ((t.toNat : Nat) : Int) = t := by have := HT.out.1; omega
    have HRESQ := Lib.hid hresq
    have HREST := Lib.hid hrest
    have HR2 := Lib.hid hr2
    clear hresq hrest hr2 hcin
    cases hdq : resident p.decls q with
    | false =>
      have h1 := HRESQ.out
      rw [hdq] at h1
      have H1 := Lib.hid h1
      have HD := Lib.hid hdq
      obtain ⟨vl3, vf3, vq3, bm3, har3⟩ := HR2.out.arena
      have hin := in_any har3 (RunR.up _ SA1) HM.out.ok' (by have := HM.out.q8; rw [HM.out.len]; omega) kt (A.outFreq kt) t.toNat tl HCIN.out
      rw [htn] at hin
      have HIN := Lib.hid hin
      clear h1 hdq har3 hin
      go_wp2_with (first | (go_at_call 104; refine H1.out.mono ?_; rintro e w' ⟨rfl, rfl⟩) | (go_at_call 105; refine HIN.out.mono ?_; rintro e w' ⟨rfl, hk4, vl4, vf4, vq4, har4⟩; have hr4 := HR2.out.setArena hk4 ⟨vl4, vf4, vq4, bm3, har4⟩; have HR4 := Lib.hid hr4; have HK4 := Lib.hid (HR2.out.keptB hk4); clear hk4 har4 hr4))
      go_ret
      have e : alast p kt (.shift q t tl) ⟨A, v.r.s.vars, v.r.gone⟩ = .ok ⟨(A.out kt).in_ kt (A.outFreq kt) t.toNat tl, v.r.s.vars, v.r.gone⟩ := by simp [alast, HFL.out, HD.out]
      rw [e]
      exact ⟨(HK1.out.drewN _).trans HK4.out, rfl, _, x.vou, HR4.out⟩
    | true =>
      have h1 := HRESQ.out
      rw [hdq] at h1
      have H1 := Lib.hid h1
      have HD := Lib.hid hdq
      clear h1 hdq
      cases hdt : resident p.decls t with
      | true =>
        have h2 := HREST.out
        rw [hdt] at h2
        have H2 := Lib.hid h2
        have HDT := Lib.hid hdt
        obtain ⟨vl3, vf3, vq3, bm3, har3⟩ := HR2.out.arena
        have hin := in_any har3 (RunR.up _ SA1) HM.out.ok' (by have := HM.out.q8; rw [HM.out.len]; omega) kt (A.outFreq kt) t.toNat tl HCIN.out
        rw [htn] at hin
        have HIN := Lib.hid hin
        clear h2 hdt har3 hin
        have tok1 : True := trivial
        go_wp2_with (first | (go_at_call 104; have _t := tok1; refine H1.out.mono ?_; rintro e w' ⟨rfl, rfl⟩; clear tok1 _t) | (go_at_call 104; refine H2.out.mono ?_; rintro e w' ⟨rfl, rfl⟩) | (go_at_call 105; refine HIN.out.mono ?_; rintro e w' ⟨rfl, hk4, vl4, vf4, vq4, har4⟩; have hr4 := HR2.out.setArena hk4 ⟨vl4, vf4, vq4, bm3, har4⟩; have HR4 := Lib.hid hr4; have HK4 := Lib.hid (HR2.out.keptB hk4); clear hk4 har4 hr4))
        go_ret
        have e : alast p kt (.shift q t tl) ⟨A, v.r.s.vars, v.r.gone⟩ = .ok ⟨(A.out kt).in_ kt (A.outFreq kt) t.toNat tl, v.r.s.vars, v.r.gone⟩ := by simp [alast, HFL.out, HD.out, HDT.out]
        rw [e]
        exact ⟨(HK1.out.drewN _).trans HK4.out, rfl, _, x.vou, HR4.out⟩
      | false =>
        have h2 := HREST.out
        rw [hdt] at h2
        have H2 := Lib.hid h2
        have HDT := Lib.hid hdt
        have hap := HR2.out.appOk kt
        have c6 := HR2.out.row.cell 6
        have f : ∀ j, (w1.drewN nf).frozen? ⟨x.gr, j, none⟩ = false := fun j => HR2.out.row.frozen j
        have r1' : x.gr < w1.heap.size := HR2.out.row.lt
        have q1' : ¬ x.gr = w1.heap.size := by omega
        have hBo := HRR.out.drewN nf |>.alloc (.cells #[.int .u64 kt] 27)
        have hBn : ¬ (x.vou.ownBlock = some w.heap.size ∨ ((w1.drewN nf).alloc (.cells #[.int .u64 kt] 27)).heap.size ≤ w.heap.size) := by
          rintro (h0 | h0)
          · exact hap.run.out.ne_row hBo (by decide) h0
          · simp at h0; omega
        obtain ⟨gr, gg, gp, gs, ga, vd, bmv, bcv, lp, vst, vlo, vou, vva⟩ := x
        obtain ⟨av, cv, rfl⟩ : ∃ a c, vou = .slice a v.r.gone.length c := hap.run.out.shape
        have HAP := Lib.hid hap
        have HBO := Lib.hid hBo
        have HBN := Lib.hid hBn
        have HB1 := Lib.hid HR2.out.base
        clear h2 hdt hap hBo hBn
        simp at c6
        simp only at *
        have tok1 : True := trivial
        go_wp2_with (first | (go_at_call 104; have _t := tok1; refine H1.out.mono ?_; rintro e w' ⟨rfl, rfl⟩; clear tok1 _t) | (go_at_call 104; refine H2.out.mono ?_; rintro e w' ⟨rfl, rfl⟩) | (at_builtin; go_must (refine wp_append1 Tryz.underlying22 hi0 hz0 hz1 hz2 rfl (by decide) HAP.out.run.out HAP.out.base rfl _ _ rfl rfl ⟨(w1.drewN nf).heap.size, 0, none⟩ 1 1 [.int .u64 kt] rfl rfl HAP.out.cells HAP.out.one q4 q5 (Nat.succ_pos _) ?_; intro g2 cap2 w2 hs2 hk2 hloc; have e1 := (HAP.out.run.row.kept hk2 HAP.out.gr).cell 6; have e5 : ∀ j, w2.frozen? ⟨gr, j, none⟩ = false := fun j => (HAP.out.run.row.kept hk2 HAP.out.gr).frozen j; have e6 := (HBO.out.kept hk2 HBN.out).cell 0; have e7 := (HBO.out.kept hk2 HBN.out).cell 2; have e8 : ¬ w.heap.size = gr := (HBO.out.kept hk2 HBN.out).ne_ (HAP.out.run.row.kept hk2 HAP.out.gr) (by decide); have Hs2 := Lib.hid hs2; have Hk2 := Lib.hid hk2; have HL := Lib.hid hloc; clear hs2 hk2 hloc; simp at e1 e6 e7)))
        have hfin := HAP.out.done Hs2.out Hk2.out HL.out HB1.out
        obtain ⟨vl3, vf3, vq3, bm3, har3⟩ := hfin.2.arena
        have hin := in_any har3 (RunR.up _ SA1) HM.out.ok' (by have := HM.out.q8; rw [HM.out.len]; omega) kt (A.outFreq kt) t.toNat tl HCIN.out
        rw [htn] at hin
        have HIN := Lib.hid hin
        have HFIN := Lib.hid hfin
        clear har3 hin hfin
        go_wp2_with (go_at_call 105; refine HIN.out.mono ?_; rintro e w' ⟨rfl, hk4, vl4, vf4, vq4, har4⟩; have hr4 := HFIN.out.2.setArena hk4 ⟨vl4, vf4, vq4, bm3, har4⟩; have HR4 := Lib.hid hr4; have HK4 := Lib.hid (HFIN.out.2.keptB hk4); clear hk4 har4 hr4)
        go_ret
        have e : alast p kt (.shift q t tl) ⟨A, v.r.s.vars, v.r.gone⟩ = .ok ⟨(A.out kt).in_ kt (A.outFreq kt) t.toNat tl, v.r.s.vars, v.r.gone ++ [kt]⟩ := by simp [alast, HFL.out, HD.out, HDT.out]
        rw [e]
        exact ⟨((HK1.out.drewN _).trans HFIN.out.1).trans HK4.out, rfl, _, _, HR4.out⟩
end
end Go.Proofs.YtemppijblfflgaaGreatDoor.Ev
namespace Go.Proofs.YtemppijblfflgaaGreatDoor.Ev
open Go Go.RowKit

section
variable {B : Nat} {ea : Nat → Addr} {w : World} {x : RV} {SA : Nat → Prop} {p : Policy} {key : Int} {A : Arena} {v : VS}

def lastOp : Prim → Int
  | .evict _ => 2
  | .shift _ _ tl => shiftOp tl
  | _ => 8
def lastA : Prim → Int
  | .evict q => q
  | .shift q _ _ => q
  | .cool q => q
  | _ => 0
def lastB : Prim → Int
  | .shift _ t _ => t
  | _ => 0
/-- The steps on the last of a queue. -/
def isLast : Prim → Bool
  | .evict _ => true
  | .shift _ _ _ => true
  | .cool _ => true
  | _ => false

/-- 'last', whole. -/
theorem last_any (h : RunR B w x SA p key A v) (he : ErrC B ea w) (hp : PolW p) (hg : v.r.gone.length < goneMax) {y : Prim} (hy : PrimOk p.decls y) (hl : isLast y = true) {kt : Int} (hm : MoveOk p A kt) :
    Calls Tryz.prog 106 #[.pointer (some ⟨x.gr, 0, none⟩), .agg #[.int .u8 (lastOp y), .int .i64 (lastA y), .int .i64 (lastB y)], .int .u64 kt] w (OutDo B ea w x p key v (alast p kt y ⟨A, v.r.s.vars, v.r.gone⟩)) := by
  cases y with
  | evict q => exact last_evict h hp.decls.len hg hy hm
  | cool q => exact last_cool h hp hm.ok q kt
  | shift q t tl => exact last_shift h he hp.decls.len hg tl hy.1 hy.2.1 hy.2.2 hm
  | _ => cases hl

set_option maxRecDepth 100000 in
set_option maxHeartbeats 4000000 in
theorem do_last (h : RunR B w x SA p key A v) (he : ErrC B ea w) (hp : PolW p) (hg : v.r.gone.length < goneMax) {y : Prim} (hy : PrimOk p.decls y) (hl : isLast y = true) (hq : Ix p.decls.length (lastA y))
    (ok : A.Ok) (hql : A.qs.length = p.decls.length) (hm : 0 < alen A (lastA y) → MoveOk p A (A.tail (lastA y).toNat)) :
    Calls Tryz.prog 60 #[.pointer (some ⟨x.gr, 0, none⟩), .agg #[.int .u8 (lastOp y), .int .i64 (lastA y), .int .i64 (lastB y)]] w
      (OutDo B ea w x p key v (if alen A (lastA y) = 0 then .error eEmpty else alast p (A.tail (lastA y).toNat) y ⟨A, v.r.s.vars, v.r.gone⟩)) := by
  have ha := h.grown ((Kept.refl _ w).alloc (Nat.le_refl _) (.cells #[.int .u8 (lastOp y), .int .i64 (lastA y), .int .i64 (lastB y)] 147)) h.base
  have he1 := he.kept ((Kept.refl (fun b => B ≤ b) w).alloc h.base (.cells #[.int .u8 (lastOp y), .int .i64 (lastA y), .int .i64 (lastB y)] 147)) (fun b hb => hb)
  have h8 := hp.decls.len
  obtain ⟨vl, vf, vq, bm, har⟩ := ha.ar
  have hqa : (lastA y).toNat < A.qs.length := by unfold Ix at hq; omega
  have hlen := len_any har ok (lastA y).toNat hqa (by omega)
  have htl := fun k => tail_any (har.drewN k) ok (lastA y).toNat hqa (by omega)
  have hqn : (((lastA y).toNat : Nat) : Int) = lastA y := by have := hq.1; omega
  rw [hqn] at hlen
  have hal : A.len (lastA y).toNat = alen A (lastA y) := rfl
  rw [hal] at hlen
  have htl2 : ∀ k, Calls Tryz.prog 103 #[.pointer (some ⟨x.ga, 0, none⟩), .int .i64 (lastA y)] ((w.alloc (.cells #[.int .u8 (lastOp y), .int .i64 (lastA y), .int .i64 (lastB y)] 147)).drewN k) fun e w' => e = .returned (.int .u64 (A.tail (lastA y).toNat)) ∧ ∃ n, w' = ((w.alloc (.cells #[.int .u8 (lastOp y), .int .i64 (lastA y), .int .i64 (lastB y)] 147)).drewN k).drewN n := by
    intro k
    have := htl k
    rw [hqn] at this
    exact this
  have hl2 := fun (hpos : 0 < alen A (lastA y)) k => last_any (ea := ea) (ha.grown (w' := (w.alloc (.cells #[.int .u8 (lastOp y), .int .i64 (lastA y), .int .i64 (lastB y)] 147)).drewN k) ((Kept.refl _ _).drewN k) ha.base) (he1.kept ((Kept.refl (fun b => B ≤ b) _).drewN k) (fun b hb => hb)) hp hg hy hl (hm hpos)
  have c1 := h.row.cell 1
  have s0 := h.srow.cell 0
  have r1 := h.row.lt
  have r2 := h.srow.lt
  have q1 : ¬ x.gr = w.heap.size := by omega
  have q2 : ¬ x.gs = w.heap.size := by omega
  have ef := he1.emp
  have hop : lastOp y = 2 ∨ lastOp y = 3 ∨ lastOp y = 4 ∨ lastOp y = 8 := by
    cases y with
    | evict q => exact .inl rfl
    | cool q => exact .inr (.inr (.inr rfl))
    | shift q t tl => cases tl; exact .inr (.inl rfl); exact .inr (.inr (.inl rfl))
    | _ => cases hl
  clear hy hl hq hm hqa hqn hal htl ok hql hp h8
  generalize hres : alast p (A.tail (lastA y).toNat) y ⟨A, v.r.s.vars, v.r.gone⟩ = RES at *
  generalize hkt : A.tail (lastA y).toNat = KT at *
  generalize ho : lastOp y = o at *
  generalize hqa2 : lastA y = QA at *
  generalize hqb2 : lastB y = QB at *
  generalize alen A QA = L at *
  have HA := Lib.hid ha
  have HLN := Lib.hid hlen
  have HTL := Lib.hid htl2
  have HL2 := Lib.hid hl2
  have HB := Lib.hid h.base
  clear h he he1 ha hg har hlen htl2 hl2 ho hkt hqa2 hqb2 hres
  simp at c1 s0
  by_cases hz : L = 0
  · subst hz
    rw [show ((0 : Nat) : Int) = 0 from rfl] at HLN
    have HZ := Lib.hid (True.intro)
    rcases hop with rfl | rfl | rfl | rfl
    all_goals
      go_enter Tryz.func60, Tryz.ntmps60
      go_wp2_with (go_at_call 99; refine HLN.out.mono ?_; rintro e w' ⟨rfl, rfl⟩)
      go_ret
      exact ⟨(Kept.refl _ w).alloc HB.out _, rfl⟩
  · have hpos : 0 < L := Nat.pos_of_ne_zero hz
    have b1 : ((L : Int) == 0) = false := by simpa using hz
    have b2 : decide ((L : Int) = 0) = false := by simpa using hz
    rw [if_neg hz]
    cases RES with
    | error k =>
      rcases hop with rfl | rfl | rfl | rfl
      all_goals
        go_enter Tryz.func60, Tryz.ntmps60
        go_wp2_with (go_at_call 99; refine HLN.out.mono ?_; rintro e w' ⟨rfl, rfl⟩)
        refine wp_qtail 6 (by kernel_rfl) (by kernel_rfl) ?_
        simp only [List.take_succ_cons, List.take_zero, List.drop_succ_cons, List.drop_zero]
        repeat (go_big_quiet_step ((go_at_call 103; exact Calls.quiet_of (HTL.out _))))
        refine wpQuiet_nil ?_
        intro nq
        go_wp2_with (go_at_call 106; refine (HL2.out hpos _).mono ?_; rintro e w' ⟨hk, rfl⟩)
        go_ret
        exact ⟨((Kept.refl (fun b => B ≤ b) w).alloc HB.out _).drewN nq |>.trans hk, rfl⟩
    | ok r' =>
      rcases hop with rfl | rfl | rfl | rfl
      all_goals
        go_enter Tryz.func60, Tryz.ntmps60
        go_wp2_with (go_at_call 99; refine HLN.out.mono ?_; rintro e w' ⟨rfl, rfl⟩)
        refine wp_qtail 6 (by kernel_rfl) (by kernel_rfl) ?_
        simp only [List.take_succ_cons, List.take_zero, List.drop_succ_cons, List.drop_zero]
        repeat (go_big_quiet_step ((go_at_call 103; exact Calls.quiet_of (HTL.out _))))
        refine wpQuiet_nil ?_
        intro nq
        go_wp2_with (go_at_call 106; refine (HL2.out hpos _).mono ?_; rintro e w' ⟨hk, rfl, hr⟩; have HR := Lib.hid hr; clear hr)
        go_ret
        exact ⟨((Kept.refl (fun b => B ≤ b) w).alloc HB.out _).drewN nq |>.trans hk, rfl, HR.out⟩
end
end Go.Proofs.YtemppijblfflgaaGreatDoor.Ev
namespace Go.Proofs.YtemppijblfflgaaGreatDoor.Ev
open Go Go.RowKit

section
variable {B : Nat} {ea : Nat → Addr} {w : World} {x : RV} {SA : Nat → Prop} {p : Policy} {key : Int} {A : Arena} {v : VS}

set_option maxRecDepth 100000 in
set_option maxHeartbeats 4000000 in
theorem do_bump (h : RunR B w x SA p key A v) (hp : PolW p) (ok : A.Ok) :
    Calls Tryz.prog 60 #[.pointer (some ⟨x.gr, 0, none⟩), .agg #[.int .u8 7, .int .i64 0, .int .i64 0]] w (OutDo B ea w x p key v (aprim p key .bump ⟨A, v.r.s.vars, v.r.gone⟩)) := by
  have ha := h.grown ((Kept.refl _ w).alloc (Nat.le_refl _) (.cells #[.int .u8 7, .int .i64 0, .int .i64 0] 147)) h.base
  have hfq := hp.freq
  have hT : ∀ k, Calls Tryz.prog 107 #[.pointer (some ⟨x.ga, 0, none⟩), .int .u64 key, .int .i64 1, .int .i64 p.freq] ((w.alloc (.cells #[.int .u8 7, .int .i64 0, .int .i64 0] 147)).drewN k) fun e w' =>
      e = .returned (.tuple #[]) ∧ Kept (fun b => B ≤ b) ((w.alloc (.cells #[.int .u8 7, .int .i64 0, .int .i64 0] 147)).drewN k) w' ∧ ∃ SA', RunR B w' x SA' p key (A.tune key 1 p.freq) v := by
    intro k
    have hk := ha.grown (w' := (w.alloc (.cells #[.int .u8 7, .int .i64 0, .int .i64 0] 147)).drewN k) ((Kept.refl _ _).drewN k) ha.base
    obtain ⟨vl, vf, vq, bm, har⟩ := hk.arena
    refine (tune_any har ok key 1 p.freq (by omega) (by omega)).mono ?_
    rintro e w' ⟨rfl, hk2, vl', har'⟩
    exact ⟨rfl, hk.keptB hk2, _, hk.setArena hk2 ⟨vl', vf, vq, bm, har'⟩⟩
  have c0 := h.row.cell 0
  have c1 := h.row.cell 1
  have c2 := h.row.cell 2
  have s0 := h.srow.cell 0
  have g0 := h.ro.prog.cell 0
  have p1 := h.ro.pol.cell 1
  have r1 := h.row.lt
  have r2 := h.srow.lt
  have r3 := h.ro.prog.lt
  have r4 := h.ro.pol.lt
  have q1 : ¬ x.gr = w.heap.size := by omega
  have q2 : ¬ x.gs = w.heap.size := by omega
  have q3 : ¬ x.gg = w.heap.size := by omega
  have q4 : ¬ x.gp = w.heap.size := by omega
  have HT := Lib.hid hT
  have HB := Lib.hid h.base
  clear h ha hT hp hfq ok
  simp at c0 c1 c2 s0 g0 p1
  go_enter Tryz.func60, Tryz.ntmps60
  go_wp2_with fail
  refine wp_qtail 15 (by kernel_rfl) (by kernel_rfl) ?_
  simp only [List.take_succ_cons, List.take_zero, List.drop_succ_cons, List.drop_zero]
  repeat (go_big_quiet_step (fail))
  refine wpQuiet_nil ?_
  intro nq
  go_wp2_with (go_at_call 107; refine (HT.out _).mono ?_; rintro e w' ⟨rfl, hk, hr⟩; have HR := Lib.hid hr; clear hr)
  go_ret
  obtain ⟨SA', hr⟩ := HR.out
  exact ⟨((Kept.refl (fun b => B ≤ b) w).alloc HB.out _).drewN nq |>.trans hk, rfl, SA', x.vou, hr⟩

set_option maxRecDepth 100000 in
set_option maxHeartbeats 4000000 in
theorem do_var (h : RunR B w x SA p key A v) (h8 : p.decls.length ≤ 8) (hv : v.r.s.vars.length = p.decls.length) {n by_ : Int} (hn : Ix p.decls.length n) (hb : by_ = 1 ∨ by_ = -1) (h0 : 0 ≤ v.r.s.var n) (h9 : v.r.s.var n ≤ 99) (hm : (declAt p.decls n).max ≤ 99) :
    Calls Tryz.prog 60 #[.pointer (some ⟨x.gr, 0, none⟩), .agg #[.int .u8 6, .int .i64 n, .int .i64 by_]] w
      (OutDo B ea w x p key v (.ok ⟨A, v.r.s.vars.set n.toNat (clampUp (v.r.s.var n) by_ (declAt p.decls n).max), v.r.gone⟩)) := by
  have ha := h.grown ((Kept.refl _ w).alloc (Nat.le_refl _) (.cells #[.int .u8 6, .int .i64 n, .int .i64 by_] 147)) h.base
  obtain ⟨m, rfl⟩ : ∃ m : Nat, n = (m : Int) := ⟨n.toNat, by unfold Ix at hn; omega⟩
  have hmd : m < p.decls.length := by unfold Ix at hn; omega
  have hmv : m < v.r.s.vars.length := by omega
  obtain ⟨gd, cd, e1, hcd, hcdm, _, d2⟩ := h.ro.decl hn
  rw [Int.toNat_natCast] at d2 ⊢
  obtain ⟨g, cap, e, hgB, hcap, hcm, hgl⟩ := h.vars.form (by omega)
  have hc : w.cell? ⟨g, m, none⟩ = some (.int .i64 (v.r.s.var m)) := by
    have h1 := h.vars
    rw [e] at h1
    have h2 := h1.1.cellAt m (by simpa using hmv)
    refine h2.trans ?_
    unfold St.var
    rw [Int.toNat_natCast, List.getElem?_map, List.getElem?_eq_getElem hmv]
    rfl
  have hfz : ∀ j, w.frozen? ⟨g, j, none⟩ = false := by
    intro j
    have h1 := h.vars
    rw [e] at h1
    exact h1.1.frozenAt j
  have hfin : ∀ k c, c = clampUp (v.r.s.var m) by_ (declAt p.decls m).max → RunR B (((w.alloc (.cells #[.int .u8 6, .int .i64 m, .int .i64 by_] 147)).drewN k).setCell ⟨g, m, none⟩ (.int .i64 c)) x SA p key A
      { v with r := ⟨⟨v.r.s.q, v.r.s.vars.set m (clampUp (v.r.s.var m) by_ (declAt p.decls m).max)⟩, v.r.gone⟩ } := by
    rintro k _ rfl
    have hk := ha.grown (w' := (w.alloc (.cells #[.int .u8 6, .int .i64 m, .int .i64 by_] 147)).drewN k) ((Kept.refl _ _).drewN k) ha.base
    generalize clampUp (v.r.s.var m) by_ (declAt p.decls m).max = V
    have hs := (hk.vars).set1 encI (i := m) e V
    have k3 : Kept (fun b => b = g) ((w.alloc (.cells #[.int .u8 6, .int .i64 m, .int .i64 by_] 147)).drewN k) (((w.alloc (.cells #[.int .u8 6, .int .i64 m, .int .i64 by_] 147)).drewN k).setCell ⟨g, m, none⟩ (.int .i64 V)) := Kept.one _ ⟨g, m, none⟩ _
    have hown : x.vva.ownBlock = some g := by rw [e]; rfl
    obtain ⟨vl, vf, vq, bm, har⟩ := hk.ar
    exact ⟨hk.ro.kept k3 (fun b hb => hb ▸ hgB), hk.row.kept k3 (fun e => hk.vars.ne_row hk.row (by decide) (e ▸ hown)), hk.srow.kept k3 (fun e => hk.vars.ne_row hk.srow (by decide) (e ▸ hown)), hk.stack.kept k3 (fun b hb e => hk.a2 b hb (e ▸ hown)), hk.loops.kept k3 (fun b hb e => hk.a3 b hb (e ▸ hown)),
      hk.out.kept k3 (fun b hb e => hk.vars.apart_ne hk.out (by decide) b (e ▸ hown) hb), hs, ⟨vl, vf, vq, bm, har.kept k3 (fun b hb e => hk.s4 b (e ▸ hown) hb)⟩, hk.gr0, hk.gs0, fun b hb => ⟨(hk.sa b hb).1, Nat.lt_of_lt_of_le (hk.sa b hb).2 k3.size⟩, hk.sr, hk.ss, hk.s1, hk.s2, hk.s3, hk.s4, hk.a1, hk.a2, hk.a3⟩
  have hkf : ∀ k V, Kept (fun b => B ≤ b) w (((w.alloc (.cells #[.int .u8 6, .int .i64 m, .int .i64 by_] 147)).drewN k).setCell ⟨g, m, none⟩ (.int .i64 V)) := fun k V => (((Kept.refl _ w).alloc h.base _).drewN k).setCell (p := ⟨g, m, none⟩) hgB _
  have c0 := h.row.cell 0
  have c1 := h.row.cell 1
  have s1 := h.srow.cell 1
  have s0 := h.srow.cell 0
  have g0 := h.ro.prog.cell 0
  have p0 := h.ro.pol.cell 0
  rw [e] at s1
  rw [e1] at p0
  have r1 := h.row.lt
  have r2 := h.srow.lt
  have r3 := h.ro.prog.lt
  have r4 := h.ro.pol.lt
  have r5 : gd < w.heap.size := by
    have h1 := h.ro.decls
    rw [e1] at h1
    exact h1.lt rfl
  have q1 : ¬ x.gr = w.heap.size := by omega
  have q2 : ¬ x.gs = w.heap.size := by omega
  have q3 : ¬ x.gg = w.heap.size := by omega
  have q4 : ¬ x.gp = w.heap.size := by omega
  have q5 : ¬ gd = w.heap.size := by omega
  have q6 : ¬ g = w.heap.size := by omega
  have HF := Lib.hid hfin
  have HK := Lib.hid hkf
  clear h ha hn e e1 hfin hkf
  generalize v.r.s.var m = V at *
  generalize (declAt p.decls m).max = M at *
  rw [hv] at s1 hcap
  generalize p.decls.length = D at *
  clear hv hmv
  unfold maxLen at hcdm hcm
  simp at c0 c1 s0 s1 g0 p0
  have hbv : V + by_ ≤ 100 ∧ -1 ≤ V + by_ ∧ -1 ≤ by_ ∧ by_ ≤ 1 := by rcases hb with rfl | rfl <;> omega
  obtain ⟨b1, b2, b3, b4⟩ := hbv
  have HBB := Lib.hid hb
  have hwr : IntKind.i64.wrap (V + by_) = V + by_ := IntWalk.i64_in _ (by omega)
  clear hb
  go_enter Tryz.func60, Tryz.ntmps60
  go_wp2_with fail
  refine wp_qtail 41 (by kernel_rfl) (by kernel_rfl) ?_
  simp only [List.take_succ_cons, List.take_zero, List.drop_succ_cons, List.drop_zero]
  repeat (go_big_quiet_step (fail))
  refine wpQuiet_nil ?_
  intro nq
  go_wp2
  all_goals
    go_ret
    exact ⟨HK.out _ _, rfl, SA, x.vou, HF.out _ _ (by unfold clampUp; omega)⟩
end
end Go.Proofs.YtemppijblfflgaaGreatDoor.Ev
namespace Go.Proofs.YtemppijblfflgaaGreatDoor.Ev
open Go Go.RowKit

section
variable {B : Nat} {ea : Nat → Addr} {w : World} {x : RV} {SA : Nat → Prop} {p : Policy} {key : Int} {A : Arena} {v : VS}

/-- What an append to what was evicted asks, in a region that draws. -/
structure AppD (B : Nat) (w : World) (x : RV) (SA : Nat → Prop) (p : Policy) (key : Int) (A : Arena) (v : VS) (n : Int) : Prop where
  run : RunR B (w.alloc (.cells #[.int .u64 n] 27)).drew x SA p key A v
  base : B ≤ ((w.alloc (.cells #[.int .u64 n] 27)).drew).heap.size
  cells : ∀ j u, [Value.int .u64 n][j]? = some u → ((w.alloc (.cells #[.int .u64 n] 27)).drew).cell? ((⟨w.heap.size, 0, none⟩ : Addr).add j) = some u
  one : ∀ u ∈ [Value.int .u64 n], u.oneCell' = true
  gr : ¬ (x.vou.ownBlock = some x.gr ∨ ((w.alloc (.cells #[.int .u64 n] 27)).drew).heap.size ≤ x.gr)
  done : ∀ (w2 : World) (g2 cap2 : Nat), Sl (fun b => B ≤ b) w2 27 1 (.slice (some ⟨g2, 0, none⟩) (v.r.gone.length + 1) cap2) (v.r.gone.length + 1) (v.r.gone.map encU ++ [.int .u64 n]) →
    Kept (fun b => x.vou.ownBlock = some b ∨ ((w.alloc (.cells #[.int .u64 n] 27)).drew).heap.size ≤ b) ((w.alloc (.cells #[.int .u64 n] 27)).drew) w2 →
    (x.vou.ownBlock = some g2 ∨ g2 = ((w.alloc (.cells #[.int .u64 n] 27)).drew).heap.size) →
    Kept (fun b => B ≤ b) w (w2.setCell ⟨x.gr, 6, none⟩ (.slice (some ⟨g2, 0, none⟩) (v.r.gone.length + 1) cap2)) ∧
    RunR B (w2.setCell ⟨x.gr, 6, none⟩ (.slice (some ⟨g2, 0, none⟩) (v.r.gone.length + 1) cap2)) { x with vou := .slice (some ⟨g2, 0, none⟩) (v.r.gone.length + 1) cap2 } SA p key A { v with r := { v.r with gone := v.r.gone ++ [n] } }

theorem RunR.appD (h : RunR B w x SA p key A v) (n : Int) : AppD B w x SA p key A v n := by
  have hd := h.grown (w' := w.drew) (Kept.refl _ _).drew h.base
  have ha := hd.appOk n
  refine ⟨ha.run, ha.base, ha.cells, ha.one, ha.gr, fun w2 g2 cap2 h1 h2 h3 => ?_⟩
  have := ha.done h1 h2 h3 h.base
  exact ⟨((Kept.refl (fun b => B ≤ b) w).drew).trans this.1, this.2⟩

set_option maxRecDepth 100000 in
set_option maxHeartbeats 4000000 in
theorem do_drop (h : RunR B w x SA p key A v) (hp : p.decls.length ≤ 8) (hg : v.r.gone.length < goneMax) (hm : MoveOk p A key) :
    Calls Tryz.prog 60 #[.pointer (some ⟨x.gr, 0, none⟩), .agg #[.int .u8 5, .int .i64 0, .int .i64 0]] w (OutDo B ea w x p key v (aprim p key .drop ⟨A, v.r.s.vars, v.r.gone⟩)) := by
  have ha := h.grown ((Kept.refl _ w).alloc (Nat.le_refl _) (.cells #[.int .u8 5, .int .i64 0, .int .i64 0] 147)) h.base
  obtain ⟨vl, vf, vq, bm, har⟩ := ha.ar
  have hw := where_any har hm.ok key
  have hres := resident_any ha hp hm.wh
  have c1 := h.row.cell 1
  have c2 := h.row.cell 2
  have c6 := h.row.cell 6
  have f := fun j => h.row.frozen j
  have s0 := h.srow.cell 0
  have r1 := h.row.lt
  have r2 := h.srow.lt
  have q1 : ¬ x.gr = w.heap.size := by omega
  have q2 : ¬ x.gs = w.heap.size := by omega
  have q3 : ¬ x.gr = w.heap.size + 1 := by omega
  obtain ⟨i0, hi0, hz0, hz1, hz2⟩ := info_parts infoU64_
  have q4 : v.r.gone.length + 1 ≤ maxLen := by unfold goneMax at hg; unfold maxLen; omega
  have q5 : (v.r.gone.length + 1) * 8 ≤ 140737488355328 := by unfold goneMax at hg; omega
  have HA := Lib.hid ha
  have HW := Lib.hid hw
  have HRES := Lib.hid hres
  have HB := Lib.hid h.base
  have HM := Lib.hid hm
  clear h ha har hw hres hm hg
  simp at c1 c2 c6 s0
  cases hd : resident p.decls (A.where_ key) with
  | false =>
    have h1 := HRES.out
    rw [hd] at h1
    have H1 := Lib.hid h1
    have HD := Lib.hid hd
    obtain ⟨vl, vf, vq, bm, har⟩ := HA.out.arena
    have ho := out_any har (RunR.up _ SA) HM.out.ok (by have := HM.out.q8; omega) key HM.out.un
    have HO := Lib.hid ho
    clear h1 hd har ho
    go_enter Tryz.func60, Tryz.ntmps60
    go_wp2_with (first | (go_at_call 35; refine HW.out.mono ?_; rintro e w' ⟨rfl, rfl⟩) | (go_at_call 104; refine H1.out.mono ?_; rintro e w' ⟨rfl, rfl⟩) | (go_at_call 49; refine HO.out.mono ?_; rintro e w' ⟨rfl, hk4, vl4, vf4, vq4, har4⟩; have hr4 := HA.out.setArena hk4 ⟨vl4, vf4, vq4, bm, har4⟩; have HR4 := Lib.hid hr4; have HK4 := Lib.hid (HA.out.keptB hk4); clear hk4 har4 hr4))
    go_ret
    have e : aprim p key .drop ⟨A, v.r.s.vars, v.r.gone⟩ = .ok ⟨A.out key, v.r.s.vars, v.r.gone⟩ := by simp [aprim, HD.out]
    rw [e]
    exact ⟨((Kept.refl (fun b => B ≤ b) w).alloc HB.out _).trans HK4.out, rfl, _, x.vou, HR4.out⟩
  | true =>
    have h1 := HRES.out
    rw [hd] at h1
    have H1 := Lib.hid h1
    have HD := Lib.hid hd
    have hap := HA.out.appD key
    obtain ⟨gr, gg, gp, gs, ga, vd, bmv, bcv, lp, vst, vlo, vou, vva⟩ := x
    obtain ⟨av, cv, rfl⟩ : ∃ a c, vou = .slice a v.r.gone.length c := hap.run.out.shape
    have d2 : (w.alloc (.cells #[.int .u8 5, .int .i64 0, .int .i64 0] 147)).cell? ⟨gr, 2, none⟩ = some (.int .u64 key) := HA.out.row.cell 2
    have d6 : (w.alloc (.cells #[.int .u8 5, .int .i64 0, .int .i64 0] 147)).cell? ⟨gr, 6, none⟩ = some (.slice av v.r.gone.length cv) := HA.out.row.cell 6
    have df : ∀ j, (w.alloc (.cells #[.int .u8 5, .int .i64 0, .int .i64 0] 147)).frozen? ⟨gr, j, none⟩ = false := fun j => HA.out.row.frozen j
    have dl : gr < (w.alloc (.cells #[.int .u8 5, .int .i64 0, .int .i64 0] 147)).heap.size := HA.out.row.lt
    have dk := (Kept.refl (fun b => B ≤ b) w).alloc HB.out (.cells #[.int .u8 5, .int .i64 0, .int .i64 0] 147)
    have HAP := Lib.hid hap
    have HDK := Lib.hid dk
    clear h1 hd hap dk
    simp only at *
    go_enter Tryz.func60, Tryz.ntmps60
    go_wp2_with (first | (go_at_call 35; refine HW.out.mono ?_; rintro e w' ⟨rfl, rfl⟩) | (go_at_call 104; refine H1.out.mono ?_; rintro e w' ⟨rfl, rfl⟩))
    clear HW H1 HRES
    generalize w.alloc (.cells #[.int .u8 5, .int .i64 0, .int .i64 0] 147) = w1 at *
    have dn : ¬ gr = w1.heap.size := by omega
    have b4 : ((w1.alloc (.cells #[.int .u64 key] 27)).drew).cell? ⟨gr, 6, none⟩ = some (.slice av v.r.gone.length cv) := HAP.out.run.row.cell 6
    have fz : ((w1.alloc (.cells #[.int .u64 key] 27)).drew).frozen? ⟨gr, 6, none⟩ = false := HAP.out.run.row.frozen 6
    have B4 := Lib.hid b4
    have FZ := Lib.hid fz
    clear b4 fz
    go_region_law (first
      | (refine step_append1 Tryz.underlying22 hi0 hz0 hz1 hz2 rfl (by decide) HAP.out.run.out HAP.out.base rfl _ _ (by rfl) (by rfl) ⟨w1.heap.size, 0, none⟩ 1 1 [.int .u64 key] (by rfl) (by rfl) HAP.out.cells HAP.out.one q4 q5 (by omega) ?_; intro g2 cap2 w2 hs2 hk2 hloc; have e1 := (hk2.cell (p := ⟨gr, 6, none⟩) HAP.out.gr).trans B4.out; have e2 := (hk2.frozen (p := ⟨gr, 6, none⟩) HAP.out.gr).trans FZ.out; have Hs2 := Lib.hid hs2; have Hk2 := Lib.hid hk2; have HL2 := Lib.hid hloc; clear hs2 hk2 hloc))
    all_goals
      have hfin := HAP.out.done w2 g2 cap2 Hs2.out Hk2.out HL2.out
      have x1 := hfin.2.row.cell 1
      have x2 := hfin.2.row.cell 2
      have y0 := hfin.2.srow.cell 0
      obtain ⟨vl, vf, vq, bm, har⟩ := hfin.2.arena
      have ho := out_any har (RunR.up _ SA) HM.out.ok (by have := HM.out.q8; omega) key HM.out.un
      have HO := Lib.hid ho
      have HFIN := Lib.hid hfin
      clear har ho hfin e1 e2
      simp at x1 x2 y0
      go_wp2_with (go_at_call 49; refine HO.out.mono ?_; rintro e w' ⟨rfl, hk4, vl4, vf4, vq4, har4⟩; have hr4 := HFIN.out.2.setArena hk4 ⟨vl4, vf4, vq4, bm, har4⟩; have HR4 := Lib.hid hr4; have HK4 := Lib.hid (HFIN.out.2.keptB hk4); clear hk4 har4 hr4)
      go_ret
      have e : aprim p key .drop ⟨A, v.r.s.vars, v.r.gone⟩ = .ok ⟨A.out key, v.r.s.vars, v.r.gone ++ [key]⟩ := by simp [aprim, HD.out]
      rw [e]
      exact ⟨(HDK.out.trans HFIN.out.1).trans HK4.out, rfl, _, _, HR4.out⟩
end
end Go.Proofs.YtemppijblfflgaaGreatDoor.Ev
