/- The document's answer: conditions. The document's answer: another state of the same. The document's answer: an engine of its own; New, Remove, Keys, Var. engine.Remove: walked. What is the engine's, told anew. The law's world in memory: engines on both sides, lists that were handed out; who owns which block. The law's world: a Load on both sides: load, walked. A script in memory; small: walked. The law's world: one step, by kinds: a Load, and a step that does nothing. The law's first bad step: UpTo of one kind, walked. Loads: walked. Conditions: none. -/
import Derived.Deep.RegionLaw
import Derived.Deep.CutBlock
import Derived.Deep.DeepCutAuto
import Derived.Deep.DrawnRows
import Derived.StillTail
import Derived.BigQuiet
import Derived.Deep.RegionWith
import Derived.Deep.RegionHeld3
import Derived.ScopeJumps
import Derived.WalkMore
import Derived.Test.YtemppijblfflgabGreatDoorZt01
import Derived.Test.YtemppijblfflgabGreatDoorZt02
import Derived.Test.YtemppijblfflgabGreatDoorZt04
import Derived.Test.YtemppijblfflgabGreatDoorZt09
import Derived.Test.YtemppijblfflgabGreatDoorZt10
import Derived.Test.YtemppijblfflgabGreatDoorZt15
set_option linter.all false
namespace Go.Proofs.YtemppijblfflgabGreatDoor.Ev
open Go Go.RowKit

section
variable {B : Nat} {w : World} {gr gs gp : Nat} {vq vv vg : Value} {vl : List Value} {p : Policy} {c : Cnt} {key : Int} {r : Run} {e : Nat}
theorem odd_cases (n : Nat) : ((n : Int).tmod 2 = 0 ∧ (n % 2 == 1) = false) ∨ ((n : Int).tmod 2 = 1 ∧ (n % 2 == 1) = true) := by
  have h : (n : Int).tmod 2 = ((n % 2 : Nat) : Int) := by rw [Int.tmod_eq_emod_of_nonneg (by omega)]; omega
  rw [h]
  have : n % 2 = 0 ∨ n % 2 = 1 := by omega
  rcases this with h | h <;> rw [h] <;> simp

end
end Go.Proofs.YtemppijblfflgabGreatDoor.Ev
namespace Go.Proofs.YtemppijblfflgabGreatDoor.Ev
open Go Go.RowKit


theorem infoEntSl : (Tryz.prog.info? 122).map (fun i => (i.zero, i.size, i.bytes)) = some (some (.slice none 0 0), 1, 24) := by kernel_rfl

end Go.Proofs.YtemppijblfflgabGreatDoor.Ev
namespace Go.Proofs.YtemppijblfflgabGreatDoor.Ev
open Go Go.RowKit

/-- An engine of the document's answer, all of whose blocks lie in S: its state, and its policy, in D. -/
def MR (S : Nat → Prop) (w : World) (gs : Nat) (e : Eng) : Prop :=
  ∃ (D : Nat → Prop) (gp : Nat) (vq vv : Value) (vl : List Value), RStR (fun b => S b ∧ ¬ D b) w gs gp vq vv e.s e.n vl ∧ RPol (fun b => S b ∧ D b) w gp e.p
section
variable {S S' T : Nat → Prop} {w w' : World} {gs : Nat} {e : Eng}
theorem MR.kept (h : MR S w gs e) (hk : Kept T w w') (hT : ∀ b, S b → b < w.heap.size → ¬ T b) : MR S w' gs e := by
  obtain ⟨D, gp, vq, vv, vl, h1, h2⟩ := h
  exact ⟨D, gp, vq, vv, vl, h1.kept hk (fun b hb => hT b hb.1), h2.kept hk (fun b hb => hT b hb.1)⟩
theorem MR.mono (h : MR S w gs e) (hS : ∀ b, b < w.heap.size → S b → S' b) : MR S' w gs e := by
  obtain ⟨D, gp, vq, vv, vl, h1, h2⟩ := h
  exact ⟨D, gp, vq, vv, vl, h1.mono (fun b hb hs => ⟨hS b hb hs.1, hs.2⟩), h2.mono (fun b hb hs => ⟨hS b hb hs.1, hs.2⟩)⟩
theorem MR.lt (h : MR S w gs e) : gs < w.heap.size ∧ S gs := by
  obtain ⟨D, gp, vq, vv, vl, h1, h2⟩ := h
  exact ⟨h1.row.lt, h1.sg.1⟩

/-- What holds of the engine's state. -/
theorem EngR.gi (h : EngR S w gs e) : PolW e.p ∧ GI e.p e.s := by
  obtain ⟨h1, h2⟩ := h.inv
  exact ⟨h1, h2.si, h2.inv⟩
end
theorem mk_qs (n : Nat) (hn : n ≤ 1000) (W : World) : (Instr.makeSlice 45 (.int .i64 (n : Int)) (.int .i64 (n : Int))).run Tryz.prog W =
    .ok (.slice (some ⟨W.heap.size, 0, none⟩) n n) (W.alloc (.cells (List.replicate n (Value.slice none 0 0)).toArray 122)) := by
  obtain ⟨i0, hi0, hz0, hz1, hz2⟩ := info_parts infoEntSl
  have h := run_make (P := Tryz.prog) W 45 122 i0 _ Tryz.underlying45 hi0 hz0 .i64 .i64 (n : Int) (n : Int) (by omega) (by omega) (by rw [hz2]; omega) (by omega)
  rw [hz1, Int.toNat_natCast] at h
  have e : (Value.slice none 0 0).cells = #[Value.slice none 0 0] := rfl
  rw [e, Nat.mul_one, madeCells_one] at h
  exact h
theorem mk_ints_ (n : Nat) (hn : n ≤ 1000) (W : World) : (Instr.makeSlice 46 (.int .i64 (n : Int)) (.int .i64 (n : Int))).run Tryz.prog W =
    .ok (.slice (some ⟨W.heap.size, 0, none⟩) n n) (W.alloc (.cells (List.replicate n (Value.int .i64 0)).toArray 3)) := by
  obtain ⟨i0, hi0, hz0, hz1, hz2⟩ := info_parts infoInt_
  have h := run_make (P := Tryz.prog) W 46 3 i0 _ Tryz.underlying46 hi0 hz0 .i64 .i64 (n : Int) (n : Int) (by omega) (by omega) (by rw [hz2]; omega) (by omega)
  rw [hz1, Int.toNat_natCast] at h
  have e : (Value.int .i64 0).cells = #[Value.int .i64 0] := rfl
  rw [e, Nat.mul_one, madeCells_one] at h
  exact h
theorem QR.made {S : Nat → Prop} {w : World} {vq : Value} {n : Nat} (h : Sl S w 122 1 vq n (List.replicate n (.slice none 0 0))) : QR S w vq (List.replicate n []) (List.replicate n (.slice none 0 0)) := by
  refine ⟨by rw [List.length_replicate]; exact h, by simp, ?_, ?_⟩
  · intro i v l h1 h2
    rw [List.getElem?_replicate] at h1 h2
    split at h1
    · rename_i hi
      rw [if_pos hi] at h2
      injection h1 with h1
      injection h2 with h2
      subst h1 h2
      exact Sl.nil_ _ _ _ _
    · cases h1
  · intro i j u v _ h1 _ b hb
    rw [List.getElem?_replicate] at h1
    split at h1
    · injection h1 with h1
      subst h1
      cases hb
    · cases h1
/-- A new engine. -/
def OutNw (w : World) (N : Nat → Prop) (p : Policy) (y : Ending) (w' : World) : Prop :=
  ∃ gs, y = .returned (.pointer (some ⟨gs, 0, none⟩)) ∧ Kept (fun b => w.heap.size ≤ b) w w' ∧ MR (fun b => N b ∨ w.heap.size ≤ b) w' gs (Eng.new p)

section
variable {N : Nat → Prop} {w : World} {gp : Nat} {p : Policy}
theorem MR.start {w1 w' : World} {gs : Nat} {vq vv : Value} (h : RPol N w gp p) (hk : Kept (fun b => w.heap.size ≤ b) w w') (hrow : Row w' gs 50 [.pointer (some ⟨gp, 0, none⟩), vq, vv, .int .i64 0, .int .i64 0, .int .i64 0])
    (hq : Sl (fun b => w.heap.size ≤ b) w' 122 1 vq p.decls.length (List.replicate p.decls.length (.slice none 0 0))) (hv : Sl (fun b => w.heap.size ≤ b) w' 3 1 vv p.decls.length (List.replicate p.decls.length (.int .i64 0))) (hg : w.heap.size ≤ gs) :
    MR (fun b => N b ∨ w.heap.size ≤ b) w' gs (Eng.new p) := by
  refine ⟨fun b => b < w.heap.size, gp, vq, vv, _, ⟨hrow, QR.made (hq.mono (fun b hb => ⟨.inr hb, Nat.not_lt.2 hb⟩)), ?_, ⟨.inr hg, Nat.not_lt.2 hg⟩⟩, (h.mono (N' := fun b => (N b ∨ w.heap.size ≤ b) ∧ b < w.heap.size) (fun k hk hN => ⟨.inl hN, hk⟩)).kept hk (fun b hb _ => by have := hb.2; omega)⟩
  show Sl _ _ _ 1 _ (List.replicate p.decls.length (0 : Int)).length ((List.replicate p.decls.length (0 : Int)).map encI)
  rw [List.length_replicate, List.map_replicate]
  exact hv.mono (fun b hb => ⟨.inr hb, Nat.not_lt.2 hb⟩)

theorem kept3 (w : World) (A B C : Obj) : Kept (fun b => w.heap.size ≤ b) w (((w.alloc A).alloc B).alloc C) := (((Kept.refl _ w).alloc (Nat.le_refl _) _).alloc (by simp) _).alloc (by simp; omega) _
theorem row3 (w : World) (A B : Obj) (t : TypeId) (cs : List Value) : Row (((w.alloc A).alloc B).alloc (.cells cs.toArray t)) (w.heap.size + 1 + 1) t cs := by
  have hr := Row.new ((w.alloc A).alloc B) t cs
  simp only [World.size_alloc] at hr
  exact hr
theorem made1 (w : World) (t : TypeId) (n : Nat) (hn : n ≤ 1000) (x : Value) (B C : Obj) : Sl (fun b => w.heap.size ≤ b) (((w.alloc (.cells (List.replicate n x).toArray t)).alloc B).alloc C) t 1 (.slice (some ⟨w.heap.size, 0, none⟩) n n) n (List.replicate n x) :=
  ((Sl.made (Nat.le_refl _) (by unfold maxLen; omega)).alloc _).alloc _
theorem made2 (w : World) (t : TypeId) (n : Nat) (hn : n ≤ 1000) (x : Value) (A C : Obj) : Sl (fun b => w.heap.size ≤ b) (((w.alloc A).alloc (.cells (List.replicate n x).toArray t)).alloc C) t 1 (.slice (some ⟨w.heap.size + 1, 0, none⟩) n n) n (List.replicate n x) := by
  have h := (Sl.made (N := fun b => w.heap.size ≤ b) (w := w.alloc A) (t := t) (n := n) (x := x) (by simp) (by unfold maxLen; omega)).alloc C
  simp only [World.size_alloc] at h
  exact h

set_option maxRecDepth 100000 in
set_option maxHeartbeats 4000000 in
theorem rnew_any (h : RPol N w gp p) (hp : PolW p) : Calls Tryz.prog 33 #[.pointer (some ⟨gp, 0, none⟩)] w (OutNw w N p) := by
  obtain ⟨vd, vr, vh, vm, hs, rs, h1, h2, _⟩ := id h
  have hn := hp.decls.len
  have q1 := mk_qs p.decls.length (by omega)
  have q2 := mk_ints_ p.decls.length (by omega)
  obtain ⟨ad, cd, rfl⟩ := h2.any_
  have c0 := h1.cell 0
  have gl := h1.lt
  simp at c0
  have H := Lib.hid h
  generalize hL : p.decls.length = L at *
  have HL := Lib.hid hL
  clear h hp h1 h2 hL
  go_enter Tryz.func33, Tryz.ntmps33
  go_wp2
  go_region
  all_goals
    go_wp2
    go_ret
    have e := HL.out
    subst e
    refine ⟨_, rfl, (kept3 _ _ _ _).drew, MR.start (w1 := w) H.out (kept3 _ _ _ _).drew (row3 _ _ _ _ _).drew ?_ ?_ (by omega)⟩
    · first | exact made1 _ _ _ (by omega) _ _ _ | exact made2 _ _ _ (by omega) _ _ _
    · first | exact made2 _ _ _ (by omega) _ _ _ | exact made1 _ _ _ (by omega) _ _ _
end
end Go.Proofs.YtemppijblfflgabGreatDoor.Ev
namespace Go.Proofs.YtemppijblfflgabGreatDoor.Ev
open Go Go.RowKit

section
variable {S : Nat → Prop} {w : World} {ge : Nat} {e : Eng}
theorem EngR.shrink (h : EngR S w ge e) : EngR (fun b => S b ∧ b < w.heap.size) w ge e := by
  obtain ⟨gg, gs, ga, gp, bm, bc, loops, vd, vva, SA, A, ns, h⟩ := h
  obtain ⟨vl, vf, vq, bm', ha⟩ := h.ar
  exact ⟨gg, gs, ga, gp, bm, bc, loops, vd, vva, (fun b => SA b ∧ b < w.heap.size), A, ns, h.row, h.prog.mono (fun b hb hs => ⟨⟨hs.1, hb⟩, fun k => hs.2 k.1⟩), h.srow,
    h.vars.shrink.mono (fun b hb => ⟨⟨hb.1.1, hb.2⟩, fun k => hb.1.2 k.1⟩), ⟨vl, vf, vq, bm', ha.shrink⟩, h.inv, h.si, h.pw, h.nov, fun b hb => ⟨h.sa b hb.1, hb.2⟩, ⟨⟨h.se.1, h.row.lt⟩, fun k => h.se.2 k.1⟩, ⟨⟨h.ss.1, h.srow.lt⟩, fun k => h.ss.2 k.1⟩⟩

end
end Go.Proofs.YtemppijblfflgabGreatDoor.Ev
namespace Go.Proofs.YtemppijblfflgabGreatDoor.Ev
open Go Go.RowKit

/-- Owners of blocks: 0 the law's own rows, 1 lists that were handed out, 2 the list in hand, 3 + 2 i engine i, 4 + 2 i its likeness. -/
def encPairL (p : Nat × Nat) : List Value := [.pointer (some ⟨p.1, 0, none⟩), .pointer (some ⟨p.2, 0, none⟩)]
def markL (i : Nat) : Value := .int .u64 (9223372036854775808 + (i : Int))

/-- The law's world; of the engines those in K. -/
structure LW (K : Nat → Prop) (w0 w : World) (gw : Nat) (o : Nat → Nat) (E : List Eng) (ps : List (Nat × Nat)) (ves vls : Value) (vl : List Value) (m : Nat) : Prop where
  row : Row w gw 32 [ves, vls, .bool false]
  es : Sl (fun b => o b = 0 ∧ w0.heap.size ≤ b) w 41 2 ves ps.length (ps.flatMap encPairL)
  ls : Sl (fun b => o b = 0 ∧ w0.heap.size ≤ b) w 51 1 vls vl.length vl
  lists : ∀ (i : Nat) v, vl[i]? = some v → ∃ n, n ≤ 2000000 ∧ Sl (fun b => o b = 1 ∧ w0.heap.size ≤ b) w 25 1 v n (List.replicate n (markL i))
  len : ps.length = E.length
  eng : ∀ (i : Nat) e p, K i → E[i]? = some e → ps[i]? = some p → EngR (fun b => (o b = 3 + 2 * i ∧ w0.heap.size ≤ b) ∧ b < w.heap.size) w p.1 e ∧ MR (fun b => (o b = 4 + 2 * i ∧ w0.heap.size ≤ b) ∧ b < w.heap.size) w p.2 e ∧ CntB e.n m
  kept : Kept (fun b => w0.heap.size ≤ b) w0 w
  gw : o gw = 0 ∧ w0.heap.size ≤ gw
  nl : vl.length ≤ m
  ne : E.length ≤ m

section
variable {K K' : Nat → Prop} {w0 w w' : World} {gw : Nat} {o o' : Nat → Nat} {E : List Eng} {ps : List (Nat × Nat)} {ves vls : Value} {vl : List Value} {m : Nat}
/-- What turned belongs to none of those that stay. -/
theorem LW.move (h : LW K w0 w gw o E ps ves vls vl m) {T : Nat → Prop} (hk : Kept T w w') (ho : ∀ b, b < w.heap.size → o' b = o b) (hT : ∀ b, T b → b < w.heap.size → w0.heap.size ≤ b ∧ o b ≠ 0 ∧ o b ≠ 1 ∧ ∀ j, K' j → o b ≠ 3 + 2 * j ∧ o b ≠ 4 + 2 * j) (hK : ∀ j, K' j → K j) :
    LW K' w0 w' gw o' E ps ves vls vl m := by
  have hs := h.kept.size
  refine ⟨h.row.kept hk (fun ht => (hT gw ht h.row.lt).2.1 h.gw.1), ?_, ?_, ?_, h.len, ?_, ?_, ⟨(ho gw h.row.lt).trans h.gw.1, h.gw.2⟩, h.nl, h.ne⟩
  · refine ⟨(h.es.kept hk (fun b hb ht => (hT b ht (h.es.lt hb)).2.1 (h.es.2 b hb).1)).1, fun b hb => ⟨(ho b (h.es.lt hb)).trans (h.es.2 b hb).1, (h.es.2 b hb).2⟩⟩
  · refine ⟨(h.ls.kept hk (fun b hb ht => (hT b ht (h.ls.lt hb)).2.1 (h.ls.2 b hb).1)).1, fun b hb => ⟨(ho b (h.ls.lt hb)).trans (h.ls.2 b hb).1, (h.ls.2 b hb).2⟩⟩
  · intro i v hv
    obtain ⟨n, hn, hl⟩ := h.lists i v hv
    exact ⟨n, hn, (hl.kept hk (fun b hb ht => (hT b ht (hl.lt hb)).2.2.1 (hl.2 b hb).1)).1, fun b hb => ⟨(ho b (hl.lt hb)).trans (hl.2 b hb).1, (hl.2 b hb).2⟩⟩
  · intro i e p hki he hp
    obtain ⟨h1, h2, h3⟩ := h.eng i e p (hK i hki) he hp
    refine ⟨(h1.kept hk (fun b hb hlt ht => ((hT b ht hlt).2.2.2 i hki).1 hb.1.1)).mono (fun b hb => ⟨⟨(ho b hb.2).trans hb.1.1, hb.1.2⟩, Nat.lt_of_lt_of_le hb.2 hk.size⟩),
      (h2.kept hk (fun b hb hlt ht => ((hT b ht hlt).2.2.2 i hki).2 hb.1.1)).mono (fun b _ hb => ⟨⟨(ho b hb.2).trans hb.1.1, hb.1.2⟩, Nat.lt_of_lt_of_le hb.2 hk.size⟩), h3⟩
  · refine h.kept.trans (hk.mono fun b hb => ?_)
    rcases Nat.lt_or_ge b w.heap.size with hlt | hge
    · exact (hT b hb hlt).1
    · exact Nat.le_trans hs hge
theorem LW.later (h : LW K w0 w gw o E ps ves vls vl m) (hk : Kept (fun b => w.heap.size ≤ b) w w') : LW K w0 w' gw o E ps ves vls vl m :=
  h.move hk (fun _ _ => rfl) (fun b hb hlt => by omega) (fun _ h => h)
theorem LW.up (h : LW K w0 w gw o E ps ves vls vl m) {m' : Nat} (hm : m ≤ m') : LW K w0 w gw o E ps ves vls vl m' :=
  ⟨h.row, h.es, h.ls, h.lists, h.len, fun i e p hk he hp => by
    obtain ⟨h1, h2, c1, c2, c3, c4, c5, c6⟩ := h.eng i e p hk he hp
    exact ⟨h1, h2, c1, by omega, c3, by omega, c5, by omega⟩, h.kept, h.gw, Nat.le_trans h.nl hm, Nat.le_trans h.ne hm⟩
end
end Go.Proofs.YtemppijblfflgabGreatDoor.Ev
namespace Go.Proofs.YtemppijblfflgabGreatDoor.Ev
open Go Go.RowKit

section
variable {K : Nat → Prop} {w0 w w' : World} {gw : Nat} {o : Nat → Nat} {E : List Eng} {ps : List (Nat × Nat)} {ves vls : Value} {vl : List Value} {m : Nat}
/-- One engine more. -/
theorem LW.load (h : LW K w0 w gw o E ps ves vls vl m) {ves' : Value} {n1 n3 ge gs : Nat} {p : Policy} (hk : Kept (fun b => ves.ownBlock = some b ∨ b = gw ∨ w.heap.size ≤ b) w w') (h1 : w.heap.size ≤ n1) (h3 : n1 ≤ n3)
    (hrow : Row w' gw 32 [ves', vls, .bool false])
    (hes : Sl (fun b => (o b = 0 ∧ w0.heap.size ≤ b ∧ b < w.heap.size) ∨ n3 ≤ b) w' 41 2 ves' (ps.length + 1) (ps.flatMap encPairL ++ encPairL (ge, gs)))
    (he : EngR (fun b => w.heap.size ≤ b ∧ b < n1) w' ge (Eng.new p)) (hm : MR (fun b => n1 ≤ b ∧ b < n3) w' gs (Eng.new p)) : ∃ o', LW K w0 w' gw o' (E ++ [Eng.new p]) (ps ++ [(ge, gs)]) ves' vls vl (m + 1) := by
  have hs := h.kept.size
  let o' : Nat → Nat := fun b => if b < w.heap.size then o b else if b < n1 then 3 + 2 * E.length else if b < n3 then 4 + 2 * E.length else 0
  have old : ∀ b, b < w.heap.size → o' b = o b := fun b hb => if_pos hb
  have mid : ∀ b, w.heap.size ≤ b → b < n1 → o' b = 3 + 2 * E.length := fun b hb hb1 => by show (if _ then _ else _) = _; rw [if_neg (by omega), if_pos hb1]
  have mid2 : ∀ b, n1 ≤ b → b < n3 → o' b = 4 + 2 * E.length := fun b hb hb1 => by show (if _ then _ else _) = _; rw [if_neg (by omega), if_neg (by omega), if_pos hb1]
  have top : ∀ b, n3 ≤ b → o' b = 0 := fun b hb => by show (if _ then _ else _) = _; rw [if_neg (by omega), if_neg (by omega), if_neg (by omega)]
  have tn : ∀ b, (ves.ownBlock = some b ∨ b = gw ∨ w.heap.size ≤ b) → b < w.heap.size → o b = 0 ∧ w0.heap.size ≤ b := by
    intro b hb hlt
    rcases hb with hb | hb | hb
    · exact h.es.2 b hb
    · subst hb; exact h.gw
    · omega
  refine ⟨o', hrow, ?_, ?_, ?_, by simp [h.len], ?_, ?_, ⟨(old gw h.row.lt).trans h.gw.1, h.gw.2⟩, by have := h.nl; omega, by have := h.ne; simp; omega⟩
  · rw [List.length_append, List.flatMap_append]
    refine ⟨by simpa using hes.1, fun b hb => ?_⟩
    rcases hes.2 b hb with ⟨q1, q2, q3⟩ | q1
    · exact ⟨(old b q3).trans q1, q2⟩
    · exact ⟨top b q1, by omega⟩
  · refine ⟨(h.ls.kept hk (fun b hb ht => ?_)).1, fun b hb => ⟨(old b (h.ls.lt hb)).trans (h.ls.2 b hb).1, (h.ls.2 b hb).2⟩⟩
    rcases ht with ht | ht | ht
    · exact h.ls.ne_sl h.es (by decide) ht hb
    · subst ht; exact h.ls.ne_row h.row (by decide) hb
    · have := h.ls.lt hb; omega
  · intro i v hv
    obtain ⟨n, hn, hl⟩ := h.lists i v hv
    refine ⟨n, hn, (hl.kept hk (fun b hb ht => ?_)).1, fun b hb => ⟨(old b (hl.lt hb)).trans (hl.2 b hb).1, (hl.2 b hb).2⟩⟩
    have q1 := (tn b ht (hl.lt hb)).1
    have q2 := (hl.2 b hb).1
    omega
  · intro i e pp hki hei hpi
    rcases Nat.lt_or_ge i E.length with hi | hi
    · rw [List.getElem?_append_left hi] at hei
      rw [List.getElem?_append_left (by rw [h.len]; exact hi)] at hpi
      obtain ⟨r1, r2, c1, c2, c3, c4, c5, c6⟩ := h.eng i e pp hki hei hpi
      refine ⟨(r1.kept hk (fun b hb hlt ht => by have q1 := (tn b ht hlt).1; have q2 := hb.1.1; omega)).mono (fun b hb => ⟨⟨(old b hb.2).trans hb.1.1, hb.1.2⟩, Nat.lt_of_lt_of_le hb.2 hk.size⟩),
        (r2.kept hk (fun b hb hlt ht => by have q1 := (tn b ht hlt).1; have q2 := hb.1.1; omega)).mono (fun b _ hb => ⟨⟨(old b hb.2).trans hb.1.1, hb.1.2⟩, Nat.lt_of_lt_of_le hb.2 hk.size⟩), c1, by omega, c3, by omega, c5, by omega⟩
    · have hl := (List.getElem?_eq_some_iff.1 hei).1
      simp at hl
      obtain rfl : i = E.length := by omega
      simp at hei
      rw [← h.len] at hpi
      simp at hpi
      subst hei hpi
      refine ⟨?_, ?_, by simp [Eng.new, CntB]; omega⟩
      · exact he.shrink.mono (fun b hb => ⟨⟨mid b hb.1.1 hb.1.2, by omega⟩, hb.2⟩)
      · exact hm.mono (fun b hlt hb => ⟨⟨mid2 b hb.1 hb.2, by omega⟩, hlt⟩)
  · refine h.kept.trans (hk.mono fun b hb => ?_)
    rcases Nat.lt_or_ge b w.heap.size with hlt | hge
    · exact (tn b hb hlt).2
    · omega
end

theorem infoPair : (Tryz.prog.info? 41).map (fun i => (i.zero, i.size, i.bytes)) = some (some (.agg #[.pointer none, .pointer none]), 2, 16) := by kernel_rfl

section
variable {K : Nat → Prop} {w0 w : World} {gw : Nat} {o : Nat → Nat} {E : List Eng} {ps : List (Nat × Nat)} {ves vls : Value} {vl : List Value} {m : Nat} {s : Bytes} {B : Nat} {gx : Nat × Nat} {ea : Nat → Addr}
/-- A Load on both sides answers alike. -/
def OutLd (K : Nat → Prop) (w0 : World) (gw : Nat) (E : List Eng) (ps : List (Nat × Nat)) (vls : Value) (vl : List Value) (m : Nat) (s : Bytes) (y : Ending) (w' : World) : Prop :=
  y = .returned (.bool true) ∧ match read s with
    | .error _ => ∃ o' ves', LW K w0 w' gw o' E ps ves' vls vl (m + 1)
    | .ok p => ∃ o' ves' ge gs, LW K w0 w' gw o' (E ++ [Eng.new p]) (ps ++ [(ge, gs)]) ves' vls vl (m + 1)

set_option maxRecDepth 100000 in
set_option maxHeartbeats 4000000 in
theorem lload_err (hE : Env B ea w) (hO : ErrObj B ea w) (hW : WordsG w gx) (h : LW K w0 w gw o E ps ves vls vl m) {k pos : Nat} (hr : read s = .error (k, pos)) :
    Calls Tryz.prog 16 #[.pointer (some ⟨gw, 0, none⟩), vs s] w (OutLd K w0 gw E ps vls vl m s) := by
  obtain ⟨k1, k2⟩ := read_err hr
  have hk0 : ¬ ((k : Int) = 0) := by omega
  have hload := load_any hE hO s
  have HL := Lib.hid hload
  have HR := Lib.hid (fun w1 (hk : Kept (fun b => w.heap.size ≤ b) w w1) => rread_any (hW.kept hk) s)
  have HX := Lib.hid hr
  have H := Lib.hid h
  clear hload hE hO hW hr h
  go_enter Tryz.func16, Tryz.ntmps16
  go_wp2_with fail
  refine HL.out.mono ?_
  rintro y w1 ⟨hk1, hm1⟩
  rw [HX.out] at hm1
  subst hm1
  have HK1 := Lib.hid hk1
  clear hk1
  go_wp2_with fail
  refine (HR.out _ HK1.out).mono ?_
  rintro y w2 ⟨hk2, hm2⟩
  rw [HX.out] at hm2
  subst hm2
  have HK2 := Lib.hid hk2
  clear hk2
  go_wp2
  go_ret
  refine ⟨rfl, ?_⟩
  rw [HX.out]
  exact ⟨o, ves, (H.out.later (HK1.out.trans (HK2.out.mono (fun b hb => Nat.le_trans HK1.out.size hb)))).up (Nat.le_succ _)⟩

set_option maxRecDepth 100000 in
set_option maxHeartbeats 4000000 in
theorem lload_ok (hE : Env B ea w) (hO : ErrObj B ea w) (hW : WordsG w gx) (h : LW K w0 w gw o E ps ves vls vl m) (hm : m ≤ 1999999) {p : Policy} (hr : read s = .ok p) :
    Calls Tryz.prog 16 #[.pointer (some ⟨gw, 0, none⟩), vs s] w (OutLd K w0 gw E ps vls vl m s) := by
  have hp := read_W hr
  obtain ⟨i0, hi0, hz0, hz1, hz2⟩ := info_parts infoPair
  have hload := load_any hE hO s
  have HL := Lib.hid hload
  have HR := Lib.hid (fun w1 (hk : Kept (fun b => w.heap.size ≤ b) w w1) => rread_any (hW.kept hk) s)
  have HX := Lib.hid hr
  have c0 := h.row.cell 0
  have rl := h.row.lt
  have hne := h.ne
  have hln : ps.length ≤ m := by have := h.len; have := h.ne; omega
  obtain ⟨aes, ces, rfl⟩ := h.es.any_
  simp at c0
  have H := Lib.hid h
  have HP := Lib.hid hp
  clear hload hE hO hW hr h hp
  go_enter Tryz.func16, Tryz.ntmps16
  go_wp2_with fail
  refine HL.out.mono ?_
  rintro y w1 ⟨hk1, hm1⟩
  rw [HX.out] at hm1
  obtain ⟨ge, rfl, her⟩ := hm1
  have HK1 := Lib.hid hk1
  have HER := Lib.hid her
  clear hk1 her
  go_wp2_with fail
  refine (HR.out _ HK1.out).mono ?_
  rintro y w2 ⟨hk2, hm2⟩
  rw [HX.out] at hm2
  obtain ⟨gp, rfl, hrp⟩ := hm2
  have HNW := Lib.hid (fun W (hk : Kept (fun b => w2.heap.size ≤ b) w2 W) => rnew_any (hrp.kept hk (fun b hb hlt ht => by omega)) HP.out)
  have HK2 := Lib.hid hk2
  have HRP := Lib.hid hrp
  have c2 : w2.cell? ⟨gw, 0, none⟩ = some (.slice aes ps.length ces) := ((hk2.cell (p := ⟨gw, 0, none⟩) (by have := HK1.out.size; simp only; omega)).trans (HK1.out.cell (p := ⟨gw, 0, none⟩) (by simp only; omega))).trans c0
  have rl2 : gw < w2.heap.size := by have := HK1.out.size; have := hk2.size; omega
  clear hk2 hrp
  go_wp2_with fail
  have m0 : ps.length + 1 ≤ maxLen := by unfold maxLen; omega
  have m1 : (ps.length + 1) * 16 ≤ 140737488355328 := by omega
  go_region_law (first
    | (go_simp; go_at_call 33; refine (HNW.out _ ?_).mono ?_; (first | exact (Kept.refl _ _).drew | exact Kept.refl _ _); rintro y w3 ⟨gs, rfl, hk3, hmr⟩; have k3 : Kept (fun b => w2.heap.size ≤ b) w2 w3 := ((Kept.refl (fun b => w2.heap.size ≤ b) w2).drew).trans (hk3.mono (fun b hb => hb)); have c3 := (k3.cell (p := ⟨gw, 0, none⟩) (by simp only; omega)).trans c2; have kw3 : Kept (fun b => w.heap.size ≤ b) w w3 := (HK1.out.trans (HK2.out.mono (fun b hb => Nat.le_trans HK1.out.size hb))).trans (k3.mono (fun b hb => Nat.le_trans (Nat.le_trans HK1.out.size HK2.out.size) hb)); have ka : Kept (fun b => w3.heap.size ≤ b) w3 (w3.alloc (.cells #[.pointer (some ⟨ge, 0, none⟩), .pointer (some ⟨gs, 0, none⟩)] 41)) := (Kept.refl _ w3).alloc (Nat.le_refl _) _; have hes3 : Sl (fun b => (o b = 0 ∧ w0.heap.size ≤ b ∧ b < w.heap.size) ∨ w3.heap.size ≤ b) (w3.alloc (.cells #[.pointer (some ⟨ge, 0, none⟩), .pointer (some ⟨gs, 0, none⟩)] 41)) 41 2 (.slice aes ps.length ces) ps.length (ps.flatMap encPairL) := ⟨((H.out.es.later kw3 (fun b hb => hb)).later ka (fun b hb => hb)).1, fun b hb => .inl ⟨(H.out.es.2 b hb).1, (H.out.es.2 b hb).2, H.out.es.lt hb⟩⟩; have hup3 : (fun b => (o b = 0 ∧ w0.heap.size ≤ b ∧ b < w.heap.size) ∨ w3.heap.size ≤ b) (w3.alloc (.cells #[.pointer (some ⟨ge, 0, none⟩), .pointer (some ⟨gs, 0, none⟩)] 41)).heap.size := .inr ka.size; have HES := Lib.hid hes3; have HUP := Lib.hid hup3; have QC := Lib.hid (cells_new w3 [.pointer (some ⟨ge, 0, none⟩), .pointer (some ⟨gs, 0, none⟩)] 41); have KA := Lib.hid ka; have KW3 := Lib.hid kw3; have K3 := Lib.hid k3; have HMR := Lib.hid hmr; have rl3 : gw < w3.heap.size := Nat.lt_of_lt_of_le rl kw3.size; have fr3 := (kw3.frozen (p := ⟨gw, 0, none⟩) (by simp only; omega)).trans (H.out.row.frozen 0); clear hk3 k3 kw3 ka hes3 hup3 hmr)
    | (refine step_append1 Tryz.underlying29 hi0 hz0 hz1 hz2 rfl (by decide) HES.out HUP.out rfl _ _ (by rfl) (by rfl) ⟨w3.heap.size, 0, none⟩ 1 1 [.pointer (some ⟨ge, 0, none⟩), .pointer (some ⟨gs, 0, none⟩)] (by rfl) (by rfl) QC.out (by intro u hu; simp at hu; rcases hu with rfl | rfl <;> rfl) m0 m1 (Nat.succ_pos _) ?_; intro g4 cap4 w4 hs4 hk4 hloc4; have e1 := (hk4.cell (p := ⟨gw, 0, none⟩) (fun hh => hh.elim (fun e => H.out.es.ne_row H.out.row (by decide) e) (fun h2 => by have := KA.out.size; simp only at h2; omega))).trans ((KA.out.cell (p := ⟨gw, 0, none⟩) (by simp only; omega)).trans c3); have e2 := (hk4.frozen (p := ⟨gw, 0, none⟩) (fun hh => hh.elim (fun e => H.out.es.ne_row H.out.row (by decide) e) (fun h2 => by have := KA.out.size; simp only at h2; omega))).trans ((KA.out.frozen (p := ⟨gw, 0, none⟩) (by simp only; omega)).trans fr3); have Hs4 := Lib.hid hs4; have Hk4 := Lib.hid hk4; have Hl4 := Lib.hid hloc4; clear hs4 hk4 hloc4))
  all_goals
    go_wp2
    go_ret
    refine ⟨rfl, ?_⟩
    rw [HX.out]
    have s1 := HK1.out.size
    have s2 := HK2.out.size
    have s3 := K3.out.size
    have s4 := KA.out.size
    have s5 := Hk4.out.size
    have les : ∀ b, (Value.slice aes ps.length ces).ownBlock = some b → b < w.heap.size := fun b hb => H.out.es.lt hb
    have r4 : Row w4 gw 32 [.slice aes ps.length ces, vls, .bool false] := ((H.out.row.kept KW3.out (by omega)).kept KA.out (by omega)).kept Hk4.out (fun hh => hh.elim (fun e => H.out.es.ne_row H.out.row (by decide) e) (fun h2 => by omega))
    have n4w : g4 ≠ gw := by
      intro e
      rcases Hl4.out with e4 | e4
      · exact H.out.es.ne_row H.out.row (by decide) (e ▸ e4)
      · omega
    have kO := Kept.one w4 ⟨gw, 0, none⟩ (.slice (some ⟨g4, 0, none⟩) (ps.length + 1) cap4)
    have kF : Kept (fun b => (Value.slice aes ps.length ces).ownBlock = some b ∨ b = gw ∨ w.heap.size ≤ b) w (w4.setCell ⟨gw, 0, none⟩ (.slice (some ⟨g4, 0, none⟩) (ps.length + 1) cap4)) :=
      ((((KW3.out.mono (fun b hb => .inr (.inr hb))).trans (KA.out.mono (fun b hb => .inr (.inr (by omega))))).trans (Hk4.out.mono (fun b hb => hb.elim .inl (fun h2 => .inr (.inr (by omega)))))).setCell (p := ⟨gw, 0, none⟩) (.inr (.inl rfl)) _)
    have he4 := ((((HER.out.kept HK2.out (fun b hb _ ht => by omega)).kept K3.out (fun b hb _ ht => by omega)).kept KA.out (fun b hb _ ht => by omega)).kept Hk4.out (fun b hb _ ht => ht.elim (fun e => by have := les b e; omega) (fun h2 => by omega))).kept kO (fun b hb _ e => by simp only at e; omega)
    have hm0 := HMR.out.mono (S' := fun b => w1.heap.size ≤ b ∧ b < w3.heap.size) (fun b hlt hb => ⟨hb.elim id (fun h2 => by simp at h2; omega), hlt⟩)
    have hm4 := ((hm0.kept KA.out (fun b hb _ ht => by omega)).kept Hk4.out (fun b hb _ ht => ht.elim (fun e => by have := les b e; omega) (fun h2 => by omega))).kept kO (fun b hb _ e => by simp only at e; omega)
    have hs4 := (Hs4.out.kept kO (fun b hb e => by
      injection hb with hb
      exact n4w (hb.trans e)))
    obtain ⟨o', hq⟩ := H.out.load (n1 := w1.heap.size) (n3 := w3.heap.size) (ge := ge) (gs := gs) (p := p) kF s1 (by omega) (r4.set_ 0 _) hs4 he4 hm4
    exact ⟨o', _, ge, gs, hq⟩

theorem lload_any (hE : Env B ea w) (hO : ErrObj B ea w) (hW : WordsG w gx) (h : LW K w0 w gw o E ps ves vls vl m) (hm : m ≤ 1999999) (s : Bytes) :
    Calls Tryz.prog 16 #[.pointer (some ⟨gw, 0, none⟩), vs s] w (OutLd K w0 gw E ps vls vl m s) := by
  cases hr : read s with
  | error x => obtain ⟨k, pos⟩ := x; exact lload_err hE hO hW h hr
  | ok p => exact lload_ok hE hO hW h hm hr
end
end Go.Proofs.YtemppijblfflgabGreatDoor.Ev
namespace Go.Proofs.YtemppijblfflgabGreatDoor.Ev
open Go Go.RowKit

/-- A step. -/
structure OpL where
  kind : Int
  a : Int
  key : Int
  s : Bytes
def encOp (x : OpL) : List Value := [.int .i64 x.kind, .int .i64 x.a, .int .u64 x.key, vs x.s]
structure OpB (x : OpL) : Prop where
  k1 : -9223372036854775808 ≤ x.kind
  k2 : x.kind ≤ 9223372036854775807
  a1 : -9223372036854775808 ≤ x.a
  a2 : x.a ≤ 9223372036854775807
  sl : x.s.length ≤ 140737488351232
/-- A slice of steps that came in. -/
def ScriptR (w : World) (v : Value) (l : List OpL) : Prop :=
  ∃ a c, v = .slice a l.length c ∧ l.length ≤ 4000000000000 ∧ (∀ x ∈ l, OpB x) ∧ ∀ (k : Nat) x, l[k]? = some x → ∃ g off, a = some ⟨g, off, none⟩ ∧ g < w.heap.size ∧ ∀ j, j < 4 → w.cell? ⟨g, off + k * 4 + j, none⟩ = (encOp x)[j]?
theorem ScriptR.later {w w' : World} {v : Value} {l : List OpL} (h : ScriptR w v l) (hk : Kept (fun b => w.heap.size ≤ b) w w') : ScriptR w' v l := by
  obtain ⟨a, c, h1, h2, h3, h4⟩ := h
  refine ⟨a, c, h1, h2, h3, fun k x hx => ?_⟩
  obtain ⟨g, off, q1, q2, q3⟩ := h4 k x hx
  exact ⟨g, off, q1, Nat.lt_of_lt_of_le q2 hk.size, fun j hj => (hk.cell (p := ⟨g, off + k * 4 + j, none⟩) (by simp only; omega)).trans (q3 j hj)⟩
theorem ScriptR.at_ {w : World} {a : Option Addr} {c : Nat} {l : List OpL} (h : ScriptR w (.slice a l.length c) l) {k : Nat} {x : OpL} (hx : l[k]? = some x) : ∃ g off, a = some ⟨g, off, none⟩ ∧ g < w.heap.size ∧ w.cell? ⟨g, off + k * 4, none⟩ = some (.int .i64 x.kind) ∧ w.cell? ⟨g, off + k * 4 + 1, none⟩ = some (.int .i64 x.a) ∧ w.cell? ⟨g, off + k * 4 + 2, none⟩ = some (.int .u64 x.key) ∧ w.cell? ⟨g, off + k * 4 + 3, none⟩ = some (vs x.s) ∧ OpB x := by
  obtain ⟨a', c', h1, h2, h3, h4⟩ := h
  injection h1 with h1 _ _
  obtain ⟨g, off, q1, q2, q3⟩ := h4 k x hx
  exact ⟨g, off, h1.trans q1, q2, q3 0 (by omega), q3 1 (by omega), q3 2 (by omega), q3 3 (by omega), h3 x (List.mem_of_getElem? hx)⟩

section
variable {w : World} {v : Value} {l : List OpL}
/-- Not too many steps. -/
def OutSm (w : World) (l : List OpL) (y : Ending) (w' : World) : Prop := ∃ b, y = .returned (.bool b) ∧ (b = true → l.length ≤ 1048576) ∧ Kept (fun b => w.heap.size ≤ b) w w'
set_option maxRecDepth 100000 in
set_option maxHeartbeats 4000000 in
theorem small_any (h : ScriptR w v l) : Calls Tryz.prog 10 #[v] w (OutSm w l) := by
  obtain ⟨a, c, rfl, hl, hop, _⟩ := id h
  have H := Lib.hid h
  clear h hop
  go_enter Tryz.func10, Tryz.ntmps10
  go_wp2_with fail
  go_loopg [10, 3] l.length (fun gg s10 s3 wr => ∃ (k : Nat) (t : Int), k ≤ l.length ∧ l.length - k ≤ gg ∧ s10 = .int .i64 k ∧ s3 = .int .i64 t ∧ (l.length : Int) ≤ t ∧ t ≤ 4000000000000 ∧ Kept (fun b => w.heap.size ≤ b) w wr)
  case atStart => exact ⟨0, l.length, Nat.zero_le _, by omega, rfl, rfl, by omega, by omega, Kept.refl _ _⟩
  case round =>
    obtain ⟨k, t, hk, hg, rfl, rfl, ht1, ht2, hkw⟩ := hrel
    have HKW := Lib.hid hkw
    by_cases hlt : k < l.length
    · obtain ⟨x, hx⟩ : ∃ x, l[k]? = some x := ⟨_, List.getElem?_eq_getElem hlt⟩
      obtain ⟨g, off, rfl, q1, q2, q3, q4, q5, hb⟩ := (H.out.later hkw).at_ hx
      have hsl := hb.sl
      have hsz := size_vs x.s
      clear hx hkw hb
      unfold vs at *
      by_cases hbig : t + (x.s.length : Int) > 1048576
      · have e1 : decide (t + (x.s.length : Int) > 1048576) = true := decide_eq_true hbig
        go_wp2
        go_ret
        exact ⟨false, rfl, (fun hb => absurd hb Bool.false_ne_true), HKW.out.trans (((Kept.refl _ wr).alloc (Nat.le_refl _) _).mono (fun b hb => Nat.le_trans HKW.out.size hb))⟩
      · have e1 : decide (t + (x.s.length : Int) > 1048576) = false := decide_eq_false hbig
        go_wp2
        go_roundg (l.length - (k + 1))
        case measure => omega
        case rel => exact ⟨k + 1, _, by omega, by omega, by go_num, rfl, by omega, by omega, HKW.out.trans (((Kept.refl _ wr).alloc (Nat.le_refl _) _).mono (fun b hb => Nat.le_trans HKW.out.size hb))⟩
    · clear hkw
      go_wp2
      go_ret
      refine ⟨_, rfl, fun h => ?_, HKW.out⟩
      have := of_decide_eq_true h
      omega
end
end Go.Proofs.YtemppijblfflgabGreatDoor.Ev
namespace Go.Proofs.YtemppijblfflgabGreatDoor.Ev
open Go Go.RowKit

/-- What the law wants to lie in memory from the start. -/
structure LawE (B : Nat) (ea : Nat → Addr) (gx : Nat × Nat) (w0 : World) : Prop where
  env : Env B ea w0
  obj : ErrObj B ea w0
  words : WordsG w0 gx
theorem LawE.later {B : Nat} {ea : Nat → Addr} {gx : Nat × Nat} {w w' : World} (h : LawE B ea gx w) (hk : Kept (fun b => w.heap.size ≤ b) w w') : LawE B ea gx w' :=
  ⟨h.env.kept hk (fun b hb => Nat.le_trans h.env.size hb), h.obj.kept hk (fun b hb => Nat.le_trans h.env.size hb), h.words.kept hk⟩
/-- A step: it answers true, and the world is a law's world again. -/
def OutStL (w0 : World) (gw : Nat) (m : Nat) (y : Ending) (w' : World) : Prop :=
  y = .returned (.bool true) ∧ ∃ o' E' ps' ves' vls' vl', LW (fun _ => True) w0 w' gw o' E' ps' ves' vls' vl' (m + 1)
def opV (x : OpL) : Value := .agg #[.int .i64 x.kind, .int .i64 x.a, .int .u64 x.key, vs x.s]

section
variable {w0 w : World} {gw : Nat} {o : Nat → Nat} {E : List Eng} {ps : List (Nat × Nat)} {ves vls : Value} {vl : List Value} {m : Nat} {B : Nat} {gx : Nat × Nat} {ea : Nat → Addr} {x : OpL}
set_option maxRecDepth 100000 in
set_option maxHeartbeats 4000000 in
theorem step_load (hE : LawE B ea gx w0) (h : LW (fun _ => True) w0 w gw o E ps ves vls vl m) (hm : m ≤ 1999999) (hk : x.kind = 1) :
    Calls Tryz.prog 13 #[.pointer (some ⟨gw, 0, none⟩), opV x] w (OutStL w0 gw m) := by
  have HL := Lib.hid (fun W (hk : Kept (fun b => w.heap.size ≤ b) w W) => lload_any (K := fun _ => True) (gw := gw) (hE.env.kept (h.kept.trans (hk.mono (fun b hb => Nat.le_trans h.kept.size hb))) (fun b hb => Nat.le_trans hE.env.size hb)) (hE.obj.kept (h.kept.trans (hk.mono (fun b hb => Nat.le_trans h.kept.size hb))) (fun b hb => Nat.le_trans hE.env.size hb)) (hE.words.kept (h.kept.trans (hk.mono (fun b hb => Nat.le_trans h.kept.size hb)))) (h.later hk) hm x.s)
  obtain ⟨kd, a, key, s⟩ := x
  change kd = 1 at hk
  subst hk
  clear hE h
  unfold opV
  go_enter Tryz.func13, Tryz.ntmps13
  go_wp2_with fail
  refine (HL.out _ ?_).mono ?_
  · exact (Kept.refl _ _).alloc (Nat.le_refl _) _
  rintro y w1 ⟨rfl, h1⟩
  have H1 := Lib.hid h1
  clear h1
  go_wp2
  go_ret
  have h2 := H1.out
  cases hr : read s with
  | error e => rw [hr] at h2; obtain ⟨o', ves', hq⟩ := h2; exact ⟨rfl, o', _, _, _, _, _, hq⟩
  | ok p => rw [hr] at h2; obtain ⟨o', ves', ge, gs, hq⟩ := h2; exact ⟨rfl, o', _, _, _, _, _, hq⟩
end
end Go.Proofs.YtemppijblfflgabGreatDoor.Ev
namespace Go.Proofs.YtemppijblfflgabGreatDoor.Ev
open Go Go.RowKit

section
variable {w : World}
/-- The law's world at first. -/
theorem LW.start (w : World) : LW (fun _ => True) w (w.alloc (.cells #[.slice none 0 0, .slice none 0 0, .bool false] 32)) w.heap.size (fun _ => 0) [] [] (.slice none 0 0) (.slice none 0 0) [] 0 := by
  refine ⟨Row.new w 32 [.slice none 0 0, .slice none 0 0, .bool false], Sl.nil_ _ _ _ _, Sl.nil_ _ _ _ _, fun i v h => by simp at h, rfl, fun i e p _ h => by simp at h, (Kept.refl _ w).alloc (Nat.le_refl _) _, ⟨rfl, Nat.le_refl _⟩, Nat.le_refl _, Nat.le_refl _⟩
end

section
variable {w : World} {v : Value} {l : List OpL} {only : Int}
set_option maxRecDepth 100000 in
set_option maxHeartbeats 4000000 in
theorem upto_one (h : ScriptR w v l) (hl : l.length ≤ 1048576) (ho : 0 < only)
    (hstep : ∀ (W : World) (gw : Nat) (o : Nat → Nat) (E : List Eng) (ps : List (Nat × Nat)) (ves vls : Value) (vl : List Value) (m : Nat) (x : OpL), LW (fun _ => True) w W gw o E ps ves vls vl m → m ≤ 1999999 → OpB x → ¬ stageOf x.kind > stageOf only →
      Calls Tryz.prog 13 #[.pointer (some ⟨gw, 0, none⟩), opV x] W (OutStL w gw m)) :
    Calls Tryz.prog 11 #[v, .int .i64 only] w fun y w' => y = .returned (.int .i64 (-1)) ∧ Kept (fun b => w.heap.size ≤ b) w w' := by
  obtain ⟨a, c, rfl, hl4, hop, _⟩ := id h
  have e1 : decide (only > 0) = true := decide_eq_true ho
  have e2 : decide (only = 0) = false := decide_eq_false (by omega)
  have e3 : decide (only = -1) = false := decide_eq_false (by omega)
  have h1 := LW.start w
  have H := Lib.hid h
  have HS := Lib.hid hstep
  have H1 := Lib.hid h1
  clear h hstep hop h1
  go_enter Tryz.func11, Tryz.ntmps11
  go_wp2_with fail
  go_loopg [12] l.length (fun gg s12 wr => ∃ (k : Nat) (o : Nat → Nat) (E : List Eng) (ps : List (Nat × Nat)) (ves vls : Value) (vl : List Value), k ≤ l.length ∧ l.length - k ≤ gg ∧ s12 = .int .i64 k ∧ LW (fun _ => True) w wr w.heap.size o E ps ves vls vl k)
  case atStart => exact ⟨0, _, _, _, _, _, _, Nat.zero_le _, by omega, rfl, H1.out⟩
  case round =>
    obtain ⟨k, o, E, ps, ves, vls, vl, hk, hg, rfl, hw⟩ := hrel
    by_cases hlt : k < l.length
    · obtain ⟨x, hx⟩ : ∃ x, l[k]? = some x := ⟨_, List.getElem?_eq_getElem hlt⟩
      obtain ⟨g, off, rfl, q1, q2, q3, q4, q5, hb⟩ := (H.out.later hw.kept).at_ hx
      have hlate := fun W (hk : Kept (fun b => wr.heap.size ≤ b) wr W) => hw.later hk
      have hks : k ≤ 1999999 := by omega
      have HLT := Lib.hid hlate
      have HB := Lib.hid hb
      clear hx hw hb hlate
      by_cases hst : stageOf x.kind > stageOf only
      · have e4 : decide (stageOf x.kind > stageOf only) = true := decide_eq_true hst
        unfold vs at *
        go_wp2_with (first | (go_at_call 12; refine (stage_any _).mono ?_; rintro e w' ⟨rfl, rfl⟩))
        go_roundg (l.length - (k + 1))
        case measure => omega
        case rel => exact ⟨k + 1, o, E, ps, ves, vls, vl, by omega, by omega, by go_num, (HLT.out _ ((Kept.refl _ _).alloc (Nat.le_refl _) _)).up (Nat.le_succ _)⟩
      · have e4 : decide (stageOf x.kind > stageOf only) = false := decide_eq_false hst
        have HC := Lib.hid (fun W hk => HS.out W _ _ _ _ _ _ _ _ x (HLT.out W hk) hks HB.out (by omega))
        unfold opV at HC
        unfold vs at *
        go_wp2_with (first | (go_at_call 12; refine (stage_any _).mono ?_; rintro e w' ⟨rfl, rfl⟩))
        refine (HC.out _ ?_).mono ?_
        · exact (Kept.refl _ _).alloc (Nat.le_refl _) _
        rintro y w1 ⟨rfl, o', E', ps', ves', vls', vl', hw1⟩
        have HW1 := Lib.hid hw1
        clear hw1
        go_wp2
        go_roundg (l.length - (k + 1))
        case measure => omega
        case rel => exact ⟨k + 1, o', E', ps', ves', vls', vl', by omega, by omega, by go_num, HW1.out⟩
    · go_wp2
      go_ret
      exact ⟨rfl, hw.kept⟩
end
end Go.Proofs.YtemppijblfflgabGreatDoor.Ev
namespace Go.Proofs.YtemppijblfflgabGreatDoor.Ev
open Go Go.RowKit

section
variable {B : Nat} {ea : Nat → Addr} {gx : Nat × Nat} {w : World} {v : Value} {l : List OpL}
theorem stage_one {k : Int} (h : ¬ stageOf k > stageOf 1) : k = 1 := by
  have e1 : stageOf 1 = 1 := by unfold stageOf; simp
  rcases kind_cases k with rfl | rfl | rfl | rfl | ⟨h1, h2, h3, h4⟩
  · rfl
  · exact absurd (by decide) h
  · exact absurd (by decide) h
  · exact absurd (by decide) h
  · exact absurd (by rw [e1]; unfold stageOf; rw [if_neg h1, if_neg h2, if_neg (by omega)]; decide) h
set_option maxRecDepth 100000 in
set_option maxHeartbeats 4000000 in
theorem loads_walk (hE : LawE B ea gx w) (h : ScriptR w v l) : Calls Tryz.prog 3 #[v] w fun e W' => e = .returned (.bool true) ∧ Kept (fun b => w.heap.size ≤ b) w W' := by
  have HS := Lib.hid (small_any h)
  have HU := Lib.hid (fun W (hk : Kept (fun b => w.heap.size ≤ b) w W) (hl : l.length ≤ 1048576) => upto_one (h.later hk) hl (only := 1) (by decide) (fun W2 gw o E ps ves vls vl m x hw hm hx hst => step_load (hE.later hk) hw hm (stage_one hst)))
  obtain ⟨a, c, rfl, _⟩ := id h
  clear hE h
  go_enter Tryz.func3, Tryz.ntmps3
  go_wp2_with fail
  refine HS.out.mono ?_
  rintro y w1 ⟨b, rfl, hb, hk1⟩
  have HB := Lib.hid hb
  have HK1 := Lib.hid hk1
  clear hb hk1
  cases b with
  | false =>
    go_wp2
    go_ret
    exact ⟨rfl, HK1.out⟩
  | true =>
    go_wp2_with fail
    refine (HU.out _ HK1.out (HB.out (by first | rfl | trivial))).mono ?_
    rintro y w2 ⟨rfl, hk2⟩
    have HK2 := Lib.hid hk2
    clear hk2
    go_wp2
    go_ret
    exact ⟨rfl, HK1.out.trans (HK2.out.mono (fun b hb => Nat.le_trans HK1.out.size hb))⟩
end
end Go.Proofs.YtemppijblfflgabGreatDoor.Ev
