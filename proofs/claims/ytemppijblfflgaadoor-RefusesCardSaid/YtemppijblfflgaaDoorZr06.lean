/- The reader's statements: the words for the walk. The reader's plain statements: walked. Printed by a program of ours (genstmt.py). The reader's statements 'if' and 'repeat', and what is none; all statements and blocks. The reader's statements and blocks, all. What holds of every policy that was read. No program in sight. The reader's rules: walked. The reader's declarations: walked. Conditions: none. -/
import Derived.Deep.DeepCutAuto
import Derived.Deep.CutBlock
import Derived.Deep.DeepMust
import Derived.Maps.OwnSet
import Derived.RegionDies
import Derived.Test.YtemppijblfflgaaDoorZr01
import Derived.Test.YtemppijblfflgaaDoorZr04
import Derived.Test.YtemppijblfflgaaDoorZr05
set_option linter.all false
namespace Go.Proofs.YtemppijblfflgaaDoor.Ev
open Go Go.RowKit

abbrev zeros13 : List Value := [vs [], .int .i64 0, .int .i64 0, .bool false, vs [], .int .i64 0, vs [], .int .i64 0, vs [], .int .i64 0, .bool false, .slice none 0 0, .slice none 0 0]

/-- The reader in the midst of a statement, beside the result's block R and the statement's C. -/
structure HeldS (B : Nat) (ea : Nat → Addr) (g gp bm : Nat) (vd : Value) (s : Bytes) (st0 : PS) (w0 : World) (wp0 : Value) (st : PS) (w : World) (wp : Value) (R C : Nat) (cs ds : List Value) : Prop where
  base : RdR B ea w0 g gp bm vd wp0 s st0
  decls : st.decls = st0.decls
  freq : st.freq = st0.freq
  rules : st.rules = st0.rules
  i : st.i ≤ s.length
  kg : Kg g w0 w
  row : Row w g 64 (rdCells s st gp wp)
  wrong : WrongR B ea w wp st.wrong
  rowR : Row w R 136 cs
  rowC : Row w C 136 ds
  newR : w0.heap.size ≤ R
  newC : w0.heap.size ≤ C
  ne : R ≠ C

section
variable {B : Nat} {ea : Nat → Addr} {w w0 : World} {g gp bm R C : Nat} {vd wp wp0 : Value} {s : Bytes} {st st0 : PS} {cs ds : List Value}

theorem HeldS.rd (h : HeldS B ea g gp bm vd s st0 w0 wp0 st w wp R C cs ds) : RdR B ea w g gp bm vd wp s st := h.base.later h.kg h.row h.decls h.freq h.rules h.wrong h.i
theorem HeldS.start (h : RdR B ea w g gp bm vd wp s st) (ds : List Value) :
    HeldS B ea g gp bm vd s st w wp st ((w.alloc (.cells #[vs [], .int .i64 0, .int .i64 0, .bool false, vs [], .int .i64 0, vs [], .int .i64 0, vs [], .int .i64 0, .bool false, .slice none 0 0, .slice none 0 0] 136)).alloc (.cells ds.toArray 136)) wp w.heap.size (w.heap.size + 1) [vs [], .int .i64 0, .int .i64 0, .bool false, vs [], .int .i64 0, vs [], .int .i64 0, vs [], .int .i64 0, .bool false, .slice none 0 0, .slice none 0 0] ds := by
  have hA := (h.alloc (.cells #[vs [], .int .i64 0, .int .i64 0, .bool false, vs [], .int .i64 0, vs [], .int .i64 0, vs [], .int .i64 0, .bool false, .slice none 0 0, .slice none 0 0] 136)).alloc (.cells ds.toArray 136)
  have e : (w.alloc (.cells #[vs [], .int .i64 0, .int .i64 0, .bool false, vs [], .int .i64 0, vs [], .int .i64 0, vs [], .int .i64 0, .bool false, .slice none 0 0, .slice none 0 0] 136)).heap.size = w.heap.size + 1 := by simp
  have hr := Row.new (w.alloc (.cells #[vs [], .int .i64 0, .int .i64 0, .bool false, vs [], .int .i64 0, vs [], .int .i64 0, vs [], .int .i64 0, .bool false, .slice none 0 0, .slice none 0 0] 136)) 136 ds
  rw [e] at hr
  exact ⟨h, rfl, rfl, rfl, h.i, ((Kept.refl _ w).alloc (.inr (Nat.le_refl _)) _).alloc (.inr (by simp)) _, hA.row, hA.wrong, (Row.new w 136 [vs [], .int .i64 0, .int .i64 0, .bool false, vs [], .int .i64 0, vs [], .int .i64 0, vs [], .int .i64 0, .bool false, .slice none 0 0, .slice none 0 0]).alloc _, hr, Nat.le_refl _, by omega, by omega⟩
theorem HeldS.call (h : HeldS B ea g gp bm vd s st0 w0 wp0 st w wp R C cs ds) {w' : World} {st' : PS} {vd' wp' : Value} (hk : Kg g w w') (hr : RdR B ea w' g gp bm vd' wp' s st') (hd : st'.decls = st.decls) (hf : st'.freq = st.freq) (hru : st'.rules = st.rules) :
    HeldS B ea g gp bm vd s st0 w0 wp0 st' w' wp' R C cs ds :=
  ⟨h.base, hd.trans h.decls, hf.trans h.freq, hru.trans h.rules, hr.i, Kg.trans h.kg hk, hr.row, hr.wrong, (kg_at hk h.rowR.lt (h.rowR.ne_ h.row (by decide))).trans h.rowR, (kg_at hk h.rowC.lt (h.rowC.ne_ h.row (by decide))).trans h.rowC, h.newR, h.newC, h.ne⟩
theorem HeldS.setR (h : HeldS B ea g gp bm vd s st0 w0 wp0 st w wp R C cs ds) (i : Nat) (u : Value) : HeldS B ea g gp bm vd s st0 w0 wp0 st (w.setCell ⟨R, i, none⟩ u) wp R C (cs.set i u) ds :=
  ⟨h.base, h.decls, h.freq, h.rules, h.i, h.kg.setCell (p := ⟨R, i, none⟩) (.inr h.newR) u, h.row.far (h.row.ne_ h.rowR (by decide)) u, h.wrong.row_kept (Kept.one w ⟨R, i, none⟩ u) (fun b cs hr e => hr.ne_ h.rowR (by decide) e), h.rowR.set_ i u, h.rowC.far (fun e => h.ne e.symm) u, h.newR, h.newC, h.ne⟩
theorem HeldS.setC (h : HeldS B ea g gp bm vd s st0 w0 wp0 st w wp R C cs ds) (i : Nat) (u : Value) : HeldS B ea g gp bm vd s st0 w0 wp0 st (w.setCell ⟨C, i, none⟩ u) wp R C cs (ds.set i u) :=
  ⟨h.base, h.decls, h.freq, h.rules, h.i, h.kg.setCell (p := ⟨C, i, none⟩) (.inr h.newC) u, h.row.far (h.row.ne_ h.rowC (by decide)) u, h.wrong.row_kept (Kept.one w ⟨C, i, none⟩ u) (fun b cs hr e => hr.ne_ h.rowC (by decide) e), h.rowR.far h.ne u, h.rowC.set_ i u, h.newR, h.newC, h.ne⟩

/-- The statement copied into the result's block. -/
abbrev copied (w : World) (R : Nat) (d0 d1 d2 d3 d4 d5 d6 d7 d8 d9 d10 d11 d12 : Value) : World :=
  ((((((((((((w.setCell ⟨R, 0, none⟩ d0).setCell ⟨R, 1, none⟩ d1).setCell ⟨R, 2, none⟩ d2).setCell ⟨R, 3, none⟩ d3).setCell ⟨R, 4, none⟩ d4).setCell ⟨R, 5, none⟩ d5).setCell ⟨R, 6, none⟩ d6).setCell ⟨R, 7, none⟩ d7).setCell ⟨R, 8, none⟩ d8).setCell ⟨R, 9, none⟩ d9).setCell ⟨R, 10, none⟩ d10).setCell ⟨R, 11, none⟩ d11).setCell ⟨R, 12, none⟩ d12
theorem HeldS.copy (h : HeldS B ea g gp bm vd s st0 w0 wp0 st w wp R C zeros13 ds) (d0 d1 d2 d3 d4 d5 d6 d7 d8 d9 d10 d11 d12 : Value) :
    HeldS B ea g gp bm vd s st0 w0 wp0 st (copied w R d0 d1 d2 d3 d4 d5 d6 d7 d8 d9 d10 d11 d12) wp R C [d0, d1, d2, d3, d4, d5, d6, d7, d8, d9, d10, d11, d12] ds :=
  ((((((((((((h.setR 0 d0).setR 1 d1).setR 2 d2).setR 3 d3).setR 4 d4).setR 5 d5).setR 6 d6).setR 7 d7).setR 8 d8).setR 9 d9).setR 10 d10).setR 11 d11).setR 12 d12

theorem cells13 {t : TypeId} {d0 d1 d2 d3 d4 d5 d6 d7 d8 d9 d10 d11 d12 : Value} (h : Row w C t [d0, d1, d2, d3, d4, d5, d6, d7, d8, d9, d10, d11, d12]) :
    w.cell? ⟨C, 0, none⟩ = some d0 ∧ w.cell? ⟨C, 1, none⟩ = some d1 ∧ w.cell? ⟨C, 2, none⟩ = some d2 ∧ w.cell? ⟨C, 3, none⟩ = some d3 ∧ w.cell? ⟨C, 4, none⟩ = some d4 ∧ w.cell? ⟨C, 5, none⟩ = some d5 ∧ w.cell? ⟨C, 6, none⟩ = some d6 ∧
    w.cell? ⟨C, 7, none⟩ = some d7 ∧ w.cell? ⟨C, 8, none⟩ = some d8 ∧ w.cell? ⟨C, 9, none⟩ = some d9 ∧ w.cell? ⟨C, 10, none⟩ = some d10 ∧ w.cell? ⟨C, 11, none⟩ = some d11 ∧ w.cell? ⟨C, 12, none⟩ = some d12 :=
  ⟨h.cell 0, h.cell 1, h.cell 2, h.cell 3, h.cell 4, h.cell 5, h.cell 6, h.cell 7, h.cell 8, h.cell 9, h.cell 10, h.cell 11, h.cell 12⟩

theorem sizeStmt (w : World) : (Go.sizeOf 136).run Tryd.prog w = .ok 13 w := by kernel_rfl
theorem aggStmt (w : World) : (isAgg 136).run Tryd.prog w = .ok true w := by kernel_rfl

theorem prim_stmtV (w0 w' : World) (p : Prim) : StmtV w0 w' (.prim p .nil) (.agg (encPrim p).toArray) :=
  ⟨encPrim p, rfl, rfl, ⟨_, _, _, _, _, _, _, _, _, _, _, _, _, _, _, _, _, rfl⟩, ⟨[], by simp, rfl⟩⟩
end
end Go.Proofs.YtemppijblfflgaaDoor.Ev
namespace Go.Proofs.YtemppijblfflgaaDoor.Ev
open Go Go.RowKit

section
variable {B : Nat} {ea : Nat → Addr} {w : World} {g gp bm : Nat} {vd wp : Value} {s : Bytes} {st : PS}

set_option maxRecDepth 100000 in
set_option maxHeartbeats 4000000 in
theorem stmt_put (h : RdR B ea w g gp bm vd wp s st) (ok : st.Ok s) (hk : st.t.kind = kPut) :
    Calls Tryd.prog 44 #[.pointer (some ⟨g, 0, none⟩)] w fun e w' => OutR B ea w g gp bm s ((name s false (next s st)).bind fun q st => (want s kSemi (take s kTail st).2).bind fun _ st_ => .ok (.prim (.put q (take s kTail st).1) .nil) st_) (StmtV w) e w' := by
  have q0 := HeldS.start h [vs kPut, .int .i64 0, .int .i64 0, .bool false, vs [], .int .i64 0, vs [], .int .i64 0, vs [], .int .i64 0, .bool false, .slice none 0 0, .slice none 0 0]
  have hn := next_all q0.rd
  obtain ⟨_, _, c2, _⟩ := rd_cell (h.alloc (.cells #[vs [], .int .i64 0, .int .i64 0, .bool false, vs [], .int .i64 0, vs [], .int .i64 0, vs [], .int .i64 0, .bool false, .slice none 0 0, .slice none 0 0] 136)).row
  have hB := h.env.size
  have hg := h.g0
  rw [hk] at c2
  have Q0 := Lib.hid q0
  have HN := Lib.hid hn
  have HOK := Lib.hid ok
  clear q0 hn h ok hk
  unfold vs at *
  go_enter Tryd.func44, Tryd.ntmps44
  go_wp2_with fail
  refine HN.out.mono ?_
  rintro e w1 ⟨rfl, hk1, h1⟩
  have q1 := Q0.out.call hk1 h1 rfl rfl rfl
  have ok1 := next_ok HOK.out
  clear hk1 h1
  have hn0 := name_any q1.rd false
  obtain ⟨e0, e1, e2, e3, e4, e5, e6, e7, e8, e9, e10, e11, e12⟩ := cells13 q1.rowC
  have z := fun j => q1.rowC.frozen j
  have QN0 := Lib.hid q1
  have HN0 := Lib.hid hn0
  have HOK0 := Lib.hid ok1
  clear q1 hn0 ok1 e0 e1 e2 e3 e4 e5 e6 e7 e8 e9 e10 e11 e12 z
  go_wp2_with fail
  refine HN0.out.mono ?_
  rintro e wn0 ho
  cases hx0 : name s false (next s st) with
  | bad k pos =>
    rw [hx0] at ho
    obtain ⟨gf, rfl, hF⟩ := fails_held hB hg QN0.out.kg ho
    have HXhx0 := Lib.hid hx0
    clear hx0
    go_wp2
    refine ⟨rfl, ?_⟩
    rw [HXhx0.out]
    exact ⟨gf, rfl, hF⟩
  | ok n0 st1 =>
    rw [hx0] at ho
    obtain ⟨v, rfl, rfl, hkn0, vdn0, wpn0, hn0⟩ := ho
    have fw0 := (name_ok HOK0.out hx0).1
    have ok2 := fw0.ok
    have p0 := QN0.out.call hkn0 hn0 fw0.decls fw0.freq fw0.rules
    obtain ⟨e0, e1, e2, e3, e4, e5, e6, e7, e8, e9, e10, e11, e12⟩ := cells13 p0.rowC
    have z := fun j => p0.rowC.frozen j
    have q2 := p0.setC 1 (.int .i64 n0)
    have HXhx0 := Lib.hid hx0
    clear hkn0 hn0 hx0 p0 fw0
    have EZ := True.intro
    have ht := take_any q2.rd kTail
    have QT := Lib.hid q2
    have HT := Lib.hid ht
    have HOKT := Lib.hid ok2
    clear q2 ht ok2
    unfold vs at *
    go_wp2_with fail
    clear e0 e1 e2 e3 e4 e5 e6 e7 e8 e9 e10 e11 e12 z
    refine HT.out.mono ?_
    rintro e wt ⟨rfl, hkt, ht⟩
    have tp : (take s kTail st1).2.decls = st1.decls ∧ (take s kTail st1).2.freq = st1.freq ∧ (take s kTail st1).2.rules = st1.rules := by unfold take; split <;> exact ⟨rfl, rfl, rfl⟩
    have p9 := QT.out.call hkt ht tp.1 tp.2.1 tp.2.2
    obtain ⟨e0, e1, e2, e3, e4, e5, e6, e7, e8, e9, e10, e11, e12⟩ := cells13 p9.rowC
    have z := fun j => p9.rowC.frozen j
    have q10 := p9.setC 3 (.bool (take s kTail st1).1)
    clear hkt ht p9 tp
    have hw := want_any q10.rd kSemi
    have QW := Lib.hid q10
    have HW := Lib.hid hw
    clear q10 hw
    unfold vs at *
    go_wp2_with fail
    clear e0 e1 e2 e3 e4 e5 e6 e7 e8 e9 e10 e11 e12 z
    refine HW.out.mono ?_
    rintro e ww ho
    cases hxw : want s kSemi (take s kTail st1).2 with
    | bad k pos =>
      rw [hxw] at ho
      obtain ⟨gf, rfl, hF⟩ := fails_held hB hg QW.out.kg ho
      have HXhxw := Lib.hid hxw
      clear hxw
      go_wp2
      refine ⟨rfl, ?_⟩
      rw [HXhx0.out]
      show OutR _ _ _ _ _ _ _ ((want s kSemi (take s kTail st1).2).bind _) _ _ _
      rw [HXhxw.out]
      exact ⟨gf, rfl, hF⟩
    | ok tt st9 =>
      rw [hxw] at ho
      obtain ⟨v, rfl, rfl, hkw, vdw, wpw, hw⟩ := ho
      have hst9 := (want_ok hxw).2.2
      have p := QW.out.call hkw hw (by rw [hst9]; rfl) (by rw [hst9]; rfl) (by rw [hst9]; rfl)
      obtain ⟨e0, e1, e2, e3, e4, e5, e6, e7, e8, e9, e10, e11, e12⟩ := cells13 p.rowC
      obtain ⟨f0, f1, f2, f3, f4, f5, f6, f7, f8, f9, f10, f11, f12⟩ := cells13 p.rowR
      have z := fun j => p.rowC.frozen j
      have y := fun j => p.rowR.frozen j
      have q := p.copy (vs kPut) (.int .i64 n0) (.int .i64 0) (.bool (take s kTail st1).1) (vs []) (.int .i64 0) (vs []) (.int .i64 0) (vs []) (.int .i64 0) (.bool false) (.slice none 0 0) (.slice none 0 0)
      have HXhxw := Lib.hid hxw
      have Q := Lib.hid q
      clear hkw hw hxw p q hst9
      unfold encTok vs at *
      go_wp2
      refine bodyPost_ret (results_cell (cs := [vs kPut, .int .i64 n0, .int .i64 0, .bool (take s kTail st1).1, vs [], .int .i64 0, vs [], .int .i64 0, vs [], .int .i64 0, .bool false, .slice none 0 0, .slice none 0 0]) Tryd.results44 aggStmt sizeStmt rfl Q.out.rowR) rfl ?_
      rw [HXhx0.out]
      show OutR _ _ _ _ _ _ _ ((want s kSemi (take s kTail st1).2).bind _) _ _ _
      rw [HXhxw.out]
      exact ⟨_, rfl, prim_stmtV _ _ (.put n0 (take s kTail st1).1), Q.out.kg, _, _, Q.out.rd⟩

set_option maxRecDepth 100000 in
set_option maxHeartbeats 4000000 in
theorem stmt_evict (h : RdR B ea w g gp bm vd wp s st) (ok : st.Ok s) (hk : st.t.kind = kEvict) :
    Calls Tryd.prog 44 #[.pointer (some ⟨g, 0, none⟩)] w fun e w' => OutR B ea w g gp bm s ((name s false (next s st)).bind fun q st => (want s kSemi st).bind fun _ st_ => .ok (.prim (.evict q) .nil) st_) (StmtV w) e w' := by
  have q0 := HeldS.start h [vs kEvict, .int .i64 0, .int .i64 0, .bool false, vs [], .int .i64 0, vs [], .int .i64 0, vs [], .int .i64 0, .bool false, .slice none 0 0, .slice none 0 0]
  have hn := next_all q0.rd
  obtain ⟨_, _, c2, _⟩ := rd_cell (h.alloc (.cells #[vs [], .int .i64 0, .int .i64 0, .bool false, vs [], .int .i64 0, vs [], .int .i64 0, vs [], .int .i64 0, .bool false, .slice none 0 0, .slice none 0 0] 136)).row
  have hB := h.env.size
  have hg := h.g0
  rw [hk] at c2
  have Q0 := Lib.hid q0
  have HN := Lib.hid hn
  have HOK := Lib.hid ok
  clear q0 hn h ok hk
  unfold vs at *
  go_enter Tryd.func44, Tryd.ntmps44
  go_wp2_with fail
  refine HN.out.mono ?_
  rintro e w1 ⟨rfl, hk1, h1⟩
  have q1 := Q0.out.call hk1 h1 rfl rfl rfl
  have ok1 := next_ok HOK.out
  clear hk1 h1
  have hn0 := name_any q1.rd false
  obtain ⟨e0, e1, e2, e3, e4, e5, e6, e7, e8, e9, e10, e11, e12⟩ := cells13 q1.rowC
  have z := fun j => q1.rowC.frozen j
  have QN0 := Lib.hid q1
  have HN0 := Lib.hid hn0
  have HOK0 := Lib.hid ok1
  clear q1 hn0 ok1 e0 e1 e2 e3 e4 e5 e6 e7 e8 e9 e10 e11 e12 z
  go_wp2_with fail
  refine HN0.out.mono ?_
  rintro e wn0 ho
  cases hx0 : name s false (next s st) with
  | bad k pos =>
    rw [hx0] at ho
    obtain ⟨gf, rfl, hF⟩ := fails_held hB hg QN0.out.kg ho
    have HXhx0 := Lib.hid hx0
    clear hx0
    go_wp2
    refine ⟨rfl, ?_⟩
    rw [HXhx0.out]
    exact ⟨gf, rfl, hF⟩
  | ok n0 st1 =>
    rw [hx0] at ho
    obtain ⟨v, rfl, rfl, hkn0, vdn0, wpn0, hn0⟩ := ho
    have fw0 := (name_ok HOK0.out hx0).1
    have ok2 := fw0.ok
    have p0 := QN0.out.call hkn0 hn0 fw0.decls fw0.freq fw0.rules
    obtain ⟨e0, e1, e2, e3, e4, e5, e6, e7, e8, e9, e10, e11, e12⟩ := cells13 p0.rowC
    have z := fun j => p0.rowC.frozen j
    have q2 := p0.setC 1 (.int .i64 n0)
    have HXhx0 := Lib.hid hx0
    clear hkn0 hn0 hx0 p0 fw0
    have EZ := True.intro
    have q9 := q2.setC 3 (.bool false)
    clear q2
    have hw := want_any q9.rd kSemi
    have QW := Lib.hid q9
    have HW := Lib.hid hw
    clear q9 hw
    unfold vs at *
    go_wp2_with fail
    clear e0 e1 e2 e3 e4 e5 e6 e7 e8 e9 e10 e11 e12 z
    refine HW.out.mono ?_
    rintro e ww ho
    cases hxw : want s kSemi st1 with
    | bad k pos =>
      rw [hxw] at ho
      obtain ⟨gf, rfl, hF⟩ := fails_held hB hg QW.out.kg ho
      have HXhxw := Lib.hid hxw
      clear hxw
      go_wp2
      refine ⟨rfl, ?_⟩
      rw [HXhx0.out]
      show OutR _ _ _ _ _ _ _ ((want s kSemi st1).bind _) _ _ _
      rw [HXhxw.out]
      exact ⟨gf, rfl, hF⟩
    | ok tt st9 =>
      rw [hxw] at ho
      obtain ⟨v, rfl, rfl, hkw, vdw, wpw, hw⟩ := ho
      have hst9 := (want_ok hxw).2.2
      have p := QW.out.call hkw hw (by rw [hst9]; rfl) (by rw [hst9]; rfl) (by rw [hst9]; rfl)
      obtain ⟨e0, e1, e2, e3, e4, e5, e6, e7, e8, e9, e10, e11, e12⟩ := cells13 p.rowC
      obtain ⟨f0, f1, f2, f3, f4, f5, f6, f7, f8, f9, f10, f11, f12⟩ := cells13 p.rowR
      have z := fun j => p.rowC.frozen j
      have y := fun j => p.rowR.frozen j
      have q := p.copy (vs kEvict) (.int .i64 n0) (.int .i64 0) (.bool false) (vs []) (.int .i64 0) (vs []) (.int .i64 0) (vs []) (.int .i64 0) (.bool false) (.slice none 0 0) (.slice none 0 0)
      have HXhxw := Lib.hid hxw
      have Q := Lib.hid q
      clear hkw hw hxw p q hst9
      unfold encTok vs at *
      go_wp2
      refine bodyPost_ret (results_cell (cs := [vs kEvict, .int .i64 n0, .int .i64 0, .bool false, vs [], .int .i64 0, vs [], .int .i64 0, vs [], .int .i64 0, .bool false, .slice none 0 0, .slice none 0 0]) Tryd.results44 aggStmt sizeStmt rfl Q.out.rowR) rfl ?_
      rw [HXhx0.out]
      show OutR _ _ _ _ _ _ _ ((want s kSemi st1).bind _) _ _ _
      rw [HXhxw.out]
      exact ⟨_, rfl, prim_stmtV _ _ (.evict n0), Q.out.kg, _, _, Q.out.rd⟩

set_option maxRecDepth 100000 in
set_option maxHeartbeats 4000000 in
theorem stmt_cool (h : RdR B ea w g gp bm vd wp s st) (ok : st.Ok s) (hk : st.t.kind = kCool) :
    Calls Tryd.prog 44 #[.pointer (some ⟨g, 0, none⟩)] w fun e w' => OutR B ea w g gp bm s ((name s false (next s st)).bind fun q st => (want s kSemi st).bind fun _ st_ => .ok (.prim (.cool q) .nil) st_) (StmtV w) e w' := by
  have q0 := HeldS.start h [vs kCool, .int .i64 0, .int .i64 0, .bool false, vs [], .int .i64 0, vs [], .int .i64 0, vs [], .int .i64 0, .bool false, .slice none 0 0, .slice none 0 0]
  have hn := next_all q0.rd
  obtain ⟨_, _, c2, _⟩ := rd_cell (h.alloc (.cells #[vs [], .int .i64 0, .int .i64 0, .bool false, vs [], .int .i64 0, vs [], .int .i64 0, vs [], .int .i64 0, .bool false, .slice none 0 0, .slice none 0 0] 136)).row
  have hB := h.env.size
  have hg := h.g0
  rw [hk] at c2
  have Q0 := Lib.hid q0
  have HN := Lib.hid hn
  have HOK := Lib.hid ok
  clear q0 hn h ok hk
  unfold vs at *
  go_enter Tryd.func44, Tryd.ntmps44
  go_wp2_with fail
  refine HN.out.mono ?_
  rintro e w1 ⟨rfl, hk1, h1⟩
  have q1 := Q0.out.call hk1 h1 rfl rfl rfl
  have ok1 := next_ok HOK.out
  clear hk1 h1
  have hn0 := name_any q1.rd false
  obtain ⟨e0, e1, e2, e3, e4, e5, e6, e7, e8, e9, e10, e11, e12⟩ := cells13 q1.rowC
  have z := fun j => q1.rowC.frozen j
  have QN0 := Lib.hid q1
  have HN0 := Lib.hid hn0
  have HOK0 := Lib.hid ok1
  clear q1 hn0 ok1 e0 e1 e2 e3 e4 e5 e6 e7 e8 e9 e10 e11 e12 z
  go_wp2_with fail
  refine HN0.out.mono ?_
  rintro e wn0 ho
  cases hx0 : name s false (next s st) with
  | bad k pos =>
    rw [hx0] at ho
    obtain ⟨gf, rfl, hF⟩ := fails_held hB hg QN0.out.kg ho
    have HXhx0 := Lib.hid hx0
    clear hx0
    go_wp2
    refine ⟨rfl, ?_⟩
    rw [HXhx0.out]
    exact ⟨gf, rfl, hF⟩
  | ok n0 st1 =>
    rw [hx0] at ho
    obtain ⟨v, rfl, rfl, hkn0, vdn0, wpn0, hn0⟩ := ho
    have fw0 := (name_ok HOK0.out hx0).1
    have ok2 := fw0.ok
    have p0 := QN0.out.call hkn0 hn0 fw0.decls fw0.freq fw0.rules
    obtain ⟨e0, e1, e2, e3, e4, e5, e6, e7, e8, e9, e10, e11, e12⟩ := cells13 p0.rowC
    have z := fun j => p0.rowC.frozen j
    have q2 := p0.setC 1 (.int .i64 n0)
    have HXhx0 := Lib.hid hx0
    clear hkn0 hn0 hx0 p0 fw0
    have EZ := True.intro
    have q9 := q2.setC 3 (.bool false)
    clear q2
    have hw := want_any q9.rd kSemi
    have QW := Lib.hid q9
    have HW := Lib.hid hw
    clear q9 hw
    unfold vs at *
    go_wp2_with fail
    clear e0 e1 e2 e3 e4 e5 e6 e7 e8 e9 e10 e11 e12 z
    refine HW.out.mono ?_
    rintro e ww ho
    cases hxw : want s kSemi st1 with
    | bad k pos =>
      rw [hxw] at ho
      obtain ⟨gf, rfl, hF⟩ := fails_held hB hg QW.out.kg ho
      have HXhxw := Lib.hid hxw
      clear hxw
      go_wp2
      refine ⟨rfl, ?_⟩
      rw [HXhx0.out]
      show OutR _ _ _ _ _ _ _ ((want s kSemi st1).bind _) _ _ _
      rw [HXhxw.out]
      exact ⟨gf, rfl, hF⟩
    | ok tt st9 =>
      rw [hxw] at ho
      obtain ⟨v, rfl, rfl, hkw, vdw, wpw, hw⟩ := ho
      have hst9 := (want_ok hxw).2.2
      have p := QW.out.call hkw hw (by rw [hst9]; rfl) (by rw [hst9]; rfl) (by rw [hst9]; rfl)
      obtain ⟨e0, e1, e2, e3, e4, e5, e6, e7, e8, e9, e10, e11, e12⟩ := cells13 p.rowC
      obtain ⟨f0, f1, f2, f3, f4, f5, f6, f7, f8, f9, f10, f11, f12⟩ := cells13 p.rowR
      have z := fun j => p.rowC.frozen j
      have y := fun j => p.rowR.frozen j
      have q := p.copy (vs kCool) (.int .i64 n0) (.int .i64 0) (.bool false) (vs []) (.int .i64 0) (vs []) (.int .i64 0) (vs []) (.int .i64 0) (.bool false) (.slice none 0 0) (.slice none 0 0)
      have HXhxw := Lib.hid hxw
      have Q := Lib.hid q
      clear hkw hw hxw p q hst9
      unfold encTok vs at *
      go_wp2
      refine bodyPost_ret (results_cell (cs := [vs kCool, .int .i64 n0, .int .i64 0, .bool false, vs [], .int .i64 0, vs [], .int .i64 0, vs [], .int .i64 0, .bool false, .slice none 0 0, .slice none 0 0]) Tryd.results44 aggStmt sizeStmt rfl Q.out.rowR) rfl ?_
      rw [HXhx0.out]
      show OutR _ _ _ _ _ _ _ ((want s kSemi st1).bind _) _ _ _
      rw [HXhxw.out]
      exact ⟨_, rfl, prim_stmtV _ _ (.cool n0), Q.out.kg, _, _, Q.out.rd⟩

set_option maxRecDepth 100000 in
set_option maxHeartbeats 4000000 in
theorem stmt_shift (h : RdR B ea w g gp bm vd wp s st) (ok : st.Ok s) (hk : st.t.kind = kShift) :
    Calls Tryd.prog 44 #[.pointer (some ⟨g, 0, none⟩)] w fun e w' => OutR B ea w g gp bm s ((name s false (next s st)).bind fun q st => (name s false st).bind fun p st => (want s kSemi (take s kTail st).2).bind fun _ st_ => .ok (.prim (.shift q p (take s kTail st).1) .nil) st_) (StmtV w) e w' := by
  have q0 := HeldS.start h [vs kShift, .int .i64 0, .int .i64 0, .bool false, vs [], .int .i64 0, vs [], .int .i64 0, vs [], .int .i64 0, .bool false, .slice none 0 0, .slice none 0 0]
  have hn := next_all q0.rd
  obtain ⟨_, _, c2, _⟩ := rd_cell (h.alloc (.cells #[vs [], .int .i64 0, .int .i64 0, .bool false, vs [], .int .i64 0, vs [], .int .i64 0, vs [], .int .i64 0, .bool false, .slice none 0 0, .slice none 0 0] 136)).row
  have hB := h.env.size
  have hg := h.g0
  rw [hk] at c2
  have Q0 := Lib.hid q0
  have HN := Lib.hid hn
  have HOK := Lib.hid ok
  clear q0 hn h ok hk
  unfold vs at *
  go_enter Tryd.func44, Tryd.ntmps44
  go_wp2_with fail
  refine HN.out.mono ?_
  rintro e w1 ⟨rfl, hk1, h1⟩
  have q1 := Q0.out.call hk1 h1 rfl rfl rfl
  have ok1 := next_ok HOK.out
  clear hk1 h1
  have hn0 := name_any q1.rd false
  obtain ⟨e0, e1, e2, e3, e4, e5, e6, e7, e8, e9, e10, e11, e12⟩ := cells13 q1.rowC
  have z := fun j => q1.rowC.frozen j
  have QN0 := Lib.hid q1
  have HN0 := Lib.hid hn0
  have HOK0 := Lib.hid ok1
  clear q1 hn0 ok1 e0 e1 e2 e3 e4 e5 e6 e7 e8 e9 e10 e11 e12 z
  go_wp2_with fail
  refine HN0.out.mono ?_
  rintro e wn0 ho
  cases hx0 : name s false (next s st) with
  | bad k pos =>
    rw [hx0] at ho
    obtain ⟨gf, rfl, hF⟩ := fails_held hB hg QN0.out.kg ho
    have HXhx0 := Lib.hid hx0
    clear hx0
    go_wp2
    refine ⟨rfl, ?_⟩
    rw [HXhx0.out]
    exact ⟨gf, rfl, hF⟩
  | ok n0 st1 =>
    rw [hx0] at ho
    obtain ⟨v, rfl, rfl, hkn0, vdn0, wpn0, hn0⟩ := ho
    have fw0 := (name_ok HOK0.out hx0).1
    have ok2 := fw0.ok
    have p0 := QN0.out.call hkn0 hn0 fw0.decls fw0.freq fw0.rules
    obtain ⟨e0, e1, e2, e3, e4, e5, e6, e7, e8, e9, e10, e11, e12⟩ := cells13 p0.rowC
    have z := fun j => p0.rowC.frozen j
    have q2 := p0.setC 1 (.int .i64 n0)
    have HXhx0 := Lib.hid hx0
    clear hkn0 hn0 hx0 p0 fw0
    have hnx := name_any q2.rd false
    have QN1 := Lib.hid q2
    have HN1 := Lib.hid hnx
    have HOK1 := Lib.hid ok2
    clear q2 hnx ok2
    unfold vs at *
    go_wp2_with fail
    clear e0 e1 e2 e3 e4 e5 e6 e7 e8 e9 e10 e11 e12 z
    refine HN1.out.mono ?_
    rintro e wn1 ho
    cases hx1 : name s false st1 with
    | bad k pos =>
      rw [hx1] at ho
      obtain ⟨gf, rfl, hF⟩ := fails_held hB hg QN1.out.kg ho
      have HXhx1 := Lib.hid hx1
      clear hx1
      go_wp2
      refine ⟨rfl, ?_⟩
      rw [HXhx0.out]
      show OutR _ _ _ _ _ _ _ ((name s false st1).bind _) _ _ _
      rw [HXhx1.out]
      exact ⟨gf, rfl, hF⟩
    | ok n1 st2 =>
      rw [hx1] at ho
      obtain ⟨v, rfl, rfl, hkn1, vdn1, wpn1, hn1⟩ := ho
      have fw1 := (name_ok HOK1.out hx1).1
      have ok3 := fw1.ok
      have p1 := QN1.out.call hkn1 hn1 fw1.decls fw1.freq fw1.rules
      obtain ⟨e0, e1, e2, e3, e4, e5, e6, e7, e8, e9, e10, e11, e12⟩ := cells13 p1.rowC
      have z := fun j => p1.rowC.frozen j
      have q3 := p1.setC 2 (.int .i64 n1)
      have HXhx1 := Lib.hid hx1
      clear hkn1 hn1 hx1 p1 fw1
      have ht := take_any q3.rd kTail
      have QT := Lib.hid q3
      have HT := Lib.hid ht
      have HOKT := Lib.hid ok3
      clear q3 ht ok3
      unfold vs at *
      go_wp2_with fail
      clear e0 e1 e2 e3 e4 e5 e6 e7 e8 e9 e10 e11 e12 z
      refine HT.out.mono ?_
      rintro e wt ⟨rfl, hkt, ht⟩
      have tp : (take s kTail st2).2.decls = st2.decls ∧ (take s kTail st2).2.freq = st2.freq ∧ (take s kTail st2).2.rules = st2.rules := by unfold take; split <;> exact ⟨rfl, rfl, rfl⟩
      have p9 := QT.out.call hkt ht tp.1 tp.2.1 tp.2.2
      obtain ⟨e0, e1, e2, e3, e4, e5, e6, e7, e8, e9, e10, e11, e12⟩ := cells13 p9.rowC
      have z := fun j => p9.rowC.frozen j
      have q10 := p9.setC 3 (.bool (take s kTail st2).1)
      clear hkt ht p9 tp
      have hw := want_any q10.rd kSemi
      have QW := Lib.hid q10
      have HW := Lib.hid hw
      clear q10 hw
      unfold vs at *
      go_wp2_with fail
      clear e0 e1 e2 e3 e4 e5 e6 e7 e8 e9 e10 e11 e12 z
      refine HW.out.mono ?_
      rintro e ww ho
      cases hxw : want s kSemi (take s kTail st2).2 with
      | bad k pos =>
        rw [hxw] at ho
        obtain ⟨gf, rfl, hF⟩ := fails_held hB hg QW.out.kg ho
        have HXhxw := Lib.hid hxw
        clear hxw
        go_wp2
        refine ⟨rfl, ?_⟩
        rw [HXhx0.out]
        show OutR _ _ _ _ _ _ _ ((name s false st1).bind _) _ _ _
        rw [HXhx1.out]
        show OutR _ _ _ _ _ _ _ ((want s kSemi (take s kTail st2).2).bind _) _ _ _
        rw [HXhxw.out]
        exact ⟨gf, rfl, hF⟩
      | ok tt st9 =>
        rw [hxw] at ho
        obtain ⟨v, rfl, rfl, hkw, vdw, wpw, hw⟩ := ho
        have hst9 := (want_ok hxw).2.2
        have p := QW.out.call hkw hw (by rw [hst9]; rfl) (by rw [hst9]; rfl) (by rw [hst9]; rfl)
        obtain ⟨e0, e1, e2, e3, e4, e5, e6, e7, e8, e9, e10, e11, e12⟩ := cells13 p.rowC
        obtain ⟨f0, f1, f2, f3, f4, f5, f6, f7, f8, f9, f10, f11, f12⟩ := cells13 p.rowR
        have z := fun j => p.rowC.frozen j
        have y := fun j => p.rowR.frozen j
        have q := p.copy (vs kShift) (.int .i64 n0) (.int .i64 n1) (.bool (take s kTail st2).1) (vs []) (.int .i64 0) (vs []) (.int .i64 0) (vs []) (.int .i64 0) (.bool false) (.slice none 0 0) (.slice none 0 0)
        have HXhxw := Lib.hid hxw
        have Q := Lib.hid q
        clear hkw hw hxw p q hst9
        unfold encTok vs at *
        go_wp2
        refine bodyPost_ret (results_cell (cs := [vs kShift, .int .i64 n0, .int .i64 n1, .bool (take s kTail st2).1, vs [], .int .i64 0, vs [], .int .i64 0, vs [], .int .i64 0, .bool false, .slice none 0 0, .slice none 0 0]) Tryd.results44 aggStmt sizeStmt rfl Q.out.rowR) rfl ?_
        rw [HXhx0.out]
        show OutR _ _ _ _ _ _ _ ((name s false st1).bind _) _ _ _
        rw [HXhx1.out]
        show OutR _ _ _ _ _ _ _ ((want s kSemi (take s kTail st2).2).bind _) _ _ _
        rw [HXhxw.out]
        exact ⟨_, rfl, prim_stmtV _ _ (.shift n0 n1 (take s kTail st2).1), Q.out.kg, _, _, Q.out.rd⟩

set_option maxRecDepth 100000 in
set_option maxHeartbeats 4000000 in
theorem stmt_inc (h : RdR B ea w g gp bm vd wp s st) (ok : st.Ok s) (hk : st.t.kind = kInc) :
    Calls Tryd.prog 44 #[.pointer (some ⟨g, 0, none⟩)] w fun e w' => OutR B ea w g gp bm s ((name s true (next s st)).bind fun v st => (want s kSemi st).bind fun _ st_ => .ok (.prim (.inc v) .nil) st_) (StmtV w) e w' := by
  have q0 := HeldS.start h [vs kInc, .int .i64 0, .int .i64 0, .bool false, vs [], .int .i64 0, vs [], .int .i64 0, vs [], .int .i64 0, .bool false, .slice none 0 0, .slice none 0 0]
  have hn := next_all q0.rd
  obtain ⟨_, _, c2, _⟩ := rd_cell (h.alloc (.cells #[vs [], .int .i64 0, .int .i64 0, .bool false, vs [], .int .i64 0, vs [], .int .i64 0, vs [], .int .i64 0, .bool false, .slice none 0 0, .slice none 0 0] 136)).row
  have hB := h.env.size
  have hg := h.g0
  rw [hk] at c2
  have Q0 := Lib.hid q0
  have HN := Lib.hid hn
  have HOK := Lib.hid ok
  clear q0 hn h ok hk
  unfold vs at *
  go_enter Tryd.func44, Tryd.ntmps44
  go_wp2_with fail
  refine HN.out.mono ?_
  rintro e w1 ⟨rfl, hk1, h1⟩
  have q1 := Q0.out.call hk1 h1 rfl rfl rfl
  have ok1 := next_ok HOK.out
  clear hk1 h1
  have hn0 := name_any q1.rd true
  obtain ⟨e0, e1, e2, e3, e4, e5, e6, e7, e8, e9, e10, e11, e12⟩ := cells13 q1.rowC
  have z := fun j => q1.rowC.frozen j
  have QN0 := Lib.hid q1
  have HN0 := Lib.hid hn0
  have HOK0 := Lib.hid ok1
  clear q1 hn0 ok1 e0 e1 e2 e3 e4 e5 e6 e7 e8 e9 e10 e11 e12 z
  go_wp2_with fail
  refine HN0.out.mono ?_
  rintro e wn0 ho
  cases hx0 : name s true (next s st) with
  | bad k pos =>
    rw [hx0] at ho
    obtain ⟨gf, rfl, hF⟩ := fails_held hB hg QN0.out.kg ho
    have HXhx0 := Lib.hid hx0
    clear hx0
    go_wp2
    refine ⟨rfl, ?_⟩
    rw [HXhx0.out]
    exact ⟨gf, rfl, hF⟩
  | ok n0 st1 =>
    rw [hx0] at ho
    obtain ⟨v, rfl, rfl, hkn0, vdn0, wpn0, hn0⟩ := ho
    have fw0 := (name_ok HOK0.out hx0).1
    have ok2 := fw0.ok
    have p0 := QN0.out.call hkn0 hn0 fw0.decls fw0.freq fw0.rules
    obtain ⟨e0, e1, e2, e3, e4, e5, e6, e7, e8, e9, e10, e11, e12⟩ := cells13 p0.rowC
    have z := fun j => p0.rowC.frozen j
    have q2 := p0.setC 1 (.int .i64 n0)
    have HXhx0 := Lib.hid hx0
    clear hkn0 hn0 hx0 p0 fw0
    have EZ := True.intro
    have hw := want_any q2.rd kSemi
    have QW := Lib.hid q2
    have HW := Lib.hid hw
    clear q2 hw
    unfold vs at *
    go_wp2_with fail
    clear e0 e1 e2 e3 e4 e5 e6 e7 e8 e9 e10 e11 e12 z
    refine HW.out.mono ?_
    rintro e ww ho
    cases hxw : want s kSemi st1 with
    | bad k pos =>
      rw [hxw] at ho
      obtain ⟨gf, rfl, hF⟩ := fails_held hB hg QW.out.kg ho
      have HXhxw := Lib.hid hxw
      clear hxw
      go_wp2
      refine ⟨rfl, ?_⟩
      rw [HXhx0.out]
      show OutR _ _ _ _ _ _ _ ((want s kSemi st1).bind _) _ _ _
      rw [HXhxw.out]
      exact ⟨gf, rfl, hF⟩
    | ok tt st9 =>
      rw [hxw] at ho
      obtain ⟨v, rfl, rfl, hkw, vdw, wpw, hw⟩ := ho
      have hst9 := (want_ok hxw).2.2
      have p := QW.out.call hkw hw (by rw [hst9]; rfl) (by rw [hst9]; rfl) (by rw [hst9]; rfl)
      obtain ⟨e0, e1, e2, e3, e4, e5, e6, e7, e8, e9, e10, e11, e12⟩ := cells13 p.rowC
      obtain ⟨f0, f1, f2, f3, f4, f5, f6, f7, f8, f9, f10, f11, f12⟩ := cells13 p.rowR
      have z := fun j => p.rowC.frozen j
      have y := fun j => p.rowR.frozen j
      have q := p.copy (vs kInc) (.int .i64 n0) (.int .i64 0) (.bool false) (vs []) (.int .i64 0) (vs []) (.int .i64 0) (vs []) (.int .i64 0) (.bool false) (.slice none 0 0) (.slice none 0 0)
      have HXhxw := Lib.hid hxw
      have Q := Lib.hid q
      clear hkw hw hxw p q hst9
      unfold encTok vs at *
      go_wp2
      refine bodyPost_ret (results_cell (cs := [vs kInc, .int .i64 n0, .int .i64 0, .bool false, vs [], .int .i64 0, vs [], .int .i64 0, vs [], .int .i64 0, .bool false, .slice none 0 0, .slice none 0 0]) Tryd.results44 aggStmt sizeStmt rfl Q.out.rowR) rfl ?_
      rw [HXhx0.out]
      show OutR _ _ _ _ _ _ _ ((want s kSemi st1).bind _) _ _ _
      rw [HXhxw.out]
      exact ⟨_, rfl, prim_stmtV _ _ (.inc n0), Q.out.kg, _, _, Q.out.rd⟩

set_option maxRecDepth 100000 in
set_option maxHeartbeats 4000000 in
theorem stmt_dec (h : RdR B ea w g gp bm vd wp s st) (ok : st.Ok s) (hk : st.t.kind = kDec) :
    Calls Tryd.prog 44 #[.pointer (some ⟨g, 0, none⟩)] w fun e w' => OutR B ea w g gp bm s ((name s true (next s st)).bind fun v st => (want s kSemi st).bind fun _ st_ => .ok (.prim (.dec v) .nil) st_) (StmtV w) e w' := by
  have q0 := HeldS.start h [vs kDec, .int .i64 0, .int .i64 0, .bool false, vs [], .int .i64 0, vs [], .int .i64 0, vs [], .int .i64 0, .bool false, .slice none 0 0, .slice none 0 0]
  have hn := next_all q0.rd
  obtain ⟨_, _, c2, _⟩ := rd_cell (h.alloc (.cells #[vs [], .int .i64 0, .int .i64 0, .bool false, vs [], .int .i64 0, vs [], .int .i64 0, vs [], .int .i64 0, .bool false, .slice none 0 0, .slice none 0 0] 136)).row
  have hB := h.env.size
  have hg := h.g0
  rw [hk] at c2
  have Q0 := Lib.hid q0
  have HN := Lib.hid hn
  have HOK := Lib.hid ok
  clear q0 hn h ok hk
  unfold vs at *
  go_enter Tryd.func44, Tryd.ntmps44
  go_wp2_with fail
  refine HN.out.mono ?_
  rintro e w1 ⟨rfl, hk1, h1⟩
  have q1 := Q0.out.call hk1 h1 rfl rfl rfl
  have ok1 := next_ok HOK.out
  clear hk1 h1
  have hn0 := name_any q1.rd true
  obtain ⟨e0, e1, e2, e3, e4, e5, e6, e7, e8, e9, e10, e11, e12⟩ := cells13 q1.rowC
  have z := fun j => q1.rowC.frozen j
  have QN0 := Lib.hid q1
  have HN0 := Lib.hid hn0
  have HOK0 := Lib.hid ok1
  clear q1 hn0 ok1 e0 e1 e2 e3 e4 e5 e6 e7 e8 e9 e10 e11 e12 z
  go_wp2_with fail
  refine HN0.out.mono ?_
  rintro e wn0 ho
  cases hx0 : name s true (next s st) with
  | bad k pos =>
    rw [hx0] at ho
    obtain ⟨gf, rfl, hF⟩ := fails_held hB hg QN0.out.kg ho
    have HXhx0 := Lib.hid hx0
    clear hx0
    go_wp2
    refine ⟨rfl, ?_⟩
    rw [HXhx0.out]
    exact ⟨gf, rfl, hF⟩
  | ok n0 st1 =>
    rw [hx0] at ho
    obtain ⟨v, rfl, rfl, hkn0, vdn0, wpn0, hn0⟩ := ho
    have fw0 := (name_ok HOK0.out hx0).1
    have ok2 := fw0.ok
    have p0 := QN0.out.call hkn0 hn0 fw0.decls fw0.freq fw0.rules
    obtain ⟨e0, e1, e2, e3, e4, e5, e6, e7, e8, e9, e10, e11, e12⟩ := cells13 p0.rowC
    have z := fun j => p0.rowC.frozen j
    have q2 := p0.setC 1 (.int .i64 n0)
    have HXhx0 := Lib.hid hx0
    clear hkn0 hn0 hx0 p0 fw0
    have EZ := True.intro
    have hw := want_any q2.rd kSemi
    have QW := Lib.hid q2
    have HW := Lib.hid hw
    clear q2 hw
    unfold vs at *
    go_wp2_with fail
    clear e0 e1 e2 e3 e4 e5 e6 e7 e8 e9 e10 e11 e12 z
    refine HW.out.mono ?_
    rintro e ww ho
    cases hxw : want s kSemi st1 with
    | bad k pos =>
      rw [hxw] at ho
      obtain ⟨gf, rfl, hF⟩ := fails_held hB hg QW.out.kg ho
      have HXhxw := Lib.hid hxw
      clear hxw
      go_wp2
      refine ⟨rfl, ?_⟩
      rw [HXhx0.out]
      show OutR _ _ _ _ _ _ _ ((want s kSemi st1).bind _) _ _ _
      rw [HXhxw.out]
      exact ⟨gf, rfl, hF⟩
    | ok tt st9 =>
      rw [hxw] at ho
      obtain ⟨v, rfl, rfl, hkw, vdw, wpw, hw⟩ := ho
      have hst9 := (want_ok hxw).2.2
      have p := QW.out.call hkw hw (by rw [hst9]; rfl) (by rw [hst9]; rfl) (by rw [hst9]; rfl)
      obtain ⟨e0, e1, e2, e3, e4, e5, e6, e7, e8, e9, e10, e11, e12⟩ := cells13 p.rowC
      obtain ⟨f0, f1, f2, f3, f4, f5, f6, f7, f8, f9, f10, f11, f12⟩ := cells13 p.rowR
      have z := fun j => p.rowC.frozen j
      have y := fun j => p.rowR.frozen j
      have q := p.copy (vs kDec) (.int .i64 n0) (.int .i64 0) (.bool false) (vs []) (.int .i64 0) (vs []) (.int .i64 0) (vs []) (.int .i64 0) (.bool false) (.slice none 0 0) (.slice none 0 0)
      have HXhxw := Lib.hid hxw
      have Q := Lib.hid q
      clear hkw hw hxw p q hst9
      unfold encTok vs at *
      go_wp2
      refine bodyPost_ret (results_cell (cs := [vs kDec, .int .i64 n0, .int .i64 0, .bool false, vs [], .int .i64 0, vs [], .int .i64 0, vs [], .int .i64 0, .bool false, .slice none 0 0, .slice none 0 0]) Tryd.results44 aggStmt sizeStmt rfl Q.out.rowR) rfl ?_
      rw [HXhx0.out]
      show OutR _ _ _ _ _ _ _ ((want s kSemi st1).bind _) _ _ _
      rw [HXhxw.out]
      exact ⟨_, rfl, prim_stmtV _ _ (.dec n0), Q.out.kg, _, _, Q.out.rd⟩

set_option maxRecDepth 100000 in
set_option maxHeartbeats 4000000 in
theorem stmt_drop (h : RdR B ea w g gp bm vd wp s st) (ok : st.Ok s) (hk : st.t.kind = kDrop) :
    Calls Tryd.prog 44 #[.pointer (some ⟨g, 0, none⟩)] w fun e w' => OutR B ea w g gp bm s ((want s kSemi (next s st)).bind fun _ st_ => .ok (.prim (.drop) .nil) st_) (StmtV w) e w' := by
  have q0 := HeldS.start h [vs kDrop, .int .i64 0, .int .i64 0, .bool false, vs [], .int .i64 0, vs [], .int .i64 0, vs [], .int .i64 0, .bool false, .slice none 0 0, .slice none 0 0]
  have hn := next_all q0.rd
  obtain ⟨_, _, c2, _⟩ := rd_cell (h.alloc (.cells #[vs [], .int .i64 0, .int .i64 0, .bool false, vs [], .int .i64 0, vs [], .int .i64 0, vs [], .int .i64 0, .bool false, .slice none 0 0, .slice none 0 0] 136)).row
  have hB := h.env.size
  have hg := h.g0
  rw [hk] at c2
  have Q0 := Lib.hid q0
  have HN := Lib.hid hn
  have HOK := Lib.hid ok
  clear q0 hn h ok hk
  unfold vs at *
  go_enter Tryd.func44, Tryd.ntmps44
  go_wp2_with fail
  refine HN.out.mono ?_
  rintro e w1 ⟨rfl, hk1, h1⟩
  have q1 := Q0.out.call hk1 h1 rfl rfl rfl
  have ok1 := next_ok HOK.out
  clear hk1 h1
  obtain ⟨e0, e1, e2, e3, e4, e5, e6, e7, e8, e9, e10, e11, e12⟩ := cells13 q1.rowC
  have z := fun j => q1.rowC.frozen j
  have hw := want_any q1.rd kSemi
  have QW := Lib.hid q1
  have HW := Lib.hid hw
  clear q1 hw
  unfold vs at *
  go_wp2_with fail
  clear e0 e1 e2 e3 e4 e5 e6 e7 e8 e9 e10 e11 e12 z
  refine HW.out.mono ?_
  rintro e ww ho
  cases hxw : want s kSemi (next s st) with
  | bad k pos =>
    rw [hxw] at ho
    obtain ⟨gf, rfl, hF⟩ := fails_held hB hg QW.out.kg ho
    have HXhxw := Lib.hid hxw
    clear hxw
    go_wp2
    refine ⟨rfl, ?_⟩
    rw [HXhxw.out]
    exact ⟨gf, rfl, hF⟩
  | ok tt st9 =>
    rw [hxw] at ho
    obtain ⟨v, rfl, rfl, hkw, vdw, wpw, hw⟩ := ho
    have hst9 := (want_ok hxw).2.2
    have p := QW.out.call hkw hw (by rw [hst9]; rfl) (by rw [hst9]; rfl) (by rw [hst9]; rfl)
    obtain ⟨e0, e1, e2, e3, e4, e5, e6, e7, e8, e9, e10, e11, e12⟩ := cells13 p.rowC
    obtain ⟨f0, f1, f2, f3, f4, f5, f6, f7, f8, f9, f10, f11, f12⟩ := cells13 p.rowR
    have z := fun j => p.rowC.frozen j
    have y := fun j => p.rowR.frozen j
    have q := p.copy (vs kDrop) (.int .i64 0) (.int .i64 0) (.bool false) (vs []) (.int .i64 0) (vs []) (.int .i64 0) (vs []) (.int .i64 0) (.bool false) (.slice none 0 0) (.slice none 0 0)
    have HXhxw := Lib.hid hxw
    have Q := Lib.hid q
    clear hkw hw hxw p q hst9
    unfold encTok vs at *
    go_wp2
    refine bodyPost_ret (results_cell (cs := [vs kDrop, .int .i64 0, .int .i64 0, .bool false, vs [], .int .i64 0, vs [], .int .i64 0, vs [], .int .i64 0, .bool false, .slice none 0 0, .slice none 0 0]) Tryd.results44 aggStmt sizeStmt rfl Q.out.rowR) rfl ?_
    rw [HXhxw.out]
    exact ⟨_, rfl, prim_stmtV _ _ (.drop), Q.out.kg, _, _, Q.out.rd⟩

set_option maxRecDepth 100000 in
set_option maxHeartbeats 4000000 in
theorem stmt_bump (h : RdR B ea w g gp bm vd wp s st) (ok : st.Ok s) (hk : st.t.kind = kBump) :
    Calls Tryd.prog 44 #[.pointer (some ⟨g, 0, none⟩)] w fun e w' => OutR B ea w g gp bm s ((want s kSemi (next s st)).bind fun _ st_ => .ok (.prim (.bump) .nil) st_) (StmtV w) e w' := by
  have q0 := HeldS.start h [vs kBump, .int .i64 0, .int .i64 0, .bool false, vs [], .int .i64 0, vs [], .int .i64 0, vs [], .int .i64 0, .bool false, .slice none 0 0, .slice none 0 0]
  have hn := next_all q0.rd
  obtain ⟨_, _, c2, _⟩ := rd_cell (h.alloc (.cells #[vs [], .int .i64 0, .int .i64 0, .bool false, vs [], .int .i64 0, vs [], .int .i64 0, vs [], .int .i64 0, .bool false, .slice none 0 0, .slice none 0 0] 136)).row
  have hB := h.env.size
  have hg := h.g0
  rw [hk] at c2
  have Q0 := Lib.hid q0
  have HN := Lib.hid hn
  have HOK := Lib.hid ok
  clear q0 hn h ok hk
  unfold vs at *
  go_enter Tryd.func44, Tryd.ntmps44
  go_wp2_with fail
  refine HN.out.mono ?_
  rintro e w1 ⟨rfl, hk1, h1⟩
  have q1 := Q0.out.call hk1 h1 rfl rfl rfl
  have ok1 := next_ok HOK.out
  clear hk1 h1
  obtain ⟨e0, e1, e2, e3, e4, e5, e6, e7, e8, e9, e10, e11, e12⟩ := cells13 q1.rowC
  have z := fun j => q1.rowC.frozen j
  have hw := want_any q1.rd kSemi
  have QW := Lib.hid q1
  have HW := Lib.hid hw
  clear q1 hw
  unfold vs at *
  go_wp2_with fail
  clear e0 e1 e2 e3 e4 e5 e6 e7 e8 e9 e10 e11 e12 z
  refine HW.out.mono ?_
  rintro e ww ho
  cases hxw : want s kSemi (next s st) with
  | bad k pos =>
    rw [hxw] at ho
    obtain ⟨gf, rfl, hF⟩ := fails_held hB hg QW.out.kg ho
    have HXhxw := Lib.hid hxw
    clear hxw
    go_wp2
    refine ⟨rfl, ?_⟩
    rw [HXhxw.out]
    exact ⟨gf, rfl, hF⟩
  | ok tt st9 =>
    rw [hxw] at ho
    obtain ⟨v, rfl, rfl, hkw, vdw, wpw, hw⟩ := ho
    have hst9 := (want_ok hxw).2.2
    have p := QW.out.call hkw hw (by rw [hst9]; rfl) (by rw [hst9]; rfl) (by rw [hst9]; rfl)
    obtain ⟨e0, e1, e2, e3, e4, e5, e6, e7, e8, e9, e10, e11, e12⟩ := cells13 p.rowC
    obtain ⟨f0, f1, f2, f3, f4, f5, f6, f7, f8, f9, f10, f11, f12⟩ := cells13 p.rowR
    have z := fun j => p.rowC.frozen j
    have y := fun j => p.rowR.frozen j
    have q := p.copy (vs kBump) (.int .i64 0) (.int .i64 0) (.bool false) (vs []) (.int .i64 0) (vs []) (.int .i64 0) (vs []) (.int .i64 0) (.bool false) (.slice none 0 0) (.slice none 0 0)
    have HXhxw := Lib.hid hxw
    have Q := Lib.hid q
    clear hkw hw hxw p q hst9
    unfold encTok vs at *
    go_wp2
    refine bodyPost_ret (results_cell (cs := [vs kBump, .int .i64 0, .int .i64 0, .bool false, vs [], .int .i64 0, vs [], .int .i64 0, vs [], .int .i64 0, .bool false, .slice none 0 0, .slice none 0 0]) Tryd.results44 aggStmt sizeStmt rfl Q.out.rowR) rfl ?_
    rw [HXhxw.out]
    exact ⟨_, rfl, prim_stmtV _ _ (.bump), Q.out.kg, _, _, Q.out.rd⟩

end
end Go.Proofs.YtemppijblfflgaaDoor.Ev
namespace Go.Proofs.YtemppijblfflgaaDoor.Ev
open Go Go.RowKit

section
variable {B : Nat} {ea : Nat → Addr} {w : World} {g gp bm : Nat} {vd wp : Value} {s : Bytes} {st : PS}

theorem BlkV.later {N : Nat → Prop} {w w' : World} {v : Value} {b : Blk} (h : BlkV N w v b) (hk : Kg g w w') {cs : List Value} (hr : Row w g 64 cs) : BlkV N w' v b :=
  h.kept (fun k cs' _ hk' => kg_at hk hk'.lt (hk'.ne_ hr (by decide)))
theorem BlkV.far {N : Nat → Prop} {w : World} {v : Value} {b : Blk} (h : BlkV N w v b) {C : Nat} (hC : ¬ N C) (i : Nat) (u : Value) : BlkV N (w.setCell ⟨C, i, none⟩ u) v b :=
  h.kept (fun k cs' hk _ => (Kept.one w ⟨C, i, none⟩ u).block k (fun (e : k = C) => hC (e ▸ hk)))
theorem BlkV.form_ {N : Nat → Prop} {w : World} {v : Value} {b : Blk} (h : BlkV N w v b) : ∃ g n c, v = .slice (some ⟨g, 0, none⟩) n c := by
  obtain ⟨cs, ⟨_, g, c, hv⟩, _⟩ := h
  exact ⟨g, _, c, hv⟩

theorem BlkV.copied {N : Nat → Prop} {w : World} {v : Value} {b : Blk} (h : BlkV N w v b) {R : Nat} (hR : ¬ N R) (d0 d1 d2 d3 d4 d5 d6 d7 d8 d9 d10 d11 d12 : Value) : BlkV N (copied w R d0 d1 d2 d3 d4 d5 d6 d7 d8 d9 d10 d11 d12) v b :=
  ((((((((((((h.far hR 0 d0).far hR 1 d1).far hR 2 d2).far hR 3 d3).far hR 4 d4).far hR 5 d5).far hR 6 d6).far hR 7 d7).far hR 8 d8).far hR 9 d9).far hR 10 d10).far hR 11 d11).far hR 12 d12

set_option maxRecDepth 100000 in
set_option maxHeartbeats 4000000 in
theorem stmt_none (h : RdR B ea w g gp bm vd wp s st) (h1 : st.t.kind ≠ kPut) (h2 : st.t.kind ≠ kEvict) (h3 : st.t.kind ≠ kCool) (h4 : st.t.kind ≠ kShift) (h5 : st.t.kind ≠ kInc) (h6 : st.t.kind ≠ kDec) (h7 : st.t.kind ≠ kDrop)
    (h8 : st.t.kind ≠ kBump) (h9 : st.t.kind ≠ kIf) (h10 : st.t.kind ≠ kRepeat) :
    Calls Tryd.prog 44 #[.pointer (some ⟨g, 0, none⟩)] w fun e w' => OutR B ea w g gp bm s (fail eSyntax st) (StmtV w) e w' := by
  have hA := h.alloc (.cells #[vs [], .int .i64 0, .int .i64 0, .bool false, vs [], .int .i64 0, vs [], .int .i64 0, vs [], .int .i64 0, .bool false, .slice none 0 0, .slice none 0 0] 136)
  obtain ⟨_, _, c2, _⟩ := rd_cell hA.row
  have hA2 := hA.alloc (.cells #[vs st.t.kind, .int .i64 0, .int .i64 0, .bool false, vs [], .int .i64 0, vs [], .int .i64 0, vs [], .int .i64 0, .bool false, .slice none 0 0, .slice none 0 0] 136)
  have herr : ((w.alloc (.cells #[vs [], .int .i64 0, .int .i64 0, .bool false, vs [], .int .i64 0, vs [], .int .i64 0, vs [], .int .i64 0, .bool false, .slice none 0 0, .slice none 0 0] 136)).alloc
      (.cells #[vs st.t.kind, .int .i64 0, .int .i64 0, .bool false, vs [], .int .i64 0, vs [], .int .i64 0, vs [], .int .i64 0, .bool false, .slice none 0 0, .slice none 0 0] 136)).cell? ⟨7, 0, none⟩ = some (.iface 171 (.pointer (some (ea 2)))) := hA2.env.err 2 (by omega) (by omega)
  have hf := fail_any hA2 2
  have hB := h.env.size
  have hg := h.g0
  have kg : Kg g w ((w.alloc (.cells #[vs [], .int .i64 0, .int .i64 0, .bool false, vs [], .int .i64 0, vs [], .int .i64 0, vs [], .int .i64 0, .bool false, .slice none 0 0, .slice none 0 0] 136)).alloc
      (.cells #[vs st.t.kind, .int .i64 0, .int .i64 0, .bool false, vs [], .int .i64 0, vs [], .int .i64 0, vs [], .int .i64 0, .bool false, .slice none 0 0, .slice none 0 0] 136)) :=
    ((Kept.refl _ w).alloc (.inr (Nat.le_refl _)) _).alloc (.inr (by simp)) _
  have e1 : (st.t.kind == kPut) = false := by simpa using h1
  have e2 : (st.t.kind == kEvict) = false := by simpa using h2
  have e3 : (st.t.kind == kCool) = false := by simpa using h3
  have e4 : (st.t.kind == kShift) = false := by simpa using h4
  have e5 : (st.t.kind == kInc) = false := by simpa using h5
  have e6 : (st.t.kind == kDec) = false := by simpa using h6
  have e7 : (st.t.kind == kDrop) = false := by simpa using h7
  have e8 : (st.t.kind == kBump) = false := by simpa using h8
  have e9 : (st.t.kind == kIf) = false := by simpa using h9
  have e10 : (st.t.kind == kRepeat) = false := by simpa using h10
  have HF := Lib.hid hf
  have KG := Lib.hid kg
  clear hf hA hA2 kg h h1 h2 h3 h4 h5 h6 h7 h8 h9 h10
  unfold vs errV at *
  go_enter Tryd.func44, Tryd.ntmps44
  go_wp2_with fail
  refine HF.out.mono ?_
  rintro e w1 ho
  obtain ⟨gf, rfl, hF⟩ := fails_held hB hg KG.out ho
  go_wp2
  exact ⟨rfl, gf, rfl, hF⟩

theorem ite_stmtV {w0 w' : World} {c : Cond} {t e : Blk} {o : Bool} {vt ve : Value} (h1 : BlkV (fun k => w0.heap.size ≤ k) w' vt t) (h2 : if o then BlkV (fun k => w0.heap.size ≤ k) w' ve e else ve = vnil ∧ e = .nil) :
    StmtV w0 w' (.ite c t o e .nil) (.agg (encIf c vt ve).toArray) := by
  obtain ⟨b0, n1, b2, n3, hv⟩ := ckVals_form c.k
  have e0 : encIf c vt ve = [vs kIf, .int .i64 0, .int .i64 0, .bool false, vs (ckWord c.k), .int .i64 (ckNum c.k), vs b0, .int .i64 n1, vs b2, .int .i64 n3, .bool (oddB c.nots), vt, ve] := by unfold encIf encCond; rw [hv]; rfl
  obtain ⟨g1, n1', c1, hv1⟩ := h1.form_
  have hve : ∃ a n c, ve = .slice a n c := by
    cases o with
    | true => obtain ⟨g2, n2, c2, h⟩ := BlkV.form_ h2; exact ⟨_, _, _, h⟩
    | false => exact ⟨_, _, _, h2.1⟩
  obtain ⟨a2, n2', c2, hv2⟩ := hve
  refine ⟨encIf c vt ve, rfl, rfl, ⟨_, _, _, _, _, _, _, _, _, _, _, _, _, _, _, _, _, by rw [e0, hv1, hv2]⟩, ⟨vt, ve, [], by simp, h1, ?_, rfl⟩⟩
  exact h2
theorem rep_stmtV {w0 w' : World} {n : Int} {c : Cond} {b : Blk} {vt : Value} (h1 : BlkV (fun k => w0.heap.size ≤ k) w' vt b) : StmtV w0 w' (.rep n c b .nil) (.agg (encRep n c vt).toArray) := by
  obtain ⟨b0, n1, b2, n3, hv⟩ := ckVals_form c.k
  have e0 : encRep n c vt = [vs kRepeat, .int .i64 n, .int .i64 0, .bool false, vs (ckWord c.k), .int .i64 (ckNum c.k), vs b0, .int .i64 n1, vs b2, .int .i64 n3, .bool (oddB c.nots), vt, vnil] := by unfold encRep encCond; rw [hv]; rfl
  obtain ⟨g1, n1', c1, hv1⟩ := h1.form_
  exact ⟨encRep n c vt, rfl, rfl, ⟨_, _, _, _, _, _, _, _, _, _, _, _, _, _, _, _, _, by rw [e0, hv1]; rfl⟩, ⟨vt, [], by simp, h1, rfl⟩⟩

theorem if_fin {w w5 : World} {c : Cond} {t e : Blk} {gt nt ct : Nat} {ve : Value} {b0 : Bytes} {n1 : Int} {b2 : Bytes} {n3 : Int} {o : Bool}
    (hv : encCond c = [.string ⟨(ckWord c.k).toArray⟩, .int .i64 (ckNum c.k), .string ⟨b0.toArray⟩, .int .i64 n1, .string ⟨b2.toArray⟩, .int .i64 n3, .bool (oddB c.nots)])
    (h1 : BlkV (fun k => w.heap.size + 2 ≤ k) w5 (.slice (some ⟨gt, 0, none⟩) nt ct) t) (h2 : if o then BlkV (fun k => w.heap.size + 2 ≤ k) w5 ve e else ve = vnil ∧ e = .nil) (d0 d1 d2 d3 d4 d5 d6 d7 d8 d9 d10 d11 d12 : Value) :
    StmtV w (copied w5 w.heap.size d0 d1 d2 d3 d4 d5 d6 d7 d8 d9 d10 d11 d12) (.ite c t o e .nil)
      (.agg #[.string ⟨kIf.toArray⟩, .int .i64 0, .int .i64 0, .bool false, .string ⟨(ckWord c.k).toArray⟩, .int .i64 (ckNum c.k), .string ⟨b0.toArray⟩, .int .i64 n1, .string ⟨b2.toArray⟩, .int .i64 n3, .bool (oddB c.nots), .slice (some ⟨gt, 0, none⟩) nt ct, ve]) := by
  have a1 : BlkV (fun k => w.heap.size ≤ k) (copied w5 w.heap.size d0 d1 d2 d3 d4 d5 d6 d7 d8 d9 d10 d11 d12) (.slice (some ⟨gt, 0, none⟩) nt ct) t := (h1.copied (R := w.heap.size) (by omega) d0 d1 d2 d3 d4 d5 d6 d7 d8 d9 d10 d11 d12).mono (fun k _ hk => Nat.le_trans (Nat.le_add_right _ 2) hk)
  have a2 : if o then BlkV (fun k => w.heap.size ≤ k) (copied w5 w.heap.size d0 d1 d2 d3 d4 d5 d6 d7 d8 d9 d10 d11 d12) ve e else ve = vnil ∧ e = .nil := by
    cases o with
    | true =>
      rw [if_pos rfl] at h2 ⊢
      have a3 := BlkV.copied h2 (R := w.heap.size) (by omega) d0 d1 d2 d3 d4 d5 d6 d7 d8 d9 d10 d11 d12
      exact a3.mono (fun k _ hk => Nat.le_trans (Nat.le_add_right _ 2) hk)
    | false =>
      rw [if_neg Bool.false_ne_true] at h2 ⊢
      exact h2
  have hs := ite_stmtV a1 a2 (c := c)
  unfold encIf at hs
  rw [hv] at hs
  exact hs

theorem rep_fin {w w5 : World} {c : Cond} {b : Blk} {n : Int} {gt nt ct : Nat} {b0 : Bytes} {n1 : Int} {b2 : Bytes} {n3 : Int}
    (hv : encCond c = [.string ⟨(ckWord c.k).toArray⟩, .int .i64 (ckNum c.k), .string ⟨b0.toArray⟩, .int .i64 n1, .string ⟨b2.toArray⟩, .int .i64 n3, .bool (oddB c.nots)])
    (h1 : BlkV (fun k => w.heap.size + 2 ≤ k) w5 (.slice (some ⟨gt, 0, none⟩) nt ct) b) (d0 d1 d2 d3 d4 d5 d6 d7 d8 d9 d10 d11 d12 : Value) :
    StmtV w (copied w5 w.heap.size d0 d1 d2 d3 d4 d5 d6 d7 d8 d9 d10 d11 d12) (.rep n c b .nil)
      (.agg #[.string ⟨kRepeat.toArray⟩, .int .i64 n, .int .i64 0, .bool false, .string ⟨(ckWord c.k).toArray⟩, .int .i64 (ckNum c.k), .string ⟨b0.toArray⟩, .int .i64 n1, .string ⟨b2.toArray⟩, .int .i64 n3, .bool (oddB c.nots), .slice (some ⟨gt, 0, none⟩) nt ct, .slice none 0 0]) := by
  have a1 : BlkV (fun k => w.heap.size ≤ k) (copied w5 w.heap.size d0 d1 d2 d3 d4 d5 d6 d7 d8 d9 d10 d11 d12) (.slice (some ⟨gt, 0, none⟩) nt ct) b := (h1.copied (R := w.heap.size) (by omega) d0 d1 d2 d3 d4 d5 d6 d7 d8 d9 d10 d11 d12).mono (fun k _ hk => Nat.le_trans (Nat.le_add_right _ 2) hk)
  have hs := rep_stmtV (n := n) a1 (c := c)
  unfold encRep at hs
  rw [hv] at hs
  exact hs

set_option maxRecDepth 100000 in
set_option maxHeartbeats 8000000 in
theorem stmt_if (n : Nat) (hbl : BlockC B ea g gp bm s n) (h : RdR B ea w g gp bm vd wp s st) (ok : st.Ok s) (hd : st.depth ≤ 8) (hl : st.loops ≤ 2) (hn : 2 * left s st + 1 ≤ n + 1) (hk : st.t.kind = kIf) :
    Calls Tryd.prog 44 #[.pointer (some ⟨g, 0, none⟩)] w fun e w' => OutR B ea w g gp bm s
      ((cond s (n + 1) (next s st)).bind fun c st => (block s n st).bind fun t st =>
        if st.t.kind = kElse then (block s n (next s st)).bind fun e st => .ok (.ite c t true e .nil) st
        else .ok (.ite c t false .nil .nil) st) (StmtV w) e w' := by
  have q0 := HeldS.start h [vs kIf, .int .i64 0, .int .i64 0, .bool false, vs [], .int .i64 0, vs [], .int .i64 0, vs [], .int .i64 0, .bool false, .slice none 0 0, .slice none 0 0]
  have hnx := next_all q0.rd
  obtain ⟨_, _, c2, _⟩ := rd_cell (h.alloc (.cells #[vs [], .int .i64 0, .int .i64 0, .bool false, vs [], .int .i64 0, vs [], .int .i64 0, vs [], .int .i64 0, .bool false, .slice none 0 0, .slice none 0 0] 136)).row
  have hB := h.env.size
  have hg := h.g0
  have hl1 := next_lt ok hk (by decide) (by decide)
  rw [hk] at c2
  have Q0 := Lib.hid q0
  have HN := Lib.hid hnx
  have HOK := Lib.hid (next_ok ok)
  have HBL := Lib.hid hbl
  have HL1 := Lib.hid hl1
  have HNN := Lib.hid hn
  clear q0 hnx h ok hk hbl hl1 hn
  unfold vs at *
  go_enter Tryd.func44, Tryd.ntmps44
  go_wp2_with fail
  refine HN.out.mono ?_
  rintro e w1 ⟨rfl, hk1, h1⟩
  have q1 := Q0.out.call hk1 h1 rfl rfl rfl
  have hc := cond_any (n + 1) (next s st) _ _ _ q1.rd HOK.out (by have := HL1.out; have := HNN.out; omega)
  obtain ⟨e0, e1, e2, e3, e4, e5, e6, e7, e8, e9, e10, e11, e12⟩ := cells13 q1.rowC
  have z := fun j => q1.rowC.frozen j
  have Q1 := Lib.hid q1
  have HC := Lib.hid hc
  clear hk1 h1 q1 hc
  unfold vs at *
  go_wp2_with fail
  refine HC.out.mono ?_
  rintro e w2 ho
  clear e0 e1 e2 e3 e4 e5 e6 e7 e8 e9 e10 e11 e12 z
  cases hxc : cond s (n + 1) (next s st) with
  | bad k pos =>
    rw [hxc] at ho
    obtain ⟨gf, rfl, hF⟩ := fails_held hB hg Q1.out.kg ho
    have HXC := Lib.hid hxc
    clear hxc
    go_wp2
    refine ⟨rfl, ?_⟩
    rw [HXC.out]
    exact ⟨gf, rfl, hF⟩
  | ok c st1 =>
    rw [hxc] at ho
    obtain ⟨v, rfl, rfl, hk2, vd2, wp2, h2⟩ := ho
    obtain ⟨fw, lt, _⟩ := cond_ok HOK.out hxc
    obtain ⟨b0, n1, b2, n3, hv⟩ := ckVals_form c.k
    have ec : encCond c = [.string ⟨(ckWord c.k).toArray⟩, .int .i64 (ckNum c.k), .string ⟨b0.toArray⟩, .int .i64 n1, .string ⟨b2.toArray⟩, .int .i64 n3, .bool (oddB c.nots)] := by unfold encCond; rw [hv]; rfl
    have p2 := Q1.out.call hk2 h2 fw.decls fw.freq fw.rules
    obtain ⟨e0, e1, e2, e3, e4, e5, e6, e7, e8, e9, e10, e11, e12⟩ := cells13 p2.rowC
    have z := fun j => p2.rowC.frozen j
    have q2 := ((((((p2.setC 4 (.string ⟨(ckWord c.k).toArray⟩)).setC 5 (.int .i64 (ckNum c.k))).setC 6 (.string ⟨b0.toArray⟩)).setC 7 (.int .i64 n1)).setC 8 (.string ⟨b2.toArray⟩)).setC 9 (.int .i64 n3)).setC 10 (.bool (oddB c.nots))
    have hb := HBL.out st1 _ _ _ q2.rd fw.ok (by have := fw.depth; simp only [next] at this; omega) (by have := fw.loops; simp only [next] at this; omega) (by have := HL1.out; have := HNN.out; omega)
    have HXC := Lib.hid hxc
    have HFW := Lib.hid fw
    have HLT := Lib.hid lt
    have Q2 := Lib.hid q2
    have HB := Lib.hid hb
    have EC := Lib.hid ec
    rw [ec]
    clear hk2 h2 p2 q2 hb hxc fw lt hv ec
    unfold vs at *
    go_wp2_with fail
    refine HB.out.mono ?_
    rintro e w3 ho
    clear e0 e1 e2 e3 e4 e5 e6 e7 e8 e9 e10 e11 e12 z
    cases hxt : block s n st1 with
    | bad k pos =>
      rw [hxt] at ho
      obtain ⟨gf, rfl, hF⟩ := fails_held hB hg Q2.out.kg ho
      have HXT := Lib.hid hxt
      clear hxt
      go_wp2
      refine ⟨rfl, ?_⟩
      rw [HXC.out]
      show OutR _ _ _ _ _ _ _ ((block s n st1).bind _) _ _ _
      rw [HXT.out]
      exact ⟨gf, rfl, hF⟩
    | ok t st2 =>
      rw [hxt] at ho
      obtain ⟨vt, rfl, hvt, hk3, vd3, wp3, h3⟩ := ho
      have hbk := block_ok HFW.out.ok (by have := HFW.out.depth; simp only [next] at this; omega) (by have := HFW.out.loops; simp only [next] at this; omega) hxt
      have fw := hbk.1
      have hlt2 := hbk.2.2.2.2.2
      obtain ⟨gt, nt, ct, rfl⟩ := hvt.form_
      have p3 := Q2.out.call hk3 h3 fw.decls fw.freq fw.rules
      obtain ⟨e0, e1, e2, e3, e4, e5, e6, e7, e8, e9, e10, e11, e12⟩ := cells13 p3.rowC
      have z := fun j => p3.rowC.frozen j
      have q3 := p3.setC 11 (.slice (some ⟨gt, 0, none⟩) nt ct)
      have ht := take_any q3.rd kElse
      have hsz2 := Q2.out.kg.size
      have hCC := Q2.out.rowC.lt
      have hvt3 : BlkV (fun k => w.heap.size + 2 ≤ k) (w3.setCell ⟨w.heap.size + 1, 11, none⟩ (.slice (some ⟨gt, 0, none⟩) nt ct)) (.slice (some ⟨gt, 0, none⟩) nt ct) t :=
        (hvt.far (by omega) 11 _).mono (fun k _ hk => by omega)
      have hok2 := fw.ok
      have hd2 : st2.depth ≤ 8 := by have h1 := HFW.out.depth; have h2 := fw.depth; simp only [next] at h1; omega
      have hl2 : st2.loops ≤ 2 := by have h1 := HFW.out.loops; have h2 := fw.loops; simp only [next] at h1; omega
      have HXT := Lib.hid hxt
      have HVT := Lib.hid hvt3
      have Q3 := Lib.hid q3
      have HT := Lib.hid ht
      have HOK2 := Lib.hid hok2
      have HL3 := Lib.hid hlt2
      clear hk3 h3 p3 q3 ht hxt hvt hvt3 hbk fw hlt2 hsz2 hCC hok2
      unfold vs at *
      go_wp2_with fail
      refine HT.out.mono ?_
      rintro e w4 ⟨rfl, hk4, h4⟩
      clear e0 e1 e2 e3 e4 e5 e6 e7 e8 e9 e10 e11 e12 z
      by_cases hel : st2.t.kind = kElse
      · rw [take_yes hel] at h4
        have q4 := Q3.out.call hk4 h4 rfl rfl rfl
        have hl4 := next_lt HOK2.out hel (by decide) (by decide)
        have hb := HBL.out (next s st2) _ _ _ q4.rd (next_ok HOK2.out) hd2 hl2 (by have := HL1.out; have := HNN.out; have := HLT.out; have := HL3.out; omega)
        obtain ⟨e0, e1, e2, e3, e4, e5, e6, e7, e8, e9, e10, e11, e12⟩ := cells13 q4.rowC
        have z := fun j => q4.rowC.frozen j
        have hvt4 := HVT.out.later hk4 Q3.out.row
        have HVT4 := Lib.hid hvt4
        have Q4 := Lib.hid q4
        have HB4 := Lib.hid hb
        have HEL := Lib.hid hel
        have et : (take s kElse st2).1 = true := by rw [take_yes hel]
        rw [et]
        clear hk4 h4 q4 hb hvt4 hel hl4 et
        unfold vs at *
        go_wp2_with fail
        refine HB4.out.mono ?_
        rintro e w5 ho
        clear e0 e1 e2 e3 e4 e5 e6 e7 e8 e9 e10 e11 e12 z
        cases hxe : block s n (next s st2) with
        | bad k pos =>
          rw [hxe] at ho
          obtain ⟨gf, rfl, hF⟩ := fails_held hB hg Q4.out.kg ho
          have HXE := Lib.hid hxe
          clear hxe
          go_wp2
          refine ⟨rfl, ?_⟩
          rw [HXC.out]
          show OutR _ _ _ _ _ _ _ ((block s n st1).bind _) _ _ _
          rw [HXT.out]
          show OutR _ _ _ _ _ _ _ (if st2.t.kind = kElse then _ else _) _ _ _
          rw [if_pos HEL.out, HXE.out]
          exact ⟨gf, rfl, hF⟩
        | ok el st3 =>
          rw [hxe] at ho
          obtain ⟨ve, rfl, hve, hk5, vd5, wp5, h5⟩ := ho
          have fw := (block_ok (next_ok HOK2.out) hd2 hl2 hxe).1
          obtain ⟨ge, ne, ce, rfl⟩ := hve.form_
          have p5 := Q4.out.call hk5 h5 fw.decls fw.freq fw.rules
          obtain ⟨e0, e1, e2, e3, e4, e5, e6, e7, e8, e9, e10, e11, e12⟩ := cells13 p5.rowC
          obtain ⟨f0, f1, f2, f3, f4, f5, f6, f7, f8, f9, f10, f11, f12⟩ := cells13 p5.rowR
          have z := fun j => p5.rowC.frozen j
          have y := fun j => p5.rowR.frozen j
          have q5 := p5.setC 12 (.slice (some ⟨ge, 0, none⟩) ne ce)
          have q6 := q5.copy (.string ⟨kIf.toArray⟩) (.int .i64 0) (.int .i64 0) (.bool false) (.string ⟨(ckWord c.k).toArray⟩) (.int .i64 (ckNum c.k)) (.string ⟨b0.toArray⟩) (.int .i64 n1) (.string ⟨b2.toArray⟩) (.int .i64 n3) (.bool (oddB c.nots)) (.slice (some ⟨gt, 0, none⟩) nt ct) (.slice (some ⟨ge, 0, none⟩) ne ce)
          have hsz4 := Q4.out.kg.size
          have hvt5 := HVT4.out.later hk5 Q4.out.row
          have hCC4 := Q4.out.rowC.lt
          have hve5 : BlkV (fun k => w.heap.size + 2 ≤ k) w5 (.slice (some ⟨ge, 0, none⟩) ne ce) el := hve.mono (fun k _ hk => by omega)
          have HXE := Lib.hid hxe
          have Q6 := Lib.hid q6
          have HVE := Lib.hid hve5
          have HVT5 := Lib.hid hvt5
          clear hk5 h5 p5 q5 q6 hxe hve hve5 hvt5 fw hsz4 hCC4
          unfold vs at *
          go_wp2
          refine bodyPost_ret (results_cell (cs := [.string ⟨kIf.toArray⟩, .int .i64 0, .int .i64 0, .bool false, .string ⟨(ckWord c.k).toArray⟩, .int .i64 (ckNum c.k), .string ⟨b0.toArray⟩, .int .i64 n1, .string ⟨b2.toArray⟩, .int .i64 n3, .bool (oddB c.nots), .slice (some ⟨gt, 0, none⟩) nt ct, .slice (some ⟨ge, 0, none⟩) ne ce]) Tryd.results44 aggStmt sizeStmt rfl Q6.out.rowR) rfl ?_
          rw [HXC.out]
          show OutR _ _ _ _ _ _ _ ((block s n st1).bind _) _ _ _
          rw [HXT.out]
          show OutR _ _ _ _ _ _ _ (if st2.t.kind = kElse then _ else _) _ _ _
          rw [if_pos HEL.out, HXE.out]
          exact ⟨_, rfl, if_fin (o := true) (e := el) (ve := .slice (some ⟨ge, 0, none⟩) ne ce) EC.out (HVT5.out.far (C := w.heap.size + 1) (by omega) 12 (.slice (some ⟨ge, 0, none⟩) ne ce)) (by rw [if_pos rfl]; exact HVE.out.far (C := w.heap.size + 1) (by omega) 12 _) _ _ _ _ _ _ _ _ _ _ _ _ _, Q6.out.kg, _, _, Q6.out.rd⟩
      · rw [take_no hel] at h4
        have p4 := Q3.out.call hk4 h4 rfl rfl rfl
        obtain ⟨e0, e1, e2, e3, e4, e5, e6, e7, e8, e9, e10, e11, e12⟩ := cells13 p4.rowC
        obtain ⟨f0, f1, f2, f3, f4, f5, f6, f7, f8, f9, f10, f11, f12⟩ := cells13 p4.rowR
        have z := fun j => p4.rowC.frozen j
        have y := fun j => p4.rowR.frozen j
        have q6 := p4.copy (.string ⟨kIf.toArray⟩) (.int .i64 0) (.int .i64 0) (.bool false) (.string ⟨(ckWord c.k).toArray⟩) (.int .i64 (ckNum c.k)) (.string ⟨b0.toArray⟩) (.int .i64 n1) (.string ⟨b2.toArray⟩) (.int .i64 n3) (.bool (oddB c.nots)) (.slice (some ⟨gt, 0, none⟩) nt ct) (.slice none 0 0)
        have hvt4 := HVT.out.later hk4 Q3.out.row
        have HVT5 := Lib.hid hvt4
        have HEL := Lib.hid hel
        have Q6 := Lib.hid q6
        have et : (take s kElse st2).1 = false := by rw [take_no hel]
        rw [et]
        clear hk4 h4 p4 q6 hvt4 hel et
        unfold vs at *
        go_wp2
        refine bodyPost_ret (results_cell (cs := [.string ⟨kIf.toArray⟩, .int .i64 0, .int .i64 0, .bool false, .string ⟨(ckWord c.k).toArray⟩, .int .i64 (ckNum c.k), .string ⟨b0.toArray⟩, .int .i64 n1, .string ⟨b2.toArray⟩, .int .i64 n3, .bool (oddB c.nots), .slice (some ⟨gt, 0, none⟩) nt ct, .slice none 0 0]) Tryd.results44 aggStmt sizeStmt rfl Q6.out.rowR) rfl ?_
        rw [HXC.out]
        show OutR _ _ _ _ _ _ _ ((block s n st1).bind _) _ _ _
        rw [HXT.out]
        show OutR _ _ _ _ _ _ _ (if st2.t.kind = kElse then _ else _) _ _ _
        rw [if_neg HEL.out]
        exact ⟨_, rfl, if_fin (o := false) (e := .nil) (ve := .slice none 0 0) EC.out HVT5.out (by rw [if_neg Bool.false_ne_true]; exact ⟨rfl, rfl⟩) _ _ _ _ _ _ _ _ _ _ _ _ _, Q6.out.kg, _, _, Q6.out.rd⟩

theorem HeldS.loops {w0 : World} {wp0 : Value} {st0 : PS} {R C : Nat} {cs ds : List Value} (h : HeldS B ea g gp bm vd s st0 w0 wp0 st w wp R C cs ds) (n : Nat) {i : Int} (hi : i = n) :
    HeldS B ea g gp bm vd s st0 w0 wp0 { st with loops := n } (w.setCell ⟨g, 8, none⟩ (.int .i64 i)) wp R C cs ds := h.call (Kg.cell g w 8 _) (h.rd.setLoops n hi) rfl rfl rfl

set_option maxRecDepth 100000 in
set_option maxHeartbeats 4000000 in
theorem stmt_rep_deep (h : RdR B ea w g gp bm vd wp s st) (hk : st.t.kind = kRepeat) (h2 : st.loops = 2) :
    Calls Tryd.prog 44 #[.pointer (some ⟨g, 0, none⟩)] w fun e w' => OutR B ea w g gp bm s (fail eDeep st) (StmtV w) e w' := by
  have q0 := HeldS.start h [vs kRepeat, .int .i64 0, .int .i64 0, .bool false, vs [], .int .i64 0, vs [], .int .i64 0, vs [], .int .i64 0, .bool false, .slice none 0 0, .slice none 0 0]
  obtain ⟨_, _, c2, _⟩ := rd_cell (h.alloc (.cells #[vs [], .int .i64 0, .int .i64 0, .bool false, vs [], .int .i64 0, vs [], .int .i64 0, vs [], .int .i64 0, .bool false, .slice none 0 0, .slice none 0 0] 136)).row
  obtain ⟨_, _, _, _, _, _, _, _, c8, _⟩ := rd_cell q0.rd.row
  have herr := q0.rd.env.err 3 (by omega) (by omega)
  have hf := fail_any q0.rd 3
  have hB := h.env.size
  have hg := h.g0
  rw [hk] at c2
  rw [h2] at c8
  rw [show errGlobal 3 = 8 from rfl] at herr
  have HF := Lib.hid hf
  have Q0 := Lib.hid q0
  clear hf q0 h hk h2
  unfold vs errV at *
  go_enter Tryd.func44, Tryd.ntmps44
  go_wp2_with fail
  refine HF.out.mono ?_
  rintro e w1 ho
  obtain ⟨gf, rfl, hF⟩ := fails_held hB hg Q0.out.kg ho
  go_wp2
  exact ⟨rfl, gf, rfl, hF⟩

set_option maxRecDepth 100000 in
set_option maxHeartbeats 8000000 in
theorem stmt_rep (n : Nat) (hbl : BlockC B ea g gp bm s n) (h : RdR B ea w g gp bm vd wp s st) (ok : st.Ok s) (hd : st.depth ≤ 8) (hl : st.loops < 2) (hn : 2 * left s st + 1 ≤ n + 1) (hk : st.t.kind = kRepeat) :
    Calls Tryd.prog 44 #[.pointer (some ⟨g, 0, none⟩)] w fun e w' => OutR B ea w g gp bm s
      ((number s 1 50 (next s st)).bind fun k st => (want s kWhile st).bind fun _ st => (cond s (n + 1) st).bind fun c st =>
        (block s n { st with loops := st.loops + 1 }).bind fun b st => .ok (.rep k c b .nil) { st with loops := st.loops - 1 }) (StmtV w) e w' := by
  have q0 := HeldS.start h [vs kRepeat, .int .i64 0, .int .i64 0, .bool false, vs [], .int .i64 0, vs [], .int .i64 0, vs [], .int .i64 0, .bool false, .slice none 0 0, .slice none 0 0]
  have hnx := next_all q0.rd
  obtain ⟨_, _, c2, _⟩ := rd_cell (h.alloc (.cells #[vs [], .int .i64 0, .int .i64 0, .bool false, vs [], .int .i64 0, vs [], .int .i64 0, vs [], .int .i64 0, .bool false, .slice none 0 0, .slice none 0 0] 136)).row
  obtain ⟨_, _, _, _, _, _, _, _, c8, _⟩ := rd_cell q0.rd.row
  have hB := h.env.size
  have hg := h.g0
  have hl1 := next_lt ok hk (by decide) (by decide)
  rw [hk] at c2
  have b8 : ((st.loops : Int) == 2) = false := by simp; omega
  have b9 : (st.loops : Int) < 2 := by omega
  have b10 : (0 : Int) ≤ (st.loops : Int) := by omega
  have Q0 := Lib.hid q0
  have HN := Lib.hid hnx
  have HOK := Lib.hid (next_ok ok)
  have HBL := Lib.hid hbl
  have HL1 := Lib.hid hl1
  have HNN := Lib.hid hn
  clear q0 hnx h ok hk hbl hl1 hn
  unfold vs at *
  go_enter Tryd.func44, Tryd.ntmps44
  go_wp2_with fail
  refine HN.out.mono ?_
  rintro e w1 ⟨rfl, hk1, h1⟩
  have q1 := Q0.out.call hk1 h1 rfl rfl rfl
  have hm := number_any q1.rd HOK.out 1 50
  obtain ⟨e0, e1, e2, e3, e4, e5, e6, e7, e8, e9, e10, e11, e12⟩ := cells13 q1.rowC
  have z := fun j => q1.rowC.frozen j
  have Q1 := Lib.hid q1
  have HM := Lib.hid hm
  clear hk1 h1 q1 hm c8
  unfold vs at *
  go_wp2_with fail
  refine HM.out.mono ?_
  rintro e w2 ho
  clear e0 e1 e2 e3 e4 e5 e6 e7 e8 e9 e10 e11 e12 z
  cases hxn : number s 1 50 (next s st) with
  | bad k pos =>
    rw [hxn] at ho
    obtain ⟨gf, rfl, hF⟩ := fails_held hB hg Q1.out.kg ho
    have HXN := Lib.hid hxn
    clear hxn
    go_wp2
    refine ⟨rfl, ?_⟩
    rw [HXN.out]
    exact ⟨gf, rfl, hF⟩
  | ok m st1 =>
    rw [hxn] at ho
    obtain ⟨v, rfl, rfl, hk2, vd2, wp2, h2⟩ := ho
    obtain ⟨fw, lt, _⟩ := number_ok HOK.out hxn
    have p2 := Q1.out.call hk2 h2 fw.decls fw.freq fw.rules
    obtain ⟨e0, e1, e2, e3, e4, e5, e6, e7, e8, e9, e10, e11, e12⟩ := cells13 p2.rowC
    have z := fun j => p2.rowC.frozen j
    have q2 := p2.setC 1 (.int .i64 m)
    have hw := want_any q2.rd kWhile
    have HXN := Lib.hid hxn
    have HFW := Lib.hid fw
    have HLT := Lib.hid lt
    have Q2 := Lib.hid q2
    have HW := Lib.hid hw
    clear hk2 h2 p2 q2 hw hxn fw lt
    unfold vs at *
    go_wp2_with fail
    refine HW.out.mono ?_
    rintro e w3 ho
    clear e0 e1 e2 e3 e4 e5 e6 e7 e8 e9 e10 e11 e12 z
    cases hxw : want s kWhile st1 with
    | bad k pos =>
      rw [hxw] at ho
      obtain ⟨gf, rfl, hF⟩ := fails_held hB hg Q2.out.kg ho
      have HXW := Lib.hid hxw
      clear hxw
      go_wp2
      refine ⟨rfl, ?_⟩
      rw [HXN.out]
      show OutR _ _ _ _ _ _ _ ((want s kWhile st1).bind _) _ _ _
      rw [HXW.out]
      exact ⟨gf, rfl, hF⟩
    | ok tw st2 =>
      rw [hxw] at ho
      obtain ⟨v, rfl, rfl, hk3, vd3, wp3, h3⟩ := ho
      have hst2 := (want_ok hxw).2.2
      have fw2 : Fwd s st1 st2 := by rw [hst2]; exact Fwd.next HFW.out.ok
      have q3 := Q2.out.call hk3 h3 fw2.decls fw2.freq fw2.rules
      have hc := cond_any (n + 1) st2 _ _ _ q3.rd fw2.ok (by have := HL1.out; have := HNN.out; have := HLT.out; have := fw2.left; omega)
      obtain ⟨e0, e1, e2, e3, e4, e5, e6, e7, e8, e9, e10, e11, e12⟩ := cells13 q3.rowC
      have z := fun j => q3.rowC.frozen j
      have HXW := Lib.hid hxw
      have HFW2 := Lib.hid (HFW.out.trans fw2)
      have HOK2 := Lib.hid fw2.ok
      have HLE2 := Lib.hid fw2.left
      have Q3 := Lib.hid q3
      have HC := Lib.hid hc
      clear hk3 h3 q3 hc hxw hst2 fw2
      unfold encTok vs at *
      go_wp2_with fail
      refine HC.out.mono ?_
      rintro e w4 ho
      clear e0 e1 e2 e3 e4 e5 e6 e7 e8 e9 e10 e11 e12 z
      cases hxc : cond s (n + 1) st2 with
      | bad k pos =>
        rw [hxc] at ho
        obtain ⟨gf, rfl, hF⟩ := fails_held hB hg Q3.out.kg ho
        have HXC := Lib.hid hxc
        clear hxc
        go_wp2
        refine ⟨rfl, ?_⟩
        rw [HXN.out]
        show OutR _ _ _ _ _ _ _ ((want s kWhile st1).bind _) _ _ _
        rw [HXW.out]
        show OutR _ _ _ _ _ _ _ ((cond s (n + 1) st2).bind _) _ _ _
        rw [HXC.out]
        exact ⟨gf, rfl, hF⟩
      | ok c st3 =>
        rw [hxc] at ho
        obtain ⟨v, rfl, rfl, hk4, vd4, wp4, h4⟩ := ho
        obtain ⟨fw3, lt3, _⟩ := cond_ok HOK2.out hxc
        obtain ⟨b0, n1, b2, n3, hv⟩ := ckVals_form c.k
        have ec : encCond c = [.string ⟨(ckWord c.k).toArray⟩, .int .i64 (ckNum c.k), .string ⟨b0.toArray⟩, .int .i64 n1, .string ⟨b2.toArray⟩, .int .i64 n3, .bool (oddB c.nots)] := by unfold encCond; rw [hv]; rfl
        have F3 := HFW2.out.trans fw3
        have hlo : st3.loops = st.loops := F3.loops
        have hde : st3.depth = st.depth := F3.depth
        have p4 := Q3.out.call hk4 h4 fw3.decls fw3.freq fw3.rules
        obtain ⟨e0, e1, e2, e3, e4, e5, e6, e7, e8, e9, e10, e11, e12⟩ := cells13 p4.rowC
        have z := fun j => p4.rowC.frozen j
        obtain ⟨_, _, _, _, _, _, _, _, c8, _⟩ := rd_cell p4.row
        have fr8 := p4.row.frozen 8
        have hgC : ¬ w.heap.size + 1 = g := p4.rowC.ne_ p4.row (by decide)
        have hgC' : ¬ g = w.heap.size + 1 := fun e => hgC e.symm
        have hgR : ¬ w.heap.size = g := p4.rowR.ne_ p4.row (by decide)
        have hgR' : ¬ g = w.heap.size := fun e => hgR e.symm
        rw [hlo] at c8
        have q4 := (((((((p4.setC 4 (.string ⟨(ckWord c.k).toArray⟩)).setC 5 (.int .i64 (ckNum c.k))).setC 6 (.string ⟨b0.toArray⟩)).setC 7 (.int .i64 n1)).setC 8 (.string ⟨b2.toArray⟩)).setC 9 (.int .i64 n3)).setC 10 (.bool (oddB c.nots))).loops (st.loops + 1) (i := (st.loops : Int) + 1) rfl
        have hb := HBL.out { st3 with loops := st.loops + 1 } _ _ _ q4.rd ⟨fw3.ok.i, fw3.ok.pos, fw3.ok.more, fw3.ok.num, fw3.ok.name⟩ (by show st3.depth ≤ 8; omega) (by show st.loops + 1 ≤ 2; omega)
          (by have h1 := HL1.out; have h2 := HNN.out; have h3 := HLT.out; have h4 := HLE2.out; show 2 * left s st3 + 1 ≤ n; omega)
        have HXC := Lib.hid hxc
        have HF3 := Lib.hid F3
        have Q4 := Lib.hid q4
        have HB := Lib.hid hb
        have EC := Lib.hid ec
        have HLO := Lib.hid hlo
        have HOK3 := Lib.hid fw3.ok
        rw [ec]
        clear hk4 h4 p4 q4 hb hxc fw3 lt3 hv ec F3 hlo hde
        unfold vs at *
        go_wp2_with fail
        refine HB.out.mono ?_
        rintro e w5 ho
        clear e0 e1 e2 e3 e4 e5 e6 e7 e8 e9 e10 e11 e12 z c8 fr8
        cases hxb : block s n { st3 with loops := st.loops + 1 } with
        | bad k pos =>
          rw [hxb] at ho
          obtain ⟨gf, rfl, hF⟩ := fails_held hB hg Q4.out.kg ho
          have HXB := Lib.hid hxb
          clear hxb
          go_wp2
          refine ⟨rfl, ?_⟩
          rw [HXN.out]
          show OutR _ _ _ _ _ _ _ ((want s kWhile st1).bind _) _ _ _
          rw [HXW.out]
          show OutR _ _ _ _ _ _ _ ((cond s (n + 1) st2).bind _) _ _ _
          rw [HXC.out]
          show OutR _ _ _ _ _ _ _ ((block s n { st3 with loops := st3.loops + 1 }).bind _) _ _ _
          rw [HLO.out, HXB.out]
          exact ⟨gf, rfl, hF⟩
        | ok bb st4 =>
          rw [hxb] at ho
          obtain ⟨vt, rfl, hvt, hk5, vd5, wp5, h5⟩ := ho
          have fw4 := (block_ok (st := { st3 with loops := st.loops + 1 }) ⟨HOK3.out.i, HOK3.out.pos, HOK3.out.more, HOK3.out.num, HOK3.out.name⟩ (by have := HF3.out.depth; simp only [next] at this; show st3.depth ≤ 8; omega) (by show st.loops + 1 ≤ 2; omega) hxb).1
          have hlo4 : st4.loops = st.loops + 1 := fw4.loops
          obtain ⟨gt, nt, ct, rfl⟩ := hvt.form_
          have p5 := Q4.out.call hk5 h5 fw4.decls fw4.freq fw4.rules
          obtain ⟨e0, e1, e2, e3, e4, e5, e6, e7, e8, e9, e10, e11, e12⟩ := cells13 p5.rowC
          obtain ⟨f0, f1, f2, f3, f4, f5, f6, f7, f8, f9, f10, f11, f12⟩ := cells13 p5.rowR
          have z := fun j => p5.rowC.frozen j
          have y := fun j => p5.rowR.frozen j
          obtain ⟨_, _, _, _, _, _, _, _, c8, _⟩ := rd_cell p5.row
          have fr8 := p5.row.frozen 8
          rw [hlo4] at c8
          have q5 := (p5.setC 11 (.slice (some ⟨gt, 0, none⟩) nt ct)).loops st.loops (i := (st.loops : Int)) rfl
          have q6 := q5.copy (.string ⟨kRepeat.toArray⟩) (.int .i64 m) (.int .i64 0) (.bool false) (.string ⟨(ckWord c.k).toArray⟩) (.int .i64 (ckNum c.k)) (.string ⟨b0.toArray⟩) (.int .i64 n1) (.string ⟨b2.toArray⟩) (.int .i64 n3) (.bool (oddB c.nots)) (.slice (some ⟨gt, 0, none⟩) nt ct) (.slice none 0 0)
          have hCC := Q4.out.rowC.lt
          have hgg := Q4.out.row.lt
          have hvt5 : BlkV (fun k => w.heap.size + 2 ≤ k) ((w5.setCell ⟨w.heap.size + 1, 11, none⟩ (.slice (some ⟨gt, 0, none⟩) nt ct)).setCell ⟨g, 8, none⟩ (.int .i64 (st.loops : Int))) (.slice (some ⟨gt, 0, none⟩) nt ct) bb :=
            ((hvt.far (C := w.heap.size + 1) (by omega) 11 (.slice (some ⟨gt, 0, none⟩) nt ct)).far (C := g) (by omega) 8 (.int .i64 (st.loops : Int))).mono (fun k _ hk => Nat.le_trans hCC hk)
          have ec1 : (((st.loops + 1 : Nat) : Int) - 1) = (st.loops : Int) := by omega
          have EC1 := Lib.hid ec1
          have HXB := Lib.hid hxb
          have Q6 := Lib.hid q6
          have HVT := Lib.hid hvt5
          have HL4 := Lib.hid hlo4
          clear hk5 h5 p5 q5 q6 hxb hvt hvt5 fw4 hCC hgg ec1 hlo4
          unfold vs at *
          go_wp2
          refine bodyPost_ret (results_cell (cs := [.string ⟨kRepeat.toArray⟩, .int .i64 m, .int .i64 0, .bool false, .string ⟨(ckWord c.k).toArray⟩, .int .i64 (ckNum c.k), .string ⟨b0.toArray⟩, .int .i64 n1, .string ⟨b2.toArray⟩, .int .i64 n3, .bool (oddB c.nots), .slice (some ⟨gt, 0, none⟩) nt ct, .slice none 0 0]) Tryd.results44 aggStmt sizeStmt rfl Q6.out.rowR) rfl ?_
          rw [HXN.out]
          show OutR _ _ _ _ _ _ _ ((want s kWhile st1).bind _) _ _ _
          rw [HXW.out]
          show OutR _ _ _ _ _ _ _ ((cond s (n + 1) st2).bind _) _ _ _
          rw [HXC.out]
          show OutR _ _ _ _ _ _ _ ((block s n { st3 with loops := st3.loops + 1 }).bind _) _ _ _
          rw [HLO.out, HXB.out]
          refine ⟨_, rfl, rep_fin EC.out HVT.out _ _ _ _ _ _ _ _ _ _ _ _ _, Q6.out.kg, vd, wp5, ?_⟩
          have hr := Q6.out.rd
          rw [show st4.loops - 1 = st.loops by rw [HL4.out]; rfl]
          exact hr
end
end Go.Proofs.YtemppijblfflgaaDoor.Ev
namespace Go.Proofs.YtemppijblfflgaaDoor.Ev
open Go Go.RowKit

section
variable {B : Nat} {ea : Nat → Addr} {w : World} {g gp bm : Nat} {vd wp : Value} {s : Bytes} {st : PS}

theorem stmt_step (n : Nat) (hbl : BlockC B ea g gp bm s n) : StmtC B ea g gp bm s (n + 1) := by
  intro st w vd wp h ok hd hl hn
  rw [stmt]
  by_cases h1 : st.t.kind = kPut
  · rw [if_pos h1]; exact stmt_put h ok h1
  rw [if_neg h1]
  by_cases h2 : st.t.kind = kEvict
  · rw [if_pos h2]; exact stmt_evict h ok h2
  rw [if_neg h2]
  by_cases h3 : st.t.kind = kCool
  · rw [if_pos h3]; exact stmt_cool h ok h3
  rw [if_neg h3]
  by_cases h4 : st.t.kind = kShift
  · rw [if_pos h4]; exact stmt_shift h ok h4
  rw [if_neg h4]
  by_cases h5 : st.t.kind = kInc
  · rw [if_pos h5]; exact stmt_inc h ok h5
  rw [if_neg h5]
  by_cases h6 : st.t.kind = kDec
  · rw [if_pos h6]; exact stmt_dec h ok h6
  rw [if_neg h6]
  by_cases h7 : st.t.kind = kDrop
  · rw [if_pos h7]; exact stmt_drop h ok h7
  rw [if_neg h7]
  by_cases h8 : st.t.kind = kBump
  · rw [if_pos h8]; exact stmt_bump h ok h8
  rw [if_neg h8]
  by_cases h9 : st.t.kind = kIf
  · rw [if_pos h9]; exact stmt_if n hbl h ok hd hl hn h9
  rw [if_neg h9]
  by_cases h10 : st.t.kind = kRepeat
  · rw [if_pos h10]
    by_cases h11 : st.loops = 2
    · rw [if_pos h11]; exact stmt_rep_deep h h10 h11
    · rw [if_neg h11]; exact stmt_rep n hbl h ok hd (by omega) hn h10
  rw [if_neg h10]
  exact stmt_none h h1 h2 h3 h4 h5 h6 h7 h8 h9 h10

theorem both_any (n : Nat) : BlockC B ea g gp bm s n ∧ StmtC B ea g gp bm s n := by
  induction n using Nat.strongRecOn with
  | ind n ih =>
    cases n with
    | zero => exact ⟨fun st w vd wp h ok hd hl hn => by omega, fun st w vd wp h ok hd hl hn => by omega⟩
    | succ n => exact ⟨block_step n (fun m hm => (ih m hm).2), stmt_step n (ih n (by omega)).1⟩

theorem block_any (h : RdR B ea w g gp bm vd wp s st) (ok : st.Ok s) (hd : st.depth ≤ 8) (hl : st.loops ≤ 2) {n : Nat} (hn : 2 * left s st + 1 ≤ n) :
    Calls Tryd.prog 32 #[.pointer (some ⟨g, 0, none⟩)] w fun e w' => OutR B ea w g gp bm s (block s n st) (fun w' b v => BlkV (fun k => w.heap.size ≤ k) w' v b) e w' :=
  (both_any n).1 st w vd wp h ok hd hl hn
end
end Go.Proofs.YtemppijblfflgaaDoor.Ev
namespace Go.Proofs.YtemppijblfflgaaDoor.Ev

structure DeclW (d : Decl) : Prop where
  kind : d.kind ≤ 2
  name : NameT d.name
  lo : 1 ≤ d.max
  hi : d.max ≤ if d.kind = 2 then 99 else 50

structure DeclsW (l : List Decl) : Prop where
  len : l.length ≤ 8
  each : ∀ d ∈ l, DeclW d
  nodup : (l.map (·.name)).Nodup

def FreqW (seen : Bool) (f : Int) : Prop := if seen then 1 ≤ f ∧ f ≤ 99 else f = 0

structure RuleW (l : List Decl) (x : Int × Blk) : Prop where
  key : x.1 = -1 ∨ NameW l false x.1
  w : BlkW l x.2
  form : x.2.Form
  deep : 1 + x.2.deep ≤ 8
  nest : x.2.nest ≤ 2

structure RulesW (l : List Decl) (r : List (Int × Blk)) : Prop where
  each : ∀ x ∈ r, RuleW l x
  nodup : (r.map (·.1)).Nodup

def sizes (r : List (Int × Blk)) : Nat := (r.map (fun x => x.2.size)).sum

/-- What holds of the reader between declarations and rules. -/
structure Mid (s : Bytes) (st : PS) : Prop where
  ok : st.Ok s
  depth : st.depth = 0
  loops : st.loops = 0
  dl : st.decls.length + left s st ≤ 701
  rl : st.rules.length + left s st ≤ 701
  sz : sizes st.rules + left s st ≤ 701
  w : st.wrong = none → DeclsW st.decls ∧ FreqW st.fseen st.freq ∧ RulesW st.decls st.rules

section
variable {s : Bytes} {st st' : PS}

theorem note_parts (e pos : Nat) (st : PS) : (note e pos st).decls = st.decls ∧ (note e pos st).freq = st.freq ∧ (note e pos st).fseen = st.fseen ∧ (note e pos st).rules = st.rules ∧ (note e pos st).depth = st.depth ∧ (note e pos st).loops = st.loops ∧
    left s (note e pos st) = left s st := by
  unfold note
  cases hw : st.wrong <;> exact ⟨rfl, rfl, rfl, rfl, rfl, rfl, rfl⟩

theorem declNote_parts (n : Tok) (h : st.Ok s) : Fwd s st (declNote n st) ∧ left s (declNote n st) = left s st ∧ ((declNote n st).wrong = none → find st.decls n.text < 0 ∧ st.decls.length ≠ 8) := by
  unfold declNote
  have h1 : Fwd s st (if 0 ≤ find st.decls n.text then note eTwice n.pos st else st) ∧ left s (if 0 ≤ find st.decls n.text then note eTwice n.pos st else st) = left s st ∧
      ((if 0 ≤ find st.decls n.text then note eTwice n.pos st else st).wrong = none → find st.decls n.text < 0) := by
    split
    · exact ⟨Fwd.note h _ _, (note_parts _ _ _).2.2.2.2.2.2, fun x => absurd x (note_wrong _ _ _)⟩
    · exact ⟨Fwd.refl h, rfl, fun _ => by omega⟩
  simp only
  generalize (if 0 ≤ find st.decls n.text then note eTwice n.pos st else st) = st1 at *
  obtain ⟨a, b, c⟩ := h1
  split
  · exact ⟨a.trans (Fwd.note a.ok _ _), (note_parts _ _ _).2.2.2.2.2.2.trans b, fun x => absurd x (note_wrong _ _ _)⟩
  · rename_i h8
    exact ⟨a, b, fun x => ⟨c x, by rw [← a.decls]; exact h8⟩⟩

theorem find_neg {l : List Decl} {name : Bytes} (h : find l name < 0) : name ∉ l.map (·.name) := by
  intro hm
  obtain ⟨d, hd, rfl⟩ := List.mem_map.1 hm
  have : ∀ (l : List Decl) (k : Nat), d ∈ l → 0 ≤ findFrom d.name l k := by
    intro l
    induction l with
    | nil => intro k h; cases h
    | cons x l ih =>
      intro k hx
      rw [findFrom]
      split
      · omega
      · rename_i hne
        rcases List.mem_cons.1 hx with rfl | hx
        · exact absurd rfl hne
        · exact ih _ hx
  have := this l 0 hd
  unfold find at h
  omega

theorem decl_mid (h : Mid s st) (hk : isDecl st.t.kind = true) (hr : st.rules = []) (e : decl s st = .ok () st') : Mid s st' ∧ st'.rules = [] ∧ left s st' < left s st := by
  have hne : st.t.kind ≠ kEnd ∧ st.t.kind ≠ kNone := by
    constructor
    · intro x; rw [x] at hk; exact absurd hk (by decide)
    · intro x; rw [x] at hk; exact absurd hk (by decide)
  have f0 := Fwd.next h.ok
  have l0 := next_left h.ok hne.1 hne.2
  unfold decl at e
  simp only at e
  split at e
  · obtain ⟨n, st1, e1, e2⟩ := bind_ok e
    obtain ⟨t, st2, e3, e4⟩ := bind_ok e2
    injection e4 with _ e4
    subst e4
    obtain ⟨hk3, _, rfl⟩ := want_ok e3
    have h1 : ∃ x : PS, x = (if (next s st).fseen = true then note eTwice st.t.pos (next s st) else next s st) ∧ Fwd s (next s st) x ∧ (x.wrong = none → (next s st).fseen = false) := by
      refine ⟨_, rfl, ?_⟩
      split
      · exact ⟨Fwd.note f0.ok _ _, fun x => absurd x (note_wrong _ _ _)⟩
      · rename_i hf; exact ⟨Fwd.refl f0.ok, fun _ => by simpa using hf⟩
    obtain ⟨x, hx, f1, w1⟩ := h1
    rw [← hx] at e1
    have ok2 : ({ x with fseen := true } : PS).Ok s := ⟨f1.ok.i, f1.ok.pos, f1.ok.more, f1.ok.num, f1.ok.name⟩
    obtain ⟨f2, l2, w2⟩ := number_ok ok2 e1
    have ok3 : ({ st1 with freq := n } : PS).Ok s := ⟨f2.ok.i, f2.ok.pos, f2.ok.more, f2.ok.num, f2.ok.name⟩
    have f3 := Fwd.next ok3
    have l1 := f1.left
    have l2' : left s st1 < left s x := l2
    have l3 : left s (next s { st1 with freq := n }) ≤ left s st1 := f3.left
    have d1 : (next s { st1 with freq := n }).decls = st.decls := f3.decls.trans (f2.decls.trans (f1.decls.trans f0.decls))
    have r1 : (next s { st1 with freq := n }).rules = st.rules := f3.rules.trans (f2.rules.trans (f1.rules.trans f0.rules))
    refine ⟨⟨f3.ok, f3.depth.trans (f2.depth.trans (f1.depth.trans (f0.depth.trans h.depth))), f3.loops.trans (f2.loops.trans (f1.loops.trans (f0.loops.trans h.loops))), ?_, ?_, ?_, ?_⟩, r1.trans hr, by omega⟩
    · rw [d1]; have := h.dl; omega
    · rw [r1]; have := h.rl; omega
    · rw [r1]; have := h.sz; omega
    · intro hw
      have y3 := f3.wrong hw
      have y2 := f2.wrong y3
      obtain ⟨a, b, c⟩ := h.w (f0.wrong (f1.wrong y2))
      refine ⟨by rw [d1]; exact a, ?_, by rw [d1, r1]; exact c⟩
      have fs : (next s { st1 with freq := n }).fseen = true := f3.fseen.trans f2.fseen
      have fq : (next s { st1 with freq := n }).freq = n := f3.freq
      rw [fs, fq]
      exact w2 y3
  · obtain ⟨n, st1, e1, e2⟩ := bind_ok e
    obtain ⟨m, st2, e3, e4⟩ := bind_ok e2
    obtain ⟨t, st3, e5, e6⟩ := bind_ok e4
    injection e6 with _ e6
    subst e6
    obtain ⟨hk1, rfl, rfl⟩ := want_ok e1
    obtain ⟨hk5, _, rfl⟩ := want_ok e5
    have f1 := Fwd.next f0.ok
    obtain ⟨f2, l2, w2⟩ := declNote_parts (next s st).t f1.ok
    obtain ⟨f3, l3, w3⟩ := number_ok f2.ok e3
    have f4 := Fwd.next f3.ok
    have F := (((f0.trans f1).trans f2).trans f3).trans f4
    have hle := F.left
    have l1 := f1.left
    have l4 := f4.left
    have okF : ({ next s st2 with decls := (next s st2).decls ++ [⟨declKind st.t.kind, (next s st).t.text, m⟩] } : PS).Ok s := ⟨f4.ok.i, f4.ok.pos, f4.ok.more, f4.ok.num, f4.ok.name⟩
    have lF : left s ({ next s st2 with decls := (next s st2).decls ++ [⟨declKind st.t.kind, (next s st).t.text, m⟩] } : PS) = left s (next s st2) := rfl
    have d1 : (next s st2).decls = st.decls := F.decls
    have r1 : (next s st2).rules = st.rules := F.rules
    refine ⟨⟨okF, F.depth.trans h.depth, F.loops.trans h.loops, ?_, ?_, ?_, ?_⟩, r1.trans hr, by rw [lF]; omega⟩
    · rw [lF]; show ((next s st2).decls ++ [_]).length + _ ≤ 701
      rw [d1]; have := h.dl; simp; omega
    · rw [lF]; show (next s st2).rules.length + _ ≤ 701
      rw [r1]; have := h.rl; omega
    · rw [lF]; show sizes (next s st2).rules + _ ≤ 701
      rw [r1]; have := h.sz; omega
    · intro hw
      have y4 : (next s st2).wrong = none := hw
      have y3 := f4.wrong y4
      have y2 := f3.wrong y3
      obtain ⟨a, b, c⟩ := h.w (f0.wrong (f1.wrong (f2.wrong y2)))
      obtain ⟨n1, n2⟩ := w2 y2
      have hd2 : (next s (next s st)).decls = st.decls := f1.decls.trans f0.decls
      rw [hd2] at n1 n2
      refine ⟨?_, ?_, ?_⟩
      · show DeclsW ((next s st2).decls ++ [_])
        rw [d1]
        refine ⟨by have := a.len; simp; omega, ?_, ?_⟩
        · intro d hd
          rcases List.mem_append.1 hd with hd | hd
          · exact a.each d hd
          · simp at hd
            subst hd
            refine ⟨?_, f0.ok.name hk1, (w3 y3).1, ?_⟩
            · unfold declKind; simp only; split <;> (try split) <;> omega
            · have := (w3 y3).2
              unfold declMost at this
              unfold declKind
              simp only
              split at this
              · rename_i hv; rw [if_pos hv]; simpa using this
              · rename_i hv; rw [if_neg hv]
                split <;> simpa using this
        · rw [List.map_append, List.nodup_append]
          refine ⟨a.nodup, by simp, fun x hx y hy => ?_⟩
          simp at hy
          subst hy
          rintro rfl
          exact find_neg n1 hx
      · show FreqW (next s st2).fseen (next s st2).freq
        rw [F.fseen, F.freq]; exact b
      · show RulesW ((next s st2).decls ++ [_]) (next s st2).rules
        rw [r1, hr]
        exact ⟨fun x hx => (by cases hx), (by simp)⟩

theorem declsR_mid : ∀ (n : Nat) {st st' : PS}, Mid s st → st.rules = [] → declsR s n st = .ok () st' → Mid s st' ∧ st'.rules = []
  | 0, _, _, _, _, e => by cases e
  | n + 1, st, st', h, hr, e => by
    unfold declsR at e
    split at e
    · rename_i hk
      obtain ⟨u, st1, e1, e2⟩ := bind_ok e
      obtain ⟨a, b, _⟩ := decl_mid h hk hr e1
      exact declsR_mid n a b e2
    · injection e with _ e
      subst e
      exact ⟨h, hr⟩

theorem ruleOf_none {r : List (Int × Blk)} {k : Int} (h : (ruleOf r k).isSome = false) : k ∉ r.map (·.1) := by
  intro hm
  obtain ⟨x, hx, rfl⟩ := List.mem_map.1 hm
  unfold ruleOf at h
  rw [Option.isSome_map, Option.isSome_eq_false_iff, Option.isNone_iff_eq_none, List.find?_eq_none] at h
  exact h x hx (by simp)

theorem ruleHead_mid {k : Int} (h : st.Ok s) (hk : st.t.kind = kOn) (e : ruleHead s st = .ok k st') :
    Fwd s st st' ∧ left s st' < left s st ∧ (st'.wrong = none → (k = -1 ∨ NameW st.decls false k) ∧ k ∉ st.rules.map (·.1)) := by
  have f0 := Fwd.next h
  have l0 := next_lt h hk (by decide) (by decide)
  unfold ruleHead at e
  simp only at e
  obtain ⟨k', st1, e1, e2⟩ := bind_ok e
  injection e2 with e2 e3
  subst e2
  have h1 : Fwd s (next s st) st1 ∧ (st1.wrong = none → k' = -1 ∨ NameW st.decls false k') := by
    split at e1
    · injection e1 with e1 e4
      subst e1 e4
      exact ⟨Fwd.next f0.ok, fun _ => .inl rfl⟩
    · obtain ⟨a, b, c⟩ := name_ok f0.ok e1
      exact ⟨a, fun x => .inr (c x)⟩
  obtain ⟨f1, w1⟩ := h1
  have hl := f1.left
  have hru : st1.rules = st.rules := f1.rules.trans f0.rules
  split at e3
  · subst e3
    have f2 := Fwd.note f1.ok eRule st.t.pos
    exact ⟨(f0.trans f1).trans f2, by have := f2.left; omega, fun x => absurd x (note_wrong _ _ _)⟩
  · rename_i hc
    subst e3
    refine ⟨f0.trans f1, by omega, fun x => ⟨w1 x, ruleOf_none ?_⟩⟩
    rw [x, hru] at hc
    simpa using hc

theorem rule_mid {n : Nat} (h : Mid s st) (hk : st.t.kind = kOn) (e : rule s n st = .ok () st') : Mid s st' ∧ left s st' < left s st ∧ st'.decls = st.decls := by
  unfold rule at e
  obtain ⟨k, st1, e1, e2⟩ := bind_ok e
  obtain ⟨b, st2, e3, e4⟩ := bind_ok e2
  injection e4 with _ e4
  obtain ⟨f1, l1, w1⟩ := ruleHead_mid h.ok hk e1
  obtain ⟨f2, w2, m2, dd2, nn2, z2⟩ := block_ok f1.ok (by rw [f1.depth, h.depth]; omega) (by rw [f1.loops, h.loops]; omega) e3
  rw [f1.depth, h.depth] at dd2
  rw [f1.loops, h.loops] at nn2
  have F := f1.trans f2
  split at e4
  · rename_i hw
    have hw' : st2.wrong = none := by simpa using hw
    subst e4
    have lF : left s ({ st2 with rules := st2.rules ++ [(k, b)] } : PS) = left s st2 := rfl
    refine ⟨⟨⟨F.ok.i, F.ok.pos, F.ok.more, F.ok.num, F.ok.name⟩, F.depth.trans h.depth, F.loops.trans h.loops, ?_, ?_, ?_, ?_⟩, by omega, F.decls⟩
    · rw [lF]; show st2.decls.length + _ ≤ 701
      rw [F.decls]; have := h.dl; omega
    · rw [lF]; show (st2.rules ++ [(k, b)]).length + _ ≤ 701
      rw [F.rules]; have := h.rl; simp; omega
    · rw [lF]; show sizes (st2.rules ++ [(k, b)]) + _ ≤ 701
      rw [F.rules]; have := h.sz; unfold sizes at *; simp; omega
    · intro _
      obtain ⟨a, b', c⟩ := h.w (F.wrong hw')
      obtain ⟨x1, x2⟩ := w1 (f2.wrong hw')
      refine ⟨by rw [show ({ st2 with rules := st2.rules ++ [(k, b)] } : PS).decls = st.decls from F.decls]; exact a, ?_, ?_⟩
      · show FreqW st2.fseen st2.freq
        rw [F.fseen, F.freq]; exact b'
      · show RulesW st2.decls (st2.rules ++ [(k, b)])
        rw [F.decls, F.rules]
        refine ⟨fun x hx => ?_, ?_⟩
        · rcases List.mem_append.1 hx with hx | hx
          · exact c.each x hx
          · simp at hx
            subst hx
            exact ⟨x1, by have := w2 hw'; rw [f1.decls] at this; exact this, m2, by show 1 + b.deep ≤ 8; omega, by show b.nest ≤ 2; omega⟩
        · rw [List.map_append, List.nodup_append]
          refine ⟨c.nodup, by simp, fun x hx y hy => ?_⟩
          simp at hy
          subst hy
          rintro rfl
          exact x2 hx
  · rename_i hw
    subst e4
    refine ⟨⟨F.ok, F.depth.trans h.depth, F.loops.trans h.loops, by rw [F.decls]; have := h.dl; omega, by rw [F.rules]; have := h.rl; omega, by rw [F.rules]; have := h.sz; omega, fun x => by simp [x] at hw⟩, by omega, F.decls⟩

theorem rulesR_mid {m : Nat} : ∀ (n : Nat) {st st' : PS}, Mid s st → rulesR s m n st = .ok () st' → Mid s st'
  | 0, _, _, _, e => by cases e
  | n + 1, st, st', h, e => by
    unfold rulesR at e
    split at e
    · rename_i hk
      obtain ⟨u, st1, e1, e2⟩ := bind_ok e
      exact rulesR_mid n (rule_mid h hk e1).1 e2
    · injection e with _ e
      subst e
      exact h

theorem start_mid (s : Bytes) (h : s.length ≤ 700) : Mid s (start s) := by
  have hl : left s (start s) ≤ 701 := by unfold left; omega
  refine ⟨start_ok s, rfl, rfl, by simpa [start] using hl, by simpa [start] using hl, by simpa [start, sizes] using hl, fun _ => ⟨⟨by simp [start], fun d hd => (by cases hd), by simp [start]⟩, rfl, ⟨fun x hx => (by cases hx), by simp [start]⟩⟩⟩

/-- What holds of a policy. -/
structure PolW (p : Policy) : Prop where
  decls : DeclsW p.decls
  freq : 0 ≤ p.freq ∧ p.freq ≤ 99
  rules : RulesW p.decls p.rules
  miss : (missOf p.rules).isSome
  size : sizes p.rules ≤ 700
  rl : p.rules.length ≤ 700

theorem read_W {p : Policy} (h : read s = .ok p) : PolW p := by
  unfold read at h
  split at h
  · cases h
  · rename_i h700
    split at h
    · cases h
    · rename_i t st e
      split at h
      · cases h
      · rename_i hw
        split at h
        · cases h
        · rename_i hm
          injection h with h
          subst h
          unfold readAll at e
          obtain ⟨u, st1, e1, e2⟩ := bind_ok e
          obtain ⟨u2, st2, e3, e4⟩ := bind_ok e2
          obtain ⟨a, b⟩ := declsR_mid 702 (start_mid s (by omega)) rfl e1
          have c := rulesR_mid 702 a e3
          obtain ⟨_, _, rfl⟩ := want_ok e4
          have f := Fwd.next c.ok
          obtain ⟨x, y, z⟩ := c.w (f.wrong hw)
          have hp := left_pos c.ok
          refine ⟨x, ?_, z, by simpa [Option.isSome_iff_ne_none] using hm, ?_, ?_⟩
          · show 0 ≤ st2.freq ∧ st2.freq ≤ 99
            unfold FreqW at y
            split at y <;> omega
          · have := c.sz; show sizes st2.rules ≤ 700; omega
          · have := c.rl; show st2.rules.length ≤ 700; omega
end
end Go.Proofs.YtemppijblfflgaaDoor.Ev
namespace Go.Proofs.YtemppijblfflgaaDoor.Ev
open Go Go.RowKit

theorem zeroStmts (w : World) : (zeroValue 66).run Tryd.prog w = .ok (.slice none 0 0) w := by kernel_rfl

/-- What a declaration or a rule comes to. -/
def OutD (B : Nat) (ea : Nat → Addr) (w : World) (g gp bm : Nat) (s : Bytes) (x : Out Unit) (e : Ending) (w' : World) : Prop :=
  match x with
  | .ok _ st' => e = .returned (.tuple #[]) ∧ Kept (fun b => B ≤ b) w w' ∧ ∃ vd wp, RdR B ea w' g gp bm vd wp s st'
  | .bad k pos => Fails B ea w e w' k pos

section
variable {B : Nat} {ea : Nat → Addr} {w : World} {g gp bm : Nat} {vd wp : Value} {s : Bytes} {st : PS}

theorem look_pair {N : Nat → Prop} : ∀ (M : IMap) (rules : List (Int × Blk)), M.map (·.1) = rules.map (·.1) → (∀ (i : Nat) (x : Int × Value) (y : Int × Blk), M[i]? = some x → rules[i]? = some y → BlkV N w x.2 y.2) → ∀ k : Int,
    match ruleOf rules k with
    | some b => ∃ v, mget M k = some v ∧ BlkV N w v b
    | none => mget M k = none
  | [], [], _, _, k => rfl
  | [], _ :: _, h, _, _ => by simp at h
  | _ :: _, [], h, _, _ => by simp at h
  | x :: M, y :: rules, h, hv, k => by
    simp only [List.map_cons, List.cons.injEq] at h
    unfold ruleOf mget
    by_cases hk : y.1 = k
    · have hk' : x.1 = k := h.1.trans hk
      rw [List.find?_cons_of_pos (by simpa using hk), List.find?_cons_of_pos (by simpa using hk')]
      exact ⟨x.2, rfl, hv 0 x y rfl rfl⟩
    · have hk' : ¬ x.1 = k := by rw [h.1]; exact hk
      rw [List.find?_cons_of_neg (by simpa using hk), List.find?_cons_of_neg (by simpa using hk')]
      exact look_pair M rules h.2 (fun i a b ha hb => hv (i + 1) a b (by simpa using ha) (by simpa using hb)) k

theorem RulesR.look {N : Nat → Prop} {rules : List (Int × Blk)} (h : RulesR N w bm rules) (k : Int) : ∃ v, (∀ c, (Instr.lookup 45 (.map (some bm)) (.int .i64 k) c).run Tryd.prog w =
    .ok (if c then .tuple #[v, .bool (ruleOf rules k).isSome] else v) w) ∧ (match ruleOf rules k with | some b => BlkV N w v b | none => v = .slice none 0 0) := by
  obtain ⟨M, h1, h2, h3⟩ := h
  have hp := look_pair M rules h2 h3 k
  cases hr : ruleOf rules k with
  | none =>
    rw [hr] at hp
    refine ⟨.slice none 0 0, fun c => ?_, rfl⟩
    rw [h1.lookup (P := Tryd.prog) Tryd.underlying45 Tryd.underlying3 zeroStmts k c, show mget M k = none from hp]
    rfl
  | some b =>
    rw [hr] at hp
    obtain ⟨v, hv, hb⟩ := hp
    refine ⟨v, fun c => ?_, hb⟩
    rw [h1.lookup (P := Tryd.prog) Tryd.underlying45 Tryd.underlying3 zeroStmts k c, hv]
    rfl

theorem mput_new {M : IMap} {x : Int} (v : Value) (h : x ∉ M.map (·.1)) : mput M x v = M ++ [(x, v)] := by
  unfold mput
  have : mget M x = none := by
    unfold mget
    rw [Option.map_eq_none_iff, List.find?_eq_none]
    intro y hy he
    exact h (List.mem_map.2 ⟨y, hy, by simpa using he⟩)
  rw [this]
  rfl

/-- The map of the rules, written. -/
theorem RdR.setRule (h : RdR B ea w g gp bm vd wp s st) {w' : World} {k : Int} {v : Value} {b : Blk} (hk : Kept (fun i => i = bm) w w') {M : IMap} (hM : IsMap w bm .i64 M) (hM' : IsMap w' bm .i64 (M ++ [(k, v)]))
    (h2 : M.map (·.1) = st.rules.map (·.1)) (h3 : ∀ (i : Nat) (x : Int × Value) (y : Int × Blk), M[i]? = some x → st.rules[i]? = some y → BlkV (fun b => B ≤ b ∧ b ≠ g) w x.2 y.2) (hb : BlkV (fun b => B ≤ b ∧ b ≠ g) w v b) :
    RdR B ea w' g gp bm vd wp s { st with rules := st.rules ++ [(k, b)] } := by
  have hrow : ∀ (b : Nat) t cs, Row w b t cs → ¬ (b = bm) := fun b t cs hr e => hM.ne_row (e ▸ hr) rfl
  have keep : ∀ {v b}, BlkV (fun b => B ≤ b ∧ b ≠ g) w v b → BlkV (fun b => B ≤ b ∧ b ≠ g) w' v b := fun hv => hv.kept (fun k cs _ hr => hk.block k (hrow k _ cs hr))
  refine ⟨h.env.kept hk (fun b hb => by rw [hb]; exact h.bm0), h.row.kept hk (hrow _ _ _ h.row), h.pol.kept hk (hrow _ _ _ h.pol), h.decls.kept hk (fun b hb e => h.decls.ne_map hM (by rw [hb, e])), ⟨M ++ [(k, v)], hM', ?_, ?_⟩, h.wrong.row_kept hk (fun b cs hr => hrow b _ cs hr), h.g0, h.gp0, h.bm0, h.i, h.s, h.dl⟩
  · show (M ++ [(k, v)]).map (·.1) = (st.rules ++ [(k, b)]).map (·.1)
    rw [List.map_append, List.map_append, h2]
    rfl
  · intro i x y hx hy
    have hlen : M.length = st.rules.length := by have := congrArg List.length h2; simpa using this
    rcases Nat.lt_or_ge i M.length with hi | hi
    · rw [List.getElem?_append_left hi] at hx
      have hy' : (st.rules ++ [(k, b)])[i]? = some y := hy
      rw [List.getElem?_append_left (by omega)] at hy'
      exact keep (h3 i x y hx hy')
    · rw [List.getElem?_append_right hi] at hx
      have hy' : (st.rules ++ [(k, b)])[i]? = some y := hy
      rw [List.getElem?_append_right (by omega), ← hlen] at hy'
      cases hj : i - M.length with
      | zero =>
        rw [hj] at hx hy'
        simp at hx hy'
        subst hx hy'
        exact keep hb
      | succ j => rw [hj] at hx; simp at hx

/-- Behind 'on': for which event. -/
def headX (s : Bytes) (st : PS) : Out Int := if (next s st).t.kind = kMiss then .ok (-1) (next s (next s st)) else name s false (next s st)

theorem wrong_form {x : Option (Nat × Nat)} (h : WrongR B ea w wp x) : (x = none ∧ wp = .pointer none) ∨ (∃ y gf, x = some y ∧ wp = .pointer (some ⟨gf, 0, none⟩)) := by
  cases x with
  | none => exact .inl ⟨rfl, h⟩
  | some y => obtain ⟨gf, h1, _⟩ := h; exact .inr ⟨y, gf, rfl, h1⟩

def noted (at_ : Nat) (k : Int) (st : PS) : PS := if (ruleOf st.rules k).isSome && st.wrong.isNone then note eRule at_ st else st
theorem rule_eq (s : Bytes) (n : Nat) (st : PS) : rule s n st = (headX s st).bind fun k st1 => (block s n (noted st.t.pos k st1)).bind fun b st => .ok () (if st.wrong.isNone then { st with rules := st.rules ++ [(k, b)] } else st) := by
  unfold rule ruleHead headX
  simp only
  split
  · rfl
  · cases name s false (next s st) <;> rfl

theorem headX_ok {k : Int} {st1 : PS} (ok : st.Ok s) (h : headX s st = .ok k st1) : Fwd s (next s st) st1 := by
  unfold headX at h
  split at h
  · injection h with _ h; subst h; exact Fwd.next (next_ok ok)
  · exact (name_ok (next_ok ok) h).1

set_option maxRecDepth 100000 in
set_option maxHeartbeats 4000000 in
theorem rule_any (h : RdR B ea w g gp bm vd wp s st) (ok : st.Ok s) (hd : st.depth = 0) (hl : st.loops = 0) (hk : st.t.kind = kOn) {n : Nat} (hn : 2 * left s st + 1 ≤ n) :
    Calls Tryd.prog 15 #[.pointer (some ⟨g, 0, none⟩)] w fun e w' => OutD B ea w g gp bm s (rule s n st) e w' := by
  have hnx := next_all h
  obtain ⟨_, _, _, _, c4, _⟩ := rd_cell h.row
  have hB := h.env.size
  have hg := h.g0
  have hl1 := next_lt ok hk (by decide) (by decide)
  have HN := Lib.hid hnx
  have HOK := Lib.hid ok
  have HK := Lib.hid hk
  have HD := Lib.hid hd
  have HL := Lib.hid hl
  have HL1 := Lib.hid hl1
  have HNN := Lib.hid hn
  have H0 := Lib.hid h
  clear hnx h ok hk hd hl hl1 hn
  unfold vs at *
  go_enter Tryd.func15, Tryd.ntmps15
  go_wp2_with fail
  refine HN.out.mono ?_
  rintro e w1 ⟨rfl, hk1, h1⟩
  have ht := take_any h1 kMiss
  have H1 := Lib.hid h1
  have K1 := Lib.hid hk1
  have HT := Lib.hid ht
  clear h1 hk1 ht
  go_upto_if 16 with (refine HT.out.mono ?_; rintro e w2 ⟨rfl, hk2, h2⟩; have H2 := Lib.hid h2; have K2 := Lib.hid hk2; clear hk2 h2)
  go_cut [3] (fun s3 wx => ∃ k st1 vd1 wp1, s3 = .int .i64 k ∧ headX s st = .ok k st1 ∧ RdR B ea wx g gp bm vd1 wp1 s st1 ∧ Kg g w wx)
  case first =>
    by_cases hm : (next s st).t.kind = kMiss
    · have h2 := H2.out
      rw [take_yes hm] at h2
      have et : (take s kMiss (next s st)).1 = true := by rw [take_yes hm]
      have HX : headX s st = .ok (-1) (next s (next s st)) := by unfold headX; rw [if_pos hm]
      have F := Lib.hid (And.intro h2 HX)
      rw [et]
      clear h2 HX hm et
      go_wp2_with fail
      go_meet
      exact ⟨_, _, _, _, rfl, F.out.2, F.out.1, Kg.trans K1.out K2.out⟩
    · have h2 := H2.out
      rw [take_no hm] at h2
      have et : (take s kMiss (next s st)).1 = false := by rw [take_no hm]
      have HX : headX s st = name s false (next s st) := by unfold headX; rw [if_neg hm]
      have hn := name_any h2 false
      have F := Lib.hid HX
      have HNM := Lib.hid hn
      have H2' := Lib.hid h2
      rw [et]
      clear h2 HX hm hn et
      go_wp2_with fail
      refine HNM.out.mono ?_
      rintro e w3 ho
      cases hx : name s false (next s st) with
      | bad k pos =>
        rw [hx] at ho
        obtain ⟨gf, rfl, hF⟩ := fails_held hB hg (Kg.trans K1.out K2.out) ho
        have HXX := Lib.hid hx
        clear hx
        go_wp2
        refine ⟨rfl, ?_⟩
        rw [rule_eq, F.out, HXX.out]
        exact ⟨gf, rfl, hF⟩
      | ok k st1 =>
        rw [hx] at ho
        obtain ⟨v, rfl, rfl, hk3, vd3, wp3, h3⟩ := ho
        have G := Lib.hid (And.intro hx (And.intro hk3 h3))
        clear hx hk3 h3
        go_wp2_with fail
        go_meet
        exact ⟨_, _, _, _, rfl, F.out.trans G.out.1, G.out.2.2, Kg.trans (Kg.trans K1.out K2.out) G.out.2.1⟩
  case rest =>
    obtain ⟨k, st1, vd1, wp1, rfl, hx, h1, k1⟩ := hcut
    have fw := headX_ok HOK.out hx
    have hle := fw.left
    obtain ⟨_, _, _, _, _, c5, _, _, _, c9⟩ := rd_cell h1.row
    have p2 := h1.pol.cell 2
    simp at p2
    obtain ⟨v, hlook, _⟩ := h1.rules.look k
    have hlk := hlook true
    simp only [if_true] at hlk
    have herr : wc.cell? ⟨6, 0, none⟩ = some (.iface 171 (.pointer (some (ea 8)))) := h1.env.err 8 (by omega) (by omega)
    have hnote := note_any h1 8 st.t.pos
    have hwf := wrong_form h1.wrong
    have hB' : B ≤ w.heap.size := hB
    have hcases : ((ruleOf st1.rules k).isSome = false) ∨ ((ruleOf st1.rules k).isSome = true ∧ st1.wrong = none ∧ wp1 = .pointer none) ∨ ((ruleOf st1.rules k).isSome = true ∧ ∃ y gf, st1.wrong = some y ∧ wp1 = .pointer (some ⟨gf, 0, none⟩)) := by
      cases (ruleOf st1.rules k).isSome with
      | false => exact .inl rfl
      | true =>
        rcases hwf with ⟨a, b⟩ | ⟨y, gf, a, b⟩
        · exact .inr (.inl ⟨rfl, a, b⟩)
        · exact .inr (.inr ⟨rfl, y, gf, a, b⟩)
    have FW := Lib.hid fw
    have HX := Lib.hid hx
    have H1' := Lib.hid h1
    have K1' := Lib.hid k1
    have HNO := Lib.hid hnote
    clear hx h1 k1 hnote hlook fw hle hwf
    have hN2 : ∃ st2, st2 = noted st.t.pos k st1 := ⟨_, rfl⟩
    obtain ⟨st2, hst2⟩ := hN2
    have hbl : ∀ W vd wp, RdR B ea W g gp bm vd wp s st2 → Calls Tryd.prog 32 #[.pointer (some ⟨g, 0, none⟩)] W fun e w' => OutR B ea W g gp bm s (block s n st2) (fun w' b v => BlkV (fun k => W.heap.size ≤ k) w' v b) e w' := by
      intro W vd wp hr
      have hfw2 : Fwd s st1 st2 := by
        rw [hst2]; unfold noted
        split
        · exact Fwd.note FW.out.ok _ _
        · exact Fwd.refl FW.out.ok
      have F := FW.out.trans hfw2
      have hd : st2.depth = 0 := F.depth.trans HD.out
      have hl : st2.loops = 0 := F.loops.trans HL.out
      exact block_any hr F.ok (by omega) (by omega) (by have h1 := HL1.out; have h2 := F.left; have h3 := HNN.out; omega)
    have HBL := Lib.hid hbl
    have HST2 := Lib.hid hst2
    clear hbl hst2
    rcases hcases with hb | ⟨hb, hw, rfl⟩ | ⟨hb, y, gf, hw, rfl⟩
    rotate_left
    · rw [hb] at hlk
      have hn2 : st2 = note eRule st.t.pos st1 := by rw [HST2.out]; unfold noted; rw [hb, hw]; rfl
      have HN2 := Lib.hid hn2
      clear hb hw hn2
      unfold errV at *
      go_wp2_with fail
      refine HNO.out.mono ?_
      rintro e w4 ⟨rfl, hk4, wp4, h4⟩
      have h4' : RdR B ea w4 g gp bm vd1 wp4 s st2 := by rw [HN2.out]; exact h4
      have H2' := Lib.hid h4'
      have K2' := Lib.hid (Kg.trans K1'.out hk4)
      clear h4 h4' hk4
      go_wp2_with fail
      refine (HBL.out _ _ _ H2'.out).mono ?_
      rintro e w5 ho
      cases hb2 : block s n st2 with
      | bad k2 pos =>
        rw [hb2] at ho
        obtain ⟨gf, rfl, hF⟩ := fails_held hB hg K2'.out ho
        have HB2 := Lib.hid hb2
        clear hb2
        go_wp2
        refine ⟨rfl, ?_⟩
        rw [rule_eq, HX.out]
        show OutD _ _ _ _ _ _ _ ((block s n (noted st.t.pos k st1)).bind _) _ _
        rw [← HST2.out, HB2.out]
        exact ⟨gf, rfl, hF⟩
      | ok b st3 =>
        rw [hb2] at ho
        obtain ⟨vb, rfl, hvb, hk5, vd5, wp5, h5⟩ := ho
        have hk5' := Kg.trans K2'.out hk5
        have hkk : Kept (fun b => B ≤ b) w w5 := hk5'.mono (fun b hb => hb.elim (fun e => e ▸ hg) (fun hb => Nat.le_trans hB hb))
        have hspec : rule s n st = .ok () (if st3.wrong.isNone then { st3 with rules := st3.rules ++ [(k, b)] } else st3) := by
          rw [rule_eq, HX.out]
          show (block s n (noted st.t.pos k st1)).bind _ = _
          rw [← HST2.out, hb2]
          rfl
        have hhead : ruleHead s st = .ok k st2 := by
          have h := HX.out
          unfold headX at h
          unfold ruleHead
          simp only
          rw [h, HST2.out]
          rfl
        have hmid := ruleHead_mid HOK.out HK.out hhead
        have hF2 := hmid.1
        have hblk := block_ok hF2.ok (by rw [hF2.depth, HD.out]; omega) (by rw [hF2.loops, HL.out]; omega) hb2
        have hru3 : st3.rules = st.rules := hblk.1.rules.trans hF2.rules
        have hwr3 : st3.wrong = none → k ∉ st.rules.map (·.1) := fun hw => (hmid.2.2 (hblk.1.wrong hw)).2
        obtain ⟨_, _, _, _, _, c5', _, _, _, c9'⟩ := rd_cell h5.row
        have p2' := h5.pol.cell 2
        have hgW := H2'.out.row.lt
        have hBW := H2'.out.env.size
        have hvb2 : BlkV (fun b => B ≤ b ∧ b ≠ g) w5 vb b := hvb.mono (fun k _ hk => ⟨by omega, by omega⟩)
        have H5 := Lib.hid h5
        have HKK := Lib.hid hkk
        have HSP := Lib.hid hspec
        have HVB := Lib.hid hvb2
        have HRU := Lib.hid hru3
        have HWR := Lib.hid hwr3
        simp at p2'
        rcases wrong_form h5.wrong with ⟨hw3, rfl⟩ | ⟨y3, gf3, hw3, rfl⟩
        · obtain ⟨M, hM, hM2, hM3⟩ := h5.rules
          have hnew : k ∉ M.map (·.1) := by rw [hM2, hru3]; exact hwr3 hw3
          have HM := Lib.hid hM
          have HM2 := Lib.hid hM2
          have HM3 := Lib.hid hM3
          have HNEW := Lib.hid hnew
          have HSP2 : Hid (rule s n st = .ok () { st3 with rules := st3.rules ++ [(k, b)] }) := Lib.hid (by rw [hspec, if_pos (by rw [hw3]; rfl)])
          clear hb2 h5 hk5 hk5' hkk hspec hhead hmid hF2 hblk hru3 hwr3 hvb hvb2 hw3 hM hM2 hM3 hnew hgW hBW
          go_wp2_with (at_mapUpdate; go_must (refine wp_mapUpdate Tryd.underlying45 Tryd.underlying3 HM.out rfl _ _ _ rfl rfl k rfl vb rfl ?_; intro w6 hm6 hk6; have Hm6 := Lib.hid hm6; have Hk6 := Lib.hid hk6; clear hm6 hk6))
          go_end0
          have hm6 := Hm6.out
          rw [mput_new _ HNEW.out] at hm6
          have hr6 := H5.out.setRule (b := b) Hk6.out HM.out hm6 HM2.out HM3.out HVB.out
          rw [HSP2.out]
          exact ⟨rfl, HKK.out.trans (Hk6.out.mono (fun b hb => by rw [hb]; exact H5.out.bm0)), _, _, hr6⟩
        · have HSP2 : Hid (rule s n st = .ok () st3) := Lib.hid (by rw [hspec, if_neg (by rw [hw3]; simp)])
          clear hb2 h5 hk5 hk5' hkk hspec hhead hmid hF2 hblk hru3 hwr3 hvb hvb2 hw3 hgW hBW
          go_wp2
          go_end0
          rw [HSP2.out]
          exact ⟨rfl, HKK.out, _, _, H5.out⟩
    · rw [hb] at hlk
      have hn2 : st2 = st1 := by rw [HST2.out]; unfold noted; rw [hb, hw]; rfl
      have H2' : Hid (RdR B ea wc g gp bm vd1 (.pointer (some ⟨gf, 0, none⟩)) s st2) := Lib.hid (by rw [hn2]; exact H1'.out)
      have K2' := Lib.hid K1'.out
      clear hb hw hn2
      go_wp2_with fail
      refine (HBL.out _ _ _ H2'.out).mono ?_
      rintro e w5 ho
      cases hb2 : block s n st2 with
      | bad k2 pos =>
        rw [hb2] at ho
        obtain ⟨gf, rfl, hF⟩ := fails_held hB hg K2'.out ho
        have HB2 := Lib.hid hb2
        clear hb2
        go_wp2
        refine ⟨rfl, ?_⟩
        rw [rule_eq, HX.out]
        show OutD _ _ _ _ _ _ _ ((block s n (noted st.t.pos k st1)).bind _) _ _
        rw [← HST2.out, HB2.out]
        exact ⟨gf, rfl, hF⟩
      | ok b st3 =>
        rw [hb2] at ho
        obtain ⟨vb, rfl, hvb, hk5, vd5, wp5, h5⟩ := ho
        have hk5' := Kg.trans K2'.out hk5
        have hkk : Kept (fun b => B ≤ b) w w5 := hk5'.mono (fun b hb => hb.elim (fun e => e ▸ hg) (fun hb => Nat.le_trans hB hb))
        have hspec : rule s n st = .ok () (if st3.wrong.isNone then { st3 with rules := st3.rules ++ [(k, b)] } else st3) := by
          rw [rule_eq, HX.out]
          show (block s n (noted st.t.pos k st1)).bind _ = _
          rw [← HST2.out, hb2]
          rfl
        have hhead : ruleHead s st = .ok k st2 := by
          have h := HX.out
          unfold headX at h
          unfold ruleHead
          simp only
          rw [h, HST2.out]
          rfl
        have hmid := ruleHead_mid HOK.out HK.out hhead
        have hF2 := hmid.1
        have hblk := block_ok hF2.ok (by rw [hF2.depth, HD.out]; omega) (by rw [hF2.loops, HL.out]; omega) hb2
        have hru3 : st3.rules = st.rules := hblk.1.rules.trans hF2.rules
        have hwr3 : st3.wrong = none → k ∉ st.rules.map (·.1) := fun hw => (hmid.2.2 (hblk.1.wrong hw)).2
        obtain ⟨_, _, _, _, _, c5', _, _, _, c9'⟩ := rd_cell h5.row
        have p2' := h5.pol.cell 2
        have hgW := H2'.out.row.lt
        have hBW := H2'.out.env.size
        have hvb2 : BlkV (fun b => B ≤ b ∧ b ≠ g) w5 vb b := hvb.mono (fun k _ hk => ⟨by omega, by omega⟩)
        have H5 := Lib.hid h5
        have HKK := Lib.hid hkk
        have HSP := Lib.hid hspec
        have HVB := Lib.hid hvb2
        have HRU := Lib.hid hru3
        have HWR := Lib.hid hwr3
        simp at p2'
        rcases wrong_form h5.wrong with ⟨hw3, rfl⟩ | ⟨y3, gf3, hw3, rfl⟩
        · obtain ⟨M, hM, hM2, hM3⟩ := h5.rules
          have hnew : k ∉ M.map (·.1) := by rw [hM2, hru3]; exact hwr3 hw3
          have HM := Lib.hid hM
          have HM2 := Lib.hid hM2
          have HM3 := Lib.hid hM3
          have HNEW := Lib.hid hnew
          have HSP2 : Hid (rule s n st = .ok () { st3 with rules := st3.rules ++ [(k, b)] }) := Lib.hid (by rw [hspec, if_pos (by rw [hw3]; rfl)])
          clear hb2 h5 hk5 hk5' hkk hspec hhead hmid hF2 hblk hru3 hwr3 hvb hvb2 hw3 hM hM2 hM3 hnew hgW hBW
          go_wp2_with (at_mapUpdate; go_must (refine wp_mapUpdate Tryd.underlying45 Tryd.underlying3 HM.out rfl _ _ _ rfl rfl k rfl vb rfl ?_; intro w6 hm6 hk6; have Hm6 := Lib.hid hm6; have Hk6 := Lib.hid hk6; clear hm6 hk6))
          go_end0
          have hm6 := Hm6.out
          rw [mput_new _ HNEW.out] at hm6
          have hr6 := H5.out.setRule (b := b) Hk6.out HM.out hm6 HM2.out HM3.out HVB.out
          rw [HSP2.out]
          exact ⟨rfl, HKK.out.trans (Hk6.out.mono (fun b hb => by rw [hb]; exact H5.out.bm0)), _, _, hr6⟩
        · have HSP2 : Hid (rule s n st = .ok () st3) := Lib.hid (by rw [hspec, if_neg (by rw [hw3]; simp)])
          clear hb2 h5 hk5 hk5' hkk hspec hhead hmid hF2 hblk hru3 hwr3 hvb hvb2 hw3 hgW hBW
          go_wp2
          go_end0
          rw [HSP2.out]
          exact ⟨rfl, HKK.out, _, _, H5.out⟩
    · rw [hb] at hlk
      have hn2 : st2 = st1 := by rw [HST2.out]; unfold noted; rw [hb]; rfl
      have H2' : Hid (RdR B ea wc g gp bm vd1 wp1 s st2) := Lib.hid (by rw [hn2]; exact H1'.out)
      have K2' := Lib.hid K1'.out
      clear hb hn2
      go_wp2_with fail
      refine (HBL.out _ _ _ H2'.out).mono ?_
      rintro e w5 ho
      cases hb2 : block s n st2 with
      | bad k2 pos =>
        rw [hb2] at ho
        obtain ⟨gf, rfl, hF⟩ := fails_held hB hg K2'.out ho
        have HB2 := Lib.hid hb2
        clear hb2
        go_wp2
        refine ⟨rfl, ?_⟩
        rw [rule_eq, HX.out]
        show OutD _ _ _ _ _ _ _ ((block s n (noted st.t.pos k st1)).bind _) _ _
        rw [← HST2.out, HB2.out]
        exact ⟨gf, rfl, hF⟩
      | ok b st3 =>
        rw [hb2] at ho
        obtain ⟨vb, rfl, hvb, hk5, vd5, wp5, h5⟩ := ho
        have hk5' := Kg.trans K2'.out hk5
        have hkk : Kept (fun b => B ≤ b) w w5 := hk5'.mono (fun b hb => hb.elim (fun e => e ▸ hg) (fun hb => Nat.le_trans hB hb))
        have hspec : rule s n st = .ok () (if st3.wrong.isNone then { st3 with rules := st3.rules ++ [(k, b)] } else st3) := by
          rw [rule_eq, HX.out]
          show (block s n (noted st.t.pos k st1)).bind _ = _
          rw [← HST2.out, hb2]
          rfl
        have hhead : ruleHead s st = .ok k st2 := by
          have h := HX.out
          unfold headX at h
          unfold ruleHead
          simp only
          rw [h, HST2.out]
          rfl
        have hmid := ruleHead_mid HOK.out HK.out hhead
        have hF2 := hmid.1
        have hblk := block_ok hF2.ok (by rw [hF2.depth, HD.out]; omega) (by rw [hF2.loops, HL.out]; omega) hb2
        have hru3 : st3.rules = st.rules := hblk.1.rules.trans hF2.rules
        have hwr3 : st3.wrong = none → k ∉ st.rules.map (·.1) := fun hw => (hmid.2.2 (hblk.1.wrong hw)).2
        obtain ⟨_, _, _, _, _, c5', _, _, _, c9'⟩ := rd_cell h5.row
        have p2' := h5.pol.cell 2
        have hgW := H2'.out.row.lt
        have hBW := H2'.out.env.size
        have hvb2 : BlkV (fun b => B ≤ b ∧ b ≠ g) w5 vb b := hvb.mono (fun k _ hk => ⟨by omega, by omega⟩)
        have H5 := Lib.hid h5
        have HKK := Lib.hid hkk
        have HSP := Lib.hid hspec
        have HVB := Lib.hid hvb2
        have HRU := Lib.hid hru3
        have HWR := Lib.hid hwr3
        simp at p2'
        rcases wrong_form h5.wrong with ⟨hw3, rfl⟩ | ⟨y3, gf3, hw3, rfl⟩
        · obtain ⟨M, hM, hM2, hM3⟩ := h5.rules
          have hnew : k ∉ M.map (·.1) := by rw [hM2, hru3]; exact hwr3 hw3
          have HM := Lib.hid hM
          have HM2 := Lib.hid hM2
          have HM3 := Lib.hid hM3
          have HNEW := Lib.hid hnew
          have HSP2 : Hid (rule s n st = .ok () { st3 with rules := st3.rules ++ [(k, b)] }) := Lib.hid (by rw [hspec, if_pos (by rw [hw3]; rfl)])
          clear hb2 h5 hk5 hk5' hkk hspec hhead hmid hF2 hblk hru3 hwr3 hvb hvb2 hw3 hM hM2 hM3 hnew hgW hBW
          go_wp2_with (at_mapUpdate; go_must (refine wp_mapUpdate Tryd.underlying45 Tryd.underlying3 HM.out rfl _ _ _ rfl rfl k rfl vb rfl ?_; intro w6 hm6 hk6; have Hm6 := Lib.hid hm6; have Hk6 := Lib.hid hk6; clear hm6 hk6))
          go_end0
          have hm6 := Hm6.out
          rw [mput_new _ HNEW.out] at hm6
          have hr6 := H5.out.setRule (b := b) Hk6.out HM.out hm6 HM2.out HM3.out HVB.out
          rw [HSP2.out]
          exact ⟨rfl, HKK.out.trans (Hk6.out.mono (fun b hb => by rw [hb]; exact H5.out.bm0)), _, _, hr6⟩
        · have HSP2 : Hid (rule s n st = .ok () st3) := Lib.hid (by rw [hspec, if_neg (by rw [hw3]; simp)])
          clear hb2 h5 hk5 hk5' hkk hspec hhead hmid hF2 hblk hru3 hwr3 hvb hvb2 hw3 hgW hBW
          go_wp2
          go_end0
          rw [HSP2.out]
          exact ⟨rfl, HKK.out, _, _, H5.out⟩
end
end Go.Proofs.YtemppijblfflgaaDoor.Ev
namespace Go.Proofs.YtemppijblfflgaaDoor.Ev
open Go Go.RowKit

section
variable {B : Nat} {ea : Nat → Addr} {w : World} {g gp bm : Nat} {vd wp : Value} {s : Bytes} {st : PS}

theorem RdR.setFseen (h : RdR B ea w g gp bm vd wp s st) : RdR B ea (w.setCell ⟨g, 6, none⟩ (.bool true)) g gp bm vd wp s { st with fseen := true } := by
  have k1 : Kg g w (w.setCell ⟨g, 6, none⟩ (.bool true)) := Kg.cell g w 6 _
  exact h.turn (st' := { st with fseen := true }) (h.kg k1) (h.row.set_ 6 (.bool true)) rfl rfl rfl (h.wrong.quiet (h.kg k1)) h.i

theorem RdR.setPol (h : RdR B ea w g gp bm vd wp s st) (i : Nat) (u : Value) {vd' : Value} {st' : PS} (hr : Row (w.setCell ⟨gp, i, none⟩ u) gp 47 [vd', .int .i64 st'.freq, .map (some bm)])
    (hd : Sl (fun b => B ≤ b ∧ b ≠ g) (w.setCell ⟨gp, i, none⟩ u) 110 3 vd' st'.decls.length (st'.decls.flatMap encDecl)) (hdl : st'.decls.length ≤ 1000) (hrow : rdCells s st' gp wp = rdCells s st gp wp) (hru : st'.rules = st.rules) (hw : st'.wrong = st.wrong) (hi : st'.i = st.i) :
    RdR B ea (w.setCell ⟨gp, i, none⟩ u) g gp bm vd' wp s st' := by
  have hk : Kept (fun b => b = gp) w (w.setCell ⟨gp, i, none⟩ u) := Kept.one w ⟨gp, i, none⟩ u
  refine ⟨h.env.kept hk (fun b hb => by rw [hb]; exact h.gp0), by rw [hrow]; exact h.row.kept hk (fun e => h.gp_ne e.symm), hr, hd, ?_, by rw [hw]; exact h.wrong.row_kept hk (fun b cs hr e => hr.ne_ h.pol (by decide) e), h.g0, h.gp0, h.bm0, by rw [hi]; exact h.i, h.s, hdl⟩
  rw [hru]
  exact h.rules.kept (hk.block bm (fun e => by obtain ⟨M, h1, _⟩ := h.rules; exact h1.ne_row h.pol e)) (fun k cs _ hr => hk.block k (fun e => hr.ne_ h.pol (by decide) e))

theorem RdR.setFreq (h : RdR B ea w g gp bm vd wp s st) (n : Int) : RdR B ea (w.setCell ⟨gp, 1, none⟩ (.int .i64 n)) g gp bm vd wp s { st with freq := n } :=
  h.setPol 1 (.int .i64 n) (h.pol.set_ 1 (.int .i64 n)) (h.decls.kept (Kept.one w ⟨gp, 1, none⟩ _) (fun b hb e => h.decls.ne_row h.pol (by decide) (by rw [hb]; exact congrArg some e))) h.dl rfl rfl rfl rfl

theorem kg_kept (hB : B ≤ w.heap.size) (hg : B ≤ g) {w' : World} (h : Kg g w w') : Kept (fun b => B ≤ b) w w' := h.mono (fun b hb => hb.elim (fun e => e ▸ hg) (fun hb => Nat.le_trans hB hb))

set_option maxRecDepth 100000 in
set_option maxHeartbeats 4000000 in
theorem decl_freq (h : RdR B ea w g gp bm vd wp s st) (ok : st.Ok s) (hk : st.t.kind = kFreq) :
    Calls Tryd.prog 14 #[.pointer (some ⟨g, 0, none⟩)] w fun e w' => OutD B ea w g gp bm s (decl s st) e w' := by
  have hA := Held.start h 62 [vs st.t.kind, vs st.t.text, .int .i64 st.t.pos] (by decide)
  have hnx := next_all hA.rd
  obtain ⟨_, _, c2, c3, c4, _⟩ := rd_cell h.row
  have hB := h.env.size
  have hg := h.g0
  have HA := Lib.hid hA
  have HN := Lib.hid hnx
  have HOK := Lib.hid (next_ok ok)
  have HK := Lib.hid hk
  clear hA hnx h ok hk
  unfold vs at *
  go_enter Tryd.func14, Tryd.ntmps14
  go_wp2_with fail
  refine HN.out.mono ?_
  rintro e w1 ⟨rfl, hk1, h1⟩
  have hA1 := HA.out.call hk1 h1
  have d0 := hA1.row.cell 0
  have d2 := hA1.row.cell 2
  obtain ⟨_, _, _, _, _, _, c6, _⟩ := rd_cell h1.row
  have fr6 := h1.row.frozen 6
  simp at d0 d2
  rw [HK.out] at d0
  have herr : w1.cell? ⟨4, 0, none⟩ = some (.iface 171 (.pointer (some (ea 4)))) := h1.env.err 4 (by omega) (by omega)
  have hno := note_any hA1.rd 4 st.t.pos
  have HA1 := Lib.hid hA1
  have HNO := Lib.hid hno
  have H1 := Lib.hid h1
  clear hA1 hno h1 hk1
  cases hfs : st.fseen with
  | false =>
    have c6' : w1.cell? ⟨g, 6, none⟩ = some (.bool false) := by rw [← hfs]; exact c6
    have hF := HA1.out.rd.setFseen
    have kF := Kg.trans HA1.out.kg (Kg.cell g w1 6 (.bool true))
    have hnum := number_any (hF.drewN 1) (by exact ⟨HOK.out.i, HOK.out.pos, HOK.out.more, HOK.out.num, HOK.out.name⟩) 1 99
    have HF := Lib.hid hF
    have KF := Lib.hid kF
    have HNM := Lib.hid hnum
    obtain ⟨_, _, _, _, _, c5, _⟩ := rd_cell hF.row
    have hdecl : decl s st = (number s 1 99 { next s st with fseen := true }).bind fun n st => (want s kSemi { st with freq := n }).bind fun _ st => .ok () st := by
      unfold decl
      simp only
      rw [if_pos HK.out, if_neg (by show ¬ st.fseen = true; rw [hfs]; exact Bool.false_ne_true)]
    have HDE := Lib.hid hdecl
    clear hF kF hnum c6 hdecl hfs
    cases hx : number s 1 99 { next s st with fseen := true } with
    | bad k pos =>
      have HX := Lib.hid hx
      clear hx
      go_wp2_with fail
      go_region_dies
      all_goals
        refine HNM.out.mono ?_
        rintro e w3 ho
        rw [HX.out] at ho
        obtain ⟨gf, rfl, hF⟩ := fails_held hB hg (KF.out.drewN 1) ho
        refine ⟨rfl, ?_⟩
        rw [HDE.out, HX.out]
        exact ⟨gf, rfl, hF⟩
    | ok n st2 =>
      have HX := Lib.hid hx
      clear hx
      go_wp2_with fail
      go_region_law (first | (go_simp; go_at_call 28; refine HNM.out.mono ?_; rintro e w3 ho; rw [HX.out] at ho; obtain ⟨v, rfl, rfl, hk3, vd3, wp3, h3⟩ := ho; obtain ⟨_, _, _, _, _, c5', _⟩ := rd_cell h3.row; have p1 := h3.pol.cell 1; have pf := h3.pol.frozen 1; have H3 := Lib.hid h3; have K3 := Lib.hid hk3; clear h3 hk3; simp at p1))
      all_goals
        have h4 := H3.out.setFreq n
        have k4 : Kept (fun b => B ≤ b) w (w3.setCell ⟨gp, 1, none⟩ (.int .i64 n)) := (kg_kept hB hg (Kg.trans (KF.out.drewN 1) K3.out)).setCell (p := ⟨gp, 1, none⟩) H3.out.gp0 _
        have hw := want_any h4 kSemi
        have K4 := Lib.hid k4
        have HW := Lib.hid hw
        have H4 := Lib.hid h4
        clear h4 k4 hw
        go_wp2_with fail
        refine HW.out.mono ?_
        rintro e w5 ho
        cases hxw : want s kSemi { st2 with freq := n } with
        | bad k pos =>
          rw [hxw] at ho
          obtain ⟨gf, rfl, hF, hG⟩ := ho
          have HXW := Lib.hid hxw
          clear hxw
          go_wp2
          refine ⟨rfl, ?_⟩
          rw [HDE.out, HX.out]
          show OutD _ _ _ _ _ _ _ ((want s kSemi { st2 with freq := n }).bind _) _ _
          rw [HXW.out]
          exact ⟨gf, rfl, K4.out.trans hF, hG⟩
        | ok tw st5 =>
          rw [hxw] at ho
          obtain ⟨v, rfl, rfl, hk5, vd5, wp5, h5⟩ := ho
          have HXW := Lib.hid hxw
          have K5 := Lib.hid hk5
          have H5 := Lib.hid h5
          clear hxw hk5 h5
          go_wp2
          go_end0
          rw [HDE.out, HX.out]
          show OutD _ _ _ _ _ _ _ ((want s kSemi { st2 with freq := n }).bind _) _ _
          rw [HXW.out]
          exact ⟨rfl, K4.out.trans (kg_kept H4.out.env.size hg K5.out), _, _, H5.out⟩
  | true =>
    have c6' : w1.cell? ⟨g, 6, none⟩ = some (.bool true) := by rw [← hfs]; exact c6
    have hdecl : decl s st = (number s 1 99 { note eTwice st.t.pos (next s st) with fseen := true }).bind fun n st => (want s kSemi { st with freq := n }).bind fun _ st => .ok () st := by
      unfold decl
      simp only
      rw [if_pos HK.out, if_pos (show (next s st).fseen = true from hfs)]
    have HDE := Lib.hid hdecl
    clear c6 hdecl hfs
    unfold errV at *
    go_wp2_with fail
    refine HNO.out.mono ?_
    rintro e w2 ⟨rfl, hk2, wp2, h2⟩
    have h2e : RdR B ea w2 g gp bm vd wp2 s (note eTwice st.t.pos (next s st)) := h2
    have hF := h2e.setFseen
    have fr6' := h2.row.frozen 6
    obtain ⟨_, _, _, _, _, _, c6'', _⟩ := rd_cell h2.row
    have kF := Kg.trans (Kg.trans HA1.out.kg hk2) (Kg.cell g w2 6 (.bool true))
    have okn := (Fwd.note HOK.out eTwice st.t.pos).ok
    have hnum := number_any (hF.drewN 1) (by exact ⟨okn.i, okn.pos, okn.more, okn.num, okn.name⟩) 1 99
    have HF := Lib.hid hF
    have KF := Lib.hid kF
    have HNM := Lib.hid hnum
    obtain ⟨_, _, _, _, _, c5, _⟩ := rd_cell hF.row
    clear hF kF hnum h2 h2e hk2 okn c6'
    cases hx : number s 1 99 { note eTwice st.t.pos (next s st) with fseen := true } with
    | bad k pos =>
      have HX := Lib.hid hx
      clear hx
      go_wp2_with fail
      go_region_dies
      all_goals
        refine HNM.out.mono ?_
        rintro e w3 ho
        rw [HX.out] at ho
        obtain ⟨gf, rfl, hF⟩ := fails_held hB hg (KF.out.drewN 1) ho
        refine ⟨rfl, ?_⟩
        rw [HDE.out, HX.out]
        exact ⟨gf, rfl, hF⟩
    | ok n st2 =>
      have HX := Lib.hid hx
      clear hx
      go_wp2_with fail
      go_region_law (first | (go_simp; go_at_call 28; refine HNM.out.mono ?_; rintro e w3 ho; rw [HX.out] at ho; obtain ⟨v, rfl, rfl, hk3, vd3, wp3, h3⟩ := ho; obtain ⟨_, _, _, _, _, c5', _⟩ := rd_cell h3.row; have p1 := h3.pol.cell 1; have pf := h3.pol.frozen 1; have H3 := Lib.hid h3; have K3 := Lib.hid hk3; clear h3 hk3; simp at p1))
      all_goals
        have h4 := H3.out.setFreq n
        have k4 : Kept (fun b => B ≤ b) w (w3.setCell ⟨gp, 1, none⟩ (.int .i64 n)) := (kg_kept hB hg (Kg.trans (KF.out.drewN 1) K3.out)).setCell (p := ⟨gp, 1, none⟩) H3.out.gp0 _
        have hw := want_any h4 kSemi
        have K4 := Lib.hid k4
        have HW := Lib.hid hw
        have H4 := Lib.hid h4
        clear h4 k4 hw
        go_wp2_with fail
        refine HW.out.mono ?_
        rintro e w5 ho
        cases hxw : want s kSemi { st2 with freq := n } with
        | bad k pos =>
          rw [hxw] at ho
          obtain ⟨gf, rfl, hF, hG⟩ := ho
          have HXW := Lib.hid hxw
          clear hxw
          go_wp2
          refine ⟨rfl, ?_⟩
          rw [HDE.out, HX.out]
          show OutD _ _ _ _ _ _ _ ((want s kSemi { st2 with freq := n }).bind _) _ _
          rw [HXW.out]
          exact ⟨gf, rfl, K4.out.trans hF, hG⟩
        | ok tw st5 =>
          rw [hxw] at ho
          obtain ⟨v, rfl, rfl, hk5, vd5, wp5, h5⟩ := ho
          have HXW := Lib.hid hxw
          have K5 := Lib.hid hk5
          have H5 := Lib.hid h5
          clear hxw hk5 h5
          go_wp2
          go_end0
          rw [HDE.out, HX.out]
          show OutD _ _ _ _ _ _ _ ((want s kSemi { st2 with freq := n }).bind _) _ _
          rw [HXW.out]
          exact ⟨rfl, K4.out.trans (kg_kept H4.out.env.size hg K5.out), _, _, H5.out⟩
end
end Go.Proofs.YtemppijblfflgaaDoor.Ev
