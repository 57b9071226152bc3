/- The reader's declarations of names: walked. The reader's declaration, kind queue: walked. Printed by wip/tools (turned by hand once). Conditions: none. -/
import Derived.Outline
import Derived.Test.YtemppijblfflgaaDoorZr06
set_option linter.all false
namespace Go.Proofs.YtemppijblfflgaaDoor.Ev
open Go Go.RowKit

/-- The reader in the midst of a call, from where the call began. -/
structure HeldB (B : Nat) (ea : Nat → Addr) (g gp bm : Nat) (vd : Value) (s : Bytes) (st0 : PS) (w0 : World) (wp0 : Value) (st : PS) (w : World) (wp : Value) : Prop where
  base : RdR B ea w0 g gp bm vd wp0 s st0
  decls : st.decls = st0.decls
  freq : st.freq = st0.freq
  rules : st.rules = st0.rules
  i : st.i ≤ s.length
  kg : Kg g w0 w
  row : Row w g 64 (rdCells s st gp wp)
  wrong : WrongR B ea w wp st.wrong

section
variable {B : Nat} {ea : Nat → Addr} {w w0 : World} {g gp bm D : Nat} {vd wp wp0 : Value} {s : Bytes} {st st0 : PS} {t : TypeId} {ds : List Value}

theorem HeldB.rd (h : HeldB B ea g gp bm vd s st0 w0 wp0 st w wp) : RdR B ea w g gp bm vd wp s st := h.base.later h.kg h.row h.decls h.freq h.rules h.wrong h.i
theorem HeldB.start (h : RdR B ea w g gp bm vd wp s st) : HeldB B ea g gp bm vd s st w wp st w wp := ⟨h, rfl, rfl, rfl, h.i, Kept.refl _ _, h.row, h.wrong⟩
theorem HeldB.call (h : HeldB B ea g gp bm vd s st0 w0 wp0 st w wp) {w' : World} {st' : PS} {vd' wp' : Value} (hk : Kg g w w') (hr : RdR B ea w' g gp bm vd' wp' s st') (hd : st'.decls = st.decls) (hf : st'.freq = st.freq) (hru : st'.rules = st.rules) :
    HeldB B ea g gp bm vd s st0 w0 wp0 st' w' wp' := ⟨h.base, hd.trans h.decls, hf.trans h.freq, hru.trans h.rules, hr.i, Kg.trans h.kg hk, hr.row, hr.wrong⟩
theorem HeldB.alloc (h : HeldB B ea g gp bm vd s st0 w0 wp0 st w wp) (o : Obj) : HeldB B ea g gp bm vd s st0 w0 wp0 st (w.alloc o) wp :=
  h.call ((Kept.refl _ _).alloc (.inr (Nat.le_refl _)) o) (h.rd.alloc o) rfl rfl rfl
theorem HeldB.drew (h : HeldB B ea g gp bm vd s st0 w0 wp0 st w wp) : HeldB B ea g gp bm vd s st0 w0 wp0 st w.drew wp := ⟨h.base, h.decls, h.freq, h.rules, h.i, h.kg.drew, h.row, h.wrong.row_kept (S1 := fun _ => False) ((Kept.refl _ w).drew) (fun _ _ _ x => x)⟩
theorem HeldB.set_ (h : HeldB B ea g gp bm vd s st0 w0 wp0 st w wp) (hr : Row w D t ds) (hD : w0.heap.size ≤ D) (ht : t ≠ 64 ∧ t ≠ 43) (i : Nat) (u : Value) : HeldB B ea g gp bm vd s st0 w0 wp0 st (w.setCell ⟨D, i, none⟩ u) wp :=
  ⟨h.base, h.decls, h.freq, h.rules, h.i, h.kg.setCell (p := ⟨D, i, none⟩) (.inr hD) u, h.row.far (h.row.ne_ hr (fun e => ht.1 e.symm)) u, h.wrong.row_kept (Kept.one w ⟨D, i, none⟩ u) (fun b cs hf e => hf.ne_ hr (fun e => ht.2 e.symm) e)⟩
theorem HeldB.rowAt (h : HeldB B ea g gp bm vd s st0 w0 wp0 st w wp) (hr : Row w D t ds) (ht : t ≠ 64) {w' : World} (hk : Kg g w w') : Row w' D t ds := (kg_at hk hr.lt (hr.ne_ h.row ht)).trans hr

theorem decl_eq (s : Bytes) (st : PS) (hk : st.t.kind ≠ kFreq) : decl s st = (want s kName (next s st)).bind fun n st1 => (number s 1 (declMost st.t.kind) (declNote n st1)).bind fun m st3 => (want s kSemi st3).bind fun _ st2 => .ok () { st2 with decls := st2.decls ++ [⟨declKind st.t.kind, n.text, m⟩] } := by
  unfold decl
  simp only
  rw [if_neg hk]

/-- Behind the first note. -/
def dn1 (n : Tok) (st : PS) : PS := if 0 ≤ find st.decls n.text then note eTwice n.pos st else st
theorem declNote_eq (n : Tok) (st : PS) : declNote n st = if (dn1 n st).decls.length = 8 then note eMany n.pos (dn1 n st) else dn1 n st := rfl
theorem dn1_parts (n : Tok) (st : PS) : (dn1 n st).decls = st.decls ∧ (dn1 n st).freq = st.freq ∧ (dn1 n st).rules = st.rules := by
  unfold dn1
  split
  · obtain ⟨a, b, _, c, _⟩ := note_parts (s := []) eTwice n.pos st; exact ⟨a, b, c⟩
  · exact ⟨rfl, rfl, rfl⟩
theorem declNote_same (n : Tok) (st : PS) : (declNote n st).decls = st.decls ∧ (declNote n st).freq = st.freq ∧ (declNote n st).rules = st.rules := by
  rw [declNote_eq]
  obtain ⟨x, y, z⟩ := dn1_parts n st
  split
  · obtain ⟨a, b, _, c, _⟩ := note_parts (s := []) eMany n.pos (dn1 n st); exact ⟨a.trans x, b.trans y, c.trans z⟩
  · exact ⟨x, y, z⟩

theorem fails_heldB (h : HeldB B ea g gp bm vd s st0 w0 wp0 st w wp) {e : Ending} {w' : World} {k pos : Nat} (hf : Fails B ea w e w' k pos) : Fails B ea w0 e w' k pos := fails_held h.base.env.size h.base.g0 h.kg hf

theorem infoDecl : (Tryd.prog.info? 110).map (fun i => (i.zero, i.size, i.bytes)) = some (some (.agg #[.int .i64 0, vs [], .int .i64 0]), 3, 32) := by kernel_rfl

theorem RdR.plusDecl {n : Nat} {xs ys : List Value} (h : RdR B ea w g gp bm vd wp s st) (d : Decl) {w2 : World} {vd' : Value} (hn : st.decls.length = n) (hxs : st.decls.flatMap encDecl = xs) (hys : encDecl d = ys)
    (hs2 : Sl (fun b => B ≤ b ∧ b ≠ g) w2 110 3 vd' (n + 1) (xs ++ ys))
    (hk2 : Kept (fun b => vd.ownBlock = some b ∨ w.heap.size ≤ b) w w2) (hl : st.decls.length + 1 ≤ 1000) :
    Kept (fun b => B ≤ b) w (w2.setCell ⟨gp, 0, none⟩ vd') ∧ RdR B ea (w2.setCell ⟨gp, 0, none⟩ vd') g gp bm vd' wp s { st with decls := st.decls ++ [d] } := by
  subst hn hxs hys
  have hle : ∀ b, vd.ownBlock = some b ∨ w.heap.size ≤ b → B ≤ b := fun b hb => hb.elim (fun hb => (h.decls.2 b hb).1) (fun hb => Nat.le_trans h.env.size hb)
  have hrow : Row w2 g 64 (rdCells s st gp wp) := h.row.kept hk2 (by
    rintro (hb | hb)
    · exact (h.decls.2 g hb).2 rfl
    · exact absurd h.row.lt (Nat.not_lt.2 hb))
  have hpol : Row w2 gp 47 [vd, .int .i64 st.freq, .map (some bm)] := h.pol.kept hk2 (by
    rintro (hb | hb)
    · exact h.decls.ne_row h.pol (by decide) hb
    · exact absurd h.pol.lt (Nat.not_lt.2 hb))
  have k2 : Kept (fun b => B ≤ b) w w2 := hk2.mono hle
  have k3 : Kept (fun b => b = gp) w2 (w2.setCell ⟨gp, 0, none⟩ vd') := Kept.one w2 ⟨gp, 0, none⟩ vd'
  have el : (st.decls ++ [d]).length = st.decls.length + 1 := by simp
  have ex : (st.decls ++ [d]).flatMap encDecl = st.decls.flatMap encDecl ++ encDecl d := by simp
  have hrules : RulesR (fun b => B ≤ b ∧ b ≠ g) w2 bm st.rules := h.rules.kept
    (hk2.block bm (by
      rintro (hb | hb)
      · obtain ⟨M, h1, _⟩ := h.rules
        exact h.decls.ne_map h1 hb
      · obtain ⟨M, ⟨es, cl, h1, _⟩, _⟩ := h.rules
        rw [Array.getElem?_eq_none hb] at h1
        cases h1))
    (fun k cs _ hr => hk2.block k (by
      rintro (hb | hb)
      · exact h.decls.ne_row hr (by decide) hb
      · exact absurd hr.lt (Nat.not_lt.2 hb)))
  have hwr : WrongR B ea w2 wp st.wrong := h.wrong.row_kept hk2 (fun b cs hr => by
    rintro (hb | hb)
    · exact h.decls.ne_row hr (by decide) hb
    · exact absurd hr.lt (Nat.not_lt.2 hb))
  refine ⟨k2.setCell (p := ⟨gp, 0, none⟩) h.gp0 _, h.env.kept (k2.setCell (p := ⟨gp, 0, none⟩) h.gp0 vd') (fun b hb => hb), hrow.kept k3 (fun e => h.gp_ne e.symm), hpol.set_ 0 vd', ?_, ?_, hwr.row_kept k3 (fun b cs hr e => hr.ne_ hpol (by decide) e), h.g0, h.gp0, h.bm0, h.i, h.s, by rw [el]; exact hl⟩
  · rw [el, ex]
    exact hs2.kept k3 (fun b hb e => hs2.ne_row hpol (by decide) (e ▸ hb))
  · exact hrules.kept (k3.block bm (fun e => by obtain ⟨M, h1, _⟩ := hrules; exact h1.ne_row hpol e)) (fun k cs _ hr => k3.block k (fun e => hr.ne_ hpol (by decide) e))

theorem declNote_ok (n : Tok) (ok : st.Ok s) : (declNote n st).Ok s := by
  have h1 : (dn1 n st).Ok s := by
    unfold dn1
    split
    · exact (Fwd.note ok _ _).ok
    · exact ok
  rw [declNote_eq]
  split
  · exact (Fwd.note h1 _ _).ok
  · exact h1

end
end Go.Proofs.YtemppijblfflgaaDoor.Ev
namespace Go.Proofs.YtemppijblfflgaaDoor.Ev
open Go Go.RowKit

section
variable {B : Nat} {ea : Nat → Addr} {w w0 : World} {g gp bm D : Nat} {vd wp wp0 : Value} {s : Bytes} {st st0 : PS} {t : TypeId} {ds : List Value}

set_option maxRecDepth 100000 in
set_option maxHeartbeats 8000000 in
theorem decl_queue (h : RdR B ea w g gp bm vd wp s st) (ok : st.Ok s) (hk : st.t.kind = kQueue) (hdl : st.decls.length ≤ 900) :
    Calls Tryd.prog 14 #[.pointer (some ⟨g, 0, none⟩)] w fun e w' => OutD B ea w g gp bm s (decl s st) e w' := by
  have hne : st.t.kind ≠ kFreq := by rw [hk]; decide
  rw [decl_eq s st hne]
  obtain ⟨av, cv, rfl⟩ := h.decls.shape
  have q0 := (HeldB.start h).alloc (.cells #[vs st.t.kind, vs st.t.text, .int .i64 st.t.pos] 62)
  have r0 : Row (w.alloc (.cells #[vs st.t.kind, vs st.t.text, .int .i64 st.t.pos] 62)) w.heap.size 62 [vs st.t.kind, vs st.t.text, .int .i64 st.t.pos] := Row.new w _ _
  have hnx := next_all q0.rd
  obtain ⟨_, _, c2, c3, c4, _⟩ := rd_cell h.row
  have hB := h.env.size
  have hg := h.g0
  have hgp := h.gp0
  have e1 : (st.t.kind == kFreq) = false := by simpa using hne
  have Q0 := Lib.hid q0
  have R0 := Lib.hid r0
  have HN := Lib.hid hnx
  have HOK := Lib.hid (next_ok ok)
  have HK := Lib.hid hk
  clear q0 r0 hnx h ok hk hne
  unfold vs at *
  go_enter Tryd.func14, Tryd.ntmps14
  go_wp2_with fail
  refine HN.out.mono ?_
  rintro e w1 ⟨rfl, hk1, h1⟩
  have q1 := Q0.out.call hk1 h1 rfl rfl rfl
  have r1 := Q0.out.rowAt R0.out (by decide) hk1
  have d0 := r1.cell 0
  have hw := want_any q1.rd kName
  have Q1 := Lib.hid q1
  have R1 := Lib.hid r1
  have HW := Lib.hid hw
  clear q1 r1 hw hk1 h1
  simp at d0
  unfold vs at *
  go_wp2_with fail
  refine HW.out.mono ?_
  rintro e w2 ho
  cases hxw : want s kName (next s st) with
  | bad k pos =>
    rw [hxw] at ho
    obtain ⟨gf, rfl, hF⟩ := fails_heldB Q1.out ho
    have HXW := Lib.hid hxw
    clear hxw
    go_wp2
    refine ⟨rfl, ?_⟩
    rw [HXW.out]
    exact ⟨gf, rfl, hF⟩
  | ok nt st1 =>
    rw [hxw] at ho
    obtain ⟨v, rfl, rfl, hk2, vd2, wp2, h2⟩ := ho
    have hst1 := (want_ok hxw).2.2
    have ok1 : st1.Ok s := by rw [hst1]; exact next_ok HOK.out
    have q2 := (Q1.out.call hk2 h2 (by rw [hst1]; rfl) (by rw [hst1]; rfl) (by rw [hst1]; rfl)).alloc (.cells #[vs nt.kind, vs nt.text, .int .i64 nt.pos] 62)
    have r2 := (Q1.out.rowAt R1.out (by decide) hk2).alloc (.cells #[vs nt.kind, vs nt.text, .int .i64 nt.pos] 62)
    have x2 : Row (w2.alloc (.cells #[vs nt.kind, vs nt.text, .int .i64 nt.pos] 62)) w2.heap.size 62 [vs nt.kind, vs nt.text, .int .i64 nt.pos] := Row.new w2 _ _
    have hd1 : st1.decls = st.decls := by rw [hst1]; rfl
    have hdl2 : st1.decls.length ≤ 1000 := by rw [hd1]; omega
    have q2d := q2.drew
    have hfind := find_any nt.text gp st1.decls (.slice av st.decls.length cv) _ q2d.rd.decls hdl2 q2d.rd.pol.lt (q2d.rd.pol.cell 0)
    obtain ⟨_, _, _, _, _, c5, _⟩ := rd_cell q2.row
    have x2c := x2.cell 1
    simp at x2c
    have hdp1 : st1.rules = st.rules := by rw [hst1]; rfl
    have HXW := Lib.hid hxw
    have HOK1 := Lib.hid ok1
    have HD1 := Lib.hid hd1
    have Q2 := Lib.hid q2d
    have R2 := Lib.hid r2
    have X2 := Lib.hid x2
    have HFI := Lib.hid hfind
    clear hk2 h2 q2 q2d r2 x2 hxw hst1 ok1 hd1 hdp1 hfind d0
    unfold encTok vs at *
    go_wp2_with fail
    (refine wp_tail 6 (by kernel_rfl) (by kernel_rfl) ?_; simp only [List.take_succ_cons, List.take_zero, List.drop_succ_cons, List.drop_zero]; repeat still_step)
    refine wpStill_nil ?_
    go_wp2_with fail
    refine HFI.out.mono ?_
    rintro e w3 ⟨rfl, hb3⟩
    have k3 : Kg g ((w2.alloc (.cells #[vs nt.kind, vs nt.text, .int .i64 nt.pos] 62)).drew) w3 := kg_below hb3
    have q3 := Q2.out.call k3 (Q2.out.rd.below hb3) rfl rfl rfl
    have r3 := Q2.out.rowAt (R2.out.drew) (by decide) k3
    have x3 := Q2.out.rowAt (X2.out.drew) (by decide) k3
    have Q3 := Lib.hid q3
    have R3 := Lib.hid r3
    have X3 := Lib.hid x3
    have hn4 := note_any q3.rd 4 nt.pos
    have HN4 := Lib.hid hn4
    have xc1 := x3.cell 1
    have xc2 := x3.cell 2
    have herr : w3.cell? ⟨4, 0, none⟩ = some (.iface 171 (.pointer (some (ea 4)))) := q3.rd.env.err 4 (by omega) (by omega)
    simp at xc1 xc2
    clear k3 q3 r3 x3 hb3 hn4 c5 x2c
    go_upto_if 46 with fail
    go_cut [] (fun wx => ∃ wpx, HeldB B ea g gp bm (.slice av st.decls.length cv) s st w wp (dn1 nt st1) wx wpx ∧ Row wx w.heap.size 62 [vs st.t.kind, vs st.t.text, .int .i64 st.t.pos] ∧ Row wx w2.heap.size 62 [vs nt.kind, vs nt.text, .int .i64 nt.pos])
    case first =>
      by_cases hf : 0 ≤ find st1.decls nt.text
      · have hf' : decide (0 ≤ find st1.decls nt.text) = true := by simpa using hf
        have hd : dn1 nt st1 = note eTwice nt.pos st1 := by unfold dn1; rw [if_pos hf]
        have HD := Lib.hid hd
        clear hd
        unfold errV at *
        go_wp2_with fail
        refine HN4.out.mono ?_
        rintro e w4 ⟨rfl, hk4, wp4, h4⟩
        have h4' : RdR B ea w4 g gp bm (.slice av st.decls.length cv) wp4 s (dn1 nt st1) := by rw [HD.out]; exact h4
        obtain ⟨a1, a2, a3⟩ := dn1_parts nt st1
        have F := Lib.hid (And.intro (Q3.out.call hk4 h4' a1 a2 a3) (And.intro (Q3.out.rowAt R3.out (by decide) hk4) (Q3.out.rowAt X3.out (by decide) hk4)))
        clear h4 h4' hk4 a1 a2 a3
        go_wp2_with fail
        go_meet
        exact ⟨_, F.out⟩
      · have hf' : decide (0 ≤ find st1.decls nt.text) = false := by simpa using hf
        have hd : dn1 nt st1 = st1 := by unfold dn1; rw [if_neg hf]
        have HD := Lib.hid hd
        clear hd
        go_wp2_with fail
        go_meet
        exact ⟨_, by rw [HD.out]; exact Q3.out, R3.out, X3.out⟩
    case rest =>
      obtain ⟨wpx, q4, r4, x4⟩ := hcut
      clear xc1 xc2 herr
      have hd4 : (dn1 nt st1).decls.length = st.decls.length := by rw [(dn1_parts nt st1).1, HD1.out]
      have hn5 := note_any q4.rd 9 nt.pos
      have xc1 := x4.cell 1
      have xc2 := x4.cell 2
      have herr : wc.cell? ⟨5, 0, none⟩ = some (.iface 171 (.pointer (some (ea 9)))) := q4.rd.env.err 9 (by omega) (by omega)
      obtain ⟨_, _, _, _, _, c5, _⟩ := rd_cell q4.row
      have p0 := q4.rd.pol.cell 0
      have Q4 := Lib.hid q4
      have R4 := Lib.hid r4
      have X4 := Lib.hid x4
      have HN5 := Lib.hid hn5
      have HD4 := Lib.hid hd4
      clear q4 r4 x4 hn5 hd4
      simp at xc1 xc2 p0
      go_upto_if 60 with fail
      go_cut [] (fun wx => ∃ wpx, HeldB B ea g gp bm (.slice av st.decls.length cv) s st w wp (declNote nt st1) wx wpx ∧ Row wx w.heap.size 62 [vs st.t.kind, vs st.t.text, .int .i64 st.t.pos] ∧ Row wx w2.heap.size 62 [vs nt.kind, vs nt.text, .int .i64 nt.pos])
      case first =>
        by_cases hf : st.decls.length = 8
        · have hf' : ((st.decls.length : Int) == 8) = true := by simp; omega
          have hd : declNote nt st1 = note eMany nt.pos (dn1 nt st1) := by rw [declNote_eq, HD4.out, if_pos hf]
          have HD := Lib.hid hd
          clear hd
          unfold errV at *
          go_wp2_with fail
          refine HN5.out.mono ?_
          rintro e w4 ⟨rfl, hk4, wp4, h4⟩
          have h4' : RdR B ea w4 g gp bm (.slice av st.decls.length cv) wp4 s (declNote nt st1) := by rw [HD.out]; exact h4
          obtain ⟨a1, a2, a3⟩ := dn1_parts nt st1
          obtain ⟨b1, b2, b3⟩ := declNote_same nt st1
          have F := Lib.hid (And.intro (Q4.out.call hk4 h4' (b1.trans a1.symm) (b2.trans a2.symm) (b3.trans a3.symm)) (And.intro (Q4.out.rowAt R4.out (by decide) hk4) (Q4.out.rowAt X4.out (by decide) hk4)))
          clear h4 h4' hk4 a1 a2 a3 b1 b2 b3
          go_wp2_with fail
          go_meet
          exact ⟨_, F.out⟩
        · have hf' : ((st.decls.length : Int) == 8) = false := by simp; omega
          have hd : declNote nt st1 = dn1 nt st1 := by rw [declNote_eq, HD4.out, if_neg hf]
          have HD := Lib.hid hd
          clear hd
          go_wp2_with fail
          go_meet
          exact ⟨_, by rw [HD.out]; exact Q4.out, R4.out, X4.out⟩
      case rest =>
        obtain ⟨wpx, q5, r5, x5⟩ := hcut
        clear xc1 xc2 herr c5 p0
        have d0 := r5.cell 0
        have xc1 := x5.cell 1
        have Q5 := Lib.hid q5
        have R5 := Lib.hid r5
        clear q5 r5 x5
        simp at d0 xc1
        have l5 := Q5.out.row.lt
        have l6 : w.heap.size < wc.heap.size := R5.out.lt
        have hk := HK.out
        have hmo : declMost st.t.kind = 50 := by rw [hk]; decide
        have hkd : ((declKind st.t.kind : Nat) : Int) = 0 := by rw [hk]; decide
        rw [hk] at d0
        have q6 := Q5.out.alloc (.cells #[.int .i64 0, vs nt.text, .int .i64 0] 110)
        have r6 : Row (wc.alloc (.cells #[.int .i64 0, vs nt.text, .int .i64 0] 110)) wc.heap.size 110 [.int .i64 0, vs nt.text, .int .i64 0] := Row.new wc _ _
        have hD0 : w.heap.size ≤ wc.heap.size := Q5.out.kg.size
        have hnum := number_any q6.rd (declNote_ok nt HOK1.out) 1 50
        have Q6 := Lib.hid q6
        have R6 := Lib.hid r6
        have HNM := Lib.hid hnum
        have HMO := Lib.hid hmo
        have HKD := Lib.hid hkd
        clear q6 r6 hnum hmo hkd hk
        unfold vs at *
        go_wp2_with fail
        refine HNM.out.mono ?_
        rintro e w6 ho
        cases hx : number s 1 50 (declNote nt st1) with
        | bad k pos =>
          rw [hx] at ho
          obtain ⟨gf, rfl, hF⟩ := fails_heldB Q6.out ho
          have HX := Lib.hid hx
          clear hx
          go_wp2
          refine ⟨rfl, ?_⟩
          rw [HXW.out]
          show OutD _ _ _ _ _ _ _ ((number s 1 (declMost st.t.kind) (declNote nt st1)).bind _) _ _
          rw [HMO.out, HX.out]
          exact ⟨gf, rfl, hF⟩
        | ok m st3 =>
          rw [hx] at ho
          obtain ⟨v, rfl, rfl, hk7, vd7, wp7, h7⟩ := ho
          have hfw := (number_ok (declNote_ok nt HOK1.out) hx).1
          have q7 := Q6.out.call hk7 h7 hfw.decls hfw.freq hfw.rules
          have r7 := Q6.out.rowAt R6.out (by decide) hk7
          have q8 := q7.set_ r7 hD0 (by decide) 2 (.int .i64 m)
          have r8 := r7.set_ 2 (.int .i64 m)
          have d7 := r7.cell 2
          have f7 := r7.frozen 2
          have hw8 := want_any q8.rd kSemi
          have ok3 := hfw.ok
          have hd3 : st3.decls = st.decls := q7.decls
          have HX := Lib.hid hx
          have Q8 := Lib.hid q8
          have R8 := Lib.hid r8
          have HW8 := Lib.hid hw8
          have HOK3 := Lib.hid ok3
          have HD3 := Lib.hid hd3
          clear hx hk7 h7 hfw q7 r7 q8 r8 hw8 ok3 hd3
          simp at d7
          go_wp2_with fail
          refine HW8.out.mono ?_
          rintro e w9 ho
          cases hxs : want s kSemi st3 with
          | bad k pos =>
            rw [hxs] at ho
            obtain ⟨gf, rfl, hF⟩ := fails_heldB Q8.out ho
            have HXS := Lib.hid hxs
            clear hxs
            go_wp2
            refine ⟨rfl, ?_⟩
            rw [HXW.out]
            show OutD _ _ _ _ _ _ _ ((number s 1 (declMost st.t.kind) (declNote nt st1)).bind _) _ _
            rw [HMO.out, HX.out]
            show OutD _ _ _ _ _ _ _ ((want s kSemi st3).bind _) _ _
            rw [HXS.out]
            exact ⟨gf, rfl, hF⟩
          | ok tw st4 =>
            rw [hxs] at ho
            obtain ⟨v, rfl, rfl, hk9, vd9, wp9, h9⟩ := ho
            have hst4 := (want_ok hxs).2.2
            have hd4 : st4.decls = st3.decls := by rw [hst4]; rfl
            have hf4 : st4.freq = st3.freq := by rw [hst4]; rfl
            have hr4 : st4.rules = st3.rules := by rw [hst4]; rfl
            have q9 := Q8.out.call hk9 h9 hd4 hf4 hr4
            have r9 := Q8.out.rowAt R8.out (by decide) hk9
            have HXS := Lib.hid hxs
            have HD4 := Lib.hid hd4
            clear hk9 h9 hst4 hd4 hf4 hr4 hxs
            obtain ⟨_, _, _, _, _, c5, _⟩ := rd_cell q9.row
            have p0 := q9.rd.pol.cell 0
            have pf := q9.rd.pol.frozen 0
            have x0 := r9.cell 0
            have x1 := r9.cell 1
            have x2 := r9.cell 2
            have l0 := q9.row.lt
            have l1 := q9.rd.pol.lt
            have l2 := r9.lt
            simp at p0 x0 x1 x2
            have Q9 := Lib.hid q9
            have R9 := Lib.hid r9
            clear q9 r9
            go_wp2_with fail
            have wA : World := w9
            obtain ⟨i0, hi0, hz0, hz1, hz2⟩ := info_parts infoDecl
            have q10 := (Q9.out.alloc (.cells #[.int .i64 0, vs nt.text, .int .i64 m] 110)).drew
            have s1 := q10.rd.decls
            have hd4 : st4.decls = st.decls := HD4.out.trans HD3.out
            rw [hd4] at s1
            have S1 := Lib.hid s1
            have gne : wc.heap.size ≠ g := R9.out.ne_ Q9.out.row (by decide)
            have hwn : B ≤ ((w9.alloc (.cells #[.int .i64 0, vs nt.text, .int .i64 m] 110)).drew).heap.size ∧ ((w9.alloc (.cells #[.int .i64 0, vs nt.text, .int .i64 m] 110)).drew).heap.size ≠ g := ⟨q10.rd.env.size, fun e => by have := q10.row.lt; omega⟩
            have HWN := Lib.hid hwn
            have qs2 := cells_new w9 [.int .i64 0, vs nt.text, .int .i64 m] 110
            have QS2 := Lib.hid qs2
            have qs3 : ∀ u ∈ [Value.int .i64 0, vs nt.text, .int .i64 m], u.oneCell' = true := by intro u hu; simp at hu; rcases hu with rfl | rfl | rfl <;> rfl
            have QS3 := Lib.hid qs3
            have qq4 : st.decls.length + 1 ≤ maxLen := by unfold maxLen; omega
            have qq5 : (st.decls.length + 1) * 32 ≤ 140737488355328 := by omega
            have pf1 : (w9.alloc (.cells #[.int .i64 0, vs nt.text, .int .i64 m] 110)).drew.frozen? ⟨gp, 0, none⟩ = false := q10.rd.pol.frozen 0
            have pn : ¬ ((Value.slice av st.decls.length cv).ownBlock = some gp ∨ ((w9.alloc (.cells #[.int .i64 0, vs nt.text, .int .i64 m] 110)).drew).heap.size ≤ gp) := by
              rintro (hb | hb)
              · exact q10.rd.decls.ne_row q10.rd.pol (by decide) hb
              · exact absurd q10.rd.pol.lt (Nat.not_lt.2 hb)
            have PN := Lib.hid pn
            have gn : ¬ ((Value.slice av st.decls.length cv).ownBlock = some g ∨ ((w9.alloc (.cells #[.int .i64 0, vs nt.text, .int .i64 m] 110)).drew).heap.size ≤ g) := by
              rintro (hb | hb)
              · exact (q10.rd.decls.2 g hb).2 rfl
              · exact absurd q10.row.lt (Nat.not_lt.2 hb)
            have GN := Lib.hid gn
            have b5 := (rd_cell q10.row).2.2.2.2.2.1
            have b0 := q10.rd.pol.cell 0
            simp only [List.getElem?_cons_zero] at b0
            have Q10 := Lib.hid q10
            clear q10 s1 hwn qs2 qs3 pn gn gne
            unfold vs at *
            go_region_law (first
              | (refine step_append1 Tryd.underlying44 hi0 hz0 hz1 hz2 rfl (by decide) S1.out HWN.out rfl _ _ (by rfl) (by rfl) ⟨w9.heap.size, 0, none⟩ 1 1 [.int .i64 0, .string ⟨nt.text.toArray⟩, .int .i64 m] (by rfl) (by rfl) QS2.out QS3.out qq4 qq5 (by omega) ?_; intro g2 cap2 w11 hs2 hk2 hloc; have e1 := (hk2.cell (p := ⟨g, 5, none⟩) GN.out).trans b5; have e0 := (hk2.cell (p := ⟨gp, 0, none⟩) PN.out).trans b0; have e2 := (hk2.frozen (p := ⟨gp, 0, none⟩) PN.out).trans pf1; have Hs2 := Lib.hid hs2; have Hk2 := Lib.hid hk2; clear hs2 hk2 hloc))
            all_goals
              go_wp2
              go_end0
              rw [HXW.out]
              show OutD _ _ _ _ _ _ _ ((number s 1 (declMost st.t.kind) (declNote nt st1)).bind _) _ _
              rw [HMO.out, HX.out]
              show OutD _ _ _ _ _ _ _ ((want s kSemi st3).bind _) _ _
              rw [HXS.out]
              have hf := Q10.out.rd.plusDecl ⟨declKind st.t.kind, nt.text, m⟩ (congrArg List.length hd4) (congrArg (fun l => l.flatMap encDecl) hd4) (by unfold encDecl; rw [HKD.out]) Hs2.out Hk2.out (by rw [hd4]; omega)
              exact ⟨rfl, (kg_kept hB hg Q10.out.kg).trans hf.1, _, _, hf.2⟩
end
end Go.Proofs.YtemppijblfflgaaDoor.Ev
