/- The reader's declaration, kind ghost: walked. Printed by wip/tools (turned by hand once). Conditions: none. -/
import Derived.Test.YtemppijblfflgaaGreatDoorZb10
set_option linter.all false
set_option linter.unusedSimpArgs false
set_option linter.unusedVariables false
namespace Go.Proofs.YtemppijblfflgaaGreatDoor.Ev
open Go Go.RowKit

section
variable {B : Nat} {ea : Nat → Addr} {w w0 : World} {g gp bm D : Nat} {vd wp wp0 : Value} {s : Bytes} {st st0 : PS} {t : TypeId} {ds : List Value}

set_option maxRecDepth 100000 in
set_option maxHeartbeats 8000000 in
theorem decl_ghost (h : RdR B ea w g gp bm vd wp s st) (ok : st.Ok s) (hk : st.t.kind = kGhost) (hdl : st.decls.length ≤ 900) :
    Calls Tryz.prog 74 #[.pointer (some ⟨g, 0, none⟩)] w fun e w' => OutD B ea w g gp bm s (decl s st) e w' := by
  have hne : st.t.kind ≠ kFreq := by rw [hk]; decide
  rw [decl_eq s st hne]
  obtain ⟨av, cv, rfl⟩ := h.decls.shape
  have q0 := (HeldB.start h).alloc (.cells #[vs st.t.kind, vs st.t.text, .int .i64 st.t.pos] 170)
  have r0 : Row (w.alloc (.cells #[vs st.t.kind, vs st.t.text, .int .i64 st.t.pos] 170)) w.heap.size 170 [vs st.t.kind, vs st.t.text, .int .i64 st.t.pos] := Row.new w _ _
  have hnx := next_all q0.rd
  obtain ⟨_, _, c2, c3, c4, _⟩ := rd_cell h.row
  have hB := h.env.size
  have hg := h.g0
  have hgp := h.gp0
  have e1 : (st.t.kind == kFreq) = false := by simpa using hne
  have Q0 := Lib.hid q0
  have R0 := Lib.hid r0
  have HN := Lib.hid hnx
  have HOK := Lib.hid (next_ok ok)
  have HK := Lib.hid hk
  clear q0 r0 hnx h ok hk hne
  unfold vs at *
  go_enter Tryz.func74, Tryz.ntmps74
  go_wp2_with fail
  refine HN.out.mono ?_
  rintro e w1 ⟨rfl, hk1, h1⟩
  have q1 := Q0.out.call hk1 h1 rfl rfl rfl
  have r1 := Q0.out.rowAt R0.out (by decide) hk1
  have d0 := r1.cell 0
  have hw := want_any q1.rd kName
  have Q1 := Lib.hid q1
  have R1 := Lib.hid r1
  have HW := Lib.hid hw
  clear q1 r1 hw hk1 h1
  simp at d0
  unfold vs at *
  go_wp2_with fail
  refine HW.out.mono ?_
  rintro e w2 ho
  cases hxw : want s kName (next s st) with
  | bad k pos =>
    rw [hxw] at ho
    obtain ⟨gf, rfl, hF⟩ := fails_heldB Q1.out ho
    have HXW := Lib.hid hxw
    clear hxw
    go_wp2
    refine ⟨rfl, ?_⟩
    rw [HXW.out]
    exact ⟨gf, rfl, hF⟩
  | ok nt st1 =>
    rw [hxw] at ho
    obtain ⟨v, rfl, rfl, hk2, vd2, wp2, h2⟩ := ho
    have hst1 := (want_ok hxw).2.2
    have ok1 : st1.Ok s := by rw [hst1]; exact next_ok HOK.out
    have q2 := (Q1.out.call hk2 h2 (by rw [hst1]; rfl) (by rw [hst1]; rfl) (by rw [hst1]; rfl)).alloc (.cells #[vs nt.kind, vs nt.text, .int .i64 nt.pos] 170)
    have r2 := (Q1.out.rowAt R1.out (by decide) hk2).alloc (.cells #[vs nt.kind, vs nt.text, .int .i64 nt.pos] 170)
    have x2 : Row (w2.alloc (.cells #[vs nt.kind, vs nt.text, .int .i64 nt.pos] 170)) w2.heap.size 170 [vs nt.kind, vs nt.text, .int .i64 nt.pos] := Row.new w2 _ _
    have hd1 : st1.decls = st.decls := by rw [hst1]; rfl
    have hdl2 : st1.decls.length ≤ 1000 := by rw [hd1]; omega
    have q2d := q2.drew
    have hfind := find_any nt.text gp st1.decls (.slice av st.decls.length cv) _ q2d.rd.decls hdl2 q2d.rd.pol.lt (q2d.rd.pol.cell 0)
    obtain ⟨_, _, _, _, _, c5, _⟩ := rd_cell q2.row
    have x2c := x2.cell 1
    simp at x2c
    have hdp1 : st1.rules = st.rules := by rw [hst1]; rfl
    have HXW := Lib.hid hxw
    have HOK1 := Lib.hid ok1
    have HD1 := Lib.hid hd1
    have Q2 := Lib.hid q2d
    have R2 := Lib.hid r2
    have X2 := Lib.hid x2
    have HFI := Lib.hid hfind
    clear hk2 h2 q2 q2d r2 x2 hxw hst1 ok1 hd1 hdp1 hfind d0
    unfold encTok vs at *
    go_wp2_with fail
    (refine wp_tail 6 (by kernel_rfl) (by kernel_rfl) ?_; simp only [List.take_succ_cons, List.take_zero, List.drop_succ_cons, List.drop_zero]; repeat still_step)
    refine wpStill_nil ?_
    go_wp2_with fail
    refine HFI.out.mono ?_
    rintro e w3 ⟨rfl, hb3⟩
    have k3 : Kg g ((w2.alloc (.cells #[vs nt.kind, vs nt.text, .int .i64 nt.pos] 170)).drew) w3 := kg_below hb3
    have q3 := Q2.out.call k3 (Q2.out.rd.below hb3) rfl rfl rfl
    have r3 := Q2.out.rowAt (R2.out.drew) (by decide) k3
    have x3 := Q2.out.rowAt (X2.out.drew) (by decide) k3
    have Q3 := Lib.hid q3
    have R3 := Lib.hid r3
    have X3 := Lib.hid x3
    have hn4 := note_any q3.rd 4 nt.pos
    have HN4 := Lib.hid hn4
    have xc1 := x3.cell 1
    have xc2 := x3.cell 2
    have herr : w3.cell? ⟨8, 0, none⟩ = some (.iface 315 (.pointer (some (ea 4)))) := q3.rd.env.err 4 (by omega) (by omega)
    simp at xc1 xc2
    clear k3 q3 r3 x3 hb3 hn4 c5 x2c
    go_upto_if 46 with fail
    go_cut [] (fun wx => ∃ wpx, HeldB B ea g gp bm (.slice av st.decls.length cv) s st w wp (dn1 nt st1) wx wpx ∧ Row wx w.heap.size 170 [vs st.t.kind, vs st.t.text, .int .i64 st.t.pos] ∧ Row wx w2.heap.size 170 [vs nt.kind, vs nt.text, .int .i64 nt.pos])
    case first =>
      by_cases hf : 0 ≤ find st1.decls nt.text
      · have hf' : decide (0 ≤ find st1.decls nt.text) = true := by simpa using hf
        have hd : dn1 nt st1 = note eTwice nt.pos st1 := by unfold dn1; rw [if_pos hf]
        have HD := Lib.hid hd
        clear hd
        unfold errV at *
        go_wp2_with fail
        refine HN4.out.mono ?_
        rintro e w4 ⟨rfl, hk4, wp4, h4⟩
        have h4' : RdR B ea w4 g gp bm (.slice av st.decls.length cv) wp4 s (dn1 nt st1) := by rw [HD.out]; exact h4
        obtain ⟨a1, a2, a3⟩ := dn1_parts nt st1
        have F := Lib.hid (And.intro (Q3.out.call hk4 h4' a1 a2 a3) (And.intro (Q3.out.rowAt R3.out (by decide) hk4) (Q3.out.rowAt X3.out (by decide) hk4)))
        clear h4 h4' hk4 a1 a2 a3
        go_wp2_with fail
        go_meet
        exact ⟨_, F.out⟩
      · have hf' : decide (0 ≤ find st1.decls nt.text) = false := by simpa using hf
        have hd : dn1 nt st1 = st1 := by unfold dn1; rw [if_neg hf]
        have HD := Lib.hid hd
        clear hd
        go_wp2_with fail
        go_meet
        exact ⟨_, by rw [HD.out]; exact Q3.out, R3.out, X3.out⟩
    case rest =>
      obtain ⟨wpx, q4, r4, x4⟩ := hcut
      clear xc1 xc2 herr
      have hd4 : (dn1 nt st1).decls.length = st.decls.length := by rw [(dn1_parts nt st1).1, HD1.out]
      have hn5 := note_any q4.rd 9 nt.pos
      have xc1 := x4.cell 1
      have xc2 := x4.cell 2
      have herr : wc.cell? ⟨13, 0, none⟩ = some (.iface 315 (.pointer (some (ea 9)))) := q4.rd.env.err 9 (by omega) (by omega)
      obtain ⟨_, _, _, _, _, c5, _⟩ := rd_cell q4.row
      have p0 := q4.rd.pol.cell 0
      have Q4 := Lib.hid q4
      have R4 := Lib.hid r4
      have X4 := Lib.hid x4
      have HN5 := Lib.hid hn5
      have HD4 := Lib.hid hd4
      clear q4 r4 x4 hn5 hd4
      simp at xc1 xc2 p0
      go_upto_if 60 with fail
      go_cut [] (fun wx => ∃ wpx, HeldB B ea g gp bm (.slice av st.decls.length cv) s st w wp (declNote nt st1) wx wpx ∧ Row wx w.heap.size 170 [vs st.t.kind, vs st.t.text, .int .i64 st.t.pos] ∧ Row wx w2.heap.size 170 [vs nt.kind, vs nt.text, .int .i64 nt.pos])
      case first =>
        by_cases hf : st.decls.length = 8
        · have hf' : ((st.decls.length : Int) == 8) = true := by simp; omega
          have hd : declNote nt st1 = note eMany nt.pos (dn1 nt st1) := by rw [declNote_eq, HD4.out, if_pos hf]
          have HD := Lib.hid hd
          clear hd
          unfold errV at *
          go_wp2_with fail
          refine HN5.out.mono ?_
          rintro e w4 ⟨rfl, hk4, wp4, h4⟩
          have h4' : RdR B ea w4 g gp bm (.slice av st.decls.length cv) wp4 s (declNote nt st1) := by rw [HD.out]; exact h4
          obtain ⟨a1, a2, a3⟩ := dn1_parts nt st1
          obtain ⟨b1, b2, b3⟩ := declNote_same nt st1
          have F := Lib.hid (And.intro (Q4.out.call hk4 h4' (b1.trans a1.symm) (b2.trans a2.symm) (b3.trans a3.symm)) (And.intro (Q4.out.rowAt R4.out (by decide) hk4) (Q4.out.rowAt X4.out (by decide) hk4)))
          clear h4 h4' hk4 a1 a2 a3 b1 b2 b3
          go_wp2_with fail
          go_meet
          exact ⟨_, F.out⟩
        · have hf' : ((st.decls.length : Int) == 8) = false := by simp; omega
          have hd : declNote nt st1 = dn1 nt st1 := by rw [declNote_eq, HD4.out, if_neg hf]
          have HD := Lib.hid hd
          clear hd
          go_wp2_with fail
          go_meet
          exact ⟨_, by rw [HD.out]; exact Q4.out, R4.out, X4.out⟩
      case rest =>
        obtain ⟨wpx, q5, r5, x5⟩ := hcut
        clear xc1 xc2 herr c5 p0
        have d0 := r5.cell 0
        have xc1 := x5.cell 1
        have Q5 := Lib.hid q5
        have R5 := Lib.hid r5
        clear q5 r5 x5
        simp at d0 xc1
        have l5 := Q5.out.row.lt
        have l6 : w.heap.size < wc.heap.size := R5.out.lt
        have hk := HK.out
        have hmo : declMost st.t.kind = 50 := by rw [hk]; decide
        have hkd : ((declKind st.t.kind : Nat) : Int) = 1 := by rw [hk]; decide
        rw [hk] at d0
        have q6 := Q5.out.alloc (.cells #[.int .i64 1, vs nt.text, .int .i64 0] 86)
        have r6 : Row (wc.alloc (.cells #[.int .i64 1, vs nt.text, .int .i64 0] 86)) wc.heap.size 86 [.int .i64 1, vs nt.text, .int .i64 0] := Row.new wc _ _
        have hD0 : w.heap.size ≤ wc.heap.size := Q5.out.kg.size
        have hnum := number_any q6.rd (declNote_ok nt HOK1.out) 1 50
        have Q6 := Lib.hid q6
        have R6 := Lib.hid r6
        have HNM := Lib.hid hnum
        have HMO := Lib.hid hmo
        have HKD := Lib.hid hkd
        clear q6 r6 hnum hmo hkd hk
        unfold vs at *
        go_wp2_with fail
        refine HNM.out.mono ?_
        rintro e w6 ho
        cases hx : number s 1 50 (declNote nt st1) with
        | bad k pos =>
          rw [hx] at ho
          obtain ⟨gf, rfl, hF⟩ := fails_heldB Q6.out ho
          have HX := Lib.hid hx
          clear hx
          go_wp2
          refine ⟨rfl, ?_⟩
          rw [HXW.out]
          show OutD _ _ _ _ _ _ _ ((number s 1 (declMost st.t.kind) (declNote nt st1)).bind _) _ _
          rw [HMO.out, HX.out]
          exact ⟨gf, rfl, hF⟩
        | ok m st3 =>
          rw [hx] at ho
          obtain ⟨v, rfl, rfl, hk7, vd7, wp7, h7⟩ := ho
          have hfw := (number_ok (declNote_ok nt HOK1.out) hx).1
          have q7 := Q6.out.call hk7 h7 hfw.decls hfw.freq hfw.rules
          have r7 := Q6.out.rowAt R6.out (by decide) hk7
          have q8 := q7.set_ r7 hD0 (by decide) 2 (.int .i64 m)
          have r8 := r7.set_ 2 (.int .i64 m)
          have d7 := r7.cell 2
          have f7 := r7.frozen 2
          have hw8 := want_any q8.rd kSemi
          have ok3 := hfw.ok
          have hd3 : st3.decls = st.decls := q7.decls
          have HX := Lib.hid hx
          have Q8 := Lib.hid q8
          have R8 := Lib.hid r8
          have HW8 := Lib.hid hw8
          have HOK3 := Lib.hid ok3
          have HD3 := Lib.hid hd3
          clear hx hk7 h7 hfw q7 r7 q8 r8 hw8 ok3 hd3
          simp at d7
          go_wp2_with fail
          refine HW8.out.mono ?_
          rintro e w9 ho
          cases hxs : want s kSemi st3 with
          | bad k pos =>
            rw [hxs] at ho
            obtain ⟨gf, rfl, hF⟩ := fails_heldB Q8.out ho
            have HXS := Lib.hid hxs
            clear hxs
            go_wp2
            refine ⟨rfl, ?_⟩
            rw [HXW.out]
            show OutD _ _ _ _ _ _ _ ((number s 1 (declMost st.t.kind) (declNote nt st1)).bind _) _ _
            rw [HMO.out, HX.out]
            show OutD _ _ _ _ _ _ _ ((want s kSemi st3).bind _) _ _
            rw [HXS.out]
            exact ⟨gf, rfl, hF⟩
          | ok tw st4 =>
            rw [hxs] at ho
            obtain ⟨v, rfl, rfl, hk9, vd9, wp9, h9⟩ := ho
            have hst4 := (want_ok hxs).2.2
            have hd4 : st4.decls = st3.decls := by rw [hst4]; rfl
            have hf4 : st4.freq = st3.freq := by rw [hst4]; rfl
            have hr4 : st4.rules = st3.rules := by rw [hst4]; rfl
            have q9 := Q8.out.call hk9 h9 hd4 hf4 hr4
            have r9 := Q8.out.rowAt R8.out (by decide) hk9
            have HXS := Lib.hid hxs
            have HD4 := Lib.hid hd4
            clear hk9 h9 hst4 hd4 hf4 hr4 hxs
            obtain ⟨_, _, _, _, _, c5, _⟩ := rd_cell q9.row
            have p0 := q9.rd.pol.cell 0
            have pf := q9.rd.pol.frozen 0
            have x0 := r9.cell 0
            have x1 := r9.cell 1
            have x2 := r9.cell 2
            have l0 := q9.row.lt
            have l1 := q9.rd.pol.lt
            have l2 := r9.lt
            simp at p0 x0 x1 x2
            have Q9 := Lib.hid q9
            have R9 := Lib.hid r9
            clear q9 r9
            go_wp2_with fail
            have wA : World := w9
            obtain ⟨i0, hi0, hz0, hz1, hz2⟩ := info_parts infoDecl
            have q10 := (Q9.out.alloc (.cells #[.int .i64 1, vs nt.text, .int .i64 m] 86)).drew
            have s1 := q10.rd.decls
            have hd4 : st4.decls = st.decls := HD4.out.trans HD3.out
            rw [hd4] at s1
            have S1 := Lib.hid s1
            have gne : wc.heap.size ≠ g := R9.out.ne_ Q9.out.row (by decide)
            have hwn : B ≤ ((w9.alloc (.cells #[.int .i64 1, vs nt.text, .int .i64 m] 86)).drew).heap.size ∧ ((w9.alloc (.cells #[.int .i64 1, vs nt.text, .int .i64 m] 86)).drew).heap.size ≠ g := ⟨q10.rd.env.size, fun e => by have := q10.row.lt; omega⟩
            have HWN := Lib.hid hwn
            have qs2 := cells_new w9 [.int .i64 1, vs nt.text, .int .i64 m] 86
            have QS2 := Lib.hid qs2
            have qs3 : ∀ u ∈ [Value.int .i64 1, vs nt.text, .int .i64 m], u.oneCell' = true := by intro u hu; simp at hu; rcases hu with rfl | rfl | rfl <;> rfl
            have QS3 := Lib.hid qs3
            have qq4 : st.decls.length + 1 ≤ maxLen := by unfold maxLen; omega
            have qq5 : (st.decls.length + 1) * 32 ≤ 140737488355328 := by omega
            have pf1 : (w9.alloc (.cells #[.int .i64 1, vs nt.text, .int .i64 m] 86)).drew.frozen? ⟨gp, 0, none⟩ = false := q10.rd.pol.frozen 0
            have pn : ¬ ((Value.slice av st.decls.length cv).ownBlock = some gp ∨ ((w9.alloc (.cells #[.int .i64 1, vs nt.text, .int .i64 m] 86)).drew).heap.size ≤ gp) := by
              rintro (hb | hb)
              · exact q10.rd.decls.ne_row q10.rd.pol (by decide) hb
              · exact absurd q10.rd.pol.lt (Nat.not_lt.2 hb)
            have PN := Lib.hid pn
            have gn : ¬ ((Value.slice av st.decls.length cv).ownBlock = some g ∨ ((w9.alloc (.cells #[.int .i64 1, vs nt.text, .int .i64 m] 86)).drew).heap.size ≤ g) := by
              rintro (hb | hb)
              · exact (q10.rd.decls.2 g hb).2 rfl
              · exact absurd q10.row.lt (Nat.not_lt.2 hb)
            have GN := Lib.hid gn
            have b5 := (rd_cell q10.row).2.2.2.2.2.1
            have b0 := q10.rd.pol.cell 0
            simp only [List.getElem?_cons_zero] at b0
            have Q10 := Lib.hid q10
            clear q10 s1 hwn qs2 qs3 pn gn gne
            unfold vs at *
            go_region_law (first
              | (refine step_append1 Tryz.underlying87 hi0 hz0 hz1 hz2 rfl (by decide) S1.out HWN.out rfl _ _ (by rfl) (by rfl) ⟨w9.heap.size, 0, none⟩ 1 1 [.int .i64 1, .string ⟨nt.text.toArray⟩, .int .i64 m] (by rfl) (by rfl) QS2.out QS3.out qq4 qq5 (by omega) ?_; intro g2 cap2 w11 hs2 hk2 hloc; have e1 := (hk2.cell (p := ⟨g, 5, none⟩) GN.out).trans b5; have e0 := (hk2.cell (p := ⟨gp, 0, none⟩) PN.out).trans b0; have e2 := (hk2.frozen (p := ⟨gp, 0, none⟩) PN.out).trans pf1; have Hs2 := Lib.hid hs2; have Hk2 := Lib.hid hk2; clear hs2 hk2 hloc))
            all_goals
              go_wp2
              go_end0
              rw [HXW.out]
              show OutD _ _ _ _ _ _ _ ((number s 1 (declMost st.t.kind) (declNote nt st1)).bind _) _ _
              rw [HMO.out, HX.out]
              show OutD _ _ _ _ _ _ _ ((want s kSemi st3).bind _) _ _
              rw [HXS.out]
              have hf := Q10.out.rd.plusDecl ⟨declKind st.t.kind, nt.text, m⟩ (congrArg List.length hd4) (congrArg (fun l => l.flatMap encDecl) hd4) (by unfold encDecl; rw [HKD.out]) Hs2.out Hk2.out (by rw [hd4]; omega)
              exact ⟨rfl, (kg_kept hB hg Q10.out.kg).trans hf.1, _, _, hf.2⟩
end
end Go.Proofs.YtemppijblfflgaaGreatDoor.Ev
