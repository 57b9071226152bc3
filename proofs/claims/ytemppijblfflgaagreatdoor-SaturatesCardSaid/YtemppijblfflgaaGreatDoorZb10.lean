/- The reader's declarations: walked. The reader's declarations of names: walked. Conditions: none. -/
import Derived.RegionDies
import Derived.Outline
import Derived.Test.YtemppijblfflgaaGreatDoorZb01
import Derived.Test.YtemppijblfflgaaGreatDoorZb09
set_option linter.all false
set_option linter.unusedSimpArgs false
set_option linter.unusedVariables false
namespace Go.Proofs.YtemppijblfflgaaGreatDoor.Ev
open Go Go.RowKit

section
variable {B : Nat} {ea : Nat → Addr} {w : World} {g gp bm : Nat} {vd wp : Value} {s : Bytes} {st : PS}

theorem RdR.setFseen (h : RdR B ea w g gp bm vd wp s st) : RdR B ea (w.setCell ⟨g, 6, none⟩ (.bool true)) g gp bm vd wp s { st with fseen := true } := by
  have k1 : Kg g w (w.setCell ⟨g, 6, none⟩ (.bool true)) := Kg.cell g w 6 _
  exact h.turn (st' := { st with fseen := true }) (h.kg k1) (h.row.set_ 6 (.bool true)) rfl rfl rfl (h.wrong.quiet (h.kg k1)) h.i

theorem RdR.setPol (h : RdR B ea w g gp bm vd wp s st) (i : Nat) (u : Value) {vd' : Value} {st' : PS} (hr : Row (w.setCell ⟨gp, i, none⟩ u) gp 90 [vd', .int .i64 st'.freq, .map (some bm)])
    (hd : Sl (fun b => B ≤ b ∧ b ≠ g) (w.setCell ⟨gp, i, none⟩ u) 86 3 vd' st'.decls.length (st'.decls.flatMap encDecl)) (hdl : st'.decls.length ≤ 1000) (hrow : rdCells s st' gp wp = rdCells s st gp wp) (hru : st'.rules = st.rules) (hw : st'.wrong = st.wrong) (hi : st'.i = st.i) :
    RdR B ea (w.setCell ⟨gp, i, none⟩ u) g gp bm vd' wp s st' := by
  have hk : Kept (fun b => b = gp) w (w.setCell ⟨gp, i, none⟩ u) := Kept.one w ⟨gp, i, none⟩ u
  refine ⟨h.env.kept hk (fun b hb => by rw [hb]; exact h.gp0), by rw [hrow]; exact h.row.kept hk (fun e => h.gp_ne e.symm), hr, hd, ?_, by rw [hw]; exact h.wrong.row_kept hk (fun b cs hr e => hr.ne_ h.pol (by decide) e), h.g0, h.gp0, h.bm0, by rw [hi]; exact h.i, h.s, hdl⟩
  rw [hru]
  exact h.rules.kept (hk.block bm (fun e => by obtain ⟨M, h1, _⟩ := h.rules; exact h1.ne_row h.pol e)) (fun k cs _ hr => hk.block k (fun e => hr.ne_ h.pol (by decide) e))

theorem RdR.setFreq (h : RdR B ea w g gp bm vd wp s st) (n : Int) : RdR B ea (w.setCell ⟨gp, 1, none⟩ (.int .i64 n)) g gp bm vd wp s { st with freq := n } :=
  h.setPol 1 (.int .i64 n) (h.pol.set_ 1 (.int .i64 n)) (h.decls.kept (Kept.one w ⟨gp, 1, none⟩ _) (fun b hb e => h.decls.ne_row h.pol (by decide) (by rw [hb]; exact congrArg some e))) h.dl rfl rfl rfl rfl

theorem kg_kept (hB : B ≤ w.heap.size) (hg : B ≤ g) {w' : World} (h : Kg g w w') : Kept (fun b => B ≤ b) w w' := h.mono (fun b hb => hb.elim (fun e => e ▸ hg) (fun hb => Nat.le_trans hB hb))

set_option maxRecDepth 100000 in
set_option maxHeartbeats 4000000 in
theorem decl_freq (h : RdR B ea w g gp bm vd wp s st) (ok : st.Ok s) (hk : st.t.kind = kFreq) :
    Calls Tryz.prog 74 #[.pointer (some ⟨g, 0, none⟩)] w fun e w' => OutD B ea w g gp bm s (decl s st) e w' := by
  have hA := Held.start h 170 [vs st.t.kind, vs st.t.text, .int .i64 st.t.pos] (by decide)
  have hnx := next_all hA.rd
  obtain ⟨_, _, c2, c3, c4, _⟩ := rd_cell h.row
  have hB := h.env.size
  have hg := h.g0
  have HA := Lib.hid hA
  have HN := Lib.hid hnx
  have HOK := Lib.hid (next_ok ok)
  have HK := Lib.hid hk
  clear hA hnx h ok hk
  unfold vs at *
  go_enter Tryz.func74, Tryz.ntmps74
  go_wp2_with fail
  refine HN.out.mono ?_
  rintro e w1 ⟨rfl, hk1, h1⟩
  have hA1 := HA.out.call hk1 h1
  have d0 := hA1.row.cell 0
  have d2 := hA1.row.cell 2
  obtain ⟨_, _, _, _, _, _, c6, _⟩ := rd_cell h1.row
  have fr6 := h1.row.frozen 6
  simp at d0 d2
  rw [HK.out] at d0
  have herr : w1.cell? ⟨8, 0, none⟩ = some (.iface 315 (.pointer (some (ea 4)))) := h1.env.err 4 (by omega) (by omega)
  have hno := note_any hA1.rd 4 st.t.pos
  have HA1 := Lib.hid hA1
  have HNO := Lib.hid hno
  have H1 := Lib.hid h1
  clear hA1 hno h1 hk1
  cases hfs : st.fseen with
  | false =>
    have c6' : w1.cell? ⟨g, 6, none⟩ = some (.bool false) := by rw [← hfs]; exact c6
    have hF := HA1.out.rd.setFseen
    have kF := Kg.trans HA1.out.kg (Kg.cell g w1 6 (.bool true))
    have hnum := number_any (hF.drewN 1) (by exact ⟨HOK.out.i, HOK.out.pos, HOK.out.more, HOK.out.num, HOK.out.name⟩) 1 99
    have HF := Lib.hid hF
    have KF := Lib.hid kF
    have HNM := Lib.hid hnum
    obtain ⟨_, _, _, _, _, c5, _⟩ := rd_cell hF.row
    have hdecl : decl s st = (number s 1 99 { next s st with fseen := true }).bind fun n st => (want s kSemi { st with freq := n }).bind fun _ st => .ok () st := by
      unfold decl
      simp only
      rw [if_pos HK.out, if_neg (by show ¬ st.fseen = true; rw [hfs]; exact Bool.false_ne_true)]
    have HDE := Lib.hid hdecl
    clear hF kF hnum c6 hdecl hfs
    cases hx : number s 1 99 { next s st with fseen := true } with
    | bad k pos =>
      have HX := Lib.hid hx
      clear hx
      go_wp2_with fail
      go_region_dies
      all_goals
        refine HNM.out.mono ?_
        rintro e w3 ho
        rw [HX.out] at ho
        obtain ⟨gf, rfl, hF⟩ := fails_held hB hg (KF.out.drewN 1) ho
        refine ⟨rfl, ?_⟩
        rw [HDE.out, HX.out]
        exact ⟨gf, rfl, hF⟩
    | ok n st2 =>
      have HX := Lib.hid hx
      clear hx
      go_wp2_with fail
      go_region_law (first | (go_simp; go_at_call 119; refine HNM.out.mono ?_; rintro e w3 ho; rw [HX.out] at ho; obtain ⟨v, rfl, rfl, hk3, vd3, wp3, h3⟩ := ho; obtain ⟨_, _, _, _, _, c5', _⟩ := rd_cell h3.row; have p1 := h3.pol.cell 1; have pf := h3.pol.frozen 1; have H3 := Lib.hid h3; have K3 := Lib.hid hk3; clear h3 hk3; simp at p1))
      all_goals
        have h4 := H3.out.setFreq n
        have k4 : Kept (fun b => B ≤ b) w (w3.setCell ⟨gp, 1, none⟩ (.int .i64 n)) := (kg_kept hB hg (Kg.trans (KF.out.drewN 1) K3.out)).setCell (p := ⟨gp, 1, none⟩) H3.out.gp0 _
        have hw := want_any h4 kSemi
        have K4 := Lib.hid k4
        have HW := Lib.hid hw
        have H4 := Lib.hid h4
        clear h4 k4 hw
        go_wp2_with fail
        refine HW.out.mono ?_
        rintro e w5 ho
        cases hxw : want s kSemi { st2 with freq := n } with
        | bad k pos =>
          rw [hxw] at ho
          obtain ⟨gf, rfl, hF, hG⟩ := ho
          have HXW := Lib.hid hxw
          clear hxw
          go_wp2
          refine ⟨rfl, ?_⟩
          rw [HDE.out, HX.out]
          show OutD _ _ _ _ _ _ _ ((want s kSemi { st2 with freq := n }).bind _) _ _
          rw [HXW.out]
          exact ⟨gf, rfl, K4.out.trans hF, hG⟩
        | ok tw st5 =>
          rw [hxw] at ho
          obtain ⟨v, rfl, rfl, hk5, vd5, wp5, h5⟩ := ho
          have HXW := Lib.hid hxw
          have K5 := Lib.hid hk5
          have H5 := Lib.hid h5
          clear hxw hk5 h5
          go_wp2
          go_end0
          rw [HDE.out, HX.out]
          show OutD _ _ _ _ _ _ _ ((want s kSemi { st2 with freq := n }).bind _) _ _
          rw [HXW.out]
          exact ⟨rfl, K4.out.trans (kg_kept H4.out.env.size hg K5.out), _, _, H5.out⟩
  | true =>
    have c6' : w1.cell? ⟨g, 6, none⟩ = some (.bool true) := by rw [← hfs]; exact c6
    have hdecl : decl s st = (number s 1 99 { note eTwice st.t.pos (next s st) with fseen := true }).bind fun n st => (want s kSemi { st with freq := n }).bind fun _ st => .ok () st := by
      unfold decl
      simp only
      rw [if_pos HK.out, if_pos (show (next s st).fseen = true from hfs)]
    have HDE := Lib.hid hdecl
    clear c6 hdecl hfs
    unfold errV at *
    go_wp2_with fail
    refine HNO.out.mono ?_
    rintro e w2 ⟨rfl, hk2, wp2, h2⟩
    have h2e : RdR B ea w2 g gp bm vd wp2 s (note eTwice st.t.pos (next s st)) := h2
    have hF := h2e.setFseen
    have fr6' := h2.row.frozen 6
    obtain ⟨_, _, _, _, _, _, c6'', _⟩ := rd_cell h2.row
    have kF := Kg.trans (Kg.trans HA1.out.kg hk2) (Kg.cell g w2 6 (.bool true))
    have okn := (Fwd.note HOK.out eTwice st.t.pos).ok
    have hnum := number_any (hF.drewN 1) (by exact ⟨okn.i, okn.pos, okn.more, okn.num, okn.name⟩) 1 99
    have HF := Lib.hid hF
    have KF := Lib.hid kF
    have HNM := Lib.hid hnum
    obtain ⟨_, _, _, _, _, c5, _⟩ := rd_cell hF.row
    clear hF kF hnum h2 h2e hk2 okn c6'
    cases hx : number s 1 99 { note eTwice st.t.pos (next s st) with fseen := true } with
    | bad k pos =>
      have HX := Lib.hid hx
      clear hx
      go_wp2_with fail
      go_region_dies
      all_goals
        refine HNM.out.mono ?_
        rintro e w3 ho
        rw [HX.out] at ho
        obtain ⟨gf, rfl, hF⟩ := fails_held hB hg (KF.out.drewN 1) ho
        refine ⟨rfl, ?_⟩
        rw [HDE.out, HX.out]
        exact ⟨gf, rfl, hF⟩
    | ok n st2 =>
      have HX := Lib.hid hx
      clear hx
      go_wp2_with fail
      go_region_law (first | (go_simp; go_at_call 119; refine HNM.out.mono ?_; rintro e w3 ho; rw [HX.out] at ho; obtain ⟨v, rfl, rfl, hk3, vd3, wp3, h3⟩ := ho; obtain ⟨_, _, _, _, _, c5', _⟩ := rd_cell h3.row; have p1 := h3.pol.cell 1; have pf := h3.pol.frozen 1; have H3 := Lib.hid h3; have K3 := Lib.hid hk3; clear h3 hk3; simp at p1))
      all_goals
        have h4 := H3.out.setFreq n
        have k4 : Kept (fun b => B ≤ b) w (w3.setCell ⟨gp, 1, none⟩ (.int .i64 n)) := (kg_kept hB hg (Kg.trans (KF.out.drewN 1) K3.out)).setCell (p := ⟨gp, 1, none⟩) H3.out.gp0 _
        have hw := want_any h4 kSemi
        have K4 := Lib.hid k4
        have HW := Lib.hid hw
        have H4 := Lib.hid h4
        clear h4 k4 hw
        go_wp2_with fail
        refine HW.out.mono ?_
        rintro e w5 ho
        cases hxw : want s kSemi { st2 with freq := n } with
        | bad k pos =>
          rw [hxw] at ho
          obtain ⟨gf, rfl, hF, hG⟩ := ho
          have HXW := Lib.hid hxw
          clear hxw
          go_wp2
          refine ⟨rfl, ?_⟩
          rw [HDE.out, HX.out]
          show OutD _ _ _ _ _ _ _ ((want s kSemi { st2 with freq := n }).bind _) _ _
          rw [HXW.out]
          exact ⟨gf, rfl, K4.out.trans hF, hG⟩
        | ok tw st5 =>
          rw [hxw] at ho
          obtain ⟨v, rfl, rfl, hk5, vd5, wp5, h5⟩ := ho
          have HXW := Lib.hid hxw
          have K5 := Lib.hid hk5
          have H5 := Lib.hid h5
          clear hxw hk5 h5
          go_wp2
          go_end0
          rw [HDE.out, HX.out]
          show OutD _ _ _ _ _ _ _ ((want s kSemi { st2 with freq := n }).bind _) _ _
          rw [HXW.out]
          exact ⟨rfl, K4.out.trans (kg_kept H4.out.env.size hg K5.out), _, _, H5.out⟩
end
end Go.Proofs.YtemppijblfflgaaGreatDoor.Ev
namespace Go.Proofs.YtemppijblfflgaaGreatDoor.Ev
open Go Go.RowKit

/-- The reader in the midst of a call, from where the call began. -/
structure HeldB (B : Nat) (ea : Nat → Addr) (g gp bm : Nat) (vd : Value) (s : Bytes) (st0 : PS) (w0 : World) (wp0 : Value) (st : PS) (w : World) (wp : Value) : Prop where
  base : RdR B ea w0 g gp bm vd wp0 s st0
  decls : st.decls = st0.decls
  freq : st.freq = st0.freq
  rules : st.rules = st0.rules
  i : st.i ≤ s.length
  kg : Kg g w0 w
  row : Row w g 172 (rdCells s st gp wp)
  wrong : WrongR B ea w wp st.wrong

section
variable {B : Nat} {ea : Nat → Addr} {w w0 : World} {g gp bm D : Nat} {vd wp wp0 : Value} {s : Bytes} {st st0 : PS} {t : TypeId} {ds : List Value}

theorem HeldB.rd (h : HeldB B ea g gp bm vd s st0 w0 wp0 st w wp) : RdR B ea w g gp bm vd wp s st := h.base.later h.kg h.row h.decls h.freq h.rules h.wrong h.i
theorem HeldB.start (h : RdR B ea w g gp bm vd wp s st) : HeldB B ea g gp bm vd s st w wp st w wp := ⟨h, rfl, rfl, rfl, h.i, Kept.refl _ _, h.row, h.wrong⟩
theorem HeldB.call (h : HeldB B ea g gp bm vd s st0 w0 wp0 st w wp) {w' : World} {st' : PS} {vd' wp' : Value} (hk : Kg g w w') (hr : RdR B ea w' g gp bm vd' wp' s st') (hd : st'.decls = st.decls) (hf : st'.freq = st.freq) (hru : st'.rules = st.rules) :
    HeldB B ea g gp bm vd s st0 w0 wp0 st' w' wp' := ⟨h.base, hd.trans h.decls, hf.trans h.freq, hru.trans h.rules, hr.i, Kg.trans h.kg hk, hr.row, hr.wrong⟩
theorem HeldB.alloc (h : HeldB B ea g gp bm vd s st0 w0 wp0 st w wp) (o : Obj) : HeldB B ea g gp bm vd s st0 w0 wp0 st (w.alloc o) wp :=
  h.call ((Kept.refl _ _).alloc (.inr (Nat.le_refl _)) o) (h.rd.alloc o) rfl rfl rfl
theorem HeldB.drew (h : HeldB B ea g gp bm vd s st0 w0 wp0 st w wp) : HeldB B ea g gp bm vd s st0 w0 wp0 st w.drew wp := ⟨h.base, h.decls, h.freq, h.rules, h.i, h.kg.drew, h.row, h.wrong.row_kept (S1 := fun _ => False) ((Kept.refl _ w).drew) (fun _ _ _ x => x)⟩
theorem HeldB.set_ (h : HeldB B ea g gp bm vd s st0 w0 wp0 st w wp) (hr : Row w D t ds) (hD : w0.heap.size ≤ D) (ht : t ≠ 172 ∧ t ≠ 110) (i : Nat) (u : Value) : HeldB B ea g gp bm vd s st0 w0 wp0 st (w.setCell ⟨D, i, none⟩ u) wp :=
  ⟨h.base, h.decls, h.freq, h.rules, h.i, h.kg.setCell (p := ⟨D, i, none⟩) (.inr hD) u, h.row.far (h.row.ne_ hr (fun e => ht.1 e.symm)) u, h.wrong.row_kept (Kept.one w ⟨D, i, none⟩ u) (fun b cs hf e => hf.ne_ hr (fun e => ht.2 e.symm) e)⟩
theorem HeldB.rowAt (h : HeldB B ea g gp bm vd s st0 w0 wp0 st w wp) (hr : Row w D t ds) (ht : t ≠ 172) {w' : World} (hk : Kg g w w') : Row w' D t ds := (kg_at hk hr.lt (hr.ne_ h.row ht)).trans hr

theorem decl_eq (s : Bytes) (st : PS) (hk : st.t.kind ≠ kFreq) : decl s st = (want s kName (next s st)).bind fun n st1 => (number s 1 (declMost st.t.kind) (declNote n st1)).bind fun m st3 => (want s kSemi st3).bind fun _ st2 => .ok () { st2 with decls := st2.decls ++ [⟨declKind st.t.kind, n.text, m⟩] } := by
  unfold decl
  simp only
  rw [if_neg hk]

/-- Behind the first note. -/
def dn1 (n : Tok) (st : PS) : PS := if 0 ≤ find st.decls n.text then note eTwice n.pos st else st
theorem declNote_eq (n : Tok) (st : PS) : declNote n st = if (dn1 n st).decls.length = 8 then note eMany n.pos (dn1 n st) else dn1 n st := rfl
theorem dn1_parts (n : Tok) (st : PS) : (dn1 n st).decls = st.decls ∧ (dn1 n st).freq = st.freq ∧ (dn1 n st).rules = st.rules := by
  unfold dn1
  split
  · obtain ⟨a, b, _, c, _⟩ := note_parts (s := []) eTwice n.pos st; exact ⟨a, b, c⟩
  · exact ⟨rfl, rfl, rfl⟩
theorem declNote_same (n : Tok) (st : PS) : (declNote n st).decls = st.decls ∧ (declNote n st).freq = st.freq ∧ (declNote n st).rules = st.rules := by
  rw [declNote_eq]
  obtain ⟨x, y, z⟩ := dn1_parts n st
  split
  · obtain ⟨a, b, _, c, _⟩ := note_parts (s := []) eMany n.pos (dn1 n st); exact ⟨a.trans x, b.trans y, c.trans z⟩
  · exact ⟨x, y, z⟩

theorem fails_heldB (h : HeldB B ea g gp bm vd s st0 w0 wp0 st w wp) {e : Ending} {w' : World} {k pos : Nat} (hf : Fails B ea w e w' k pos) : Fails B ea w0 e w' k pos := fails_held h.base.env.size h.base.g0 h.kg hf

theorem infoDecl : (Tryz.prog.info? 86).map (fun i => (i.zero, i.size, i.bytes)) = some (some (.agg #[.int .i64 0, vs [], .int .i64 0]), 3, 32) := by kernel_rfl

theorem RdR.plusDecl {n : Nat} {xs ys : List Value} (h : RdR B ea w g gp bm vd wp s st) (d : Decl) {w2 : World} {vd' : Value} (hn : st.decls.length = n) (hxs : st.decls.flatMap encDecl = xs) (hys : encDecl d = ys)
    (hs2 : Sl (fun b => B ≤ b ∧ b ≠ g) w2 86 3 vd' (n + 1) (xs ++ ys))
    (hk2 : Kept (fun b => vd.ownBlock = some b ∨ w.heap.size ≤ b) w w2) (hl : st.decls.length + 1 ≤ 1000) :
    Kept (fun b => B ≤ b) w (w2.setCell ⟨gp, 0, none⟩ vd') ∧ RdR B ea (w2.setCell ⟨gp, 0, none⟩ vd') g gp bm vd' wp s { st with decls := st.decls ++ [d] } := by
  subst hn hxs hys
  have hle : ∀ b, vd.ownBlock = some b ∨ w.heap.size ≤ b → B ≤ b := fun b hb => hb.elim (fun hb => (h.decls.2 b hb).1) (fun hb => Nat.le_trans h.env.size hb)
  have hrow : Row w2 g 172 (rdCells s st gp wp) := h.row.kept hk2 (by
    rintro (hb | hb)
    · exact (h.decls.2 g hb).2 rfl
    · exact absurd h.row.lt (Nat.not_lt.2 hb))
  have hpol : Row w2 gp 90 [vd, .int .i64 st.freq, .map (some bm)] := h.pol.kept hk2 (by
    rintro (hb | hb)
    · exact h.decls.ne_row h.pol (by decide) hb
    · exact absurd h.pol.lt (Nat.not_lt.2 hb))
  have k2 : Kept (fun b => B ≤ b) w w2 := hk2.mono hle
  have k3 : Kept (fun b => b = gp) w2 (w2.setCell ⟨gp, 0, none⟩ vd') := Kept.one w2 ⟨gp, 0, none⟩ vd'
  have el : (st.decls ++ [d]).length = st.decls.length + 1 := by simp
  have ex : (st.decls ++ [d]).flatMap encDecl = st.decls.flatMap encDecl ++ encDecl d := by simp
  have hrules : RulesR (fun b => B ≤ b ∧ b ≠ g) w2 bm st.rules := h.rules.kept
    (hk2.block bm (by
      rintro (hb | hb)
      · obtain ⟨M, h1, _⟩ := h.rules
        exact h.decls.ne_map h1 hb
      · obtain ⟨M, ⟨es, cl, h1, _⟩, _⟩ := h.rules
        rw [Array.getElem?_eq_none hb] at h1
        cases h1))
    (fun k cs _ hr => hk2.block k (by
      rintro (hb | hb)
      · exact h.decls.ne_row hr (by decide) hb
      · exact absurd hr.lt (Nat.not_lt.2 hb)))
  have hwr : WrongR B ea w2 wp st.wrong := h.wrong.row_kept hk2 (fun b cs hr => by
    rintro (hb | hb)
    · exact h.decls.ne_row hr (by decide) hb
    · exact absurd hr.lt (Nat.not_lt.2 hb))
  refine ⟨k2.setCell (p := ⟨gp, 0, none⟩) h.gp0 _, h.env.kept (k2.setCell (p := ⟨gp, 0, none⟩) h.gp0 vd') (fun b hb => hb), hrow.kept k3 (fun e => h.gp_ne e.symm), hpol.set_ 0 vd', ?_, ?_, hwr.row_kept k3 (fun b cs hr e => hr.ne_ hpol (by decide) e), h.g0, h.gp0, h.bm0, h.i, h.s, by rw [el]; exact hl⟩
  · rw [el, ex]
    exact hs2.kept k3 (fun b hb e => hs2.ne_row hpol (by decide) (e ▸ hb))
  · exact hrules.kept (k3.block bm (fun e => by obtain ⟨M, h1, _⟩ := hrules; exact h1.ne_row hpol e)) (fun k cs _ hr => k3.block k (fun e => hr.ne_ hpol (by decide) e))

theorem HeldB.rowD (h : HeldB B ea g gp bm vd s st0 w0 wp0 st w wp) (hr : Row w D t ds) (hD : w0.heap.size ≤ D) (ht : t ≠ 172) : D ≠ g ∧ D < w.heap.size := ⟨hr.ne_ h.row ht, hr.lt⟩

theorem declNote_ok (n : Tok) (ok : st.Ok s) : (declNote n st).Ok s := by
  have h1 : (dn1 n st).Ok s := by
    unfold dn1
    split
    · exact (Fwd.note ok _ _).ok
    · exact ok
  rw [declNote_eq]
  split
  · exact (Fwd.note h1 _ _).ok
  · exact h1

end
end Go.Proofs.YtemppijblfflgaaGreatDoor.Ev
