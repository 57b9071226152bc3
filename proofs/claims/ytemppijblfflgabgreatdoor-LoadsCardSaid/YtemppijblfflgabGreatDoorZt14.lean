/- The document's answer: its reader's statements: if, repeat, and what is none. The document's answer: its reader: blocks: walked. The document's answer: its reader's statements: repeat, what is none, all. The document's answer: its policy's rules in memory, and the plain reading of a rule. The document's answer: its reader: rules. The list of tokens, as the document's answer makes it. No program in sight. Conditions: none. -/
import Derived.Deep.DeepCutAuto
import Derived.Deep.CutBlock
import Derived.Test.YtemppijblfflgabGreatDoorZt02
import Derived.Test.YtemppijblfflgabGreatDoorZt11
import Derived.Test.YtemppijblfflgabGreatDoorZt12
set_option linter.all false
namespace Go.Proofs.YtemppijblfflgabGreatDoor.Ev
open Go Go.RowKit

section
variable {w : World} {g gp : Nat} {tl : Value} {ts : List RTok} {pc : List Value} {r : Raw} {s : Bytes} {st : PS}

theorem RBlkV.later_ {w w' : World} {N : Nat → Prop} {v : Value} {b : Blk} {t : List Value} (h : RBlkV N w v b) (hk : Kg g w w') (hr : Row w g 136 t) : RBlkV N w' v b := h.kept (fun _ _ _ hr2 => kg_at hk hr2.lt (hr2.ne_ hr (by decide)))
theorem RBlkV.far_ {w : World} {N : Nat → Prop} {v : Value} {b : Blk} (h : RBlkV N w v b) {D : Nat} (hD : ∀ k, N k → k ≠ D) (i : Nat) (u : Value) : RBlkV N (w.setCell ⟨D, i, none⟩ u) v b :=
  h.kept (fun k _ hk _ => Below.heap_setCell w ⟨D, i, none⟩ u k (hD k hk))

theorem RBlkV.copy14 {w : World} {N : Nat → Prop} {v : Value} {b : Blk} (h : RBlkV N w v b) {C : Nat} (hC : ∀ k, N k → k ≠ C) (d0 d1 d2 d3 d4 d5 d6 d7 d8 d9 d10 d11 d12 d13 : Value) : RBlkV N (copied14 w C d0 d1 d2 d3 d4 d5 d6 d7 d8 d9 d10 d11 d12 d13) v b :=
  (((((((((((((h.far_ hC 0 d0).far_ hC 1 d1).far_ hC 2 d2).far_ hC 3 d3).far_ hC 4 d4).far_ hC 5 d5).far_ hC 6 d6).far_ hC 7 d7).far_ hC 8 d8).far_ hC 9 d9).far_ hC 10 d10).far_ hC 11 d11).far_ hC 12 d12).far_ hC 13 d13
/-- if, behind its condition and its block, of the reader so far. -/
def ifO (s : Bytes) (n : Nat) (o : Out Unit) : Out Blk :=
  (condO s (n + 1) o).bind fun c st => (block s n st).bind fun t st =>
    if st.t.kind = kElse then (block s n (next s st)).bind fun e st => .ok (.ite c t true e .nil) st else .ok (.ite c t false .nil .nil) st

theorem unit_if_else {n : Nat} {o : Out Unit} (h : (blockO s n (unitO (condO s (n + 1) o))).isB kElse = true) : unitO (ifO s n o) = unitO (blockO s n (takeO s kElse (blockO s n (unitO (condO s (n + 1) o))))) := by
  unfold ifO
  cases h1 : condO s (n + 1) o with
  | bad e p => rw [h1] at h; cases h
  | ok c st1 =>
    rw [h1] at h
    have e1 : blockO s n (unitO (Out.ok c st1)) = block s n st1 := rfl
    rw [e1] at h ⊢
    show unitO ((block s n st1).bind _) = _
    cases h2 : block s n st1 with
    | bad e p => rw [h2] at h; cases h
    | ok t st2 =>
      rw [h2] at h
      have hk : st2.t.kind = kElse := by simpa [Out.isB] using h
      show unitO (if st2.t.kind = kElse then _ else _) = _
      rw [if_pos hk]
      have e2 : takeO s kElse (Out.ok t st2) = .ok () (next s st2) := by show Out.ok () (take s kElse st2).2 = _; unfold take; rw [if_pos hk]
      rw [e2]
      show unitO ((block s n (next s st2)).bind _) = unitO (block s n (next s st2))
      cases block s n (next s st2) <;> rfl
theorem unit_if_no {n : Nat} {o : Out Unit} (h : (blockO s n (unitO (condO s (n + 1) o))).isB kElse = false) : unitO (ifO s n o) = unitO (takeO s kElse (blockO s n (unitO (condO s (n + 1) o)))) := by
  rw [takeO_no h]
  unfold ifO
  cases h1 : condO s (n + 1) o with
  | bad e p => rfl
  | ok c st1 =>
    rw [h1] at h
    have e1 : blockO s n (unitO (Out.ok c st1)) = block s n st1 := rfl
    rw [e1] at h ⊢
    show unitO ((block s n st1).bind _) = _
    cases h2 : block s n st1 with
    | bad e p => rfl
    | ok t st2 =>
      rw [h2] at h
      have hk : ¬ st2.t.kind = kElse := by simpa [Out.isB] using h
      show unitO (if st2.t.kind = kElse then _ else _) = _
      rw [if_neg hk]
      rfl
theorem if_ok_else {n : Nat} {o : Out Unit} {x : Blk} {st9 : PS} (h : (blockO s n (unitO (condO s (n + 1) o))).isB kElse = true) (e : ifO s n o = .ok x st9) :
    ∃ c st1 t st2 b, condO s (n + 1) o = .ok c st1 ∧ blockO s n (unitO (condO s (n + 1) o)) = .ok t st2 ∧ blockO s n (takeO s kElse (blockO s n (unitO (condO s (n + 1) o)))) = .ok b st9 ∧ x = .ite c t true b .nil := by
  unfold ifO at e
  obtain ⟨c, st1, h1, e⟩ := bind_ok e
  obtain ⟨t, st2, h2, e⟩ := bind_ok e
  have e1 : blockO s n (unitO (condO s (n + 1) o)) = .ok t st2 := by rw [h1]; exact h2
  rw [e1] at h
  have hk : st2.t.kind = kElse := by simpa [Out.isB] using h
  rw [if_pos hk] at e
  obtain ⟨b, st3, h3, e⟩ := bind_ok e
  injection e with e2 e3
  subst e2 e3
  refine ⟨c, st1, t, st2, b, h1, e1, ?_, rfl⟩
  rw [e1]
  have e2 : takeO s kElse (Out.ok t st2) = .ok () (next s st2) := by show Out.ok () (take s kElse st2).2 = _; unfold take; rw [if_pos hk]
  rw [e2]
  exact h3
theorem if_ok_no {n : Nat} {o : Out Unit} {x : Blk} {st9 : PS} (h : (blockO s n (unitO (condO s (n + 1) o))).isB kElse = false) (e : ifO s n o = .ok x st9) :
    ∃ c st1 t, condO s (n + 1) o = .ok c st1 ∧ blockO s n (unitO (condO s (n + 1) o)) = .ok t st9 ∧ x = .ite c t false .nil .nil := by
  unfold ifO at e
  obtain ⟨c, st1, h1, e⟩ := bind_ok e
  obtain ⟨t, st2, h2, e⟩ := bind_ok e
  have e1 : blockO s n (unitO (condO s (n + 1) o)) = .ok t st2 := by rw [h1]; exact h2
  rw [e1] at h
  have hk : ¬ st2.t.kind = kElse := by simpa [Out.isB] using h
  rw [if_neg hk] at e
  injection e with e2 e3
  subst e2 e3
  exact ⟨c, st1, t, h1, e1, rfl⟩

theorem RStmtsR_one_if {N : Nat → Prop} {w : World} {c : Cond} {t e : Blk} {o : Bool} {vt ve : Value} {cs : List Value} (hcs : cs = encRIf c vt o ve) (ht : RBlkV N w vt t) (he : if o then RBlkV N w ve e else ve = vnil ∧ e = .nil) : RStmtsR N w (.ite c t o e .nil) cs := by
  refine ⟨vt, ve, [], by rw [hcs, List.append_nil], ht, ?_, rfl⟩
  cases o with
  | true => exact he
  | false => exact he
theorem RStmtsR_one_rep {N : Nat → Prop} {w : World} {c : Cond} {t : Blk} {n : Int} {vt : Value} {cs : List Value} (hcs : cs = encRRep n c vt) (ht : RBlkV N w vt t) : RStmtsR N w (.rep n c t .nil) cs :=
  ⟨vt, [], by rw [hcs, List.append_nil], ht, rfl⟩

set_option maxRecDepth 100000 in
set_option maxHeartbeats 8000000 in
theorem rstmt_if (n : Nat) (hbl : BlockCr g gp tl ts pc s n) (h : RRd w g gp tl ts pc r) (hs : SaysOk s r st) (ht : RToks ts (toks s)) (hl : s.length ≤ 1000) (hd : st.depth ≤ 8) (hlp : st.loops ≤ 2) (hn : 2 * left s st ≤ n) (hk : st.t.kind = kIf) :
    Calls Tryz.prog 124 #[.pointer (some ⟨g, 0, none⟩)] w (OutSt w g gp tl ts pc s r.decls (ifO s n (.ok () (next s st)))) := by
  obtain ⟨x, hx, hof⟩ := SaysOk.tok hs ht
  obtain ⟨gt, ct, rfl, h1, h2, h3, h4, h5, t0, t1, t2⟩ := h.at_ hx
  have hxi : x.is = kIf := by rw [hof.1, hk]; decide
  rw [hxi] at t0
  obtain ⟨c0, c1, _⟩ := h.cells
  have hlt := h.row.lt
  have ff := fun j => h.row.frozen j
  have h8 := h.tl
  have hkk : r.k < ts.length := h3
  unfold maxLen at h2
  have hkp : Kg g w (w.setCell ⟨g, 1, none⟩ (.int .i64 ((r.k : Int) + 1))) := (Kept.refl _ w).setCell (p := ⟨g, 1, none⟩) (.inl rfl) _
  have q1 := (RH2.start_ (D := w.heap.size + 1) (RH.start_ (C := w.heap.size) (ty := 155) hkp (h.put 1 (.int .i64 ((r.k : Int) + 1)) (r' := r.nx) rfl rfl) (by decide) zeros14 (by simp)) [vs kIf, .int .i64 0, .int .i64 0, .bool false, vs [], .int .i64 0, vs [], .int .i64 0, vs [], .int .i64 0, .int .i64 0, .slice none 0 0, .slice none 0 0, .bool false] (by simp)).drewN 1
  have hnx : Says s r.nx (Out.ok () (next s st)) := SaysOk.next hs (by rw [hk]; decide) (by rw [hk]; decide)
  have hok : (next s st).Ok s := next_ok (SaysOk.ok hs)
  have hlt1 := next_lt (SaysOk.ok hs) hk (by decide) (by decide)
  have hcd := rcond_any q1.rd hnx ht hl (n := n + 1) (show left s (next s st) < n + 1 by omega)
  have HT := Lib.hid ht
  have HOK := Lib.hid hok
  have HBL := Lib.hid hbl
  have HCD := Lib.hid hcd
  have Q1 := Lib.hid q1
  have HF := Lib.hid (And.intro (show (next s st).depth ≤ 8 from hd) (And.intro (show (next s st).loops ≤ 2 from hlp) (show 2 * left s (next s st) + 1 ≤ n by omega)))
  generalize hk0 : r.k = kq at *
  generalize hLL : ts.length = LL at *
  clear hx hof hs hnx hok hxi hk hk0 hLL h q1 ht t1 t2 hkp hbl hcd hlt1 hn hd hlp
  unfold vs at *
  go_enter Tryz.func124, Tryz.ntmps124
  go_wp2
  go_region
  go_wp2_with fail
  refine HCD.out.mono ?_
  rintro e w1 ⟨a0, n0, a1, n1, a2, n2, j0, rfl, hk1, hcv, r1, h1', hs1, hd1⟩
  have p1 := Q1.out.call hk1 h1'
  have z := fun j => p1.row2.frozen j
  obtain ⟨e0, e1, e2, e3, e4, e5, e6, e7, e8, e9, e10, e11, e12, e13⟩ := cells14 p1.row2
  have q2 := ((((((p1.set2 4 (vs a0)).set2 5 (.int .i64 n0)).set2 6 (vs a1)).set2 7 (.int .i64 n1)).set2 8 (vs a2)).set2 9 (.int .i64 n2)).set2 10 (.int .i64 j0)
  have hbk := HBL.out (unitO (condO s (n + 1) (Out.ok () (next s st)))) _ r1 q2.rd (by
      cases hc : condO s (n + 1) (Out.ok () (next s st)) with
      | bad e p => rw [hc] at hs1; exact hs1
      | ok c st1 => rw [hc] at hs1; exact hs1) (fun st9 e => by
      cases hc : condO s (n + 1) (Out.ok () (next s st)) with
      | bad e2 p => rw [hc] at e; cases e
      | ok c st1 =>
        rw [hc] at e
        injection e with _ e
        subst e
        obtain ⟨f1, f2, f3⟩ := HF.out
        obtain ⟨g1, g2, _⟩ := cond_ok HOK.out hc
        exact ⟨by rw [g1.depth]; exact f1, by rw [g1.loops]; exact f2, by omega⟩)
  rw [hd1] at hbk
  have HBK := Lib.hid hbk
  have Q2 := Lib.hid q2
  have HCV := Lib.hid hcv
  clear p1 q2 hk1 hcv h1' hs1 hd1 hbk HCD Q1
  unfold vs at *
  go_wp2_with fail
  clear e0 e1 e2 e3 e4 e5 e6 e7 e8 e9 e10 e11 e12 e13 z
  refine HBK.out.mono ?_
  rintro e w2 ⟨va, vn, vc, rfl, hk2, hbv, r2, h2', hs2, hd2⟩
  have p2 := Q2.out.call hk2 h2'
  have z := fun j => p2.row2.frozen j
  obtain ⟨e0, e1, e2, e3, e4, e5, e6, e7, e8, e9, e10, e11, e12, e13⟩ := cells14 p2.row2
  have q3 := p2.set2 11 (.slice va vn vc)
  have hsz2 : w.heap.size + 1 < w1.heap.size := by have := Q2.out.row2.lt; simp at this; exact this
  have hbv2 : ∀ b st9, blockO s n (unitO (condO s (n + 1) (Out.ok () (next s st)))) = .ok b st9 → st9.wrong = none → RBlkV (fun k => w.heap.size + 1 < k) (w2.setCell ⟨w.heap.size + 1, 11, none⟩ (.slice va vn vc)) (.slice va vn vc) b := fun b st9 e hw =>
    ((hbv b st9 e hw).mono (fun k _ hk => by simp at hk; omega)).far_ (fun k hk => by omega) 11 _
  have htk := rtake_any q3.rd hs2 HT.out (kd := kElse) (kr := kElse) (by decide) (by decide) (by decide) (by decide)
  rw [hd2] at htk
  have HB2 := Lib.hid hbv2
  have Q3 := Lib.hid q3
  cases hel : (blockO s n (unitO (condO s (n + 1) (Out.ok () (next s st))))).isB kElse with
  | true =>
    rw [hel] at htk
    have HTK := Lib.hid htk
    have HEL := Lib.hid hel
    clear p2 q3 hk2 hbv h2' hs2 hd2 hbv2 htk hel HBK Q2 hsz2
    unfold vs at *
    go_wp2_with fail
    clear e0 e1 e2 e3 e4 e5 e6 e7 e8 e9 e10 e11 e12 e13 z
    refine HTK.out.mono ?_
    rintro e w3 ⟨rfl, hk3, r3, h3', hs3, hd3⟩
    have p3 := Q3.out.call hk3 h3'
    have z := fun j => p3.row2.frozen j
    obtain ⟨e0, e1, e2, e3, e4, e5, e6, e7, e8, e9, e10, e11, e12, e13⟩ := cells14 p3.row2
    have q4 := p3.set2 13 (.bool true)
    have hbv3 : ∀ b st9, blockO s n (unitO (condO s (n + 1) (Out.ok () (next s st)))) = .ok b st9 → st9.wrong = none → RBlkV (fun k => w.heap.size + 1 < k) (w3.setCell ⟨w.heap.size + 1, 13, none⟩ (.bool true)) (.slice va vn vc) b := fun b st9 e hw =>
      ((HB2.out b st9 e hw).later_ hk3 Q3.out.rd.row).far_ (fun k hk => by omega) 13 _
    have hbk := HBL.out (takeO s kElse (blockO s n (unitO (condO s (n + 1) (Out.ok () (next s st)))))) _ r3 q4.rd hs3 (fun st9 e => by
      obtain ⟨f1, f2, f3⟩ := HF.out
      obtain ⟨t1, st1, e1, k1⟩ := Out.isB_ok HEL.out
      have hc9 := e1
      rw [e1] at e
      obtain ⟨c, st0, hc, hb⟩ := bind_ok (show (condO s (n + 1) (Out.ok () (next s st))).bind (fun _ st => block s n st) = .ok t1 st1 from by
        rw [← hc9]
        cases condO s (n + 1) (Out.ok () (next s st)) <;> rfl)
      obtain ⟨g1, g2, _⟩ := cond_ok HOK.out hc
      obtain ⟨b1, _, _, _, _, b6⟩ := block_ok g1.ok (by rw [g1.depth]; exact f1) (by rw [g1.loops]; exact f2) hb
      have e2 : takeO s kElse (Out.ok t1 st1) = .ok () (next s st1) := by show Out.ok () (take s kElse st1).2 = _; unfold take; rw [if_pos k1]
      rw [e2] at e
      injection e with _ e
      subst e
      have hlt2 := next_lt b1.ok k1 (by decide) (by decide)
      exact ⟨by show st1.depth ≤ 8; rw [b1.depth, g1.depth]; exact f1, by show st1.loops ≤ 2; rw [b1.loops, g1.loops]; exact f2, by omega⟩)
    rw [hd3] at hbk
    have HBK2 := Lib.hid hbk
    have HB3 := Lib.hid hbv3
    have Q4 := Lib.hid q4
    have hsz3 : w.heap.size + 1 < w3.heap.size := by have := Q4.out.row2.lt; simp at this; exact this
    clear p3 q4 hk3 h3' hs3 hd3 hbk hbv3 HTK Q3 HB2
    go_wp2_with fail
    clear e0 e1 e2 e3 e4 e5 e6 e7 e8 e9 e10 e11 e12 e13 z
    refine HBK2.out.mono ?_
    rintro e w4 ⟨ua, un, uc, rfl, hk4, hbw, r4, h4', hs4, hd4⟩
    have p4 := Q4.out.call hk4 h4'
    have z := fun j => p4.row2.frozen j
    have y := fun j => p4.row.frozen j
    obtain ⟨e0, e1, e2, e3, e4, e5, e6, e7, e8, e9, e10, e11, e12, e13⟩ := cells14 p4.row2
    obtain ⟨f0, f1, f2, f3, f4, f5, f6, f7, f8, f9, f10, f11, f12, f13⟩ := cells14 p4.row
    have hne : ¬ w.heap.size = w.heap.size + 1 := by omega
    have q9 := (p4.set2 12 (.slice ua un uc)).copy14 (vs kIf) (.int .i64 0) (.int .i64 0) (.bool false) (vs a0) (.int .i64 n0) (vs a1) (.int .i64 n1) (vs a2) (.int .i64 n2) (.int .i64 j0) (.slice va vn vc) (.slice ua un uc) (.bool true)
    have hbA : ∀ b st9, blockO s n (unitO (condO s (n + 1) (Out.ok () (next s st)))) = .ok b st9 → st9.wrong = none → RBlkV (fun k => w.heap.size ≤ k) (copied14 (w4.setCell ⟨w.heap.size + 1, 12, none⟩ (.slice ua un uc)) w.heap.size (vs kIf) (.int .i64 0) (.int .i64 0) (.bool false) (vs a0) (.int .i64 n0) (vs a1) (.int .i64 n1) (vs a2) (.int .i64 n2) (.int .i64 j0) (.slice va vn vc) (.slice ua un uc) (.bool true)) (.slice va vn vc) b := fun b st9 e hw =>
      ((((HB3.out b st9 e hw).later_ hk4 Q4.out.rd.row).far_ (fun k hk => by omega) 12 _).copy14 (C := w.heap.size) (fun k hk => by omega) _ _ _ _ _ _ _ _ _ _ _ _ _ _).mono (fun k _ hk => by omega)
    have hbB : ∀ b st9, blockO s n (takeO s kElse (blockO s n (unitO (condO s (n + 1) (Out.ok () (next s st)))))) = .ok b st9 → st9.wrong = none → RBlkV (fun k => w.heap.size ≤ k) (copied14 (w4.setCell ⟨w.heap.size + 1, 12, none⟩ (.slice ua un uc)) w.heap.size (vs kIf) (.int .i64 0) (.int .i64 0) (.bool false) (vs a0) (.int .i64 n0) (vs a1) (.int .i64 n1) (vs a2) (.int .i64 n2) (.int .i64 j0) (.slice va vn vc) (.slice ua un uc) (.bool true)) (.slice ua un uc) b := fun b st9 e hw =>
      (((((hbw b st9 e hw).mono (N' := fun k => w.heap.size + 1 < k) (fun k _ hk => by simp at hk; omega))).far_ (D := w.heap.size + 1) (fun k hk => by omega) 12 _).copy14 (C := w.heap.size) (fun k hk => by omega) _ _ _ _ _ _ _ _ _ _ _ _ _ _).mono (fun k _ hk => by omega)
    have HBA := Lib.hid hbA
    have HBB := Lib.hid hbB
    have Q9 := Lib.hid q9
    have zW0 := Lib.hid hs4
    have FD := Lib.hid hd4
    clear p4 q9 hk4 h4' hs4 hd4 hbw hbA hbB HBK2 Q4 HB3 hsz3
    unfold vs at *
    go_wp2
    refine bodyPost_ret (results_cell (cs := [vs kIf, .int .i64 0, .int .i64 0, .bool false, vs a0, .int .i64 n0, vs a1, .int .i64 n1, vs a2, .int .i64 n2, .int .i64 j0, .slice va vn vc, .slice ua un uc, .bool true]) Tryz.results124 aggRStmt sizeRStmt rfl Q9.out.row) rfl ?_
    refine ⟨_, rfl, ⟨_, _, _, _, _, _, _, _, _, _, _, _, _, _, _, _, _, _, rfl⟩, Q9.out.kg, fun x9 st9 e hw => ?_, r4, Q9.out.rd, zW0.out.of_unit (unit_if_else HEL.out), FD.out⟩
    obtain ⟨c, st1, tb, st2, eb, u1, u2, u3, rfl⟩ := if_ok_else HEL.out e
    have hw2 : st2.wrong = none := by
      obtain ⟨t1, st3, e1, k1⟩ := Out.isB_ok HEL.out
      rw [u2] at e1
      injection e1 with _ e1
      subst e1
      rw [u2] at u3
      have e2 : takeO s kElse (Out.ok tb st2) = .ok () (next s st2) := by show Out.ok () (take s kElse st2).2 = _; unfold take; rw [if_pos k1]
      rw [e2] at u3
      obtain ⟨f1, f2, f3⟩ := HF.out
      obtain ⟨g1, g2, _⟩ := cond_ok HOK.out u1
      have hb : block s n st1 = .ok tb st2 := by rw [u1] at u2; exact u2
      obtain ⟨b1, _, _, _, _, b6⟩ := block_ok g1.ok (by rw [g1.depth]; exact f1) (by rw [g1.loops]; exact f2) hb
      obtain ⟨b9, _⟩ := block_ok (next_ok b1.ok) (by show st2.depth ≤ 8; rw [b1.depth, g1.depth]; exact f1) (by show st2.loops ≤ 2; rw [b1.loops, g1.loops]; exact f2) (show block s n (next s st2) = .ok eb st9 from u3)
      exact b9.wrong hw
    have hw1 : st1.wrong = none := by
      obtain ⟨f1, f2, f3⟩ := HF.out
      obtain ⟨g1, g2, _⟩ := cond_ok HOK.out u1
      have hb : block s n st1 = .ok tb st2 := by rw [u1] at u2; exact u2
      exact (block_ok g1.ok (by rw [g1.depth]; exact f1) (by rw [g1.loops]; exact f2) hb).1.wrong hw2
    have hcx := HCV.out c st1 u1 hw1
    exact RStmtsR_one_if (by unfold encRIf; rw [← hcx]; rfl) (HBA.out tb st2 u2 hw2) (HBB.out eb st9 u3 hw)
  | false =>
    rw [hel] at htk
    have HTK := Lib.hid htk
    have HEL := Lib.hid hel
    clear p2 q3 hk2 hbv h2' hs2 hd2 hbv2 htk hel HBK Q2 hsz2
    unfold vs at *
    go_wp2_with fail
    clear e0 e1 e2 e3 e4 e5 e6 e7 e8 e9 e10 e11 e12 e13 z
    refine HTK.out.mono ?_
    rintro e w3 ⟨rfl, hk3, r3, h3', hs3, hd3⟩
    have p3 := Q3.out.call hk3 h3'
    have z := fun j => p3.row2.frozen j
    have y := fun j => p3.row.frozen j
    obtain ⟨e0, e1, e2, e3, e4, e5, e6, e7, e8, e9, e10, e11, e12, e13⟩ := cells14 p3.row2
    obtain ⟨f0, f1, f2, f3, f4, f5, f6, f7, f8, f9, f10, f11, f12, f13⟩ := cells14 p3.row
    have hne : ¬ w.heap.size = w.heap.size + 1 := by omega
    have q9 := (p3.set2 13 (.bool false)).copy14 (vs kIf) (.int .i64 0) (.int .i64 0) (.bool false) (vs a0) (.int .i64 n0) (vs a1) (.int .i64 n1) (vs a2) (.int .i64 n2) (.int .i64 j0) (.slice va vn vc) (.slice none 0 0) (.bool false)
    have hbA : ∀ b st9, blockO s n (unitO (condO s (n + 1) (Out.ok () (next s st)))) = .ok b st9 → st9.wrong = none → RBlkV (fun k => w.heap.size ≤ k) (copied14 (w3.setCell ⟨w.heap.size + 1, 13, none⟩ (.bool false)) w.heap.size (vs kIf) (.int .i64 0) (.int .i64 0) (.bool false) (vs a0) (.int .i64 n0) (vs a1) (.int .i64 n1) (vs a2) (.int .i64 n2) (.int .i64 j0) (.slice va vn vc) (.slice none 0 0) (.bool false)) (.slice va vn vc) b := fun b st9 e hw =>
      ((((HB2.out b st9 e hw).later_ hk3 Q3.out.rd.row).far_ (fun k hk => by omega) 13 _).copy14 (C := w.heap.size) (fun k hk => by omega) _ _ _ _ _ _ _ _ _ _ _ _ _ _).mono (fun k _ hk => by omega)
    have HBA := Lib.hid hbA
    have Q9 := Lib.hid q9
    have zW0 := Lib.hid hs3
    have FD := Lib.hid hd3
    clear p3 q9 hk3 h3' hs3 hd3 hbA HTK Q3 HB2
    unfold vs at *
    go_wp2
    refine bodyPost_ret (results_cell (cs := [vs kIf, .int .i64 0, .int .i64 0, .bool false, vs a0, .int .i64 n0, vs a1, .int .i64 n1, vs a2, .int .i64 n2, .int .i64 j0, .slice va vn vc, .slice none 0 0, .bool false]) Tryz.results124 aggRStmt sizeRStmt rfl Q9.out.row) rfl ?_
    refine ⟨_, rfl, ⟨_, _, _, _, _, _, _, _, _, _, _, _, _, _, _, _, _, _, rfl⟩, Q9.out.kg, fun x9 st9 e hw => ?_, r3, Q9.out.rd, zW0.out.of_unit (unit_if_no HEL.out), FD.out⟩
    obtain ⟨c, st1, tb, u1, u2, rfl⟩ := if_ok_no HEL.out e
    have hw1 : st1.wrong = none := by
      obtain ⟨f1, f2, f3⟩ := HF.out
      obtain ⟨g1, g2, _⟩ := cond_ok HOK.out u1
      have hb : block s n st1 = .ok tb st9 := by rw [u1] at u2; exact u2
      exact (block_ok g1.ok (by rw [g1.depth]; exact f1) (by rw [g1.loops]; exact f2) hb).1.wrong hw
    have hcx := HCV.out c st1 u1 hw1
    exact RStmtsR_one_if (by unfold encRIf; rw [← hcx]; rfl) (HBA.out tb st9 u2 hw) ⟨rfl, rfl⟩
end
end Go.Proofs.YtemppijblfflgabGreatDoor.Ev
namespace Go.Proofs.YtemppijblfflgabGreatDoor.Ev
open Go Go.RowKit

def isDeep (o : Out Unit) : Bool := match o with
  | .ok _ st => decide (st.t.kind = kOpen ∧ st.depth = 8)
  | .bad _ _ => false
def goB (o : Out Unit) : Bool := match o with
  | .ok _ st => !(st.t.kind == kClose)
  | .bad _ _ => false
theorem isDeep_yes {o : Out Unit} (h : isDeep o = true) : deepO o = o.fail_ eDeep := by
  cases o with
  | bad e p => cases h
  | ok a st =>
    have h1 : st.t.kind = kOpen ∧ st.depth = 8 := of_decide_eq_true h
    show (if _ then _ else _) = _
    rw [if_pos h1]
    rfl
theorem isDeep_no {o : Out Unit} (h : isDeep o = false) : deepO o = o := by
  cases o with
  | bad e p => rfl
  | ok a st =>
    have h1 : ¬ (st.t.kind = kOpen ∧ st.depth = 8) := of_decide_eq_false h
    show (if _ then _ else _) = _
    rw [if_neg h1]
theorem goB_yes {o : Out Unit} (h : goB o = true) : ∃ st, o = .ok () st ∧ (Out.ok () st : Out Unit).isB kClose = false := by
  cases o with
  | bad e p => cases h
  | ok a st =>
    refine ⟨st, rfl, ?_⟩
    have h1 : (!(st.t.kind == kClose)) = true := h
    simpa [Out.isB] using h1
theorem goB_no {o : Out Unit} (h : goB o = false) : o.isB kClose = true ∨ ∃ e p, o = .bad e p := by
  cases o with
  | bad e p => exact .inr ⟨e, p, rfl⟩
  | ok a st =>
    have h1 : (!(st.t.kind == kClose)) = false := h
    exact .inl (by simpa [Out.isB] using h1)

section
variable {w : World} {g gp : Nat} {tl : Value} {ts : List RTok} {pc : List Value} {r : Raw} {s : Bytes} {α : Type}

/-- The reader, at another depth. -/
abbrev Raw.dp (r : Raw) (D : Int) : Raw := { r with deep := D }
theorem Says.deepIn {o : Out α} (h : Says s r o) (D : Int) (hD : ∀ a st, o = .ok a st → D = ((st.depth + 1 : Nat) : Int)) : Says s (r.dp D) (inO o) := by
  cases o with
  | bad e p =>
    have h' : SaysBad s r e p := h
    exact ⟨h'.lt, h'.bad, h'.badAt, h'.ne, h'.fk⟩
  | ok a st =>
    have h' : SaysOk s r st := h
    exact ⟨h'.pos.of rfl rfl, ⟨h'.ok.i, h'.ok.pos, h'.ok.more, h'.ok.num, h'.ok.name⟩, hD a st rfl, h'.loops, h'.bad, h'.wrong, h'.decls, h'.freq, h'.seen, h'.f0, h'.fk⟩
theorem Says.deepOut {o : Out α} (h : Says s r o) (D : Int) (hD : ∀ a st, o = .ok a st → D = ((st.depth - 1 : Nat) : Int)) : Says s (r.dp D) (outO o) := by
  cases o with
  | bad e p =>
    have h' : SaysBad s r e p := h
    exact ⟨h'.lt, h'.bad, h'.badAt, h'.ne, h'.fk⟩
  | ok a st =>
    have h' : SaysOk s r st := h
    exact ⟨h'.pos.of rfl rfl, ⟨h'.ok.i, h'.ok.pos, h'.ok.more, h'.ok.num, h'.ok.name⟩, hD a st rfl, h'.loops, h'.bad, h'.wrong, h'.decls, h'.freq, h'.seen, h'.f0, h'.fk⟩

set_option maxRecDepth 100000 in
set_option maxHeartbeats 8000000 in
theorem rblock_step (n : Nat) (ht : RToks ts (toks s)) (hl : s.length ≤ 1000) (hst : ∀ m, m < n + 1 → StmtCr g gp tl ts pc s m) : BlockCr g gp tl ts pc s (n + 1) := by
  intro o w r h hs hok
  rw [blockO_eq]
  have his := ris_any h hs ht (kd := kOpen) (kr := kOpen) (by decide) (by decide)
  obtain ⟨_, _, c2, _⟩ := h.cells
  have HI := Lib.hid his
  have HR := Lib.hid h
  have HS := Lib.hid hs
  have HOK := Lib.hid hok
  have HT := Lib.hid ht
  have HST := Lib.hid hst
  clear his h hs hok ht hst
  unfold vs at *
  go_enter Tryz.func90, Tryz.ntmps90
  go_upto_region 1 with fail
  go_cut [12] (fun s12 wx => s12 = .bool (isDeep o) ∧ ∃ n1, wx = w.drewN n1)
  case first =>
    cases o with
    | bad e p =>
      go_wp2_with fail
      refine HI.out.mono ?_
      rintro x w1 ⟨rfl, n1, rfl⟩
      go_wp2
      go_meet
      exact ⟨rfl, n1, rfl⟩
    | ok a st =>
      have hdp := SaysOk.deep HS.out
      rw [hdp] at c2
      by_cases hk : st.t.kind = kOpen
      · have hib : (Out.ok a st).isB kOpen = true := by simpa [Out.isB] using hk
        have hi := HI.out
        rw [hib] at hi
        have HI2 := Lib.hid hi
        clear hi
        by_cases h8 : st.depth = 8
        · have hD := Lib.hid (show isDeep (.ok a st) = true from decide_eq_true ⟨hk, h8⟩)
          rw [h8] at c2
          clear hk h8 hdp hib
          go_wp2_with fail
          refine HI2.out.mono ?_
          rintro x w1 ⟨rfl, n1, rfl⟩
          go_wp2
          go_meet
          exact ⟨by rw [hD.out], n1, rfl⟩
        · have hD := Lib.hid (show isDeep (.ok a st) = false from decide_eq_false (fun x => h8 x.2))
          have e8 : ((st.depth : Int) == 8) = false := by simp; omega
          clear hk h8 hdp hib
          go_wp2_with fail
          refine HI2.out.mono ?_
          rintro x w1 ⟨rfl, n1, rfl⟩
          go_wp2
          go_meet
          exact ⟨by rw [hD.out], n1, rfl⟩
      · have hib : (Out.ok a st).isB kOpen = false := by simpa [Out.isB] using hk
        have hi := HI.out
        rw [hib] at hi
        have HI2 := Lib.hid hi
        have hD := Lib.hid (show isDeep (.ok a st) = false from decide_eq_false (fun x => hk x.1))
        clear hi hk hdp hib
        go_wp2_with fail
        refine HI2.out.mono ?_
        rintro x w1 ⟨rfl, n1, rfl⟩
        go_wp2
        go_meet
        exact ⟨by rw [hD.out], n1, rfl⟩
  case rest =>
    obtain ⟨rfl, n1, rfl⟩ := hcut
    clear c2 HI
    go_upto_if 12 with fail
    go_cut [] (fun wx => Kg g w wx ∧ ∃ r1, RRd wx g gp tl ts pc r1 ∧ Says s r1 (deepO o) ∧ r1.decls = r.decls)
    case first =>
      cases hD : isDeep o with
      | true =>
        have hf := rfail_any (HR.out.drewN n1) HS.out HT.out (e := 3) (by decide)
        have HF := Lib.hid hf
        have HD := Lib.hid hD
        clear hf hD
        go_wp2_with fail
        refine HF.out.mono ?_
        rintro x w1 ⟨rfl, hk1, r1, h1, hs1, hd1⟩
        have F := Lib.hid (And.intro hk1 (And.intro h1 (And.intro hs1 hd1)))
        clear hk1 h1 hs1 hd1
        go_wp2
        go_meet
        obtain ⟨f1, f2, f3, f4⟩ := F.out
        exact ⟨Kg.trans ((Kept.refl _ _).drewN n1) f1, r1, f2, by rw [isDeep_yes HD.out]; exact f3, f4⟩
      | false =>
        have HD := Lib.hid hD
        clear hD
        go_wp2
        go_meet
        exact ⟨(Kept.refl _ _).drewN n1, r, HR.out.drewN n1, by rw [isDeep_no HD.out]; exact HS.out, rfl⟩
    case rest =>
      obtain ⟨hk1, r1, h1, hs1, hd1⟩ := hcut
      have hnd := rneed_any h1 hs1 HT.out (kd := kOpen) (kr := kOpen) (by decide) (by decide) (by decide) (by decide)
      have HND := Lib.hid hnd
      have K1 := Lib.hid hk1
      have HD1 := Lib.hid hd1
      clear hnd hk1 h1 hs1 hd1
      unfold vs at *
      go_wp2_with fail
      refine HND.out.mono ?_
      rintro x w2 ⟨x2, rfl, hk2, _, r2, h2, hs2, hd2⟩
      obtain ⟨_, _, c2, _⟩ := h2.cells
      have f2 := h2.row.frozen 2
      have K2 := Lib.hid (Kg.trans K1.out hk2)
      have H2 := Lib.hid h2
      have HS2 := Lib.hid hs2
      have HD2 := Lib.hid (hd2.trans HD1.out)
      clear hk2 h2 hs2 hd2 HND K1 HD1
      unfold encRTokV vs
      go_upto_region 4 with fail
      go_cut [] (fun wx => Kg g w wx ∧ ∃ r3, RRd wx g gp tl ts pc r3 ∧ Says s r3 (inO (wantO s kOpen (deepO o))) ∧ r3.decls = r.decls)
      case first =>
        cases hw : wantO s kOpen (deepO o) with
        | bad e p =>
          have hs2 := HS2.out
          rw [hw] at hs2
          have HS3 := Lib.hid hs2
          have HW := Lib.hid hw
          clear hs2 hw
          go_wp2
          go_meet
          exact ⟨K2.out.setCell (p := ⟨g, 2, none⟩) (.inl rfl) _, r2.dp (wrap64 (r2.deep + 1)), H2.out.put 2 _ rfl rfl, by rw [HW.out]; exact HS3.out.deepIn _ (fun a st e => by cases e), HD2.out⟩
        | ok t st =>
          have hs2 := HS2.out
          rw [hw] at hs2
          have hdp := SaysOk.deep hs2
          have hd8 : st.depth ≤ 8 := by
            cases o with
            | bad e p => cases hw
            | ok a st0 =>
              have h9 := (HOK.out st0 rfl).1
              cases hD : isDeep (.ok a st0) with
              | true => rw [isDeep_yes hD] at hw; cases hw
              | false =>
                rw [isDeep_no hD] at hw
                obtain ⟨_, _, e⟩ := want_ok (show want s kOpen st0 = .ok t st from hw)
                rw [e]
                exact h9
          rw [hdp] at c2
          have HS3 := Lib.hid hs2
          have HW := Lib.hid hw
          clear hs2 hw hdp
          go_wp2
          go_meet
          exact ⟨K2.out.setCell (p := ⟨g, 2, none⟩) (.inl rfl) _, r2.dp ((st.depth : Int) + 1), H2.out.put 2 _ rfl rfl, by rw [HW.out]; exact HS3.out.deepIn _ (fun a st' e => by injection e with _ e; rw [← e]; rfl), HD2.out⟩
      case rest =>
        obtain ⟨hk3, r3, h3, hs3, hd3⟩ := hcut
        clear c2 f2 K2 H2 HS2 HD2
        have hstart : ∃ (m : Nat) (o1 : Out Unit) (r1 : Raw) (done : Blk) (j : Nat) (cs : List Value) (a : Option Addr) (c : Nat), (Value.slice none 0 0) = .slice a j c ∧ RBL g gp tl ts pc s r.decls w wc n (inO (wantO s kOpen (deepO o))) (leftO s (inO (wantO s kOpen (deepO o)))) m o1 r1 done j cs a c := by
          have hlen0 := leftO_le (s := s) (inO (wantO s kOpen (deepO o)))
          have hf : ∀ st, inO (wantO s kOpen (deepO o)) = .ok () st → 2 * left s st + 2 ≤ n ∧ st.depth ≤ 8 ∧ st.loops ≤ 2 ∧ 1 ≤ st.depth := by
            intro st e
            cases o with
            | bad e2 p => cases e
            | ok a st0 =>
              obtain ⟨h9, h10, h11⟩ := HOK.out st0 rfl
              cases hD : isDeep (.ok a st0) with
              | true => rw [isDeep_yes hD] at e; cases e
              | false =>
                rw [isDeep_no hD] at e
                have hnd : ¬ (st0.t.kind = kOpen ∧ st0.depth = 8) := of_decide_eq_false hD
                obtain ⟨t, st1, e1, e2⟩ := bind_ok (show (want s kOpen st0).bind (fun _ st => Out.ok () { st with depth := st.depth + 1 }) = .ok () st from e)
                obtain ⟨k1, _, e3⟩ := want_ok e1
                injection e2 with _ e2
                have hk0 := next_lt (SaysOk.ok HS.out) k1 (by decide) (by decide)
                subst e3
                have el : left s st = left s (next s st0) := by rw [← e2]; rfl
                have ed : st.depth = st0.depth + 1 := by rw [← e2]; rfl
                have eo : st.loops = st0.loops := by rw [← e2]; rfl
                refine ⟨by omega, ?_, by omega, by omega⟩
                rw [ed]
                have : st0.depth ≠ 8 := fun h => hnd ⟨k1, h⟩
                omega
          refine ⟨n - 1, inO (wantO s kOpen (deepO o)), r3, .nil, 0, [], none, 0, rfl, hk3, h3, hs3, hd3, ?_, fun st e => ?_, fun st e => ?_, Nat.le_refl _, by omega, Sl.nil__ _ wc _ _, fun st _ _ => ⟨rfl, rfl⟩⟩
          · cases ho : inO (wantO s kOpen (deepO o)) with
            | bad e p => rfl
            | ok a st =>
              obtain ⟨f1, _⟩ := hf st ho
              have e9 : n - 1 + 1 = n := by omega
              rw [e9]
              cases stmtsO s n (Out.ok a st) <;> rfl
          · obtain ⟨f1, f2, f3, f4⟩ := hf st e
            exact ⟨by omega, f2, f3, f4⟩
          · obtain ⟨f1, _⟩ := hf st e
            omega
        have HSTART := Lib.hid hstart
        clear hstart hk3 h3 hs3 hd3
        generalize ho0 : inO (wantO s kOpen (deepO o)) = o0 at *
        have HO0 := Lib.hid ho0
        clear ho0
        obtain ⟨i0, hi0, hz0, hz1, hz2⟩ := info_parts infoRStmt
        go_wp2_with fail
        go_loopg [3] (leftO s o0) (fun kk v3 wr => ∃ (m : Nat) (o1 : Out Unit) (r1 : Raw) (done : Blk) (j : Nat) (cs : List Value) (a : Option Addr) (c : Nat), v3 = .slice a j c ∧ RBL g gp tl ts pc s r.decls w wr n o0 kk m o1 r1 done j cs a c)
        case atStart => exact HSTART.out
        case round =>
          clear HSTART
          obtain ⟨m, o1, r1, done, j, cs, a, c, rfl, hL⟩ := hrel
          obtain ⟨_, _, _, _, c4, _⟩ := hL.rd.cells
          have his := ris_any hL.rd hL.says HT.out (kd := kClose) (kr := kClose) (by decide) (by decide)
          have HI := Lib.hid his
          have HL := Lib.hid hL
          clear his hL
          unfold vs at *
          go_upto_region 6 with fail
          go_cut [33] (fun s33 wx => s33 = .bool (goB o1) ∧ ∃ n1, wx = wr.drewN n1)
          case first =>
            cases o1 with
            | bad e p =>
              have hb : r1.bad ≠ 0 := by rw [SaysBad.bad HL.out.says]; exact SaysBad.ne HL.out.says
              have e1 : ((r1.bad : Int) == 0) = false := by simpa using hb
              have e2 : decide ((r1.bad : Int) = 0) = false := by simpa using hb
              clear hb
              go_wp2
              go_meet
              exact ⟨rfl, 0, rfl⟩
            | ok a1 st =>
              have hb : (r1.bad : Int) = 0 := by rw [SaysOk.bad HL.out.says]; rfl
              rw [hb] at c4
              have HGB := Lib.hid (show goB (.ok a1 st) = !((Out.ok a1 st).isB kClose) from rfl)
              generalize (Out.ok a1 st).isB kClose = bb at *
              clear hb
              go_wp2_with fail
              refine HI.out.mono ?_
              rintro x w1 ⟨rfl, n1, rfl⟩
              go_wp2
              go_meet
              exact ⟨by rw [HGB.out], n1, rfl⟩
          case rest =>
            obtain ⟨rfl, n1, rfl⟩ := hcut
            clear c4 HI
            have hL1 := HL.out.drewN n1
            have HL1 := Lib.hid hL1
            clear HL
            generalize wr.drewN n1 = wq at *
            cases hgo : goB o1 with
            | true =>
              obtain ⟨st, rfl, hc⟩ := goB_yes hgo
              obtain ⟨m, rfl⟩ : ∃ x, m = x + 1 := ⟨m - 1, by have := (hL1.fuel st rfl).1; omega⟩
              obtain ⟨q1, q2, q3, _⟩ := hL1.fuel st rfl
              have hstc := HST.out (m + 1) (by have := hL1.mn st rfl; omega) st wq r1 hL1.rd hL1.says q2 q3 (by omega)
              rw [hL1.decls] at hstc
              have HSTC := Lib.hid hstc
              have HC := Lib.hid hc
              clear hstc hc hgo hL1 q1 q2 q3
              go_wp2_with fail
              refine HSTC.out.mono ?_
              rintro x w2 ⟨L, rfl, ⟨k_, n_, m_, t_, k0_, n0_, k1_, n1_, k2_, n2_, j_, a1_, l1_, c1_, a2_, l2_, c2_, o_, hcs⟩, hk2, hx, r2, h2, hs2, hd2⟩
              subst hcs
              have hd8 : 2 ≤ maxLen := by unfold maxLen; omega
              have hlen := HL1.out.len
              have hpos : 0 < left s st := left_pos (SaysOk.ok HL1.out.says)
              have hj : j + 1 ≤ 1002 := by
                have : leftO s (Out.ok () st : Out Unit) = left s st := rfl
                omega
              have sl2 : Sl (fun b => w.heap.size ≤ b) w2 155 14 (.slice a j c) j cs := HL1.out.sl.kept hk2 (fun b hb => by
                rintro (hb2 | hb2)
                · exact HL1.out.sl.ne_row HL1.out.rd.row (by decide) (hb2 ▸ hb)
                · have := HL1.out.sl.lt hb; omega)
              have hsz2 := hk2.size
              have hsz0 := HL1.out.kg.size
              obtain ⟨L14, hL14⟩ : ∃ L : List Value, [vs k_, .int .i64 n_, .int .i64 m_, .bool t_, vs k0_, .int .i64 n0_, vs k1_, .int .i64 n1_, vs k2_, .int .i64 n2_, .int .i64 j_, .slice a1_ l1_ c1_, .slice a2_ l2_ c2_, .bool o_] = L := ⟨_, rfl⟩
              have sl3 := sl2.alloc (.cells #[vs k_, .int .i64 n_, .int .i64 m_, .bool t_, vs k0_, .int .i64 n0_, vs k1_, .int .i64 n1_, vs k2_, .int .i64 n2_, .int .i64 j_, .slice a1_ l1_ c1_, .slice a2_ l2_ c2_, .bool o_] 155)
              have q1 : w.heap.size ≤ (w2.alloc (.cells #[vs k_, .int .i64 n_, .int .i64 m_, .bool t_, vs k0_, .int .i64 n0_, vs k1_, .int .i64 n1_, vs k2_, .int .i64 n2_, .int .i64 j_, .slice a1_ l1_ c1_, .slice a2_ l2_ c2_, .bool o_] 155)).heap.size := by simp; omega
              have q2 := cells_new w2 [vs k_, .int .i64 n_, .int .i64 m_, .bool t_, vs k0_, .int .i64 n0_, vs k1_, .int .i64 n1_, vs k2_, .int .i64 n2_, .int .i64 j_, .slice a1_ l1_ c1_, .slice a2_ l2_ c2_, .bool o_] 155
              have q3 : ∀ u ∈ [vs k_, .int .i64 n_, .int .i64 m_, .bool t_, vs k0_, .int .i64 n0_, vs k1_, .int .i64 n1_, vs k2_, .int .i64 n2_, .int .i64 j_, .slice a1_ l1_ c1_, .slice a2_ l2_ c2_, .bool o_], u.oneCell' = true := by
                intro u hu
                simp at hu
                rcases hu with rfl | rfl | rfl | rfl | rfl | rfl | rfl | rfl | rfl | rfl | rfl | rfl | rfl | rfl <;> rfl
              have q4 : j + 1 ≤ maxLen := by unfold maxLen; omega
              have q5 : (j + 1) * 176 ≤ 140737488355328 := by omega
              have hkW : Kept (fun b => w2.heap.size ≤ b) w2 (w2.alloc (.cells #[vs k_, .int .i64 n_, .int .i64 m_, .bool t_, vs k0_, .int .i64 n0_, vs k1_, .int .i64 n1_, vs k2_, .int .i64 n2_, .int .i64 j_, .slice a1_ l1_ c1_, .slice a2_ l2_ c2_, .bool o_] 155)) := (Kept.refl _ _).alloc (Nat.le_refl _) _
              have hstep := fun (w3 : World) (g2 c2 : Nat) hs3 hk3 hloc => HL1.out.step (w3 := w3) (g2 := g2) (c2 := c2) HC.out hk2 h2 hs2 hd2 hx rfl hkW hkW.size hs3 hk3 hloc
              have HSTEP := Lib.hid hstep
              have SL3 := Lib.hid sl3
              have Q1 := Lib.hid q1
              have Q2 := Lib.hid q2
              have Q3 := Lib.hid q3
              have HL14 := Lib.hid hL14
              clear hstep sl3 q1 q2 q3 hL14 sl2 hkW hx h2 hs2 hd2 hk2 hsz2 hsz0 hlen hpos HSTC hd8
              unfold vs at *
              go_wp2_with (at_builtin; go_must (refine wp_append1 Tryz.underlying83 hi0 hz0 hz1 hz2 rfl (by decide) SL3.out Q1.out rfl _ _ rfl rfl ⟨w2.heap.size, 0, none⟩ 1 1 [.string ⟨k_.toArray⟩, .int .i64 n_, .int .i64 m_, .bool t_, .string ⟨k0_.toArray⟩, .int .i64 n0_, .string ⟨k1_.toArray⟩, .int .i64 n1_, .string ⟨k2_.toArray⟩, .int .i64 n2_, .int .i64 j_, .slice a1_ l1_ c1_, .slice a2_ l2_ c2_, .bool o_] rfl rfl Q2.out Q3.out q4 q5 (Nat.succ_pos _) ?_; intro g2 cap2 w3 hs3 hk3 hloc; have Hs3 := Lib.hid hs3; have Hk3 := Lib.hid hk3; have Hloc := Lib.hid hloc; clear hs3 hk3 hloc))
              have hfin := HSTEP.out w3 g2 cap2 Hs3.out Hk3.out Hloc.out
              have hgh := HL1.out.ghost
              have hlt := hfin.1
              have HFIN := Lib.hid hfin.2
              clear hfin
              go_roundg (leftO s ((stmt s (m + 1) st).bind fun _ st => Out.ok () st))
              case measure => omega
              case rel =>
                obtain ⟨done2, hfin⟩ := HFIN.out
                exact ⟨m, _, r2, done2, j + 1, _, _, _, rfl, hfin⟩
            | false =>
              have hex := goB_no hgo
              have hnd := rneed_any hL1.rd hL1.says HT.out (kd := kClose) (kr := kClose) (by decide) (by decide) (by decide) (by decide)
              rw [hL1.decls] at hnd
              have HND := Lib.hid hnd
              have HEX := Lib.hid hex
              clear hnd hex hgo hL1
              unfold vs at *
              go_wp2_with fail
              refine HND.out.mono ?_
              rintro x w4 ⟨x4, rfl, hk4, _, r4, h4, hs4, hd4⟩
              have hv : ∀ st, o1 = .ok () st → st.wrong = none → RBlkV (fun k => w.heap.size ≤ k) w4 (.slice a j c) done := by
                intro st e hw
                obtain ⟨b1, b2⟩ := HL1.out.stm st e hw
                have hsl : Sl (fun k => w.heap.size ≤ k) w4 155 14 (.slice a j c) j cs := HL1.out.sl.kept hk4 (fun b hb => by
                  rintro (hb2 | hb2)
                  · exact HL1.out.sl.ne_row HL1.out.rd.row (by decide) (hb2 ▸ hb)
                  · have := HL1.out.sl.lt hb; omega)
                refine ⟨cs, by rw [b1]; exact hsl, RStmtsR.kept (w := wq) (fun k cs' hk hr => kg_at hk4 hr.lt (hr.ne_ HL1.out.rd.row (by decide))) _ _ (RStmtsR.mono (fun k _ hN => hN.1) _ _ b2)⟩
              obtain ⟨_, _, c2, _⟩ := h4.cells
              have f2 := h4.row.frozen 2
              have K4 := Lib.hid (Kg.trans HL1.out.kg hk4)
              have H4 := Lib.hid h4
              have HS4 := Lib.hid hs4
              have HD4 := Lib.hid hd4
              have HV := Lib.hid hv
              clear hk4 h4 hs4 hd4 HND hv
              unfold encRTokV vs
              have hfin : ∀ (D : Int), (∀ t st, wantO s kClose o1 = .ok t st → D = ((st.depth - 1 : Nat) : Int)) → OutBk w g gp tl ts pc s r.decls ((stmtsO s n o0).bind fun b st => .ok b (next s { st with depth := st.depth - 1 })) (.returned (.slice a j c)) (w4.setCell ⟨g, 2, none⟩ (.int .i64 D)) := by
                intro D hD
                have hk5 : Kg g w4 (w4.setCell ⟨g, 2, none⟩ (.int .i64 D)) := (Kept.refl _ w4).setCell (p := ⟨g, 2, none⟩) (.inl rfl) _
                have hs5 := HS4.out.deepOut D hD
                rw [HL1.out.eq, stmtsO_close m HEX.out done]
                refine ⟨a, j, c, rfl, Kg.trans K4.out hk5, fun b st e hw => ?_, r4.dp D, H4.out.put 2 _ rfl rfl, ?_, HD4.out⟩
                · obtain ⟨_, st1, e1, e2⟩ := bind_ok e
                  injection e2 with e2 e3
                  obtain ⟨t2, st2, e4, e5⟩ := bind_ok e1
                  injection e5 with _ e5
                  have hw1 : st2.wrong = none := by rw [← hw, ← e3, ← e5]
                  cases ho : o1 with
                  | bad e p => rw [ho] at e4; cases e4
                  | ok a3 st3 =>
                    have hw3 := want_wrong (s := s) ho e4 hw1
                    subst e2
                    exact (HV.out st3 ho hw3).kept (fun k cs' hk hr => kg_at hk5 hr.lt (hr.ne_ H4.out.row (by decide)))
                · cases hq : outO (wantO s kClose o1) with
                  | bad e p => rw [hq] at hs5; exact hs5
                  | ok a3 st3 => rw [hq] at hs5; exact hs5
              have HFIN := Lib.hid hfin
              clear hfin
              cases hq : wantO s kClose o1 with
              | bad e p =>
                have HQ := Lib.hid hq
                clear hq
                go_wp2
                go_ret
                rw [HO0.out]
                exact HFIN.out _ (fun t st e => by rw [HQ.out] at e; cases e)
              | ok t st =>
                have hs4 := HS4.out
                rw [hq] at hs4
                have hdpos : 1 ≤ st.depth := by
                  cases o1 with
                  | bad e p => cases hq
                  | ok a0 st0 =>
                    obtain ⟨_, _, e⟩ := want_ok (show want s kClose st0 = .ok t st from hq)
                    rw [e]
                    exact (HL1.out.fuel st0 rfl).2.2.2
                have hdle : st.depth ≤ 8 := by
                  cases o1 with
                  | bad e p => cases hq
                  | ok a0 st0 =>
                    obtain ⟨_, _, e⟩ := want_ok (show want s kClose st0 = .ok t st from hq)
                    rw [e]
                    exact (HL1.out.fuel st0 rfl).2.1
                have HDP := Lib.hid hdpos
                have hdp := SaysOk.deep hs4
                rw [hdp] at c2
                have HQ := Lib.hid hq
                clear hq hs4 hdp
                go_wp2
                go_ret
                rw [HO0.out]
                exact HFIN.out ((st.depth : Int) - 1) (fun t' st' e => by rw [HQ.out] at e; injection e with _ e; rw [← e]; have := HDP.out; omega)
end
end Go.Proofs.YtemppijblfflgabGreatDoor.Ev
namespace Go.Proofs.YtemppijblfflgabGreatDoor.Ev
open Go Go.RowKit

def loopIn {α : Type} (o : Out α) : Out Unit := o.bind fun _ st => .ok () { st with loops := st.loops + 1 }
def loopOut {α : Type} (o : Out α) : Out Unit := o.bind fun _ st => .ok () { st with loops := st.loops - 1 }
def repO (s : Bytes) (n : Nat) (o : Out Unit) : Out Blk :=
  (numO s 1 50 o).bind fun k st => (want s kWhile st).bind fun _ st => (cond s (n + 1) st).bind fun c st =>
    (block s n { st with loops := st.loops + 1 }).bind fun b st => .ok (.rep k c b .nil) { st with loops := st.loops - 1 }
abbrev Raw.lp (r : Raw) (D : Int) : Raw := { r with loops := D }

section
variable {s : Bytes} {n : Nat} {o : Out Unit}
theorem unit_rep : unitO (repO s n o) = unitO (loopOut (blockO s n (loopIn (condO s (n + 1) (wantO s kWhile (numO s 1 50 o)))))) := by
  unfold repO
  cases numO s 1 50 o with
  | bad e p => rfl
  | ok k st1 =>
    show unitO ((want s kWhile st1).bind _) = unitO (loopOut (blockO s n (loopIn (condO s (n + 1) (want s kWhile st1)))))
    cases want s kWhile st1 with
    | bad e p => rfl
    | ok t st2 =>
      show unitO ((cond s (n + 1) st2).bind _) = unitO (loopOut (blockO s n (loopIn (cond s (n + 1) st2))))
      cases cond s (n + 1) st2 with
      | bad e p => rfl
      | ok c st3 =>
        show unitO ((block s n _).bind _) = unitO (loopOut (block s n _))
        cases block s n { st3 with loops := st3.loops + 1 } <;> rfl
theorem rep_ok {x : Blk} {st9 : PS} (e : repO s n o = .ok x st9) : ∃ k st1 t st2 c st3 b st4, numO s 1 50 o = .ok k st1 ∧ wantO s kWhile (numO s 1 50 o) = .ok t st2 ∧ condO s (n + 1) (wantO s kWhile (numO s 1 50 o)) = .ok c st3 ∧
    blockO s n (loopIn (condO s (n + 1) (wantO s kWhile (numO s 1 50 o)))) = .ok b st4 ∧ x = .rep k c b .nil ∧ st9 = { st4 with loops := st4.loops - 1 } := by
  unfold repO at e
  obtain ⟨k, st1, h1, e⟩ := bind_ok e
  obtain ⟨t, st2, h2, e⟩ := bind_ok e
  obtain ⟨c, st3, h3, e⟩ := bind_ok e
  obtain ⟨b, st4, h4, e⟩ := bind_ok e
  injection e with e1 e2
  have u2 : wantO s kWhile (numO s 1 50 o) = .ok t st2 := by rw [h1]; exact h2
  have u3 : condO s (n + 1) (wantO s kWhile (numO s 1 50 o)) = .ok c st3 := by rw [u2]; exact h3
  exact ⟨k, st1, t, st2, c, st3, b, st4, h1, u2, u3, by rw [u3]; exact h4, e1.symm, e2.symm⟩
theorem rep_fwd {st0 st3 : PS} {c : Cond} (hok : st0.Ok s) (e : condO s (n + 1) (wantO s kWhile (numO s 1 50 (.ok () st0))) = .ok c st3) : Fwd s st0 st3 ∧ left s st3 < left s st0 := by
  obtain ⟨t, st2, h2, h3⟩ := bind_ok e
  obtain ⟨k, st1, h1, h2'⟩ := bind_ok h2
  obtain ⟨f1, l1, _⟩ := number_ok hok (show number s 1 50 st0 = .ok k st1 from h1)
  obtain ⟨_, _, e3⟩ := want_ok (show want s kWhile st1 = .ok t st2 from h2')
  have f2 := Fwd.next f1.ok
  rw [← e3] at f2
  obtain ⟨f3, l3, _⟩ := cond_ok f2.ok (show cond s (n + 1) st2 = .ok c st3 from h3)
  exact ⟨(f1.trans f2).trans f3, by have := f2.left; omega⟩
theorem Says.loopIn_ {α : Type} {o : Out α} {r : Raw} (h : Says s r o) (D : Int) (hD : ∀ a st, o = .ok a st → D = ((st.loops + 1 : Nat) : Int)) : Says s (r.lp D) (loopIn o) := by
  cases o with
  | bad e p =>
    have h' : SaysBad s r e p := h
    exact ⟨h'.lt, h'.bad, h'.badAt, h'.ne, h'.fk⟩
  | ok a st =>
    have h' : SaysOk s r st := h
    exact ⟨h'.pos.of rfl rfl, ⟨h'.ok.i, h'.ok.pos, h'.ok.more, h'.ok.num, h'.ok.name⟩, h'.deep, hD a st rfl, h'.bad, h'.wrong, h'.decls, h'.freq, h'.seen, h'.f0, h'.fk⟩
theorem Says.loopOut_ {α : Type} {o : Out α} {r : Raw} (h : Says s r o) (D : Int) (hD : ∀ a st, o = .ok a st → D = ((st.loops - 1 : Nat) : Int)) : Says s (r.lp D) (loopOut o) := by
  cases o with
  | bad e p =>
    have h' : SaysBad s r e p := h
    exact ⟨h'.lt, h'.bad, h'.badAt, h'.ne, h'.fk⟩
  | ok a st =>
    have h' : SaysOk s r st := h
    exact ⟨h'.pos.of rfl rfl, ⟨h'.ok.i, h'.ok.pos, h'.ok.more, h'.ok.num, h'.ok.name⟩, h'.deep, hD a st rfl, h'.bad, h'.wrong, h'.decls, h'.freq, h'.seen, h'.f0, h'.fk⟩
end

section
variable {w : World} {g gp : Nat} {tl : Value} {ts : List RTok} {pc : List Value} {r : Raw} {s : Bytes} {st : PS}

set_option maxRecDepth 100000 in
set_option maxHeartbeats 4000000 in
theorem rstmt_rep_deep (h : RRd w g gp tl ts pc r) (hs : SaysOk s r st) (ht : RToks ts (toks s)) (hk : st.t.kind = kRepeat) (h2l : st.loops = 2) :
    Calls Tryz.prog 124 #[.pointer (some ⟨g, 0, none⟩)] w (OutSt w g gp tl ts pc s r.decls (fail eDeep st)) := by
  obtain ⟨x, hx, hof⟩ := SaysOk.tok hs ht
  obtain ⟨gt, ct, rfl, h1, h2, h3, h4, h5, t0, t1, t2⟩ := h.at_ hx
  have hxi : x.is = kRepeat := by rw [hof.1, hk]; decide
  rw [hxi] at t0
  obtain ⟨c0, c1, _, c3, _⟩ := h.cells
  have hlt := h.row.lt
  have ff := fun j => h.row.frozen j
  have h8 := h.tl
  have hkk : r.k < ts.length := h3
  unfold maxLen at h2
  have hlo := SaysOk.loops hs
  rw [hlo, h2l] at c3
  have q1 := (RH2.start_ (D := w.heap.size + 1) (RH.start_ (C := w.heap.size) (ty := 155) (Kept.refl _ w) h (by decide) zeros14 rfl) [vs kRepeat, .int .i64 0, .int .i64 0, .bool false, vs [], .int .i64 0, vs [], .int .i64 0, vs [], .int .i64 0, .int .i64 0, .slice none 0 0, .slice none 0 0, .bool false] (by simp)).drewN 1
  have hf := rfail_any q1.rd (show Says s r (Out.ok () st) from hs) ht (e := 3) (by decide)
  have HF := Lib.hid hf
  have Q1 := Lib.hid q1
  generalize hk0 : r.k = kq at *
  generalize hLL : ts.length = LL at *
  clear hx hof hs hxi hk hk0 hLL h q1 ht t1 t2 hf hlo h2l
  unfold vs at *
  go_enter Tryz.func124, Tryz.ntmps124
  go_wp2
  go_region
  go_wp2_with fail
  refine HF.out.mono ?_
  rintro e w1 ⟨rfl, hk1, r1, h1', hs1, hd1⟩
  have p1 := Q1.out.call hk1 h1'
  have z := fun j => p1.row2.frozen j
  have y := fun j => p1.row.frozen j
  obtain ⟨e0, e1, e2, e3, e4, e5, e6, e7, e8, e9, e10, e11, e12, e13⟩ := cells14 p1.row2
  obtain ⟨f0, f1, f2, f3, f4, f5, f6, f7, f8, f9, f10, f11, f12, f13⟩ := cells14 p1.row
  have hne : ¬ w.heap.size = w.heap.size + 1 := by omega
  have q9 := p1.copy14 (vs kRepeat) (.int .i64 0) (.int .i64 0) (.bool false) (vs []) (.int .i64 0) (vs []) (.int .i64 0) (vs []) (.int .i64 0) (.int .i64 0) (.slice none 0 0) (.slice none 0 0) (.bool false)
  have Q9 := Lib.hid q9
  have zW0 := Lib.hid hs1
  have FD := Lib.hid hd1
  clear p1 q9 hk1 h1' hs1 hd1 HF Q1
  unfold vs at *
  go_wp2
  refine bodyPost_ret (results_cell (cs := [vs kRepeat, .int .i64 0, .int .i64 0, .bool false, vs [], .int .i64 0, vs [], .int .i64 0, vs [], .int .i64 0, .int .i64 0, .slice none 0 0, .slice none 0 0, .bool false]) Tryz.results124 aggRStmt sizeRStmt rfl Q9.out.row) rfl ?_
  exact ⟨_, rfl, ⟨_, _, _, _, _, _, _, _, _, _, _, _, _, _, _, _, _, _, rfl⟩, Q9.out.kg, fun x9 st9 e hw => (by cases e), r1, Q9.out.rd, zW0.out, FD.out⟩

set_option maxRecDepth 100000 in
set_option maxHeartbeats 4000000 in
theorem rstmt_none (h : RRd w g gp tl ts pc r) (hs : SaysOk s r st) (ht : RToks ts (toks s)) (n1 : st.t.kind ≠ kPut) (n2 : st.t.kind ≠ kEvict) (n3 : st.t.kind ≠ kCool) (n4 : st.t.kind ≠ kShift) (n5 : st.t.kind ≠ kInc) (n6 : st.t.kind ≠ kDec) (n7 : st.t.kind ≠ kDrop) (n8 : st.t.kind ≠ kBump) (n9 : st.t.kind ≠ kIf) (n10 : st.t.kind ≠ kRepeat) :
    Calls Tryz.prog 124 #[.pointer (some ⟨g, 0, none⟩)] w (OutSt w g gp tl ts pc s r.decls (fail eSyntax st)) := by
  obtain ⟨x, hx, hof⟩ := SaysOk.tok hs ht
  obtain ⟨gt, ct, rfl, h1, h2, h3, h4, h5, t0, t1, t2⟩ := h.at_ hx
  have hW : ∀ k, k ≠ kNum → rKind k = k → st.t.kind ≠ k → (x.is == k) = false := fun k hk hk2 hn => by
    have := rKind_eq (a := st.t.kind) (b := k) hs.pos.noNum hk
    rw [hof.1, show (rKind st.t.kind == k) = (rKind st.t.kind == rKind k) by rw [hk2], this]
    simpa using hn
  have e1 := hW kPut (by decide) (by decide) n1
  have e2 := hW kEvict (by decide) (by decide) n2
  have e3 := hW kCool (by decide) (by decide) n3
  have e4 := hW kShift (by decide) (by decide) n4
  have e5 := hW kInc (by decide) (by decide) n5
  have e6 := hW kDec (by decide) (by decide) n6
  have e7 := hW kDrop (by decide) (by decide) n7
  have e8 := hW kBump (by decide) (by decide) n8
  have e9 := hW kIf (by decide) (by decide) n9
  have e10 := hW kRepeat (by decide) (by decide) n10
  obtain ⟨c0, c1, _⟩ := h.cells
  have hlt := h.row.lt
  have ff := fun j => h.row.frozen j
  have h8 := h.tl
  have hkk : r.k < ts.length := h3
  unfold maxLen at h2
  have q1 := (RH2.start_ (D := w.heap.size + 1) (RH.start_ (C := w.heap.size) (ty := 155) (Kept.refl _ w) h (by decide) zeros14 rfl) [vs x.is, .int .i64 0, .int .i64 0, .bool false, vs [], .int .i64 0, vs [], .int .i64 0, vs [], .int .i64 0, .int .i64 0, .slice none 0 0, .slice none 0 0, .bool false] (by simp)).drewN 1
  have hf := rfail_any q1.rd (show Says s r (Out.ok () st) from hs) ht (e := 2) (by decide)
  have HF := Lib.hid hf
  have Q1 := Lib.hid q1
  generalize hk0 : r.k = kq at *
  generalize hLL : ts.length = LL at *
  clear hx hof hs hk0 hLL h q1 ht t1 t2 hf hW n1 n2 n3 n4 n5 n6 n7 n8 n9 n10
  generalize x.is = W at *
  unfold vs at *
  go_enter Tryz.func124, Tryz.ntmps124
  go_wp2
  go_region
  go_wp2_with fail
  clear e1 e2 e3 e4 e5 e6 e7 e8 e9 e10
  refine HF.out.mono ?_
  rintro e w1 ⟨rfl, hk1, r1, h1', hs1, hd1⟩
  have p1 := Q1.out.call hk1 h1'
  have z := fun j => p1.row2.frozen j
  have y := fun j => p1.row.frozen j
  obtain ⟨e0, e1, e2, e3, e4, e5, e6, e7, e8, e9, e10, e11, e12, e13⟩ := cells14 p1.row2
  obtain ⟨f0, f1, f2, f3, f4, f5, f6, f7, f8, f9, f10, f11, f12, f13⟩ := cells14 p1.row
  have hne : ¬ w.heap.size = w.heap.size + 1 := by omega
  have q9 := p1.copy14 (vs W) (.int .i64 0) (.int .i64 0) (.bool false) (vs []) (.int .i64 0) (vs []) (.int .i64 0) (vs []) (.int .i64 0) (.int .i64 0) (.slice none 0 0) (.slice none 0 0) (.bool false)
  have Q9 := Lib.hid q9
  have zW0 := Lib.hid hs1
  have FD := Lib.hid hd1
  clear p1 q9 hk1 h1' hs1 hd1 HF Q1
  unfold vs at *
  go_wp2
  refine bodyPost_ret (results_cell (cs := [vs W, .int .i64 0, .int .i64 0, .bool false, vs [], .int .i64 0, vs [], .int .i64 0, vs [], .int .i64 0, .int .i64 0, .slice none 0 0, .slice none 0 0, .bool false]) Tryz.results124 aggRStmt sizeRStmt rfl Q9.out.row) rfl ?_
  exact ⟨_, rfl, ⟨_, _, _, _, _, _, _, _, _, _, _, _, _, _, _, _, _, _, rfl⟩, Q9.out.kg, fun x9 st9 e hw => (by cases e), r1, Q9.out.rd, zW0.out, FD.out⟩

set_option maxRecDepth 100000 in
set_option maxHeartbeats 8000000 in
theorem rstmt_rep (n : Nat) (hbl : BlockCr g gp tl ts pc s n) (h : RRd w g gp tl ts pc r) (hs : SaysOk s r st) (ht : RToks ts (toks s)) (hl : s.length ≤ 1000) (hd : st.depth ≤ 8) (hlp : st.loops < 2) (hn : 2 * left s st ≤ n) (hk : st.t.kind = kRepeat) :
    Calls Tryz.prog 124 #[.pointer (some ⟨g, 0, none⟩)] w (OutSt w g gp tl ts pc s r.decls (repO s n (.ok () (next s st)))) := by
  obtain ⟨x, hx, hof⟩ := SaysOk.tok hs ht
  obtain ⟨gt, ct, rfl, h1, h2, h3, h4, h5, t0, t1, t2⟩ := h.at_ hx
  have hxi : x.is = kRepeat := by rw [hof.1, hk]; decide
  rw [hxi] at t0
  obtain ⟨c0, c1, _, c3, _⟩ := h.cells
  have hlt := h.row.lt
  have ff := fun j => h.row.frozen j
  have h8 := h.tl
  have hkk : r.k < ts.length := h3
  unfold maxLen at h2
  have hlo := SaysOk.loops hs
  rw [hlo] at c3
  have el1 : ((st.loops : Int) == 2) = false := by simp; omega
  have el2 : decide ((st.loops : Int) = 2) = false := by simp; omega
  have hkp : Kg g w (w.setCell ⟨g, 1, none⟩ (.int .i64 ((r.k : Int) + 1))) := (Kept.refl _ w).setCell (p := ⟨g, 1, none⟩) (.inl rfl) _
  have q1 := (RH2.start_ (D := w.heap.size + 1) (RH.start_ (C := w.heap.size) (ty := 155) hkp (h.put 1 (.int .i64 ((r.k : Int) + 1)) (r' := r.nx) rfl rfl) (by decide) zeros14 (by simp)) [vs kRepeat, .int .i64 0, .int .i64 0, .bool false, vs [], .int .i64 0, vs [], .int .i64 0, vs [], .int .i64 0, .int .i64 0, .slice none 0 0, .slice none 0 0, .bool false] (by simp)).drewN 1
  have hnx : Says s r.nx (Out.ok () (next s st)) := SaysOk.next hs (by rw [hk]; decide) (by rw [hk]; decide)
  have hok : (next s st).Ok s := next_ok (SaysOk.ok hs)
  have hlt1 := next_lt (SaysOk.ok hs) hk (by decide) (by decide)
  have hnum := rnumber_any q1.rd hnx ht 1 50
  have hfw3 : ∀ c st3, condO s (n + 1) (wantO s kWhile (numO s 1 50 (Out.ok () (next s st)))) = .ok c st3 → Fwd s (next s st) st3 ∧ 2 * left s st3 + 1 ≤ n := fun c st3 e => by
    obtain ⟨a, b⟩ := rep_fwd hok e
    exact ⟨a, by omega⟩
  have HFW3 := Lib.hid hfw3
  clear hfw3
  have hfw : ∀ k st1, numO s 1 50 (Out.ok () (next s st)) = .ok k st1 → Fwd s (next s st) st1 ∧ 2 * left s st1 + 1 ≤ n := fun k st1 e => by
    obtain ⟨a, b, _⟩ := number_ok hok (show number s 1 50 (next s st) = .ok k st1 from e)
    exact ⟨a, by omega⟩
  have HT := Lib.hid ht
  have HOK := Lib.hid hok
  have HBL := Lib.hid hbl
  have HNUM := Lib.hid hnum
  have Q1 := Lib.hid q1
  have HFW := Lib.hid hfw
  have HF := Lib.hid (And.intro (show (next s st).depth ≤ 8 from hd) (show (next s st).loops < 2 from hlp))
  generalize hk0 : r.k = kq at *
  generalize hLL : ts.length = LL at *
  clear hx hof hs hnx hok hxi hk hk0 hLL h q1 ht t1 t2 hkp hbl hnum hlt1 hn hd hlp hlo hfw
  unfold vs at *
  go_enter Tryz.func124, Tryz.ntmps124
  go_wp2
  go_region
  go_wp2_with fail
  clear el1 el2 c3
  refine HNUM.out.mono ?_
  rintro e w1 ⟨v1, rfl, hk1, hv1, r1, h1', hs1, hd1⟩
  have p1 := Q1.out.call hk1 h1'
  have z := fun j => p1.row2.frozen j
  obtain ⟨e0, e1, e2, e3, e4, e5, e6, e7, e8, e9, e10, e11, e12, e13⟩ := cells14 p1.row2
  have q2 := p1.set2 1 (.int .i64 v1)
  have hnd := rneed_any q2.rd hs1 HT.out (kd := kWhile) (kr := kWhile) (by decide) (by decide) (by decide) (by decide)
  rw [hd1] at hnd
  have HND := Lib.hid hnd
  have Q2 := Lib.hid q2
  have HV1 := Lib.hid hv1
  clear p1 q2 hk1 hv1 h1' hs1 hd1 hnd HNUM Q1
  unfold vs at *
  go_wp2_with fail
  clear e0 e1 e2 e3 e4 e5 e6 e7 e8 e9 e10 e11 e12 e13 z
  refine HND.out.mono ?_
  rintro e w2 ⟨x9, rfl, hk2, _, r2, h2', hs2, hd2⟩
  have q3 := Q2.out.call hk2 h2'
  have hcd := rcond_any q3.rd hs2 HT.out hl (n := n + 1) (by
    cases hq : wantO s kWhile (numO s 1 50 (Out.ok () (next s st))) with
    | bad e p => exact Nat.succ_pos _
    | ok t st2 =>
      cases hq1 : numO s 1 50 (Out.ok () (next s st)) with
      | bad e p => rw [hq1] at hq; cases hq
      | ok k st1 =>
        rw [hq1] at hq
        obtain ⟨f1, f2⟩ := HFW.out k st1 hq1
        obtain ⟨_, _, e3⟩ := want_ok (show want s kWhile st1 = .ok t st2 from hq)
        have := (Fwd.next f1.ok).left
        rw [← e3] at this
        show left s st2 < n + 1
        omega)
  rw [hd2] at hcd
  have HCD := Lib.hid hcd
  have Q3 := Lib.hid q3
  clear q3 hk2 h2' hs2 hd2 hcd HND Q2
  unfold encRTokV vs
  go_wp2_with fail
  refine HCD.out.mono ?_
  rintro e w3 ⟨a0, n0, a1, n1, a2, n2, j0, rfl, hk3, hcv, r3, h3', hs3, hd3⟩
  have p3 := Q3.out.call hk3 h3'
  have z := fun j => p3.row2.frozen j
  obtain ⟨e0, e1, e2, e3, e4, e5, e6, e7, e8, e9, e10, e11, e12, e13⟩ := cells14 p3.row2
  obtain ⟨_, _, _, d3, _⟩ := h3'.cells
  have fr := fun j => h3'.row.frozen j
  have hDg : ¬ w.heap.size + 1 = g := fun e => p3.row2.ne_ p3.rd.row (by decide) e
  have q4 := ((((((p3.set2 4 (vs a0)).set2 5 (.int .i64 n0)).set2 6 (vs a1)).set2 7 (.int .i64 n1)).set2 8 (vs a2)).set2 9 (.int .i64 n2)).set2 10 (.int .i64 j0)
  have Q4 := Lib.hid q4
  have HS3 := Lib.hid hs3
  have HD3 := Lib.hid hd3
  have HCV := Lib.hid hcv
  clear p3 q4 hk3 hcv h3' hs3 hd3 HCD Q3
  unfold vs at *
  go_upto_region 41 with fail
  generalize World.setCell _ ⟨w.heap.size + 1, 10, none⟩ _ = wy at *
  have d3 := (Q4.out.rd.cells).2.2.2.1
  have fr := fun j => Q4.out.rd.row.frozen j
  clear e0 e1 e2 e3 e4 e5 e6 e7 e8 e9 e10 e11 e12 e13 z
  go_cut [] (fun wx => ∃ r4, RH2 w wx g gp (.slice (some ⟨gt, 0, none⟩) LL ct) ts pc r4 155 w.heap.size zeros14 (w.heap.size + 1) [vs kRepeat, .int .i64 v1, .int .i64 0, .bool false, vs a0, .int .i64 n0, vs a1, .int .i64 n1, vs a2, .int .i64 n2, .int .i64 j0, .slice none 0 0, .slice none 0 0, .bool false] ∧ Says s r4 (loopIn (condO s (n + 1) (wantO s kWhile (numO s 1 50 (Out.ok () (next s st)))))) ∧ r4.decls = r.decls)
  case first =>
    cases hq : (condO s (n + 1) (wantO s kWhile (numO s 1 50 (Out.ok () (next s st))))) with
    | bad e p =>
      have hs3 := HS3.out
      rw [hq] at hs3
      have HS4 := Lib.hid hs3
      have HQ := Lib.hid hq
      clear hs3 hq
      go_wp2
      go_meet
      exact ⟨r3.lp (wrap64 (r3.loops + 1)), Q4.out.put 3 _ rfl rfl, by rw [HQ.out]; exact HS4.out.loopIn_ _ (fun a st e => by cases e), HD3.out⟩
    | ok c st3 =>
      have hs3 := HS3.out
      rw [hq] at hs3
      have hlo3 := SaysOk.loops hs3
      have hlt3 : st3.loops < 2 := by
        have := (HFW3.out c st3 hq).1.loops
        rw [this]
        exact HF.out.2
      rw [hlo3] at d3
      have HS4 := Lib.hid hs3
      have HQ := Lib.hid hq
      clear hs3 hq hlo3
      go_wp2
      go_meet
      exact ⟨r3.lp ((st3.loops : Int) + 1), Q4.out.put 3 _ rfl rfl, by rw [HQ.out]; exact HS4.out.loopIn_ _ (fun a st' e => by injection e with _ e; rw [← e]; rfl), HD3.out⟩
  case rest =>
    obtain ⟨r4, hq4, hs4, hd4⟩ := hcut
    have hbk := HBL.out (loopIn (condO s (n + 1) (wantO s kWhile (numO s 1 50 (Out.ok () (next s st)))))) wc r4 hq4.rd hs4 (fun st9 e => by
      cases hq : (condO s (n + 1) (wantO s kWhile (numO s 1 50 (Out.ok () (next s st))))) with
      | bad e2 p => rw [hq] at e; cases e
      | ok c st3 =>
        rw [hq] at e
        injection e with _ e
        obtain ⟨f1, f2⟩ := HFW3.out c st3 hq
        have b1 : st9.depth = st3.depth := by rw [← e]
        have b2 : st9.loops = st3.loops + 1 := by rw [← e]
        have b3 : left s st9 = left s st3 := by rw [← e]; rfl
        obtain ⟨g1, g2⟩ := HF.out
        exact ⟨by rw [b1, f1.depth]; exact g1, by rw [b2, f1.loops]; omega, by rw [b3]; exact f2⟩)
    rw [hd4] at hbk
    have HBK := Lib.hid hbk
    have Q5 := Lib.hid hq4
    clear d3 fr Q4 HS3 HD3 hbk hq4 hs4 hd4
    unfold vs at *
    go_wp2_with fail
    refine HBK.out.mono ?_
    rintro e w5 ⟨va, vn, vc, rfl, hk5, hbv, r5, h5', hs5, hd5⟩
    have p5 := Q5.out.call hk5 h5'
    have z := fun j => p5.row2.frozen j
    obtain ⟨e0, e1, e2, e3, e4, e5, e6, e7, e8, e9, e10, e11, e12, e13⟩ := cells14 p5.row2
    have q6 := p5.set2 11 (.slice va vn vc)
    have hszc : w.heap.size + 1 < wc.heap.size := Q5.out.row2.lt
    have hbv6 : ∀ b st9, blockO s n (loopIn (condO s (n + 1) (wantO s kWhile (numO s 1 50 (Out.ok () (next s st)))))) = .ok b st9 → st9.wrong = none → RBlkV (fun k => w.heap.size + 1 < k) (w5.setCell ⟨w.heap.size + 1, 11, none⟩ (.slice va vn vc)) (.slice va vn vc) b := fun b st9 e hw =>
      ((hbv b st9 e hw).mono (fun k _ hk => by omega)).far_ (fun k hk => by omega) 11 _
    have Q6 := Lib.hid q6
    have HB6 := Lib.hid hbv6
    have HS5 := Lib.hid hs5
    have HD5 := Lib.hid hd5
    clear p5 q6 hk5 hbv h5' hs5 hd5 hbv6 HBK Q5 hszc
    unfold vs at *
    go_upto_region 43 with fail
    clear e0 e1 e2 e3 e4 e5 e6 e7 e8 e9 e10 e11 e12 e13 z
    generalize World.setCell _ ⟨w.heap.size + 1, 11, none⟩ _ = wy2 at *
    have d3 := (Q6.out.rd.cells).2.2.2.1
    have fr := fun j => Q6.out.rd.row.frozen j
    go_cut [] (fun wx => ∃ r6, RH2 w wx g gp (.slice (some ⟨gt, 0, none⟩) LL ct) ts pc r6 155 w.heap.size zeros14 (w.heap.size + 1) [vs kRepeat, .int .i64 v1, .int .i64 0, .bool false, vs a0, .int .i64 n0, vs a1, .int .i64 n1, vs a2, .int .i64 n2, .int .i64 j0, .slice va vn vc, .slice none 0 0, .bool false] ∧ Says s r6 (loopOut (blockO s n (loopIn (condO s (n + 1) (wantO s kWhile (numO s 1 50 (Out.ok () (next s st)))))))) ∧ r6.decls = r.decls ∧
      ∀ b st9, blockO s n (loopIn (condO s (n + 1) (wantO s kWhile (numO s 1 50 (Out.ok () (next s st)))))) = .ok b st9 → st9.wrong = none → RBlkV (fun k => w.heap.size + 1 < k) wx (.slice va vn vc) b)
    case first =>
      have hbq : ∀ (u : Value) b st9, blockO s n (loopIn (condO s (n + 1) (wantO s kWhile (numO s 1 50 (Out.ok () (next s st)))))) = .ok b st9 → st9.wrong = none → RBlkV (fun k => w.heap.size + 1 < k) (wy2.setCell ⟨g, 3, none⟩ u) (.slice va vn vc) b := fun u b st9 e hw =>
        (HB6.out b st9 e hw).later_ ((Kept.refl _ _).setCell (p := ⟨g, 3, none⟩) (.inl rfl) u) Q6.out.rd.row
      have HBQ := Lib.hid hbq
      clear hbq
      cases hq : blockO s n (loopIn (condO s (n + 1) (wantO s kWhile (numO s 1 50 (Out.ok () (next s st)))))) with
      | bad e p =>
        have hs5 := HS5.out
        rw [hq] at hs5
        have HS7 := Lib.hid hs5
        have HQ := Lib.hid hq
        clear hs5 hq
        go_wp2
        go_meet
        exact ⟨r5.lp (wrap64 (r5.loops - 1)), Q6.out.put 3 _ rfl rfl, by rw [HQ.out]; exact HS7.out.loopOut_ _ (fun a st e => by cases e), HD5.out, HBQ.out _⟩
      | ok b st4 =>
        have hs5 := HS5.out
        rw [hq] at hs5
        have hlo5 := SaysOk.loops hs5
        have hlt5 : 1 ≤ st4.loops ∧ st4.loops ≤ 2 := by
          cases hq3 : (condO s (n + 1) (wantO s kWhile (numO s 1 50 (Out.ok () (next s st))))) with
          | bad e p => rw [hq3] at hq; cases hq
          | ok c st3 =>
            rw [hq3] at hq
            obtain ⟨f1, f2⟩ := HFW3.out c st3 hq3
            obtain ⟨g1, g2⟩ := HF.out
            have b9 := block_ok (n := n) (st := { st3 with loops := st3.loops + 1 }) ⟨f1.ok.i, f1.ok.pos, f1.ok.more, f1.ok.num, f1.ok.name⟩ (by show st3.depth ≤ 8; rw [f1.depth]; exact g1) (by show st3.loops + 1 ≤ 2; rw [f1.loops]; omega) (show block s n { st3 with loops := st3.loops + 1 } = .ok b st4 from hq)
            have e1 : st4.loops = st3.loops + 1 := b9.1.loops
            have e2 : st3.loops = (next s st).loops := f1.loops
            omega
        obtain ⟨hl5, hl6⟩ := hlt5
        rw [hlo5] at d3
        have HS7 := Lib.hid hs5
        have HQ := Lib.hid hq
        clear hs5 hq hlo5
        go_wp2
        go_meet
        exact ⟨r5.lp ((st4.loops : Int) - 1), Q6.out.put 3 _ rfl rfl, by rw [HQ.out]; exact HS7.out.loopOut_ _ (fun a st' e => by injection e with _ e; rw [← e]; omega), HD5.out, HBQ.out _⟩
    case rest =>
      obtain ⟨r6, hq6, hs6, hd6, hb6⟩ := hcut
      have z := fun j => hq6.row2.frozen j
      have y := fun j => hq6.row.frozen j
      obtain ⟨e0, e1, e2, e3, e4, e5, e6, e7, e8, e9, e10, e11, e12, e13⟩ := cells14 hq6.row2
      obtain ⟨f0, f1, f2, f3, f4, f5, f6, f7, f8, f9, f10, f11, f12, f13⟩ := cells14 hq6.row
      have hne : ¬ w.heap.size = w.heap.size + 1 := by omega
      have q9 := hq6.copy14 (vs kRepeat) (.int .i64 v1) (.int .i64 0) (.bool false) (vs a0) (.int .i64 n0) (vs a1) (.int .i64 n1) (vs a2) (.int .i64 n2) (.int .i64 j0) (.slice va vn vc) (.slice none 0 0) (.bool false)
      have hbA : ∀ b st9, blockO s n (loopIn (condO s (n + 1) (wantO s kWhile (numO s 1 50 (Out.ok () (next s st)))))) = .ok b st9 → st9.wrong = none → RBlkV (fun k => w.heap.size ≤ k) (copied14 _ w.heap.size (vs kRepeat) (.int .i64 v1) (.int .i64 0) (.bool false) (vs a0) (.int .i64 n0) (vs a1) (.int .i64 n1) (vs a2) (.int .i64 n2) (.int .i64 j0) (.slice va vn vc) (.slice none 0 0) (.bool false)) (.slice va vn vc) b := fun b st9 e hw =>
        ((hb6 b st9 e hw).copy14 (C := w.heap.size) (fun k hk => by omega) _ _ _ _ _ _ _ _ _ _ _ _ _ _).mono (fun k _ hk => by omega)
      have HBA := Lib.hid hbA
      have Q9 := Lib.hid q9
      have zW0 := Lib.hid hs6
      have FD := Lib.hid hd6
      clear hq6 q9 hs6 hd6 hb6 hbA Q6 HB6 HS5 HD5 d3 fr
      unfold vs at *
      go_wp2
      refine bodyPost_ret (results_cell (cs := [vs kRepeat, .int .i64 v1, .int .i64 0, .bool false, vs a0, .int .i64 n0, vs a1, .int .i64 n1, vs a2, .int .i64 n2, .int .i64 j0, .slice va vn vc, .slice none 0 0, .bool false]) Tryz.results124 aggRStmt sizeRStmt rfl Q9.out.row) rfl ?_
      refine ⟨_, rfl, ⟨_, _, _, _, _, _, _, _, _, _, _, _, _, _, _, _, _, _, rfl⟩, Q9.out.kg, fun x9 st9 e hw => ?_, r6, Q9.out.rd, zW0.out.of_unit unit_rep, FD.out⟩
      obtain ⟨k, st1, t, st2, c, st3, b, st4, u1, u2, u3, u4, rfl, rfl⟩ := rep_ok e
      have hw4 : st4.wrong = none := hw
      have hw3 : st3.wrong = none := by
        obtain ⟨f1, f2⟩ := HFW3.out c st3 u3
        obtain ⟨g1, g2⟩ := HF.out
        rw [u3] at u4
        have b9 := block_ok (n := n) (st := { st3 with loops := st3.loops + 1 }) ⟨f1.ok.i, f1.ok.pos, f1.ok.more, f1.ok.num, f1.ok.name⟩ (by show st3.depth ≤ 8; rw [f1.depth]; exact g1) (by show st3.loops + 1 ≤ 2; rw [f1.loops]; omega) (show block s n { st3 with loops := st3.loops + 1 } = .ok b st4 from u4)
        exact b9.1.wrong hw4
      have hcx := HCV.out c st3 u3 hw3
      have hv := HV1.out k st1 u1
      subst hv
      exact RStmtsR_one_rep (by unfold encRRep; rw [← hcx]; rfl) (HBA.out b st4 u4 hw4)

/-- A statement, whichever. -/
theorem rstmt_step (n : Nat) (ht : RToks ts (toks s)) (hl : s.length ≤ 1000) (hbl : BlockCr g gp tl ts pc s n) : StmtCr g gp tl ts pc s (n + 1) := by
  intro st w r h hs hd hlp hn
  rw [stmt]
  by_cases h1 : st.t.kind = kPut
  · rw [if_pos h1]; exact rstmt_put h hs ht h1
  rw [if_neg h1]
  by_cases h2 : st.t.kind = kEvict
  · rw [if_pos h2]; exact rstmt_evict h hs ht h2
  rw [if_neg h2]
  by_cases h3 : st.t.kind = kCool
  · rw [if_pos h3]; exact rstmt_cool h hs ht h3
  rw [if_neg h3]
  by_cases h4 : st.t.kind = kShift
  · rw [if_pos h4]; exact rstmt_shift h hs ht h4
  rw [if_neg h4]
  by_cases h5 : st.t.kind = kInc
  · rw [if_pos h5]; exact rstmt_inc h hs ht h5
  rw [if_neg h5]
  by_cases h6 : st.t.kind = kDec
  · rw [if_pos h6]; exact rstmt_dec h hs ht h6
  rw [if_neg h6]
  by_cases h7 : st.t.kind = kDrop
  · rw [if_pos h7]; exact rstmt_drop h hs ht h7
  rw [if_neg h7]
  by_cases h8 : st.t.kind = kBump
  · rw [if_pos h8]; exact rstmt_bump h hs ht h8
  rw [if_neg h8]
  by_cases h9 : st.t.kind = kIf
  · rw [if_pos h9]; exact rstmt_if n hbl h hs ht hl hd hlp (by omega) h9
  rw [if_neg h9]
  by_cases h10 : st.t.kind = kRepeat
  · rw [if_pos h10]
    by_cases h11 : st.loops = 2
    · rw [if_pos h11]; exact rstmt_rep_deep h hs ht h10 h11
    · rw [if_neg h11]; exact rstmt_rep n hbl h hs ht hl hd (by omega) (by omega) h10
  rw [if_neg h10]
  exact rstmt_none h hs ht h1 h2 h3 h4 h5 h6 h7 h8 h9 h10

theorem rblock_all (ht : RToks ts (toks s)) (hl : s.length ≤ 1000) (n : Nat) : BlockCr g gp tl ts pc s n ∧ StmtCr g gp tl ts pc s n := by
  induction n using Nat.strongRecOn with
  | ind n ih =>
    cases n with
    | zero =>
      refine ⟨fun o w r h hs hok => ?_, fun st w r h hs hd hlp hn => by omega⟩
      cases o with
      | ok a st => have := (hok st rfl).2.2; omega
      | bad e p =>
        exact rblock_step 0 ht hl (fun m hm => by
          have : m = 0 := by omega
          subst this
          intro st w r h hs hd hlp hn
          omega) (.bad e p) w r h hs (fun st e => by cases e)
    | succ n => exact ⟨rblock_step n ht hl (fun m hm => (ih m hm).2), rstmt_step n ht hl (ih n (by omega)).1⟩
end
end Go.Proofs.YtemppijblfflgabGreatDoor.Ev
namespace Go.Proofs.YtemppijblfflgabGreatDoor.Ev
open Go Go.RowKit

/-- Has and Rules, in blocks of N. -/
structure RRul (N : Nat → Prop) (w : World) (vr vh : Value) (n : Nat) (hs : List Bool) (rs : List Value) : Prop where
  has : Sl N w 4 1 vh n (hs.map Value.bool)
  rul : Sl N w 83 1 vr n rs
  hl : hs.length = n
  rl : rs.length = n
  shape : ∀ v ∈ rs, ∃ a m c, v = .slice a m c

/-- The rules that Has, Rules, miss and Miss hold. -/
structure RMean (N : Nat → Prop) (w : World) (rules : List (Int × Blk)) (ms : Bool) (vm : Value) (n : Nat) (hs : List Bool) (rs : List Value) : Prop where
  ms : ms = (missOf rules).isSome
  vm : RBlkV N w vm ((missOf rules).getD .nil)
  hs : ∀ k : Nat, k < n → hs[k]? = some (ruleOf rules (k : Int)).isSome
  rs : ∀ k : Nat, k < n → ∃ v, rs[k]? = some v ∧ RBlkV N w v ((ruleOf rules (k : Int)).getD .nil)

theorem ruleOf_snoc (rules : List (Int × Blk)) (k j : Int) (b : Blk) (h : ruleOf rules k = none) : ruleOf (rules ++ [(k, b)]) j = if j = k then some b else ruleOf rules j := by
  unfold ruleOf at *
  rw [List.find?_append]
  by_cases hj : j = k
  · subst hj
    rw [if_pos rfl]
    simp only [Option.map_eq_none_iff] at h
    rw [h]
    simp
  · rw [if_neg hj]
    have e : (List.find? (fun x : Int × Blk => x.1 == j) [(k, b)]) = none := by
      have : ¬ k = j := fun e => hj e.symm
      simp [this]
    rw [e]
    simp

section
variable {N N' : Nat → Prop} {w w' : World} {rules : List (Int × Blk)} {ms : Bool} {vm vr vh : Value} {n : Nat} {hs : List Bool} {rs : List Value}
theorem RMean.kept (h : RMean N w rules ms vm n hs rs) (hk : ∀ k cs, N k → Row w k 155 cs → w'.heap[k]? = w.heap[k]?) : RMean N w' rules ms vm n hs rs :=
  ⟨h.ms, h.vm.kept hk, h.hs, fun k hkn => by obtain ⟨v, h1, h2⟩ := h.rs k hkn; exact ⟨v, h1, h2.kept hk⟩⟩
theorem RMean.mono (h : RMean N w rules ms vm n hs rs) (hN : ∀ k, k < w.heap.size → N k → N' k) : RMean N' w rules ms vm n hs rs :=
  ⟨h.ms, h.vm.mono hN, h.hs, fun k hkn => by obtain ⟨v, h1, h2⟩ := h.rs k hkn; exact ⟨v, h1, h2.mono hN⟩⟩
theorem RMean.setMiss (h : RMean N w rules ms vm n hs rs) {b : Blk} (h0 : ruleOf rules (-1) = none) {v : Value} (hv : RBlkV N w v b) : RMean N w (rules ++ [(-1, b)]) true v n hs rs := by
  have e : missOf (rules ++ [(-1, b)]) = some b := by unfold missOf; rw [ruleOf_snoc _ _ _ _ h0, if_pos rfl]
  have e2 : ∀ k : Nat, ruleOf (rules ++ [(-1, b)]) (k : Int) = ruleOf rules (k : Int) := fun k => by rw [ruleOf_snoc _ _ _ _ h0, if_neg (by omega)]
  refine ⟨by rw [e]; rfl, by rw [e]; exact hv, fun k hk => by rw [e2]; exact h.hs k hk, fun k hk => by rw [e2]; exact h.rs k hk⟩
theorem RMean.setRule (h : RMean N w rules ms vm n hs rs) {b : Blk} {j : Nat} (h0 : ruleOf rules (j : Int) = none) {v : Value} (hv : RBlkV N w v b) (hn : hs.length = n) (hr : rs.length = n) : RMean N w (rules ++ [((j : Int), b)]) ms vm n (hs.set j true) (rs.set j v) := by
  have e : missOf (rules ++ [((j : Int), b)]) = missOf rules := by unfold missOf; rw [ruleOf_snoc _ _ _ _ h0, if_neg (by omega)]
  refine ⟨by rw [e]; exact h.ms, by rw [e]; exact h.vm, fun k hk => ?_, fun k hk => ?_⟩
  · rw [ruleOf_snoc _ _ _ _ h0]
    by_cases hkj : k = j
    · subst hkj
      rw [if_pos rfl, List.getElem?_set_self (by omega)]
      rfl
    · rw [if_neg (by omega), List.getElem?_set_ne (Ne.symm hkj)]
      exact h.hs k hk
  · rw [ruleOf_snoc _ _ _ _ h0]
    by_cases hkj : k = j
    · subst hkj
      rw [if_pos rfl, List.getElem?_set_self (by omega)]
      exact ⟨v, rfl, hv⟩
    · rw [if_neg (by omega), List.getElem?_set_ne (Ne.symm hkj)]
      exact h.rs k hk
theorem RRul.kept (h : RRul N w vr vh n hs rs) {S1 : Nat → Prop} (hk : Kept S1 w w') (h1 : ∀ g cs, Row w g 4 cs → N g → ¬ S1 g) (h2 : ∀ g cs, Row w g 83 cs → N g → ¬ S1 g) : RRul N w' vr vh n hs rs :=
  ⟨h.has.kept hk (fun b hb => by obtain ⟨cs, hr⟩ := h.has.row hb; exact h1 b cs hr (h.has.2 b hb)), h.rul.kept hk (fun b hb => by obtain ⟨cs, hr⟩ := h.rul.row hb; exact h2 b cs hr (h.rul.2 b hb)), h.hl, h.rl, h.shape⟩
theorem RRul.mono (h : RRul N w vr vh n hs rs) (hN : ∀ k, k < w.heap.size → N k → N' k) : RRul N' w vr vh n hs rs :=
  ⟨⟨h.has.1, fun g hg => hN g (h.has.lt hg) (h.has.2 g hg)⟩, ⟨h.rul.1, fun g hg => hN g (h.rul.lt hg) (h.rul.2 g hg)⟩, h.hl, h.rl, h.shape⟩
end

/-! ## The plain reading of a rule -/
section
variable {s : Bytes} {r : Raw} {st : PS} {m : Nat}
/-- Which rule: where its name has been read. -/
def rkO (at_ : Nat) (x : Out Int) : Out Int := x.bind fun k st => .ok k (if (ruleOf st.rules k).isSome && st.wrong.isNone then note eRule at_ st else st)
theorem ruleHead_miss (h : (next s st).t.kind = kMiss) : ruleHead s st = rkO st.t.pos (.ok (-1) (next s (next s st))) := by
  unfold ruleHead rkO
  simp only
  rw [if_pos h]
theorem ruleHead_name (h : ¬ (next s st).t.kind = kMiss) : ruleHead s st = rkO st.t.pos (name s false (next s st)) := by
  unfold ruleHead rkO
  simp only
  rw [if_neg h]
/-- The note of a second rule, as the document's answer makes it. -/
theorem rk_note {at_ : Nat} {k : Int} {st1 : PS} {hit : Bool} (h : st1.wrong = none → hit = (ruleOf st1.rules k).isSome) :
    (if (ruleOf st1.rules k).isSome && st1.wrong.isNone then note eRule at_ st1 else st1) = if hit then note eRule at_ st1 else st1 := by
  cases hw : st1.wrong with
  | none =>
    rw [h hw]
    simp
  | some x =>
    have e : note eRule at_ st1 = st1 := by unfold note; rw [hw]
    simp [e]
theorem rrule_eq : rule s m st = (ruleHead s st).bind fun k st => (block s m st).bind fun b st => .ok () (if st.wrong.isNone then { st with rules := st.rules ++ [(k, b)] } else st) := rfl
theorem rule_says {o : Out Unit} (ho : o = (ruleHead s st).bind fun _ st => .ok () st) (h : Says s r (o.bind fun _ st => block s m st)) : Says s r (rule s m st) := by
  subst ho
  rw [rrule_eq]
  cases hh : ruleHead s st with
  | bad e p => rw [hh] at h; exact h
  | ok k st1 =>
    rw [hh] at h
    have h : Says s r (block s m st1) := h
    show Says s r ((block s m st1).bind _)
    cases hb : block s m st1 with
    | bad e p => rw [hb] at h; exact h
    | ok b st2 =>
      rw [hb] at h
      have h' : SaysOk s r st2 := h
      show SaysOk s r (if st2.wrong.isNone then { st2 with rules := st2.rules ++ [(k, b)] } else st2)
      split
      · exact ⟨h'.pos.of rfl rfl, ⟨h'.ok.i, h'.ok.pos, h'.ok.more, h'.ok.num, h'.ok.name⟩, h'.deep, h'.loops, h'.bad, h'.wrong, h'.decls, h'.freq, h'.seen, h'.f0, h'.fk⟩
      · exact h'
theorem rrule_ok {st' : PS} (hok : st.Ok s) (hk : st.t.kind = kOn) (hd : st.depth ≤ 7) (hl : st.loops ≤ 2) (e : rule s m st = .ok () st') (hw : st'.wrong = none) :
    ∃ k st1 b st2, ruleHead s st = .ok k st1 ∧ block s m st1 = .ok b st2 ∧ st1.wrong = none ∧ st2.wrong = none ∧ ruleOf st.rules k = none ∧ st'.rules = st.rules ++ [(k, b)] ∧ st.wrong = none := by
  rw [rrule_eq] at e
  obtain ⟨k, st1, e1, e2⟩ := bind_ok e
  obtain ⟨b, st2, e3, e4⟩ := bind_ok e2
  injection e4 with _ e4
  obtain ⟨f1, l1, w1⟩ := ruleHead_mid hok hk e1
  obtain ⟨f2, _⟩ := block_ok f1.ok (by rw [f1.depth]; omega) (by rw [f1.loops]; omega) e3
  cases hw2 : st2.wrong with
  | some x =>
    rw [hw2] at e4
    simp at e4
    rw [← e4, hw2] at hw
    cases hw
  | none =>
    rw [hw2] at e4
    simp at e4
    have h1 := f2.wrong hw2
    refine ⟨k, st1, b, st2, e1, e3, h1, hw2, ?_, ?_, f1.wrong h1⟩
    · have hn := (w1 h1).2
      unfold ruleOf
      rw [Option.map_eq_none_iff, List.find?_eq_none]
      intro x hx hx2
      exact hn (List.mem_map.2 ⟨x, hx, by simpa using hx2⟩)
    · rw [← e4]
      show st2.rules ++ [(k, b)] = _
      rw [f2.rules, f1.rules]
end
end Go.Proofs.YtemppijblfflgabGreatDoor.Ev
namespace Go.Proofs.YtemppijblfflgabGreatDoor.Ev
open Go Go.RowKit

/-- The reader and its policy with rows for its rules. -/
structure RQ (B : Nat) (w : World) (g gp : Nat) (tl : Value) (ts : List RTok) (f : Int) (vr vh vm : Value) (ms : Bool) (r : Raw) (vd : Value) (hs : List Bool) (rs : List Value) : Prop extends RP B w g gp tl ts f vr vh vm ms r vd where
  ru : RRul (fun b => B ≤ b) w vr vh r.decls.length hs rs
  vms : ∃ a n c, vm = .slice a n c

section
variable {B : Nat} {w w' : World} {g gp : Nat} {tl : Value} {ts : List RTok} {f : Int} {vr vh vm : Value} {ms : Bool} {r r' : Raw} {vd : Value} {hs : List Bool} {rs : List Value} {s : Bytes} {st : PS}
theorem RRul.kg {n : Nat} {cs : List Value} (h : RRul (fun b => B ≤ b) w vr vh n hs rs) (hk : Kg g w w') (hr : Row w g 136 cs) : RRul (fun b => B ≤ b) w' vr vh n hs rs :=
  h.kept hk (fun b cs hb _ hh => hh.elim (fun e => hb.ne_ hr (by decide) e) (fun e => by have := hb.lt; omega)) (fun b cs hb _ hh => hh.elim (fun e => hb.ne_ hr (by decide) e) (fun e => by have := hb.lt; omega))
theorem RQ.call (h : RQ B w g gp tl ts f vr vh vm ms r vd hs rs) (hk : Kg g w w') (hr : RRd w' g gp tl ts [vd, .int .i64 f, vr, vh, vm, .bool ms] r') (hd : r'.decls = r.decls) : RQ B w' g gp tl ts f vr vh vm ms r' vd hs rs :=
  ⟨h.toRP.call hk hr hd, by rw [hd]; exact h.ru.kg hk h.rd.row, h.vms⟩
theorem RMean.kg {N : Nat → Prop} {rules : List (Int × Blk)} {n : Nat} {cs : List Value} (h : RMean N w rules ms vm n hs rs) (hk : Kg g w w') (hr : Row w g 136 cs) : RMean N w' rules ms vm n hs rs :=
  h.kept (fun k cs _ hk2 => kg_at hk hk2.lt (hk2.ne_ hr (by decide)))
/-- Where Has has a place. -/
theorem RRul.has_at {N : Nat → Prop} {n : Nat} (h : RRul N w vr vh n hs rs) {k : Nat} (hk : k < n) : ∃ gh ch b, vh = .slice (some ⟨gh, 0, none⟩) n ch ∧ n ≤ ch ∧ ch ≤ maxLen ∧ hs[k]? = some b ∧ w.cell? ⟨gh, k, none⟩ = some (.bool b) ∧ gh < w.heap.size := by
  obtain ⟨gh, ch, e, _, h1, h2, h3⟩ := h.has.form (by omega)
  have hl := h.hl
  have hb : hs[k]? = some hs[k] := List.getElem?_eq_getElem (by omega)
  refine ⟨gh, ch, hs[k], e, h1, h2, hb, ?_, h3⟩
  have hs' := h.has
  rw [e] at hs'
  have := hs'.1.cellAt k (by omega)
  rw [List.getElem?_map, hb] at this
  exact this
theorem RRul.len_form {N : Nat → Prop} {n : Nat} (h : RRul N w vr vh n hs rs) : (∃ a c, vh = .slice a n c) ∧ (∃ a c, vr = .slice a n c) := ⟨h.has.any_, h.rul.any_⟩
end

/-- What is known of a rule's head behind its note. -/
def HeadK (s : Bytes) (st : PS) (b : Bool) (k : Nat) : Prop := ∀ k' st1, ruleHead s st = .ok k' st1 → st1.wrong = none → k' = if b then -1 else (k : Int)
def headO (s : Bytes) (st : PS) : Out Unit := (ruleHead s st).bind fun _ st => .ok () st
section
variable {s : Bytes} {st : PS} {r1 r2 : Raw} {hit : Bool} {k : Nat}
theorem head_miss (h : (next s st).t.kind = kMiss) (hm : st.wrong = none → hit = (ruleOf st.rules (-1)).isSome) (h1 : hit = true → Says s r2 (noteO eRule st.t.pos (takeO s kMiss (Out.ok () (next s st))))) (h2 : hit = false → Says s r2 (takeO s kMiss (Out.ok () (next s st)))) :
    Says s r2 (headO s st) ∧ HeadK s st true k := by
  have e0 : takeO s kMiss (Out.ok () (next s st)) = .ok () (next s (next s st)) := by
    show Out.ok () (take s kMiss (next s st)).2 = _
    unfold take
    rw [if_pos h]
  rw [e0] at h1 h2
  have e1 : ruleHead s st = .ok (-1) (if hit then note eRule st.t.pos (next s (next s st)) else next s (next s st)) := by
    have hnt : (if (ruleOf (next s (next s st)).rules (-1)).isSome && (next s (next s st)).wrong.isNone then note eRule st.t.pos (next s (next s st)) else next s (next s st)) = if hit then note eRule st.t.pos (next s (next s st)) else next s (next s st) :=
      rk_note (at_ := st.t.pos) (st1 := next s (next s st)) (hit := hit) (fun hw => hm hw)
    rw [ruleHead_miss h, ← hnt]
    rfl
  refine ⟨?_, fun k' st1 e hw => ?_⟩
  · unfold headO
    rw [e1]
    cases hit with
    | true => exact h1 rfl
    | false => exact h2 rfl
  · rw [e1] at e
    injection e with e
    rw [← e]; rfl
theorem head_name {v : Nat} (h : ¬ (next s st).t.kind = kMiss) (hv : ∀ n st1, nmO s false (Out.ok () (next s st)) = .ok n st1 → st1.wrong = none → n = (v : Int)) (hok : st.Ok s)
    (hm : st.wrong = none → (∀ n st1, nmO s false (Out.ok () (next s st)) = .ok n st1 → st1.wrong = none → hit = (ruleOf st.rules (v : Int)).isSome)) (h1 : hit = true → Says s r2 (noteO eRule st.t.pos (nmO s false (Out.ok () (next s st))))) (h2 : hit = false → Says s r2 (nmO s false (Out.ok () (next s st)))) :
    Says s r2 (headO s st) ∧ HeadK s st false v := by
  have e0 : nmO s false (Out.ok () (next s st)) = name s false (next s st) := rfl
  rw [e0] at hv hm h1 h2
  have e2 : ruleHead s st = rkO st.t.pos (name s false (next s st)) := ruleHead_name h
  cases hn : name s false (next s st) with
  | bad e p =>
    rw [hn] at e2 h1 h2
    refine ⟨?_, fun k' st1 e hw => by rw [e2] at e; cases e⟩
    unfold headO
    rw [e2]
    cases hit with
    | true => exact h1 rfl
    | false => exact h2 rfl
  | ok n st1 =>
    rw [hn] at e2 h1 h2 hv hm
    obtain ⟨f1, _, _⟩ := name_ok (next_ok hok) hn
    have e1 : ruleHead s st = .ok n (if hit then note eRule st.t.pos st1 else st1) := by
      rw [e2]
      show Out.ok n _ = _
      rw [rk_note (hit := hit) (fun hw => ?_)]
      have hx := hm (f1.wrong hw) n st1 rfl hw
      rw [hx, hv n st1 rfl hw, f1.rules]
      rfl
    refine ⟨?_, fun k' st2 e hw => ?_⟩
    · unfold headO
      rw [e1]
      cases hit with
      | true => exact h1 rfl
      | false => exact h2 rfl
    · rw [e1] at e
      injection e with e e3
      rw [← e]
      refine hv n st1 rfl ?_
      cases hit with
      | true =>
        simp only [if_true] at e3
        rw [← e3] at hw
        exact absurd hw (note_wrong _ _ _)
      | false =>
        simp only [Bool.false_eq_true, if_false] at e3
        rw [e3]; exact hw
end

section
variable {B : Nat} {w : World} {g gp : Nat} {tl : Value} {ts : List RTok} {f : Int} {vr vh vm : Value} {ms : Bool} {r : Raw} {vd : Value} {hs : List Bool} {rs : List Value}
/-- A cell of the policy beside its declarations is stored. -/
theorem RQ.setPol (h : RQ B w g gp tl ts f vr vh vm ms r vd hs rs) (i : Nat) (u : Value) {vm' : Value} {ms' : Bool} (he : [vd, .int .i64 f, vr, vh, vm, .bool ms].set i u = [vd, .int .i64 f, vr, vh, vm', .bool ms']) (hv : ∃ a n c, vm' = .slice a n c) :
    RQ B (w.setCell ⟨gp, i, none⟩ u) g gp tl ts f vr vh vm' ms' r vd hs rs := by
  have hk : Kept (fun b => b = gp) w (w.setCell ⟨gp, i, none⟩ u) := Kept.one w ⟨gp, i, none⟩ _
  obtain ⟨N, ht⟩ := h.rd.toks
  have hpg := h.rd.pol.ne_ h.rd.row (by decide)
  have hsl := h.sl.kept hk (fun b hb e => h.sl.ne_row h.rd.pol (by decide) (e ▸ hb))
  have hp := h.rd.pol.set_ i u
  rw [he] at hp
  exact ⟨⟨⟨h.rd.row.far (fun e => hpg e.symm) _, ⟨N, ht.kept hk (fun b hb e => ht.ne_row h.rd.pol (by decide) (e ▸ hb))⟩, h.rd.tl, hp, ⟨_, vd, rfl, hsl⟩, h.rd.dl⟩, h.g0, h.p0, hsl, by simpa using h.sz⟩,
    h.ru.kept hk (fun b cs hb _ hh => hb.ne_ h.rd.pol (by decide) hh) (fun b cs hb _ hh => hb.ne_ h.rd.pol (by decide) hh), hv⟩
theorem RQ.setHas (h : RQ B w g gp tl ts f vr vh vm ms r vd hs rs) {gh ch k : Nat} (e : vh = .slice (some ⟨gh, 0, none⟩) r.decls.length ch) : RQ B (w.setCell ⟨gh, k, none⟩ (.bool true)) g gp tl ts f vr vh vm ms r vd (hs.set k true) rs ∧ B ≤ gh ∧ Kept (fun b => B ≤ b) w (w.setCell ⟨gh, k, none⟩ (.bool true)) := by
  have hgh : B ≤ gh := h.ru.has.2 gh (by rw [e]; rfl)
  obtain ⟨cs, hrow⟩ := h.ru.has.row (g := gh) (by rw [e]; rfl)
  have hk1 : Kept (fun b => b = gh) w (w.setCell ⟨gh, k, none⟩ (.bool true)) := Kept.one w ⟨gh, k, none⟩ _
  have hhas := h.ru.has
  subst e
  have hst := hhas.1.stored k (.bool true)
  have em : (hs.map Value.bool).set k (.bool true) = (hs.set k true).map Value.bool := by rw [List.map_set]
  rw [em] at hst
  have hsl := h.sl.kept hk1 (fun b hb e => h.sl.ne_row hrow (by decide) (e ▸ hb))
  exact ⟨⟨⟨h.rd.far_ hrow (by decide) k _, h.g0, h.p0, hsl, by simpa using h.sz⟩, ⟨⟨hst.1, hhas.2⟩, h.ru.rul.kept hk1 (fun b hb e => h.ru.rul.ne_row hrow (by decide) (e ▸ hb)), by rw [List.length_set]; exact h.ru.hl, h.ru.rl, h.ru.shape⟩, h.vms⟩, hgh, hk1.mono (fun b hb => hb ▸ hgh)⟩
theorem RQ.setRul (h : RQ B w g gp tl ts f vr vh vm ms r vd hs rs) {gr cr k : Nat} (e : vr = .slice (some ⟨gr, 0, none⟩) r.decls.length cr) {v : Value} (hv : ∃ a n c, v = .slice a n c) : RQ B (w.setCell ⟨gr, k, none⟩ v) g gp tl ts f vr vh vm ms r vd hs (rs.set k v) ∧ B ≤ gr ∧ Kept (fun b => B ≤ b) w (w.setCell ⟨gr, k, none⟩ v) := by
  have hgh : B ≤ gr := h.ru.rul.2 gr (by rw [e]; rfl)
  obtain ⟨cs, hrow⟩ := h.ru.rul.row (g := gr) (by rw [e]; rfl)
  have hk1 : Kept (fun b => b = gr) w (w.setCell ⟨gr, k, none⟩ v) := Kept.one w ⟨gr, k, none⟩ _
  have hrul := h.ru.rul
  subst e
  have hst := hrul.1.stored k v
  have hsl := h.sl.kept hk1 (fun b hb e => h.sl.ne_row hrow (by decide) (e ▸ hb))
  exact ⟨⟨⟨h.rd.far_ hrow (by decide) k _, h.g0, h.p0, hsl, by simpa using h.sz⟩, ⟨h.ru.has.kept hk1 (fun b hb e => h.ru.has.ne_row hrow (by decide) (e ▸ hb)), ⟨hst.1, hrul.2⟩, h.ru.hl, by rw [List.length_set]; exact h.ru.rl, fun u hu => by
    rcases List.mem_or_eq_of_mem_set hu with h1 | h1
    · exact h.ru.shape u h1
    · exact h1 ▸ hv⟩, h.vms⟩, hgh, hk1.mono (fun b hb => hb ▸ hgh)⟩
end

/-- What a rule comes to. -/
def OutRl (B : Nat) (w : World) (g gp : Nat) (tl : Value) (ts : List RTok) (s : Bytes) (ds : List Decl) (f : Int) (vr vh vd : Value) (o : Out Unit) (e : Ending) (w' : World) : Prop :=
  e = .returned (.tuple #[]) ∧ Kept (fun b => B ≤ b) w w' ∧ ∃ vm' ms' r' hs' rs', RQ B w' g gp tl ts f vr vh vm' ms' r' vd hs' rs' ∧ Says s r' o ∧ r'.decls = ds ∧
    (∀ st', o = .ok () st' → st'.wrong = none → RMean (fun b => B ≤ b) w' st'.rules ms' vm' ds.length hs' rs')

section
variable {B : Nat} {w : World} {g gp : Nat} {tl : Value} {ts : List RTok} {f : Int} {vr vh vm : Value} {ms : Bool} {r : Raw} {vd : Value} {hs : List Bool} {rs : List Value} {s : Bytes} {st : PS}

set_option maxRecDepth 100000 in
set_option maxHeartbeats 8000000 in
theorem rrule_any (h : RQ B w g gp tl ts f vr vh vm ms r vd hs rs) (hsy : SaysOk s r st) (ht : RToks ts (toks s)) (hl : s.length ≤ 1000) (hk : st.t.kind = kOn) (hd0 : st.depth = 0) (hl0 : st.loops = 0) (hlf : left s st ≤ 701)
    (hm : st.wrong = none → RMean (fun b => B ≤ b) w st.rules ms vm r.decls.length hs rs) :
    Calls Tryz.prog 57 #[.pointer (some ⟨g, 0, none⟩)] w (OutRl B w g gp tl ts s r.decls f vr vh vd (rule s 1500 st)) := by
  obtain ⟨x, hx, hof⟩ := SaysOk.tok hsy ht
  obtain ⟨gt, ct, rfl, h1, h2, h3, h4, h5, t0, t1, t2⟩ := h.rd.at_ hx
  obtain ⟨c0, c1, _⟩ := h.rd.cells
  have hlt := h.rd.row.lt
  have ff := fun j => h.rd.row.frozen j
  have h8 := h.rd.tl
  have hkk : r.k < ts.length := h3
  unfold maxLen at h2
  have hnx : Says s r.nx (Out.ok () (next s st)) := hsy.next (by rw [hk]; decide) (by rw [hk]; decide)
  have hk1 : Kg g w ((w.setCell ⟨g, 1, none⟩ (.int .i64 ((r.k : Int) + 1))).drewN 1) := ((Kept.refl _ w).setCell (p := ⟨g, 1, none⟩) (.inl rfl) _).drewN 1
  have q1 := h.call (r' := r.nx) hk1 ((h.rd.put 1 (.int .i64 ((r.k : Int) + 1)) (r' := r.nx) rfl rfl).drewN 1) rfl
  have htk := rtake_any q1.rd hnx ht (kd := kMiss) (kr := kMiss) (by decide) (by decide) (by decide) (by decide)
  have hpx : x.pos = st.t.pos := hof.2.1
  rw [hpx] at t2
  have HT := Lib.hid ht
  have Q1 := Lib.hid q1
  have HK1 := Lib.hid hk1
  have HTK := Lib.hid htk
  have HP := Lib.hid h
  have HM := Lib.hid hm
  have HST := Lib.hid (And.intro hk (And.intro hd0 (And.intro hl0 (And.intro hlf (And.intro hsy.ok hsy.decls)))))
  have HLL := Lib.hid hl
  generalize hk0 : r.k = kq at *
  generalize hLen : ts.length = LL at *
  clear hx hof hsy hnx hk hk0 hLen h q1 hk1 ht htk hm hd0 hl0 hlf hl hpx
  unfold vs at *
  go_enter Tryz.func57, Tryz.ntmps57
  go_wp2
  go_region
  go_wp2_with fail
  refine HTK.out.mono ?_
  rintro e w1 ⟨rfl, hk1, r1, h1', hs1, hd1⟩
  have q2 := Q1.out.call hk1 h1' hd1
  have hnm := rnamed_any h1' hs1 HT.out false
  have hk2 := Kg.trans HK1.out hk1
  have HNM := Lib.hid hnm
  have Q2 := Lib.hid q2
  have HK2 := Lib.hid hk2
  have HS1 := Lib.hid hs1
  have HD1 := Lib.hid (show r1.decls = r.decls from hd1)
  clear hk1 h1' hs1 hd1 hnm q2 hk2 HTK Q1 HK1 t0 t1 t2 c0 c1 ff
  generalize hb0 : (Out.ok () (next s st)).isB kMiss = b at *
  have HB0 := Lib.hid hb0
  clear hb0
  go_upto_if 27 with fail
  go_cut [4] (fun s4 wx => ∃ (k : Nat) (r2 : Raw), s4 = .int .i64 k ∧ Kg g w wx ∧ RQ B wx g gp (.slice (some ⟨gt, 0, none⟩) LL ct) ts f vr vh vm ms r2 vd hs rs ∧ r2.decls = r.decls ∧ (b = true → Says s r2 (takeO s kMiss (Out.ok () (next s st)))) ∧
    (b = false → Says s r2 (nmO s false (takeO s kMiss (Out.ok () (next s st)))) ∧ ∀ n st1, nmO s false (takeO s kMiss (Out.ok () (next s st))) = .ok n st1 → st1.wrong = none → n = (k : Int)))
  case first =>
    cases b with
    | true =>
      go_wp2
      go_meet
      exact ⟨0, r1, rfl, HK2.out, Q2.out, HD1.out, fun _ => HS1.out, fun e => absurd e (by decide)⟩
    | false =>
      go_wp2_with fail
      refine HNM.out.mono ?_
      rintro e w2 ⟨v, rfl, hk3, hv, r2, h2', hs2, hd2⟩
      have F := Lib.hid (And.intro hk3 (And.intro hv (And.intro h2' (And.intro hs2 hd2))))
      clear hk3 hv h2' hs2 hd2
      go_wp2
      go_meet
      obtain ⟨f1, f2, f3, f4, f5⟩ := F.out
      exact ⟨v, r2, rfl, Kg.trans HK2.out f1, Q2.out.call f1 f3 f5, f5.trans HD1.out, fun e => absurd e (by decide), fun _ => ⟨f4, f2⟩⟩
  case rest =>
    obtain ⟨k, r2, rfl, hk3, q3, hd3, hy, hn⟩ := hcut
    clear HNM Q2 HK2 HS1 HD1
    obtain ⟨av, nv, cv, rfl⟩ := q3.vms
    have H3 := Lib.hid (And.intro hk3 (And.intro hd3 (And.intro hy hn)))
    have Q3 := Lib.hid q3
    have c8 := q3.rd.cells.2.2.2.2.2.2.2.2.1
    have p3 := q3.rd.pol.cell 3
    have p5 := q3.rd.pol.cell 5
    simp at p3 p5
    have hhl := q3.ru.hl
    have hru := q3.ru
    obtain ⟨⟨ah, ch, rfl⟩, _⟩ := hru.len_form
    have h64 : r2.decls.length ≤ 1000 := q3.rd.dl
    go_upto_region 6 with fail
    go_cut [67] (fun s67 wx => s67 = .bool (if b then ms else hs.getD k false) ∧ ∃ q, wx = wc.drewN q)
    case first =>
      cases b with
      | true =>
        clear hru hhl hy hn hk3 q3 hd3
        cases ms
        all_goals
          go_wp2
          go_meet
          exact ⟨rfl, 0, rfl⟩
      | false =>
        by_cases hkn : k < r2.decls.length
        · obtain ⟨gh, ch', bv, e, h9, h10, hb, hcell, hlth⟩ := hru.has_at hkn
          injection e with e1 e2 e3
          subst e1 e3
          have HG := Lib.hid (show hs.getD k false = bv by rw [List.getD, hb]; rfl)
          have e9 : decide ((k : Int) < (r2.decls.length : Int)) = true := by simp; omega
          clear hru hhl hy hn hk3 q3 hd3 hb
          unfold maxLen at h10
          generalize r2.decls.length = nn at *
          cases bv
          all_goals
            go_wp2
            go_meet
            rw [HG.out]
            exact ⟨rfl, 0, rfl⟩
        · have HG := Lib.hid (show hs.getD k false = false by rw [List.getD, List.getElem?_eq_none (by omega)]; rfl)
          have e9 : decide ((k : Int) < (r2.decls.length : Int)) = false := by simp; omega
          clear hru hhl hy hn hk3 q3 hd3
          generalize r2.decls.length = nn at *
          go_wp2
          go_meet
          rw [HG.out]
          exact ⟨rfl, 0, rfl⟩
    case rest =>
      obtain ⟨rfl, q, rfl⟩ := hcut
      clear hru hhl hk3 q3 c8 p3 p5
      have hnt1 := fun (hb : b = true) => rnote_any (e := eRule) (Q3.out.rd.drewN q) (hy hb) (by decide) st.t.pos
      have hnt2 := fun (hb : b = false) => rnote_any (e := eRule) (Q3.out.rd.drewN q) (hn hb).1 (by decide) st.t.pos
      have hmm : ∀ hit : Bool, b = true → hit = ms → st.wrong = none → hit = (ruleOf st.rules (-1)).isSome := fun hit _ e hw => by rw [e]; exact (HM.out hw).ms
      have HNT1 := Lib.hid hnt1
      have HD3 := Lib.hid hd3
      have HNT2 := Lib.hid hnt2
      have HMM := Lib.hid hmm
      clear hnt1 hnt2 hmm hy hn hd3
      go_upto_if 67 with fail
      go_cut [] (fun wx => Kg g w wx ∧ ∃ r4, RQ B wx g gp (.slice (some ⟨gt, 0, none⟩) LL ct) ts f vr (.slice ah r2.decls.length ch) (.slice av nv cv) ms r4 vd hs rs ∧ r4.decls = r.decls ∧ Says s r4 (headO s st) ∧ HeadK s st b k)
      case first =>
        have hfin : ∀ (hit : Bool), hit = (if b then ms else hs.getD k false) → ∀ r4, (hit = true → b = true → Says s r4 (noteO eRule st.t.pos (takeO s kMiss (Out.ok () (next s st))))) → (hit = true → b = false → Says s r4 (noteO eRule st.t.pos (nmO s false (takeO s kMiss (Out.ok () (next s st))))))
            → (hit = false → b = true → Says s r4 (takeO s kMiss (Out.ok () (next s st)))) → (hit = false → b = false → Says s r4 (nmO s false (takeO s kMiss (Out.ok () (next s st))))) → Says s r4 (headO s st) ∧ HeadK s st b k := by
          intro hit hhit r4 g1 g2 g3 g4
          obtain ⟨-, -, -, -, hok, hdc⟩ := HST.out
          cases b with
          | true =>
            have hkm : (next s st).t.kind = kMiss := by simpa [Out.isB] using HB0.out
            exact head_miss hkm (fun hw => HMM.out hit rfl hhit hw) (fun e => g1 e rfl) (fun e => g3 e rfl)
          | false =>
            have hkm : ¬ (next s st).t.kind = kMiss := by simpa [Out.isB] using HB0.out
            have e0 : nmO s false (takeO s kMiss (Out.ok () (next s st))) = nmO s false (Out.ok () (next s st)) := by rw [takeO_no HB0.out, nmO_unit]
            obtain ⟨-, -, -, hn⟩ := H3.out
            obtain ⟨-, hn2⟩ := hn rfl
            rw [e0] at hn2 g2 g4
            refine head_name hkm hn2 hok (fun hw n st1 e1 hw1 => ?_) (fun e => g2 e rfl) (fun e => g4 e rfl)
            have hix := ((name_ok (next_ok hok) (show name s false (next s st) = .ok n st1 from e1)).2.2 hw1).1
            have hv := hn2 n st1 e1 hw1
            have hkn : k < r.decls.length := by
              rw [hdc]
              have := hix.2
              have : (next s st).decls = st.decls := rfl
              rw [this] at hix
              have := hix.2
              omega
            have hx := (HM.out hw).hs k hkn
            rw [hhit]
            simp only [Bool.false_eq_true, if_false]
            rw [List.getD, hx]
            rfl
        have HFIN := Lib.hid hfin
        clear hfin
        obtain ⟨hit, hhit⟩ : ∃ hit, hit = (if b then ms else hs.getD k false) := ⟨_, rfl⟩
        have HH := Lib.hid hhit
        rw [← hhit]
        clear hhit
        cases hit with
        | true =>
          have hcall : Calls Tryz.prog 86 #[.pointer (some ⟨g, 0, none⟩), .int .i64 8, .int .i64 st.t.pos] (wc.drewN q) (fun e w' => e = .returned (.tuple #[]) ∧ Kg g (wc.drewN q) w' ∧ ∃ r', RRd w' g gp (.slice (some ⟨gt, 0, none⟩) LL ct) ts [vd, .int .i64 f, vr, .slice ah r2.decls.length ch, .slice av nv cv, .bool ms] r' ∧ (Says s r' (headO s st) ∧ HeadK s st b k) ∧ r'.decls = r2.decls) := by
            cases hb : b with
            | true =>
              refine (HNT1.out hb).mono ?_
              rintro e w' ⟨h1, h2, r', h3, h4, h5⟩
              refine ⟨h1, h2, r', h3, ?_, h5⟩
              rw [← hb]
              exact HFIN.out true HH.out r' (fun _ _ => h4) (fun _ e => by rw [hb] at e; cases e) (fun e => by cases e) (fun e => by cases e)
            | false =>
              refine (HNT2.out hb).mono ?_
              rintro e w' ⟨h1, h2, r', h3, h4, h5⟩
              refine ⟨h1, h2, r', h3, ?_, h5⟩
              rw [← hb]
              exact HFIN.out true HH.out r' (fun _ e => by rw [hb] at e; cases e) (fun _ _ => h4) (fun e => by cases e) (fun e => by cases e)
          have HC := Lib.hid hcall
          clear hcall HNT1 HNT2
          go_wp2_with fail
          refine HC.out.mono ?_
          rintro e w4 ⟨rfl, hk4, r4, h4, hs4, hd4⟩
          have F := Lib.hid (And.intro hk4 (And.intro h4 (And.intro hs4 hd4)))
          clear hk4 h4 hs4 hd4
          go_wp2
          go_meet
          obtain ⟨f1, f2, f3, f4⟩ := F.out
          obtain ⟨g1, g2, _⟩ := H3.out
          exact ⟨Kg.trans (g1.drewN q) f1, r4, Q3.out.call (Kg.trans ((Kept.refl _ wc).drewN q) f1) f2 f4, f4.trans g2, f3.1, f3.2⟩
        | false =>
          clear HNT1 HNT2
          go_wp2
          go_meet
          obtain ⟨g1, g2, g3, g4⟩ := H3.out
          have hsx := HFIN.out false HH.out r2 (fun e => by cases e) (fun e => by cases e) (fun _ e => g3 e) (fun _ e => (g4 e).1)
          exact ⟨g1.drewN q, r2, Q3.out.call ((Kept.refl _ wc).drewN q) (Q3.out.rd.drewN q) rfl, g2, hsx.1, hsx.2⟩
      case rest =>
        obtain ⟨hk4, r4, q4, hd4, hs4, hhk⟩ := hcut
        clear HNT1 HNT2 HMM H3 Q3
        have hbk := (rblock_all (g := g) (gp := gp) (tl := .slice (some ⟨gt, 0, none⟩) LL ct) (ts := ts) (pc := [vd, .int .i64 f, vr, .slice ah r2.decls.length ch, .slice av nv cv, .bool ms]) HT.out HLL.out 1500).1 (headO s st) wc r4 q4.rd hs4 (fun st' e => by
          obtain ⟨hk, hd, hl, hlf, hok, hdc⟩ := HST.out
          obtain ⟨k', st1, e1, e2⟩ := bind_ok (show (ruleHead s st).bind _ = Out.ok () st' from e)
          injection e2 with _ e2
          obtain ⟨f1, l1, _⟩ := ruleHead_mid hok hk e1
          subst e2
          have := f1.depth
          have := f1.loops
          omega)
        rw [hd4] at hbk
        have HBK := Lib.hid hbk
        have Q4 := Lib.hid q4
        have H4 := Lib.hid (And.intro hk4 (And.intro hd4 (And.intro hs4 hhk)))
        clear hbk hk4 q4 hd4 hs4 hhk
        go_wp2_with fail
        refine HBK.out.mono ?_
        rintro e w5 ⟨a5, n5, c5, rfl, hk5, hb5, r5, h5', hs5, hd5⟩
        have q5 := Q4.out.call hk5 h5' (hd5.trans H4.out.2.1.symm)
        have hsz := Q4.out.sz
        have hk45 := kg_up (Kg.trans H4.out.1 hk5) HP.out.g0 HP.out.sz
        have hsr : Says s r5 (rule s 1500 st) := rule_says (o := headO s st) rfl hs5
        have hmean : ∀ st', rule s 1500 st = .ok () st' → st'.wrong = none → ∃ bk, RBlkV (fun x => B ≤ x) w5 (.slice a5 n5 c5) bk ∧ st'.rules = st.rules ++ [(if b then -1 else (k : Int), bk)] ∧ ruleOf st.rules (if b then -1 else (k : Int)) = none ∧ RMean (fun x => B ≤ x) w5 st.rules ms (.slice av nv cv) r.decls.length hs rs := by
          intro st' e hw
          obtain ⟨hk, hd, hl, hlf, hok, hdc⟩ := HST.out
          obtain ⟨k', st1, bk, st2, e1, e2, w1, w2, e3, e4, e5⟩ := rrule_ok hok hk (by omega) (by omega) e hw
          have hkk := H4.out.2.2.2 k' st1 e1 w1
          subst hkk
          have hho : blockO s 1500 (headO s st) = .ok bk st2 := by
            unfold headO blockO
            rw [e1]
            exact e2
          exact ⟨bk, (hb5 bk st2 hho w2).mono (fun x _ hx => Nat.le_trans hsz hx), e4, e3, ((HM.out e5).kg H4.out.1 HP.out.rd.row).kg hk5 Q4.out.rd.row⟩
        have Q5 := Lib.hid q5
        have HK45 := Lib.hid hk45
        have HSR := Lib.hid hsr
        have HMEAN := Lib.hid hmean
        have HD5 := Lib.hid (show r5.decls = r.decls from hd5)
        have c8 := q5.rd.cells.2.2.2.2.2.2.2.2.1
        have pf := fun j => q5.rd.pol.frozen j
        have pl := q5.rd.pol.lt
        have p2 := q5.rd.pol.cell 2
        have p3 := q5.rd.pol.cell 3
        have p4 := q5.rd.pol.cell 4
        have p5 := q5.rd.pol.cell 5
        have hgg : ¬ g = gp := fun e => q5.rd.pol.ne_ q5.rd.row (by decide) e.symm
        have hgg2 : ¬ gp = g := fun e => hgg e.symm
        simp at p2 p3 p4 p5
        clear HBK hk5 hb5 h5' hs5 hd5 q5 hsz hk45 hsr hmean
        cases b with
        | true =>
          go_wp2
          go_end0
          have hq := (Q5.out.setPol 5 (.bool true) (vm' := .slice av nv cv) (ms' := true) rfl ⟨_, _, _, rfl⟩).setPol 4 (.slice a5 n5 c5) (vm' := .slice a5 n5 c5) (ms' := true) rfl ⟨_, _, _, rfl⟩
          have hkp : Kept (fun x => B ≤ x) w5 ((w5.setCell ⟨gp, 5, none⟩ (.bool true)).setCell ⟨gp, 4, none⟩ (.slice a5 n5 c5)) := ((Kept.refl _ w5).setCell (p := ⟨gp, 5, none⟩) Q5.out.p0 _).setCell (p := ⟨gp, 4, none⟩) Q5.out.p0 _
          refine ⟨rfl, HK45.out.trans hkp, .slice a5 n5 c5, true, r5, hs, rs, hq, HSR.out, HD5.out, fun st' e hw => ?_⟩
          obtain ⟨bk, m1, m2, m3, m4⟩ := HMEAN.out st' e hw
          rw [m2]
          have hkk : ∀ x cs, B ≤ x → Row w5 x 155 cs → ((w5.setCell ⟨gp, 5, none⟩ (.bool true)).setCell ⟨gp, 4, none⟩ (.slice a5 n5 c5)).heap[x]? = w5.heap[x]? := fun x cs _ hr => by
            have hne : x ≠ gp := hr.ne_ Q5.out.rd.pol (by decide)
            rw [Below.heap_setCell _ _ _ _ hne, Below.heap_setCell _ _ _ _ hne]
          exact (m4.setMiss m3 m1).kept hkk
        | false =>
          have hlen : r2.decls.length = r5.decls.length := by rw [HD3.out, HD5.out]
          by_cases hkn : k < r5.decls.length
          · have e9 : decide ((k : Int) < (r2.decls.length : Int)) = true := by simp; omega
            obtain ⟨gh, ch', eh, _, h9, h10, hlth⟩ := Q5.out.ru.has.form (by omega)
            obtain ⟨gr, cr, er, _, h11, h12, hltr⟩ := Q5.out.ru.rul.form (by omega)
            have hhas := Q5.out.ru.has
            have hrul := Q5.out.ru.rul
            obtain ⟨csh, rowh⟩ := hhas.row (g := gh) (by rw [eh]; rfl)
            obtain ⟨csr, rowr⟩ := hrul.row (g := gr) (by rw [er]; rfl)
            have n1 : ¬ g = gh := fun e => rowh.ne_ Q5.out.rd.row (by decide) e.symm
            have n2 : ¬ gp = gh := fun e => rowh.ne_ Q5.out.rd.pol (by decide) e.symm
            have n3 : ¬ gr = gh := fun e => rowh.ne_ rowr (by decide) e.symm
            have n4 : ¬ gh = gr := fun e => n3 e.symm
            have hl1 := Q5.out.ru.hl
            have hl2 := Q5.out.ru.rl
            have f1 := fun j => rowh.frozen j
            have f2 := fun j => rowr.frozen j
            have d1 : w5.cell? ⟨gh, k, none⟩ = some (.bool (hs.getD k false)) := by
              rw [eh] at hhas
              have := hhas.1.cellAt k (by omega)
              rw [List.getElem?_map] at this
              rw [this, List.getD, List.getElem?_eq_getElem (by omega)]
              rfl
            have d2 : ∃ v, w5.cell? ⟨gr, k, none⟩ = some v := by
              rw [er] at hrul
              have := hrul.1.cellAt k (by omega)
              rw [List.getElem?_eq_getElem (by omega)] at this
              exact ⟨_, this⟩
            obtain ⟨v0, d2⟩ := d2
            have eh2 : Value.slice ah r2.decls.length ch = .slice (some ⟨gh, 0, none⟩) r5.decls.length ch' := eh
            injection eh2 with y1 y2 y3
            subst y1 y3
            subst er
            have hq1 := Q5.out.setHas (k := k) (gh := gh) (ch := ch) (by rw [hlen])
            have hq2 := hq1.1.setRul (k := k) (gr := gr) (cr := cr) rfl (v := .slice a5 n5 c5) ⟨_, _, _, rfl⟩
            have HQ1 := Lib.hid hq1
            have HQ2 := Lib.hid hq2
            have HROW := Lib.hid (And.intro rowh rowr)
            have HL12 := Lib.hid (And.intro hl1 hl2)
            unfold maxLen at h10 h12
            clear hq1 hq2 hhas hrul rowh rowr hl1 hl2 eh
            rw [← hlen] at p2 h11 h9 hkn
            generalize hnn : r2.decls.length = nn at *
            have HNN := Lib.hid hnn
            clear hnn
            have HLEN := Lib.hid hlen
            clear hlen
            go_wp2
            go_end0
            refine ⟨rfl, HK45.out.trans (HQ1.out.2.2.trans HQ2.out.2.2), .slice av nv cv, ms, r5, _, _, HQ2.out.1, HSR.out, HD5.out, fun st' e hw => ?_⟩
            obtain ⟨bk, m1, m2, m3, m4⟩ := HMEAN.out st' e hw
            rw [m2]
            have hkk : ∀ x cs, B ≤ x → Row w5 x 155 cs → ((w5.setCell ⟨gh, k, none⟩ (.bool true)).setCell ⟨gr, k, none⟩ (.slice a5 n5 c5)).heap[x]? = w5.heap[x]? := fun x cs _ hr => by
              have hne : x ≠ gh := hr.ne_ HROW.out.1 (by decide)
              have hne2 : x ≠ gr := hr.ne_ HROW.out.2 (by decide)
              rw [Below.heap_setCell _ _ _ _ hne2, Below.heap_setCell _ _ _ _ hne]
            have hx := HL12.out.1
            have hy := HL12.out.2
            rw [HD5.out] at hx hy
            exact (m4.setRule m3 m1 hx hy).kept hkk
          · have e9 : decide ((k : Int) < (r2.decls.length : Int)) = false := by simp; omega
            have HKN := Lib.hid (show ¬ k < r.decls.length by rw [← HD5.out]; exact hkn)
            have hle : r2.decls.length ≤ k := by omega
            clear hkn hlen
            generalize hnn : r2.decls.length = nn at *
            go_wp2
            go_end0
            refine ⟨rfl, HK45.out, .slice av nv cv, ms, r5, hs, rs, Q5.out, HSR.out, HD5.out, fun st' e hw => ?_⟩
            obtain ⟨bk, m1, m2, m3, m4⟩ := HMEAN.out st' e hw
            simp only [Bool.false_eq_true, if_false] at m2 m3
            rw [m2]
            have e2 : ∀ j : Nat, j < r.decls.length → ruleOf (st.rules ++ [((k : Int), bk)]) (j : Int) = ruleOf st.rules (j : Int) := fun j hj => by
              rw [ruleOf_snoc _ _ _ _ m3, if_neg (by have := HKN.out; omega)]
            have e1 : missOf (st.rules ++ [((k : Int), bk)]) = missOf st.rules := by unfold missOf; rw [ruleOf_snoc _ _ _ _ m3, if_neg (by omega)]
            exact ⟨by rw [e1]; exact m4.ms, by rw [e1]; exact m4.vm, fun j hj => by rw [e2 j hj]; exact m4.hs j hj, fun j hj => by rw [e2 j hj]; exact m4.rs j hj⟩
end
end Go.Proofs.YtemppijblfflgabGreatDoor.Ev
namespace Go.Proofs.YtemppijblfflgabGreatDoor.Ev

def rfinal (x : RTok) : Bool := x.is == kNone || x.is == kEnd
def rtoksFrom (s : Bytes) : Nat → Nat → List RTok
  | 0, _ => []
  | n + 1, i => if rfinal (rlex s i).1 then [(rlex s i).1] else (rlex s i).1 :: rtoksFrom s n (rlex s i).2

theorem rKind_end {k : Bytes} : (rKind k == kEnd) = (k == kEnd) := by
  unfold rKind
  split
  · rename_i h; subst h; decide
  · rfl
theorem rKind_none {k : Bytes} : (rKind k == kNone) = (k == kNone) := by
  unfold rKind
  split
  · rename_i h; subst h; decide
  · rfl
theorem rfinal_eq {x : RTok} {t : Tok} (h : x.Of t) : rfinal x = final t := by
  unfold rfinal final
  rw [h.1, rKind_end, rKind_none, Bool.or_comm]
theorem rtoks_toks (s : Bytes) : ∀ (n i : Nat), RToks (rtoksFrom s n i) (toksFrom s n i)
  | 0, _ => trivial
  | n + 1, i => by
    obtain ⟨h1, h2⟩ := rlex_lex s i
    unfold rtoksFrom toksFrom
    rw [rfinal_eq h1]
    cases hf : final (lex s i).1 with
    | true => exact ⟨h1, trivial⟩
    | false =>
      simp only [Bool.false_eq_true, if_false]
      rw [h2 hf]
      exact ⟨h1, rtoks_toks s n _⟩
/-- The tokens of a text. -/
def rtoks (s : Bytes) : List RTok := rtoksFrom s (s.length + 1) 0
theorem rtoks_ok (s : Bytes) : RToks (rtoks s) (toks s) := rtoks_toks s _ _
theorem rtoks_len (s : Bytes) : (rtoks s).length ≤ s.length + 1 := by rw [(rtoks_ok s).len]; exact toks_len s
/-- A token has been read, and is not the last. -/
theorem rlex_on (s : Bytes) (i : Nat) (h : i ≤ s.length) (hf : rfinal (rlex s i).1 = false) : i < (rlex s i).2 ∧ (rlex s i).2 ≤ s.length := by
  obtain ⟨h1, h2⟩ := rlex_lex s i
  rw [rfinal_eq h1] at hf
  rw [h2 hf]
  obtain ⟨a, b, c, d⟩ := lex_facts s i h
  obtain ⟨e1, e2⟩ := final_no hf
  have := d e1 e2
  omega
/-- Where a token ends that begins at p; what it is. -/
def tokEnd (s : Bytes) (p : Nat) : Nat :=
  match s[p]? with
  | none => p
  | some c => if low c then skip low s p else if fig c then skip fig s p else if punct c then p + 1 else p
def tokIs (s : Bytes) (p : Nat) : Bytes :=
  match s[p]? with
  | none => kEnd
  | some c =>
    if low c then (if 8 < skip low s p - p then kNone else if keywords.contains (piece s p (skip low s p)) then piece s p (skip low s p) else kName)
    else if fig c then (if 3 < skip fig s p - p then kNone else kNum)
    else if punct c then [c] else kNone
theorem piece_same (s : Bytes) (p : Nat) : piece s p p = [] := by
  unfold piece
  exact List.drop_eq_nil_of_le (by simp; omega)
theorem piece_one {s : Bytes} {p : Nat} {c : UInt8} (h : s[p]? = some c) : piece s p (p + 1) = [c] := by
  obtain ⟨hp, hc⟩ := List.getElem?_eq_some_iff.1 h
  unfold piece
  rw [List.drop_take, Nat.add_sub_cancel_left, List.drop_eq_getElem_cons hp, hc]
  rfl
theorem rlex_eq (s : Bytes) (i : Nat) : rlex s i = (⟨tokIs s (skip blank s i), piece s (skip blank s i) (tokEnd s (skip blank s i)), skip blank s i⟩, tokEnd s (skip blank s i)) := by
  unfold rlex tokIs tokEnd
  simp only
  generalize skip blank s i = p
  cases hc : s[p]? with
  | none => simp only [piece_same]
  | some c =>
    simp only
    cases hl : low c with
    | true =>
      simp only [if_true]
      split <;> rfl
    | false =>
      simp only [Bool.false_eq_true, if_false]
      cases hf : fig c with
      | true =>
        simp only [if_true]
        split <;> rfl
      | false =>
        simp only [Bool.false_eq_true, if_false]
        cases hp : punct c with
        | true => simp only [if_true, piece_one hc]
        | false => simp only [Bool.false_eq_true, if_false, piece_same]
theorem tokIs_none {s : Bytes} {p : Nat} (h : s[p]? = none) : tokIs s p = kEnd ∧ tokEnd s p = p := by
  unfold tokIs tokEnd; rw [h]; exact ⟨rfl, rfl⟩
theorem tokIs_low {s : Bytes} {p : Nat} {c : UInt8} (h : s[p]? = some c) (hl : low c = true) : tokIs s p = (if 8 < skip low s p - p then kNone else if keywords.contains (piece s p (skip low s p)) then piece s p (skip low s p) else kName) ∧ tokEnd s p = skip low s p := by
  unfold tokIs tokEnd; rw [h]; simp only [hl, if_true]; exact ⟨trivial, trivial⟩
theorem tokIs_fig {s : Bytes} {p : Nat} {c : UInt8} (h : s[p]? = some c) (hl : low c = false) (hf : fig c = true) : tokIs s p = (if 3 < skip fig s p - p then kNone else kNum) ∧ tokEnd s p = skip fig s p := by
  unfold tokIs tokEnd; rw [h]; simp only [hl, hf, if_true, Bool.false_eq_true, if_false]; exact ⟨trivial, trivial⟩
theorem tokIs_punct {s : Bytes} {p : Nat} {c : UInt8} (h : s[p]? = some c) (hl : low c = false) (hf : fig c = false) (hp : punct c = true) : tokIs s p = [c] ∧ tokEnd s p = p + 1 := by
  unfold tokIs tokEnd; rw [h]; simp only [hl, hf, hp, if_true, Bool.false_eq_true, if_false]; exact ⟨trivial, trivial⟩
theorem tokIs_no {s : Bytes} {p : Nat} {c : UInt8} (h : s[p]? = some c) (hl : low c = false) (hf : fig c = false) (hp : punct c = false) : tokIs s p = kNone ∧ tokEnd s p = p := by
  unfold tokIs tokEnd; rw [h]; simp only [hl, hf, hp, Bool.false_eq_true, if_false]; exact ⟨trivial, trivial⟩
end Go.Proofs.YtemppijblfflgabGreatDoor.Ev
