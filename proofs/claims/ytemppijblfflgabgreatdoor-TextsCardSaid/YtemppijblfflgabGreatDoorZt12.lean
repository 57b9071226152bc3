/- The document's answer: its reader's plain statements. Printed by a program of ours (genrstmt.py). The document's answer: its reader: the declaration of freq. Conditions: none. -/
import Derived.Test.YtemppijblfflgabGreatDoorZt11
set_option linter.all false
namespace Go.Proofs.YtemppijblfflgabGreatDoor.Ev
open Go Go.RowKit

theorem sizeRStmt (w : World) : (Go.sizeOf 155).run Tryz.prog w = .ok 14 w := by kernel_rfl
theorem aggRStmt (w : World) : (isAgg 155).run Tryz.prog w = .ok true w := by kernel_rfl
theorem cells14 {w : World} {C : Nat} {t : TypeId} {d0 d1 d2 d3 d4 d5 d6 d7 d8 d9 d10 d11 d12 d13 : Value} (h : Row w C t [d0, d1, d2, d3, d4, d5, d6, d7, d8, d9, d10, d11, d12, d13]) :
    w.cell? ⟨C, 0, none⟩ = some d0 ∧ w.cell? ⟨C, 1, none⟩ = some d1 ∧ w.cell? ⟨C, 2, none⟩ = some d2 ∧ w.cell? ⟨C, 3, none⟩ = some d3 ∧ w.cell? ⟨C, 4, none⟩ = some d4 ∧ w.cell? ⟨C, 5, none⟩ = some d5 ∧ w.cell? ⟨C, 6, none⟩ = some d6 ∧
    w.cell? ⟨C, 7, none⟩ = some d7 ∧ w.cell? ⟨C, 8, none⟩ = some d8 ∧ w.cell? ⟨C, 9, none⟩ = some d9 ∧ w.cell? ⟨C, 10, none⟩ = some d10 ∧ w.cell? ⟨C, 11, none⟩ = some d11 ∧ w.cell? ⟨C, 12, none⟩ = some d12 ∧ w.cell? ⟨C, 13, none⟩ = some d13 :=
  ⟨h.cell 0, h.cell 1, h.cell 2, h.cell 3, h.cell 4, h.cell 5, h.cell 6, h.cell 7, h.cell 8, h.cell 9, h.cell 10, h.cell 11, h.cell 12, h.cell 13⟩
abbrev zeros14 : List Value := [vs [], .int .i64 0, .int .i64 0, .bool false, vs [], .int .i64 0, vs [], .int .i64 0, vs [], .int .i64 0, .int .i64 0, .slice none 0 0, .slice none 0 0, .bool false]
abbrev copied14 (w : World) (R : Nat) (d0 d1 d2 d3 d4 d5 d6 d7 d8 d9 d10 d11 d12 d13 : Value) : World :=
  (((((((((((((w.setCell ⟨R, 0, none⟩ d0).setCell ⟨R, 1, none⟩ d1).setCell ⟨R, 2, none⟩ d2).setCell ⟨R, 3, none⟩ d3).setCell ⟨R, 4, none⟩ d4).setCell ⟨R, 5, none⟩ d5).setCell ⟨R, 6, none⟩ d6).setCell ⟨R, 7, none⟩ d7).setCell ⟨R, 8, none⟩ d8).setCell ⟨R, 9, none⟩ d9).setCell ⟨R, 10, none⟩ d10).setCell ⟨R, 11, none⟩ d11).setCell ⟨R, 12, none⟩ d12).setCell ⟨R, 13, none⟩ d13

/-- The reader, a token on. -/
abbrev Raw.nx (r : Raw) : Raw := { r with k := r.k + 1 }
def unitO {α : Type} (o : Out α) : Out Unit := o.bind fun _ st => .ok () st
theorem Says.of_unit {α β : Type} {s : Bytes} {r : Raw} {o : Out α} {o' : Out β} (h : Says s r o) (e : unitO o' = unitO o) : Says s r o' := by
  cases o with
  | bad k p =>
    cases o' with
    | bad k' p' => injection e with e1 e2; subst e1 e2; exact h
    | ok a st => cases e
  | ok a st =>
    cases o' with
    | bad k' p' => cases e
    | ok a' st' => injection e with _ e2; subst e2; exact h
theorem take_isB {α : Type} (s k : Bytes) (a : α) (st : PS) : (take s k st).1 = (Out.ok a st).isB k := by
  unfold take Out.isB
  by_cases h : st.t.kind = k
  · rw [if_pos h]; simp [h]
  · rw [if_neg h]; simp [h]
theorem take_wrong (s k : Bytes) (st : PS) : (take s k st).2.wrong = st.wrong := by
  unfold take; split <;> rfl

section
variable {w w0 : World} {g gp : Nat} {tl : Value} {ts : List RTok} {pc : List Value} {r : Raw} {s : Bytes} {st : PS} {C D : Nat} {ty : TypeId} {ds : List Value}

theorem RH.start_ (hk : Kg g w0 w) (h : RRd w g gp tl ts pc r) (ht : TyOk ty) (cs : List Value) (hC : C = w.heap.size) : RH w0 (w.alloc (.cells cs.toArray ty)) g gp tl ts pc r ty C cs :=
  ⟨hk.alloc (.inr hk.size) _, h.alloc _, by rw [hC]; exact Row.new w ty cs, by rw [hC]; exact hk.size, ht⟩
theorem RH2.start_ {cs : List Value} (h : RH w0 w g gp tl ts pc r ty C cs) (ds : List Value) (hD : D = w.heap.size) : RH2 w0 (w.alloc (.cells ds.toArray ty)) g gp tl ts pc r ty C cs D ds :=
  ⟨h.alloc _, by rw [hD]; exact Row.new w ty ds, by rw [hD]; exact h.kg.size, by have := h.row.lt; omega⟩
theorem RH2.copy14 (h : RH2 w0 w g gp tl ts pc r ty C zeros14 D ds) (d0 d1 d2 d3 d4 d5 d6 d7 d8 d9 d10 d11 d12 d13 : Value) :
    RH2 w0 (copied14 w C d0 d1 d2 d3 d4 d5 d6 d7 d8 d9 d10 d11 d12 d13) g gp tl ts pc r ty C [d0, d1, d2, d3, d4, d5, d6, d7, d8, d9, d10, d11, d12, d13] D ds :=
  (((((((((((((h.set_ 0 d0).set_ 1 d1).set_ 2 d2).set_ 3 d3).set_ 4 d4).set_ 5 d5).set_ 6 d6).set_ 7 d7).set_ 8 d8).set_ 9 d9).set_ 10 d10).set_ 11 d11).set_ 12 d12).set_ 13 d13

set_option maxRecDepth 100000 in
set_option maxHeartbeats 4000000 in
theorem rstmt_put (h : RRd w g gp tl ts pc r) (hs : SaysOk s r st) (ht : RToks ts (toks s)) (hk : st.t.kind = kPut) :
    Calls Tryz.prog 124 #[.pointer (some ⟨g, 0, none⟩)] w (OutSt w g gp tl ts pc s r.decls ((name s false (next s st)).bind fun q st => (want s kSemi (take s kTail st).2).bind fun _ st_ => .ok (.prim (.put q (take s kTail st).1) .nil) st_)) := by
  obtain ⟨x, hx, hof⟩ := SaysOk.tok hs ht
  obtain ⟨gt, ct, rfl, h1, h2, h3, h4, h5, t0, t1, t2⟩ := h.at_ hx
  have hxi : x.is = kPut := by rw [hof.1, hk]; decide
  rw [hxi] at t0
  obtain ⟨c0, c1, _⟩ := h.cells
  have hlt := h.row.lt
  have ff := fun j => h.row.frozen j
  have h8 := h.tl
  have hkk : r.k < ts.length := h3
  unfold maxLen at h2
  have hkp : Kg g w (w.setCell ⟨g, 1, none⟩ (.int .i64 ((r.k : Int) + 1))) := (Kept.refl _ w).setCell (p := ⟨g, 1, none⟩) (.inl rfl) _
  have q1 := (RH2.start_ (D := w.heap.size + 1) (RH.start_ (C := w.heap.size) (ty := 155) hkp (h.put 1 (.int .i64 ((r.k : Int) + 1)) (r' := r.nx) rfl rfl) (by decide) zeros14 (by simp)) [vs kPut, .int .i64 0, .int .i64 0, .bool false, vs [], .int .i64 0, vs [], .int .i64 0, vs [], .int .i64 0, .int .i64 0, .slice none 0 0, .slice none 0 0, .bool false] (by simp)).drewN 1
  have hnx : Says s r.nx (Out.ok () (next s st)) := SaysOk.next hs (by rw [hk]; decide) (by rw [hk]; decide)
  have hok : (next s st).Ok s := next_ok (SaysOk.ok hs)
  have HT := Lib.hid ht
  have HOK := Lib.hid hok
  have hc1 := rnamed_any q1.rd hnx HT.out false
  have HC1 := Lib.hid hc1
  have Q1 := Lib.hid q1
  generalize hk0 : r.k = kq at *
  generalize hLL : ts.length = LL at *
  clear hx hof hs hnx hok hxi hk hk0 hLL h q1 hc1 ht t1 t2 hkp
  unfold vs at *
  go_enter Tryz.func124, Tryz.ntmps124
  go_wp2
  go_region
  go_wp2_with fail
  refine HC1.out.mono ?_
  rintro e w1 ⟨v1, rfl, hk1, hv1, r1, h1', hs1, hd1⟩
  have HV1 := Lib.hid hv1
  clear hv1
  have p1 := Q1.out.call hk1 h1'
  obtain ⟨e0, e1, e2, e3, e4, e5, e6, e7, e8, e9, e10, e11, e12, e13⟩ := cells14 p1.row2
  have z := fun j => p1.row2.frozen j
  have q2 := p1.set2 1 (.int .i64 v1)
  have hc2 := rtake_any q2.rd hs1 HT.out (kd := kTail) (kr := kTail) (by decide) (by decide) (by decide) (by decide)
  rw [hd1] at hc2
  have HC2 := Lib.hid hc2
  have Q2 := Lib.hid q2
  clear q2 hc2 hk1 h1' hs1 hd1 p1
  unfold vs at *
  go_wp2_with fail
  clear e0 e1 e2 e3 e4 e5 e6 e7 e8 e9 e10 e11 e12 e13 z
  refine HC2.out.mono ?_
  rintro e w2 ⟨rfl, hk2, r2, h2', hs2, hd2⟩
  have p2 := Q2.out.call hk2 h2'
  obtain ⟨e0, e1, e2, e3, e4, e5, e6, e7, e8, e9, e10, e11, e12, e13⟩ := cells14 p2.row2
  have z := fun j => p2.row2.frozen j
  have q3 := p2.set2 3 (.bool ((nmO s false (Out.ok () (next s st))).isB kTail))
  have hd2 := hd2
  have hc3 := rneed_any q3.rd hs2 HT.out (kd := kSemi) (kr := kSemi) (by decide) (by decide) (by decide) (by decide)
  rw [hd2] at hc3
  have HC3 := Lib.hid hc3
  have Q3 := Lib.hid q3
  clear q3 hc3 hk2 h2' hs2 hd2 p2
  unfold vs at *
  go_wp2_with fail
  clear e0 e1 e2 e3 e4 e5 e6 e7 e8 e9 e10 e11 e12 e13 z
  refine HC3.out.mono ?_
  rintro e w3 ⟨x9, rfl, hk3, _, r3, h3', hs3, hd3⟩
  have p3 := Q3.out.call hk3 h3'
  obtain ⟨e0, e1, e2, e3, e4, e5, e6, e7, e8, e9, e10, e11, e12, e13⟩ := cells14 p3.row2
  have z := fun j => p3.row2.frozen j
  obtain ⟨f0, f1, f2, f3, f4, f5, f6, f7, f8, f9, f10, f11, f12, f13⟩ := cells14 p3.row
  have y := fun j => p3.row.frozen j
  have hne : ¬ w.heap.size = w.heap.size + 1 := by omega
  have q9 := p3.copy14 (vs kPut) (.int .i64 v1) (.int .i64 0) (.bool ((nmO s false (Out.ok () (next s st))).isB kTail)) (vs []) (.int .i64 0) (vs []) (.int .i64 0) (vs []) (.int .i64 0) (.int .i64 0) (.slice none 0 0) (.slice none 0 0) (.bool false)
  have Q9 := Lib.hid q9
  have zW0 := Lib.hid hs3
  have FD := Lib.hid hd3
  clear p3 q9 hk3 h3' hs3 hd3
  unfold encRTokV vs at *
  go_wp2
  refine bodyPost_ret (results_cell (cs := [vs kPut, .int .i64 v1, .int .i64 0, .bool ((nmO s false (Out.ok () (next s st))).isB kTail), vs [], .int .i64 0, vs [], .int .i64 0, vs [], .int .i64 0, .int .i64 0, .slice none 0 0, .slice none 0 0, .bool false]) Tryz.results124 aggRStmt sizeRStmt rfl Q9.out.row) rfl ?_
  refine ⟨[vs kPut, .int .i64 v1, .int .i64 0, .bool ((nmO s false (Out.ok () (next s st))).isB kTail), vs [], .int .i64 0, vs [], .int .i64 0, vs [], .int .i64 0, .int .i64 0, .slice none 0 0, .slice none 0 0, .bool false], rfl, ⟨_, _, _, _, _, _, _, _, _, _, _, _, _, _, _, _, _, _, rfl⟩, Q9.out.kg, fun x9 st9 e hw => ?_, r3, Q9.out.rd, ?_, FD.out⟩
  · obtain ⟨q, st1, u1, u2⟩ := bind_ok e
    obtain ⟨t9, st2, u3, u4⟩ := bind_ok u2
    injection u4 with u4 u5
    subst u4 u5
    have hw1 : st1.wrong = none := by rw [(want_ok u3).2.2] at hw; exact (take_wrong s kTail st1).symm.trans hw
    rw [HV1.out q st1 u1 hw1, take_isB s kTail q st1, show nmO s false (Out.ok () (next s st)) = .ok q st1 from u1]
    exact ⟨[], by simp [encRPrim, primWord, primN, primM, primTail, noRCond, vnil], rfl⟩
  · refine zW0.out.of_unit ?_
    show unitO ((name s false (next s st)).bind _) = unitO (wantO s kSemi (takeO s kTail (name s false (next s st))))
    cases name s false (next s st) with
    | bad e p => rfl
    | ok q st1 =>
      show unitO ((want s kSemi (take s kTail st1).2).bind _) = unitO (want s kSemi (take s kTail st1).2)
      cases want s kSemi (take s kTail st1).2 <;> rfl

set_option maxRecDepth 100000 in
set_option maxHeartbeats 4000000 in
theorem rstmt_evict (h : RRd w g gp tl ts pc r) (hs : SaysOk s r st) (ht : RToks ts (toks s)) (hk : st.t.kind = kEvict) :
    Calls Tryz.prog 124 #[.pointer (some ⟨g, 0, none⟩)] w (OutSt w g gp tl ts pc s r.decls ((name s false (next s st)).bind fun q st => (want s kSemi st).bind fun _ st_ => .ok (.prim (.evict q) .nil) st_)) := by
  obtain ⟨x, hx, hof⟩ := SaysOk.tok hs ht
  obtain ⟨gt, ct, rfl, h1, h2, h3, h4, h5, t0, t1, t2⟩ := h.at_ hx
  have hxi : x.is = kEvict := by rw [hof.1, hk]; decide
  rw [hxi] at t0
  obtain ⟨c0, c1, _⟩ := h.cells
  have hlt := h.row.lt
  have ff := fun j => h.row.frozen j
  have h8 := h.tl
  have hkk : r.k < ts.length := h3
  unfold maxLen at h2
  have hkp : Kg g w (w.setCell ⟨g, 1, none⟩ (.int .i64 ((r.k : Int) + 1))) := (Kept.refl _ w).setCell (p := ⟨g, 1, none⟩) (.inl rfl) _
  have q1 := (RH2.start_ (D := w.heap.size + 1) (RH.start_ (C := w.heap.size) (ty := 155) hkp (h.put 1 (.int .i64 ((r.k : Int) + 1)) (r' := r.nx) rfl rfl) (by decide) zeros14 (by simp)) [vs kEvict, .int .i64 0, .int .i64 0, .bool false, vs [], .int .i64 0, vs [], .int .i64 0, vs [], .int .i64 0, .int .i64 0, .slice none 0 0, .slice none 0 0, .bool false] (by simp)).drewN 1
  have hnx : Says s r.nx (Out.ok () (next s st)) := SaysOk.next hs (by rw [hk]; decide) (by rw [hk]; decide)
  have hok : (next s st).Ok s := next_ok (SaysOk.ok hs)
  have HT := Lib.hid ht
  have HOK := Lib.hid hok
  have hc1 := rnamed_any q1.rd hnx HT.out false
  have HC1 := Lib.hid hc1
  have Q1 := Lib.hid q1
  generalize hk0 : r.k = kq at *
  generalize hLL : ts.length = LL at *
  clear hx hof hs hnx hok hxi hk hk0 hLL h q1 hc1 ht t1 t2 hkp
  unfold vs at *
  go_enter Tryz.func124, Tryz.ntmps124
  go_wp2
  go_region
  go_wp2_with fail
  refine HC1.out.mono ?_
  rintro e w1 ⟨v1, rfl, hk1, hv1, r1, h1', hs1, hd1⟩
  have HV1 := Lib.hid hv1
  clear hv1
  have p1 := Q1.out.call hk1 h1'
  obtain ⟨e0, e1, e2, e3, e4, e5, e6, e7, e8, e9, e10, e11, e12, e13⟩ := cells14 p1.row2
  have z := fun j => p1.row2.frozen j
  have q2 := p1.set2 1 (.int .i64 v1)
  have hc2 := rneed_any q2.rd hs1 HT.out (kd := kSemi) (kr := kSemi) (by decide) (by decide) (by decide) (by decide)
  rw [hd1] at hc2
  have HC2 := Lib.hid hc2
  have Q2 := Lib.hid q2
  clear q2 hc2 hk1 h1' hs1 hd1 p1
  unfold vs at *
  go_wp2_with fail
  clear e0 e1 e2 e3 e4 e5 e6 e7 e8 e9 e10 e11 e12 e13 z
  refine HC2.out.mono ?_
  rintro e w2 ⟨x9, rfl, hk2, _, r2, h2', hs2, hd2⟩
  have p2 := Q2.out.call hk2 h2'
  obtain ⟨e0, e1, e2, e3, e4, e5, e6, e7, e8, e9, e10, e11, e12, e13⟩ := cells14 p2.row2
  have z := fun j => p2.row2.frozen j
  obtain ⟨f0, f1, f2, f3, f4, f5, f6, f7, f8, f9, f10, f11, f12, f13⟩ := cells14 p2.row
  have y := fun j => p2.row.frozen j
  have hne : ¬ w.heap.size = w.heap.size + 1 := by omega
  have q9 := p2.copy14 (vs kEvict) (.int .i64 v1) (.int .i64 0) (.bool false) (vs []) (.int .i64 0) (vs []) (.int .i64 0) (vs []) (.int .i64 0) (.int .i64 0) (.slice none 0 0) (.slice none 0 0) (.bool false)
  have Q9 := Lib.hid q9
  have zW0 := Lib.hid hs2
  have FD := Lib.hid hd2
  clear p2 q9 hk2 h2' hs2 hd2
  unfold encRTokV vs at *
  go_wp2
  refine bodyPost_ret (results_cell (cs := [vs kEvict, .int .i64 v1, .int .i64 0, .bool false, vs [], .int .i64 0, vs [], .int .i64 0, vs [], .int .i64 0, .int .i64 0, .slice none 0 0, .slice none 0 0, .bool false]) Tryz.results124 aggRStmt sizeRStmt rfl Q9.out.row) rfl ?_
  refine ⟨[vs kEvict, .int .i64 v1, .int .i64 0, .bool false, vs [], .int .i64 0, vs [], .int .i64 0, vs [], .int .i64 0, .int .i64 0, .slice none 0 0, .slice none 0 0, .bool false], rfl, ⟨_, _, _, _, _, _, _, _, _, _, _, _, _, _, _, _, _, _, rfl⟩, Q9.out.kg, fun x9 st9 e hw => ?_, r2, Q9.out.rd, ?_, FD.out⟩
  · obtain ⟨q, st1, u1, u2⟩ := bind_ok e
    obtain ⟨t9, st2, u3, u4⟩ := bind_ok u2
    injection u4 with u4 u5
    subst u4 u5
    have hw1 : st1.wrong = none := by rw [(want_ok u3).2.2] at hw; exact hw
    rw [HV1.out q st1 u1 hw1]
    exact ⟨[], by simp [encRPrim, primWord, primN, primM, primTail, noRCond, vnil], rfl⟩
  · refine zW0.out.of_unit ?_
    show unitO ((name s false (next s st)).bind _) = unitO (wantO s kSemi (name s false (next s st)))
    cases name s false (next s st) with
    | bad e p => rfl
    | ok q st1 =>
      show unitO ((want s kSemi st1).bind _) = unitO (want s kSemi st1)
      cases want s kSemi st1 <;> rfl

set_option maxRecDepth 100000 in
set_option maxHeartbeats 4000000 in
theorem rstmt_cool (h : RRd w g gp tl ts pc r) (hs : SaysOk s r st) (ht : RToks ts (toks s)) (hk : st.t.kind = kCool) :
    Calls Tryz.prog 124 #[.pointer (some ⟨g, 0, none⟩)] w (OutSt w g gp tl ts pc s r.decls ((name s false (next s st)).bind fun q st => (want s kSemi st).bind fun _ st_ => .ok (.prim (.cool q) .nil) st_)) := by
  obtain ⟨x, hx, hof⟩ := SaysOk.tok hs ht
  obtain ⟨gt, ct, rfl, h1, h2, h3, h4, h5, t0, t1, t2⟩ := h.at_ hx
  have hxi : x.is = kCool := by rw [hof.1, hk]; decide
  rw [hxi] at t0
  obtain ⟨c0, c1, _⟩ := h.cells
  have hlt := h.row.lt
  have ff := fun j => h.row.frozen j
  have h8 := h.tl
  have hkk : r.k < ts.length := h3
  unfold maxLen at h2
  have hkp : Kg g w (w.setCell ⟨g, 1, none⟩ (.int .i64 ((r.k : Int) + 1))) := (Kept.refl _ w).setCell (p := ⟨g, 1, none⟩) (.inl rfl) _
  have q1 := (RH2.start_ (D := w.heap.size + 1) (RH.start_ (C := w.heap.size) (ty := 155) hkp (h.put 1 (.int .i64 ((r.k : Int) + 1)) (r' := r.nx) rfl rfl) (by decide) zeros14 (by simp)) [vs kCool, .int .i64 0, .int .i64 0, .bool false, vs [], .int .i64 0, vs [], .int .i64 0, vs [], .int .i64 0, .int .i64 0, .slice none 0 0, .slice none 0 0, .bool false] (by simp)).drewN 1
  have hnx : Says s r.nx (Out.ok () (next s st)) := SaysOk.next hs (by rw [hk]; decide) (by rw [hk]; decide)
  have hok : (next s st).Ok s := next_ok (SaysOk.ok hs)
  have HT := Lib.hid ht
  have HOK := Lib.hid hok
  have hc1 := rnamed_any q1.rd hnx HT.out false
  have HC1 := Lib.hid hc1
  have Q1 := Lib.hid q1
  generalize hk0 : r.k = kq at *
  generalize hLL : ts.length = LL at *
  clear hx hof hs hnx hok hxi hk hk0 hLL h q1 hc1 ht t1 t2 hkp
  unfold vs at *
  go_enter Tryz.func124, Tryz.ntmps124
  go_wp2
  go_region
  go_wp2_with fail
  refine HC1.out.mono ?_
  rintro e w1 ⟨v1, rfl, hk1, hv1, r1, h1', hs1, hd1⟩
  have HV1 := Lib.hid hv1
  clear hv1
  have p1 := Q1.out.call hk1 h1'
  obtain ⟨e0, e1, e2, e3, e4, e5, e6, e7, e8, e9, e10, e11, e12, e13⟩ := cells14 p1.row2
  have z := fun j => p1.row2.frozen j
  have q2 := p1.set2 1 (.int .i64 v1)
  have hc2 := rneed_any q2.rd hs1 HT.out (kd := kSemi) (kr := kSemi) (by decide) (by decide) (by decide) (by decide)
  rw [hd1] at hc2
  have HC2 := Lib.hid hc2
  have Q2 := Lib.hid q2
  clear q2 hc2 hk1 h1' hs1 hd1 p1
  unfold vs at *
  go_wp2_with fail
  clear e0 e1 e2 e3 e4 e5 e6 e7 e8 e9 e10 e11 e12 e13 z
  refine HC2.out.mono ?_
  rintro e w2 ⟨x9, rfl, hk2, _, r2, h2', hs2, hd2⟩
  have p2 := Q2.out.call hk2 h2'
  obtain ⟨e0, e1, e2, e3, e4, e5, e6, e7, e8, e9, e10, e11, e12, e13⟩ := cells14 p2.row2
  have z := fun j => p2.row2.frozen j
  obtain ⟨f0, f1, f2, f3, f4, f5, f6, f7, f8, f9, f10, f11, f12, f13⟩ := cells14 p2.row
  have y := fun j => p2.row.frozen j
  have hne : ¬ w.heap.size = w.heap.size + 1 := by omega
  have q9 := p2.copy14 (vs kCool) (.int .i64 v1) (.int .i64 0) (.bool false) (vs []) (.int .i64 0) (vs []) (.int .i64 0) (vs []) (.int .i64 0) (.int .i64 0) (.slice none 0 0) (.slice none 0 0) (.bool false)
  have Q9 := Lib.hid q9
  have zW0 := Lib.hid hs2
  have FD := Lib.hid hd2
  clear p2 q9 hk2 h2' hs2 hd2
  unfold encRTokV vs at *
  go_wp2
  refine bodyPost_ret (results_cell (cs := [vs kCool, .int .i64 v1, .int .i64 0, .bool false, vs [], .int .i64 0, vs [], .int .i64 0, vs [], .int .i64 0, .int .i64 0, .slice none 0 0, .slice none 0 0, .bool false]) Tryz.results124 aggRStmt sizeRStmt rfl Q9.out.row) rfl ?_
  refine ⟨[vs kCool, .int .i64 v1, .int .i64 0, .bool false, vs [], .int .i64 0, vs [], .int .i64 0, vs [], .int .i64 0, .int .i64 0, .slice none 0 0, .slice none 0 0, .bool false], rfl, ⟨_, _, _, _, _, _, _, _, _, _, _, _, _, _, _, _, _, _, rfl⟩, Q9.out.kg, fun x9 st9 e hw => ?_, r2, Q9.out.rd, ?_, FD.out⟩
  · obtain ⟨q, st1, u1, u2⟩ := bind_ok e
    obtain ⟨t9, st2, u3, u4⟩ := bind_ok u2
    injection u4 with u4 u5
    subst u4 u5
    have hw1 : st1.wrong = none := by rw [(want_ok u3).2.2] at hw; exact hw
    rw [HV1.out q st1 u1 hw1]
    exact ⟨[], by simp [encRPrim, primWord, primN, primM, primTail, noRCond, vnil], rfl⟩
  · refine zW0.out.of_unit ?_
    show unitO ((name s false (next s st)).bind _) = unitO (wantO s kSemi (name s false (next s st)))
    cases name s false (next s st) with
    | bad e p => rfl
    | ok q st1 =>
      show unitO ((want s kSemi st1).bind _) = unitO (want s kSemi st1)
      cases want s kSemi st1 <;> rfl

set_option maxRecDepth 100000 in
set_option maxHeartbeats 4000000 in
theorem rstmt_shift (h : RRd w g gp tl ts pc r) (hs : SaysOk s r st) (ht : RToks ts (toks s)) (hk : st.t.kind = kShift) :
    Calls Tryz.prog 124 #[.pointer (some ⟨g, 0, none⟩)] w (OutSt w g gp tl ts pc s r.decls ((name s false (next s st)).bind fun q st => (name s false st).bind fun p st => (want s kSemi (take s kTail st).2).bind fun _ st_ => .ok (.prim (.shift q p (take s kTail st).1) .nil) st_)) := by
  obtain ⟨x, hx, hof⟩ := SaysOk.tok hs ht
  obtain ⟨gt, ct, rfl, h1, h2, h3, h4, h5, t0, t1, t2⟩ := h.at_ hx
  have hxi : x.is = kShift := by rw [hof.1, hk]; decide
  rw [hxi] at t0
  obtain ⟨c0, c1, _⟩ := h.cells
  have hlt := h.row.lt
  have ff := fun j => h.row.frozen j
  have h8 := h.tl
  have hkk : r.k < ts.length := h3
  unfold maxLen at h2
  have hkp : Kg g w (w.setCell ⟨g, 1, none⟩ (.int .i64 ((r.k : Int) + 1))) := (Kept.refl _ w).setCell (p := ⟨g, 1, none⟩) (.inl rfl) _
  have q1 := (RH2.start_ (D := w.heap.size + 1) (RH.start_ (C := w.heap.size) (ty := 155) hkp (h.put 1 (.int .i64 ((r.k : Int) + 1)) (r' := r.nx) rfl rfl) (by decide) zeros14 (by simp)) [vs kShift, .int .i64 0, .int .i64 0, .bool false, vs [], .int .i64 0, vs [], .int .i64 0, vs [], .int .i64 0, .int .i64 0, .slice none 0 0, .slice none 0 0, .bool false] (by simp)).drewN 1
  have hnx : Says s r.nx (Out.ok () (next s st)) := SaysOk.next hs (by rw [hk]; decide) (by rw [hk]; decide)
  have hok : (next s st).Ok s := next_ok (SaysOk.ok hs)
  have HT := Lib.hid ht
  have HOK := Lib.hid hok
  have hc1 := rnamed_any q1.rd hnx HT.out false
  have HC1 := Lib.hid hc1
  have Q1 := Lib.hid q1
  generalize hk0 : r.k = kq at *
  generalize hLL : ts.length = LL at *
  clear hx hof hs hnx hok hxi hk hk0 hLL h q1 hc1 ht t1 t2 hkp
  unfold vs at *
  go_enter Tryz.func124, Tryz.ntmps124
  go_wp2
  go_region
  go_wp2_with fail
  refine HC1.out.mono ?_
  rintro e w1 ⟨v1, rfl, hk1, hv1, r1, h1', hs1, hd1⟩
  have HV1 := Lib.hid hv1
  clear hv1
  have p1 := Q1.out.call hk1 h1'
  obtain ⟨e0, e1, e2, e3, e4, e5, e6, e7, e8, e9, e10, e11, e12, e13⟩ := cells14 p1.row2
  have z := fun j => p1.row2.frozen j
  have q2 := p1.set2 1 (.int .i64 v1)
  have hc2 := rnamed_any q2.rd hs1 HT.out false
  rw [hd1] at hc2
  have HC2 := Lib.hid hc2
  have Q2 := Lib.hid q2
  clear q2 hc2 hk1 h1' hs1 hd1 p1
  unfold vs at *
  go_wp2_with fail
  clear e0 e1 e2 e3 e4 e5 e6 e7 e8 e9 e10 e11 e12 e13 z
  refine HC2.out.mono ?_
  rintro e w2 ⟨v2, rfl, hk2, hv2, r2, h2', hs2, hd2⟩
  have HV2 := Lib.hid hv2
  clear hv2
  have p2 := Q2.out.call hk2 h2'
  obtain ⟨e0, e1, e2, e3, e4, e5, e6, e7, e8, e9, e10, e11, e12, e13⟩ := cells14 p2.row2
  have z := fun j => p2.row2.frozen j
  have q3 := p2.set2 2 (.int .i64 v2)
  have hd2 := hd2
  have hc3 := rtake_any q3.rd hs2 HT.out (kd := kTail) (kr := kTail) (by decide) (by decide) (by decide) (by decide)
  rw [hd2] at hc3
  have HC3 := Lib.hid hc3
  have Q3 := Lib.hid q3
  clear q3 hc3 hk2 h2' hs2 hd2 p2
  unfold vs at *
  go_wp2_with fail
  clear e0 e1 e2 e3 e4 e5 e6 e7 e8 e9 e10 e11 e12 e13 z
  refine HC3.out.mono ?_
  rintro e w3 ⟨rfl, hk3, r3, h3', hs3, hd3⟩
  have p3 := Q3.out.call hk3 h3'
  obtain ⟨e0, e1, e2, e3, e4, e5, e6, e7, e8, e9, e10, e11, e12, e13⟩ := cells14 p3.row2
  have z := fun j => p3.row2.frozen j
  have q4 := p3.set2 3 (.bool ((nmO s false (nmO s false (Out.ok () (next s st)))).isB kTail))
  have hd3 := hd3
  have hc4 := rneed_any q4.rd hs3 HT.out (kd := kSemi) (kr := kSemi) (by decide) (by decide) (by decide) (by decide)
  rw [hd3] at hc4
  have HC4 := Lib.hid hc4
  have Q4 := Lib.hid q4
  clear q4 hc4 hk3 h3' hs3 hd3 p3
  unfold vs at *
  go_wp2_with fail
  clear e0 e1 e2 e3 e4 e5 e6 e7 e8 e9 e10 e11 e12 e13 z
  refine HC4.out.mono ?_
  rintro e w4 ⟨x9, rfl, hk4, _, r4, h4', hs4, hd4⟩
  have p4 := Q4.out.call hk4 h4'
  obtain ⟨e0, e1, e2, e3, e4, e5, e6, e7, e8, e9, e10, e11, e12, e13⟩ := cells14 p4.row2
  have z := fun j => p4.row2.frozen j
  obtain ⟨f0, f1, f2, f3, f4, f5, f6, f7, f8, f9, f10, f11, f12, f13⟩ := cells14 p4.row
  have y := fun j => p4.row.frozen j
  have hne : ¬ w.heap.size = w.heap.size + 1 := by omega
  have q9 := p4.copy14 (vs kShift) (.int .i64 v1) (.int .i64 v2) (.bool ((nmO s false (nmO s false (Out.ok () (next s st)))).isB kTail)) (vs []) (.int .i64 0) (vs []) (.int .i64 0) (vs []) (.int .i64 0) (.int .i64 0) (.slice none 0 0) (.slice none 0 0) (.bool false)
  have Q9 := Lib.hid q9
  have zW0 := Lib.hid hs4
  have FD := Lib.hid hd4
  clear p4 q9 hk4 h4' hs4 hd4
  unfold encRTokV vs at *
  go_wp2
  refine bodyPost_ret (results_cell (cs := [vs kShift, .int .i64 v1, .int .i64 v2, .bool ((nmO s false (nmO s false (Out.ok () (next s st)))).isB kTail), vs [], .int .i64 0, vs [], .int .i64 0, vs [], .int .i64 0, .int .i64 0, .slice none 0 0, .slice none 0 0, .bool false]) Tryz.results124 aggRStmt sizeRStmt rfl Q9.out.row) rfl ?_
  refine ⟨[vs kShift, .int .i64 v1, .int .i64 v2, .bool ((nmO s false (nmO s false (Out.ok () (next s st)))).isB kTail), vs [], .int .i64 0, vs [], .int .i64 0, vs [], .int .i64 0, .int .i64 0, .slice none 0 0, .slice none 0 0, .bool false], rfl, ⟨_, _, _, _, _, _, _, _, _, _, _, _, _, _, _, _, _, _, rfl⟩, Q9.out.kg, fun x9 st9 e hw => ?_, r4, Q9.out.rd, ?_, FD.out⟩
  · obtain ⟨q, st1, u1, u2⟩ := bind_ok e
    obtain ⟨q2, st2, u3, u4⟩ := bind_ok u2
    obtain ⟨t9, st3, u5, u6⟩ := bind_ok u4
    injection u6 with u6 u7
    subst u6 u7
    have hw2 : st2.wrong = none := by rw [(want_ok u5).2.2] at hw; exact (take_wrong s kTail st2).symm.trans hw
    have hok1 := (name_ok HOK.out u1).1.ok
    have hw1 : st1.wrong = none := (name_ok hok1 u3).1.wrong hw2
    have e1 : nmO s false (Out.ok () (next s st)) = .ok q st1 := u1
    have e2 : nmO s false (nmO s false (Out.ok () (next s st))) = .ok q2 st2 := by rw [e1]; exact u3
    rw [HV1.out q st1 u1 hw1, HV2.out q2 st2 e2 hw2, take_isB s kTail q2 st2, e2]
    exact ⟨[], by simp [encRPrim, primWord, primN, primM, primTail, noRCond, vnil], rfl⟩
  · refine zW0.out.of_unit ?_
    show unitO ((name s false (next s st)).bind _) = unitO (wantO s kSemi (takeO s kTail (nmO s false (name s false (next s st)))))
    cases name s false (next s st) with
    | bad e p => rfl
    | ok q st1 =>
      show unitO ((name s false st1).bind _) = unitO (wantO s kSemi (takeO s kTail (name s false st1)))
      cases name s false st1 with
      | bad e p => rfl
      | ok q2 st2 =>
        show unitO ((want s kSemi (take s kTail st2).2).bind _) = unitO (want s kSemi (take s kTail st2).2)
        cases want s kSemi (take s kTail st2).2 <;> rfl

set_option maxRecDepth 100000 in
set_option maxHeartbeats 4000000 in
theorem rstmt_inc (h : RRd w g gp tl ts pc r) (hs : SaysOk s r st) (ht : RToks ts (toks s)) (hk : st.t.kind = kInc) :
    Calls Tryz.prog 124 #[.pointer (some ⟨g, 0, none⟩)] w (OutSt w g gp tl ts pc s r.decls ((name s true (next s st)).bind fun q st => (want s kSemi st).bind fun _ st_ => .ok (.prim (.inc q) .nil) st_)) := by
  obtain ⟨x, hx, hof⟩ := SaysOk.tok hs ht
  obtain ⟨gt, ct, rfl, h1, h2, h3, h4, h5, t0, t1, t2⟩ := h.at_ hx
  have hxi : x.is = kInc := by rw [hof.1, hk]; decide
  rw [hxi] at t0
  obtain ⟨c0, c1, _⟩ := h.cells
  have hlt := h.row.lt
  have ff := fun j => h.row.frozen j
  have h8 := h.tl
  have hkk : r.k < ts.length := h3
  unfold maxLen at h2
  have hkp : Kg g w (w.setCell ⟨g, 1, none⟩ (.int .i64 ((r.k : Int) + 1))) := (Kept.refl _ w).setCell (p := ⟨g, 1, none⟩) (.inl rfl) _
  have q1 := (RH2.start_ (D := w.heap.size + 1) (RH.start_ (C := w.heap.size) (ty := 155) hkp (h.put 1 (.int .i64 ((r.k : Int) + 1)) (r' := r.nx) rfl rfl) (by decide) zeros14 (by simp)) [vs kInc, .int .i64 0, .int .i64 0, .bool false, vs [], .int .i64 0, vs [], .int .i64 0, vs [], .int .i64 0, .int .i64 0, .slice none 0 0, .slice none 0 0, .bool false] (by simp)).drewN 1
  have hnx : Says s r.nx (Out.ok () (next s st)) := SaysOk.next hs (by rw [hk]; decide) (by rw [hk]; decide)
  have hok : (next s st).Ok s := next_ok (SaysOk.ok hs)
  have HT := Lib.hid ht
  have HOK := Lib.hid hok
  have hc1 := rnamed_any q1.rd hnx HT.out true
  have HC1 := Lib.hid hc1
  have Q1 := Lib.hid q1
  generalize hk0 : r.k = kq at *
  generalize hLL : ts.length = LL at *
  clear hx hof hs hnx hok hxi hk hk0 hLL h q1 hc1 ht t1 t2 hkp
  unfold vs at *
  go_enter Tryz.func124, Tryz.ntmps124
  go_wp2
  go_region
  go_wp2_with fail
  refine HC1.out.mono ?_
  rintro e w1 ⟨v1, rfl, hk1, hv1, r1, h1', hs1, hd1⟩
  have HV1 := Lib.hid hv1
  clear hv1
  have p1 := Q1.out.call hk1 h1'
  obtain ⟨e0, e1, e2, e3, e4, e5, e6, e7, e8, e9, e10, e11, e12, e13⟩ := cells14 p1.row2
  have z := fun j => p1.row2.frozen j
  have q2 := p1.set2 1 (.int .i64 v1)
  have hc2 := rneed_any q2.rd hs1 HT.out (kd := kSemi) (kr := kSemi) (by decide) (by decide) (by decide) (by decide)
  rw [hd1] at hc2
  have HC2 := Lib.hid hc2
  have Q2 := Lib.hid q2
  clear q2 hc2 hk1 h1' hs1 hd1 p1
  unfold vs at *
  go_wp2_with fail
  clear e0 e1 e2 e3 e4 e5 e6 e7 e8 e9 e10 e11 e12 e13 z
  refine HC2.out.mono ?_
  rintro e w2 ⟨x9, rfl, hk2, _, r2, h2', hs2, hd2⟩
  have p2 := Q2.out.call hk2 h2'
  obtain ⟨e0, e1, e2, e3, e4, e5, e6, e7, e8, e9, e10, e11, e12, e13⟩ := cells14 p2.row2
  have z := fun j => p2.row2.frozen j
  obtain ⟨f0, f1, f2, f3, f4, f5, f6, f7, f8, f9, f10, f11, f12, f13⟩ := cells14 p2.row
  have y := fun j => p2.row.frozen j
  have hne : ¬ w.heap.size = w.heap.size + 1 := by omega
  have q9 := p2.copy14 (vs kInc) (.int .i64 v1) (.int .i64 0) (.bool false) (vs []) (.int .i64 0) (vs []) (.int .i64 0) (vs []) (.int .i64 0) (.int .i64 0) (.slice none 0 0) (.slice none 0 0) (.bool false)
  have Q9 := Lib.hid q9
  have zW0 := Lib.hid hs2
  have FD := Lib.hid hd2
  clear p2 q9 hk2 h2' hs2 hd2
  unfold encRTokV vs at *
  go_wp2
  refine bodyPost_ret (results_cell (cs := [vs kInc, .int .i64 v1, .int .i64 0, .bool false, vs [], .int .i64 0, vs [], .int .i64 0, vs [], .int .i64 0, .int .i64 0, .slice none 0 0, .slice none 0 0, .bool false]) Tryz.results124 aggRStmt sizeRStmt rfl Q9.out.row) rfl ?_
  refine ⟨[vs kInc, .int .i64 v1, .int .i64 0, .bool false, vs [], .int .i64 0, vs [], .int .i64 0, vs [], .int .i64 0, .int .i64 0, .slice none 0 0, .slice none 0 0, .bool false], rfl, ⟨_, _, _, _, _, _, _, _, _, _, _, _, _, _, _, _, _, _, rfl⟩, Q9.out.kg, fun x9 st9 e hw => ?_, r2, Q9.out.rd, ?_, FD.out⟩
  · obtain ⟨q, st1, u1, u2⟩ := bind_ok e
    obtain ⟨t9, st2, u3, u4⟩ := bind_ok u2
    injection u4 with u4 u5
    subst u4 u5
    have hw1 : st1.wrong = none := by rw [(want_ok u3).2.2] at hw; exact hw
    rw [HV1.out q st1 u1 hw1]
    exact ⟨[], by simp [encRPrim, primWord, primN, primM, primTail, noRCond, vnil], rfl⟩
  · refine zW0.out.of_unit ?_
    show unitO ((name s true (next s st)).bind _) = unitO (wantO s kSemi (name s true (next s st)))
    cases name s true (next s st) with
    | bad e p => rfl
    | ok q st1 =>
      show unitO ((want s kSemi st1).bind _) = unitO (want s kSemi st1)
      cases want s kSemi st1 <;> rfl

set_option maxRecDepth 100000 in
set_option maxHeartbeats 4000000 in
theorem rstmt_dec (h : RRd w g gp tl ts pc r) (hs : SaysOk s r st) (ht : RToks ts (toks s)) (hk : st.t.kind = kDec) :
    Calls Tryz.prog 124 #[.pointer (some ⟨g, 0, none⟩)] w (OutSt w g gp tl ts pc s r.decls ((name s true (next s st)).bind fun q st => (want s kSemi st).bind fun _ st_ => .ok (.prim (.dec q) .nil) st_)) := by
  obtain ⟨x, hx, hof⟩ := SaysOk.tok hs ht
  obtain ⟨gt, ct, rfl, h1, h2, h3, h4, h5, t0, t1, t2⟩ := h.at_ hx
  have hxi : x.is = kDec := by rw [hof.1, hk]; decide
  rw [hxi] at t0
  obtain ⟨c0, c1, _⟩ := h.cells
  have hlt := h.row.lt
  have ff := fun j => h.row.frozen j
  have h8 := h.tl
  have hkk : r.k < ts.length := h3
  unfold maxLen at h2
  have hkp : Kg g w (w.setCell ⟨g, 1, none⟩ (.int .i64 ((r.k : Int) + 1))) := (Kept.refl _ w).setCell (p := ⟨g, 1, none⟩) (.inl rfl) _
  have q1 := (RH2.start_ (D := w.heap.size + 1) (RH.start_ (C := w.heap.size) (ty := 155) hkp (h.put 1 (.int .i64 ((r.k : Int) + 1)) (r' := r.nx) rfl rfl) (by decide) zeros14 (by simp)) [vs kDec, .int .i64 0, .int .i64 0, .bool false, vs [], .int .i64 0, vs [], .int .i64 0, vs [], .int .i64 0, .int .i64 0, .slice none 0 0, .slice none 0 0, .bool false] (by simp)).drewN 1
  have hnx : Says s r.nx (Out.ok () (next s st)) := SaysOk.next hs (by rw [hk]; decide) (by rw [hk]; decide)
  have hok : (next s st).Ok s := next_ok (SaysOk.ok hs)
  have HT := Lib.hid ht
  have HOK := Lib.hid hok
  have hc1 := rnamed_any q1.rd hnx HT.out true
  have HC1 := Lib.hid hc1
  have Q1 := Lib.hid q1
  generalize hk0 : r.k = kq at *
  generalize hLL : ts.length = LL at *
  clear hx hof hs hnx hok hxi hk hk0 hLL h q1 hc1 ht t1 t2 hkp
  unfold vs at *
  go_enter Tryz.func124, Tryz.ntmps124
  go_wp2
  go_region
  go_wp2_with fail
  refine HC1.out.mono ?_
  rintro e w1 ⟨v1, rfl, hk1, hv1, r1, h1', hs1, hd1⟩
  have HV1 := Lib.hid hv1
  clear hv1
  have p1 := Q1.out.call hk1 h1'
  obtain ⟨e0, e1, e2, e3, e4, e5, e6, e7, e8, e9, e10, e11, e12, e13⟩ := cells14 p1.row2
  have z := fun j => p1.row2.frozen j
  have q2 := p1.set2 1 (.int .i64 v1)
  have hc2 := rneed_any q2.rd hs1 HT.out (kd := kSemi) (kr := kSemi) (by decide) (by decide) (by decide) (by decide)
  rw [hd1] at hc2
  have HC2 := Lib.hid hc2
  have Q2 := Lib.hid q2
  clear q2 hc2 hk1 h1' hs1 hd1 p1
  unfold vs at *
  go_wp2_with fail
  clear e0 e1 e2 e3 e4 e5 e6 e7 e8 e9 e10 e11 e12 e13 z
  refine HC2.out.mono ?_
  rintro e w2 ⟨x9, rfl, hk2, _, r2, h2', hs2, hd2⟩
  have p2 := Q2.out.call hk2 h2'
  obtain ⟨e0, e1, e2, e3, e4, e5, e6, e7, e8, e9, e10, e11, e12, e13⟩ := cells14 p2.row2
  have z := fun j => p2.row2.frozen j
  obtain ⟨f0, f1, f2, f3, f4, f5, f6, f7, f8, f9, f10, f11, f12, f13⟩ := cells14 p2.row
  have y := fun j => p2.row.frozen j
  have hne : ¬ w.heap.size = w.heap.size + 1 := by omega
  have q9 := p2.copy14 (vs kDec) (.int .i64 v1) (.int .i64 0) (.bool false) (vs []) (.int .i64 0) (vs []) (.int .i64 0) (vs []) (.int .i64 0) (.int .i64 0) (.slice none 0 0) (.slice none 0 0) (.bool false)
  have Q9 := Lib.hid q9
  have zW0 := Lib.hid hs2
  have FD := Lib.hid hd2
  clear p2 q9 hk2 h2' hs2 hd2
  unfold encRTokV vs at *
  go_wp2
  refine bodyPost_ret (results_cell (cs := [vs kDec, .int .i64 v1, .int .i64 0, .bool false, vs [], .int .i64 0, vs [], .int .i64 0, vs [], .int .i64 0, .int .i64 0, .slice none 0 0, .slice none 0 0, .bool false]) Tryz.results124 aggRStmt sizeRStmt rfl Q9.out.row) rfl ?_
  refine ⟨[vs kDec, .int .i64 v1, .int .i64 0, .bool false, vs [], .int .i64 0, vs [], .int .i64 0, vs [], .int .i64 0, .int .i64 0, .slice none 0 0, .slice none 0 0, .bool false], rfl, ⟨_, _, _, _, _, _, _, _, _, _, _, _, _, _, _, _, _, _, rfl⟩, Q9.out.kg, fun x9 st9 e hw => ?_, r2, Q9.out.rd, ?_, FD.out⟩
  · obtain ⟨q, st1, u1, u2⟩ := bind_ok e
    obtain ⟨t9, st2, u3, u4⟩ := bind_ok u2
    injection u4 with u4 u5
    subst u4 u5
    have hw1 : st1.wrong = none := by rw [(want_ok u3).2.2] at hw; exact hw
    rw [HV1.out q st1 u1 hw1]
    exact ⟨[], by simp [encRPrim, primWord, primN, primM, primTail, noRCond, vnil], rfl⟩
  · refine zW0.out.of_unit ?_
    show unitO ((name s true (next s st)).bind _) = unitO (wantO s kSemi (name s true (next s st)))
    cases name s true (next s st) with
    | bad e p => rfl
    | ok q st1 =>
      show unitO ((want s kSemi st1).bind _) = unitO (want s kSemi st1)
      cases want s kSemi st1 <;> rfl

set_option maxRecDepth 100000 in
set_option maxHeartbeats 4000000 in
theorem rstmt_drop (h : RRd w g gp tl ts pc r) (hs : SaysOk s r st) (ht : RToks ts (toks s)) (hk : st.t.kind = kDrop) :
    Calls Tryz.prog 124 #[.pointer (some ⟨g, 0, none⟩)] w (OutSt w g gp tl ts pc s r.decls ((want s kSemi (next s st)).bind fun _ st_ => .ok (.prim .drop .nil) st_)) := by
  obtain ⟨x, hx, hof⟩ := SaysOk.tok hs ht
  obtain ⟨gt, ct, rfl, h1, h2, h3, h4, h5, t0, t1, t2⟩ := h.at_ hx
  have hxi : x.is = kDrop := by rw [hof.1, hk]; decide
  rw [hxi] at t0
  obtain ⟨c0, c1, _⟩ := h.cells
  have hlt := h.row.lt
  have ff := fun j => h.row.frozen j
  have h8 := h.tl
  have hkk : r.k < ts.length := h3
  unfold maxLen at h2
  have hkp : Kg g w (w.setCell ⟨g, 1, none⟩ (.int .i64 ((r.k : Int) + 1))) := (Kept.refl _ w).setCell (p := ⟨g, 1, none⟩) (.inl rfl) _
  have q1 := (RH2.start_ (D := w.heap.size + 1) (RH.start_ (C := w.heap.size) (ty := 155) hkp (h.put 1 (.int .i64 ((r.k : Int) + 1)) (r' := r.nx) rfl rfl) (by decide) zeros14 (by simp)) [vs kDrop, .int .i64 0, .int .i64 0, .bool false, vs [], .int .i64 0, vs [], .int .i64 0, vs [], .int .i64 0, .int .i64 0, .slice none 0 0, .slice none 0 0, .bool false] (by simp)).drewN 1
  have hnx : Says s r.nx (Out.ok () (next s st)) := SaysOk.next hs (by rw [hk]; decide) (by rw [hk]; decide)
  have hok : (next s st).Ok s := next_ok (SaysOk.ok hs)
  have HT := Lib.hid ht
  have HOK := Lib.hid hok
  have hc1 := rneed_any q1.rd hnx HT.out (kd := kSemi) (kr := kSemi) (by decide) (by decide) (by decide) (by decide)
  have HC1 := Lib.hid hc1
  have Q1 := Lib.hid q1
  generalize hk0 : r.k = kq at *
  generalize hLL : ts.length = LL at *
  clear hx hof hs hnx hok hxi hk hk0 hLL h q1 hc1 ht t1 t2 hkp
  unfold vs at *
  go_enter Tryz.func124, Tryz.ntmps124
  go_wp2
  go_region
  go_wp2_with fail
  refine HC1.out.mono ?_
  rintro e w1 ⟨x9, rfl, hk1, _, r1, h1', hs1, hd1⟩
  have p1 := Q1.out.call hk1 h1'
  obtain ⟨e0, e1, e2, e3, e4, e5, e6, e7, e8, e9, e10, e11, e12, e13⟩ := cells14 p1.row2
  have z := fun j => p1.row2.frozen j
  obtain ⟨f0, f1, f2, f3, f4, f5, f6, f7, f8, f9, f10, f11, f12, f13⟩ := cells14 p1.row
  have y := fun j => p1.row.frozen j
  have hne : ¬ w.heap.size = w.heap.size + 1 := by omega
  have q9 := p1.copy14 (vs kDrop) (.int .i64 0) (.int .i64 0) (.bool false) (vs []) (.int .i64 0) (vs []) (.int .i64 0) (vs []) (.int .i64 0) (.int .i64 0) (.slice none 0 0) (.slice none 0 0) (.bool false)
  have Q9 := Lib.hid q9
  have zW0 := Lib.hid hs1
  have FD := Lib.hid hd1
  clear p1 q9 hk1 h1' hs1 hd1
  unfold encRTokV vs at *
  go_wp2
  refine bodyPost_ret (results_cell (cs := [vs kDrop, .int .i64 0, .int .i64 0, .bool false, vs [], .int .i64 0, vs [], .int .i64 0, vs [], .int .i64 0, .int .i64 0, .slice none 0 0, .slice none 0 0, .bool false]) Tryz.results124 aggRStmt sizeRStmt rfl Q9.out.row) rfl ?_
  refine ⟨[vs kDrop, .int .i64 0, .int .i64 0, .bool false, vs [], .int .i64 0, vs [], .int .i64 0, vs [], .int .i64 0, .int .i64 0, .slice none 0 0, .slice none 0 0, .bool false], rfl, ⟨_, _, _, _, _, _, _, _, _, _, _, _, _, _, _, _, _, _, rfl⟩, Q9.out.kg, fun x9 st9 e hw => ?_, r1, Q9.out.rd, ?_, FD.out⟩
  · obtain ⟨t9, st2, u3, u4⟩ := bind_ok e
    injection u4 with u4 u5
    subst u4 u5
    exact ⟨[], by simp [encRPrim, primWord, primN, primM, primTail, noRCond, vnil], rfl⟩
  · refine zW0.out.of_unit ?_
    show unitO ((want s kSemi (next s st)).bind _) = unitO (want s kSemi (next s st))
    cases want s kSemi (next s st) <;> rfl

set_option maxRecDepth 100000 in
set_option maxHeartbeats 4000000 in
theorem rstmt_bump (h : RRd w g gp tl ts pc r) (hs : SaysOk s r st) (ht : RToks ts (toks s)) (hk : st.t.kind = kBump) :
    Calls Tryz.prog 124 #[.pointer (some ⟨g, 0, none⟩)] w (OutSt w g gp tl ts pc s r.decls ((want s kSemi (next s st)).bind fun _ st_ => .ok (.prim .bump .nil) st_)) := by
  obtain ⟨x, hx, hof⟩ := SaysOk.tok hs ht
  obtain ⟨gt, ct, rfl, h1, h2, h3, h4, h5, t0, t1, t2⟩ := h.at_ hx
  have hxi : x.is = kBump := by rw [hof.1, hk]; decide
  rw [hxi] at t0
  obtain ⟨c0, c1, _⟩ := h.cells
  have hlt := h.row.lt
  have ff := fun j => h.row.frozen j
  have h8 := h.tl
  have hkk : r.k < ts.length := h3
  unfold maxLen at h2
  have hkp : Kg g w (w.setCell ⟨g, 1, none⟩ (.int .i64 ((r.k : Int) + 1))) := (Kept.refl _ w).setCell (p := ⟨g, 1, none⟩) (.inl rfl) _
  have q1 := (RH2.start_ (D := w.heap.size + 1) (RH.start_ (C := w.heap.size) (ty := 155) hkp (h.put 1 (.int .i64 ((r.k : Int) + 1)) (r' := r.nx) rfl rfl) (by decide) zeros14 (by simp)) [vs kBump, .int .i64 0, .int .i64 0, .bool false, vs [], .int .i64 0, vs [], .int .i64 0, vs [], .int .i64 0, .int .i64 0, .slice none 0 0, .slice none 0 0, .bool false] (by simp)).drewN 1
  have hnx : Says s r.nx (Out.ok () (next s st)) := SaysOk.next hs (by rw [hk]; decide) (by rw [hk]; decide)
  have hok : (next s st).Ok s := next_ok (SaysOk.ok hs)
  have HT := Lib.hid ht
  have HOK := Lib.hid hok
  have hc1 := rneed_any q1.rd hnx HT.out (kd := kSemi) (kr := kSemi) (by decide) (by decide) (by decide) (by decide)
  have HC1 := Lib.hid hc1
  have Q1 := Lib.hid q1
  generalize hk0 : r.k = kq at *
  generalize hLL : ts.length = LL at *
  clear hx hof hs hnx hok hxi hk hk0 hLL h q1 hc1 ht t1 t2 hkp
  unfold vs at *
  go_enter Tryz.func124, Tryz.ntmps124
  go_wp2
  go_region
  go_wp2_with fail
  refine HC1.out.mono ?_
  rintro e w1 ⟨x9, rfl, hk1, _, r1, h1', hs1, hd1⟩
  have p1 := Q1.out.call hk1 h1'
  obtain ⟨e0, e1, e2, e3, e4, e5, e6, e7, e8, e9, e10, e11, e12, e13⟩ := cells14 p1.row2
  have z := fun j => p1.row2.frozen j
  obtain ⟨f0, f1, f2, f3, f4, f5, f6, f7, f8, f9, f10, f11, f12, f13⟩ := cells14 p1.row
  have y := fun j => p1.row.frozen j
  have hne : ¬ w.heap.size = w.heap.size + 1 := by omega
  have q9 := p1.copy14 (vs kBump) (.int .i64 0) (.int .i64 0) (.bool false) (vs []) (.int .i64 0) (vs []) (.int .i64 0) (vs []) (.int .i64 0) (.int .i64 0) (.slice none 0 0) (.slice none 0 0) (.bool false)
  have Q9 := Lib.hid q9
  have zW0 := Lib.hid hs1
  have FD := Lib.hid hd1
  clear p1 q9 hk1 h1' hs1 hd1
  unfold encRTokV vs at *
  go_wp2
  refine bodyPost_ret (results_cell (cs := [vs kBump, .int .i64 0, .int .i64 0, .bool false, vs [], .int .i64 0, vs [], .int .i64 0, vs [], .int .i64 0, .int .i64 0, .slice none 0 0, .slice none 0 0, .bool false]) Tryz.results124 aggRStmt sizeRStmt rfl Q9.out.row) rfl ?_
  refine ⟨[vs kBump, .int .i64 0, .int .i64 0, .bool false, vs [], .int .i64 0, vs [], .int .i64 0, vs [], .int .i64 0, .int .i64 0, .slice none 0 0, .slice none 0 0, .bool false], rfl, ⟨_, _, _, _, _, _, _, _, _, _, _, _, _, _, _, _, _, _, rfl⟩, Q9.out.kg, fun x9 st9 e hw => ?_, r1, Q9.out.rd, ?_, FD.out⟩
  · obtain ⟨t9, st2, u3, u4⟩ := bind_ok e
    injection u4 with u4 u5
    subst u4 u5
    exact ⟨[], by simp [encRPrim, primWord, primN, primM, primTail, noRCond, vnil], rfl⟩
  · refine zW0.out.of_unit ?_
    show unitO ((want s kSemi (next s st)).bind _) = unitO (want s kSemi (next s st))
    cases want s kSemi (next s st) <;> rfl
end
end Go.Proofs.YtemppijblfflgabGreatDoor.Ev
namespace Go.Proofs.YtemppijblfflgabGreatDoor.Ev
open Go Go.RowKit

/-- The reader and its policy, in blocks from B on. -/
structure RP (B : Nat) (w : World) (g gp : Nat) (tl : Value) (ts : List RTok) (f : Int) (vr vh vm : Value) (ms : Bool) (r : Raw) (vd : Value) : Prop where
  rd : RRd w g gp tl ts [vd, .int .i64 f, vr, vh, vm, .bool ms] r
  g0 : B ≤ g
  p0 : B ≤ gp
  sl : Sl (fun b => B ≤ b) w 87 3 vd r.decls.length (r.decls.flatMap encRDecl)
  sz : B ≤ w.heap.size

section
variable {B : Nat} {w w' : World} {g gp : Nat} {tl : Value} {ts : List RTok} {f : Int} {vr vh vm : Value} {ms : Bool} {r r' : Raw} {vd : Value} {s : Bytes} {st : PS}
theorem RP.call (h : RP B w g gp tl ts f vr vh vm ms r vd) (hk : Kg g w w') (hr : RRd w' g gp tl ts [vd, .int .i64 f, vr, vh, vm, .bool ms] r') (hd : r'.decls = r.decls) : RP B w' g gp tl ts f vr vh vm ms r' vd := by
  refine ⟨hr, h.g0, h.p0, ?_, Nat.le_trans h.sz hk.size⟩
  rw [hd]
  exact h.sl.kept hk (fun b hb hh => hh.elim (fun e => h.sl.ne_row h.rd.row (by decide) (e ▸ hb)) (fun e => by have := h.sl.lt hb; omega))
theorem kg_up {B g : Nat} {w w' : World} (hk : Kg g w w') (hg : B ≤ g) (hB : B ≤ w.heap.size) : Kept (fun b => B ≤ b) w w' := hk.mono (fun b hb => hb.elim (fun e => e ▸ hg) (fun h => Nat.le_trans hB h))

/-- What a declaration comes to. -/
def OutDc (B : Nat) (w : World) (g gp : Nat) (tl : Value) (ts : List RTok) (s : Bytes) (n : Nat) (o : Out Unit) (e : Ending) (w' : World) : Prop :=
  e = .returned (.tuple #[]) ∧ Kept (fun b => B ≤ b) w w' ∧ ∃ f' vd' r', RP B w' g gp tl ts f' vnil vnil vnil false r' vd' ∧ Says s r' o ∧ (∀ st', o = .ok () st' → f' = st'.freq) ∧ r'.decls.length ≤ n + 1

abbrev Raw.fq (r : Raw) : Raw := { r with k := r.k + 1, freqs := r.freqs + 1 }
/-- The reader behind the word freq. -/
def frO (s : Bytes) (st : PS) : PS := { next s st with fseen := true }
theorem SaysOk.freq_ (h : SaysOk s r st) (h1 : st.t.kind ≠ kEnd) (h2 : st.t.kind ≠ kNone) : SaysOk s r.fq (frO s st) := by
  have hn := h.next h1 h2
  exact ⟨hn.pos.of rfl rfl, ⟨hn.ok.i, hn.ok.pos, hn.ok.more, hn.ok.num, hn.ok.name⟩, hn.deep, hn.loops, hn.bad, hn.wrong, hn.decls, hn.freq, by have := h.f0; show true = decide (0 < r.freqs + 1); simp; omega, by have := h.f0; show 0 ≤ r.freqs + 1; omega, by have := h.fk; show r.freqs + 1 ≤ ((r.k + 1 : Nat) : Int); omega⟩
def frN (s : Bytes) (st : PS) : PS := if st.fseen then note eTwice st.t.pos (frO s st) else frO s st
theorem decl_freq_eq (hk : st.t.kind = kFreq) : decl s st = (number s 1 99 (frN s st)).bind fun n st => (want s kSemi { st with freq := n }).bind fun _ st => .ok () st := by
  unfold decl
  simp only
  rw [if_pos hk]
  have e : ({ (if (next s st).fseen then note eTwice st.t.pos (next s st) else next s st) with fseen := true } : PS) = frN s st := by
    unfold frN frO
    show ({ (if st.fseen then note eTwice st.t.pos (next s st) else next s st) with fseen := true } : PS) = _
    cases st.fseen with
    | false => rfl
    | true =>
      show ({ note eTwice st.t.pos (next s st) with fseen := true } : PS) = note eTwice st.t.pos { next s st with fseen := true }
      unfold note
      cases hw : st.wrong with
      | none => simp only [next, hw]
      | some x => simp only [next, hw]
  rw [e]

def frF {α : Type} (o : Out α) (n : Int) : Out Unit := o.bind fun _ st => .ok () { st with freq := n }
theorem Says.frF_ {α : Type} {o : Out α} (h : Says s r o) (n : Int) : Says s { r with freq := n } (frF o n) := by
  cases o with
  | bad e p =>
    have h' : SaysBad s r e p := h
    exact ⟨h'.lt, h'.bad, h'.badAt, h'.ne, h'.fk⟩
  | ok a st =>
    have h' : SaysOk s r st := h
    exact ⟨h'.pos.of rfl rfl, ⟨h'.ok.i, h'.ok.pos, h'.ok.more, h'.ok.num, h'.ok.name⟩, h'.deep, h'.loops, h'.bad, h'.wrong, h'.decls, rfl, h'.seen, h'.f0, h'.fk⟩
abbrev Raw.fr (r : Raw) (n : Int) : Raw := { r with freq := n }
/-- The policy's freq is stored. -/
theorem RP.setFreq (h : RP B w g gp tl ts f vr vh vm ms r vd) (n : Int) : RP B (w.setCell ⟨gp, 1, none⟩ (.int .i64 n)) g gp tl ts n vr vh vm ms (r.fr n) vd := by
  have hk : Kept (fun b => b = gp) w (w.setCell ⟨gp, 1, none⟩ (.int .i64 n)) := Kept.one w ⟨gp, 1, none⟩ _
  obtain ⟨N, ht⟩ := h.rd.toks
  have hpg := h.rd.pol.ne_ h.rd.row (by decide)
  have hsl := h.sl.kept hk (fun b hb e => h.sl.ne_row h.rd.pol (by decide) (e ▸ hb))
  exact ⟨⟨h.rd.row.far (fun e => hpg e.symm) _, ⟨N, ht.kept hk (fun b hb e => ht.ne_row h.rd.pol (by decide) (e ▸ hb))⟩, h.rd.tl, h.rd.pol.set_ 1 _, ⟨_, vd, rfl, hsl⟩, h.rd.dl⟩, h.g0, h.p0, hsl, by simpa using h.sz⟩

set_option maxRecDepth 100000 in
set_option maxHeartbeats 4000000 in
theorem rdecl_freq (h : RP B w g gp tl ts f vnil vnil vnil false r vd) (hs : SaysOk s r st) (ht : RToks ts (toks s)) (hk : st.t.kind = kFreq) (hdl : r.decls.length ≤ 900) :
    Calls Tryz.prog 56 #[.pointer (some ⟨g, 0, none⟩)] w (OutDc B w g gp tl ts s r.decls.length (decl s st)) := by
  obtain ⟨x, hx, hof⟩ := SaysOk.tok hs ht
  obtain ⟨gt, ct, rfl, h1, h2, h3, h4, h5, t0, t1, t2⟩ := h.rd.at_ hx
  have hxi : x.is = kFreq := by rw [hof.1, hk]; decide
  have hxp : x.pos = st.t.pos := hof.2.1
  rw [hxi] at t0
  obtain ⟨c0, c1, _, _, _, _, _, _, c8, c9⟩ := h.rd.cells
  have hlt := h.rd.row.lt
  have ff := fun j => h.rd.row.frozen j
  have h8 := h.rd.tl
  have hkk : r.k < ts.length := h3
  have hf0 := hs.f0
  have hfk := hs.fk
  have hsn := hs.seen
  unfold maxLen at h2
  have hnx : Says s r.fq (Out.ok () (frO s st)) := hs.freq_ (by rw [hk]; decide) (by rw [hk]; decide)
  have hk1 : Kg g w (((w.setCell ⟨g, 1, none⟩ (.int .i64 ((r.k : Int) + 1))).setCell ⟨g, 9, none⟩ (.int .i64 (r.freqs + 1))).alloc (.cells #[vs kFreq, vs x.txt, .int .i64 x.pos] 138)).drew :=
    ((((Kept.refl _ w).setCell (p := ⟨g, 1, none⟩) (.inl rfl) _).setCell (p := ⟨g, 9, none⟩) (.inl rfl) _).alloc (.inr (by simp)) _).drew
  have q1 := h.call (r' := r.fq) hk1 ((((h.rd.put 1 (.int .i64 ((r.k : Int) + 1)) (r' := r.nx) rfl rfl).put 9 (.int .i64 (r.freqs + 1)) (r' := r.fq) rfl rfl).alloc (.cells #[vs kFreq, vs x.txt, .int .i64 x.pos] 138)).drewN 1) rfl
  have hnt := rnote_any (e := eTwice) q1.rd hnx (by decide) x.pos
  have hfin : ∀ (W : World) (r2 : Raw), Kept (fun b => B ≤ b) w W → RP B W g gp (.slice (some ⟨gt, 0, none⟩) ts.length ct) ts f vnil vnil vnil false r2 vd → Says s r2 (Out.ok () (frN s st)) → r2.decls = r.decls → True := fun _ _ _ _ _ _ => trivial
  have HT := Lib.hid ht
  have Q1 := Lib.hid q1
  have HK1 := Lib.hid hk1
  have HNT := Lib.hid hnt
  have HNX := Lib.hid hnx
  have HDE := Lib.hid (decl_freq_eq (s := s) hk)
  have HP := Lib.hid h
  have HXP := Lib.hid hxp
  have HFS := Lib.hid hsn
  generalize hk0 : r.k = kq at *
  generalize hLL : ts.length = LL at *
  clear hx hof hs hnx hxi hk hk0 hLL h q1 hk1 ht hnt hfin hxp hsn
  unfold vs at *
  go_enter Tryz.func56, Tryz.ntmps56
  go_wp2
  go_region
  go_upto_if 37 with fail
  go_cut [] (fun wx => Kg g w wx ∧ ∃ r2, RP B wx g gp (.slice (some ⟨gt, 0, none⟩) LL ct) ts f vnil vnil vnil false r2 vd ∧ Says s r2 (Out.ok () (frN s st)) ∧ r2.decls = r.decls)
  case first =>
    by_cases hfs : 0 < r.freqs
    · have e1 : decide (1 < r.freqs + 1) = true := by simp; omega
      have HSN := Lib.hid (show st.fseen = true by rw [HFS.out]; simpa using hfs)
      go_wp2_with fail
      refine HNT.out.mono ?_
      rintro e w2 ⟨rfl, hk2, r2, h2', hs2, hd2⟩
      have F := Lib.hid (And.intro hk2 (And.intro h2' (And.intro hs2 hd2)))
      clear hk2 h2' hs2 hd2
      go_wp2
      go_meet
      obtain ⟨f1, f2, f3, f4⟩ := F.out
      refine ⟨Kg.trans HK1.out f1, r2, Q1.out.call f1 f2 f4, ?_, f4⟩
      unfold frN
      rw [if_pos HSN.out, ← HXP.out]
      exact f3
    · have e1 : decide (1 < r.freqs + 1) = false := by simp; omega
      have HSN := Lib.hid (show ¬ st.fseen = true by rw [HFS.out]; simpa using hfs)
      go_wp2
      go_meet
      refine ⟨HK1.out, r.fq, Q1.out, ?_, rfl⟩
      unfold frN
      rw [if_neg HSN.out]
      exact HNX.out
  case rest =>
    obtain ⟨hk2, r2, hP2, hs2, hd2⟩ := hcut
    clear c0 c1 c8 c9 t0 t1 t2 Q1 HK1 HNT HNX
    have hnum := rnumber_any (hP2.rd.drewN 1) hs2 HT.out 1 99
    rw [hd2] at hnum
    obtain ⟨_, _, _, _, _, _, _, _, c8, _⟩ := hP2.rd.cells
    have HNM := Lib.hid hnum
    have HP2 := Lib.hid hP2
    have HK2 := Lib.hid hk2
    have HD2 := Lib.hid hd2
    clear hnum hP2 hs2 hd2 hk2
    go_wp2_with fail
    go_region_law (first | (go_simp; go_at_call 87; refine HNM.out.mono ?_; rintro e w3 ⟨v, rfl, hk3, hv, r3, h3', hs3, hd3⟩; have p1 := h3'.pol.cell 1; have pf := h3'.pol.frozen 1; have c8' := h3'.cells.2.2.2.2.2.2.2.2.1; have F3 := Lib.hid (And.intro hk3 (And.intro hv (And.intro h3' (And.intro hs3 hd3)))); clear hk3 hv h3' hs3 hd3; simp at p1))
    all_goals
      have hP3 := (HP2.out.call ((Kept.refl _ wc).drewN 1) (HP2.out.rd.drewN 1) rfl).call F3.out.1 F3.out.2.2.1 (F3.out.2.2.2.2.trans HD2.out.symm)
      have hP4 := hP3.setFreq v
      have hk4 : Kept (fun b => B ≤ b) w (w3.setCell ⟨gp, 1, none⟩ (.int .i64 v)) := ((kg_up HK2.out HP.out.g0 HP.out.sz).trans (kg_up ((Kept.refl _ wc).drewN 1) HP2.out.g0 HP2.out.sz)).trans ((kg_up F3.out.1 HP2.out.g0 HP2.out.sz).trans ((Kept.one w3 ⟨gp, 1, none⟩ _).mono (fun b hb => hb ▸ HP2.out.p0)))
      have hsF := F3.out.2.2.2.1.frF_ v
      have hnd := rneed_any hP4.rd hsF HT.out (kd := kSemi) (kr := kSemi) (by decide) (by decide) (by decide) (by decide)
      have hdd : (r3.fr v).decls = r.decls := F3.out.2.2.2.2
      rw [hdd] at hnd
      have hv := F3.out.2.1
      have HND := Lib.hid hnd
      have HP4 := Lib.hid hP4
      have HK4 := Lib.hid hk4
      have HV := Lib.hid hv
      have HDD := Lib.hid hdd
      clear hP3 hP4 hk4 hsF hnd hv hdd p1 pf c8' F3 c8 HNM HP2 HK2 HD2
      unfold vs at *
      go_wp2_with fail
      refine HND.out.mono ?_
      rintro e w5 ⟨x5, rfl, hk5, _, r5, h5', hs5, hd5⟩
      have F := Lib.hid (And.intro hk5 (And.intro h5' (And.intro hs5 hd5)))
      clear hk5 h5' hs5 hd5 HND
      unfold encRTokV vs
      go_wp2
      go_end0
      obtain ⟨f1, f2, f3, f4⟩ := F.out
      rw [HDE.out]
      refine ⟨rfl, HK4.out.trans (kg_up f1 HP4.out.g0 HP4.out.sz), v, vd, r5, HP4.out.call f1 f2 (f4.trans HDD.out.symm), ?_, ?_, by rw [f4]; omega⟩
      · cases hn : number s 1 99 (frN s st) with
        | bad e p =>
          have e1 : numO s 1 99 (Out.ok () (frN s st)) = .bad e p := hn
          rw [e1] at f3
          exact f3
        | ok n st2 =>
          have e1 : numO s 1 99 (Out.ok () (frN s st)) = .ok n st2 := hn
          have ev := HV.out n st2 e1
          rw [e1] at f3
          show Says s r5 ((want s kSemi { st2 with freq := n }).bind _)
          have e2 : wantO s kSemi (frF (Out.ok n st2) v) = want s kSemi { st2 with freq := v } := rfl
          rw [e2, ev] at f3
          cases hw : want s kSemi { st2 with freq := n } with
          | bad e p => rw [hw] at f3; exact f3
          | ok t st3 => rw [hw] at f3; exact f3
      · intro st' e
        obtain ⟨n, st2, e1, e2⟩ := bind_ok e
        obtain ⟨t, st3, e3, e4⟩ := bind_ok e2
        injection e4 with _ e4
        rw [← e4, (want_ok e3).2.2]
        exact HV.out n st2 e1
end
end Go.Proofs.YtemppijblfflgabGreatDoor.Ev
