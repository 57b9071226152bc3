/- The document's answer: its reader: declarations. Printed by a program of ours (genrdecl.py). Conditions: none. -/
import Derived.Deep.DeepCutAuto
import Derived.Deep.CutBlock
import Derived.Test.YtemppijblfflgabGreatDoorZt01
import Derived.Test.YtemppijblfflgabGreatDoorZt12
set_option linter.all false
namespace Go.Proofs.YtemppijblfflgabGreatDoor.Ev
open Go Go.RowKit

def e1O (o : Out Tok) : Out Tok := o.bind fun n st => .ok n (if 0 ≤ find st.decls n.text then note eTwice n.pos st else st)
def e2O (o : Out Tok) : Out Tok := o.bind fun n st => .ok n (if st.decls.length = 8 then note eMany n.pos st else st)
theorem note_dc (e pos : Nat) (st : PS) : (note e pos st).decls = st.decls := by unfold note; cases st.wrong <;> rfl
abbrev Raw.dcl (r : Raw) (d : Decl) : Raw := { r with decls := r.decls ++ [d] }

section
variable {B : Nat} {w w2 : World} {g gp : Nat} {tl : Value} {ts : List RTok} {f : Int} {vr vh vm : Value} {ms : Bool} {r r2 r3 : Raw} {vd : Value} {s : Bytes} {st : PS} {x : RTok} {o : Out Tok}
theorem e1_yes (h : NmT r2.decls x o) (hf : 0 ≤ find r2.decls x.txt) (hs : Says s r3 (noteO eTwice x.pos o)) : Says s r3 (e1O o) := by
  cases o with
  | bad e p => exact hs
  | ok n st =>
    obtain ⟨h1, h2, h3⟩ := h n st rfl
    show SaysOk s r3 (if 0 ≤ find st.decls n.text then note eTwice n.pos st else st)
    rw [h3, ← h2, if_pos hf, ← h1]
    exact hs
theorem e1_no (h : NmT r2.decls x o) (hf : ¬ 0 ≤ find r2.decls x.txt) (hs : Says s r3 o) : Says s r3 (e1O o) := by
  cases o with
  | bad e p => exact hs
  | ok n st =>
    obtain ⟨h1, h2, h3⟩ := h n st rfl
    show SaysOk s r3 (if 0 ≤ find st.decls n.text then note eTwice n.pos st else st)
    rw [h3, ← h2, if_neg hf]
    exact hs
theorem e1_nm {ds : List Decl} (h : NmT ds x o) : NmT ds x (e1O o) := by
  cases o with
  | bad e p => intro t st e; cases e
  | ok n st =>
    obtain ⟨h1, h2, h3⟩ := h n st rfl
    intro t st2 e
    injection e with e1 e2
    subst e1 e2
    refine ⟨h1, h2, ?_⟩
    split
    · rw [note_dc]; exact h3
    · exact h3
theorem e2_yes (h : NmT r2.decls x o) (hf : r2.decls.length = 8) (hs : Says s r3 (noteO eMany x.pos o)) : Says s r3 (e2O o) := by
  cases o with
  | bad e p => exact hs
  | ok n st =>
    obtain ⟨h1, h2, h3⟩ := h n st rfl
    show SaysOk s r3 (if st.decls.length = 8 then note eMany n.pos st else st)
    rw [h3, if_pos hf, ← h1]
    exact hs
theorem e2_no (h : NmT r2.decls x o) (hf : ¬ r2.decls.length = 8) (hs : Says s r3 o) : Says s r3 (e2O o) := by
  cases o with
  | bad e p => exact hs
  | ok n st =>
    obtain ⟨h1, h2, h3⟩ := h n st rfl
    show SaysOk s r3 (if st.decls.length = 8 then note eMany n.pos st else st)
    rw [h3, if_neg hf]
    exact hs
theorem decl_word_eq (hk : st.t.kind ≠ kFreq) : decl s st = (want s kName (next s st)).bind fun n st1 =>
    (number s 1 (declMost st.t.kind) (declNote n st1)).bind fun m st2 => (want s kSemi st2).bind fun _ st3 => .ok () { st3 with decls := st3.decls ++ [⟨declKind st.t.kind, n.text, m⟩] } := by
  unfold decl
  simp only
  rw [if_neg hk]
theorem e21_note {n : Tok} {st1 : PS} : e2O (e1O (.ok n st1)) = .ok n (declNote n st1) := rfl
theorem decl_says {K : Bytes} {v : Int} {r5 : Raw} (hk : st.t.kind = K) (hK : K ≠ kFreq) (hnm : ∀ n st1, wantO s kName (Out.ok () (next s st)) = .ok n st1 → x.txt = n.text)
    (hv : ∀ m st4, numO s 1 (declMost K) (e2O (e1O (wantO s kName (Out.ok () (next s st))))) = .ok m st4 → v = m)
    (h5 : Says s r5 (wantO s kSemi (numO s 1 (declMost K) (e2O (e1O (wantO s kName (Out.ok () (next s st)))))))) : Says s (r5.dcl ⟨declKind K, x.txt, v⟩) (decl s st) := by
  rw [decl_word_eq (by rw [hk]; exact hK), hk]
  have e0 : wantO s kName (Out.ok () (next s st)) = want s kName (next s st) := rfl
  rw [e0] at hnm hv h5
  cases h1 : want s kName (next s st) with
  | bad e p =>
    rw [h1] at h5
    have h' : SaysBad s r5 e p := h5
    exact ⟨h'.lt, h'.bad, h'.badAt, h'.ne, h'.fk⟩
  | ok n st1 =>
    rw [h1, e21_note] at h5 hv
    have ht := hnm n st1 h1
    show Says s _ ((number s 1 (declMost K) (declNote n st1)).bind _)
    have e1 : numO s 1 (declMost K) (Out.ok n (declNote n st1)) = number s 1 (declMost K) (declNote n st1) := rfl
    rw [e1] at h5 hv
    cases h2 : number s 1 (declMost K) (declNote n st1) with
    | bad e p =>
      rw [h2] at h5
      have h' : SaysBad s r5 e p := h5
      exact ⟨h'.lt, h'.bad, h'.badAt, h'.ne, h'.fk⟩
    | ok m st2 =>
      rw [h2] at h5
      have hm := hv m st2 h2
      show Says s _ ((want s kSemi st2).bind _)
      have e2 : wantO s kSemi (Out.ok m st2) = want s kSemi st2 := rfl
      rw [e2] at h5
      cases h3 : want s kSemi st2 with
      | bad e p =>
        rw [h3] at h5
        have h' : SaysBad s r5 e p := h5
        exact ⟨h'.lt, h'.bad, h'.badAt, h'.ne, h'.fk⟩
      | ok t st3 =>
        rw [h3] at h5
        have h' : SaysOk s r5 st3 := h5
        exact ⟨h'.pos.of rfl rfl, ⟨h'.ok.i, h'.ok.pos, h'.ok.more, h'.ok.num, h'.ok.name⟩, h'.deep, h'.loops, h'.bad, h'.wrong, by show r5.decls ++ _ = st3.decls ++ _; rw [h'.decls, ht, hm], h'.freq, h'.seen, h'.f0, h'.fk⟩
theorem decl_freq_keep {st' : PS} (hk : st.t.kind ≠ kFreq) (e : decl s st = .ok () st') : st'.freq = st.freq := by
  rw [decl_word_eq hk] at e
  obtain ⟨n, st1, e1, e⟩ := bind_ok e
  obtain ⟨m, st2, e2, e⟩ := bind_ok e
  obtain ⟨t, st3, e3, e⟩ := bind_ok e
  injection e with _ e
  obtain ⟨t2, st4, e4, e5⟩ := bind_ok (show (want s kNumber (declNote n st1)).bind _ = _ from e2)
  injection e5 with _ e5
  have nf : ∀ (e p : Nat) (z : PS), (note e p z).freq = z.freq := fun e p z => by unfold note; cases z.wrong <;> rfl
  have f0 : st1.freq = st.freq := by rw [(want_ok e1).2.2]; rfl
  have f1 : (declNote n st1).freq = st1.freq := by
    unfold declNote
    simp only
    have nf2 : (if 0 ≤ find st1.decls n.text then note eTwice n.pos st1 else st1).freq = st1.freq := by
      split
      · rw [nf]
      · rfl
    generalize (if 0 ≤ find st1.decls n.text then note eTwice n.pos st1 else st1) = st0 at *
    split
    · rw [nf]; exact nf2
    · exact nf2
  have f2 : st4.freq = (declNote n st1).freq := by rw [(want_ok e4).2.2]; rfl
  have f3 : st2.freq = st4.freq := by
    rw [← e5]
    split
    · rw [nf]
    · rfl
  have f4 : st3.freq = st2.freq := by rw [(want_ok e3).2.2]; rfl
  rw [← e]
  show st3.freq = st.freq
  rw [f4, f3, f2, f1, f0]

/-- A declaration has been appended. -/
theorem RP.plus (h : RP B w g gp tl ts f vr vh vm ms r vd) (d : Decl) {vd' : Value} {n : Nat} {xs ys : List Value} (hn : r.decls.length = n) (hxs : r.decls.flatMap encRDecl = xs) (hys : encRDecl d = ys) (hs2 : Sl (fun b => B ≤ b) w2 87 3 vd' (n + 1) (xs ++ ys))
    (hk2 : Kept (fun b => vd.ownBlock = some b ∨ w.heap.size ≤ b) w w2) (hl : r.decls.length + 1 ≤ 1000) :
    Kept (fun b => B ≤ b) w (w2.setCell ⟨gp, 0, none⟩ vd') ∧ RP B (w2.setCell ⟨gp, 0, none⟩ vd') g gp tl ts f vr vh vm ms (r.dcl d) vd' := by
  subst hn hxs hys
  have hle : ∀ b, vd.ownBlock = some b ∨ w.heap.size ≤ b → B ≤ b := fun b hb => hb.elim (fun hb => h.sl.2 b hb) (fun hb => Nat.le_trans h.sz hb)
  have hno : ∀ {t : TypeId} {cs : List Value} {b : Nat}, Row w b t cs → t ≠ 87 → ¬ (vd.ownBlock = some b ∨ w.heap.size ≤ b) := by
    intro t cs b hr ht hb
    rcases hb with hb | hb
    · exact h.sl.ne_row hr (fun e => ht e.symm) hb
    · have := hr.lt; omega
  have hrow := h.rd.row.kept hk2 (hno h.rd.row (by decide))
  have hpol := h.rd.pol.kept hk2 (hno h.rd.pol (by decide))
  obtain ⟨N, ht⟩ := h.rd.toks
  have htk := ht.kept hk2 (fun b hb => by obtain ⟨cs, hr⟩ := ht.row hb; exact hno hr (by decide))
  have k3 : Kept (fun b => b = gp) w2 (w2.setCell ⟨gp, 0, none⟩ vd') := Kept.one w2 ⟨gp, 0, none⟩ vd'
  have hpg := hpol.ne_ hrow (by decide)
  have hsl := hs2.kept k3 (fun b hb e => hs2.ne_row hpol (by decide) (e ▸ hb))
  have el : (r.dcl d).decls.length = r.decls.length + 1 := by simp
  have ex : (r.dcl d).decls.flatMap encRDecl = r.decls.flatMap encRDecl ++ encRDecl d := by simp
  rw [← el, ← ex] at hsl
  refine ⟨(hk2.mono hle).trans (k3.mono (fun b hb => hb ▸ h.p0)), ⟨?_, h.g0, h.p0, hsl, by have := hk2.size; have := h.sz; simp; omega⟩⟩
  exact ⟨hrow.far (fun e => hpg e.symm) _, ⟨N, htk.kept k3 (fun b hb e => htk.ne_row hpol (by decide) (e ▸ hb))⟩, h.rd.tl, hpol.set_ 0 _, ⟨_, vd', rfl, hsl⟩, by rw [el]; exact hl⟩
end
theorem RP.farD {B : Nat} {w : World} {g gp : Nat} {tl : Value} {ts : List RTok} {f : Int} {vr vh vm : Value} {ms : Bool} {r : Raw} {vd : Value} (h : RP B w g gp tl ts f vr vh vm ms r vd) {D : Nat} {cs : List Value} (hD : Row w D 87 cs) (hne : vd.ownBlock ≠ some D) (i : Nat) (u : Value) :
    RP B (w.setCell ⟨D, i, none⟩ u) g gp tl ts f vr vh vm ms r vd := by
  have hk : Kept (fun b => b = D) w (w.setCell ⟨D, i, none⟩ u) := Kept.one w ⟨D, i, none⟩ _
  obtain ⟨N, ht⟩ := h.rd.toks
  have hsl := h.sl.kept hk (fun b hb e => hne (e ▸ hb))
  exact ⟨⟨h.rd.row.far (h.rd.row.ne_ hD (by decide)) _, ⟨N, ht.kept hk (fun b hb e => ht.ne_row hD (by decide) (e ▸ hb))⟩, h.rd.tl, h.rd.pol.far (h.rd.pol.ne_ hD (by decide)) _, ⟨_, vd, rfl, hsl⟩, h.rd.dl⟩, h.g0, h.p0, hsl, by simpa using h.sz⟩
theorem infoRDecl : (Tryz.prog.info? 87).map (fun i => (i.zero, i.size, i.bytes)) = some (some (.agg #[vs [], vs [], .int .i64 0]), 3, 40) := by kernel_rfl

section
variable {B : Nat} {w : World} {g gp : Nat} {tl : Value} {ts : List RTok} {f : Int} {r : Raw} {vd : Value} {s : Bytes} {st : PS}

set_option maxRecDepth 100000 in
set_option maxHeartbeats 8000000 in
theorem rdecl_word {K : Bytes} (hKq : K = kQueue ∨ K = kGhost ∨ K = kVar) (h : RP B w g gp tl ts f vnil vnil vnil false r vd) (hs : SaysOk s r st) (ht : RToks ts (toks s)) (hk : st.t.kind = K) (hdl : r.decls.length ≤ 900) (hfq : f = st.freq) :
    Calls Tryz.prog 56 #[.pointer (some ⟨g, 0, none⟩)] w (OutDc B w g gp tl ts s r.decls.length (decl s st)) := by
  obtain ⟨x, hx, hof⟩ := SaysOk.tok hs ht
  obtain ⟨gt, ct, rfl, h1, h2, h3, h4, h5, t0, t1, t2⟩ := h.rd.at_ hx
  have hKf : (K == kFreq) = false := by rcases hKq with rfl | rfl | rfl <;> decide
  have hKf2 : decide (K = kFreq) = false := by rcases hKq with rfl | rfl | rfl <;> decide
  have hKe : K ≠ kEnd := by rcases hKq with rfl | rfl | rfl <;> decide
  have hKn : K ≠ kNone := by rcases hKq with rfl | rfl | rfl <;> decide
  have hKr : rKind K = K := by rcases hKq with rfl | rfl | rfl <;> decide
  have hKd : rdeclWord (declKind K) = K := by rcases hKq with rfl | rfl | rfl <;> decide
  have hKf3 : K ≠ kFreq := by rcases hKq with rfl | rfl | rfl <;> decide
  have HKD := Lib.hid (And.intro hKd hKf3)
  have hxi : x.is = K := by rw [hof.1, hk]; exact hKr
  rw [hxi] at t0
  obtain ⟨c0, c1, _⟩ := h.rd.cells
  have hlt := h.rd.row.lt
  have ff := fun j => h.rd.row.frozen j
  have h8 := h.rd.tl
  have hkk : r.k < ts.length := h3
  unfold maxLen at h2
  have hnx : Says s r.nx (Out.ok () (next s st)) := hs.next (by rw [hk]; exact hKe) (by rw [hk]; exact hKn)
  have hk1 : Kg g w ((w.setCell ⟨g, 1, none⟩ (.int .i64 ((r.k : Int) + 1))).alloc (.cells #[vs K, vs x.txt, .int .i64 x.pos] 138)).drew :=
    (((Kept.refl _ w).setCell (p := ⟨g, 1, none⟩) (.inl rfl) _).alloc (.inr (by simp)) _).drew
  have q1 := h.call (r' := r.nx) hk1 (((h.rd.put 1 (.int .i64 ((r.k : Int) + 1)) (r' := r.nx) rfl rfl).alloc (.cells #[vs K, vs x.txt, .int .i64 x.pos] 138)).drewN 1) rfl
  have b1 : Row ((w.setCell ⟨g, 1, none⟩ (.int .i64 ((r.k : Int) + 1))).alloc (.cells #[vs K, vs x.txt, .int .i64 x.pos] 138)).drew w.heap.size 138 [vs K, vs x.txt, .int .i64 x.pos] := by
    have := Row.new (w.setCell ⟨g, 1, none⟩ (.int .i64 ((r.k : Int) + 1))) 138 [vs K, vs x.txt, .int .i64 x.pos]
    simp only [World.size_setCell] at this
    exact this
  have hnd := rneed_any q1.rd hnx ht (kd := kName) (kr := kName) (by decide) (by decide) (by decide) (by decide)
  have HT := Lib.hid ht
  have Q1 := Lib.hid q1
  have HK1 := Lib.hid hk1
  have B1 := Lib.hid b1
  have HND := Lib.hid hnd
  have HP := Lib.hid h
  have HST := Lib.hid (And.intro hk hfq)
  generalize hk0 : r.k = kq at *
  generalize hLL : ts.length = LL at *
  clear hx hof hs hnx hxi hk hk0 hLL h q1 hk1 ht hnd b1 hfq hKe hKn hKr hKd hKf3
  unfold vs at *
  go_enter Tryz.func56, Tryz.ntmps56
  go_wp2
  go_region
  go_wp2_with fail
  refine HND.out.mono ?_
  rintro e w2 ⟨x2, rfl, hk2, hx2, r2, h2', hs2, hd2⟩
  have q2 := Q1.out.call hk2 h2' hd2
  have b2 := row_kg hk2 B1.out (B1.out.ne_ Q1.out.rd.row (by decide))
  have hnm : NmT r2.decls x2 (wantO s kName (Out.ok () (next s st))) := fun t st9 ho => wantO_nm ho (hx2 t st9 ho) hs2
  have kA := (Kg.trans HK1.out hk2).alloc (.inr (HK1.out.trans hk2).size) (.cells #[vs x2.is, vs x2.txt, .int .i64 x2.pos] 138)
  have qA := (q2.call (((Kept.refl (fun b => b = g ∨ w2.heap.size ≤ b) w2).alloc (.inr (Nat.le_refl _)) (.cells #[vs x2.is, vs x2.txt, .int .i64 x2.pos] 138)).drewN 1) ((q2.rd.alloc (.cells #[vs x2.is, vs x2.txt, .int .i64 x2.pos] 138)).drewN 1) rfl)
  have bA := (b2.alloc (.cells #[vs x2.is, vs x2.txt, .int .i64 x2.pos] 138)).drewN 1
  have bB := (Row.new w2 138 [vs x2.is, vs x2.txt, .int .i64 x2.pos])
  have hfind := rfind_any x2.txt gp r2.decls vd _ qA.sl qA.rd.dl qA.rd.pol.lt (qA.rd.pol.cell 0)
  have hng : ¬ g = w2.heap.size := by have := q2.rd.row.lt; omega
  have c8 := ((q2.rd.alloc (.cells #[vs x2.is, vs x2.txt, .int .i64 x2.pos] 138)).cells).2.2.2.2.2.2.2.2.1
  have d1 := bB.cell 1
  simp at d1
  have HF := Lib.hid hfind
  have QA := Lib.hid qA
  have KA := Lib.hid (kA.drewN 1)
  have BA := Lib.hid bA
  have BB := Lib.hid (bB.drewN 1)
  have HS2 := Lib.hid hs2
  have HNM := Lib.hid hnm
  have HTX := Lib.hid (fun t st9 ho => (hnm t st9 ho).2.1)
  have HD2 := Lib.hid (show r2.decls = r.decls from hd2)
  clear c0 c1 t0 t1 t2 ff Q1 HK1 HND B1 q2 b2 hnm kA qA bA bB hfind hs2 hd2 hx2 h2' hk2
  unfold encRTokV
  unfold vs at *
  go_wp2_with fail
  (refine wp_tail 6 (by kernel_rfl) (by kernel_rfl) ?_; simp only [List.take_succ_cons, List.take_zero, List.drop_succ_cons, List.drop_zero]; repeat still_step)
  refine wpStill_nil ?_
  go_wp2_with fail
  refine HF.out.mono ?_
  rintro e w3 ⟨rfl, hb3⟩
  have q3 := QA.out.call (kg_below hb3) (QA.out.rd.kg (kg_below hb3) (hb3.block g QA.out.rd.row.lt)) rfl
  have b3 := (hb3.block _ BA.out.lt).trans BA.out
  have b3' := (hb3.block _ BB.out.lt).trans BB.out
  have d2 := Row.cell b3' 2
  simp at d2
  have n1 := rnote_any (e := eTwice) q3.rd HS2.out (by decide) x2.pos
  have HN1 := Lib.hid n1
  have Q3 := Lib.hid q3
  have K3 := Lib.hid (Kg.trans KA.out (kg_below hb3))
  have B3 := Lib.hid (show Row w3 w.heap.size 138 [vs K, vs x.txt, .int .i64 x.pos] from b3)
  have B3' := Lib.hid (show Row w3 w2.heap.size 138 [vs x2.is, vs x2.txt, .int .i64 x2.pos] from b3')
  clear HF QA KA BA BB n1 q3 b3 b3' hb3 c8 d1
  unfold vs at *
  go_upto_if 61 with fail
  go_cut [] (fun wx => Kg g w wx ∧ Row wx w.heap.size 138 [vs K, vs x.txt, .int .i64 x.pos] ∧ Row wx w2.heap.size 138 [vs x2.is, vs x2.txt, .int .i64 x2.pos] ∧ ∃ r3, RP B wx g gp (.slice (some ⟨gt, 0, none⟩) LL ct) ts f vnil vnil vnil false r3 vd ∧ Says s r3 (e1O (wantO s kName (Out.ok () (next s st)))) ∧ r3.decls = r.decls)
  case first =>
    by_cases hf : 0 ≤ find r2.decls x2.txt
    · have HFF := Lib.hid hf
      go_wp2_with fail
      refine HN1.out.mono ?_
      rintro e w4 ⟨rfl, hk4, r4, h4', hs4, hd4⟩
      have F := Lib.hid (And.intro hk4 (And.intro h4' (And.intro hs4 hd4)))
      clear hk4 h4' hs4 hd4
      go_wp2
      go_meet
      obtain ⟨f1, f2, f3, f4⟩ := F.out
      exact ⟨Kg.trans K3.out f1, row_kg f1 B3.out (B3.out.ne_ Q3.out.rd.row (by decide)), row_kg f1 B3'.out (B3'.out.ne_ Q3.out.rd.row (by decide)), r4, Q3.out.call f1 f2 f4, e1_yes HNM.out HFF.out f3, f4.trans HD2.out⟩
    · have HFF := Lib.hid hf
      go_wp2
      go_meet
      exact ⟨K3.out, B3.out, B3'.out, r2, Q3.out, e1_no HNM.out (by have := HFF.out; omega) HS2.out, HD2.out⟩
  case rest =>
    obtain ⟨k4, b4, b4', r4, q4, hs4, hd4⟩ := hcut
    have HNM4 := Lib.hid (show NmT r4.decls x2 (e1O (wantO s kName (Out.ok () (next s st)))) from by rw [hd4, ← HD2.out]; exact e1_nm HNM.out)
    have n2 := rnote_any (e := eMany) q4.rd hs4 (by decide) x2.pos
    obtain ⟨av, cv, rfl⟩ := q4.sl.any_
    have c8 := q4.rd.cells.2.2.2.2.2.2.2.2.1
    have p0 := q4.rd.pol.cell 0
    have d2' := Row.cell b4' 2
    simp at d2' p0
    have HN2 := Lib.hid n2
    have Q4 := Lib.hid q4
    have K4 := Lib.hid k4
    have B4 := Lib.hid b4
    have B4' := Lib.hid b4'
    have HS4 := Lib.hid hs4
    have HD4 := Lib.hid hd4
    clear n2 q4 k4 b4 b4' hs4 hd4 HN1 Q3 K3 B3 B3' HNM HS2 HD2 d2
    unfold vs at *
    go_upto_if 74 with fail
    go_cut [] (fun wx => Kg g w wx ∧ Row wx w.heap.size 138 [vs K, vs x.txt, .int .i64 x.pos] ∧ Row wx w2.heap.size 138 [vs x2.is, vs x2.txt, .int .i64 x2.pos] ∧ ∃ r5, RP B wx g gp (.slice (some ⟨gt, 0, none⟩) LL ct) ts f vnil vnil vnil false r5 (.slice av r4.decls.length cv) ∧ Says s r5 (e2O (e1O (wantO s kName (Out.ok () (next s st))))) ∧ r5.decls = r4.decls)
    case first =>
      by_cases hf : r4.decls.length = 8
      · have HFF := Lib.hid hf
        have e1 : ((r4.decls.length : Int) == 8) = true := by simp; omega
        have e2 : decide ((r4.decls.length : Int) = 8) = true := by simp; omega
        clear hf
        go_wp2_with fail
        refine HN2.out.mono ?_
        rintro e w5 ⟨rfl, hk5, r5, h5', hs5, hd5⟩
        have F := Lib.hid (And.intro hk5 (And.intro h5' (And.intro hs5 hd5)))
        clear hk5 h5' hs5 hd5
        go_wp2
        go_meet
        obtain ⟨f1, f2, f3, f4⟩ := F.out
        exact ⟨Kg.trans K4.out f1, row_kg f1 B4.out (B4.out.ne_ Q4.out.rd.row (by decide)), row_kg f1 B4'.out (B4'.out.ne_ Q4.out.rd.row (by decide)), r5, Q4.out.call f1 f2 f4, e2_yes HNM4.out HFF.out f3, f4⟩
      · have HFF := Lib.hid hf
        have e1 : ((r4.decls.length : Int) == 8) = false := by simp; omega
        have e2 : decide ((r4.decls.length : Int) = 8) = false := by simp; omega
        clear hf
        go_wp2
        go_meet
        exact ⟨K4.out, B4.out, B4'.out, r4, Q4.out, e2_no HNM4.out HFF.out HS4.out, rfl⟩
    case rest =>
      obtain ⟨k5, b5, b5', r5, q5, hs5, hd5⟩ := hcut
      have u0 := Row.cell b5 0
      have u1 := Row.cell b5' 1
      simp at u0 u1
      have hdr5 : r5.decls = r.decls := hd5.trans HD4.out
      go_upto_region 14 with fail
      go_cut [81] (fun s81 wx => s81 = .bool (K == kVar) ∧ wx = wc)
      case first =>
        cases hv : (K == kVar)
        all_goals
          have hv2 := hv
          rw [Bool.eq_iff_iff, beq_iff_eq] at hv2
          have HV := Lib.hid hv
          go_wp2
          go_meet
          exact ⟨by simpa using hv2, rfl⟩
      obtain ⟨rfl, rfl⟩ := hcut
      go_upto_if 81 with fail
      go_cut [4] (fun s4 wx => s4 = .int .i64 (declMost K) ∧ wx = wc)
      case first =>
        cases hv : (K == kVar)
        all_goals
          have HV := Lib.hid (show decide (K = kVar) = (K == kVar) by rw [Bool.eq_iff_iff, decide_eq_true_iff, beq_iff_eq])
          rw [hv] at HV
          clear hv
          go_wp2
          go_meet
          have := HV.out
          simp at this
          exact ⟨by simp [declMost, this], rfl⟩
      obtain ⟨rfl, rfl⟩ := hcut
      have hnA := rnumber_any (q5.rd.drewN 1) hs5 HT.out 1 (declMost K)
      have hnB := rnumber_any ((q5.rd.alloc (.cells #[vs [], vs [], .int .i64 0] 87)).drewN 1) hs5 HT.out 1 (declMost K)
      have hA : ∀ w6, Kg g (wc.drewN 1) w6 → w6.cell? ⟨w.heap.size, 0, none⟩ = some (vs K) ∧ w6.cell? ⟨w2.heap.size, 1, none⟩ = some (vs x2.txt) := fun w6 hk => by
        have y0 := Row.cell (row_kg hk (b5.drewN 1) (b5.ne_ q5.rd.row (by decide))) 0
        have y1 := Row.cell (row_kg hk (b5'.drewN 1) (b5'.ne_ q5.rd.row (by decide))) 1
        exact ⟨y0, y1⟩
      have hB : ∀ w6, Kg g ((wc.alloc (.cells #[vs [], vs [], .int .i64 0] 87)).drewN 1) w6 → w6.cell? ⟨w.heap.size, 0, none⟩ = some (vs K) ∧ w6.cell? ⟨w2.heap.size, 1, none⟩ = some (vs x2.txt) ∧ Row w6 wc.heap.size 87 [vs [], vs [], .int .i64 0] := fun w6 hk => by
        have hra := (q5.rd.alloc (.cells #[vs [], vs [], .int .i64 0] 87)).drewN 1
        have y0 := Row.cell (row_kg hk ((b5.alloc (.cells #[vs [], vs [], .int .i64 0] 87)).drewN 1) (b5.ne_ q5.rd.row (by decide))) 0
        have y1 := Row.cell (row_kg hk ((b5'.alloc (.cells #[vs [], vs [], .int .i64 0] 87)).drewN 1) (b5'.ne_ q5.rd.row (by decide))) 1
        have y2 := row_kg hk ((Row.new wc 87 [vs [], vs [], .int .i64 0]).drewN 1) (fun e => (Row.new wc 87 [vs [], vs [], .int .i64 0]).ne_ (q5.rd.alloc (.cells #[vs [], vs [], .int .i64 0] 87)).row (by decide) e)
        exact ⟨y0, y1, y2⟩
      have hb5 : ¬ w.heap.size = wc.heap.size := by have := Row.lt b5; omega
      have hb6 : ¬ w2.heap.size = wc.heap.size := by have := Row.lt b5'; omega
      have l5 := Row.lt b5
      have l5' := Row.lt b5'
      have HNA := Lib.hid hnA
      have HNB := Lib.hid hnB
      have HA := Lib.hid hA
      have HB := Lib.hid hB
      have Q5 := Lib.hid q5
      have K5 := Lib.hid k5
      have HD5 := Lib.hid hdr5
      have HD5' := Lib.hid (show r5.decls = r4.decls from hd5)
      clear hnA hnB hA hB q5 k5 b5 b5' hs5 hd5 hdr5 HN2 Q4 K4 B4 B4' HS4 HNM4 c8 p0 d2'
      unfold vs at *
      go_upto_region 16 with fail
      go_cut [5] (fun s5 wx => ∃ (D : Nat) (v : Int) (r6 : Raw), s5 = .pointer (some ⟨D, 0, none⟩) ∧ w.heap.size ≤ D ∧ Kg g w wx ∧ Row wx D 87 [vs K, vs x2.txt, .int .i64 v] ∧ RP B wx g gp (.slice (some ⟨gt, 0, none⟩) LL ct) ts f vnil vnil vnil false r6 (.slice av r4.decls.length cv) ∧
        Says s r6 (numO s 1 (declMost K) (e2O (e1O (wantO s kName (Out.ok () (next s st)))))) ∧ (∀ n st9, numO s 1 (declMost K) (e2O (e1O (wantO s kName (Out.ok () (next s st))))) = .ok n st9 → v = n) ∧ r6.decls = r.decls)
      case first =>
        go_region_law (first | (go_simp; go_at_call 87; refine HNA.out.mono ?_; rintro e w6 ⟨v, rfl, hk6, hv, r6, h6', hs6, hd6⟩; have F6 := Lib.hid (And.intro hk6 (And.intro hv (And.intro h6' (And.intro hs6 hd6)))); have z6 := HA.out w6 hk6; obtain ⟨y0, y1⟩ := z6; have ly : wc.heap.size ≤ w6.heap.size := hk6.size; have n6 : ¬ w2.heap.size = w6.heap.size := (by omega); have n7 : ¬ w.heap.size = w6.heap.size := (by omega); have m6 : w2.heap.size < w6.heap.size := (by omega); have m7 : w.heap.size < w6.heap.size := (by omega); clear hk6 hv h6' hs6 hd6) | (go_simp; go_at_call 87; refine HNB.out.mono ?_; rintro e w6 ⟨v, rfl, hk6, hv, r6, h6', hs6, hd6⟩; have F6 := Lib.hid (And.intro hk6 (And.intro hv (And.intro h6' (And.intro hs6 hd6)))); have z6 := HB.out w6 hk6; obtain ⟨y0, y1, y2⟩ := z6; have yl := y2.lt; have yf := fun j => y2.frozen j; have e0 := y2.cell 0; have e1 := y2.cell 1; have e2 := y2.cell 2; have Y2 := Lib.hid y2; simp at e0 e1 e2; clear hk6 hv h6' hs6 hd6 y2))
        all_goals go_wp2
        all_goals go_meet
        all_goals
          obtain ⟨f1, f2, f3, f4, f5⟩ := F6.out
          have hsz0 : w.heap.size ≤ wc.heap.size := K5.out.size
          first
          | (have kA : Kg g wc w6 := Kg.trans ((Kept.refl _ wc).drewN 1) f1
             have pA := Q5.out.call kA f3 f5
             refine ⟨w6.heap.size, v, r6, rfl, Nat.le_trans hsz0 kA.size, (Kg.trans K5.out kA).alloc (.inr (Nat.le_trans hsz0 kA.size)) _, Row.new w6 _ _, pA.call ((Kept.refl (fun b => b = g ∨ w6.heap.size ≤ b) w6).alloc (.inr (Nat.le_refl _)) _) (f3.alloc _) rfl, f4, f2, f5.trans HD5.out⟩)
          | (have kB : Kg g wc w6 := Kg.trans (((Kept.refl (fun b => b = g ∨ wc.heap.size ≤ b) wc).alloc (.inr (Nat.le_refl _)) (.cells #[vs [], vs [], .int .i64 0] 87)).drewN 1) f1
             have pB := Q5.out.call kB f3 f5
             have hne : (Value.slice av r4.decls.length cv).ownBlock ≠ some wc.heap.size := fun e => by have := Q5.out.sl.lt e; omega
             have z0 := Y2.out.set_ 0 (vs K)
             have z1 := z0.set_ 1 (vs x2.txt)
             have p2 := ((pB.farD Y2.out hne 0 (vs K)).farD z0 hne 1 (vs x2.txt)).farD z1 hne 2 (.int .i64 v)
             exact ⟨wc.heap.size, v, r6, rfl, hsz0, (((Kg.trans K5.out kB).setCell (p := ⟨wc.heap.size, 0, none⟩) (.inr hsz0) _).setCell (p := ⟨wc.heap.size, 1, none⟩) (.inr hsz0) _).setCell (p := ⟨wc.heap.size, 2, none⟩) (.inr hsz0) _, z1.set_ 2 (.int .i64 v), p2, f4, f2, f5.trans HD5.out⟩)
      case rest =>
        obtain ⟨D, v, r6, rfl, hD, k6, y6, q6, hs6, hv6, hd6⟩ := hcut
        clear HNA HNB HA HB u0 u1 hb5 hb6 l5 l5' Q5 K5
        have hnd := rneed_any q6.rd hs6 HT.out (kd := kSemi) (kr := kSemi) (by decide) (by decide) (by decide) (by decide)
        have HND := Lib.hid hnd
        have Q6 := Lib.hid q6
        have K6 := Lib.hid k6
        have Y6 := Lib.hid y6
        have HV6 := Lib.hid hv6
        have HD6 := Lib.hid hd6
        clear hnd q6 k6 y6 hs6 hv6 hd6
        unfold vs at *
        go_wp2_with fail
        refine HND.out.mono ?_
        rintro e w7 ⟨x7, rfl, hk7, _, r7, h7', hs7, hd7⟩
        have q7 := Q6.out.call hk7 h7' hd7
        have y7 := row_kg hk7 Y6.out (Y6.out.ne_ Q6.out.rd.row (by decide))
        have hne7 : D ≠ g := Y6.out.ne_ Q6.out.rd.row (by decide)
        have hlen7 : r7.decls.length = r4.decls.length := congrArg List.length (hd7.trans (HD6.out.trans (HD5.out.symm.trans HD5'.out)))
        have K7 := Lib.hid (Kg.trans K6.out hk7)
        have D7 := Lib.hid (show r7.decls = r.decls from hd7.trans HD6.out)
        have HS7 := Lib.hid hs7
        have q10 : RP B ((w7.alloc (.cells #[vs K, vs x2.txt, .int .i64 v] 87)).drew) g gp (.slice (some ⟨gt, 0, none⟩) LL ct) ts f vnil vnil vnil false r7 (.slice av r4.decls.length cv) := q7.call (((Kept.refl (fun b => b = g ∨ w7.heap.size ≤ b) w7).alloc (.inr (Nat.le_refl _)) _).drew) ((q7.rd.alloc _).drewN 1) rfl
        have s1 := q10.sl
        rw [hlen7] at s1
        have hwn : B ≤ ((w7.alloc (.cells #[vs K, vs x2.txt, .int .i64 v] 87)).drew).heap.size := q10.sz
        have qs2 := cells_new w7 [vs K, vs x2.txt, .int .i64 v] 87
        have qs3 : ∀ u ∈ [vs K, vs x2.txt, .int .i64 v], u.oneCell' = true := by intro u hu; simp at hu; rcases hu with rfl | rfl | rfl <;> rfl
        have hl4 : r4.decls.length ≤ 999 := by rw [← hlen7, D7.out]; omega
        have qq4 : r4.decls.length + 1 ≤ maxLen := by unfold maxLen; omega
        have qq5 : (r4.decls.length + 1) * 40 ≤ 140737488355328 := by omega
        have pf1 : (w7.alloc (.cells #[vs K, vs x2.txt, .int .i64 v] 87)).drew.frozen? ⟨gp, 0, none⟩ = false := q10.rd.pol.frozen 0
        have pn : ¬ ((Value.slice av r4.decls.length cv).ownBlock = some gp ∨ ((w7.alloc (.cells #[vs K, vs x2.txt, .int .i64 v] 87)).drew).heap.size ≤ gp) := by
          rintro (hb | hb)
          · exact q10.sl.ne_row q10.rd.pol (by decide) hb
          · exact absurd q10.rd.pol.lt (Nat.not_lt.2 hb)
        have gn : ¬ ((Value.slice av r4.decls.length cv).ownBlock = some g ∨ ((w7.alloc (.cells #[vs K, vs x2.txt, .int .i64 v] 87)).drew).heap.size ≤ g) := by
          rintro (hb | hb)
          · exact q10.sl.ne_row q10.rd.row (by decide) hb
          · exact absurd q10.rd.row.lt (Nat.not_lt.2 hb)
        have b8 := q10.rd.cells.2.2.2.2.2.2.2.2.1
        have b0 := q10.rd.pol.cell 0
        have c8 := q7.rd.cells.2.2.2.2.2.2.2.2.1
        have p0 := q7.rd.pol.cell 0
        have p0l := q7.rd.pol.lt
        have z0 := y7.cell 0
        have z1 := y7.cell 1
        have z2 := y7.cell 2
        have zl := y7.lt
        have zr := q7.rd.row.lt
        have S1 := Lib.hid s1
        have HWN := Lib.hid hwn
        have QS2 := Lib.hid qs2
        have QS3 := Lib.hid qs3
        have PN := Lib.hid pn
        have GN := Lib.hid gn
        have Q10 := Lib.hid q10
        have HLEN7 := Lib.hid hlen7
        obtain ⟨i0, hi0, hzz0, hzz1, hzz2⟩ := info_parts infoRDecl
        simp only [List.getElem?_cons_zero] at b0
        simp at p0 z0 z1 z2
        clear s1 hwn qs2 qs3 pn gn q10 hk7 h7' hs7 hd7 q7 y7 HND Q6 K6 Y6 hlen7
        unfold encRTokV
        unfold vs at *
        go_wp2_with fail
        go_region_law (first
          | (refine step_append1 Tryz.underlying80 hi0 hzz0 hzz1 hzz2 rfl (by decide) S1.out HWN.out rfl _ _ (by rfl) (by rfl) ⟨w7.heap.size, 0, none⟩ 1 1 [.string ⟨K.toArray⟩, .string ⟨x2.txt.toArray⟩, .int .i64 v] (by rfl) (by rfl) QS2.out QS3.out qq4 qq5 (by omega) ?_; intro g2 cap2 w11 hs2 hk2 hloc; have e1 := (hk2.cell (p := ⟨g, 8, none⟩) GN.out).trans b8; have e0 := (hk2.cell (p := ⟨gp, 0, none⟩) PN.out).trans b0; have e2 := (hk2.frozen (p := ⟨gp, 0, none⟩) PN.out).trans pf1; have Hs2 := Lib.hid hs2; have Hk2 := Lib.hid hk2; clear hs2 hk2 hloc))
        all_goals
          go_wp2
          go_end0
          have hf := Q10.out.plus ⟨declKind K, x2.txt, v⟩ HLEN7.out rfl (show encRDecl ⟨declKind K, x2.txt, v⟩ = [vs K, vs x2.txt, .int .i64 v] by unfold encRDecl; rw [HKD.out.1]) Hs2.out Hk2.out (by rw [HLEN7.out]; omega)
          have ek : Kept (fun b => B ≤ b) w7 ((w7.alloc (.cells #[vs K, vs x2.txt, .int .i64 v] 87)).drew) := ((Kept.refl _ w7).alloc (Nat.le_trans HP.out.sz K7.out.size) _).drew
          have emost : declMost kQueue = 50 := by decide
          refine ⟨rfl, ((kg_up K7.out HP.out.g0 HP.out.sz).trans ek).trans hf.1, f, _, _, hf.2, decl_says HST.out.1 HKD.out.2 HTX.out HV6.out HS7.out, fun st' e => ?_, ?_⟩
          · rw [decl_freq_keep (by rw [HST.out.1]; exact HKD.out.2) e]
            exact HST.out.2
          · have := congrArg List.length D7.out
            simp
            omega
end
end Go.Proofs.YtemppijblfflgabGreatDoor.Ev
