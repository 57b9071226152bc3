/- engine.Access: walked. The laws' own small calls: pick, same, at. The laws' own small calls: at, without, front. The laws' own small calls: without. engine.Remove: walked. What is the engine's, told anew. The laws' own small calls: load, told. evictorkeep.figures: walked. What a row's list of variables gives a walk: one at a time, out of the midst of the list. After the library's LaidTwo, LaidTab. Over any program. What a row's list gives this claim's walks: the errors and the words, where they lie. A law's frame: its arguments read as they did; a world in which the listed variables hold what they are laid as. An engine in a law's loop, and the law's own lists beside it. Two engines in a law's loop; single calls of one. Conditions: none. -/
import Derived.Deep.RegionWith
import Derived.Laws.IdiomStrings
import Derived.IntWalk
import Derived.Laws.Concat
import Derived.Deep.DrawnRows
import Derived.Stop.LaidErr
import Derived.Lib.LaidTab
import Derived.LaidHandle
import Derived.LaidLaws
import Derived.Test.YtemppijblfflgaaGreatDoorRows
import Derived.Test.YtemppijblfflgaaGreatDoorCards
import Derived.Test.YtemppijblfflgaaGreatDoorTie
import Derived.ProofKit
import Derived.OpenShut
import Derived.Carry
import Derived.Deep.DeepHandedRow
import Derived.Deep.DeepWitnessRowRef
import Derived.Lib.LaidIn
import Derived.Test.YtemppijblfflgaaGreatDoorZc02
import Derived.Test.YtemppijblfflgaaGreatDoorZc16
set_option linter.all false
set_option linter.unusedSimpArgs false
set_option linter.unusedVariables false
namespace Go.Proofs.YtemppijblfflgaaGreatDoor.Ev
open Go Go.RowKit

section
variable {B : Nat} {ea : Nat → Addr} {S : Nat → Prop} {w : World} {ge : Nat} {e : Eng}

/-- Run, of an engine, on a clone of its state. -/
theorem erun_any {gg gs ga gp bm bc loops gs' ga' : Nat} {vd vva vva' : Value} {SA SA' : Nat → Prop} {A A' : Arena} {ns : List (List Nat)} {w1 : World} (he : Env B ea w) (h : EngP S w ge e gg gs ga gp bm bc loops vd vva SA A ns)
    (hk : Kept (fun b => w.heap.size ≤ b) w w1) (hst : StB w.heap.size w1 gs' ga' vva' SA' A' e.s.vars) (hA : AInv A' ns e.s.q) (ev key : Int) :
    Calls Tryz.prog 37 #[.pointer (some ⟨gg, 0, none⟩), .pointer (some ⟨gs', 0, none⟩), .int .i64 ev, .int .u64 key] w1 (OutRun w.heap.size ea w1 gs' e.p (exec e.p key (ruleFor e.p ev) ⟨e.s, []⟩)) := by
  have hE1 := he.kept hk (fun b hb => Nat.le_trans he.size hb)
  have hc := (h.prog.code.mono_ (S' := fun b => b < w.heap.size) (fun b hb _ => hb)).kept_ hk (fun b hb _ => by omega)
  obtain ⟨M, m1, m2⟩ := hc.map
  exact run_any h.pw (hE1.errC he.size) (h.prog.ro.kept hk (fun b hb => hb)) hst hA h.si hk.size hc.lo m1 (m2 ev)

set_option maxRecDepth 100000 in
set_option maxHeartbeats 4000000 in
theorem eacc_err (he : Env B ea w) (ho : ErrObj B ea w) (h0 : EngR S w ge e) (hS : ∀ b, S b → b < w.heap.size) (key : Int) {k : Nat} (hx : exec e.p key (ruleFor e.p (whereQ e.s key)) ⟨e.s, []⟩ = .error k) :
    Calls Tryz.prog 20 #[.pointer (some ⟨ge, 0, none⟩), .int .u64 key] w (OutAcc S w ge (.err k) e.p e) := by
  obtain ⟨k1, k2⟩ := exec_err hx
  have h0' := h0
  obtain ⟨gg, gs, ga, gp, bm, bc, loops, vd, vva, SA, A, ns, h⟩ := h0'
  obtain ⟨vl, vf, vq, bm2, har⟩ := h.ar
  have hwh := where_any har h.inv.ok key
  have eq1 : (⟨e.s.q, e.s.vars⟩ : St) = e.s := rfl
  have hwq := h.inv.where_ key e.s.vars
  rw [eq1] at hwq
  rw [hwq] at hwh
  have hcl := sclone_any h.ar h.srow h.vars h.inv (by have := h.si.v; have := h.pw.decls.len; omega)
  have hq := whereQ_cases h.si key
  have hrun := fun gs' ga' vva' SA' A' w1 => @erun_any B ea S w ge e gg gs ga gp bm bc loops gs' ga' vd vva vva' SA SA' A A' ns w1 he h
  have c0 := h.row.cell 0
  have c1 := h.row.cell 1
  have s0 := h.srow.cell 0
  have r1 := h.row.lt
  have r2 := h.srow.lt
  generalize whereQ e.s key = Q at *
  have HW := Lib.hid hwh
  have HC := Lib.hid hcl
  have HR := Lib.hid hrun
  have H0 := Lib.hid h0
  have HE := Lib.hid he
  have HO := Lib.hid ho
  have HX := Lib.hid hx
  have HS := Lib.hid hS
  clear hwh hcl hrun h0 he ho hx har h eq1 hwq hS
  simp at c0 c1 s0
  rcases hq with rfl | hix
  all_goals
    first
      | have hneg : ¬ Q < 0 := by have := hix.1; omega
      | skip
    go_enter Tryz.func20, Tryz.ntmps20
    go_wp2_with fail
    refine HW.out.mono ?_
    rintro e1 w1 ⟨rfl, rfl⟩
    go_wp2_with fail
    refine HC.out.mono ?_
    rintro e1 w1' ⟨gs', ga', vva', SA', A', rfl, hk1, hst1, hA1⟩
    have d0 : w1'.cell? ⟨ge, 0, none⟩ = some (.pointer (some ⟨gg, 0, none⟩)) := (hk1.cell (p := ⟨ge, 0, none⟩) (by simp only; omega)).trans c0
    have hr := fun ev => HR.out gs' ga' vva' SA' A' w1' hk1 hst1 hA1 ev key
    have HRR := Lib.hid hr
    have K1 := Lib.hid hk1
    clear hr hk1 hst1 hA1
    go_wp2_with fail
    refine (HRR.out _).mono ?_
    rintro e1 w2 ⟨hk2, hm⟩
    rw [HX.out] at hm
    simp only at hm
    subst hm
    have kk : Kept (fun b => w.heap.size ≤ b) w w2 := K1.out.trans hk2
    have hn := number_err (HE.out.kept kk (fun b hb => Nat.le_trans HE.out.size hb)) k1 k2 (isNum_err (HO.out.kept kk (fun b hb => Nat.le_trans HE.out.size hb)) (Nat.le_trans HE.out.size kk.size) k1 k2)
    have HN := Lib.hid hn
    have KK := Lib.hid kk
    clear hn kk hk2
    unfold errV at HN ⊢
    go_wp2_with fail
    refine HN.out.mono ?_
    rintro e1 w3 ⟨rfl, hk3⟩
    have HK3 := Lib.hid hk3
    clear hk3
    go_wp2
    refine bodyPost_ret (v := .tuple #[.bool false, .slice none 0 0, .int .i64 k]) (by simp [results, Tryz.results20, go_sem]) rfl ?_
    have k3 : Kept (fun b => w.heap.size ≤ b) w w3 := KK.out.trans (HK3.out.mono (fun b hb => Nat.le_trans KK.out.size hb))
    exact ⟨k3.mono (fun b hb => .inr hb), rfl, H0.out.kept k3 (fun b hb hlt => by omega)⟩

set_option maxRecDepth 100000 in
set_option maxHeartbeats 8000000 in
theorem eacc_ok (he : Env B ea w) (h0 : EngR S w ge e) (hS : ∀ b, S b → b < w.heap.size) {m : Nat} (hm : m ≤ 4000000) (hc : CntB e.n m) (key : Int) {r : Run} (hx : exec e.p key (ruleFor e.p (whereQ e.s key)) ⟨e.s, []⟩ = .ok r) :
    Calls Tryz.prog 20 #[.pointer (some ⟨ge, 0, none⟩), .int .u64 key] w (OutAcc S w ge (e.access key) e.p e) := by
  have hacc := access_eq e key r hx
  rw [hacc]
  have hcons := access_cons (c := e.n) h0.inv.1 h0.inv.2 hacc
  have hnov := hcons.2.1.nov
  have hgone := gone_most h0.inv.1 hx
  clear hcons hacc
  obtain ⟨gg, gs, ga, gp, bm, bc, loops, vd, vva, SA, A, ns, h⟩ := h0
  obtain ⟨vl, vf, vq, bm2, har⟩ := h.ar
  have hwh := where_any har h.inv.ok key
  have eq1 : (⟨e.s.q, e.s.vars⟩ : St) = e.s := rfl
  have hwq := h.inv.where_ key e.s.vars
  rw [eq1] at hwq
  rw [hwq] at hwh
  have hcl := sclone_any h.ar h.srow h.vars h.inv (by have := h.si.v; have := h.pw.decls.len; omega)
  have hq := whereQ_cases h.si key
  have hrun := fun gs' ga' vva' SA' A' w1 => @erun_any B ea S w ge e gg gs ga gp bm bc loops gs' ga' vd vva vva' SA SA' A A' ns w1 he h
  have c0 := h.row.cell 0
  have c1 := h.row.cell 1
  have c2 := h.row.cell 2
  have c3 := h.row.cell 3
  have c4 := h.row.cell 4
  have s0 := h.srow.cell 0
  have g0 := h.prog.code.row.cell 0
  have p0 := h.prog.pol.cell 0
  have r1 := h.row.lt
  have r2 := h.srow.lt
  have r3 := h.prog.code.row.lt
  have r4 := h.prog.pol.lt
  have n1 : gg ≠ ge := h.prog.code.row.ne_ h.row (by decide)
  have n2 : gp ≠ ge := h.prog.pol.ne_ h.row (by decide)
  have hdec := fun q hq => h.prog.ro.decl (q := q) hq
  have ndec : ∀ b, vd.ownBlock = some b → b ≠ ge ∧ b < w.heap.size := fun b hb => ⟨fun e => h.prog.decls.ne_row h.row (by decide) (e ▸ hb), h.prog.decls.lt hb⟩
  have h8 := h.pw.decls.len
  generalize whereQ e.s key = Q at *
  obtain ⟨b1, b2, b3, b4, b5, b6⟩ := hc
  have HW := Lib.hid hwh
  have HC := Lib.hid hcl
  have HR := Lib.hid hrun
  have HP := Lib.hid h
  have HX := Lib.hid hx
  have HS := Lib.hid hS
  have HNOV := Lib.hid hnov
  clear hwh hcl hrun he hx har h eq1 hwq hS hnov
  simp at c0 c1 c2 c3 c4 s0 g0 p0
  generalize hhits : e.n.hits = H at *
  generalize hmiss : e.n.misses = M at *
  generalize hevic : e.n.evicted = V at *
  have HH := Lib.hid hhits
  have HM := Lib.hid hmiss
  have HV := Lib.hid hevic
  clear hhits hmiss hevic
  rcases hq with rfl | hix
  · have hres : resident e.p.decls (-1) = false := rfl
    rw [hres] at HNOV ⊢
    clear hdec ndec hres
    go_enter Tryz.func20, Tryz.ntmps20
    go_wp2_with fail
    refine HW.out.mono ?_
    rintro e1 w1 ⟨rfl, rfl⟩
    go_wp2_with fail
    refine HC.out.mono ?_
    rintro e1 w1' ⟨gs', ga', vva', SA', A', rfl, hk1, hst1, hA1⟩
    have d0 : w1'.cell? ⟨ge, 0, none⟩ = some (.pointer (some ⟨gg, 0, none⟩)) := (hk1.cell (p := ⟨ge, 0, none⟩) (by simp only; omega)).trans c0
    have hr := fun ev => HR.out gs' ga' vva' SA' A' w1' hk1 hst1 hA1 ev key
    have HRR := Lib.hid hr
    have K1 := Lib.hid hk1
    clear hr hk1 hst1 hA1
    go_wp2_with fail
    refine (HRR.out _).mono ?_
    rintro e1 w2 ⟨hk2, hm2⟩
    rw [HX.out] at hm2
    obtain ⟨vou, ga2, vva2, SA2, A2, ns2, rfl, hst2, hA2, hS2, hs2, hsep⟩ := hm2
    have kk : Kept (fun b => w.heap.size ≤ b) w w2 := K1.out.trans (hk2.mono (fun b hb => hb))
    obtain ⟨ao, co, rfl⟩ : ∃ a c, vou = .slice a r.gone.length c := hs2.shape
    have f1 := fun i => kk.cell (p := ⟨ge, i, none⟩) (by simp only; omega)
    have x1 := (f1 1).trans c1
    have x2 := (f1 2).trans c2
    have x3 := (f1 3).trans c3
    have x4 := (f1 4).trans c4
    have hr2 : Row w2 ge 76 _ := HP.out.row.kept kk (by omega)
    have ff := fun j => hr2.frozen j
    have KK := Lib.hid kk
    have ST := Lib.hid hst2
    have HA2 := Lib.hid hA2
    have HS2 := Lib.hid hS2
    have HV2 := Lib.hid hs2
    have SEP := Lib.hid hsep
    have HR2 := Lib.hid hr2
    clear kk hst2 hA2 hS2 hs2 hsep hk2 f1 hr2
    go_wp2
    refine bodyPost_ret (v := .tuple #[.bool false, .slice ao r.gone.length co, .int .i64 0]) (by simp [results, Tryz.results20, go_sem]) rfl ?_
    have hfin := acc_fin (e1 := ⟨e.p, r.s, cntUp e.n false r.gone.length⟩) (l := r.gone) HP.out KK.out ST.out HA2.out HS2.out HV2.out SEP.out rfl HNOV.out
      (((Kept.one w2 ⟨ge, 1, none⟩ (.pointer (some ⟨gs', 0, none⟩))).setCell (p := ⟨ge, 3, none⟩) rfl (.int .i64 (M + 1))).setCell (p := ⟨ge, 4, none⟩) rfl (.int .i64 (V + r.gone.length)))
      (by
        have h := ((HR2.out.set_ 1 (.pointer (some ⟨gs', 0, none⟩))).set_ 3 (.int .i64 (M + 1))).set_ 4 (.int .i64 (V + r.gone.length))
        simpa [cntUp, HH.out, HM.out, HV.out] using h)
    exact ⟨hfin.1, _, rfl, hfin.2.1, hfin.2.2⟩
  · obtain ⟨gd, cd, ed, hcd, hcm, dk, _⟩ := hdec Q hix
    subst ed
    obtain ⟨n3, r5⟩ := ndec gd rfl
    obtain ⟨m2, rfl⟩ : ∃ m : Nat, Q = (m : Int) := ⟨Q.toNat, by have := hix.1; omega⟩
    rw [Int.toNat_natCast] at dk
    have hm3 : m2 < e.p.decls.length := by have := hix.2; omega
    have eres : resident e.p.decls (m2 : Int) = ((declAt e.p.decls (m2 : Int)).kind == 0) := by unfold resident; simp
    rw [eres] at HNOV ⊢
    generalize (declAt e.p.decls (m2 : Int)).kind = K at *
    generalize hD : e.p.decls.length = D at *
    unfold maxLen at hcm
    clear hD hdec ndec eres hix
    by_cases hK : K = 0
    · subst hK
      have eK : ((0 : Nat) == 0) = true := rfl
      rw [eK] at HNOV ⊢
      clear eK
      go_enter Tryz.func20, Tryz.ntmps20
      go_wp2_with fail
      refine HW.out.mono ?_
      rintro e1 w1 ⟨rfl, rfl⟩
      go_wp2_with fail
      refine HC.out.mono ?_
      rintro e1 w1' ⟨gs', ga', vva', SA', A', rfl, hk1, hst1, hA1⟩
      have d0 : w1'.cell? ⟨ge, 0, none⟩ = some (.pointer (some ⟨gg, 0, none⟩)) := (hk1.cell (p := ⟨ge, 0, none⟩) (by simp only; omega)).trans c0
      have hr := fun ev => HR.out gs' ga' vva' SA' A' w1' hk1 hst1 hA1 ev key
      have HRR := Lib.hid hr
      have K1 := Lib.hid hk1
      clear hr hk1 hst1 hA1
      go_wp2_with fail
      refine (HRR.out _).mono ?_
      rintro e1 w2 ⟨hk2, hm2⟩
      rw [HX.out] at hm2
      obtain ⟨vou, ga2, vva2, SA2, A2, ns2, rfl, hst2, hA2, hS2, hs2, hsep⟩ := hm2
      have kk : Kept (fun b => w.heap.size ≤ b) w w2 := K1.out.trans (hk2.mono (fun b hb => hb))
      obtain ⟨ao, co, rfl⟩ : ∃ a c, vou = .slice a r.gone.length c := hs2.shape
      have f1 := fun i => kk.cell (p := ⟨ge, i, none⟩) (by simp only; omega)
      have x1 := (f1 1).trans c1
      have x2 := (f1 2).trans c2
      have x3 := (f1 3).trans c3
      have x4 := (f1 4).trans c4
      have hr2 : Row w2 ge 76 _ := HP.out.row.kept kk (by omega)
      have ff := fun j => hr2.frozen j
      have y0 := (f1 0).trans c0
      have yg := (kk.cell (p := ⟨gg, 0, none⟩) (by simp only; omega)).trans g0
      have yp := (kk.cell (p := ⟨gp, 0, none⟩) (by simp only; omega)).trans p0
      have yd := (kk.cell (p := ⟨gd, m2 * 3, none⟩) (by simp only; omega)).trans dk
      have KK := Lib.hid kk
      have ST := Lib.hid hst2
      have HA2 := Lib.hid hA2
      have HS2 := Lib.hid hS2
      have HV2 := Lib.hid hs2
      have SEP := Lib.hid hsep
      have HR2 := Lib.hid hr2
      clear kk hst2 hA2 hS2 hs2 hsep hk2 f1 hr2
      go_wp2
      refine bodyPost_ret (v := .tuple #[.bool true, .slice ao r.gone.length co, .int .i64 0]) (by simp [results, Tryz.results20, go_sem]) rfl ?_
      have hfin := acc_fin (e1 := ⟨e.p, r.s, cntUp e.n true r.gone.length⟩) (l := r.gone) HP.out KK.out ST.out HA2.out HS2.out HV2.out SEP.out rfl HNOV.out
        (((Kept.one w2 ⟨ge, 1, none⟩ (.pointer (some ⟨gs', 0, none⟩))).setCell (p := ⟨ge, 2, none⟩) rfl (.int .i64 (H + 1))).setCell (p := ⟨ge, 4, none⟩) rfl (.int .i64 (V + r.gone.length)))
        (by
          have h := ((HR2.out.set_ 1 (.pointer (some ⟨gs', 0, none⟩))).set_ 2 (.int .i64 (H + 1))).set_ 4 (.int .i64 (V + r.gone.length))
          simpa [cntUp, HH.out, HM.out, HV.out] using h)
      exact ⟨hfin.1, _, rfl, hfin.2.1, hfin.2.2⟩
    · have eK : (K == 0) = false := by simpa using hK
      rw [eK] at HNOV ⊢
      have eK2 : ((K : Int) == 0) = false := by simpa using hK
      have eK3 : decide ((K : Int) = 0) = false := by simpa using hK
      clear eK
      go_enter Tryz.func20, Tryz.ntmps20
      go_wp2_with fail
      refine HW.out.mono ?_
      rintro e1 w1 ⟨rfl, rfl⟩
      go_wp2_with fail
      refine HC.out.mono ?_
      rintro e1 w1' ⟨gs', ga', vva', SA', A', rfl, hk1, hst1, hA1⟩
      have d0 : w1'.cell? ⟨ge, 0, none⟩ = some (.pointer (some ⟨gg, 0, none⟩)) := (hk1.cell (p := ⟨ge, 0, none⟩) (by simp only; omega)).trans c0
      have hr := fun ev => HR.out gs' ga' vva' SA' A' w1' hk1 hst1 hA1 ev key
      have HRR := Lib.hid hr
      have K1 := Lib.hid hk1
      clear hr hk1 hst1 hA1
      go_wp2_with fail
      refine (HRR.out _).mono ?_
      rintro e1 w2 ⟨hk2, hm2⟩
      rw [HX.out] at hm2
      obtain ⟨vou, ga2, vva2, SA2, A2, ns2, rfl, hst2, hA2, hS2, hs2, hsep⟩ := hm2
      have kk : Kept (fun b => w.heap.size ≤ b) w w2 := K1.out.trans (hk2.mono (fun b hb => hb))
      obtain ⟨ao, co, rfl⟩ : ∃ a c, vou = .slice a r.gone.length c := hs2.shape
      have f1 := fun i => kk.cell (p := ⟨ge, i, none⟩) (by simp only; omega)
      have x1 := (f1 1).trans c1
      have x2 := (f1 2).trans c2
      have x3 := (f1 3).trans c3
      have x4 := (f1 4).trans c4
      have hr2 : Row w2 ge 76 _ := HP.out.row.kept kk (by omega)
      have ff := fun j => hr2.frozen j
      have y0 := (f1 0).trans c0
      have yg := (kk.cell (p := ⟨gg, 0, none⟩) (by simp only; omega)).trans g0
      have yp := (kk.cell (p := ⟨gp, 0, none⟩) (by simp only; omega)).trans p0
      have yd := (kk.cell (p := ⟨gd, m2 * 3, none⟩) (by simp only; omega)).trans dk
      have KK := Lib.hid kk
      have ST := Lib.hid hst2
      have HA2 := Lib.hid hA2
      have HS2 := Lib.hid hS2
      have HV2 := Lib.hid hs2
      have SEP := Lib.hid hsep
      have HR2 := Lib.hid hr2
      clear kk hst2 hA2 hS2 hs2 hsep hk2 f1 hr2
      go_wp2
      refine bodyPost_ret (v := .tuple #[.bool false, .slice ao r.gone.length co, .int .i64 0]) (by simp [results, Tryz.results20, go_sem]) rfl ?_
      have hfin := acc_fin (e1 := ⟨e.p, r.s, cntUp e.n false r.gone.length⟩) (l := r.gone) HP.out KK.out ST.out HA2.out HS2.out HV2.out SEP.out rfl HNOV.out
        (((Kept.one w2 ⟨ge, 1, none⟩ (.pointer (some ⟨gs', 0, none⟩))).setCell (p := ⟨ge, 3, none⟩) rfl (.int .i64 (M + 1))).setCell (p := ⟨ge, 4, none⟩) rfl (.int .i64 (V + r.gone.length)))
        (by
          have h := ((HR2.out.set_ 1 (.pointer (some ⟨gs', 0, none⟩))).set_ 3 (.int .i64 (M + 1))).set_ 4 (.int .i64 (V + r.gone.length))
          simpa [cntUp, HH.out, HM.out, HV.out] using h)
      exact ⟨hfin.1, _, rfl, hfin.2.1, hfin.2.2⟩

/-- Access, whole. -/
theorem eaccess_any (he : Env B ea w) (ho : ErrObj B ea w) (h : EngR S w ge e) (hS : ∀ b, S b → b < w.heap.size) {m : Nat} (hm : m ≤ 4000000) (hc : CntB e.n m) (key : Int) :
    Calls Tryz.prog 20 #[.pointer (some ⟨ge, 0, none⟩), .int .u64 key] w (OutAcc S w ge (e.access key) e.p e) := by
  cases hx : exec e.p key (ruleFor e.p (whereQ e.s key)) ⟨e.s, []⟩ with
  | ok r => exact eacc_ok he h hS hm hc key hx
  | error k =>
    have ha : e.access key = .err k := by
      unfold Eng.access
      simp only [hx]
    rw [ha]
    exact eacc_err he ho h hS key hx
end
end Go.Proofs.YtemppijblfflgaaGreatDoor.Ev
namespace Go.Proofs.YtemppijblfflgaaGreatDoor.Ev
open Go Go.RowKit

/-- The slice v holds the keys l. -/
def LR (w : World) (v : Value) (l : List Int) : Prop :=
  (v = .slice none 0 0 ∧ l = []) ∨ ∃ g off c, v = .slice (some ⟨g, off, none⟩) l.length c ∧ l.length ≤ c ∧ c ≤ maxLen ∧ g < w.heap.size ∧ ∀ (i : Nat) x, l[i]? = some x → w.cell? ⟨g, off + i, none⟩ = some (encU x)

section
variable {w w' : World} {v : Value} {l : List Int}
theorem Sl.lr {S : Nat → Prop} (h : Sl S w 27 1 v l.length (l.map encU)) : LR w v l := by
  rcases h.1.2 with ⟨h1, h0⟩ | ⟨g, cap, cur, rfl, _, hh, hc, hcm, _⟩
  · exact .inl ⟨by rw [h1], List.length_eq_zero_iff.1 h0⟩
  · refine .inr ⟨g, 0, cap, rfl, hc, hcm, h.lt rfl, fun i x hx => ?_⟩
    have hi : i < l.length := (List.getElem?_eq_some_iff.1 hx).1
    have := h.1.cellAt i (by simpa using hi)
    rw [Nat.zero_add]
    refine this.trans ?_
    rw [List.getElem?_map, hx]; rfl
theorem LR.kept {T : Nat → Prop} (h : LR w v l) (hk : Kept T w w') (hT : ∀ b, v.ownBlock = some b → ¬ T b) : LR w' v l := by
  rcases h with h | ⟨g, off, c, rfl, h1, h2, h3, h4⟩
  · exact .inl h
  · exact .inr ⟨g, off, c, rfl, h1, h2, Nat.lt_of_lt_of_le h3 hk.size, fun i x hx => (hk.cell (p := ⟨g, off + i, none⟩) (hT g rfl)).trans (h4 i x hx)⟩
theorem LR.lt (h : LR w v l) {b : Nat} (hb : v.ownBlock = some b) : b < w.heap.size := by
  rcases h with ⟨rfl, _⟩ | ⟨g, off, c, rfl, h1, h2, h3, h4⟩
  · cases hb
  · injection hb with hb; exact hb ▸ h3
theorem LR.later {T : Nat → Prop} (h : LR w v l) (hk : Kept T w w') (hT : ∀ b, T b → w.heap.size ≤ b) : LR w' v l := h.kept hk (fun b hb ht => by have := h.lt hb; have := hT b ht; omega)
theorem LR.drewN (h : LR w v l) (n : Nat) : LR (w.drewN n) v l := h
theorem LR.shape (h : LR w v l) : ∃ a c, v = .slice a l.length c := by
  rcases h with ⟨rfl, rfl⟩ | ⟨g, off, c, rfl, _⟩
  · exact ⟨none, 0, rfl⟩
  · exact ⟨_, _, rfl⟩
theorem LR.at_ {a : Option Addr} {c : Nat} (h : LR w (.slice a l.length c) l) {k : Nat} {x : Int} (hx : l[k]? = some x) : ∃ g off, a = some ⟨g, off, none⟩ ∧ w.cell? ⟨g, off + k, none⟩ = some (.int .u64 x) ∧ l.length ≤ c ∧ c ≤ maxLen := by
  rcases h with ⟨_, rfl⟩ | ⟨g, off, c', e, h1, h2, h3, h4⟩
  · simp at hx
  · injection e with e1 e2 e3
    subst e1 e3
    exact ⟨g, off, rfl, h4 k x hx, h1, h2⟩
end

/-- What of n things a raw number speaks of. -/
def pickN (c n : Int) : Int := if c < 0 then (-(c + 1)).tmod n else c.tmod n

section
variable {w : World}

theorem pickN_nat (c : Int) {n : Nat} (hn : 0 < n) : ∃ k : Nat, pickN c n = (k : Int) ∧ k < n := by
  unfold pickN
  split
  · rename_i h
    rw [Int.tmod_eq_emod_of_nonneg (by omega)]
    exact ⟨((-(c + 1)) % (n : Int)).toNat, by rw [Int.toNat_of_nonneg (Int.emod_nonneg _ (by omega))], by have := Int.emod_lt_of_pos (-(c + 1)) (b := (n : Int)) (by omega); have := Int.emod_nonneg (-(c + 1)) (b := (n : Int)) (by omega); omega⟩
  · rename_i h
    rw [Int.tmod_eq_emod_of_nonneg (by omega)]
    exact ⟨(c % (n : Int)).toNat, by rw [Int.toNat_of_nonneg (Int.emod_nonneg _ (by omega))], by have := Int.emod_lt_of_pos c (b := (n : Int)) (by omega); have := Int.emod_nonneg c (b := (n : Int)) (by omega); omega⟩

set_option maxRecDepth 100000 in
set_option maxHeartbeats 1000000 in
theorem pick_any (c : Int) (n : Nat) (h1 : -9223372036854775808 ≤ c) (h2 : c ≤ 9223372036854775807) (hn : 0 < n) (hn2 : n ≤ 1000) : Calls Tryz.prog 13 #[.int .i64 c, .int .i64 n] w fun e w' => e = .returned (.int .i64 (pickN c n)) ∧ w' = w := by
  have e0 : ((n : Int) == 0) = false := by simp; omega
  have e1 : decide ((n : Int) = 0) = false := by simp; omega
  unfold pickN
  by_cases hc : c < 0
  · rw [if_pos hc]
    go_enter Tryz.func13, Tryz.ntmps13
    go_wp2
    go_ret
    exact ⟨by rw [Int.neg_tmod]; rfl, rfl⟩
  · rw [if_neg hc, Int.tmod_eq_emod_of_nonneg (by omega)]
    go_enter Tryz.func13, Tryz.ntmps13
    go_wp2
    go_ret
    exact ⟨rfl, rfl⟩

theorem drewN2 (w : World) (a b : Nat) : (w.drewN a).drewN b = w.drewN (a + b) := by simp [World.drewN, Nat.add_assoc]

/-- A truth value is given; nothing turns. -/
def BoolQ (w : World) (b : Bool) (e : Ending) (w' : World) : Prop := e = .returned (.bool b) ∧ ∃ n, w' = w.drewN n

set_option maxRecDepth 100000 in
set_option maxHeartbeats 4000000 in
theorem same_any {u v : Value} {a b : List Int} (ha : LR w u a) (hb : LR w v b) (hl : a.length ≤ 1000000000) (hl2 : b.length ≤ 1000000000) : Calls Tryz.prog 22 #[u, v] w (BoolQ w (a == b)) := by
  obtain ⟨xa, ca, rfl⟩ := ha.shape
  obtain ⟨xb, cb, rfl⟩ := hb.shape
  have HA := Lib.hid ha
  have HB := Lib.hid hb
  clear ha hb
  by_cases hlen : a.length = b.length
  · have HL := Lib.hid hlen
    rw [← hlen]
    clear hlen
    go_enter Tryz.func22, Tryz.ntmps22
    go_wp2
    go_loopg [13, 5] a.length (fun gg s13 _ wr => ∃ k : Nat, k ≤ a.length ∧ a.length - k ≤ gg ∧ s13 = .int .i64 k ∧ (∃ n, wr = w.drewN n) ∧ ∀ (j : Nat) x y, j < k → a[j]? = some x → b[j]? = some y → x = y)
    case atStart => exact ⟨0, Nat.zero_le _, by omega, rfl, ⟨0, rfl⟩, fun j x y hj => absurd hj (Nat.not_lt_zero _)⟩
    case round =>
      obtain ⟨k, hk, hg, rfl, ⟨n, rfl⟩, hall⟩ := hrel
      have HALL := Lib.hid hall
      clear hall
      by_cases hlt : k < a.length
      · obtain ⟨x, hx⟩ : ∃ x, a[k]? = some x := ⟨_, List.getElem?_eq_getElem hlt⟩
        obtain ⟨y, hy⟩ : ∃ y, b[k]? = some y := ⟨_, List.getElem?_eq_getElem (by have := HL.out; omega)⟩
        obtain ⟨ga, oa, rfl, hca, h1, h2⟩ := HA.out.at_ hx
        obtain ⟨gb, ob, rfl, hcb, h3, h4⟩ := HB.out.at_ hy
        unfold maxLen at h2 h4
        rw [← HL.out] at h3
        have HX := Lib.hid hx
        have HY := Lib.hid hy
        clear hx hy
        by_cases e : x = y
        · have e1 : (x == y) = true := by simpa using e
          have e2 : decide (x = y) = true := by simpa using e
          have E := Lib.hid e
          clear e
          go_wp2
          go_quiet (fail)
          go_wp2
          go_roundg (a.length - (k + 1))
          case measure => omega
          case rel =>
            refine ⟨k + 1, by omega, by omega, by go_num, ⟨n + nq, by first | rfl | exact drewN2 w n nq⟩, fun j x' y' hj h5 h6 => ?_⟩
            by_cases ej : j = k
            · subst ej
              rw [HX.out] at h5
              rw [HY.out] at h6
              injection h5 with h5
              injection h6 with h6
              rw [← h5, ← h6]; exact E.out
            · exact HALL.out j x' y' (by omega) h5 h6
        · have e1 : (x == y) = false := by simpa using e
          have e2 : decide (x = y) = false := by simpa using e
          have hne : (a == b) = false := by
            rw [beq_eq_false_iff_ne]
            intro hab
            rw [hab] at HX
            have := HX.out.symm.trans HY.out
            injection this with this
            exact e this
          have E := Lib.hid e
          have HNE := Lib.hid hne
          clear e hne
          go_wp2
          go_quiet (fail)
          go_wp2
          go_ret
          exact ⟨by first | rfl | (rw [HNE.out]; rfl), n + nq, by first | rfl | exact drewN2 w n nq⟩
      · have hke : k = a.length := by omega
        have hab : (a == b) = true := by
          rw [beq_iff_eq]
          refine List.ext_getElem? fun i => ?_
          rcases Nat.lt_or_ge i a.length with hi | hi
          · have hib : i < b.length := by have := HL.out; omega
            rw [List.getElem?_eq_getElem hi, List.getElem?_eq_getElem hib]
            exact congrArg some (HALL.out i _ _ (by omega) (List.getElem?_eq_getElem hi) (List.getElem?_eq_getElem hib))
          · rw [List.getElem?_eq_none hi, List.getElem?_eq_none (by have := HL.out; omega)]
        have HAB := Lib.hid hab
        clear hab
        subst hke
        go_wp2
        go_ret
        exact ⟨by rw [HAB.out]; rfl, _, rfl⟩
  · have hab : (a == b) = false := by
      rw [beq_eq_false_iff_ne]
      intro e
      exact hlen (by rw [e])
    have e1 : ((a.length : Int) == (b.length : Int)) = false := by simp; omega
    have e2 : decide ((a.length : Int) = (b.length : Int)) = false := by simp; omega
    rw [hab]
    clear hab
    go_enter Tryz.func22, Tryz.ntmps22
    go_wp2
    go_ret
    exact ⟨rfl, 0, rfl⟩
end
end Go.Proofs.YtemppijblfflgaaGreatDoor.Ev
namespace Go.Proofs.YtemppijblfflgaaGreatDoor.Ev
open Go Go.RowKit

theorem place_hit {l : List Int} {key : Int} {k : Nat} (h : l[k]? = some key) (hn : ∀ (j : Nat) x, j < k → l[j]? = some x → x ≠ key) : place l key = some k := by
  unfold place
  rw [List.findIdx?_eq_some_iff_getElem]
  obtain ⟨h1, h2⟩ := List.getElem?_eq_some_iff.1 h
  refine ⟨h1, by simp [h2], fun j hj => ?_⟩
  simpa using hn j _ hj (List.getElem?_eq_getElem (by omega))

section
variable {S : Nat → Prop} {w : World} {v : Value} {l : List Int}

/-- A number is given; nothing turns. -/
def IntQ (w : World) (n : Int) (e : Ending) (w' : World) : Prop := e = .returned (.int .i64 n) ∧ w' = w

set_option maxRecDepth 100000 in
set_option maxHeartbeats 4000000 in
theorem at_any (h : LR w v l) (hl : l.length ≤ 1000000000) (key : Int) : Calls Tryz.prog 16 #[v, .int .u64 key] w (IntQ w (atI l key)) := by
  obtain ⟨a, c, rfl⟩ := h.shape
  have HA := Lib.hid h
  clear h
  go_enter Tryz.func16, Tryz.ntmps16
  go_wp2
  go_loopg [9] l.length (fun gg s9 wr => ∃ k : Nat, k ≤ l.length ∧ l.length - k ≤ gg ∧ s9 = .int .i64 k ∧ wr = w ∧ ∀ (j : Nat) x, j < k → l[j]? = some x → x ≠ key)
  case atStart => exact ⟨0, Nat.zero_le _, by omega, rfl, rfl, fun j x hj => absurd hj (Nat.not_lt_zero _)⟩
  case round =>
    obtain ⟨k, hk, hg, rfl, rfl, hall⟩ := hrel
    have HALL := Lib.hid hall
    clear hall
    by_cases hlt : k < l.length
    · obtain ⟨x, hx⟩ : ∃ x, l[k]? = some x := ⟨_, List.getElem?_eq_getElem hlt⟩
      obtain ⟨g, o, rfl, hc, h1, h2⟩ := HA.out.at_ hx
      unfold maxLen at h2
      have HX := Lib.hid hx
      clear hx
      by_cases e : x = key
      · have e1 : (x == key) = true := by simpa using e
        have e2 : decide (x = key) = true := by simpa using e
        have E := Lib.hid e
        clear e
        go_wp2
        go_ret
        refine ⟨?_, rfl⟩
        have hp := place_hit (k := k) (l := l) (key := key) (by rw [HX.out, E.out]) HALL.out
        unfold atI
        rw [hp]
        rfl
      · have e1 : (x == key) = false := by simpa using e
        have e2 : decide (x = key) = false := by simpa using e
        have E := Lib.hid e
        clear e
        go_wp2
        go_roundg (l.length - (k + 1))
        case measure => omega
        case rel =>
          refine ⟨k + 1, by omega, by omega, by go_num, rfl, fun j x' hj h5 => ?_⟩
          by_cases ej : j = k
          · subst ej
            rw [HX.out] at h5
            injection h5 with h5
            rw [← h5]; exact E.out
          · exact HALL.out j x' (by omega) h5
    · have hke : k = l.length := by omega
      have hp : place l key = none := by
        rw [place_none]
        intro hm
        obtain ⟨j, hj⟩ := List.getElem?_of_mem hm
        exact HALL.out j key (by have := (List.getElem?_eq_some_iff.1 hj).1; omega) hj rfl
      have HPN := Lib.hid hp
      clear hp
      subst hke
      go_wp2
      go_ret
      refine ⟨?_, rfl⟩
      unfold atI
      rw [HPN.out]
      rfl

/-- A list is given, in a row of its own; new blocks alone. -/
def OutList (w : World) (l : List Int) (e : Ending) (w' : World) : Prop :=
  ∃ v, e = .returned v ∧ Kept (fun b => w.heap.size ≤ b) w w' ∧ Sl (fun b => w.heap.size ≤ b) w' 27 1 v l.length (l.map encU)

theorem one_u (l : List Int) : ∀ u ∈ l.map encU, u.oneCell' = true := by intro u hu; obtain ⟨x, _, rfl⟩ := List.mem_map.1 hu; rfl

set_option maxRecDepth 100000 in
set_option maxHeartbeats 4000000 in
theorem front_any (h : LR w v l) (hl : l.length ≤ 1000000) (key : Int) : Calls Tryz.prog 18 #[v, .int .u64 key] w (OutList w (key :: l)) := by
  obtain ⟨i0, hi0, hz0, hz1, hz2⟩ := info_parts infoU64_
  have hsrc : Src (w.alloc (.cells #[.int .u64 key] 27)) 1 v l.length (l.map encU) := by
    refine ⟨by simp, ?_⟩
    have h' := h.later ((Kept.refl (fun b => w.heap.size ≤ b) w).alloc (Nat.le_refl _) (.cells #[.int .u64 key] 27)) (fun b hb => hb)
    rcases h' with ⟨rfl, rfl⟩ | ⟨g, off, c, rfl, _, _, _, h4⟩
    · exact .inl ⟨rfl, rfl⟩
    · refine .inr ⟨_, _, rfl, fun j x hj => ?_⟩
      rw [List.getElem?_map, Option.map_eq_some_iff] at hj
      obtain ⟨y, hy, rfl⟩ := hj
      have e : (⟨g, off, none⟩ : Addr).add j = ⟨g, off + j, none⟩ := by unfold Addr.add; split <;> simp_all
      rw [e]
      exact h4 j y hy
  have hone : Sl (fun b => w.heap.size ≤ b) (w.alloc (.cells #[.int .u64 key] 27)) 27 1 (.slice (some ⟨w.heap.size, 0, none⟩) 1 1) 1 [.int .u64 key] := Sl.of_row (Row.new w _ [.int .u64 key]) (Nat.le_refl _) rfl (by unfold maxLen; omega)
  obtain ⟨a, c, rfl⟩ := h.shape
  have q1 : w.heap.size ≤ (w.alloc (.cells #[.int .u64 key] 27)).heap.size := by simp
  have m1 : 1 + l.length ≤ maxLen := by unfold maxLen; omega
  have m2 : (1 + l.length) * 8 ≤ 140737488355328 := by omega
  have HS := Lib.hid hsrc
  have HO := Lib.hid hone
  have Q1 := Lib.hid q1
  have O1 := Lib.hid (one_u l)
  clear hsrc hone h q1
  go_enter Tryz.func18, Tryz.ntmps18
  go_wp2_with (at_builtin; go_must (refine wp_appendS Tryz.underlying22 hi0 hz0 hz1 hz2 rfl (by decide) HO.out Q1.out rfl _ _ rfl rfl rfl HS.out O1.out m1 m2 ?_; intro v' w2 hs2 hk2 hloc; have Hs2 := Lib.hid hs2; have Hk2 := Lib.hid hk2; clear hs2 hk2))
  go_ret
  refine ⟨v', rfl, ?_, ?_⟩
  · exact ((Kept.refl _ w).alloc (Nat.le_refl _) _).trans (Hk2.out.mono (fun b hb => by
      rcases hb with hb | hb
      · injection hb with hb; simp only at hb; omega
      · simp at hb; omega))
  · have h2 := Hs2.out
    have e : (key :: l).length = 1 + l.length := by simp; omega
    rw [e]
    exact h2
end
end Go.Proofs.YtemppijblfflgaaGreatDoor.Ev
namespace Go.Proofs.YtemppijblfflgaaGreatDoor.Ev
open Go Go.RowKit

section
variable {S : Nat → Prop} {w : World} {v : Value} {l : List Int}

set_option maxRecDepth 100000 in
set_option maxHeartbeats 4000000 in
theorem without_any (h : Sl S w 27 1 v l.length (l.map encU)) (hl : l.length ≤ 1000000) {i : Nat} (hi : i < l.length) : Calls Tryz.prog 17 #[v, .int .i64 i] w (OutList w (l.eraseIdx i)) := by
  obtain ⟨i0, hi0, hz0, hz1, hz2⟩ := info_parts infoU64_
  obtain ⟨g, cap, rfl, _, hc, hcm, hg⟩ := h.form (by omega)
  have hs1 := (h.take i (by omega)).src
  have e1 : (l.map encU).take (i * 1) = (l.take i).map encU := by rw [Nat.mul_one, List.map_take]
  rw [e1] at hs1
  have hs2 : ∀ c, Src w 1 (.slice (some (if cap = i + 1 then (⟨g, 0, none⟩ : Addr) else ⟨g, i + 1, none⟩)) (l.length - (i + 1)) c) (l.length - (i + 1)) ((l.drop (i + 1)).map encU) := by
    intro c
    by_cases hce : cap = i + 1
    · have hle : l.length = i + 1 := by omega
      refine ⟨by simp, .inr ⟨_, _, rfl, fun j x hj => ?_⟩⟩
      have : l.drop (i + 1) = [] := List.drop_eq_nil_of_le (by omega)
      rw [this] at hj
      simp at hj
    · rw [if_neg hce]
      have hh := h.srcFrom (k := i + 1) (by omega) c
      rw [Nat.mul_one, ← List.map_drop] at hh
      exact hh
  have m0 : 0 + i ≤ maxLen := by unfold maxLen; omega
  have m1 : (0 + i) * 8 ≤ 140737488355328 := by omega
  have m2 : (0 + i) + (l.length - (i + 1)) ≤ maxLen := by unfold maxLen; omega
  have m3 : ((0 + i) + (l.length - (i + 1))) * 8 ≤ 140737488355328 := by omega
  have ef : (l.take i).map encU ++ (l.drop (i + 1)).map encU = (l.eraseIdx i).map encU := by rw [← List.map_append, List.eraseIdx_eq_take_drop_succ]
  have el : (l.eraseIdx i).length = (0 + i) + (l.length - (i + 1)) := by rw [List.length_eraseIdx_of_lt hi]; omega
  have HS1 := Lib.hid hs1
  have HS2 := Lib.hid hs2
  have EF := Lib.hid ef
  have EL := Lib.hid el
  have O1 := Lib.hid (one_u (l.take i))
  have O2 := Lib.hid (one_u (l.drop (i + 1)))
  have HG := Lib.hid hg
  unfold maxLen at hcm
  clear h hs1 hs2 e1 ef el hg
  by_cases hce : cap = i + 1
  · have hll : l.length = i + 1 := by omega
    have hdr : l.drop (i + 1) = [] := List.drop_eq_nil_of_le (by omega)
    have hs2' : Src w 1 (.slice (some ⟨g, 0, none⟩) 0 0) 0 [] := ⟨rfl, .inr ⟨_, _, rfl, fun j x hj => by simp at hj⟩⟩
    have HS2' := Lib.hid hs2'
    rw [hdr] at EF
    rw [hll] at EL
    have e0 : i + 1 - (i + 1) = 0 := by omega
    rw [e0] at EL
    have p2 : (0 + i) + 0 ≤ maxLen := by unfold maxLen; omega
    have p3 : ((0 + i) + 0) * 8 ≤ 140737488355328 := by omega
    subst hce
    have HLL := Lib.hid hll
    have hll2 : ((l.length : Nat) : Int) - ((i : Int) + 1) = 0 := by omega
    rw [hll]
    clear hs2' hll hdr e0 m2 m3 hll2 hi hc
    go_enter Tryz.func17, Tryz.ntmps17
    go_wp2_with (first
      | (at_builtin; refine wp_appendS Tryz.underlying22 hi0 hz0 hz1 hz2 rfl (by decide) (Sl.nil_ (fun b => w.heap.size ≤ b) w 27 1) (Nat.le_refl _) rfl _ _ rfl rfl rfl HS1.out O1.out m0 m1 ?_; intro v1 w1 hs1 hk1 hloc1; have Hs1 := Lib.hid hs1; have Hk1 := Lib.hid hk1; clear hs1 hk1)
      | (at_builtin; refine wp_appendS Tryz.underlying22 hi0 hz0 hz1 hz2 rfl (by decide) Hs1.out (Hk1.out.size) rfl _ _ rfl rfl rfl (Src.kept HS2'.out Hk1.out (fun ad n c e => by injection e with e; injection e with e; subst e; rintro (h | h); exact absurd h (by simp [Value.ownBlock]); have := HG.out; simp only at h; omega)) (by simp) p2 p3 ?_; intro v2 w2 hs2 hk2 hloc2; have Hs2 := Lib.hid hs2; have Hk2 := Lib.hid hk2; clear hs2 hk2))
    go_ret
    refine ⟨v2, rfl, ?_, ?_⟩
    · refine (Hk1.out.mono (fun b hb => ?_)).trans (Hk2.out.mono (fun b hb => ?_))
      · rcases hb with hb | hb
        · simp [Value.ownBlock] at hb
        · exact hb
      · rcases hb with hb | hb
        · exact Hs1.out.2 b hb
        · exact Nat.le_trans Hk1.out.size hb
    · rw [EL.out, ← EF.out]
      exact Hs2.out
  · have hs2' := HS2.out
    rw [if_neg hce] at hs2'
    have HS2' := Lib.hid hs2'
    have hce2 : ¬ cap = i + 1 := hce
    clear hs2'
    go_enter Tryz.func17, Tryz.ntmps17
    go_wp2_with (first
      | (at_builtin; refine wp_appendS Tryz.underlying22 hi0 hz0 hz1 hz2 rfl (by decide) (Sl.nil_ (fun b => w.heap.size ≤ b) w 27 1) (Nat.le_refl _) rfl _ _ rfl rfl rfl HS1.out O1.out m0 m1 ?_; intro v1 w1 hs1 hk1 hloc1; have Hs1 := Lib.hid hs1; have Hk1 := Lib.hid hk1; clear hs1 hk1)
      | (at_builtin; refine wp_appendS Tryz.underlying22 hi0 hz0 hz1 hz2 rfl (by decide) Hs1.out (Hk1.out.size) rfl _ _ rfl rfl rfl (Src.kept (HS2'.out _) Hk1.out (fun ad n c e => by injection e with e; injection e with e; subst e; rintro (h | h); exact absurd h (by simp [Value.ownBlock]); have := HG.out; simp only at h; omega)) O2.out m2 m3 ?_; intro v2 w2 hs2 hk2 hloc2; have Hs2 := Lib.hid hs2; have Hk2 := Lib.hid hk2; clear hs2 hk2))
    go_ret
    refine ⟨v2, rfl, ?_, ?_⟩
    · refine (Hk1.out.mono (fun b hb => ?_)).trans (Hk2.out.mono (fun b hb => ?_))
      · rcases hb with hb | hb
        · simp [Value.ownBlock] at hb
        · exact hb
      · rcases hb with hb | hb
        · exact Hs1.out.2 b hb
        · exact Nat.le_trans Hk1.out.size hb
    · rw [EL.out, ← EF.out]
      exact Hs2.out
end
end Go.Proofs.YtemppijblfflgaaGreatDoor.Ev
namespace Go.Proofs.YtemppijblfflgaaGreatDoor.Ev
open Go Go.RowKit

section
variable {S : Nat → Prop} {w : World} {ge : Nat} {e : Eng}
theorem EngR.mine (h : EngR S w ge e) : S ge := by
  obtain ⟨gg, gs, ga, gp, bm, bc, loops, vd, vva, SA, A, ns, h⟩ := h
  exact h.se.1
theorem EngR.shrink (h : EngR S w ge e) : EngR (fun b => S b ∧ b < w.heap.size) w ge e := by
  obtain ⟨gg, gs, ga, gp, bm, bc, loops, vd, vva, SA, A, ns, h⟩ := h
  obtain ⟨vl, vf, vq, bm', ha⟩ := h.ar
  exact ⟨gg, gs, ga, gp, bm, bc, loops, vd, vva, (fun b => SA b ∧ b < w.heap.size), A, ns, h.row, h.prog.mono (fun b hb hs => ⟨⟨hs.1, hb⟩, fun k => hs.2 k.1⟩), h.srow,
    h.vars.shrink.mono (fun b hb => ⟨⟨hb.1.1, hb.2⟩, fun k => hb.1.2 k.1⟩), ⟨vl, vf, vq, bm', ha.shrink⟩, h.inv, h.si, h.pw, h.nov, fun b hb => ⟨h.sa b hb.1, hb.2⟩, ⟨⟨h.se.1, h.row.lt⟩, fun k => h.se.2 k.1⟩, ⟨⟨h.ss.1, h.srow.lt⟩, fun k => h.ss.2 k.1⟩⟩

/-- What Remove comes to. -/
def OutRem (S : Nat → Prop) (w : World) (ge : Nat) (b : Bool) (e1 : Eng) (e : Ending) (w' : World) : Prop :=
  e = .returned (.bool b) ∧ Kept (fun b => S b ∨ w.heap.size ≤ b) w w' ∧ EngR (fun b => S b ∨ w.heap.size ≤ b) w' ge e1

theorem idx_find {A : Arena} {ns : List (List Nat)} {s : St} (h : AInv A ns s.q) (key : Int) : (A.idx key).isSome = (s.find key).isSome := by
  have hfind : s.find key = (⟨s.q, s.vars⟩ : St).find key := rfl
  rw [hfind]
  cases hi : A.idx key with
  | none => rw [h.find_none hi s.vars]; rfl
  | some n =>
    obtain ⟨k, l1, l2, a, b, c, d⟩ := h.find_some hi s.vars
    first
      | (rw [b]; rfl)
      | (rw [c]; rfl)
      | (rw [d]; rfl)

set_option maxRecDepth 100000 in
set_option maxHeartbeats 1000000 in
theorem eremove_any (h0 : EngR S w ge e) (key : Int) : Calls Tryz.prog 28 #[.pointer (some ⟨ge, 0, none⟩), .int .u64 key] w (OutRem S w ge (e.remove key).1 (e.remove key).2) := by
  obtain ⟨gg, gs, ga, gp, bm, bc, loops, vd, vva, SA, A, ns, h⟩ := h0
  obtain ⟨vl, vf, vq, bm', ha⟩ := h.ar
  have hst := out_st h.inv key
  have hidx := idx_find h.inv key
  have hrem := remove_cons (c := e.n) h.pw ⟨h.si, h.nov, A, ns, h.inv⟩ key
  have hout := out_any (ha.mono (S' := fun b => SA b ∨ w.heap.size ≤ b) (fun b hb => .inl hb)) (fun k hk => .inr hk) h.inv.ok (by have := h.inv.q8; omega) key hst.1
  have c1 := h.row.cell 1
  have s0 := h.srow.cell 0
  have HO := Lib.hid hout
  have HST := Lib.hid hst
  have HI := Lib.hid hidx
  have HR := Lib.hid hrem
  have HH := Lib.hid h
  clear hout hst hidx hrem h ha
  simp at c1 s0
  go_enter Tryz.func28, Tryz.ntmps28
  go_wp2_with fail
  refine HO.out.mono ?_
  rintro e1 w1 ⟨rfl, hk, vl', vf', vq', ha'⟩
  have HK := Lib.hid hk
  have HA := Lib.hid ha'
  clear hk ha'
  go_wp2
  go_ret
  have h := HH.out
  have hlt : ∀ b, b < w.heap.size → ¬ SA b → ¬ (SA b ∨ w.heap.size ≤ b) := fun b h1 h2 h3 => h3.elim h2 (fun h4 => by omega)
  have hb1 : (e.remove key).1 = (e.s.find key).isSome := by
    unfold Eng.remove
    cases e.s.find key with
    | none => rfl
    | some x => rfl
  have hv : (e.remove key).2.s.vars = e.s.vars := by
    unfold Eng.remove
    cases e.s.find key with
    | none => rfl
    | some x => rfl
  have hp : (e.remove key).2.p = e.p := HR.out.2.1
  have hn : (e.remove key).2.n = e.n := HR.out.2.2.1
  have hE : EInv e.p (e.remove key).2.s := HR.out.2.2.2.1
  obtain ⟨ns', hA'⟩ : ∃ ns', AInv (A.out key) ns' (e.remove key).2.s.q := by
    have := HST.out.2.2.2
    unfold Eng.remove
    cases hf : e.s.find key with
    | none => rw [hf] at this; exact ⟨ns, by rw [this.1]; exact h.inv⟩
    | some x => rw [hf] at this; exact this.1
  refine ⟨by rw [hb1, ← HI.out]; rfl, HK.out.mono (fun b hb => hb.elim (fun k => .inl (h.sa b k)) .inr), gg, gs, ga, gp, bm, bc, loops, vd, vva, (fun b => SA b ∨ w.heap.size ≤ b), A.out key, ns', ?_, ?_, ?_, ?_, ⟨vl', vf', vq', bm', HA.out⟩, hA', by rw [hp]; exact hE.si, by rw [hp]; exact h.pw, by rw [hp]; exact hE.nov, fun b hb => hb.elim (fun k => .inl (h.sa b k)) .inr, ⟨.inl h.se.1, hlt _ h.row.lt h.se.2⟩, ⟨.inl h.ss.1, hlt _ h.srow.lt h.ss.2⟩⟩
  · rw [hn]; exact h.row.kept HK.out (hlt _ h.row.lt h.se.2)
  · rw [hp]
    exact (h.prog.mono (S' := fun b => (S b ∨ w.heap.size ≤ b) ∧ ¬ (SA b ∨ w.heap.size ≤ b)) (fun b hb hs => ⟨.inl hs.1, hlt b hb hs.2⟩)).kept HK.out (fun b hb _ => hb.2)
  · exact h.srow.kept HK.out (hlt _ h.srow.lt h.ss.2)
  · rw [hv]
    exact ⟨(h.vars.kept HK.out (fun b hb => hlt b (h.vars.lt hb) (h.vars.2 b hb).2)).1, fun b hb => ⟨.inl (h.vars.2 b hb).1, hlt b (h.vars.lt hb) (h.vars.2 b hb).2⟩⟩
end
end Go.Proofs.YtemppijblfflgaaGreatDoor.Ev
namespace Go.Proofs.YtemppijblfflgaaGreatDoor.Ev
open Go Go.RowKit

section
variable {B : Nat} {ea : Nat → Addr} {S : Nat → Prop} {w : World} {ge : Nat} {e : Eng}

/-- An engine is given, all in new blocks. -/
def OutKL (w : World) (p : Policy) (e : Ending) (w' : World) : Prop :=
  ∃ ge, e = .returned (.pointer (some ⟨ge, 0, none⟩)) ∧ Kept (fun b => w.heap.size ≤ b) w w' ∧ EngR (fun b => w.heap.size ≤ b ∧ b < w'.heap.size) w' ge (Eng.new p)

set_option maxRecDepth 100000 in
set_option maxHeartbeats 1000000 in
theorem kload_any (he : Env B ea w) (ho : ErrObj B ea w) {s q : Bytes} {p : Policy} (hr : read s = .ok p) (hk : (Eng.new p).keys q = some []) : Calls Tryz.prog 14 #[vs s, vs q] w (OutKL w p) := by
  have hload := load_any he ho s
  have HL := Lib.hid hload
  have HR := Lib.hid hr
  have HK := Lib.hid hk
  clear hload hr hk he ho
  go_enter Tryz.func14, Tryz.ntmps14
  go_wp2_with fail
  refine HL.out.mono ?_
  rintro e1 w1 ⟨hk1, hm⟩
  rw [HR.out] at hm
  obtain ⟨ge, rfl, hE⟩ := hm
  have hkeys := ekeys_any hE q
  rw [HK.out] at hkeys
  have HKE := Lib.hid hkeys
  have HE := Lib.hid hE
  have K1 := Lib.hid hk1
  clear hkeys hE hk1
  go_wp2_with fail
  refine HKE.out.mono ?_
  rintro e2 w2 ⟨hk2, v, rfl, hs⟩
  obtain ⟨a, c, rfl⟩ : ∃ a c, v = .slice a 0 c := hs.shape
  have K2 := Lib.hid hk2
  clear hk2 hs
  go_wp2
  go_ret
  exact ⟨ge, rfl, K1.out.trans (K2.out.mono (fun b hb => Nat.le_trans K1.out.size hb)), (HE.out.kept K2.out (fun b hb hl h2 => by omega)).mono (fun b hb => ⟨hb.1, Nat.lt_of_lt_of_le hb.2 K2.out.size⟩)⟩

/-- The answer is as it was to be. -/
def OutTold (S : Nat → Prop) (w : World) (ge : Nat) (e1 : Eng) (e : Ending) (w' : World) : Prop :=
  e = .returned (.bool true) ∧ Kept (fun b => b = ge ∨ w.heap.size ≤ b) w w' ∧ ∃ S', EngR S' w' ge e1 ∧ ∀ b, S' b → (S b ∨ w.heap.size ≤ b) ∧ b < w'.heap.size

set_option maxRecDepth 100000 in
set_option maxHeartbeats 4000000 in
theorem told_any (he : Env B ea w) (ho : ErrObj B ea w) (h : EngR S w ge e) (hS : ∀ b, S b → b < w.heap.size) {m : Nat} (hm : m ≤ 4000000) (hc : CntB e.n m) {key : Int} {hit : Bool} {gone l : List Int} {e1 : Eng} {q : Bytes} {vo vl : Value}
    (ha : e.access key = .ok hit gone e1) (hk : e1.keys q = some l) (hvo : LR w vo gone) (hvl : LR w vl l) (no : ∀ b, vo.ownBlock = some b → b ≠ ge) (nl : ∀ b, vl.ownBlock = some b → b ≠ ge) (go : gone.length ≤ 1000000000) (gl : l.length ≤ 1000000000) :
    Calls Tryz.prog 19 #[.pointer (some ⟨ge, 0, none⟩), .int .u64 key, .bool hit, vo, vs q, vl] w (OutTold S w ge e1) := by
  have hacc := eaccess_any he ho h hS hm hc key
  rw [ha] at hacc
  have HA := Lib.hid hacc
  have HK := Lib.hid hk
  have HVO := Lib.hid hvo
  have HVL := Lib.hid hvl
  have NO := Lib.hid no
  have NL := Lib.hid nl
  have GO := Lib.hid go
  have GL := Lib.hid gl
  have HS := Lib.hid hS
  clear hacc ha hk hvo hvl no nl go gl hS he ho hm hc h
  unfold vs at *
  cases hit
  all_goals
    go_enter Tryz.func19, Tryz.ntmps19
    go_wp2_with fail
    refine HA.out.mono ?_
    rintro x w1 ⟨hk1, v1, rfl, hs1, hE⟩
    have hE2 := hE.shrink
    have hkeys := ekeys_any hE2 q
    rw [HK.out] at hkeys
    unfold vs at hkeys
    have HKE := Lib.hid hkeys
    have HE := Lib.hid hE2
    have K1 := Lib.hid hk1
    have HS1 := Lib.hid hs1
    clear hkeys hE hE2 hk1 hs1
    go_wp2_with fail
    refine HKE.out.mono ?_
    rintro x w2 ⟨hk2, v2, rfl, hs2⟩
    have kk : Kept (fun b => b = ge ∨ w.heap.size ≤ b) w w2 := K1.out.trans (hk2.mono (fun b hb => .inr (Nat.le_trans K1.out.size hb)))
    have hq1 : LR w2 v1 gone := (HS1.out.lr).later hk2 (fun b hb => hb)
    have hq2 : LR w2 v2 l := hs2.lr
    have hq3 : LR w2 vo gone := HVO.out.kept kk (fun b hb hh => hh.elim (NO.out b hb) (fun h3 => by have := HVO.out.lt hb; omega))
    have hq4 : LR w2 vl l := HVL.out.kept kk (fun b hb hh => hh.elim (NL.out b hb) (fun h3 => by have := HVL.out.lt hb; omega))
    have hsm1 := fun W (hw : ∃ n, W = w2.drewN n) => (show Calls Tryz.prog 22 #[v1, vo] W (BoolQ W (gone == gone)) from by obtain ⟨n, rfl⟩ := hw; exact same_any (hq1.drewN n) (hq3.drewN n) GO.out GO.out)
    have hsm2 := fun W (hw : ∃ n, W = w2.drewN n) => (show Calls Tryz.prog 22 #[v2, vl] W (BoolQ W (l == l)) from by obtain ⟨n, rfl⟩ := hw; exact same_any (hq2.drewN n) (hq4.drewN n) GL.out GL.out)
    have HM1 := Lib.hid hsm1
    have HM2 := Lib.hid hsm2
    have K2 := Lib.hid hk2
    have KK := Lib.hid kk
    clear hsm1 hsm2 hq1 hq2 hq3 hq4 hk2 kk hs2
    go_wp2_with fail
    refine (HM1.out _ ⟨0, rfl⟩).mono ?_
    rintro x w3 ⟨rfl, n3, rfl⟩
    rw [beq_self_eq_true]
    go_wp2_with fail
    refine (HM2.out _ ⟨n3, rfl⟩).mono ?_
    rintro x w4 ⟨rfl, n4, rfl⟩
    rw [beq_self_eq_true]
    go_wp2
    go_ret
    have h5 : EngR (fun b => (S b ∨ w.heap.size ≤ b) ∧ b < w1.heap.size) w2 ge e1 := (HE.out.kept K2.out (fun b hb hl h2 => by omega)).mono (fun b hb => ⟨hb.1.1, hb.2⟩)
    exact ⟨rfl, KK.out.drewN _, _, h5.of_heap rfl rfl rfl rfl, fun b hb => ⟨hb.1, Nat.lt_of_lt_of_le hb.2 K2.out.size⟩⟩
end
end Go.Proofs.YtemppijblfflgaaGreatDoor.Ev
namespace Go.Proofs.YtemppijblfflgaaGreatDoor.Ev
open Go Go.RowKit

theorem digits_lt {n : Int} (h0 : 0 ≤ n) (h : n < 10) : digits n = [UInt8.ofNat (48 + n.toNat)] := by
  unfold digits
  rw [digitsNat_one (by omega)]
theorem digits_ge {n : Int} (h : 10 ≤ n) : digits n = digits (n / 10) ++ [UInt8.ofNat (48 + (n % 10).toNat)] := by
  unfold digits
  rw [digitsNat_more (by omega)]
  have e1 : n.toNat / 10 = (n / 10).toNat := by omega
  have e2 : n.toNat % 10 = (n % 10).toNat := by omega
  rw [e1, e2]

section
variable {w : World}
attribute [local go_sem ↓] Go.wp_at_zero Go.wp_at_succ
/-- A text is given; new blocks alone. -/
def OutTxt (w : World) (s : Bytes) (e : Ending) (w' : World) : Prop := e = .returned (vs s) ∧ Kept (fun b => w.heap.size ≤ b) w w'

theorem cv_byte (m : Int) (h0 : 0 ≤ m) (h : m < 256) (W : World) (b : Nat) (hc : W.cell? ⟨b, 0, none⟩ = some (.int .u8 m)) : (convert 68 9 (.slice (some ⟨b, 0, none⟩) 1 1)).run Tryz.prog W = .ok (.string ⟨#[UInt8.ofNat m.toNat]⟩) W := by
  have := run_convert_bytes_back (P := Tryz.prog) W 68 9 5 ⟨b, 0, none⟩ 1 [UInt8.ofNat m.toNat] Tryz.underlying68 Tryz.underlying5 Tryz.underlying9 (fun j hj => by
    obtain rfl : j = 0 := by simpa using hj
    have e : (((UInt8.ofNat m.toNat).toNat : Nat) : Int) = m := by
      rw [UInt8.toNat_ofNat']
      omega
    show W.cell? ⟨b, 0, none⟩ = some (.int .u8 (((UInt8.ofNat m.toNat).toNat : Nat) : Int))
    rw [e]
    exact hc)
  exact this

set_option maxRecDepth 100000 in
set_option maxHeartbeats 1000000 in
theorem fig1_any {n : Int} (h0 : 0 ≤ n) (h : n < 10) : Calls Tryz.prog 15 #[.int .i64 n] w fun e w' => e = .returned (vs (digits n)) ∧ w' = w.alloc (.cells #[.int .u8 (48 + n)] 5) := by
  rw [digits_lt h0 h]
  have hcv := cv_byte (48 + n) (by omega) (by omega)
  go_enter Tryz.func15, Tryz.ntmps15
  go_wp2
  go_ret
  have e : (48 + n).toNat = 48 + n.toNat := by omega
  exact ⟨by rw [← e]; rfl, rfl⟩

theorem vs_app (a b : Bytes) : (⟨a.toArray⟩ : ByteArray) ++ ⟨b.toArray⟩ = ⟨(a ++ b).toArray⟩ := by
  apply ByteArray.ext
  simp [ByteArray.data_append]

set_option maxRecDepth 100000 in
set_option maxHeartbeats 2000000 in
theorem fig_any {n : Int} (h0 : 0 ≤ n) (h : n ≤ 99) : Calls Tryz.prog 15 #[.int .i64 n] w (OutTxt w (digits n)) := by
  by_cases hl : n < 10
  · refine (fig1_any h0 hl).mono ?_
    rintro e w' ⟨rfl, rfl⟩
    exact ⟨rfl, (Kept.refl _ w).alloc (Nat.le_refl _) _⟩
  have hf := fun W => fig1_any (w := W) (n := n / 10) (by omega) (by omega)
  have hd := digits_ge (n := n) (by omega)
  have hcv := cv_byte (48 + n % 10) (by omega) (by omega)
  have q1 : n.tdiv 10 = n / 10 := Int.tdiv_eq_ediv_of_nonneg h0
  have q3 : n.tmod 10 = n % 10 := Int.tmod_eq_emod_of_nonneg h0
  have b1 : 0 ≤ n % 10 := by omega
  have b2 : n % 10 < 10 := by omega
  have b3 : 0 ≤ n / 10 := by omega
  have b4 : n / 10 < 10 := by omega
  generalize n / 10 = d at *
  generalize n % 10 = r at *
  have q2 : IntKind.i64.wrap d = d := IntWalk.i64_in _ (by omega)
  have q4 : IntKind.i64.wrap r = r := IntWalk.i64_in _ (by omega)
  have q5 : IntKind.i64.wrap (48 + r) = 48 + r := IntWalk.i64_in _ (by omega)
  have q6 : IntKind.u8.wrap (48 + r) = 48 + r := by unfold IntKind.wrap; simp [IntKind.signed, IntKind.bits]; omega
  have hsum : ∀ W : World, (Op.stringOp .add (⟨(digits d).toArray⟩ : ByteArray) ⟨#[UInt8.ofNat (48 + r).toNat]⟩).run Tryz.prog W = .ok (.string (⟨(digits d).toArray⟩ ++ ⟨#[UInt8.ofNat (48 + r).toNat]⟩)) W := fun W => by
    refine run_string_add_sum W _ _ ?_
    have := (digits_ok (n := d) (by omega) (by omega)).2.1
    rw [size_vs]
    show (digits d).length + 1 ≤ _
    omega
  have HF := Lib.hid hf
  have HD := Lib.hid hd
  clear hf hd
  unfold vs at *
  go_enter Tryz.func15, Tryz.ntmps15
  go_wp2_with fail
  go_region_with (go_at_call 15; refine (HF.out _).mono ?_; rintro e w1 ⟨rfl, rfl⟩)
  all_goals go_wp2
  all_goals go_ret
  all_goals
    refine ⟨?_, ?_⟩
    · have e : (48 + r).toNat = 48 + r.toNat := by omega
      have e2 : vs (digits d ++ [UInt8.ofNat (48 + r.toNat)]) = .string (⟨(digits d).toArray⟩ ++ ⟨#[UInt8.ofNat (48 + r).toNat]⟩) := by
        unfold vs
        rw [← vs_app, e]
      rw [HD.out, e2]
      rfl
    · repeat' first | with_reducible exact Kept.refl _ _ | with_reducible refine Kept.drew ?_ | with_reducible refine Kept.alloc ?_ (by simp) _
end
end Go.Proofs.YtemppijblfflgaaGreatDoor.Ev
namespace Go.Proofs.YtemppijblfflgaaGreatDoor.Ev
open Go Go.RowKit

theorem laidVars_mem {P : Program} {w : World} {n : String} {d : DataW Unit} : ∀ {l : List (String × DataW Unit)} {ps : List MemPlace}, DataW.LaidVars P w l ps → (n, d) ∈ l →
    ∃ g t cs fuel p, P.globalNamed n = some g ∧ (P.globals[g]?).map (·.type) = some t ∧ w.var? P n = some cs ∧ DataW.trod (fun _ => ()) P w 0 (fun _ => true) false fuel t cs.toList = some (d, p) ∧
      (∀ x ∈ MemPlace.row ⟨g, 0, none⟩ cs.size, x ∈ ps) ∧ ∀ x ∈ p, x ∈ ps
  | [], _, _, h => by cases h
  | (n', d') :: l, ps, h, hm => by
    obtain ⟨g, t, cs, fuel, p, q, h1, h2, h3, h4, h5, rfl⟩ := h
    rcases List.mem_cons.1 hm with e | hm
    · injection e with e1 e2
      subst e1 e2
      exact ⟨g, t, cs, fuel, p, h1, h2, h3, h4, fun x hx => List.mem_append_left _ (List.mem_append_left _ hx), fun x hx => List.mem_append_left _ (List.mem_append_right _ hx)⟩
    · obtain ⟨g', t', cs', fuel', p', a, b, c, d, e, f⟩ := laidVars_mem h5 hm
      exact ⟨g', t', cs', fuel', p', a, b, c, d, fun x hx => List.mem_append_right _ (e x hx), fun x hx => List.mem_append_right _ (f x hx)⟩

/-- The parts of the row's condition: no handles, handles. -/
theorem laidMetH_split {P : Program} {l : List (String × DataW Unit)} {W : World} (h : laidMetH P l W) {n0 : String} {d0 : DataW Unit} (h0 : (n0, d0) ∈ l) (hh : d0.handleName?.isSome = true) :
    laidMet P (l.filter fun x => x.2.handleName?.isNone) W ∧ handlesMet P (l.filter fun x => x.2.handleName?.isSome) W := by
  unfold laidMetH at h
  have hm : (n0, d0) ∈ l.filter fun x => x.2.handleName?.isSome := List.mem_filter.2 ⟨h0, hh⟩
  split at h
  · rename_i e
    rw [e] at hm
    cases hm
  · rename_i a b e
    rw [e]
    exact h

/-- A sentinel: its variable holds a pointer to a block that holds its text. -/
theorem sentinel_mem {P : Program} {n nm : String} {text : List UInt8} {l : List (String × DataW Unit)} {W : World} {g : Nat} {ti tp te ts : TypeId} {ms : Array (String × TypeId)} {f : Field}
    (h : laidMet P l W) (hmem : (n, DataW.iface nm (.ptr (.agg [.lit (.string text)]))) ∈ l)
    (hg : P.globalNamed n = some g) (ht : (P.globals[g]?).map (·.type) = some ti)
    (hi : P.underlying ti = some (.interface ms)) (hrow : ∀ u, P.typeName? 3 u = some nm → u = tp)
    (hp : P.underlying tp = some (.pointer te)) (he : P.underlying te = some (.struct #[f])) (hft : f.type = ts) (hfo : f.offset = 0) (hs : P.underlying ts = some .string) (hc : P.cellsOf te = 1) (hcs : P.cellsOf ts = 1) :
    ∃ (a : Addr) (s : ByteArray), W.cell? ⟨g, 0, none⟩ = some (.iface tp (.pointer (some a))) ∧ W.cell? a = some (.string s) ∧ s.data.toList = text ∧ ∃ (c : Array Value) (t : TypeId), W.heap[a.block]? = some (.cells c t (0, 0)) := by
  obtain ⟨ps, hv, hnd, hrows⟩ := h
  obtain ⟨g', t', cs, fuel, p, h1, h2, h3, h4, h5, h6⟩ := laidVars_mem hv hmem
  obtain rfl := Option.some.inj (hg.symm.trans h1)
  obtain rfl := Option.some.inj (ht.symm.trans h2)
  obtain ⟨l0⟩ := cs
  have ok0 : ∀ u v, l0 = [.iface u v] → Value.okWide P W .any 0 u v := fun u v e => by
    subst e
    exact (hrows g 0 (h5 _ (by simp [MemPlace.row]))).2 u v (by simpa using World.var?_cell h1 h3 0)
  obtain ⟨a, s, rfl, hc0, hs0, hz0, rfl⟩ := errorString_of_trod hi hrow hp he hft hfo hs hc hcs h4 ok0
  refine ⟨a, s, by simpa using World.var?_cell h1 h3 0, hc0, hs0, ?_⟩
  exact (hrows a.block a.off (h6 _ (by simp [MemPlace.row]))).1

def strData (l : List Bytes) : DataW Unit := .agg (l.map fun s => .lit (.string s))

theorem cells_of_strs {H : Type} {enc : TypeId × Value → H} {P : Program} {w : World} {base : Nat} {sp : Nat → Bool} {held : Bool} {fuel : Nat} {t e : TypeId} {n : Nat} {cs : List Value} {zs : List Bytes} {p : List MemPlace}
    (ht : P.underlying t = some (.array n e)) (he : P.underlying e = some .string) (hce : P.cellsOf e = 1) (hct : P.cellsOf t = n)
    (h : DataW.trod enc P w base sp held fuel t cs = some (.agg (zs.map fun s => .lit (.string s)), p)) : cs = zs.map vs := by
  cases fuel with
  | zero => simp [DataW.trod] at h
  | succ fuel =>
    simp only [DataW.trod, ht, hce, hct, Nat.mul_one] at h
    split at h
    · rename_i hl
      obtain ⟨xs, hm, hx⟩ := Option.map_eq_some_iff.1 h
      have hxs : xs.map (·.1) = zs.map fun z => (DataW.lit (.string z) : DataW H) := by
        have := congrArg Prod.fst hx
        simpa using this
      have hxl : xs.length = n := by simpa using Lib.mapM_length hm
      have hzl : zs.length = n := by
        have := congrArg List.length hxs
        simp at this
        omega
      apply List.ext_getElem?
      intro i
      by_cases hi : i < n
      · obtain ⟨b, hb, hf⟩ := Lib.mapM_at hm i i (by simp [hi])
        obtain ⟨z, hc, rfl, _⟩ := DataW.trod_string he hf
        have h1 : cs[i]? = some (.string z) := by
          have := congrArg (·[0]?) hc
          simpa [List.getElem?_take, List.getElem?_drop] using this
        have h2 : (xs.map (·.1))[i]? = some (DataW.lit (.string z.data.toList) : DataW H) := by simp [hb]
        rw [hxs] at h2
        simp only [List.getElem?_map, Option.map_eq_some_iff, DataW.lit.injEq, Lit.string.injEq] at h2
        obtain ⟨z', hz', e⟩ := h2
        have e2 : vs z' = .string z := by
          rw [e]
        rw [h1, List.getElem?_map, hz', Option.map_some, e2]
      · rw [List.getElem?_eq_none (by omega), List.getElem?_eq_none (by simp; omega)]
    · cases h

/-- An array of texts: what a walk reads at place i. -/
theorem strs_mem {P : Program} {n : String} {zs : List Bytes} {l : List (String × DataW Unit)} {W : World} {g : Nat} {t e : TypeId} {m : Nat}
    (h : laidMet P l W) (hmem : (n, strData zs) ∈ l) (hg : P.globalNamed n = some g) (hty : (P.globals[g]?).map (·.type) = some t) (ht : P.underlying t = some (.array m e)) (he : P.underlying e = some .string) (hce : P.cellsOf e = 1) (hct : P.cellsOf t = m)
    (i : Nat) (hi : i < zs.length) : W.cell? ⟨g, i, none⟩ = some (vs (zs.getD i [])) := by
  obtain ⟨ps, hv, hnd, hrows⟩ := h
  obtain ⟨g', t', cs, fuel, p, h1, h2, h3, h4, h5, h6⟩ := laidVars_mem hv hmem
  obtain rfl := Option.some.inj (hg.symm.trans h1)
  obtain rfl := Option.some.inj (hty.symm.trans h2)
  have hc := cells_of_strs ht he hce hct h4
  have hcell := World.var?_cell h1 h3 i
  rw [show cs = (zs.map vs).toArray from by rw [← hc]] at hcell
  simpa [List.getD, hi] using hcell
end Go.Proofs.YtemppijblfflgaaGreatDoor.Ev
namespace Go.Proofs.YtemppijblfflgaaGreatDoor.Ev
open Go Go.RowKit

def errText (k : Nat) : Bytes :=
  if k = 1 then [116, 111, 111, 32, 108, 111, 110, 103] else if k = 2 then [115, 121, 110, 116, 97, 120, 32, 101, 114, 114, 111, 114] else if k = 3 then [116, 111, 111, 32, 100, 101, 101, 112] else if k = 4 then [100, 101, 99, 108, 97, 114, 101, 100, 32, 116, 119, 105, 99, 101] else if k = 5 then [110, 111, 116, 32, 100, 101, 99, 108, 97, 114, 101, 100] else if k = 6 then [111, 102, 32, 97, 110, 111, 116, 104, 101, 114, 32, 107, 105, 110, 100] else if k = 7 then [97, 32, 110, 117, 109, 98, 101, 114, 32, 98, 101, 121, 111, 110, 100, 32, 105, 116, 115, 32, 98, 111, 117, 110, 100, 115] else if k = 8 then [97, 32, 115, 101, 99, 111, 110, 100, 32, 114, 117, 108, 101] else if k = 9 then [116, 111, 111, 32, 109, 97, 110, 121, 32, 110, 97, 109, 101, 115] else if k = 10 then [110, 111, 32, 114, 117, 108, 101, 32, 102, 111, 114, 32, 97, 32, 109, 105, 115, 115] else if k = 11 then [97, 32, 113, 117, 101, 117, 101, 32, 105, 115, 32, 102, 117, 108, 108] else if k = 12 then [97, 32, 113, 117, 101, 117, 101, 32, 105, 115, 32, 101, 109, 112, 116, 121] else []
theorem errText_inj : ∀ j k, 1 ≤ j → j ≤ 12 → 1 ≤ k → k ≤ 12 → errText j = errText k → j = k := by
  have h : ∀ j : Fin 13, ∀ k : Fin 13, 1 ≤ j.val → 1 ≤ k.val → errText j.val = errText k.val → j.val = k.val := by decide
  intro j k h1 h2 h3 h4 e
  exact h ⟨j, by omega⟩ ⟨k, by omega⟩ h1 h3 e

theorem rowErr (u : TypeId) (h : Tryz.prog.typeName? 3 u = some "*errors.errorString") : u = 315 :=
  typeName_ptr_named (nm := "errors.errorString") (by kernel_rfl) (by kernel_rfl) (by decide) u h
theorem cellsES : Tryz.prog.cellsOf 317 = 1 := by kernel_rfl
theorem cellsStr : Tryz.prog.cellsOf 9 = 1 := by kernel_rfl
theorem cellsKw : Tryz.prog.cellsOf 236 = 24 := by kernel_rfl
theorem etNamed : Tryz.prog.globalNamed "errors.errorType" = some 2 := by kernel_rfl
theorem rtCut : (Tryz.prog.cutTypes.find? (·.1 == "internal/reflectlite.rtype")).map (·.2) = some 241 := by kernel_rfl
theorem oneRowErr : ((List.range 346).filter fun t => Tryz.prog.rowNamed t [101, 114, 114, 111, 114]) = [80] := by kernel_rfl
theorem typesSize : Tryz.prog.types.size = 346 := by kernel_rfl

/-- The list bears the errors, the words, the handle. -/
structure Bears (l : List (String × DataW Unit)) : Prop where
  et : ("errors.errorType", Rows.laid_errors_errorType) ∈ l
  kw : ("evictor/policy.keywords", Rows.laid_evictor_policy_keywords) ∈ l
  e1 : ("evictor/policy.ErrLong", Rows.laid_evictor_policy_ErrLong) ∈ l
  e2 : ("evictor/policy.ErrSyntax", Rows.laid_evictor_policy_ErrSyntax) ∈ l
  e3 : ("evictor/policy.ErrDeep", Rows.laid_evictor_policy_ErrDeep) ∈ l
  e4 : ("evictor/policy.ErrTwice", Rows.laid_evictor_policy_ErrTwice) ∈ l
  e5 : ("evictor/policy.ErrNone", Rows.laid_evictor_policy_ErrNone) ∈ l
  e6 : ("evictor/policy.ErrKind", Rows.laid_evictor_policy_ErrKind) ∈ l
  e7 : ("evictor/policy.ErrNumber", Rows.laid_evictor_policy_ErrNumber) ∈ l
  e8 : ("evictor/policy.ErrRule", Rows.laid_evictor_policy_ErrRule) ∈ l
  e9 : ("evictor/policy.ErrMany", Rows.laid_evictor_policy_ErrMany) ∈ l
  e10 : ("evictor/policy.ErrMiss", Rows.laid_evictor_policy_ErrMiss) ∈ l
  e11 : ("evictor/code.ErrFull", Rows.laid_evictor_code_ErrFull) ∈ l
  e12 : ("evictor/code.ErrEmpty", Rows.laid_evictor_code_ErrEmpty) ∈ l

/-- A sentinel of this program. -/
def ErrAt (W : World) (k : Nat) (a : Addr) : Prop :=
  W.cell? ⟨errGlobal k, 0, none⟩ = some (.iface 315 (.pointer (some a))) ∧ (∃ s : ByteArray, W.cell? a = some (.string s) ∧ s.data.toList = errText k) ∧ ∃ (c : Array Value) (t : TypeId), W.heap[a.block]? = some (.cells c t (0, 0))

section
variable {l : List (String × DataW Unit)} {W : World}
theorem errAt_of {n : String} {k g : Nat} (h : laidMet Tryz.prog (l.filter fun x => x.2.handleName?.isNone) W) (hm : (n, DataW.iface "*errors.errorString" (.ptr (.agg [.lit (.string (errText k))]))) ∈ l)
    (hg : Tryz.prog.globalNamed n = some g) (ht : (Tryz.prog.globals[g]?).map (·.type) = some 80) (hk : errGlobal k = g) : ∃ a, ErrAt W k a := by
  obtain ⟨a, s, h1, h2, h3, h4⟩ := sentinel_mem h (List.mem_filter.2 ⟨hm, rfl⟩) hg ht Tryz.underlying80 rowErr Tryz.underlying315 Tryz.underlying317 rfl rfl Tryz.underlying9 cellsES cellsStr
  exact ⟨a, by rw [hk]; exact h1, ⟨s, h2, h3⟩, h4⟩
theorem gN1 : Tryz.prog.globalNamed "evictor/policy.ErrLong" = some 0 := by kernel_rfl
theorem gT1 : (Tryz.prog.globals[0]?).map (·.type) = some 80 := by kernel_rfl
theorem gN2 : Tryz.prog.globalNamed "evictor/policy.ErrSyntax" = some 6 := by kernel_rfl
theorem gT2 : (Tryz.prog.globals[6]?).map (·.type) = some 80 := by kernel_rfl
theorem gN3 : Tryz.prog.globalNamed "evictor/policy.ErrDeep" = some 7 := by kernel_rfl
theorem gT3 : (Tryz.prog.globals[7]?).map (·.type) = some 80 := by kernel_rfl
theorem gN4 : Tryz.prog.globalNamed "evictor/policy.ErrTwice" = some 8 := by kernel_rfl
theorem gT4 : (Tryz.prog.globals[8]?).map (·.type) = some 80 := by kernel_rfl
theorem gN5 : Tryz.prog.globalNamed "evictor/policy.ErrNone" = some 9 := by kernel_rfl
theorem gT5 : (Tryz.prog.globals[9]?).map (·.type) = some 80 := by kernel_rfl
theorem gN6 : Tryz.prog.globalNamed "evictor/policy.ErrKind" = some 10 := by kernel_rfl
theorem gT6 : (Tryz.prog.globals[10]?).map (·.type) = some 80 := by kernel_rfl
theorem gN7 : Tryz.prog.globalNamed "evictor/policy.ErrNumber" = some 11 := by kernel_rfl
theorem gT7 : (Tryz.prog.globals[11]?).map (·.type) = some 80 := by kernel_rfl
theorem gN8 : Tryz.prog.globalNamed "evictor/policy.ErrRule" = some 12 := by kernel_rfl
theorem gT8 : (Tryz.prog.globals[12]?).map (·.type) = some 80 := by kernel_rfl
theorem gN9 : Tryz.prog.globalNamed "evictor/policy.ErrMany" = some 13 := by kernel_rfl
theorem gT9 : (Tryz.prog.globals[13]?).map (·.type) = some 80 := by kernel_rfl
theorem gN10 : Tryz.prog.globalNamed "evictor/policy.ErrMiss" = some 1 := by kernel_rfl
theorem gT10 : (Tryz.prog.globals[1]?).map (·.type) = some 80 := by kernel_rfl
theorem gN11 : Tryz.prog.globalNamed "evictor/code.ErrFull" = some 4 := by kernel_rfl
theorem gT11 : (Tryz.prog.globals[4]?).map (·.type) = some 80 := by kernel_rfl
theorem gN12 : Tryz.prog.globalNamed "evictor/code.ErrEmpty" = some 5 := by kernel_rfl
theorem gT12 : (Tryz.prog.globals[5]?).map (·.type) = some 80 := by kernel_rfl
theorem gNkw : Tryz.prog.globalNamed "evictor/policy.keywords" = some 14 := by kernel_rfl
theorem gTkw : (Tryz.prog.globals[14]?).map (·.type) = some 236 := by kernel_rfl

theorem env_of (h : laidMetH Tryz.prog l W) (b : Bears l) : ∃ ea, Env W.heap.size ea W ∧ ErrObj W.heap.size ea W := by
  obtain ⟨h1, h2⟩ := laidMetH_split h b.et rfl
  have hex : ∀ k, ∃ a, 1 ≤ k → k ≤ 12 → ErrAt W k a := by
    intro k
    by_cases hk : 1 ≤ k ∧ k ≤ 12
    · have : ∃ a, ErrAt W k a := by
        have hc : k = 1 ∨ k = 2 ∨ k = 3 ∨ k = 4 ∨ k = 5 ∨ k = 6 ∨ k = 7 ∨ k = 8 ∨ k = 9 ∨ k = 10 ∨ k = 11 ∨ k = 12 := by omega
        rcases hc with rfl | rfl | rfl | rfl | rfl | rfl | rfl | rfl | rfl | rfl | rfl | rfl
        · exact errAt_of h1 b.e1 gN1 gT1 rfl
        · exact errAt_of h1 b.e2 gN2 gT2 rfl
        · exact errAt_of h1 b.e3 gN3 gT3 rfl
        · exact errAt_of h1 b.e4 gN4 gT4 rfl
        · exact errAt_of h1 b.e5 gN5 gT5 rfl
        · exact errAt_of h1 b.e6 gN6 gT6 rfl
        · exact errAt_of h1 b.e7 gN7 gT7 rfl
        · exact errAt_of h1 b.e8 gN8 gT8 rfl
        · exact errAt_of h1 b.e9 gN9 gT9 rfl
        · exact errAt_of h1 b.e10 gN10 gT10 rfl
        · exact errAt_of h1 b.e11 gN11 gT11 rfl
        · exact errAt_of h1 b.e12 gN12 gT12 rfl
      obtain ⟨a, ha⟩ := this
      exact ⟨a, fun _ _ => ha⟩
    · exact ⟨⟨0, 0, none⟩, fun h3 h4 => absurd ⟨h3, h4⟩ hk⟩
  obtain ⟨ea, hea⟩ := Classical.axiomOfChoice hex
  have hkw : ∀ j, j < 24 → W.cell? ⟨14, j, none⟩ = some (vs (keywords.getD j [])) := fun j hj =>
    strs_mem (zs := keywords) h1 (List.mem_filter.2 ⟨b.kw, rfl⟩) gNkw gTkw Tryz.underlying236 Tryz.underlying9 cellsStr cellsKw j hj
  have het : W.cell? ⟨2, 0, none⟩ = some (.iface 241 (.agg #[.pointer (some ⟨21, 80, none⟩)])) := by
    obtain ⟨name, u, ty, e1, e2, e3, e4, e5⟩ := h2 _ (List.mem_filter.2 ⟨b.et, rfl⟩)
    have en : name = [101, 114, 114, 111, 114] := (Option.some.inj e1).symm
    subst en
    obtain rfl := Option.some.inj (rtCut.symm.trans e2)
    have hm : ty ∈ (List.range 346).filter fun t => Tryz.prog.rowNamed t [101, 114, 114, 111, 114] := List.mem_filter.2 ⟨List.mem_range.2 (by rw [← typesSize]; exact e3), e4⟩
    rw [oneRowErr] at hm
    obtain rfl := List.mem_singleton.1 hm
    have hh : typeHandle Tryz.prog 80 = .pointer (some ⟨21, 80, none⟩) := by kernel_rfl
    rw [hh] at e5
    simpa using World.var?_cell etNamed e5 0
  have hlt : ∀ k, 1 ≤ k → k ≤ 12 → (ea k).block < W.heap.size := fun k k1 k2 => by
    obtain ⟨_, ⟨s, hs, _⟩, _⟩ := hea k k1 k2
    exact World.block_lt_of_cell? W _ hs
  refine ⟨ea, ⟨Nat.le_refl _, fun k k1 k2 => (hea k k1 k2).1, fun k k1 k2 => World.block_lt_of_cell? W _ (hea k k1 k2).1, hkw, World.block_lt_of_cell? W _ (hkw 0 (by omega))⟩,
    ⟨fun k k1 k2 => (hea k k1 k2).2.2, hlt, fun j k j1 j2 k1 k2 e => ?_, het, World.block_lt_of_cell? W _ het⟩⟩
  obtain ⟨_, ⟨s, hs, ht⟩, _⟩ := hea j j1 j2
  obtain ⟨_, ⟨s', hs', ht'⟩, _⟩ := hea k k1 k2
  rw [e] at hs
  rw [hs] at hs'
  injection hs' with hs'
  injection hs' with hs'
  subst hs'
  exact errText_inj j k j1 j2 k1 k2 (ht.symm.trans ht')
end
end Go.Proofs.YtemppijblfflgaaGreatDoor.Ev
namespace Go.Proofs.YtemppijblfflgaaGreatDoor.Ev
open Go Go.ChangeShapes Go.WideShapes Go.ChangeAt Go.RowKit
open Go.ChangeMaps (open_string shut_string)

/-- It holds; nothing that was there has turned. -/
def TrueK (w : World) (e : Ending) (w' : World) : Prop := e = .returned (.bool true) ∧ Kept (fun b => w.heap.size ≤ b) w w'

theorem ownKnob_ : ownKnob Tryz.prog.godebug = none := by kernel_rfl
theorem laidOut_ : laidOutB Tryz.prog = true := by kernel_rfl

section
variable {H : Type} {enc : TypeId × Value → H} {P : Program}

/-- Behind a call that has turned nothing that was there, the arguments read as they did. -/
theorem trodAll_stays (hl : laidOutB P = true) {W W' : World} (hb : Below W.heap.size W W') {sp : Nat → Bool} : ∀ {ts : List TypeId} {vs : List Value} {ds : List (DataW H)} {ps : List MemPlace}, (∀ t ∈ ts, P.readableRec t = true ∧ t < P.types.size) →
    DataW.TrodAll enc P W 0 (fun _ => true) true ts vs ds ps → (∀ x ∈ ps, x.block < W.heap.size) → (∀ p ∈ ps, sp p.block = true) → DataW.TrodAll enc P W' 0 sp true ts vs ds ps
  | [], _, _, _, _, h, _, _ => by
    obtain ⟨rfl, rfl, rfl⟩ := trodAll_nil h
    exact trodAll_mk0
  | t :: ts, _, _, _, hts, h, hlt, hs => by
    obtain ⟨v, vs1, d, ds1, a, b, rfl, rfl, rfl, h1, h2⟩ := trodAll_cons h
    have ht := hts t (List.mem_cons_self ..)
    exact ⟨a, b, WideElems.Trod_stays hl ht.1 ht.2 h1 (fun x hx => hb.same (hlt x (List.mem_append_left _ hx))) (fun x hx => hs x (List.mem_append_left _ hx)),
      trodAll_stays hl hb (fun t ht => hts t (List.mem_cons_of_mem _ ht)) h2 (fun x hx => hlt x (List.mem_append_right _ hx)) (fun x hx => hs x (List.mem_append_right _ hx)), rfl⟩

/-- What is asked of a law's end. -/
theorem post_true {f : Func} {s : ChangeSpec} {W W' : World} {args : Array Value} {ds gs : List (DataW H)} {before : List MemPlace} {tb : TypeId} (hl : laidOutB P = true) (hv : s.vars = [])
    (hW : DataW.Whole enc P f.params.toList s.vars false W args.toList ds gs before) (hfn : ∀ ds' : List (DataW H), ds'.length = f.params.size → s.fn H ds' = { results := [.lit (.bool true)], args := ds' })
    (hrt : f.resultTypes = #[tb]) (htb : P.underlying tb = some .bool) (hts : ∀ t ∈ f.params.toList, P.readableRec t = true ∧ t < P.types.size) (hk : Kept (fun b => W.heap.size ≤ b) W W') :
    s.post enc P f false true false false W args (.bool true) W' := by
  have hb : Below W.heap.size W W' := hk.below (fun k h => h)
  have hlt : ∀ p ∈ before, p.block < W.heap.size := fun p hp => hW.lt p hp
  have hold : ∀ p ∈ before, (fun b => decide (b < W.heap.size)) p.block = true := fun p hp => by simpa using hlt p hp
  have hW' := hW
  obtain ⟨p, q, hA0, hV, rfl, hfz, hnd⟩ := hW
  have hA : DataW.TrodAll enc P W 0 (fun _ => true) true f.params.toList args.toList ds p := hA0
  rw [hv] at hV
  obtain ⟨rfl, rfl⟩ := trodVars_none hV
  rw [List.append_nil] at hlt hold
  have hlen : ∀ {ts : List TypeId} {vs : List Value} {ds : List (DataW H)} {ps : List MemPlace}, DataW.TrodAll enc P W 0 (fun _ => true) true ts vs ds ps → ds.length = ts.length := by
    intro ts
    induction ts with
    | nil => intro vs ds ps h; obtain ⟨rfl, rfl, rfl⟩ := trodAll_nil h; rfl
    | cons t ts ih =>
      intro vs ds ps h
      obtain ⟨v, vs1, d, ds1, a, b, rfl, rfl, rfl, h1, h2⟩ := trodAll_cons h
      simp [ih h2]
  have hd : ds.length = f.params.size := by rw [hlen hA]; simp
  have e : s.fn H (ds ++ []) = { results := [.lit (.bool true)], args := ds } := by rw [List.append_nil]; exact hfn ds hd
  have hres : ∀ (b : Nat) (sp : Nat → Bool) (hd : Bool), DataW.TrodAll enc P W' b sp hd f.resultTypes.toList ((Value.bool true).resultList f.resultTypes.size) (s.fn H (ds ++ [])).results [] := by
    intro b sp hd
    rw [e, hrt]
    exact trodAll_mk1 (shut_bool htb true)
  have hargs : ∀ sp : Nat → Bool, (∀ x ∈ p, sp x.block = true) → DataW.TrodAll enc P W' 0 sp true f.params.toList args.toList (s.fn H (ds ++ [])).args p := by
    intro sp hs
    rw [e]
    exact trodAll_stays hl hb hts hA hlt hs
  have hvars : ∀ sp : Nat → Bool, DataW.TrodVars enc P W' sp s.vars (s.fn H (ds ++ [])).vars [] := by
    intro sp
    rw [e, hv]
    exact rfl
  refine ⟨ds, [], p ++ [], [], p, [], hW', hres _ _ _, hargs _ hold, hvars _, World.keptBut_mono (fun x hx => ⟨hx, .inr (by simpa using hx)⟩) (hb.frame (· ∈ p ++ [])), fun _ => ?_⟩
  refine ⟨ok_one hrt rfl (okWide_bool_mk htb true), _, _, ([] ++ p) ++ [], ⟨[] ++ p, [], trodAll_append (hargs _ (fun _ _ => rfl)) (hres _ _ _), hvars _, rfl, ?_, ?_⟩, ?_⟩
  · intro b off hp
    have hin : MemPlace.cell b off ∈ p ++ [] := by simpa using hp
    rw [hb.frozen (hlt _ (by simpa using hin))]
    exact hfz b off hin
  · intro ha
    have := hnd ha
    simpa using this
  · intro x hx _
    simpa using hx
end

/-- A slice of keys that came in. -/
def KeysR (w : World) (v : Value) (l : List Int) : Prop :=
  ∃ a c, v = .slice a l.length c ∧ l.length ≤ maxLen ∧ ∀ (k : Nat) x, l[k]? = some x → ∃ g off, a = some ⟨g, off, none⟩ ∧ w.cell? ⟨g, off + k, none⟩ = some (.int .u64 x)

theorem KeysR.shape {w : World} {v : Value} {l : List Int} (h : KeysR w v l) : ∃ a c, v = .slice a l.length c := by
  obtain ⟨a, c, h1, _⟩ := h
  exact ⟨a, c, h1⟩
theorem KeysR.at_ {w : World} {l : List Int} {a : Option Addr} {c : Nat} (h : KeysR w (.slice a l.length c) l) {k : Nat} {x : Int} (hx : l[k]? = some x) : ∃ g off, a = some ⟨g, off, none⟩ ∧ w.cell? ⟨g, off + k, none⟩ = some (.int .u64 x) ∧ g < w.heap.size ∧ l.length ≤ maxLen := by
  obtain ⟨a', c', h1, h2, h3⟩ := h
  injection h1 with h1 _ _
  obtain ⟨g, off, e, hc⟩ := h3 k x hx
  exact ⟨g, off, h1.trans e, hc, World.block_lt_of_cell? w _ hc, h2⟩
theorem keysR_of {H : Type} {enc : TypeId × Value → H} {P : Program} {w : World} {t e : TypeId} {v : Value} {d : DataW H} {p : List MemPlace} (ht : P.underlying t = some (.slice e)) (he : P.underlying e = some (.int .u64)) (hc : P.cellsOf e = 1)
    {b0 : Nat} (hv : Value.okWide P w .any b0 t v) (h : DataW.Trod enc P w 0 (fun _ => true) true t v d p) : ∃ l, KeysR w v l := by
  obtain ⟨a0, len0, cap0, rfl⟩ := okWide_slice ht hv
  obtain ⟨n, hn⟩ := h
  rcases open_ints ht he hc hn with ⟨h1, _⟩ | ⟨a, len, cap, zs, h1, _, h2, h3, h4, _, h5, _⟩
  · simp [Value.cells] at h1
    obtain ⟨rfl, rfl, rfl⟩ := h1
    exact ⟨[], none, 0, rfl, Nat.zero_le _, fun k x hx => by simp at hx⟩
  · simp [Value.cells] at h1
    obtain ⟨rfl, rfl, rfl⟩ := h1
    simp only [if_true] at h4
    refine ⟨zs.take len0, some a, cap0, by rw [List.length_take, Nat.min_eq_left (by omega)], by rw [List.length_take]; omega, fun k x hx => ?_⟩
    have hk : k < zs.length ∧ k < len0 := by
      have := (List.getElem?_eq_some_iff.1 hx).1
      rw [List.length_take] at this
      omega
    obtain ⟨b, off, rfl, hcell⟩ := ints_at h5 (by omega)
    refine ⟨b, off, rfl, ?_⟩
    rw [hcell k hk.1]
    rw [List.getElem?_take_of_lt hk.2] at hx
    rw [List.getD, hx]
    rfl

/-! ## A world in which the listed variables hold what they are laid as -/
def litV : DataW Unit → Value
  | .lit (.int k n) => .int k n
  | .lit (.string s) => .string ⟨s.toArray⟩
  | _ => undef
def aggV : DataW Unit → Array Value
  | .agg l => (l.map litV).toArray
  | .slice l _ => (l.map litV).toArray
  | _ => #[]
def errB (k : Nat) : Obj := .cells #[.string ⟨(errText k).toArray⟩] 317
def putV (h : Array Obj) (g : Nat) (cs : Array Value) : Array Obj := h.modify g fun
  | .cells _ t frozen => .cells cs t frozen
  | o => o
noncomputable def laidWorld (os : Os) : World :=
  let N := (World.settled Tryz.prog os).heap.size
  let w0 := World.holding Tryz.prog os ⟨#[errB 1, errB 2, errB 3, errB 4, errB 5, errB 6, errB 7, errB 8, errB 9, errB 10, errB 11, errB 12,
    .cells #[.string ⟨#[118, 97, 108, 117, 101, 32, 111, 117, 116, 32, 111, 102, 32, 114, 97, 110, 103, 101]⟩] 317,
    .cells #[.string ⟨#[105, 110, 118, 97, 108, 105, 100, 32, 115, 121, 110, 116, 97, 120]⟩] 317,
    .cells (aggV Rows.laid_evictor_evictorref_words) 9], #[], []⟩
  let e (i : Nat) : Array Value := #[.iface 315 (.pointer (some ⟨N + i, 0, none⟩))]
  let h := w0.heap
  let h := putV h 0 (e 0)
  let h := putV h 6 (e 1)
  let h := putV h 7 (e 2)
  let h := putV h 8 (e 3)
  let h := putV h 9 (e 4)
  let h := putV h 10 (e 5)
  let h := putV h 11 (e 6)
  let h := putV h 12 (e 7)
  let h := putV h 13 (e 8)
  let h := putV h 1 (e 9)
  let h := putV h 4 (e 10)
  let h := putV h 5 (e 11)
  let h := putV h 18 (e 12)
  let h := putV h 17 (e 13)
  let h := putV h 14 (aggV Rows.laid_evictor_policy_keywords)
  let h := putV h 16 (aggV Rows.laid_internal_strconv_uint64pow10)
  let h := putV h 19 (aggV Rows.laid_math_bits_deBruijn32tab)
  let h := putV h 20 (aggV Rows.laid_math_bits_deBruijn64tab)
  let h := putV h 2 #[.iface 241 (.agg #[.pointer (some ⟨21, 80, none⟩)])]
  let h := putV h 3 #[.slice (some ⟨N + 14, 0, none⟩) 24 24]
  { w0 with heap := h }
end Go.Proofs.YtemppijblfflgaaGreatDoor.Ev
namespace Go.Proofs.YtemppijblfflgaaGreatDoor.Ev
open Go Go.RowKit

/-- An engine in a law's loop, behind so many keys. -/
structure LoopE (w wr : World) (S : Nat → Prop) (ge : Nat) (e : Eng) (m : Nat) : Prop where
  kept : Kept (fun b => w.heap.size ≤ b) w wr
  eng : EngR S wr ge e
  lo : ∀ b, S b → w.heap.size ≤ b ∧ b < wr.heap.size
  cnt : CntB e.n m

/-- A list of the law's own, apart from the engine. -/
structure OwnL (wr : World) (S : Nat → Prop) (v : Value) (l : List Int) : Prop where
  sl : ∃ N, Sl N wr 27 1 v l.length (l.map encU)
  far : ∀ b, v.ownBlock = some b → ¬ S b

theorem access_cnt {e e1 : Eng} (hp : PolW e.p) {key : Int} {hit : Bool} {gone : List Int} (ha : e.access key = .ok hit gone e1) : e1.n = cntUp e.n hit gone.length ∧ gone.length ≤ 1750000 ∧ e1.p = e.p := by
  unfold Eng.access at ha
  simp only at ha
  split at ha
  · cases ha
  · rename_i r hr
    injection ha with h1 h2 h3
    subst h3
    refine ⟨?_, ?_, rfl⟩
    · rw [← h1, ← h2]; rfl
    · rw [← h2]; exact gone_most hp hr

section
variable {B : Nat} {ea : Nat → Addr} {S : Nat → Prop} {w wr w' : World} {ge : Nat} {e e1 : Eng} {m : Nat} {v : Value} {l : List Int}

theorem LoopE.start {p : Policy} (hk : Kept (fun b => w.heap.size ≤ b) w w') (hE : EngR (fun b => w.heap.size ≤ b ∧ b < w'.heap.size) w' ge (Eng.new p)) : LoopE w w' (fun b => w.heap.size ≤ b ∧ b < w'.heap.size) ge (Eng.new p) 0 :=
  ⟨hk, hE, fun b hb => hb, by unfold CntB; simp [Eng.new]⟩
theorem LoopE.env (h : LoopE w wr S ge e m) (he : Env B ea w) : Env B ea wr := he.kept h.kept (fun b hb => Nat.le_trans he.size hb)
theorem LoopE.err (h : LoopE w wr S ge e m) (he : Env B ea w) (ho : ErrObj B ea w) : ErrObj B ea wr := ho.kept h.kept (fun b hb => Nat.le_trans he.size hb)
theorem LoopE.later (h : LoopE w wr S ge e m) (hk : Kept (fun b => wr.heap.size ≤ b) wr w') : LoopE w w' S ge e m :=
  ⟨h.kept.trans (hk.mono (fun b hb => Nat.le_trans h.kept.size hb)), h.eng.kept hk (fun b hb hl h2 => by omega), fun b hb => ⟨(h.lo b hb).1, Nat.lt_of_lt_of_le (h.lo b hb).2 hk.size⟩, h.cnt⟩
theorem LoopE.drewN (h : LoopE w wr S ge e m) (n : Nat) : LoopE w (wr.drewN n) S ge e m := h.later ((Kept.refl _ _).drewN n)
theorem OwnL.nil (wr : World) (S : Nat → Prop) : OwnL wr S (.slice none 0 0) [] := ⟨⟨fun _ => True, Sl.nil_ _ wr _ _⟩, fun b hb => by cases hb⟩
theorem OwnL.lr (h : OwnL wr S v l) : LR wr v l := by
  obtain ⟨N, hs⟩ := h.sl
  exact hs.lr
theorem OwnL.later (h : OwnL wr S v l) (hk : Kept (fun b => wr.heap.size ≤ b) wr w') : OwnL w' S v l := by
  obtain ⟨N, hs⟩ := h.sl
  exact ⟨⟨N, hs.kept hk (fun b hb h2 => by have := hs.lt hb; omega)⟩, h.far⟩
theorem OwnL.drewN (h : OwnL wr S v l) (n : Nat) : OwnL (wr.drewN n) S v l := h.later ((Kept.refl _ _).drewN n)
theorem OwnL.fresh (h : LoopE w wr S ge e m) (hs : Sl (fun b => wr.heap.size ≤ b) w' 27 1 v l.length (l.map encU)) : OwnL w' S v l :=
  ⟨⟨_, hs⟩, fun b hb hS => by have := hs.2 b hb; have := (h.lo b hS).2; omega⟩
theorem OwnL.shape (h : OwnL wr S v l) : ∃ a c, v = .slice a l.length c := h.lr.shape
theorem OwnL.form (h : OwnL wr S v l) (hn : 0 < l.length) : ∃ g cap, v = .slice (some ⟨g, 0, none⟩) l.length cap ∧ ¬ S g ∧ l.length ≤ cap ∧ cap ≤ maxLen ∧ g < wr.heap.size := by
  obtain ⟨N, hs⟩ := h.sl
  obtain ⟨g, cap, h1, _, h2, h3, h4⟩ := hs.form hn
  exact ⟨g, cap, h1, h.far g (by rw [h1]; rfl), h2, h3, h4⟩
/-- The end of a list. -/
theorem OwnL.from_ {g cap : Nat} (h : OwnL wr S (.slice (some ⟨g, 0, none⟩) l.length cap) l) {k : Nat} (hk : k ≤ l.length) {c : Nat} (h1 : l.length - k ≤ c) (h2 : c ≤ maxLen) : LR wr (.slice (some ⟨g, k, none⟩) (l.length - k) c) (l.drop k) := by
  have hl := h.lr
  rcases hl with ⟨h0, hn⟩ | ⟨g', off, c', e, a1, a2, a3, a4⟩
  · injection h0 with h0; cases h0
  · injection e with e1 e2 e3
    injection e1 with e1
    injection e1 with e1 e4 e5
    subst e1 e4
    refine .inr ⟨g, k, c, by rw [List.length_drop], by rw [List.length_drop]; exact h1, h2, a3, fun i x hx => ?_⟩
    rw [List.getElem?_drop] at hx
    have := a4 (k + i) x hx
    rwa [Nat.zero_add] at this
theorem OwnL.cell {g cap : Nat} (h : OwnL wr S (.slice (some ⟨g, 0, none⟩) l.length cap) l) {k : Nat} {x : Int} (hx : l[k]? = some x) : wr.cell? ⟨g, k, none⟩ = some (.int .u64 x) := by
  obtain ⟨g', off, e, a, _⟩ := h.lr.at_ hx
  have hl := h.lr
  rcases hl with ⟨h0, hn⟩ | ⟨g', off', c', e', a1, a2, a3, a4⟩
  · injection h0 with h0; cases h0
  · injection e' with e1 e2 e3
    injection e1 with e1
    injection e1 with e1 e4 e5
    subst e1 e4
    have := a4 k x hx
    rwa [Nat.zero_add] at this

theorem OutList.own (h : LoopE w wr S ge e m) {l' : List Int} {x : Ending} (ho : OutList wr l' x w') : ∃ v, x = .returned v ∧ OwnL w' S v l' ∧ LoopE w w' S ge e m ∧ Kept (fun b => wr.heap.size ≤ b) wr w' := by
  obtain ⟨v, rfl, hk, hs⟩ := ho
  exact ⟨v, rfl, OwnL.fresh h hs, h.later hk, hk⟩
theorem own_without (h : OwnL wr S v l) (hl : l.length ≤ 1000000) {i : Nat} (hi : i < l.length) : Calls Tryz.prog 17 #[v, .int .i64 i] wr (OutList wr (l.eraseIdx i)) := by
  obtain ⟨N, hs⟩ := h.sl
  exact without_any hs hl hi
end
end Go.Proofs.YtemppijblfflgaaGreatDoor.Ev
namespace Go.Proofs.YtemppijblfflgaaGreatDoor.Ev
open Go Go.RowKit

theorem dig_len {n : Int} (h0 : 0 ≤ n) (h : n ≤ 99) : (digits n).length ≤ 3 := (digits_ok (n := n) h0 (by omega)).2.1

section
variable {B : Nat} {ea : Nat → Addr} {S S2 : Nat → Prop} {w wr w' w1 : World} {ge g2 : Nat} {e e1 e2 : Eng} {m m2 : Nat} {v : Value} {l : List Int} {p : Policy}

theorem LoopE.of_load {x : Ending} (hk : Kept (fun b => w.heap.size ≤ b) w w1) (h : OutKL w1 p x w') : ∃ ge S, x = .returned (.pointer (some ⟨ge, 0, none⟩)) ∧ LoopE w w' S ge (Eng.new p) 0 ∧ Kept (fun b => w1.heap.size ≤ b) w1 w' ∧ ∀ b, S b → w1.heap.size ≤ b := by
  obtain ⟨ge, rfl, hk2, hE⟩ := h
  have h := LoopE.start (p := p) (hk.trans (hk2.mono (fun b hb => Nat.le_trans hk.size hb))) (hE.mono (fun b hb => ⟨Nat.le_trans hk.size hb.1, hb.2⟩))
  exact ⟨ge, _, rfl, ⟨h.kept, hE, fun b hb => ⟨Nat.le_trans hk.size hb.1, hb.2⟩, h.cnt⟩, hk2, fun b hb => hb.1⟩
theorem LoopE.mine (h : LoopE w wr S ge e m) : S ge := h.eng.mine
theorem LoopE.ge_lo (h : LoopE w wr S ge e m) : w.heap.size ≤ ge := (h.lo _ h.mine).1
/-- Another engine has turned. -/
theorem LoopE.beside (h : LoopE w wr S ge e m) (hk : Kept (fun b => b = g2 ∨ wr.heap.size ≤ b) wr w') (hn : ¬ S g2) (hg : w.heap.size ≤ g2) : LoopE w w' S ge e m :=
  ⟨h.kept.trans (hk.mono (fun b hb => hb.elim (fun e => e ▸ hg) (fun h2 => Nat.le_trans h.kept.size h2))), h.eng.kept hk (fun b hb hl h2 => h2.elim (fun e => hn (e ▸ hb)) (fun h3 => by omega)), fun b hb => ⟨(h.lo b hb).1, Nat.lt_of_lt_of_le (h.lo b hb).2 hk.size⟩, h.cnt⟩
theorem OwnL.beside (h : OwnL wr S v l) (hk : Kept (fun b => b = g2 ∨ wr.heap.size ≤ b) wr w') (hn : ∀ b, v.ownBlock = some b → b ≠ g2) : OwnL w' S v l := by
  obtain ⟨N, hs⟩ := h.sl
  exact ⟨⟨N, hs.kept hk (fun b hb h2 => h2.elim (fun e => hn b hb e) (fun h3 => by have := hs.lt hb; omega))⟩, h.far⟩

/-- The engine has turned, and what is new; it goes on with blocks of its own and new ones. -/
structure Went (w wr : World) (S S' : Nat → Prop) (ge : Nat) (e1 : Eng) (m : Nat) (w' : World) : Prop where
  loop : LoopE w w' S' ge e1 m
  kept : Kept (fun b => b = ge ∨ wr.heap.size ≤ b) wr w'
  sub : ∀ b, S' b → S b ∨ wr.heap.size ≤ b
theorem Went.own {S' : Nat → Prop} (hw : Went w wr S S' ge e1 m w') (h : OwnL wr S v l) (hm : S ge) : OwnL w' S' v l := by
  obtain ⟨N, hs⟩ := h.sl
  exact ⟨⟨N, hs.kept hw.kept (fun b hb h2 => h2.elim (fun e => h.far b hb (e ▸ hm)) (fun h3 => by have := hs.lt hb; omega))⟩, fun b hb h2 => (hw.sub b h2).elim (h.far b hb) (fun h3 => by have := hs.lt hb; omega)⟩
/-- Another engine, and a list of another's. -/
theorem Went.other {S' : Nat → Prop} (hw : Went w wr S S' ge e1 m w') (h2 : LoopE w wr S2 g2 e2 m2) (hm : S ge) (hlo : w.heap.size ≤ ge) (hd : ∀ b, S b → ¬ S2 b) : LoopE w w' S2 g2 e2 m2 ∧ ∀ b, S' b → ¬ S2 b :=
  ⟨h2.beside hw.kept (hd ge hm) hlo, fun b hb hb2 => (hw.sub b hb).elim (fun h3 => hd b h3 hb2) (fun h3 => by have := (h2.lo b hb2).2; omega)⟩

def OutTL2 (w wr : World) (S : Nat → Prop) (ge : Nat) (e1 : Eng) (m : Nat) (x : Ending) (w' : World) : Prop :=
  x = .returned (.bool true) ∧ ∃ S', Went w wr S S' ge e1 m w'

theorem ltold2_any (he : Env B ea w) (ho : ErrObj B ea w) (h : LoopE w wr S ge e m) (hm : m ≤ 4000000) {key : Int} {hit : Bool} {gone l : List Int} {q : Bytes} {vo vl : Value}
    (ha : e.access key = .ok hit gone e1) (hk : e1.keys q = some l) (hvo : LR wr vo gone) (no : ∀ b, vo.ownBlock = some b → ¬ S b) (hvl : OwnL wr S vl l) (gl : l.length ≤ 1000000000) :
    Calls Tryz.prog 19 #[.pointer (some ⟨ge, 0, none⟩), .int .u64 key, .bool hit, vo, vs q, vl] wr (OutTL2 w wr S ge e1 (m + 1)) := by
  have hmine := h.eng.mine
  obtain ⟨c1, c2, c3⟩ := access_cnt h.eng.inv.1 ha
  refine (told_any (h.env he) (h.err he ho) h.eng (fun b hb => (h.lo b hb).2) hm h.cnt ha hk hvo hvl.lr (fun b hb e => no b hb (e ▸ hmine)) (fun b hb e => hvl.far b hb (e ▸ hmine)) (by omega) gl).mono ?_
  rintro x w' ⟨rfl, hkk, S', hE, hS'⟩
  exact ⟨rfl, S', ⟨h.kept.trans (hkk.mono (fun b hb => hb.elim (fun e => e ▸ (h.lo _ hmine).1) (fun h2 => Nat.le_trans h.kept.size h2))), hE, fun b hb => ⟨(hS' b hb).1.elim (fun h2 => (h.lo b h2).1) (fun h2 => Nat.le_trans h.kept.size h2), (hS' b hb).2⟩, by rw [c1]; exact h.cnt.up hit c2⟩, hkk, fun b hb => (hS' b hb).1⟩

/-- A key has been asked for. -/
def OutLA (w wr : World) (S : Nat → Prop) (ge : Nat) (hit : Bool) (gone : List Int) (e1 : Eng) (m : Nat) (x : Ending) (w' : World) : Prop :=
  ∃ v, x = .returned (.tuple #[.bool hit, v, .int .i64 0]) ∧ ∃ S', Went w wr S S' ge e1 m w' ∧ OwnL w' S' v gone

theorem lacc_any (he : Env B ea w) (ho : ErrObj B ea w) (h : LoopE w wr S ge e m) (hm : m ≤ 4000000) {key : Int} {hit : Bool} {gone : List Int} (ha : e.access key = .ok hit gone e1) :
    Calls Tryz.prog 20 #[.pointer (some ⟨ge, 0, none⟩), .int .u64 key] wr (OutLA w wr S ge hit gone e1 (m + 1)) := by
  have hmine := h.eng.mine
  obtain ⟨c1, c2, c3⟩ := access_cnt h.eng.inv.1 ha
  have hacc := eaccess_any (h.env he) (h.err he ho) h.eng (fun b hb => (h.lo b hb).2) hm h.cnt key
  rw [ha] at hacc
  refine hacc.mono ?_
  rintro x w' ⟨hkk, v, rfl, hs, hE⟩
  refine ⟨v, rfl, _, ⟨⟨h.kept.trans (hkk.mono (fun b hb => hb.elim (fun e => e ▸ (h.lo _ hmine).1) (fun h2 => Nat.le_trans h.kept.size h2))), hE.shrink, fun b hb => ⟨hb.1.1.elim (fun h2 => (h.lo b h2).1) (fun h2 => Nat.le_trans h.kept.size h2), hb.2⟩, by rw [c1]; exact h.cnt.up hit c2⟩, hkk, fun b hb => hb.1.1⟩, ⟨⟨_, hs⟩, fun b hb h2 => h2.1.2 hb⟩⟩

/-- An error: nothing has turned. -/
def OutLE (w wr : World) (S : Nat → Prop) (ge : Nat) (k : Nat) (e : Eng) (m : Nat) (x : Ending) (w' : World) : Prop :=
  x = .returned (.tuple #[.bool false, .slice none 0 0, .int .i64 k]) ∧ ∃ S', Went w wr S S' ge e m w'

theorem lerr_any (he : Env B ea w) (ho : ErrObj B ea w) (h : LoopE w wr S ge e m) (hm : m ≤ 4000000) {key : Int} {k : Nat} (ha : e.access key = .err k) :
    Calls Tryz.prog 20 #[.pointer (some ⟨ge, 0, none⟩), .int .u64 key] wr (OutLE w wr S ge k e m) := by
  have hmine := h.eng.mine
  have hacc := eaccess_any (h.env he) (h.err he ho) h.eng (fun b hb => (h.lo b hb).2) hm h.cnt key
  rw [ha] at hacc
  refine hacc.mono ?_
  rintro x w' ⟨hkk, rfl, hE⟩
  exact ⟨rfl, S, ⟨h.kept.trans (hkk.mono (fun b hb => hb.elim (fun e => e ▸ (h.lo _ hmine).1) (fun h2 => Nat.le_trans h.kept.size h2))), hE, fun b hb => ⟨(h.lo b hb).1, Nat.lt_of_lt_of_le (h.lo b hb).2 hkk.size⟩, h.cnt⟩, hkk, fun b hb => .inl hb⟩

/-- The keys of a queue are handed out. -/
def OutLK (wr : World) (l : List Int) (x : Ending) (w' : World) : Prop :=
  ∃ v, x = .returned (.tuple #[v, .int .i64 0]) ∧ Kept (fun b => wr.heap.size ≤ b) wr w' ∧ Sl (fun b => wr.heap.size ≤ b) w' 27 1 v l.length (l.map encU)

theorem lkeys_any (h : LoopE w wr S ge e m) {q : Bytes} (hk : e.keys q = some l) : Calls Tryz.prog 21 #[.pointer (some ⟨ge, 0, none⟩), vs q] wr (OutLK wr l) := by
  have hkeys := ekeys_any h.eng q
  rw [hk] at hkeys
  refine hkeys.mono ?_
  rintro x w' ⟨h1, v, rfl, h2⟩
  exact ⟨v, rfl, h1, h2⟩
end
end Go.Proofs.YtemppijblfflgaaGreatDoor.Ev
